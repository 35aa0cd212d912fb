/-
  math/bits.TrailingZeros64, over its table; sets of places as numbers.
  Relations of places: arrays of 33 sets; pats.relation's methods.
  Relations of places, on: identity, or, power.
  pats.relation.power.
-/
import Derived.Lib.TrailingZeros
import Derived.Laws.Bits64b
import Derived.Test.YtlgliddhideflaaGreatDoorG02
set_option linter.all false
set_option maxRecDepth 100000
set_option maxHeartbeats 4000000
namespace Go.Proofs.YtlgliddhideflaaGreatDoor
open Go.RowKit
def B7 (w:World):Prop:=3<w.heap.size∧∀j,j<64->w.cell? ⟨3,j,none⟩=some (.int .u8 (Lib.deBruijn64tab.getD j 0))
theorem B7.below {w w':World}(h:B7 w){B:Nat}(hb:Below B w w')(hB:w.heap.size<=B):B7 w':=
 ⟨Nat.lt_of_lt_of_le h.1 hb.size,fun j hj=>(hb.cell (p:=⟨_,j,none⟩) (Nat.lt_of_lt_of_le h.1 hB)).trans (h.2 j hj)⟩
theorem B7.keep {S:Nat->Prop}{w w':World}(h:B7 w)(hk:Ae S w w')(hS:¬S 3):B7 w':=
 ⟨Nat.lt_of_lt_of_le h.1 hk.size,fun j hj=>(World.cell?_of_block (hk.block _ h.1 hS)).trans (h.2 j hj)⟩
theorem Acc (x k idx:Nat)(w:World)(hx0:((x:Int)==0)=false)
  (key:IntKind.u64.wrap (bits BinOp.and IntKind.u64 (x:Int) (IntKind.u64.wrap (-(x:Int)))*285870213051353865)/288230376151711744=(idx:Int))
  (hi:idx<64) (hk:k<64) (hcell:w.cell? ⟨3,idx,none⟩=some (.int .u8 k)):
  Calls Tryz.prog 310 #[.int .u64 x] w fun e w'=>e= .returned (.int .i64 k)/\w=w':=by
 go_enter Tryz.func310,Tryz.ntmps310;go_wp2_with(simp only[key]);go_ret;exact⟨rfl,rfl⟩
theorem Adt (x a:Nat)(hx:x<18446744073709551616)(hx0:x≠0)(hlow:x &&& (18446744073709551616-x)=a):
  IntKind.u64.wrap (bits BinOp.and IntKind.u64 (x:Int) (IntKind.u64.wrap (-(x:Int)))*285870213051353865)/288230376151711744=((a*285870213051353865%18446744073709551616/288230376151711744:Nat):Int):=by
 have e1:IntKind.u64.wrap (-(x:Int))=((18446744073709551616-x:Nat):Int):=by rw[IntKind.wrap_u64];omega
 rw[e1,u64_and_nat x _ hx (by omega),hlow,IntKind.wrap_u64];omega
def ctz (x:Nat):Nat:=Lib.ctz 64 x
def Cl (s:Nat):Prop:=s<8589934592
theorem Ag0 (x:Nat)(w:World)(h0:x≠0)(hx:Cl x)(hT:B7 w):
  Calls Tryz.prog 310 #[.int .u64 x] w fun e w'=>e= .returned (.int .i64 (ctz x))/\w=w':=by
 unfold Cl at hx;obtain⟨a1,hk⟩:=Lib.lowest_bit 64 x h0 (by omega);obtain⟨hi,a2⟩:=Lib.deBruijn64_at _ hk;have a0:=hT.2 _ hi;rw[a2]at a0;exact Acc x _ _ w (by simp;omega) (Adt x _ (by omega) h0 a1) hi hk a0
end Go.Proofs.YtlgliddhideflaaGreatDoor
namespace Go.Proofs.YtlgliddhideflaaGreatDoor
open Go.RowKit
attribute [local go_sem] Oper.semAt_some
def Dm (r:List Nat):Array Value:=(r.map fun(s:Nat)=>Value.int .u64 (s:Int)).toArray
def Bm (w:World)(b:Nat)(r:List Nat):Prop:=w.heap[b]? =some (.cells (Dm r) 306 (0,0))/\r.length=33
def Bn:List Nat:=List.replicate 33 0
theorem Bm.get {w:World}{b k s:Nat}{r:List Nat}(h:Bm w b r)(hk:r[k]? =some s):w.cell? ⟨b,k,none⟩=some (.int .u64 (s:Int)):=by
 rw[cell_of_row w b k _ _ _ h.1];simp[Dm,hk]
theorem Bm.below {w w':World}{b:Nat}{r:List Nat}(h:Bm w b r){B:Nat}(hb:Below B w w')(hB:w.heap.size<=B):Bm w' b r:=
 ⟨(hb.block b (Nat.lt_of_lt_of_le (Array.getElem?_eq_some_iff.1 h.1).1 hB)).trans h.1,h.2⟩
theorem Bm.lt {w:World}{b:Nat}{r:List Nat}(h:Bm w b r):b<w.heap.size:=(Array.getElem?_eq_some_iff.1 h.1).1
def G:List Nat->Nat->Nat
 |[],_=>0
 |v::ys,s=>(if s%2=1 then v else 0) ||| G ys (s/2)
def Cz (x y:List Nat):List Nat:=x.map (G y)
theorem V7:∀y,G y 0=0
 |[]=>rfl
 |_::ys=>by simp[G,V7 ys]
theorem Aa9:∀(y:List Nat) (k m:Nat),k<y.length->G y (2^k*(2*m+1))=y.getD k 0 ||| G y (2^k*(2*m+1)-2^k)
 |[],_,_,h=>by simp at h
 |v::ys,0,m,_=>by
  simp only[G,Nat.pow_zero,Nat.one_mul,List.getD_cons_zero,Nat.add_sub_cancel];rw[if_pos (by omega),if_neg (by omega),show(2*m+1)/2=m by omega,show 2*m/2=m by omega,Nat.zero_or]
 |v::ys,k+1,m,h=>by
  have ih:=Aa9 ys k m (by simpa using h);have e:2^(k+1)*(2*m+1)=2*(2^k*(2*m+1)):=by rw[Nat.pow_succ];simp only[Nat.mul_assoc,Nat.mul_comm,Nat.mul_left_comm]
  have e':2^(k+1)*(2*m+1)-2^(k+1)=2*(2^k*(2*m+1)-2^k):=by rw[e,Nat.pow_succ,Nat.mul_sub];simp only[Nat.mul_comm]
  simp only[G,List.getD_cons_succ];rw[e',e,if_neg (by omega),if_neg (by omega),Nat.mul_div_cancel_left _ (by decide),Nat.mul_div_cancel_left _ (by decide),Nat.zero_or,Nat.zero_or,ih]
def clr (s:Nat):Nat:=s-2^ctz s
theorem Lw (s:Nat)(h0:s≠0)(hs:Cl s):∃m,s=2^ctz s*(2*m+1)/\ctz s<33:=by
 unfold Cl at hs;obtain⟨m,hm,hk⟩:=Lib.ctzFrom_spec 64 s (by omega) (by omega);have e:ctz s=Lib.ctzFrom 64 s:=by simp[ctz,Lib.ctz,h0]
 rw[←e]at hm hk;refine⟨m,hm, ?_⟩;rcases Nat.lt_or_ge (ctz s) 33 with h|h
 ·exact h
 ·have h1:2^33<=2^ctz s:=Nat.pow_le_pow_right (by decide) h;have h2:2^ctz s<=2^ctz s*(2*m+1):=Nat.le_mul_of_pos_right _ (by omega);rw[←hm]at h2;have h3:(2:Nat)^33=8589934592:=by decide
  omega
theorem Ad6 (s:Nat)(h0:s≠0)(hs:Cl s):ctz s<33:=by obtain⟨_,_,h⟩:=Lw s h0 hs;exact h
theorem Ad7 (s:Nat)(h0:s≠0):clr s<s:=by have:=Nat.two_pow_pos (ctz s);unfold clr;omega
theorem Yh (s:Nat)(hs:Cl s):Cl (clr s):=by have:=Nat.sub_le s (2^ctz s);unfold Cl clr at*;omega
theorem Agi (y:List Nat)(hy:y.length=33)(s:Nat)(h0:s≠0)(hs:Cl s):G y s=y.getD (ctz s) 0 ||| G y (clr s):=by
 obtain⟨m,hm,hk⟩:=Lw s h0 hs;have h:=Aa9 y (ctz s) m (by omega);rw[←hm]at h;exact h
theorem Aba (s:Nat)(h0:s≠0)(hs:Cl s):bits BinOp.andNot IntKind.u64 (s:Int) (IntKind.u64.wrap (2^min (ctz s) 64))=((clr s:Nat):Int):=by
 obtain⟨m,hm,hk⟩:=Lw s h0 hs;have a1:min (ctz s) 64=ctz s:=by omega
 have hp:2^ctz s<=2^33:=Nat.pow_le_pow_right (by decide) (by omega);have a3:(2:Nat)^33=8589934592:=by decide
 have hw:IntKind.u64.wrap ((2:Int)^ctz s)=((2^ctz s:Nat):Int):=by
  rw[IntKind.wrap_u64]
  have:((2:Int)^ctz s)=((2^ctz s:Nat):Int):=by simp
  rw[this];generalize 2^ctz s=q at*;omega
 unfold Cl at hs;rw[a1,hw,u64_andNot_nat s _ (by omega) (by omega)];congr 1;generalize hj:ctz s=j at*;have a5:2^j<2^64:=Nat.pow_lt_pow_right (by decide) (by omega)
 have a0:clr s=2^(j+1)*m:=by
  unfold clr;rw[hj];conv=>lhs;rw[hm]
  rw[Nat.pow_succ,Nat.mul_add,Nat.mul_one,Nat.add_sub_cancel,Nat.mul_assoc]
 apply Nat.eq_of_testBit_eq;intro i;rw[show 18446744073709551615-2^j=2^64-(2^j+1)by rw[show(2:Nat)^64=18446744073709551616 by decide];omega];rw[Nat.testBit_and,Nat.testBit_two_pow_sub_succ a5,Nat.testBit_two_pow,a0,Nat.testBit_two_pow_mul]
 have a2:s.testBit i=(decide (j<=i) && (2*m+1).testBit (i-j)):=by
  conv=>lhs;rw[hm,Nat.testBit_two_pow_mul]
 rw[a2];by_cases h1:i<j
 ·have:¬j<=i:=by omega
  have h2:¬j+1<=i:=by omega
  simp[this,h2]
 ·by_cases h2:i=j
  ·subst h2;simp only[Nat.lt_irrefl,decide_true,Bool.not_true,Bool.and_false,ge_iff_le];simp;omega
  ·have e:i-j=(i-(j+1))+1:=by omega
   have h3:j<=i:=by omega
   have h4:j+1<=i:=by omega
   have h5:¬j=i:=by omega
   rw[e,Nat.testBit_succ,show(2*m+1)/2=m by omega];simp only[h3,h4,h5,decide_true,decide_false,Bool.true_and,Bool.not_false,Bool.and_true];by_cases h6:i<64
   ·simp[h6]
   ·have:m.testBit (i-(j+1))=false:=by
     apply Nat.testBit_lt_two_pow
     have h7:m<2^(33-(j+1)):=by
      have h8:2^(j+1)*m<=clr s:=by rw[a0];exact rr
      have h9:clr s<2^33:=by rw[a3];have:=Nat.sub_le s (2^ctz s);unfold clr;omega
      have a4:2^33=2^(j+1)*2^(33-(j+1)):=by rw[←Nat.pow_add];congr 1;omega
      rw[a4]at h9;exact Nat.lt_of_mul_lt_mul_left (Nat.lt_of_le_of_lt h8 h9)
     exact Nat.lt_of_lt_of_le h7 (Nat.pow_le_pow_right (by decide) (by omega))
    simp[this]
theorem Re (m l bs s0:Nat)(hm:1<=m)(J Jx:Nat->World->Prop)(W:World)
  (hst:∀s v W,J s W->J s (W.setCell ⟨bs,0,none⟩ v)) (hdr:∀s W,J s W->J s W.drew) (hT:∀s W,J s W->B7 W)
  (hy:∀s W,s≠0->Cl s->J s W->YieldAt Fence.wide (m-1) Tryz.prog l #[.int .i64 (ctz s)] W (fun e W'=>
   (e= .returned (.bool true)/\J (clr s) W'/\W'.heap[bs]? =W.heap[bs]?)\/(e= .returned (.bool false)/\Jx (clr s) W')))
  (h0:J s0 W) (hb:W.heap[bs]? =some (.cells #[.int .u64 (s0:Int)] 304 (0,0))) (hs:Cl s0):
  CallsIn Fence.wide m Tryz.prog 309 #[.func (.yield l) #[] #[], .pointer (some ⟨bs,0,none⟩)] W fun e W'=>(∃v,e= .returned v)/\(J 0 W'∨∃s,Jx s W'):=by
 have a5:=hI hst;clear hst;have b1:=hI hdr;clear hdr;have HT:=hI hT;clear hT;have Hy:=hI hy;clear hy;have H0:=hI h0;clear h0;have HB:=hI hb;clear hb;have HS:=hI hs;clear hs;refine callsIn_of_wp Tryz.func309 rfl trivial ?_;simp only[Tryz.ntmps309,List.size_toArray,List.length_cons,List.length_nil,Nat.reduceAdd,Nat.reduceSub,Array.replicate_succ,Array.replicate_zero,List.push_toArray,List.append_toArray,List.nil_append,List.cons_append];gi_wp2
 gi_loopw [3] (fun _ wr=>∃s:Nat,Hid (Cl s)/\Hid (wr.heap[bs]? =some (.cells #[.int .u64 (s:Int)] 304 (0,0)))/\Hid (J s wr))
  (fun _ wr=>match wr.cell? ⟨bs,0,none⟩with|some (.int _ q)=>q.toNat|_=>0)
 case atStart=>exact⟨s0,HS,HB,H0⟩
 case round=>
  obtain⟨s,hs,hb,hj⟩:=hrel;have hc:=cell_of_one hb.out;have hf:=free_of_one hb.out;by_cases h0:s=0
  ·subst h0;gi_wp2
   go_end0
   exact⟨⟨_,rfl⟩, .inl hj.out⟩
  ·have b4:((s:Int) !=0)=true:=by simp;exact h0
   have a0:=hI h0;clear h0
   gi_wp2_with (refine⟨trivial, ?_⟩;gi_at_call 310;refine(callsIn_wide.2 (Ag0 s _ a0.out hs.out (HT.out s _ hj.out))).mono ?_;rintro e w1 ⟨rfl,rfl⟩)
   have hv:=Aba s a0.out hs.out
   gi_region
   clear hv hc hf;have a7:=b1.out _ _ (a5.out s (.int .u64 (clr s:Int)) _ hj.out);obtain⟨fn,tmps,assign,body,b3,hR⟩:=Hy.out s _ a0.out hs.out a7;have HR:=hI hR;clear hR;gi_wp2;refine HR.out.mono ?_;have a2:=one_setCell (u:= .int .u64 (clr s:Int)) hb.out;rintro e W3 (⟨rfl,a3,a1⟩|⟨rfl,a8⟩)
   ·have a9:=hI a3;clear a3;have a4:=hI (a1.trans a2);clear a1 a2;have b0:=Ad7 s a0.out;have a6:=cell_of_one a4.out;have b2:=cell_of_one hb.out;gi_wp2
    go_roundw
    case rel=>exact⟨clr s,Yh s hs.out,a4,a9⟩
    case measure=>rw[a6,b2];simp only[Int.toNat_natCast];exact b0
   ·gi_wp2;refine bodyPost_ret (results_none rfl _ _ _) rfl ?_;exact⟨⟨_,rfl⟩, .inr ⟨_,a8⟩⟩
theorem Adj (s:Nat)(w:World):
  Calls Tryz.prog 303 #[.int .u64 (s:Int)] w fun e w'=>e= .returned (.func (.func 309) #[] #[.pointer (some ⟨w.heap.size,0,none⟩)])/\w.alloc (.cells #[.int .u64 (s:Int)] 304)=w':=by
 go_enter Tryz.func303,Tryz.ntmps303;go_wp2;go_ret;exact⟨rfl,rfl⟩
theorem Bm.putObj {w:World}{b l:Nat}{o:Obj}{r:List Nat}(h:Bm w b r)(hl:b≠l):Bm (w.putObj l o) b r:=⟨(World.putObj_heap_other hl).trans h.1,h.2⟩
theorem Bm.keep {S:Nat->Prop}{w w':World}{b:Nat}{r:List Nat}(h:Bm w b r)(hk:Ae S w w')(hb:¬S b):Bm w' b r:=⟨(hk.block b h.lt hb).trans h.1,h.2⟩
theorem Bm.set {w:World}{b k s:Nat}{r:List Nat}(h:Bm w b r):Bm (w.setCell ⟨b,k,none⟩ (.int .u64 (s:Int))) b (r.set k s):=by
 refine⟨?_,by rw[List.length_set];exact h.2⟩;have hb:=h.1;simp only[World.setCell,Array.getElem?_modify,hb];simp[Dm]
theorem Bm.frozen {w:World}{b:Nat}{r:List Nat}(h:Bm w b r)(k:Nat):w.frozen? ⟨b,k,none⟩=false:=by
 simp[World.frozen?,h.1]
theorem Pi {a b:Nat}(ha:Cl a)(hb:Cl b):Cl (a ||| b):=by
 unfold Cl at*;rw[show 8589934592=2^33 by decide]at*;exact Nat.or_lt_two_pow ha hb
theorem Wy (a b:Nat)(ha:Cl a)(hb:Cl b):bits BinOp.or IntKind.u64 (a:Int) (b:Int)=((a ||| b:Nat):Int):=by
 unfold Cl at*;exact u64_or_nat a b (by omega) (by omega)
theorem E7:Cl 0:=by unfold Cl;omega
theorem Wz:∀(y:List Nat) (s:Nat),(∀v∈y,Cl v)->Cl (G y s)
 |[],_,_=>E7
 |v::ys,s,h=>by
  refine Pi ?_ (Wz ys _ fun u hu=>h u (List.mem_cons_of_mem _ hu));split
  ·exact h v (List.mem_cons_self ..)
  ·exact E7
theorem Mh (bx by_:Nat)(x y:List Nat)(w:World)(hx:Bm w bx x)(hy:Bm w by_ y)(hT:B7 w)(hs:∀s∈x,Cl s)(hsy:∀s∈y,Cl s):
  Calls Tryz.prog 334 #[.pointer (some ⟨bx,0,none⟩), .pointer (some ⟨by_,0,none⟩)] w fun e w'=>e= .returned (.agg (Dm (Cz x y)))/\Below w.heap.size w w':=by
 have HX:=hI hx;clear hx;have HY:=hI hy;clear hy;have HT:=hI hT;clear hT;have HS:=hI hs;clear hs;have d7:=hI hsy;clear hsy;refine(callsIn_wide (n:=9)).1 (callsIn_of_wp_marks Tryz.func334 rfl trivial ?_ rfl);simp only[Tryz.ntmps334,List.size_toArray,List.length_cons,List.length_nil,Nat.reduceAdd,Nat.reduceSub,Array.replicate_succ,Array.replicate_zero,List.push_toArray,List.append_toArray,List.nil_append,List.cons_append];gi_wp2
 refine wpIn_loop (fun a' wr=>∃(k:Nat) (r:List Nat) (ds:List Deferred) (u6 u7 u8 u11 u12 u13 u14 u15 u16 u17 u18 u19 u20 u21 u22 u23 u24 u25 u26 u27 u28 u29:Value),
   a'={tmps:= #[.pointer (some ⟨bx,0,none⟩), .pointer (some ⟨by_,0,none⟩),undef, .pointer (some ⟨w.heap.size,0,none⟩), .pointer (some ⟨w.heap.size+1,0,none⟩), .pointer (some ⟨w.heap.size+1+1,0,none⟩),u6,u7,u8, .pointer (some ⟨bx,0,none⟩), .int .i64 k,u11,u12,u13,u14,u15,u16,u17,u18,u19,u20,u21,u22,u23,u24,u25,u26,u27,u28,u29,undef],defers:=ds}∧
   k<=33/\Cm w.heap.size wr ds/\Bm wr (w.heap.size+1+1) r/\r=(x.take k).map (G y)++List.replicate (33-k) 0∧
   wr.heap[w.heap.size]? =some (.cells #[.pointer (some ⟨by_,0,none⟩)] 344 (0,0))/\wr.heap[w.heap.size+1]? =some (.cells (Dm Bn) 306 (0,0))/\Below w.heap.size w wr)
  (fun a' _=>33-(intOf (a'.tmps.getD 10 undef)).toNat) ?start ?round
 case start=>
  exact⟨0,Bn,[],_,_,_,_,_,_,_,_,_,_,_,_,_,_,_,_,_,_,_,_,_,_,rfl,by omega,trivial,⟨hpt,rfl⟩,rfl,hpt,hpt,bel⟩
 case round=>
  rintro _ wr ⟨k,r,ds,u6,u7,u8,u11,u12,u13,u14,u15,u16,u17,u18,u19,u20,u21,u22,u23,u24,u25,u26,u27,u28,u29,rfl,hk,hM,hr,f5,d3,b6,hB⟩;have HM:=hI hM;clear hM;have HR:=hI hr;clear hr;have b5:=hI f5;clear f5;have f7:=hI d3;clear d3;have a7:=hI b6;clear b6;have f3:=HX.out.2;by_cases hlt:k<33
  ·obtain⟨s,b3⟩:∃s,x[k]? =some s:=⟨x[k],List.getElem?_eq_getElem (by omega)⟩;have j3:wr.cell? ⟨bx,k,none⟩=some (.int .u64 (s:Int)):=(HX.out.below hB rr).get b3;have j7:bx<wr.heap.size:=(HX.out.below hB rr).lt;have d0:=hI b3;clear b3;have f1:=hI f3;clear f3;gi_wp2
   gi_region
   gi_wp2_with (refine⟨trivial, ?_⟩;gi_at_call 303;refine(callsIn_wide.2 (Adj _ _)).mono ?_;rintro e w1 ⟨rfl,rfl⟩)
   have a3:(((wr.alloc (.cells #[.int .i64 (k:Int)] 3)).alloc (.cells #[.int .u64 (s:Int)] 304)).drew).heap.size=wr.heap.size+1+1:=by simp
   have i3:(((wr.alloc (.cells #[.int .i64 (k:Int)] 3)).alloc (.cells #[.int .u64 (s:Int)] 304)).drew).heap[wr.heap.size]? =some (.cells #[.int .i64 (k:Int)] 3 (0,0)):=hpt;have i5:(((wr.alloc (.cells #[.int .i64 (k:Int)] 3)).alloc (.cells #[.int .u64 (s:Int)] 304)).drew).heap[wr.heap.size+1]? =some (.cells #[.int .u64 (s:Int)] 304 (0,0)):=hpt;have a0:Ae (fun _=>False) wr (((wr.alloc (.cells #[.int .i64 (k:Int)] 3)).alloc (.cells #[.int .u64 (s:Int)] 304)).drew):=(((Ae.refl _ _).alloc _).alloc _).drew;generalize(((wr.alloc (.cells #[.int .i64 (k:Int)] 3)).alloc (.cells #[.int .u64 (s:Int)] 304)).drew)=W0 at*;refine Cv (gf:=309) (lb:= #[.pointer (some ⟨wr.heap.size+1,0,none⟩)]) rfl (enters_of Tryz.func309 (by kernel_rfl) rfl) fun fn D l rc W1 hrc hD hl hK1 hD1 hl1 d1=> ?_
   have j9:wr.heap.size+1+1<l:=by omega
   have g1:wr.heap.size+1<W0.heap.size:=by omega
   have j4:wr.heap.size+1<D:=by omega
   have j5:D<l:=by omega
   have j6:l<W1.heap.size:=by omega
   have i8:=hI hrc;clear hrc;have HE:=hI (And.intro hD (And.intro hl (And.intro d1 a3)));clear hD hl d1 a3;have a2:Bm W1 (w.heap.size+1+1) r:=(HR.out.keep a0 (by simp)).keep hK1 (by simp);have j8:=a2.lt;have b6:w.heap.size+1+1<wr.heap.size:=HR.out.lt;have g4:W1.heap[wr.heap.size+1]? =some (.cells #[.int .u64 (s:Int)] 304 (0,0)):=(hK1.block _ (by omega) (by simp)).trans i5
   refine(Re (9-1) l (wr.heap.size+1) s (by omega)
    (fun s' W=>∃o,Bm W (w.heap.size+1+1) (r.set k o)/\Cl o/\o ||| G y s'=G y s/\Ae (fun j=>j=w.heap.size+1+1\/j=wr.heap.size+1\/j=l) W1 W/\W.heap[l]? =some (.loop (rc .ready none)))
    (fun _ _=>False) W1 ?st ?dr ?tab ?yield ?zero g4 (HS.out s (List.mem_of_getElem? d0.out))).mono ?_
   case st=>
    rintro s' v W ⟨o,h1,h2,h3,h4,h5⟩;refine⟨o,⟨(Below.heap_setCell _ _ _ _ (by simp;omega)).trans h1.1,h1.2⟩,h2,h3,h4.setCell (by simp) _,(Below.heap_setCell _ _ _ _ (by simp;omega)).trans h5⟩
   case dr=>
    rintro s' W ⟨o,h1,h2,h3,h4,h5⟩;exact⟨o,h1,h2,h3,h4.drew,h5⟩
   case tab=>
    rintro s' W ⟨o,h1,h2,h3,h4,h5⟩;have hg:=HT.out.1;exact(((HT.out.below hB rr).keep a0 (by simp)).keep hK1 (by simp)).keep h4 (by omega)
   case zero=>
    refine⟨0, ?_,E7,by simp,Ae.refl _ _,hl1⟩
    have i6:r.set k 0=r:=by
     have b9:((x.take k).map (G y)).length=k:=by rw[List.length_map,List.length_take,f1.out];omega
     rw[b5.out,show 33-k=(33-(k+1))+1 by omega,List.replicate_succ,List.set_append,if_neg (by omega),b9,Nat.sub_self,List.set_cons_zero]
    rw[i6];exact a2
   case yield=>
    rintro s' W g0 f8 ⟨o,h1,h2,h3,h4,h5⟩;refine Cw i8.out h5 rfl ?_;have j2:ctz s'<33:=Ad6 s' g0 f8;have H5:=hI h5;clear h5;have H3:=hI h3;clear h3;have H1:=hI h1;clear h1;have H4:=hI h4;clear h4;have H2:=hI h2;clear h2;gi_wp2;refine⟨H5.out, ?_⟩;have i1:l<W.heap.size:=(Array.getElem?_eq_some_iff.1 H5.out).1;have d9:(W.putObj l (.loop (rc .busy none))).heap[l]? =some (.loop (rc .busy none)):=World.putObj_heap_same i1;have a4:Ae (fun j=>j=w.heap.size+1+1\/j=wr.heap.size+1\/j=l) W1 (W.putObj l (.loop (rc .busy none))):=H4.out.putObj (by simp) _;have a5:Bm (W.putObj l (.loop (rc .busy none))) (w.heap.size+1+1) (r.set k o):=H1.out.putObj (by omega);have f2:(W.putObj l (.loop (rc .busy none))).heap[wr.heap.size+1]? =W.heap[wr.heap.size+1]? :=World.putObj_heap_other (by omega);generalize W.putObj l (.loop (rc .busy none))=V at*;have d5:V.heap[wr.heap.size]? =some (.cells #[.int .i64 (k:Int)] 3 (0,0)):=(a4.block _ (by omega) (by omega)).trans ((hK1.block _ (by omega) (by simp)).trans i3)
    have f4:V.heap[w.heap.size]? =some (.cells #[.pointer (some ⟨by_,0,none⟩)] 344 (0,0)):=
     (a4.block _ (by omega) (by omega)).trans ((hK1.block _ (by omega) (by simp)).trans ((a0.block _ (by omega) (by simp)).trans f7.out))
    have b0:Bm wr by_ y:=HY.out.below hB rr;have i0:by_<w.heap.size:=HY.out.lt;have b7:Bm V by_ y:=((b0.keep a0 (by simp)).keep hK1 (by simp)).keep a4 (by omega);obtain⟨yv,a8⟩:∃yv,y[ctz s']? =some yv:=⟨y[ctz s']'(by have:=b0.2;omega),List.getElem?_eq_getElem _⟩;have f0:(r.set k o)[k]? =some o:=by rw[List.getElem?_set_self (by have:=a5.2;rw[List.length_set]at this;omega)]
    have c1:=cell_of_one d5;have c2:=cell_of_one f4;have c3:=b7.get a8;have c4:=a5.get f0;have c5:=a5.frozen k;have k0:=Wy o yv H2.out (d7.out yv (List.mem_of_getElem? a8));have f9:=hI a8;clear a8;clear d5 f4 b0 i0 f0;have g9:=hI b7;clear b7;have g6:=hI a5;clear a5;have g5:=hI a4;clear a4;have i2:=hI d9;clear d9;have g7:=hI f2;clear f2;gi_wp2;refine Ep (fun W'=>W'.cell? ⟨wr.heap.size,0,none⟩=some (.int .i64 (k:Int))/\W'.cell? ⟨w.heap.size,0,none⟩=some (.pointer (some ⟨by_,0,none⟩))/\W'.cell? ⟨by_,ctz s',none⟩=some (.int .u64 (yv:Int))/\W'.cell? ⟨w.heap.size+1+1,k,none⟩=some (.int .u64 (o:Int))) (by kernel_rfl) (by kernel_rfl) (fun _ _ h=>by exact h) ⟨c1,c2,c3,c4⟩ (fun hHeld=> ?_);have i7:((ctz s':Nat):Int)<33:=by omega
    (refine' Aa 0 rfl ?_;(try simp only[Act.put,nY,nX]));(refine' Aa 1 rfl ?_;(try simp only[Act.put,nY,nX]));(refine' Aa 2 rfl ?_;(try simp only[Act.put,nY,nX]));(refine' Aa 3 rfl ?_;(try simp only[Act.put,nY,nX]));(refine' Aa 4 rfl ?_;(try simp only[Act.put,nY,nX]));(refine' Aa 5 rfl ?_;(try simp only[Act.put,nY,nX]));(refine' Aa 6 rfl ?_;(try simp only[Act.put,nY,nX]));(refine' Aa 7 rfl ?_;(try simp only[Act.put,nY,nX]));(refine' Aa 8 rfl ?_;(try simp only[Act.put,nY,nX]));(refine' Aa 9 rfl ?_;(try simp only[Act.put,nY,nX]))
    (refine Agz 10 rfl (fun K' hK'=> ?_);simp only[nY];go_simp)
    refine hK' _ _ ⟨.inl (by kernel_rfl),fun _=>Be (by kernel_rfl) ?_ _⟩
    simp only[Exit.inBlock];have d2:(V.setCell ⟨w.heap.size+1+1,k,none⟩ (.int .u64 ((o ||| yv:Nat):Int))).drew.heap[l]? =some (.loop (rc .busy none)):=(Below.heap_setCell _ _ _ _ (by simp;omega)).trans i2.out
    have g2:Bm (V.setCell ⟨w.heap.size+1+1,k,none⟩ (.int .u64 ((o ||| yv:Nat):Int))).drew (w.heap.size+1+1) (r.set k (o ||| yv)):=by
     have:=(g6.out.set (k:=k) (s:=o ||| yv))
     rw[List.set_set]at this;exact this
    refine⟨d2,rfl,⟨o ||| yv,g2.putObj (by omega),Pi H2.out (d7.out yv (List.mem_of_getElem? f9.out)), ?_,((g5.out.setCell (by simp) _).drew).putObj (by simp) _,World.putObj_heap_same (Array.getElem?_eq_some_iff.1 d2).1⟩, ?_⟩
    ·have hg:=Agi y g9.out.2 s' g0 f8;have j1:y.getD (ctz s') 0=yv:=by rw[List.getD_eq_getElem?_getD,f9.out];rfl
     rw[j1]at hg;rw[Nat.or_assoc,←hg];exact H3.out
    ·rw[World.putObj_heap_other (by omega)];exact(Below.heap_setCell _ _ _ _ (by simp;omega)).trans g7.out
   ·rintro e W' ⟨⟨v,rfl⟩,⟨o,h1,h2,h3,h4,h5⟩|⟨s',hf⟩⟩
    ·refine .inl ⟨h5, ?_⟩;rw[V7,Nat.or_zero]at h3;have f6:Ae (fun j=>j=w.heap.size+1+1\/j=wr.heap.size+1\/j=l) W1 (W'.putObj l (.loop (rc .exhausted none))):=h4.putObj (by simp) _;have d4:Bm (W'.putObj l (.loop (rc .exhausted none))) (w.heap.size+1+1) (r.set k o):=h1.putObj (by omega);generalize W'.putObj l (.loop (rc .exhausted none))=V at*;have a1:=hI f6;clear f6;have i4:=hI d4;clear d4;have H3:=hI h3;clear h3 h4 h1 h5;gi_wp2
     have a9:∀j,j<wr.heap.size->j≠w.heap.size+1+1->V.heap[j]? =wr.heap[j]? :=fun j hj hn=>
      (a1.out.block j (by have:=hK1.size;have:=a0.size;omega) (by omega)).trans ((hK1.block j (by omega) (by simp)).trans (a0.block j hj (by simp)))
     refine⟨⟨k+1,r.set k o,D7 D::ds,⟨by omega,rfl⟩,by omega,⟨D,rfl,by omega,(a1.out.block D (by omega) (by omega)).trans hD1,fun D' hm=> ?_,HM.out.mono fun D' hm hd=> ?_⟩,i4.out, ?_,
      (a9 _ (by omega) (by omega)).trans f7.out,(a9 _ (by omega) (by omega)).trans a7.out, ?_⟩,by simp[intOf];omega⟩
     ·have:=(Array.getElem?_eq_some_iff.1 (HM.out.at_ D' hm).1).1;omega
     ·have h6:=(Array.getElem?_eq_some_iff.1 hd).1;refine(a9 D' h6 ?_).trans hd;rintro rfl;have h7:=HR.out.1;rw[hd]at h7;cases h7
     ·rw[b5.out,H3.out,←List.map_take];have j0:(x.take (k+1)).map (G y)=(x.take k).map (G y)++[G y s]:=by rw[Ba x k s d0.out,List.map_append];rfl
      have b9:((x.take k).map (G y)).length=k:=by rw[List.length_map,List.length_take,f1.out];omega
      rw[j0,show 33-k=(33-(k+1))+1 by omega,List.replicate_succ,List.set_append,if_neg (by omega),b9,Nat.sub_self];simp
     ·refine⟨?_, ?_, ?_, ?_,fun j hj=>(a9 j (by omega) (by omega)).trans (hB.block j hj)⟩
      ·exact(a1.out.os.trans (hK1.os.trans a0.os)).trans hB.os
      ·exact(a1.out.tape.trans (hK1.tape.trans a0.tape)).trans hB.tape
      ·exact(a1.out.output.trans (hK1.output.trans a0.output)).trans hB.output
      ·have:=a1.out.size;have:=hK1.size;have:=a0.size;have:=hB.size;omega
    ·exact hf.elim
  ·obtain rfl:k=33:=by omega
   have d6:r=Cz x y:=by rw[b5.out,List.take_of_length_le (by omega)];simp[Cz]
   have hsz:(Tryz.prog.info? 306).map (·.size)=some (Dm r).size:=by
    rw[show(Dm r).size=33 by simp[Dm,HR.out.2]];kernel_rfl
   have a6:(Dm Bn).size=(Dm r).size:=by simp[Dm,HR.out.2,Bn]
   have d8:(Dm r).all (·.oneCell')=true:=by simp[Dm,Array.all_eq_true];intros;rfl
   have b4:=hI hsz;clear hsz;have b8:=hI a6;clear a6;have i9:=hI d8;clear d8;have g3:=hI d6;clear d6;refine wpIn_wide.2 ?_;go_wp2;refine wpIn_wide.2 ?_
   go_wp2_with(first
    |(refine wpList_load_row rfl 306 (.tmp 5) rfl (w.heap.size+1+1) rfl 306 (Dm r) (0,0) _ HR.out.1 Tryz.underlying306 rfl b4.out ?_)
    |(refine wpList_store_row rfl 306 (.tmp 4) (.tmp 30) rfl (w.heap.size+1) (Dm r) rfl rfl 306 (Dm Bn) a7.out b4.out b8.out i9.out ?_))
   have b2:=setRow_heap wr (w.heap.size+1) _ (Dm r) 306 (0,0) a7.out;have b1:Below w.heap.size w (wr.setRow (w.heap.size+1) (Dm r)):=below_setRow hB (by omega) _
   have g8:Cm w.heap.size (wr.setRow (w.heap.size+1) (Dm r)) ds:=HM.out.mono fun D' hm hd=>by
    rw[setRow_other _ _ _ _ (by rintro rfl;rw[a7.out]at hd;cases hd)];exact hd
   refine Dd (B:=w.heap.size) g8 fun w' hw'=>⟨.agg (Dm r),results_cell_row (p:=4) Tryz.results334 _ _ (w.heap.size+1) 306 (Dm r) (0,0) _ rfl (hw'.row b2) Tryz.underlying306 rfl b4.out, ?_,b1.trans hw'.below⟩
   rw[g3.out]
end Go.Proofs.YtlgliddhideflaaGreatDoor
namespace Go.Proofs.YtlgliddhideflaaGreatDoor
open Go.RowKit
theorem Lx {r:List Nat}(h:r.length=33):(Tryz.prog.info? 306).map (·.size)=some (Dm r).size:=by
 rw[show(Dm r).size=33 by simp[Dm,h]];kernel_rfl
theorem Acx (r:List Nat):(Dm r).all (·.oneCell')=true:=by simp[Dm,Array.all_eq_true];intros;rfl
theorem Bm.alloc {w:World}{b:Nat}{r:List Nat}(h:Bm w b r)(o:Obj):Bm (w.alloc o) b r:=⟨(Below.heap_alloc _ _ _ h.lt).trans h.1,h.2⟩
theorem Bm.drew {w:World}{b:Nat}{r:List Nat}(h:Bm w b r):Bm w.drew b r:=h
theorem Bm.keep1 {w w':World}{b c:Nat}{r:List Nat}(h:Bm w b r)(hk:Ae (· =c) w w')(hb:b≠c):Bm w' b r:=h.keep hk hb
theorem Bd {w0 w w':World}{B b:Nat}(hB:Below B w0 w)(hk:Ae (· =b) w w')(hb:B<=b)(hs:B<=w.heap.size):Below B w0 w':=
 hB.trans (hk.to_below (fun k h=>by subst h;exact hb) hs)
theorem D1 {ops:Array Oper}{rest:List Oper}{o:Oper}{a:Act}{w:World}{Q:Exit->Act->World->Prop}(hgd:o.guard=none)(x:Operand)(ho:o.op= .load 306 x)
  (b:Nat) (r:List Nat) (hx:a.eval x= .pointer (some ⟨b,0,none⟩)) (hr:Bm w b r) (h:wpList Tryz.prog ops Q rest (a.put o.dst (.agg (Dm r))) w):wpList Tryz.prog ops Q (o::rest) a w:=
 wpList_load_row hgd 306 x ho b hx 306 (Dm r) (0,0) _ hr.1 Tryz.underlying306 rfl (Lx hr.2) h
theorem Bi {ops:Array Oper}{rest:List Oper}{o:Oper}{a:Act}{w:World}{Q:Exit->Act->World->Prop}(hgd:o.guard=none)(x y:Operand)(ho:o.op= .store 306 x y)
  (b:Nat) (r0 r:List Nat) (hx:a.eval x= .pointer (some ⟨b,0,none⟩)) (hy:a.eval y= .agg (Dm r)) (hr:Bm w b r0) (hl:r.length=33)
  (h:∀w',Bm w' b r->Ae (· =b) w w'->w'.heap.size=w.heap.size->wpList Tryz.prog ops Q rest (a.put o.dst undef) w'):wpList Tryz.prog ops Q (o::rest) a w:=by
 refine wpList_store_row hgd 306 x y ho b (Dm r) hx hy 306 (Dm r0) hr.1 (Lx hl) (by simp[Dm,hl,hr.2]) (Acx r) (h _ ⟨setRow_heap _ _ _ _ _ _ hr.1,hl⟩ ⟨rfl,rfl,rfl,by simp,fun k _ hk=>setRow_other _ _ _ _ hk⟩ (by simp))
theorem Dh {fn:Func}{p:Tmp}(h:fn.results= #[.cell p 306])(tmps:Array Value)(w:World)(b:Nat)(r:List Nat)(hp:tmps.getD p undef= .pointer (some ⟨b,0,none⟩))(hr:Bm w b r):
  (results fn tmps).run Tryz.prog w= .ok (.agg (Dm r)) w:=
 results_cell_row h tmps w b 306 (Dm r) (0,0) _ hp hr.1 Tryz.underlying306 rfl (Lx hr.2)
def idR (n:Nat):List Nat:=(List.range 33).map fun k=>if k<=n then 2^k else 0
def Sg (n j:Nat):List Nat:=(List.range 33).map fun k=>if k<=n/\k<j then 2^k else 0
theorem Yi (n:Nat):Sg n 0=Bn:=by
 have h:Sg n 0=(List.range 33).map fun _=>0:=List.map_congr_left fun j _=>by rw[if_neg (by omega)]
 rw[h];rfl
theorem Acy (k:Nat)(hk:k<33):IntKind.u64.wrap (2^min k 64)=((2^k:Nat):Int):=by
 have hp:2^k<=2^33:=Nat.pow_le_pow_right (by decide) (by omega);have a0:(2:Nat)^33=8589934592:=by decide
 rw[IntKind.wrap_u64,show min k 64=k by omega]
 have:((2:Int)^k)=((2^k:Nat):Int):=by simp
 rw[this];generalize 2^k=q at*;omega
theorem Pj (k:Nat)(hk:k<33):IntKind.u64.wrap (2^k)=((2^k:Nat):Int):=by
 have:=Acy k hk;rwa[show min k 64=k by omega]at this
theorem Rf (f g:Nat->Nat)(m j v:Nat)(hj:g j=v)(h:∀k,k≠j->g k=f k):((List.range m).map f).set j v=(List.range m).map g:=by
 apply List.ext_getElem?;intro i;rw[List.getElem?_set];simp only[List.getElem?_map,List.length_map,List.length_range];by_cases hi:i<m
 ·by_cases e:j=i
  ·subst e;simp[hi,hj]
  ·rw[if_neg e,List.getElem?_range hi];simp[h i (Ne.symm e)]
 ·have:(List.range m)[i]? =none:=List.getElem?_eq_none (by simp;omega)
  rw[this];by_cases e:j=i
  ·subst e;simp[hi]
  ·simp[e]
theorem Kt (n:Nat)(w:World)(hn:n<=32):
  Calls Tryz.prog 333 #[.int .i64 (n:Int)] w fun e w'=>e= .returned (.agg (Dm (idR n)))/\Below w.heap.size w w':=by
 go_enter Tryz.func333,Tryz.ntmps333;go_wp2
 go_loopw [4,7] (fun _ i wr=>∃k:Nat,k<=n+1/\i= .int .i64 k/\Hid (Bm wr (w.heap.size+1) (Sg n k))/\Hid (Bm wr w.heap.size Bn)/\Below w.heap.size w wr) (fun _ i _=>n+1-(intOf i).toNat)
 case atStart=>exact⟨0,by omega,rfl,by rw[Yi];exact⟨hpt,rfl⟩,⟨hpt,rfl⟩,bel⟩
 case round=>
  obtain⟨k,hk,rfl,hr,hz,hB⟩:=hrel;by_cases hlt:k<n+1
  ·have hs:((k:Nat):Int)<33:=by omega
   have a1:=hI (Pj k (by omega));have hf:=hr.out.frozen k;have hc:=hr.out.get (k:=k) (s:=0) (by unfold Sg;rw[List.getElem?_map,List.getElem?_range (by omega)];simp);go_wp2
   go_roundw
   case rel=>
    refine⟨k+1,by omega,by go_num, ?_, ?_,bel⟩
    ·have h1:=hr.out.set (k:=k) (s:=2^k)
     have h2:(Sg n k).set k (2^k)=Sg n (k+1):=by
      refine Rf _ _ _ _ _ ?_ ?_
      ·rw[if_pos ⟨by omega,by omega⟩]
      ·intro j hj;by_cases h3:j<=n/\j<k
       ·rw[if_pos h3,if_pos ⟨h3.1,by omega⟩]
       ·rw[if_neg h3,if_neg (by omega)]
     rw[h2]at h1;rw[a1.out];exact h1
    ·exact⟨(Below.heap_setCell _ _ _ _ (by simp)).trans hz.out.1,rfl⟩
   case measure=>simp[intOf];omega
  ·obtain rfl:k=n+1:=by omega
   have hid:Sg n (n+1)=idR n:=by unfold Sg idR;apply List.map_congr_left;intro j _;by_cases h:j<=n<;>simp[h];omega
   have HI:=hI hid;clear hid
   go_wp2_with(first
    |(refine D1 rfl (.tmp 3) rfl (w.heap.size+1) _ rfl hr.out ?_)
    |(refine Bi rfl (.tmp 2) (.tmp 15) rfl w.heap.size Bn _ rfl rfl hz.out (by simp[Sg]) ?_;intro w1 a2 a0 a3))
   exact bodyPost_ret (Dh Tryz.results333 _ _ w.heap.size _ rfl a2) rfl ⟨by rw[HI.out],hB.trans (a0.to_below (fun k h=>by subst h;omega) hB.size)⟩
def orR (x y:List Nat):List Nat:=List.zipWith (· ||| ·) x y
def Qg (x y:List Nat)(k:Nat):List Nat:=(orR x y).take k++x.drop k
theorem Yj (x y:List Nat):Qg x y 0=x:=by simp[Qg]
theorem Abb (x y:List Nat)(hx:x.length=33)(hy:y.length=33):Qg x y 33=orR x y:=by
 unfold Qg;rw[List.take_of_length_le (by simp[orR,hx,hy]),List.drop_eq_nil_of_le (by omega),List.append_nil]
theorem Abc (x y:List Nat)(k a b:Nat)(hx:x.length=33)(hy:y.length=33)(ha:x[k]? =some a)(hk:k<33):(Qg x y k)[k]? =some a:=by
 unfold Qg;have hl:((orR x y).take k).length=k:=by rw[List.length_take];unfold orR;rw[List.length_zipWith];omega
 rw[List.getElem?_append_right (by omega),hl,Nat.sub_self,List.getElem?_drop,Nat.add_zero,ha]
theorem Abd (x y:List Nat)(k a b:Nat)(hx:x.length=33)(hy:y.length=33)(ha:x[k]? =some a)(hb:y[k]? =some b)(hk:k<33):
  (Qg x y k).set k (a ||| b)=Qg x y (k+1):=by
 unfold Qg;have hl:((orR x y).take k).length=k:=by rw[List.length_take];unfold orR;rw[List.length_zipWith];omega
 have h1:(orR x y)[k]? =some (a ||| b):=by unfold orR;rw[List.getElem?_zipWith,ha,hb]
 rw[List.set_append,if_neg (by omega),hl,Nat.sub_self,Ba _ k _ h1,List.append_assoc];congr 1;obtain⟨h2,h3⟩:=List.getElem?_eq_some_iff.1 ha;rw[List.drop_eq_getElem_cons h2];rfl
theorem Agj (bx by_:Nat)(x y:List Nat)(w:World)(hx:Bm w bx x)(hy:Bm w by_ y)(hne:bx≠by_)(hsx:∀s∈x,Cl s)(hsy:∀s∈y,Cl s):
  Calls Tryz.prog 331 #[.pointer (some ⟨bx,0,none⟩), .pointer (some ⟨by_,0,none⟩)] w fun e w'=>
   e= .returned (.tuple #[])/\Bm w' bx (orR x y)/\Ae (· =bx) w w'/\w'.heap.size=w.heap.size:=by
 have HX:=hI hx;clear hx;have HY:=hI hy;clear hy;have a3:=hI hsx;clear hsx;have a2:=hI hsy;clear hsy;go_enter Tryz.func331,Tryz.ntmps331;go_wp2
 go_loopw [4,5,7] (fun _ _ i wr=>∃k:Nat,k<=33/\i= .int .i64 k/\Hid (Bm wr bx (Qg x y k))/\Hid (Bm wr by_ y)/\Hid (Ae (· =bx) w wr/\wr.heap.size=w.heap.size)) (fun _ _ i _=>33-(intOf i).toNat)
 case atStart=>exact⟨0,by omega,rfl,by rw[Yj];exact HX.out,HY.out,Ae.refl _ _,rfl⟩
 case round=>
  obtain⟨k,hk,rfl,hr,a1,a0⟩:=hrel;by_cases hlt:k<33
  ·have hs:((k:Nat):Int)<33:=by omega
   obtain⟨a,ha⟩:∃a,x[k]? =some a:=⟨x[k]'(by have:=HX.out.2;omega),List.getElem?_eq_getElem _⟩;obtain⟨b,hb⟩:∃b,y[k]? =some b:=⟨y[k]'(by have:=HY.out.2;omega),List.getElem?_eq_getElem _⟩;have c1:=hr.out.get (Abc x y k a b HX.out.2 HY.out.2 ha hlt);have c2:=a1.out.get hb;have c3:=hr.out.frozen k;have a4:=Wy a b (a3.out a (List.mem_of_getElem? ha)) (a2.out b (List.mem_of_getElem? hb));have HA:=hI ha;clear ha;have HB:=hI hb;clear hb;go_wp2
   go_quiet (fail)
   go_wp2;refine Bs (fun W'=>W'.cell? ⟨bx,k,none⟩=some (.int .u64 (a:Int))) (by kernel_rfl) c1 (fun hHeld=> ?_)
   (refine' Aa 0 rfl ?_;(try simp only[Act.put,nY,nX]));(refine' Aa 1 rfl ?_;(try simp only[Act.put,nY,nX]));(refine' Aa 2 rfl ?_;(try simp only[Act.put,nY,nX]));(refine' Aa 3 rfl ?_;(try simp only[Act.put,nY,nX]));(refine' Aa 4 rfl ?_;(try simp only[Act.put,nY,nX]));(refine' Aa 5 rfl ?_;(try simp only[Act.put,nY,nX]));(refine' Aa 6 rfl ?_;(try simp only[Act.put,nY,nX]));(refine' Aa 7 rfl ?_;(try simp only[Act.put,nY,nX]));(refine' Aa 8 rfl ?_;(try simp only[Act.put,nY,nX]))
   (refine Agz 9 rfl (fun K' hK'=> ?_);simp only[nY];go_simp)
   refine hK' _ _ ⟨.inl (by kernel_rfl),fun _=>Be (by kernel_rfl) ?_ _⟩
   go_wp2
   go_roundw
   case rel=>
    refine⟨k+1,by omega,by go_num, ?_, ?_, ?_, ?_⟩
    ·have h1:=hr.out.set (k:=k) (s:=a ||| b);rw[Abd x y k a b HX.out.2 HY.out.2 HA.out HB.out hlt]at h1;exact h1
    ·exact⟨(Below.heap_setCell _ _ _ _ (Ne.symm hne)).trans a1.out.1,a1.out.2⟩
    ·exact((a0.out.1.drewN nq).setCell (p:=⟨bx,k,none⟩) rfl _).drew
    ·have:=a0.out.2;simpa using this
   case measure=>simp[intOf];omega
  ·obtain rfl:k=33:=by omega
   go_wp2
   go_end0
   exact⟨rfl,by have:=hr.out;rwa[Abb x y HX.out.2 HY.out.2]at this,a0.out.1,a0.out.2⟩
def M8:Nat->List Nat->Nat->List Nat->List Nat
 |0,_,_,out=>out
 |f+1,x,k,out=>if k=0 then out else M8 f (Cz x x) (k/2) (if k%2=1 then Cz out x else out)
def Hd (x:List Nat)(k n:Nat):List Nat:=M8 7 x k (idR n)
def Bj (x:List Nat):Prop:=∀s∈x,Cl s
theorem Dq (x y:List Nat)(hy:Bj y):Bj (Cz x y):=by
 intro s hs;obtain⟨t,_,rfl⟩:=List.mem_map.1 hs;exact Wz y t hy
theorem Dt (x y:List Nat):(Cz x y).length=x.length:=by simp[Cz]
theorem Du (n:Nat):Bj (idR n):=by
 intro s hs;obtain⟨k,hk,rfl⟩:=List.mem_map.1 hs;have hk:=List.mem_range.1 hk;split
 ·have hp:2^k<=2^32:=Nat.pow_le_pow_right (by decide) (by omega);have a0:(2:Nat)^32=4294967296:=by decide
  unfold Cl;omega
 ·exact E7
theorem Hx (n:Nat):(idR n).length=33:=by simp[idR]
theorem Qh:∀j:Nat,j<65->bits .and .i64 (j:Int) 1=((j%2:Nat):Int):=by decide+kernel
theorem Tw (f j:Nat)(h:j<2^(f+1)):j/2<2^f:=by rw[Nat.pow_succ]at h;omega
theorem Sh (x:List Nat)(k n:Nat)(w:World)(hx:x.length=33)(hs:Bj x)(hk:k<=64)(hn:n<=32)(hT:B7 w):
  Calls Tryz.prog 327 #[.agg (Dm x), .int .i64 (k:Int), .int .i64 (n:Int)] w fun e w'=>e= .returned (.agg (Dm (Hd x k n)))/\Below w.heap.size w w':=by
 have HX:=hI hx;clear hx;have HS:=hI hs;clear hs;have HT:=hI hT;clear hT;go_enter Tryz.func327,Tryz.ntmps327
 go_wp2_with(first
  |(go_at_call 333;refine(Kt n _ hn).mono ?_;rintro e w1 ⟨rfl,b0⟩;have f8:=Cn b0;(try simp only[World.size_alloc,World.size_drew,World.size_setCell]at f8)
    have d0:Bm w1 w.heap.size x:=⟨(b0.block _ sd).trans hpt,HX.out⟩;have d1:Bm w1 (w.heap.size+1) Bn:=⟨(b0.block _ sd).trans hpt,rfl⟩;have b7:Below w.heap.size w w1:=bel;clear b0)
  |(refine Bi rfl (.tmp 7) (.tmp 9) rfl _ Bn (idR n) rfl rfl ?hr (Hx n) ?hc))
 case hr=>exact⟨hpt,rfl⟩
 case hc=>
  intro w2 d4 a8 f7;have d5:Hid (Bm w2 w.heap.size x):=(d0.alloc _).keep1 a8 (by omega);have b2:Hid (Bm w2 (w.heap.size+1) Bn):=(d1.alloc _).keep1 a8 (by omega);have f3:Below w.heap.size w w2:=Bd (b7.alloc b7.size _) a8 (by omega) sd;have f5:Hid (Bm w2 w1.heap.size (idR n)):=d4;have g4:w1.heap.size<w2.heap.size:=by omega
  clear d0 d1 a8 f7 d4 b7;go_wp2
  go_loopw [1] (fun q wr=>∃(f j:Nat) (x' out:List Nat),j<2^f/\q= .int .i64 j/\Hid (M8 f x' j out=Hd x k n)/\Hid (Bm wr w.heap.size x')/\Hid (Bm wr (w.heap.size+1) Bn)/\Hid (Bm wr w1.heap.size out)∧
    Hid (Bj x'/\Bj out)/\Below w.heap.size w wr/\j<=64) (fun q _=>(intOf q).toNat)
  case atStart=>exact⟨7,k,x,idR n,by omega,rfl,rfl,d5,b2,f5,⟨HS.out,Du n⟩,f3,hk⟩
  case round=>
   obtain⟨f,j,x',out,hf,rfl,hp,hx,hz,ho,a0,hB,hj⟩:=hrel;have g5:=hB.size;have g6:=ho.out.lt;have g2:=hx.out.lt;have b4:=hI (HT.out.below hB rr);by_cases hj0:j=0
   ·subst hj0;have a6:out=Hd x k n:=by have:=hp.out;cases f<;>simpa[M8]using this
    have HO:=hI a6;clear a6
    go_wp2_with(first
     |(refine D1 rfl (.tmp 7) rfl w1.heap.size out rfl ho.out ?_)
     |(refine Bi rfl (.tmp 6) (.tmp 19) rfl (w.heap.size+1) Bn out rfl rfl hz.out ho.out.2 ?_;intro w3 b2 d7 g3))
    exact bodyPost_ret (Dh Tryz.results327 _ _ (w.heap.size+1) _ rfl b2) rfl ⟨by rw[HO.out],Bd hB d7 (by omega) hB.size⟩
   ·obtain⟨f,rfl⟩:∃g,f=g+1:=⟨f-1,by cases f with|zero=>simp at hf;omega|succ g=>rfl⟩
    have f4:(0:Int)<(j:Int):=by omega
    have a9:=Qh j (by omega);by_cases hodd:j%2=1
    ·have ht:(bits .and .i64 (j:Int) 1==1)=true:=by rw[a9,hodd];rfl
     clear a9;go_wp2_with fail;refine(Mh w1.heap.size w.heap.size out x' _ ho.out hx.out b4.out a0.out.2 a0.out.1).mono ?_;rintro e w3 ⟨rfl,a5⟩;have f2:=hI (hx.out.below a5 rr);have d3:=hI (ho.out.below a5 rr);have d9:=hI (hz.out.below a5 rr);have f9:=hI (b4.out.below a5 rr);have b9:Below w.heap.size w w3:=bel;clear a5;go_wp2_with(refine Bi rfl (.tmp 7) (.tmp 17) rfl _ out (Cz out x') rfl rfl d3.out (by rw[Dt];exact d3.out.2) ?_;intro w4 d2 a4 f1);have b6:=hI (f2.out.keep1 a4 (by omega));have f6:=hI (d9.out.keep1 a4 (by omega));have d6:=hI (f9.out.keep a4 (by have:=HT.out.1;omega));have g0:=hI d2;have g1:Below w.heap.size w w4:=Bd b9 a4 (by omega) b9.size;have f0:=g1.size;clear d2 a4 f1;go_wp2_with fail;refine(Mh w.heap.size w.heap.size x' x' _ b6.out b6.out d6.out a0.out.1 a0.out.1).mono ?_;rintro e w5 ⟨rfl,a1⟩;have a7:=hI (b6.out.below a1 rr);have b8:=hI (g0.out.below a1 rr);have b5:=hI (f6.out.below a1 rr);have a3:Below w.heap.size w w5:=bel;clear a1;go_wp2_with(refine Bi rfl (.tmp 3) (.tmp 18) rfl _ x' (Cz x' x') rfl rfl a7.out (by rw[Dt];exact a7.out.2) ?_;intro w6 b3 a2 d8)
     go_roundw
     case rel=>
      have b1:M8 f (Cz x' x') (j/2) (Cz out x')=Hd x k n:=by have:=hp.out;simp only[M8,hj0,if_false]at this;simpa[hodd]using this
      exact⟨f,j/2,Cz x' x',Cz out x',Tw f j hf,by go_num,b1,b3,b5.out.keep1 a2 (by omega),b8.out.keep1 a2 (by omega),⟨Dq _ _ a0.out.1,Dq _ _ a0.out.1⟩,Bd a3 a2 rr a3.size,by omega⟩
     case measure=>simp[intOf];omega
    ·have ht:(bits .and .i64 (j:Int) 1==1)=false:=by rw[a9];simp;omega
     clear a9;go_wp2_with fail;refine(Mh w.heap.size w.heap.size x' x' _ hx.out hx.out b4.out a0.out.1 a0.out.1).mono ?_;rintro e w5 ⟨rfl,a1⟩;have a7:=hI (hx.out.below a1 rr);have b8:=hI (ho.out.below a1 rr);have b5:=hI (hz.out.below a1 rr);have a3:Below w.heap.size w w5:=bel;clear a1;go_wp2_with(refine Bi rfl (.tmp 3) (.tmp 18) rfl _ x' (Cz x' x') rfl rfl a7.out (by rw[Dt];exact a7.out.2) ?_;intro w6 b3 a2 d8)
     go_roundw
     case rel=>
      have b1:M8 f (Cz x' x') (j/2) out=Hd x k n:=by have:=hp.out;simp only[M8,hj0,if_false]at this;simpa[hodd]using this
      exact⟨f,j/2,Cz x' x',out,Tw f j hf,by go_num,b1,b3,b5.out.keep1 a2 (by omega),b8.out.keep1 a2 (by omega),⟨Dq _ _ a0.out.1,a0.out.2⟩,Bd a3 a2 rr a3.size,by omega⟩
     case measure=>simp[intOf];omega
end Go.Proofs.YtlgliddhideflaaGreatDoor
