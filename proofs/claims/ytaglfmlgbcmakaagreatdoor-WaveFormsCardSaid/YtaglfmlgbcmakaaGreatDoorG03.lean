/-
  math/bits.TrailingZeros64, over its table; sets of places as numbers.
  Relations of places: arrays of 33 sets; pats.relation's methods.
  Relations of places, on: identity, or, power.
  pats.relation.power.
-/
import Derived.Lib.TrailingZeros
import Derived.Laws.Bits64b
import Derived.Test.YtaglfmlgbcmakaaGreatDoorG02
set_option linter.all false
set_option maxRecDepth 100000
set_option maxHeartbeats 4000000
namespace Go.Proofs.YtaglfmlgbcmakaaGreatDoor
open Go.RowKit
def Cw (w:World):Prop:=3<w.heap.size∧∀j,j<64->w.cell? ⟨3,j,none⟩=some (.int .u8 (Lib.deBruijn64tab.getD j 0))
theorem Cw.below {w w':World}(h:Cw w){B:Nat}(hb:Below B w w')(hB:w.heap.size<=B):Cw w':=
 ⟨Nat.lt_of_lt_of_le h.1 hb.size,fun j hj=>(hb.cell (p:=⟨_,j,none⟩) (Nat.lt_of_lt_of_le h.1 hB)).trans (h.2 j hj)⟩
theorem Cw.keep {S:Nat->Prop}{w w':World}(h:Cw w)(hk:Ba S w w')(hS:¬S 3):Cw w':=
 ⟨Nat.lt_of_lt_of_le h.1 hk.size,fun j hj=>(World.cell?_of_block (hk.block _ h.1 hS)).trans (h.2 j hj)⟩
theorem Ajn (x k idx:Nat)(w:World)(hx0:((x:Int)==0)=false)
  (key:IntKind.u64.wrap (bits BinOp.and IntKind.u64 (x:Int) (IntKind.u64.wrap (-(x:Int)))*285870213051353865)/288230376151711744=(idx:Int))
  (hi:idx<64) (hk:k<64) (hcell:w.cell? ⟨3,idx,none⟩=some (.int .u8 k)):
  Calls Tryz.prog 244 #[.int .u64 x] w fun e w'=>e= .returned (.int .i64 k)/\w=w':=by
 go_enter Tryz.func244,Tryz.ntmps244;go_wp2_with(simp only[key]);go_ret;exact⟨rfl,rfl⟩
theorem Alr (x a:Nat)(hx:x<18446744073709551616)(hx0:x≠0)(hlow:x &&& (18446744073709551616-x)=a):
  IntKind.u64.wrap (bits BinOp.and IntKind.u64 (x:Int) (IntKind.u64.wrap (-(x:Int)))*285870213051353865)/288230376151711744=((a*285870213051353865%18446744073709551616/288230376151711744:Nat):Int):=by
 have e1:IntKind.u64.wrap (-(x:Int))=((18446744073709551616-x:Nat):Int):=by rw[IntKind.wrap_u64];omega
 rw[e1,u64_and_nat x _ hx (by omega),hlow,IntKind.wrap_u64];omega
def ctz (x:Nat):Nat:=Lib.ctz 64 x
def Cu (s:Nat):Prop:=s<8589934592
theorem Anw (x:Nat)(w:World)(h0:x≠0)(hx:Cu x)(hT:Cw w):
  Calls Tryz.prog 244 #[.int .u64 x] w fun e w'=>e= .returned (.int .i64 (ctz x))/\w=w':=by
 unfold Cu at hx;obtain⟨a1,hk⟩:=Lib.lowest_bit 64 x h0 (by omega);obtain⟨hi,a2⟩:=Lib.deBruijn64_at _ hk;have a0:=hT.2 _ hi;rw[a2]at a0;exact Ajn x _ _ w (by simp;omega) (Alr x _ (by omega) h0 a1) hi hk a0
end Go.Proofs.YtaglfmlgbcmakaaGreatDoor
namespace Go.Proofs.YtaglfmlgbcmakaaGreatDoor
open Go.RowKit
attribute [local go_sem] Oper.semAt_some
def Ex (r:List Nat):Array Value:=(r.map fun(s:Nat)=>Value.int .u64 (s:Int)).toArray
def B9 (w:World)(b:Nat)(r:List Nat):Prop:=w.heap[b]? =some (.cells (Ex r) 266 (0,0))/\r.length=33
def B1:List Nat:=List.replicate 33 0
theorem B9.get {w:World}{b k s:Nat}{r:List Nat}(h:B9 w b r)(hk:r[k]? =some s):w.cell? ⟨b,k,none⟩=some (.int .u64 (s:Int)):=by
 rw[cell_of_row w b k _ _ _ h.1];simp[Ex,hk]
theorem B9.below {w w':World}{b:Nat}{r:List Nat}(h:B9 w b r){B:Nat}(hb:Below B w w')(hB:w.heap.size<=B):B9 w' b r:=
 ⟨(hb.block b (Nat.lt_of_lt_of_le (Array.getElem?_eq_some_iff.1 h.1).1 hB)).trans h.1,h.2⟩
theorem B9.lt {w:World}{b:Nat}{r:List Nat}(h:B9 w b r):b<w.heap.size:=(Array.getElem?_eq_some_iff.1 h.1).1
def G:List Nat->Nat->Nat
 |[],_=>0
 |v::ys,s=>(if s%2=1 then v else 0) ||| G ys (s/2)
def Cn (x y:List Nat):List Nat:=x.map (G y)
theorem Aca:∀y,G y 0=0
 |[]=>rfl
 |_::ys=>by simp[G,Aca ys]
theorem Ain:∀(y:List Nat) (k m:Nat),k<y.length->G y (2^k*(2*m+1))=y.getD k 0 ||| G y (2^k*(2*m+1)-2^k)
 |[],_,_,h=>by simp at h
 |v::ys,0,m,_=>by
  simp only[G,Nat.pow_zero,Nat.one_mul,List.getD_cons_zero,Nat.add_sub_cancel];rw[if_pos (by omega),if_neg (by omega),show(2*m+1)/2=m by omega,show 2*m/2=m by omega,Nat.zero_or]
 |v::ys,k+1,m,h=>by
  have ih:=Ain ys k m (by simpa using h);have e:2^(k+1)*(2*m+1)=2*(2^k*(2*m+1)):=by rw[Nat.pow_succ];simp only[Nat.mul_assoc,Nat.mul_comm,Nat.mul_left_comm]
  have e':2^(k+1)*(2*m+1)-2^(k+1)=2*(2^k*(2*m+1)-2^k):=by rw[e,Nat.pow_succ,Nat.mul_sub];simp only[Nat.mul_comm]
  simp only[G,List.getD_cons_succ];rw[e',e,if_neg (by omega),if_neg (by omega),Nat.mul_div_cancel_left _ (by decide),Nat.mul_div_cancel_left _ (by decide),Nat.zero_or,Nat.zero_or,ih]
def clr (s:Nat):Nat:=s-2^ctz s
theorem Pt (s:Nat)(h0:s≠0)(hs:Cu s):∃m,s=2^ctz s*(2*m+1)/\ctz s<33:=by
 unfold Cu at hs;obtain⟨m,hm,hk⟩:=Lib.ctzFrom_spec 64 s (by omega) (by omega);have e:ctz s=Lib.ctzFrom 64 s:=by simp[ctz,Lib.ctz,h0]
 rw[←e]at hm hk;refine⟨m,hm, ?_⟩;rcases Nat.lt_or_ge (ctz s) 33 with h|h
 ·exact h
 ·have h1:2^33<=2^ctz s:=Nat.pow_le_pow_right (by decide) h;have h2:2^ctz s<=2^ctz s*(2*m+1):=Nat.le_mul_of_pos_right _ (by omega);rw[←hm]at h2;have h3:(2:Nat)^33=8589934592:=by decide
  omega
theorem Ams (s:Nat)(h0:s≠0)(hs:Cu s):ctz s<33:=by obtain⟨_,_,h⟩:=Pt s h0 hs;exact h
theorem Amt (s:Nat)(h0:s≠0):clr s<s:=by have:=Nat.two_pow_pos (ctz s);unfold clr;omega
theorem Aet (s:Nat)(hs:Cu s):Cu (clr s):=by have:=Nat.sub_le s (2^ctz s);unfold Cu clr at*;omega
theorem Anp (y:List Nat)(hy:y.length=33)(s:Nat)(h0:s≠0)(hs:Cu s):G y s=y.getD (ctz s) 0 ||| G y (clr s):=by
 obtain⟨m,hm,hk⟩:=Pt s h0 hs;have h:=Ain y (ctz s) m (by omega);rw[←hm]at h;exact h
theorem Aio (s:Nat)(h0:s≠0)(hs:Cu s):bits BinOp.andNot IntKind.u64 (s:Int) (IntKind.u64.wrap (2^min (ctz s) 64))=((clr s:Nat):Int):=by
 obtain⟨m,hm,hk⟩:=Pt s h0 hs;have a1:min (ctz s) 64=ctz s:=by omega
 have hp:2^ctz s<=2^33:=Nat.pow_le_pow_right (by decide) (by omega);have a3:(2:Nat)^33=8589934592:=by decide
 have hw:IntKind.u64.wrap ((2:Int)^ctz s)=((2^ctz s:Nat):Int):=by
  rw[IntKind.wrap_u64]
  have:((2:Int)^ctz s)=((2^ctz s:Nat):Int):=by simp
  rw[this];generalize 2^ctz s=q at*;omega
 unfold Cu at hs;rw[a1,hw,u64_andNot_nat s _ (by omega) (by omega)];congr 1;generalize hj:ctz s=j at*;have a4:2^j<2^64:=Nat.pow_lt_pow_right (by decide) (by omega)
 have a0:clr s=2^(j+1)*m:=by
  unfold clr;rw[hj];conv=>lhs;rw[hm]
  rw[Nat.pow_succ,Nat.mul_add,Nat.mul_one,Nat.add_sub_cancel,Nat.mul_assoc]
 apply Nat.eq_of_testBit_eq;intro i;rw[show 18446744073709551615-2^j=2^64-(2^j+1)by rw[show(2:Nat)^64=18446744073709551616 by decide];omega];rw[Nat.testBit_and,Nat.testBit_two_pow_sub_succ a4,Nat.testBit_two_pow,a0,Nat.testBit_two_pow_mul]
 have a5:s.testBit i=(decide (j<=i) && (2*m+1).testBit (i-j)):=by
  conv=>lhs;rw[hm,Nat.testBit_two_pow_mul]
 rw[a5];by_cases h1:i<j
 ·have:¬j<=i:=by omega
  have h2:¬j+1<=i:=by omega
  simp[this,h2]
 ·by_cases h2:i=j
  ·subst h2;simp only[Nat.lt_irrefl,decide_true,Bool.not_true,Bool.and_false,ge_iff_le];simp;omega
  ·have e:i-j=(i-(j+1))+1:=by omega
   have h3:j<=i:=by omega
   have h4:j+1<=i:=by omega
   have h5:¬j=i:=by omega
   rw[e,Nat.testBit_succ,show(2*m+1)/2=m by omega];simp only[h3,h4,h5,decide_true,decide_false,Bool.true_and,Bool.not_false,Bool.and_true];by_cases h6:i<64
   ·simp[h6]
   ·have:m.testBit (i-(j+1))=false:=by
     apply Nat.testBit_lt_two_pow
     have h7:m<2^(33-(j+1)):=by
      have h8:2^(j+1)*m<=clr s:=by rw[a0];exact rr
      have h9:clr s<2^33:=by rw[a3];have:=Nat.sub_le s (2^ctz s);unfold clr;omega
      have a2:2^33=2^(j+1)*2^(33-(j+1)):=by rw[←Nat.pow_add];congr 1;omega
      rw[a2]at h9;exact Nat.lt_of_mul_lt_mul_left (Nat.lt_of_le_of_lt h8 h9)
     exact Nat.lt_of_lt_of_le h7 (Nat.pow_le_pow_right (by decide) (by omega))
    simp[this]
theorem Vz (m l bs s0:Nat)(hm:1<=m)(J Jx:Nat->World->Prop)(W:World)
  (hst:∀s v W,J s W->J s (W.setCell ⟨bs,0,none⟩ v)) (hdr:∀s W,J s W->J s W.drew) (hT:∀s W,J s W->Cw W)
  (hy:∀s W,s≠0->Cu s->J s W->YieldAt Fence.wide (m-1) Tryz.prog l #[.int .i64 (ctz s)] W (fun e W'=>
   (e= .returned (.bool true)/\J (clr s) W'/\W'.heap[bs]? =W.heap[bs]?)\/(e= .returned (.bool false)/\Jx (clr s) W')))
  (h0:J s0 W) (hb:W.heap[bs]? =some (.cells #[.int .u64 (s0:Int)] 264 (0,0))) (hs:Cu s0):
  CallsIn Fence.wide m Tryz.prog 243 #[.func (.yield l) #[] #[], .pointer (some ⟨bs,0,none⟩)] W fun e W'=>(∃v,e= .returned v)/\(J 0 W'∨∃s,Jx s W'):=by
 have a5:=hI hst;clear hst;have a8:=hI hdr;clear hdr;have HT:=hI hT;clear hT;have Hy:=hI hy;clear hy;have H0:=hI h0;clear h0;have HB:=hI hb;clear hb;have HS:=hI hs;clear hs;refine callsIn_of_wp Tryz.func243 rfl trivial ?_;simp only[Tryz.ntmps243,List.size_toArray,List.length_cons,List.length_nil,Nat.reduceAdd,Nat.reduceSub,Array.replicate_succ,Array.replicate_zero,List.push_toArray,List.append_toArray,List.nil_append,List.cons_append];gi_wp2
 gi_loopw [3] (fun _ wr=>∃s:Nat,Hid (Cu s)/\Hid (wr.heap[bs]? =some (.cells #[.int .u64 (s:Int)] 264 (0,0)))/\Hid (J s wr))
  (fun _ wr=>match wr.cell? ⟨bs,0,none⟩with|some (.int _ q)=>q.toNat|_=>0)
 case atStart=>exact⟨s0,HS,HB,H0⟩
 case round=>
  obtain⟨s,hs,hb,hj⟩:=hrel;have hc:=cell_of_one hb.out;have hf:=free_of_one hb.out;by_cases h0:s=0
  ·subst h0;gi_wp2
   go_end0
   exact⟨⟨_,rfl⟩, .inl hj.out⟩
  ·have b3:((s:Int) !=0)=true:=by simp;exact h0
   have a0:=hI h0;clear h0
   gi_wp2_with (refine⟨trivial, ?_⟩;gi_at_call 244;refine(callsIn_wide.2 (Anw s _ a0.out hs.out (HT.out s _ hj.out))).mono ?_;rintro e w1 ⟨rfl,rfl⟩)
   have hv:=Aio s a0.out hs.out
   gi_region
   clear hv hc hf;have b2:=a8.out _ _ (a5.out s (.int .u64 (clr s:Int)) _ hj.out);obtain⟨fn,tmps,assign,body,b4,hR⟩:=Hy.out s _ a0.out hs.out b2;have HR:=hI hR;clear hR;gi_wp2;refine HR.out.mono ?_;have a3:=one_setCell (u:= .int .u64 (clr s:Int)) hb.out;rintro e W3 (⟨rfl,a2,a4⟩|⟨rfl,a9⟩)
   ·have a7:=hI a2;clear a2;have a1:=hI (a4.trans a3);clear a4 a3;have b1:=Amt s a0.out;have a6:=cell_of_one a1.out;have b0:=cell_of_one hb.out;gi_wp2
    go_roundw
    case rel=>exact⟨clr s,Aet s hs.out,a1,a7⟩
    case measure=>rw[a6,b0];simp only[Int.toNat_natCast];exact b1
   ·gi_wp2;refine bodyPost_ret (results_none rfl _ _ _) rfl ?_;exact⟨⟨_,rfl⟩, .inr ⟨_,a9⟩⟩
theorem Alo (s:Nat)(w:World):
  Calls Tryz.prog 239 #[.int .u64 (s:Int)] w fun e w'=>e= .returned (.func (.func 243) #[] #[.pointer (some ⟨w.heap.size,0,none⟩)])/\w.alloc (.cells #[.int .u64 (s:Int)] 264)=w':=by
 go_enter Tryz.func239,Tryz.ntmps239;go_wp2;go_ret;exact⟨rfl,rfl⟩
theorem B9.putObj {w:World}{b l:Nat}{o:Obj}{r:List Nat}(h:B9 w b r)(hl:b≠l):B9 (w.putObj l o) b r:=⟨(World.putObj_heap_other hl).trans h.1,h.2⟩
theorem B9.keep {S:Nat->Prop}{w w':World}{b:Nat}{r:List Nat}(h:B9 w b r)(hk:Ba S w w')(hb:¬S b):B9 w' b r:=⟨(hk.block b h.lt hb).trans h.1,h.2⟩
theorem B9.set {w:World}{b k s:Nat}{r:List Nat}(h:B9 w b r):B9 (w.setCell ⟨b,k,none⟩ (.int .u64 (s:Int))) b (r.set k s):=by
 refine⟨?_,by rw[List.length_set];exact h.2⟩;have hb:=h.1;simp only[World.setCell,Array.getElem?_modify,hb];simp[Ex]
theorem B9.frozen {w:World}{b:Nat}{r:List Nat}(h:B9 w b r)(k:Nat):w.frozen? ⟨b,k,none⟩=false:=by
 simp[World.frozen?,h.1]
theorem Tm {a b:Nat}(ha:Cu a)(hb:Cu b):Cu (a ||| b):=by
 unfold Cu at*;rw[show 8589934592=2^33 by decide]at*;exact Nat.or_lt_two_pow ha hb
theorem Sl (a b:Nat)(ha:Cu a)(hb:Cu b):bits BinOp.or IntKind.u64 (a:Int) (b:Int)=((a ||| b:Nat):Int):=by
 unfold Cu at*;exact u64_or_nat a b (by omega) (by omega)
theorem D3:Cu 0:=by unfold Cu;omega
theorem Xk:∀(y:List Nat) (s:Nat),(∀v∈y,Cu v)->Cu (G y s)
 |[],_,_=>D3
 |v::ys,s,h=>by
  refine Tm ?_ (Xk ys _ fun u hu=>h u (List.mem_cons_of_mem _ hu));split
  ·exact h v (List.mem_cons_self ..)
  ·exact D3
theorem Qt (bx by_:Nat)(x y:List Nat)(w:World)(hx:B9 w bx x)(hy:B9 w by_ y)(hT:Cw w)(hs:∀s∈x,Cu s)(hsy:∀s∈y,Cu s):
  Calls Tryz.prog 267 #[.pointer (some ⟨bx,0,none⟩), .pointer (some ⟨by_,0,none⟩)] w fun e w'=>e= .returned (.agg (Ex (Cn x y)))/\Below w.heap.size w w':=by
 have HX:=hI hx;clear hx;have HY:=hI hy;clear hy;have HT:=hI hT;clear hT;have HS:=hI hs;clear hs;have g0:=hI hsy;clear hsy;refine(callsIn_wide (n:=9)).1 (callsIn_of_wp_marks Tryz.func267 rfl trivial ?_ rfl);simp only[Tryz.ntmps267,List.size_toArray,List.length_cons,List.length_nil,Nat.reduceAdd,Nat.reduceSub,Array.replicate_succ,Array.replicate_zero,List.push_toArray,List.append_toArray,List.nil_append,List.cons_append];gi_wp2
 refine wpIn_loop (fun a' wr=>∃(k:Nat) (r:List Nat) (ds:List Deferred) (u6 u7 u8 u11 u12 u13 u14 u15 u16 u17 u18 u19 u20 u21 u22 u23 u24 u25 u26 u27 u28 u29:Value),
   a'={tmps:= #[.pointer (some ⟨bx,0,none⟩), .pointer (some ⟨by_,0,none⟩),undef, .pointer (some ⟨w.heap.size,0,none⟩), .pointer (some ⟨w.heap.size+1,0,none⟩), .pointer (some ⟨w.heap.size+1+1,0,none⟩),u6,u7,u8, .pointer (some ⟨bx,0,none⟩), .int .i64 k,u11,u12,u13,u14,u15,u16,u17,u18,u19,u20,u21,u22,u23,u24,u25,u26,u27,u28,u29,undef],defers:=ds}∧
   k<=33/\D4 w.heap.size wr ds/\B9 wr (w.heap.size+1+1) r/\r=(x.take k).map (G y)++List.replicate (33-k) 0∧
   wr.heap[w.heap.size]? =some (.cells #[.pointer (some ⟨by_,0,none⟩)] 304 (0,0))/\wr.heap[w.heap.size+1]? =some (.cells (Ex B1) 266 (0,0))/\Below w.heap.size w wr)
  (fun a' _=>33-(intOf (a'.tmps.getD 10 undef)).toNat) ?start ?round
 case start=>
  exact⟨0,B1,[],_,_,_,_,_,_,_,_,_,_,_,_,_,_,_,_,_,_,_,_,_,_,rfl,by omega,trivial,⟨hpt,rfl⟩,rfl,hpt,hpt,bel⟩
 case round=>
  rintro _ wr ⟨k,r,ds,u6,u7,u8,u11,u12,u13,u14,u15,u16,u17,u18,u19,u20,u21,u22,u23,u24,u25,u26,u27,u28,u29,rfl,hk,hM,hr,d2,d3,b8,hB⟩;have HM:=hI hM;clear hM;have HR:=hI hr;clear hr;have b9:=hI d2;clear d2;have d8:=hI d3;clear d3;have a7:=hI b8;clear b8;have d6:=HX.out.2;by_cases hlt:k<33
  ·obtain⟨s,b0⟩:∃s,x[k]? =some s:=⟨x[k],List.getElem?_eq_getElem (by omega)⟩;have j2:wr.cell? ⟨bx,k,none⟩=some (.int .u64 (s:Int)):=(HX.out.below hB rr).get b0;have j4:bx<wr.heap.size:=(HX.out.below hB rr).lt;have f4:=hI b0;clear b0;have d4:=hI d6;clear d6;gi_wp2
   gi_region
   gi_wp2_with (refine⟨trivial, ?_⟩;gi_at_call 239;refine(callsIn_wide.2 (Alo _ _)).mono ?_;rintro e w1 ⟨rfl,rfl⟩)
   have a3:(((wr.alloc (.cells #[.int .i64 (k:Int)] 3)).alloc (.cells #[.int .u64 (s:Int)] 264)).drew).heap.size=wr.heap.size+1+1:=by simp
   have g5:(((wr.alloc (.cells #[.int .i64 (k:Int)] 3)).alloc (.cells #[.int .u64 (s:Int)] 264)).drew).heap[wr.heap.size]? =some (.cells #[.int .i64 (k:Int)] 3 (0,0)):=hpt;have g6:(((wr.alloc (.cells #[.int .i64 (k:Int)] 3)).alloc (.cells #[.int .u64 (s:Int)] 264)).drew).heap[wr.heap.size+1]? =some (.cells #[.int .u64 (s:Int)] 264 (0,0)):=hpt;have a0:Ba (fun _=>False) wr (((wr.alloc (.cells #[.int .i64 (k:Int)] 3)).alloc (.cells #[.int .u64 (s:Int)] 264)).drew):=(((Ba.refl _ _).alloc _).alloc _).drew;generalize(((wr.alloc (.cells #[.int .i64 (k:Int)] 3)).alloc (.cells #[.int .u64 (s:Int)] 264)).drew)=W0 at*;refine Fl (gf:=243) (lb:= #[.pointer (some ⟨wr.heap.size+1,0,none⟩)]) rfl (enters_of Tryz.func243 (by kernel_rfl) rfl) fun fn D l rc W1 hrc hD hl hK1 hD1 hl1 f3=> ?_
   have j6:wr.heap.size+1+1<l:=by omega
   have g2:wr.heap.size+1<W0.heap.size:=by omega
   have j5:wr.heap.size+1<D:=by omega
   have j7:D<l:=by omega
   have j3:l<W1.heap.size:=by omega
   have g8:=hI hrc;clear hrc;have HE:=hI (And.intro hD (And.intro hl (And.intro f3 a3)));clear hD hl f3 a3;have a6:B9 W1 (w.heap.size+1+1) r:=(HR.out.keep a0 (by simp)).keep hK1 (by simp);have j8:=a6.lt;have b8:w.heap.size+1+1<wr.heap.size:=HR.out.lt;have i9:W1.heap[wr.heap.size+1]? =some (.cells #[.int .u64 (s:Int)] 264 (0,0)):=(hK1.block _ (by omega) (by simp)).trans g6
   refine(Vz (9-1) l (wr.heap.size+1) s (by omega)
    (fun s' W=>∃o,B9 W (w.heap.size+1+1) (r.set k o)/\Cu o/\o ||| G y s'=G y s/\Ba (fun j=>j=w.heap.size+1+1\/j=wr.heap.size+1\/j=l) W1 W/\W.heap[l]? =some (.loop (rc .ready none)))
    (fun _ _=>False) W1 ?st ?dr ?tab ?yield ?zero i9 (HS.out s (List.mem_of_getElem? f4.out))).mono ?_
   case st=>
    rintro s' v W ⟨o,h1,h2,h3,h4,h5⟩;refine⟨o,⟨(Below.heap_setCell _ _ _ _ (by simp;omega)).trans h1.1,h1.2⟩,h2,h3,h4.setCell (by simp) _,(Below.heap_setCell _ _ _ _ (by simp;omega)).trans h5⟩
   case dr=>
    rintro s' W ⟨o,h1,h2,h3,h4,h5⟩;exact⟨o,h1,h2,h3,h4.drew,h5⟩
   case tab=>
    rintro s' W ⟨o,h1,h2,h3,h4,h5⟩;have hg:=HT.out.1;exact(((HT.out.below hB rr).keep a0 (by simp)).keep hK1 (by simp)).keep h4 (by omega)
   case zero=>
    refine⟨0, ?_,D3,by simp,Ba.refl _ _,hl1⟩
    have i1:r.set k 0=r:=by
     have b3:((x.take k).map (G y)).length=k:=by rw[List.length_map,List.length_take,d4.out];omega
     rw[b9.out,show 33-k=(33-(k+1))+1 by omega,List.replicate_succ,List.set_append,if_neg (by omega),b3,Nat.sub_self,List.set_cons_zero]
    rw[i1];exact a6
   case yield=>
    rintro s' W d1 d5 ⟨o,h1,h2,h3,h4,h5⟩;refine Fm g8.out h5 rfl ?_;have k0:ctz s'<33:=Ams s' d1 d5;have H5:=hI h5;clear h5;have H3:=hI h3;clear h3;have H1:=hI h1;clear h1;have H4:=hI h4;clear h4;have H2:=hI h2;clear h2;gi_wp2;refine⟨H5.out, ?_⟩;have i6:l<W.heap.size:=(Array.getElem?_eq_some_iff.1 H5.out).1;have f7:(W.putObj l (.loop (rc .busy none))).heap[l]? =some (.loop (rc .busy none)):=World.putObj_heap_same i6;have a4:Ba (fun j=>j=w.heap.size+1+1\/j=wr.heap.size+1\/j=l) W1 (W.putObj l (.loop (rc .busy none))):=H4.out.putObj (by simp) _;have a2:B9 (W.putObj l (.loop (rc .busy none))) (w.heap.size+1+1) (r.set k o):=H1.out.putObj (by omega);have d0:(W.putObj l (.loop (rc .busy none))).heap[wr.heap.size+1]? =W.heap[wr.heap.size+1]? :=World.putObj_heap_other (by omega);generalize W.putObj l (.loop (rc .busy none))=V at*;have f0:V.heap[wr.heap.size]? =some (.cells #[.int .i64 (k:Int)] 3 (0,0)):=(a4.block _ (by omega) (by omega)).trans ((hK1.block _ (by omega) (by simp)).trans g5)
    have d7:V.heap[w.heap.size]? =some (.cells #[.pointer (some ⟨by_,0,none⟩)] 304 (0,0)):=
     (a4.block _ (by omega) (by omega)).trans ((hK1.block _ (by omega) (by simp)).trans ((a0.block _ (by omega) (by simp)).trans d8.out))
    have b1:B9 wr by_ y:=HY.out.below hB rr;have i7:by_<w.heap.size:=HY.out.lt;have b7:B9 V by_ y:=((b1.keep a0 (by simp)).keep hK1 (by simp)).keep a4 (by omega);obtain⟨yv,a8⟩:∃yv,y[ctz s']? =some yv:=⟨y[ctz s']'(by have:=b1.2;omega),List.getElem?_eq_getElem _⟩;have f5:(r.set k o)[k]? =some o:=by rw[List.getElem?_set_self (by have:=a2.2;rw[List.length_set]at this;omega)]
    have c1:=cell_of_one f0;have c2:=cell_of_one d7;have c3:=b7.get a8;have c4:=a2.get f5;have c5:=a2.frozen k;have j9:=Sl o yv H2.out (g0.out yv (List.mem_of_getElem? a8));have f1:=hI a8;clear a8;clear f0 d7 b1 i7 f5;have j1:=hI b7;clear b7;have i4:=hI a2;clear a2;have g7:=hI a4;clear a4;have i5:=hI f7;clear f7;have j0:=hI d0;clear d0;gi_wp2;refine Jh (fun W'=>W'.cell? ⟨wr.heap.size,0,none⟩=some (.int .i64 (k:Int))/\W'.cell? ⟨w.heap.size,0,none⟩=some (.pointer (some ⟨by_,0,none⟩))/\W'.cell? ⟨by_,ctz s',none⟩=some (.int .u64 (yv:Int))/\W'.cell? ⟨w.heap.size+1+1,k,none⟩=some (.int .u64 (o:Int))) (by kernel_rfl) (by kernel_rfl) (fun _ _ h=>by exact h) ⟨c1,c2,c3,c4⟩ (fun hHeld=> ?_);have i0:((ctz s':Nat):Int)<33:=by omega
    (refine' Ae 0 rfl ?_;(try simp only[Act.put,nY,nX]));(refine' Ae 1 rfl ?_;(try simp only[Act.put,nY,nX]));(refine' Ae 2 rfl ?_;(try simp only[Act.put,nY,nX]));(refine' Ae 3 rfl ?_;(try simp only[Act.put,nY,nX]));(refine' Ae 4 rfl ?_;(try simp only[Act.put,nY,nX]));(refine' Ae 5 rfl ?_;(try simp only[Act.put,nY,nX]));(refine' Ae 6 rfl ?_;(try simp only[Act.put,nY,nX]));(refine' Ae 7 rfl ?_;(try simp only[Act.put,nY,nX]));(refine' Ae 8 rfl ?_;(try simp only[Act.put,nY,nX]));(refine' Ae 9 rfl ?_;(try simp only[Act.put,nY,nX]))
    (refine Anv 10 rfl (fun K' hK'=> ?_);simp only[nY];go_simp)
    refine hK' _ _ ⟨.inl (by kernel_rfl),fun _=>Bf (by kernel_rfl) ?_ _⟩
    simp only[Exit.inBlock];have f9:(V.setCell ⟨w.heap.size+1+1,k,none⟩ (.int .u64 ((o ||| yv:Nat):Int))).drew.heap[l]? =some (.loop (rc .busy none)):=(Below.heap_setCell _ _ _ _ (by simp;omega)).trans i5.out
    have i8:B9 (V.setCell ⟨w.heap.size+1+1,k,none⟩ (.int .u64 ((o ||| yv:Nat):Int))).drew (w.heap.size+1+1) (r.set k (o ||| yv)):=by
     have:=(i4.out.set (k:=k) (s:=o ||| yv))
     rw[List.set_set]at this;exact this
    refine⟨f9,rfl,⟨o ||| yv,i8.putObj (by omega),Tm H2.out (g0.out yv (List.mem_of_getElem? f1.out)), ?_,((g7.out.setCell (by simp) _).drew).putObj (by simp) _,World.putObj_heap_same (Array.getElem?_eq_some_iff.1 f9).1⟩, ?_⟩
    ·have hg:=Anp y j1.out.2 s' d1 d5;have i3:y.getD (ctz s') 0=yv:=by rw[List.getD_eq_getElem?_getD,f1.out];rfl
     rw[i3]at hg;rw[Nat.or_assoc,←hg];exact H3.out
    ·rw[World.putObj_heap_other (by omega)];exact(Below.heap_setCell _ _ _ _ (by simp;omega)).trans j0.out
   ·rintro e W' ⟨⟨v,rfl⟩,⟨o,h1,h2,h3,h4,h5⟩|⟨s',hf⟩⟩
    ·refine .inl ⟨h5, ?_⟩;rw[Aca,Nat.or_zero]at h3;have f8:Ba (fun j=>j=w.heap.size+1+1\/j=wr.heap.size+1\/j=l) W1 (W'.putObj l (.loop (rc .exhausted none))):=h4.putObj (by simp) _;have d9:B9 (W'.putObj l (.loop (rc .exhausted none))) (w.heap.size+1+1) (r.set k o):=h1.putObj (by omega);generalize W'.putObj l (.loop (rc .exhausted none))=V at*;have a1:=hI f8;clear f8;have g4:=hI d9;clear d9;have H3:=hI h3;clear h3 h4 h1 h5;gi_wp2
     have a9:∀j,j<wr.heap.size->j≠w.heap.size+1+1->V.heap[j]? =wr.heap[j]? :=fun j hj hn=>
      (a1.out.block j (by have:=hK1.size;have:=a0.size;omega) (by omega)).trans ((hK1.block j (by omega) (by simp)).trans (a0.block j hj (by simp)))
     refine⟨⟨k+1,r.set k o,Le D::ds,⟨by omega,rfl⟩,by omega,⟨D,rfl,by omega,(a1.out.block D (by omega) (by omega)).trans hD1,fun D' hm=> ?_,HM.out.mono fun D' hm hd=> ?_⟩,g4.out, ?_,
      (a9 _ (by omega) (by omega)).trans d8.out,(a9 _ (by omega) (by omega)).trans a7.out, ?_⟩,by simp[intOf];omega⟩
     ·have:=(Array.getElem?_eq_some_iff.1 (HM.out.at_ D' hm).1).1;omega
     ·have h6:=(Array.getElem?_eq_some_iff.1 hd).1;refine(a9 D' h6 ?_).trans hd;rintro rfl;have h7:=HR.out.1;rw[hd]at h7;cases h7
     ·rw[b9.out,H3.out,←List.map_take];have g3:(x.take (k+1)).map (G y)=(x.take k).map (G y)++[G y s]:=by rw[Bd x k s f4.out,List.map_append];rfl
      have b3:((x.take k).map (G y)).length=k:=by rw[List.length_map,List.length_take,d4.out];omega
      rw[g3,show 33-k=(33-(k+1))+1 by omega,List.replicate_succ,List.set_append,if_neg (by omega),b3,Nat.sub_self];simp
     ·refine⟨?_, ?_, ?_, ?_,fun j hj=>(a9 j (by omega) (by omega)).trans (hB.block j hj)⟩
      ·exact(a1.out.os.trans (hK1.os.trans a0.os)).trans hB.os
      ·exact(a1.out.tape.trans (hK1.tape.trans a0.tape)).trans hB.tape
      ·exact(a1.out.output.trans (hK1.output.trans a0.output)).trans hB.output
      ·have:=a1.out.size;have:=hK1.size;have:=a0.size;have:=hB.size;omega
    ·exact hf.elim
  ·obtain rfl:k=33:=by omega
   have f6:r=Cn x y:=by rw[b9.out,List.take_of_length_le (by omega)];simp[Cn]
   have hsz:(Tryz.prog.info? 266).map (·.size)=some (Ex r).size:=by
    rw[show(Ex r).size=33 by simp[Ex,HR.out.2]];kernel_rfl
   have a5:(Ex B1).size=(Ex r).size:=by simp[Ex,HR.out.2,B1]
   have f2:(Ex r).all (·.oneCell')=true:=by simp[Ex,Array.all_eq_true];intros;rfl
   have b6:=hI hsz;clear hsz;have b2:=hI a5;clear a5;have i2:=hI f2;clear f2;have g1:=hI f6;clear f6;refine wpIn_wide.2 ?_;go_wp2;refine wpIn_wide.2 ?_
   go_wp2_with(first
    |(refine wpList_load_row rfl 266 (.tmp 5) rfl (w.heap.size+1+1) rfl 266 (Ex r) (0,0) _ HR.out.1 Tryz.underlying266 rfl b6.out ?_)
    |(refine wpList_store_row rfl 266 (.tmp 4) (.tmp 30) rfl (w.heap.size+1) (Ex r) rfl rfl 266 (Ex B1) a7.out b6.out b2.out i2.out ?_))
   have b5:=setRow_heap wr (w.heap.size+1) _ (Ex r) 266 (0,0) a7.out;have b4:Below w.heap.size w (wr.setRow (w.heap.size+1) (Ex r)):=below_setRow hB (by omega) _
   have g9:D4 w.heap.size (wr.setRow (w.heap.size+1) (Ex r)) ds:=HM.out.mono fun D' hm hd=>by
    rw[setRow_other _ _ _ _ (by rintro rfl;rw[a7.out]at hd;cases hd)];exact hd
   refine Gx (B:=w.heap.size) g9 fun w' hw'=>⟨.agg (Ex r),results_cell_row (p:=4) Tryz.results267 _ _ (w.heap.size+1) 266 (Ex r) (0,0) _ rfl (hw'.row b5) Tryz.underlying266 rfl b6.out, ?_,b4.trans hw'.below⟩
   rw[g1.out]
end Go.Proofs.YtaglfmlgbcmakaaGreatDoor
namespace Go.Proofs.YtaglfmlgbcmakaaGreatDoor
open Go.RowKit
theorem Pu {r:List Nat}(h:r.length=33):(Tryz.prog.info? 266).map (·.size)=some (Ex r).size:=by
 rw[show(Ex r).size=33 by simp[Ex,h]];kernel_rfl
theorem Akz (r:List Nat):(Ex r).all (·.oneCell')=true:=by simp[Ex,Array.all_eq_true];intros;rfl
theorem B9.alloc {w:World}{b:Nat}{r:List Nat}(h:B9 w b r)(o:Obj):B9 (w.alloc o) b r:=⟨(Below.heap_alloc _ _ _ h.lt).trans h.1,h.2⟩
theorem B9.drew {w:World}{b:Nat}{r:List Nat}(h:B9 w b r):B9 w.drew b r:=h
theorem B9.keep1 {w w':World}{b c:Nat}{r:List Nat}(h:B9 w b r)(hk:Ba (· =c) w w')(hb:b≠c):B9 w' b r:=h.keep hk hb
theorem Bo {w0 w w':World}{B b:Nat}(hB:Below B w0 w)(hk:Ba (· =b) w w')(hb:B<=b)(hs:B<=w.heap.size):Below B w0 w':=
 hB.trans (hk.to_below (fun k h=>by subst h;exact hb) hs)
theorem Ft {ops:Array Oper}{rest:List Oper}{o:Oper}{a:Act}{w:World}{Q:Exit->Act->World->Prop}(hgd:o.guard=none)(x:Operand)(ho:o.op= .load 266 x)
  (b:Nat) (r:List Nat) (hx:a.eval x= .pointer (some ⟨b,0,none⟩)) (hr:B9 w b r) (h:wpList Tryz.prog ops Q rest (a.put o.dst (.agg (Ex r))) w):wpList Tryz.prog ops Q (o::rest) a w:=
 wpList_load_row hgd 266 x ho b hx 266 (Ex r) (0,0) _ hr.1 Tryz.underlying266 rfl (Pu hr.2) h
theorem B2 {ops:Array Oper}{rest:List Oper}{o:Oper}{a:Act}{w:World}{Q:Exit->Act->World->Prop}(hgd:o.guard=none)(x y:Operand)(ho:o.op= .store 266 x y)
  (b:Nat) (r0 r:List Nat) (hx:a.eval x= .pointer (some ⟨b,0,none⟩)) (hy:a.eval y= .agg (Ex r)) (hr:B9 w b r0) (hl:r.length=33)
  (h:∀w',B9 w' b r->Ba (· =b) w w'->w'.heap.size=w.heap.size->wpList Tryz.prog ops Q rest (a.put o.dst undef) w'):wpList Tryz.prog ops Q (o::rest) a w:=by
 refine wpList_store_row hgd 266 x y ho b (Ex r) hx hy 266 (Ex r0) hr.1 (Pu hl) (by simp[Ex,hl,hr.2]) (Akz r) (h _ ⟨setRow_heap _ _ _ _ _ _ hr.1,hl⟩ ⟨rfl,rfl,rfl,by simp,fun k _ hk=>setRow_other _ _ _ _ hk⟩ (by simp))
theorem Er {fn:Func}{p:Tmp}(h:fn.results= #[.cell p 266])(tmps:Array Value)(w:World)(b:Nat)(r:List Nat)(hp:tmps.getD p undef= .pointer (some ⟨b,0,none⟩))(hr:B9 w b r):
  (results fn tmps).run Tryz.prog w= .ok (.agg (Ex r)) w:=
 results_cell_row h tmps w b 266 (Ex r) (0,0) _ hp hr.1 Tryz.underlying266 rfl (Pu hr.2)
def idR (n:Nat):List Nat:=(List.range 33).map fun k=>if k<=n then 2^k else 0
def Xl (n j:Nat):List Nat:=(List.range 33).map fun k=>if k<=n/\k<j then 2^k else 0
theorem Aeu (n:Nat):Xl n 0=B1:=by
 have h:Xl n 0=(List.range 33).map fun _=>0:=List.map_congr_left fun j _=>by rw[if_neg (by omega)]
 rw[h];rfl
theorem Pv (k:Nat)(hk:k<33):IntKind.u64.wrap (2^min k 64)=((2^k:Nat):Int):=by
 have hp:2^k<=2^33:=Nat.pow_le_pow_right (by decide) (by omega);have a0:(2:Nat)^33=8589934592:=by decide
 rw[IntKind.wrap_u64,show min k 64=k by omega]
 have:((2:Int)^k)=((2^k:Nat):Int):=by simp
 rw[this];generalize 2^k=q at*;omega
theorem J5 (k:Nat)(hk:k<33):IntKind.u64.wrap (2^k)=((2^k:Nat):Int):=by
 have:=Pv k hk;rwa[show min k 64=k by omega]at this
theorem Jp (f g:Nat->Nat)(m j v:Nat)(hj:g j=v)(h:∀k,k≠j->g k=f k):((List.range m).map f).set j v=(List.range m).map g:=by
 apply List.ext_getElem?;intro i;rw[List.getElem?_set];simp only[List.getElem?_map,List.length_map,List.length_range];by_cases hi:i<m
 ·by_cases e:j=i
  ·subst e;simp[hi,hj]
  ·rw[if_neg e,List.getElem?_range hi];simp[h i (Ne.symm e)]
 ·have:(List.range m)[i]? =none:=List.getElem?_eq_none (by simp;omega)
  rw[this];by_cases e:j=i
  ·subst e;simp[hi]
  ·simp[e]
theorem Nv (n:Nat)(w:World)(hn:n<=32):
  Calls Tryz.prog 266 #[.int .i64 (n:Int)] w fun e w'=>e= .returned (.agg (Ex (idR n)))/\Below w.heap.size w w':=by
 go_enter Tryz.func266,Tryz.ntmps266;go_wp2
 go_loopw [4,7] (fun _ i wr=>∃k:Nat,k<=n+1/\i= .int .i64 k/\Hid (B9 wr (w.heap.size+1) (Xl n k))/\Hid (B9 wr w.heap.size B1)/\Below w.heap.size w wr) (fun _ i _=>n+1-(intOf i).toNat)
 case atStart=>exact⟨0,by omega,rfl,by rw[Aeu];exact⟨hpt,rfl⟩,⟨hpt,rfl⟩,bel⟩
 case round=>
  obtain⟨k,hk,rfl,hr,hz,hB⟩:=hrel;by_cases hlt:k<n+1
  ·have hs:((k:Nat):Int)<33:=by omega
   have a0:=hI (J5 k (by omega));have hf:=hr.out.frozen k;have hc:=hr.out.get (k:=k) (s:=0) (by unfold Xl;rw[List.getElem?_map,List.getElem?_range (by omega)];simp);go_wp2
   go_roundw
   case rel=>
    refine⟨k+1,by omega,by go_num, ?_, ?_,bel⟩
    ·have h1:=hr.out.set (k:=k) (s:=2^k)
     have h2:(Xl n k).set k (2^k)=Xl n (k+1):=by
      refine Jp _ _ _ _ _ ?_ ?_
      ·rw[if_pos ⟨by omega,by omega⟩]
      ·intro j hj;by_cases h3:j<=n/\j<k
       ·rw[if_pos h3,if_pos ⟨h3.1,by omega⟩]
       ·rw[if_neg h3,if_neg (by omega)]
     rw[h2]at h1;rw[a0.out];exact h1
    ·exact⟨(Below.heap_setCell _ _ _ _ (by simp)).trans hz.out.1,rfl⟩
   case measure=>simp[intOf];omega
  ·obtain rfl:k=n+1:=by omega
   have hid:Xl n (n+1)=idR n:=by unfold Xl idR;apply List.map_congr_left;intro j _;by_cases h:j<=n<;>simp[h];omega
   have HI:=hI hid;clear hid
   go_wp2_with(first
    |(refine Ft rfl (.tmp 3) rfl (w.heap.size+1) _ rfl hr.out ?_)
    |(refine B2 rfl (.tmp 2) (.tmp 15) rfl w.heap.size B1 _ rfl rfl hz.out (by simp[Xl]) ?_;intro w1 a2 a1 a3))
   exact bodyPost_ret (Er Tryz.results266 _ _ w.heap.size _ rfl a2) rfl ⟨by rw[HI.out],hB.trans (a1.to_below (fun k h=>by subst h;omega) hB.size)⟩
def orR (x y:List Nat):List Nat:=List.zipWith (· ||| ·) x y
def Ur (x y:List Nat)(k:Nat):List Nat:=(orR x y).take k++x.drop k
theorem Aev (x y:List Nat):Ur x y 0=x:=by simp[Ur]
theorem Aip (x y:List Nat)(hx:x.length=33)(hy:y.length=33):Ur x y 33=orR x y:=by
 unfold Ur;rw[List.take_of_length_le (by simp[orR,hx,hy]),List.drop_eq_nil_of_le (by omega),List.append_nil]
theorem Aiq (x y:List Nat)(k a b:Nat)(hx:x.length=33)(hy:y.length=33)(ha:x[k]? =some a)(hk:k<33):(Ur x y k)[k]? =some a:=by
 unfold Ur;have hl:((orR x y).take k).length=k:=by rw[List.length_take];unfold orR;rw[List.length_zipWith];omega
 rw[List.getElem?_append_right (by omega),hl,Nat.sub_self,List.getElem?_drop,Nat.add_zero,ha]
theorem Air (x y:List Nat)(k a b:Nat)(hx:x.length=33)(hy:y.length=33)(ha:x[k]? =some a)(hb:y[k]? =some b)(hk:k<33):
  (Ur x y k).set k (a ||| b)=Ur x y (k+1):=by
 unfold Ur;have hl:((orR x y).take k).length=k:=by rw[List.length_take];unfold orR;rw[List.length_zipWith];omega
 have h1:(orR x y)[k]? =some (a ||| b):=by unfold orR;rw[List.getElem?_zipWith,ha,hb]
 rw[List.set_append,if_neg (by omega),hl,Nat.sub_self,Bd _ k _ h1,List.append_assoc];congr 1;obtain⟨h2,h3⟩:=List.getElem?_eq_some_iff.1 ha;rw[List.drop_eq_getElem_cons h2];rfl
theorem Anq (bx by_:Nat)(x y:List Nat)(w:World)(hx:B9 w bx x)(hy:B9 w by_ y)(hne:bx≠by_)(hsx:∀s∈x,Cu s)(hsy:∀s∈y,Cu s):
  Calls Tryz.prog 264 #[.pointer (some ⟨bx,0,none⟩), .pointer (some ⟨by_,0,none⟩)] w fun e w'=>
   e= .returned (.tuple #[])/\B9 w' bx (orR x y)/\Ba (· =bx) w w'/\w'.heap.size=w.heap.size:=by
 have HX:=hI hx;clear hx;have HY:=hI hy;clear hy;have a3:=hI hsx;clear hsx;have a2:=hI hsy;clear hsy;go_enter Tryz.func264,Tryz.ntmps264;go_wp2
 go_loopw [4,5,7] (fun _ _ i wr=>∃k:Nat,k<=33/\i= .int .i64 k/\Hid (B9 wr bx (Ur x y k))/\Hid (B9 wr by_ y)/\Hid (Ba (· =bx) w wr/\wr.heap.size=w.heap.size)) (fun _ _ i _=>33-(intOf i).toNat)
 case atStart=>exact⟨0,by omega,rfl,by rw[Aev];exact HX.out,HY.out,Ba.refl _ _,rfl⟩
 case round=>
  obtain⟨k,hk,rfl,hr,a1,a0⟩:=hrel;by_cases hlt:k<33
  ·have hs:((k:Nat):Int)<33:=by omega
   obtain⟨a,ha⟩:∃a,x[k]? =some a:=⟨x[k]'(by have:=HX.out.2;omega),List.getElem?_eq_getElem _⟩;obtain⟨b,hb⟩:∃b,y[k]? =some b:=⟨y[k]'(by have:=HY.out.2;omega),List.getElem?_eq_getElem _⟩;have c1:=hr.out.get (Aiq x y k a b HX.out.2 HY.out.2 ha hlt);have c2:=a1.out.get hb;have c3:=hr.out.frozen k;have a4:=Sl a b (a3.out a (List.mem_of_getElem? ha)) (a2.out b (List.mem_of_getElem? hb));have HA:=hI ha;clear ha;have HB:=hI hb;clear hb;go_wp2
   go_quiet (fail)
   go_wp2;refine Bg (fun W'=>W'.cell? ⟨bx,k,none⟩=some (.int .u64 (a:Int))) (by kernel_rfl) c1 (fun hHeld=> ?_)
   (refine' Ae 0 rfl ?_;(try simp only[Act.put,nY,nX]));(refine' Ae 1 rfl ?_;(try simp only[Act.put,nY,nX]));(refine' Ae 2 rfl ?_;(try simp only[Act.put,nY,nX]));(refine' Ae 3 rfl ?_;(try simp only[Act.put,nY,nX]));(refine' Ae 4 rfl ?_;(try simp only[Act.put,nY,nX]));(refine' Ae 5 rfl ?_;(try simp only[Act.put,nY,nX]));(refine' Ae 6 rfl ?_;(try simp only[Act.put,nY,nX]));(refine' Ae 7 rfl ?_;(try simp only[Act.put,nY,nX]));(refine' Ae 8 rfl ?_;(try simp only[Act.put,nY,nX]))
   (refine Anv 9 rfl (fun K' hK'=> ?_);simp only[nY];go_simp)
   refine hK' _ _ ⟨.inl (by kernel_rfl),fun _=>Bf (by kernel_rfl) ?_ _⟩
   go_wp2
   go_roundw
   case rel=>
    refine⟨k+1,by omega,by go_num, ?_, ?_, ?_, ?_⟩
    ·have h1:=hr.out.set (k:=k) (s:=a ||| b);rw[Air x y k a b HX.out.2 HY.out.2 HA.out HB.out hlt]at h1;exact h1
    ·exact⟨(Below.heap_setCell _ _ _ _ (Ne.symm hne)).trans a1.out.1,a1.out.2⟩
    ·exact((a0.out.1.drewN nq).setCell (p:=⟨bx,k,none⟩) rfl _).drew
    ·have:=a0.out.2;simpa using this
   case measure=>simp[intOf];omega
  ·obtain rfl:k=33:=by omega
   go_wp2
   go_end0
   exact⟨rfl,by have:=hr.out;rwa[Aip x y HX.out.2 HY.out.2]at this,a0.out.1,a0.out.2⟩
def Mm:Nat->List Nat->Nat->List Nat->List Nat
 |0,_,_,out=>out
 |f+1,x,k,out=>if k=0 then out else Mm f (Cn x x) (k/2) (if k%2=1 then Cn out x else out)
def J6 (x:List Nat)(k n:Nat):List Nat:=Mm 7 x k (idR n)
def Bl (x:List Nat):Prop:=∀s∈x,Cu s
theorem Dt (x y:List Nat)(hy:Bl y):Bl (Cn x y):=by
 intro s hs;obtain⟨t,_,rfl⟩:=List.mem_map.1 hs;exact Xk y t hy
theorem C9 (x y:List Nat):(Cn x y).length=x.length:=by simp[Cn]
theorem Fe (n:Nat):Bl (idR n):=by
 intro s hs;obtain⟨k,hk,rfl⟩:=List.mem_map.1 hs;have hk:=List.mem_range.1 hk;split
 ·have hp:2^k<=2^32:=Nat.pow_le_pow_right (by decide) (by omega);have a0:(2:Nat)^32=4294967296:=by decide
  unfold Cu;omega
 ·exact D3
theorem Hr (n:Nat):(idR n).length=33:=by simp[idR]
theorem Us:∀j:Nat,j<65->bits .and .i64 (j:Int) 1=((j%2:Nat):Int):=by decide+kernel
theorem Tn (f j:Nat)(h:j<2^(f+1)):j/2<2^f:=by rw[Nat.pow_succ]at h;omega
theorem Xm (x:List Nat)(k n:Nat)(w:World)(hx:x.length=33)(hs:Bl x)(hk:k<=64)(hn:n<=32)(hT:Cw w):
  Calls Tryz.prog 260 #[.agg (Ex x), .int .i64 (k:Int), .int .i64 (n:Int)] w fun e w'=>e= .returned (.agg (Ex (J6 x k n)))/\Below w.heap.size w w':=by
 have HX:=hI hx;clear hx;have HS:=hI hs;clear hs;have HT:=hI hT;clear hT;go_enter Tryz.func260,Tryz.ntmps260
 go_wp2_with(first
  |(go_at_call 266;refine(Nv n _ hn).mono ?_;rintro e w1 ⟨rfl,b0⟩;have d8:=Db b0;(try simp only[World.size_alloc,World.size_drew,World.size_setCell]at d8)
    have d2:B9 w1 w.heap.size x:=⟨(b0.block _ sd).trans hpt,HX.out⟩;have d3:B9 w1 (w.heap.size+1) B1:=⟨(b0.block _ sd).trans hpt,rfl⟩;have b1:Below w.heap.size w w1:=bel;clear b0)
  |(refine B2 rfl (.tmp 7) (.tmp 9) rfl _ B1 (idR n) rfl rfl ?hr (Hr n) ?hc))
 case hr=>exact⟨hpt,rfl⟩
 case hc=>
  intro w2 d0 a8 f6;have d6:Hid (B9 w2 w.heap.size x):=(d2.alloc _).keep1 a8 (by omega);have b7:Hid (B9 w2 (w.heap.size+1) B1):=(d3.alloc _).keep1 a8 (by omega);have f3:Below w.heap.size w w2:=Bo (b1.alloc b1.size _) a8 (by omega) sd;have g1:Hid (B9 w2 w1.heap.size (idR n)):=d0;have g5:w1.heap.size<w2.heap.size:=by omega
  clear d2 d3 a8 f6 d0 b1;go_wp2
  go_loopw [1] (fun q wr=>∃(f j:Nat) (x' out:List Nat),j<2^f/\q= .int .i64 j/\Hid (Mm f x' j out=J6 x k n)/\Hid (B9 wr w.heap.size x')/\Hid (B9 wr (w.heap.size+1) B1)/\Hid (B9 wr w1.heap.size out)∧
    Hid (Bl x'/\Bl out)/\Below w.heap.size w wr/\j<=64) (fun q _=>(intOf q).toNat)
  case atStart=>exact⟨7,k,x,idR n,by omega,rfl,rfl,d6,b7,g1,⟨HS.out,Fe n⟩,f3,hk⟩
  case round=>
   obtain⟨f,j,x',out,hf,rfl,hp,hx,hz,ho,a0,hB,hj⟩:=hrel;have g6:=hB.size;have g4:=ho.out.lt;have g2:=hx.out.lt;have b8:=hI (HT.out.below hB rr);by_cases hj0:j=0
   ·subst hj0;have a6:out=J6 x k n:=by have:=hp.out;cases f<;>simpa[Mm]using this
    have HO:=hI a6;clear a6
    go_wp2_with(first
     |(refine Ft rfl (.tmp 7) rfl w1.heap.size out rfl ho.out ?_)
     |(refine B2 rfl (.tmp 6) (.tmp 19) rfl (w.heap.size+1) B1 out rfl rfl hz.out ho.out.2 ?_;intro w3 b7 f9 g3))
    exact bodyPost_ret (Er Tryz.results260 _ _ (w.heap.size+1) _ rfl b7) rfl ⟨by rw[HO.out],Bo hB f9 (by omega) hB.size⟩
   ·obtain⟨f,rfl⟩:∃g,f=g+1:=⟨f-1,by cases f with|zero=>simp at hf;omega|succ g=>rfl⟩
    have d7:(0:Int)<(j:Int):=by omega
    have a9:=Us j (by omega);by_cases hodd:j%2=1
    ·have ht:(bits .and .i64 (j:Int) 1==1)=true:=by rw[a9,hodd];rfl
     clear a9;go_wp2_with fail;refine(Qt w1.heap.size w.heap.size out x' _ ho.out hx.out b8.out a0.out.2 a0.out.1).mono ?_;rintro e w3 ⟨rfl,a7⟩;have d5:=hI (hx.out.below a7 rr);have d1:=hI (ho.out.below a7 rr);have f8:=hI (hz.out.below a7 rr);have f7:=hI (b8.out.below a7 rr);have d4:Below w.heap.size w w3:=bel;clear a7;go_wp2_with(refine B2 rfl (.tmp 7) (.tmp 17) rfl _ out (Cn out x') rfl rfl d1.out (by rw[C9];exact d1.out.2) ?_;intro w4 b9 a5 f1);have b5:=hI (d5.out.keep1 a5 (by omega));have f2:=hI (f8.out.keep1 a5 (by omega));have f4:=hI (f7.out.keep a5 (by have:=HT.out.1;omega));have f0:=hI b9;have d9:Below w.heap.size w w4:=Bo d4 a5 (by omega) d4.size;have g0:=d9.size;clear b9 a5 f1;go_wp2_with fail;refine(Qt w.heap.size w.heap.size x' x' _ b5.out b5.out f4.out a0.out.1 a0.out.1).mono ?_;rintro e w5 ⟨rfl,a1⟩;have a4:=hI (b5.out.below a1 rr);have b2:=hI (f0.out.below a1 rr);have b4:=hI (f2.out.below a1 rr);have a3:Below w.heap.size w w5:=bel;clear a1;go_wp2_with(refine B2 rfl (.tmp 3) (.tmp 18) rfl _ x' (Cn x' x') rfl rfl a4.out (by rw[C9];exact a4.out.2) ?_;intro w6 b3 a2 f5)
     go_roundw
     case rel=>
      have b6:Mm f (Cn x' x') (j/2) (Cn out x')=J6 x k n:=by have:=hp.out;simp only[Mm,hj0,if_false]at this;simpa[hodd]using this
      exact⟨f,j/2,Cn x' x',Cn out x',Tn f j hf,by go_num,b6,b3,b4.out.keep1 a2 (by omega),b2.out.keep1 a2 (by omega),⟨Dt _ _ a0.out.1,Dt _ _ a0.out.1⟩,Bo a3 a2 rr a3.size,by omega⟩
     case measure=>simp[intOf];omega
    ·have ht:(bits .and .i64 (j:Int) 1==1)=false:=by rw[a9];simp;omega
     clear a9;go_wp2_with fail;refine(Qt w.heap.size w.heap.size x' x' _ hx.out hx.out b8.out a0.out.1 a0.out.1).mono ?_;rintro e w5 ⟨rfl,a1⟩;have a4:=hI (hx.out.below a1 rr);have b2:=hI (ho.out.below a1 rr);have b4:=hI (hz.out.below a1 rr);have a3:Below w.heap.size w w5:=bel;clear a1;go_wp2_with(refine B2 rfl (.tmp 3) (.tmp 18) rfl _ x' (Cn x' x') rfl rfl a4.out (by rw[C9];exact a4.out.2) ?_;intro w6 b3 a2 f5)
     go_roundw
     case rel=>
      have b6:Mm f (Cn x' x') (j/2) out=J6 x k n:=by have:=hp.out;simp only[Mm,hj0,if_false]at this;simpa[hodd]using this
      exact⟨f,j/2,Cn x' x',out,Tn f j hf,by go_num,b6,b3,b4.out.keep1 a2 (by omega),b2.out.keep1 a2 (by omega),⟨Dt _ _ a0.out.1,a0.out.2⟩,Bo a3 a2 rr a3.size,by omega⟩
     case measure=>simp[intOf];omega
end Go.Proofs.YtaglfmlgbcmakaaGreatDoor
