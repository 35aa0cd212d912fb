/-
  math/bits.TrailingZeros64, over its table; sets of places as numbers.
  Relations of places: arrays of 33 sets; pats.relation's methods.
  Relations of places, on: identity, or, power.
  pats.relation.power.
-/
import Derived.Lib.TrailingZeros
import Derived.Laws.Bits64b
import Derived.Test.YtaglfmlgbcmakaaGreatDoorG02
set_option linter.all false
set_option maxRecDepth 100000
set_option maxHeartbeats 4000000
namespace Go.Proofs.YtaglfmlgbcmakaaGreatDoor
open Go.RowKit
def Cc (w:World):Prop:=3<w.heap.size∧∀j,j<64->w.cell? ⟨3,j,none⟩=some (.int .u8 (Lib.deBruijn64tab.getD j 0))
theorem Cc.below {w w':World}(h:Cc w){B:Nat}(hb:Below B w w')(hB:w.heap.size<=B):Cc w':=
 ⟨Nat.lt_of_lt_of_le h.1 hb.size,fun j hj=>(hb.cell (p:=⟨_,j,none⟩) (Nat.lt_of_lt_of_le h.1 hB)).trans (h.2 j hj)⟩
theorem Cc.keep {S:Nat->Prop}{w w':World}(h:Cc w)(hk:Ag S w w')(hS:¬S 3):Cc w':=
 ⟨Nat.lt_of_lt_of_le h.1 hk.size,fun j hj=>(World.cell?_of_block (hk.block _ h.1 hS)).trans (h.2 j hj)⟩
theorem Abj (x k idx:Nat)(w:World)(hx0:((x:Int)==0)=false)
  (key:IntKind.u64.wrap (bits BinOp.and IntKind.u64 (x:Int) (IntKind.u64.wrap (-(x:Int)))*285870213051353865)/288230376151711744=(idx:Int))
  (hi:idx<64) (hk:k<64) (hcell:w.cell? ⟨3,idx,none⟩=some (.int .u8 k)):
  Calls Tryz.prog 244 #[.int .u64 x] w fun e w'=>e= .returned (.int .i64 k)/\w=w':=by
 go_enter Tryz.func244,Tryz.ntmps244;go_wp2_with(simp only[key]);go_ret;exact⟨rfl,rfl⟩
theorem Adg (x a:Nat)(hx:x<18446744073709551616)(hx0:x≠0)(hlow:x &&& (18446744073709551616-x)=a):
  IntKind.u64.wrap (bits BinOp.and IntKind.u64 (x:Int) (IntKind.u64.wrap (-(x:Int)))*285870213051353865)/288230376151711744=((a*285870213051353865%18446744073709551616/288230376151711744:Nat):Int):=by
 have e1:IntKind.u64.wrap (-(x:Int))=((18446744073709551616-x:Nat):Int):=by rw[IntKind.wrap_u64];omega
 rw[e1,u64_and_nat x _ hx (by omega),hlow,IntKind.wrap_u64];omega
def ctz (x:Nat):Nat:=Lib.ctz 64 x
def Cd (s:Nat):Prop:=s<8589934592
theorem Aev (x:Nat)(w:World)(h0:x≠0)(hx:Cd x)(hT:Cc w):
  Calls Tryz.prog 244 #[.int .u64 x] w fun e w'=>e= .returned (.int .i64 (ctz x))/\w=w':=by
 unfold Cd at hx;obtain⟨a1,hk⟩:=Lib.lowest_bit 64 x h0 (by omega);obtain⟨hi,a2⟩:=Lib.deBruijn64_at _ hk;have a0:=hT.2 _ hi;rw[a2]at a0;exact Abj x _ _ w (by simp;omega) (Adg x _ (by omega) h0 a1) hi hk a0
end Go.Proofs.YtaglfmlgbcmakaaGreatDoor
namespace Go.Proofs.YtaglfmlgbcmakaaGreatDoor
open Go.RowKit
attribute [local go_sem] Oper.semAt_some
def Dh (r:List Nat):Array Value:=(r.map fun(s:Nat)=>Value.int .u64 (s:Int)).toArray
def Bk (w:World)(b:Nat)(r:List Nat):Prop:=w.heap[b]? =some (.cells (Dh r) 266 (0,0))/\r.length=33
def Bl:List Nat:=List.replicate 33 0
theorem Bk.get {w:World}{b k s:Nat}{r:List Nat}(h:Bk w b r)(hk:r[k]? =some s):w.cell? ⟨b,k,none⟩=some (.int .u64 (s:Int)):=by
 rw[cell_of_row w b k _ _ _ h.1];simp[Dh,hk]
theorem Bk.below {w w':World}{b:Nat}{r:List Nat}(h:Bk w b r){B:Nat}(hb:Below B w w')(hB:w.heap.size<=B):Bk w' b r:=
 ⟨(hb.block b (Nat.lt_of_lt_of_le (Array.getElem?_eq_some_iff.1 h.1).1 hB)).trans h.1,h.2⟩
theorem Bk.lt {w:World}{b:Nat}{r:List Nat}(h:Bk w b r):b<w.heap.size:=(Array.getElem?_eq_some_iff.1 h.1).1
def G:List Nat->Nat->Nat
 |[],_=>0
 |v::ys,s=>(if s%2=1 then v else 0) ||| G ys (s/2)
def C9 (x y:List Nat):List Nat:=x.map (G y)
theorem Aac:∀y,G y 0=0
 |[]=>rfl
 |_::ys=>by simp[G,Aac ys]
theorem Aad:∀(y:List Nat) (k m:Nat),k<y.length->G y (2^k*(2*m+1))=y.getD k 0 ||| G y (2^k*(2*m+1)-2^k)
 |[],_,_,h=>by simp at h
 |v::ys,0,m,_=>by
  simp only[G,Nat.pow_zero,Nat.one_mul,List.getD_cons_zero,Nat.add_sub_cancel];rw[if_pos (by omega),if_neg (by omega),show(2*m+1)/2=m by omega,show 2*m/2=m by omega,Nat.zero_or]
 |v::ys,k+1,m,h=>by
  have ih:=Aad ys k m (by simpa using h);have e:2^(k+1)*(2*m+1)=2*(2^k*(2*m+1)):=by rw[Nat.pow_succ];simp only[Nat.mul_assoc,Nat.mul_comm,Nat.mul_left_comm]
  have e':2^(k+1)*(2*m+1)-2^(k+1)=2*(2^k*(2*m+1)-2^k):=by rw[e,Nat.pow_succ,Nat.mul_sub];simp only[Nat.mul_comm]
  simp only[G,List.getD_cons_succ];rw[e',e,if_neg (by omega),if_neg (by omega),Nat.mul_div_cancel_left _ (by decide),Nat.mul_div_cancel_left _ (by decide),Nat.zero_or,Nat.zero_or,ih]
def clr (s:Nat):Nat:=s-2^ctz s
theorem Lb (s:Nat)(h0:s≠0)(hs:Cd s):∃m,s=2^ctz s*(2*m+1)/\ctz s<33:=by
 unfold Cd at hs;obtain⟨m,hm,hk⟩:=Lib.ctzFrom_spec 64 s (by omega) (by omega);have e:ctz s=Lib.ctzFrom 64 s:=by simp[ctz,Lib.ctz,h0]
 rw[←e]at hm hk;refine⟨m,hm, ?_⟩;rcases Nat.lt_or_ge (ctz s) 33 with h|h
 ·exact h
 ·have h1:2^33<=2^ctz s:=Nat.pow_le_pow_right (by decide) h;have h2:2^ctz s<=2^ctz s*(2*m+1):=Nat.le_mul_of_pos_right _ (by omega);rw[←hm]at h2;have h3:(2:Nat)^33=8589934592:=by decide
  omega
theorem Adz (s:Nat)(h0:s≠0)(hs:Cd s):ctz s<33:=by obtain⟨_,_,h⟩:=Lb s h0 hs;exact h
theorem Ad0 (s:Nat)(h0:s≠0):clr s<s:=by have:=Nat.two_pow_pos (ctz s);unfold clr;omega
theorem Xd (s:Nat)(hs:Cd s):Cd (clr s):=by have:=Nat.sub_le s (2^ctz s);unfold Cd clr at*;omega
theorem Aeo (y:List Nat)(hy:y.length=33)(s:Nat)(h0:s≠0)(hs:Cd s):G y s=y.getD (ctz s) 0 ||| G y (clr s):=by
 obtain⟨m,hm,hk⟩:=Lb s h0 hs;have h:=Aad y (ctz s) m (by omega);rw[←hm]at h;exact h
theorem Aae (s:Nat)(h0:s≠0)(hs:Cd s):bits BinOp.andNot IntKind.u64 (s:Int) (IntKind.u64.wrap (2^min (ctz s) 64))=((clr s:Nat):Int):=by
 obtain⟨m,hm,hk⟩:=Lb s h0 hs;have a1:min (ctz s) 64=ctz s:=by omega
 have hp:2^ctz s<=2^33:=Nat.pow_le_pow_right (by decide) (by omega);have a4:(2:Nat)^33=8589934592:=by decide
 have hw:IntKind.u64.wrap ((2:Int)^ctz s)=((2^ctz s:Nat):Int):=by
  rw[IntKind.wrap_u64]
  have:((2:Int)^ctz s)=((2^ctz s:Nat):Int):=by simp
  rw[this];generalize 2^ctz s=q at*;omega
 unfold Cd at hs;rw[a1,hw,u64_andNot_nat s _ (by omega) (by omega)];congr 1;generalize hj:ctz s=j at*;have a2:2^j<2^64:=Nat.pow_lt_pow_right (by decide) (by omega)
 have a0:clr s=2^(j+1)*m:=by
  unfold clr;rw[hj];conv=>lhs;rw[hm]
  rw[Nat.pow_succ,Nat.mul_add,Nat.mul_one,Nat.add_sub_cancel,Nat.mul_assoc]
 apply Nat.eq_of_testBit_eq;intro i;rw[show 18446744073709551615-2^j=2^64-(2^j+1)by rw[show(2:Nat)^64=18446744073709551616 by decide];omega];rw[Nat.testBit_and,Nat.testBit_two_pow_sub_succ a2,Nat.testBit_two_pow,a0,Nat.testBit_two_pow_mul]
 have a3:s.testBit i=(decide (j<=i) && (2*m+1).testBit (i-j)):=by
  conv=>lhs;rw[hm,Nat.testBit_two_pow_mul]
 rw[a3];by_cases h1:i<j
 ·have:¬j<=i:=by omega
  have h2:¬j+1<=i:=by omega
  simp[this,h2]
 ·by_cases h2:i=j
  ·subst h2;simp only[Nat.lt_irrefl,decide_true,Bool.not_true,Bool.and_false,ge_iff_le];simp;omega
  ·have e:i-j=(i-(j+1))+1:=by omega
   have h3:j<=i:=by omega
   have h4:j+1<=i:=by omega
   have h5:¬j=i:=by omega
   rw[e,Nat.testBit_succ,show(2*m+1)/2=m by omega];simp only[h3,h4,h5,decide_true,decide_false,Bool.true_and,Bool.not_false,Bool.and_true];by_cases h6:i<64
   ·simp[h6]
   ·have:m.testBit (i-(j+1))=false:=by
     apply Nat.testBit_lt_two_pow
     have h7:m<2^(33-(j+1)):=by
      have h8:2^(j+1)*m<=clr s:=by rw[a0];exact rr
      have h9:clr s<2^33:=by rw[a4];have:=Nat.sub_le s (2^ctz s);unfold clr;omega
      have a5:2^33=2^(j+1)*2^(33-(j+1)):=by rw[←Nat.pow_add];congr 1;omega
      rw[a5]at h9;exact Nat.lt_of_mul_lt_mul_left (Nat.lt_of_le_of_lt h8 h9)
     exact Nat.lt_of_lt_of_le h7 (Nat.pow_le_pow_right (by decide) (by omega))
    simp[this]
theorem Qm (m l bs s0:Nat)(hm:1<=m)(J Jx:Nat->World->Prop)(W:World)
  (hst:∀s v W,J s W->J s (W.setCell ⟨bs,0,none⟩ v)) (hdr:∀s W,J s W->J s W.drew) (hT:∀s W,J s W->Cc W)
  (hy:∀s W,s≠0->Cd s->J s W->YieldAt Fence.wide (m-1) Tryz.prog l #[.int .i64 (ctz s)] W (fun e W'=>
   (e= .returned (.bool true)/\J (clr s) W'/\W'.heap[bs]? =W.heap[bs]?)\/(e= .returned (.bool false)/\Jx (clr s) W')))
  (h0:J s0 W) (hb:W.heap[bs]? =some (.cells #[.int .u64 (s0:Int)] 264 (0,0))) (hs:Cd s0):
  CallsIn Fence.wide m Tryz.prog 243 #[.func (.yield l) #[] #[], .pointer (some ⟨bs,0,none⟩)] W fun e W'=>(∃v,e= .returned v)/\(J 0 W'∨∃s,Jx s W'):=by
 have a5:=hI hst;clear hst;have b2:=hI hdr;clear hdr;have HT:=hI hT;clear hT;have Hy:=hI hy;clear hy;have H0:=hI h0;clear h0;have HB:=hI hb;clear hb;have HS:=hI hs;clear hs;refine callsIn_of_wp Tryz.func243 rfl trivial ?_;simp only[Tryz.ntmps243,List.size_toArray,List.length_cons,List.length_nil,Nat.reduceAdd,Nat.reduceSub,Array.replicate_succ,Array.replicate_zero,List.push_toArray,List.append_toArray,List.nil_append,List.cons_append];gi_wp2
 gi_loopw [3] (fun _ wr=>∃s:Nat,Hid (Cd s)/\Hid (wr.heap[bs]? =some (.cells #[.int .u64 (s:Int)] 264 (0,0)))/\Hid (J s wr))
  (fun _ wr=>match wr.cell? ⟨bs,0,none⟩with|some (.int _ q)=>q.toNat|_=>0)
 case atStart=>exact⟨s0,HS,HB,H0⟩
 case round=>
  obtain⟨s,hs,hb,hj⟩:=hrel;have hc:=cell_of_one hb.out;have hf:=free_of_one hb.out;by_cases h0:s=0
  ·subst h0;gi_wp2
   go_end0
   exact⟨⟨_,rfl⟩, .inl hj.out⟩
  ·have b3:((s:Int) !=0)=true:=by simp;exact h0
   have a0:=hI h0;clear h0
   gi_wp2_with (refine⟨trivial, ?_⟩;gi_at_call 244;refine(callsIn_wide.2 (Aev s _ a0.out hs.out (HT.out s _ hj.out))).mono ?_;rintro e w1 ⟨rfl,rfl⟩)
   have hv:=Aae s a0.out hs.out
   gi_region
   clear hv hc hf;have a7:=b2.out _ _ (a5.out s (.int .u64 (clr s:Int)) _ hj.out);obtain⟨fn,tmps,assign,body,b4,hR⟩:=Hy.out s _ a0.out hs.out a7;have HR:=hI hR;clear hR;gi_wp2;refine HR.out.mono ?_;have a1:=one_setCell (u:= .int .u64 (clr s:Int)) hb.out;rintro e W3 (⟨rfl,a4,a3⟩|⟨rfl,b0⟩)
   ·have a9:=hI a4;clear a4;have a2:=hI (a3.trans a1);clear a3 a1;have b1:=Ad0 s a0.out;have a8:=cell_of_one a2.out;have a6:=cell_of_one hb.out;gi_wp2
    go_roundw
    case rel=>exact⟨clr s,Xd s hs.out,a2,a9⟩
    case measure=>rw[a8,a6];simp only[Int.toNat_natCast];exact b1
   ·gi_wp2;refine bodyPost_ret (results_none rfl _ _ _) rfl ?_;exact⟨⟨_,rfl⟩, .inr ⟨_,b0⟩⟩
theorem Ada (s:Nat)(w:World):
  Calls Tryz.prog 239 #[.int .u64 (s:Int)] w fun e w'=>e= .returned (.func (.func 243) #[] #[.pointer (some ⟨w.heap.size,0,none⟩)])/\w.alloc (.cells #[.int .u64 (s:Int)] 264)=w':=by
 go_enter Tryz.func239,Tryz.ntmps239;go_wp2;go_ret;exact⟨rfl,rfl⟩
theorem Bk.putObj {w:World}{b l:Nat}{o:Obj}{r:List Nat}(h:Bk w b r)(hl:b≠l):Bk (w.putObj l o) b r:=⟨(World.putObj_heap_other hl).trans h.1,h.2⟩
theorem Bk.keep {S:Nat->Prop}{w w':World}{b:Nat}{r:List Nat}(h:Bk w b r)(hk:Ag S w w')(hb:¬S b):Bk w' b r:=⟨(hk.block b h.lt hb).trans h.1,h.2⟩
theorem Bk.set {w:World}{b k s:Nat}{r:List Nat}(h:Bk w b r):Bk (w.setCell ⟨b,k,none⟩ (.int .u64 (s:Int))) b (r.set k s):=by
 refine⟨?_,by rw[List.length_set];exact h.2⟩;have hb:=h.1;simp only[World.setCell,Array.getElem?_modify,hb];simp[Dh]
theorem Bk.frozen {w:World}{b:Nat}{r:List Nat}(h:Bk w b r)(k:Nat):w.frozen? ⟨b,k,none⟩=false:=by
 simp[World.frozen?,h.1]
theorem N2 {a b:Nat}(ha:Cd a)(hb:Cd b):Cd (a ||| b):=by
 unfold Cd at*;rw[show 8589934592=2^33 by decide]at*;exact Nat.or_lt_two_pow ha hb
theorem Vw (a b:Nat)(ha:Cd a)(hb:Cd b):bits BinOp.or IntKind.u64 (a:Int) (b:Int)=((a ||| b:Nat):Int):=by
 unfold Cd at*;exact u64_or_nat a b (by omega) (by omega)
theorem Fd:Cd 0:=by unfold Cd;omega
theorem Vx:∀(y:List Nat) (s:Nat),(∀v∈y,Cd v)->Cd (G y s)
 |[],_,_=>Fd
 |v::ys,s,h=>by
  refine N2 ?_ (Vx ys _ fun u hu=>h u (List.mem_cons_of_mem _ hu));split
  ·exact h v (List.mem_cons_self ..)
  ·exact Fd
theorem L4 (bx by_:Nat)(x y:List Nat)(w:World)(hx:Bk w bx x)(hy:Bk w by_ y)(hT:Cc w)(hs:∀s∈x,Cd s)(hsy:∀s∈y,Cd s):
  Calls Tryz.prog 267 #[.pointer (some ⟨bx,0,none⟩), .pointer (some ⟨by_,0,none⟩)] w fun e w'=>e= .returned (.agg (Dh (C9 x y)))/\Below w.heap.size w w':=by
 have HX:=hI hx;clear hx;have HY:=hI hy;clear hy;have HT:=hI hT;clear hT;have HS:=hI hs;clear hs;have d6:=hI hsy;clear hsy;refine(callsIn_wide (n:=9)).1 (callsIn_of_wp_marks Tryz.func267 rfl trivial ?_ rfl);simp only[Tryz.ntmps267,List.size_toArray,List.length_cons,List.length_nil,Nat.reduceAdd,Nat.reduceSub,Array.replicate_succ,Array.replicate_zero,List.push_toArray,List.append_toArray,List.nil_append,List.cons_append];gi_wp2
 refine wpIn_loop (fun a' wr=>∃(k:Nat) (r:List Nat) (ds:List Deferred) (u6 u7 u8 u11 u12 u13 u14 u15 u16 u17 u18 u19 u20 u21 u22 u23 u24 u25 u26 u27 u28 u29:Value),
   a'={tmps:= #[.pointer (some ⟨bx,0,none⟩), .pointer (some ⟨by_,0,none⟩),undef, .pointer (some ⟨w.heap.size,0,none⟩), .pointer (some ⟨w.heap.size+1,0,none⟩), .pointer (some ⟨w.heap.size+1+1,0,none⟩),u6,u7,u8, .pointer (some ⟨bx,0,none⟩), .int .i64 k,u11,u12,u13,u14,u15,u16,u17,u18,u19,u20,u21,u22,u23,u24,u25,u26,u27,u28,u29,undef],defers:=ds}∧
   k<=33/\Cy w.heap.size wr ds/\Bk wr (w.heap.size+1+1) r/\r=(x.take k).map (G y)++List.replicate (33-k) 0∧
   wr.heap[w.heap.size]? =some (.cells #[.pointer (some ⟨by_,0,none⟩)] 304 (0,0))/\wr.heap[w.heap.size+1]? =some (.cells (Dh Bl) 266 (0,0))/\Below w.heap.size w wr)
  (fun a' _=>33-(intOf (a'.tmps.getD 10 undef)).toNat) ?start ?round
 case start=>
  exact⟨0,Bl,[],_,_,_,_,_,_,_,_,_,_,_,_,_,_,_,_,_,_,_,_,_,_,rfl,by omega,trivial,⟨hpt,rfl⟩,rfl,hpt,hpt,bel⟩
 case round=>
  rintro _ wr ⟨k,r,ds,u6,u7,u8,u11,u12,u13,u14,u15,u16,u17,u18,u19,u20,u21,u22,u23,u24,u25,u26,u27,u28,u29,rfl,hk,hM,hr,f5,f4,b9,hB⟩;have HM:=hI hM;clear hM;have HR:=hI hr;clear hr;have b1:=hI f5;clear f5;have d3:=hI f4;clear f4;have a9:=hI b9;clear b9;have d7:=HX.out.2;by_cases hlt:k<33
  ·obtain⟨s,b7⟩:∃s,x[k]? =some s:=⟨x[k],List.getElem?_eq_getElem (by omega)⟩;have j4:wr.cell? ⟨bx,k,none⟩=some (.int .u64 (s:Int)):=(HX.out.below hB rr).get b7;have j7:bx<wr.heap.size:=(HX.out.below hB rr).lt;have d2:=hI b7;clear b7;have f6:=hI d7;clear d7;gi_wp2
   gi_region
   gi_wp2_with (refine⟨trivial, ?_⟩;gi_at_call 239;refine(callsIn_wide.2 (Ada _ _)).mono ?_;rintro e w1 ⟨rfl,rfl⟩)
   have a3:(((wr.alloc (.cells #[.int .i64 (k:Int)] 3)).alloc (.cells #[.int .u64 (s:Int)] 264)).drew).heap.size=wr.heap.size+1+1:=by simp
   have g7:(((wr.alloc (.cells #[.int .i64 (k:Int)] 3)).alloc (.cells #[.int .u64 (s:Int)] 264)).drew).heap[wr.heap.size]? =some (.cells #[.int .i64 (k:Int)] 3 (0,0)):=hpt;have g5:(((wr.alloc (.cells #[.int .i64 (k:Int)] 3)).alloc (.cells #[.int .u64 (s:Int)] 264)).drew).heap[wr.heap.size+1]? =some (.cells #[.int .u64 (s:Int)] 264 (0,0)):=hpt;have a0:Ag (fun _=>False) wr (((wr.alloc (.cells #[.int .i64 (k:Int)] 3)).alloc (.cells #[.int .u64 (s:Int)] 264)).drew):=(((Ag.refl _ _).alloc _).alloc _).drew;generalize(((wr.alloc (.cells #[.int .i64 (k:Int)] 3)).alloc (.cells #[.int .u64 (s:Int)] 264)).drew)=W0 at*;refine Dw (gf:=243) (lb:= #[.pointer (some ⟨wr.heap.size+1,0,none⟩)]) rfl (enters_of Tryz.func243 (by kernel_rfl) rfl) fun fn D l rc W1 hrc hD hl hK1 hD1 hl1 d1=> ?_
   have j3:wr.heap.size+1+1<l:=by omega
   have j0:wr.heap.size+1<W0.heap.size:=by omega
   have j6:wr.heap.size+1<D:=by omega
   have j5:D<l:=by omega
   have k0:l<W1.heap.size:=by omega
   have i6:=hI hrc;clear hrc;have HE:=hI (And.intro hD (And.intro hl (And.intro d1 a3)));clear hD hl d1 a3;have a4:Bk W1 (w.heap.size+1+1) r:=(HR.out.keep a0 (by simp)).keep hK1 (by simp);have j8:=a4.lt;have b9:w.heap.size+1+1<wr.heap.size:=HR.out.lt;have i5:W1.heap[wr.heap.size+1]? =some (.cells #[.int .u64 (s:Int)] 264 (0,0)):=(hK1.block _ (by omega) (by simp)).trans g5
   refine(Qm (9-1) l (wr.heap.size+1) s (by omega)
    (fun s' W=>∃o,Bk W (w.heap.size+1+1) (r.set k o)/\Cd o/\o ||| G y s'=G y s/\Ag (fun j=>j=w.heap.size+1+1\/j=wr.heap.size+1\/j=l) W1 W/\W.heap[l]? =some (.loop (rc .ready none)))
    (fun _ _=>False) W1 ?st ?dr ?tab ?yield ?zero i5 (HS.out s (List.mem_of_getElem? d2.out))).mono ?_
   case st=>
    rintro s' v W ⟨o,h1,h2,h3,h4,h5⟩;refine⟨o,⟨(Below.heap_setCell _ _ _ _ (by simp;omega)).trans h1.1,h1.2⟩,h2,h3,h4.setCell (by simp) _,(Below.heap_setCell _ _ _ _ (by simp;omega)).trans h5⟩
   case dr=>
    rintro s' W ⟨o,h1,h2,h3,h4,h5⟩;exact⟨o,h1,h2,h3,h4.drew,h5⟩
   case tab=>
    rintro s' W ⟨o,h1,h2,h3,h4,h5⟩;have hg:=HT.out.1;exact(((HT.out.below hB rr).keep a0 (by simp)).keep hK1 (by simp)).keep h4 (by omega)
   case zero=>
    refine⟨0, ?_,Fd,by simp,Ag.refl _ _,hl1⟩
    have i7:r.set k 0=r:=by
     have b6:((x.take k).map (G y)).length=k:=by rw[List.length_map,List.length_take,f6.out];omega
     rw[b1.out,show 33-k=(33-(k+1))+1 by omega,List.replicate_succ,List.set_append,if_neg (by omega),b6,Nat.sub_self,List.set_cons_zero]
    rw[i7];exact a4
   case yield=>
    rintro s' W f1 d5 ⟨o,h1,h2,h3,h4,h5⟩;refine Dx i6.out h5 rfl ?_;have j9:ctz s'<33:=Adz s' f1 d5;have H5:=hI h5;clear h5;have H3:=hI h3;clear h3;have H1:=hI h1;clear h1;have H4:=hI h4;clear h4;have H2:=hI h2;clear h2;gi_wp2;refine⟨H5.out, ?_⟩;have g4:l<W.heap.size:=(Array.getElem?_eq_some_iff.1 H5.out).1;have d0:(W.putObj l (.loop (rc .busy none))).heap[l]? =some (.loop (rc .busy none)):=World.putObj_heap_same g4;have a5:Ag (fun j=>j=w.heap.size+1+1\/j=wr.heap.size+1\/j=l) W1 (W.putObj l (.loop (rc .busy none))):=H4.out.putObj (by simp) _;have a2:Bk (W.putObj l (.loop (rc .busy none))) (w.heap.size+1+1) (r.set k o):=H1.out.putObj (by omega);have d8:(W.putObj l (.loop (rc .busy none))).heap[wr.heap.size+1]? =W.heap[wr.heap.size+1]? :=World.putObj_heap_other (by omega);generalize W.putObj l (.loop (rc .busy none))=V at*;have f2:V.heap[wr.heap.size]? =some (.cells #[.int .i64 (k:Int)] 3 (0,0)):=(a5.block _ (by omega) (by omega)).trans ((hK1.block _ (by omega) (by simp)).trans g7)
    have d9:V.heap[w.heap.size]? =some (.cells #[.pointer (some ⟨by_,0,none⟩)] 304 (0,0)):=
     (a5.block _ (by omega) (by omega)).trans ((hK1.block _ (by omega) (by simp)).trans ((a0.block _ (by omega) (by simp)).trans d3.out))
    have b3:Bk wr by_ y:=HY.out.below hB rr;have j1:by_<w.heap.size:=HY.out.lt;have b5:Bk V by_ y:=((b3.keep a0 (by simp)).keep hK1 (by simp)).keep a5 (by omega);obtain⟨yv,a8⟩:∃yv,y[ctz s']? =some yv:=⟨y[ctz s']'(by have:=b3.2;omega),List.getElem?_eq_getElem _⟩;have f3:(r.set k o)[k]? =some o:=by rw[List.getElem?_set_self (by have:=a2.2;rw[List.length_set]at this;omega)]
    have c1:=cell_of_one f2;have c2:=cell_of_one d9;have c3:=b5.get a8;have c4:=a2.get f3;have c5:=a2.frozen k;have j2:=Vw o yv H2.out (d6.out yv (List.mem_of_getElem? a8));have f7:=hI a8;clear a8;clear f2 d9 b3 j1 f3;have g2:=hI b5;clear b5;have i2:=hI a2;clear a2;have i9:=hI a5;clear a5;have i0:=hI d0;clear d0;have i1:=hI d8;clear d8;gi_wp2;refine Fv (fun W'=>W'.cell? ⟨wr.heap.size,0,none⟩=some (.int .i64 (k:Int))/\W'.cell? ⟨w.heap.size,0,none⟩=some (.pointer (some ⟨by_,0,none⟩))/\W'.cell? ⟨by_,ctz s',none⟩=some (.int .u64 (yv:Int))/\W'.cell? ⟨w.heap.size+1+1,k,none⟩=some (.int .u64 (o:Int))) (by kernel_rfl) (by kernel_rfl) (fun _ _ h=>by exact h) ⟨c1,c2,c3,c4⟩ (fun hHeld=> ?_);have g1:((ctz s':Nat):Int)<33:=by omega
    (refine' Ab 0 rfl ?_;(try simp only[Act.put,nY,nX]));(refine' Ab 1 rfl ?_;(try simp only[Act.put,nY,nX]));(refine' Ab 2 rfl ?_;(try simp only[Act.put,nY,nX]));(refine' Ab 3 rfl ?_;(try simp only[Act.put,nY,nX]));(refine' Ab 4 rfl ?_;(try simp only[Act.put,nY,nX]));(refine' Ab 5 rfl ?_;(try simp only[Act.put,nY,nX]));(refine' Ab 6 rfl ?_;(try simp only[Act.put,nY,nX]));(refine' Ab 7 rfl ?_;(try simp only[Act.put,nY,nX]));(refine' Ab 8 rfl ?_;(try simp only[Act.put,nY,nX]));(refine' Ab 9 rfl ?_;(try simp only[Act.put,nY,nX]))
    (refine Aeu 10 rfl (fun K' hK'=> ?_);simp only[nY];go_simp)
    refine hK' _ _ ⟨.inl (by kernel_rfl),fun _=>Bc (by kernel_rfl) ?_ _⟩
    simp only[Exit.inBlock];have f9:(V.setCell ⟨w.heap.size+1+1,k,none⟩ (.int .u64 ((o ||| yv:Nat):Int))).drew.heap[l]? =some (.loop (rc .busy none)):=(Below.heap_setCell _ _ _ _ (by simp;omega)).trans i0.out
    have i4:Bk (V.setCell ⟨w.heap.size+1+1,k,none⟩ (.int .u64 ((o ||| yv:Nat):Int))).drew (w.heap.size+1+1) (r.set k (o ||| yv)):=by
     have:=(i2.out.set (k:=k) (s:=o ||| yv))
     rw[List.set_set]at this;exact this
    refine⟨f9,rfl,⟨o ||| yv,i4.putObj (by omega),N2 H2.out (d6.out yv (List.mem_of_getElem? f7.out)), ?_,((i9.out.setCell (by simp) _).drew).putObj (by simp) _,World.putObj_heap_same (Array.getElem?_eq_some_iff.1 f9).1⟩, ?_⟩
    ·have hg:=Aeo y g2.out.2 s' f1 d5;have i8:y.getD (ctz s') 0=yv:=by rw[List.getD_eq_getElem?_getD,f7.out];rfl
     rw[i8]at hg;rw[Nat.or_assoc,←hg];exact H3.out
    ·rw[World.putObj_heap_other (by omega)];exact(Below.heap_setCell _ _ _ _ (by simp;omega)).trans i1.out
   ·rintro e W' ⟨⟨v,rfl⟩,⟨o,h1,h2,h3,h4,h5⟩|⟨s',hf⟩⟩
    ·refine .inl ⟨h5, ?_⟩;rw[Aac,Nat.or_zero]at h3;have f8:Ag (fun j=>j=w.heap.size+1+1\/j=wr.heap.size+1\/j=l) W1 (W'.putObj l (.loop (rc .exhausted none))):=h4.putObj (by simp) _;have d4:Bk (W'.putObj l (.loop (rc .exhausted none))) (w.heap.size+1+1) (r.set k o):=h1.putObj (by omega);generalize W'.putObj l (.loop (rc .exhausted none))=V at*;have a1:=hI f8;clear f8;have g3:=hI d4;clear d4;have H3:=hI h3;clear h3 h4 h1 h5;gi_wp2
     have a7:∀j,j<wr.heap.size->j≠w.heap.size+1+1->V.heap[j]? =wr.heap[j]? :=fun j hj hn=>
      (a1.out.block j (by have:=hK1.size;have:=a0.size;omega) (by omega)).trans ((hK1.block j (by omega) (by simp)).trans (a0.block j hj (by simp)))
     refine⟨⟨k+1,r.set k o,G9 D::ds,⟨by omega,rfl⟩,by omega,⟨D,rfl,by omega,(a1.out.block D (by omega) (by omega)).trans hD1,fun D' hm=> ?_,HM.out.mono fun D' hm hd=> ?_⟩,g3.out, ?_,
      (a7 _ (by omega) (by omega)).trans d3.out,(a7 _ (by omega) (by omega)).trans a9.out, ?_⟩,by simp[intOf];omega⟩
     ·have:=(Array.getElem?_eq_some_iff.1 (HM.out.at_ D' hm).1).1;omega
     ·have h6:=(Array.getElem?_eq_some_iff.1 hd).1;refine(a7 D' h6 ?_).trans hd;rintro rfl;have h7:=HR.out.1;rw[hd]at h7;cases h7
     ·rw[b1.out,H3.out,←List.map_take];have g6:(x.take (k+1)).map (G y)=(x.take k).map (G y)++[G y s]:=by rw[Bp x k s d2.out,List.map_append];rfl
      have b6:((x.take k).map (G y)).length=k:=by rw[List.length_map,List.length_take,f6.out];omega
      rw[g6,show 33-k=(33-(k+1))+1 by omega,List.replicate_succ,List.set_append,if_neg (by omega),b6,Nat.sub_self];simp
     ·refine⟨?_, ?_, ?_, ?_,fun j hj=>(a7 j (by omega) (by omega)).trans (hB.block j hj)⟩
      ·exact(a1.out.os.trans (hK1.os.trans a0.os)).trans hB.os
      ·exact(a1.out.tape.trans (hK1.tape.trans a0.tape)).trans hB.tape
      ·exact(a1.out.output.trans (hK1.output.trans a0.output)).trans hB.output
      ·have:=a1.out.size;have:=hK1.size;have:=a0.size;have:=hB.size;omega
    ·exact hf.elim
  ·obtain rfl:k=33:=by omega
   have g0:r=C9 x y:=by rw[b1.out,List.take_of_length_le (by omega)];simp[C9]
   have hsz:(Tryz.prog.info? 266).map (·.size)=some (Dh r).size:=by
    rw[show(Dh r).size=33 by simp[Dh,HR.out.2]];kernel_rfl
   have a6:(Dh Bl).size=(Dh r).size:=by simp[Dh,HR.out.2,Bl]
   have f0:(Dh r).all (·.oneCell')=true:=by simp[Dh,Array.all_eq_true];intros;rfl
   have b8:=hI hsz;clear hsz;have b4:=hI a6;clear a6;have g9:=hI f0;clear f0;have g8:=hI g0;clear g0;refine wpIn_wide.2 ?_;go_wp2;refine wpIn_wide.2 ?_
   go_wp2_with(first
    |(refine wpList_load_row rfl 266 (.tmp 5) rfl (w.heap.size+1+1) rfl 266 (Dh r) (0,0) _ HR.out.1 Tryz.underlying266 rfl b8.out ?_)
    |(refine wpList_store_row rfl 266 (.tmp 4) (.tmp 30) rfl (w.heap.size+1) (Dh r) rfl rfl 266 (Dh Bl) a9.out b8.out b4.out g9.out ?_))
   have b2:=setRow_heap wr (w.heap.size+1) _ (Dh r) 266 (0,0) a9.out;have b0:Below w.heap.size w (wr.setRow (w.heap.size+1) (Dh r)):=below_setRow hB (by omega) _
   have i3:Cy w.heap.size (wr.setRow (w.heap.size+1) (Dh r)) ds:=HM.out.mono fun D' hm hd=>by
    rw[setRow_other _ _ _ _ (by rintro rfl;rw[a9.out]at hd;cases hd)];exact hd
   refine Ey (B:=w.heap.size) i3 fun w' hw'=>⟨.agg (Dh r),results_cell_row (p:=4) Tryz.results267 _ _ (w.heap.size+1) 266 (Dh r) (0,0) _ rfl (hw'.row b2) Tryz.underlying266 rfl b8.out, ?_,b0.trans hw'.below⟩
   rw[g8.out]
end Go.Proofs.YtaglfmlgbcmakaaGreatDoor
namespace Go.Proofs.YtaglfmlgbcmakaaGreatDoor
open Go.RowKit
theorem Lc {r:List Nat}(h:r.length=33):(Tryz.prog.info? 266).map (·.size)=some (Dh r).size:=by
 rw[show(Dh r).size=33 by simp[Dh,h]];kernel_rfl
theorem Acd (r:List Nat):(Dh r).all (·.oneCell')=true:=by simp[Dh,Array.all_eq_true];intros;rfl
theorem Bk.alloc {w:World}{b:Nat}{r:List Nat}(h:Bk w b r)(o:Obj):Bk (w.alloc o) b r:=⟨(Below.heap_alloc _ _ _ h.lt).trans h.1,h.2⟩
theorem Bk.drew {w:World}{b:Nat}{r:List Nat}(h:Bk w b r):Bk w.drew b r:=h
theorem Bk.keep1 {w w':World}{b c:Nat}{r:List Nat}(h:Bk w b r)(hk:Ag (· =c) w w')(hb:b≠c):Bk w' b r:=h.keep hk hb
theorem Ba {w0 w w':World}{B b:Nat}(hB:Below B w0 w)(hk:Ag (· =b) w w')(hb:B<=b)(hs:B<=w.heap.size):Below B w0 w':=
 hB.trans (hk.to_below (fun k h=>by subst h;exact hb) hs)
theorem D2 {ops:Array Oper}{rest:List Oper}{o:Oper}{a:Act}{w:World}{Q:Exit->Act->World->Prop}(hgd:o.guard=none)(x:Operand)(ho:o.op= .load 266 x)
  (b:Nat) (r:List Nat) (hx:a.eval x= .pointer (some ⟨b,0,none⟩)) (hr:Bk w b r) (h:wpList Tryz.prog ops Q rest (a.put o.dst (.agg (Dh r))) w):wpList Tryz.prog ops Q (o::rest) a w:=
 wpList_load_row hgd 266 x ho b hx 266 (Dh r) (0,0) _ hr.1 Tryz.underlying266 rfl (Lc hr.2) h
theorem Bd {ops:Array Oper}{rest:List Oper}{o:Oper}{a:Act}{w:World}{Q:Exit->Act->World->Prop}(hgd:o.guard=none)(x y:Operand)(ho:o.op= .store 266 x y)
  (b:Nat) (r0 r:List Nat) (hx:a.eval x= .pointer (some ⟨b,0,none⟩)) (hy:a.eval y= .agg (Dh r)) (hr:Bk w b r0) (hl:r.length=33)
  (h:∀w',Bk w' b r->Ag (· =b) w w'->w'.heap.size=w.heap.size->wpList Tryz.prog ops Q rest (a.put o.dst undef) w'):wpList Tryz.prog ops Q (o::rest) a w:=by
 refine wpList_store_row hgd 266 x y ho b (Dh r) hx hy 266 (Dh r0) hr.1 (Lc hl) (by simp[Dh,hl,hr.2]) (Acd r) (h _ ⟨setRow_heap _ _ _ _ _ _ hr.1,hl⟩ ⟨rfl,rfl,rfl,by simp,fun k _ hk=>setRow_other _ _ _ _ hk⟩ (by simp))
theorem Dc {fn:Func}{p:Tmp}(h:fn.results= #[.cell p 266])(tmps:Array Value)(w:World)(b:Nat)(r:List Nat)(hp:tmps.getD p undef= .pointer (some ⟨b,0,none⟩))(hr:Bk w b r):
  (results fn tmps).run Tryz.prog w= .ok (.agg (Dh r)) w:=
 results_cell_row h tmps w b 266 (Dh r) (0,0) _ hp hr.1 Tryz.underlying266 rfl (Lc hr.2)
def idR (n:Nat):List Nat:=(List.range 33).map fun k=>if k<=n then 2^k else 0
def Rg (n j:Nat):List Nat:=(List.range 33).map fun k=>if k<=n/\k<j then 2^k else 0
theorem Xe (n:Nat):Rg n 0=Bl:=by
 have h:Rg n 0=(List.range 33).map fun _=>0:=List.map_congr_left fun j _=>by rw[if_neg (by omega)]
 rw[h];rfl
theorem Ace (k:Nat)(hk:k<33):IntKind.u64.wrap (2^min k 64)=((2^k:Nat):Int):=by
 have hp:2^k<=2^33:=Nat.pow_le_pow_right (by decide) (by omega);have a0:(2:Nat)^33=8589934592:=by decide
 rw[IntKind.wrap_u64,show min k 64=k by omega]
 have:((2:Int)^k)=((2^k:Nat):Int):=by simp
 rw[this];generalize 2^k=q at*;omega
theorem N3 (k:Nat)(hk:k<33):IntKind.u64.wrap (2^k)=((2^k:Nat):Int):=by
 have:=Ace k hk;rwa[show min k 64=k by omega]at this
theorem Qn (f g:Nat->Nat)(m j v:Nat)(hj:g j=v)(h:∀k,k≠j->g k=f k):((List.range m).map f).set j v=(List.range m).map g:=by
 apply List.ext_getElem?;intro i;rw[List.getElem?_set];simp only[List.getElem?_map,List.length_map,List.length_range];by_cases hi:i<m
 ·by_cases e:j=i
  ·subst e;simp[hi,hj]
  ·rw[if_neg e,List.getElem?_range hi];simp[h i (Ne.symm e)]
 ·have:(List.range m)[i]? =none:=List.getElem?_eq_none (by simp;omega)
  rw[this];by_cases e:j=i
  ·subst e;simp[hi]
  ·simp[e]
theorem J5 (n:Nat)(w:World)(hn:n<=32):
  Calls Tryz.prog 266 #[.int .i64 (n:Int)] w fun e w'=>e= .returned (.agg (Dh (idR n)))/\Below w.heap.size w w':=by
 go_enter Tryz.func266,Tryz.ntmps266;go_wp2
 go_loopw [4,7] (fun _ i wr=>∃k:Nat,k<=n+1/\i= .int .i64 k/\Hid (Bk wr (w.heap.size+1) (Rg n k))/\Hid (Bk wr w.heap.size Bl)/\Below w.heap.size w wr) (fun _ i _=>n+1-(intOf i).toNat)
 case atStart=>exact⟨0,by omega,rfl,by rw[Xe];exact⟨hpt,rfl⟩,⟨hpt,rfl⟩,bel⟩
 case round=>
  obtain⟨k,hk,rfl,hr,hz,hB⟩:=hrel;by_cases hlt:k<n+1
  ·have hs:((k:Nat):Int)<33:=by omega
   have a0:=hI (N3 k (by omega));have hf:=hr.out.frozen k;have hc:=hr.out.get (k:=k) (s:=0) (by unfold Rg;rw[List.getElem?_map,List.getElem?_range (by omega)];simp);go_wp2
   go_roundw
   case rel=>
    refine⟨k+1,by omega,by go_num, ?_, ?_,bel⟩
    ·have h1:=hr.out.set (k:=k) (s:=2^k)
     have h2:(Rg n k).set k (2^k)=Rg n (k+1):=by
      refine Qn _ _ _ _ _ ?_ ?_
      ·rw[if_pos ⟨by omega,by omega⟩]
      ·intro j hj;by_cases h3:j<=n/\j<k
       ·rw[if_pos h3,if_pos ⟨h3.1,by omega⟩]
       ·rw[if_neg h3,if_neg (by omega)]
     rw[h2]at h1;rw[a0.out];exact h1
    ·exact⟨(Below.heap_setCell _ _ _ _ (by simp)).trans hz.out.1,rfl⟩
   case measure=>simp[intOf];omega
  ·obtain rfl:k=n+1:=by omega
   have hid:Rg n (n+1)=idR n:=by unfold Rg idR;apply List.map_congr_left;intro j _;by_cases h:j<=n<;>simp[h];omega
   have HI:=hI hid;clear hid
   go_wp2_with(first
    |(refine D2 rfl (.tmp 3) rfl (w.heap.size+1) _ rfl hr.out ?_)
    |(refine Bd rfl (.tmp 2) (.tmp 15) rfl w.heap.size Bl _ rfl rfl hz.out (by simp[Rg]) ?_;intro w1 a2 a1 a3))
   exact bodyPost_ret (Dc Tryz.results266 _ _ w.heap.size _ rfl a2) rfl ⟨by rw[HI.out],hB.trans (a1.to_below (fun k h=>by subst h;omega) hB.size)⟩
def orR (x y:List Nat):List Nat:=List.zipWith (· ||| ·) x y
def Pt (x y:List Nat)(k:Nat):List Nat:=(orR x y).take k++x.drop k
theorem Xf (x y:List Nat):Pt x y 0=x:=by simp[Pt]
theorem Aaf (x y:List Nat)(hx:x.length=33)(hy:y.length=33):Pt x y 33=orR x y:=by
 unfold Pt;rw[List.take_of_length_le (by simp[orR,hx,hy]),List.drop_eq_nil_of_le (by omega),List.append_nil]
theorem Aag (x y:List Nat)(k a b:Nat)(hx:x.length=33)(hy:y.length=33)(ha:x[k]? =some a)(hk:k<33):(Pt x y k)[k]? =some a:=by
 unfold Pt;have hl:((orR x y).take k).length=k:=by rw[List.length_take];unfold orR;rw[List.length_zipWith];omega
 rw[List.getElem?_append_right (by omega),hl,Nat.sub_self,List.getElem?_drop,Nat.add_zero,ha]
theorem Aah (x y:List Nat)(k a b:Nat)(hx:x.length=33)(hy:y.length=33)(ha:x[k]? =some a)(hb:y[k]? =some b)(hk:k<33):
  (Pt x y k).set k (a ||| b)=Pt x y (k+1):=by
 unfold Pt;have hl:((orR x y).take k).length=k:=by rw[List.length_take];unfold orR;rw[List.length_zipWith];omega
 have h1:(orR x y)[k]? =some (a ||| b):=by unfold orR;rw[List.getElem?_zipWith,ha,hb]
 rw[List.set_append,if_neg (by omega),hl,Nat.sub_self,Bp _ k _ h1,List.append_assoc];congr 1;obtain⟨h2,h3⟩:=List.getElem?_eq_some_iff.1 ha;rw[List.drop_eq_getElem_cons h2];rfl
theorem Aep (bx by_:Nat)(x y:List Nat)(w:World)(hx:Bk w bx x)(hy:Bk w by_ y)(hne:bx≠by_)(hsx:∀s∈x,Cd s)(hsy:∀s∈y,Cd s):
  Calls Tryz.prog 264 #[.pointer (some ⟨bx,0,none⟩), .pointer (some ⟨by_,0,none⟩)] w fun e w'=>
   e= .returned (.tuple #[])/\Bk w' bx (orR x y)/\Ag (· =bx) w w'/\w'.heap.size=w.heap.size:=by
 have HX:=hI hx;clear hx;have HY:=hI hy;clear hy;have a3:=hI hsx;clear hsx;have a2:=hI hsy;clear hsy;go_enter Tryz.func264,Tryz.ntmps264;go_wp2
 go_loopw [4,5,7] (fun _ _ i wr=>∃k:Nat,k<=33/\i= .int .i64 k/\Hid (Bk wr bx (Pt x y k))/\Hid (Bk wr by_ y)/\Hid (Ag (· =bx) w wr/\wr.heap.size=w.heap.size)) (fun _ _ i _=>33-(intOf i).toNat)
 case atStart=>exact⟨0,by omega,rfl,by rw[Xf];exact HX.out,HY.out,Ag.refl _ _,rfl⟩
 case round=>
  obtain⟨k,hk,rfl,hr,a1,a0⟩:=hrel;by_cases hlt:k<33
  ·have hs:((k:Nat):Int)<33:=by omega
   obtain⟨a,ha⟩:∃a,x[k]? =some a:=⟨x[k]'(by have:=HX.out.2;omega),List.getElem?_eq_getElem _⟩;obtain⟨b,hb⟩:∃b,y[k]? =some b:=⟨y[k]'(by have:=HY.out.2;omega),List.getElem?_eq_getElem _⟩;have c1:=hr.out.get (Aag x y k a b HX.out.2 HY.out.2 ha hlt);have c2:=a1.out.get hb;have c3:=hr.out.frozen k;have a4:=Vw a b (a3.out a (List.mem_of_getElem? ha)) (a2.out b (List.mem_of_getElem? hb));have HA:=hI ha;clear ha;have HB:=hI hb;clear hb;go_wp2
   go_quiet (fail)
   go_wp2;refine Br (fun W'=>W'.cell? ⟨bx,k,none⟩=some (.int .u64 (a:Int))) (by kernel_rfl) c1 (fun hHeld=> ?_)
   (refine' Ab 0 rfl ?_;(try simp only[Act.put,nY,nX]));(refine' Ab 1 rfl ?_;(try simp only[Act.put,nY,nX]));(refine' Ab 2 rfl ?_;(try simp only[Act.put,nY,nX]));(refine' Ab 3 rfl ?_;(try simp only[Act.put,nY,nX]));(refine' Ab 4 rfl ?_;(try simp only[Act.put,nY,nX]));(refine' Ab 5 rfl ?_;(try simp only[Act.put,nY,nX]));(refine' Ab 6 rfl ?_;(try simp only[Act.put,nY,nX]));(refine' Ab 7 rfl ?_;(try simp only[Act.put,nY,nX]));(refine' Ab 8 rfl ?_;(try simp only[Act.put,nY,nX]))
   (refine Aeu 9 rfl (fun K' hK'=> ?_);simp only[nY];go_simp)
   refine hK' _ _ ⟨.inl (by kernel_rfl),fun _=>Bc (by kernel_rfl) ?_ _⟩
   go_wp2
   go_roundw
   case rel=>
    refine⟨k+1,by omega,by go_num, ?_, ?_, ?_, ?_⟩
    ·have h1:=hr.out.set (k:=k) (s:=a ||| b);rw[Aah x y k a b HX.out.2 HY.out.2 HA.out HB.out hlt]at h1;exact h1
    ·exact⟨(Below.heap_setCell _ _ _ _ (Ne.symm hne)).trans a1.out.1,a1.out.2⟩
    ·exact((a0.out.1.drewN nq).setCell (p:=⟨bx,k,none⟩) rfl _).drew
    ·have:=a0.out.2;simpa using this
   case measure=>simp[intOf];omega
  ·obtain rfl:k=33:=by omega
   go_wp2
   go_end0
   exact⟨rfl,by have:=hr.out;rwa[Aaf x y HX.out.2 HY.out.2]at this,a0.out.1,a0.out.2⟩
def Mz:Nat->List Nat->Nat->List Nat->List Nat
 |0,_,_,out=>out
 |f+1,x,k,out=>if k=0 then out else Mz f (C9 x x) (k/2) (if k%2=1 then C9 out x else out)
def Gx (x:List Nat)(k n:Nat):List Nat:=Mz 7 x k (idR n)
def Bj (x:List Nat):Prop:=∀s∈x,Cd s
theorem D3 (x y:List Nat)(hy:Bj y):Bj (C9 x y):=by
 intro s hs;obtain⟨t,_,rfl⟩:=List.mem_map.1 hs;exact Vx y t hy
theorem D6 (x y:List Nat):(C9 x y).length=x.length:=by simp[C9]
theorem Ds (n:Nat):Bj (idR n):=by
 intro s hs;obtain⟨k,hk,rfl⟩:=List.mem_map.1 hs;have hk:=List.mem_range.1 hk;split
 ·have hp:2^k<=2^32:=Nat.pow_le_pow_right (by decide) (by omega);have a0:(2:Nat)^32=4294967296:=by decide
  unfold Cd;omega
 ·exact Fd
theorem Hf (n:Nat):(idR n).length=33:=by simp[idR]
theorem Pu:∀j:Nat,j<65->bits .and .i64 (j:Int) 1=((j%2:Nat):Int):=by decide+kernel
theorem S3 (f j:Nat)(h:j<2^(f+1)):j/2<2^f:=by rw[Nat.pow_succ]at h;omega
theorem Rh (x:List Nat)(k n:Nat)(w:World)(hx:x.length=33)(hs:Bj x)(hk:k<=64)(hn:n<=32)(hT:Cc w):
  Calls Tryz.prog 260 #[.agg (Dh x), .int .i64 (k:Int), .int .i64 (n:Int)] w fun e w'=>e= .returned (.agg (Dh (Gx x k n)))/\Below w.heap.size w w':=by
 have HX:=hI hx;clear hx;have HS:=hI hs;clear hs;have HT:=hI hT;clear hT;go_enter Tryz.func260,Tryz.ntmps260
 go_wp2_with(first
  |(go_at_call 266;refine(J5 n _ hn).mono ?_;rintro e w1 ⟨rfl,a8⟩;have f7:=Ck a8;(try simp only[World.size_alloc,World.size_drew,World.size_setCell]at f7)
    have d4:Bk w1 w.heap.size x:=⟨(a8.block _ sd).trans hpt,HX.out⟩;have d0:Bk w1 (w.heap.size+1) Bl:=⟨(a8.block _ sd).trans hpt,rfl⟩;have b8:Below w.heap.size w w1:=bel;clear a8)
  |(refine Bd rfl (.tmp 7) (.tmp 9) rfl _ Bl (idR n) rfl rfl ?hr (Hf n) ?hc))
 case hr=>exact⟨hpt,rfl⟩
 case hc=>
  intro w2 d3 a9 d9;have d7:Hid (Bk w2 w.heap.size x):=(d4.alloc _).keep1 a9 (by omega);have b3:Hid (Bk w2 (w.heap.size+1) Bl):=(d0.alloc _).keep1 a9 (by omega);have f6:Below w.heap.size w w2:=Ba (b8.alloc b8.size _) a9 (by omega) sd;have f8:Hid (Bk w2 w1.heap.size (idR n)):=d3;have g3:w1.heap.size<w2.heap.size:=by omega
  clear d4 d0 a9 d9 d3 b8;go_wp2
  go_loopw [1] (fun q wr=>∃(f j:Nat) (x' out:List Nat),j<2^f/\q= .int .i64 j/\Hid (Mz f x' j out=Gx x k n)/\Hid (Bk wr w.heap.size x')/\Hid (Bk wr (w.heap.size+1) Bl)/\Hid (Bk wr w1.heap.size out)∧
    Hid (Bj x'/\Bj out)/\Below w.heap.size w wr/\j<=64) (fun q _=>(intOf q).toNat)
  case atStart=>exact⟨7,k,x,idR n,by omega,rfl,rfl,d7,b3,f8,⟨HS.out,Ds n⟩,f6,hk⟩
  case round=>
   obtain⟨f,j,x',out,hf,rfl,hp,hx,hz,ho,a0,hB,hj⟩:=hrel;have g2:=hB.size;have g4:=ho.out.lt;have g6:=hx.out.lt;have b7:=hI (HT.out.below hB rr);by_cases hj0:j=0
   ·subst hj0;have a5:out=Gx x k n:=by have:=hp.out;cases f<;>simpa[Mz]using this
    have HO:=hI a5;clear a5
    go_wp2_with(first
     |(refine D2 rfl (.tmp 7) rfl w1.heap.size out rfl ho.out ?_)
     |(refine Bd rfl (.tmp 6) (.tmp 19) rfl (w.heap.size+1) Bl out rfl rfl hz.out ho.out.2 ?_;intro w3 b3 g0 g5))
    exact bodyPost_ret (Dc Tryz.results260 _ _ (w.heap.size+1) _ rfl b3) rfl ⟨by rw[HO.out],Ba hB g0 (by omega) hB.size⟩
   ·obtain⟨f,rfl⟩:∃g,f=g+1:=⟨f-1,by cases f with|zero=>simp at hf;omega|succ g=>rfl⟩
    have g1:(0:Int)<(j:Int):=by omega
    have b0:=Pu j (by omega);by_cases hodd:j%2=1
    ·have ht:(bits .and .i64 (j:Int) 1==1)=true:=by rw[b0,hodd];rfl
     clear b0;go_wp2_with fail;refine(L4 w1.heap.size w.heap.size out x' _ ho.out hx.out b7.out a0.out.2 a0.out.1).mono ?_;rintro e w3 ⟨rfl,a3⟩;have d5:=hI (hx.out.below a3 rr);have d1:=hI (ho.out.below a3 rr);have f5:=hI (hz.out.below a3 rr);have f4:=hI (b7.out.below a3 rr);have b9:Below w.heap.size w w3:=bel;clear a3;go_wp2_with(refine Bd rfl (.tmp 7) (.tmp 17) rfl _ out (C9 out x') rfl rfl d1.out (by rw[D6];exact d1.out.2) ?_;intro w4 d2 a6 f9);have b5:=hI (d5.out.keep1 a6 (by omega));have d8:=hI (f5.out.keep1 a6 (by omega));have d6:=hI (f4.out.keep a6 (by have:=HT.out.1;omega));have f1:=hI d2;have f2:Below w.heap.size w w4:=Ba b9 a6 (by omega) b9.size;have f0:=f2.size;clear d2 a6 f9;go_wp2_with fail;refine(L4 w.heap.size w.heap.size x' x' _ b5.out b5.out d6.out a0.out.1 a0.out.1).mono ?_;rintro e w5 ⟨rfl,a1⟩;have a7:=hI (b5.out.below a1 rr);have b6:=hI (f1.out.below a1 rr);have b2:=hI (d8.out.below a1 rr);have a4:Below w.heap.size w w5:=bel;clear a1;go_wp2_with(refine Bd rfl (.tmp 3) (.tmp 18) rfl _ x' (C9 x' x') rfl rfl a7.out (by rw[D6];exact a7.out.2) ?_;intro w6 b1 a2 f3)
     go_roundw
     case rel=>
      have b4:Mz f (C9 x' x') (j/2) (C9 out x')=Gx x k n:=by have:=hp.out;simp only[Mz,hj0,if_false]at this;simpa[hodd]using this
      exact⟨f,j/2,C9 x' x',C9 out x',S3 f j hf,by go_num,b4,b1,b2.out.keep1 a2 (by omega),b6.out.keep1 a2 (by omega),⟨D3 _ _ a0.out.1,D3 _ _ a0.out.1⟩,Ba a4 a2 rr a4.size,by omega⟩
     case measure=>simp[intOf];omega
    ·have ht:(bits .and .i64 (j:Int) 1==1)=false:=by rw[b0];simp;omega
     clear b0;go_wp2_with fail;refine(L4 w.heap.size w.heap.size x' x' _ hx.out hx.out b7.out a0.out.1 a0.out.1).mono ?_;rintro e w5 ⟨rfl,a1⟩;have a7:=hI (hx.out.below a1 rr);have b6:=hI (ho.out.below a1 rr);have b2:=hI (hz.out.below a1 rr);have a4:Below w.heap.size w w5:=bel;clear a1;go_wp2_with(refine Bd rfl (.tmp 3) (.tmp 18) rfl _ x' (C9 x' x') rfl rfl a7.out (by rw[D6];exact a7.out.2) ?_;intro w6 b1 a2 f3)
     go_roundw
     case rel=>
      have b4:Mz f (C9 x' x') (j/2) out=Gx x k n:=by have:=hp.out;simp only[Mz,hj0,if_false]at this;simpa[hodd]using this
      exact⟨f,j/2,C9 x' x',out,S3 f j hf,by go_num,b4,b1,b2.out.keep1 a2 (by omega),b6.out.keep1 a2 (by omega),⟨D3 _ _ a0.out.1,a0.out.2⟩,Ba a4 a2 rr a4.size,by omega⟩
     case measure=>simp[intOf];omega
end Go.Proofs.YtaglfmlgbcmakaaGreatDoor
