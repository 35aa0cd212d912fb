/-
  slices.IndexFunc and slices.ContainsFunc over records of type api.Out.
  law.Check, law.check.
  law.around and its function; law.hits.
  The iterator of law.hits.
  law.hit.
  law.put, law.replace.
  law.replace.
-/
import Derived.Scope
import Derived.Test.YtaglfmlgbcmakaaGreatDoorG08
set_option linter.all false
set_option maxRecDepth 100000
set_option maxHeartbeats 4000000
namespace Go.Proofs.YtaglfmlgbcmakaaGreatDoor
open Go.RowKit Go.Shelf
theorem Agi (A:Option Addr)(n c:Nat)(xs:List Fj)(F:Nat)(lb:Array Value)(p:Fj->Bool)(w:World)(hx:Eb Fj.cells 6 w A n c xs)(hE:Enters Tryz.prog F)
  (hcall:∀W,Below w.heap.size w W→∀s∈xs,Calls Tryz.prog F (#[Agq s]++lb) W fun e W'=>e= .returned (.bool (p s))/\Below W.heap.size W W'):
  Calls Tryz.prog 177 #[.slice A n c, .func (.func F) #[] lb] w fun e w'=>e= .returned (.int .i64 (Hx p xs))/\Below w.heap.size w w':=by
 have hm:n<=9223372036854775807:=by have h1:=hx.1.2.1;have h2:=hx.1.2.2.1;unfold maxLen at h2;omega
 have HX:=hI hx;clear hx;have HC:=hI hcall;clear hcall;unfold Enters at hE;go_enter Tryz.func177,Tryz.ntmps177;go_wp2
 go_loopw [5,8] (fun _ i wr=>∃k:Nat,k<=n/\i= .int .i64 k/\Hid ((xs.take k).any p=false)/\Below w.heap.size w wr) (fun _ i _=>n-(intOf i).toNat)
 case atStart=>exact⟨0,Nat.zero_le _,rfl,by simp[Hid],Below.refl _ _⟩
 case round=>
  obtain⟨k,hk,rfl,HA,hB⟩:=hrel;by_cases hlt:k<n
  ·obtain⟨s,a3⟩:∃s,xs[k]? =some s:=⟨xs[k]'(by rw[HX.out.2];exact hlt),List.getElem?_eq_getElem _⟩;obtain⟨b,off,rfl,hb,a1⟩:=(HX.out.below hB rr).at_ Fj.len (by decide) a3;have a6:=a1 0 _ rfl;have a8:=a1 1 _ rfl;have b0:=a1 2 _ rfl;have b1:=a1 3 _ rfl;have a9:=a1 4 _ rfl;have a7:=a1 5 _ rfl;simp only[Nat.add_zero,←Nat.add_assoc]at a6 a8 b0 b1 a9 a7;clear a1;have a0:=hI (HC.out wr hB s (List.mem_of_getElem? a3));have HK:=hI a3;clear a3;by_cases hp:p s=true
   ·have hr:=Jm p xs k s HK.out HA.out hp;have HR:=hI hr;clear hr;have HP:=hI hp;clear hp;go_wp2_with fail;refine a0.out.mono ?_;rintro e w1 ⟨rfl,a2⟩;rw[HP.out];have a4:=hB.trans (a2.mono hB.size);clear a2;go_wp2;go_ret;exact⟨by rw[HR.out];rfl,a4⟩
   ·have a5:p s=false:=by simpa using hp
    have HP:=hI a5;clear hp a5;go_wp2_with fail;refine a0.out.mono ?_;rintro e w1 ⟨rfl,a2⟩;rw[HP.out];have a4:=hB.trans (a2.mono hB.size);clear a2;go_wp2
    go_roundw
    case rel=>exact⟨k+1,by omega,by go_num,by rw[Bd xs k _ HK.out,List.any_append,HA.out];simp[HP.out,Hid],a4⟩
    case measure=>simp[intOf];omega
  ·obtain rfl:k=n:=by omega
   have hr:Hx p xs= -1:=by
    have:=HA.out
    rw[List.take_of_length_le (by rw[HX.out.2];exact rr)]at this;exact Jl p xs this
   have HR:=hI hr;clear hr;go_wp2;go_ret;exact⟨by rw[HR.out];rfl,hB⟩
theorem Agj (A:Option Addr)(n c:Nat)(xs:List Fj)(F:Nat)(lb:Array Value)(p:Fj->Bool)(w:World)(hx:Eb Fj.cells 6 w A n c xs)(hE:Enters Tryz.prog F)
  (hcall:∀W,Below w.heap.size w W→∀s∈xs,Calls Tryz.prog F (#[Agq s]++lb) W fun e W'=>e= .returned (.bool (p s))/\Below W.heap.size W W'):
  Calls Tryz.prog 156 #[.slice A n c, .func (.func F) #[] lb] w fun e w'=>e= .returned (.bool (xs.any p))/\Below w.heap.size w w':=by
 have a0:=Agi A n c xs F lb p w hx hE hcall;have H:=hI (L8 p xs);clear hx hcall hE;go_enter Tryz.func156,Tryz.ntmps156;go_wp2_with(go_at_call 177;refine a0.mono ?_;rintro e w1 ⟨rfl,a1⟩);go_ret;refine⟨?_,a1⟩;show Ending.returned (.bool (decide (0<=Hx p xs)))=_;rw[H.out]
theorem Am9 (x:Fj)(k:Int)(kb:Nat)(w:World)(hk:w.cell? ⟨kb,0,none⟩=some (.int .i64 k))(hkl:kb<w.heap.size):
  Calls Tryz.prog 149 #[Agq x, .pointer (some ⟨kb,0,none⟩)] w fun e w'=>e= .returned (.bool (!Ei x k))/\Below w.heap.size w w':=by
 go_enter Tryz.func149,Tryz.ntmps149;go_wp2_with(go_at_call 150;refine(Aly _ _ _).mono ?_;rintro e w1 ⟨rfl,a0⟩;have a1:=Db a0;(try simp only[World.size_alloc,World.size_drew,World.size_setCell]at a1);have c0:=fun o=>a0.cell (p:=⟨w.heap.size,o,none⟩) sd;have f0:=fun o=>a0.frozen (p:=⟨w.heap.size,o,none⟩) sd;have a2:Below w.heap.size w w1:=bel;clear a0);go_ret;exact⟨rfl,a2⟩
theorem Adt (p m:Int)(w:World):
  Calls Tryz.prog 151 #[C7 p m] w fun e w'=>e= .returned (.bool (!Bx p m))/\Below w.heap.size w w':=by
 go_enter Tryz.func151,Tryz.ntmps151;go_wp2_with(go_at_call 152;refine(Ec _ _ _).mono ?_;rintro e w1 ⟨rfl,a0⟩;have a1:=Db a0;(try simp only[World.size_alloc,World.size_drew,World.size_setCell]at a1);have c0:=fun o=>a0.cell (p:=⟨w.heap.size,o,none⟩) sd;have f0:=fun o=>a0.frozen (p:=⟨w.heap.size,o,none⟩) sd;have a2:Below w.heap.size w w1:=bel;clear a0);go_ret;exact⟨rfl,a2⟩
def Dh (l:Bi):Bool:=
 !Dg l.name||Bv 40 [l.left] !=0||Bv 40 [l.right] !=0||decide (4<l.ifs.length)||decide (6<l.outs.length)||decide (l.ifs.length+l.outs.length=0)||
 decide (l.mode<1)||decide (3<l.mode)||l.ifs.any (fun s=> !Bx s.1 s.2)||l.outs.any (fun x=> !Ei x l.ifs.length)
def Cc (l:Bi):Int:=if Dh l then 17 else 0
theorem Yq (l:Bi)(a:Dq)(w:World)(hl:Df w l a):
  Calls Tryz.prog 122 #[Eg l a] w fun e w'=>e= .returned (.int .i64 (Cc l))/\Below w.heap.size w w':=by
 have a8:=hl.2.2.2.2;have f7:=hl.2.2.1.max;have f5:l.outs.length<=9223372036854775807:=by have h1:=hl.2.2.2.1.1.2.1;have h2:=hl.2.2.2.1.1.2.2.1;unfold maxLen at h2;omega
 have HL:=hI hl;clear hl;obtain⟨Wb,g4,b5,g7,f1,i5⟩:=D6 w l a;obtain⟨d0,d1,d2,d3⟩:=Bu b5;go_enter Tryz.func122,Tryz.ntmps122;go_wp2_with fail;clear g4 d0 d1 d2 d3;have h0:(Wb.alloc (.cells #[.int .i64 l.ifs.length] 3)).heap[w.heap.size]? =some (.cells (Bw l a) 55 (0,0)):=(Bc g7).trans b5;have h1:(Wb.alloc (.cells #[.int .i64 l.ifs.length] 3)).heap[Wb.heap.size]? =some (.cells #[.int .i64 l.ifs.length] 3 (0,0)):=Am rfl;have hB:Below w.heap.size w (Wb.alloc (.cells #[.int .i64 l.ifs.length] 3)):=f1.alloc (by omega) _;have b9:w.heap.size+1=Wb.heap.size:=by omega
 generalize(Wb.alloc (.cells #[.int .i64 l.ifs.length] 3))=W0 at*;have d8:=lt_of_block h1;have i4:=hI b9;clear b9;refine(Aj5 l.name W0 a8).mono ?_;rintro e w1 ⟨rfl,a7⟩;have b2:=(a7.block _ (by omega)).trans h0;have b0:=(a7.block _ d8).trans h1;have a4:=hB.trans (a7.mono hB.size);have f3:=lt_of_block b0;clear a7 h0 h1 hB;have d4:=hI b2;have d9:=hI b0;obtain⟨d0,d1,d2,d3⟩:=Bu b2;clear b2 b0
 cases hnm:Dg l.name with
 |false=>
  have hr:Cc l=17:=by unfold Cc Dh;rw[hnm];rfl
  have HR:=hI hr;clear hr;go_wp2;go_ret;exact⟨by rw[HR.out];rfl,a4⟩
 |true=>
  have f8:=hI hnm;clear hnm;go_wp2_with(refine Pb rfl (.tmp 15) rfl w.heap.size 1 l.left.1 a.Al l.left.2.len a.cl rfl (Sz d4.out) ?_);refine(Wl l.left.1 a.Al a.cl l.left.2 w1 (HL.out.1.below a4 rr)).mono ?_;rintro e w2 ⟨rfl,hb⟩;have a1:=(hb.block _ (by omega)).trans d4.out;have a0:=(hb.block _ f3).trans d9.out;have a6:=a4.trans (hb.mono a4.size);have f6:=lt_of_block a0;clear hb d0 d1 d2 d3;have d5:=hI a1;have f4:=hI a0;have g8:=cell_of_one a0;obtain⟨d0,d1,d2,d3⟩:=Bu a1;clear a1 a0;by_cases hcl:Bv 40 [l.left]=0
  case neg=>
   have a3:(Bv 40 [(l.left.fst,l.left.snd)] !=0)=true:=by simpa using hcl
   have hr:Cc l=17:=by unfold Cc Dh;rw[show(Bv 40 [l.left] !=0)=true by simpa using hcl];simp
   have HR:=hI hr;clear hr hcl;go_wp2;go_ret;exact⟨by rw[HR.out];rfl,a6⟩
  have a3:(Bv 40 [(l.left.fst,l.left.snd)] !=0)=false:=by simpa using hcl
  have g2:=hI hcl;clear hcl;go_wp2_with(refine Pb rfl (.tmp 19) rfl w.heap.size 8 l.right.1 a.Ar l.right.2.len a.cr rfl (Vd d5.out) ?_);clear a3;refine(Wl l.right.1 a.Ar a.cr l.right.2 w2 (HL.out.2.1.below a6 rr)).mono ?_;rintro e w3 ⟨rfl,hb⟩;have a1:=(hb.block _ (by omega)).trans d5.out;have a0:=(hb.block _ f6).trans f4.out;have a2:=a6.trans (hb.mono a6.size);have g3:=lt_of_block a0;clear hb d0 d1 d2 d3;have f2:=hI a1;have g5:=hI a0;have i3:=cell_of_one a0;obtain⟨d0,d1,d2,d3⟩:=Bu a1;clear a1 a0;by_cases hcr:Bv 40 [l.right]=0
  case neg=>
   have a3:(Bv 40 [(l.right.fst,l.right.snd)] !=0)=true:=by simpa using hcr
   have hr:Cc l=17:=by unfold Cc Dh;rw[show(Bv 40 [l.right] !=0)=true by simpa using hcr];simp
   have HR:=hI hr;clear hr hcr;go_wp2;go_ret;exact⟨by rw[HR.out];rfl,a2⟩
  have a3:(Bv 40 [(l.right.fst,l.right.snd)] !=0)=false:=by simpa using hcr
  have f0:=hI hcr;clear hcr;by_cases h4:4<l.ifs.length
  case pos=>
   have hr:Cc l=17:=by unfold Cc Dh;simp[h4]
   have HR:=hI hr;clear hr;go_wp2;go_ret;exact⟨by rw[HR.out];rfl,a2⟩
  by_cases h6:6<l.outs.length
  case pos=>
   have hr:Cc l=17:=by unfold Cc Dh;simp[h6]
   have HR:=hI hr;clear hr;go_wp2;go_ret;exact⟨by rw[HR.out];rfl,a2⟩
  by_cases h00:l.ifs.length+l.outs.length=0
  case pos=>
   have a9:((l.ifs.length:Int)+(l.outs.length:Int)==0)=true:=by simp;omega
   have hr:Cc l=17:=by unfold Cc Dh;simp[h00]
   have HR:=hI hr;clear hr h00;go_wp2;go_ret;exact⟨by rw[HR.out];rfl,a2⟩
  have a9:((l.ifs.length:Int)+(l.outs.length:Int)==0)=false:=by simp;omega
  have d6:=hI h00;clear h00;by_cases hm1:l.mode<1
  case pos=>
   have hr:Cc l=17:=by unfold Cc Dh;simp[hm1]
   have HR:=hI hr;clear hr;go_wp2;go_ret;exact⟨by rw[HR.out];rfl,a2⟩
  by_cases hm3:3<l.mode
  case pos=>
   have hr:Cc l=17:=by unfold Cc Dh;simp[hm3]
   have HR:=hI hr;clear hr;go_wp2;go_ret;exact⟨by rw[HR.out];rfl,a2⟩
  have b4:decide ((4:Int)<(l.ifs.length:Int))=false:=by simp;omega
  have b6:decide ((6:Int)<(l.outs.length:Int))=false:=by simp;omega
  have b1:decide (l.mode<1)=false:=by simpa using hm1
  have b3:decide (3<l.mode)=false:=by simpa using hm3
  go_wp2_with fail;refine(Yp a.Ai l.ifs.length a.ci l.ifs 151 #[] (fun s=> !Bx s.1 s.2) w3 (HL.out.2.2.1.below a2 rr) (enters_of Tryz.func151 (by kernel_rfl) rfl) (fun W _ s _=>Adt s.1 s.2 W)).mono ?_;rintro e w4 ⟨rfl,hb⟩;have a1:=(hb.block _ (by omega)).trans f2.out;have a0:=(hb.block _ g3).trans g5.out;have a5:=a2.trans (hb.mono a2.size);have b7:=lt_of_block a0;clear hb d0 d1 d2 d3;have d7:=hI a1;have g1:=hI a0;have g0:=cell_of_one a0;obtain⟨d0,d1,d2,d3⟩:=Bu a1;clear a1 a0
  cases hif:l.ifs.any (fun s=> !Bx s.1 s.2)with
  |true=>
   have hr:Cc l=17:=by unfold Cc Dh;rw[hif];simp
   have HR:=hI hr;clear hr hif;go_wp2;go_ret;exact⟨by rw[HR.out];rfl,a5⟩
  |false=>
   have g6:=hI hif;clear hif;go_wp2_with fail;refine(Agj a.Ao l.outs.length a.co l.outs 149 #[.pointer (some ⟨Wb.heap.size,0,none⟩)] (fun x=> !Ei x l.ifs.length) w4 (HL.out.2.2.2.1.below a5 rr) (enters_of Tryz.func149 (by kernel_rfl) rfl) (fun W hW x _=>Am9 x _ Wb.heap.size W ((hW.cell (p:=⟨Wb.heap.size,0,none⟩) b7).trans g0) (by have:=hW.size;omega))).mono ?_
   rintro e w5 ⟨rfl,hb⟩;have a1:=(hb.block _ (by omega)).trans d7.out;have a0:=(hb.block _ b7).trans g1.out;have b8:=a5.trans (hb.mono a5.size);have i1:=lt_of_block a0;clear hb d0 d1 d2 d3;have i0:=hI a1;have i2:=hI a0;have g9:=cell_of_one a0;obtain⟨d0,d1,d2,d3⟩:=Bu a1;clear a1 a0
   cases hout:l.outs.any (fun x=> !Ei x l.ifs.length)with
   |true=>
    have hr:Cc l=17:=by unfold Cc Dh;rw[hout];simp
    have HR:=hI hr;clear hr hout;go_wp2;go_ret;exact⟨by rw[HR.out];rfl,b8⟩
   |false=>
    have hr:Cc l=0:=by
     unfold Cc Dh;rw[f8.out,g2.out,f0.out,g6.out,hout];simp[h4,h6,hm1,hm3,d6.out];intro h5 f9;exact d6.out (by rw[h5,f9];rfl)
    have HR:=hI hr;clear hr hout;go_wp2;go_ret;exact⟨by rw[HR.out];rfl,b8⟩
def B7 (l:Bi)(ws:List Snd):Int:=if Cc l=0 then B4 ws else Cc l
theorem Ags (l:Bi)(a:Dq)(A:Option Addr)(n c:Nat)(ws:List Snd)(w:World)(hl:Df w l a)(hw:Ak w A n c ws):
  Calls Tryz.prog 197 #[Eg l a, .slice A n c] w fun e w'=>e= .returned (.int .i64 (B7 l ws))/\Below w.heap.size w w':=by
 have HL:=hI hl;clear hl;have HW:=hI hw;clear hw;obtain⟨Wb,a5,a7,a9,a1,a8⟩:=D6 w l a;go_enter Tryz.func197,Tryz.ntmps197;go_wp2_with(refine Eo rfl (.tmp 2) rfl w.heap.size l a rfl a7 ?_);clear a5;refine(Yq l a _ (HL.out.below a1 rr)).mono ?_;rintro e w1 ⟨rfl,a2⟩;have a0:Below w.heap.size w w1:=a1.trans (a2.mono a1.size);clear a2;by_cases hE:Cc l=0
 ·have a4:(Cc l !=0)=false:=by simpa using hE
  have hr:B7 l ws=B4 ws:=by unfold B7;rw[if_pos hE]
  have HR:=hI hr;clear hr hE;go_wp2_with fail;refine(Ty A n c ws w1 (HW.out.below a0 rr)).mono ?_;rintro e w2 ⟨rfl,a3⟩;have a6:=a0.trans (a3.mono a0.size);clear a3;go_wp2;go_ret;exact⟨by rw[HR.out];rfl,a6⟩
 ·have a4:(Cc l !=0)=true:=by simpa using hE
  have hr:B7 l ws=Cc l:=by unfold B7;rw[if_neg hE]
  have HR:=hI hr;clear hr hE;go_wp2;go_ret;exact⟨by rw[HR.out];rfl,a0⟩
def Ue (l:Bi)(ws:List Snd)(at_:Int):Bool:= !((Di l.left ws at_).length==0) && decide (0<(Hd l.right ws (at_+l.ifs.length)).length)
theorem Afn (l:Bi)(a:Dq)(A:Option Addr)(n c:Nat)(w:World):
  Calls Tryz.prog 216 #[Eg l a, .slice A n c] w fun e w'=>e= .returned (.func (.func 225) #[] #[.pointer (some ⟨w.heap.size,0,none⟩), .pointer (some ⟨w.heap.size+1,0,none⟩)])∧
   (w.alloc (.cells (Bw l a) 55)).alloc (.cells #[.slice A n c] 28)=w':=by
 go_enter Tryz.func216,Tryz.ntmps216;go_wp2;go_ret;exact⟨rfl,rfl⟩
theorem Afo (l:Bi)(a:Dq)(A:Option Addr)(n c:Nat)(frm:Int)(w:World):
  Calls Tryz.prog 205 #[Eg l a, .slice A n c, .int .i64 frm] w fun e w'=>e= .returned (.func (.func 215) #[] #[.pointer (some ⟨w.heap.size,0,none⟩), .pointer (some ⟨w.heap.size+1,0,none⟩), .pointer (some ⟨w.heap.size+1+1,0,none⟩)])∧
   ((w.alloc (.cells (Bw l a) 55)).alloc (.cells #[.slice A n c] 28)).alloc (.cells #[.int .i64 frm] 3)=w':=by
 go_enter Tryz.func205,Tryz.ntmps205;go_wp2;go_ret;exact⟨rfl,rfl⟩
theorem Adk (l:Bi)(a:Dq)(A:Option Addr)(n c:Nat)(ws:List Snd)(at_:Int)(b1 b2:Nat)(w:World)(h1:w.heap[b1]? =some (.cells (Bw l a) 55 (0,0)))
  (h2:w.heap[b2]? =some (.cells #[.slice A n c] 28 (0,0))) (hl:Df w l a) (hw:Ak w A n c ws) (hT:Cw w) (ha0:0<=at_) (ha1:at_<=4096) (hk:l.ifs.length<=4096):
  Calls Tryz.prog 225 #[.int .i64 at_, .pointer (some ⟨b1,0,none⟩), .pointer (some ⟨b2,0,none⟩)] w fun e w'=>e= .returned (.bool (Ue l ws at_))/\Below w.heap.size w w':=by
 have a7:=lt_of_block h1;have a6:=lt_of_block h2;obtain⟨d0,d1,d2,d3⟩:=Bu h1;have e2:=cell_of_one h2;have H1:=hI h1;clear h1;have H2:=hI h2;clear h2;have HL:=hI hl;clear hl;have HW:=hI hw;clear hw;have HT:=hI hT;clear hT;go_enter Tryz.func225,Tryz.ntmps225;go_wp2_with(refine Pb rfl (.tmp 10) rfl b1 1 l.left.1 a.Al l.left.2.len a.cl rfl (Sz H1.out) ?_);refine(Afp l.left.1 l.left.2 a.Al a.cl A n c ws at_ w HL.out.1 HW.out HT.out).mono ?_;rintro e w1 ⟨A1,c1,rfl,hC,hB⟩;clear hC;have a0:=(hB.block _ a7).trans H1.out;have a1:=(hB.block _ a6).trans H2.out;clear d0 d1 d2 d3 e2;obtain⟨d0,d1,d2,d3⟩:=Bu a0;have e2:=cell_of_one a1;have a3:=hI a0;clear a0 a1;by_cases hz:(Di l.left ws at_).length=0
 ·have a5:(((Di (l.left.fst,l.left.snd) ws at_).length:Int)==0)=true:=by rw[show(l.left.fst,l.left.snd)=l.left from rfl,hz];rfl
  have hr:Ue l ws at_=false:=by unfold Ue;rw[hz];rfl
  have HR:=hI hr;clear hr hz;go_wp2;go_ret;exact⟨by rw[HR.out];rfl,hB⟩
 ·have a5:(((Di (l.left.fst,l.left.snd) ws at_).length:Int)==0)=false:=by rw[show(l.left.fst,l.left.snd)=l.left from rfl];simp;intro h;exact hz (by rw[h];rfl)
  have hr:Ue l ws at_=decide (0<(Hd l.right ws (at_+l.ifs.length)).length):=by unfold Ue;rw[show((Di l.left ws at_).length==0)=false by simpa using hz];rfl
  have HR:=hI hr;clear hr hz;go_wp2_with(refine Pb rfl (.tmp 21) rfl b1 8 l.right.1 a.Ar l.right.2.len a.cr rfl (Vd a3.out) ?_);refine(Als l.right.1 l.right.2 a.Ar a.cr A n c ws (at_+l.ifs.length) w1 (HL.out.2.1.below hB rr) (HW.out.below hB rr) (HT.out.below hB rr)).mono ?_;rintro e w2 ⟨A2,c2,rfl,a4,a2⟩;clear a4;have a8:=hB.trans (a2.mono hB.size);clear a2;go_wp2;go_ret;exact⟨by rw[HR.out];rfl,a8⟩
end Go.Proofs.YtaglfmlgbcmakaaGreatDoor
namespace Go.Proofs.YtaglfmlgbcmakaaGreatDoor
open Go.RowKit Go.Shelf
attribute [local go_sem] Oper.semAt_some
def Rl (l:Bi)(ws:List Snd)(at_:Nat):Bool:=(List.range l.ifs.length).all fun j=>Gh (ws.getD (at_+j) (0,0)).1 (ws.getD (at_+j) (0,0)).2 (l.ifs.getD j (0,0)).1 (l.ifs.getD j (0,0)).2
def Ez (l:Bi)(ws:List Snd)(at_:Nat):Bool:=decide (at_+l.ifs.length<=ws.length) && Rl l ws at_ && Ue l ws at_
theorem Br {S:Nat->Prop}{w w':World}(hb:Below w.heap.size w w'):Ba S w w':=(Ba.refl S w).below hb rr
theorem Aa2 {P:Program}{n:Nat}{c:Code}{Q:Exit->Act->World->Prop}{a:Act}{w:World}(h:c.wpIn Fence.wide n P (Exit.noGoto Q) a w):(Code.scope c).wpIn Fence.wide n P Q a w:=
 wpIn_wide.2 (wp_scope_straight (wpIn_wide.1 h))
theorem Ki {P:Program}{n:Nat}{id:Nat}{ops:Array Oper}{Q:Exit->Act->World->Prop}{a:Act}{w:World}(S:World->Prop)(hm:P.follows .mixedOrders=true)
  (hS:S w.drew) (h:S w.drew->Gi P .any ops Q S ops.size (Array.replicate ops.size false) a w.drew):(Code.region id ops true).wpIn Fence.wide n P Q a w:=
 wpIn_wide.2 (Bg S hm hS h)
theorem Sw (m lr b1 b2 b3:Nat)(hm:1<=m)(l:Bi)(a:Dq)(A:Option Addr)(n c:Nat)(ws:List Snd)(frm:Nat)(J Jx:Nat->(Nat->Prop)->World->Prop)(T0:Nat->Prop)(W:World)
  (hlt:∀s T W',J s T W'→∀k,T k->k<W'.heap.size)
  (hst:∀s T W' W'',J s T W'->Ba (fun k=>W.heap.size<=k∧¬T k) W' W''->J s T W'')
  (hrd:∀s T W',J s T W'->W'.heap[b1]? =some (.cells (Bw l a) 55 (0,0))/\W'.heap[b2]? =some (.cells #[.slice A n c] 28 (0,0))/\Df W' l a/\Ak W' A n c ws/\Cw W')
  (hskip:∀s T W',frm<=s->s+l.ifs.length<=n->Ez l ws s=false->J s T W'->J (s+1) T W')
  (hy:∀s T W',frm<=s->s+l.ifs.length<=n->Ez l ws s=true->J s T W'->YieldAt Fence.wide (m-1) Tryz.prog lr #[.int .i64 s] W' (fun e W''=>
   (e= .returned (.bool true)∧∃T',J (s+1) T' W''/\Ba T W' W''∧∀k,T' k->T k\/W'.heap.size<=k)\/(e= .returned (.bool false)/\Jx s T W'')))
  (h0:J frm T0 W) (h3:W.cell? ⟨b3,0,none⟩=some (.int .i64 frm)) (hb3:b3<W.heap.size) (hn:n<=4000) (hf:frm<=4000) (hk:l.ifs.length<=64):
  CallsIn Fence.wide m Tryz.prog 215 #[.func (.yield lr) #[] #[], .pointer (some ⟨b1,0,none⟩), .pointer (some ⟨b2,0,none⟩), .pointer (some ⟨b3,0,none⟩)] W fun e W'=>
   (∃v,e= .returned v)/\((∃s T,frm<=s/\n<s+l.ifs.length/\J s T W')∨∃s T,Jx s T W'):=by
 have f2:=hlt _ _ _ h0;have j8:=hI hlt;clear hlt;have b6:=hI hst;clear hst;have a5:=hI hrd;clear hrd;have f8:=hI hskip;clear hskip;have HY:=hI hy;clear hy;obtain⟨r1,r2,r3,r4,r5⟩:=a5.out _ _ _ h0;have k3:=lt_of_block r1;have a0:=lt_of_block r2;obtain⟨d0,d1,d2,d3⟩:=Bu r1;have e2:=cell_of_one r2;have g4:ws.length=n:=r4.len;have g8:=hI g4;clear g4;have H0:=hI h0;clear h0 r3 r4 r5;have R1:=hI r1;clear r1 r2;refine callsIn_of_wp Tryz.func215 rfl trivial ?_;simp only[Tryz.ntmps215,List.size_toArray,List.length_cons,List.length_nil,Nat.reduceAdd,Nat.reduceSub,Array.replicate_succ,Array.replicate_zero,List.push_toArray,List.append_toArray,List.nil_append,List.cons_append];refine Aa2 ?_
 gi_wp2_with (first|(refine Ew rfl (.tmp 1) rfl b1 l a rfl R1.out ?_)|(refine⟨trivial, ?_⟩;gi_at_call 216;refine(callsIn_wide.2 (Afn l a A n c _)).mono ?_;rintro e w1 ⟨rfl,rfl⟩))
 clear d0 d1 d2 d3 e2;have g1:((W.alloc (.cells (Bw l a) 55)).alloc (.cells #[.slice A n c] 28)).heap[W.heap.size]? =some (.cells (Bw l a) 55 (0,0)):=hpt;have g2:((W.alloc (.cells (Bw l a) 55)).alloc (.cells #[.slice A n c] 28)).heap[W.heap.size+1]? =some (.cells #[.slice A n c] 28 (0,0)):=hpt;have g3:Below W.heap.size W ((W.alloc (.cells (Bw l a) 55)).alloc (.cells #[.slice A n c] 28)):=bel;generalize((W.alloc (.cells (Bw l a) 55)).alloc (.cells #[.slice A n c] 28))=W0 at*;have J0:Hid (J frm T0 W0):=b6.out frm T0 W W0 H0.out (Br g3);have e3:W0.cell? ⟨b3,0,none⟩=some (.int .i64 frm):=(g3.cell (p:=⟨b3,0,none⟩) hb3).trans h3;have G1:=hI g1;have G2:=hI g2;have k0:=lt_of_block g2;clear g1 g2 g3 h3;refine wpIn_label ?_;gi_wp2;clear e3
 gi_loopw [6] (fun i wr=>∃(s:Nat) (T:Nat->Prop),i= .int .i64 s/\frm<=s/\s<=4001/\Hid (J s T wr)/\Hid (wr.heap[W.heap.size]? =some (.cells (Bw l a) 55 (0,0)))∧
   Hid (wr.heap[W.heap.size+1]? =some (.cells #[.slice A n c] 28 (0,0)))/\Hid (¬T W.heap.size∧¬T (W.heap.size+1))) (fun i _=>4002-(intOf i).toNat)
 case atStart=>exact⟨frm,T0,rfl,rr,by omega,J0,G1,G2,fun h=>by have:=f2 _ h;omega,fun h=>by have:=f2 _ h;omega⟩
 case round=>
  obtain⟨s,T,rfl,b0,k1,HJ,f4,d7,a3⟩:=hrel;obtain⟨r1,r2,r3,r4,r5⟩:=a5.out _ _ _ HJ.out;have b8:=lt_of_block r1;have d6:=lt_of_block r2;obtain⟨d0,d1,d2,d3⟩:=Bu r1;have e2:=cell_of_one r2;have i5:=lt_of_block d7.out;have j9:=r3.2.2.1.max;clear r1 r2;obtain⟨Ai,a1⟩:∃Ai,Ai=a.Ai:=⟨_,rfl⟩;have d8:Ak wr Ai l.ifs.length a.ci l.ifs:=by rw[a1];exact r3.2.2.1
  rw[←a1]at d1;clear a1;have j4:=hI d8;clear d8;have R3:=hI r3;clear r3;have R4:=hI r4;clear r4;have R5:=hI r5;clear r5;by_cases hin:s+l.ifs.length<=n
  ·have d5:((s:Int)+(l.ifs.length:Int)<=(n:Int)):=by omega
   gi_wp2;obtain⟨wo,rfl⟩:∃wo:World,wo=wr:=⟨_,rfl⟩;clear d0 d1 d2 d3 e2
   gi_loopw [7,8,26] (fun _ _ i wr=>∃j:Nat,i= .int .i64 j/\j<=l.ifs.length/\Hid ((List.range j).all (fun j=>Gh (ws.getD (s+j) (0,0)).1 (ws.getD (s+j) (0,0)).2 (l.ifs.getD j (0,0)).1 (l.ifs.getD j (0,0)).2)=true)/\Below wo.heap.size wo wr)
    (fun _ _ i _=>l.ifs.length-(intOf i).toNat)
   case atStart=>exact⟨0,rfl,Nat.zero_le _,by simp[Hid],Below.refl _ _⟩
   case round=>
    obtain⟨j,rfl,hj,a6,hB⟩:=hrel;have i3:=hB.size;have r1:=(hB.block _ b8).trans (a5.out _ _ _ HJ.out).1;have r2:=(hB.block _ d6).trans (a5.out _ _ _ HJ.out).2.1;by_cases hjl:j<l.ifs.length
    ·obtain⟨bi,oi,p,q,rfl,j3,d9,j0,i1⟩:=(j4.out.below hB rr).at_ hjl;obtain⟨bw,ow,p',q',rfl,a9,f5,g0,f0⟩:=(R4.out.below hB rr).at_ (k:=s+j) (by omega);have e2:=cell_of_one r2;have a8:Gh (ws.getD (s+j) (0,0)).1 (ws.getD (s+j) (0,0)).2 (l.ifs.getD j (0,0)).1 (l.ifs.getD j (0,0)).2=Gh p' q' p q:=by rw[D5 f5,D5 d9]
     have g5:=hI a8;clear r1 r2 d9 f5 a8;have i9:(j:Int)<(l.ifs.length:Int):=by omega
     gi_wp2;have j1:bw≠wr.heap.size:=by omega
     have g7:(wr.alloc (.cells #[.int .u32 p, .int .u32 q] 49)).cell? ⟨b2,0,none⟩=some (.slice (some ⟨bw,ow,none⟩) n c):=(Cz (by omega)).trans e2;have w0':(wr.alloc (.cells #[.int .u32 p, .int .u32 q] 49)).cell? ⟨bw,ow+(s+j)*2,none⟩=some (.int .u32 p'):=(Cz a9).trans g0;have w1':(wr.alloc (.cells #[.int .u32 p, .int .u32 q] 49)).cell? ⟨bw,ow+(s+j)*2+1,none⟩=some (.int .u32 q'):=(Cz a9).trans f0;have c0':(wr.alloc (.cells #[.int .u32 p, .int .u32 q] 49)).cell? ⟨wr.heap.size,0,none⟩=some (.int .u32 p):=B8 rfl;have c1':(wr.alloc (.cells #[.int .u32 p, .int .u32 q] 49)).cell? ⟨wr.heap.size,1,none⟩=some (.int .u32 q):=B8 rfl;have g6:Below wo.heap.size wo (wr.alloc (.cells #[.int .u32 p, .int .u32 q] 49)):=hB.alloc i3 _;have j6:wr.heap.size<(wr.alloc (.cells #[.int .u32 p, .int .u32 q] 49)).heap.size:=by simp
     generalize(wr.alloc (.cells #[.int .u32 p, .int .u32 q] 49))=U at*;clear j0 i1 g0 f0 e2;have f1:=hI g6;clear g6;have k2:((s:Int)+(j:Int)).toNat=s+j:=by omega
     have g9:(0:Int)<=(s:Int)+(j:Int):=by omega
     have i0:(s:Int)+(j:Int)<(n:Int):=by omega
     have i4:IntKind.i64.wrap ((s:Int)+(j:Int))=(s:Int)+(j:Int):=IntWalk.i64_in _ (by omega)
     refine Ki (fun W'=>W'.cell? ⟨b2,0,none⟩=some (.slice (some ⟨bw,ow,none⟩) n c)/\W'.cell? ⟨bw,ow+(s+j)*2,none⟩=some (.int .u32 p')/\W'.cell? ⟨bw,ow+(s+j)*2+1,none⟩=some (.int .u32 q')∧
      W'.cell? ⟨wr.heap.size,0,none⟩=some (.int .u32 p)/\W'.cell? ⟨wr.heap.size,1,none⟩=some (.int .u32 q)) (by kernel_rfl) ⟨g7,w0',w1',c0',c1'⟩ (fun hHeld=> ?_)
     (refine' Ae 0 rfl ?_;(try simp only[Act.put,nY,nX]));(refine' Ae 1 rfl ?_;(try simp only[Act.put,nY,nX]));(refine' Ae 2 rfl ?_;(try simp only[Act.put,nY,nX]));(refine' Ae 3 rfl ?_;(try simp only[Act.put,nY,nX]));(refine' Ae 4 rfl ?_;(try simp only[Act.put,nY,nX]));(refine' Ae 5 rfl ?_;(try simp only[Act.put,nY,nX]));(refine' Ae 6 rfl ?_;(try simp only[Act.put,nY,nX]))
     (refine Anv 7 rfl (fun K' hK'=> ?_);simp only[nY];go_simp)
     refine(Alv p' q' p q _).mono ?_;rintro e w2 ⟨rfl,a0⟩;have i7:U.drew.heap.size=U.heap.size:=rfl;have b4:Below wo.heap.size wo w2:=f1.out.drew.trans (a0.mono (by have:=f1.out.size;omega))
     refine hK' _ _ ⟨.inr ⟨(a0.cell (p:=⟨b2,0,none⟩) (by simp;omega)).trans hHeld.1,(a0.cell (p:=⟨bw,_,none⟩) (by simp;omega)).trans hHeld.2.1,(a0.cell (p:=⟨bw,_,none⟩) (by simp;omega)).trans hHeld.2.2.1,
      (a0.cell (p:=⟨wr.heap.size,_,none⟩) (by simp;omega)).trans hHeld.2.2.2.1,(a0.cell (p:=⟨wr.heap.size,_,none⟩) (by simp;omega)).trans hHeld.2.2.2.2⟩,fun _=> ?_⟩
     clear hK' K' a0 i7
     (try simp only[Act.put,nY,nX])
     (refine Anv 8 rfl (fun K' hK'=> ?_);simp only[nY];go_simp)
     refine hK' _ _ ⟨.inl (by kernel_rfl),fun _=>Bf (by kernel_rfl) ?_ _⟩
     clear hK' K'
     cases hff:Gh p' q' p q with
     |true=>
      have b7:=hI hff;clear hff;gi_wp2
      go_roundw
      case rel=>
       refine⟨j+1,by go_num,by omega, ?_,b4⟩;show List.all _ _=true;rw[List.range_succ,List.all_append,a6.out];simp only[List.all_cons,List.all_nil,Bool.and_true,Bool.true_and];rw[g5.out,b7.out]
      case measure=>simp[intOf];omega
     |false=>
      have b7:=hI hff;clear hff
      have a7:Ez l ws s=false:=by
       have b5:Rl l ws s=false:=by
        unfold Rl;apply Bool.eq_false_iff.2;intro a4
        have:=List.all_eq_true.1 a4 j (List.mem_range.2 hjl)
        rw[g5.out,b7.out]at this;cases this
       unfold Ez;rw[b5];simp
      have d4:=hI a7;clear a7;gi_wp2
      go_roundw
      case rel=>
       have i2:Ba (fun k=>W.heap.size<=k∧¬T k) wo w2:=Br b4;exact⟨s+1,T,by go_num,by omega,by omega,b6.out _ _ _ _ (f8.out s T wo b0 hin d4.out HJ.out) i2,(b4.block _ (by omega)).trans f4.out,(b4.block _ (by omega)).trans d7.out,a3⟩
      case measure=>simp[intOf];omega
    ·obtain rfl:j=l.ifs.length:=by omega
     have b5:Rl l ws s=true:=a6.out;have i6:=hI b5;clear b5;have a2:=b6.out _ _ _ _ HJ.out (Br (S:=fun k=>W.heap.size<=k∧¬T k) hB);obtain⟨q1,q2,q3,q4,q5⟩:=a5.out _ _ _ a2;have i8:=hI a2;clear a2 q1 q2 r1 r2;have Q3:=hI q3;have Q4:=hI q4;have Q5:=hI q5;clear q3 q4 q5;have G1W:=hI ((hB.block _ (by omega)).trans f4.out);have G2W:=hI ((hB.block _ i5).trans d7.out);gi_wp2;refine⟨trivial, ?_⟩;refine(callsIn_wide.2 (Adk l a A n c ws s W.heap.size (W.heap.size+1) wr G1W.out G2W.out Q3.out Q4.out Q5.out (by omega) (by omega) (by omega))).mono ?_;rintro e w2 ⟨rfl,a0⟩;have j5:=a0.size;have f3:=hI (b6.out _ _ _ _ i8.out (Br (S:=fun k=>W.heap.size<=k∧¬T k) a0));have G12:=hI ((a0.block _ (lt_of_block G1W.out)).trans G1W.out);have G22:=hI ((a0.block _ (lt_of_block G2W.out)).trans G2W.out);clear a0
     cases hfm:Ue l ws s with
     |false=>
      have a7:Ez l ws s=false:=by unfold Ez;rw[hfm];simp
      have d4:=hI a7;clear a7 hfm;gi_wp2;refine⟨fun _ h=>(by cases h), ?_⟩
      gi_wp2
      go_roundw
      case rel=>exact⟨s+1,T,by go_num,by omega,by omega,f8.out s T w2 b0 hin d4.out f3.out,G12,G22,a3⟩
      case measure=>simp[intOf];omega
     |true=>
      have hh:Ez l ws s=true:=by unfold Ez;rw[hfm,i6.out];simp;rw[g8.out];exact hin
      have HH:=hI hh;clear hh hfm;obtain⟨fn,tmps,assign,body,j7,hR⟩:=HY.out s T w2 b0 hin HH.out f3.out;have HR:=hI hR;clear hR;gi_wp2;refine HR.out.mono ?_;rintro e W3 (⟨rfl,T',f6,b9,f7⟩|⟨rfl,hx⟩)
      ·have j2:=hI f6;clear f6;have g13:=hI ((b9.block _ (lt_of_block G12.out) a3.out.1).trans G12.out);have g23:=hI ((b9.block _ (lt_of_block G22.out) a3.out.2).trans G22.out);have f9:=hI f7;clear f7 b9;gi_wp2
       go_roundw
       case rel=>exact⟨s+1,T',by go_num,by omega,by omega,j2,g13,g23,fun h=>(f9.out _ h).elim a3.out.1 (by omega),fun h=>(f9.out _ h).elim a3.out.2 (by omega)⟩
       case measure=>simp[intOf];omega
      ·have HX:=hI hx;clear hx;gi_wp2;simp only[Exit.noGoto];refine bodyPost_ret (results_none rfl _ _ _) rfl ?_;exact⟨⟨_,rfl⟩, .inr ⟨s,T,HX.out⟩⟩
  ·have d5:decide ((s:Int)+(l.ifs.length:Int)<=(n:Int))=false:=by simp;omega
   gi_wp2;simp only[Exit.noGoto]
   go_end0
   exact⟨⟨_,rfl⟩, .inl ⟨s,T,b0,by omega,HJ.out⟩⟩
end Go.Proofs.YtaglfmlgbcmakaaGreatDoor
namespace Go.Proofs.YtaglfmlgbcmakaaGreatDoor
open Go.RowKit Go.Shelf
attribute [local go_sem] Oper.semAt_some
theorem Kh {fn:Func}{p:Tmp}(h:fn.results= #[.cell p 4])(tmps:Array Value)(w:World)(b:Nat)(v:Bool)(hp:tmps.getD p undef= .pointer (some ⟨b,0,none⟩))(hr:w.cell? ⟨b,0,none⟩=some (.bool v)):
  (results fn tmps).run Tryz.prog w= .ok (.bool v) w:=by
 have a0:tmps[p]?.getD undef= .pointer (some ⟨b,0,none⟩):=by simpa using hp
 simp[results,h,a0,asAddr,loadVar,go_sem,hr]
theorem Ali (l:Bi)(a:Dq)(A:Option Addr)(n c:Nat)(ws:List Snd)(at_:Nat)(w:World)(hl:Df w l a)(hw:Ak w A n c ws)(hT:Cw w)(hn:n<=4000)(hat:at_<=4000)(hk:l.ifs.length<=64):
  Calls Tryz.prog 208 #[Eg l a, .slice A n c, .int .i64 at_] w fun e w'=>e= .returned (.bool (Ez l ws at_))/\Below w.heap.size w w':=by
 have b2:ws.length=n:=hw.len;have d0:=hI b2;clear b2;have HL:=hI hl;clear hl;have HW:=hI hw;clear hw;have d8:=hT.1;have HT:=hI hT;clear hT;obtain⟨Wb,d6,d4,f5,a5,f3⟩:=D6 w l a;refine(callsIn_wide (n:=9)).1 (callsIn_of_wp_marks Tryz.func208 rfl trivial ?_ rfl);simp only[Tryz.ntmps208,List.size_toArray,List.length_cons,List.length_nil,Nat.reduceAdd,Nat.reduceSub,Array.replicate_succ,Array.replicate_zero,List.push_toArray,List.append_toArray,List.nil_append,List.cons_append]
 gi_wp2_with (refine Ew rfl (.tmp 3) rfl w.heap.size l a rfl (t:=55) (fr:=(0,0)) (by repeat(first|exact d4|rw[Bc sd])) ?_)
 clear d6;refine⟨trivial, ?_⟩;refine(callsIn_wide.2 (Afo l a A n c at_ _)).mono ?_;rintro e w1 ⟨rfl,rfl⟩;gi_wp2
 -- the world behind the call of hits
 have a4:((Wb.alloc (.cells #[.int .i64 (at_:Int)] 3)).alloc (.cells #[.bool false] 4)).heap.size=Wb.heap.size+1+1:=by simp
 have r6:((Wb.alloc (.cells #[.int .i64 (at_:Int)] 3)).alloc (.cells #[.bool false] 4)).heap[Wb.heap.size+1]? =some (.cells #[.bool false] 4 (0,0)):=Am (by simp);have r5:((Wb.alloc (.cells #[.int .i64 (at_:Int)] 3)).alloc (.cells #[.bool false] 4)).heap[Wb.heap.size]? =some (.cells #[.int .i64 (at_:Int)] 3 (0,0)):=(Bc (by simp)).trans (Am rfl);have b8:Below w.heap.size w ((Wb.alloc (.cells #[.int .i64 (at_:Int)] 3)).alloc (.cells #[.bool false] 4)):=(a5.alloc a5.size _).alloc (by have:=a5.size;simp;omega) _;generalize((Wb.alloc (.cells #[.int .i64 (at_:Int)] 3)).alloc (.cells #[.bool false] 4))=V0 at*;have k1:(((V0.alloc (.cells (Bw l a) 55)).alloc (.cells #[.slice A n c] 28)).alloc (.cells #[.int .i64 (at_:Int)] 3)).heap[V0.heap.size]? =some (.cells (Bw l a) 55 (0,0)):=hpt;have k2:(((V0.alloc (.cells (Bw l a) 55)).alloc (.cells #[.slice A n c] 28)).alloc (.cells #[.int .i64 (at_:Int)] 3)).heap[V0.heap.size+1]? =some (.cells #[.slice A n c] 28 (0,0)):=hpt;have k3:(((V0.alloc (.cells (Bw l a) 55)).alloc (.cells #[.slice A n c] 28)).alloc (.cells #[.int .i64 (at_:Int)] 3)).heap[V0.heap.size+1+1]? =some (.cells #[.int .i64 (at_:Int)] 3 (0,0)):=hpt;have kK:Ba (fun _=>False) V0 (((V0.alloc (.cells (Bw l a) 55)).alloc (.cells #[.slice A n c] 28)).alloc (.cells #[.int .i64 (at_:Int)] 3)):=(((Ba.refl _ _).alloc _).alloc _).alloc _;generalize hV1:(((V0.alloc (.cells (Bw l a) 55)).alloc (.cells #[.slice A n c] 28)).alloc (.cells #[.int .i64 (at_:Int)] 3))=V1 at*;clear hV1;rw[a4]at k1 k2 k3;have f1:=lt_of_block k3;have d3:=Nat.le_of_eq a4;have b7:=hI a4;clear a4;refine Fl (gf:=215) (lb:= #[.pointer (some ⟨Wb.heap.size+1+1,0,none⟩), .pointer (some ⟨Wb.heap.size+1+1+1,0,none⟩), .pointer (some ⟨Wb.heap.size+1+1+1+1,0,none⟩)]) rfl (enters_of Tryz.func215 (by kernel_rfl) rfl) fun fn D lr rc W1 hrc hD hlr hK2 hD1 hl1 hs2=> ?_
 have d5:=hI hrc;clear hrc;have f0:Wb.heap.size+1+1+1+1<D:=by omega
 have f2:D<lr:=by omega
 have d2:lr<W1.heap.size:=by omega
 have d7:=Nat.le_of_eq hs2;have d1:=Nat.le_of_eq hD.symm;clear hs2 hD hlr;have b1:Ba (fun _=>False) V0 W1:=kK.trans hK2;have a0:Below w.heap.size w W1:=b8.trans (b1.to_below (fun k hk=>hk.elim) b8.size);have r51:W1.heap[Wb.heap.size]? =some (.cells #[.int .i64 (at_:Int)] 3 (0,0)):=(b1.block _ (by have:=b7.out;omega) (by simp)).trans r5;have r61:W1.heap[Wb.heap.size+1]? =some (.cells #[.bool false] 4 (0,0)):=(b1.block _ (by have:=b7.out;omega) (by simp)).trans r6;have k11:=(hK2.block _ (by omega) (by simp)).trans k1;have k21:=(hK2.block _ (by omega) (by simp)).trans k2;have k31:=(hK2.block _ (by omega) (by simp)).trans k3
 obtain⟨J,hJ⟩:∃J:Nat->(Nat->Prop)->World->Prop,J=fun s T W=>T=(fun k=>k=Wb.heap.size+1\/k=lr)/\(∀x,at_<=x->x<s->Ez l ws x=false)/\Ba T W1 W∧
   W.heap[Wb.heap.size+1]? =some (.cells #[.bool false] 4 (0,0))/\W.heap[lr]? =some (.loop (rc .ready none)):=⟨_,rfl⟩
 have HJ:=hI hJ;clear hJ
 obtain⟨Jx,b5⟩:∃Jx:Nat->(Nat->Prop)->World->Prop,Jx=fun s _ W=>(∀x,at_<=x->x<s->Ez l ws x=false)/\Ez l ws s=true/\at_<=s/\Ba (fun k=>k=Wb.heap.size+1\/k=lr) W1 W∧
   W.heap[Wb.heap.size+1]? =some (.cells #[.bool ((s:Int)==(at_:Int))] 4 (0,0))/\W.heap[lr]? =some (.loop (rc .done (some .ret))):=⟨_,rfl⟩
 have b6:=hI b5;clear b5;refine(Sw (9-1) lr (Wb.heap.size+1+1) (Wb.heap.size+1+1+1) (Wb.heap.size+1+1+1+1) (by omega) l a A n c ws at_ J Jx (fun k=>k=Wb.heap.size+1\/k=lr) W1 ?hlt ?hst ?hrd ?hskip ?hy ?h0 (cell_of_one k31) (by omega) hn hat hk).mono ?_
 case hlt=>
  intro s T W hx k hk;rw[HJ.out]at hx;obtain⟨rfl,_,h3,h4,h5⟩:=hx;rcases hk with rfl|rfl
  ·exact lt_of_block h4
  ·exact lt_of_block h5
 case hst=>
  intro s T W W' hx b0;rw[HJ.out]at hx ⊢;obtain⟨rfl,h2,h3,h4,h5⟩:=hx;have b3:∀k,k<W1.heap.size→¬(W1.heap.size<=k∧¬(k=Wb.heap.size+1\/k=lr)):=fun k h1 h2=>by omega
  exact⟨rfl,h2,(h3.mono (S':=fun k=>(k=Wb.heap.size+1\/k=lr)\/(W1.heap.size<=k∧¬(k=Wb.heap.size+1\/k=lr))) (fun k h=> .inl h)).trans (b0.mono (fun k h=> .inr h)) |>.old (fun k h1 h2=>by omega),
   (b0.block _ (lt_of_block h4) (b3 _ (by omega))).trans h4,(b0.block _ (lt_of_block h5) (b3 _ d2)).trans h5⟩
 case hrd=>
  intro s T W hx;rw[HJ.out]at hx;obtain⟨rfl,h2,h3,h4,h5⟩:=hx;have a9:Below w.heap.size w W:=a0.trans (h3.to_below (fun k hk=>by have:=a5.size;omega) a0.size);exact⟨(h3.block _ (by omega) (by omega)).trans k11,(h3.block _ (by omega) (by omega)).trans k21,HL.out.below a9 rr,HW.out.below a9 rr,HT.out.below a9 rr⟩
 case hskip=>
  intro s T W h1 h2 h3 hx;rw[HJ.out]at hx ⊢;obtain⟨rfl,q2,q3,q4,q5⟩:=hx;refine⟨rfl,fun x hx1 hx2=> ?_,q3,q4,q5⟩
  rcases Nat.lt_or_ge x s with h|h
  ·exact q2 x hx1 h
  ·obtain rfl:x=s:=by omega
   exact h3
 case h0=>
  rw[HJ.out];exact⟨rfl,fun x h1 h2=>by omega,Ba.refl _ _,r61,hl1⟩
 case hy=>
  intro s T W h1 h2 h3 hx;rw[HJ.out]at hx;obtain⟨rfl,q2,q3,q4,q5⟩:=hx;refine Fm d5.out q5 rfl ?_;have Q2:=hI q2;clear q2;have Q3:=hI q3;clear q3;have Q4:=hI q4;clear q4;have Q5:=hI q5;clear q5;have H3:=hI h3;clear h3;gi_wp2;refine⟨Q5.out, ?_⟩;have b9:=lt_of_block Q5.out;have p5:(W.putObj lr (.loop (rc .busy none))).heap[lr]? =some (.loop (rc .busy none)):=World.putObj_heap_same b9;have p4:(W.putObj lr (.loop (rc .busy none))).heap[Wb.heap.size+1]? =some (.cells #[.bool false] 4 (0,0)):=(World.putObj_heap_other (by omega)).trans Q4.out;have p6:(W.putObj lr (.loop (rc .busy none))).heap[Wb.heap.size]? =some (.cells #[.int .i64 (at_:Int)] 3 (0,0)):=(World.putObj_heap_other (by omega)).trans ((Q3.out.block _ (by omega) (by omega)).trans r51);have pK:Ba (fun k=>k=Wb.heap.size+1\/k=lr) W1 (W.putObj lr (.loop (rc .busy none))):=Q3.out.putObj (by simp) _;generalize W.putObj lr (.loop (rc .busy none))=V at*;have c4:=cell_of_one p4;have f4:=free_of_one p4;have c6:=cell_of_one p6;have P4:=hI p4;clear p4;have P5:=hI p5;clear p5;have PK:=hI pK;clear pK p6;gi_wp2;have s4:=one_setCell (u:= .bool ((s:Int)==(at_:Int))) P4.out;have s5:=(Below.heap_setCell V ⟨Wb.heap.size+1,0,none⟩ (.bool ((s:Int)==(at_:Int))) lr (by simp;omega)).trans P5.out;have sK:=PK.out.setCell (p:=⟨Wb.heap.size+1,0,none⟩) (by simp) (.bool ((s:Int)==(at_:Int)));refine⟨s5, .inr ⟨rfl, ?_⟩⟩;rw[b6.out];exact⟨Q2.out,H3.out,h1,sK.putObj (by simp) _,(World.putObj_heap_other (by omega)).trans s4,World.putObj_heap_same (lt_of_block s5)⟩
 ·rintro e W' ⟨⟨v,rfl⟩,⟨s,T,q1,q2,hx⟩|⟨s,T,hx⟩⟩
  ·rw[HJ.out]at hx;obtain⟨rfl,h2,h3,h4,h5⟩:=hx;refine .inl ⟨h5, ?_⟩
   have a3:Ez l ws at_=false:=by
    rcases Nat.lt_or_ge at_ s with h|h
    ·exact h2 at_ rr h
    ·unfold Ez;rw[show decide (at_+l.ifs.length<=ws.length)=false by rw[d0.out];simp;omega];rfl
   have a8:=hI a3;clear a3;have a2:=h3.putObj (l:=lr) (by simp) (.loop (rc .exhausted none));have a1:(W'.putObj lr (.loop (rc .exhausted none))).heap[Wb.heap.size+1]? =some (.cells #[.bool false] 4 (0,0)):=(World.putObj_heap_other (by omega)).trans h4;generalize W'.putObj lr (.loop (rc .exhausted none))=X at*;have c4:=cell_of_one a1;have f4:=free_of_one a1;have a6:=hI a2;clear a2 h2 h3 h4 h5;have a7:=hI a1;clear a1;gi_wp2;have s4:=one_setCell (u:= .bool false) a7.out;have sK:=a6.out.setCell (p:=⟨Wb.heap.size+1,0,none⟩) (by simp) (.bool false);have hM:D4 w.heap.size (X.setCell ⟨Wb.heap.size+1,0,none⟩ (.bool false)) [Le D]:=⟨D,rfl,by omega,(sK.block D (by omega) (by omega)).trans hD1,by simp,trivial⟩;refine Gx (B:=w.heap.size) hM fun w' hw'=>⟨.bool false,Kh Tryz.results208 _ _ (Wb.heap.size+1) false rfl (cell_of_one (hw'.row s4)),by rw[a8.out], ?_⟩
   exact(a0.trans (sK.to_below (fun k hk=>by omega) a0.size)).trans hw'.below
  ·rw[b6.out]at hx;obtain⟨h2,b4,d9,h3,h4,h5⟩:=hx;refine .inr ⟨.ret,h5, ?_⟩
   have a3:Ez l ws at_=((s:Int)==(at_:Int)):=by
    by_cases e:at_=s
    ·subst e;simp[b4]
    ·rw[h2 at_ rr (by omega)];symm;simp;omega
   have a8:=hI a3;clear a3;have a2:=h3.putObj (l:=lr) (by simp) (.loop (rc .exhausted (some .ret)));have a1:(W'.putObj lr (.loop (rc .exhausted (some .ret)))).heap[Wb.heap.size+1]? =some (.cells #[.bool ((s:Int)==(at_:Int))] 4 (0,0)):=(World.putObj_heap_other (by omega)).trans h4;generalize W'.putObj lr (.loop (rc .exhausted (some .ret)))=X at*;have a6:=hI a2;clear a2 h2 h3 h4 h5 b4;have a7:=hI a1;clear a1;gi_wp2;have hM:D4 w.heap.size X [Le D]:=⟨D,rfl,by omega,(a6.out.block D (by omega) (by omega)).trans hD1,by simp,trivial⟩;refine Gx (B:=w.heap.size) hM fun w' hw'=>⟨.bool ((s:Int)==(at_:Int)),Kh Tryz.results208 _ _ (Wb.heap.size+1) _ rfl (cell_of_one (hw'.row a7.out)),by rw[a8.out], ?_⟩
   exact(a0.trans (a6.out.to_below (fun k hk=>by omega) a0.size)).trans hw'.below
end Go.Proofs.YtaglfmlgbcmakaaGreatDoor
namespace Go.Proofs.YtaglfmlgbcmakaaGreatDoor
open Go.RowKit Go.Shelf
def Ln (cut:List Snd)(x:Fj):Snd:=
 let s0:Snd:=if 0<=x.frm then cut.getD x.frm.toNat (0,0)else(0,0)
 let s1:=Dp s0 x.clear (x.sp,x.sm)
 if x.take≠0 then Gv s1 (cut.getD x.of_.toNat (0,0)) x.take else s1
def Hb (l:Bi)(cut:List Snd):List Snd:=l.outs.map (Ln cut)
theorem Rs {x:Fj}{k:Int}(h:Ei x k=true):x.frm<k/\(x.take≠0->0<=x.of_/\x.of_<k):=by
 unfold Ei at h;split at h
 ·cases h
 ·rename_i h1
  split at h
  ·cases h
  ·simp only[Bool.or_eq_true,decide_eq_true_eq,not_or]at h1;refine⟨by omega,fun ht=> ?_⟩
   rw[if_neg (by simpa using ht)]at h;simpa using h
theorem Jz (w:World)(p q:Int)(t:TypeId):Ak (w.alloc (.cells #[.int .u32 p, .int .u32 q] t)) (some ⟨w.heap.size,0,none⟩) 1 1 [(p,q)]:=by
 refine⟨rfl,rr,by unfold maxLen;omega,(fun h=>by cases h),fun _=>⟨w.heap.size,0,rfl,by simp,fun j v hv=> ?_⟩⟩
 rw[Nat.zero_add];refine B8 ?_;simpa[B6]using hv
theorem Aln (l:Bi)(a:Dq)(A:Option Addr)(c:Nat)(cut:List Snd)(w:World)(hl:Df w l a)(hw:Ak w A l.ifs.length c cut)(hfit:∀x∈l.outs,Ei x l.ifs.length=true)(hm:l.outs.length<=64):
  Calls Tryz.prog 207 #[Eg l a, .slice A l.ifs.length c] w (E8 w (Hb l cut)):=by
 have j4:=hw.max;have j2:=hw.len;have o2:=hI j2;clear j2;have HL:=hI hl;clear hl;have HW:=hI hw;clear hw;have HF:=hI hfit;clear hfit;obtain⟨Wb,j9,f9,o3,i9,m5⟩:=D6 w l a;obtain⟨d0,d1,d2,d3⟩:=Bu f9;obtain⟨Ao,d9⟩:∃Ao,Ao=a.Ao:=⟨_,rfl⟩;rw[←d9]at d2;have i5:Eb Fj.cells 6 w Ao l.outs.length a.co l.outs:=by rw[d9];exact HL.out.2.2.2.1
 have k6:=hI i5;clear d9 i5;go_enter Tryz.func207,Tryz.ntmps207;go_wp2;clear j9 d0 d1 d2 d3;have m1:=hI f9;clear f9
 go_loopw [5,12] (fun v i wr=>∃j:Nat,i= .int .i64 j/\j<=l.outs.length/\Hid (wr.ownsRow Wb.heap.size 49 2 v j (B6 ((l.outs.take j).map (Ln cut))))/\Below w.heap.size w wr) (fun _ i _=>l.outs.length-(intOf i).toNat)
 case atStart=>exact⟨0,rfl,Nat.zero_le _,World.ownsRow_nil _ _ _ _,i9⟩
 case round=>
  obtain⟨j,rfl,hj,a0,hB⟩:=hrel;have m7:=hB.size;by_cases hjl:j<l.outs.length
  ·obtain⟨x,hx⟩:∃x,l.outs[j]? =some x:=⟨l.outs[j],List.getElem?_eq_getElem _⟩;obtain⟨b,off,rfl,m8,a8⟩:=(k6.out.below hB rr).at_ Fj.len (by decide) hx;obtain⟨a3,i7⟩:=Rs (HF.out x (List.mem_of_getElem? hx));have g0:=a8 0 _ rfl;have g1:=a8 1 _ rfl;have g2:=a8 2 _ rfl;have g3:=a8 3 _ rfl;have g4:=a8 4 _ rfl;have g5:=a8 5 _ rfl;simp only[Nat.add_zero,←Nat.add_assoc]at g0 g1 g2 g3 g4 g5;have HX:=hI hx;have d8:=hI i7;clear a8 hx i7;obtain⟨s0,b1⟩:∃s0:Snd,s0=if 0<=x.frm then cut.getD x.frm.toNat (0,0)else(0,0):=⟨_,rfl⟩
   have b2:Ak wr A l.ifs.length c cut:=HW.out.below hB rr;have j3:=hI b2;clear b2;obtain⟨fr,f8⟩:∃fr,fr=x.frm:=⟨_,rfl⟩;have j1:=hI b1.symm;rw[←f8]at g0 a3 b1;have j6:=hI f8;clear f8;by_cases h0:0<=fr
   case' pos=>
    obtain⟨f,rfl⟩:∃f:Nat,fr=f:=⟨fr.toNat,by omega⟩;obtain⟨bw,ow,p,q,j5,k3,i8,o1,m2⟩:=j3.out.at_ (k:=f) (by omega);have b6:s0=(p,q):=by rw[b1,if_pos h0,Int.toNat_natCast,D5 i8]
    have g9:=hI b6;have j8:(f:Int)<(l.ifs.length:Int):=by omega
    subst j5;clear h0 a3 b1 b6 i8
   case' neg=>
    have b6:s0=(0,0):=by rw[b1,if_neg h0]
    have g9:=hI b6;have j8:fr<0:=by omega
    clear h0 a3 b1 b6
   all_goals
    go_wp2_with fail;refine(Af4 _ _ x.clear x.sp x.sm _).mono ?_;rintro e w1 ⟨er,rfl,a3⟩;have k8:=a3.size;simp only[World.size_alloc]at k8;rw[←g9.out];have d7:=(a3.block wr.heap.size (by simp;omega)).trans ((Bc (by simp)).trans (Am rfl));have a9:=(a3.block (wr.heap.size+1) (by simp)).trans (Am (by simp));have b0:Below w.heap.size w w1:=((hB.alloc hB.size _).alloc (by simp;omega) _).trans (a3.mono (by simp;omega));have a6:=Hw ((a0.out.alloc _).alloc _) a3 rr;obtain⟨⟨p1,q1⟩,g6⟩:∃s:Snd,s=Dp s0 x.clear (x.sp,x.sm):=⟨_,rfl⟩;rw[←g6];have i4:=hI g6;clear g6;have e3:=Ad (j:=4) d7 rfl;have e4:=Ad (j:=5) d7 rfl;have e5:=Ad (j:=0) a9 rfl;have e6:=Ad (j:=1) a9 rfl;have f5:=frozen_of_row w1 (wr.heap.size+1) 0 _ _ a9;have f6:=frozen_of_row w1 (wr.heap.size+1) 1 _ _ a9;have o0:=hI d7;clear d7;have k9:=hI a9;clear a9;have a7:=hI a6;clear a6 a3;clear g0 g1 g2 g3 g4 g5
   all_goals
    by_cases ht:x.take=0
    case' neg=>
     obtain⟨k5,k0⟩:=d8.out ht;have k4:(x.take !=0)=true:=by simpa using ht
     obtain⟨g,hg⟩:∃g:Nat,g=x.of_.toNat:=⟨_,rfl⟩;have i1:x.of_=(g:Int):=by omega
     have HG:=hI hg;clear hg;rw[i1]at e4 k0;obtain⟨bo,oo,p2,q2,g8,b9,d6,j0,i3⟩:=HW.out.at_ (k:=g) (by omega)
     first|subst g8|(obtain⟨rfl,rfl⟩:bo=bw/\oo=ow:=by simpa using g8.symm)
     have f7:=hI d6;clear d6 i1 k5;have v0:=(b0.cell (p:=⟨bo,oo+g*2,none⟩) b9).trans j0;have v1:=(b0.cell (p:=⟨bo,oo+g*2+1,none⟩) b9).trans i3;clear j0 i3;have m6:(g:Int)<(l.ifs.length:Int):=by omega
     have m3:((g:Int)).toNat=g:=by omega
     go_wp2;have f2:=b0.size
     have y0:((w1.setCell ⟨wr.heap.size+1,0,none⟩ (.int .u32 p1)).setCell ⟨wr.heap.size+1,1,none⟩ (.int .u32 q1)).heap[wr.heap.size+1]? =some (.cells #[.int .u32 p1, .int .u32 q1] 49 (0,0)):=by
      have h:=Be (o:=1) (u:= .int .u32 q1) (Be (o:=0) (u:= .int .u32 p1) k9.out);exact h
     have a4:=ownsRow_setCell_other (ownsRow_setCell_other a7.out (a:=⟨wr.heap.size+1,0,none⟩) (fun e=>by have h:wr.heap.size+1<wr.heap.size:=(a0.out.lt _ e).2;omega) (.int .u32 p1)) (a:=⟨wr.heap.size+1,1,none⟩) (fun e=>by have h:wr.heap.size+1<wr.heap.size:=(a0.out.lt _ e).2;omega) (.int .u32 q1);have i6:Below w.heap.size w ((w1.setCell ⟨wr.heap.size+1,0,none⟩ (.int .u32 p1)).setCell ⟨wr.heap.size+1,1,none⟩ (.int .u32 q1)):=(b0.setCell (p:=⟨wr.heap.size+1,0,none⟩) (by simp;omega) _).setCell (p:=⟨wr.heap.size+1,1,none⟩) (by simp;omega) _;have y1:((w1.setCell ⟨wr.heap.size+1,0,none⟩ (.int .u32 p1)).setCell ⟨wr.heap.size+1,1,none⟩ (.int .u32 q1)).heap[wr.heap.size]? =w1.heap[wr.heap.size]? :=(Below.heap_setCell _ _ _ _ (by simp)).trans (Below.heap_setCell _ _ _ _ (by simp));have z3:=(World.cell?_of_block (a:=⟨wr.heap.size,4,none⟩) y1).trans e3;have z4:=(World.cell?_of_block (a:=⟨wr.heap.size,5,none⟩) y1).trans e4;have z0:((w1.setCell ⟨wr.heap.size+1,0,none⟩ (.int .u32 p1)).setCell ⟨wr.heap.size+1,1,none⟩ (.int .u32 q1)).cell? ⟨bo,oo+g*2,none⟩=some (.int .u32 p2):=by rw[B5 (by omega),B5 (by omega)];exact v0
     have z1:((w1.setCell ⟨wr.heap.size+1,0,none⟩ (.int .u32 p1)).setCell ⟨wr.heap.size+1,1,none⟩ (.int .u32 q1)).cell? ⟨bo,oo+g*2+1,none⟩=some (.int .u32 q2):=by rw[B5 (by omega),B5 (by omega)];exact v1
     have g7:((w1.setCell ⟨wr.heap.size+1,0,none⟩ (.int .u32 p1)).setCell ⟨wr.heap.size+1,1,none⟩ (.int .u32 q1)).heap.size=w1.heap.size:=by simp
     generalize((w1.setCell ⟨wr.heap.size+1,0,none⟩ (.int .u32 p1)).setCell ⟨wr.heap.size+1,1,none⟩ (.int .u32 q1))=U at*;have z5:=Ad (j:=0) y0 rfl;have z6:=Ad (j:=1) y0 rfl;have i0:=hI y0;clear y0;have m9:=hI g7;clear g7;have b8:=hI a4;clear a4;have d8:=hI i6;clear i6;clear y1 e3 e4 e5 e6 f5 f6 v0 v1
     refine Na 8 (fun W'=>W'.cell? ⟨bo,oo+g*2,none⟩=some (.int .u32 p2)/\W'.cell? ⟨bo,oo+g*2+1,none⟩=some (.int .u32 q2)/\W'.cell? ⟨wr.heap.size,4,none⟩=some (.int .u32 x.take)/\W'.cell? ⟨wr.heap.size,5,none⟩=some (.int .i64 g)∧
      W'.cell? ⟨wr.heap.size+1,0,none⟩=some (.int .u32 p1)/\W'.cell? ⟨wr.heap.size+1,1,none⟩=some (.int .u32 q1)) (by kernel_rfl) ⟨z0,z1,z3,z4,z5,z6⟩ (fun hHeld=> ?_)
     (refine' Ct (i:=0) 8 (v:=_) rfl (by kernel_rfl) (by kernel_rfl) (by kernel_rfl) (by kernel_rfl) (fun _ _ _ h=>h) (Or.inl ⟨by rfl,fun w' hSw=>by(try dsimp only at hSw);go_split_ands;go_simp;(try with_reducible rfl)⟩) (by assumption) ?_;(try simp only[Act.put,nY,nX]));(refine' Ct (i:=1) 4 (v:=_) rfl (by kernel_rfl) (by kernel_rfl) (by kernel_rfl) (by kernel_rfl) (fun _ _ _ h=>h) (Or.inl ⟨by rfl,fun w' hSw=>by(try dsimp only at hSw);go_split_ands;go_simp;(try with_reducible rfl)⟩) (by assumption) ?_;(try simp only[Act.put,nY,nX]));(refine' Ct (i:=2) 3 (v:=_) rfl (by kernel_rfl) (by kernel_rfl) (by kernel_rfl) (by kernel_rfl) (fun _ _ _ h=>h) (Or.inl ⟨by rfl,fun w' hSw=>by(try dsimp only at hSw);go_split_ands;go_simp;(try with_reducible rfl)⟩) (by assumption) ?_;(try simp only[Act.put,nY,nX]));(refine' Ct (i:=3) 4 (v:=_) rfl (by kernel_rfl) (by kernel_rfl) (by kernel_rfl) (by kernel_rfl) (fun _ _ _ h=>h) (Or.inl ⟨by rfl,fun w' hSw=>by(try dsimp only at hSw);go_split_ands;go_simp;(try with_reducible rfl)⟩) (by assumption) ?_;(try simp only[Act.put,nY,nX]));(refine' Ct (i:=4) 5 (v:=_) rfl (by kernel_rfl) (by kernel_rfl) (by kernel_rfl) (by kernel_rfl) (fun _ _ _ h=>h) (Or.inl ⟨by rfl,fun w' hSw=>by(try dsimp only at hSw);go_split_ands;go_simp;(try with_reducible rfl)⟩) (by assumption) ?_;(try simp only[Act.put,nY,nX]));(refine' Ct (i:=5) 8 (v:=_) rfl (by kernel_rfl) (by kernel_rfl) (by kernel_rfl) (by kernel_rfl) (fun _ _ _ h=>h) (Or.inl ⟨by rfl,fun w' hSw=>by(try dsimp only at hSw);go_split_ands;go_simp;(try with_reducible rfl)⟩) (by assumption) ?_;(try simp only[Act.put,nY,nX]));(refine' Ct (i:=6) 7 (v:=_) rfl (by kernel_rfl) (by kernel_rfl) (by kernel_rfl) (by kernel_rfl) (fun _ _ _ h=>h) (Or.inl ⟨by rfl,fun w' hSw=>by(try dsimp only at hSw);go_split_ands;go_simp;(try with_reducible rfl)⟩) (by assumption) ?_;(try simp only[Act.put,nY,nX]));(refine' Ct (i:=7) 8 (v:=_) rfl (by kernel_rfl) (by kernel_rfl) (by kernel_rfl) (by kernel_rfl) (fun _ _ _ h=>h) (Or.inl ⟨by rfl,fun w' hSw=>by(try dsimp only at hSw);go_split_ands;go_simp;(try with_reducible rfl)⟩) (by assumption) ?_;(try simp only[Act.put,nY,nX]))
     (refine Fy (i:=8) (by kernel_rfl) rfl (fun K' hK'=> ?_);simp only[nY];go_simp)
     refine(Alw p1 q1 p2 q2 x.take _).mono ?_;rintro e w3 ⟨m0,rfl,b5⟩;have m4:=b5.size;have k2:U.drew.heap.size=U.heap.size:=rfl;obtain⟨⟨p3,q3⟩,f3⟩:∃s:Snd,s=Gv (p1,q1) (p2,q2) x.take:=⟨_,rfl⟩;rw[←f3]
     have b4:Ln cut x=(p3,q3):=by
      unfold Ln;have e1:=j6.out;have e2:(if 0<=x.frm then cut.getD x.frm.toNat (0,0)else(0,0))=s0:=j1.out;simp only[e2,←i4.out];rw[if_pos ht,f3,←HG.out,D5 f7.out]
     have f4:=hI b4;clear b4 f3;have i2:Below w.heap.size w w3:=d8.out.drew.trans (b5.mono d8.out.size);have a5:=Hw (w:=U.drew) b8.out b5 rr;have y3:w3.heap[wr.heap.size+1]? =some (.cells #[.int .u32 p1, .int .u32 q1] 49 (0,0)):=(b5.block _ (lt_of_block i0.out)).trans i0.out;refine hK' _ _ ⟨.inl (by kernel_rfl),fun _=>Jo _ _ _ _ (by kernel_rfl) ?_⟩
     clear hK' K' b5 k2 hHeld;have f5:=frozen_of_row w3 (wr.heap.size+1) 0 _ _ y3;have f6:=frozen_of_row w3 (wr.heap.size+1) 1 _ _ y3;have c5:=Ad (j:=0) y3 rfl;have c6:=Ad (j:=1) y3 rfl;have Y3:=hI y3;clear y3;have k1:=hI i2;clear i2;have b3:=hI a5;clear a5
     (try simp only[Act.put,nY,nX])
     (refine' Hl (i:=9) (v:=_) rfl (by kernel_rfl) (by kernel_rfl) (by kernel_rfl) (fun _ _ _ h=>h) (Or.inl ⟨by rfl,fun w' hSw=>by go_simp;(try with_reducible rfl)⟩) ?_;(try simp only[Act.put,nY,nX]));(refine' Hl (i:=10) (v:=_) rfl (by kernel_rfl) (by kernel_rfl) (by kernel_rfl) (fun _ _ _ h=>h) (Or.inl ⟨by rfl,fun w' hSw=>by go_simp;(try with_reducible rfl)⟩) ?_;(try simp only[Act.put,nY,nX]));(refine' Hl (i:=11) (v:=_) rfl (by kernel_rfl) (by kernel_rfl) (by kernel_rfl) (fun _ _ _ h=>h) (Or.inl ⟨by rfl,fun w' hSw=>by go_simp;(try with_reducible rfl)⟩) ?_;(try simp only[Act.put,nY,nX]))
     (refine Anv 12 rfl (fun K' hK'=> ?_);simp only[nY];go_simp)
     refine hK' _ _ ⟨.inl (by kernel_rfl),fun _=>Bf (by kernel_rfl) ?_ _⟩
     clear hK' K'
     have t0:((w3.setCell ⟨wr.heap.size+1,0,none⟩ (.int .u32 p3)).setCell ⟨wr.heap.size+1,1,none⟩ (.int .u32 q3)).heap[wr.heap.size+1]? =some (.cells #[.int .u32 p3, .int .u32 q3] 49 (0,0)):=by
      have h:=Be (o:=1) (u:= .int .u32 q3) (Be (o:=0) (u:= .int .u32 p3) Y3.out);exact h
     have town:=ownsRow_setCell_other (ownsRow_setCell_other b3.out (a:=⟨wr.heap.size+1,0,none⟩) (fun e=>by have h:wr.heap.size+1<wr.heap.size:=(a0.out.lt _ e).2;omega) (.int .u32 p3)) (a:=⟨wr.heap.size+1,1,none⟩) (fun e=>by have h:wr.heap.size+1<wr.heap.size:=(a0.out.lt _ e).2;omega) (.int .u32 q3);have tB:Below w.heap.size w ((w3.setCell ⟨wr.heap.size+1,0,none⟩ (.int .u32 p3)).setCell ⟨wr.heap.size+1,1,none⟩ (.int .u32 q3)):=(k1.out.setCell (p:=⟨wr.heap.size+1,0,none⟩) (by simp;omega) _).setCell (p:=⟨wr.heap.size+1,1,none⟩) (by simp;omega) _;generalize((w3.setCell ⟨wr.heap.size+1,0,none⟩ (.int .u32 p3)).setCell ⟨wr.heap.size+1,1,none⟩ (.int .u32 q3))=w4 at*;have t1:=Ad (j:=0) t0 rfl;have t2:=Ad (j:=1) t0 rfl;have j7:=hI t0;clear t0;have TOWN:=hI town;clear town;have TB:=hI tB;clear tB;have k7:Wb.heap.size<=w4.heap.size:=by have:=lt_of_block j7.out;omega
     have f0:w.heap.size<=w4.heap.size:=TB.out.size;go_wp2_with(at_builtin;refine D1 rfl (.tmp 48) (.tmp 50) rfl Wb.heap.size u5 j ((l.outs.take j).map (Ln cut)) rfl (TOWN.out.alloc _) (some ⟨w4.heap.size,0,none⟩) 1 1 [(p3,q3)] rfl (Jz w4 p3 q3 49) (by omega) (by simp;omega) ?_;intro v' w9 a1 d4 _);have b7:∀k,u5.ownBlock=some k->w.heap.size<=k:=fun k hk=>by have:=(a0.out.lt _ hk).1;omega
     have d5:Below w.heap.size w w9:=(TB.out.alloc f0 _).grown d4 (by simp;omega) b7;have a2:=hI a1;have f1:=hI d5;clear a1 d4 d5 b7
     go_roundw
     case rel=>
      refine⟨j+1,by go_num,by omega, ?_,f1.out⟩;show w9.ownsRow _ _ _ _ _ _;rw[Bd l.outs j x HX.out,List.map_append,List.map_cons,List.map_nil,f4.out];have h9:=a2.out
      try rw[←List.map_take]at h9
      exact h9
     case measure=>simp[intOf];omega
    case' pos=>
     have k4:(x.take !=0)=false:=by rw[ht];rfl
     have b4:Ln cut x=(p1,q1):=by
      unfold Ln;have e2:(if 0<=x.frm then cut.getD x.frm.toNat (0,0)else(0,0))=s0:=j1.out;simp only[e2,←i4.out];rw[if_neg (by simpa using ht)]
     have f4:=hI b4;clear b4;have f2:=b0.size;have town:=ownsRow_setCell_other (ownsRow_setCell_other a7.out (a:=⟨wr.heap.size+1,0,none⟩) (fun e=>by have h:wr.heap.size+1<wr.heap.size:=(a0.out.lt _ e).2;omega) (.int .u32 p1)) (a:=⟨wr.heap.size+1,1,none⟩) (fun e=>by have h:wr.heap.size+1<wr.heap.size:=(a0.out.lt _ e).2;omega) (.int .u32 q1);have tB:Below w.heap.size w ((w1.setCell ⟨wr.heap.size+1,0,none⟩ (.int .u32 p1)).setCell ⟨wr.heap.size+1,1,none⟩ (.int .u32 q1)):=(b0.setCell (p:=⟨wr.heap.size+1,0,none⟩) (by simp;omega) _).setCell (p:=⟨wr.heap.size+1,1,none⟩) (by simp;omega) _;have TOWN:=hI town;clear town;have TB:=hI tB;clear tB;have k7:Wb.heap.size<=w1.heap.size:=by omega
     have tone:=Jz ((w1.setCell ⟨wr.heap.size+1,0,none⟩ (.int .u32 p1)).setCell ⟨wr.heap.size+1,1,none⟩ (.int .u32 q1)) p1 q1 49;rw[show((w1.setCell ⟨wr.heap.size+1,0,none⟩ (.int .u32 p1)).setCell ⟨wr.heap.size+1,1,none⟩ (.int .u32 q1)).heap.size=w1.heap.size by simp]at tone;have TONE:=hI tone;clear tone;go_wp2_with(at_builtin;refine D1 rfl (.tmp 48) (.tmp 50) rfl Wb.heap.size u5 j ((l.outs.take j).map (Ln cut)) rfl (TOWN.out.alloc _) (some ⟨w1.heap.size,0,none⟩) 1 1 [(p1,q1)] rfl TONE.out (by omega) (by simp;omega) ?_;intro v' w9 a1 d4 _);have b7:∀k,u5.ownBlock=some k->w.heap.size<=k:=fun k hk=>by have:=(a0.out.lt _ hk).1;omega
     have d5:Below w.heap.size w w9:=(TB.out.alloc (by simp;omega) _).grown d4 (by simp;omega) b7;have a2:=hI a1;have f1:=hI d5;clear a1 d4 d5 b7
     go_roundw
     case rel=>
      refine⟨j+1,by go_num,by omega, ?_,f1.out⟩;show w9.ownsRow _ _ _ _ _ _;rw[Bd l.outs j x HX.out,List.map_append,List.map_cons,List.map_nil,f4.out];have h9:=a2.out
      try rw[←List.map_take]at h9
      exact h9
     case measure=>simp[intOf];omega
  ·obtain rfl:j=l.outs.length:=by omega
   go_wp2;go_ret;have h2:l.outs.take l.outs.length=l.outs:=List.take_of_length_le rr;have h3:=a0.out;rw[h2]at h3;exact E8.of_own rfl h3 hB i9.size
def Bb (l:Bi)(ws:List Snd)(at_:Nat):List Snd:=ws.take at_++Hb l ((ws.drop at_).take l.ifs.length)++ws.drop (at_+l.ifs.length)
theorem V4 (l:Bi)(a:Dq)(A:Option Addr)(n c:Nat)(ws:List Snd)(at_:Nat)(w:World)(hl:Df w l a)(hw:Ak w A n c ws)(hfit:∀x∈l.outs,Ei x l.ifs.length=true)(hm:l.outs.length<=64)
  (hat:at_+l.ifs.length<=n) (hn:n<=4000):
  Calls Tryz.prog 209 #[Eg l a, .slice A n c, .int .i64 at_] w (E8 w (Bb l ws at_)):=by
 have f2:n<=c:=hw.2.1;have b4:c<=9223372036854775807:=by have:=hw.2.2.1;unfold maxLen at this;omega
 have HL:=hI hl;clear hl;have HW:=hI hw;clear hw;obtain⟨Wb,b9,a9,d4,b5,f4⟩:=D6 w l a;obtain⟨d0,d1,d2,d3⟩:=Bu a9;go_enter Tryz.func209,Tryz.ntmps209;go_wp2;clear b9 d0 d1 d2 d3;have a2:=hI b5;have d5:(0:Int)<=(at_:Int):=by omega
 have f0:(at_:Int)<=(c:Int):=by omega
 have f3:(at_:Int)<=(at_:Int)+(l.ifs.length:Int):=by omega
 have f1:(at_:Int)+(l.ifs.length:Int)<=(c:Int):=by omega
 have d9:(at_:Int)+(l.ifs.length:Int)<=(n:Int):=by omega
 have d8:((at_:Int)+(l.ifs.length:Int)).toNat=at_+l.ifs.length:=by omega
 have d6:(0:Int)<=(at_:Int)+(l.ifs.length:Int):=by omega
 refine Bg (fun W'=>W'.heap[w.heap.size]? =some (.cells (Bw l a) 55 (0,0))) (by kernel_rfl) a9 (fun hHeld=> ?_)
 (refine' Ae 0 rfl ?_;(try simp only[Act.put,nY,nX]));(refine' Ae 1 rfl ?_;(try simp only[Act.put,nY,nX]));(refine' Ae 2 rfl ?_;(try simp only[Act.put,nY,nX]))
 (refine' Ch (i:=3) (v:=Eg l a) rfl (by kernel_rfl) (by kernel_rfl) (by kernel_rfl) (by kernel_rfl) (fun _ _ _ h=>h) (Lh (by rfl) (.tmp 3) rfl (w.heap.size) l a (by rfl) (fun w' hSw=>by(try dsimp only at hSw);first|exact hSw|exact hSw.1)) (by assumption) ?_;(try simp only[Act.put,nY,nX]))
 (refine' Ae 4 rfl ?_;(try simp only[Act.put,nY,nX]));(refine' Ae 5 rfl ?_;(try simp only[Act.put,nY,nX]));(refine' Ae 6 rfl ?_;(try simp only[Act.put,nY,nX]));(refine' Ae 7 rfl ?_;(try simp only[Act.put,nY,nX]));(refine' Ae 9 rfl ?_;(try simp only[Act.put,nY,nX]));(refine' Ae 10 rfl ?_;(try simp only[Act.put,nY,nX]));(refine' Ae 11 rfl ?_;(try simp only[Act.put,nY,nX]))
 (refine Anv 8 rfl (fun K' hK'=> ?_);simp only[nY];go_simp)
 have hcut:Ak Wb.drew (if c=at_ then A else A.map (·.add (at_*2))) l.ifs.length (c-at_) ((ws.drop at_).take l.ifs.length):=Ak.take ((HW.out.below (B:=w.heap.size) a2.out.drew rr).drop (by omega)) (by omega);refine(Aln l a _ _ _ _ (HL.out.below (B:=w.heap.size) a2.out.drew rr) hcut hfit hm).mono ?_;rintro e w2 ⟨A2,n2,c2,rfl,a8,a5,_⟩;have b0:Below w.heap.size w w2:=a2.out.drew.trans (a5.mono a2.out.size);have a3:=(a5.block w.heap.size d4).trans hHeld;have a0:=hI b0;clear b0 a5;have b7:=hI a8;clear a8;refine hK' _ _ ⟨.inr a3,fun _=> ?_⟩
 clear hK' K'
 (try simp only[Act.put,nY,nX])
 (refine Anv 12 rfl (fun K' hK'=> ?_);simp only[nY];go_simp)
 have a6:=(Bc (o:= .cells #[.slice A at_ c, .slice A2 n2 c2, .slice (if c=at_+l.ifs.length then A else A.map (·.add ((at_+l.ifs.length)*2))) (n-(at_+l.ifs.length)) (c-(at_+l.ifs.length))] 28) (lt_of_block a3)).trans a3;refine hK' _ _ ⟨.inr a6,fun _=> ?_⟩
 clear hK' K'
 (try simp only[Act.put,nY,nX])
 (refine Anv 13 rfl (fun K' hK'=> ?_);simp only[nY];go_simp)
 have a1:(Hb l ((ws.drop at_).take l.ifs.length)).length=l.outs.length:=by simp[Hb]
 refine(Rx (some ⟨w2.heap.size,0,none⟩) 3 3 [(A,at_,c,ws.take at_),(A2,n2,c2,Hb l ((ws.drop at_).take l.ifs.length)),(if c=at_+l.ifs.length then A else A.map (·.add ((at_+l.ifs.length)*2)),n-(at_+l.ifs.length),c-(at_+l.ifs.length),ws.drop (at_+l.ifs.length))] _ ?hc ?hp ?hb).mono ?_
 case hc=>exact⟨rfl,rr,by unfold maxLen;omega,(fun h=>by cases h),fun _=>⟨w2.heap.size,0,rfl,by simp,fun j v hv=>by rw[Nat.zero_add];exact B8 (by simpa[Part.val]using hv)⟩⟩
 case hp=>
  intro p hp;have b2:Below w.heap.size w (w2.alloc (.cells #[.slice A at_ c, .slice A2 n2 c2, .slice (if c=at_+l.ifs.length then A else A.map (·.add ((at_+l.ifs.length)*2))) (n-(at_+l.ifs.length)) (c-(at_+l.ifs.length))] 28)):=a0.out.alloc a0.out.size _;simp only[List.mem_cons,List.not_mem_nil,or_false]at hp;rcases hp with rfl|rfl|rfl
  ·exact Ak.take (HW.out.below b2 rr) (show at_<=n by omega)
  ·exact b7.out.below ((Below.refl w2.heap.size w2).alloc rr _) rr
  ·exact Ak.drop (HW.out.below b2 rr) hat
 case hb=>
  have d7:=HW.out.len;simp only[Ka,List.flatMap_cons,List.flatMap_nil,List.append_nil,Part.word,List.length_append,List.length_take,List.length_drop,a1];omega
 rintro e w4 ⟨A4,n4,c4,rfl,a7,b1,a4⟩;have b6:Below w.heap.size w w4:=(a0.out.alloc a0.out.size _).trans (b1.mono (by have:=a0.out.size;simp;omega));have b3:=(b1.block w.heap.size (lt_of_block a6)).trans a6;refine hK' _ _ ⟨.inr b3,fun _=> ?_⟩
 clear hK' K'
 (try simp only[Act.put,nY,nX])
 (refine Anv 14 rfl (fun K' hK'=> ?_);simp only[nY];go_simp)
 refine hK' _ _ ⟨.inl (by kernel_rfl),fun _=>Bf (by kernel_rfl) ?_ _⟩
 clear hK' K';have b8:=hI a7;clear a7;generalize(if c=at_ then A else A.map (·.add (at_*2)))=A5;generalize(if c=at_+l.ifs.length then A else A.map (·.add ((at_+l.ifs.length)*2)))=A6;go_wp2;go_ret;refine⟨A4,n4,c4,rfl, ?_,b6,fun ad had=> ?_⟩
 rotate_left
 ·have h1:=a4 ad had;have h2:=a0.out.size;simp only[World.size_alloc]at h1;omega
 have h:=b8.out;simp only[Ka,List.flatMap_cons,List.flatMap_nil,List.append_nil,Part.word]at h;unfold Bb;rw[List.append_assoc];exact h
end Go.Proofs.YtaglfmlgbcmakaaGreatDoor
