/-
  ablautref08: Name, fits.
  ablautref08: Check, check.
  ablautref08: put.
  ablautref08: replace.
  ablautref08: Hit.
-/
import Derived.Laws.OwnMore
import Derived.Test.YtaglfmlgbcmakaaGreatDoorG25
set_option linter.all false
set_option maxRecDepth 100000
set_option maxHeartbeats 4000000
namespace Go.Proofs.YtaglfmlgbcmakaaGreatDoor
open Go.RowKit Go.Shelf
theorem Zw {α:Type}(p:α->Bool):∀l:List α,(l.dropWhile p).all p=true->l.all p=true
 |[],_=>rfl
 |x::t,h=>by
  rw[List.dropWhile_cons]at h
  cases hp:p x with
  |true=>
   rw[hp,if_pos rfl]at h;rw[List.all_cons,hp,Zw p t h];rfl
  |false=>
   rw[hp,if_neg (by decide),List.all_cons,hp]at h;exact absurd h (by simp)
theorem Nu {α:Type}(p:α->Bool):∀l:List α,(l.dropWhile p).isEmpty=l.all p
 |[]=>rfl
 |x::t=>by
  rw[List.dropWhile_cons,List.all_cons]
  cases hp:p x with
  |true=>rw[if_pos rfl,Bool.true_and];exact Nu p t
  |false=>rw[if_neg (by decide)];rfl
theorem Aie (l cs:List UInt8):(Lib.trimS l cs).isEmpty=l.all (cs.contains ·):=by
 unfold Lib.trimS Lib.trimLeftS Lib.trimRightS;rw[Nu,List.all_reverse,Bool.eq_iff_iff];constructor
 ·intro h
  have:=Zw (cs.contains ·) l.reverse h
  rwa[List.all_reverse]at this
 ·intro h;have h1:(l.reverse.dropWhile (cs.contains ·)).isEmpty=true:=by rw[Nu,List.all_reverse];exact h
  rw[List.isEmpty_iff.1 h1];rfl
def okN (n:Nat):Bool:=(decide (97<=n) && decide (n<=122))||(decide (65<=n) && decide (n<=90))||(decide (48<=n) && decide (n<=57))||n==45
theorem Ab4:∀n:Nat,n<256->letters.contains (UInt8.ofNat n)=okN n:=by decide+kernel
theorem Aen (c:UInt8):letters.contains c=okN c.toNat:=by
 rw[←Ab4 c.toNat c.toNat_lt];simp
theorem Vs (s:ByteArray):Dg s=(decide (1<=s.size) && decide (s.size<=24) && s.data.toList.all fun c=>okN c.toNat):=by
 unfold Dg
 have e:s.data.toList.all (fun c=>letters.contains c)=s.data.toList.all (fun c=>okN c.toNat):=by
  congr 1;funext c;exact Aen c
 rw[Aie,e,Lib.toList_data];congr 2;have hs:s.data.toList.length=s.size:=by simp
 cases h:s.data.toList with
 |nil=>rw[h]at hs;simp only[List.length_nil]at hs;rw[←hs];rfl
 |cons x y=>rw[h]at hs;simp only[List.length_cons]at hs;rw[decide_eq_true (by omega)];rfl
theorem Vt (s:ByteArray)(k:Nat)(h:k<s.size):s.data.toList.take (k+1)=s.data.toList.take k++[s[k]]:=by
 rw[List.take_succ_eq_append_getElem (by simpa using h)];rfl
theorem Aif (s:ByteArray)(w:World)(hs:s.size<=9223372036854775807):
  Calls Tryz.prog 157 #[.string s] w fun e w'=>e= .returned (.bool (Dg s))/\w'=w:=by
 have HN:=hI (Vs s);go_enter Tryz.func157,Tryz.ntmps157;go_wp2
 go_loop [3] (fun i=>∃k:Nat,k<=s.size/\i= .int .i64 k/\Hid ((s.data.toList.take k).all (fun c=>okN c.toNat)=true)) (fun i=>s.size-(intOf i).toNat)
 case atStart=>exact⟨0,Nat.zero_le _,rfl,by simp[Hid]⟩
 case round=>
  obtain⟨k,hk,rfl,a0⟩:=hrel;by_cases hlt:k<s.size
  ·have HT:=hI (Vt s k hlt);have a3:(k:Int)<(s.size:Int):=by omega
   have a2:Hid (okN s[k].toNat=false->Dg s=false):=by
    intro h;rw[HN.out]
    have h1:s.data.toList.all (fun c=>okN c.toNat)=false:=by
     rw[←List.take_append_drop (k+1) s.data.toList,HT.out];simp[h]
    rw[h1,Bool.and_false]
   have a1:Hid (okN s[k].toNat=true->(s.data.toList.take (k+1)).all (fun c=>okN c.toNat)=true):=by
    intro h;rw[HT.out,List.all_append,a0.out];simp[h]
   go_wp2
   all_goals(simp only[Bool.and_eq_true,Bool.not_eq_true',Bool.not_eq_false',decide_eq_false_iff_not,decide_eq_true_eq,beq_eq_false_iff_ne,beq_iff_eq,ne_eq]at*)
   all_goals first
    |(refine⟨⟨k+1,by omega,by go_num,a1.out ?_⟩,by simp[intOf];omega⟩
      unfold okN;simp only[Bool.or_eq_true,Bool.and_eq_true,decide_eq_true_eq,beq_iff_eq];omega)
    |(go_ret
      refine⟨?_,rfl⟩
      have hf:okN s[k].toNat=false:=by
       unfold okN;simp only[Bool.or_eq_false_iff,Bool.and_eq_false_iff,decide_eq_false_iff_not,beq_eq_false_iff_ne];omega
      rw[a2.out hf];rfl)
  ·obtain rfl:k=s.size:=by omega
   have hf:Dg s=(decide (1<=s.size) && decide (s.size<=24)):=by
    rw[HN.out]
    have:=a0.out
    rw[List.take_of_length_le (by simp)]at this;rw[this,Bool.and_true]
   have HF:=hI hf;clear hf;by_cases h1:1<=s.size
   ·have a4:decide ((1:Int)<=(s.size:Int))=true:=decide_eq_true (by omega);go_wp2;go_ret;refine⟨?_,rfl⟩;show Ending.returned (.bool (decide ((s.size:Int)<=24)))=_;rw[HF.out,decide_eq_true h1,Bool.true_and];congr 2;exact decide_eq_decide.2 (by omega)
   ·have a4:decide ((1:Int)<=(s.size:Int))=false:=decide_eq_false (by omega);go_wp2;go_ret;refine⟨?_,rfl⟩;rw[HF.out,decide_eq_false h1];rfl
def Aig (x:Fj)(k:Int):Bool:=
 if decide (x.frm< -1)||decide (k<=x.frm)|| !Bx x.sp x.sm||bits .andNot .u32 x.clear 16777215 !=0||bits .andNot .u32 x.take 16777215 !=0 then false
 else if bits .and .u32 x.clear (bits .or .u32 x.sp x.sm) !=0||bits .and .u32 x.take (bits .or .u32 x.sp x.sm) !=0||bits .and .u32 x.take x.clear !=0 then false
 else if x.take==0 then x.of_==0
 else decide (0<=x.of_) && decide (x.of_<k)
theorem Ab5 (a b m:Int):(bits .andNot .u32 (bits .or .u32 a b) m !=0)=(bits .andNot .u32 a m !=0||bits .andNot .u32 b m !=0):=by
 have h:bits .andNot .u32 (bits .or .u32 a b) m=0↔bits .andNot .u32 a m=0/\bits .andNot .u32 b m=0:=by
  rw[Dx,Dx,Dx,Jf,Fu,Es,Es,Es];simp only[BitVec.getLsbD_and,BitVec.getLsbD_or,BitVec.getLsbD_not];constructor
  ·intro h;exact⟨fun i=>by have:=h i;revert this;cases(bv a).getLsbD i<;>simp,fun i=>by have:=h i;revert this;cases(bv b).getLsbD i<;>simp⟩
  ·rintro⟨h1,h2⟩ i;have h3:=h1 i;have h4:=h2 i
   revert h3 h4
   cases(bv a).getLsbD i<;>cases(bv b).getLsbD i<;>simp
 rw[Bool.eq_iff_iff,Bool.or_eq_true,bne_iff_ne,bne_iff_ne,bne_iff_ne];rw[ne_eq,h];simp only[ne_eq];exact Classical.not_and_iff_not_or_not
theorem Ab6 (a m c:Int):(bits .and .u32 a (bits .or .u32 m c) !=0)=(bits .and .u32 a m !=0||bits .and .u32 a c !=0):=by
 have h:bits .and .u32 a (bits .or .u32 m c)=0↔bits .and .u32 a m=0/\bits .and .u32 a c=0:=by
  rw[Kr,Kr,Kr,Jf,Fu,Es,Es,Es];simp only[BitVec.getLsbD_and,BitVec.getLsbD_or];constructor
  ·intro h;exact⟨fun i=>by have:=h i;revert this;cases(bv a).getLsbD i<;>simp;exact fun h _=>h,fun i=>by have:=h i;revert this;cases(bv a).getLsbD i<;>simp⟩
  ·rintro⟨h1,h2⟩ i;have h3:=h1 i;have h4:=h2 i
   revert h3 h4
   cases(bv a).getLsbD i<;>simp;intro h3 h4;exact⟨h3,h4⟩
 rw[Bool.eq_iff_iff,Bool.or_eq_true,bne_iff_ne,bne_iff_ne,bne_iff_ne];rw[ne_eq,h];simp only[ne_eq];exact Classical.not_and_iff_not_or_not
theorem Aih (x:Fj)(k:Int):Aig x k=Ei x k:=by
 unfold Aig Ei;rw[Ab5,Ab6 x.take (bits .or .u32 x.sp x.sm) x.clear]
 cases decide (x.frm< -1)<;>cases decide (k<=x.frm)<;>cases Bx x.sp x.sm<;>cases(bits .andNot .u32 x.clear 16777215 !=0)<;>cases(bits .andNot .u32 x.take 16777215 !=0)<;>
  cases(bits .and .u32 x.clear (bits .or .u32 x.sp x.sm) !=0)<;>cases(bits .and .u32 x.take (bits .or .u32 x.sp x.sm) !=0)<;>cases(bits .and .u32 x.take x.clear !=0)<;>rfl
theorem Aii (x:Fj)(k:Int)(w:World)(hp:U32 x.sp)(hm:U32 x.sm):
  Calls Tryz.prog 160 #[Agq x, .int .i64 k] w fun e w'=>e= .returned (.bool (Ei x k))/\Below w.heap.size w w':=by
 have HP:=hI hp;clear hp;have HM:=hI hm;clear hm;have HF:=hI (Aih x k);go_enter Tryz.func160,Tryz.ntmps160;go_wp2_with(go_at_call 159;refine(Fz _ _ _ HP.out HM.out).mono ?_;rintro e w1 ⟨rfl,a0⟩;have a2:=Db a0;(try simp only[World.size_alloc,World.size_drew,World.size_setCell]at a2);have c0:=fun o=>a0.cell (p:=⟨w.heap.size,o,none⟩) sd;have f0:=fun o=>a0.frozen (p:=⟨w.heap.size,o,none⟩) sd;have a1:Below w.heap.size w w1:=bel;clear a0)
 all_goals(go_ret;refine⟨?_,by first|exact a1|exact bel⟩;rw[←HF.out];simp[Aig, *];try(first|omega|(intro hv;rename_i h;simp[hv]at h;omega)))
end Go.Proofs.YtaglfmlgbcmakaaGreatDoor
namespace Go.Proofs.YtaglfmlgbcmakaaGreatDoor
open Go.RowKit Go.Shelf
attribute [local go_sem] Oper.semAt_some
def Akv (x:Fj):Prop:=U32 x.clear/\U32 x.sp/\U32 x.sm/\U32 x.take
def Ps (l:Bi):Prop:=NdU l.left.1/\FoU l.left.2/\NdU l.right.1/\FoU l.right.2/\Ck l.ifs∧∀x∈l.outs,Akv x
theorem Vu (l:Bi)(a:Dq)(w:World)(hl:Df w l a)(hu:Ps l):
  Calls Tryz.prog 123 #[Eg l a] w fun e w'=>e= .returned (.int .i64 (Cc l))/\Below w.heap.size w w':=by
 have d5:=hl.2.2.2.2;have HU:=hI hu;clear hu;have HL:=hI hl;clear hl;obtain⟨Wb,i5,b5,j1,b2,j0⟩:=D6 w l a;obtain⟨d0,d1,d2,d3⟩:=Bu b5;go_enter Tryz.func123,Tryz.ntmps123;go_wp2_with fail;clear i5 d0 d1 d2 d3;refine(Aif l.name Wb d5).mono ?_;rintro e w1 ⟨rfl,hq⟩;rw[hq];clear hq w1;obtain⟨d0,d1,d2,d3⟩:=Bu b5;have f4:=hI b5;clear b5
 cases hnm:Dg l.name with
 |false=>
  have hr:Cc l=17:=by unfold Cc Dh;rw[hnm];rfl
  have HR:=hI hr;clear hr;go_wp2;go_ret;exact⟨by rw[HR.out];rfl,b2⟩
 |true=>
  have i1:=hI hnm;clear hnm;obtain⟨_,p1,p2,p3,p4,p5,p6,p7,_,_,_,_,_,_,_,_,_,_⟩:=Kt f4.out;go_wp2_with fail;clear p1 p2 p3 p4 p5 p6 p7;refine(Qq l.left.1 l.left.2 Wb a.Al l.left.2.len a.cl (HL.out.1.below b2 rr) HU.out.1 HU.out.2.1).mono ?_;rintro e w2 ⟨rfl,hb⟩;have a2:=(hb.block _ (by omega)).trans f4.out;have b8:=b2.trans (hb.mono b2.size);have i7:=lt_of_block a2;clear hb d0 d1 d2 d3;have f5:=hI a2;obtain⟨d0,d1,d2,d3⟩:=Bu a2;clear a2;by_cases hcl:Bv 40 [l.left]=0
  case neg=>
   have b0:(Bv 40 [(l.left.fst,l.left.snd)] !=0)=true:=by simpa using hcl
   have hr:Cc l=17:=by unfold Cc Dh;rw[show(Bv 40 [l.left] !=0)=true by simpa using hcl];simp
   have HR:=hI hr;clear hr hcl;go_wp2;go_ret;exact⟨by rw[HR.out];rfl,b8⟩
  have b0:(Bv 40 [(l.left.fst,l.left.snd)] !=0)=false:=by simpa using hcl
  have i4:=hI hcl;clear hcl;obtain⟨_,_,_,_,_,_,_,_,p1,p2,p3,p4,p5,p6,p7,_,_,_⟩:=Kt f5.out;go_wp2_with fail;clear b0 p1 p2 p3 p4 p5 p6 p7;refine(Qq l.right.1 l.right.2 w2 a.Ar l.right.2.len a.cr (HL.out.2.1.below b8 rr) HU.out.2.2.1 HU.out.2.2.2.1).mono ?_;rintro e w3 ⟨rfl,hb⟩;have a2:=(hb.block _ (by omega)).trans f5.out;have a5:=b8.trans (hb.mono b8.size);have i9:=lt_of_block a2;clear hb d0 d1 d2 d3;have g6:=hI a2;obtain⟨d0,d1,d2,d3⟩:=Bu a2;clear a2;by_cases hcr:Bv 40 [l.right]=0
  case neg=>
   have b0:(Bv 40 [(l.right.fst,l.right.snd)] !=0)=true:=by simpa using hcr
   have hr:Cc l=17:=by unfold Cc Dh;rw[show(Bv 40 [l.right] !=0)=true by simpa using hcr];simp
   clear hcr;have HR:=hI hr;clear hr;go_wp2;go_ret;exact⟨by rw[HR.out];rfl,a5⟩
  have b0:(Bv 40 [(l.right.fst,l.right.snd)] !=0)=false:=by simpa using hcr
  have f9:=hI hcr;clear hcr;by_cases h4:4<l.ifs.length
  case pos=>
   have hr:Cc l=17:=by unfold Cc Dh;simp[h4]
   have i0:=HL.out.2.2.1.max;have HR:=hI hr;clear hr;go_wp2;go_ret;exact⟨by rw[HR.out];rfl,a5⟩
  by_cases h6:6<l.outs.length
  case pos=>
   have hr:Cc l=17:=by unfold Cc Dh;simp[h6]
   have g8:l.outs.length<=9223372036854775807:=by have h1:=HL.out.2.2.2.1.1.2.1;have h2:=HL.out.2.2.2.1.1.2.2.1;unfold maxLen at h2;omega
   have HR:=hI hr;clear hr;go_wp2;go_ret;exact⟨by rw[HR.out];rfl,a5⟩
  by_cases h00:l.ifs.length+l.outs.length=0
  case pos=>
   have d9:((l.ifs.length:Int)+(l.outs.length:Int)==0)=true:=by simp;omega
   have hr:Cc l=17:=by unfold Cc Dh;simp[h00]
   clear h00;have HR:=hI hr;clear hr;go_wp2;go_ret;exact⟨by rw[HR.out];rfl,a5⟩
  have d9:((l.ifs.length:Int)+(l.outs.length:Int)==0)=false:=by simp;omega
  have f6:=hI h00;clear h00;by_cases hm1:l.mode<1
  case pos=>
   have hr:Cc l=17:=by unfold Cc Dh;simp[hm1]
   have HR:=hI hr;clear hr;go_wp2;go_ret;exact⟨by rw[HR.out];rfl,a5⟩
  by_cases hm3:3<l.mode
  case pos=>
   have hr:Cc l=17:=by unfold Cc Dh;simp[hm3]
   have HR:=hI hr;clear hr;go_wp2;go_ret;exact⟨by rw[HR.out];rfl,a5⟩
  have b4:decide ((4:Int)<(l.ifs.length:Int))=false:=by simp;omega
  have b6:decide ((6:Int)<(l.outs.length:Int))=false:=by simp;omega
  have b1:decide (l.mode<1)=false:=by simpa using hm1
  have b3:decide (3<l.mode)=false:=by simpa using hm3
  go_wp2_with fail;clear d0 d1 d2 d3
  go_loopw [3] (fun i wr=>∃k:Nat,k<=l.ifs.length/\i= .int .i64 k/\Hid ((l.ifs.take k).any (fun s=> !Bx s.1 s.2)=false)/\Below w.heap.size w wr/\Hid (wr.heap[w.heap.size]? =some (.cells (Bw l a) 55 (0,0)))) (fun i _=>l.ifs.length-(intOf i).toNat)
  case atStart=>exact⟨0,Nat.zero_le _,rfl,by simp[Hid],a5,g6⟩
  case round=>
   obtain⟨k,hk,rfl,a9,hB,b7⟩:=hrel;have i3:=hB.size;have hL:=lt_of_block b7.out;obtain⟨d0,d1,d2,d3⟩:=Bu b7.out;by_cases hlt:k<l.ifs.length
   ·obtain⟨b,off,p,m,hA,hb,b9,f8,g9⟩:=(HL.out.2.2.1.below hB rr).at_ hlt;have d7:(k:Int)<(l.ifs.length:Int):=by omega
    have a1:=HU.out.2.2.2.2.1 (p,m) (List.mem_of_getElem? b9);have HM:=hI a1;clear a1;have HS:=hI (Bd l.ifs k (p,m) b9);have g7:=hI b9;clear b9;rw[hA]at d1;clear hA;go_wp2_with fail;refine(Fz p m wr HM.out.1 HM.out.2).mono ?_;rintro e w5 ⟨rfl,a0⟩;have a7:=hB.trans (a0.mono i3);have d8:Hid (w5.heap[w.heap.size]? =some (.cells (Bw l a) 55 (0,0))):=(a0.block _ hL).trans b7.out;clear a0 d0 d1 d2 d3 f8 g9
    cases hv:Bx p m with
    |false=>
     have hr:Cc l=17:=by
      have h1:l.ifs.any (fun s=> !Bx s.1 s.2)=true:=List.any_eq_true.2 ⟨(p,m),List.mem_of_getElem? g7.out,by simp[hv]⟩;unfold Cc Dh;rw[h1];simp
     have HR:=hI hr;clear hr hv;go_wp2;go_ret;exact⟨by rw[HR.out];rfl,a7⟩
    |true=>
     have HV:=hI hv;clear hv;go_wp2
     go_roundw
     case rel=>exact⟨k+1,by omega,by go_num,(by show _=_;rw[HS.out,List.any_append,a9.out];simp[HV.out]),a7,d8⟩
     case measure=>simp[intOf];omega
   ·obtain rfl:k=l.ifs.length:=by omega
    have f7:l.ifs.any (fun s=> !Bx s.1 s.2)=false:=by
     have:=a9.out;rwa[List.take_of_length_le rr]at this
    have i6:=hI f7;clear f7;go_wp2_with fail;clear d0 d1 d2 d3
    go_loopw [4] (fun i wr=>∃k:Nat,k<=l.outs.length/\i= .int .i64 k/\Hid ((l.outs.take k).any (fun x=> !Ei x l.ifs.length)=false)/\Below w.heap.size w wr/\Hid (wr.heap[w.heap.size]? =some (.cells (Bw l a) 55 (0,0)))) (fun i _=>l.outs.length-(intOf i).toNat)
    case atStart=>exact⟨0,Nat.zero_le _,rfl,by simp[Hid],hB,b7⟩
    case round=>
     obtain⟨j,hj,rfl,a3,d4,d6⟩:=hrel;have f0:=d4.size;have f1:=lt_of_block d6.out;obtain⟨d0,d1,d2,d3⟩:=Bu d6.out;by_cases hlt:j<l.outs.length
     ·obtain⟨x,hx⟩:∃x,l.outs[j]? =some x:=⟨l.outs[j],List.getElem?_eq_getElem _⟩;obtain⟨b,off,hA,a6,a4⟩:=(HL.out.2.2.2.1.below d4 rr).at_ Fj.len (by decide) hx;have d7:(j:Int)<(l.outs.length:Int):=by omega
      have a1:=HU.out.2.2.2.2.2 x (List.mem_of_getElem? hx);have HM:=hI a1;clear a1;have HS:=hI (Bd l.outs j x hx);have HX:=hI hx;clear hx;have g0:=a4 0 _ rfl;have g1:=a4 1 _ rfl;have g2:=a4 2 _ rfl;have g3:=a4 3 _ rfl;have g4:=a4 4 _ rfl;have g5:=a4 5 _ rfl;simp only[Nat.add_zero,←Nat.add_assoc]at g0 g1 g2 g3 g4 g5;rw[hA]at d2;clear hA a4;have i8:((j:Int)).toNat=j:=by omega
      go_wp2
      refine Bg (fun W'=>W'.cell? ⟨w.heap.size,16,none⟩=some (.slice (some ⟨b,off,none⟩) l.outs.length a.co)/\W'.cell? ⟨w.heap.size,15,none⟩=some (.slice a.Ai l.ifs.length a.ci)∧
       W'.cell? ⟨b,off+j*6,none⟩=some (.int .i64 x.frm)/\W'.cell? ⟨b,off+j*6+1,none⟩=some (.int .u32 x.clear)/\W'.cell? ⟨b,off+j*6+2,none⟩=some (.int .u32 x.sp)∧
       W'.cell? ⟨b,off+j*6+3,none⟩=some (.int .u32 x.sm)/\W'.cell? ⟨b,off+j*6+4,none⟩=some (.int .u32 x.take)/\W'.cell? ⟨b,off+j*6+5,none⟩=some (.int .i64 x.of_)) (by kernel_rfl) ⟨d2,d1,g0,g1,g2,g3,g4,g5⟩ (fun hHeld=> ?_)
      (refine' Ae 0 rfl ?_;(try simp only[Act.put,nY,nX]));(refine' Ae 1 rfl ?_;(try simp only[Act.put,nY,nX]));(refine' Ae 2 rfl ?_;(try simp only[Act.put,nY,nX]));(refine' Ae 3 rfl ?_;(try simp only[Act.put,nY,nX]));(refine' Ae 4 rfl ?_;(try simp only[Act.put,nY,nX]));(refine' Ae 5 rfl ?_;(try simp only[Act.put,nY,nX]));(refine' Ae 6 rfl ?_;(try simp only[Act.put,nY,nX]));(refine' Ae 7 rfl ?_;(try simp only[Act.put,nY,nX]))
      (refine Anv 8 rfl (fun K' hK'=> ?_);simp only[nY];go_simp)
      refine(Aii x _ _ HM.out.2.1 HM.out.2.2.1).mono ?_;rintro e w5 ⟨rfl,a8⟩;have a0:Below wr.heap.size wr w5:=(Below.refl wr.heap.size wr).drew.trans a8;have a7:=d4.trans (a0.mono f0);have d8:Hid (w5.heap[w.heap.size]? =some (.cells (Bw l a) 55 (0,0))):=(a0.block _ f1).trans d6.out;have f3:=(show _/\_/\_/\_/\_/\_/\_/\_ from⟨(a0.cell (p:=⟨w.heap.size,16,none⟩) f1).trans d2,(a0.cell (p:=⟨w.heap.size,15,none⟩) f1).trans d1,(a0.cell (p:=⟨b,off+j*6,none⟩) a6).trans g0,(a0.cell (p:=⟨b,off+j*6+1,none⟩) a6).trans g1,(a0.cell (p:=⟨b,off+j*6+2,none⟩) a6).trans g2,(a0.cell (p:=⟨b,off+j*6+3,none⟩) a6).trans g3,(a0.cell (p:=⟨b,off+j*6+4,none⟩) a6).trans g4,(a0.cell (p:=⟨b,off+j*6+5,none⟩) a6).trans g5⟩);refine hK' _ _ ⟨.inr f3,fun _=> ?_⟩
      clear hK' K' a8 a0 hHeld f3 g0 g1 g2 g3 g4 g5 d0 d1 d2 d3
      (try simp only[Act.put,nY,nX])
      (refine Anv 9 rfl (fun K' hK'=> ?_);simp only[nY];go_simp)
      refine hK' _ _ ⟨.inl (by kernel_rfl),fun _=>Bf (by kernel_rfl) ?_ _⟩
      clear hK' K'
      cases hv:Ei x l.ifs.length with
      |false=>
       have hr:Cc l=17:=by
        have h1:l.outs.any (fun x=> !Ei x l.ifs.length)=true:=List.any_eq_true.2 ⟨x,List.mem_of_getElem? HX.out,by simp[hv]⟩;unfold Cc Dh;rw[h1];simp
       have HR:=hI hr;clear hr hv;go_wp2;go_ret;exact⟨by rw[HR.out];rfl,a7⟩
      |true=>
       have HV:=hI hv;clear hv;go_wp2
       go_roundw
       case rel=>exact⟨j+1,by omega,by go_num,(by show _=_;rw[HS.out,List.any_append,a3.out];simp[HV.out]),a7,d8⟩
       case measure=>simp[intOf];omega
     ·obtain rfl:j=l.outs.length:=by omega
      have hr:Cc l=0:=by
       have f2:l.outs.any (fun x=> !Ei x l.ifs.length)=false:=by
        have:=a3.out;rwa[List.take_of_length_le rr]at this
       unfold Cc Dh;rw[i1.out,i4.out,f9.out,i6.out,f2];simp[h4,h6,hm1,hm3,f6.out];intro h5 i2;exact f6.out (by rw[h5,i2];rfl)
      have HR:=hI hr;clear hr;go_wp2;go_ret;exact⟨by rw[HR.out];rfl,d4⟩
theorem Aeo (l:Bi)(a:Dq)(A:Option Addr)(n c:Nat)(ws:List Snd)(w:World)(hl:Df w l a)(hw:Ak w A n c ws)(hu:Ps l)(hwu:Ck ws):
  Calls Tryz.prog 191 #[Eg l a, .slice A n c] w fun e w'=>e= .returned (.int .i64 (B7 l ws))/\Below w.heap.size w w':=by
 have HL:=hI hl;clear hl;have HW:=hI hw;clear hw;have HU:=hI hu;clear hu;have a4:=hI hwu;clear hwu;obtain⟨Wb,a6,a8,b0,a1,a9⟩:=D6 w l a;go_enter Tryz.func191,Tryz.ntmps191;go_wp2_with(refine Eo rfl (.tmp 2) rfl w.heap.size l a rfl a8 ?_);clear a6;refine(Vu l a _ (HL.out.below a1 rr) HU.out).mono ?_;rintro e w1 ⟨rfl,a2⟩;have a0:Below w.heap.size w w1:=a1.trans (a2.mono a1.size);clear a2;by_cases hE:Cc l=0
 ·have a5:(Cc l !=0)=false:=by simpa using hE
  have hr:B7 l ws=B4 ws:=by unfold B7;rw[if_pos hE]
  have HR:=hI hr;clear hr hE;go_wp2_with fail;refine(Mx A n c ws w1 (HW.out.below a0 rr) a4.out).mono ?_;rintro e w2 ⟨rfl,a3⟩;have a7:=a0.trans (a3.mono a0.size);clear a3;go_wp2;go_ret;exact⟨by rw[HR.out];rfl,a7⟩
 ·have a5:(Cc l !=0)=true:=by simpa using hE
  have hr:B7 l ws=Cc l:=by unfold B7;rw[if_neg hE]
  have HR:=hI hr;clear hr hE;go_wp2;go_ret;exact⟨by rw[HR.out];rfl,a0⟩
end Go.Proofs.YtaglfmlgbcmakaaGreatDoor
namespace Go.Proofs.YtaglfmlgbcmakaaGreatDoor
open Go.RowKit Go.Shelf
attribute [local go_sem] Oper.semAt_some
theorem Akw (x:BitVec 32):U32 ((x.toNat:Nat):Int):=⟨by omega,by have:=x.isLt;omega⟩
theorem Xh (s f set:Int):U32 (Ff s f set):=by unfold Ff;rw[Jf];exact Akw _
theorem Vv:U32 0:=⟨by omega,by omega⟩
theorem Vw (s:Snd)(c:Int)(t:Snd):Tc (Dp s c t):=by
 unfold Dp;split
 ·exact⟨Xh _ _ _,Xh _ _ _⟩
 ·exact⟨Vv,Vv⟩
theorem Akx (s t:Snd)(m:Int):Tc (Gv s t m):=by
 unfold Gv;split
 ·exact⟨Xh _ _ _,Xh _ _ _⟩
 ·exact⟨Vv,Vv⟩
theorem Amr (cut:List Snd)(x:Fj):Tc (Ln cut x):=by
 unfold Ln;dsimp only;split
 ·exact Akx _ _ _
 ·exact Vw _ _ _
theorem Aij (l:Bi)(cut:List Snd):Ck (Hb l cut):=by
 intro s hs;obtain⟨x,_,rfl⟩:=List.mem_map.1 hs;exact Amr cut x
theorem Ck.take {ws:List Snd}(h:Ck ws)(k:Nat):Ck (ws.take k):=fun s hs=>h s (List.mem_of_mem_take hs)
theorem Ck.drop {ws:List Snd}(h:Ck ws)(k:Nat):Ck (ws.drop k):=fun s hs=>h s (List.mem_of_mem_drop hs)
theorem Ck.append {a b:List Snd}(h:Ck a)(h':Ck b):Ck (a++b):=fun s hs=>(List.mem_append.1 hs).elim (h s) (h' s)
theorem Hp {l:Bi}{ws:List Snd}{at_:Nat}(hw:Ck ws):Ck (Bb l ws at_):=by
 unfold Bb;exact((hw.take _).append (Aij l _)).append (hw.drop _)
theorem Aik {x:Int}(hu:U32 x)(h:∀i,24<=i->(bv x).getLsbD i=false):x<=16777215:=by
 have:=(Xe hu).2 h;omega
theorem Zx {x:Fj}{k:Int}(h:Ei x k=true)(hu:Akv x):Bx x.sp x.sm=true/\x.clear<=16777215/\bits .and .u32 x.clear (bits .or .u32 x.sp x.sm)=0/\x.take<=16777215:=by
 obtain⟨h1,h2,h3⟩:=Tx h;refine⟨(Dc _ _).2 h1,Aik hu.1 h2, ?_,Aik hu.2.2.2 h3⟩;unfold Ei at h;split at h
 ·cases h
 ·split at h
  ·cases h
  ·rename_i h2
   simp only[Bool.or_eq_true,not_or,bne_iff_ne,ne_eq,Decidable.not_not]at h2;exact h2.1.2
theorem Ac5 (l:Bi)(a:Dq)(A:Option Addr)(c:Nat)(cut:List Snd)(w:World)(hl:Df w l a)(hw:Ak w A l.ifs.length c cut)(hfit:∀x∈l.outs,Ei x l.ifs.length=true)(hm:l.outs.length<=64)(hu:Ps l)(hcu:Ck cut)(hco:OkW cut):
  Calls Tryz.prog 200 #[Eg l a, .slice A l.ifs.length c] w (E8 w (Hb l cut)):=by
 have k8:=hw.max;have k4:=hw.len;have q7:=hI k4;clear k4;have HL:=hI hl;clear hl;have HW:=hI hw;clear hw;have HF:=hI hfit;clear hfit;have m6:=hI hu.2.2.2.2.2;clear hu;have f9:=hI hcu;clear hcu;have k0:=hI hco;clear hco;obtain⟨Wb,m5,i6,o9,d6,p7⟩:=D6 w l a;obtain⟨d0,d1,d2,d3⟩:=Bu i6;obtain⟨Ao,f1⟩:∃Ao,Ao=a.Ao:=⟨_,rfl⟩;have k6:=hI f1;rw[←f1]at d2;have j6:Eb Fj.cells 6 w Ao l.outs.length a.co l.outs:=by rw[f1];exact HL.out.2.2.2.1
 have o4:=hI j6;clear f1 j6;go_enter Tryz.func200,Tryz.ntmps200;go_wp2;clear m5 d0 d1 d2 d3;have k7:=hI i6;clear i6;have i8:Hid (Ak Wb A l.ifs.length c cut):=HW.out.below d6 rr;have i4:Hid (Eb Fj.cells 6 Wb Ao l.outs.length a.co l.outs):=o4.out.below d6 rr;have m0:=hI o9
 go_loopw [5,6] (fun v i wr=>∃j:Nat,i= .int .i64 j/\j<=l.outs.length/\Hid (wr.ownsRow Wb.heap.size 49 2 v j (B6 ((l.outs.take j).map (Ln cut))))/\Below Wb.heap.size Wb wr) (fun _ i _=>l.outs.length-(intOf i).toNat)
 case atStart=>exact⟨0,rfl,Nat.zero_le _,World.ownsRow_nil _ _ _ _,Below.refl _ _⟩
 case round=>
  obtain⟨j,rfl,hj,a0,hB⟩:=hrel;have p9:=hB.size;have k2:=(hB.block _ m0.out).trans k7.out;obtain⟨d0,d1,d2,d3⟩:=Bu k2;rw[←k6.out]at d2;clear k2 d0 d1 d3;have m9:l.outs.length<=64:=hm;by_cases hjl:j<l.outs.length
  ·obtain⟨x,hx⟩:∃x,l.outs[j]? =some x:=⟨l.outs[j],List.getElem?_eq_getElem _⟩;obtain⟨b,off,rfl,q0,a9⟩:=(i4.out.below hB rr).at_ Fj.len (by decide) hx;obtain⟨a3,j8⟩:=Rs (HF.out x (List.mem_of_getElem? hx));have i3:=m6.out x (List.mem_of_getElem? hx);have f2:=hI i3;have f4:=hI (Zx (HF.out x (List.mem_of_getElem? hx)) i3);have j9:=hI (Tx (HF.out x (List.mem_of_getElem? hx)));clear i3;have o5:(j:Int)<(l.outs.length:Int):=by omega
   have g0:=a9 0 _ rfl;have g1:=a9 1 _ rfl;have g2:=a9 2 _ rfl;have g3:=a9 3 _ rfl;have g4:=a9 4 _ rfl;have g5:=a9 5 _ rfl;simp only[Nat.add_zero,←Nat.add_assoc]at g0 g1 g2 g3 g4 g5;have HX:=hI hx;have f7:=hI j8;clear a9 hx j8;obtain⟨s0,b3⟩:∃s0:Snd,s0=if 0<=x.frm then cut.getD x.frm.toNat (0,0)else(0,0):=⟨_,rfl⟩
   have b4:Ak wr A l.ifs.length c cut:=i8.out.below hB rr;have k5:=hI b4;clear b4;obtain⟨fr,i5⟩:∃fr,fr=x.frm:=⟨_,rfl⟩;have k3:=hI b3.symm;rw[←i5]at g0 a3 b3;have m2:=hI i5;clear i5;by_cases h0:0<=fr
   case' pos=>
    obtain⟨f,rfl⟩:∃f:Nat,fr=f:=⟨fr.toNat,by omega⟩;obtain⟨bw,ow,p,q,m1,o1,f8,q6,p4⟩:=k5.out.at_ (k:=f) (by omega);have b9:s0=(p,q):=by rw[b3,if_pos h0,Int.toNat_natCast,D5 f8]
    have g6:=hI b9;have g9:Hid (Tc (p,q)):=f9.out _ (List.mem_of_getElem? f8);have b0:Hid (OkS (p,q)):=k0.out _ (List.mem_of_getElem? f8);have m4:(f:Int)<(l.ifs.length:Int):=by omega
    subst m1;clear h0 a3 b3 b9 f8
   case' neg=>
    have b9:s0=(0,0):=by rw[b3,if_neg h0]
    have g6:=hI b9;have g9:Hid (Tc ((0,0):Snd)):=⟨Vv,Vv⟩;have b0:Hid (OkS ((0,0):Snd)):=Ai4;have m4:fr<0:=by omega
    clear h0 a3 b3 b9
   all_goals
    go_wp2_with fail;refine(Abq _ _ x.clear x.sp x.sm _ g9.out.1 g9.out.2 f2.out.2.1 f2.out.2.2.1 f2.out.1 ((Dc _ _).2 b0.out) f4.out.1 f4.out.2.1 f4.out.2.2.1).mono ?_;rintro e w1 ⟨er,rfl,a3⟩;have o7:=a3.size;simp only[World.size_alloc]at o7;rw[←g6.out];have f3:=(a3.block wr.heap.size (by simp;omega)).trans ((Bc (by simp)).trans (Am rfl));have b1:=(a3.block (wr.heap.size+1) (by simp)).trans (Am (by simp));have b2:Below Wb.heap.size Wb w1:=((hB.alloc hB.size _).alloc (by simp;omega) _).trans (a3.mono (by simp;omega));have a7:=Hw ((a0.out.alloc _).alloc _) a3 rr;obtain⟨⟨p1,q1⟩,f0⟩:∃s:Snd,s=Dp s0 x.clear (x.sp,x.sm):=⟨_,rfl⟩;rw[←f0];have j0:Hid (Tc (p1,q1)):=by show Tc _;rw[f0];exact Vw _ _ _
    have k9:Hid (OkS (p1,q1)):=by show OkS _;rw[f0,g6.out];exact Tw b0.out j9.out.1 j9.out.2.1
    have j5:=hI f0;clear f0;have e3:=Ad (j:=4) f3 rfl;have e4:=Ad (j:=5) f3 rfl;have e5:=Ad (j:=0) b1 rfl;have e6:=Ad (j:=1) b1 rfl;have f5:=frozen_of_row w1 (wr.heap.size+1) 0 _ _ b1;have f6:=frozen_of_row w1 (wr.heap.size+1) 1 _ _ b1;have q5:=hI f3;clear f3;have o8:=hI b1;clear b1;have a8:=hI a7;clear a7 a3;clear g0 g1 g2 g3 g4 g5
   all_goals
    by_cases ht:x.take=0
    case' neg=>
     obtain⟨o3,m7⟩:=f7.out ht;have o2:(x.take !=0)=true:=by simpa using ht
     obtain⟨g,hg⟩:∃g:Nat,g=x.of_.toNat:=⟨_,rfl⟩;have j2:x.of_=(g:Int):=by omega
     have HG:=hI hg;clear hg;rw[j2]at e4 m7;obtain⟨bo,oo,p2,q2,i9,d5,d9,k1,j4⟩:=i8.out.at_ (k:=g) (by omega)
     first|subst i9|(obtain⟨rfl,rfl⟩:bo=bw/\oo=ow:=by simpa using i9.symm)
     have a4:=hI d9;clear d9 j2 o3;have v0:=(b2.cell (p:=⟨bo,oo+g*2,none⟩) d5).trans k1;have v1:=(b2.cell (p:=⟨bo,oo+g*2+1,none⟩) d5).trans j4;clear k1 j4;have p8:(g:Int)<(l.ifs.length:Int):=by omega
     have p5:((g:Int)).toNat=g:=by omega
     go_wp2;have i0:=b2.size
     have y0:((w1.setCell ⟨wr.heap.size+1,0,none⟩ (.int .u32 p1)).setCell ⟨wr.heap.size+1,1,none⟩ (.int .u32 q1)).heap[wr.heap.size+1]? =some (.cells #[.int .u32 p1, .int .u32 q1] 49 (0,0)):=by
      have h:=Be (o:=1) (u:= .int .u32 q1) (Be (o:=0) (u:= .int .u32 p1) o8.out);exact h
     have a5:=ownsRow_setCell_other (ownsRow_setCell_other a8.out (a:=⟨wr.heap.size+1,0,none⟩) (fun e=>by have h:wr.heap.size+1<wr.heap.size:=(a0.out.lt _ e).2;omega) (.int .u32 p1)) (a:=⟨wr.heap.size+1,1,none⟩) (fun e=>by have h:wr.heap.size+1<wr.heap.size:=(a0.out.lt _ e).2;omega) (.int .u32 q1);have j7:Below Wb.heap.size Wb ((w1.setCell ⟨wr.heap.size+1,0,none⟩ (.int .u32 p1)).setCell ⟨wr.heap.size+1,1,none⟩ (.int .u32 q1)):=(b2.setCell (p:=⟨wr.heap.size+1,0,none⟩) (by simp;omega) _).setCell (p:=⟨wr.heap.size+1,1,none⟩) (by simp;omega) _;have y1:((w1.setCell ⟨wr.heap.size+1,0,none⟩ (.int .u32 p1)).setCell ⟨wr.heap.size+1,1,none⟩ (.int .u32 q1)).heap[wr.heap.size]? =w1.heap[wr.heap.size]? :=(Below.heap_setCell _ _ _ _ (by simp)).trans (Below.heap_setCell _ _ _ _ (by simp));have z3:=(World.cell?_of_block (a:=⟨wr.heap.size,4,none⟩) y1).trans e3;have z4:=(World.cell?_of_block (a:=⟨wr.heap.size,5,none⟩) y1).trans e4;have z0:((w1.setCell ⟨wr.heap.size+1,0,none⟩ (.int .u32 p1)).setCell ⟨wr.heap.size+1,1,none⟩ (.int .u32 q1)).cell? ⟨bo,oo+g*2,none⟩=some (.int .u32 p2):=by rw[B5 (by omega),B5 (by omega)];exact v0
     have z1:((w1.setCell ⟨wr.heap.size+1,0,none⟩ (.int .u32 p1)).setCell ⟨wr.heap.size+1,1,none⟩ (.int .u32 q1)).cell? ⟨bo,oo+g*2+1,none⟩=some (.int .u32 q2):=by rw[B5 (by omega),B5 (by omega)];exact v1
     have i7:((w1.setCell ⟨wr.heap.size+1,0,none⟩ (.int .u32 p1)).setCell ⟨wr.heap.size+1,1,none⟩ (.int .u32 q1)).heap.size=w1.heap.size:=by simp
     generalize((w1.setCell ⟨wr.heap.size+1,0,none⟩ (.int .u32 p1)).setCell ⟨wr.heap.size+1,1,none⟩ (.int .u32 q1))=U at*;have z5:=Ad (j:=0) y0 rfl;have z6:=Ad (j:=1) y0 rfl;have j1:=hI y0;clear y0;have q4:=hI i7;clear i7;have d4:=hI a5;clear a5;have f7:=hI j7;clear j7;clear y1 e3 e4 e5 e6 f5 f6 v0 v1
     refine Na 8 (fun W'=>W'.cell? ⟨bo,oo+g*2,none⟩=some (.int .u32 p2)/\W'.cell? ⟨bo,oo+g*2+1,none⟩=some (.int .u32 q2)/\W'.cell? ⟨wr.heap.size,4,none⟩=some (.int .u32 x.take)/\W'.cell? ⟨wr.heap.size,5,none⟩=some (.int .i64 g)∧
      W'.cell? ⟨wr.heap.size+1,0,none⟩=some (.int .u32 p1)/\W'.cell? ⟨wr.heap.size+1,1,none⟩=some (.int .u32 q1)) (by kernel_rfl) ⟨z0,z1,z3,z4,z5,z6⟩ (fun hHeld=> ?_)
     (refine' Ct (i:=0) 8 (v:=_) rfl (by kernel_rfl) (by kernel_rfl) (by kernel_rfl) (by kernel_rfl) (fun _ _ _ h=>h) (Or.inl ⟨by rfl,fun w' hSw=>by(try dsimp only at hSw);go_split_ands;go_simp;(try with_reducible rfl)⟩) (by assumption) ?_;(try simp only[Act.put,nY,nX]));(refine' Ct (i:=1) 4 (v:=_) rfl (by kernel_rfl) (by kernel_rfl) (by kernel_rfl) (by kernel_rfl) (fun _ _ _ h=>h) (Or.inl ⟨by rfl,fun w' hSw=>by(try dsimp only at hSw);go_split_ands;go_simp;(try with_reducible rfl)⟩) (by assumption) ?_;(try simp only[Act.put,nY,nX]));(refine' Ct (i:=2) 3 (v:=_) rfl (by kernel_rfl) (by kernel_rfl) (by kernel_rfl) (by kernel_rfl) (fun _ _ _ h=>h) (Or.inl ⟨by rfl,fun w' hSw=>by(try dsimp only at hSw);go_split_ands;go_simp;(try with_reducible rfl)⟩) (by assumption) ?_;(try simp only[Act.put,nY,nX]));(refine' Ct (i:=3) 4 (v:=_) rfl (by kernel_rfl) (by kernel_rfl) (by kernel_rfl) (by kernel_rfl) (fun _ _ _ h=>h) (Or.inl ⟨by rfl,fun w' hSw=>by(try dsimp only at hSw);go_split_ands;go_simp;(try with_reducible rfl)⟩) (by assumption) ?_;(try simp only[Act.put,nY,nX]));(refine' Ct (i:=4) 5 (v:=_) rfl (by kernel_rfl) (by kernel_rfl) (by kernel_rfl) (by kernel_rfl) (fun _ _ _ h=>h) (Or.inl ⟨by rfl,fun w' hSw=>by(try dsimp only at hSw);go_split_ands;go_simp;(try with_reducible rfl)⟩) (by assumption) ?_;(try simp only[Act.put,nY,nX]));(refine' Ct (i:=5) 8 (v:=_) rfl (by kernel_rfl) (by kernel_rfl) (by kernel_rfl) (by kernel_rfl) (fun _ _ _ h=>h) (Or.inl ⟨by rfl,fun w' hSw=>by(try dsimp only at hSw);go_split_ands;go_simp;(try with_reducible rfl)⟩) (by assumption) ?_;(try simp only[Act.put,nY,nX]));(refine' Ct (i:=6) 7 (v:=_) rfl (by kernel_rfl) (by kernel_rfl) (by kernel_rfl) (by kernel_rfl) (fun _ _ _ h=>h) (Or.inl ⟨by rfl,fun w' hSw=>by(try dsimp only at hSw);go_split_ands;go_simp;(try with_reducible rfl)⟩) (by assumption) ?_;(try simp only[Act.put,nY,nX]));(refine' Ct (i:=7) 8 (v:=_) rfl (by kernel_rfl) (by kernel_rfl) (by kernel_rfl) (by kernel_rfl) (fun _ _ _ h=>h) (Or.inl ⟨by rfl,fun w' hSw=>by(try dsimp only at hSw);go_split_ands;go_simp;(try with_reducible rfl)⟩) (by assumption) ?_;(try simp only[Act.put,nY,nX]))
     (refine Fy (i:=8) (by kernel_rfl) rfl (fun K' hK'=> ?_);simp only[nY];go_simp)
     refine(Ah1 p1 q1 p2 q2 x.take _ j0.out.1 j0.out.2 (f9.out _ (List.mem_of_getElem? a4.out)).1 (f9.out _ (List.mem_of_getElem? a4.out)).2 f2.out.2.2.2 ((Dc _ _).2 k9.out) ((Dc _ _).2 (k0.out _ (List.mem_of_getElem? a4.out))) f4.out.2.2.2).mono ?_;rintro e w3 ⟨p0,rfl,b7⟩;have p6:=b7.size;have o0:U.drew.heap.size=U.heap.size:=rfl;obtain⟨⟨p3,q3⟩,i1⟩:∃s:Snd,s=Gv (p1,q1) (p2,q2) x.take:=⟨_,rfl⟩;rw[←i1]
     have b6:Ln cut x=(p3,q3):=by
      unfold Ln;have e1:=m2.out;have e2:(if 0<=x.frm then cut.getD x.frm.toNat (0,0)else(0,0))=s0:=k3.out;simp only[e2,←j5.out];rw[if_pos ht,i1,←HG.out,D5 a4.out]
     have i2:=hI b6;clear b6 i1;have j3:Below Wb.heap.size Wb w3:=f7.out.drew.trans (b7.mono f7.out.size);have a6:=Hw (w:=U.drew) d4.out b7 rr;have y3:w3.heap[wr.heap.size+1]? =some (.cells #[.int .u32 p1, .int .u32 q1] 49 (0,0)):=(b7.block _ (lt_of_block j1.out)).trans j1.out;refine hK' _ _ ⟨.inl (by kernel_rfl),fun _=>Jo _ _ _ _ (by kernel_rfl) ?_⟩
     clear hK' K' b7 o0 hHeld;have f5:=frozen_of_row w3 (wr.heap.size+1) 0 _ _ y3;have f6:=frozen_of_row w3 (wr.heap.size+1) 1 _ _ y3;have c5:=Ad (j:=0) y3 rfl;have c6:=Ad (j:=1) y3 rfl;have Y3:=hI y3;clear y3;have m8:=hI j3;clear j3;have b5:=hI a6;clear a6
     (try simp only[Act.put,nY,nX])
     (refine' Hl (i:=9) (v:=_) rfl (by kernel_rfl) (by kernel_rfl) (by kernel_rfl) (fun _ _ _ h=>h) (Or.inl ⟨by rfl,fun w' hSw=>by go_simp;(try with_reducible rfl)⟩) ?_;(try simp only[Act.put,nY,nX]));(refine' Hl (i:=10) (v:=_) rfl (by kernel_rfl) (by kernel_rfl) (by kernel_rfl) (fun _ _ _ h=>h) (Or.inl ⟨by rfl,fun w' hSw=>by go_simp;(try with_reducible rfl)⟩) ?_;(try simp only[Act.put,nY,nX]));(refine' Hl (i:=11) (v:=_) rfl (by kernel_rfl) (by kernel_rfl) (by kernel_rfl) (fun _ _ _ h=>h) (Or.inl ⟨by rfl,fun w' hSw=>by go_simp;(try with_reducible rfl)⟩) ?_;(try simp only[Act.put,nY,nX]))
     (refine Anv 12 rfl (fun K' hK'=> ?_);simp only[nY];go_simp)
     refine hK' _ _ ⟨.inl (by kernel_rfl),fun _=>Bf (by kernel_rfl) ?_ _⟩
     clear hK' K'
     have t0:((w3.setCell ⟨wr.heap.size+1,0,none⟩ (.int .u32 p3)).setCell ⟨wr.heap.size+1,1,none⟩ (.int .u32 q3)).heap[wr.heap.size+1]? =some (.cells #[.int .u32 p3, .int .u32 q3] 49 (0,0)):=by
      have h:=Be (o:=1) (u:= .int .u32 q3) (Be (o:=0) (u:= .int .u32 p3) Y3.out);exact h
     have town:=ownsRow_setCell_other (ownsRow_setCell_other b5.out (a:=⟨wr.heap.size+1,0,none⟩) (fun e=>by have h:wr.heap.size+1<wr.heap.size:=(a0.out.lt _ e).2;omega) (.int .u32 p3)) (a:=⟨wr.heap.size+1,1,none⟩) (fun e=>by have h:wr.heap.size+1<wr.heap.size:=(a0.out.lt _ e).2;omega) (.int .u32 q3);have tB:Below Wb.heap.size Wb ((w3.setCell ⟨wr.heap.size+1,0,none⟩ (.int .u32 p3)).setCell ⟨wr.heap.size+1,1,none⟩ (.int .u32 q3)):=(m8.out.setCell (p:=⟨wr.heap.size+1,0,none⟩) (by simp;omega) _).setCell (p:=⟨wr.heap.size+1,1,none⟩) (by simp;omega) _;generalize((w3.setCell ⟨wr.heap.size+1,0,none⟩ (.int .u32 p3)).setCell ⟨wr.heap.size+1,1,none⟩ (.int .u32 q3))=w4 at*;have t1:=Ad (j:=0) t0 rfl;have t2:=Ad (j:=1) t0 rfl;have m3:=hI t0;clear t0;have TOWN:=hI town;clear town;have TB:=hI tB;clear tB;have o6:Wb.heap.size<=w4.heap.size:=by have:=lt_of_block m3.out;omega
     have g7:Wb.heap.size<=w4.heap.size:=TB.out.size;go_wp2_with(at_builtin;refine D1 rfl (.tmp 54) (.tmp 56) rfl Wb.heap.size u5 j ((l.outs.take j).map (Ln cut)) rfl (TOWN.out.alloc _) (some ⟨w4.heap.size,0,none⟩) 1 1 [(p3,q3)] rfl (Jz w4 p3 q3 49) (by omega) (by simp;omega) ?_;intro v' w9 a1 d7 _);have b8:∀k,u5.ownBlock=some k->Wb.heap.size<=k:=fun k hk=>by have:=(a0.out.lt _ hk).1;omega
     have d8:Below Wb.heap.size Wb w9:=(TB.out.alloc g7 _).grown d7 (by simp;omega) b8;have a2:=hI a1;have g8:=hI d8;clear a1 d7 d8 b8
     go_roundw
     case rel=>
      refine⟨j+1,by go_num,by omega, ?_,g8.out⟩;show w9.ownsRow _ _ _ _ _ _;rw[Bd l.outs j x HX.out,List.map_append,List.map_cons,List.map_nil,i2.out];have h9:=a2.out
      try rw[←List.map_take]at h9
      exact h9
     case measure=>simp[intOf];omega
    case' pos=>
     have o2:(x.take !=0)=false:=by rw[ht];rfl
     have b6:Ln cut x=(p1,q1):=by
      unfold Ln;have e2:(if 0<=x.frm then cut.getD x.frm.toNat (0,0)else(0,0))=s0:=k3.out;simp only[e2,←j5.out];rw[if_neg (by simpa using ht)]
     have i2:=hI b6;clear b6;have i0:=b2.size;have town:=ownsRow_setCell_other (ownsRow_setCell_other a8.out (a:=⟨wr.heap.size+1,0,none⟩) (fun e=>by have h:wr.heap.size+1<wr.heap.size:=(a0.out.lt _ e).2;omega) (.int .u32 p1)) (a:=⟨wr.heap.size+1,1,none⟩) (fun e=>by have h:wr.heap.size+1<wr.heap.size:=(a0.out.lt _ e).2;omega) (.int .u32 q1);have tB:Below Wb.heap.size Wb ((w1.setCell ⟨wr.heap.size+1,0,none⟩ (.int .u32 p1)).setCell ⟨wr.heap.size+1,1,none⟩ (.int .u32 q1)):=(b2.setCell (p:=⟨wr.heap.size+1,0,none⟩) (by simp;omega) _).setCell (p:=⟨wr.heap.size+1,1,none⟩) (by simp;omega) _;have TOWN:=hI town;clear town;have TB:=hI tB;clear tB;have o6:Wb.heap.size<=w1.heap.size:=by omega
     have tone:=Jz ((w1.setCell ⟨wr.heap.size+1,0,none⟩ (.int .u32 p1)).setCell ⟨wr.heap.size+1,1,none⟩ (.int .u32 q1)) p1 q1 49;rw[show((w1.setCell ⟨wr.heap.size+1,0,none⟩ (.int .u32 p1)).setCell ⟨wr.heap.size+1,1,none⟩ (.int .u32 q1)).heap.size=w1.heap.size by simp]at tone;have TONE:=hI tone;clear tone;go_wp2_with(at_builtin;refine D1 rfl (.tmp 54) (.tmp 56) rfl Wb.heap.size u5 j ((l.outs.take j).map (Ln cut)) rfl (TOWN.out.alloc _) (some ⟨w1.heap.size,0,none⟩) 1 1 [(p1,q1)] rfl TONE.out (by omega) (by simp;omega) ?_;intro v' w9 a1 d7 _);have b8:∀k,u5.ownBlock=some k->Wb.heap.size<=k:=fun k hk=>by have:=(a0.out.lt _ hk).1;omega
     have d8:Below Wb.heap.size Wb w9:=(TB.out.alloc (by simp;omega) _).grown d7 (by simp;omega) b8;have a2:=hI a1;have g8:=hI d8;clear a1 d7 d8 b8
     go_roundw
     case rel=>
      refine⟨j+1,by go_num,by omega, ?_,g8.out⟩;show w9.ownsRow _ _ _ _ _ _;rw[Bd l.outs j x HX.out,List.map_append,List.map_cons,List.map_nil,i2.out];have h9:=a2.out
      try rw[←List.map_take]at h9
      exact h9
     case measure=>simp[intOf];omega
  ·obtain rfl:j=l.outs.length:=by omega
   go_wp2;go_ret;have h2:l.outs.take l.outs.length=l.outs:=List.take_of_length_le rr;have h3:=a0.out;rw[h2]at h3;exact E8.of_own rfl h3 (d6.trans (hB.mono d6.size)) d6.size
end Go.Proofs.YtaglfmlgbcmakaaGreatDoor
namespace Go.Proofs.YtaglfmlgbcmakaaGreatDoor
open Go.RowKit Go.Shelf
attribute [local go_sem] Oper.semAt_some
theorem Sc {o:Oper}{a:Act}{K:Act->World->Prop}{Q:Exit->Act->World->Prop}(w:World)(s x:Operand)
  (ho:o.op= .call {callee:= .builtin .append,args:= #[s,x],argTypes:= #[28,28]})
  (base:Nat) (v:Value) (n:Nat) (xs:List Snd) (hs:a.eval s=v) (hown:w.ownsRow base 49 2 v n (B6 xs))
  (A:Option Addr) (m c:Nat) (ys:List Snd) (hx:a.eval x= .slice A m c) (hr:Ak w A m c ys) (hl:n+m<=4096) (hbase:base<=w.heap.size)
  (h:∀v' w',w'.ownsRow base 49 2 v' (n+m) (B6 (xs++ys))->w.grownBy w' v.ownBlock->(v'= .slice none 0 0↔v= .slice none 0 0/\m=0)→
   K (a.put o.dst v') w'):o.wp Tryz.prog a w K Q:=by
 obtain⟨i0,hi,a1,a2,a0⟩:=info_parts N6
 refine Lu w s x 28 ho base 49 i0 _ 2 8 Tryz.underlying28 hi a1 a2 a0 rfl (by decide) v n (B6 xs) hs hown A m c (B6 ys) hx hr
  (Lb ys) (by unfold maxLen;omega) (by omega) hbase ?_
 rw[←Hq];exact h
theorem Ru (l:Bi)(a:Dq)(A:Option Addr)(n c:Nat)(ws:List Snd)(at_:Nat)(w:World)(hl:Df w l a)(hw:Ak w A n c ws)(hfit:∀x∈l.outs,Ei x l.ifs.length=true)(hm:l.outs.length<=64)
  (hat:at_+l.ifs.length<=n) (hn:n<=4000) (hu:Ps l) (hwu:Ck ws) (hwo:OkW ws):
  Calls Tryz.prog 201 #[Eg l a, .slice A n c, .int .i64 at_] w (E8 w (Bb l ws at_)):=by
 have g9:n<=c:=hw.2.1;have f1:c<=9223372036854775807:=by have:=hw.2.2.1;unfold maxLen at this;omega
 have HL:=hI hl;clear hl;have HW:=hI hw;clear hw;have HU:=hI hu;clear hu;have f6:=hI hwu;clear hwu;have f0:=hI hwo;clear hwo;obtain⟨Wb,f9,b4,g1,a8,i2⟩:=D6 w l a;obtain⟨d0,d1,d2,d3⟩:=Bu b4;have f3:(0:Int)<=(at_:Int):=by omega
 have b9:(at_:Int)<=(c:Int):=by omega
 go_enter Tryz.func201,Tryz.ntmps201;have f5:=hI b4;clear b4;go_wp2_with(at_builtin;refine D1 rfl (.tmp 12) (.tmp 15) rfl Wb.heap.size (.slice (some ⟨Wb.heap.size,0,none⟩) 0 0) 0 [] rfl (World.ownsRow_lit Wb #[] 0 rr (by unfold maxLen;omega) rfl) A at_ c (ws.take at_) rfl (Ak.take (HW.out.below (a8.alloc a8.size _) rr) (show at_<=n by omega)) (by omega) (by simp) ?_;intro v1 w1 a5 b2 _);clear f9 d0 d1 d2 d3;have b3:Below w.heap.size w w1:=(a8.alloc a8.size _).grown b2 (by simp;omega) (fun k hk=>by have h:Wb.heap.size=k:=(by simpa[Value.ownBlock]using hk);omega);have b5:w1.heap[w.heap.size]? =some (.cells (Bw l a) 55 (0,0)):=(b2.block w.heap.size (by simp;omega) (by simp[Value.ownBlock];omega)).trans ((Bc g1).trans f5.out);have g6:Wb.heap.size<=w1.heap.size:=by have:=b2.size;simp at this;omega
 have a7:=hI a5;clear a5 b2;clear f3 b9;go_wp2;have g2:(0:Int)<=(at_:Int):=by omega
 have b9:(at_:Int)<=(c:Int):=by omega
 have i1:(at_:Int)<=(at_:Int)+(l.ifs.length:Int):=by omega
 have g7:(at_:Int)+(l.ifs.length:Int)<=(c:Int):=by omega
 have g5:(at_:Int)+(l.ifs.length:Int)<=(n:Int):=by omega
 have g4:((at_:Int)+(l.ifs.length:Int)).toNat=at_+l.ifs.length:=by omega
 have g3:(0:Int)<=(at_:Int)+(l.ifs.length:Int):=by omega
 have g0:=lt_of_block b5;have i3:IntKind.i64.wrap ((at_:Int)+(l.ifs.length:Int))=(at_:Int)+(l.ifs.length:Int):=IntWalk.i64_in _ (by omega);refine Bg (fun W'=>W'.heap[w.heap.size]? =some (.cells (Bw l a) 55 (0,0))) (by kernel_rfl) b5 (fun hHeld=> ?_)
 (refine' Ae 0 rfl ?_;(try simp only[Act.put,nY,nX]))
 (refine' Ch (i:=1) (v:=Eg l a) rfl (by kernel_rfl) (by kernel_rfl) (by kernel_rfl) (by kernel_rfl) (fun _ _ _ h=>h) (Lh (by rfl) (.tmp 3) rfl (w.heap.size) l a (by rfl) (fun w' hSw=>by(try dsimp only at hSw);first|exact hSw|exact hSw.1)) (by assumption) ?_;(try simp only[Act.put,nY,nX]))
 (refine' Ae 2 rfl ?_;(try simp only[Act.put,nY,nX]));(refine' Ae 3 rfl ?_;(try simp only[Act.put,nY,nX]));(refine' Ae 4 rfl ?_;(try simp only[Act.put,nY,nX]));(refine' Ae 5 rfl ?_;(try simp only[Act.put,nY,nX]));(refine' Ae 6 rfl ?_;(try simp only[Act.put,nY,nX]));(refine' Ae 7 rfl ?_;(try simp only[Act.put,nY,nX]))
 (refine Anv 8 rfl (fun K' hK'=> ?_);simp only[nY];go_simp)
 have a2:Below w.heap.size w w1.drew:=b3.drew;have hcut:Ak w1.drew (if c=at_ then A else A.map (·.add (at_*2))) l.ifs.length (c-at_) ((ws.drop at_).take l.ifs.length):=Ak.take ((HW.out.below (B:=w.heap.size) a2 rr).drop (by omega)) (by omega);refine(Ac5 l a _ _ _ _ (HL.out.below (B:=w.heap.size) a2 rr) hcut hfit hm HU.out ((f6.out.drop _).take _) ((f0.out.drop _).take _)).mono ?_;rintro e w2 ⟨A2,n2,c2,rfl,b8,a9,_⟩;have g8:w1.heap.size<=w2.heap.size:=a9.size;have d5:Below w.heap.size w w2:=a2.trans (a9.mono b3.size);have b7:=(a9.block w.heap.size g0).trans hHeld;have a4:=Hw (w:=w1.drew) a7.out a9 rr;have d6:=hI d5;clear d5 a9 a2 hcut b3;have d4:=hI b8;clear b8;have a0:=hI a4;clear a4;refine hK' _ _ ⟨.inr b7,fun _=> ?_⟩
 clear hK' K' hHeld b5
 (try simp only[Act.put,nY,nX])
 refine Anv 9 rfl (fun K' hK'=> ?_);rw[if_pos (by rfl)];have a1:(Hb l ((ws.drop at_).take l.ifs.length)).length=l.outs.length:=by simp[Hb]
 have d7:n2=l.outs.length:=by rw[←a1];exact d4.out.len.symm
 refine Sc w2 (.tmp 17) (.tmp 25) rfl Wb.heap.size v1 (0+at_) _ (by rfl) a0.out A2 n2 c2 _ (by rfl) d4.out (by omega) (by omega) ?_;intro v3 w3 a3 b1 _;have b6:Below w.heap.size w w3:=d6.out.grown b1 d6.out.size (fun k hk=>by have:=(a0.out.lt k hk).1;omega);have f7:=(b1.block w.heap.size (by omega) (fun e=>by have:=(a0.out.lt _ e.symm).1;omega)).trans b7;have i0:=b1.size;refine hK' _ _ ⟨.inr f7,fun _=> ?_⟩
 clear hK' K' b1;have a6:=hI a3;clear a3
 (try simp only[Act.put,nY,nX])
 (refine Anv 10 rfl (fun K' hK'=> ?_);simp only[nY];go_simp)
 refine hK' _ _ ⟨.inl (by kernel_rfl),fun _=>Bf (by kernel_rfl) ?_ _⟩
 clear hK' K';have d9:=hI d7;clear d7;have d8:=hI a1;clear a1;have f8:n2<=64:=by have:=d9.out;omega
 generalize(if c=at_ then A else A.map (·.add (at_*2)))=A5;go_wp2_with(at_builtin;refine D1 rfl (.tmp 27) (.tmp 32) rfl Wb.heap.size v3 (0+at_+n2) _ rfl a6.out (if c=at_+l.ifs.length then A else A.map (·.add ((at_+l.ifs.length)*2))) (n-(at_+l.ifs.length)) (c-(at_+l.ifs.length)) (ws.drop (at_+l.ifs.length)) rfl (Ak.drop (HW.out.below b6 rr) hat) (by omega) (by omega) ?_;intro v4 w4 b0 f2 _)
 all_goals
  have f4:Below w.heap.size w w4:=b6.grown f2 b6.size (fun k hk=>by have:=(a6.out.lt k hk).1;omega);go_ret;exact E8.of_own rfl b0 f4 a8.size
end Go.Proofs.YtaglfmlgbcmakaaGreatDoor
namespace Go.Proofs.YtaglfmlgbcmakaaGreatDoor
open Go.RowKit Go.Shelf
attribute [local go_sem] Oper.semAt_some
theorem Ab7 {l:Bi}{ws:List Snd}{at_ j:Nat}(hj:j<l.ifs.length)(h:Gh (ws.getD (at_+j) (0,0)).1 (ws.getD (at_+j) (0,0)).2 (l.ifs.getD j (0,0)).1 (l.ifs.getD j (0,0)).2=false):Ez l ws at_=false:=by
 have a0:Rl l ws at_=false:=by
  unfold Rl;apply Bool.eq_false_iff.2;intro h'
  have:=List.all_eq_true.1 h' j (List.mem_range.2 hj)
  rw[h]at this;cases this
 unfold Ez;rw[a0,Bool.and_false,Bool.false_and]
theorem Xi (l:Bi)(a:Dq)(A:Option Addr)(n c:Nat)(ws:List Snd)(at_:Nat)(w:World)(hl:Df w l a)(hw:Ak w A n c ws)(hu:Ps l)(hwu:Ck ws)(hn:n<=4000)(hat:at_<=4000)(hk:l.ifs.length<=64):
  Calls Tryz.prog 199 #[Eg l a, .slice A n c, .int .i64 at_] w fun e w'=>e= .returned (.bool (Ez l ws at_))/\Below w.heap.size w w':=by
 have f1:Hid (ws.length=n):=hw.len;have HL:=hI hl;clear hl;have HW:=hI hw;clear hw;have HU:=hI hu;clear hu;have b8:=hI hwu;clear hwu;obtain⟨Wb,f6,b7,g1,a6,i3⟩:=D6 w l a;obtain⟨d0,d1,d2,d3⟩:=Bu b7;have g4:=hI b7;clear b7;have f9:=hI g1;clear g1;have i2:=f9.out;have b1:decide ((at_:Int)<0)=false:=by simp
 go_enter Tryz.func199,Tryz.ntmps199;by_cases hfit:at_+l.ifs.length<=n
 case neg=>
  have b2:decide ((n:Int)<(at_:Int)+(l.ifs.length:Int))=true:=by simp;omega
  have hr:Ez l ws at_=false:=by unfold Ez;rw[show decide (at_+l.ifs.length<=ws.length)=false by rw[f1.out];simpa using hfit];rfl
  have HR:=hI hr;clear hr;go_wp2;clear f6;go_ret;exact⟨by rw[HR.out];rfl,a6⟩
 case pos=>
  have b2:decide ((n:Int)<(at_:Int)+(l.ifs.length:Int))=false:=by simp;omega
  have hr:Ez l ws at_=(Rl l ws at_ && Ue l ws at_):=by unfold Ez;rw[show decide (at_+l.ifs.length<=ws.length)=true by rw[f1.out];simpa using hfit,Bool.true_and]
  have HR:=hI hr;clear hr;go_wp2;clear f6 d0 d1 d2 d3 b1 b2
  go_loopw [8] (fun i wr=>∃j:Nat,j<=l.ifs.length/\i= .int .i64 j/\Hid ((List.range j).all (fun j=>Gh (ws.getD (at_+j) (0,0)).1 (ws.getD (at_+j) (0,0)).2 (l.ifs.getD j (0,0)).1 (l.ifs.getD j (0,0)).2)=true)/\Below Wb.heap.size Wb wr) (fun i _=>l.ifs.length-(intOf i).toNat)
  case atStart=>exact⟨0,Nat.zero_le _,rfl,rfl,Below.refl _ _⟩
  case round=>
   obtain⟨j,hj,rfl,a2,hB⟩:=hrel;have g7:=hB.size;have d5:=(hB.block _ f9.out).trans g4.out;obtain⟨d0,d1,d2,d3⟩:=Bu d5;have a3:Below w.heap.size w wr:=a6.trans (hB.mono a6.size);have H1:=hI d5;clear d5;by_cases hlt:j<l.ifs.length
   ·obtain⟨bi,oi,p,q,f0,a7,b5,d8,b4⟩:=(HL.out.2.2.1.below a3 rr).at_ hlt;obtain⟨bw,ow,p',q',rfl,a8,b6,d7,d4⟩:=(HW.out.below a3 rr).at_ (k:=at_+j) (by omega);have a5:Gh (ws.getD (at_+j) (0,0)).1 (ws.getD (at_+j) (0,0)).2 (l.ifs.getD j (0,0)).1 (l.ifs.getD j (0,0)).2=Gh p' q' p q:=by rw[D5 b6,D5 b5]
    have f2:=hI a5;have f5:Hid (Tc (p,q)):=HU.out.2.2.2.2.1 _ (List.mem_of_getElem? b5);have f4:Hid (Tc (p',q')):=b8.out _ (List.mem_of_getElem? b6);rw[f0]at d1;clear b5 b6 a5 f0;have g8:(j:Int)<(l.ifs.length:Int):=by omega
    have i0:w.heap.size<wr.heap.size:=lt_of_block H1.out;have i4:((at_:Int)+(j:Int)).toNat=at_+j:=by omega
    have g6:(0:Int)<=(at_:Int)+(j:Int):=by omega
    have g9:(at_:Int)+(j:Int)<(n:Int):=by omega
    have d6:IntKind.i64.wrap ((at_:Int)+(j:Int))=(at_:Int)+(j:Int):=IntWalk.i64_in _ (by omega);go_wp2
    refine Bg (fun W'=>W'.cell? ⟨w.heap.size,15,none⟩=some (.slice (some ⟨bi,oi,none⟩) l.ifs.length a.ci)/\W'.cell? ⟨bw,ow+(at_+j)*2,none⟩=some (.int .u32 p')/\W'.cell? ⟨bw,ow+(at_+j)*2+1,none⟩=some (.int .u32 q')∧
     W'.cell? ⟨bi,oi+j*2,none⟩=some (.int .u32 p)/\W'.cell? ⟨bi,oi+j*2+1,none⟩=some (.int .u32 q)) (by kernel_rfl) ⟨d1,d7,d4,d8,b4⟩ (fun hHeld=> ?_)
    (refine' Ae 0 rfl ?_;(try simp only[Act.put,nY,nX]));(refine' Ae 1 rfl ?_;(try simp only[Act.put,nY,nX]));(refine' Ae 2 rfl ?_;(try simp only[Act.put,nY,nX]));(refine' Ae 3 rfl ?_;(try simp only[Act.put,nY,nX]));(refine' Ae 4 rfl ?_;(try simp only[Act.put,nY,nX]));(refine' Ae 5 rfl ?_;(try simp only[Act.put,nY,nX]));(refine' Ae 6 rfl ?_;(try simp only[Act.put,nY,nX]));(refine' Ae 7 rfl ?_;(try simp only[Act.put,nY,nX]));(refine' Ae 8 rfl ?_;(try simp only[Act.put,nY,nX]));(refine' Ae 9 rfl ?_;(try simp only[Act.put,nY,nX]));(refine' Ae 10 rfl ?_;(try simp only[Act.put,nY,nX]))
    (refine Anv 11 rfl (fun K' hK'=> ?_);simp only[nY];go_simp)
    refine(Ako p' q' p q _ f4.out.1 f4.out.2 f5.out.1 f5.out.2).mono ?_;rintro e w2 ⟨rfl,b0⟩;have a0:Below wr.heap.size wr w2:=(Below.refl wr.heap.size wr).drew.trans b0;have a1:Below Wb.heap.size Wb w2:=hB.trans (a0.mono g7);have f3:=(show _/\_/\_/\_/\_ from⟨(a0.cell (p:=⟨w.heap.size,15,none⟩) i0).trans d1,(a0.cell (p:=⟨bw,ow+(at_+j)*2,none⟩) a8).trans d7,(a0.cell (p:=⟨bw,ow+(at_+j)*2+1,none⟩) a8).trans d4,(a0.cell (p:=⟨bi,oi+j*2,none⟩) a7).trans d8,(a0.cell (p:=⟨bi,oi+j*2+1,none⟩) a7).trans b4⟩);refine hK' _ _ ⟨.inr f3,fun _=> ?_⟩
    clear hK' K' a0 b0 hHeld f3 d0 d1 d2 d3 d7 d4 d8 b4
    (try simp only[Act.put,nY,nX])
    (refine Anv 12 rfl (fun K' hK'=> ?_);simp only[nY];go_simp)
    refine hK' _ _ ⟨.inl (by kernel_rfl),fun _=>Bf (by kernel_rfl) ?_ _⟩
    clear hK' K'
    cases hff:Gh p' q' p q with
    |true=>
     have HG:Hid ((List.range (j+1)).all (fun j=>Gh (ws.getD (at_+j) (0,0)).1 (ws.getD (at_+j) (0,0)).2 (l.ifs.getD j (0,0)).1 (l.ifs.getD j (0,0)).2)=true):=by
      show _=_;rw[List.range_succ,List.all_append,a2.out];simp only[List.all_cons,List.all_nil,Bool.and_true,Bool.true_and];rw[f2.out,hff]
     clear hff;go_wp2
     go_roundw
     case rel=>exact⟨j+1,by omega,by go_num,HG,a1⟩
     case measure=>simp[intOf];omega
    |false=>
     have f7:Ez l ws at_=false:=Ab7 hlt (by rw[f2.out,hff]);have g5:=hI f7;clear hff f7;go_wp2;go_ret;exact⟨by rw[g5.out];rfl,a6.trans (a1.mono a6.size)⟩
   ·obtain rfl:j=l.ifs.length:=by omega
    have f8:Rl l ws at_=true:=a2.out;have HC:=hI f8;clear f8 a2;clear d0 d1 d2 d3;have g2:=Sz H1.out;obtain⟨_,p1,p2,p3,p4,p5,p6,p7,q1,q2,q3,q4,q5,q6,q7,_,_,_⟩:=Kt H1.out;clear q1 q2 q3 q4 q5 q6 q7 g2;go_wp2_with fail;clear p1 p2 p3 p4 p5 p6 p7;refine(Abv l.left.1 l.left.2 a.Al a.cl A n c ws at_ wr (HL.out.1.below a3 rr) (HW.out.below a3 rr) HU.out.1 HU.out.2.1 b8.out).mono ?_;rintro e w2 ⟨A2,c2,rfl,b3,a0⟩;have a1:Below w.heap.size w w2:=a3.trans (a0.mono a3.size);have h2:=(a0.block _ (lt_of_block H1.out)).trans H1.out;clear a0 b3;have H2:=hI h2;obtain⟨_,p1,p2,p3,p4,p5,p6,p7,q1,q2,q3,q4,q5,q6,q7,_,_,_⟩:=Kt h2;clear p1 p2 p3 p4 p5 p6 p7 h2;have d6:IntKind.i64.wrap ((at_:Int)+(l.ifs.length:Int))=(at_:Int)+(l.ifs.length:Int):=IntWalk.i64_in _ (by omega);go_wp2_with fail;clear q1 q2 q3 q4 q5 q6 q7;refine(Aia l.right.1 l.right.2 a.Ar a.cr A n c ws ((at_:Int)+(l.ifs.length:Int)) w2 (HL.out.2.1.below a1 rr) (HW.out.below a1 rr) HU.out.2.2.1 HU.out.2.2.2.1 b8.out).mono ?_;rintro e w3 ⟨A3,c3,rfl,a4,g0⟩;have i1:Below w.heap.size w w3:=a1.trans (g0.mono a1.size);clear g0 a4
    have d9:Ue l ws at_=(decide (0<(Di l.left ws at_).length) && decide (0<(Hd l.right ws ((at_:Int)+l.ifs.length)).length)):=by
     unfold Ue;congr 1;cases Di l.left ws at_<;>rfl
    have g3:=hI d9;clear d9;obtain⟨x,hx⟩:∃x,x=(Di (l.left.1,l.left.2) ws at_).length:=⟨_,rfl⟩;obtain⟨y,hy⟩:∃y,y=(Hd (l.right.1,l.right.2) ws ((at_:Int)+l.ifs.length)).length:=⟨_,rfl⟩;have a9:Ez l ws at_=(decide (0<x) && decide (0<y)):=by rw[HR.out,HC.out,g3.out,Bool.true_and,hx,hy]
    rw[←hx,←hy];have b9:=hI a9;clear a9 hx hy;go_wp2
    all_goals
     go_ret;refine⟨?_,i1⟩;rw[b9.out]
     rename_i h0
     simp[h0]
end Go.Proofs.YtaglfmlgbcmakaaGreatDoor
