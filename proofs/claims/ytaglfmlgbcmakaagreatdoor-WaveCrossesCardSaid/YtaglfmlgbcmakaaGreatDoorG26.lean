/-
  ablautref08: Name, fits.
  ablautref08: Check, check.
  ablautref08: put.
  ablautref08: replace.
  ablautref08: Hit.
-/
import Derived.Laws.OwnMore
import Derived.Test.YtaglfmlgbcmakaaGreatDoorG25
set_option linter.all false
set_option maxRecDepth 100000
set_option maxHeartbeats 4000000
namespace Go.Proofs.YtaglfmlgbcmakaaGreatDoor
open Go.RowKit Go.Shelf
theorem Zj {α:Type}(p:α->Bool):∀l:List α,(l.dropWhile p).all p=true->l.all p=true
 |[],_=>rfl
 |x::t,h=>by
  rw[List.dropWhile_cons]at h
  cases hp:p x with
  |true=>
   rw[hp,if_pos rfl]at h;rw[List.all_cons,hp,Zj p t h];rfl
  |false=>
   rw[hp,if_neg (by decide),List.all_cons,hp]at h;exact absurd h (by simp)
theorem Mj {α:Type}(p:α->Bool):∀l:List α,(l.dropWhile p).isEmpty=l.all p
 |[]=>rfl
 |x::t=>by
  rw[List.dropWhile_cons,List.all_cons]
  cases hp:p x with
  |true=>rw[if_pos rfl,Bool.true_and];exact Mj p t
  |false=>rw[if_neg (by decide)];rfl
theorem Ahz (l cs:List UInt8):(Lib.trimS l cs).isEmpty=l.all (cs.contains ·):=by
 unfold Lib.trimS Lib.trimLeftS Lib.trimRightS;rw[Mj,List.all_reverse,Bool.eq_iff_iff];constructor
 ·intro h
  have:=Zj (cs.contains ·) l.reverse h
  rwa[List.all_reverse]at this
 ·intro h;have h1:(l.reverse.dropWhile (cs.contains ·)).isEmpty=true:=by rw[Mj,List.all_reverse];exact h
  rw[List.isEmpty_iff.1 h1];rfl
def okN (n:Nat):Bool:=(decide (97<=n) && decide (n<=122))||(decide (65<=n) && decide (n<=90))||(decide (48<=n) && decide (n<=57))||n==45
theorem Abo:∀n:Nat,n<256->letters.contains (UInt8.ofNat n)=okN n:=by decide+kernel
theorem Aei (c:UInt8):letters.contains c=okN c.toNat:=by
 rw[←Abo c.toNat c.toNat_lt];simp
theorem Vh (s:ByteArray):Da s=(decide (1<=s.size) && decide (s.size<=24) && s.data.toList.all fun c=>okN c.toNat):=by
 unfold Da
 have e:s.data.toList.all (fun c=>letters.contains c)=s.data.toList.all (fun c=>okN c.toNat):=by
  congr 1;funext c;exact Aei c
 rw[Ahz,e,Lib.toList_data];congr 2;have hs:s.data.toList.length=s.size:=by simp
 cases h:s.data.toList with
 |nil=>rw[h]at hs;simp only[List.length_nil]at hs;rw[←hs];rfl
 |cons x y=>rw[h]at hs;simp only[List.length_cons]at hs;rw[decide_eq_true (by omega)];rfl
theorem Vi (s:ByteArray)(k:Nat)(h:k<s.size):s.data.toList.take (k+1)=s.data.toList.take k++[s[k]]:=by
 rw[List.take_succ_eq_append_getElem (by simpa using h)];rfl
theorem Ah0 (s:ByteArray)(w:World)(hs:s.size<=9223372036854775807):
  Calls Tryz.prog 157 #[.string s] w fun e w'=>e= .returned (.bool (Da s))/\w'=w:=by
 have HN:=hI (Vh s);go_enter Tryz.func157,Tryz.ntmps157;go_wp2
 go_loop [3] (fun i=>∃k:Nat,k<=s.size/\i= .int .i64 k/\Hid ((s.data.toList.take k).all (fun c=>okN c.toNat)=true)) (fun i=>s.size-(intOf i).toNat)
 case atStart=>exact⟨0,Nat.zero_le _,rfl,by simp[Hid]⟩
 case round=>
  obtain⟨k,hk,rfl,a0⟩:=hrel;by_cases hlt:k<s.size
  ·have HT:=hI (Vi s k hlt);have a3:(k:Int)<(s.size:Int):=by omega
   have a2:Hid (okN s[k].toNat=false->Da s=false):=by
    intro h;rw[HN.out]
    have h1:s.data.toList.all (fun c=>okN c.toNat)=false:=by
     rw[←List.take_append_drop (k+1) s.data.toList,HT.out];simp[h]
    rw[h1,Bool.and_false]
   have a1:Hid (okN s[k].toNat=true->(s.data.toList.take (k+1)).all (fun c=>okN c.toNat)=true):=by
    intro h;rw[HT.out,List.all_append,a0.out];simp[h]
   go_wp2
   all_goals(simp only[Bool.and_eq_true,Bool.not_eq_true',Bool.not_eq_false',decide_eq_false_iff_not,decide_eq_true_eq,beq_eq_false_iff_ne,beq_iff_eq,ne_eq]at*)
   all_goals first
    |(refine⟨⟨k+1,by omega,by go_num,a1.out ?_⟩,by simp[intOf];omega⟩
      unfold okN;simp only[Bool.or_eq_true,Bool.and_eq_true,decide_eq_true_eq,beq_iff_eq];omega)
    |(go_ret
      refine⟨?_,rfl⟩
      have hf:okN s[k].toNat=false:=by
       unfold okN;simp only[Bool.or_eq_false_iff,Bool.and_eq_false_iff,decide_eq_false_iff_not,beq_eq_false_iff_ne];omega
      rw[a2.out hf];rfl)
  ·obtain rfl:k=s.size:=by omega
   have hf:Da s=(decide (1<=s.size) && decide (s.size<=24)):=by
    rw[HN.out]
    have:=a0.out
    rw[List.take_of_length_le (by simp)]at this;rw[this,Bool.and_true]
   have HF:=hI hf;clear hf;by_cases h1:1<=s.size
   ·have a4:decide ((1:Int)<=(s.size:Int))=true:=decide_eq_true (by omega);go_wp2;go_ret;refine⟨?_,rfl⟩;show Ending.returned (.bool (decide ((s.size:Int)<=24)))=_;rw[HF.out,decide_eq_true h1,Bool.true_and];congr 2;exact decide_eq_decide.2 (by omega)
   ·have a4:decide ((1:Int)<=(s.size:Int))=false:=decide_eq_false (by omega);go_wp2;go_ret;refine⟨?_,rfl⟩;rw[HF.out,decide_eq_false h1];rfl
def Ah1 (x:Fe)(k:Int):Bool:=
 if decide (x.frm< -1)||decide (k<=x.frm)|| !B5 x.sp x.sm||bits .andNot .u32 x.clear 16777215 !=0||bits .andNot .u32 x.take 16777215 !=0 then false
 else if bits .and .u32 x.clear (bits .or .u32 x.sp x.sm) !=0||bits .and .u32 x.take (bits .or .u32 x.sp x.sm) !=0||bits .and .u32 x.take x.clear !=0 then false
 else if x.take==0 then x.of_==0
 else decide (0<=x.of_) && decide (x.of_<k)
theorem Abp (a b m:Int):(bits .andNot .u32 (bits .or .u32 a b) m !=0)=(bits .andNot .u32 a m !=0||bits .andNot .u32 b m !=0):=by
 have h:bits .andNot .u32 (bits .or .u32 a b) m=0↔bits .andNot .u32 a m=0/\bits .andNot .u32 b m=0:=by
  rw[F4,F4,F4,Lh,G0,Gf,Gf,Gf];simp only[BitVec.getLsbD_and,BitVec.getLsbD_or,BitVec.getLsbD_not];constructor
  ·intro h;exact⟨fun i=>by have:=h i;revert this;cases(bv a).getLsbD i<;>simp,fun i=>by have:=h i;revert this;cases(bv b).getLsbD i<;>simp⟩
  ·rintro⟨h1,h2⟩ i;have h3:=h1 i;have h4:=h2 i
   revert h3 h4
   cases(bv a).getLsbD i<;>cases(bv b).getLsbD i<;>simp
 rw[Bool.eq_iff_iff,Bool.or_eq_true,bne_iff_ne,bne_iff_ne,bne_iff_ne];rw[ne_eq,h];simp only[ne_eq];exact Classical.not_and_iff_not_or_not
theorem Abq (a m c:Int):(bits .and .u32 a (bits .or .u32 m c) !=0)=(bits .and .u32 a m !=0||bits .and .u32 a c !=0):=by
 have h:bits .and .u32 a (bits .or .u32 m c)=0↔bits .and .u32 a m=0/\bits .and .u32 a c=0:=by
  rw[Mo,Mo,Mo,Lh,G0,Gf,Gf,Gf];simp only[BitVec.getLsbD_and,BitVec.getLsbD_or];constructor
  ·intro h;exact⟨fun i=>by have:=h i;revert this;cases(bv a).getLsbD i<;>simp;exact fun h _=>h,fun i=>by have:=h i;revert this;cases(bv a).getLsbD i<;>simp⟩
  ·rintro⟨h1,h2⟩ i;have h3:=h1 i;have h4:=h2 i
   revert h3 h4
   cases(bv a).getLsbD i<;>simp;intro h3 h4;exact⟨h3,h4⟩
 rw[Bool.eq_iff_iff,Bool.or_eq_true,bne_iff_ne,bne_iff_ne,bne_iff_ne];rw[ne_eq,h];simp only[ne_eq];exact Classical.not_and_iff_not_or_not
theorem Ah2 (x:Fe)(k:Int):Ah1 x k=Ep x k:=by
 unfold Ah1 Ep;rw[Abp,Abq x.take (bits .or .u32 x.sp x.sm) x.clear]
 cases decide (x.frm< -1)<;>cases decide (k<=x.frm)<;>cases B5 x.sp x.sm<;>cases(bits .andNot .u32 x.clear 16777215 !=0)<;>cases(bits .andNot .u32 x.take 16777215 !=0)<;>
  cases(bits .and .u32 x.clear (bits .or .u32 x.sp x.sm) !=0)<;>cases(bits .and .u32 x.take (bits .or .u32 x.sp x.sm) !=0)<;>cases(bits .and .u32 x.take x.clear !=0)<;>rfl
theorem Ah3 (x:Fe)(k:Int)(w:World)(hp:U32 x.sp)(hm:U32 x.sm):
  Calls Tryz.prog 160 #[Agm x, .int .i64 k] w fun e w'=>e= .returned (.bool (Ep x k))/\Below w.heap.size w w':=by
 have HP:=hI hp;clear hp;have HM:=hI hm;clear hm;have HF:=hI (Ah2 x k);go_enter Tryz.func160,Tryz.ntmps160;go_wp2_with(go_at_call 159;refine(Vd _ _ _ HP.out HM.out).mono ?_;rintro e w1 ⟨rfl,a0⟩;have a2:=C7 a0;(try simp only[World.size_alloc,World.size_drew,World.size_setCell]at a2);have c0:=fun o=>a0.cell (p:=⟨w.heap.size,o,none⟩) sd;have f0:=fun o=>a0.frozen (p:=⟨w.heap.size,o,none⟩) sd;have a1:Below w.heap.size w w1:=bel;clear a0)
 all_goals(go_ret;refine⟨?_,by first|exact a1|exact bel⟩;rw[←HF.out];simp[Ah1, *];try(first|omega|(intro hv;rename_i h;simp[hv]at h;omega)))
end Go.Proofs.YtaglfmlgbcmakaaGreatDoor
namespace Go.Proofs.YtaglfmlgbcmakaaGreatDoor
open Go.RowKit Go.Shelf
attribute [local go_sem] Oper.semAt_some
def Al0 (x:Fe):Prop:=U32 x.clear/\U32 x.sp/\U32 x.sm/\U32 x.take
def Ake (l:Bi):Prop:=NdU l.left.1/\FoU l.left.2/\NdU l.right.1/\FoU l.right.2/\Jw l.ifs∧∀x∈l.outs,Al0 x
theorem Aej (l:Bi)(a:D8)(w:World)(hl:Ew w l a)(hu:Ake l):
  Calls Tryz.prog 123 #[Ez l a] w fun e w'=>e= .returned (.int .i64 (Cc l))/\Below w.heap.size w w':=by
 have d5:=hl.2.2.2.2;have HU:=hI hu;clear hu;have HL:=hI hl;clear hl;obtain⟨Wb,i5,b5,j1,b2,j0⟩:=Ga w l a;obtain⟨d0,d1,d2,d3⟩:=Cb b5;go_enter Tryz.func123,Tryz.ntmps123;go_wp2_with fail;clear i5 d0 d1 d2 d3;refine(Ah0 l.name Wb d5).mono ?_;rintro e w1 ⟨rfl,hq⟩;rw[hq];clear hq w1;obtain⟨d0,d1,d2,d3⟩:=Cb b5;have f4:=hI b5;clear b5
 cases hnm:Da l.name with
 |false=>
  have hr:Cc l=17:=by unfold Cc Db;rw[hnm];rfl
  have HR:=hI hr;clear hr;go_wp2;go_ret;exact⟨by rw[HR.out];rfl,b2⟩
 |true=>
  have i1:=hI hnm;clear hnm;obtain⟨_,p1,p2,p3,p4,p5,p6,p7,_,_,_,_,_,_,_,_,_,_⟩:=Pc f4.out;go_wp2_with fail;clear p1 p2 p3 p4 p5 p6 p7;refine(Vg l.left.1 l.left.2 Wb a.Al l.left.2.len a.cl (HL.out.1.below b2 rr) HU.out.1 HU.out.2.1).mono ?_;rintro e w2 ⟨rfl,hb⟩;have a2:=(hb.block _ (by omega)).trans f4.out;have b8:=b2.trans (hb.mono b2.size);have i7:=lt_of_block a2;clear hb d0 d1 d2 d3;have f5:=hI a2;obtain⟨d0,d1,d2,d3⟩:=Cb a2;clear a2;by_cases hcl:Bp 40 [l.left]=0
  case neg=>
   have b0:(Bp 40 [(l.left.fst,l.left.snd)] !=0)=true:=by simpa using hcl
   have hr:Cc l=17:=by unfold Cc Db;rw[show(Bp 40 [l.left] !=0)=true by simpa using hcl];simp
   have HR:=hI hr;clear hr hcl;go_wp2;go_ret;exact⟨by rw[HR.out];rfl,b8⟩
  have b0:(Bp 40 [(l.left.fst,l.left.snd)] !=0)=false:=by simpa using hcl
  have i4:=hI hcl;clear hcl;obtain⟨_,_,_,_,_,_,_,_,p1,p2,p3,p4,p5,p6,p7,_,_,_⟩:=Pc f5.out;go_wp2_with fail;clear b0 p1 p2 p3 p4 p5 p6 p7;refine(Vg l.right.1 l.right.2 w2 a.Ar l.right.2.len a.cr (HL.out.2.1.below b8 rr) HU.out.2.2.1 HU.out.2.2.2.1).mono ?_;rintro e w3 ⟨rfl,hb⟩;have a2:=(hb.block _ (by omega)).trans f5.out;have a5:=b8.trans (hb.mono b8.size);have i9:=lt_of_block a2;clear hb d0 d1 d2 d3;have g6:=hI a2;obtain⟨d0,d1,d2,d3⟩:=Cb a2;clear a2;by_cases hcr:Bp 40 [l.right]=0
  case neg=>
   have b0:(Bp 40 [(l.right.fst,l.right.snd)] !=0)=true:=by simpa using hcr
   have hr:Cc l=17:=by unfold Cc Db;rw[show(Bp 40 [l.right] !=0)=true by simpa using hcr];simp
   clear hcr;have HR:=hI hr;clear hr;go_wp2;go_ret;exact⟨by rw[HR.out];rfl,a5⟩
  have b0:(Bp 40 [(l.right.fst,l.right.snd)] !=0)=false:=by simpa using hcr
  have f9:=hI hcr;clear hcr;by_cases h4:4<l.ifs.length
  case pos=>
   have hr:Cc l=17:=by unfold Cc Db;simp[h4]
   have i0:=HL.out.2.2.1.max;have HR:=hI hr;clear hr;go_wp2;go_ret;exact⟨by rw[HR.out];rfl,a5⟩
  by_cases h6:6<l.outs.length
  case pos=>
   have hr:Cc l=17:=by unfold Cc Db;simp[h6]
   have g8:l.outs.length<=9223372036854775807:=by have h1:=HL.out.2.2.2.1.1.2.1;have h2:=HL.out.2.2.2.1.1.2.2.1;unfold maxLen at h2;omega
   have HR:=hI hr;clear hr;go_wp2;go_ret;exact⟨by rw[HR.out];rfl,a5⟩
  by_cases h00:l.ifs.length+l.outs.length=0
  case pos=>
   have d9:((l.ifs.length:Int)+(l.outs.length:Int)==0)=true:=by simp;omega
   have hr:Cc l=17:=by unfold Cc Db;simp[h00]
   clear h00;have HR:=hI hr;clear hr;go_wp2;go_ret;exact⟨by rw[HR.out];rfl,a5⟩
  have d9:((l.ifs.length:Int)+(l.outs.length:Int)==0)=false:=by simp;omega
  have f6:=hI h00;clear h00;by_cases hm1:l.mode<1
  case pos=>
   have hr:Cc l=17:=by unfold Cc Db;simp[hm1]
   have HR:=hI hr;clear hr;go_wp2;go_ret;exact⟨by rw[HR.out];rfl,a5⟩
  by_cases hm3:3<l.mode
  case pos=>
   have hr:Cc l=17:=by unfold Cc Db;simp[hm3]
   have HR:=hI hr;clear hr;go_wp2;go_ret;exact⟨by rw[HR.out];rfl,a5⟩
  have b4:decide ((4:Int)<(l.ifs.length:Int))=false:=by simp;omega
  have b6:decide ((6:Int)<(l.outs.length:Int))=false:=by simp;omega
  have b1:decide (l.mode<1)=false:=by simpa using hm1
  have b3:decide (3<l.mode)=false:=by simpa using hm3
  go_wp2_with fail;clear d0 d1 d2 d3
  go_loopw [3] (fun i wr=>∃k:Nat,k<=l.ifs.length/\i= .int .i64 k/\Hid ((l.ifs.take k).any (fun s=> !B5 s.1 s.2)=false)/\Below w.heap.size w wr/\Hid (wr.heap[w.heap.size]? =some (.cells (Bz l a) 55 (0,0)))) (fun i _=>l.ifs.length-(intOf i).toNat)
  case atStart=>exact⟨0,Nat.zero_le _,rfl,by simp[Hid],a5,g6⟩
  case round=>
   obtain⟨k,hk,rfl,a9,hB,b7⟩:=hrel;have i3:=hB.size;have hL:=lt_of_block b7.out;obtain⟨d0,d1,d2,d3⟩:=Cb b7.out;by_cases hlt:k<l.ifs.length
   ·obtain⟨b,off,p,m,hA,hb,b9,f8,g9⟩:=(HL.out.2.2.1.below hB rr).at_ hlt;have d7:(k:Int)<(l.ifs.length:Int):=by omega
    have a1:=HU.out.2.2.2.2.1 (p,m) (List.mem_of_getElem? b9);have HM:=hI a1;clear a1;have HS:=hI (Bd l.ifs k (p,m) b9);have g7:=hI b9;clear b9;rw[hA]at d1;clear hA;go_wp2_with fail;refine(Vd p m wr HM.out.1 HM.out.2).mono ?_;rintro e w5 ⟨rfl,a0⟩;have a7:=hB.trans (a0.mono i3);have d8:Hid (w5.heap[w.heap.size]? =some (.cells (Bz l a) 55 (0,0))):=(a0.block _ hL).trans b7.out;clear a0 d0 d1 d2 d3 f8 g9
    cases hv:B5 p m with
    |false=>
     have hr:Cc l=17:=by
      have h1:l.ifs.any (fun s=> !B5 s.1 s.2)=true:=List.any_eq_true.2 ⟨(p,m),List.mem_of_getElem? g7.out,by simp[hv]⟩;unfold Cc Db;rw[h1];simp
     have HR:=hI hr;clear hr hv;go_wp2;go_ret;exact⟨by rw[HR.out];rfl,a7⟩
    |true=>
     have HV:=hI hv;clear hv;go_wp2
     go_roundw
     case rel=>exact⟨k+1,by omega,by go_num,(by show _=_;rw[HS.out,List.any_append,a9.out];simp[HV.out]),a7,d8⟩
     case measure=>simp[intOf];omega
   ·obtain rfl:k=l.ifs.length:=by omega
    have f7:l.ifs.any (fun s=> !B5 s.1 s.2)=false:=by
     have:=a9.out;rwa[List.take_of_length_le rr]at this
    have i6:=hI f7;clear f7;go_wp2_with fail;clear d0 d1 d2 d3
    go_loopw [4] (fun i wr=>∃k:Nat,k<=l.outs.length/\i= .int .i64 k/\Hid ((l.outs.take k).any (fun x=> !Ep x l.ifs.length)=false)/\Below w.heap.size w wr/\Hid (wr.heap[w.heap.size]? =some (.cells (Bz l a) 55 (0,0)))) (fun i _=>l.outs.length-(intOf i).toNat)
    case atStart=>exact⟨0,Nat.zero_le _,rfl,by simp[Hid],hB,b7⟩
    case round=>
     obtain⟨j,hj,rfl,a3,d4,d6⟩:=hrel;have f0:=d4.size;have f1:=lt_of_block d6.out;obtain⟨d0,d1,d2,d3⟩:=Cb d6.out;by_cases hlt:j<l.outs.length
     ·obtain⟨x,hx⟩:∃x,l.outs[j]? =some x:=⟨l.outs[j],List.getElem?_eq_getElem _⟩;obtain⟨b,off,hA,a6,a4⟩:=(HL.out.2.2.2.1.below d4 rr).at_ Fe.len (by decide) hx;have d7:(j:Int)<(l.outs.length:Int):=by omega
      have a1:=HU.out.2.2.2.2.2 x (List.mem_of_getElem? hx);have HM:=hI a1;clear a1;have HS:=hI (Bd l.outs j x hx);have HX:=hI hx;clear hx;have g0:=a4 0 _ rfl;have g1:=a4 1 _ rfl;have g2:=a4 2 _ rfl;have g3:=a4 3 _ rfl;have g4:=a4 4 _ rfl;have g5:=a4 5 _ rfl;simp only[Nat.add_zero,←Nat.add_assoc]at g0 g1 g2 g3 g4 g5;rw[hA]at d2;clear hA a4;have i8:((j:Int)).toNat=j:=by omega
      go_wp2
      refine Bg (fun W'=>W'.cell? ⟨w.heap.size,16,none⟩=some (.slice (some ⟨b,off,none⟩) l.outs.length a.co)/\W'.cell? ⟨w.heap.size,15,none⟩=some (.slice a.Ai l.ifs.length a.ci)∧
       W'.cell? ⟨b,off+j*6,none⟩=some (.int .i64 x.frm)/\W'.cell? ⟨b,off+j*6+1,none⟩=some (.int .u32 x.clear)/\W'.cell? ⟨b,off+j*6+2,none⟩=some (.int .u32 x.sp)∧
       W'.cell? ⟨b,off+j*6+3,none⟩=some (.int .u32 x.sm)/\W'.cell? ⟨b,off+j*6+4,none⟩=some (.int .u32 x.take)/\W'.cell? ⟨b,off+j*6+5,none⟩=some (.int .i64 x.of_)) (by kernel_rfl) ⟨d2,d1,g0,g1,g2,g3,g4,g5⟩ (fun hHeld=> ?_)
      (refine' Ab 0 rfl ?_;(try simp only[Act.put,nY,nX]));(refine' Ab 1 rfl ?_;(try simp only[Act.put,nY,nX]));(refine' Ab 2 rfl ?_;(try simp only[Act.put,nY,nX]));(refine' Ab 3 rfl ?_;(try simp only[Act.put,nY,nX]));(refine' Ab 4 rfl ?_;(try simp only[Act.put,nY,nX]));(refine' Ab 5 rfl ?_;(try simp only[Act.put,nY,nX]));(refine' Ab 6 rfl ?_;(try simp only[Act.put,nY,nX]));(refine' Ab 7 rfl ?_;(try simp only[Act.put,nY,nX]))
      (refine Am8 8 rfl (fun K' hK'=> ?_);simp only[nY];go_simp)
      refine(Ah3 x _ _ HM.out.2.1 HM.out.2.2.1).mono ?_;rintro e w5 ⟨rfl,a8⟩;have a0:Below wr.heap.size wr w5:=(Below.refl wr.heap.size wr).drew.trans a8;have a7:=d4.trans (a0.mono f0);have d8:Hid (w5.heap[w.heap.size]? =some (.cells (Bz l a) 55 (0,0))):=(a0.block _ f1).trans d6.out;have f3:=(show _/\_/\_/\_/\_/\_/\_/\_ from⟨(a0.cell (p:=⟨w.heap.size,16,none⟩) f1).trans d2,(a0.cell (p:=⟨w.heap.size,15,none⟩) f1).trans d1,(a0.cell (p:=⟨b,off+j*6,none⟩) a6).trans g0,(a0.cell (p:=⟨b,off+j*6+1,none⟩) a6).trans g1,(a0.cell (p:=⟨b,off+j*6+2,none⟩) a6).trans g2,(a0.cell (p:=⟨b,off+j*6+3,none⟩) a6).trans g3,(a0.cell (p:=⟨b,off+j*6+4,none⟩) a6).trans g4,(a0.cell (p:=⟨b,off+j*6+5,none⟩) a6).trans g5⟩);refine hK' _ _ ⟨.inr f3,fun _=> ?_⟩
      clear hK' K' a8 a0 hHeld f3 g0 g1 g2 g3 g4 g5 d0 d1 d2 d3
      (try simp only[Act.put,nY,nX])
      (refine Am8 9 rfl (fun K' hK'=> ?_);simp only[nY];go_simp)
      refine hK' _ _ ⟨.inl (by kernel_rfl),fun _=>Ba (by kernel_rfl) ?_ _⟩
      clear hK' K'
      cases hv:Ep x l.ifs.length with
      |false=>
       have hr:Cc l=17:=by
        have h1:l.outs.any (fun x=> !Ep x l.ifs.length)=true:=List.any_eq_true.2 ⟨x,List.mem_of_getElem? HX.out,by simp[hv]⟩;unfold Cc Db;rw[h1];simp
       have HR:=hI hr;clear hr hv;go_wp2;go_ret;exact⟨by rw[HR.out];rfl,a7⟩
      |true=>
       have HV:=hI hv;clear hv;go_wp2
       go_roundw
       case rel=>exact⟨j+1,by omega,by go_num,(by show _=_;rw[HS.out,List.any_append,a3.out];simp[HV.out]),a7,d8⟩
       case measure=>simp[intOf];omega
     ·obtain rfl:j=l.outs.length:=by omega
      have hr:Cc l=0:=by
       have f2:l.outs.any (fun x=> !Ep x l.ifs.length)=false:=by
        have:=a3.out;rwa[List.take_of_length_le rr]at this
       unfold Cc Db;rw[i1.out,i4.out,f9.out,i6.out,f2];simp[h4,h6,hm1,hm3,f6.out];intro h5 i2;exact f6.out (by rw[h5,i2];rfl)
      have HR:=hI hr;clear hr;go_wp2;go_ret;exact⟨by rw[HR.out];rfl,d4⟩
end Go.Proofs.YtaglfmlgbcmakaaGreatDoor
namespace Go.Proofs.YtaglfmlgbcmakaaGreatDoor
open Go.RowKit Go.Shelf
attribute [local go_sem] Oper.semAt_some
theorem Jw.take {ws:List Snd}(h:Jw ws)(k:Nat):Jw (ws.take k):=fun s hs=>h s (List.mem_of_mem_take hs)
theorem Jw.drop {ws:List Snd}(h:Jw ws)(k:Nat):Jw (ws.drop k):=fun s hs=>h s (List.mem_of_mem_drop hs)
theorem Jw.append {a b:List Snd}(h:Jw a)(h':Jw b):Jw (a++b):=fun s hs=>(List.mem_append.1 hs).elim (h s) (h' s)
end Go.Proofs.YtaglfmlgbcmakaaGreatDoor
namespace Go.Proofs.YtaglfmlgbcmakaaGreatDoor
open Go.RowKit Go.Shelf
attribute [local go_sem] Oper.semAt_some
end Go.Proofs.YtaglfmlgbcmakaaGreatDoor
namespace Go.Proofs.YtaglfmlgbcmakaaGreatDoor
open Go.RowKit Go.Shelf
attribute [local go_sem] Oper.semAt_some
end Go.Proofs.YtaglfmlgbcmakaaGreatDoor
