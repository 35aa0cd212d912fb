/-
  ablautref08: Name, fits.
  ablautref08: Check, check.
  ablautref08: put.
  ablautref08: replace.
  ablautref08: Hit.
-/
import Derived.Laws.OwnMore
import Derived.Test.YtlgliddhideflaaGreatDoorG25
set_option linter.all false
set_option maxRecDepth 100000
set_option maxHeartbeats 4000000
namespace Go.Proofs.YtlgliddhideflaaGreatDoor
open Go.RowKit Go.Shelf
theorem Ab4 {α:Type}(p:α->Bool):∀l:List α,(l.dropWhile p).all p=true->l.all p=true
 |[],_=>rfl
 |x::t,h=>by
  rw[List.dropWhile_cons]at h
  cases hp:p x with
  |true=>
   rw[hp,if_pos rfl]at h;rw[List.all_cons,hp,Ab4 p t h];rfl
  |false=>
   rw[hp,if_neg (by decide),List.all_cons,hp]at h;exact absurd h (by simp)
theorem Pm {α:Type}(p:α->Bool):∀l:List α,(l.dropWhile p).isEmpty=l.all p
 |[]=>rfl
 |x::t=>by
  rw[List.dropWhile_cons,List.all_cons]
  cases hp:p x with
  |true=>rw[if_pos rfl,Bool.true_and];exact Pm p t
  |false=>rw[if_neg (by decide)];rfl
theorem Ajx (l cs:List UInt8):(Lib.trimS l cs).isEmpty=l.all (cs.contains ·):=by
 unfold Lib.trimS Lib.trimLeftS Lib.trimRightS;rw[Pm,List.all_reverse,Bool.eq_iff_iff];constructor
 ·intro h
  have:=Ab4 (cs.contains ·) l.reverse h
  rwa[List.all_reverse]at this
 ·intro h;have h1:(l.reverse.dropWhile (cs.contains ·)).isEmpty=true:=by rw[Pm,List.all_reverse];exact h
  rw[List.isEmpty_iff.1 h1];rfl
def okN (n:Nat):Bool:=(decide (97<=n) && decide (n<=122))||(decide (65<=n) && decide (n<=90))||(decide (48<=n) && decide (n<=57))||n==45
theorem Aeb:∀n:Nat,n<256->letters.contains (UInt8.ofNat n)=okN n:=by decide+kernel
theorem Agu (c:UInt8):letters.contains c=okN c.toNat:=by
 rw[←Aeb c.toNat c.toNat_lt];simp
theorem Agv (s:ByteArray):Gb s=(decide (1<=s.size) && decide (s.size<=24) && s.data.toList.all fun c=>okN c.toNat):=by
 unfold Gb
 have e:s.data.toList.all (fun c=>letters.contains c)=s.data.toList.all (fun c=>okN c.toNat):=by
  congr 1;funext c;exact Agu c
 rw[Ajx,e,Lib.toList_data];congr 2;have hs:s.data.toList.length=s.size:=by simp
 cases h:s.data.toList with
 |nil=>rw[h]at hs;simp only[List.length_nil]at hs;rw[←hs];rfl
 |cons x y=>rw[h]at hs;simp only[List.length_cons]at hs;rw[decide_eq_true (by omega)];rfl
theorem Agw (s:ByteArray)(k:Nat)(h:k<s.size):s.data.toList.take (k+1)=s.data.toList.take k++[s[k]]:=by
 rw[List.take_succ_eq_append_getElem (by simpa using h)];rfl
theorem Ajy (s:ByteArray)(w:World)(hs:s.size<=9223372036854775807):
  Calls Tryz.prog 249 #[.string s] w fun e w'=>e= .returned (.bool (Gb s))/\w'=w:=by
 have HN:=hI (Agv s);go_enter Tryz.func249,Tryz.ntmps249;go_wp2
 go_loop [3] (fun i=>∃k:Nat,k<=s.size/\i= .int .i64 k/\Hid ((s.data.toList.take k).all (fun c=>okN c.toNat)=true)) (fun i=>s.size-(intOf i).toNat)
 case atStart=>exact⟨0,Nat.zero_le _,rfl,by simp[Hid]⟩
 case round=>
  obtain⟨k,hk,rfl,a0⟩:=hrel;by_cases hlt:k<s.size
  ·have HT:=hI (Agw s k hlt);have a4:(k:Int)<(s.size:Int):=by omega
   have a2:Hid (okN s[k].toNat=false->Gb s=false):=by
    intro h;rw[HN.out]
    have h1:s.data.toList.all (fun c=>okN c.toNat)=false:=by
     rw[←List.take_append_drop (k+1) s.data.toList,HT.out];simp[h]
    rw[h1,Bool.and_false]
   have a1:Hid (okN s[k].toNat=true->(s.data.toList.take (k+1)).all (fun c=>okN c.toNat)=true):=by
    intro h;rw[HT.out,List.all_append,a0.out];simp[h]
   go_wp2
   all_goals(simp only[Bool.and_eq_true,Bool.not_eq_true',Bool.not_eq_false',decide_eq_false_iff_not,decide_eq_true_eq,beq_eq_false_iff_ne,beq_iff_eq,ne_eq]at*)
   all_goals first
    |(refine⟨⟨k+1,by omega,by go_num,a1.out ?_⟩,by simp[intOf];omega⟩
      unfold okN;simp only[Bool.or_eq_true,Bool.and_eq_true,decide_eq_true_eq,beq_iff_eq];omega)
    |(go_ret
      refine⟨?_,rfl⟩
      have hf:okN s[k].toNat=false:=by
       unfold okN;simp only[Bool.or_eq_false_iff,Bool.and_eq_false_iff,decide_eq_false_iff_not,beq_eq_false_iff_ne];omega
      rw[a2.out hf];rfl)
  ·obtain rfl:k=s.size:=by omega
   have hf:Gb s=(decide (1<=s.size) && decide (s.size<=24)):=by
    rw[HN.out]
    have:=a0.out
    rw[List.take_of_length_le (by simp)]at this;rw[this,Bool.and_true]
   have HF:=hI hf;clear hf;by_cases h1:1<=s.size
   ·have a3:decide ((1:Int)<=(s.size:Int))=true:=decide_eq_true (by omega);go_wp2;go_ret;refine⟨?_,rfl⟩;show Ending.returned (.bool (decide ((s.size:Int)<=24)))=_;rw[HF.out,decide_eq_true h1,Bool.true_and];congr 2;exact decide_eq_decide.2 (by omega)
   ·have a3:decide ((1:Int)<=(s.size:Int))=false:=decide_eq_false (by omega);go_wp2;go_ret;refine⟨?_,rfl⟩;rw[HF.out,decide_eq_false h1];rfl
def Ajz (x:Fe)(k:Int):Bool:=
 if decide (x.frm< -1)||decide (k<=x.frm)|| !Br x.sp x.sm||bits .andNot .u32 x.clear 16777215 !=0||bits .andNot .u32 x.take 16777215 !=0 then false
 else if bits .and .u32 x.clear (bits .or .u32 x.sp x.sm) !=0||bits .and .u32 x.take (bits .or .u32 x.sp x.sm) !=0||bits .and .u32 x.take x.clear !=0 then false
 else if x.take==0 then x.of_==0
 else decide (0<=x.of_) && decide (x.of_<k)
theorem Aec (a b m:Int):(bits .andNot .u32 (bits .or .u32 a b) m !=0)=(bits .andNot .u32 a m !=0||bits .andNot .u32 b m !=0):=by
 have h:bits .andNot .u32 (bits .or .u32 a b) m=0↔bits .andNot .u32 a m=0/\bits .andNot .u32 b m=0:=by
  rw[D0,D0,D0,Jl,Fi,Ei,Ei,Ei];simp only[BitVec.getLsbD_and,BitVec.getLsbD_or,BitVec.getLsbD_not];constructor
  ·intro h;exact⟨fun i=>by have:=h i;revert this;cases(bv a).getLsbD i<;>simp,fun i=>by have:=h i;revert this;cases(bv b).getLsbD i<;>simp⟩
  ·rintro⟨h1,h2⟩ i;have h3:=h1 i;have h4:=h2 i
   revert h3 h4
   cases(bv a).getLsbD i<;>cases(bv b).getLsbD i<;>simp
 rw[Bool.eq_iff_iff,Bool.or_eq_true,bne_iff_ne,bne_iff_ne,bne_iff_ne];rw[ne_eq,h];simp only[ne_eq];exact Classical.not_and_iff_not_or_not
theorem Aed (a m c:Int):(bits .and .u32 a (bits .or .u32 m c) !=0)=(bits .and .u32 a m !=0||bits .and .u32 a c !=0):=by
 have h:bits .and .u32 a (bits .or .u32 m c)=0↔bits .and .u32 a m=0/\bits .and .u32 a c=0:=by
  rw[Le,Le,Le,Jl,Fi,Ei,Ei,Ei];simp only[BitVec.getLsbD_and,BitVec.getLsbD_or];constructor
  ·intro h;exact⟨fun i=>by have:=h i;revert this;cases(bv a).getLsbD i<;>simp;exact fun h _=>h,fun i=>by have:=h i;revert this;cases(bv a).getLsbD i<;>simp⟩
  ·rintro⟨h1,h2⟩ i;have h3:=h1 i;have h4:=h2 i
   revert h3 h4
   cases(bv a).getLsbD i<;>simp;intro h3 h4;exact⟨h3,h4⟩
 rw[Bool.eq_iff_iff,Bool.or_eq_true,bne_iff_ne,bne_iff_ne,bne_iff_ne];rw[ne_eq,h];simp only[ne_eq];exact Classical.not_and_iff_not_or_not
theorem Aj0 (x:Fe)(k:Int):Ajz x k=Eb x k:=by
 unfold Ajz Eb;rw[Aec,Aed x.take (bits .or .u32 x.sp x.sm) x.clear]
 cases decide (x.frm< -1)<;>cases decide (k<=x.frm)<;>cases Br x.sp x.sm<;>cases(bits .andNot .u32 x.clear 16777215 !=0)<;>cases(bits .andNot .u32 x.take 16777215 !=0)<;>
  cases(bits .and .u32 x.clear (bits .or .u32 x.sp x.sm) !=0)<;>cases(bits .and .u32 x.take (bits .or .u32 x.sp x.sm) !=0)<;>cases(bits .and .u32 x.take x.clear !=0)<;>rfl
theorem Aj1 (x:Fe)(k:Int)(w:World)(hp:U32 x.sp)(hm:U32 x.sm):
  Calls Tryz.prog 251 #[Aiu x, .int .i64 k] w fun e w'=>e= .returned (.bool (Eb x k))/\Below w.heap.size w w':=by
 have HP:=hI hp;clear hp;have HM:=hI hm;clear hm;have HF:=hI (Aj0 x k);go_enter Tryz.func251,Tryz.ntmps251;go_wp2_with(go_at_call 225;refine(E6 _ _ _ HP.out HM.out).mono ?_;rintro e w1 ⟨rfl,a0⟩;have a1:=Df a0;(try simp only[World.size_alloc,World.size_drew,World.size_setCell]at a1);have c0:=fun o=>a0.cell (p:=⟨w.heap.size,o,none⟩) sd;have f0:=fun o=>a0.frozen (p:=⟨w.heap.size,o,none⟩) sd;have a2:Below w.heap.size w w1:=bel;clear a0)
 all_goals(go_ret;refine⟨?_,by first|exact a2|exact bel⟩;rw[←HF.out];simp[Ajz, *];try(first|omega|(intro hv;rename_i h;simp[hv]at h;omega)))
end Go.Proofs.YtlgliddhideflaaGreatDoor
namespace Go.Proofs.YtlgliddhideflaaGreatDoor
open Go.RowKit Go.Shelf
attribute [local go_sem] Oper.semAt_some
def Al0 (x:Fe):Prop:=U32 x.clear/\U32 x.sp/\U32 x.sm/\U32 x.take
def Lb (l:Bg):Prop:=NdU l.left.1/\FoU l.left.2/\NdU l.right.1/\FoU l.right.2/\Bq l.ifs∧∀x∈l.outs,Al0 x
theorem Yn (l:Bg)(a:Dn)(w:World)(hl:Cv w l a)(hu:Lb l):
  Calls Tryz.prog 223 #[C8 l a] w fun e w'=>e= .returned (.int .i64 (Ci l))/\Below w.heap.size w w':=by
 have d7:=hl.2.2.2.2;have HU:=hI hu;clear hu;have HL:=hI hl;clear hl;obtain⟨Wb,i6,b7,j0,d4,i8⟩:=De w l a;obtain⟨d0,d1,d2,d3⟩:=B3 b7;go_enter Tryz.func223,Tryz.ntmps223;go_wp2_with fail;clear i6 d0 d1 d2 d3;refine(Ajy l.name Wb d7).mono ?_;rintro e w1 ⟨rfl,hq⟩;rw[hq];clear hq w1;obtain⟨d0,d1,d2,d3⟩:=B3 b7;have f4:=hI b7;clear b7
 cases hnm:Gb l.name with
 |false=>
  have hr:Ci l=17:=by unfold Ci Dp;rw[hnm];rfl
  have HR:=hI hr;clear hr;go_wp2;go_ret;exact⟨by rw[HR.out];rfl,d4⟩
 |true=>
  have f8:=hI hnm;clear hnm;obtain⟨_,p1,p2,p3,p4,p5,p6,p7,_,_,_,_,_,_,_,_,_,_⟩:=Lm f4.out;go_wp2_with fail;clear p1 p2 p3 p4 p5 p6 p7;refine(St l.left.1 l.left.2 Wb a.Al l.left.2.len a.cl (HL.out.1.below d4 rr) HU.out.1 HU.out.2.1).mono ?_;rintro e w2 ⟨rfl,hb⟩;have a2:=(hb.block _ (by omega)).trans f4.out;have b5:=d4.trans (hb.mono d4.size);have i9:=lt_of_block a2;clear hb d0 d1 d2 d3;have f6:=hI a2;obtain⟨d0,d1,d2,d3⟩:=B3 a2;clear a2;by_cases hcl:B5 40 [l.left]=0
  case neg=>
   have b0:(B5 40 [(l.left.fst,l.left.snd)] !=0)=true:=by simpa using hcl
   have hr:Ci l=17:=by unfold Ci Dp;rw[show(B5 40 [l.left] !=0)=true by simpa using hcl];simp
   have HR:=hI hr;clear hr hcl;go_wp2;go_ret;exact⟨by rw[HR.out];rfl,b5⟩
  have b0:(B5 40 [(l.left.fst,l.left.snd)] !=0)=false:=by simpa using hcl
  have i0:=hI hcl;clear hcl;obtain⟨_,_,_,_,_,_,_,_,p1,p2,p3,p4,p5,p6,p7,_,_,_⟩:=Lm f6.out;go_wp2_with fail;clear b0 p1 p2 p3 p4 p5 p6 p7;refine(St l.right.1 l.right.2 w2 a.Ar l.right.2.len a.cr (HL.out.2.1.below b5 rr) HU.out.2.2.1 HU.out.2.2.2.1).mono ?_;rintro e w3 ⟨rfl,hb⟩;have a2:=(hb.block _ (by omega)).trans f6.out;have a4:=b5.trans (hb.mono b5.size);have j1:=lt_of_block a2;clear hb d0 d1 d2 d3;have g6:=hI a2;obtain⟨d0,d1,d2,d3⟩:=B3 a2;clear a2;by_cases hcr:B5 40 [l.right]=0
  case neg=>
   have b0:(B5 40 [(l.right.fst,l.right.snd)] !=0)=true:=by simpa using hcr
   have hr:Ci l=17:=by unfold Ci Dp;rw[show(B5 40 [l.right] !=0)=true by simpa using hcr];simp
   clear hcr;have HR:=hI hr;clear hr;go_wp2;go_ret;exact⟨by rw[HR.out];rfl,a4⟩
  have b0:(B5 40 [(l.right.fst,l.right.snd)] !=0)=false:=by simpa using hcr
  have g9:=hI hcr;clear hcr;by_cases h4:4<l.ifs.length
  case pos=>
   have hr:Ci l=17:=by unfold Ci Dp;simp[h4]
   have i5:=HL.out.2.2.1.max;have HR:=hI hr;clear hr;go_wp2;go_ret;exact⟨by rw[HR.out];rfl,a4⟩
  by_cases h6:6<l.outs.length
  case pos=>
   have hr:Ci l=17:=by unfold Ci Dp;simp[h6]
   have i4:l.outs.length<=9223372036854775807:=by have h1:=HL.out.2.2.2.1.1.2.1;have h2:=HL.out.2.2.2.1.1.2.2.1;unfold maxLen at h2;omega
   have HR:=hI hr;clear hr;go_wp2;go_ret;exact⟨by rw[HR.out];rfl,a4⟩
  by_cases h00:l.ifs.length+l.outs.length=0
  case pos=>
   have d6:((l.ifs.length:Int)+(l.outs.length:Int)==0)=true:=by simp;omega
   have hr:Ci l=17:=by unfold Ci Dp;simp[h00]
   clear h00;have HR:=hI hr;clear hr;go_wp2;go_ret;exact⟨by rw[HR.out];rfl,a4⟩
  have d6:((l.ifs.length:Int)+(l.outs.length:Int)==0)=false:=by simp;omega
  have f7:=hI h00;clear h00;by_cases hm1:l.mode<1
  case pos=>
   have hr:Ci l=17:=by unfold Ci Dp;simp[hm1]
   have HR:=hI hr;clear hr;go_wp2;go_ret;exact⟨by rw[HR.out];rfl,a4⟩
  by_cases hm3:3<l.mode
  case pos=>
   have hr:Ci l=17:=by unfold Ci Dp;simp[hm3]
   have HR:=hI hr;clear hr;go_wp2;go_ret;exact⟨by rw[HR.out];rfl,a4⟩
  have b4:decide ((4:Int)<(l.ifs.length:Int))=false:=by simp;omega
  have b6:decide ((6:Int)<(l.outs.length:Int))=false:=by simp;omega
  have b1:decide (l.mode<1)=false:=by simpa using hm1
  have b3:decide (3<l.mode)=false:=by simpa using hm3
  go_wp2_with fail;clear d0 d1 d2 d3
  go_loopw [3] (fun i wr=>∃k:Nat,k<=l.ifs.length/\i= .int .i64 k/\Hid ((l.ifs.take k).any (fun s=> !Br s.1 s.2)=false)/\Below w.heap.size w wr/\Hid (wr.heap[w.heap.size]? =some (.cells (Bv l a) 34 (0,0)))) (fun i _=>l.ifs.length-(intOf i).toNat)
  case atStart=>exact⟨0,Nat.zero_le _,rfl,by simp[Hid],a4,g6⟩
  case round=>
   obtain⟨k,hk,rfl,a8,hB,b2⟩:=hrel;have f9:=hB.size;have hL:=lt_of_block b2.out;obtain⟨d0,d1,d2,d3⟩:=B3 b2.out;by_cases hlt:k<l.ifs.length
   ·obtain⟨b,off,p,m,hA,hb,b9,i1,i3⟩:=(HL.out.2.2.1.below hB rr).at_ hlt;have d5:(k:Int)<(l.ifs.length:Int):=by omega
    have a1:=HU.out.2.2.2.2.1 (p,m) (List.mem_of_getElem? b9);have HM:=hI a1;clear a1;have HS:=hI (Bb l.ifs k (p,m) b9);have g7:=hI b9;clear b9;rw[hA]at d1;clear hA;go_wp2_with fail;refine(E6 p m wr HM.out.1 HM.out.2).mono ?_;rintro e w5 ⟨rfl,a0⟩;have a7:=hB.trans (a0.mono f9);have f0:Hid (w5.heap[w.heap.size]? =some (.cells (Bv l a) 34 (0,0))):=(a0.block _ hL).trans b2.out;clear a0 d0 d1 d2 d3 i1 i3
    cases hv:Br p m with
    |false=>
     have hr:Ci l=17:=by
      have h1:l.ifs.any (fun s=> !Br s.1 s.2)=true:=List.any_eq_true.2 ⟨(p,m),List.mem_of_getElem? g7.out,by simp[hv]⟩;unfold Ci Dp;rw[h1];simp
     have HR:=hI hr;clear hr hv;go_wp2;go_ret;exact⟨by rw[HR.out];rfl,a7⟩
    |true=>
     have HV:=hI hv;clear hv;go_wp2
     go_roundw
     case rel=>exact⟨k+1,by omega,by go_num,(by show _=_;rw[HS.out,List.any_append,a8.out];simp[HV.out]),a7,f0⟩
     case measure=>simp[intOf];omega
   ·obtain rfl:k=l.ifs.length:=by omega
    have f5:l.ifs.any (fun s=> !Br s.1 s.2)=false:=by
     have:=a8.out;rwa[List.take_of_length_le rr]at this
    have i2:=hI f5;clear f5;go_wp2_with fail;clear d0 d1 d2 d3
    go_loopw [4] (fun i wr=>∃k:Nat,k<=l.outs.length/\i= .int .i64 k/\Hid ((l.outs.take k).any (fun x=> !Eb x l.ifs.length)=false)/\Below w.heap.size w wr/\Hid (wr.heap[w.heap.size]? =some (.cells (Bv l a) 34 (0,0)))) (fun i _=>l.outs.length-(intOf i).toNat)
    case atStart=>exact⟨0,Nat.zero_le _,rfl,by simp[Hid],hB,b2⟩
    case round=>
     obtain⟨j,hj,rfl,a3,b8,f2⟩:=hrel;have f1:=b8.size;have d8:=lt_of_block f2.out;obtain⟨d0,d1,d2,d3⟩:=B3 f2.out;by_cases hlt:j<l.outs.length
     ·obtain⟨x,hx⟩:∃x,l.outs[j]? =some x:=⟨l.outs[j],List.getElem?_eq_getElem _⟩;obtain⟨b,off,hA,a6,a5⟩:=(HL.out.2.2.2.1.below b8 rr).at_ Fe.len (by decide) hx;have d5:(j:Int)<(l.outs.length:Int):=by omega
      have a1:=HU.out.2.2.2.2.2 x (List.mem_of_getElem? hx);have HM:=hI a1;clear a1;have HS:=hI (Bb l.outs j x hx);have HX:=hI hx;clear hx;have g0:=a5 0 _ rfl;have g1:=a5 1 _ rfl;have g2:=a5 2 _ rfl;have g3:=a5 3 _ rfl;have g4:=a5 4 _ rfl;have g5:=a5 5 _ rfl;simp only[Nat.add_zero,←Nat.add_assoc]at g0 g1 g2 g3 g4 g5;rw[hA]at d2;clear hA a5;have i7:((j:Int)).toNat=j:=by omega
      go_wp2
      refine Bj (fun W'=>W'.cell? ⟨w.heap.size,16,none⟩=some (.slice (some ⟨b,off,none⟩) l.outs.length a.co)/\W'.cell? ⟨w.heap.size,15,none⟩=some (.slice a.Ai l.ifs.length a.ci)∧
       W'.cell? ⟨b,off+j*6,none⟩=some (.int .i64 x.frm)/\W'.cell? ⟨b,off+j*6+1,none⟩=some (.int .u32 x.clear)/\W'.cell? ⟨b,off+j*6+2,none⟩=some (.int .u32 x.sp)∧
       W'.cell? ⟨b,off+j*6+3,none⟩=some (.int .u32 x.sm)/\W'.cell? ⟨b,off+j*6+4,none⟩=some (.int .u32 x.take)/\W'.cell? ⟨b,off+j*6+5,none⟩=some (.int .i64 x.of_)) (by kernel_rfl) ⟨d2,d1,g0,g1,g2,g3,g4,g5⟩ (fun hHeld=> ?_)
      (refine' Aa 0 rfl ?_;(try simp only[Act.put,nY,nX]));(refine' Aa 1 rfl ?_;(try simp only[Act.put,nY,nX]));(refine' Aa 2 rfl ?_;(try simp only[Act.put,nY,nX]));(refine' Aa 3 rfl ?_;(try simp only[Act.put,nY,nX]));(refine' Aa 4 rfl ?_;(try simp only[Act.put,nY,nX]));(refine' Aa 5 rfl ?_;(try simp only[Act.put,nY,nX]));(refine' Aa 6 rfl ?_;(try simp only[Act.put,nY,nX]));(refine' Aa 7 rfl ?_;(try simp only[Act.put,nY,nX]))
      (refine Aqq 8 rfl (fun K' hK'=> ?_);simp only[nY];go_simp)
      refine(Aj1 x _ _ HM.out.2.1 HM.out.2.2.1).mono ?_;rintro e w5 ⟨rfl,a9⟩;have a0:Below wr.heap.size wr w5:=(Below.refl wr.heap.size wr).drew.trans a9;have a7:=b8.trans (a0.mono f1);have f0:Hid (w5.heap[w.heap.size]? =some (.cells (Bv l a) 34 (0,0))):=(a0.block _ d8).trans f2.out;have f3:=(show _/\_/\_/\_/\_/\_/\_/\_ from⟨(a0.cell (p:=⟨w.heap.size,16,none⟩) d8).trans d2,(a0.cell (p:=⟨w.heap.size,15,none⟩) d8).trans d1,(a0.cell (p:=⟨b,off+j*6,none⟩) a6).trans g0,(a0.cell (p:=⟨b,off+j*6+1,none⟩) a6).trans g1,(a0.cell (p:=⟨b,off+j*6+2,none⟩) a6).trans g2,(a0.cell (p:=⟨b,off+j*6+3,none⟩) a6).trans g3,(a0.cell (p:=⟨b,off+j*6+4,none⟩) a6).trans g4,(a0.cell (p:=⟨b,off+j*6+5,none⟩) a6).trans g5⟩);refine hK' _ _ ⟨.inr f3,fun _=> ?_⟩
      clear hK' K' a9 a0 hHeld f3 g0 g1 g2 g3 g4 g5 d0 d1 d2 d3
      (try simp only[Act.put,nY,nX])
      (refine Aqq 9 rfl (fun K' hK'=> ?_);simp only[nY];go_simp)
      refine hK' _ _ ⟨.inl (by kernel_rfl),fun _=>Be (by kernel_rfl) ?_ _⟩
      clear hK' K'
      cases hv:Eb x l.ifs.length with
      |false=>
       have hr:Ci l=17:=by
        have h1:l.outs.any (fun x=> !Eb x l.ifs.length)=true:=List.any_eq_true.2 ⟨x,List.mem_of_getElem? HX.out,by simp[hv]⟩;unfold Ci Dp;rw[h1];simp
       have HR:=hI hr;clear hr hv;go_wp2;go_ret;exact⟨by rw[HR.out];rfl,a7⟩
      |true=>
       have HV:=hI hv;clear hv;go_wp2
       go_roundw
       case rel=>exact⟨j+1,by omega,by go_num,(by show _=_;rw[HS.out,List.any_append,a3.out];simp[HV.out]),a7,f0⟩
       case measure=>simp[intOf];omega
     ·obtain rfl:j=l.outs.length:=by omega
      have hr:Ci l=0:=by
       have d9:l.outs.any (fun x=> !Eb x l.ifs.length)=false:=by
        have:=a3.out;rwa[List.take_of_length_le rr]at this
       unfold Ci Dp;rw[f8.out,i0.out,g9.out,i2.out,d9];simp[h4,h6,hm1,hm3,f7.out];intro h5 g8;exact f7.out (by rw[h5,g8];rfl)
      have HR:=hI hr;clear hr;go_wp2;go_ret;exact⟨by rw[HR.out];rfl,b8⟩
theorem Agx (l:Bg)(a:Dn)(A:Option Addr)(n c:Nat)(ws:List Snd)(w:World)(hl:Cv w l a)(hw:Ad w A n c ws)(hu:Lb l)(hwu:Bq ws):
  Calls Tryz.prog 207 #[C8 l a, .slice A n c] w fun e w'=>e= .returned (.int .i64 (Cc l ws))/\Below w.heap.size w w':=by
 have HL:=hI hl;clear hl;have HW:=hI hw;clear hw;have HU:=hI hu;clear hu;have a5:=hI hwu;clear hwu;obtain⟨Wb,a8,a4,a9,a1,b0⟩:=De w l a;go_enter Tryz.func207,Tryz.ntmps207;go_wp2_with(refine Cn rfl (.tmp 2) rfl w.heap.size l a rfl a4 ?_);clear a8;refine(Yn l a _ (HL.out.below a1 rr) HU.out).mono ?_;rintro e w1 ⟨rfl,a2⟩;have a0:Below w.heap.size w w1:=a1.trans (a2.mono a1.size);clear a2;by_cases hE:Ci l=0
 ·have a6:(Ci l !=0)=false:=by simpa using hE
  have hr:Cc l ws=Bs ws:=by unfold Cc;rw[if_pos hE]
  have HR:=hI hr;clear hr hE;go_wp2_with fail;refine(Nl A n c ws w1 (HW.out.below a0 rr) a5.out).mono ?_;rintro e w2 ⟨rfl,a3⟩;have a7:=a0.trans (a3.mono a0.size);clear a3;go_wp2;go_ret;exact⟨by rw[HR.out];rfl,a7⟩
 ·have a6:(Ci l !=0)=true:=by simpa using hE
  have hr:Cc l ws=Ci l:=by unfold Cc;rw[if_neg hE]
  have HR:=hI hr;clear hr hE;go_wp2;go_ret;exact⟨by rw[HR.out];rfl,a0⟩
end Go.Proofs.YtlgliddhideflaaGreatDoor
namespace Go.Proofs.YtlgliddhideflaaGreatDoor
open Go.RowKit Go.Shelf
attribute [local go_sem] Oper.semAt_some
theorem Al1 (x:BitVec 32):U32 ((x.toNat:Nat):Int):=⟨by omega,by have:=x.isLt;omega⟩
theorem Zx (s f set:Int):U32 (E8 s f set):=by unfold E8;rw[Jl];exact Al1 _
theorem Yo:U32 0:=⟨by omega,by omega⟩
theorem Yp (s:Snd)(c:Int)(t:Snd):Wd (Dx s c t):=by
 unfold Dx;split
 ·exact⟨Zx _ _ _,Zx _ _ _⟩
 ·exact⟨Yo,Yo⟩
theorem Al2 (s t:Snd)(m:Int):Wd (Gq s t m):=by
 unfold Gq;split
 ·exact⟨Zx _ _ _,Zx _ _ _⟩
 ·exact⟨Yo,Yo⟩
theorem Anp (cut:List Snd)(x:Fe):Wd (Mc cut x):=by
 unfold Mc;dsimp only;split
 ·exact Al2 _ _ _
 ·exact Yp _ _ _
theorem Aj2 (l:Bg)(cut:List Snd):Bq (Hc l cut):=by
 intro s hs;obtain⟨x,_,rfl⟩:=List.mem_map.1 hs;exact Anp cut x
theorem Bq.take {ws:List Snd}(h:Bq ws)(k:Nat):Bq (ws.take k):=fun s hs=>h s (List.mem_of_mem_take hs)
theorem Bq.drop {ws:List Snd}(h:Bq ws)(k:Nat):Bq (ws.drop k):=fun s hs=>h s (List.mem_of_mem_drop hs)
theorem Bq.append {a b:List Snd}(h:Bq a)(h':Bq b):Bq (a++b):=fun s hs=>(List.mem_append.1 hs).elim (h s) (h' s)
theorem Hu {l:Bg}{ws:List Snd}{at_:Nat}(hw:Bq ws):Bq (Bf l ws at_):=by
 unfold Bf;exact((hw.take _).append (Aj2 l _)).append (hw.drop _)
theorem Aj3 {x:Int}(hu:U32 x)(h:∀i,24<=i->(bv x).getLsbD i=false):x<=16777215:=by
 have:=(Zv hu).2 h;omega
theorem Ab5 {x:Fe}{k:Int}(h:Eb x k=true)(hu:Al0 x):Br x.sp x.sm=true/\x.clear<=16777215/\bits .and .u32 x.clear (bits .or .u32 x.sp x.sm)=0/\x.take<=16777215:=by
 obtain⟨h1,h2,h3⟩:=Ww h;refine⟨(Di _ _).2 h1,Aj3 hu.1 h2, ?_,Aj3 hu.2.2.2 h3⟩;unfold Eb at h;split at h
 ·cases h
 ·split at h
  ·cases h
  ·rename_i h2
   simp only[Bool.or_eq_true,not_or,bne_iff_ne,ne_eq,Decidable.not_not]at h2;exact h2.1.2
theorem Afb (l:Bg)(a:Dn)(A:Option Addr)(c:Nat)(cut:List Snd)(w:World)(hl:Cv w l a)(hw:Ad w A l.ifs.length c cut)(hfit:∀x∈l.outs,Eb x l.ifs.length=true)(hm:l.outs.length<=64)(hu:Lb l)(hcu:Bq cut)(hco:OkW cut):
  Calls Tryz.prog 238 #[C8 l a, .slice A l.ifs.length c] w (Er w (Hc l cut)):=by
 have o9:=hw.max;have k2:=hw.len;have q7:=hI k2;clear k2;have HL:=hI hl;clear hl;have HW:=hI hw;clear hw;have HF:=hI hfit;clear hfit;have m4:=hI hu.2.2.2.2.2;clear hu;have g7:=hI hcu;clear hcu;have i7:=hI hco;clear hco;obtain⟨Wb,o5,i2,o2,d6,p0⟩:=De w l a;obtain⟨d0,d1,d2,d3⟩:=B3 i2;obtain⟨Ao,f4⟩:∃Ao,Ao=a.Ao:=⟨_,rfl⟩;have k8:=hI f4;rw[←f4]at d2;have j4:Gz Fe.cells 6 w Ao l.outs.length a.co l.outs:=by rw[f4];exact HL.out.2.2.2.1
 have o1:=hI j4;clear f4 j4;go_enter Tryz.func238,Tryz.ntmps238;go_wp2;clear o5 d0 d1 d2 d3;have o4:=hI i2;clear i2;have j1:Hid (Ad Wb A l.ifs.length c cut):=HW.out.below d6 rr;have i6:Hid (Gz Fe.cells 6 Wb Ao l.outs.length a.co l.outs):=o1.out.below d6 rr;have m7:=hI o2
 go_loopw [5,6] (fun v i wr=>∃j:Nat,i= .int .i64 j/\j<=l.outs.length/\Hid (wr.ownsRow Wb.heap.size 24 2 v j (Bl ((l.outs.take j).map (Mc cut))))/\Below Wb.heap.size Wb wr) (fun _ i _=>l.outs.length-(intOf i).toNat)
 case atStart=>exact⟨0,rfl,Nat.zero_le _,World.ownsRow_nil _ _ _ _,Below.refl _ _⟩
 case round=>
  obtain⟨j,rfl,hj,a0,hB⟩:=hrel;have q5:=hB.size;have j9:=(hB.block _ m7.out).trans o4.out;obtain⟨d0,d1,d2,d3⟩:=B3 j9;rw[←k8.out]at d2;clear j9 d0 d1 d3;have m0:l.outs.length<=64:=hm;by_cases hjl:j<l.outs.length
  ·obtain⟨x,hx⟩:∃x,l.outs[j]? =some x:=⟨l.outs[j],List.getElem?_eq_getElem _⟩;obtain⟨b,off,rfl,p6,b0⟩:=(i6.out.below hB rr).at_ Fe.len (by decide) hx;obtain⟨a3,i8⟩:=Tn (HF.out x (List.mem_of_getElem? hx));have i5:=m4.out x (List.mem_of_getElem? hx);have f7:=hI i5;have f8:=hI (Ab5 (HF.out x (List.mem_of_getElem? hx)) i5);have j5:=hI (Ww (HF.out x (List.mem_of_getElem? hx)));clear i5;have k7:(j:Int)<(l.outs.length:Int):=by omega
   have g0:=b0 0 _ rfl;have g1:=b0 1 _ rfl;have g2:=b0 2 _ rfl;have g3:=b0 3 _ rfl;have g4:=b0 4 _ rfl;have g5:=b0 5 _ rfl;simp only[Nat.add_zero,←Nat.add_assoc]at g0 g1 g2 g3 g4 g5;have HX:=hI hx;have f3:=hI i8;clear b0 hx i8;obtain⟨s0,b3⟩:∃s0:Snd,s0=if 0<=x.frm then cut.getD x.frm.toNat (0,0)else(0,0):=⟨_,rfl⟩
   have d8:Ad wr A l.ifs.length c cut:=j1.out.below hB rr;have o6:=hI d8;clear d8;obtain⟨fr,i0⟩:∃fr,fr=x.frm:=⟨_,rfl⟩;have k4:=hI b3.symm;rw[←i0]at g0 a3 b3;have k6:=hI i0;clear i0;by_cases h0:0<=fr
   case' pos=>
    obtain⟨f,rfl⟩:∃f:Nat,fr=f:=⟨fr.toNat,by omega⟩;obtain⟨bw,ow,p,q,m2,o8,f1,p4,q6⟩:=o6.out.at_ (k:=f) (by omega);have b8:s0=(p,q):=by rw[b3,if_pos h0,Int.toNat_natCast,D4 f1]
    have g8:=hI b8;have f9:Hid (Wd (p,q)):=g7.out _ (List.mem_of_getElem? f1);have a9:Hid (OkS (p,q)):=i7.out _ (List.mem_of_getElem? f1);have o3:(f:Int)<(l.ifs.length:Int):=by omega
    subst m2;clear h0 a3 b3 b8 f1
   case' neg=>
    have b8:s0=(0,0):=by rw[b3,if_neg h0]
    have g8:=hI b8;have f9:Hid (Wd ((0,0):Snd)):=⟨Yo,Yo⟩;have a9:Hid (OkS ((0,0):Snd)):=Akv;have o3:fr<0:=by omega
    clear h0 a3 b3 b8
   all_goals
    go_wp2_with fail;refine(Ad0 _ _ x.clear x.sp x.sm _ f9.out.1 f9.out.2 f7.out.2.1 f7.out.2.2.1 f7.out.1 ((Di _ _).2 a9.out) f8.out.1 f8.out.2.1 f8.out.2.2.1).mono ?_;rintro e w1 ⟨er,rfl,a3⟩;have m8:=a3.size;simp only[World.size_alloc]at m8;rw[←g8.out];have f2:=(a3.block wr.heap.size (by simp;omega)).trans ((Am (by simp)).trans (Ak rfl));have b1:=(a3.block (wr.heap.size+1) (by simp)).trans (Ak (by simp));have b2:Below Wb.heap.size Wb w1:=((hB.alloc hB.size _).alloc (by simp;omega) _).trans (a3.mono (by simp;omega));have a8:=Gn ((a0.out.alloc _).alloc _) a3 rr;obtain⟨⟨p1,q1⟩,d4⟩:∃s:Snd,s=Dx s0 x.clear (x.sp,x.sm):=⟨_,rfl⟩;rw[←d4];have i9:Hid (Wd (p1,q1)):=by show Wd _;rw[d4];exact Yp _ _ _
    have k9:Hid (OkS (p1,q1)):=by show OkS _;rw[d4,g8.out];exact Wv a9.out j5.out.1 j5.out.2.1
    have j0:=hI d4;clear d4;have e3:=Ab (j:=4) f2 rfl;have e4:=Ab (j:=5) f2 rfl;have e5:=Ab (j:=0) b1 rfl;have e6:=Ab (j:=1) b1 rfl;have f5:=frozen_of_row w1 (wr.heap.size+1) 0 _ _ b1;have f6:=frozen_of_row w1 (wr.heap.size+1) 1 _ _ b1;have p8:=hI f2;clear f2;have m5:=hI b1;clear b1;have a5:=hI a8;clear a8 a3;clear g0 g1 g2 g3 g4 g5
   all_goals
    by_cases ht:x.take=0
    case' neg=>
     obtain⟨m1,m9⟩:=f3.out ht;have m6:(x.take !=0)=true:=by simpa using ht
     obtain⟨g,hg⟩:∃g:Nat,g=x.of_.toNat:=⟨_,rfl⟩;have j8:x.of_=(g:Int):=by omega
     have HG:=hI hg;clear hg;rw[j8]at e4 m9;obtain⟨bo,oo,p2,q2,k3,b7,b4,j6,j2⟩:=j1.out.at_ (k:=g) (by omega)
     first|subst k3|(obtain⟨rfl,rfl⟩:bo=bw/\oo=ow:=by simpa using k3.symm)
     have a4:=hI b4;clear b4 j8 m1;have v0:=(b2.cell (p:=⟨bo,oo+g*2,none⟩) b7).trans j6;have v1:=(b2.cell (p:=⟨bo,oo+g*2+1,none⟩) b7).trans j2;clear j6 j2;have q4:(g:Int)<(l.ifs.length:Int):=by omega
     have p9:((g:Int)).toNat=g:=by omega
     go_wp2;have i3:=b2.size
     have y0:((w1.setCell ⟨wr.heap.size+1,0,none⟩ (.int .u32 p1)).setCell ⟨wr.heap.size+1,1,none⟩ (.int .u32 q1)).heap[wr.heap.size+1]? =some (.cells #[.int .u32 p1, .int .u32 q1] 24 (0,0)):=by
      have h:=Bk (o:=1) (u:= .int .u32 q1) (Bk (o:=0) (u:= .int .u32 p1) m5.out);exact h
     have a7:=ownsRow_setCell_other (ownsRow_setCell_other a5.out (a:=⟨wr.heap.size+1,0,none⟩) (fun e=>by have h:wr.heap.size+1<wr.heap.size:=(a0.out.lt _ e).2;omega) (.int .u32 p1)) (a:=⟨wr.heap.size+1,1,none⟩) (fun e=>by have h:wr.heap.size+1<wr.heap.size:=(a0.out.lt _ e).2;omega) (.int .u32 q1);have k1:Below Wb.heap.size Wb ((w1.setCell ⟨wr.heap.size+1,0,none⟩ (.int .u32 p1)).setCell ⟨wr.heap.size+1,1,none⟩ (.int .u32 q1)):=(b2.setCell (p:=⟨wr.heap.size+1,0,none⟩) (by simp;omega) _).setCell (p:=⟨wr.heap.size+1,1,none⟩) (by simp;omega) _;have y1:((w1.setCell ⟨wr.heap.size+1,0,none⟩ (.int .u32 p1)).setCell ⟨wr.heap.size+1,1,none⟩ (.int .u32 q1)).heap[wr.heap.size]? =w1.heap[wr.heap.size]? :=(Below.heap_setCell _ _ _ _ (by simp)).trans (Below.heap_setCell _ _ _ _ (by simp));have z3:=(World.cell?_of_block (a:=⟨wr.heap.size,4,none⟩) y1).trans e3;have z4:=(World.cell?_of_block (a:=⟨wr.heap.size,5,none⟩) y1).trans e4;have z0:((w1.setCell ⟨wr.heap.size+1,0,none⟩ (.int .u32 p1)).setCell ⟨wr.heap.size+1,1,none⟩ (.int .u32 q1)).cell? ⟨bo,oo+g*2,none⟩=some (.int .u32 p2):=by rw[Cb (by omega),Cb (by omega)];exact v0
     have z1:((w1.setCell ⟨wr.heap.size+1,0,none⟩ (.int .u32 p1)).setCell ⟨wr.heap.size+1,1,none⟩ (.int .u32 q1)).cell? ⟨bo,oo+g*2+1,none⟩=some (.int .u32 q2):=by rw[Cb (by omega),Cb (by omega)];exact v1
     have k0:((w1.setCell ⟨wr.heap.size+1,0,none⟩ (.int .u32 p1)).setCell ⟨wr.heap.size+1,1,none⟩ (.int .u32 q1)).heap.size=w1.heap.size:=by simp
     generalize((w1.setCell ⟨wr.heap.size+1,0,none⟩ (.int .u32 p1)).setCell ⟨wr.heap.size+1,1,none⟩ (.int .u32 q1))=U at*;have z5:=Ab (j:=0) y0 rfl;have z6:=Ab (j:=1) y0 rfl;have j3:=hI y0;clear y0;have q0:=hI k0;clear k0;have d5:=hI a7;clear a7;have f3:=hI k1;clear k1;clear y1 e3 e4 e5 e6 f5 f6 v0 v1
     refine La 8 (fun W'=>W'.cell? ⟨bo,oo+g*2,none⟩=some (.int .u32 p2)/\W'.cell? ⟨bo,oo+g*2+1,none⟩=some (.int .u32 q2)/\W'.cell? ⟨wr.heap.size,4,none⟩=some (.int .u32 x.take)/\W'.cell? ⟨wr.heap.size,5,none⟩=some (.int .i64 g)∧
      W'.cell? ⟨wr.heap.size+1,0,none⟩=some (.int .u32 p1)/\W'.cell? ⟨wr.heap.size+1,1,none⟩=some (.int .u32 q1)) (by kernel_rfl) ⟨z0,z1,z3,z4,z5,z6⟩ (fun hHeld=> ?_)
     (refine' Ca (i:=0) 8 (v:=_) rfl (by kernel_rfl) (by kernel_rfl) (by kernel_rfl) (by kernel_rfl) (fun _ _ _ h=>h) (Or.inl ⟨by rfl,fun w' hSw=>by(try dsimp only at hSw);go_split_ands;go_simp;(try with_reducible rfl)⟩) (by assumption) ?_;(try simp only[Act.put,nY,nX]));(refine' Ca (i:=1) 4 (v:=_) rfl (by kernel_rfl) (by kernel_rfl) (by kernel_rfl) (by kernel_rfl) (fun _ _ _ h=>h) (Or.inl ⟨by rfl,fun w' hSw=>by(try dsimp only at hSw);go_split_ands;go_simp;(try with_reducible rfl)⟩) (by assumption) ?_;(try simp only[Act.put,nY,nX]));(refine' Ca (i:=2) 3 (v:=_) rfl (by kernel_rfl) (by kernel_rfl) (by kernel_rfl) (by kernel_rfl) (fun _ _ _ h=>h) (Or.inl ⟨by rfl,fun w' hSw=>by(try dsimp only at hSw);go_split_ands;go_simp;(try with_reducible rfl)⟩) (by assumption) ?_;(try simp only[Act.put,nY,nX]));(refine' Ca (i:=3) 4 (v:=_) rfl (by kernel_rfl) (by kernel_rfl) (by kernel_rfl) (by kernel_rfl) (fun _ _ _ h=>h) (Or.inl ⟨by rfl,fun w' hSw=>by(try dsimp only at hSw);go_split_ands;go_simp;(try with_reducible rfl)⟩) (by assumption) ?_;(try simp only[Act.put,nY,nX]));(refine' Ca (i:=4) 5 (v:=_) rfl (by kernel_rfl) (by kernel_rfl) (by kernel_rfl) (by kernel_rfl) (fun _ _ _ h=>h) (Or.inl ⟨by rfl,fun w' hSw=>by(try dsimp only at hSw);go_split_ands;go_simp;(try with_reducible rfl)⟩) (by assumption) ?_;(try simp only[Act.put,nY,nX]));(refine' Ca (i:=5) 8 (v:=_) rfl (by kernel_rfl) (by kernel_rfl) (by kernel_rfl) (by kernel_rfl) (fun _ _ _ h=>h) (Or.inl ⟨by rfl,fun w' hSw=>by(try dsimp only at hSw);go_split_ands;go_simp;(try with_reducible rfl)⟩) (by assumption) ?_;(try simp only[Act.put,nY,nX]));(refine' Ca (i:=6) 7 (v:=_) rfl (by kernel_rfl) (by kernel_rfl) (by kernel_rfl) (by kernel_rfl) (fun _ _ _ h=>h) (Or.inl ⟨by rfl,fun w' hSw=>by(try dsimp only at hSw);go_split_ands;go_simp;(try with_reducible rfl)⟩) (by assumption) ?_;(try simp only[Act.put,nY,nX]));(refine' Ca (i:=7) 8 (v:=_) rfl (by kernel_rfl) (by kernel_rfl) (by kernel_rfl) (by kernel_rfl) (fun _ _ _ h=>h) (Or.inl ⟨by rfl,fun w' hSw=>by(try dsimp only at hSw);go_split_ands;go_simp;(try with_reducible rfl)⟩) (by assumption) ?_;(try simp only[Act.put,nY,nX]))
     (refine E5 (i:=8) (by kernel_rfl) rfl (fun K' hK'=> ?_);simp only[nY];go_simp)
     refine(Ajp p1 q1 p2 q2 x.take _ i9.out.1 i9.out.2 (g7.out _ (List.mem_of_getElem? a4.out)).1 (g7.out _ (List.mem_of_getElem? a4.out)).2 f7.out.2.2.2 ((Di _ _).2 k9.out) ((Di _ _).2 (i7.out _ (List.mem_of_getElem? a4.out))) f8.out.2.2.2).mono ?_;rintro e w3 ⟨p7,rfl,d7⟩;have p5:=d7.size;have o0:U.drew.heap.size=U.heap.size:=rfl;obtain⟨⟨p3,q3⟩,i4⟩:∃s:Snd,s=Gq (p1,q1) (p2,q2) x.take:=⟨_,rfl⟩;rw[←i4]
     have f0:Mc cut x=(p3,q3):=by
      unfold Mc;have e1:=k6.out;have e2:(if 0<=x.frm then cut.getD x.frm.toNat (0,0)else(0,0))=s0:=k4.out;simp only[e2,←j0.out];rw[if_pos ht,i4,←HG.out,D4 a4.out]
     have g9:=hI f0;clear f0 i4;have j7:Below Wb.heap.size Wb w3:=f3.out.drew.trans (d7.mono f3.out.size);have a6:=Gn (w:=U.drew) d5.out d7 rr;have y3:w3.heap[wr.heap.size+1]? =some (.cells #[.int .u32 p1, .int .u32 q1] 24 (0,0)):=(d7.block _ (lt_of_block j3.out)).trans j3.out;refine hK' _ _ ⟨.inl (by kernel_rfl),fun _=>Gh _ _ _ _ (by kernel_rfl) ?_⟩
     clear hK' K' d7 o0 hHeld;have f5:=frozen_of_row w3 (wr.heap.size+1) 0 _ _ y3;have f6:=frozen_of_row w3 (wr.heap.size+1) 1 _ _ y3;have c5:=Ab (j:=0) y3 rfl;have c6:=Ab (j:=1) y3 rfl;have Y3:=hI y3;clear y3;have k5:=hI j7;clear j7;have b6:=hI a6;clear a6
     (try simp only[Act.put,nY,nX])
     (refine' Gc (i:=9) (v:=_) rfl (by kernel_rfl) (by kernel_rfl) (by kernel_rfl) (fun _ _ _ h=>h) (Or.inl ⟨by rfl,fun w' hSw=>by go_simp;(try with_reducible rfl)⟩) ?_;(try simp only[Act.put,nY,nX]));(refine' Gc (i:=10) (v:=_) rfl (by kernel_rfl) (by kernel_rfl) (by kernel_rfl) (fun _ _ _ h=>h) (Or.inl ⟨by rfl,fun w' hSw=>by go_simp;(try with_reducible rfl)⟩) ?_;(try simp only[Act.put,nY,nX]));(refine' Gc (i:=11) (v:=_) rfl (by kernel_rfl) (by kernel_rfl) (by kernel_rfl) (fun _ _ _ h=>h) (Or.inl ⟨by rfl,fun w' hSw=>by go_simp;(try with_reducible rfl)⟩) ?_;(try simp only[Act.put,nY,nX]))
     (refine Aqq 12 rfl (fun K' hK'=> ?_);simp only[nY];go_simp)
     refine hK' _ _ ⟨.inl (by kernel_rfl),fun _=>Be (by kernel_rfl) ?_ _⟩
     clear hK' K'
     have t0:((w3.setCell ⟨wr.heap.size+1,0,none⟩ (.int .u32 p3)).setCell ⟨wr.heap.size+1,1,none⟩ (.int .u32 q3)).heap[wr.heap.size+1]? =some (.cells #[.int .u32 p3, .int .u32 q3] 24 (0,0)):=by
      have h:=Bk (o:=1) (u:= .int .u32 q3) (Bk (o:=0) (u:= .int .u32 p3) Y3.out);exact h
     have town:=ownsRow_setCell_other (ownsRow_setCell_other b6.out (a:=⟨wr.heap.size+1,0,none⟩) (fun e=>by have h:wr.heap.size+1<wr.heap.size:=(a0.out.lt _ e).2;omega) (.int .u32 p3)) (a:=⟨wr.heap.size+1,1,none⟩) (fun e=>by have h:wr.heap.size+1<wr.heap.size:=(a0.out.lt _ e).2;omega) (.int .u32 q3);have tB:Below Wb.heap.size Wb ((w3.setCell ⟨wr.heap.size+1,0,none⟩ (.int .u32 p3)).setCell ⟨wr.heap.size+1,1,none⟩ (.int .u32 q3)):=(k5.out.setCell (p:=⟨wr.heap.size+1,0,none⟩) (by simp;omega) _).setCell (p:=⟨wr.heap.size+1,1,none⟩) (by simp;omega) _;generalize((w3.setCell ⟨wr.heap.size+1,0,none⟩ (.int .u32 p3)).setCell ⟨wr.heap.size+1,1,none⟩ (.int .u32 q3))=w4 at*;have t1:=Ab (j:=0) t0 rfl;have t2:=Ab (j:=1) t0 rfl;have o7:=hI t0;clear t0;have TOWN:=hI town;clear town;have TB:=hI tB;clear tB;have m3:Wb.heap.size<=w4.heap.size:=by have:=lt_of_block o7.out;omega
     have g6:Wb.heap.size<=w4.heap.size:=TB.out.size;go_wp2_with(at_builtin;refine Cs rfl (.tmp 54) (.tmp 56) rfl Wb.heap.size u5 j ((l.outs.take j).map (Mc cut)) rfl (TOWN.out.alloc _) (some ⟨w4.heap.size,0,none⟩) 1 1 [(p3,q3)] rfl (E3 w4 p3 q3 24) (by omega) (by simp;omega) ?_;intro v' w9 a1 b5 _);have b9:∀k,u5.ownBlock=some k->Wb.heap.size<=k:=fun k hk=>by have:=(a0.out.lt _ hk).1;omega
     have d9:Below Wb.heap.size Wb w9:=(TB.out.alloc g6 _).grown b5 (by simp;omega) b9;have a2:=hI a1;have i1:=hI d9;clear a1 b5 d9 b9
     go_roundw
     case rel=>
      refine⟨j+1,by go_num,by omega, ?_,i1.out⟩;show w9.ownsRow _ _ _ _ _ _;rw[Bb l.outs j x HX.out,List.map_append,List.map_cons,List.map_nil,g9.out];have h9:=a2.out
      try rw[←List.map_take]at h9
      exact h9
     case measure=>simp[intOf];omega
    case' pos=>
     have m6:(x.take !=0)=false:=by rw[ht];rfl
     have f0:Mc cut x=(p1,q1):=by
      unfold Mc;have e2:(if 0<=x.frm then cut.getD x.frm.toNat (0,0)else(0,0))=s0:=k4.out;simp only[e2,←j0.out];rw[if_neg (by simpa using ht)]
     have g9:=hI f0;clear f0;have i3:=b2.size;have town:=ownsRow_setCell_other (ownsRow_setCell_other a5.out (a:=⟨wr.heap.size+1,0,none⟩) (fun e=>by have h:wr.heap.size+1<wr.heap.size:=(a0.out.lt _ e).2;omega) (.int .u32 p1)) (a:=⟨wr.heap.size+1,1,none⟩) (fun e=>by have h:wr.heap.size+1<wr.heap.size:=(a0.out.lt _ e).2;omega) (.int .u32 q1);have tB:Below Wb.heap.size Wb ((w1.setCell ⟨wr.heap.size+1,0,none⟩ (.int .u32 p1)).setCell ⟨wr.heap.size+1,1,none⟩ (.int .u32 q1)):=(b2.setCell (p:=⟨wr.heap.size+1,0,none⟩) (by simp;omega) _).setCell (p:=⟨wr.heap.size+1,1,none⟩) (by simp;omega) _;have TOWN:=hI town;clear town;have TB:=hI tB;clear tB;have m3:Wb.heap.size<=w1.heap.size:=by omega
     have tone:=E3 ((w1.setCell ⟨wr.heap.size+1,0,none⟩ (.int .u32 p1)).setCell ⟨wr.heap.size+1,1,none⟩ (.int .u32 q1)) p1 q1 24;rw[show((w1.setCell ⟨wr.heap.size+1,0,none⟩ (.int .u32 p1)).setCell ⟨wr.heap.size+1,1,none⟩ (.int .u32 q1)).heap.size=w1.heap.size by simp]at tone;have TONE:=hI tone;clear tone;go_wp2_with(at_builtin;refine Cs rfl (.tmp 54) (.tmp 56) rfl Wb.heap.size u5 j ((l.outs.take j).map (Mc cut)) rfl (TOWN.out.alloc _) (some ⟨w1.heap.size,0,none⟩) 1 1 [(p1,q1)] rfl TONE.out (by omega) (by simp;omega) ?_;intro v' w9 a1 b5 _);have b9:∀k,u5.ownBlock=some k->Wb.heap.size<=k:=fun k hk=>by have:=(a0.out.lt _ hk).1;omega
     have d9:Below Wb.heap.size Wb w9:=(TB.out.alloc (by simp;omega) _).grown b5 (by simp;omega) b9;have a2:=hI a1;have i1:=hI d9;clear a1 b5 d9 b9
     go_roundw
     case rel=>
      refine⟨j+1,by go_num,by omega, ?_,i1.out⟩;show w9.ownsRow _ _ _ _ _ _;rw[Bb l.outs j x HX.out,List.map_append,List.map_cons,List.map_nil,g9.out];have h9:=a2.out
      try rw[←List.map_take]at h9
      exact h9
     case measure=>simp[intOf];omega
  ·obtain rfl:j=l.outs.length:=by omega
   go_wp2;go_ret;have h2:l.outs.take l.outs.length=l.outs:=List.take_of_length_le rr;have h3:=a0.out;rw[h2]at h3;exact Er.of_own rfl h3 (d6.trans (hB.mono d6.size)) d6.size
end Go.Proofs.YtlgliddhideflaaGreatDoor
namespace Go.Proofs.YtlgliddhideflaaGreatDoor
open Go.RowKit Go.Shelf
attribute [local go_sem] Oper.semAt_some
theorem Um {o:Oper}{a:Act}{K:Act->World->Prop}{Q:Exit->Act->World->Prop}(w:World)(s x:Operand)
  (ho:o.op= .call {callee:= .builtin .append,args:= #[s,x],argTypes:= #[32,32]})
  (base:Nat) (v:Value) (n:Nat) (xs:List Snd) (hs:a.eval s=v) (hown:w.ownsRow base 24 2 v n (Bl xs))
  (A:Option Addr) (m c:Nat) (ys:List Snd) (hx:a.eval x= .slice A m c) (hr:Ad w A m c ys) (hl:n+m<=4096) (hbase:base<=w.heap.size)
  (h:∀v' w',w'.ownsRow base 24 2 v' (n+m) (Bl (xs++ys))->w.grownBy w' v.ownBlock->(v'= .slice none 0 0↔v= .slice none 0 0/\m=0)→
   K (a.put o.dst v') w'):o.wp Tryz.prog a w K Q:=by
 obtain⟨i0,hi,a2,a1,a0⟩:=info_parts Lh
 refine Mn w s x 32 ho base 24 i0 _ 2 8 Tryz.underlying32 hi a2 a1 a0 rfl (by decide) v n (Bl xs) hs hown A m c (Bl ys) hx hr
  (Lz ys) (by unfold maxLen;omega) (by omega) hbase ?_
 rw[←Fx];exact h
theorem Tq (l:Bg)(a:Dn)(A:Option Addr)(n c:Nat)(ws:List Snd)(at_:Nat)(w:World)(hl:Cv w l a)(hw:Ad w A n c ws)(hfit:∀x∈l.outs,Eb x l.ifs.length=true)(hm:l.outs.length<=64)
  (hat:at_+l.ifs.length<=n) (hn:n<=4000) (hu:Lb l) (hwu:Bq ws) (hwo:OkW ws):
  Calls Tryz.prog 239 #[C8 l a, .slice A n c, .int .i64 at_] w (Er w (Bf l ws at_)):=by
 have i0:n<=c:=hw.2.1;have f1:c<=9223372036854775807:=by have:=hw.2.2.1;unfold maxLen at this;omega
 have HL:=hI hl;clear hl;have HW:=hI hw;clear hw;have HU:=hI hu;clear hu;have f8:=hI hwu;clear hwu;have f7:=hI hwo;clear hwo;obtain⟨Wb,g1,b4,f6,b0,g3⟩:=De w l a;obtain⟨d0,d1,d2,d3⟩:=B3 b4;have f4:(0:Int)<=(at_:Int):=by omega
 have d6:(at_:Int)<=(c:Int):=by omega
 go_enter Tryz.func239,Tryz.ntmps239;have f3:=hI b4;clear b4;go_wp2_with(at_builtin;refine Cs rfl (.tmp 12) (.tmp 15) rfl Wb.heap.size (.slice (some ⟨Wb.heap.size,0,none⟩) 0 0) 0 [] rfl (World.ownsRow_lit Wb #[] 0 rr (by unfold maxLen;omega) rfl) A at_ c (ws.take at_) rfl (Ad.take (HW.out.below (b0.alloc b0.size _) rr) (show at_<=n by omega)) (by omega) (by simp) ?_;intro v1 w1 a6 b1 _);clear g1 d0 d1 d2 d3;have b3:Below w.heap.size w w1:=(b0.alloc b0.size _).grown b1 (by simp;omega) (fun k hk=>by have h:Wb.heap.size=k:=(by simpa[Value.ownBlock]using hk);omega);have b6:w1.heap[w.heap.size]? =some (.cells (Bv l a) 34 (0,0)):=(b1.block w.heap.size (by simp;omega) (by simp[Value.ownBlock];omega)).trans ((Am f6).trans f3.out);have i1:Wb.heap.size<=w1.heap.size:=by have:=b1.size;simp at this;omega
 have a9:=hI a6;clear a6 b1;clear f4 d6;go_wp2;have g8:(0:Int)<=(at_:Int):=by omega
 have d6:(at_:Int)<=(c:Int):=by omega
 have g5:(at_:Int)<=(at_:Int)+(l.ifs.length:Int):=by omega
 have g6:(at_:Int)+(l.ifs.length:Int)<=(c:Int):=by omega
 have g2:(at_:Int)+(l.ifs.length:Int)<=(n:Int):=by omega
 have g4:((at_:Int)+(l.ifs.length:Int)).toNat=at_+l.ifs.length:=by omega
 have g7:(0:Int)<=(at_:Int)+(l.ifs.length:Int):=by omega
 have f5:=lt_of_block b6;have i2:IntKind.i64.wrap ((at_:Int)+(l.ifs.length:Int))=(at_:Int)+(l.ifs.length:Int):=IntWalk.i64_in _ (by omega);refine Bj (fun W'=>W'.heap[w.heap.size]? =some (.cells (Bv l a) 34 (0,0))) (by kernel_rfl) b6 (fun hHeld=> ?_)
 (refine' Aa 0 rfl ?_;(try simp only[Act.put,nY,nX]))
 (refine' Ct (i:=1) (v:=C8 l a) rfl (by kernel_rfl) (by kernel_rfl) (by kernel_rfl) (by kernel_rfl) (fun _ _ _ h=>h) (Ga (by rfl) (.tmp 3) rfl (w.heap.size) l a (by rfl) (fun w' hSw=>by(try dsimp only at hSw);first|exact hSw|exact hSw.1)) (by assumption) ?_;(try simp only[Act.put,nY,nX]))
 (refine' Aa 2 rfl ?_;(try simp only[Act.put,nY,nX]));(refine' Aa 3 rfl ?_;(try simp only[Act.put,nY,nX]));(refine' Aa 4 rfl ?_;(try simp only[Act.put,nY,nX]));(refine' Aa 5 rfl ?_;(try simp only[Act.put,nY,nX]));(refine' Aa 6 rfl ?_;(try simp only[Act.put,nY,nX]));(refine' Aa 7 rfl ?_;(try simp only[Act.put,nY,nX]))
 (refine Aqq 8 rfl (fun K' hK'=> ?_);simp only[nY];go_simp)
 have a2:Below w.heap.size w w1.drew:=b3.drew;have hcut:Ad w1.drew (if c=at_ then A else A.map (·.add (at_*2))) l.ifs.length (c-at_) ((ws.drop at_).take l.ifs.length):=Ad.take ((HW.out.below (B:=w.heap.size) a2 rr).drop (by omega)) (by omega);refine(Afb l a _ _ _ _ (HL.out.below (B:=w.heap.size) a2 rr) hcut hfit hm HU.out ((f8.out.drop _).take _) ((f7.out.drop _).take _)).mono ?_;rintro e w2 ⟨A2,n2,c2,rfl,d4,a8,_⟩;have g9:w1.heap.size<=w2.heap.size:=a8.size;have b7:Below w.heap.size w w2:=a2.trans (a8.mono b3.size);have b9:=(a8.block w.heap.size f5).trans hHeld;have a3:=Gn (w:=w1.drew) a9.out a8 rr;have d7:=hI b7;clear b7 a8 a2 hcut b3;have b8:=hI d4;clear d4;have a0:=hI a3;clear a3;refine hK' _ _ ⟨.inr b9,fun _=> ?_⟩
 clear hK' K' hHeld b6
 (try simp only[Act.put,nY,nX])
 refine Aqq 9 rfl (fun K' hK'=> ?_);rw[if_pos (by rfl)];have a1:(Hc l ((ws.drop at_).take l.ifs.length)).length=l.outs.length:=by simp[Hc]
 have d5:n2=l.outs.length:=by rw[←a1];exact b8.out.len.symm
 refine Um w2 (.tmp 17) (.tmp 25) rfl Wb.heap.size v1 (0+at_) _ (by rfl) a0.out A2 n2 c2 _ (by rfl) b8.out (by omega) (by omega) ?_;intro v3 w3 a5 b2 _;have b5:Below w.heap.size w w3:=d7.out.grown b2 d7.out.size (fun k hk=>by have:=(a0.out.lt k hk).1;omega);have f0:=(b2.block w.heap.size (by omega) (fun e=>by have:=(a0.out.lt _ e.symm).1;omega)).trans b9;have i3:=b2.size;refine hK' _ _ ⟨.inr f0,fun _=> ?_⟩
 clear hK' K' b2;have a4:=hI a5;clear a5
 (try simp only[Act.put,nY,nX])
 (refine Aqq 10 rfl (fun K' hK'=> ?_);simp only[nY];go_simp)
 refine hK' _ _ ⟨.inl (by kernel_rfl),fun _=>Be (by kernel_rfl) ?_ _⟩
 clear hK' K';have d9:=hI d5;clear d5;have d8:=hI a1;clear a1;have g0:n2<=64:=by have:=d9.out;omega
 generalize(if c=at_ then A else A.map (·.add (at_*2)))=A5;go_wp2_with(at_builtin;refine Cs rfl (.tmp 27) (.tmp 32) rfl Wb.heap.size v3 (0+at_+n2) _ rfl a4.out (if c=at_+l.ifs.length then A else A.map (·.add ((at_+l.ifs.length)*2))) (n-(at_+l.ifs.length)) (c-(at_+l.ifs.length)) (ws.drop (at_+l.ifs.length)) rfl (Ad.drop (HW.out.below b5 rr) hat) (by omega) (by omega) ?_;intro v4 w4 a7 f2 _)
 all_goals
  have f9:Below w.heap.size w w4:=b5.grown f2 b5.size (fun k hk=>by have:=(a4.out.lt k hk).1;omega);go_ret;exact Er.of_own rfl a7 f9 b0.size
end Go.Proofs.YtlgliddhideflaaGreatDoor
namespace Go.Proofs.YtlgliddhideflaaGreatDoor
open Go.RowKit Go.Shelf
attribute [local go_sem] Oper.semAt_some
theorem Aee {l:Bg}{ws:List Snd}{at_ j:Nat}(hj:j<l.ifs.length)(h:F8 (ws.getD (at_+j) (0,0)).1 (ws.getD (at_+j) (0,0)).2 (l.ifs.getD j (0,0)).1 (l.ifs.getD j (0,0)).2=false):Eo l ws at_=false:=by
 have a0:Tf l ws at_=false:=by
  unfold Tf;apply Bool.eq_false_iff.2;intro h'
  have:=List.all_eq_true.1 h' j (List.mem_range.2 hj)
  rw[h]at this;cases this
 unfold Eo;rw[a0,Bool.and_false,Bool.false_and]
theorem Zy (l:Bg)(a:Dn)(A:Option Addr)(n c:Nat)(ws:List Snd)(at_:Nat)(w:World)(hl:Cv w l a)(hw:Ad w A n c ws)(hu:Lb l)(hwu:Bq ws)(hn:n<=4000)(hat:at_<=4000)(hk:l.ifs.length<=64):
  Calls Tryz.prog 237 #[C8 l a, .slice A n c, .int .i64 at_] w fun e w'=>e= .returned (.bool (Eo l ws at_))/\Below w.heap.size w w':=by
 have f4:Hid (ws.length=n):=hw.len;have HL:=hI hl;clear hl;have HW:=hI hw;clear hw;have HU:=hI hu;clear hu;have d4:=hI hwu;clear hwu;obtain⟨Wb,g1,b5,f3,b3,i2⟩:=De w l a;obtain⟨d0,d1,d2,d3⟩:=B3 b5;have g5:=hI b5;clear b5;have f6:=hI f3;clear f3;have i3:=f6.out;have b1:decide ((at_:Int)<0)=false:=by simp
 go_enter Tryz.func237,Tryz.ntmps237;by_cases hfit:at_+l.ifs.length<=n
 case neg=>
  have b2:decide ((n:Int)<(at_:Int)+(l.ifs.length:Int))=true:=by simp;omega
  have hr:Eo l ws at_=false:=by unfold Eo;rw[show decide (at_+l.ifs.length<=ws.length)=false by rw[f4.out];simpa using hfit];rfl
  have HR:=hI hr;clear hr;go_wp2;clear g1;go_ret;exact⟨by rw[HR.out];rfl,b3⟩
 case pos=>
  have b2:decide ((n:Int)<(at_:Int)+(l.ifs.length:Int))=false:=by simp;omega
  have hr:Eo l ws at_=(Tf l ws at_ && Xf l ws at_):=by unfold Eo;rw[show decide (at_+l.ifs.length<=ws.length)=true by rw[f4.out];simpa using hfit,Bool.true_and]
  have HR:=hI hr;clear hr;go_wp2;clear g1 d0 d1 d2 d3 b1 b2
  go_loopw [8] (fun i wr=>∃j:Nat,j<=l.ifs.length/\i= .int .i64 j/\Hid ((List.range j).all (fun j=>F8 (ws.getD (at_+j) (0,0)).1 (ws.getD (at_+j) (0,0)).2 (l.ifs.getD j (0,0)).1 (l.ifs.getD j (0,0)).2)=true)/\Below Wb.heap.size Wb wr) (fun i _=>l.ifs.length-(intOf i).toNat)
  case atStart=>exact⟨0,Nat.zero_le _,rfl,rfl,Below.refl _ _⟩
  case round=>
   obtain⟨j,hj,rfl,a2,hB⟩:=hrel;have g2:=hB.size;have d7:=(hB.block _ f6.out).trans g5.out;obtain⟨d0,d1,d2,d3⟩:=B3 d7;have a3:Below w.heap.size w wr:=b3.trans (hB.mono b3.size);have H1:=hI d7;clear d7;by_cases hlt:j<l.ifs.length
   ·obtain⟨bi,oi,p,q,f7,a5,b8,b7,b9⟩:=(HL.out.2.2.1.below a3 rr).at_ hlt;obtain⟨bw,ow,p',q',rfl,a6,d8,d5,b4⟩:=(HW.out.below a3 rr).at_ (k:=at_+j) (by omega);have a7:F8 (ws.getD (at_+j) (0,0)).1 (ws.getD (at_+j) (0,0)).2 (l.ifs.getD j (0,0)).1 (l.ifs.getD j (0,0)).2=F8 p' q' p q:=by rw[D4 d8,D4 b8]
    have d9:=hI a7;have f1:Hid (Wd (p,q)):=HU.out.2.2.2.2.1 _ (List.mem_of_getElem? b8);have f0:Hid (Wd (p',q')):=d4.out _ (List.mem_of_getElem? d8);rw[f7]at d1;clear b8 d8 a7 f7;have g6:(j:Int)<(l.ifs.length:Int):=by omega
    have g8:w.heap.size<wr.heap.size:=lt_of_block H1.out;have i4:((at_:Int)+(j:Int)).toNat=at_+j:=by omega
    have i0:(0:Int)<=(at_:Int)+(j:Int):=by omega
    have g9:(at_:Int)+(j:Int)<(n:Int):=by omega
    have b6:IntKind.i64.wrap ((at_:Int)+(j:Int))=(at_:Int)+(j:Int):=IntWalk.i64_in _ (by omega);go_wp2
    refine Bj (fun W'=>W'.cell? ⟨w.heap.size,15,none⟩=some (.slice (some ⟨bi,oi,none⟩) l.ifs.length a.ci)/\W'.cell? ⟨bw,ow+(at_+j)*2,none⟩=some (.int .u32 p')/\W'.cell? ⟨bw,ow+(at_+j)*2+1,none⟩=some (.int .u32 q')∧
     W'.cell? ⟨bi,oi+j*2,none⟩=some (.int .u32 p)/\W'.cell? ⟨bi,oi+j*2+1,none⟩=some (.int .u32 q)) (by kernel_rfl) ⟨d1,d5,b4,b7,b9⟩ (fun hHeld=> ?_)
    (refine' Aa 0 rfl ?_;(try simp only[Act.put,nY,nX]));(refine' Aa 1 rfl ?_;(try simp only[Act.put,nY,nX]));(refine' Aa 2 rfl ?_;(try simp only[Act.put,nY,nX]));(refine' Aa 3 rfl ?_;(try simp only[Act.put,nY,nX]));(refine' Aa 4 rfl ?_;(try simp only[Act.put,nY,nX]));(refine' Aa 5 rfl ?_;(try simp only[Act.put,nY,nX]));(refine' Aa 6 rfl ?_;(try simp only[Act.put,nY,nX]));(refine' Aa 7 rfl ?_;(try simp only[Act.put,nY,nX]));(refine' Aa 8 rfl ?_;(try simp only[Act.put,nY,nX]));(refine' Aa 9 rfl ?_;(try simp only[Act.put,nY,nX]));(refine' Aa 10 rfl ?_;(try simp only[Act.put,nY,nX]))
    (refine Aqq 11 rfl (fun K' hK'=> ?_);simp only[nY];go_simp)
    refine(Als p' q' p q _ f0.out.1 f0.out.2 f1.out.1 f1.out.2).mono ?_;rintro e w2 ⟨rfl,a8⟩;have a0:Below wr.heap.size wr w2:=(Below.refl wr.heap.size wr).drew.trans a8;have a1:Below Wb.heap.size Wb w2:=hB.trans (a0.mono g2);have f2:=(show _/\_/\_/\_/\_ from⟨(a0.cell (p:=⟨w.heap.size,15,none⟩) g8).trans d1,(a0.cell (p:=⟨bw,ow+(at_+j)*2,none⟩) a6).trans d5,(a0.cell (p:=⟨bw,ow+(at_+j)*2+1,none⟩) a6).trans b4,(a0.cell (p:=⟨bi,oi+j*2,none⟩) a5).trans b7,(a0.cell (p:=⟨bi,oi+j*2+1,none⟩) a5).trans b9⟩);refine hK' _ _ ⟨.inr f2,fun _=> ?_⟩
    clear hK' K' a0 a8 hHeld f2 d0 d1 d2 d3 d5 b4 b7 b9
    (try simp only[Act.put,nY,nX])
    (refine Aqq 12 rfl (fun K' hK'=> ?_);simp only[nY];go_simp)
    refine hK' _ _ ⟨.inl (by kernel_rfl),fun _=>Be (by kernel_rfl) ?_ _⟩
    clear hK' K'
    cases hff:F8 p' q' p q with
    |true=>
     have HG:Hid ((List.range (j+1)).all (fun j=>F8 (ws.getD (at_+j) (0,0)).1 (ws.getD (at_+j) (0,0)).2 (l.ifs.getD j (0,0)).1 (l.ifs.getD j (0,0)).2)=true):=by
      show _=_;rw[List.range_succ,List.all_append,a2.out];simp only[List.all_cons,List.all_nil,Bool.and_true,Bool.true_and];rw[d9.out,hff]
     clear hff;go_wp2
     go_roundw
     case rel=>exact⟨j+1,by omega,by go_num,HG,a1⟩
     case measure=>simp[intOf];omega
    |false=>
     have f8:Eo l ws at_=false:=Aee hlt (by rw[d9.out,hff]);have i1:=hI f8;clear hff f8;go_wp2;go_ret;exact⟨by rw[i1.out];rfl,b3.trans (a1.mono b3.size)⟩
   ·obtain rfl:j=l.ifs.length:=by omega
    have f5:Tf l ws at_=true:=a2.out;have HC:=hI f5;clear f5 a2;clear d0 d1 d2 d3;have g4:=Gs H1.out;obtain⟨_,p1,p2,p3,p4,p5,p6,p7,q1,q2,q3,q4,q5,q6,q7,_,_,_⟩:=Lm H1.out;clear q1 q2 q3 q4 q5 q6 q7 g4;go_wp2_with fail;clear p1 p2 p3 p4 p5 p6 p7;refine(Ad2 l.left.1 l.left.2 a.Al a.cl A n c ws at_ wr (HL.out.1.below a3 rr) (HW.out.below a3 rr) HU.out.1 HU.out.2.1 d4.out).mono ?_;rintro e w2 ⟨A2,c2,rfl,a9,a0⟩;have a1:Below w.heap.size w w2:=a3.trans (a0.mono a3.size);have h2:=(a0.block _ (lt_of_block H1.out)).trans H1.out;clear a0 a9;have H2:=hI h2;obtain⟨_,p1,p2,p3,p4,p5,p6,p7,q1,q2,q3,q4,q5,q6,q7,_,_,_⟩:=Lm h2;clear p1 p2 p3 p4 p5 p6 p7 h2;have b6:IntKind.i64.wrap ((at_:Int)+(l.ifs.length:Int))=(at_:Int)+(l.ifs.length:Int):=IntWalk.i64_in _ (by omega);go_wp2_with fail;clear q1 q2 q3 q4 q5 q6 q7;refine(Ajt l.right.1 l.right.2 a.Ar a.cr A n c ws ((at_:Int)+(l.ifs.length:Int)) w2 (HL.out.2.1.below a1 rr) (HW.out.below a1 rr) HU.out.2.2.1 HU.out.2.2.2.1 d4.out).mono ?_;rintro e w3 ⟨A3,c3,rfl,b0,g0⟩;have g7:Below w.heap.size w w3:=a1.trans (g0.mono a1.size);clear g0 b0
    have f9:Xf l ws at_=(decide (0<(Dq l.left ws at_).length) && decide (0<(He l.right ws ((at_:Int)+l.ifs.length)).length)):=by
     unfold Xf;congr 1;cases Dq l.left ws at_<;>rfl
    have g3:=hI f9;clear f9;obtain⟨x,hx⟩:∃x,x=(Dq (l.left.1,l.left.2) ws at_).length:=⟨_,rfl⟩;obtain⟨y,hy⟩:∃y,y=(He (l.right.1,l.right.2) ws ((at_:Int)+l.ifs.length)).length:=⟨_,rfl⟩;have a4:Eo l ws at_=(decide (0<x) && decide (0<y)):=by rw[HR.out,HC.out,g3.out,Bool.true_and,hx,hy]
    rw[←hx,←hy];have d6:=hI a4;clear a4 hx hy;go_wp2
    all_goals
     go_ret;refine⟨?_,g7⟩;rw[d6.out]
     rename_i h0
     simp[h0]
end Go.Proofs.YtlgliddhideflaaGreatDoor
