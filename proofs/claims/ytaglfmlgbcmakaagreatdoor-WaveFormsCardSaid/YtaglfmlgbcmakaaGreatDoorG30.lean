/-
  ablautref10: Derive.
-/
import Derived.Test.YtaglfmlgbcmakaaGreatDoorG28
set_option linter.all false
set_option maxRecDepth 100000
set_option maxHeartbeats 4000000
namespace Go.Proofs.YtaglfmlgbcmakaaGreatDoor
open Go.RowKit Go.Shelf
theorem Ahw {ls:List Bi}{ws:List Snd}(h:Hf ls [ws]=0):C8 ls=0/\B4 ws=0:=by
 rw[W8]at h;by_cases h1:C8 ls=0
 ·rw[if_neg (by simpa using h1)]at h;exact⟨h1,h⟩
 ·rw[if_pos h1]at h;exact absurd h h1
theorem Qn {ls:List Bi}{ws:List Snd}(h:Hf ls [ws]=0):E4 ls ws=if(Bq ls ws).1≠0 then((Bq ls ws).1,[])else(0,(Bq ls ws).2):=by
 unfold E4;rw[if_neg (by simpa using h)]
theorem Ta {ls:List Bi}{ws:List Snd}(h:Hf ls [ws]=0):Bz ls ws=if(Bq ls ws).1≠0 then(11,[])else(0,((Bq ls ws).2.getLast?).getD []):=by
 unfold Bz;rw[if_neg (by simpa using h)]
theorem Qo {ls:List Bi}{ws:List Snd}(h:¬Hf ls [ws]=0):E4 ls ws=(Hf ls [ws],[]):=by
 unfold E4;rw[if_pos h]
theorem Abp {ls:List Bi}{ws:List Snd}(h:¬Hf ls [ws]=0):Bz ls ws=(Hf ls [ws],[]):=by
 unfold Bz;rw[if_pos h]
theorem Zj {ls:List Bi}{ws:List Snd}(h:(E4 ls ws).1≠0):Bz ls ws=((E4 ls ws).1,[]):=by
 by_cases h0:Hf ls [ws]=0
 ·rw[Qn h0]at h ⊢;rw[Ta h0];by_cases h1:(Bq ls ws).1=0
  ·rw[if_neg (by simpa using h1)]at h;exact absurd rfl h
  ·rw[if_pos h1,if_pos h1];obtain⟨h2,h3⟩:=Ahw h0;rcases(Q6 ls ws (Wa h2).2 h3).1 with h4|h4
   ·exact absurd h4 h1
   ·rw[h4]
 ·rw[Qo h0,Abp h0]
theorem W9 {ls:List Bi}{ws:List Snd}(h:(E4 ls ws).1=0):Bz ls ws=(0,((E4 ls ws).2.getLast?).getD []):=by
 by_cases h0:Hf ls [ws]=0
 ·rw[Qn h0]at h ⊢;rw[Ta h0];by_cases h1:(Bq ls ws).1=0
  ·rw[if_neg (by simpa using h1),if_neg (by simpa using h1)]
  ·rw[if_pos h1]at h;exact absurd h h1
 ·rw[Qo h0]at h;exact absurd h h0
theorem Zk {ls:List Bi}{ws:List Snd}(h:(E4 ls ws).1=0):∃m,(E4 ls ws).2.length=m+1:=by
 by_cases h0:Hf ls [ws]=0
 ·rw[Qn h0]at h ⊢;by_cases h1:(Bq ls ws).1=0
  ·rw[if_neg (by simpa using h1)];obtain⟨r,hr⟩:=Hh ls ws;rw[hr];exact⟨r.length,rfl⟩
  ·rw[if_pos h1]at h;exact absurd h h1
 ·rw[Qo h0]at h;exact absurd h h0
theorem Ahx {w:World}{A:Option Addr}{n c:Nat}{ps:List Part}(hc:Az w A n c 1 (ps.map Part.val)){k:Nat}(hk:k<n):
  ∃b off p,A=some ⟨b,off,none⟩/\b<w.heap.size/\ps[k]? =some p/\w.cell? ⟨b,off+k,none⟩=some p.val:=by
 obtain⟨b,off,v,hA,hb,hv,a0⟩:=hc.at1 hk;rw[List.getElem?_map]at hv
 cases hp:ps[k]? with
 |none=>rw[hp]at hv;cases hv
 |some p=>rw[hp]at hv;obtain rfl:p.val=v:=by simpa using hv
          exact⟨b,off,p,hA,hb,rfl,a0⟩
theorem Xa (A:Option Addr)(n c:Nat)(xs:List Cb)(Aw:Option Addr)(nw cw:Nat)(ws:List Snd)(w:World)(hx:Cf w A n c xs)(hw:Ak w Aw nw cw ws)(hu:Pm xs)(hwu:Ck ws):
  Calls Tryz.prog 86 #[.slice A n c, .slice Aw nw cw] w (Acp w (Bz (Au xs) ws)):=by
 have HX:=hI hx;clear hx;have HW:=hI hw;clear hw;have HU:=hI hu;clear hu;have b6:=hI hwu;clear hwu;go_enter Tryz.func86,Tryz.ntmps86;go_wp2_with fail;refine(Zi A n c xs Aw nw cw ws w HX.out HW.out HU.out b6.out).mono ?_;rintro e w1 ⟨A1,n1,c1,ps,rfl,a2,a3,b1,a6,a7⟩;have b4:ps.length=n1:=by have:=a3.1;simpa using this
 have d0:=a3.2.1;have a4:=a3.2.2.1;unfold maxLen at a4;have b8:=hI a3;clear a3;have b2:=hI b1;clear b1;have b5:=hI a6;clear a6;obtain⟨fa,a0⟩:∃fa,fa=E4 (Au xs) ws:=⟨_,rfl⟩;rw[←a0]at a2 ⊢;by_cases h0:fa.1=0
 case neg=>
  have h1:(fa.1 !=0)=true:=by simpa using h0
  have HM:Hid (Bz (Au xs) ws=(fa.1,[])):=by show Bz _ _=_;rw[a0];exact Zj (by rw[←a0];exact h0)
  clear h0 a0 a2;go_wp2
  go_ret2
  exact⟨none,0,0,by rw[HM.out];rfl,by rw[HM.out];exact Az.nil _ _,a7,fun ad h=>by cases h⟩
 have h1:(fa.1 !=0)=false:=by simpa using h0
 obtain⟨m,hm⟩:=Zk (by rw[←a0];exact h0);have HM:Hid (Bz (Au xs) ws=(0,(fa.2.getLast?).getD [])):=by show Bz _ _=_;rw[a0];exact W9 (by rw[←a0];exact h0)
 rw[←a0]at hm;obtain rfl:n1=m+1:=by have h2:=congrArg List.length a2;rw[List.length_map]at h2;omega
 obtain⟨b,off,⟨A',n',c',x⟩,rfl,b9,a5,a9⟩:=Ahx b8.out (k:=m) (by omega);have d1:(m:Int)<(m:Int)+1:=by omega
 have d2:((m:Int)).toNat=m:=by omega
 have a1:=List.mem_of_getElem? a5;have b0:fa.2[m]? =some x:=by rw[←a2,List.getElem?_map,a5];rfl
 have a8:Hid (Bz (Au xs) ws=(0,x)):=by show Bz _ _=_;rw[HM.out,Ke (m:=m) hm,b0];rfl
 have b7:Hid (Ak w1 A' n' c' x):=b2.out _ a1;have b3:Hid (∀ad,A'=some ad->w.heap.size<=ad.block):=b5.out _ a1;clear a5 a1 b0 h0 hm b4 a0 a2;go_wp2
 go_ret2
 exact⟨A',n',c',by rw[a8.out];rfl,by rw[a8.out];exact b7.out,a7,b3.out⟩
end Go.Proofs.YtaglfmlgbcmakaaGreatDoor
