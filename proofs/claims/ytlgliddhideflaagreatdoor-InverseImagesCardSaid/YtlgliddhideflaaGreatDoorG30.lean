/-
  ablautref10: Derive.
-/
import Derived.Test.YtlgliddhideflaaGreatDoorG28
set_option linter.all false
set_option maxRecDepth 100000
set_option maxHeartbeats 4000000
namespace Go.Proofs.YtlgliddhideflaaGreatDoor
open Go.RowKit Go.Shelf
theorem Ajg {ls:List Bg}{ws:List Snd}(h:Hi ls [ws]=0):C5 ls=0/\Bs ws=0:=by
 rw[Zo]at h;by_cases h1:C5 ls=0
 ·rw[if_neg (by simpa using h1)]at h;exact⟨h1,h⟩
 ·rw[if_pos h1]at h;exact absurd h h1
theorem Sq {ls:List Bg}{ws:List Snd}(h:Hi ls [ws]=0):Es ls ws=if(Bu ls ws).1≠0 then((Bu ls ws).1,[])else(0,(Bu ls ws).2):=by
 unfold Es;rw[if_neg (by simpa using h)]
theorem V7 {ls:List Bg}{ws:List Snd}(h:Hi ls [ws]=0):Bm ls ws=if(Bu ls ws).1≠0 then(11,[])else(0,((Bu ls ws).2.getLast?).getD []):=by
 unfold Bm;rw[if_neg (by simpa using h)]
theorem Sr {ls:List Bg}{ws:List Snd}(h:¬Hi ls [ws]=0):Es ls ws=(Hi ls [ws],[]):=by
 unfold Es;rw[if_pos h]
theorem Adt {ls:List Bg}{ws:List Snd}(h:¬Hi ls [ws]=0):Bm ls ws=(Hi ls [ws],[]):=by
 unfold Bm;rw[if_pos h]
theorem Abr {ls:List Bg}{ws:List Snd}(h:(Es ls ws).1≠0):Bm ls ws=((Es ls ws).1,[]):=by
 by_cases h0:Hi ls [ws]=0
 ·rw[Sq h0]at h ⊢;rw[V7 h0];by_cases h1:(Bu ls ws).1=0
  ·rw[if_neg (by simpa using h1)]at h;exact absurd rfl h
  ·rw[if_pos h1,if_pos h1];obtain⟨h2,h3⟩:=Ajg h0;rcases(S8 ls ws (Y9 h2).2 h3).1 with h4|h4
   ·exact absurd h4 h1
   ·rw[h4]
 ·rw[Sr h0,Adt h0]
theorem Zp {ls:List Bg}{ws:List Snd}(h:(Es ls ws).1=0):Bm ls ws=(0,((Es ls ws).2.getLast?).getD []):=by
 by_cases h0:Hi ls [ws]=0
 ·rw[Sq h0]at h ⊢;rw[V7 h0];by_cases h1:(Bu ls ws).1=0
  ·rw[if_neg (by simpa using h1),if_neg (by simpa using h1)]
  ·rw[if_pos h1]at h;exact absurd h h1
 ·rw[Sr h0]at h;exact absurd h h0
theorem Abs {ls:List Bg}{ws:List Snd}(h:(Es ls ws).1=0):∃m,(Es ls ws).2.length=m+1:=by
 by_cases h0:Hi ls [ws]=0
 ·rw[Sq h0]at h ⊢;by_cases h1:(Bu ls ws).1=0
  ·rw[if_neg (by simpa using h1)];obtain⟨r,hr⟩:=Hj ls ws;rw[hr];exact⟨r.length,rfl⟩
  ·rw[if_pos h1]at h;exact absurd h h1
 ·rw[Sr h0]at h;exact absurd h h0
theorem Gw {w:World}{A:Option Addr}{n c:Nat}{ps:List Part}(hc:Bd w A n c 1 (ps.map Part.val)){k:Nat}(hk:k<n):
  ∃b off p,A=some ⟨b,off,none⟩/\b<w.heap.size/\ps[k]? =some p/\w.cell? ⟨b,off+k,none⟩=some p.val:=by
 obtain⟨b,off,v,hA,hb,hv,a0⟩:=hc.at1 hk;rw[List.getElem?_map]at hv
 cases hp:ps[k]? with
 |none=>rw[hp]at hv;cases hv
 |some p=>rw[hp]at hv;obtain rfl:p.val=v:=by simpa using hv
          exact⟨b,off,p,hA,hb,rfl,a0⟩
theorem Me (A:Option Addr)(n c:Nat)(xs:List Co)(Aw:Option Addr)(nw cw:Nat)(ws:List Snd)(w:World)(hx:B4 w A n c xs)(hw:Ad w Aw nw cw ws)(hu:Jj xs)(hwu:Bq ws):
  Calls Tryz.prog 123 #[.slice A n c, .slice Aw nw cw] w (Aez w (Bm (Ah xs) ws)):=by
 have HX:=hI hx;clear hx;have HW:=hI hw;clear hw;have HU:=hI hu;clear hu;have b5:=hI hwu;clear hwu;go_enter Tryz.func123,Tryz.ntmps123;go_wp2_with fail;refine(Abq A n c xs Aw nw cw ws w HX.out HW.out HU.out b5.out).mono ?_;rintro e w1 ⟨A1,n1,c1,ps,rfl,a2,a3,b0,a9,a7⟩;have b8:ps.length=n1:=by have:=a3.1;simpa using this
 have d2:=a3.2.1;have a4:=a3.2.2.1;unfold maxLen at a4;have b6:=hI a3;clear a3;have b3:=hI b0;clear b0;have b4:=hI a9;clear a9;obtain⟨fa,a0⟩:∃fa,fa=Es (Ah xs) ws:=⟨_,rfl⟩;rw[←a0]at a2 ⊢;by_cases h0:fa.1=0
 case neg=>
  have h1:(fa.1 !=0)=true:=by simpa using h0
  have HM:Hid (Bm (Ah xs) ws=(fa.1,[])):=by show Bm _ _=_;rw[a0];exact Abr (by rw[←a0];exact h0)
  clear h0 a0 a2;go_wp2
  go_ret2
  exact⟨none,0,0,by rw[HM.out];rfl,by rw[HM.out];exact Bd.nil _ _,a7,fun ad h=>by cases h⟩
 have h1:(fa.1 !=0)=false:=by simpa using h0
 obtain⟨m,hm⟩:=Abs (by rw[←a0];exact h0);have HM:Hid (Bm (Ah xs) ws=(0,(fa.2.getLast?).getD [])):=by show Bm _ _=_;rw[a0];exact Zp (by rw[←a0];exact h0)
 rw[←a0]at hm;obtain rfl:n1=m+1:=by have h2:=congrArg List.length a2;rw[List.length_map]at h2;omega
 obtain⟨b,off,⟨A',n',c',x⟩,rfl,b9,a5,b1⟩:=Gw b6.out (k:=m) (by omega);have d1:(m:Int)<(m:Int)+1:=by omega
 have d0:((m:Int)).toNat=m:=by omega
 have a1:=List.mem_of_getElem? a5;have a8:fa.2[m]? =some x:=by rw[←a2,List.getElem?_map,a5];rfl
 have a6:Hid (Bm (Ah xs) ws=(0,x)):=by show Bm _ _=_;rw[HM.out,Kg (m:=m) hm,a8];rfl
 have b7:Hid (Ad w1 A' n' c' x):=b3.out _ a1;have b2:Hid (∀ad,A'=some ad->w.heap.size<=ad.block):=b4.out _ a1;clear a5 a1 a8 h0 hm b8 a0 a2;go_wp2
 go_ret2
 exact⟨A',n',c',by rw[a6.out];rfl,by rw[a6.out];exact b7.out,a7,b2.out⟩
end Go.Proofs.YtlgliddhideflaaGreatDoor
