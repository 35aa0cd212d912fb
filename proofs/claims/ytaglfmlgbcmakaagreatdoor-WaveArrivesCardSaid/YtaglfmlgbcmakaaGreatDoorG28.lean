/-
  ablautref10: Check.
  ablautref10: Forms.
-/
import Derived.Test.YtaglfmlgbcmakaaGreatDoorG27
set_option linter.all false
set_option maxRecDepth 100000
set_option maxHeartbeats 4000000
namespace Go.Proofs.YtaglfmlgbcmakaaGreatDoor
open Go.RowKit Go.Shelf
def St (xs:List Bj):Prop:=∀x∈xs,Ake x.l
theorem Abl (A:Option Addr)(n c:Nat)(xs:List Bj)(w:World)(hx:Br w A n c xs)(hu:St xs):
  Calls Tryz.prog 83 #[.slice A n c] w fun e w'=>e= .returned (.int .i64 (Dg (Ah xs)))/\Below w.heap.size w w':=by
 have hm:=hx.max;have HX:=hI hx;clear hx;have HU:=hI hu;clear hu;have a4:Hid ((Ah xs).length=n):=by show(Ah xs).length=n;rw[Ah,List.length_map];exact HX.out.len
 go_enter Tryz.func83,Tryz.ntmps83;by_cases h64:64<n
 ·have hr:Dg (Ah xs)=12:=by unfold Dg;rw[if_pos (by rw[a4.out];exact h64)]
  have HR:=hI hr;clear hr;go_wp2;go_ret;exact⟨by rw[HR.out];rfl,Below.refl _ _⟩
 ·have hr:Dg (Ah xs)=if(Ah xs).any (fun l=>Cc l !=0)then 17 else 0:=by unfold Dg;rw[if_neg (by rw[a4.out];exact h64)]
  have HR:=hI hr;clear hr;go_wp2_with fail
  go_loopw [3] (fun i wr=>∃k:Nat,k<=n/\i= .int .i64 k/\Hid ((xs.take k).any (fun x=>Cc x.l !=0)=false)/\Below w.heap.size w wr) (fun i _=>n-(intOf i).toNat)
  case atStart=>exact⟨0,Nat.zero_le _,rfl,rfl,Below.refl _ _⟩
  case round=>
   obtain⟨k,hk,rfl,a1,hB⟩:=hrel;have b2:=hB.size;by_cases hlt:k<n
   ·obtain⟨x,a2⟩:=HX.out.get hlt;obtain⟨b,off,rfl,b4,a6⟩:=(HX.out.below hB rr).at_ a2;have b1:(k:Int)<(n:Int):=by omega
    have a0:=List.mem_of_getElem? a2;have HS:=hI (Bd xs k x a2);have a9:=hI a6;clear a6;have b3:Hid (Ew wr x.l x.a):=(HX.out.below hB rr).2 x a0;have b0:Hid (Ake x.l):=HU.out x a0;have a3:=hI a0;clear a0 a2;go_wp2_with(refine Pe rfl (.tmp 15) rfl b (off+k*18) x rfl a9.out ?_);refine(Aej x.l x.a wr b3.out b0.out).mono ?_;rintro e w5 ⟨rfl,a7⟩;have a8:=hB.trans (a7.mono b2);clear a7;by_cases hv:Cc x.l=0
    ·have a5:(Cc x.l !=0)=false:=by simpa using hv
     have HG:Hid ((xs.take (k+1)).any (fun x=>Cc x.l !=0)=false):=by show _=_;rw[HS.out,List.any_append,a1.out];simp[hv]
     clear hv;go_wp2
     go_roundw
     case rel=>exact⟨k+1,by omega,by go_num,HG,a8⟩
     case measure=>simp[intOf];omega
    ·have a5:(Cc x.l !=0)=true:=by simpa using hv
     have hf:Dg (Ah xs)=17:=by
      rw[HR.out,if_pos];exact List.any_eq_true.2 ⟨x.l,List.mem_map.2 ⟨x,a3.out,rfl⟩,a5⟩
     have HF:=hI hf;clear hf hv;go_wp2;go_ret;exact⟨by rw[HF.out];rfl,a8⟩
   ·obtain rfl:k=n:=by omega
    have hf:Dg (Ah xs)=0:=by
     have:=a1.out
     rw[List.take_of_length_le (by rw[HX.out.len];exact rr)]at this;rw[HR.out,if_neg];rw[Ah,List.any_map];intro h;have h2:xs.any (fun x=>Cc x.l !=0)=true:=h;rw[this]at h2;cases h2
    have HF:=hI hf;clear hf;go_wp2;go_ret;exact⟨by rw[HF.out];rfl,hB⟩
end Go.Proofs.YtaglfmlgbcmakaaGreatDoor
namespace Go.Proofs.YtaglfmlgbcmakaaGreatDoor
open Go.RowKit Go.Shelf
attribute [local go_sem] Oper.semAt_some
def Ahr (w:World)(r:Int×List (List Snd))(e:Ending)(w':World):Prop:=
 ∃A n c,∃ps:List Part,e= .returned (.tuple #[.slice A n c, .int .i64 r.1])/\ps.map Part.word=r.2/\Am w' A n c 1 (ps.map Part.val)/\Ko w' ps/\(∀p∈ps,∀ad,p.1=some ad->w.heap.size<=ad.block)/\Below w.heap.size w w'
theorem Ahr.plain {w:World}{r:Int×List (List Snd)}{e:Ending}{w':World}(h:Ahr w r e w'):Alj w r e w':=by
 obtain⟨A,n,c,ps,h1,h2,h3,h4,_,h6⟩:=h;exact⟨A,n,c,h1,⟨ps,h2,h3,h4⟩,h6⟩
end Go.Proofs.YtaglfmlgbcmakaaGreatDoor
