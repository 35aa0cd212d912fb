/-
  ablautref10: Check.
  ablautref10: Forms.
-/
import Derived.Test.YtlgliddhideflaaGreatDoorG27
set_option linter.all false
set_option maxRecDepth 100000
set_option maxHeartbeats 4000000
namespace Go.Proofs.YtlgliddhideflaaGreatDoor
open Go.RowKit Go.Shelf
end Go.Proofs.YtlgliddhideflaaGreatDoor
namespace Go.Proofs.YtlgliddhideflaaGreatDoor
open Go.RowKit Go.Shelf
attribute [local go_sem] Oper.semAt_some
theorem Acs {l:Av}{ws:List Snd}{r:RS}(hw:Cc ws)(hn:Cc r.now):Cc (Cx l ws r).2.now∧∀x,(Cx l ws r).1=some x->Cc x.2:=by
 unfold Cx;split
 ·split
  ·have:Cc (r.now.take (r.at_+r.shift).toNat++Gl l ((ws.drop r.at_.toNat).take l.ifs.length)++ws.drop (r.at_.toNat+l.ifs.length)):=((hn.take _).append (Aa6 l _)).append (hw.drop _)
   exact⟨this,fun x hx=>by obtain rfl:=Option.some.inj hx;exact this⟩
  ·exact⟨hn,fun x hx=>by cases hx⟩
 ·split
  ·split
   ·exact⟨Hv hn,fun x hx=>by obtain rfl:=Option.some.inj hx;exact Hv hn⟩
   ·exact⟨hn,fun x hx=>by cases hx⟩
  ·split
   ·exact⟨Hv hn,fun x hx=>by obtain rfl:=Option.some.inj hx;exact Hv hn⟩
   ·exact⟨hn,fun x hx=>by cases hx⟩
theorem Vx {l:Av}{ws:List Snd}(hw:Cc ws):∀(f:Nat) (r:RS),Cc r.now→∀x∈(Dp l ws f r).1,Cc x.2
 |0,_,_,x,h=>by simp[Dp]at h
 |f+1,r,hn,x,h=>by
  have hs:=Acs (l:=l) (r:=r) hw hn;rw[Dp]at h;split at h
  ·simp at h
  ·split at h
   ·rename_i r' he
    rw[he]at hs;exact Vx hw f _ hs.1 x h
   ·rename_i p now r' he
    rw[he]at hs;split at h
    ·simp at h
    ·simp only[List.mem_cons]at h;rcases h with rfl|h
     ·exact hs.2 _ rfl
     ·exact Vx hw f _ hs.1 x h
theorem Aa0 {l:Av}{ws:List Snd}(hw:Cc ws):Cc (Cd l ws).2:=by
 unfold Cd;split
 ·intro s hs;simp at hs
 ·have hn:Cc (B4 l ws).now:=by unfold B4;split<;>exact hw
  dsimp only;split
  ·rename_i x hx
   have h1:=List.mem_of_getLast? hx;unfold Cr at h1;split at h1
   ·simp at h1
   ·split at h1
    ·simp at h1
    ·exact Vx hw _ _ hn x h1
  ·exact hw
def Aa1 (w:World)(r:Int×List (List Snd))(e:Ending)(w':World):Prop:=
 ∃A n c,∃ps:List Part,e= .returned (.tuple #[.slice A n c, .int .i64 r.1])/\ps.map Part.word=r.2/\Bb w' A n c 1 (ps.map Part.val)/\Je w' ps/\(∀p∈ps,∀ad,p.1=some ad->w.heap.size<=ad.block)/\Below w.heap.size w w'
theorem Aa1.plain {w:World}{r:Int×List (List Snd)}{e:Ending}{w':World}(h:Aa1 w r e w'):Rt w r e w':=by
 obtain⟨A,n,c,ps,h1,h2,h3,h4,_,h6⟩:=h;exact⟨A,n,c,h1,⟨ps,h2,h3,h4⟩,h6⟩
end Go.Proofs.YtlgliddhideflaaGreatDoor
