/-
  ablautref08: Name, fits.
  ablautref08: Check, check.
  ablautref08: put.
  ablautref08: replace.
  ablautref08: Hit.
-/
import Derived.Laws.OwnMore
import Derived.Test.YtlgliddhideflaaGreatDoorG25
set_option linter.all false
set_option maxRecDepth 100000
set_option maxHeartbeats 4000000
namespace Go.Proofs.YtlgliddhideflaaGreatDoor
open Go.RowKit Go.Shelf
end Go.Proofs.YtlgliddhideflaaGreatDoor
namespace Go.Proofs.YtlgliddhideflaaGreatDoor
open Go.RowKit Go.Shelf
attribute [local go_sem] Oper.semAt_some
end Go.Proofs.YtlgliddhideflaaGreatDoor
namespace Go.Proofs.YtlgliddhideflaaGreatDoor
open Go.RowKit Go.Shelf
attribute [local go_sem] Oper.semAt_some
theorem Acv (x:BitVec 32):U32 ((x.toNat:Nat):Int):=⟨by omega,by have:=x.isLt;omega⟩
theorem Se (s f set:Int):U32 (D6 s f set):=by unfold D6;rw[Kf];exact Acv _
theorem Wx:U32 0:=⟨by omega,by omega⟩
theorem Yg (s:Snd)(c:Int)(t:Snd):Acu (Dc s c t):=by
 unfold Dc;split
 ·exact⟨Se _ _ _,Se _ _ _⟩
 ·exact⟨Wx,Wx⟩
theorem Acw (s t:Snd)(m:Int):Acu (Ft s t m):=by
 unfold Ft;split
 ·exact⟨Se _ _ _,Se _ _ _⟩
 ·exact⟨Wx,Wx⟩
theorem Ad5 (cut:List Snd)(x:Fk):Acu (M7 cut x):=by
 unfold M7;dsimp only;split
 ·exact Acw _ _ _
 ·exact Yg _ _ _
theorem Aa6 (l:Av)(cut:List Snd):Cc (Gl l cut):=by
 intro s hs;obtain⟨x,_,rfl⟩:=List.mem_map.1 hs;exact Ad5 cut x
theorem Cc.take {ws:List Snd}(h:Cc ws)(k:Nat):Cc (ws.take k):=fun s hs=>h s (List.mem_of_mem_take hs)
theorem Cc.drop {ws:List Snd}(h:Cc ws)(k:Nat):Cc (ws.drop k):=fun s hs=>h s (List.mem_of_mem_drop hs)
theorem Cc.append {a b:List Snd}(h:Cc a)(h':Cc b):Cc (a++b):=fun s hs=>(List.mem_append.1 hs).elim (h s) (h' s)
theorem Hv {l:Av}{ws:List Snd}{at_:Nat}(hw:Cc ws):Cc (Cj l ws at_):=by
 unfold Cj;exact((hw.take _).append (Aa6 l _)).append (hw.drop _)
end Go.Proofs.YtlgliddhideflaaGreatDoor
namespace Go.Proofs.YtlgliddhideflaaGreatDoor
open Go.RowKit Go.Shelf
attribute [local go_sem] Oper.semAt_some
end Go.Proofs.YtlgliddhideflaaGreatDoor
namespace Go.Proofs.YtlgliddhideflaaGreatDoor
open Go.RowKit Go.Shelf
attribute [local go_sem] Oper.semAt_some
end Go.Proofs.YtlgliddhideflaaGreatDoor
