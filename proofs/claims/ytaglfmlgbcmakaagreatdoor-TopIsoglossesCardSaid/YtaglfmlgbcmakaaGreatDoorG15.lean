/-
  ablautref02.Equal; slices of numbers.
-/
import Derived.Test.YtaglfmlgbcmakaaGreatDoorG13
set_option linter.all false
set_option maxRecDepth 100000
set_option maxHeartbeats 4000000
namespace Go.Proofs.YtaglfmlgbcmakaaGreatDoor
open Go.RowKit Go.Shelf
def Cm (w:World)(A:Option Addr)(n c:Nat)(l:List Int):Prop:=Am w A n c 1 (l.map (Value.int .i64))
theorem Cm.len {w:World}{A:Option Addr}{n c:Nat}{l:List Int}(h:Cm w A n c l):l.length=n:=by have:=h.1;simpa using this
theorem Cm.below {w w':World}{A:Option Addr}{n c:Nat}{l:List Int}(h:Cm w A n c l){B:Nat}(hb:Below B w w')(hB:w.heap.size<=B):Cm w' A n c l:=Am.below h hb hB
theorem Cm.max {w:World}{A:Option Addr}{n c:Nat}{l:List Int}(h:Cm w A n c l):n<=c/\c<=9223372036854775807:=by have h1:=h.2.1;have h2:=h.2.2.1;unfold maxLen at h2;omega
theorem Cm.at_ {w:World}{A:Option Addr}{n c:Nat}{l:List Int}(h:Cm w A n c l){k:Nat}(hk:k<n):∃b off x,A=some ⟨b,off,none⟩/\b<w.heap.size/\w.cell? ⟨b,off+k,none⟩=some (.int .i64 x)/\l[k]? =some x:=by
 obtain⟨b,off,v,hA,hb,hv,hc⟩:=h.at1 hk;rw[List.getElem?_map]at hv
 cases hl:l[k]? with
 |none=>rw[hl]at hv;cases hv
 |some x=>
  rw[hl]at hv;obtain rfl:Value.int .i64 x=v:=by simpa using hv
  exact⟨b,off,x,hA,hb,hc,rfl⟩
end Go.Proofs.YtaglfmlgbcmakaaGreatDoor
