/-
  Slices of numbers of 32 and of 8 bits.
-/
import Derived.Test.YtlgliddhideflaaGreatDoorG15
set_option linter.all false
set_option maxRecDepth 100000
set_option maxHeartbeats 4000000
namespace Go.Proofs.YtlgliddhideflaaGreatDoor
open Go.RowKit Go.Shelf
def Ht (w:World)(A:Option Addr)(n c:Nat)(l:List Nat):Prop:=Bb w A n c 1 (l.map fun x:Nat=>Value.int .u32 (x:Int))∧∀x∈l,x<4294967296
def Fm (w:World)(A:Option Addr)(n c:Nat)(l:List Nat):Prop:=Bb w A n c 1 (l.map fun x:Nat=>Value.int .u8 (x:Int))∧∀x∈l,x<256
section
variable {w w':World}{A:Option Addr}{n c:Nat}{l:List Nat}
theorem Ht.len (h:Ht w A n c l):l.length=n:=by have:=h.1.1;simpa using this
theorem Ht.below (h:Ht w A n c l){B:Nat}(hb:Below B w w')(hB:w.heap.size<=B):Ht w' A n c l:=⟨Bb.below h.1 hb hB,h.2⟩
theorem Ht.max (h:Ht w A n c l):n<=c/\c<=9223372036854775807:=by have h1:=h.1.2.1;have h2:=h.1.2.2.1;unfold maxLen at h2;omega
theorem Ht.at_ (h:Ht w A n c l){k:Nat}(hk:k<n):∃b off x,A=some ⟨b,off,none⟩/\b<w.heap.size/\l[k]? =some x/\x<4294967296/\w.cell? ⟨b,off+k,none⟩=some (.int .u32 (x:Nat)):=by
 obtain⟨b,off,hA,hb,hc⟩:=h.1.2.2.2.2 (by omega);have hx:l[k]? =some (l[k]'(by rw[h.len];exact hk)):=List.getElem?_eq_getElem _;exact⟨b,off,_,hA,hb,hx,h.2 _ (List.mem_of_getElem? hx),hc k _ (by rw[List.getElem?_map,hx];rfl)⟩
theorem Fm.len (h:Fm w A n c l):l.length=n:=by have:=h.1.1;simpa using this
theorem Fm.below (h:Fm w A n c l){B:Nat}(hb:Below B w w')(hB:w.heap.size<=B):Fm w' A n c l:=⟨Bb.below h.1 hb hB,h.2⟩
theorem Fm.max (h:Fm w A n c l):n<=c/\c<=9223372036854775807:=by have h1:=h.1.2.1;have h2:=h.1.2.2.1;unfold maxLen at h2;omega
theorem Fm.at_ (h:Fm w A n c l){k:Nat}(hk:k<n):∃b off x,A=some ⟨b,off,none⟩/\b<w.heap.size/\l[k]? =some x/\x<256/\w.cell? ⟨b,off+k,none⟩=some (.int .u8 (x:Nat)):=by
 obtain⟨b,off,hA,hb,hc⟩:=h.1.2.2.2.2 (by omega);have hx:l[k]? =some (l[k]'(by rw[h.len];exact hk)):=List.getElem?_eq_getElem _;exact⟨b,off,_,hA,hb,hx,h.2 _ (List.mem_of_getElem? hx),hc k _ (by rw[List.getElem?_map,hx];rfl)⟩
end
end Go.Proofs.YtlgliddhideflaaGreatDoor
