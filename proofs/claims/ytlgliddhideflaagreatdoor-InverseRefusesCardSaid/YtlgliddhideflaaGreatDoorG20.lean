/-
  Arguments are read: slices of sounds, words, patterns, laws.
  What the listed variables give; the road from a walk to a row, for laws that answer true.
-/
import Derived.ProofKit
import Derived.Deep.Slices
import Derived.OpenShut
import Derived.LaidMore
import Derived.Lay
import Derived.Lib.LaidTab
import Derived.Stop.Joined
import Derived.Test.YtlgliddhideflaaGreatDoorG13
import Derived.Test.YtlgliddhideflaaGreatDoorRows
import Derived.Test.YtlgliddhideflaaGreatDoorChecked
set_option linter.all false
set_option maxRecDepth 100000
set_option maxHeartbeats 4000000
namespace Go.Proofs.YtlgliddhideflaaGreatDoor
open Go.RowKit Go.ChangeShapes Go.WideShapes
theorem Sa {w:World}{a:Addr}{v:Value}(h:w.cell? a=some v):a=⟨a.block,a.off,none⟩/\a.block<w.heap.size:=by
 unfold World.cell? at h;split at h
 ·rename_i c t f hb
  split at h
  ·cases h
  ·rename_i hs
   obtain⟨x,y,z⟩:=a
   cases z with
   |none=>exact⟨rfl,(Array.getElem?_eq_some_iff.1 hb).1⟩
   |some z=>simp at hs
 ·cases h
section
variable {H:Type}{enc:TypeId×Value->H}{P:Program}{w:World}{base:Nat}{spare:Nat->Bool}{held:Bool}
end
section
variable {H:Type}{enc:TypeId×Value->H}{w:World}{base:Nat}{spare:Nat->Bool}{held:Bool}
set_option maxRecDepth 100000
structure Age where
 k:Nd
 A:Option Addr
 c:Nat
 ch:Fo
def Age.cells (p:Age):List Value:=Jn p.k p.A p.ch.len p.c
end
end Go.Proofs.YtlgliddhideflaaGreatDoor
namespace Go.Proofs.YtlgliddhideflaaGreatDoor
open Go.RowKit Go.ChangeShapes Go.WideShapes Go.ChangeAt
theorem Z6:ownKnob Tryz.prog.godebug=none:=by kernel_rfl
theorem Nt:laidOutB Tryz.prog=true:=by kernel_rfl
def Qq:List (String×DataW Unit):=[("math/bits.deBruijn64tab",Rows.laid_math_bits_deBruijn64tab),("unicode/utf8.acceptRanges",Rows.laid_unicode_utf8_acceptRanges),("unicode/utf8.first",Rows.laid_unicode_utf8_first)]
theorem Adg:Tryz.prog.globalNamed "math/bits.deBruijn64tab" =some 3:=by kernel_rfl
theorem Tc {W:World}(h:laidMetH Tryz.prog Qq W):B7 W:=by
 rw[MakeChecks.laidMetH_plain _ _ _ (by kernel_rfl)]at h;have h1:laidMet Tryz.prog (("math/bits.deBruijn64tab",Lib.tabData .u8 (Lib.deBruijn64tab.map Int.ofNat))::Qq.tail) W:=h
 have h2:=Lib.tabIs_of_head Adg (show(Tryz.prog.globals[3]?).map (·.type)=some _ by kernel_rfl) Tryz.underlying328 Tryz.underlying5 (by kernel_rfl) (by kernel_rfl) h1
 have hc:∀j,j<64->W.cell? ⟨3,j,none⟩=some (.int .u8 (Lib.deBruijn64tab.getD j 0)):=by
  intro j hj
  have:=h2.cell Adg j hj
  rw[this];have hl:Lib.deBruijn64tab.length=64:=by kernel_rfl
  simp[List.getD,hl,hj]
 exact⟨(Sa (hc 0 (by decide))).2,hc⟩
theorem Xz {a:Int}(h:(Lit.int .u8 a).wf=true):0<=a/\a<=255:=by
 simpa[Lit.wf,IntKind.min,IntKind.max,IntKind.signed,IntKind.bits]using h
section
variable {H:Type}{enc:TypeId×Value->H}{w:World}{base:Nat}{spare:Nat->Bool}{held:Bool}{A:Option Addr}{n c:Nat}{d:DataW H}{p:List MemPlace}
end
end Go.Proofs.YtlgliddhideflaaGreatDoor
