/-
  ablautref06: node, walk, Check.
  ablautref06: walk, Check.
  Relations as tables, in plain words: what the relation of a pattern has at a place.
  ablautref06: same, follow, join, equal, satisfies.
-/
import Derived.Deep.OwnRows
import Derived.Test.YtlgliddhideflaaGreatDoorG23
import Derived.Test.YtlgliddhideflaaGreatDoorG18
set_option linter.all false
set_option maxRecDepth 100000
set_option maxHeartbeats 4000000
namespace Go.Proofs.YtlgliddhideflaaGreatDoor
open Go.RowKit Go.Shelf
def NdU (k:Nd):Prop:=U32 k.isp/\U32 k.ism
def FoU:Fo->Prop
 | .nil=>True
 | .node k ch nx=>NdU k/\FoU ch/\FoU nx
def Fo.drop:Nat->Fo->Fo
 |0,f=>f
 |_+1, .nil=> .nil
 |i+1, .node _ _ nx=>nx.drop i
theorem FoU.get:∀(f:Fo) (i:Nat) (k:Nd) (ch:Fo),FoU f->f.get i=some (k,ch)->NdU k/\FoU ch
 | .nil,i,k,ch,_,h=>by simp[Fo.get]at h
 | .node k0 ch0 nx,0,k,ch,hu,h=>by
  obtain⟨rfl,rfl⟩:k0=k/\ch0=ch:=by simpa[Fo.get]using h
  exact⟨hu.1,hu.2.1⟩
 | .node k0 ch0 nx,i+1,k,ch,hu,h=>FoU.get nx i k ch hu.2.2 (by simpa[Fo.get]using h)
end Go.Proofs.YtlgliddhideflaaGreatDoor
namespace Go.Proofs.YtlgliddhideflaaGreatDoor
open Go.RowKit
def Bt (r:List Nat)(a b:Nat):Prop:=(r.getD a 0).testBit b=true
theorem Adl:∀(y:List Nat) (s b:Nat),(G y s).testBit b=true↔∃m,s.testBit m=true/\(y.getD m 0).testBit b=true
 |[],s,b=>by simp[G]
 |v::ys,s,b=>by
  rw[G,Nat.testBit_or,Bool.or_eq_true,Adl ys];constructor
  ·rintro(h|⟨m,h1,h2⟩)
   ·by_cases h0:s%2=1
    ·rw[if_pos h0]at h;exact⟨0,by rw[Nat.testBit_zero];exact decide_eq_true h0,by simpa using h⟩
    ·rw[if_neg h0]at h;simp at h
   ·exact⟨m+1,by rw[Nat.testBit_succ];exact h1,by simpa using h2⟩
  ·rintro⟨m,h1,h2⟩
   cases m with
   |zero=>
    rw[Nat.testBit_zero]at h1;rw[if_pos (of_decide_eq_true h1)];exact .inl (by simpa using h2)
   |succ m=>exact .inr ⟨m,by rw[Nat.testBit_succ]at h1;exact h1,by simpa using h2⟩
theorem Uc (x y:List Nat)(a b:Nat):Bt (Cz x y) a b↔∃m,Bt x a m/\Bt y m b:=by
 unfold Bt
 have e:(Cz x y).getD a 0=G y (x.getD a 0):=by
  unfold Cz;rw[List.getD_eq_getElem?_getD,List.getD_eq_getElem?_getD,List.getElem?_map]
  cases x[a]? with
  |none=>simp[V7]
  |some v=>rfl
 rw[e,Adl]
theorem Abp {x y:List Nat}(h:x.length=y.length)(a b:Nat):Bt (orR x y) a b↔Bt x a b\/Bt y a b:=by
 unfold Bt
 have e:(orR x y).getD a 0=x.getD a 0 ||| y.getD a 0:=by
  unfold orR;rw[List.getD_eq_getElem?_getD,List.getD_eq_getElem?_getD,List.getD_eq_getElem?_getD,List.getElem?_zipWith];by_cases ha:a<x.length
  ·rw[List.getElem?_eq_getElem ha,List.getElem?_eq_getElem (show a<y.length by omega)];rfl
  ·rw[List.getElem?_eq_none (by omega),List.getElem?_eq_none (show y.length<=a by omega)];rfl
 rw[e,Nat.testBit_or,Bool.or_eq_true]
def It (R:Nat->Nat->Prop):Nat->Nat->Nat->Prop
 |0,a,b=>a=b
 |k+1,a,b=>∃m,R a m/\It R k m b
end Go.Proofs.YtlgliddhideflaaGreatDoor
namespace Go.Proofs.YtlgliddhideflaaGreatDoor
open Go.RowKit Go.Shelf
def Lv (w:World)(A:Option Addr)(n c:Nat)(l:List Nat):Prop:=Bb w A n c 1 (l.map fun(s:Nat)=>Value.int .u64 (s:Int))
section tab
variable {w w':World}{A:Option Addr}{n c:Nat}{l:List Nat}
theorem Lv.len (h:Lv w A n c l):l.length=n:=by have:=h.1;simpa using this
theorem Lv.below (h:Lv w A n c l){B:Nat}(hb:Below B w w')(hB:w.heap.size<=B):Lv w' A n c l:=Bb.below h hb hB
theorem Lv.max (h:Lv w A n c l):n<=c/\c<=9223372036854775807:=by have h1:=h.2.1;have h2:=h.2.2.1;unfold maxLen at h2;omega
theorem Lv.at_ (h:Lv w A n c l){k:Nat}(hk:k<n):∃b off s,A=some ⟨b,off,none⟩/\b<w.heap.size/\w.cell? ⟨b,off+k,none⟩=some (.int .u64 ((s:Nat):Int))/\l[k]? =some s:=by
 obtain⟨b,off,v,hA,hb,hv,hc⟩:=h.at1 hk;rw[List.getElem?_map]at hv
 cases hl:l[k]? with
 |none=>rw[hl]at hv;cases hv
 |some x=>
  rw[hl]at hv;obtain rfl:Value.int .u64 (x:Int)=v:=by simpa using hv
  exact⟨b,off,x,hA,hb,hc,rfl⟩
end tab
end Go.Proofs.YtlgliddhideflaaGreatDoor
