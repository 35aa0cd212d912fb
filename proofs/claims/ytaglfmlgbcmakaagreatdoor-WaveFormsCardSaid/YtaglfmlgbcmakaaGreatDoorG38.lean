/-
  Words that do not lie in a row of one's own; such a row grows.
-/
import Derived.Test.YtaglfmlgbcmakaaGreatDoorG13
set_option linter.all false
set_option maxRecDepth 100000
set_option maxHeartbeats 4000000
namespace Go.Proofs.YtaglfmlgbcmakaaGreatDoor
open Go.RowKit Go.Shelf
theorem He {ops:Array Oper}{rest:List Oper}{o:Oper}{a:Act}{w:World}{Q:Exit->Act->World->Prop}(hgd:o.guard=none)(s x:Operand)
  (ho:o.op= .call {callee:= .builtin .append,args:= #[s,x],argTypes:= #[34,34]})
  (base:Nat) (v:Value) (n:Nat) (xs:List Value) (hs:a.eval s=v) (hown:w.ownsRow base 28 1 v n xs)
  (ad:Addr) (c:Nat) (y:Value) (hx:a.eval x= .slice (some ad) 1 c) (hr:∀j u,[y][j]? =some u->w.cell? (ad.add j)=some u) (hy:y.oneCell'=true) (hl:n+1<=4096) (hbase:base<=w.heap.size)
  (h:∀v' w',w'.ownsRow base 28 1 v' (n+1) (xs++[y])->w.grownBy w' v.ownBlock->(v'.ownBlock=v.ownBlock\/v'.ownBlock=some w.heap.size)→
   wpList Tryz.prog ops Q rest (a.put o.dst v') w'):wpList Tryz.prog ops Q (o::rest) a w:=by
 obtain⟨i0,hi,a1,a2,a0⟩:=info_parts Ls
 exact wpList_append_own_at w hgd s x 34 ho base 28 i0 _ 1 24 Tryz.underlying34 hi a1 a2 a0 rfl (by decide) v n xs hs hown ad 1 c [y] hx rfl hr
  (by intro u hu;simp at hu;subst hu;exact hy) (by unfold maxLen;omega) (by omega) hbase fun v' w' h1 h2 _ h4=>h v' w' h1 h2 h4
def Et (v:Value)(w:World)(p:Part):Prop:=Ak w p.1 p.2.1 p.2.2.1 p.2.2.2∧∀ad,p.1=some ad->0<p.2.1→¬v.ownBlock=some ad.block
theorem Wi {w:World}{p:Part}(h:Ak w p.1 p.2.1 p.2.2.1 p.2.2.2){ad:Addr}(had:p.1=some ad)(hn:0<p.2.1):ad.block<w.heap.size:=by
 obtain⟨b,off,hb,a0,_⟩:=h.2.2.2.2 hn;rw[had]at hb;injection hb with hb
 subst hb;exact a0
theorem Et.below {v:Value}{w w':World}{p:Part}(h:Et v w p)(hb:Below w.heap.size w w'):Et v w' p:=⟨h.1.below hb rr,h.2⟩
theorem Et.word_grown {v:Value}{w X:World}{p:Part}(h:Et v w p)(hg:w.grownBy X v.ownBlock):Ak X p.1 p.2.1 p.2.2.1 p.2.2.2:=
 h.1.keep (S:=fun k=>v.ownBlock=some k) ((Ba.refl (fun k=>v.ownBlock=some k) w).grown hg (fun k e=> .inl e)) fun hn ad had e=>h.2 ad had hn e
theorem Et.grown {v v':Value}{w X:World}{p:Part}(h:Et v w p)(hg:w.grownBy X v.ownBlock)(a0:v'.ownBlock=v.ownBlock\/v'.ownBlock=some w.heap.size):Et v' X p:=by
 refine⟨h.word_grown hg,fun ad had hn e=> ?_⟩
 rcases a0 with e'|e'
 ·exact h.2 ad had hn (e'▸e)
 ·rw[e']at e;injection e with e;have:=Wi h.1 had hn;omega
structure Dz (w:World)(B:Nat)(v:Value)(ps:List Part):Prop where
 own:w.ownsRow B 28 1 v ps.length (ps.map Part.val)
 pp:∀p∈ps,Et v w p
 sz:B<=w.heap.size
theorem Dz.nil (w:World):Dz w w.heap.size (.slice none 0 0) []:=⟨World.ownsRow_nil _ _ _ _,fun p hp=>by simp at hp,rr⟩
theorem Dz.below {w w':World}{B:Nat}{v:Value}{ps:List Part}(h:Dz w B v ps)(hb:Below w.heap.size w w'):Dz w' B v ps:=
 ⟨Bj h.own fun k e=>hb.block k (h.own.lt k e).2,fun p hp=>(h.pp p hp).below hb,Nat.le_trans h.sz hb.size⟩
theorem Dz.words {w:World}{B:Nat}{A:Option Addr}{n c:Nat}{ps:List Part}(h:Dz w B (.slice A n c) ps)(hn:n=ps.length):Bs w A n c (ps.map Part.word):=by
 subst hn;exact Bs.mk (Az.of_own h.own (by decide)) fun p hp=>(h.pp p hp).1
theorem Dz.push {w X:World}{B:Nat}{v v':Value}{ps:List Part}(h:Dz w B v ps){q:Part}(hq:Et v w q)(hown:X.ownsRow B 28 1 v' (ps.length+1) (ps.map Part.val++[q.val]))(hg:w.grownBy X v.ownBlock)
  (hat:v'.ownBlock=v.ownBlock\/v'.ownBlock=some w.heap.size):Dz X B v' (ps++[q]):=by
 refine⟨?_,fun p hp=> ?_,Nat.le_trans h.sz hg.size⟩
 ·rw[List.length_append,List.length_singleton,List.map_append];exact hown
 ·rcases List.mem_append.1 hp with hp|hp
  ·exact(h.pp p hp).grown hg hat
  ·obtain rfl:p=q:=by simpa using hp
   exact hq.grown hg hat
theorem Dz.fresh {w w':World}{B:Nat}{v:Value}{ps:List Part}{q:Part}(h:Dz w B v ps)(hq:Ak w' q.1 q.2.1 q.2.2.1 q.2.2.2)(hf:∀ad,q.1=some ad->w.heap.size<=ad.block):Et v w' q:=
 ⟨hq,fun ad had _ e=>by have:=(h.own.lt _ e).2;have:=hf ad had;omega⟩
end Go.Proofs.YtaglfmlgbcmakaaGreatDoor
