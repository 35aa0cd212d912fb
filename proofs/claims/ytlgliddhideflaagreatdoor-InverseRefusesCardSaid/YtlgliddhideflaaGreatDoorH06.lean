/-
  What is kept while inverse.Lost collects words and pairs.
  strings.Builder at this program: tables of numbers, and facts of the program (written by the kit's lay-plain).
  inverse.text: a text for a word.
  derive.Pairs.
  The function that inverse.Lost hands to became.
  inverse.Lost.
-/
import Derived.Maps.OwnSet
import Derived.Shelf.Strings.BuilderK
import Derived.Maps.OwnOps
import Derived.Test.YtlgliddhideflaaGreatDoorH05
import Derived.Test.YtlgliddhideflaaGreatDoorG28
import Derived.Test.YtlgliddhideflaaGreatDoorG16
set_option linter.all false
set_option maxRecDepth 100000
set_option maxHeartbeats 4000000
namespace Go.Proofs.YtlgliddhideflaaGreatDoor
open Go.RowKit Go.Shelf Go.Maps
-- what a word of an alphabet becomes
theorem Tk:∀(ls:List Av) (ws:List Snd),Cc ws→∀x∈(Bp ls ws).2,Cc x
 |[],ws,hw,x,hx=>by
  obtain rfl:x=ws:=by simpa[Bp]using hx
  exact hw
 |l::ls,ws,hw,x,hx=>by
  unfold Bp at hx;split at hx
  ·obtain rfl:x=ws:=by simpa using hx
   exact hw
  ·rcases List.mem_cons.1 hx with rfl|hx
   ·exact hw
   ·exact Tk ls _ (Aa0 hw) x hx
theorem X8 {ls:List Av}{ws:List Snd}(hw:Cc ws):Cc (Bl ls ws).2:=by
 unfold Bl;split
 ·intro s hs;simp at hs
 ·split
  ·intro s hs;simp at hs
  ·cases e:(Bp ls ws).2.getLast? with
   |none=>intro s hs;simp at hs
   |some x=>exact Tk ls ws hw x (List.mem_of_getLast? e)
theorem Px {ls:List Av}{ws:List Snd}(hl:D5 ls=0)(hw:Bx ws=0):Bx (Bl ls ws).2=0:=by
 unfold Bl;split
 ·rfl
 ·split
  ·rfl
  ·cases e:(Bp ls ws).2.getLast? with
   |none=>rfl
   |some x=>exact(Rk ls ws (Za hl).2 hw).2 x (List.mem_of_getLast? e)
theorem N7 {ls:List Av}{ss:List Snd}{k:Nat}(hw:Bg ls [] ss=0)(hk:k<=4)(hu:Cc ss){x y:List Snd}(h:(x,y)∈Ce ls ss k):x.length<=4/\y.length<=32/\Cc x/\Cc y:=by
 obtain⟨h1,h2,h3⟩:=C4 hw;unfold Ce at h;obtain⟨v,hv,e⟩:=List.mem_map.1 h;injection e with e1 e2
 subst e1;obtain⟨a4,a2⟩:=(Gy _ k v).1 (List.mem_filter.1 hv).1;have a1:∀s∈v,s∈ss:=fun s hs=>(Ju ss s).1 (a2 s hs)
 have a0:Cc v:=fun s hs=>hu s (a1 s hs)
 have a3:Bx v=0:=Rv (Bz h3).2.1 a1 (by omega);have hy:=Px h1 a3;rw[e2]at hy;refine⟨by omega, ?_,a0,by rw[←e2];exact X8 a0⟩;exact(Ky.1 hy).1
def F8 (fs:List Part)(qs:List Ci):List Part:=fs++qs.flatMap fun s=>[s.p,s.q]
def Dx (bm bf bo:Nat)(vf vo:Value)(fs:List Part)(qs:List Ci):Nat->Prop:=fun k=>
 k=bm\/k=bf\/k=bo\/vf.ownBlock=some k\/vo.ownBlock=some k∨∃p∈F8 fs qs,0<p.2.1∧∃ad,p.1=some ad/\ad.block=k
structure Dg (bp bm bf bo:Nat)(W1:World)(i:Nat)(vf vo:Value)(fs:List Part)(qs:List Ci)(D:DataW Unit)(X:World):Prop where
 lt:bp<W1.heap.size/\bm<W1.heap.size/\bf<W1.heap.size/\bo<W1.heap.size/\bp≠bm/\bp≠bf/\bp≠bo/\bm≠bf/\bm≠bo/\bf≠bo
 cp:X.heap[bp]? =some (.cells #[.map (some bm)] 157 (0,0))
 cf:X.heap[bf]? =some (.cells #[vf] 46 (0,0))
 co:X.heap[bo]? =some (.cells #[vo] 47 (0,0))
 om:X.ownsMap Tryz.prog 9 (plainElem (H:=Unit) Tryz.prog 3) bm i D
 of:X.ownsRow W1.heap.size 32 1 vf fs.length (fs.map Part.val)
 oo:X.ownsRow W1.heap.size 52 2 vo qs.length (qs.flatMap Ci.cells)
 pw:Je X (F8 fs qs)
 pd:∀p∈F8 fs qs,∀ad,p.1=some ad->W1.heap.size<=ad.block/\(0<p.2.1→¬vf.ownBlock=some ad.block∧¬vo.ownBlock=some ad.block)
 fo:∀k,vf.ownBlock=some k→¬vo.ownBlock=some k
 kp:Ae (fun k=>k=bm\/k=bf\/k=bo) W1 X
section
variable {bp bm bf bo:Nat}{W1:World}{i:Nat}{vf vo:Value}{fs:List Part}{qs:List Ci}{D:DataW Unit}{X X':World}
theorem Dg.wlt (h:Dg bp bm bf bo W1 i vf vo fs qs D X){p:Part}(hp:p∈F8 fs qs)(hn:0<p.2.1){ad:Addr}(had:p.1=some ad):ad.block<X.heap.size:=by
 obtain⟨b,off,hb,a0,_⟩:=(h.pw p hp).2.2.2.2 hn;rw[had]at hb;injection hb with hb;subst hb
 exact a0
theorem Dg.lts (h:Dg bp bm bf bo W1 i vf vo fs qs D X):∀k,Dx bm bf bo vf vo fs qs k->k<X.heap.size:=by
 rintro k (rfl|rfl|rfl|hk|hk|⟨p,hp,hn,ad,a0,rfl⟩)
 ·exact h.om.lt
 ·exact lt_of_block h.cf
 ·exact lt_of_block h.co
 ·exact(h.of.lt k hk).2
 ·exact(h.oo.lt k hk).2
 ·exact h.wlt hp hn a0
theorem Dg.nds (h:Dg bp bm bf bo W1 i vf vo fs qs D X):∀k,Dx bm bf bo vf vo fs qs k→∀x,X.heap[k]? ≠some (.deferred x):=by
 rintro k (rfl|rfl|rfl|hk|hk|⟨p,hp,hn,ad,a0,rfl⟩) x hx
 ·obtain⟨es,clock,hb,_⟩:=h.om;rw[hb]at hx;cases hx
 ·rw[h.cf]at hx;cases hx
 ·rw[h.co]at hx;cases hx
 ·obtain⟨cur,hc⟩:=Hf h.of hk;rw[hc]at hx;cases hx
 ·obtain⟨cur,hc⟩:=Hf h.oo hk;rw[hc]at hx;cases hx
 ·obtain⟨v,hv⟩:=Kw (h.pw p hp) hn a0;simp[World.cell?,hx]at hv
theorem Dg.keep (h:Dg bp bm bf bo W1 i vf vo fs qs D X)(hk:Ae (fun b=>W1.heap.size<=b∧¬Dx bm bf bo vf vo fs qs b) X X'):Dg bp bm bf bo W1 i vf vo fs qs D X':=by
 have hs:=h.kp.size;have a0:∀k,Dx bm bf bo vf vo fs qs k->X'.heap[k]? =X.heap[k]? :=fun k hT=>hk.block k (h.lts k hT) (fun e=>e.2 hT)
 have a1:X'.heap[bp]? =X.heap[bp]? :=hk.block bp (lt_of_block h.cp) (fun e=>by have:=h.lt.1;omega)
 refine⟨h.lt,a1.trans h.cp,(a0 _ (.inr (.inl rfl))).trans h.cf,(a0 _ (.inr (.inr (.inl rfl)))).trans h.co, ?_,Bo h.of fun k e=>a0 k (.inr (.inr (.inr (.inl e)))),Bo h.oo fun k e=>a0 k (.inr (.inr (.inr (.inr (.inl e))))),
  fun p hp=>(h.pw p hp).keep hk fun hn ad had e=>e.2 (.inr (.inr (.inr (.inr (.inr ⟨p,hp,hn,ad,had,rfl⟩))))),h.pd,h.fo, ?_⟩
 ·obtain⟨es,clock,hb,r⟩:=h.om;exact⟨es,clock,(a0 _ (.inl rfl)).trans hb,r⟩
 ·exact((h.kp.mono (S':=fun k=>(k=bm\/k=bf\/k=bo)\/W1.heap.size<=k) fun _ e=> .inl e).trans (hk.mono fun _ e=> .inr e.1)).old fun k hlt e=>e.resolve_right (by omega)
theorem Tl {p q:Part}(hp:p∈F8 (fs++[q]) qs):p∈F8 fs qs\/p=q:=by
 unfold F8 at*;rcases List.mem_append.1 hp with hp|hp
 ·rcases List.mem_append.1 hp with hp|hp
  ·exact .inl (List.mem_append.2 (.inl hp))
  ·exact .inr (by simpa using hp)
 ·exact .inl (List.mem_append.2 (.inr hp))
theorem Qv {p:Part}{s:Ci}(hp:p∈F8 fs (qs++[s])):p∈F8 fs qs\/p=s.p\/p=s.q:=by
 unfold F8 at*;rcases List.mem_append.1 hp with hp|hp
 ·exact .inl (List.mem_append.2 (.inl hp))
 ·rw[List.flatMap_append]at hp;rcases List.mem_append.1 hp with hp|hp
  ·exact .inl (List.mem_append.2 (.inr hp))
  ·exact .inr (by simpa using hp)
theorem Dg.upd (h:Dg bp bm bf bo W1 i vf vo fs qs D X){D':DataW Unit}{j:Nat}(hg:X.grownBy X' (some bm))(hm:X'.ownsMap Tryz.prog 9 (plainElem (H:=Unit) Tryz.prog 3) bm j D'):
  Dg bp bm bf bo W1 j vf vo fs qs D' X'/\Ae (fun k=>k=bm) X X':=by
 have hK:Ae (fun k=>k=bm) X X':=(Ae.refl (fun k=>k=bm) X).grown hg (fun k e=>by injection e with e;exact .inl e.symm);have hs:=h.kp.size;have hl:=h.lt;have ho:∀k,k<X.heap.size->k≠bm->X'.heap[k]? =X.heap[k]? :=fun k hk hn=>hK.block k hk hn
 refine⟨⟨h.lt,(ho _ (by omega) hl.2.2.2.2.1).trans h.cp,(ho _ (by omega) (fun e=>hl.2.2.2.2.2.2.2.1 e.symm)).trans h.cf,(ho _ (by omega) (fun e=>hl.2.2.2.2.2.2.2.2.1 e.symm)).trans h.co,hm,Bo h.of fun k e=>ho k (h.of.lt k e).2 (by have:=(h.of.lt k e).1;omega),
  Bo h.oo fun k e=>ho k (h.oo.lt k e).2 (by have:=(h.oo.lt k e).1;omega),fun p hp=>(h.pw p hp).keep hK fun hn ad had e=>by have:=(h.pd p hp ad had).1;omega,h.pd,h.fo,h.kp.trans (hK.mono fun _ e=> .inl e)⟩,hK⟩
theorem Dg.first (h:Dg bp bm bf bo W1 i vf vo fs qs D X){vf':Value}{p:Part}(hK:Ae (fun k=>vf.ownBlock=some k\/k=bf) X X')(hc:X'.heap[bf]? =some (.cells #[vf'] 46 (0,0)))
  (ho:X'.ownsRow W1.heap.size 32 1 vf' (fs++[p]).length ((fs++[p]).map Part.val)) (a2:∀k,vf'.ownBlock=some k->vf.ownBlock=some k\/X.heap.size<=k) (hp:Ab X p.1 p.2.1 p.2.2.1 p.2.2.2)
  (hd:∀ad,p.1=some ad->W1.heap.size<=ad.block∧¬Dx bm bf bo vf vo fs qs ad.block):Dg bp bm bf bo W1 i vf' vo (fs++[p]) qs D X'∧
   ∀k,Dx bm bf bo vf' vo (fs++[p]) qs k->Dx bm bf bo vf vo fs qs k\/X.heap.size<=k\/(0<p.2.1∧∃ad,p.1=some ad/\ad.block=k):=by
 have hs:=h.kp.size;have hl:=h.lt;have a5:∀k,vf.ownBlock=some k->W1.heap.size<=k:=fun k e=>(h.of.lt k e).1
 have a1:∀k,k<W1.heap.size->k≠bf→¬(vf.ownBlock=some k\/k=bf):=fun k h1 h2 e=>e.elim (fun e=>by have:=a5 k e;omega) h2
 have a6:0<p.2.1→∀ad,p.1=some ad->ad.block<X.heap.size:=fun hn ad a0=>by
  obtain⟨b,off,hb,a4,_⟩:=hp.2.2.2.2 hn;rw[a0]at hb;injection hb with hb;subst hb
  exact a4
 have a3:∀q∈F8 (fs++[p]) qs,Ab X q.1 q.2.1 q.2.2.1 q.2.2.2∧∀ad,q.1=some ad->W1.heap.size<=ad.block/\(0<q.2.1->ad.block<X.heap.size∧¬vf.ownBlock=some ad.block∧¬vo.ownBlock=some ad.block):=by
  intro q hq;rcases Tl hq with hq|rfl
  ·exact⟨h.pw q hq,fun ad a0=>⟨(h.pd q hq ad a0).1,fun hn=>⟨h.wlt hq hn a0,(h.pd q hq ad a0).2 hn⟩⟩⟩
  ·exact⟨hp,fun ad a0=>⟨(hd ad a0).1,fun hn=>⟨a6 hn ad a0,fun e=>(hd ad a0).2 (.inr (.inr (.inr (.inl e)))),fun e=>(hd ad a0).2 (.inr (.inr (.inr (.inr (.inl e)))))⟩⟩⟩
 refine⟨⟨h.lt,(hK.block _ (lt_of_block h.cp) (a1 _ hl.1 hl.2.2.2.2.2.1)).trans h.cp,hc,(hK.block _ (lt_of_block h.co) (a1 _ hl.2.2.2.1 (fun e=>hl.2.2.2.2.2.2.2.2.2 e.symm))).trans h.co, ?_,ho,
  Bo h.oo fun k e=>hK.block k (h.oo.lt k e).2 (fun e2=>e2.elim (fun e2=>h.fo k e2 e) (fun e2=>by have:=(h.oo.lt k e).1;omega)),fun q hq=> ?_,fun q hq ad a0=> ?_,fun k e e2=> ?_, ?_⟩,fun k hk=> ?_⟩
 ·obtain⟨es,clock,hb,r⟩:=h.om;exact⟨es,clock,(hK.block _ h.om.lt (a1 _ hl.2.1 hl.2.2.2.2.2.2.2.1)).trans hb,r⟩
 ·refine(a3 q hq).1.keep hK fun hn ad a0 e=> ?_
  have h1:=(a3 q hq).2 ad a0;rcases e with e|e
  ·exact(h1.2 hn).2.1 e
  ·omega
 ·have h1:=(a3 q hq).2 ad a0;refine⟨h1.1,fun hn=>⟨fun e=> ?_,(h1.2 hn).2.2⟩⟩
  rcases a2 _ e with e|e
  ·exact(h1.2 hn).2.1 e
  ·have:=(h1.2 hn).1;omega
 ·rcases a2 k e with e|e
  ·exact h.fo k e e2
  ·have:=(h.oo.lt k e2).2;omega
 ·refine((h.kp.mono (S':=fun k=>(k=bm\/k=bf\/k=bo)\/W1.heap.size<=k) (fun _ e=> .inl e)).trans (hK.mono (S':=fun k=>(k=bm\/k=bf\/k=bo)\/W1.heap.size<=k) fun k e=> ?_)).old fun k a4 e=>e.resolve_right (by omega)
  rcases e with e|e
  ·exact .inr (a5 k e)
  ·exact .inl (.inr (.inl e))
 ·rcases hk with e|e|e|e|e|⟨q,hq,hn,ad,a0,e⟩
  ·exact .inl (.inl e)
  ·exact .inl (.inr (.inl e))
  ·exact .inl (.inr (.inr (.inl e)))
  ·rcases a2 k e with e|e
   ·exact .inl (.inr (.inr (.inr (.inl e))))
   ·exact .inr (.inl e)
  ·exact .inl (.inr (.inr (.inr (.inr (.inl e)))))
  ·rcases Tl hq with hq|rfl
   ·exact .inl (.inr (.inr (.inr (.inr (.inr ⟨q,hq,hn,ad,a0,e⟩)))))
   ·exact .inr (.inr ⟨hn,ad,a0,e⟩)
theorem Dg.pair (h:Dg bp bm bf bo W1 i vf vo fs qs D X){vo':Value}{s:Ci}(hK:Ae (fun k=>vo.ownBlock=some k\/k=bo) X X')(hc:X'.heap[bo]? =some (.cells #[vo'] 47 (0,0)))
  (ho:X'.ownsRow W1.heap.size 52 2 vo' (qs++[s]).length ((qs++[s]).flatMap Ci.cells)) (a2:∀k,vo'.ownBlock=some k->vo.ownBlock=some k\/X.heap.size<=k)
  (hp:∀p,p=s.p\/p=s.q->Ab X p.1 p.2.1 p.2.2.1 p.2.2.2∧∀ad,p.1=some ad->W1.heap.size<=ad.block∧¬Dx bm bf bo vf vo fs qs ad.block):Dg bp bm bf bo W1 i vf vo' fs (qs++[s]) D X'∧
   ∀k,Dx bm bf bo vf vo' fs (qs++[s]) k->Dx bm bf bo vf vo fs qs k\/X.heap.size<=k∨∃p,(p=s.p\/p=s.q)/\0<p.2.1∧∃ad,p.1=some ad/\ad.block=k:=by
 have hs:=h.kp.size;have hl:=h.lt;have a5:∀k,vo.ownBlock=some k->W1.heap.size<=k:=fun k e=>(h.oo.lt k e).1
 have a1:∀k,k<W1.heap.size->k≠bo→¬(vo.ownBlock=some k\/k=bo):=fun k h1 h2 e=>e.elim (fun e=>by have:=a5 k e;omega) h2
 have a3:∀q∈F8 fs (qs++[s]),Ab X q.1 q.2.1 q.2.2.1 q.2.2.2∧∀ad,q.1=some ad->W1.heap.size<=ad.block/\(0<q.2.1->ad.block<X.heap.size∧¬vf.ownBlock=some ad.block∧¬vo.ownBlock=some ad.block):=by
  intro q hq;rcases Qv hq with hq|hq
  ·exact⟨h.pw q hq,fun ad a0=>⟨(h.pd q hq ad a0).1,fun hn=>⟨h.wlt hq hn a0,(h.pd q hq ad a0).2 hn⟩⟩⟩
  ·refine⟨(hp q hq).1,fun ad a0=>⟨((hp q hq).2 ad a0).1,fun hn=>⟨?_,fun e=>((hp q hq).2 ad a0).2 (.inr (.inr (.inr (.inl e)))),fun e=>((hp q hq).2 ad a0).2 (.inr (.inr (.inr (.inr (.inl e)))))⟩⟩⟩
   obtain⟨b,off,hb,a4,_⟩:=(hp q hq).1.2.2.2.2 hn;rw[a0]at hb;injection hb with hb;subst hb
   exact a4
 refine⟨⟨h.lt,(hK.block _ (lt_of_block h.cp) (a1 _ hl.1 hl.2.2.2.2.2.2.1)).trans h.cp,(hK.block _ (lt_of_block h.cf) (a1 _ hl.2.2.1 hl.2.2.2.2.2.2.2.2.2)).trans h.cf,hc, ?_,
  Bo h.of fun k e=>hK.block k (h.of.lt k e).2 (fun e2=>e2.elim (fun e2=>h.fo k e e2) (fun e2=>by have:=(h.of.lt k e).1;omega)),ho,fun q hq=> ?_,fun q hq ad a0=> ?_,fun k e e2=> ?_, ?_⟩,fun k hk=> ?_⟩
 ·obtain⟨es,clock,hb,r⟩:=h.om;exact⟨es,clock,(hK.block _ h.om.lt (a1 _ hl.2.1 hl.2.2.2.2.2.2.2.2.1)).trans hb,r⟩
 ·refine(a3 q hq).1.keep hK fun hn ad a0 e=> ?_
  have h1:=(a3 q hq).2 ad a0;rcases e with e|e
  ·exact(h1.2 hn).2.2 e
  ·omega
 ·have h1:=(a3 q hq).2 ad a0;refine⟨h1.1,fun hn=>⟨(h1.2 hn).2.1,fun e=> ?_⟩⟩
  rcases a2 _ e with e|e
  ·exact(h1.2 hn).2.2 e
  ·have:=(h1.2 hn).1;omega
 ·rcases a2 k e2 with e2|e2
  ·exact h.fo k e e2
  ·have:=(h.of.lt k e).2;omega
 ·refine((h.kp.mono (S':=fun k=>(k=bm\/k=bf\/k=bo)\/W1.heap.size<=k) (fun _ e=> .inl e)).trans (hK.mono (S':=fun k=>(k=bm\/k=bf\/k=bo)\/W1.heap.size<=k) fun k e=> ?_)).old fun k a4 e=>e.resolve_right (by omega)
  rcases e with e|e
  ·exact .inr (a5 k e)
  ·exact .inl (.inr (.inr e))
 ·rcases hk with e|e|e|e|e|⟨q,hq,hn,ad,a0,e⟩
  ·exact .inl (.inl e)
  ·exact .inl (.inr (.inl e))
  ·exact .inl (.inr (.inr (.inl e)))
  ·exact .inl (.inr (.inr (.inr (.inl e))))
  ·rcases a2 k e with e|e
   ·exact .inl (.inr (.inr (.inr (.inr (.inl e)))))
   ·exact .inr (.inl e)
  ·rcases Qv hq with hq|hq
   ·exact .inl (.inr (.inr (.inr (.inr (.inr ⟨q,hq,hn,ad,a0,e⟩)))))
   ·exact .inr (.inr ⟨q,hq,hn,ad,a0,e⟩)
theorem Dg.below (h:Dg bp bm bf bo W1 i vf vo fs qs D X)(hb:Below X.heap.size X X'):Dg bp bm bf bo W1 i vf vo fs qs D X':=h.keep (Aj hb)
end
end Go.Proofs.YtlgliddhideflaaGreatDoor
namespace Go.Proofs
open Go.Shelf
def Tryz.lays169_ren:Go.Shelf.Ren:=⟨fun|169=>171|n=>n,fun|70=>200|9=>9|0=>0|72=>202|37=>101|127=>237|3=>3|5=>5|n=>n,fun|n=>n⟩
theorem Tryz.lays169:Go.Proofs.Lays.n169 Tryz.prog Tryz.lays169_ren:={
 mixed:=by kernel_rfl
 f169:=Tryz.func171.trans (congrArg some (by kernel_rfl))
 t0:=Tryz.underlying0
 a0:=Tryz.isAgg0
 z0:=Tryz.sizeOf0
 v0:=Tryz.zeroValue0
 t3:=Tryz.underlying3
 a3:=Tryz.isAgg3
 z3:=Tryz.sizeOf3
 v3:=Tryz.zeroValue3
 t9:=Tryz.underlying9
 a9:=Tryz.isAgg9
 z9:=Tryz.sizeOf9
 v9:=Tryz.zeroValue9
 t37:=Tryz.underlying101
 a37:=Tryz.isAgg101
 z37:=Tryz.sizeOf101
 v37:=Tryz.zeroValue101
 t70:=Tryz.underlying200
 a70:=Tryz.isAgg200
 z70:=Tryz.sizeOf200
 v70:=Tryz.zeroValue200
 t72:=Tryz.underlying202
 a72:=Tryz.isAgg202
 z72:=Tryz.sizeOf202
 v72:=Tryz.zeroValue202
 t127:=Tryz.underlying237
 a127:=Tryz.isAgg237
 z127:=Tryz.sizeOf237
 v127:=Tryz.zeroValue237}
end Go.Proofs
namespace Go.Proofs.YtlgliddhideflaaGreatDoor
open Go.RowKit Go.Shelf
theorem Nh:Builder.Extra Tryz.prog Tryz.lays169_ren where
 sizeBuilder:=by kernel_rfl
 liesBuilder:=by kernel_rfl
 t5:=Tryz.underlying5
 a5:=Tryz.isAgg5
 z5:=Tryz.sizeOf5
 v5:=Tryz.zeroValue5
 infoByte:=by kernel_rfl
 cellsByte:=by kernel_rfl
 sizeByte:=by kernel_rfl
 neB5:=by decide
theorem Yz:(Tryz.prog.info? 5).map (fun i=>(i.zero,i.size,i.bytes))=some (some (.int .u8 0),1,1):=by kernel_rfl
theorem Y0 (b:Nat)(w:World)(h:w.cell? ⟨b,0,none⟩=some (.pointer (some ⟨b,0,none⟩))):
  Calls Tryz.prog 206 #[.pointer (some ⟨b,0,none⟩)] w fun e w'=>e= .returned (.tuple #[])/\w'=w:=by
 obtain⟨i,hi, -⟩:=Option.map_eq_some_iff.1 Nh.sizeBuilder;go_enter Tryz.func206,Tryz.ntmps206;go_wp2;rw[Lib.run_neq_ptr_same w _ Tryz.underlying200 hi];go_wp2
 go_end0
 exact⟨rfl,rfl⟩
theorem We (b:Nat)(w:World)(h:w.cell? ⟨b,0,none⟩=some (.pointer none))(hs:w.shape? b=some (202,2))(hf:w.frozen? ⟨b,0,none⟩=false):
  Calls Tryz.prog 206 #[.pointer (some ⟨b,0,none⟩)] w fun e w'=>e= .returned (.tuple #[])/\w'=w.setCell ⟨b,0,none⟩ (.pointer (some ⟨b,0,none⟩)):=by
 obtain⟨i,hi,hz⟩:=Option.map_eq_some_iff.1 Nh.sizeBuilder;go_enter Tryz.func206,Tryz.ntmps206;go_wp2;rw[Lib.run_to_unsafe w ⟨b,0,none⟩ Tryz.underlying200 Tryz.underlying257 hi (by rw[hz];decide) hs (Nat.zero_lt_succ 1)];simp only[Result.andThen];rw[Oper.upon_value];go_wp2;rw[run_callFunc_extern Tryz.func236 (by kernel_rfl) (by kernel_rfl) (by kernel_rfl) (e:=Extern.AbiNoEscape.same) (by kernel_rfl),Lib.run_noEscape];simp only[Result.andThen];rw[Oper.upon_value];go_wp2;rw[Lib.run_from_unsafe w ⟨b,0,none⟩ Tryz.underlying257 Tryz.underlying200 hi hs Nh.liesBuilder];simp only[Result.andThen];rw[Oper.upon_value];go_wp2
 go_end0
 exact⟨rfl,rfl⟩
theorem Agn (B b:Nat)(bs:List Value)(w:World)(h:Lib.IsBuilderF 202 5 B b bs w):
  Calls Tryz.prog 206 #[.pointer (some ⟨b,0,none⟩)] w fun e w'=>e= .returned (.tuple #[])/\(Lib.BuilderAtF 202 5 B b (.pointer (some ⟨b,0,none⟩)) bs w'/\Below B w w'/\Lib.OthersKept 5 (some b) w w'):=by
 cases h with
 |inl h=>
  refine(We b w h.cell0 h.shape h.frozen0).mono ?_;rintro e w' ⟨he,hw⟩;subst he hw;exact⟨rfl,h.used _,(Below.refl B w).setCell (p:=⟨b,0,none⟩) h.1 _,(Lib.OthersKept.refl _ _ w).setCell ⟨b,0,none⟩ rfl _⟩
 |inr h=>
  refine(Y0 b w h.cell0).mono ?_;rintro e w' ⟨he,hw⟩;subst he hw;exact⟨rfl,h,Below.refl B _,Lib.OthersKept.refl _ _ _⟩
theorem Ui (B b:Nat)(bs:List Value)(c:Int)(w:World)(h:Lib.IsBuilderF 202 5 B b bs w)(hlen:bs.length+1<=4096)(hBw:B<=w.heap.size):
  Calls Tryz.prog 170 #[.pointer (some ⟨b,0,none⟩), .int .u8 c] w fun e w'=>e= .returned .nilIface/\(Lib.IsBuilderF 202 5 B b (bs++[.int .u8 c]) w'/\Below B w w'/\Lib.OthersKept 5 (some b) w w'):=by
 obtain⟨i0,hi,a3,a7,a4⟩:=info_parts Yz;go_enter Tryz.func170,Tryz.ntmps170;go_wp2_with fail;refine(Agn B b bs _ h).mono ?_;rintro e w1 ⟨he,⟨hB,v,hk,ho,a8⟩,a2,a6⟩;subst he;have a9:=a2.size;have a5:=lt_of_block hk;have c0:w1.cell? ⟨b,0,none⟩=some (.pointer (some ⟨b,0,none⟩)):=by rw[Lib.cell_of_heap hk];rfl
 have c1:w1.cell? ⟨b,1,none⟩=some v:=by rw[Lib.cell_of_heap hk];rfl
 go_wp2_with(at_builtin;refine wpList_append_ownF _ rfl _ _ 101 rfl B 5 i0 (.int .u8 0) 1 1 Tryz.underlying101 hi a3 a7 a4 rfl (by decide) _ _ _ rfl (ho.alloc _) ⟨w1.heap.size,0,none⟩ 1 1 [.int .u8 c] rfl rfl ?d1 ?d2 ?d3 ?d4 ?d5 ?_)
 case d1=>exact cell_one_new _ _ _
 case d2=>intro u hu;simp at hu;subst hu;rfl
 case d3=>unfold maxLen;omega
 case d4=>omega
 case d5=>simp;omega
 intro v' w2 a1 hg _
 obtain⟨g,cap,rfl⟩:∃g cap,v'= .slice (some ⟨g,0,none⟩) (bs.length+1) cap:=by
  rcases a1.2 with⟨_,h0⟩|⟨g,cap,cur,fz,hv,_⟩
  ·omega
  ·exact⟨g,cap,hv⟩
 have a0:w2.heap[b]? =some (.cells #[.pointer (some ⟨b,0,none⟩),v] 202 (0,0)):=
  (hg.block b (by simp;omega) (fun e=>a8 e.symm)).trans ((Ah a5).trans hk)
 have d0:w2.cell? ⟨b,0,none⟩=some (.pointer (some ⟨b,0,none⟩)):=by rw[Lib.cell_of_heap a0];rfl
 have d1:w2.cell? ⟨b,1,none⟩=some v:=by rw[Lib.cell_of_heap a0];rfl
 have f1:w2.frozen? ⟨b,1,none⟩=false:=Lib.frozen_of_heap a0 1;go_wp2;go_ret;refine⟨rfl, .inr (Lib.BuilderAtF.put hB a0 (by simpa using a1) (by decide)), ?_,((a6.alloc _).grown hg (Lib.ownsRowF_kind (ho.alloc _))).setCell ⟨b,1,none⟩ rfl _⟩;exact((a2.alloc (by omega) _).grown hg (by simp;omega) (fun k hk=>(ho.lt k hk).1)).setCell (p:=⟨b,1,none⟩) hB _
theorem Abr (B b:Nat)(l:List UInt8)(w:World)(h:Lib.IsBuilderF 202 5 B b (Lib.byteCells l) w)(hBw:B<=w.heap.size):
  Calls Tryz.prog 171 #[.pointer (some ⟨b,0,none⟩)] w fun e w'=>e= .returned (.string ⟨l.toArray⟩)/\(Lib.IsBuilderF 202 5 B b (Lib.byteCells l) w'/\Below B w w'/\Lib.OthersKept 5 (some b) w w'):=Any.Builder_String_any_k Tryz.lays169 Nh B b l w h hBw
theorem Abs (p m:Int):∀i:Nat,i<4->(Kv (p,m)).take (2*(i+1))=(Kv (p,m)).take (2*i)++[F5 p i,F5 m i]
 |0,_=>rfl
 |1,_=>rfl
 |2,_=>rfl
 |3,_=>rfl
 |_+4,h=>by omega
theorem Y7 (T:List UInt8)(p m:Int)(i:Nat)(hi:i<4):
  Lib.byteCells (T++(Kv (p,m)).take (2*i))++[.int .u8 (p/2^(8*i)%256)]++[.int .u8 (m/2^(8*i)%256)]=Lib.byteCells (T++(Kv (p,m)).take (2*(i+1))):=by
 rw[Abs p m i hi,←List.append_assoc,Lib.byteCells_append (T++(Kv (p,m)).take (2*i)),←L2 p i,←L2 m i,List.append_assoc];rfl
theorem Y8 {xs:List Snd}{j:Nat}{s:Snd}(h:xs[j]? =some s):Dy (xs.take j)++(Kv s).take (2*4)=Dy (xs.take (j+1)):=by
 unfold Dy;rw[Ba xs j s h,List.flatMap_append,List.flatMap_cons,List.flatMap_nil,List.append_nil];rfl
theorem Abt (A:Option Addr)(n c:Nat)(xs:List Snd)(w:World)(hx:Ab w A n c xs)(hn:n<=40):
  Calls Tryz.prog 126 #[.slice A n c] w fun e w'=>e= .returned (.string ⟨(Dy xs).toArray⟩)/\Below w.heap.size w w':=by
 have HL:Hid (xs.length=n):=hx.len;have HX:=hI hx;clear hx;go_enter Tryz.func126,Tryz.ntmps126;go_wp2;have b3:Lib.IsBuilderF 202 5 w.heap.size w.heap.size (Lib.byteCells []) (w.alloc (.cells #[.pointer none, .slice none 0 0] 202)):=Lib.IsBuilderF.of (Lib.fresh_isBuilder 202 5 w);have b1:Below w.heap.size w (w.alloc (.cells #[.pointer none, .slice none 0 0] 202)):=bel
 go_loopw [9] (fun vi wr=>∃j:Nat,vi= .int .i64 j/\j<=n/\Lib.IsBuilderF 202 5 w.heap.size w.heap.size (Lib.byteCells (Dy (xs.take j))) wr/\Below w.heap.size w wr) (fun vi _=>n-(intOf vi).toNat)
 case atStart=>exact⟨0,rfl,Nat.zero_le _,b3,b1⟩
 case round=>
  clear b3 b1;obtain⟨j,rfl,hj,a0,hB⟩:=hrel;have a5:=hB.size;have a8:w.heap.size<wr.heap.size:=by rcases a0 with h|h<;>exact h.lt
  by_cases hlt:(j:Int)<(n:Int)
  ·have b4:j<n:=by omega
   obtain⟨b,off,p,m,rfl,d1,hs,d5,d2⟩:=(HX.out.below hB rr).at_ b4;go_wp2_with fail;have a2:=a0.alloc (.cells #[.int .u32 p, .int .u32 m] 24);have a1:(wr.alloc (.cells #[.int .u32 p, .int .u32 m] 24)).heap[wr.heap.size]? =some (.cells #[.int .u32 p, .int .u32 m] 24 (0,0)):=Ak rfl;have a3:Below w.heap.size w (wr.alloc (.cells #[.int .u32 p, .int .u32 m] 24)):=hB.alloc a5 _;generalize(wr.alloc (.cells #[.int .u32 p, .int .u32 m] 24))=wa at*;obtain⟨bs,b8⟩:∃bs,bs=wr.heap.size:=⟨_,rfl⟩;rw[←b8]at a1 a8 ⊢;clear b8 a0 d5 d2 d1 hB a5;have HS:=hI hs;clear hs
   go_loopw [13] (fun vi wr2=>∃i:Nat,vi= .int .i64 i/\i<=4/\Lib.IsBuilderF 202 5 w.heap.size w.heap.size (Lib.byteCells (Dy (xs.take j)++(Kv (p,m)).take (2*i))) wr2/\Below w.heap.size w wr2∧
    wr2.heap[bs]? =some (.cells #[.int .u32 p, .int .u32 m] 24 (0,0))) (fun vi _=>4-(intOf vi).toNat)
   case atStart=>exact⟨0,rfl,Nat.zero_le _,by simpa using a2,a3,a1⟩
   case round=>
    clear a2 a3 a1;obtain⟨i,rfl,hi,a0,hB,hg⟩:=hrel;have a5:=hB.size;have g0:wr.cell? ⟨bs,0,none⟩=some (.int .u32 p):=by rw[Lib.cell_of_heap hg];rfl
    have g1:wr.cell? ⟨bs,1,none⟩=some (.int .u32 m):=by rw[Lib.cell_of_heap hg];rfl
    have d6:(Lib.byteCells (Dy (xs.take j)++(Kv (p,m)).take (2*i))).length<=2000:=by
     rw[Lib.byteCells_length,List.length_append,Rj,List.length_take,List.length_take]
     have:(Kv (p,m)).length=8:=rfl
     omega
    by_cases hi4:(i:Int)<4
    ·have a7:=Y7 (Dy (xs.take j)) p m i (by omega);obtain⟨L0,b9⟩:∃L0,L0=Lib.byteCells (Dy (xs.take j)++(Kv (p,m)).take (2*i)):=⟨_,rfl⟩;rw[←b9]at a0 d6 a7;have d3:=hI a7;clear a7 b9;go_wp2_with fail;refine(Ui w.heap.size w.heap.size L0 _ wr a0 (by omega) a5).mono ?_;rintro e w2 ⟨rfl,a2,a4,b5⟩;have a1:=b5 bs _ hg (fun e=>by have:=Option.some.inj e;omega) (fun _ _ e=>by injection e with _ e _;cases e);have a3:=hB.trans a4;have a6:=a3.size;have g2:w2.cell? ⟨bs,1,none⟩=some (.int .u32 m):=by rw[Lib.cell_of_heap a1];rfl
     clear a0 a4 b5 hg hB g0 g1;go_wp2_with fail;refine(Ui w.heap.size w.heap.size _ _ w2 a2 (by simp;omega) a6).mono ?_;rintro e w3 ⟨rfl,a9,b6,b2⟩;have b7:=b2 bs _ a1 (fun e=>by have:=Option.some.inj e;omega) (fun _ _ e=>by injection e with _ e _;cases e);have b0:=a3.trans b6;rw[d3.out]at a9;clear a2 b6 b2 a1 a3 g2;go_wp2
     go_roundw
     case rel=>first|exact⟨i+1,by go_num,by omega,a9,b0,b7⟩|((repeat apply Exists.intro);exact⟨⟨i+1,by go_num,by omega,a9,b0,b7⟩,rfl⟩)
     case measure=>simp[intOf];omega
    ·obtain rfl:i=4:=by omega
     have d4:=hI (Y8 HS.out);rw[d4.out]at a0;go_wp2_with fail;refine⟨⟨j+1,by go_num,by omega,a0,hB⟩, ?_⟩;simp[intOf];omega
  ·have b4:j=n:=by omega
   have HM:Hid (Dy (xs.take j)=Dy xs):=by show _=_;rw[List.take_of_length_le (by rw[HL.out];omega)]
   rw[HM.out]at a0;go_wp2_with fail;refine(Abr w.heap.size w.heap.size (Dy xs) wr a0 a5).mono ?_;rintro e w2 ⟨rfl,a2,a4, -⟩;have d0:=hI (hB.trans a4);clear a0 a2 a4 hB;go_wp2;go_ret;exact⟨rfl,d0.out⟩
end Go.Proofs.YtlgliddhideflaaGreatDoor
namespace Go.Proofs.YtlgliddhideflaaGreatDoor
open Go.RowKit Go.Shelf
attribute [local go_sem] Oper.semAt_some
theorem Yb:(Tryz.prog.info? 52).map (fun i=>(i.zero,i.size,i.bytes))=some (some (.agg #[.slice none 0 0, .slice none 0 0]),2,48):=by kernel_rfl
theorem Bb.shut {B:Nat}{w w':World}{A:Option Addr}{n c sz:Nat}{vs:List Value}(h:Bb w A n c sz vs)(hs:E4 B w w'):Bb w' A n c sz vs:=by
 obtain⟨h1,h2,h3,h4,h5⟩:=h;refine⟨h1,h2,h3,h4,fun hn=> ?_⟩
 obtain⟨b,off,rfl,a0,hc⟩:=h5 hn;refine⟨b,off,rfl,by rw[hs.size];exact a0,fun j v hv=> ?_⟩
 rcases hs.block b with e|⟨_,x,e⟩
 ·exact(World.cell?_of_block e).trans (hc j v hv)
 ·have:=hc j v hv
  unfold World.cell? at this
  simp_all
theorem Fp.shut {B:Nat}{w w':World}{A:Option Addr}{n c:Nat}{ss:List Ci}(h:Fp w A n c ss)(hs:E4 B w w'):Fp w' A n c ss:=
 ⟨⟨h.1.1.shut hs,h.1.2⟩,fun s hs'=>⟨(h.2 s hs').1.shut hs,(h.2 s hs').2.shut hs⟩⟩
theorem D2.low {w:World}{B b:Nat}{v u:Value}{ss:List Ci}(h:D2 w B v ss)(hb:b<B):D2 (w.setCell ⟨b,0,none⟩ u) B v ss:=by
 have hk:Ae (fun k=>k=b) w (w.setCell ⟨b,0,none⟩ u):=(Ae.refl (fun k=>k=b) w).setCell (p:=⟨b,0,none⟩) rfl _;have ha:∀p,H7 B v w p->H7 B v (w.setCell ⟨b,0,none⟩ u) p:=fun p hp=>⟨hp.1.keep hk fun hn ad had e=>by have:=(hp.2 ad had).1;omega,hp.2⟩
 exact⟨Bo h.own fun k e=>hk.block k (h.own.lt k e).2 (by have:=(h.own.lt k e).1;omega),fun s hs=>⟨ha _ (h.pq s hs).1,ha _ (h.pq s hs).2⟩,Nat.le_trans h.sz hk.size⟩
end Go.Proofs.YtlgliddhideflaaGreatDoor
namespace Go.Proofs.YtlgliddhideflaaGreatDoor
open Go.RowKit Go.Shelf Go.Maps Go.WideMaps
theorem Dg.mono {bp bm bf bo:Nat}{W1:World}{i j:Nat}{vf vo:Value}{fs:List Part}{qs:List Ci}{D:DataW Unit}{X:World}(h:Dg bp bm bf bo W1 i vf vo fs qs D X)(hj:i<=j):Dg bp bm bf bo W1 j vf vo fs qs D X:=
 ⟨h.lt,h.cp,h.cf,h.co,h.om.mono hj,h.of,h.oo,h.pw,h.pd,h.fo,h.kp⟩
theorem Tm (y:List Snd)(hl:y.length<=32):keyOf Tryz.prog 9 (.string ⟨(Dy y).toArray⟩)=some (L3 y):=by
 have h:=keyOf_string_mk (P:=Tryz.prog) (k:=9) (s:=⟨(Dy y).toArray⟩) Tryz.underlying9 (by
  show((Dy y).toArray).size<=maxLen;rw[List.size_toArray,Rj];unfold maxLen;omega)
 rw[h];rfl
theorem X9 {bm i:Nat}{D:DataW Unit}{w:World}(h:w.ownsMap Tryz.prog 9 (plainElem (H:=Unit) Tryz.prog 3) bm i D)(y:List Snd)(hl:y.length<=32):
  ∃c:Int,(Instr.lookup 157 (.map (some bm)) (.string ⟨(Dy y).toArray⟩) true).run Tryz.prog w= .ok (.tuple #[.int .i64 c, .bool (Go.Maps.has D (L3 y))]) w/\D.atKey (L3 y) (.lit (.int .i64 0))= .lit (.int .i64 c):=by
 obtain⟨v,ps,a0,hv⟩:=h.look_ok (string_keyed Tryz.underlying9) Tryz.underlying157 (Tryz.zeroValue3 w) (plainElem_int Tryz.underlying3 (by decide)) (Tm y hl);obtain⟨c,rfl,hc, -⟩:=plainElem_int_inv Tryz.underlying3 hv;simp only[Prod.mk.injEq]at hc;exact⟨c,a0,hc.1⟩
theorem Aco (bp bm bf bo:Nat)(W1:World)(i:Nat)(vf vo:Value)(fs:List Part)(qs:List Ci)(D:DataW Unit)(ds:List (List Snd×List Snd))(Af:Option Addr)(nf cf:Nat)(x:List Snd)(At:Option Addr)(nt ct:Nat)(y:List Snd)(X:World)
  (h:Dg bp bm bf bo W1 i vf vo fs qs D X) (hP:Gb D ds) (hfd:fs.map Part.word=ds.map (·.1)) (hx:Ab X Af nf cf x) (hy:Ab X At nt ct y) (hyu:Cc y) (hyl:y.length<=32) (hdu:∀p∈ds,Cc p.2) (hdl:∀p∈ds,p.1.length<=4)
  (hfa:∀ad,Af=some ad->W1.heap.size<=ad.block∧¬Dx bm bf bo vf vo fs qs ad.block) (hi:i<=4000) (hfi:fs.length<=i) (hqi:qs.length<=i):
  Calls Tryz.prog 125 (#[.slice Af nf cf, .slice At nt ct]++ #[.pointer (some ⟨bp,0,none⟩), .pointer (some ⟨bo,0,none⟩), .pointer (some ⟨bf,0,none⟩)]) X fun e X'=>(∃v,e= .returned v)/\Ae (Dx bm bf bo vf vo fs qs) X X'∧
   ((∃p vo' s,ds.find? (fun p=>decide (p.2=y))=some p/\Ci.data s=(p.1,x)/\Dg bp bm bf bo W1 (i+1) vf vo' fs (qs++[s]) D X'∧
    ∀k,Dx bm bf bo vf vo' fs (qs++[s]) k->Dx bm bf bo vf vo fs qs k\/X.heap.size<=k\/(0<nf∧∃ad,Af=some ad/\ad.block=k))∨
    (∃vf' D',ds.find? (fun p=>decide (p.2=y))=none/\Gb D' (ds++[(x,y)])/\Dg bp bm bf bo W1 (i+1) vf' vo (fs++[(Af,nf,cf,x)]) qs D' X'∧
     ∀k,Dx bm bf bo vf' vo (fs++[(Af,nf,cf,x)]) qs k->Dx bm bf bo vf vo fs qs k\/X.heap.size<=k\/(0<nf∧∃ad,Af=some ad/\ad.block=k))):=by
 obtain⟨Ao,ko,rfl⟩:=B1 h.oo;obtain⟨A8,k8,rfl⟩:=B1 h.of;have cp:=cell_of_one h.cp;have f8:nt<=40:=by have:=hy.len;omega
 have HH:=hI h;have HP:=hI hP;have d5:=hI hfd;have HX:=hI hx;have HY:=hI hy;have g2:=hI hyu;have i5:=hI hdu;have i6:=hI hdl;have d4:=hI hfa;clear h hP hfd hx hy hyu hdu hdl hfa;go_enter Tryz.func125,Tryz.ntmps125;go_wp2_with fail;refine Bs (fun W'=>W'.cell? ⟨bp,0,none⟩=some (.map (some bm))) (by kernel_rfl) cp (fun a0=> ?_)
 (refine' Aa 0 rfl ?_;(try simp only[Act.put,nY,nX]));(refine' Aa 1 rfl ?_;(try simp only[Act.put,nY,nX]))
 (refine Agz 2 rfl (fun K' hK'=> ?_);simp only[nY];go_simp)
 refine(Abt At nt ct y _ (HY.out.below (B:=X.heap.size) ((Below.refl X.heap.size X).drew) rr) f8).mono ?_;rintro e w1 ⟨rfl,g3⟩;have a1:Below X.heap.size X w1:=(Below.refl X.heap.size X).drew.trans g3;have a9:=hI (HH.out.below a1);have cp1:=cell_of_one a9.out.cp;obtain⟨cc,b2,a5⟩:=X9 a9.out.om y hyl;refine hK' _ _ ⟨.inr cp1,fun _=> ?_⟩
 clear hK' K' cp
 (try simp only[Act.put,nY,nX])
 (refine Agz 3 rfl (fun K' hK'=> ?_);simp only[nY];go_simp)
 refine hK' _ _ ⟨.inr cp1,fun _=> ?_⟩
 clear hK' K' a0 b2
 (try simp only[Act.put,nY,nX])
 (refine' Aa 4 rfl ?_;(try simp only[Act.put,nY,nX]));(refine' Aa 5 rfl ?_;(try simp only[Act.put,nY,nX]));(refine' Aa 6 rfl ?_;(try simp only[Act.put,nY,nX]))
 (refine Agz 7 rfl (fun K' hK'=> ?_);simp only[nY];go_simp)
 refine hK' _ _ ⟨.inr cp1,fun _=> ?_⟩
 clear hK' K'
 (try simp only[Act.put,nY,nX])
 (refine Agz 8 rfl (fun K' hK'=> ?_);simp only[nY];go_simp)
 refine hK' _ _ ⟨.inl (by kernel_rfl),fun _=>Be (by kernel_rfl) ?_ _⟩
 clear hK' K';rcases Wd HP.out g2.out with⟨hh,j,p,hj,a3,b9⟩|⟨hh,a3,d0⟩
 ·rw[hh]
  have g9:cc=(j:Int):=by
   rw[b9]at a5;injection a5 with a5;injection a5 with _ a5
   exact a5.symm
  subst g9;clear a5 b9;have j4:j<ds.length:=(List.getElem?_eq_some_iff.1 hj).1;have d1:fs.length=ds.length:=by have:=congrArg List.length d5.out;simpa using this
  obtain⟨⟨Ap,np,cq,wp⟩,d2⟩:∃q,fs[j]? =some q:=⟨fs[j]'(by omega),List.getElem?_eq_getElem _⟩
  have d9:wp=p.1:=by
   have h5:=congrArg (fun l:List (List Snd)=>l[j]?) d5.out;simp only[List.getElem?_map,d2,hj,Option.map_some,Option.some.injEq]at h5;exact h5
  have d6:Ab w1 Ap np cq wp:=a9.out.pw _ (List.mem_append.2 (.inl (List.mem_of_getElem? d2)))
  have i3:np<=4096:=by
   have h5:=i6.out p (List.mem_of_getElem? hj);have h6:=d6.len;rw[d9]at h6;omega
  obtain⟨gf,of,vv,j1,b8,f4,g4⟩:=(Bb.of_own a9.out.of (by decide)).at1 (k:=j) (by omega);rw[List.getElem?_map,d2]at f4;have b4:w1.cell? ⟨gf,of+j,none⟩=some (.slice Ap np cq):=by rw[g4,←f4];rfl
  clear f4;subst j1;have co1:=cell_of_one a9.out.co;have cf1:=cell_of_one a9.out.cf;have i2:=hI d6;have j3:=hI d9;have a7:=hI a3;have j7:j<fs.length:=by omega
  clear d6 d9 a3 d2 hj g4 hh cp1 j4 d1;go_wp2_with fail;refine Bs (fun W'=>W'.cell? ⟨bo,0,none⟩=some (.slice Ao qs.length ko)/\W'.cell? ⟨bf,0,none⟩=some (.slice (some ⟨gf,of,none⟩) fs.length k8)/\W'.cell? ⟨gf,of+j,none⟩=some (.slice Ap np cq)) (by kernel_rfl) ⟨co1,cf1,b4⟩ (fun a0=> ?_)
  (refine' Aa 0 rfl ?_;(try simp only[Act.put,nY,nX]));(refine' Aa 1 rfl ?_;(try simp only[Act.put,nY,nX]));(refine' Aa 2 rfl ?_;(try simp only[Act.put,nY,nX]));(refine' Aa 3 rfl ?_;(try simp only[Act.put,nY,nX]));(refine' Aa 4 rfl ?_;(try simp only[Act.put,nY,nX]));(refine' Aa 6 rfl ?_;(try simp only[Act.put,nY,nX]))
  (refine Agz 5 rfl (fun K' hK'=> ?_);simp only[nY];go_simp)
  refine(L4 Ap np cq wp _ (i2.out.below (B:=w1.heap.size) ((Below.refl w1.heap.size w1).drew) rr) i3).mono ?_;rintro e w2 ⟨A3,n3,c3,rfl,g5,g7,b5⟩;have a4:Below w1.heap.size w1 w2:=(Below.refl w1.heap.size w1).drew.trans g7;have b1:=hI (a9.out.below a4);have co2:=cell_of_one b1.out.co;have cf2:=cell_of_one b1.out.cf;have cr2:w2.cell? ⟨gf,of+j,none⟩=some (.slice Ap np cq):=(World.cell?_of_block (a4.block gf b8)).trans b4;refine hK' _ _ ⟨.inr ⟨co2,cf2,cr2⟩,fun _=> ?_⟩
  clear hK' K' a0 co1 cf1 b4
  (try simp only[Act.put,nY,nX])
  have a0:w2.cell? ⟨bo,0,none⟩=some (.slice Ao qs.length ko)/\w2.cell? ⟨bf,0,none⟩=some (.slice (some ⟨gf,of,none⟩) fs.length k8)/\w2.cell? ⟨gf,of+j,none⟩=some (.slice Ap np cq):=⟨co2,cf2,cr2⟩
  (refine' Aa 7 rfl ?_;(try simp only[Act.put,nY,nX]))
  (refine Agz 8 rfl (fun K' hK'=> ?_);simp only[nY];go_simp)
  have a6:=hI (b1.out.below (X':=w2.alloc (.cells #[.slice A3 n3 c3, .slice Af nf cf] 52)) ((Below.refl _ _).alloc rr _));have f1:∀u:Nat,u<2→∀v,[Value.slice A3 n3 c3,Value.slice Af nf cf][u]? =some v->(w2.alloc (.cells #[.slice A3 n3 c3, .slice Af nf cf] 52)).cell? ⟨w2.heap.size,u,none⟩=some v:=fun u _ v hv=>B6 (by simpa using hv)
  have co3:=cell_of_one a6.out.co;have cf3:=cell_of_one a6.out.cf;have f3:gf<w2.heap.size:=Nat.lt_of_lt_of_le b8 a4.size;have cr3:(w2.alloc (.cells #[.slice A3 n3 c3, .slice Af nf cf] 52)).cell? ⟨gf,of+j,none⟩=some (.slice Ap np cq):=(Au (by simpa using f3)).trans cr2;have j6:(w2.alloc (.cells #[.slice A3 n3 c3, .slice Af nf cf] 52)).heap.size=w2.heap.size+1:=by simp
  have f0:Below w2.heap.size w2 (w2.alloc (.cells #[.slice A3 n3 c3, .slice Af nf cf] 52)):=(Below.refl _ _).alloc rr _;refine hK' _ _ ⟨.inr ⟨co3,cf3,cr3⟩,fun _=> ?_⟩
  clear hK' K' a0 co2 cf2 cr2
  (try simp only[Act.put,nY,nX])
  generalize(w2.alloc (.cells #[.slice A3 n3 c3, .slice Af nf cf] 52))=w3 at*;refine Agz 9 rfl (fun K' hK'=> ?_);rw[if_pos (by rfl)];have g8:=a6.out.kp.size
  refine Cf (.tmp 17) (.tmp 25) 47 rfl W1.heap.size 52 (.agg #[.slice none 0 0, .slice none 0 0]) 2 48 Tryz.underlying47 Yb rfl (by decide) (.slice Ao qs.length ko) qs.length (qs.flatMap Ci.cells) (by rfl) a6.out.oo ⟨w2.heap.size,0,none⟩ 1 1 [.slice A3 n3 c3, .slice Af nf cf] (by rfl) rfl
   (fun u v hv=>by
    match u,hv with
    |0,hv=>simpa[Addr.add]using f1 0 (by omega) v hv
    |1,hv=>simpa[Addr.add]using f1 1 (by omega) v hv
    |u+2,hv=>simp at hv) (by intro u hu;simp at hu;rcases hu with rfl|rfl<;>rfl) (by unfold maxLen;omega) (by omega) g8 ?_
  intro vo' X2 a2 hg _ a5;obtain⟨A9,k9,rfl⟩:=B1 a2;have hl:=a6.out.lt;have a8:∀k,(Value.slice Ao qs.length ko).ownBlock=some k->W1.heap.size<=k:=fun k e=>(a6.out.oo.lt k e).1
  have x2:∀k,k<w3.heap.size->(Value.slice Ao qs.length ko).ownBlock≠some k->X2.heap[k]? =w3.heap[k]? :=fun k hk hn=>hg.block k hk (fun e=>hn e.symm)
  have xo:=(x2 bo (lt_of_block a6.out.co) (fun e=>by have:=a8 _ e;omega)).trans a6.out.co;have xf:=(x2 bf (lt_of_block a6.out.cf) (fun e=>by have:=a8 _ e;omega)).trans a6.out.cf;have xr:X2.cell? ⟨gf,of+j,none⟩=some (.slice Ap np cq):=(World.cell?_of_block (x2 gf (by omega) (fun e=>a6.out.fo gf rfl e))).trans cr3;have co4:=cell_of_one xo;have fo4:=free_of_one xo;have cf4:=cell_of_one xf;have b3:Ae (fun k=>(Value.slice Ao qs.length ko).ownBlock=some k\/k=bo) w3 (X2.setCell ⟨bo,0,none⟩ (.slice A9 (qs.length+1) k9)):=(((Ae.refl (fun k=>(Value.slice Ao qs.length ko).ownBlock=some k) w3).grown hg (fun k e=> .inl e)).mono fun k e=> .inl e).setCell (p:=⟨bo,0,none⟩) (.inr rfl) _
  have d3:Below X.heap.size X w3:=(a1.trans (a4.mono a1.size)).trans (f0.mono (by have:=a1.size;have:=a4.size;omega));have g1:w1.drew.heap.size=w1.heap.size:=rfl;rw[g1]at b5;have f5:=a1.size;have j0:=a4.size;have b7:=a9.out.lts;have i8:=a9.out.kp.size
  obtain⟨p1,p2⟩:=a6.out.pair (s:=⟨(A3,n3,c3,wp),(Af,nf,cf,x)⟩) b3 (one_setCell xo) (by
    rw[List.length_append,List.length_singleton,List.flatMap_append,List.flatMap_singleton];exact Bo (w:=X2) a2 fun k e=>Below.heap_setCell _ _ _ _ (by have:=(a2.lt k e).1;simp;omega)) (fun k e=>by
    rcases a5 with h|h
    ·exact .inl (by rw[←h];exact e)
    ·rw[h]at e;injection e with e;exact .inr (by omega)) (fun q hq=>by
    rcases hq with rfl|rfl
    ·exact⟨g5.below f0 rr,fun ad b6=>by
      have h5:=b5 ad b6;exact⟨by omega,fun e=>by have:=b7 _ e;omega⟩⟩
    ·exact⟨HX.out.below d3 rr,d4.out⟩)
  have P1:=hI p1
  have P2:Hid (∀k,Dx bm bf bo (.slice (some ⟨gf,of,none⟩) fs.length k8) (.slice A9 (qs.length+1) k9) fs (qs++[⟨(A3,n3,c3,wp),(Af,nf,cf,x)⟩]) k->Dx bm bf bo (.slice (some ⟨gf,of,none⟩) fs.length k8) (.slice Ao qs.length ko) fs qs k\/X.heap.size<=k\/(0<nf∧∃ad,Af=some ad/\ad.block=k)):=fun k hk=>by
   rcases p2 k hk with h|h|⟨q,rfl|rfl,hn,ad,b6,h⟩
   ·exact .inl h
   ·exact .inr (.inl (by omega))
   ·exact .inr (.inl (by have:=b5 ad b6;omega))
   ·exact .inr (.inr ⟨hn,ad,b6,h⟩)
  have P3:Hid (Ae (Dx bm bf bo (.slice (some ⟨gf,of,none⟩) fs.length k8) (.slice Ao qs.length ko) fs qs) X (X2.setCell ⟨bo,0,none⟩ (.slice A9 (qs.length+1) k9))):=(Aj d3).trans (b3.mono fun k e=>e.elim (fun e=> .inr (.inr (.inr (.inr (.inl e))))) (fun e=> .inr (.inr (.inl e))))
  clear p1 p2 b3 a2 hg a5 x2 xo xf a8 g5 g7 a4 b5 f0 d3 f1 g1 b7;refine hK' _ _ ⟨.inr ⟨co4,cf4,xr⟩,fun _=> ?_⟩
  clear hK' K' co3 cf3 cr3
  (try simp only[Act.put,nY,nX])
  (refine Agz 10 rfl (fun K' hK'=> ?_);simp only[nY];go_simp)
  refine hK' _ _ ⟨.inl (by kernel_rfl),fun _=>Be (by kernel_rfl) ?_ _⟩
  clear hK' K' co4 fo4 cf4 xr;go_wp2;refine bodyPost_ret (results_none rfl _ _ _) rfl ?_;exact⟨⟨_,rfl⟩,P3.out, .inl ⟨p,_,_,a7.out,by show(wp,x)=_;rw[j3.out],P1.out.mono (Nat.le_succ _),P2.out⟩⟩
 ·rw[hh];have d1:fs.length=ds.length:=by have:=congrArg List.length d5.out;simpa using this
  have a7:=hI a3;have d8:=hI d0;have cf1:=cell_of_one a9.out.cf;clear a3 d0 a5 hh;have i7:=hI d1;clear d1;go_wp2_with fail;refine Bs (fun W'=>W'.cell? ⟨bp,0,none⟩=some (.map (some bm))/\W'.cell? ⟨bf,0,none⟩=some (.slice A8 fs.length k8)) (by kernel_rfl) ⟨cp1,cf1⟩ (fun a0=> ?_)
  (refine' Aa 0 rfl ?_;(try simp only[Act.put,nY,nX]));(refine' Aa 1 rfl ?_;(try simp only[Act.put,nY,nX]));(refine' Aa 3 rfl ?_;(try simp only[Act.put,nY,nX]));(refine' Aa 4 rfl ?_;(try simp only[Act.put,nY,nX]))
  (refine Agz 2 rfl (fun K' hK'=> ?_);simp only[nY];go_simp)
  refine(Abt At nt ct y _ (HY.out.below (B:=X.heap.size) (a1.trans ((Below.refl w1.heap.size w1).drew.mono a1.size)) rr) f8).mono ?_;rintro e w2 ⟨rfl,f7⟩;have b0:Below w1.heap.size w1 w2:=(Below.refl w1.heap.size w1).drew.trans f7;have b1:=hI (a9.out.below b0);have cp2:=cell_of_one b1.out.cp;have cf2:=cell_of_one b1.out.cf;refine hK' _ _ ⟨.inr ⟨cp2,cf2⟩,fun _=> ?_⟩
  clear hK' K' a0 cp1 cf1
  (try simp only[Act.put,nY,nX])
  obtain⟨w3,b2,g6,g0⟩:=b1.out.om.update (string_keyed Tryz.underlying9) Tryz.underlying157 (show i<maxLen by unfold maxLen;omega) (Tm y hyl) (plainElem_int (a:=(fs.length:Int)) Tryz.underlying3 (WalkArith.wf_i64 (by omega)))
  (refine Agz 5 rfl (fun K' hK'=> ?_);simp only[nY];go_simp)
  have d7:=b1.out.upd g0 g6;have HU:=hI d7.1;have f9:=hI d7.2
  have i4:Hid (Gb (D.put (L3 y) (.lit (.int .i64 (fs.length:Int)))) (ds++[(x,y)])):=by
   have h5:=Yy (x:=(x,y)) HP.out i5.out g2.out d8.out;rw[←i7.out]at h5;exact h5
  refine hK' _ _ ⟨.inl (by kernel_rfl),fun _=>Be (by kernel_rfl) ?_ _⟩
  clear hK' K' cp2 cf2 b2 g6 g0 d7;have cf3:=cell_of_one HU.out.cf;have f5:=a1.size;have j8:=b0.size;have j0:=f9.out.size;have i8:=HU.out.kp.size;have b5:=lt_of_block HU.out.cf;have j5:=HU.out.lt.2.1;have f2:Ae (fun k=>k=bm) X w3:=(Aj (a1.trans (b0.mono f5))).trans f9.out;have i9:=HH.out.kp.size;have f6:Ab w3 Af nf cf x:=HX.out.keep f2 fun _ ad b6 e=>by have:=(d4.out ad b6).1;omega
  have i1:=hI f6;have i0:=hI f2;clear g3 a1 f7 b0 f6 f2;go_wp2_with(at_builtin;refine Ql rfl (.tmp 32) (.tmp 34) rfl W1.heap.size (.slice A8 fs.length k8) fs.length (fs.map Part.val) rfl (HU.out.of.alloc _) ⟨w3.heap.size,0,none⟩ 1 (.slice Af nf cf) rfl (cell_one_new _ _ _) rfl (by omega) ?hz2 ?hc2)
  case hz2=>simp;omega
  case hc2=>
   intro vf' X2 a2 hg a5;obtain⟨A9,k9,rfl⟩:=B1 a2;have a8:∀k,(Value.slice A8 fs.length k8).ownBlock=some k->W1.heap.size<=k:=fun k e=>(HU.out.of.lt k e).1
   have hl:=HU.out.lt;have j2:some bf≠(Value.slice A8 fs.length k8).ownBlock:=fun e=>by have:=a8 bf e.symm;omega
   have x7:=(hg.block bf (by simp;omega) j2).trans ((Ah b5).trans HU.out.cf);have c7':=cell_of_one x7;have f7':=free_of_one x7;have b3:Ae (fun k=>(Value.slice A8 fs.length k8).ownBlock=some k\/k=bf) w3 (X2.setCell ⟨bf,0,none⟩ (.slice A9 (fs.length+1) k9)):=((((Ae.refl (fun k=>(Value.slice A8 fs.length k8).ownBlock=some k) w3).alloc _).grown hg (fun k e=> .inl e)).mono fun k e=> .inl e).setCell (p:=⟨bf,0,none⟩) (.inr rfl) _
   obtain⟨p1,p2⟩:=HU.out.first (p:=(Af,nf,cf,x)) b3 (one_setCell x7) (by
     rw[List.length_append,List.length_singleton,List.map_append,List.map_singleton];exact Bo (w:=X2) a2 fun k e=>Below.heap_setCell _ _ _ _ (by have:=(a2.lt k e).1;simp;omega)) (fun k e=>by
     rcases a5 with h|h
     ·exact .inl (by rw[←h];exact e)
     ·rw[h]at e;injection e with e;exact .inr (by omega)) i1.out d4.out
   have P1:=hI p1
   have P2:Hid (∀k,Dx bm bf bo (.slice A9 (fs.length+1) k9) (.slice Ao qs.length ko) (fs++[(Af,nf,cf,x)]) qs k->Dx bm bf bo (.slice A8 fs.length k8) (.slice Ao qs.length ko) fs qs k\/X.heap.size<=k\/(0<nf∧∃ad,Af=some ad/\ad.block=k)):=fun k hk=>by
    rcases p2 k hk with h|h|h
    ·exact .inl h
    ·exact .inr (.inl (by omega))
    ·exact .inr (.inr h)
   have P3:Hid (Ae (Dx bm bf bo (.slice A8 fs.length k8) (.slice Ao qs.length ko) fs qs) X (X2.setCell ⟨bf,0,none⟩ (.slice A9 (fs.length+1) k9))):=(i0.out.mono fun k e=> .inl e).trans (b3.mono fun k e=>e.elim (fun e=> .inr (.inr (.inr (.inl e)))) (fun e=> .inr (.inl e)))
   clear p1 p2 b3 a2 hg a5 x7 cf3;go_wp2;refine bodyPost_end (results_none rfl _ _ _) rfl ?_;exact⟨⟨_,rfl⟩,P3.out, .inr ⟨_,_,a7.out,i4.out,P1.out,P2.out⟩⟩
theorem R9:∀(xs fs:List (List Snd×List Snd)),∀p∈C9 xs fs,p∈xs\/p∈fs
 |[],fs,p,h=> .inr h
 |x::r,fs,p,h=>by
  unfold C9 at h;split at h
  ·exact(R9 r fs p h).imp (fun h=>List.mem_cons_of_mem _ h) id
  ·rcases R9 r (fs++[x]) p h with h|h
   ·exact .inl (List.mem_cons_of_mem _ h)
   ·rcases List.mem_append.1 h with h|h
    ·exact .inr h
    ·obtain rfl:p=x:=by simpa using h
     exact .inl List.mem_cons_self
def Agd (bp bm bf bo:Nat)(W1:World)(L:List (List Snd×List Snd))(i:Nat)(T:Nat->Prop)(X:World):Prop:=
 ∃vf vo fs qs D,T=Dx bm bf bo vf vo fs qs/\fs.map Part.word=(C9 (L.take i) []).map (·.1)/\qs.map Ci.data=Dv (L.take i) []/\Gb D (C9 (L.take i) [])/\fs.length<=i/\qs.length<=i/\Dg bp bm bf bo W1 i vf vo fs qs D X
theorem Aam (A:Option Addr)(n c:Nat)(xs:List Bu)(As:Option Addr)(ns cs:Nat)(ss:List Snd)(k:Int)(w:World)(hx:Bw w A n c xs)(hs:Ab w As ns cs ss)(hT:B7 w)(hu:Cc ss):
  Calls Tryz.prog 48 #[.slice A n c, .slice As ns cs, .int .i64 k] w (Aan w (J8 (Am xs) ss k)):=by
 have HX:=hI hx;have HS:=hI hs;have HT:=hI hT;have b3:=hI hu;clear hx hs hT hu;have b8:= @run_makeMap Tryz.prog;go_enter Tryz.func48,Tryz.ntmps48;go_wp2_with fail;clear b8;have hB:Below w.heap.size w ((((w.alloc (.map #[] 0)).alloc (.cells #[.map (some w.heap.size)] 157)).alloc (.cells #[.slice none 0 0] 46)).alloc (.cells #[.slice none 0 0] 47)):=bel;have hsz:((((w.alloc (.map #[] 0)).alloc (.cells #[.map (some w.heap.size)] 157)).alloc (.cells #[.slice none 0 0] 46)).alloc (.cells #[.slice none 0 0] 47)).heap.size=w.heap.size+4:=by simp
 have h0:Dg (w.heap.size+1) w.heap.size (w.heap.size+1+1) (w.heap.size+1+1+1) ((((w.alloc (.map #[] 0)).alloc (.cells #[.map (some w.heap.size)] 157)).alloc (.cells #[.slice none 0 0] 46)).alloc (.cells #[.slice none 0 0] 47)) 0 (.slice none 0 0) (.slice none 0 0) [] [] (.map [])
   ((((w.alloc (.map #[] 0)).alloc (.cells #[.map (some w.heap.size)] 157)).alloc (.cells #[.slice none 0 0] 46)).alloc (.cells #[.slice none 0 0] 47)):=
  ⟨by rw[hsz];omega,hpt,hpt,hpt,(((World.ownsMap_made w _ _ _).alloc _).alloc _).alloc _,World.ownsRow_nil _ _ _ _,World.ownsRow_nil _ _ _ _,fun p hp=>by simp[F8]at hp,fun p hp=>by simp[F8]at hp,fun k e=>(by cases e),Ae.refl _ _⟩
 generalize((((w.alloc (.map #[] 0)).alloc (.cells #[.map (some w.heap.size)] 157)).alloc (.cells #[.slice none 0 0] 46)).alloc (.cells #[.slice none 0 0] 47))=W1 at*;obtain⟨bp,a7⟩:∃b,b=w.heap.size+1:=⟨_,rfl⟩;obtain⟨bf,a9⟩:∃b,b=w.heap.size+1+1:=⟨_,rfl⟩;obtain⟨bo,b2⟩:∃b,b=w.heap.size+1+1+1:=⟨_,rfl⟩;rw[←b2,←a9,←a7]at h0 ⊢;obtain⟨bm,a8⟩:∃b,b=w.heap.size:=⟨_,rfl⟩;rw[←a8]at h0 ⊢;have d6:w.heap.size<=bm/\w.heap.size<=bf/\w.heap.size<=bo:=by omega
 clear a7 a9 b2 a8 hsz;have HB:=hI hB;have H0:=hI h0;clear hB h0;have b1:Hid (∀X,Ae (fun b=>b=bm\/b=bf\/b=bo) W1 X->Below w.heap.size w X):=fun X h=>HB.out.trans (h.to_below (B:=w.heap.size) (fun b hb=>by rcases hb with rfl|rfl|rfl<;>omega) HB.out.size)
 refine(Nk A n c xs As ns cs ss k 125 #[.pointer (some ⟨bp,0,none⟩), .pointer (some ⟨bo,0,none⟩), .pointer (some ⟨bf,0,none⟩)] W1 (fun i T X=>Agd bp bm bf bo W1 (Ce (Am xs) ss k.toNat) i T X)
  (Dx bm bf bo (.slice none 0 0) (.slice none 0 0) [] []) ?hu ?h0 (enters_of Tryz.func125 (by kernel_rfl) rfl)).mono ?_
 case h0=>exact⟨_,_,[],[],_,rfl,rfl,rfl,Wc,rr,rr,H0.out⟩
 case hu=>
  refine⟨?hB, ?hlt, ?hst, ?hnd, ?hrd, ?hy⟩
  case hB=>rintro i T X ⟨vf,vo,fs,qs,D,rfl, -, -, -, -, -,h⟩;exact h.kp.size
  case hlt=>rintro i T X ⟨vf,vo,fs,qs,D,rfl, -, -, -, -, -,h⟩;exact h.lts
  case hst=>rintro i T X X' ⟨vf,vo,fs,qs,D,rfl,h1,h2,h3,h4,h5,h⟩ hk;exact⟨vf,vo,fs,qs,D,rfl,h1,h2,h3,h4,h5,h.keep hk⟩
  case hnd=>rintro i T X ⟨vf,vo,fs,qs,D,rfl, -, -, -, -, -,h⟩;exact h.nds
  case hrd=>
   rintro i T X ⟨vf,vo,fs,qs,D, -, -, -, -, -, -,h⟩;have hX:=b1.out X h.kp;exact⟨HX.out.below hX rr,HS.out.below hX rr,HT.out.below hX rr⟩
  case hy=>
   rintro i T X Af nf cf u At nt ct y hr a3 a1 b9 b7 d2 d5 ⟨vf,vo,fs,qs,D,rfl,h1,h2,h3,h4,h5,h⟩;obtain⟨d7,b4⟩:=(show True/\B2 ss=0 from⟨trivial,(C4 hr).2.2⟩);have d1:=Li (ls:=Am xs) (Bz b4).2.2 (Bz b4).1 a3;have hi:i<(Ce (Am xs) ss k.toNat).length:=(List.getElem?_eq_some_iff.1 a1).1;have b0:=N7 hr a3 b3.out (List.mem_of_getElem? a1)
   have b5:∀p∈C9 ((Ce (Am xs) ss k.toNat).take i) [],p.1.length<=4/\p.2.length<=32/\Cc p.1/\Cc p.2:=fun p hp=>by
    rcases R9 _ _ p hp with h|h
    ·exact N7 hr a3 b3.out (x:=p.1) (y:=p.2) (List.mem_of_mem_take h)
    ·simp at h
   refine(Aco bp bm bf bo W1 i vf vo fs qs D _ Af nf cf u At nt ct y X h h3 h1 b9 b7 b0.2.2.2 b0.2.1 (fun p hp=>(b5 p hp).2.2.2) (fun p hp=>(b5 p hp).1) d2 (by omega) h4 h5).mono ?_;rintro e W'' ⟨hv,hK,⟨p,vo',s,hf,d4,hW,hb⟩|⟨vf',D',hf,d0,hW,hb⟩⟩
   ·have a0:=Pg (x:=(u,y)) (P:=(Ce (Am xs) ss k.toNat).take i) hf;have a5:=Ba _ i _ a1;rw[←a5]at a0
    exact⟨hv,hK,_,⟨vf,vo',fs,qs++[s],D,rfl,by rw[a0.2];exact h1,by rw[a0.1,List.map_append,h2,List.map_singleton,d4],by rw[a0.2];exact h3,by omega,by rw[List.length_append];simp;omega,hW⟩,
     fun b hb'=>(hb b hb').imp id fun h=>h.imp id .inl⟩
   ·have a0:=Ph (x:=(u,y)) (P:=(Ce (Am xs) ss k.toNat).take i) hf;have a5:=Ba _ i _ a1;rw[←a5]at a0
    exact⟨hv,hK,_,⟨vf',vo,fs++[(Af,nf,cf,u)],qs,D',rfl,by rw[a0.2,List.map_append,List.map_append,h1];rfl,by rw[a0.1];exact h2,by rw[a0.2];exact d0,by rw[List.length_append];simp;omega,by omega,hW⟩,
     fun b hb'=>(hb b hb').imp id fun h=>h.imp id .inl⟩
 rintro e X ⟨rfl,i,T,⟨vf,vo,fs,qs,D, -, -,a2, -, -, -,hL⟩,hi⟩;obtain⟨Ao,ko,rfl⟩:=B1 hL.oo;have a6:=hI (b1.out X hL.kp);have co:=cell_of_one hL.co;have d3:Hid (Fp X Ao qs.length ko qs):=⟨Fc.of_own hL.oo Ci.len (by decide),fun s hs=>⟨hL.pw _ (List.mem_append.2 (.inr (List.mem_flatMap.2 ⟨s,hs,by simp⟩))),hL.pw _ (List.mem_append.2 (.inr (List.mem_flatMap.2 ⟨s,hs,by simp⟩)))⟩⟩
 obtain⟨er,a4⟩:∃er,er=Cb (Am xs) ss k:=⟨_,rfl⟩;rw[←a4]at hi ⊢;have b6:=hI a4;clear a4;by_cases h0:er=0
 ·have h1:(er !=0)=false:=by simpa using h0
  have HM:Hid (J8 (Am xs) ss k=(0,qs.map Ci.data)):=by
   show _=_;unfold J8;rw[←b6.out,if_neg (by simpa using h0),a2,hi h0,List.take_length]
  clear h0 hi a2 hL;go_wp2;exact bodyPost_ret (results_tmp2 Tryz.results48 _ _ _) rfl ⟨Ao,qs.length,ko,qs,by rw[HM.out];rfl,by rw[HM.out],d3.out,a6.out⟩
 ·have h1:(er !=0)=true:=by simpa using h0
  have HM:Hid (J8 (Am xs) ss k=(er,[])):=by show _=_;unfold J8;rw[←b6.out,if_pos h0]
  clear h0 hi a2 hL co;go_wp2;exact bodyPost_ret (results_tmp2 Tryz.results48 _ _ _) rfl ⟨none,0,0,[],by rw[HM.out];rfl,by rw[HM.out];rfl,⟨⟨Bb.nil _ _,rfl⟩,fun s hs=>by simp at hs⟩,a6.out⟩
end Go.Proofs.YtlgliddhideflaaGreatDoor
