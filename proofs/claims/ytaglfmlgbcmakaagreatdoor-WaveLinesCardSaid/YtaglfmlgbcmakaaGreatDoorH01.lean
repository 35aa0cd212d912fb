/-
  The examples of the statements' own package: sounds and laws.
  Strict orders, in plain words (the same as in text InvS: never import both).
  Waves in their order (chapter 38), in plain words: those before which none comes, one, two and so on, are all in order.
  Shortest ways (chapters 36 and 38), in plain words: what a distance is; ways over more and more points (the document's); the nearest open point first (the program's).
  When a wave arrives (chapter 38), in plain words: the program's test for numbers too large and the document's are the same.
  Maps of places (chapter 36), in plain words: roads, the roads at each point, what is refused.
  What points.New refuses, in plain words.
  A number or -1 where there is none.
  Sorting a rising list by another order that does not tell all elements apart: the sort keeps equal ones as they stand (slices.SortStableFunc over few elements), in plain words.
  Waves (chapter 38), in plain words: what is refused, when waves arrive, lines, forms, where one wave comes before another.
  The examples of chapter 38, in plain words.
  Maps in memory (chapter 36).
  A map that bears the names that have been seen, in plain words.
  slices.Clone of strings and of roads; (*points.Map).Roads.
  points.Map: Len, has.
  slices.MinFunc, DeleteFunc, SortFunc and an insertion sort at this program: tables of numbers, and facts of the program (written by the kit's lay-plain).
-/
import Derived.Sort.LotA
import Derived.Maps.Own
import Derived.Maps.Views
import Derived.Shelf.SlCmpFuncs.MinMaxFunc
import Derived.Shelf.SlicesE.DeleteFunc
import Derived.Shelf.SlSortCmp.NoneTotal
import Derived.Shelf.SlGeneric
import Derived.Test.YtaglfmlgbcmakaaGreatDoorG34
import Derived.Test.YtaglfmlgbcmakaaGreatDoorG14
set_option linter.all false
set_option maxRecDepth 100000
set_option maxHeartbeats 4000000
namespace Go.Proofs.YtaglfmlgbcmakaaGreatDoor
open Go.RowKit Go.Shelf
theorem P1 (w:World):Calls Tryz.prog 48 #[] w fun e w'=>e= .returned (Ed sA.1 sA.2)/\Below w.heap.size w w':=by
 go_enter Tryz.func48,Tryz.ntmps48;go_wp2;refine bodyPost_ret (Gi Tryz.results48 _ _ w.heap.size 5 2 rfl ?_) rfl ⟨rfl, ?_⟩
 ·exact Ak rfl
 ·exact bel
theorem Afu (w:World):Calls Tryz.prog 49 #[] w fun e w'=>e= .returned (Ed sP.1 sP.2)/\Below w.heap.size w w':=by
 go_enter Tryz.func49,Tryz.ntmps49;go_wp2;refine bodyPost_ret (Gi Tryz.results49 _ _ w.heap.size 2 5 rfl ?_) rfl ⟨rfl, ?_⟩
 ·exact Ak rfl
 ·exact bel
theorem Ak1 (w:World):Calls Tryz.prog 73 #[] w fun e w'=>e= .returned (Ed sB.1 sB.2)/\Below w.heap.size w w':=by
 go_enter Tryz.func73,Tryz.ntmps73;go_wp2;refine bodyPost_ret (Gi Tryz.results73 _ _ w.heap.size 3 4 rfl ?_) rfl ⟨rfl, ?_⟩
 ·exact Ak rfl
 ·exact bel
theorem Amf (w:World):Calls Tryz.prog 90 #[] w (Afy w fD):=by
 obtain⟨a,ha⟩:∃a:D8,a={Al:=none,cl:=0,Ar:=none,cr:=0,Ai:=some ⟨w.heap.size+1,0,none⟩,ci:=1,Ao:=none,co:=0}:=⟨_,rfl⟩;go_enter Tryz.func90,Tryz.ntmps90;go_wp2_with(refine Us rfl (.tmp 0) (.tmp 4) rfl w.heap.size fD a rfl (by rw[ha];rfl) (t:=55) ((Az (by simp)).trans (Ak rfl)) rfl ?_;intro W1 g1 g2 g3);have h1:=(g2.block (w.heap.size+1) (by simp) (by omega)).trans (Ak (by simp));refine bodyPost_ret (Jp Tryz.results90 _ _ w.heap.size fD a rfl g1) rfl ⟨a,rfl, ?_, ?_⟩
 ·subst ha;exact⟨Rg _,Rg _,Ya (s:=(4,0)) h1,⟨Am.nil _ _,rfl⟩,by decide⟩
 ·exact Below.trans bel (g2.to_below (B:=w.heap.size) (fun k hk=>by omega) (by simp;omega))
theorem Amg (w:World):Calls Tryz.prog 89 #[] w (Afy w vD):=by
 obtain⟨a,ha⟩:∃a:D8,a={Al:=none,cl:=0,Ar:=none,cr:=0,Ai:=some ⟨w.heap.size+1+1,0,none⟩,ci:=1,Ao:=some ⟨w.heap.size+1+1+1,0,none⟩,co:=1}:=⟨_,rfl⟩;go_enter Tryz.func89,Tryz.ntmps89;go_wp2_with(refine Us rfl (.tmp 0) (.tmp 11) rfl w.heap.size vD a rfl (by rw[ha];rfl) (t:=55) (by repeat(first|exact Ak sd|rw[Az sd])) rfl ?_;intro W1 g1 g2 g3);have h1:=(g2.block (w.heap.size+1+1) (by simp) (by omega)).trans (show _=some (.cells #[.int .u32 2, .int .u32 0] 49 (0,0))by repeat(first|exact Ak sd|rw[Az sd]));have h2:=(g2.block (w.heap.size+1+1+1) (by simp) (by omega)).trans (show _=some (.cells #[.int .i64 0, .int .u32 0, .int .u32 1, .int .u32 0, .int .u32 0, .int .i64 0] 104 (0,0))by repeat(first|exact Ak sd|rw[Az sd]));refine bodyPost_ret (Jp Tryz.results89 _ _ w.heap.size vD a rfl g1) rfl ⟨a,rfl, ?_, ?_⟩
 ·subst ha;refine⟨Rg _,Rg _,Ya (s:=(2,0)) h1,⟨⟨rfl,rr,(by decide:1<=maxLen),(fun h=>by cases h),fun _=>⟨w.heap.size+1+1+1,0,rfl,lt_of_block h2,fun j v hv=> ?_⟩⟩,rfl⟩,by decide⟩
  rw[Nat.zero_add];refine Ad h2 ?_;have a0:[Value.int .i64 0, .int .u32 0, .int .u32 1, .int .u32 0, .int .u32 0, .int .i64 0][j]? =some v:=hv;simpa using a0
 ·exact Below.trans bel (g2.to_below (B:=w.heap.size) (fun k hk=>by omega) (by simp;omega))
end Go.Proofs.YtaglfmlgbcmakaaGreatDoor
namespace Go.Proofs.YtaglfmlgbcmakaaGreatDoor
open Go.RowKit
section
variable {α:Type}
structure Ho (lt:α->α->Bool):Prop where
 irr:∀a,lt a a=false
 tr:∀a b c,lt a b=true->lt b c=true->lt a c=true
 tot:∀a b,lt a b=false->lt b a=false->a=b
theorem L3 {lt:α->α->Bool}(h:Ho lt):∀xs ys:List α,xs.Pairwise (fun a b=>lt a b=true)->ys.Pairwise (fun a b=>lt a b=true)->(∀a,a∈xs↔a∈ys)->xs=ys
 |[],[],_,_,_=>rfl
 |[],y::ys,_,_,hm=>by have:=(hm y).2 List.mem_cons_self;cases this
 |x::xs,[],_,_,hm=>by have:=(hm x).1 List.mem_cons_self;cases this
 |x::xs,y::ys,hx,hy,hm=>by
  rw[List.pairwise_cons]at hx hy
  have a0:x=y:=by
   rcases List.mem_cons.1 ((hm x).1 List.mem_cons_self)with e|e
   ·exact e
   ·rcases List.mem_cons.1 ((hm y).2 List.mem_cons_self)with e'|e'
    ·exact e'.symm
    ·have h1:=hy.1 x e;have h2:=hx.1 y e';have h3:=h.tr _ _ _ h1 h2;rw[h.irr]at h3;cases h3
  subst a0;congr 1;refine L3 h xs ys hx.2 hy.2 fun a=>⟨fun ha=> ?_,fun ha=> ?_⟩
  ·rcases List.mem_cons.1 ((hm a).1 (List.mem_cons_of_mem _ ha))with e|e
   ·subst e;have:=hx.1 a ha;rw[h.irr]at this;cases this
   ·exact e
  ·rcases List.mem_cons.1 ((hm a).2 (List.mem_cons_of_mem _ ha))with e|e
   ·subst e;have:=hy.1 a ha;rw[h.irr]at this;cases this
   ·exact e
end
section
variable {lt:Nat->Nat->Bool}
def E8 (lt:Nat->Nat->Bool)(m i:Nat):Nat:=((List.range m).filter fun k=>lt k i).length
theorem Pl {α:Type}{p q:α->Bool}(h:∀a,p a=true->q a=true):∀l:List α,(l.filter p).length<=(l.filter q).length
 |[]=>rr
 |x::l=>by
  have ih:=Pl h l;rw[List.filter_cons,List.filter_cons];by_cases hp:p x=true
  ·rw[if_pos hp,if_pos (h x hp)];simp;exact ih
  ·rw[if_neg hp];split
   ·simp;omega
   ·exact ih
theorem Gl {α:Type}{p q:α->Bool}(h:∀a,p a=true->q a=true){y:α}(hp:p y=false)(hq:q y=true):∀l:List α,y∈l->(l.filter p).length<(l.filter q).length
 |[],hy=>by cases hy
 |x::l,hy=>by
  rw[List.filter_cons,List.filter_cons];rcases List.mem_cons.1 hy with e|hy
  ·subst e;rw[if_neg (by simp[hp]),if_pos hq]
   have:=Pl h l
   simp;omega
  ·have ih:=Gl h hp hq l hy;by_cases hpx:p x=true
   ·rw[if_pos hpx,if_pos (h x hpx)];simp;exact ih
   ·rw[if_neg hpx];split
    ·simp;omega
    ·exact ih
theorem Zk (h:Ho lt){m i j:Nat}(hi:i<m)(hij:lt i j=true):E8 lt m i<E8 lt m j:=
 Gl (p:=fun k=>lt k i) (q:=fun k=>lt k j) (fun k hk=>h.tr k i j hk hij) (h.irr i) hij _ (List.mem_range.2 hi)
theorem Zl (h:Ho lt){m i:Nat}(hi:i<m):E8 lt m i<m:=by
 have:=Gl (p:=fun k=>lt k i) (q:=fun _=>true) (fun _ _=>rfl) (h.irr i) rfl (List.range m) (List.mem_range.2 hi)
 rw[List.filter_eq_self.2 (fun _ _=>rfl),List.length_range]at this;exact this
def E9 (lt:Nat->Nat->Bool)(p:Nat->Bool)(m:Nat):List Nat:=(List.range m).flatMap fun n=>(List.range m).filter fun i=>decide (E8 lt m i=n) && p i
theorem Fy (h:Ho lt)(p:Nat->Bool)(m i:Nat):i∈E9 lt p m↔i<m/\p i=true:=by
 unfold E9;rw[List.mem_flatMap];constructor
 ·rintro⟨n,_,hi⟩;obtain⟨h1,h2⟩:=List.mem_filter.1 hi;rw[Bool.and_eq_true]at h2;exact⟨List.mem_range.1 h1,h2.2⟩
 ·rintro⟨h1,h2⟩;exact⟨E8 lt m i,List.mem_range.2 (Zl h h1),List.mem_filter.2 ⟨List.mem_range.2 h1,by simp[h2]⟩⟩
theorem Jk (h:Ho lt)(p:Nat->Bool)(m:Nat):(E9 lt p m).Pairwise (fun a b=>lt a b=true):=by
 have key:∀ns:List Nat,ns.Pairwise (fun a b=>a<b)->(ns.flatMap fun n=>(List.range m).filter fun i=>decide (E8 lt m i=n) && p i).Pairwise (fun a b=>lt a b=true):=by
  intro ns
  induction ns with
  |nil=>intro _;simp
  |cons n ns ih=>
   intro hn;rw[List.pairwise_cons]at hn;rw[List.flatMap_cons,List.pairwise_append]
   have hm:∀k i,i∈(List.range m).filter (fun i=>decide (E8 lt m i=k) && p i)->i<m/\E8 lt m i=k:=fun k i hi=>by
    obtain⟨h1,h2⟩:=List.mem_filter.1 hi;rw[Bool.and_eq_true]at h2;exact⟨List.mem_range.1 h1,by simpa using h2.1⟩
   refine⟨?_,ih hn.2,fun a ha b hb=> ?_⟩
   ·refine((List.pairwise_lt_range (n:=m)).filter _).imp_of_mem fun{a b} ha hb hab=> ?_
    obtain⟨h1,h2⟩:=hm n a ha;obtain⟨h3,h4⟩:=hm n b hb
    cases hx:lt a b with
    |true=>rfl
    |false=>
     cases hy:lt b a with
     |true=>have:=Zk h h3 hy;omega
     |false=>have:=h.tot a b hx hy;omega
   ·obtain⟨k,hk,hb⟩:=List.mem_flatMap.1 hb;obtain⟨h1,h2⟩:=hm n a ha;obtain⟨h3,h4⟩:=hm k b hb;have a0:=hn.1 k hk
    cases hx:lt a b with
    |true=>rfl
    |false=>
     cases hy:lt b a with
     |true=>have:=Zk h h3 hy;omega
     |false=>have:=h.tot a b hx hy;subst this;omega
 exact key _ List.pairwise_lt_range
theorem Gp (h:Ho lt)(p:Nat->Bool)(m:Nat){s:List Nat}(hs:s.Pairwise (fun a b=>lt a b=true))(hm:∀i,i∈s↔i<m/\p i=true):s=E9 lt p m:=
 L3 h _ _ hs (Jk h p m) fun i=>by rw[hm,Fy h]
end
def Cf (t:Nat->Option Nat)(i j:Nat):Bool:=match t i,t j with
 |some x,some y=>decide (x<y)||(decide (x=y) && decide (i<j))
 |some _,none=>true
 |none,some _=>false
 |none,none=>decide (i<j)
theorem B8 (t:Nat->Option Nat):Ho (Cf t) where
 irr:=fun a=>by unfold Cf;cases t a<;>simp
 tr:=fun a b c h1 h2=>by
  unfold Cf at*;cases ha:t a<;>cases hb:t b<;>cases hc:t c<;>rw[ha,hb]at h1<;>rw[hb,hc]at h2<;>simp at h1 h2 ⊢ <;>omega
 tot:=fun a b h1 h2=>by
  unfold Cf at*;cases ha:t a<;>cases hb:t b<;>rw[ha,hb]at h1 h2<;>simp at h1 h2<;>omega
inductive Way (wt:Nat->Nat->Option Nat):Nat->Nat->Nat->Prop
 |nil (a:Nat):Way wt a a 0
 |snoc {a b c d l:Nat}:Way wt a b d->wt b c=some l->Way wt a c (d+l)
def Hf (wt:Nat->Nat->Option Nat)(a b:Nat)(o:Option Nat):Prop:=match o with
 |none=>∀d,¬Way wt a b d
 |some d=>Way wt a b d∧∀d',Way wt a b d'->d<=d'
theorem Kt {wt:Nat->Nat->Option Nat}{a b:Nat}{o o':Option Nat}(h:Hf wt a b o)(h':Hf wt a b o'):o=o':=by
 cases o with
 |none=>cases o' with
  |none=>rfl
  |some d=>exact absurd h'.1 (h d)
 |some d=>cases o' with
  |none=>exact absurd h.1 (h' d)
  |some d'=>exact congrArg some (Nat.le_antisymm (h.2 d' h'.1) (h'.2 d h.1))
theorem Way.append {wt:Nat->Nat->Option Nat}{a b c d d':Nat}(h:Way wt a b d)(h':Way wt b c d'):Way wt a c (d+d'):=by
 induction h' with
 |nil=>exact h
 |snoc _ hl ih=>rw[←Nat.add_assoc];exact .snoc ih hl
theorem Way.one {wt:Nat->Nat->Option Nat}{a b l:Nat}(h:wt a b=some l):Way wt a b l:=by
 have:=Way.snoc (Way.nil (wt:=wt) a) h
 rwa[Nat.zero_add]at this
theorem Way.rev {wt:Nat->Nat->Option Nat}(hs:∀a b,wt a b=wt b a){a b d:Nat}(h:Way wt a b d):Way wt b a d:=by
 induction h with
 |nil=>exact .nil _
 |snoc _ hl ih=>
  rw[hs]at hl;rw[Nat.add_comm];exact(Way.one hl).append ih
theorem Hf.rev {wt:Nat->Nat->Option Nat}(hs:∀a b,wt a b=wt b a){a b:Nat}{o:Option Nat}(h:Hf wt a b o):Hf wt b a o:=by
 cases o with
 |none=>exact fun d hd=>h d (hd.rev hs)
 |some d=>exact⟨h.1.rev hs,fun d' hd=>h.2 d' (hd.rev hs)⟩
inductive Lv (wt:Nat->Nat->Option Nat) (P:Nat->Prop):Nat->Nat->Nat->Prop
 |nil (a:Nat):Lv wt P a a 0
 |edge {a b l:Nat}:wt a b=some l->Lv wt P a b l
 |cons {a b c d l:Nat}:wt a b=some l->P b->Lv wt P b c d->Lv wt P a c (l+d)
theorem Lv.way {wt:Nat->Nat->Option Nat}{P:Nat->Prop}{a b d:Nat}(h:Lv wt P a b d):Way wt a b d:=by
 induction h with
 |nil=>exact .nil _
 |edge h=>exact Way.one h
 |cons h _ _ ih=>exact(Way.one h).append ih
theorem Lv.split {wt:Nat->Nat->Option Nat}{k a c d:Nat}(h:Lv wt (fun v=>v<k+1) a c d):
  Lv wt (fun v=>v<k) a c d∨∃d1 d2,Lv wt (fun v=>v<k) a k d1/\Lv wt (fun v=>v<k) k c d2/\d1+d2<=d:=by
 induction h with
 |nil a=>exact .inl (.nil a)
 |edge h=>exact .inl (.edge h)
 | @cons a b c d l hl hb _ ih=>
  rcases Nat.lt_or_ge b k with hk|hk
  ·rcases ih with ih|⟨d1,d2,h1,h2,h3⟩
   ·exact .inl (.cons hl hk ih)
   ·exact .inr ⟨l+d1,d2, .cons hl hk h1,h2,by omega⟩
  ·obtain rfl:b=k:=by omega
   rcases ih with ih|⟨d1,d2,h1,h2,h3⟩
   ·exact .inr ⟨l,d, .edge hl,ih,rr⟩
   ·exact .inr ⟨l,d2, .edge hl,h2,by omega⟩
theorem Way.all {wt:Nat->Nat->Option Nat}{n:Nat}(hn:∀a b l,wt a b=some l->a<n/\b<n){a b d:Nat}(h:Way wt a b d):Lv wt (fun v=>v<n) a b d:=by
 -- first as a way that begins with its first road
 have key:∀{b d},Way wt a b d→∀{c l},wt b c=some l->Lv wt (fun v=>v<n) a c (d+l):=by
  intro b d hw
  induction hw with
  |nil=>intro c l hl;rw[Nat.zero_add];exact .edge hl
  | @snoc b c d l hw hl ih=>
   intro e l' a1;have hc:c<n:=(hn _ _ _ hl).2
   have snoc':∀{x y d},Lv wt (fun v=>v<n) x y d->y<n→∀{z l},wt y z=some l->Lv wt (fun v=>v<n) x z (d+l):=by
    intro x y d a0
    induction a0 with
    |nil=>intro _ z l hl;rw[Nat.zero_add];exact .edge hl
    |edge h=>intro hy z l hl;exact .cons h hy (.edge hl)
    |cons h hb _ ih=>intro hy z l hl;rw[Nat.add_assoc];exact .cons h hb (ih hy hl)
   exact snoc' (ih hl) hc a1
 cases h with
 |nil=>exact .nil _
 |snoc hw hl=>exact key hw hl
def Jm:Option Nat->Option Nat->Option Nat
 |none,o=>o
 |some d,none=>some d
 |some d,some e=>some (min d e)
def Tn:Option Nat->Option Nat->Option Nat
 |some d,some e=>some (d+e)
 |_,_=>none
def Eg (k:Nat)(D:Nat->Nat->Option Nat):Nat->Nat->Option Nat:=fun i j=>Jm (D i j) (Tn (D i k) (D k j))
def D1 (D:Nat->Nat->Option Nat):Nat->Nat->Nat->Option Nat
 |0=>D
 |k+1=>Eg k (D1 D k)
theorem Ack {wt:Nat->Nat->Option Nat}{D:Nat->Nat->Option Nat}(h0:∀i j d,D i j=some d->Way wt i j d):∀k i j d,D1 D k i j=some d->Way wt i j d
 |0,i,j,d,h=>h0 i j d h
 |k+1,i,j,d,h=>by
  have ih:=Ack h0 k;unfold D1 Eg at h
  cases h1:D1 D k i j with
  |none=>
   rw[h1]at h
   cases h2:D1 D k i k with
   |none=>rw[h2]at h;cases h
   |some d1=>cases h3:D1 D k k j with
    |none=>rw[h2,h3]at h;cases h
    |some d2=>
     rw[h2,h3]at h;obtain rfl:d1+d2=d:=by simpa[Jm,Tn]using h
     exact(ih _ _ _ h2).append (ih _ _ _ h3)
  |some d0=>
   rw[h1]at h
   cases h2:D1 D k i k with
   |none=>
    rw[h2]at h;obtain rfl:d0=d:=by simpa[Jm,Tn]using h
    exact ih _ _ _ h1
   |some d1=>cases h3:D1 D k k j with
    |none=>
     rw[h2,h3]at h;obtain rfl:d0=d:=by simpa[Jm,Tn]using h
     exact ih _ _ _ h1
    |some d2=>
     rw[h2,h3]at h;have h4:min d0 (d1+d2)=d:=by simpa[Jm,Tn]using h
     rcases Nat.le_total d0 (d1+d2)with h5|h5
     ·rw[Nat.min_eq_left h5]at h4;subst h4;exact ih _ _ _ h1
     ·rw[Nat.min_eq_right h5]at h4;subst h4;exact(ih _ _ _ h2).append (ih _ _ _ h3)
def leO (o:Option Nat)(d:Nat):Prop:=∃e,o=some e/\e<=d
theorem X6 {wt:Nat->Nat->Option Nat}{D:Nat->Nat->Option Nat}(h0:∀i,D i i=some 0)(h1:∀i j l,wt i j=some l->leO (D i j) l):∀k i j d,Lv wt (fun v=>v<k) i j d->leO (D1 D k i j) d
 |0,i,j,d,h=>by
  cases h with
  |nil=>exact⟨0,h0 _,rr⟩
  |edge h=>exact h1 _ _ _ h
  |cons _ hb _=>omega
 |k+1,i,j,d,h=>by
  have ih:=X6 h0 h1 k;unfold D1 Eg;rcases h.split with h|⟨d1,d2,h2,h3,h4⟩
  ·obtain⟨e,he,a1⟩:=ih _ _ _ h;rw[he]
   cases Tn (D1 D k i k) (D1 D k k j)with
   |none=>exact⟨e,rfl,a1⟩
   |some x=>exact⟨min e x,rfl,by omega⟩
  ·obtain⟨e1,a2,a4⟩:=ih _ _ _ h2;obtain⟨e2,a0,a3⟩:=ih _ _ _ h3;rw[a2,a0]
   cases D1 D k i j with
   |none=>exact⟨e1+e2,rfl,by omega⟩
   |some x=>exact⟨min x (e1+e2),rfl,by omega⟩
theorem Ajf {wt:Nat->Nat->Option Nat}{D:Nat->Nat->Option Nat}{n:Nat}(hn:∀a b l,wt a b=some l->a<n/\b<n)(h0:∀i,D i i=some 0)(hw:∀i j d,D i j=some d->Way wt i j d)
  (h1:∀i j l,wt i j=some l->leO (D i j) l) (i j:Nat):Hf wt i j (D1 D n i j):=by
 have hs:∀d,Way wt i j d->leO (D1 D n i j) d:=fun d hd=>X6 h0 h1 n i j d (hd.all hn)
 cases h:D1 D n i j with
 |none=>exact fun d hd=>by obtain⟨e,he,_⟩:=hs d hd;rw[h]at he;cases he
 |some d=>exact⟨Ack hw n i j d h,fun d' hd=>by obtain⟨e,he,a0⟩:=hs d' hd;rw[h]at he;cases he;exact a0⟩
theorem Acl {D:Nat->Nat->Option Nat}{k:Nat}(h0:D k k=some 0)(i:Nat):Eg k D i k=D i k/\Eg k D k i=D k i:=by
 unfold Eg;rw[h0];constructor
 ·cases D i k<;>simp[Jm,Tn]
 ·cases D k i<;>simp[Jm,Tn]
theorem Acm {D:Nat->Nat->Option Nat}(h0:∀i,D i i=some 0):∀k i,D1 D k i i=some 0
 |0,i=>h0 i
 |k+1,i=>by
  unfold D1 Eg;rw[Acm h0 k i];cases Tn (D1 D k i k) (D1 D k k i)<;>simp[Jm]
-- the nearest open point first
structure Dij (wt:Nat->Nat->Option Nat)(a:Nat)(D:Nat->Option Nat)(op:List Nat):Prop where
 start:D a=some 0
 way:∀v d,D v=some d->Way wt a v d
 open_:∀v∈op,∃d,D v=some d
 closed:∀u du,D u=some du->u∉op→∀v l,wt u v=some l->leO (D v) (du+l)
 order:∀u du,D u=some du->u∉op→∀v∈op,∀dv,D v=some dv->du<=dv
theorem Dij.begin (wt:Nat->Nat->Option Nat)(a:Nat):Dij wt a (fun v=>if v=a then some 0 else none) [a] where
 start:=by simp
 way:=fun v d h=>by
  by_cases e:v=a
  ·subst e;simp at h;subst h;exact .nil _
  ·simp[e]at h
 open_:=fun v hv=>⟨0,by simp at hv;simp[hv]⟩
 closed:=fun u du h hu=>by
  by_cases e:u=a
  ·subst e;simp at hu
  ·simp[e]at h
 order:=fun u du h hu=>by
  by_cases e:u=a
  ·subst e;simp at hu
  ·simp[e]at h
theorem Dij.done {wt:Nat->Nat->Option Nat}{a:Nat}{D:Nat->Option Nat}(h:Dij wt a D [])(v:Nat):Hf wt a v (D v):=by
 have hs:∀v d,Way wt a v d->leO (D v) d:=by
  intro v d hw
  induction hw with
  |nil=>exact⟨0,h.start,rr⟩
  | @snoc b c d l _ hl ih=>
   obtain⟨e,he,a2⟩:=ih;obtain⟨x,hx,a1⟩:=h.closed _ _ he (by simp) _ _ hl;exact⟨x,hx,by omega⟩
 cases hd:D v with
 |none=>exact fun d hw=>by obtain⟨e,he,_⟩:=hs v d hw;rw[hd]at he;cases he
 |some d=>exact⟨h.way v d hd,fun d' hw=>by obtain⟨e,he,a0⟩:=hs v d' hw;rw[hd]at he;cases he;exact a0⟩
def Hu (D:Nat->Option Nat)(x d:Nat):Nat->Option Nat:=fun v=>if v=x then some d else D v
theorem Dq (D:Nat->Option Nat)(x d:Nat):Hu D x d x=some d:=by simp[Hu]
theorem Dr (D:Nat->Option Nat){x v:Nat}(d:Nat)(h:v≠x):Hu D x d v=D v:=by simp[Hu,h]
def L7 (dAt:Nat)(x l:Nat)(s:(Nat->Option Nat)×List Nat):(Nat->Option Nat)×List Nat:=
 match s.1 x with
 |none=>(Hu s.1 x (dAt+l),s.2++[x])
 |some dx=>if dx<=dAt+l then s else(Hu s.1 x (dAt+l),s.2)
structure Rlx (wt:Nat->Nat->Option Nat)(a at_ dAt:Nat)(done:List (Nat×Nat))(D:Nat->Option Nat)(op:List Nat):Prop where
 start:D a=some 0
 way:∀v d,D v=some d->Way wt a v d
 open_:∀v∈op,∃d,D v=some d
 atv:D at_=some dAt
 ato:at_∉op
 cl:∀u du,D u=some du->u∉op->du<=dAt/\(u≠at_→∀v l,wt u v=some l->leO (D v) (du+l))
 dn:∀v l,(v,l)∈done->leO (D v) (dAt+l)
 od:∀v∈op,∀dv,D v=some dv->dAt<=dv
theorem Rlx.begin {wt:Nat->Nat->Option Nat}{a at_ dAt:Nat}{D:Nat->Option Nat}{op:List Nat}(h:Dij wt a D op)(ha:at_∈op)(hd:D at_=some dAt)(hm:∀v∈op,∀dv,D v=some dv->dAt<=dv):Rlx wt a at_ dAt [] D (op.filter fun x=> !decide (x=at_)) where
 start:=h.start
 way:=h.way
 open_:=fun v hv=>h.open_ v (List.mem_filter.1 hv).1
 atv:=hd
 ato:=fun hv=>by simp at hv
 cl:=fun u du hu hn=>by
  by_cases e:u=at_
  ·subst e;rw[hd]at hu;cases hu;exact⟨rr,fun hne=>absurd rfl hne⟩
  ·have a0:u∉op:=fun hv=>hn (List.mem_filter.2 ⟨hv,by simp[e]⟩)
   exact⟨h.order u du hu a0 at_ ha dAt hd,fun _=>h.closed u du hu a0⟩
 dn:=fun v l hv=>by cases hv
 od:=fun v hv=>hm v (List.mem_filter.1 hv).1
theorem Rlx.step {wt:Nat->Nat->Option Nat}{a at_ dAt:Nat}{done:List (Nat×Nat)}{D:Nat->Option Nat}{op:List Nat}(h:Rlx wt a at_ dAt done D op){x l:Nat}(hx:wt at_ x=some l):
  Rlx wt a at_ dAt (done++[(x,l)]) (L7 dAt x l (D,op)).1 (L7 dAt x l (D,op)).2:=by
 have a1:Way wt a x (dAt+l):= .snoc (h.way _ _ h.atv) hx
 have a0:∀{D':Nat->Option Nat},leO (D' x) (dAt+l)->(∀v k,leO (D v) k->leO (D' v) k)→∀v k,(v,k)∈done++[(x,l)]->leO (D' v) (dAt+k):=fun h1 h2 v k hv=>by
  rcases List.mem_append.1 hv with hv|hv
  ·exact h2 v _ (h.dn v k hv)
  ·obtain⟨rfl,rfl⟩:v=x/\k=l:=by simpa using hv
   exact h1
 unfold L7;dsimp only
 cases hD:D x with
 |none=>
  dsimp only
  have a2:∀v k,leO (D v) k->leO (Hu D x (dAt+l) v) k:=fun v k ⟨e,he,hk⟩=>by
   by_cases e':v=x
   ·subst e';rw[hD]at he;cases he
   ·rw[Dr _ _ e'];exact⟨e,he,hk⟩
  have a3:at_≠x:=fun e=>by rw[←e,h.atv]at hD;cases hD
  refine⟨?_,fun v d hv=> ?_,fun v hv=> ?_,by rw[Dr _ _ a3];exact h.atv,fun hv=> ?_,fun u du hu hn=> ?_,a0 ⟨_,Dq _ _ _,rr⟩ a2,fun v hv dv hdv=> ?_⟩
  ·rw[Dr _ _ (fun e=>by rw[←e,h.start]at hD;cases hD)];exact h.start
  ·by_cases e:v=x
   ·subst e;rw[Dq]at hv;cases hv;exact a1
   ·rw[Dr _ _ e]at hv;exact h.way v d hv
  ·by_cases e:v=x
   ·subst e;exact⟨_,Dq _ _ _⟩
   ·rcases List.mem_append.1 hv with hv|hv
    ·rw[Dr _ _ e];exact h.open_ v hv
    ·exact absurd (by simpa using hv) e
  ·rcases List.mem_append.1 hv with hv|hv
   ·exact h.ato hv
   ·exact a3 (by simpa using hv)
  ·have a4:u≠x:=fun e=>hn (List.mem_append.2 (.inr (by simp[e])))
   have a7:u∉op:=fun hv=>hn (List.mem_append.2 (.inl hv))
   rw[Dr _ _ a4]at hu;obtain⟨h1,h2⟩:=h.cl u du hu a7;exact⟨h1,fun hne v k hk=>a2 v _ (h2 hne v k hk)⟩
  ·by_cases e:v=x
   ·subst e;rw[Dq]at hdv;cases hdv;omega
   ·rcases List.mem_append.1 hv with hv|hv
    ·rw[Dr _ _ e]at hdv;exact h.od v hv dv hdv
    ·exact absurd (by simpa using hv) e
 |some dx=>
  dsimp only;by_cases hle:dx<=dAt+l
  ·rw[if_pos hle];exact⟨h.start,h.way,h.open_,h.atv,h.ato,h.cl,a0 ⟨dx,hD,hle⟩ (fun _ _ h=>h),h.od⟩
  ·rw[if_neg hle];dsimp only
   -- the point is open
   have a5:x∈op:=Classical.byContradiction fun hn=>by
    have:=(h.cl x dx hD hn).1;omega
   have a2:∀v k,leO (D v) k->leO (Hu D x (dAt+l) v) k:=fun v k ⟨e,he,hk⟩=>by
    by_cases e':v=x
    ·subst e';rw[hD]at he;cases he;exact⟨_,Dq _ _ _,by omega⟩
    ·rw[Dr _ _ e'];exact⟨e,he,hk⟩
   have a3:at_≠x:=fun e=>h.ato (e▸a5)
   refine⟨?_,fun v d hv=> ?_,fun v hv=> ?_,by rw[Dr _ _ a3];exact h.atv,h.ato,fun u du hu hn=> ?_,a0 ⟨_,Dq _ _ _,rr⟩ a2,fun v hv dv hdv=> ?_⟩
   ·have a6:a≠x:=fun e=>by
     rw[←e,h.start]at hD;cases hD;omega
    rw[Dr _ _ a6];exact h.start
   ·by_cases e:v=x
    ·subst e;rw[Dq]at hv;cases hv;exact a1
    ·rw[Dr _ _ e]at hv;exact h.way v d hv
   ·by_cases e:v=x
    ·subst e;exact⟨_,Dq _ _ _⟩
    ·rw[Dr _ _ e];exact h.open_ v hv
   ·have a4:u≠x:=fun e=>hn (e▸a5)
    rw[Dr _ _ a4]at hu;obtain⟨h1,h2⟩:=h.cl u du hu hn;exact⟨h1,fun hne v k hk=>a2 v _ (h2 hne v k hk)⟩
   ·by_cases e:v=x
    ·subst e;rw[Dq]at hdv;cases hdv;omega
    ·rw[Dr _ _ e]at hdv;exact h.od v hv dv hdv
theorem Rlx.done_ {wt:Nat->Nat->Option Nat}{a at_ dAt:Nat}{done:List (Nat×Nat)}{D:Nat->Option Nat}{op:List Nat}(h:Rlx wt a at_ dAt done D op)(hall:∀v l,wt at_ v=some l->(v,l)∈done):Dij wt a D op where
 start:=h.start
 way:=h.way
 open_:=h.open_
 closed:=fun u du hu hn v l hl=>by
  by_cases e:u=at_
  ·subst e;rw[h.atv]at hu;cases hu;exact h.dn v l (hall v l hl)
  ·exact(h.cl u du hu hn).2 e v l hl
 order:=fun u du hu hn v hv dv hdv=>Nat.le_trans (h.cl u du hu hn).1 (h.od v hv dv hdv)
def Fl (l:List (Option Nat)):Option Nat:=l.foldl Jm none
def Ev (near:Option Nat)(T S:Nat)(U:Int):Option Nat:=match near with
 |none=>none
 |some d=>if 9223372036854775807<T+S*d then none else if U<=((T+S*d:Nat):Int)then none else some (T+S*d)
theorem Add {T S d M:Nat}(hT:T<=M):(0<d/\(M-T)/d<S)↔M<T+S*d:=by
 constructor
 ·rintro⟨h0,h1⟩
  have:=(Nat.div_lt_iff_lt_mul h0).1 h1
  omega
 ·intro h
  have h0:0<d:=by
   rcases Nat.eq_zero_or_pos d with e|e
   ·subst e;simp at h;omega
   ·exact e
  exact⟨h0,(Nat.div_lt_iff_lt_mul h0).2 (by omega)⟩
theorem Aiv {T S d M:Nat}(hT:T<=M):(0<S/\(M-T)/S<d)↔M<T+S*d:=by
 rw[Nat.mul_comm];exact Add hT
theorem Lo (a:Option Nat):Jm a none=a:=by cases a<;>rfl
theorem Lp (d e:Nat):Jm (some d) (some e)=if e<d then some e else some d:=by
 show some (min d e)=_;by_cases h:e<d
 ·rw[if_pos h,Nat.min_eq_right (by omega)]
 ·rw[if_neg h,Nat.min_eq_left (by omega)]
abbrev Bb:=Nat×Nat×Nat
def B7 (r:Bb)(a b:Nat):Bool:=(decide (r.1=a) && decide (r.2.1=b))||(decide (r.1=b) && decide (r.2.1=a))
theorem Aau (r:Bb)(a b:Nat):B7 r a b=B7 r b a:=by unfold B7;rw[Bool.or_comm]
theorem Ds {r:Bb}{a b:Nat}:B7 r a b=true↔(r.1=a/\r.2.1=b)\/(r.1=b/\r.2.1=a):=by
 unfold B7;simp
def wtN (rs:List Bb)(a b:Nat):Option Nat:=(rs.find? fun r=>B7 r a b).map fun r=>r.2.2
theorem Ajw (rs:List Bb)(a b:Nat):wtN rs a b=wtN rs b a:=by
 unfold wtN;rw[show(fun r=>B7 r a b)=fun r=>B7 r b a from funext fun r=>Aau r a b]
def Dh (rs:List Bb)(v:Nat):List (Nat×Nat):=rs.filterMap fun r=>if r.1=v then some (r.2.1,r.2.2)else if r.2.1=v then some (r.1,r.2.2)else none
structure Ci (n:Nat)(rs:List Bb):Prop where
 lt:∀r∈rs,r.1<n/\r.2.1<n/\r.1≠r.2.1/\1<=r.2.2/\r.2.2<=1073741824
 one:rs.Pairwise fun r s=>B7 r s.1 s.2.1=false
theorem Adx (rs:List Bb)(r:Bb)(v:Nat):Dh (rs++[r]) v=Dh rs v++(if r.1=v then [(r.2.1,r.2.2)]else if r.2.1=v then [(r.1,r.2.2)]else []):=by
 unfold Dh;rw[List.filterMap_append];congr 1;by_cases h:r.1=v
 ·simp[h]
 ·by_cases h':r.2.1=v
  ·simp[h,h']
  ·simp[h,h']
theorem Hh {rs:List Bb}{v x l:Nat}:(x,l)∈Dh rs v↔∃r∈rs,(r.1=v/\r.2.1=x/\r.2.2=l)\/(r.1≠v/\r.2.1=v/\r.1=x/\r.2.2=l):=by
 unfold Dh;rw[List.mem_filterMap];constructor
 ·rintro⟨r,hr,h⟩;refine⟨r,hr, ?_⟩;by_cases h1:r.1=v
  ·rw[if_pos h1]at h;simp only[Option.some.injEq,Prod.mk.injEq]at h;exact .inl ⟨h1,h⟩
  ·rw[if_neg h1]at h;by_cases h2:r.2.1=v
   ·rw[if_pos h2]at h;simp only[Option.some.injEq,Prod.mk.injEq]at h;exact .inr ⟨h1,h2,h⟩
   ·rw[if_neg h2]at h;cases h
 ·rintro⟨r,hr,⟨h1,h2,h3⟩|⟨h1,h2,h3,h4⟩⟩
  ·exact⟨r,hr,by rw[if_pos h1,h2,h3]⟩
  ·exact⟨r,hr,by rw[if_neg h1,if_pos h2,h3,h4]⟩
theorem Agp {rs:List Bb}{a b:Nat}(hab:a≠b):(Dh rs a).any (fun p=>decide (p.1=b))=rs.any fun r=>B7 r a b:=by
 rw[Bool.eq_iff_iff,List.any_eq_true,List.any_eq_true];constructor
 ·rintro⟨⟨x,l⟩,hm,hx⟩;obtain rfl:x=b:=by simpa using hx
  obtain⟨r,hr,⟨h1,h2,_⟩|⟨_,h2,h3,_⟩⟩:=Hh.1 hm
  ·exact⟨r,hr,Ds.2 (.inl ⟨h1,h2⟩)⟩
  ·exact⟨r,hr,Ds.2 (.inr ⟨h3,h2⟩)⟩
 ·rintro⟨r,hr,h⟩;rcases Ds.1 h with⟨h1,h2⟩|⟨h1,h2⟩
  ·exact⟨(b,r.2.2),Hh.2 ⟨r,hr, .inl ⟨h1,h2,rfl⟩⟩,by simp⟩
  ·exact⟨(b,r.2.2),Hh.2 ⟨r,hr, .inr ⟨fun e=>hab (e.symm.trans h1),h2,h1,rfl⟩⟩,by simp⟩
theorem M6 {n:Nat}{rs:List Bb}(h:Ci n rs){v x l:Nat}:(x,l)∈Dh rs v↔wtN rs v x=some l:=by
 rw[Hh];unfold wtN;constructor
 ·rintro⟨r,hr,hc⟩
  have hj:B7 r v x=true:=by
   rcases hc with⟨h1,h2,_⟩|⟨_,h2,h3,_⟩
   ·exact Ds.2 (.inl ⟨h1,h2⟩)
   ·exact Ds.2 (.inr ⟨h3,h2⟩)
  have hl:r.2.2=l:=by rcases hc with⟨_,_,h⟩|⟨_,_,_,h⟩<;>exact h
  obtain⟨s,hs⟩:∃s,rs.find? (fun r=>B7 r v x)=some s:=by
   cases hf:rs.find? (fun r=>B7 r v x)with
   |some s=>exact⟨s,rfl⟩
   |none=>exact absurd hj (by simpa using List.find?_eq_none.1 hf r hr)
  have a5:B7 s v x=true:=by simpa using List.find?_some hs
  have a8:=List.mem_of_find?_eq_some hs
  -- both join the same points: they are one
  have:s=r:=by
   have key:∀{a b:Bb},B7 a v x=true->B7 b v x=true->B7 a b.1 b.2.1=true:=by
    intro a b ha hb;rcases Ds.1 ha with⟨a1,a2⟩|⟨a1,a2⟩<;>rcases Ds.1 hb with⟨b1,b2⟩|⟨b1,b2⟩<;>rw[Ds,a1,a2,b1,b2]<;>simp
   rcases Classical.em (s=r)with e|e
   ·exact e
   ·exfalso;obtain⟨i,hi,rfl⟩:=List.getElem_of_mem a8;obtain⟨j,a3,rfl⟩:=List.getElem_of_mem hr;have hp:=List.pairwise_iff_getElem.1 h.one;rcases Nat.lt_trichotomy i j with a0|a0|a0
    ·have:=hp i j hi a3 a0;rw[key a5 hj]at this;cases this
    ·subst a0;exact e rfl
    ·have:=hp j i a3 hi a0;rw[key hj a5]at this;cases this
  rw[hs,this,←hl];rfl
 ·intro hw
  cases hf:rs.find? (fun r=>B7 r v x)with
  |none=>rw[hf]at hw;cases hw
  |some r=>
   rw[hf]at hw;obtain rfl:r.2.2=l:=by simpa using hw
   have a4:=List.mem_of_find?_eq_some hf;have a7:B7 r v x=true:=by simpa using List.find?_some hf
   refine⟨r,a4, ?_⟩;have a6:=(h.lt r a4).2.2.1;rcases Ds.1 a7 with⟨h1,h2⟩|⟨h1,h2⟩
   ·exact .inl ⟨h1,h2,rfl⟩
   ·exact .inr ⟨fun e=>a6 (e.trans h2.symm),h2,h1,rfl⟩
theorem Acp {n:Nat}{rs:List Bb}(h:Ci n rs)(a b l:Nat)(hw:wtN rs a b=some l):a<n/\b<n:=by
 obtain⟨r,hr,hc⟩:=Hh.1 ((M6 h).2 hw)
 have:=h.lt r hr
 rcases hc with⟨h1,h2,_⟩|⟨_,h2,h3,_⟩<;>omega
theorem Aav {n:Nat}{rs:List Bb}(h:Ci n rs){a b l:Nat}(hw:wtN rs a b=some l):l<=1073741824:=by
 obtain⟨r,hr,hc⟩:=Hh.1 ((M6 h).2 hw)
 have:=h.lt r hr
 rcases hc with⟨_,_,h3⟩|⟨_,_,_,h3⟩<;>omega
theorem Aln {n:Nat}{rs:List Bb}(h:Ci n rs){a b l:Nat}(hw:wtN rs a b=some l):1<=l:=by
 obtain⟨r,hr,hc⟩:=Hh.1 ((M6 h).2 hw)
 have:=h.lt r hr
 rcases hc with⟨_,_,h3⟩|⟨_,_,_,h3⟩<;>omega
abbrev Dt:=Int×Int×Int
def Be (r:Dt):Bb:=(r.1.toNat,r.2.1.toNat,r.2.2.toNat)
def Cq (n:Nat)(done:List Bb):List Dt->Int
 |[]=>0
 |r::rs=>if min r.1 r.2.1<0\/(n:Int)<=max r.1 r.2.1 then 3 else if r.1=r.2.1 then 9 else if r.2.2<1\/1073741824<r.2.2 then 2
  else if done.any (fun s=>B7 s r.1.toNat r.2.1.toNat)then 6 else Cq n (done++[Be r]) rs
theorem R0 {n:Nat}:∀{rs:List Dt} {done:List Bb},Cq n done rs=0->Ci n done->Ci n (done++rs.map Be)
 |[],done,_,h=>by simpa using h
 |r::rs,done,he,h=>by
  unfold Cq at he;by_cases h1:min r.1 r.2.1<0\/(n:Int)<=max r.1 r.2.1
  ·rw[if_pos h1]at he;cases he
  rw[if_neg h1]at he;by_cases h2:r.1=r.2.1
  ·rw[if_pos h2]at he;cases he
  rw[if_neg h2]at he;by_cases h3:r.2.2<1\/1073741824<r.2.2
  ·rw[if_pos h3]at he;cases he
  rw[if_neg h3]at he;by_cases h4:done.any (fun s=>B7 s r.1.toNat r.2.1.toNat)=true
  ·rw[if_pos h4]at he;cases he
  rw[if_neg h4]at he
  have:=R0 he ⟨fun s hs=> ?_, ?_⟩
  ·rwa[List.append_assoc]at this
  ·rcases List.mem_append.1 hs with hs|hs
   ·exact h.lt s hs
   ·obtain rfl:s=Be r:=by simpa using hs
    show r.1.toNat<n/\r.2.1.toNat<n/\r.1.toNat≠r.2.1.toNat/\1<=r.2.2.toNat/\r.2.2.toNat<=1073741824;omega
  ·rw[List.pairwise_append];refine⟨h.one,by simp,fun a ha b hb=> ?_⟩
   obtain rfl:b=Be r:=by simpa using hb
   cases hj:B7 a (Be r).1 (Be r).2.1 with
   |false=>rfl
   |true=>exact absurd (List.any_eq_true.2 ⟨a,ha,hj⟩) h4
def D0 (rs:List Bb)(i j:Nat):Option Nat:=if i=j then some 0 else wtN rs i j
def D3 (n:Nat)(rs:List Bb)(a b:Nat):Option Nat:=D1 (D0 rs) n a b
theorem M7 {n:Nat}{rs:List Bb}(h:Ci n rs)(a b:Nat):Hf (wtN rs) a b (D3 n rs a b):=by
 refine Ajf (Acp h) (fun i=>by simp[D0]) (fun i j d hd=> ?_) (fun i j l hl=> ?_) a b
 ·unfold D0 at hd;by_cases e:i=j
  ·rw[if_pos e]at hd;cases hd;subst e;exact .nil _
  ·rw[if_neg e]at hd;exact Way.one hd
 ·unfold D0;by_cases e:i=j
  ·rw[if_pos e];exact⟨0,rfl,Nat.zero_le _⟩
  ·rw[if_neg e];exact⟨l,hl,rr⟩
def Dc (done:List ByteArray):List ByteArray->Int
 |[]=>0
 |s::ss=>if Da s=false then 15 else if done.any (fun x=>decide (x=s))then 6 else Dc (done++[s]) ss
def Dp (names:List ByteArray)(roads:List Dt):Int:=
 if 128<names.length\/512<roads.length then 12 else if Dc [] names≠0 then Dc [] names else Cq names.length [] roads
end Go.Proofs.YtaglfmlgbcmakaaGreatDoor
namespace Go.Proofs.YtaglfmlgbcmakaaGreatDoor
def Bf:Option Nat->Int
 |none=> -1
 |some t=>t
end Go.Proofs.YtaglfmlgbcmakaaGreatDoor
namespace Go.Proofs.YtaglfmlgbcmakaaGreatDoor
open Go.RowKit Go.Sort
section
variable {α:Type} [Inhabited α]
theorem Zs {lt lt':α->α->Bool}(a:Nat):∀(j:Nat) (d:Array α),j<d.size->(∀k,k<j->lt d[j]! d[k]! =lt' d[j]! d[k]!)->insInner lt a j d=insInner lt' a j d
 |0,_,_,_=>rfl
 |j+1,d,hj,h=>by
  unfold insInner;rw[h j (by omega)];split
  ·refine Zs a j _ (by rw[swp_size];omega) fun k hk=> ?_
   rw[swp_get d hj (by omega),swp_get d hj (by omega)];have h1:¬k=j:=by omega
   have h2:¬k=j+1:=by omega
   simp only[h1,h2,if_true,if_false];exact h k (by omega)
  ·rfl
theorem Zt {lt:α->α->Bool}{S:α->Prop}(a:Nat):∀(j:Nat) (d:Array α),j<d.size->(∀k,k<=j->S d[k]!)->(∀k,k<=j->S (insInner lt a j d)[k]!)/\(∀k,j<k->(insInner lt a j d)[k]! =d[k]!)/\(insInner lt a j d).size=d.size
 |0,d,_,h=>⟨h,fun _ _=>rfl,rfl⟩
 |j+1,d,hj,h=>by
  unfold insInner;split
  ·obtain⟨h1,h2,h3⟩:=Zt (lt:=lt) (S:=S) a j (swp d (j+1) j) (by rw[swp_size];omega) (fun k hk=>by
    rw[swp_get d hj (by omega)];split
    ·exact h _ (by omega)
    ·split
     ·exact h _ (by omega)
     ·exact h _ (by omega))
   refine⟨fun k hk=> ?_,fun k hk=> ?_,by rw[h3,swp_size]⟩
   ·by_cases e:k<=j
    ·exact h1 k e
    ·rw[h2 k (by omega),swp_get d hj (by omega)];split
     ·exact h _ (by omega)
     ·split
      ·exact h _ (by omega)
      ·exact h _ (by omega)
   ·rw[h2 k (by omega),swp_get d hj (by omega),if_neg (by omega),if_neg (by omega)]
  ·exact⟨h,fun _ _=>rfl,rfl⟩
theorem Zu {lt lt':α->α->Bool}{d0:Array α}(a b:Nat)(hb:b<=d0.size)(H:∀i k,k<i->i<b->lt d0[i]! d0[k]! =lt' d0[i]! d0[k]!):
  ∀(n i:Nat) (d:Array α),b-i=n->d.size=d0.size->(∀p,i<=p->d[p]! =d0[p]!)->(∀k,k<i→∃k',k'<i/\d[k]! =d0[k']!)->insOuter lt a b i d=insOuter lt' a b i d
 |0,i,d,hn,_,_,_=>by
  unfold insOuter;rw[if_neg (by omega),if_neg (by omega)]
 |n+1,i,d,hn,hs,hp,hk=>by
  have e:insInner lt a i d=insInner lt' a i d:=Zs a i d (by omega) fun k hki=>by
   obtain⟨k',a0,e⟩:=hk k hki;rw[hp i rr,e];exact H i k' a0 (by omega)
  unfold insOuter;rw[if_pos (by omega),if_pos (by omega),e]
  obtain⟨h1,h2,h3⟩:=Zt (lt:=lt') (S:=fun x=>∃k',k'<i+1/\x=d0[k']!) a i d (by omega) (fun k hki=>by
   rcases Nat.lt_or_ge k i with h|h
   ·obtain⟨k',a0,e⟩:=hk k h;exact⟨k',by omega,e⟩
   ·obtain rfl:k=i:=by omega
    exact⟨k,by omega,hp k rr⟩)
  exact Zu a b hb H n (i+1) _ (by omega) (by rw[h3,hs]) (fun p hip=>by rw[h2 p (by omega)];exact hp p (by omega)) (fun k hki=>h1 k (by omega))
theorem Aet {lt lt':α->α->Bool}{d:Array α}(H:∀i k,k<i->i<d.size->lt d[i]! d[k]! =lt' d[i]! d[k]!):insertionSort lt d 0 d.size=insertionSort lt' d 0 d.size:=by
 unfold insertionSort;refine Zu 0 d.size rr H _ 1 d rfl rfl (fun _ _=>rfl) (fun k hk=>⟨k,hk,rfl⟩)
end
theorem Zv {t:Nat->Option Nat}{rk:Nat->Int}(hr:∀i j,decide (rk i<rk j)=match t i,t j with|some x,some y=>decide (x<y)|some _,none=>true|none,_=>false)
  {p:Nat->Bool} {m:Nat} {d:Array Nat} (hd:d.toList=(List.range m).filter p):(insertionSort (fun i j=>decide (rk i<rk j)) d 0 d.size).toList=E9 (Cf t) p m:=by
 have a2:d.toList.Pairwise (fun a b=>a<b):=by rw[hd];exact(List.pairwise_lt_range (n:=m)).filter _
 have a4:∀i k,k<i->i<d.size->d[k]! <d[i]! :=fun i k hk hi=>by
  have:=List.pairwise_iff_getElem.1 a2 k i (by simpa using by omega) (by simpa using hi) hk
  rw[getElem!_pos d k (by omega),getElem!_pos d i hi];simpa using this
 have hw:∀i j:Nat,j<i->decide (rk i<rk j)=Cf t i j:=fun i j hji=>by
  rw[hr];unfold Cf;cases t i<;>cases t j<;>simp<;>omega
 rw[Aet (lt':=Cf t) fun i k hk hi=>hw _ _ (a4 i k hk hi)]
 have hS:=B8 t
 have a1:SWO (Cf t):=⟨hS.irr,hS.tr,fun x y z h1 h2=>by
  cases h:Cf t x z with
  |false=>rfl
  |true=>
   cases h3:Cf t y x with
   |false=>have:=hS.tot x y h1 h3;subst this;rw[h]at h2;cases h2
   |true=>have:=hS.tr y x z h3 h;rw[this]at h2;cases h2⟩
 obtain⟨⟨h1,_,h3⟩,h4⟩:=insertionSort_holds a1 d 0 d.size (Nat.zero_le _) rr;generalize insertionSort (Cf t) d 0 d.size=d' at h1 h3 h4
 have a0:d'.toList.Perm d.toList:=by
  have e1:(d'.extract 0 d.size).toList=d'.toList:=by rw[←h1];simp
  have e2:(d.extract 0 d.size).toList=d.toList:=by simp
  rw[e1,e2]at h3;exact h3
 have a8:d'.toList.Nodup:=a0.nodup_iff.2 (a2.imp fun h=>by omega);refine Gp hS p m ?_ fun i=>by rw[a0.mem_iff,hd,List.mem_filter,List.mem_range]
 rw[List.pairwise_iff_getElem];intro i j hi hj a3;have a7:i<d'.size:=by simpa using hi
 have a5:j<d'.size:=by simpa using hj
 have h5:=h4 i j (Nat.zero_le _) a3 (by omega);rw[getElem!_pos d' i a7,getElem!_pos d' j a5]at h5;have a6:d'.toList[i]≠d'.toList[j]:=List.pairwise_iff_getElem.1 a8 i j hi hj a3
 cases h6:Cf t d'.toList[i] d'.toList[j]with
 |true=>rfl
 |false=>exact absurd (hS.tot _ _ h6 (by simpa using h5)) a6
end Go.Proofs.YtaglfmlgbcmakaaGreatDoor
namespace Go.Proofs.YtaglfmlgbcmakaaGreatDoor
open Go.RowKit
structure Cv where
 law:Int
 at_:List Int
 time:Int
 slow:Int
 fin:Int
def F5 (n:Nat)(done:List Int):List Int->Int
 |[]=>0
 |a::rr1=>if a<0\/(n:Int)<=a then 3 else if done.any (fun b=>decide (b=a))then 6 else F5 n (done++[a]) rr1
def Di (n:Nat)(x:Cv):Int:=if F5 n [] x.at_≠0 then F5 n [] x.at_ else if min x.time x.slow<0\/1073741824<max x.time x.slow then 2 else 0
def Ej (n m:Nat):List Cv->Int
 |[]=>0
 |x::xs=>if x.law<0\/(m:Int)<=x.law then 3 else if Di n x≠0 then Di n x else Ej n m xs
def Ck (n:Nat)(ls:List Bi)(ws:List Cv):Int:=if n=0 then 1 else if Dg ls≠0 then Dg ls else if 64<ws.length then 12 else Ej n ls.length ws
def L5 (n:Nat)(rs:List Bb)(x:Cv)(a:Nat):Option Nat:=Fl (x.at_.map fun b=>D3 n rs a b.toNat)
def De (n:Nat)(rs:List Bb)(x:Cv)(a:Nat):Option Nat:=Ev (L5 n rs x a) x.time.toNat x.slow.toNat x.fin
def Cx (n:Nat)(rs:List Bb)(x:Cv):Int×List Int:=if n=0 then(1,[])else if Di n x≠0 then(Di n x,[])else(0,(List.range n).map fun a=>Bf (De n rs x a))
def tAt (n:Nat)(rs:List Bb)(ws:List Cv)(a i:Nat):Option Nat:=(ws[i]?).bind fun x=>De n rs x a
def En (now:Int):Option Nat->Bool
 |none=>false
 |some t=>decide ((t:Int)<=now)
def Jd (n:Nat)(rs:List Bb)(ws:List Cv)(a:Nat)(now:Int):List Nat:=E9 (Cf (tAt n rs ws a)) (fun i=>En now (tAt n rs ws a i)) ws.length
def Li (ws:List Cv)(i:Nat):Int:=((ws[i]?).map Cv.law).getD 0
def Et (n:Nat)(rs:List Bb)(ws:List Cv)(a:Nat)(now:Int):List Int:=(Jd n rs ws a now).map (Li ws)
def Fm (n:Nat)(rs:List Bb)(ls:List Bi)(ws:List Cv)(a now:Int):Int×List Int:=
 if Ck n ls ws≠0 then(Ck n ls ws,[])else if a<0\/(n:Int)<=a then(3,[])else(0,Et n rs ws a.toNat now)
def Df (ls:List Bi)(on:List Int):List Bi:=on.filterMap fun i=>ls[i.toNat]?
def Eo (n:Nat)(rs:List Bb)(ls:List Bi)(ws:List Cv)(w:List Snd)(now:Int)(a:Nat):Int×List Snd:=B9 (Df ls (Et n rs ws a now)) w
def Du (f:Nat->Int×List Snd)(done:List (List Snd)):List Nat->Int×List (List Snd)
 |[]=>(0,done)
 |a::rr1=>if(f a).1≠0 then((f a).1,[])else Du f (done++[(f a).2]) rr1
def Bo (n:Nat)(rs:List Bb)(ls:List Bi)(ws:List Cv)(w:List Snd)(now:Int):Int×List (List Snd):=
 if Ck n ls ws≠0 then(Ck n ls ws,[])else if Cg w≠0 then(Cg w,[])else Du (Eo n rs ls ws w now) [] (List.range n)
def Gq (fs:List (List Snd))(x:List Snd):Int:=match fs.findIdx? (fun y=>decide (x=y))with
 |some k=>k
 |none=> -1
def Lq (n:Nat)(rs:List Bb)(ls:List Bi)(ws:List Cv)(w:List Snd)(now:Int):Int×List Int:=
 if(Bo n rs ls ws w now).1≠0 then((Bo n rs ls ws w now).1,[])else(0,(Bo n rs ls ws w now).2.map (Gq (Bo n rs ls ws w now).2))
def Dv (n:Nat)(rs:List Bb)(ls:List Bi)(ws:List Cv)(k:Int):Int×List Int:=
 if Ck n ls ws≠0 then(Ck n ls ws,[])else if k<0\/(ws.length:Int)<=k then(3,[])else
  (0,((List.range n).filter fun a=>(tAt n rs ws a k.toNat).isNone).map fun(a:Nat)=>(a:Int))
def Ms (n:Nat)(rs:List Bb)(ws:List Cv)(i j a:Nat):Bool:=(tAt n rs ws a i).isSome && Cf (tAt n rs ws a) i j
def Cz (n:Nat)(rs:List Bb)(ls:List Bi)(ws:List Cv)(i j:Int):Int×List Int:=
 if Ck n ls ws≠0 then(Ck n ls ws,[])else if min i j<0\/(ws.length:Int)<=max i j then(3,[])else
  (0,((List.range n).filter (Ms n rs ws i.toNat j.toNat)).map fun(a:Nat)=>(a:Int))
-- what is allowed
theorem Ala {n:Nat}:∀{rr1 done:List Int},F5 n done rr1=0→∀a∈rr1,0<=a/\a<n
 |[],_,_,a,ha=>by cases ha
 |b::bs,done,h,a,ha=>by
  unfold F5 at h;by_cases h1:b<0\/(n:Int)<=b
  ·rw[if_pos h1]at h;cases h
  rw[if_neg h1]at h;by_cases h2:done.any (fun x=>decide (x=b))=true
  ·rw[if_pos h2]at h;cases h
  rw[if_neg h2]at h;rcases List.mem_cons.1 ha with e|ha
  ·subst e;omega
  ·exact Ala h a ha
theorem Ab9 {n:Nat}{x:Cv}(h:Di n x=0):(∀a∈x.at_,0<=a/\a<n)/\0<=x.time/\x.time<=1073741824/\0<=x.slow/\x.slow<=1073741824:=by
 unfold Di at h;by_cases h1:F5 n [] x.at_≠0
 ·rw[if_pos h1]at h;exact absurd h h1
 rw[if_neg h1]at h;by_cases h2:min x.time x.slow<0\/1073741824<max x.time x.slow
 ·rw[if_pos h2]at h;cases h
 exact⟨Ala (by simpa using h1),by omega,by omega,by omega,by omega⟩
theorem Ade {n m:Nat}:∀{ws:List Cv},Ej n m ws=0→∀x∈ws,0<=x.law/\x.law<m/\Di n x=0
 |[],_,x,hx=>by cases hx
 |y::ys,h,x,hx=>by
  unfold Ej at h;by_cases h1:y.law<0\/(m:Int)<=y.law
  ·rw[if_pos h1]at h;cases h
  rw[if_neg h1]at h;by_cases h2:Di n y≠0
  ·rw[if_pos h2]at h;exact absurd h h2
  rw[if_neg h2]at h;rcases List.mem_cons.1 hx with e|hx
  ·subst e;exact⟨by omega,by omega,by simpa using h2⟩
  ·exact Ade h x hx
theorem Dj {n:Nat}{ls:List Bi}{ws:List Cv}(h:Ck n ls ws=0):0<n/\Dg ls=0/\ws.length<=64∧∀x∈ws,0<=x.law/\x.law<ls.length/\Di n x=0:=by
 unfold Ck at h;by_cases h1:n=0
 ·rw[if_pos h1]at h;cases h
 rw[if_neg h1]at h;by_cases h2:Dg ls≠0
 ·rw[if_pos h2]at h;exact absurd h h2
 rw[if_neg h2]at h;by_cases h3:64<ws.length
 ·rw[if_pos h3]at h;cases h
 rw[if_neg h3]at h;exact⟨by omega,by simpa using h2,by omega,Ade h⟩
theorem Z6 {n:Nat}{rs:List Bb}{ws:List Cv}{a i t:Nat}(h:tAt n rs ws a i=some t):∃x,ws[i]? =some x/\De n rs x a=some t:=by
 unfold tAt at h
 cases hx:ws[i]? with
 |none=>rw[hx]at h;cases h
 |some x=>rw[hx]at h;exact⟨x,rfl,h⟩
theorem Vu {o:Option Nat}{T S:Nat}{U:Int}{t:Nat}(h:Ev o T S U=some t):t<=9223372036854775807/\(t:Int)<U/\T<=t:=by
 unfold Ev at h
 cases o with
 |none=>cases h
 |some d=>
  dsimp only at h;split at h
  ·cases h
  ·split at h
   ·cases h
   ·obtain rfl:T+S*d=t:=by simpa using h
    exact⟨by omega,by omega,by omega⟩
def V7:List ByteArray:=[⟨#[97]⟩,⟨#[98]⟩,⟨#[99]⟩,⟨#[100]⟩,⟨#[101]⟩]
def Rf:List Dt:=[(0,1,4),(1,2,3),(2,3,1)]
def Fc:List Bb:=[(0,1,4),(1,2,3),(2,3,1)]
def wv0:Cv:=⟨0,[0],2,1,100⟩
def wv1:Cv:=⟨1,[3],0,3,13⟩
theorem Alf:Dp V7 Rf=0:=by kernel_rfl
theorem Afv:Rf.map Be=Fc:=rfl
theorem Ajg:Cx 5 Fc wv0=(0,[2,6,9,10, -1]):=by kernel_rfl
theorem Ajh:Cx 5 Fc wv1=(0,[-1,12,3,0, -1]):=by kernel_rfl
theorem Aji:Fm 5 Fc [vD,fD] [wv0,wv1] 2 9=(0,[1,0]):=by kernel_rfl
theorem Afw:Cz 5 Fc [vD,fD] [wv0,wv1] 0 1=(0,[0,1]):=by kernel_rfl
theorem Afx:Bo 5 Fc [vD,fD] [wv0,wv1] [sA,sP,sA] 12=(0,[[sA,sB,sA],[sA,sB],[sA,sP],[sA,sP],[sA,sP,sA]]):=by kernel_rfl
def Kw (r:Dt):List Value:=[.int .i64 r.1, .int .i64 r.2.1, .int .i64 r.2.2]
theorem Ut (r:Dt):(Kw r).length=3:=rfl
def Hi (r:Bb):Dt:=((r.1:Int),(r.2.1:Int),(r.2.2:Int))
def Cw (w:World)(A:Option Addr)(n c:Nat)(rs:List Dt):Prop:=Cr Kw 3 w A n c rs
def Kl (p:Nat×Nat):List Value:=[.int .i64 (p.1:Int), .int .i64 (p.2:Int)]
theorem Kx (p:Nat×Nat):(Kl p).length=2:=rfl
def Fv (w:World)(A:Option Addr)(n c:Nat)(es:List (Nat×Nat)):Prop:=Cr Kl 2 w A n c es
abbrev Aaw:=Option Addr×Nat×Nat×List (Nat×Nat)
def Aaw.val (p:Aaw):Value:= .slice p.1 p.2.1 p.2.2.1
def E7 (w:World)(A:Option Addr)(n c:Nat)(ss:List ByteArray):Prop:=Am w A n c 1 (ss.map Value.string)
theorem E7.below {w w':World}{A:Option Addr}{n c:Nat}{ss:List ByteArray}(h:E7 w A n c ss){B:Nat}(hb:Below B w w')(hB:w.heap.size<=B):E7 w' A n c ss:=Am.below h hb hB
theorem E7.len {w:World}{A:Option Addr}{n c:Nat}{ss:List ByteArray}(h:E7 w A n c ss):ss.length=n:=by have:=h.1;simpa using this
structure Ajx (w:World)(b n:Nat)(rs:List Bb)(An:Option Addr)(cn mb:Nat)(Ar:Option Addr)(cr:Nat)(Aq:Option Addr)(cq:Nat)(vs:List Aaw):Prop where
 blk:w.heap[b]? =some (.cells #[.slice An n cn, .map (some mb), .slice Ar rs.length cr, .slice Aq n cq] 99 (0,0))
 roads:Cw w Ar rs.length cr (rs.map Hi)
 near:Am w Aq n cq 1 (vs.map Aaw.val)
 ends:∀(v:Nat) (p:Aaw),vs[v]? =some p->Fv w p.1 p.2.1 p.2.2.1 p.2.2.2/\p.2.2.2.Perm (Dh rs v)
 ok:Ci n rs
 few:n<=128
 fewR:rs.length<=512
def C0 (w:World)(b n:Nat)(rs:List Bb):Prop:=∃An cn mb Ar cr Aq cq vs,Ajx w b n rs An cn mb Ar cr Aq cq vs
section
variable {w w':World}{b n:Nat}{rs:List Bb}
theorem Ajx.below {An:Option Addr}{cn mb:Nat}{Ar:Option Addr}{cr:Nat}{Aq:Option Addr}{cq:Nat}{vs:List Aaw}(h:Ajx w b n rs An cn mb Ar cr Aq cq vs)(hb:Below w.heap.size w w'):Ajx w' b n rs An cn mb Ar cr Aq cq vs:=
 ⟨(hb.block b (lt_of_block h.blk)).trans h.blk,h.roads.below hb rr,h.near.below hb rr,fun v p hp=>⟨(h.ends v p hp).1.below hb rr,(h.ends v p hp).2⟩,h.ok,h.few,h.fewR⟩
theorem C0.below (h:C0 w b n rs)(hb:Below w.heap.size w w'):C0 w' b n rs:=by
 obtain⟨An,cn,mb,Ar,cr,Aq,cq,vs,h⟩:=h;exact⟨An,cn,mb,Ar,cr,Aq,cq,vs,h.below hb⟩
theorem C0.few (h:C0 w b n rs):n<=128:=by obtain⟨An,cn,mb,Ar,cr,Aq,cq,vs,h⟩:=h;exact h.few
theorem C0.fewR (h:C0 w b n rs):rs.length<=512:=by obtain⟨An,cn,mb,Ar,cr,Aq,cq,vs,h⟩:=h;exact h.fewR
theorem C0.ok (h:C0 w b n rs):Ci n rs:=by obtain⟨An,cn,mb,Ar,cr,Aq,cq,vs,h⟩:=h;exact h.ok
theorem C0.lt (h:C0 w b n rs):b<w.heap.size:=by obtain⟨An,cn,mb,Ar,cr,Aq,cq,vs,h⟩:=h;exact lt_of_block h.blk
theorem C0.cells (h:C0 w b n rs):∃An cn mb Ar cr Aq cq,w.cell? ⟨b,0,none⟩=some (.slice An n cn)/\w.cell? ⟨b,1,none⟩=some (.map (some mb))/\w.cell? ⟨b,2,none⟩=some (.slice Ar rs.length cr)/\w.cell? ⟨b,3,none⟩=some (.slice Aq n cq):=by
 obtain⟨An,cn,mb,Ar,cr,Aq,cq,vs,h⟩:=h;exact⟨An,cn,mb,Ar,cr,Aq,cq,Ad h.blk rfl,Ad h.blk rfl,Ad h.blk rfl,Ad h.blk rfl⟩
theorem C0.nearAt (h:C0 w b n rs){v:Nat}(hv:v<n):∃qb qo cq A m c es,w.cell? ⟨b,3,none⟩=some (.slice (some ⟨qb,qo,none⟩) n cq)/\qb<w.heap.size/\w.cell? ⟨qb,qo+v,none⟩=some (.slice A m c)/\Fv w A m c es/\es.Perm (Dh rs v):=by
 obtain⟨An,cn,mb,Ar,cr,Aq,cq,vs,h⟩:=h;obtain⟨qb,qo,rfl,a1,hc⟩:=h.near.2.2.2.2 (by omega);have hl:vs.length=n:=by have:=h.near.1;simpa using this
 have a0:vs[v]? =some (vs[v]'(by omega)):=List.getElem?_eq_getElem _;obtain⟨h1,h2⟩:=h.ends v _ a0;exact⟨qb,qo,cq,_,_,_,_,Ad h.blk rfl,a1,hc v _ (by rw[List.getElem?_map,a0];rfl),h1,h2⟩
end
theorem Fv.len {w:World}{A:Option Addr}{n c:Nat}{es:List (Nat×Nat)}(h:Fv w A n c es):es.length=n:=h.2
theorem Fv.max {w:World}{A:Option Addr}{n c:Nat}{es:List (Nat×Nat)}(h:Fv w A n c es):n<=c/\c<=9223372036854775807:=by have h1:=h.1.2.1;have h2:=h.1.2.2.1;unfold maxLen at h2;omega
theorem Fv.at_ {w:World}{A:Option Addr}{n c:Nat}{es:List (Nat×Nat)}(h:Fv w A n c es){k:Nat}(hk:k<n):
  ∃b off x l,A=some ⟨b,off,none⟩/\b<w.heap.size/\es[k]? =some (x,l)/\w.cell? ⟨b,off+k*2,none⟩=some (.int .i64 (x:Int))/\w.cell? ⟨b,off+k*2+1,none⟩=some (.int .i64 (l:Int)):=by
 have hx:es[k]? =some (es[k]'(by rw[h.2];exact hk)):=List.getElem?_eq_getElem _;obtain⟨b,off,hA,hb,hc⟩:=Cr.at_ h Kx (by decide) hx;simp only[Nat.add_assoc]at hc ⊢;exact⟨b,off,_,_,hA,hb,hx,hc 0 _ rfl,hc 1 _ rfl⟩
def Aax (s:ByteArray):Lit:= .string s.data.toList
theorem Agq {s t:ByteArray}(h:Aax s=Aax t):s=t:=by
 injection h with h
 cases s;cases t;congr 1;exact Array.toList_inj.1 h
def Ma (D:DataW Unit)(done:List ByteArray):Prop:=Go.Maps.IsMap D∧∀s,Go.Maps.has D (Aax s)=done.any fun x=>decide (x=s)
theorem Ady:Ma (.map []) []:=⟨Go.Maps.isMap_empty,fun _=>rfl⟩
theorem Agr {D:DataW Unit}{done:List ByteArray}{s:ByteArray}{v:DataW Unit}(h:Ma D done):Ma (D.put (Aax s) v) (done++[s]):=by
 obtain⟨h1,h2⟩:=h;refine⟨h1.put _ _,fun t=> ?_⟩
 rw[List.any_append];by_cases e:t=s
 ·subst e;rw[Go.Maps.has_put_same h1 (show WideAt.IsKeyLit (Aax t)from trivial)];simp
 ·rw[Go.Maps.has_put_other (fun e'=>e (Agq e')),h2 t];have e2:¬s=t:=fun e'=>e e'.symm
  simp[e2]
end Go.Proofs.YtaglfmlgbcmakaaGreatDoor
namespace Go.Proofs.YtaglfmlgbcmakaaGreatDoor
open Go.RowKit Go.Shelf
theorem Agu (A:Option Addr)(n c:Nat)(w:World):(binOp .eql 22 (.slice A n c) (.slice none 0 0)).run Tryz.prog w= .ok (.bool A.isNone) w:=
 Lib.run_eql_slice_nil w _ _ A n c 0 0 Tryz.underlying22
theorem Agv (A:Option Addr)(n c:Nat)(w:World):(binOp .eql 23 (.slice A n c) (.slice none 0 0)).run Tryz.prog w= .ok (.bool A.isNone) w:=
 Lib.run_eql_slice_nil w _ _ A n c 0 0 Tryz.underlying23
attribute [local go_sem] Agu Agv
theorem Agw:(Tryz.prog.info? 9).map (fun i=>(i.zero,i.size,i.bytes))=some (some (.string ⟨#[]⟩),1,16):=by kernel_rfl
theorem Ad0:(Tryz.prog.info? 64).map (fun i=>(i.zero,i.size,i.bytes))=some (some (.agg #[.int .i64 0, .int .i64 0, .int .i64 0]),3,24):=by kernel_rfl
theorem Qa {ops:Array Oper}{rest:List Oper}{o:Oper}{a:Act}{w:World}{Q:Exit->Act->World->Prop}(hgd:o.guard=none)(s x:Operand)
  (ho:o.op= .call {callee:= .builtin .append,args:= #[s,x],argTypes:= #[22,22]})
  (base:Nat) (v:Value) (n:Nat) (xs:List Value) (hs:a.eval s=v) (hown:w.ownsRow base 9 1 v n xs)
  (A:Option Addr) (m c:Nat) (ss:List ByteArray) (hx:a.eval x= .slice A m c) (hr:E7 w A m c ss) (hl:n+m<=4096) (hbase:base<=w.heap.size)
  (h:∀v' w',w'.ownsRow base 9 1 v' (n+m) (xs++ss.map Value.string)->w.grownBy w' v.ownBlock->wpList Tryz.prog ops Q rest (a.put o.dst v') w'):wpList Tryz.prog ops Q (o::rest) a w:=by
 obtain⟨i0,hi,a1,a2,a0⟩:=info_parts Agw
 exact Ek w hgd s x 22 ho base 9 i0 _ 1 16 Tryz.underlying22 hi a1 a2 a0 rfl (by decide) v n _ hs hown A m c _ hx hr
  (by intro u hu;obtain⟨s,_,rfl⟩:=List.mem_map.1 hu;rfl) (by unfold maxLen;omega) (by omega) hbase fun v' w' h1 h2 _=>h v' w' h1 h2
theorem M9 {ops:Array Oper}{rest:List Oper}{o:Oper}{a:Act}{w:World}{Q:Exit->Act->World->Prop}(hgd:o.guard=none)(s x:Operand)
  (ho:o.op= .call {callee:= .builtin .append,args:= #[s,x],argTypes:= #[23,23]})
  (base:Nat) (v:Value) (n:Nat) (xs:List Value) (hs:a.eval s=v) (hown:w.ownsRow base 64 3 v n xs)
  (A:Option Addr) (m c:Nat) (ss:List Dt) (hx:a.eval x= .slice A m c) (hr:Cw w A m c ss) (hl:n+m<=4096) (hbase:base<=w.heap.size)
  (h:∀v' w',w'.ownsRow base 64 3 v' (n+m) (xs++ss.flatMap Kw)->w.grownBy w' v.ownBlock->wpList Tryz.prog ops Q rest (a.put o.dst v') w'):wpList Tryz.prog ops Q (o::rest) a w:=by
 obtain⟨i0,hi,a1,a2,a0⟩:=info_parts Ad0
 exact Ek w hgd s x 23 ho base 64 i0 _ 3 24 Tryz.underlying23 hi a1 a2 a0 rfl (by decide) v n _ hs hown A m c _ hx hr.1
  (by intro u hu;obtain⟨s,_,hs⟩:=List.mem_flatMap.1 hu;simp only[Kw,List.mem_cons,List.not_mem_nil,or_false]at hs;rcases hs with rfl|rfl|rfl<;>rfl) (by unfold maxLen;omega) (by omega) hbase fun v' w' h1 h2 _=>h v' w' h1 h2
theorem Aay (A:Option Addr)(n c:Nat)(ss:List ByteArray)(w:World)(hx:E7 w A n c ss)(hb:n<=4096):
  Calls Tryz.prog 50 #[.slice A n c] w fun e w'=>∃v,e= .returned v/\w'.ownsRow w.heap.size 9 1 v n (ss.map Value.string)/\Below w.heap.size w w':=by
 have HX:=hI hx;clear hx
 cases A with
 |none=>
  have a1:c=0:=HX.out.2.2.2.1 rfl;have a2:n=0:=by have:=HX.out.2.1;omega
  subst a1 a2;go_enter Tryz.func50,Tryz.ntmps50;go_wp2;go_ret;obtain rfl:ss=[]:=List.eq_nil_of_length_eq_zero HX.out.len;exact⟨_,rfl,World.ownsRow_nil _ _ _ _,Below.refl _ _⟩
 |some ad=>
  go_enter Tryz.func50,Tryz.ntmps50;go_wp2_with(at_builtin;refine Qa rfl (.tmp 5) (.tmp 6) rfl w.heap.size _ 0 [] rfl (World.ownsRow_made w #[] 0 rr (by simp[maxLen]) rfl) (some ad) n c ss rfl (HX.out.below (B:=w.heap.size) bel rr) (by omega) (by simp) ?_;intro v1 w1 a0 a3);go_ret;exact⟨v1,rfl,(by simpa using a0),Fb (B:=w.heap.size) bel (World.ownsRow_made (e:=9) (size:=1) w #[] 0 rr (by simp[maxLen]) rfl) a3 rr (by simp)⟩
theorem Yr (A:Option Addr)(n c:Nat)(ss:List Dt)(w:World)(hx:Cw w A n c ss)(hb:n<=4000):
  Calls Tryz.prog 51 #[.slice A n c] w fun e w'=>∃v,e= .returned v/\w'.ownsRow w.heap.size 64 3 v n (ss.flatMap Kw)/\Below w.heap.size w w':=by
 have HX:=hI hx;clear hx
 cases A with
 |none=>
  have a1:c=0:=HX.out.1.2.2.2.1 rfl;have a2:n=0:=by have:=HX.out.1.2.1;omega
  subst a1 a2;go_enter Tryz.func51,Tryz.ntmps51;go_wp2;go_ret;obtain rfl:ss=[]:=List.eq_nil_of_length_eq_zero HX.out.2;exact⟨_,rfl,World.ownsRow_nil _ _ _ _,Below.refl _ _⟩
 |some ad=>
  go_enter Tryz.func51,Tryz.ntmps51;go_wp2_with(at_builtin;refine M9 rfl (.tmp 5) (.tmp 6) rfl w.heap.size _ 0 [] rfl (World.ownsRow_made w #[] 0 rr (by simp[maxLen]) rfl) (some ad) n c ss rfl (HX.out.below (B:=w.heap.size) bel rr) (by omega) (by simp) ?_;intro v1 w1 a0 a3);go_ret;exact⟨v1,rfl,(by simpa using a0),Fb (B:=w.heap.size) bel (World.ownsRow_made (e:=64) (size:=3) w #[] 0 rr (by simp[maxLen]) rfl) a3 rr (by simp)⟩
end Go.Proofs.YtaglfmlgbcmakaaGreatDoor
namespace Go.Proofs.YtaglfmlgbcmakaaGreatDoor
open Go.RowKit
theorem Gz (b:Nat)(A:Option Addr)(n c:Nat)(w:World)(h:w.cell? ⟨b,0,none⟩=some (.slice A n c)):
  Calls Tryz.prog 19 #[.pointer (some ⟨b,0,none⟩)] w fun e w'=>e= .returned (.int .i64 n)/\Below w.heap.size w w':=by
 go_enter Tryz.func19,Tryz.ntmps19;go_wp2;go_ret;exact⟨rfl,Below.refl _ _⟩
theorem Acy (w:World):Calls Tryz.prog 19 #[.pointer none] w fun e w'=>e= .returned (.int .i64 0)/\Below w.heap.size w w':=by
 go_enter Tryz.func19,Tryz.ntmps19;go_wp2;go_ret;exact⟨rfl,Below.refl _ _⟩
theorem Ahm (b:Nat)(A:Option Addr)(n c:Nat)(a:Int)(w:World)(h:w.cell? ⟨b,0,none⟩=some (.slice A n c)):
  Calls Tryz.prog 63 #[.pointer (some ⟨b,0,none⟩), .int .i64 a] w fun e w'=>e= .returned (.bool (decide (0<=a/\a<n)))/\Below w.heap.size w w':=by
 go_enter Tryz.func63,Tryz.ntmps63;by_cases h0:0<=a
 ·go_wp2_with fail;refine(Gz b A n c w h).mono ?_;rintro e w1 ⟨rfl,a0⟩;go_wp2;go_ret;refine⟨?_,a0⟩;simp[h0]
 ·have h1:¬(0<=a/\a<(n:Int)):=fun e=>h0 e.1
  go_wp2;go_ret;exact⟨by simp[h1],Below.refl _ _⟩
end Go.Proofs.YtaglfmlgbcmakaaGreatDoor
namespace Go.Proofs
open Go.Shelf
def Tryz.minI_ren:Go.Shelf.Ren:=⟨fun|10=>107|n=>n,fun|22=>36|24=>3|25=>115|3=>3|4=>4|9=>9|20=>20|0=>0|n=>n,fun|n=>n⟩
theorem Tryz.minI:Go.Proofs.SlLaysG2.n10 Tryz.prog Tryz.minI_ren:={
 mixed:=by kernel_rfl
 f10:=⟨Tryz.f107.name,by decide,Tryz.func107.trans (congrArg some (by kernel_rfl))⟩
 t0:=Tryz.underlying0
 a0:=Tryz.isAgg0
 z0:=Tryz.sizeOf0
 v0:=Tryz.zeroValue0
 t3:=Tryz.underlying3
 a3:=Tryz.isAgg3
 z3:=Tryz.sizeOf3
 v3:=Tryz.zeroValue3
 t4:=Tryz.underlying4
 a4:=Tryz.isAgg4
 z4:=Tryz.sizeOf4
 v4:=Tryz.zeroValue4
 t9:=Tryz.underlying9
 a9:=Tryz.isAgg9
 z9:=Tryz.sizeOf9
 v9:=Tryz.zeroValue9
 t20:=Tryz.underlying20
 a20:=Tryz.isAgg20
 z20:=Tryz.sizeOf20
 v20:=Tryz.zeroValue20
 t22:=Tryz.underlying36
 a22:=Tryz.isAgg36
 z22:=Tryz.sizeOf36
 v22:=Tryz.zeroValue36
 a24:=Tryz.isAgg3
 z24:=Tryz.sizeOf3
 t25:=Tryz.underlying115
 a25:=Tryz.isAgg115
 z25:=Tryz.sizeOf115
 v25:=Tryz.zeroValue115}
def Tryz.delI_ren:Go.Shelf.Ren:=⟨fun|10=>108|6=>144|n=>n,fun|22=>36|23=>3|25=>125|3=>3|4=>4|0=>0|n=>n,fun|n=>n⟩
theorem Tryz.delI:Go.Proofs.SlLaysH.n10 Tryz.prog Tryz.delI_ren:={
 mixed:=by kernel_rfl
 f6:=⟨Tryz.f144.name,by decide,Tryz.func144.trans (congrArg some (by kernel_rfl))⟩
 f10:=⟨Tryz.f108.name,by decide,Tryz.func108.trans (congrArg some (by kernel_rfl))⟩
 t0:=Tryz.underlying0
 a0:=Tryz.isAgg0
 z0:=Tryz.sizeOf0
 v0:=Tryz.zeroValue0
 t3:=Tryz.underlying3
 a3:=Tryz.isAgg3
 z3:=Tryz.sizeOf3
 v3:=Tryz.zeroValue3
 t4:=Tryz.underlying4
 a4:=Tryz.isAgg4
 z4:=Tryz.sizeOf4
 v4:=Tryz.zeroValue4
 t22:=Tryz.underlying36
 a22:=Tryz.isAgg36
 z22:=Tryz.sizeOf36
 v22:=Tryz.zeroValue36
 a23:=Tryz.isAgg3
 z23:=Tryz.sizeOf3
 t25:=Tryz.underlying125
 a25:=Tryz.isAgg125
 z25:=Tryz.sizeOf125
 v25:=Tryz.zeroValue125}
def Tryz.sortEnd_ren:Go.Shelf.Ren:=⟨fun|6=>55|15=>100|14=>99|28=>138|29=>139|20=>130|21=>131|22=>132|23=>133|24=>134|25=>135|26=>136|27=>137|46=>166|47=>167|48=>168|49=>169|50=>170|57=>184|n=>n,fun|22=>110|24=>112|25=>116|3=>3|39=>156|0=>0|53=>47|55=>81|4=>4|46=>185|45=>184|50=>108|5=>5|9=>9|66=>209|70=>213|76=>234|77=>235|n=>n,fun|n=>n⟩
theorem Tryz.sortEnd:Go.Proofs.SlLaysF0.n6 Tryz.prog Tryz.sortEnd_ren:={
 mixed:=by kernel_rfl
 f6:=⟨Tryz.f55.name,by decide,Tryz.func55.trans (congrArg some (by kernel_rfl))⟩
 f14:=⟨Tryz.f99.name,by decide,Tryz.func99.trans (congrArg some (by kernel_rfl))⟩
 f15:=Tryz.func100.trans (congrArg some (by kernel_rfl))
 f20:=⟨Tryz.f130.name,by decide,Tryz.func130.trans (congrArg some (by kernel_rfl))⟩
 f21:=⟨Tryz.f131.name,by decide,Tryz.func131.trans (congrArg some (by kernel_rfl))⟩
 f22:=⟨Tryz.f132.name,by decide,Tryz.func132.trans (congrArg some (by kernel_rfl))⟩
 f23:=⟨Tryz.f133.name,by decide,Tryz.func133.trans (congrArg some (by kernel_rfl))⟩
 f24:=⟨Tryz.f134.name,by decide,Tryz.func134.trans (congrArg some (by kernel_rfl))⟩
 f25:=⟨Tryz.f135.name,by decide,Tryz.func135.trans (congrArg some (by kernel_rfl))⟩
 f26:=⟨Tryz.f136.name,by decide,Tryz.func136.trans (congrArg some (by kernel_rfl))⟩
 f27:=⟨Tryz.f137.name,by decide,Tryz.func137.trans (congrArg some (by kernel_rfl))⟩
 f28:=Tryz.func138.trans (congrArg some (by kernel_rfl))
 f29:=Tryz.func139.trans (congrArg some (by kernel_rfl))
 f46:=⟨Tryz.f166.name,by decide,Tryz.func166.trans (congrArg some (by kernel_rfl))⟩
 f47:=Tryz.func167.trans (congrArg some (by kernel_rfl))
 f48:=Tryz.func168.trans (congrArg some (by kernel_rfl))
 f49:=⟨Tryz.f169.name,by decide,Tryz.func169.trans (congrArg some (by kernel_rfl))⟩
 f50:=⟨Tryz.f170.name,by decide,Tryz.func170.trans (congrArg some (by kernel_rfl))⟩
 f57:=⟨Tryz.f184.name,by decide,Tryz.func184.trans (congrArg some (by kernel_rfl))⟩
 t0:=Tryz.underlying0
 a0:=Tryz.isAgg0
 z0:=Tryz.sizeOf0
 v0:=Tryz.zeroValue0
 t3:=Tryz.underlying3
 a3:=Tryz.isAgg3
 z3:=Tryz.sizeOf3
 v3:=Tryz.zeroValue3
 t4:=Tryz.underlying4
 a4:=Tryz.isAgg4
 z4:=Tryz.sizeOf4
 v4:=Tryz.zeroValue4
 t5:=Tryz.underlying5
 a5:=Tryz.isAgg5
 z5:=Tryz.sizeOf5
 v5:=Tryz.zeroValue5
 t9:=Tryz.underlying9
 a9:=Tryz.isAgg9
 z9:=Tryz.sizeOf9
 v9:=Tryz.zeroValue9
 t22:=Tryz.underlying110
 a22:=Tryz.isAgg110
 z22:=Tryz.sizeOf110
 v22:=Tryz.zeroValue110
 t25:=Tryz.underlying116
 a25:=Tryz.isAgg116
 z25:=Tryz.sizeOf116
 v25:=Tryz.zeroValue116
 t39:=Tryz.underlying156
 a39:=Tryz.isAgg156
 z39:=Tryz.sizeOf156
 v39:=Tryz.zeroValue156
 t45:=Tryz.underlying184
 a45:=Tryz.isAgg184
 z45:=Tryz.sizeOf184
 v45:=Tryz.zeroValue184
 t46:=Tryz.underlying185
 a46:=Tryz.isAgg185
 z46:=Tryz.sizeOf185
 v46:=Tryz.zeroValue185
 t50:=Tryz.underlying108
 a50:=Tryz.isAgg108
 z50:=Tryz.sizeOf108
 v50:=Tryz.zeroValue108
 t53:=Tryz.underlying47
 a53:=Tryz.isAgg47
 z53:=Tryz.sizeOf47
 v53:=Tryz.zeroValue47
 t55:=Tryz.underlying81
 a55:=Tryz.isAgg81
 z55:=Tryz.sizeOf81
 v55:=Tryz.zeroValue81
 t66:=Tryz.underlying209
 a66:=Tryz.isAgg209
 z66:=Tryz.sizeOf209
 v66:=Tryz.zeroValue209
 t70:=Tryz.underlying213
 a70:=Tryz.isAgg213
 z70:=Tryz.sizeOf213
 v70:=Tryz.zeroValue213
 t76:=Tryz.underlying234
 a76:=Tryz.isAgg234
 z76:=Tryz.sizeOf234
 v76:=Tryz.zeroValue234
 t77:=Tryz.underlying235
 a77:=Tryz.isAgg235
 z77:=Tryz.sizeOf235
 v77:=Tryz.zeroValue235}
def Tryz.insI_ren:Go.Shelf.Ren:=⟨fun|20=>185|n=>n,fun|24=>3|22=>36|3=>3|25=>115|4=>4|0=>0|n=>n,fun|n=>n⟩
theorem Tryz.insI:Go.Proofs.SlLaysF.n20 Tryz.prog Tryz.insI_ren:={
 mixed:=by kernel_rfl
 f20:=⟨Tryz.f185.name,by decide,Tryz.func185.trans (congrArg some (by kernel_rfl))⟩
 t0:=Tryz.underlying0
 a0:=Tryz.isAgg0
 z0:=Tryz.sizeOf0
 v0:=Tryz.zeroValue0
 t3:=Tryz.underlying3
 a3:=Tryz.isAgg3
 z3:=Tryz.sizeOf3
 v3:=Tryz.zeroValue3
 t4:=Tryz.underlying4
 a4:=Tryz.isAgg4
 z4:=Tryz.sizeOf4
 v4:=Tryz.zeroValue4
 t22:=Tryz.underlying36
 a22:=Tryz.isAgg36
 z22:=Tryz.sizeOf36
 v22:=Tryz.zeroValue36
 a24:=Tryz.isAgg3
 z24:=Tryz.sizeOf3
 t25:=Tryz.underlying115
 a25:=Tryz.isAgg115
 z25:=Tryz.sizeOf115
 v25:=Tryz.zeroValue115}
end Go.Proofs
