/-
  The examples of the statements' own package: sounds and laws.
  Strict orders, in plain words (the same as in text InvS: never import both).
  Waves in their order (chapter 38), in plain words: those before which none comes, one, two and so on, are all in order.
  Shortest ways (chapters 36 and 38), in plain words: what a distance is; ways over more and more points (the document's); the nearest open point first (the program's).
  When a wave arrives (chapter 38), in plain words: the program's test for numbers too large and the document's are the same.
  Maps of places (chapter 36), in plain words: roads, the roads at each point, what is refused.
  What points.New refuses, in plain words.
  A number or -1 where there is none.
  Sorting a rising list by another order that does not tell all elements apart: the sort keeps equal ones as they stand (slices.SortStableFunc over few elements), in plain words.
  Waves (chapter 38), in plain words: what is refused, when waves arrive, lines, forms, where one wave comes before another.
  The examples of chapter 38, in plain words.
  Maps in memory (chapter 36).
  A map that bears the names that have been seen, in plain words.
  slices.Clone of strings and of roads; (*points.Map).Roads.
  points.Map: Len, has.
  slices.MinFunc, DeleteFunc, SortFunc and an insertion sort at this program: tables of numbers, and facts of the program (written by the kit's lay-plain).
-/
import Derived.Sort.LotA
import Derived.Maps.Own
import Derived.Maps.Views
import Derived.Shelf.SlCmpFuncs.MinMaxFunc
import Derived.Shelf.SlicesE.DeleteFunc
import Derived.Shelf.SlSortCmp.NoneTotal
import Derived.Shelf.SlGeneric
import Derived.Test.YtaglfmlgbcmakaaGreatDoorG34
import Derived.Test.YtaglfmlgbcmakaaGreatDoorG14
set_option linter.all false
set_option maxRecDepth 100000
set_option maxHeartbeats 4000000
namespace Go.Proofs.YtaglfmlgbcmakaaGreatDoor
open Go.RowKit Go.Shelf
end Go.Proofs.YtaglfmlgbcmakaaGreatDoor
namespace Go.Proofs.YtaglfmlgbcmakaaGreatDoor
open Go.RowKit
section
variable {α:Type}
structure Hg (lt:α->α->Bool):Prop where
 irr:∀a,lt a a=false
 tr:∀a b c,lt a b=true->lt b c=true->lt a c=true
 tot:∀a b,lt a b=false->lt b a=false->a=b
theorem Jr {lt:α->α->Bool}(h:Hg lt):∀xs ys:List α,xs.Pairwise (fun a b=>lt a b=true)->ys.Pairwise (fun a b=>lt a b=true)->(∀a,a∈xs↔a∈ys)->xs=ys
 |[],[],_,_,_=>rfl
 |[],y::ys,_,_,hm=>by have:=(hm y).2 List.mem_cons_self;cases this
 |x::xs,[],_,_,hm=>by have:=(hm x).1 List.mem_cons_self;cases this
 |x::xs,y::ys,hx,hy,hm=>by
  rw[List.pairwise_cons]at hx hy
  have a0:x=y:=by
   rcases List.mem_cons.1 ((hm x).1 List.mem_cons_self)with e|e
   ·exact e
   ·rcases List.mem_cons.1 ((hm y).2 List.mem_cons_self)with e'|e'
    ·exact e'.symm
    ·have h1:=hy.1 x e;have h2:=hx.1 y e';have h3:=h.tr _ _ _ h1 h2;rw[h.irr]at h3;cases h3
  subst a0;congr 1;refine Jr h xs ys hx.2 hy.2 fun a=>⟨fun ha=> ?_,fun ha=> ?_⟩
  ·rcases List.mem_cons.1 ((hm a).1 (List.mem_cons_of_mem _ ha))with e|e
   ·subst e;have:=hx.1 a ha;rw[h.irr]at this;cases this
   ·exact e
  ·rcases List.mem_cons.1 ((hm a).2 (List.mem_cons_of_mem _ ha))with e|e
   ·subst e;have:=hy.1 a ha;rw[h.irr]at this;cases this
   ·exact e
end
section
variable {lt:Nat->Nat->Bool}
def Jb (lt:Nat->Nat->Bool)(m i:Nat):Nat:=((List.range m).filter fun k=>lt k i).length
theorem L2 {α:Type}{p q:α->Bool}(h:∀a,p a=true->q a=true):∀l:List α,(l.filter p).length<=(l.filter q).length
 |[]=>rr
 |x::l=>by
  have ih:=L2 h l;rw[List.filter_cons,List.filter_cons];by_cases hp:p x=true
  ·rw[if_pos hp,if_pos (h x hp)];simp;exact ih
  ·rw[if_neg hp];split
   ·simp;omega
   ·exact ih
theorem Gw {α:Type}{p q:α->Bool}(h:∀a,p a=true->q a=true){y:α}(hp:p y=false)(hq:q y=true):∀l:List α,y∈l->(l.filter p).length<(l.filter q).length
 |[],hy=>by cases hy
 |x::l,hy=>by
  rw[List.filter_cons,List.filter_cons];rcases List.mem_cons.1 hy with e|hy
  ·subst e;rw[if_neg (by simp[hp]),if_pos hq]
   have:=L2 h l
   simp;omega
  ·have ih:=Gw h hp hq l hy;by_cases hpx:p x=true
   ·rw[if_pos hpx,if_pos (h x hpx)];simp;exact ih
   ·rw[if_neg hpx];split
    ·simp;omega
    ·exact ih
theorem S1 (h:Hg lt){m i j:Nat}(hi:i<m)(hij:lt i j=true):Jb lt m i<Jb lt m j:=
 Gw (p:=fun k=>lt k i) (q:=fun k=>lt k j) (fun k hk=>h.tr k i j hk hij) (h.irr i) hij _ (List.mem_range.2 hi)
theorem S2 (h:Hg lt){m i:Nat}(hi:i<m):Jb lt m i<m:=by
 have:=Gw (p:=fun k=>lt k i) (q:=fun _=>true) (fun _ _=>rfl) (h.irr i) rfl (List.range m) (List.mem_range.2 hi)
 rw[List.filter_eq_self.2 (fun _ _=>rfl),List.length_range]at this;exact this
def D9 (lt:Nat->Nat->Bool)(p:Nat->Bool)(m:Nat):List Nat:=(List.range m).flatMap fun n=>(List.range m).filter fun i=>decide (Jb lt m i=n) && p i
theorem Em (h:Hg lt)(p:Nat->Bool)(m i:Nat):i∈D9 lt p m↔i<m/\p i=true:=by
 unfold D9;rw[List.mem_flatMap];constructor
 ·rintro⟨n,_,hi⟩;obtain⟨h1,h2⟩:=List.mem_filter.1 hi;rw[Bool.and_eq_true]at h2;exact⟨List.mem_range.1 h1,h2.2⟩
 ·rintro⟨h1,h2⟩;exact⟨Jb lt m i,List.mem_range.2 (S2 h h1),List.mem_filter.2 ⟨List.mem_range.2 h1,by simp[h2]⟩⟩
theorem Gk (h:Hg lt)(p:Nat->Bool)(m:Nat):(D9 lt p m).Pairwise (fun a b=>lt a b=true):=by
 have key:∀ns:List Nat,ns.Pairwise (fun a b=>a<b)->(ns.flatMap fun n=>(List.range m).filter fun i=>decide (Jb lt m i=n) && p i).Pairwise (fun a b=>lt a b=true):=by
  intro ns
  induction ns with
  |nil=>intro _;simp
  |cons n ns ih=>
   intro hn;rw[List.pairwise_cons]at hn;rw[List.flatMap_cons,List.pairwise_append]
   have hm:∀k i,i∈(List.range m).filter (fun i=>decide (Jb lt m i=k) && p i)->i<m/\Jb lt m i=k:=fun k i hi=>by
    obtain⟨h1,h2⟩:=List.mem_filter.1 hi;rw[Bool.and_eq_true]at h2;exact⟨List.mem_range.1 h1,by simpa using h2.1⟩
   refine⟨?_,ih hn.2,fun a ha b hb=> ?_⟩
   ·refine((List.pairwise_lt_range (n:=m)).filter _).imp_of_mem fun{a b} ha hb hab=> ?_
    obtain⟨h1,h2⟩:=hm n a ha;obtain⟨h3,h4⟩:=hm n b hb
    cases hx:lt a b with
    |true=>rfl
    |false=>
     cases hy:lt b a with
     |true=>have:=S1 h h3 hy;omega
     |false=>have:=h.tot a b hx hy;omega
   ·obtain⟨k,hk,hb⟩:=List.mem_flatMap.1 hb;obtain⟨h1,h2⟩:=hm n a ha;obtain⟨h3,h4⟩:=hm k b hb;have a0:=hn.1 k hk
    cases hx:lt a b with
    |true=>rfl
    |false=>
     cases hy:lt b a with
     |true=>have:=S1 h h3 hy;omega
     |false=>have:=h.tot a b hx hy;subst this;omega
 exact key _ List.pairwise_lt_range
theorem Jp (h:Hg lt)(p:Nat->Bool)(m:Nat){s:List Nat}(hs:s.Pairwise (fun a b=>lt a b=true))(hm:∀i,i∈s↔i<m/\p i=true):s=D9 lt p m:=
 Jr h _ _ hs (Gk h p m) fun i=>by rw[hm,Em h]
end
def Cz (t:Nat->Option Nat)(i j:Nat):Bool:=match t i,t j with
 |some x,some y=>decide (x<y)||(decide (x=y) && decide (i<j))
 |some _,none=>true
 |none,some _=>false
 |none,none=>decide (i<j)
theorem Ca (t:Nat->Option Nat):Hg (Cz t) where
 irr:=fun a=>by unfold Cz;cases t a<;>simp
 tr:=fun a b c h1 h2=>by
  unfold Cz at*;cases ha:t a<;>cases hb:t b<;>cases hc:t c<;>rw[ha,hb]at h1<;>rw[hb,hc]at h2<;>simp at h1 h2 ⊢ <;>omega
 tot:=fun a b h1 h2=>by
  unfold Cz at*;cases ha:t a<;>cases hb:t b<;>rw[ha,hb]at h1 h2<;>simp at h1 h2<;>omega
inductive Way (wt:Nat->Nat->Option Nat):Nat->Nat->Nat->Prop
 |nil (a:Nat):Way wt a a 0
 |snoc {a b c d l:Nat}:Way wt a b d->wt b c=some l->Way wt a c (d+l)
def Nf (wt:Nat->Nat->Option Nat)(a b:Nat)(o:Option Nat):Prop:=match o with
 |none=>∀d,¬Way wt a b d
 |some d=>Way wt a b d∧∀d',Way wt a b d'->d<=d'
theorem Rz {wt:Nat->Nat->Option Nat}{a b:Nat}{o o':Option Nat}(h:Nf wt a b o)(h':Nf wt a b o'):o=o':=by
 cases o with
 |none=>cases o' with
  |none=>rfl
  |some d=>exact absurd h'.1 (h d)
 |some d=>cases o' with
  |none=>exact absurd h.1 (h' d)
  |some d'=>exact congrArg some (Nat.le_antisymm (h.2 d' h'.1) (h'.2 d h.1))
theorem Way.append {wt:Nat->Nat->Option Nat}{a b c d d':Nat}(h:Way wt a b d)(h':Way wt b c d'):Way wt a c (d+d'):=by
 induction h' with
 |nil=>exact h
 |snoc _ hl ih=>rw[←Nat.add_assoc];exact .snoc ih hl
theorem Way.one {wt:Nat->Nat->Option Nat}{a b l:Nat}(h:wt a b=some l):Way wt a b l:=by
 have:=Way.snoc (Way.nil (wt:=wt) a) h
 rwa[Nat.zero_add]at this
inductive Jh (wt:Nat->Nat->Option Nat) (P:Nat->Prop):Nat->Nat->Nat->Prop
 |nil (a:Nat):Jh wt P a a 0
 |edge {a b l:Nat}:wt a b=some l->Jh wt P a b l
 |cons {a b c d l:Nat}:wt a b=some l->P b->Jh wt P b c d->Jh wt P a c (l+d)
theorem Jh.way {wt:Nat->Nat->Option Nat}{P:Nat->Prop}{a b d:Nat}(h:Jh wt P a b d):Way wt a b d:=by
 induction h with
 |nil=>exact .nil _
 |edge h=>exact Way.one h
 |cons h _ _ ih=>exact(Way.one h).append ih
theorem Jh.split {wt:Nat->Nat->Option Nat}{k a c d:Nat}(h:Jh wt (fun v=>v<k+1) a c d):
  Jh wt (fun v=>v<k) a c d∨∃d1 d2,Jh wt (fun v=>v<k) a k d1/\Jh wt (fun v=>v<k) k c d2/\d1+d2<=d:=by
 induction h with
 |nil a=>exact .inl (.nil a)
 |edge h=>exact .inl (.edge h)
 | @cons a b c d l hl hb _ ih=>
  rcases Nat.lt_or_ge b k with hk|hk
  ·rcases ih with ih|⟨d1,d2,h1,h2,h3⟩
   ·exact .inl (.cons hl hk ih)
   ·exact .inr ⟨l+d1,d2, .cons hl hk h1,h2,by omega⟩
  ·obtain rfl:b=k:=by omega
   rcases ih with ih|⟨d1,d2,h1,h2,h3⟩
   ·exact .inr ⟨l,d, .edge hl,ih,rr⟩
   ·exact .inr ⟨l,d2, .edge hl,h2,by omega⟩
theorem Way.all {wt:Nat->Nat->Option Nat}{n:Nat}(hn:∀a b l,wt a b=some l->a<n/\b<n){a b d:Nat}(h:Way wt a b d):Jh wt (fun v=>v<n) a b d:=by
 -- first as a way that begins with its first road
 have key:∀{b d},Way wt a b d→∀{c l},wt b c=some l->Jh wt (fun v=>v<n) a c (d+l):=by
  intro b d hw
  induction hw with
  |nil=>intro c l hl;rw[Nat.zero_add];exact .edge hl
  | @snoc b c d l hw hl ih=>
   intro e l' a0;have hc:c<n:=(hn _ _ _ hl).2
   have snoc':∀{x y d},Jh wt (fun v=>v<n) x y d->y<n→∀{z l},wt y z=some l->Jh wt (fun v=>v<n) x z (d+l):=by
    intro x y d a1
    induction a1 with
    |nil=>intro _ z l hl;rw[Nat.zero_add];exact .edge hl
    |edge h=>intro hy z l hl;exact .cons h hy (.edge hl)
    |cons h hb _ ih=>intro hy z l hl;rw[Nat.add_assoc];exact .cons h hb (ih hy hl)
   exact snoc' (ih hl) hc a0
 cases h with
 |nil=>exact .nil _
 |snoc hw hl=>exact key hw hl
def Pl:Option Nat->Option Nat->Option Nat
 |none,o=>o
 |some d,none=>some d
 |some d,some e=>some (min d e)
def Wk:Option Nat->Option Nat->Option Nat
 |some d,some e=>some (d+e)
 |_,_=>none
def T3 (k:Nat)(D:Nat->Nat->Option Nat):Nat->Nat->Option Nat:=fun i j=>Pl (D i j) (Wk (D i k) (D k j))
def Fh (D:Nat->Nat->Option Nat):Nat->Nat->Nat->Option Nat
 |0=>D
 |k+1=>T3 k (Fh D k)
theorem Vk {wt:Nat->Nat->Option Nat}{D:Nat->Nat->Option Nat}(h0:∀i j d,D i j=some d->Way wt i j d):∀k i j d,Fh D k i j=some d->Way wt i j d
 |0,i,j,d,h=>h0 i j d h
 |k+1,i,j,d,h=>by
  have ih:=Vk h0 k;unfold Fh T3 at h
  cases h1:Fh D k i j with
  |none=>
   rw[h1]at h
   cases h2:Fh D k i k with
   |none=>rw[h2]at h;cases h
   |some d1=>cases h3:Fh D k k j with
    |none=>rw[h2,h3]at h;cases h
    |some d2=>
     rw[h2,h3]at h;obtain rfl:d1+d2=d:=by simpa[Pl,Wk]using h
     exact(ih _ _ _ h2).append (ih _ _ _ h3)
  |some d0=>
   rw[h1]at h
   cases h2:Fh D k i k with
   |none=>
    rw[h2]at h;obtain rfl:d0=d:=by simpa[Pl,Wk]using h
    exact ih _ _ _ h1
   |some d1=>cases h3:Fh D k k j with
    |none=>
     rw[h2,h3]at h;obtain rfl:d0=d:=by simpa[Pl,Wk]using h
     exact ih _ _ _ h1
    |some d2=>
     rw[h2,h3]at h;have h4:min d0 (d1+d2)=d:=by simpa[Pl,Wk]using h
     rcases Nat.le_total d0 (d1+d2)with h5|h5
     ·rw[Nat.min_eq_left h5]at h4;subst h4;exact ih _ _ _ h1
     ·rw[Nat.min_eq_right h5]at h4;subst h4;exact(ih _ _ _ h2).append (ih _ _ _ h3)
def leO (o:Option Nat)(d:Nat):Prop:=∃e,o=some e/\e<=d
theorem R0 {wt:Nat->Nat->Option Nat}{D:Nat->Nat->Option Nat}(h0:∀i,D i i=some 0)(h1:∀i j l,wt i j=some l->leO (D i j) l):∀k i j d,Jh wt (fun v=>v<k) i j d->leO (Fh D k i j) d
 |0,i,j,d,h=>by
  cases h with
  |nil=>exact⟨0,h0 _,rr⟩
  |edge h=>exact h1 _ _ _ h
  |cons _ hb _=>omega
 |k+1,i,j,d,h=>by
  have ih:=R0 h0 h1 k;unfold Fh T3;rcases h.split with h|⟨d1,d2,h2,h3,h4⟩
  ·obtain⟨e,he,a2⟩:=ih _ _ _ h;rw[he]
   cases Wk (Fh D k i k) (Fh D k k j)with
   |none=>exact⟨e,rfl,a2⟩
   |some x=>exact⟨min e x,rfl,by omega⟩
  ·obtain⟨e1,a1,a3⟩:=ih _ _ _ h2;obtain⟨e2,a0,a4⟩:=ih _ _ _ h3;rw[a1,a0]
   cases Fh D k i j with
   |none=>exact⟨e1+e2,rfl,by omega⟩
   |some x=>exact⟨min x (e1+e2),rfl,by omega⟩
theorem Abl {wt:Nat->Nat->Option Nat}{D:Nat->Nat->Option Nat}{n:Nat}(hn:∀a b l,wt a b=some l->a<n/\b<n)(h0:∀i,D i i=some 0)(hw:∀i j d,D i j=some d->Way wt i j d)
  (h1:∀i j l,wt i j=some l->leO (D i j) l) (i j:Nat):Nf wt i j (Fh D n i j):=by
 have hs:∀d,Way wt i j d->leO (Fh D n i j) d:=fun d hd=>R0 h0 h1 n i j d (hd.all hn)
 cases h:Fh D n i j with
 |none=>exact fun d hd=>by obtain⟨e,he,_⟩:=hs d hd;rw[h]at he;cases he
 |some d=>exact⟨Vk hw n i j d h,fun d' hd=>by obtain⟨e,he,a0⟩:=hs d' hd;rw[h]at he;cases he;exact a0⟩
structure Dij (wt:Nat->Nat->Option Nat)(a:Nat)(D:Nat->Option Nat)(op:List Nat):Prop where
 start:D a=some 0
 way:∀v d,D v=some d->Way wt a v d
 open_:∀v∈op,∃d,D v=some d
 closed:∀u du,D u=some du->u∉op→∀v l,wt u v=some l->leO (D v) (du+l)
 order:∀u du,D u=some du->u∉op→∀v∈op,∀dv,D v=some dv->du<=dv
theorem Dij.begin (wt:Nat->Nat->Option Nat)(a:Nat):Dij wt a (fun v=>if v=a then some 0 else none) [a] where
 start:=by simp
 way:=fun v d h=>by
  by_cases e:v=a
  ·subst e;simp at h;subst h;exact .nil _
  ·simp[e]at h
 open_:=fun v hv=>⟨0,by simp at hv;simp[hv]⟩
 closed:=fun u du h hu=>by
  by_cases e:u=a
  ·subst e;simp at hu
  ·simp[e]at h
 order:=fun u du h hu=>by
  by_cases e:u=a
  ·subst e;simp at hu
  ·simp[e]at h
theorem Dij.done {wt:Nat->Nat->Option Nat}{a:Nat}{D:Nat->Option Nat}(h:Dij wt a D [])(v:Nat):Nf wt a v (D v):=by
 have hs:∀v d,Way wt a v d->leO (D v) d:=by
  intro v d hw
  induction hw with
  |nil=>exact⟨0,h.start,rr⟩
  | @snoc b c d l _ hl ih=>
   obtain⟨e,he,a1⟩:=ih;obtain⟨x,hx,a2⟩:=h.closed _ _ he (by simp) _ _ hl;exact⟨x,hx,by omega⟩
 cases hd:D v with
 |none=>exact fun d hw=>by obtain⟨e,he,_⟩:=hs v d hw;rw[hd]at he;cases he
 |some d=>exact⟨h.way v d hd,fun d' hw=>by obtain⟨e,he,a0⟩:=hs v d' hw;rw[hd]at he;cases he;exact a0⟩
def F8 (D:Nat->Option Nat)(x d:Nat):Nat->Option Nat:=fun v=>if v=x then some d else D v
theorem Ct (D:Nat->Option Nat)(x d:Nat):F8 D x d x=some d:=by simp[F8]
theorem Cu (D:Nat->Option Nat){x v:Nat}(d:Nat)(h:v≠x):F8 D x d v=D v:=by simp[F8,h]
def Jw (dAt:Nat)(x l:Nat)(s:(Nat->Option Nat)×List Nat):(Nat->Option Nat)×List Nat:=
 match s.1 x with
 |none=>(F8 s.1 x (dAt+l),s.2++[x])
 |some dx=>if dx<=dAt+l then s else(F8 s.1 x (dAt+l),s.2)
structure Rlx (wt:Nat->Nat->Option Nat)(a at_ dAt:Nat)(done:List (Nat×Nat))(D:Nat->Option Nat)(op:List Nat):Prop where
 start:D a=some 0
 way:∀v d,D v=some d->Way wt a v d
 open_:∀v∈op,∃d,D v=some d
 atv:D at_=some dAt
 ato:at_∉op
 cl:∀u du,D u=some du->u∉op->du<=dAt/\(u≠at_→∀v l,wt u v=some l->leO (D v) (du+l))
 dn:∀v l,(v,l)∈done->leO (D v) (dAt+l)
 od:∀v∈op,∀dv,D v=some dv->dAt<=dv
theorem Rlx.begin {wt:Nat->Nat->Option Nat}{a at_ dAt:Nat}{D:Nat->Option Nat}{op:List Nat}(h:Dij wt a D op)(ha:at_∈op)(hd:D at_=some dAt)(hm:∀v∈op,∀dv,D v=some dv->dAt<=dv):Rlx wt a at_ dAt [] D (op.filter fun x=> !decide (x=at_)) where
 start:=h.start
 way:=h.way
 open_:=fun v hv=>h.open_ v (List.mem_filter.1 hv).1
 atv:=hd
 ato:=fun hv=>by simp at hv
 cl:=fun u du hu hn=>by
  by_cases e:u=at_
  ·subst e;rw[hd]at hu;cases hu;exact⟨rr,fun hne=>absurd rfl hne⟩
  ·have a0:u∉op:=fun hv=>hn (List.mem_filter.2 ⟨hv,by simp[e]⟩)
   exact⟨h.order u du hu a0 at_ ha dAt hd,fun _=>h.closed u du hu a0⟩
 dn:=fun v l hv=>by cases hv
 od:=fun v hv=>hm v (List.mem_filter.1 hv).1
theorem Rlx.step {wt:Nat->Nat->Option Nat}{a at_ dAt:Nat}{done:List (Nat×Nat)}{D:Nat->Option Nat}{op:List Nat}(h:Rlx wt a at_ dAt done D op){x l:Nat}(hx:wt at_ x=some l):
  Rlx wt a at_ dAt (done++[(x,l)]) (Jw dAt x l (D,op)).1 (Jw dAt x l (D,op)).2:=by
 have a1:Way wt a x (dAt+l):= .snoc (h.way _ _ h.atv) hx
 have a0:∀{D':Nat->Option Nat},leO (D' x) (dAt+l)->(∀v k,leO (D v) k->leO (D' v) k)→∀v k,(v,k)∈done++[(x,l)]->leO (D' v) (dAt+k):=fun h1 h2 v k hv=>by
  rcases List.mem_append.1 hv with hv|hv
  ·exact h2 v _ (h.dn v k hv)
  ·obtain⟨rfl,rfl⟩:v=x/\k=l:=by simpa using hv
   exact h1
 unfold Jw;dsimp only
 cases hD:D x with
 |none=>
  dsimp only
  have a2:∀v k,leO (D v) k->leO (F8 D x (dAt+l) v) k:=fun v k ⟨e,he,hk⟩=>by
   by_cases e':v=x
   ·subst e';rw[hD]at he;cases he
   ·rw[Cu _ _ e'];exact⟨e,he,hk⟩
  have a3:at_≠x:=fun e=>by rw[←e,h.atv]at hD;cases hD
  refine⟨?_,fun v d hv=> ?_,fun v hv=> ?_,by rw[Cu _ _ a3];exact h.atv,fun hv=> ?_,fun u du hu hn=> ?_,a0 ⟨_,Ct _ _ _,rr⟩ a2,fun v hv dv hdv=> ?_⟩
  ·rw[Cu _ _ (fun e=>by rw[←e,h.start]at hD;cases hD)];exact h.start
  ·by_cases e:v=x
   ·subst e;rw[Ct]at hv;cases hv;exact a1
   ·rw[Cu _ _ e]at hv;exact h.way v d hv
  ·by_cases e:v=x
   ·subst e;exact⟨_,Ct _ _ _⟩
   ·rcases List.mem_append.1 hv with hv|hv
    ·rw[Cu _ _ e];exact h.open_ v hv
    ·exact absurd (by simpa using hv) e
  ·rcases List.mem_append.1 hv with hv|hv
   ·exact h.ato hv
   ·exact a3 (by simpa using hv)
  ·have a4:u≠x:=fun e=>hn (List.mem_append.2 (.inr (by simp[e])))
   have a7:u∉op:=fun hv=>hn (List.mem_append.2 (.inl hv))
   rw[Cu _ _ a4]at hu;obtain⟨h1,h2⟩:=h.cl u du hu a7;exact⟨h1,fun hne v k hk=>a2 v _ (h2 hne v k hk)⟩
  ·by_cases e:v=x
   ·subst e;rw[Ct]at hdv;cases hdv;omega
   ·rcases List.mem_append.1 hv with hv|hv
    ·rw[Cu _ _ e]at hdv;exact h.od v hv dv hdv
    ·exact absurd (by simpa using hv) e
 |some dx=>
  dsimp only;by_cases hle:dx<=dAt+l
  ·rw[if_pos hle];exact⟨h.start,h.way,h.open_,h.atv,h.ato,h.cl,a0 ⟨dx,hD,hle⟩ (fun _ _ h=>h),h.od⟩
  ·rw[if_neg hle];dsimp only
   -- the point is open
   have a5:x∈op:=Classical.byContradiction fun hn=>by
    have:=(h.cl x dx hD hn).1;omega
   have a2:∀v k,leO (D v) k->leO (F8 D x (dAt+l) v) k:=fun v k ⟨e,he,hk⟩=>by
    by_cases e':v=x
    ·subst e';rw[hD]at he;cases he;exact⟨_,Ct _ _ _,by omega⟩
    ·rw[Cu _ _ e'];exact⟨e,he,hk⟩
   have a3:at_≠x:=fun e=>h.ato (e▸a5)
   refine⟨?_,fun v d hv=> ?_,fun v hv=> ?_,by rw[Cu _ _ a3];exact h.atv,h.ato,fun u du hu hn=> ?_,a0 ⟨_,Ct _ _ _,rr⟩ a2,fun v hv dv hdv=> ?_⟩
   ·have a6:a≠x:=fun e=>by
     rw[←e,h.start]at hD;cases hD;omega
    rw[Cu _ _ a6];exact h.start
   ·by_cases e:v=x
    ·subst e;rw[Ct]at hv;cases hv;exact a1
    ·rw[Cu _ _ e]at hv;exact h.way v d hv
   ·by_cases e:v=x
    ·subst e;exact⟨_,Ct _ _ _⟩
    ·rw[Cu _ _ e];exact h.open_ v hv
   ·have a4:u≠x:=fun e=>hn (e▸a5)
    rw[Cu _ _ a4]at hu;obtain⟨h1,h2⟩:=h.cl u du hu hn;exact⟨h1,fun hne v k hk=>a2 v _ (h2 hne v k hk)⟩
   ·by_cases e:v=x
    ·subst e;rw[Ct]at hdv;cases hdv;omega
    ·rw[Cu _ _ e]at hdv;exact h.od v hv dv hdv
theorem Rlx.done_ {wt:Nat->Nat->Option Nat}{a at_ dAt:Nat}{done:List (Nat×Nat)}{D:Nat->Option Nat}{op:List Nat}(h:Rlx wt a at_ dAt done D op)(hall:∀v l,wt at_ v=some l->(v,l)∈done):Dij wt a D op where
 start:=h.start
 way:=h.way
 open_:=h.open_
 closed:=fun u du hu hn v l hl=>by
  by_cases e:u=at_
  ·subst e;rw[h.atv]at hu;cases hu;exact h.dn v l (hall v l hl)
  ·exact(h.cl u du hu hn).2 e v l hl
 order:=fun u du hu hn v hv dv hdv=>Nat.le_trans (h.cl u du hu hn).1 (h.od v hv dv hdv)
def Mp (l:List (Option Nat)):Option Nat:=l.foldl Pl none
def Lj (near:Option Nat)(T S:Nat)(U:Int):Option Nat:=match near with
 |none=>none
 |some d=>if 9223372036854775807<T+S*d then none else if U<=((T+S*d:Nat):Int)then none else some (T+S*d)
theorem Acv {T S d M:Nat}(hT:T<=M):(0<d/\(M-T)/d<S)↔M<T+S*d:=by
 constructor
 ·rintro⟨h0,h1⟩
  have:=(Nat.div_lt_iff_lt_mul h0).1 h1
  omega
 ·intro h
  have h0:0<d:=by
   rcases Nat.eq_zero_or_pos d with e|e
   ·subst e;simp at h;omega
   ·exact e
  exact⟨h0,(Nat.div_lt_iff_lt_mul h0).2 (by omega)⟩
theorem Xr (a:Option Nat):Pl a none=a:=by cases a<;>rfl
theorem V6 (d e:Nat):Pl (some d) (some e)=if e<d then some e else some d:=by
 show some (min d e)=_;by_cases h:e<d
 ·rw[if_pos h,Nat.min_eq_right (by omega)]
 ·rw[if_neg h,Nat.min_eq_left (by omega)]
abbrev Bh:=Nat×Nat×Nat
def Df (r:Bh)(a b:Nat):Bool:=(decide (r.1=a) && decide (r.2.1=b))||(decide (r.1=b) && decide (r.2.1=a))
theorem D5 {r:Bh}{a b:Nat}:Df r a b=true↔(r.1=a/\r.2.1=b)\/(r.1=b/\r.2.1=a):=by
 unfold Df;simp
def wtN (rs:List Bh)(a b:Nat):Option Nat:=(rs.find? fun r=>Df r a b).map fun r=>r.2.2
def Cp (rs:List Bh)(v:Nat):List (Nat×Nat):=rs.filterMap fun r=>if r.1=v then some (r.2.1,r.2.2)else if r.2.1=v then some (r.1,r.2.2)else none
structure Eg (n:Nat)(rs:List Bh):Prop where
 lt:∀r∈rs,r.1<n/\r.2.1<n/\r.1≠r.2.1/\1<=r.2.2/\r.2.2<=1073741824
 one:rs.Pairwise fun r s=>Df r s.1 s.2.1=false
theorem Wu (rs:List Bh)(r:Bh)(v:Nat):Cp (rs++[r]) v=Cp rs v++(if r.1=v then [(r.2.1,r.2.2)]else if r.2.1=v then [(r.1,r.2.2)]else []):=by
 unfold Cp;rw[List.filterMap_append];congr 1;by_cases h:r.1=v
 ·simp[h]
 ·by_cases h':r.2.1=v
  ·simp[h,h']
  ·simp[h,h']
theorem Gr {rs:List Bh}{v x l:Nat}:(x,l)∈Cp rs v↔∃r∈rs,(r.1=v/\r.2.1=x/\r.2.2=l)\/(r.1≠v/\r.2.1=v/\r.1=x/\r.2.2=l):=by
 unfold Cp;rw[List.mem_filterMap];constructor
 ·rintro⟨r,hr,h⟩;refine⟨r,hr, ?_⟩;by_cases h1:r.1=v
  ·rw[if_pos h1]at h;simp only[Option.some.injEq,Prod.mk.injEq]at h;exact .inl ⟨h1,h⟩
  ·rw[if_neg h1]at h;by_cases h2:r.2.1=v
   ·rw[if_pos h2]at h;simp only[Option.some.injEq,Prod.mk.injEq]at h;exact .inr ⟨h1,h2,h⟩
   ·rw[if_neg h2]at h;cases h
 ·rintro⟨r,hr,⟨h1,h2,h3⟩|⟨h1,h2,h3,h4⟩⟩
  ·exact⟨r,hr,by rw[if_pos h1,h2,h3]⟩
  ·exact⟨r,hr,by rw[if_neg h1,if_pos h2,h3,h4]⟩
theorem Ze {rs:List Bh}{a b:Nat}(hab:a≠b):(Cp rs a).any (fun p=>decide (p.1=b))=rs.any fun r=>Df r a b:=by
 rw[Bool.eq_iff_iff,List.any_eq_true,List.any_eq_true];constructor
 ·rintro⟨⟨x,l⟩,hm,hx⟩;obtain rfl:x=b:=by simpa using hx
  obtain⟨r,hr,⟨h1,h2,_⟩|⟨_,h2,h3,_⟩⟩:=Gr.1 hm
  ·exact⟨r,hr,D5.2 (.inl ⟨h1,h2⟩)⟩
  ·exact⟨r,hr,D5.2 (.inr ⟨h3,h2⟩)⟩
 ·rintro⟨r,hr,h⟩;rcases D5.1 h with⟨h1,h2⟩|⟨h1,h2⟩
  ·exact⟨(b,r.2.2),Gr.2 ⟨r,hr, .inl ⟨h1,h2,rfl⟩⟩,by simp⟩
  ·exact⟨(b,r.2.2),Gr.2 ⟨r,hr, .inr ⟨fun e=>hab (e.symm.trans h1),h2,h1,rfl⟩⟩,by simp⟩
theorem M3 {n:Nat}{rs:List Bh}(h:Eg n rs){v x l:Nat}:(x,l)∈Cp rs v↔wtN rs v x=some l:=by
 rw[Gr];unfold wtN;constructor
 ·rintro⟨r,hr,hc⟩
  have hj:Df r v x=true:=by
   rcases hc with⟨h1,h2,_⟩|⟨_,h2,h3,_⟩
   ·exact D5.2 (.inl ⟨h1,h2⟩)
   ·exact D5.2 (.inr ⟨h3,h2⟩)
  have hl:r.2.2=l:=by rcases hc with⟨_,_,h⟩|⟨_,_,_,h⟩<;>exact h
  obtain⟨s,hs⟩:∃s,rs.find? (fun r=>Df r v x)=some s:=by
   cases hf:rs.find? (fun r=>Df r v x)with
   |some s=>exact⟨s,rfl⟩
   |none=>exact absurd hj (by simpa using List.find?_eq_none.1 hf r hr)
  have a3:Df s v x=true:=by simpa using List.find?_some hs
  have a7:=List.mem_of_find?_eq_some hs
  -- both join the same points: they are one
  have:s=r:=by
   have key:∀{a b:Bh},Df a v x=true->Df b v x=true->Df a b.1 b.2.1=true:=by
    intro a b ha hb;rcases D5.1 ha with⟨a1,a2⟩|⟨a1,a2⟩<;>rcases D5.1 hb with⟨b1,b2⟩|⟨b1,b2⟩<;>rw[D5,a1,a2,b1,b2]<;>simp
   rcases Classical.em (s=r)with e|e
   ·exact e
   ·exfalso;obtain⟨i,hi,rfl⟩:=List.getElem_of_mem a7;obtain⟨j,a4,rfl⟩:=List.getElem_of_mem hr;have hp:=List.pairwise_iff_getElem.1 h.one;rcases Nat.lt_trichotomy i j with a0|a0|a0
    ·have:=hp i j hi a4 a0;rw[key a3 hj]at this;cases this
    ·subst a0;exact e rfl
    ·have:=hp j i a4 hi a0;rw[key hj a3]at this;cases this
  rw[hs,this,←hl];rfl
 ·intro hw
  cases hf:rs.find? (fun r=>Df r v x)with
  |none=>rw[hf]at hw;cases hw
  |some r=>
   rw[hf]at hw;obtain rfl:r.2.2=l:=by simpa using hw
   have a5:=List.mem_of_find?_eq_some hf;have a6:Df r v x=true:=by simpa using List.find?_some hf
   refine⟨r,a5, ?_⟩;have a8:=(h.lt r a5).2.2.1;rcases D5.1 a6 with⟨h1,h2⟩|⟨h1,h2⟩
   ·exact .inl ⟨h1,h2,rfl⟩
   ·exact .inr ⟨fun e=>a8 (e.trans h2.symm),h2,h1,rfl⟩
theorem Ac4 {n:Nat}{rs:List Bh}(h:Eg n rs)(a b l:Nat)(hw:wtN rs a b=some l):a<n/\b<n:=by
 obtain⟨r,hr,hc⟩:=Gr.1 ((M3 h).2 hw)
 have:=h.lt r hr
 rcases hc with⟨h1,h2,_⟩|⟨_,h2,h3,_⟩<;>omega
theorem Adn {n:Nat}{rs:List Bh}(h:Eg n rs){a b l:Nat}(hw:wtN rs a b=some l):l<=1073741824:=by
 obtain⟨r,hr,hc⟩:=Gr.1 ((M3 h).2 hw)
 have:=h.lt r hr
 rcases hc with⟨_,_,h3⟩|⟨_,_,_,h3⟩<;>omega
abbrev Db:=Int×Int×Int
def B5 (r:Db):Bh:=(r.1.toNat,r.2.1.toNat,r.2.2.toNat)
def Dt (n:Nat)(done:List Bh):List Db->Int
 |[]=>0
 |r::rs=>if min r.1 r.2.1<0\/(n:Int)<=max r.1 r.2.1 then 3 else if r.1=r.2.1 then 9 else if r.2.2<1\/1073741824<r.2.2 then 2
  else if done.any (fun s=>Df s r.1.toNat r.2.1.toNat)then 6 else Dt n (done++[B5 r]) rs
theorem Si {n:Nat}:∀{rs:List Db} {done:List Bh},Dt n done rs=0->Eg n done->Eg n (done++rs.map B5)
 |[],done,_,h=>by simpa using h
 |r::rs,done,he,h=>by
  unfold Dt at he;by_cases h1:min r.1 r.2.1<0\/(n:Int)<=max r.1 r.2.1
  ·rw[if_pos h1]at he;cases he
  rw[if_neg h1]at he;by_cases h2:r.1=r.2.1
  ·rw[if_pos h2]at he;cases he
  rw[if_neg h2]at he;by_cases h3:r.2.2<1\/1073741824<r.2.2
  ·rw[if_pos h3]at he;cases he
  rw[if_neg h3]at he;by_cases h4:done.any (fun s=>Df s r.1.toNat r.2.1.toNat)=true
  ·rw[if_pos h4]at he;cases he
  rw[if_neg h4]at he
  have:=Si he ⟨fun s hs=> ?_, ?_⟩
  ·rwa[List.append_assoc]at this
  ·rcases List.mem_append.1 hs with hs|hs
   ·exact h.lt s hs
   ·obtain rfl:s=B5 r:=by simpa using hs
    show r.1.toNat<n/\r.2.1.toNat<n/\r.1.toNat≠r.2.1.toNat/\1<=r.2.2.toNat/\r.2.2.toNat<=1073741824;omega
  ·rw[List.pairwise_append];refine⟨h.one,by simp,fun a ha b hb=> ?_⟩
   obtain rfl:b=B5 r:=by simpa using hb
   cases hj:Df a (B5 r).1 (B5 r).2.1 with
   |false=>rfl
   |true=>exact absurd (List.any_eq_true.2 ⟨a,ha,hj⟩) h4
def D0 (rs:List Bh)(i j:Nat):Option Nat:=if i=j then some 0 else wtN rs i j
def Mi (n:Nat)(rs:List Bh)(a b:Nat):Option Nat:=Fh (D0 rs) n a b
theorem Aby {n:Nat}{rs:List Bh}(h:Eg n rs)(a b:Nat):Nf (wtN rs) a b (Mi n rs a b):=by
 refine Abl (Ac4 h) (fun i=>by simp[D0]) (fun i j d hd=> ?_) (fun i j l hl=> ?_) a b
 ·unfold D0 at hd;by_cases e:i=j
  ·rw[if_pos e]at hd;cases hd;subst e;exact .nil _
  ·rw[if_neg e]at hd;exact Way.one hd
 ·unfold D0;by_cases e:i=j
  ·rw[if_pos e];exact⟨0,rfl,Nat.zero_le _⟩
  ·rw[if_neg e];exact⟨l,hl,rr⟩
def D8 (done:List ByteArray):List ByteArray->Int
 |[]=>0
 |s::ss=>if Dy s=false then 15 else if done.any (fun x=>decide (x=s))then 6 else D8 (done++[s]) ss
def Fc (names:List ByteArray)(roads:List Db):Int:=
 if 128<names.length\/512<roads.length then 12 else if D8 [] names≠0 then D8 [] names else Dt names.length [] roads
end Go.Proofs.YtaglfmlgbcmakaaGreatDoor
namespace Go.Proofs.YtaglfmlgbcmakaaGreatDoor
def Bx:Option Nat->Int
 |none=> -1
 |some t=>t
end Go.Proofs.YtaglfmlgbcmakaaGreatDoor
namespace Go.Proofs.YtaglfmlgbcmakaaGreatDoor
open Go.RowKit Go.Sort
section
variable {α:Type} [Inhabited α]
theorem S9 {lt lt':α->α->Bool}(a:Nat):∀(j:Nat) (d:Array α),j<d.size->(∀k,k<j->lt d[j]! d[k]! =lt' d[j]! d[k]!)->insInner lt a j d=insInner lt' a j d
 |0,_,_,_=>rfl
 |j+1,d,hj,h=>by
  unfold insInner;rw[h j (by omega)];split
  ·refine S9 a j _ (by rw[swp_size];omega) fun k hk=> ?_
   rw[swp_get d hj (by omega),swp_get d hj (by omega)];have h1:¬k=j:=by omega
   have h2:¬k=j+1:=by omega
   simp only[h1,h2,if_true,if_false];exact h k (by omega)
  ·rfl
theorem Ta {lt:α->α->Bool}{S:α->Prop}(a:Nat):∀(j:Nat) (d:Array α),j<d.size->(∀k,k<=j->S d[k]!)->(∀k,k<=j->S (insInner lt a j d)[k]!)/\(∀k,j<k->(insInner lt a j d)[k]! =d[k]!)/\(insInner lt a j d).size=d.size
 |0,d,_,h=>⟨h,fun _ _=>rfl,rfl⟩
 |j+1,d,hj,h=>by
  unfold insInner;split
  ·obtain⟨h1,h2,h3⟩:=Ta (lt:=lt) (S:=S) a j (swp d (j+1) j) (by rw[swp_size];omega) (fun k hk=>by
    rw[swp_get d hj (by omega)];split
    ·exact h _ (by omega)
    ·split
     ·exact h _ (by omega)
     ·exact h _ (by omega))
   refine⟨fun k hk=> ?_,fun k hk=> ?_,by rw[h3,swp_size]⟩
   ·by_cases e:k<=j
    ·exact h1 k e
    ·rw[h2 k (by omega),swp_get d hj (by omega)];split
     ·exact h _ (by omega)
     ·split
      ·exact h _ (by omega)
      ·exact h _ (by omega)
   ·rw[h2 k (by omega),swp_get d hj (by omega),if_neg (by omega),if_neg (by omega)]
  ·exact⟨h,fun _ _=>rfl,rfl⟩
theorem Tb {lt lt':α->α->Bool}{d0:Array α}(a b:Nat)(hb:b<=d0.size)(H:∀i k,k<i->i<b->lt d0[i]! d0[k]! =lt' d0[i]! d0[k]!):
  ∀(n i:Nat) (d:Array α),b-i=n->d.size=d0.size->(∀p,i<=p->d[p]! =d0[p]!)->(∀k,k<i→∃k',k'<i/\d[k]! =d0[k']!)->insOuter lt a b i d=insOuter lt' a b i d
 |0,i,d,hn,_,_,_=>by
  unfold insOuter;rw[if_neg (by omega),if_neg (by omega)]
 |n+1,i,d,hn,hs,hp,hk=>by
  have e:insInner lt a i d=insInner lt' a i d:=S9 a i d (by omega) fun k hki=>by
   obtain⟨k',a0,e⟩:=hk k hki;rw[hp i rr,e];exact H i k' a0 (by omega)
  unfold insOuter;rw[if_pos (by omega),if_pos (by omega),e]
  obtain⟨h1,h2,h3⟩:=Ta (lt:=lt') (S:=fun x=>∃k',k'<i+1/\x=d0[k']!) a i d (by omega) (fun k hki=>by
   rcases Nat.lt_or_ge k i with h|h
   ·obtain⟨k',a0,e⟩:=hk k h;exact⟨k',by omega,e⟩
   ·obtain rfl:k=i:=by omega
    exact⟨k,by omega,hp k rr⟩)
  exact Tb a b hb H n (i+1) _ (by omega) (by rw[h3,hs]) (fun p hip=>by rw[h2 p (by omega)];exact hp p (by omega)) (fun k hki=>h1 k (by omega))
theorem Xk {lt lt':α->α->Bool}{d:Array α}(H:∀i k,k<i->i<d.size->lt d[i]! d[k]! =lt' d[i]! d[k]!):insertionSort lt d 0 d.size=insertionSort lt' d 0 d.size:=by
 unfold insertionSort;refine Tb 0 d.size rr H _ 1 d rfl rfl (fun _ _=>rfl) (fun k hk=>⟨k,hk,rfl⟩)
end
theorem Tc {t:Nat->Option Nat}{rk:Nat->Int}(hr:∀i j,decide (rk i<rk j)=match t i,t j with|some x,some y=>decide (x<y)|some _,none=>true|none,_=>false)
  {p:Nat->Bool} {m:Nat} {d:Array Nat} (hd:d.toList=(List.range m).filter p):(insertionSort (fun i j=>decide (rk i<rk j)) d 0 d.size).toList=D9 (Cz t) p m:=by
 have a2:d.toList.Pairwise (fun a b=>a<b):=by rw[hd];exact(List.pairwise_lt_range (n:=m)).filter _
 have a5:∀i k,k<i->i<d.size->d[k]! <d[i]! :=fun i k hk hi=>by
  have:=List.pairwise_iff_getElem.1 a2 k i (by simpa using by omega) (by simpa using hi) hk
  rw[getElem!_pos d k (by omega),getElem!_pos d i hi];simpa using this
 have hw:∀i j:Nat,j<i->decide (rk i<rk j)=Cz t i j:=fun i j hji=>by
  rw[hr];unfold Cz;cases t i<;>cases t j<;>simp<;>omega
 rw[Xk (lt':=Cz t) fun i k hk hi=>hw _ _ (a5 i k hk hi)]
 have hS:=Ca t
 have a1:SWO (Cz t):=⟨hS.irr,hS.tr,fun x y z h1 h2=>by
  cases h:Cz t x z with
  |false=>rfl
  |true=>
   cases h3:Cz t y x with
   |false=>have:=hS.tot x y h1 h3;subst this;rw[h]at h2;cases h2
   |true=>have:=hS.tr y x z h3 h;rw[this]at h2;cases h2⟩
 obtain⟨⟨h1,_,h3⟩,h4⟩:=insertionSort_holds a1 d 0 d.size (Nat.zero_le _) rr;generalize insertionSort (Cz t) d 0 d.size=d' at h1 h3 h4
 have a0:d'.toList.Perm d.toList:=by
  have e1:(d'.extract 0 d.size).toList=d'.toList:=by rw[←h1];simp
  have e2:(d.extract 0 d.size).toList=d.toList:=by simp
  rw[e1,e2]at h3;exact h3
 have a7:d'.toList.Nodup:=a0.nodup_iff.2 (a2.imp fun h=>by omega);refine Jp hS p m ?_ fun i=>by rw[a0.mem_iff,hd,List.mem_filter,List.mem_range]
 rw[List.pairwise_iff_getElem];intro i j hi hj a3;have a6:i<d'.size:=by simpa using hi
 have a4:j<d'.size:=by simpa using hj
 have h5:=h4 i j (Nat.zero_le _) a3 (by omega);rw[getElem!_pos d' i a6,getElem!_pos d' j a4]at h5;have a8:d'.toList[i]≠d'.toList[j]:=List.pairwise_iff_getElem.1 a7 i j hi hj a3
 cases h6:Cz t d'.toList[i] d'.toList[j]with
 |true=>rfl
 |false=>exact absurd (hS.tot _ _ h6 (by simpa using h5)) a8
end Go.Proofs.YtaglfmlgbcmakaaGreatDoor
namespace Go.Proofs.YtaglfmlgbcmakaaGreatDoor
open Go.RowKit
structure C7 where
 law:Int
 at_:List Int
 time:Int
 slow:Int
 fin:Int
def Hl (n:Nat)(done:List Int):List Int->Int
 |[]=>0
 |a::rr1=>if a<0\/(n:Int)<=a then 3 else if done.any (fun b=>decide (b=a))then 6 else Hl n (done++[a]) rr1
def Ev (n:Nat)(x:C7):Int:=if Hl n [] x.at_≠0 then Hl n [] x.at_ else if min x.time x.slow<0\/1073741824<max x.time x.slow then 2 else 0
def Fs (n m:Nat):List C7->Int
 |[]=>0
 |x::xs=>if x.law<0\/(m:Int)<=x.law then 3 else if Ev n x≠0 then Ev n x else Fs n m xs
def Dr (n:Nat)(ls:List Bb)(ws:List C7):Int:=if n=0 then 1 else if Dm ls≠0 then Dm ls else if 64<ws.length then 12 else Fs n ls.length ws
def Adc (n:Nat)(rs:List Bh)(x:C7)(a:Nat):Option Nat:=Mp (x.at_.map fun b=>Mi n rs a b.toNat)
def Hn (n:Nat)(rs:List Bh)(x:C7)(a:Nat):Option Nat:=Lj (Adc n rs x a) x.time.toNat x.slow.toNat x.fin
def Ff (n:Nat)(rs:List Bh)(x:C7):Int×List Int:=if n=0 then(1,[])else if Ev n x≠0 then(Ev n x,[])else(0,(List.range n).map fun a=>Bx (Hn n rs x a))
def tAt (n:Nat)(rs:List Bh)(ws:List C7)(a i:Nat):Option Nat:=(ws[i]?).bind fun x=>Hn n rs x a
def G0 (now:Int):Option Nat->Bool
 |none=>false
 |some t=>decide ((t:Int)<=now)
def Jd (n:Nat)(rs:List Bh)(ws:List C7)(a:Nat)(now:Int):List Nat:=D9 (Cz (tAt n rs ws a)) (fun i=>G0 now (tAt n rs ws a i)) ws.length
def Tk (ws:List C7)(i:Nat):Int:=((ws[i]?).map C7.law).getD 0
def E5 (n:Nat)(rs:List Bh)(ws:List C7)(a:Nat)(now:Int):List Int:=(Jd n rs ws a now).map (Tk ws)
def Jt (n:Nat)(rs:List Bh)(ls:List Bb)(ws:List C7)(a now:Int):Int×List Int:=
 if Dr n ls ws≠0 then(Dr n ls ws,[])else if a<0\/(n:Int)<=a then(3,[])else(0,E5 n rs ws a.toNat now)
def Cx (ls:List Bb)(on:List Int):List Bb:=on.filterMap fun i=>ls[i.toNat]?
def En (n:Nat)(rs:List Bh)(ls:List Bb)(ws:List C7)(w:List Snd)(now:Int)(a:Nat):Int×List Snd:=Bt (Cx ls (E5 n rs ws a now)) w
def Cw (f:Nat->Int×List Snd)(done:List (List Snd)):List Nat->Int×List (List Snd)
 |[]=>(0,done)
 |a::rr1=>if(f a).1≠0 then((f a).1,[])else Cw f (done++[(f a).2]) rr1
def Bf (n:Nat)(rs:List Bh)(ls:List Bb)(ws:List C7)(w:List Snd)(now:Int):Int×List (List Snd):=
 if Dr n ls ws≠0 then(Dr n ls ws,[])else if Bu w≠0 then(Bu w,[])else Cw (En n rs ls ws w now) [] (List.range n)
def Co (fs:List (List Snd))(x:List Snd):Int:=match fs.findIdx? (fun y=>decide (x=y))with
 |some k=>k
 |none=> -1
def E6 (n:Nat)(rs:List Bh)(ls:List Bb)(ws:List C7)(w:List Snd)(now:Int):Int×List Int:=
 if(Bf n rs ls ws w now).1≠0 then((Bf n rs ls ws w now).1,[])else(0,(Bf n rs ls ws w now).2.map (Co (Bf n rs ls ws w now).2))
theorem Add {n:Nat}:∀{rr1 done:List Int},Hl n done rr1=0→∀a∈rr1,0<=a/\a<n
 |[],_,_,a,ha=>by cases ha
 |b::bs,done,h,a,ha=>by
  unfold Hl at h;by_cases h1:b<0\/(n:Int)<=b
  ·rw[if_pos h1]at h;cases h
  rw[if_neg h1]at h;by_cases h2:done.any (fun x=>decide (x=b))=true
  ·rw[if_pos h2]at h;cases h
  rw[if_neg h2]at h;rcases List.mem_cons.1 ha with e|ha
  ·subst e;omega
  ·exact Add h a ha
theorem Ad8 {n:Nat}{x:C7}(h:Ev n x=0):(∀a∈x.at_,0<=a/\a<n)/\0<=x.time/\x.time<=1073741824/\0<=x.slow/\x.slow<=1073741824:=by
 unfold Ev at h;by_cases h1:Hl n [] x.at_≠0
 ·rw[if_pos h1]at h;exact absurd h h1
 rw[if_neg h1]at h;by_cases h2:min x.time x.slow<0\/1073741824<max x.time x.slow
 ·rw[if_pos h2]at h;cases h
 exact⟨Add (by simpa using h1),by omega,by omega,by omega,by omega⟩
theorem V7 {n m:Nat}:∀{ws:List C7},Fs n m ws=0→∀x∈ws,0<=x.law/\x.law<m/\Ev n x=0
 |[],_,x,hx=>by cases hx
 |y::ys,h,x,hx=>by
  unfold Fs at h;by_cases h1:y.law<0\/(m:Int)<=y.law
  ·rw[if_pos h1]at h;cases h
  rw[if_neg h1]at h;by_cases h2:Ev n y≠0
  ·rw[if_pos h2]at h;exact absurd h h2
  rw[if_neg h2]at h;rcases List.mem_cons.1 hx with e|hx
  ·subst e;exact⟨by omega,by omega,by simpa using h2⟩
  ·exact V7 h x hx
theorem E7 {n:Nat}{ls:List Bb}{ws:List C7}(h:Dr n ls ws=0):0<n/\Dm ls=0/\ws.length<=64∧∀x∈ws,0<=x.law/\x.law<ls.length/\Ev n x=0:=by
 unfold Dr at h;by_cases h1:n=0
 ·rw[if_pos h1]at h;cases h
 rw[if_neg h1]at h;by_cases h2:Dm ls≠0
 ·rw[if_pos h2]at h;exact absurd h h2
 rw[if_neg h2]at h;by_cases h3:64<ws.length
 ·rw[if_pos h3]at h;cases h
 rw[if_neg h3]at h;exact⟨by omega,by simpa using h2,by omega,V7 h⟩
theorem Aa7 {n:Nat}{rs:List Bh}{ws:List C7}{a i t:Nat}(h:tAt n rs ws a i=some t):∃x,ws[i]? =some x/\Hn n rs x a=some t:=by
 unfold tAt at h
 cases hx:ws[i]? with
 |none=>rw[hx]at h;cases h
 |some x=>rw[hx]at h;exact⟨x,rfl,h⟩
theorem Xs {o:Option Nat}{T S:Nat}{U:Int}{t:Nat}(h:Lj o T S U=some t):t<=9223372036854775807/\(t:Int)<U/\T<=t:=by
 unfold Lj at h
 cases o with
 |none=>cases h
 |some d=>
  dsimp only at h;split at h
  ·cases h
  ·split at h
   ·cases h
   ·obtain rfl:T+S*d=t:=by simpa using h
    exact⟨by omega,by omega,by omega⟩
end Go.Proofs.YtaglfmlgbcmakaaGreatDoor
namespace Go.Proofs.YtaglfmlgbcmakaaGreatDoor
open Go.RowKit
end Go.Proofs.YtaglfmlgbcmakaaGreatDoor
namespace Go.Proofs.YtaglfmlgbcmakaaGreatDoor
open Go.RowKit
def Hj (r:Db):List Value:=[.int .i64 r.1, .int .i64 r.2.1, .int .i64 r.2.2]
theorem Qd (r:Db):(Hj r).length=3:=rfl
def Dq (r:Bh):Db:=((r.1:Int),(r.2.1:Int),(r.2.2:Int))
def Cv (w:World)(A:Option Addr)(n c:Nat)(rs:List Db):Prop:=Dg Hj 3 w A n c rs
def Hm (p:Nat×Nat):List Value:=[.int .i64 (p.1:Int), .int .i64 (p.2:Int)]
theorem Ht (p:Nat×Nat):(Hm p).length=2:=rfl
def Ek (w:World)(A:Option Addr)(n c:Nat)(es:List (Nat×Nat)):Prop:=Dg Hm 2 w A n c es
abbrev Uc:=Option Addr×Nat×Nat×List (Nat×Nat)
def Uc.val (p:Uc):Value:= .slice p.1 p.2.1 p.2.2.1
def E0 (w:World)(A:Option Addr)(n c:Nat)(ss:List ByteArray):Prop:=Am w A n c 1 (ss.map Value.string)
theorem E0.below {w w':World}{A:Option Addr}{n c:Nat}{ss:List ByteArray}(h:E0 w A n c ss){B:Nat}(hb:Below B w w')(hB:w.heap.size<=B):E0 w' A n c ss:=Am.below h hb hB
theorem E0.len {w:World}{A:Option Addr}{n c:Nat}{ss:List ByteArray}(h:E0 w A n c ss):ss.length=n:=by have:=h.1;simpa using this
structure Abz (w:World)(b n:Nat)(rs:List Bh)(An:Option Addr)(cn mb:Nat)(Ar:Option Addr)(cr:Nat)(Aq:Option Addr)(cq:Nat)(vs:List Uc):Prop where
 blk:w.heap[b]? =some (.cells #[.slice An n cn, .map (some mb), .slice Ar rs.length cr, .slice Aq n cq] 99 (0,0))
 roads:Cv w Ar rs.length cr (rs.map Dq)
 near:Am w Aq n cq 1 (vs.map Uc.val)
 ends:∀(v:Nat) (p:Uc),vs[v]? =some p->Ek w p.1 p.2.1 p.2.2.1 p.2.2.2/\p.2.2.2.Perm (Cp rs v)
 ok:Eg n rs
 few:n<=128
 fewR:rs.length<=512
def Cl (w:World)(b n:Nat)(rs:List Bh):Prop:=∃An cn mb Ar cr Aq cq vs,Abz w b n rs An cn mb Ar cr Aq cq vs
section
variable {w w':World}{b n:Nat}{rs:List Bh}
theorem Abz.below {An:Option Addr}{cn mb:Nat}{Ar:Option Addr}{cr:Nat}{Aq:Option Addr}{cq:Nat}{vs:List Uc}(h:Abz w b n rs An cn mb Ar cr Aq cq vs)(hb:Below w.heap.size w w'):Abz w' b n rs An cn mb Ar cr Aq cq vs:=
 ⟨(hb.block b (lt_of_block h.blk)).trans h.blk,h.roads.below hb rr,h.near.below hb rr,fun v p hp=>⟨(h.ends v p hp).1.below hb rr,(h.ends v p hp).2⟩,h.ok,h.few,h.fewR⟩
theorem Cl.below (h:Cl w b n rs)(hb:Below w.heap.size w w'):Cl w' b n rs:=by
 obtain⟨An,cn,mb,Ar,cr,Aq,cq,vs,h⟩:=h;exact⟨An,cn,mb,Ar,cr,Aq,cq,vs,h.below hb⟩
theorem Cl.few (h:Cl w b n rs):n<=128:=by obtain⟨An,cn,mb,Ar,cr,Aq,cq,vs,h⟩:=h;exact h.few
theorem Cl.fewR (h:Cl w b n rs):rs.length<=512:=by obtain⟨An,cn,mb,Ar,cr,Aq,cq,vs,h⟩:=h;exact h.fewR
theorem Cl.ok (h:Cl w b n rs):Eg n rs:=by obtain⟨An,cn,mb,Ar,cr,Aq,cq,vs,h⟩:=h;exact h.ok
theorem Cl.lt (h:Cl w b n rs):b<w.heap.size:=by obtain⟨An,cn,mb,Ar,cr,Aq,cq,vs,h⟩:=h;exact lt_of_block h.blk
theorem Cl.cells (h:Cl w b n rs):∃An cn mb Ar cr Aq cq,w.cell? ⟨b,0,none⟩=some (.slice An n cn)/\w.cell? ⟨b,1,none⟩=some (.map (some mb))/\w.cell? ⟨b,2,none⟩=some (.slice Ar rs.length cr)/\w.cell? ⟨b,3,none⟩=some (.slice Aq n cq):=by
 obtain⟨An,cn,mb,Ar,cr,Aq,cq,vs,h⟩:=h;exact⟨An,cn,mb,Ar,cr,Aq,cq,Aa h.blk rfl,Aa h.blk rfl,Aa h.blk rfl,Aa h.blk rfl⟩
theorem Cl.nearAt (h:Cl w b n rs){v:Nat}(hv:v<n):∃qb qo cq A m c es,w.cell? ⟨b,3,none⟩=some (.slice (some ⟨qb,qo,none⟩) n cq)/\qb<w.heap.size/\w.cell? ⟨qb,qo+v,none⟩=some (.slice A m c)/\Ek w A m c es/\es.Perm (Cp rs v):=by
 obtain⟨An,cn,mb,Ar,cr,Aq,cq,vs,h⟩:=h;obtain⟨qb,qo,rfl,a1,hc⟩:=h.near.2.2.2.2 (by omega);have hl:vs.length=n:=by have:=h.near.1;simpa using this
 have a0:vs[v]? =some (vs[v]'(by omega)):=List.getElem?_eq_getElem _;obtain⟨h1,h2⟩:=h.ends v _ a0;exact⟨qb,qo,cq,_,_,_,_,Aa h.blk rfl,a1,hc v _ (by rw[List.getElem?_map,a0];rfl),h1,h2⟩
end
theorem Ek.len {w:World}{A:Option Addr}{n c:Nat}{es:List (Nat×Nat)}(h:Ek w A n c es):es.length=n:=h.2
theorem Ek.max {w:World}{A:Option Addr}{n c:Nat}{es:List (Nat×Nat)}(h:Ek w A n c es):n<=c/\c<=9223372036854775807:=by have h1:=h.1.2.1;have h2:=h.1.2.2.1;unfold maxLen at h2;omega
theorem Ek.at_ {w:World}{A:Option Addr}{n c:Nat}{es:List (Nat×Nat)}(h:Ek w A n c es){k:Nat}(hk:k<n):
  ∃b off x l,A=some ⟨b,off,none⟩/\b<w.heap.size/\es[k]? =some (x,l)/\w.cell? ⟨b,off+k*2,none⟩=some (.int .i64 (x:Int))/\w.cell? ⟨b,off+k*2+1,none⟩=some (.int .i64 (l:Int)):=by
 have hx:es[k]? =some (es[k]'(by rw[h.2];exact hk)):=List.getElem?_eq_getElem _;obtain⟨b,off,hA,hb,hc⟩:=Dg.at_ h Ht (by decide) hx;simp only[Nat.add_assoc]at hc ⊢;exact⟨b,off,_,_,hA,hb,hx,hc 0 _ rfl,hc 1 _ rfl⟩
def Ud (s:ByteArray):Lit:= .string s.data.toList
theorem Zf {s t:ByteArray}(h:Ud s=Ud t):s=t:=by
 injection h with h
 cases s;cases t;congr 1;exact Array.toList_inj.1 h
def Jz (D:DataW Unit)(done:List ByteArray):Prop:=Go.Maps.IsMap D∧∀s,Go.Maps.has D (Ud s)=done.any fun x=>decide (x=s)
theorem Wv:Jz (.map []) []:=⟨Go.Maps.isMap_empty,fun _=>rfl⟩
theorem Zg {D:DataW Unit}{done:List ByteArray}{s:ByteArray}{v:DataW Unit}(h:Jz D done):Jz (D.put (Ud s) v) (done++[s]):=by
 obtain⟨h1,h2⟩:=h;refine⟨h1.put _ _,fun t=> ?_⟩
 rw[List.any_append];by_cases e:t=s
 ·subst e;rw[Go.Maps.has_put_same h1 (show WideAt.IsKeyLit (Ud t)from trivial)];simp
 ·rw[Go.Maps.has_put_other (fun e'=>e (Zf e')),h2 t];have e2:¬s=t:=fun e'=>e e'.symm
  simp[e2]
end Go.Proofs.YtaglfmlgbcmakaaGreatDoor
namespace Go.Proofs.YtaglfmlgbcmakaaGreatDoor
open Go.RowKit Go.Shelf
theorem Zk (A:Option Addr)(n c:Nat)(w:World):(binOp .eql 22 (.slice A n c) (.slice none 0 0)).run Tryz.prog w= .ok (.bool A.isNone) w:=
 Lib.run_eql_slice_nil w _ _ A n c 0 0 Tryz.underlying22
theorem Zl (A:Option Addr)(n c:Nat)(w:World):(binOp .eql 23 (.slice A n c) (.slice none 0 0)).run Tryz.prog w= .ok (.bool A.isNone) w:=
 Lib.run_eql_slice_nil w _ _ A n c 0 0 Tryz.underlying23
attribute [local go_sem] Zk Zl
theorem Zm:(Tryz.prog.info? 9).map (fun i=>(i.zero,i.size,i.bytes))=some (some (.string ⟨#[]⟩),1,16):=by kernel_rfl
theorem Wx:(Tryz.prog.info? 64).map (fun i=>(i.zero,i.size,i.bytes))=some (some (.agg #[.int .i64 0, .int .i64 0, .int .i64 0]),3,24):=by kernel_rfl
theorem Sk {ops:Array Oper}{rest:List Oper}{o:Oper}{a:Act}{w:World}{Q:Exit->Act->World->Prop}(hgd:o.guard=none)(s x:Operand)
  (ho:o.op= .call {callee:= .builtin .append,args:= #[s,x],argTypes:= #[22,22]})
  (base:Nat) (v:Value) (n:Nat) (xs:List Value) (hs:a.eval s=v) (hown:w.ownsRow base 9 1 v n xs)
  (A:Option Addr) (m c:Nat) (ss:List ByteArray) (hx:a.eval x= .slice A m c) (hr:E0 w A m c ss) (hl:n+m<=4096) (hbase:base<=w.heap.size)
  (h:∀v' w',w'.ownsRow base 9 1 v' (n+m) (xs++ss.map Value.string)->w.grownBy w' v.ownBlock->wpList Tryz.prog ops Q rest (a.put o.dst v') w'):wpList Tryz.prog ops Q (o::rest) a w:=by
 obtain⟨i0,hi,a2,a0,a1⟩:=info_parts Zm
 exact Di w hgd s x 22 ho base 9 i0 _ 1 16 Tryz.underlying22 hi a2 a0 a1 rfl (by decide) v n _ hs hown A m c _ hx hr
  (by intro u hu;obtain⟨s,_,rfl⟩:=List.mem_map.1 hu;rfl) (by unfold maxLen;omega) (by omega) hbase fun v' w' h1 h2 _=>h v' w' h1 h2
theorem Rb {ops:Array Oper}{rest:List Oper}{o:Oper}{a:Act}{w:World}{Q:Exit->Act->World->Prop}(hgd:o.guard=none)(s x:Operand)
  (ho:o.op= .call {callee:= .builtin .append,args:= #[s,x],argTypes:= #[23,23]})
  (base:Nat) (v:Value) (n:Nat) (xs:List Value) (hs:a.eval s=v) (hown:w.ownsRow base 64 3 v n xs)
  (A:Option Addr) (m c:Nat) (ss:List Db) (hx:a.eval x= .slice A m c) (hr:Cv w A m c ss) (hl:n+m<=4096) (hbase:base<=w.heap.size)
  (h:∀v' w',w'.ownsRow base 64 3 v' (n+m) (xs++ss.flatMap Hj)->w.grownBy w' v.ownBlock->wpList Tryz.prog ops Q rest (a.put o.dst v') w'):wpList Tryz.prog ops Q (o::rest) a w:=by
 obtain⟨i0,hi,a2,a0,a1⟩:=info_parts Wx
 exact Di w hgd s x 23 ho base 64 i0 _ 3 24 Tryz.underlying23 hi a2 a0 a1 rfl (by decide) v n _ hs hown A m c _ hx hr.1
  (by intro u hu;obtain⟨s,_,hs⟩:=List.mem_flatMap.1 hu;simp only[Hj,List.mem_cons,List.not_mem_nil,or_false]at hs;rcases hs with rfl|rfl|rfl<;>rfl) (by unfold maxLen;omega) (by omega) hbase fun v' w' h1 h2 _=>h v' w' h1 h2
theorem Ue (A:Option Addr)(n c:Nat)(ss:List ByteArray)(w:World)(hx:E0 w A n c ss)(hb:n<=4096):
  Calls Tryz.prog 50 #[.slice A n c] w fun e w'=>∃v,e= .returned v/\w'.ownsRow w.heap.size 9 1 v n (ss.map Value.string)/\Below w.heap.size w w':=by
 have HX:=hI hx;clear hx
 cases A with
 |none=>
  have a1:c=0:=HX.out.2.2.2.1 rfl;have a2:n=0:=by have:=HX.out.2.1;omega
  subst a1 a2;go_enter Tryz.func50,Tryz.ntmps50;go_wp2;go_ret;obtain rfl:ss=[]:=List.eq_nil_of_length_eq_zero HX.out.len;exact⟨_,rfl,World.ownsRow_nil _ _ _ _,Below.refl _ _⟩
 |some ad=>
  go_enter Tryz.func50,Tryz.ntmps50;go_wp2_with(at_builtin;refine Sk rfl (.tmp 5) (.tmp 6) rfl w.heap.size _ 0 [] rfl (World.ownsRow_made w #[] 0 rr (by simp[maxLen]) rfl) (some ad) n c ss rfl (HX.out.below (B:=w.heap.size) bel rr) (by omega) (by simp) ?_;intro v1 w1 a0 a3);go_ret;exact⟨v1,rfl,(by simpa using a0),Fw (B:=w.heap.size) bel (World.ownsRow_made (e:=9) (size:=1) w #[] 0 rr (by simp[maxLen]) rfl) a3 rr (by simp)⟩
theorem Mj (A:Option Addr)(n c:Nat)(ss:List Db)(w:World)(hx:Cv w A n c ss)(hb:n<=4000):
  Calls Tryz.prog 51 #[.slice A n c] w fun e w'=>∃v,e= .returned v/\w'.ownsRow w.heap.size 64 3 v n (ss.flatMap Hj)/\Below w.heap.size w w':=by
 have HX:=hI hx;clear hx
 cases A with
 |none=>
  have a1:c=0:=HX.out.1.2.2.2.1 rfl;have a2:n=0:=by have:=HX.out.1.2.1;omega
  subst a1 a2;go_enter Tryz.func51,Tryz.ntmps51;go_wp2;go_ret;obtain rfl:ss=[]:=List.eq_nil_of_length_eq_zero HX.out.2;exact⟨_,rfl,World.ownsRow_nil _ _ _ _,Below.refl _ _⟩
 |some ad=>
  go_enter Tryz.func51,Tryz.ntmps51;go_wp2_with(at_builtin;refine Rb rfl (.tmp 5) (.tmp 6) rfl w.heap.size _ 0 [] rfl (World.ownsRow_made w #[] 0 rr (by simp[maxLen]) rfl) (some ad) n c ss rfl (HX.out.below (B:=w.heap.size) bel rr) (by omega) (by simp) ?_;intro v1 w1 a0 a3);go_ret;exact⟨v1,rfl,(by simpa using a0),Fw (B:=w.heap.size) bel (World.ownsRow_made (e:=64) (size:=3) w #[] 0 rr (by simp[maxLen]) rfl) a3 rr (by simp)⟩
end Go.Proofs.YtaglfmlgbcmakaaGreatDoor
namespace Go.Proofs.YtaglfmlgbcmakaaGreatDoor
open Go.RowKit
theorem F2 (b:Nat)(A:Option Addr)(n c:Nat)(w:World)(h:w.cell? ⟨b,0,none⟩=some (.slice A n c)):
  Calls Tryz.prog 19 #[.pointer (some ⟨b,0,none⟩)] w fun e w'=>e= .returned (.int .i64 n)/\Below w.heap.size w w':=by
 go_enter Tryz.func19,Tryz.ntmps19;go_wp2;go_ret;exact⟨rfl,Below.refl _ _⟩
theorem Z9 (b:Nat)(A:Option Addr)(n c:Nat)(a:Int)(w:World)(h:w.cell? ⟨b,0,none⟩=some (.slice A n c)):
  Calls Tryz.prog 63 #[.pointer (some ⟨b,0,none⟩), .int .i64 a] w fun e w'=>e= .returned (.bool (decide (0<=a/\a<n)))/\Below w.heap.size w w':=by
 go_enter Tryz.func63,Tryz.ntmps63;by_cases h0:0<=a
 ·go_wp2_with fail;refine(F2 b A n c w h).mono ?_;rintro e w1 ⟨rfl,a0⟩;go_wp2;go_ret;refine⟨?_,a0⟩;simp[h0]
 ·have h1:¬(0<=a/\a<(n:Int)):=fun e=>h0 e.1
  go_wp2;go_ret;exact⟨by simp[h1],Below.refl _ _⟩
end Go.Proofs.YtaglfmlgbcmakaaGreatDoor
namespace Go.Proofs
open Go.Shelf
def Tryz.minI_ren:Go.Shelf.Ren:=⟨fun|10=>107|n=>n,fun|22=>36|24=>3|25=>115|3=>3|4=>4|9=>9|20=>20|0=>0|n=>n,fun|n=>n⟩
theorem Tryz.minI:Go.Proofs.SlLaysG2.n10 Tryz.prog Tryz.minI_ren:={
 mixed:=by kernel_rfl
 f10:=⟨Tryz.f107.name,by decide,Tryz.func107.trans (congrArg some (by kernel_rfl))⟩
 t0:=Tryz.underlying0
 a0:=Tryz.isAgg0
 z0:=Tryz.sizeOf0
 v0:=Tryz.zeroValue0
 t3:=Tryz.underlying3
 a3:=Tryz.isAgg3
 z3:=Tryz.sizeOf3
 v3:=Tryz.zeroValue3
 t4:=Tryz.underlying4
 a4:=Tryz.isAgg4
 z4:=Tryz.sizeOf4
 v4:=Tryz.zeroValue4
 t9:=Tryz.underlying9
 a9:=Tryz.isAgg9
 z9:=Tryz.sizeOf9
 v9:=Tryz.zeroValue9
 t20:=Tryz.underlying20
 a20:=Tryz.isAgg20
 z20:=Tryz.sizeOf20
 v20:=Tryz.zeroValue20
 t22:=Tryz.underlying36
 a22:=Tryz.isAgg36
 z22:=Tryz.sizeOf36
 v22:=Tryz.zeroValue36
 a24:=Tryz.isAgg3
 z24:=Tryz.sizeOf3
 t25:=Tryz.underlying115
 a25:=Tryz.isAgg115
 z25:=Tryz.sizeOf115
 v25:=Tryz.zeroValue115}
def Tryz.delI_ren:Go.Shelf.Ren:=⟨fun|10=>108|6=>144|n=>n,fun|22=>36|23=>3|25=>125|3=>3|4=>4|0=>0|n=>n,fun|n=>n⟩
theorem Tryz.delI:Go.Proofs.SlLaysH.n10 Tryz.prog Tryz.delI_ren:={
 mixed:=by kernel_rfl
 f6:=⟨Tryz.f144.name,by decide,Tryz.func144.trans (congrArg some (by kernel_rfl))⟩
 f10:=⟨Tryz.f108.name,by decide,Tryz.func108.trans (congrArg some (by kernel_rfl))⟩
 t0:=Tryz.underlying0
 a0:=Tryz.isAgg0
 z0:=Tryz.sizeOf0
 v0:=Tryz.zeroValue0
 t3:=Tryz.underlying3
 a3:=Tryz.isAgg3
 z3:=Tryz.sizeOf3
 v3:=Tryz.zeroValue3
 t4:=Tryz.underlying4
 a4:=Tryz.isAgg4
 z4:=Tryz.sizeOf4
 v4:=Tryz.zeroValue4
 t22:=Tryz.underlying36
 a22:=Tryz.isAgg36
 z22:=Tryz.sizeOf36
 v22:=Tryz.zeroValue36
 a23:=Tryz.isAgg3
 z23:=Tryz.sizeOf3
 t25:=Tryz.underlying125
 a25:=Tryz.isAgg125
 z25:=Tryz.sizeOf125
 v25:=Tryz.zeroValue125}
def Tryz.sortEnd_ren:Go.Shelf.Ren:=⟨fun|6=>55|15=>100|14=>99|28=>138|29=>139|20=>130|21=>131|22=>132|23=>133|24=>134|25=>135|26=>136|27=>137|46=>166|47=>167|48=>168|49=>169|50=>170|57=>184|n=>n,fun|22=>110|24=>112|25=>116|3=>3|39=>156|0=>0|53=>47|55=>81|4=>4|46=>185|45=>184|50=>108|5=>5|9=>9|66=>209|70=>213|76=>234|77=>235|n=>n,fun|n=>n⟩
theorem Tryz.sortEnd:Go.Proofs.SlLaysF0.n6 Tryz.prog Tryz.sortEnd_ren:={
 mixed:=by kernel_rfl
 f6:=⟨Tryz.f55.name,by decide,Tryz.func55.trans (congrArg some (by kernel_rfl))⟩
 f14:=⟨Tryz.f99.name,by decide,Tryz.func99.trans (congrArg some (by kernel_rfl))⟩
 f15:=Tryz.func100.trans (congrArg some (by kernel_rfl))
 f20:=⟨Tryz.f130.name,by decide,Tryz.func130.trans (congrArg some (by kernel_rfl))⟩
 f21:=⟨Tryz.f131.name,by decide,Tryz.func131.trans (congrArg some (by kernel_rfl))⟩
 f22:=⟨Tryz.f132.name,by decide,Tryz.func132.trans (congrArg some (by kernel_rfl))⟩
 f23:=⟨Tryz.f133.name,by decide,Tryz.func133.trans (congrArg some (by kernel_rfl))⟩
 f24:=⟨Tryz.f134.name,by decide,Tryz.func134.trans (congrArg some (by kernel_rfl))⟩
 f25:=⟨Tryz.f135.name,by decide,Tryz.func135.trans (congrArg some (by kernel_rfl))⟩
 f26:=⟨Tryz.f136.name,by decide,Tryz.func136.trans (congrArg some (by kernel_rfl))⟩
 f27:=⟨Tryz.f137.name,by decide,Tryz.func137.trans (congrArg some (by kernel_rfl))⟩
 f28:=Tryz.func138.trans (congrArg some (by kernel_rfl))
 f29:=Tryz.func139.trans (congrArg some (by kernel_rfl))
 f46:=⟨Tryz.f166.name,by decide,Tryz.func166.trans (congrArg some (by kernel_rfl))⟩
 f47:=Tryz.func167.trans (congrArg some (by kernel_rfl))
 f48:=Tryz.func168.trans (congrArg some (by kernel_rfl))
 f49:=⟨Tryz.f169.name,by decide,Tryz.func169.trans (congrArg some (by kernel_rfl))⟩
 f50:=⟨Tryz.f170.name,by decide,Tryz.func170.trans (congrArg some (by kernel_rfl))⟩
 f57:=⟨Tryz.f184.name,by decide,Tryz.func184.trans (congrArg some (by kernel_rfl))⟩
 t0:=Tryz.underlying0
 a0:=Tryz.isAgg0
 z0:=Tryz.sizeOf0
 v0:=Tryz.zeroValue0
 t3:=Tryz.underlying3
 a3:=Tryz.isAgg3
 z3:=Tryz.sizeOf3
 v3:=Tryz.zeroValue3
 t4:=Tryz.underlying4
 a4:=Tryz.isAgg4
 z4:=Tryz.sizeOf4
 v4:=Tryz.zeroValue4
 t5:=Tryz.underlying5
 a5:=Tryz.isAgg5
 z5:=Tryz.sizeOf5
 v5:=Tryz.zeroValue5
 t9:=Tryz.underlying9
 a9:=Tryz.isAgg9
 z9:=Tryz.sizeOf9
 v9:=Tryz.zeroValue9
 t22:=Tryz.underlying110
 a22:=Tryz.isAgg110
 z22:=Tryz.sizeOf110
 v22:=Tryz.zeroValue110
 t25:=Tryz.underlying116
 a25:=Tryz.isAgg116
 z25:=Tryz.sizeOf116
 v25:=Tryz.zeroValue116
 t39:=Tryz.underlying156
 a39:=Tryz.isAgg156
 z39:=Tryz.sizeOf156
 v39:=Tryz.zeroValue156
 t45:=Tryz.underlying184
 a45:=Tryz.isAgg184
 z45:=Tryz.sizeOf184
 v45:=Tryz.zeroValue184
 t46:=Tryz.underlying185
 a46:=Tryz.isAgg185
 z46:=Tryz.sizeOf185
 v46:=Tryz.zeroValue185
 t50:=Tryz.underlying108
 a50:=Tryz.isAgg108
 z50:=Tryz.sizeOf108
 v50:=Tryz.zeroValue108
 t53:=Tryz.underlying47
 a53:=Tryz.isAgg47
 z53:=Tryz.sizeOf47
 v53:=Tryz.zeroValue47
 t55:=Tryz.underlying81
 a55:=Tryz.isAgg81
 z55:=Tryz.sizeOf81
 v55:=Tryz.zeroValue81
 t66:=Tryz.underlying209
 a66:=Tryz.isAgg209
 z66:=Tryz.sizeOf209
 v66:=Tryz.zeroValue209
 t70:=Tryz.underlying213
 a70:=Tryz.isAgg213
 z70:=Tryz.sizeOf213
 v70:=Tryz.zeroValue213
 t76:=Tryz.underlying234
 a76:=Tryz.isAgg234
 z76:=Tryz.sizeOf234
 v76:=Tryz.zeroValue234
 t77:=Tryz.underlying235
 a77:=Tryz.isAgg235
 z77:=Tryz.sizeOf235
 v77:=Tryz.zeroValue235}
def Tryz.insI_ren:Go.Shelf.Ren:=⟨fun|20=>185|n=>n,fun|24=>3|22=>36|3=>3|25=>115|4=>4|0=>0|n=>n,fun|n=>n⟩
theorem Tryz.insI:Go.Proofs.SlLaysF.n20 Tryz.prog Tryz.insI_ren:={
 mixed:=by kernel_rfl
 f20:=⟨Tryz.f185.name,by decide,Tryz.func185.trans (congrArg some (by kernel_rfl))⟩
 t0:=Tryz.underlying0
 a0:=Tryz.isAgg0
 z0:=Tryz.sizeOf0
 v0:=Tryz.zeroValue0
 t3:=Tryz.underlying3
 a3:=Tryz.isAgg3
 z3:=Tryz.sizeOf3
 v3:=Tryz.zeroValue3
 t4:=Tryz.underlying4
 a4:=Tryz.isAgg4
 z4:=Tryz.sizeOf4
 v4:=Tryz.zeroValue4
 t22:=Tryz.underlying36
 a22:=Tryz.isAgg36
 z22:=Tryz.sizeOf36
 v22:=Tryz.zeroValue36
 a24:=Tryz.isAgg3
 z24:=Tryz.sizeOf3
 t25:=Tryz.underlying115
 a25:=Tryz.isAgg115
 z25:=Tryz.sizeOf115
 v25:=Tryz.zeroValue115}
end Go.Proofs
