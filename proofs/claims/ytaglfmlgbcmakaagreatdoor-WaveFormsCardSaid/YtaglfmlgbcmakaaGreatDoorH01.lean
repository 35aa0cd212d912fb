/-
  points.Map: Len, has.
  slices.MinFunc, DeleteFunc, SortFunc and an insertion sort at this program: tables of numbers, and facts of the program (written by the kit's lay-plain).
  Strict orders, in plain words (the same as in text InvS: never import both).
  Waves in their order (chapter 38), in plain words: those before which none comes, one, two and so on, are all in order.
  Shortest ways (chapters 36 and 38), in plain words: what a distance is; ways over more and more points (the document's); the nearest open point first (the program's).
  When a wave arrives (chapter 38), in plain words: the program's test for numbers too large and the document's are the same.
  Maps of places (chapter 36), in plain words: roads, the roads at each point, what is refused.
  The nearest open point first (chapter 36), in plain words: how long it goes on, and how large the numbers become.
  A number or -1 where there is none.
  cmp.Compare over int64 and int; slices.MinFunc and slices.DeleteFunc as points.Map's from calls them.
  slices.MinFunc and slices.DeleteFunc, as points.Map's from calls them.
  Maps in memory (chapter 36).
-/
import Derived.Shelf.SlCmpFuncs.MinMaxFunc
import Derived.Shelf.SlicesE.DeleteFunc
import Derived.Shelf.SlSortCmp.NoneTotal
import Derived.Shelf.SlGeneric
import Derived.Deep.OwnRows
import Derived.Lib.SliceRun
import Derived.Test.YtaglfmlgbcmakaaGreatDoorG06
set_option linter.all false
set_option maxRecDepth 100000
set_option maxHeartbeats 4000000
namespace Go.Proofs.YtaglfmlgbcmakaaGreatDoor
open Go.RowKit
theorem Lm (b:Nat)(A:Option Addr)(n c:Nat)(w:World)(h:w.cell? ⟨b,0,none⟩=some (.slice A n c)):
  Calls Tryz.prog 19 #[.pointer (some ⟨b,0,none⟩)] w fun e w'=>e= .returned (.int .i64 n)/\Below w.heap.size w w':=by
 go_enter Tryz.func19,Tryz.ntmps19;go_wp2;go_ret;exact⟨rfl,Below.refl _ _⟩
theorem Aki (w:World):Calls Tryz.prog 19 #[.pointer none] w fun e w'=>e= .returned (.int .i64 0)/\Below w.heap.size w w':=by
 go_enter Tryz.func19,Tryz.ntmps19;go_wp2;go_ret;exact⟨rfl,Below.refl _ _⟩
theorem Ahs (b:Nat)(A:Option Addr)(n c:Nat)(a:Int)(w:World)(h:w.cell? ⟨b,0,none⟩=some (.slice A n c)):
  Calls Tryz.prog 63 #[.pointer (some ⟨b,0,none⟩), .int .i64 a] w fun e w'=>e= .returned (.bool (decide (0<=a/\a<n)))/\Below w.heap.size w w':=by
 go_enter Tryz.func63,Tryz.ntmps63;by_cases h0:0<=a
 ·go_wp2_with fail;refine(Lm b A n c w h).mono ?_;rintro e w1 ⟨rfl,a0⟩;go_wp2;go_ret;refine⟨?_,a0⟩;simp[h0]
 ·have h1:¬(0<=a/\a<(n:Int)):=fun e=>h0 e.1
  go_wp2;go_ret;exact⟨by simp[h1],Below.refl _ _⟩
end Go.Proofs.YtaglfmlgbcmakaaGreatDoor
namespace Go.Proofs
open Go.Shelf
def Tryz.minI_ren:Go.Shelf.Ren:=⟨fun|10=>107|n=>n,fun|22=>36|24=>3|25=>115|3=>3|4=>4|9=>9|20=>20|0=>0|n=>n,fun|n=>n⟩
theorem Tryz.minI:Go.Proofs.SlLaysG2.n10 Tryz.prog Tryz.minI_ren:={
 mixed:=by kernel_rfl
 f10:=⟨Tryz.f107.name,by decide,Tryz.func107.trans (congrArg some (by kernel_rfl))⟩
 t0:=Tryz.underlying0
 a0:=Tryz.isAgg0
 z0:=Tryz.sizeOf0
 v0:=Tryz.zeroValue0
 t3:=Tryz.underlying3
 a3:=Tryz.isAgg3
 z3:=Tryz.sizeOf3
 v3:=Tryz.zeroValue3
 t4:=Tryz.underlying4
 a4:=Tryz.isAgg4
 z4:=Tryz.sizeOf4
 v4:=Tryz.zeroValue4
 t9:=Tryz.underlying9
 a9:=Tryz.isAgg9
 z9:=Tryz.sizeOf9
 v9:=Tryz.zeroValue9
 t20:=Tryz.underlying20
 a20:=Tryz.isAgg20
 z20:=Tryz.sizeOf20
 v20:=Tryz.zeroValue20
 t22:=Tryz.underlying36
 a22:=Tryz.isAgg36
 z22:=Tryz.sizeOf36
 v22:=Tryz.zeroValue36
 a24:=Tryz.isAgg3
 z24:=Tryz.sizeOf3
 t25:=Tryz.underlying115
 a25:=Tryz.isAgg115
 z25:=Tryz.sizeOf115
 v25:=Tryz.zeroValue115}
def Tryz.delI_ren:Go.Shelf.Ren:=⟨fun|10=>108|6=>144|n=>n,fun|22=>36|23=>3|25=>125|3=>3|4=>4|0=>0|n=>n,fun|n=>n⟩
theorem Tryz.delI:Go.Proofs.SlLaysH.n10 Tryz.prog Tryz.delI_ren:={
 mixed:=by kernel_rfl
 f6:=⟨Tryz.f144.name,by decide,Tryz.func144.trans (congrArg some (by kernel_rfl))⟩
 f10:=⟨Tryz.f108.name,by decide,Tryz.func108.trans (congrArg some (by kernel_rfl))⟩
 t0:=Tryz.underlying0
 a0:=Tryz.isAgg0
 z0:=Tryz.sizeOf0
 v0:=Tryz.zeroValue0
 t3:=Tryz.underlying3
 a3:=Tryz.isAgg3
 z3:=Tryz.sizeOf3
 v3:=Tryz.zeroValue3
 t4:=Tryz.underlying4
 a4:=Tryz.isAgg4
 z4:=Tryz.sizeOf4
 v4:=Tryz.zeroValue4
 t22:=Tryz.underlying36
 a22:=Tryz.isAgg36
 z22:=Tryz.sizeOf36
 v22:=Tryz.zeroValue36
 a23:=Tryz.isAgg3
 z23:=Tryz.sizeOf3
 t25:=Tryz.underlying125
 a25:=Tryz.isAgg125
 z25:=Tryz.sizeOf125
 v25:=Tryz.zeroValue125}
def Tryz.sortEnd_ren:Go.Shelf.Ren:=⟨fun|6=>55|15=>100|14=>99|28=>138|29=>139|20=>130|21=>131|22=>132|23=>133|24=>134|25=>135|26=>136|27=>137|46=>166|47=>167|48=>168|49=>169|50=>170|57=>184|n=>n,fun|22=>110|24=>112|25=>116|3=>3|39=>156|0=>0|53=>47|55=>81|4=>4|46=>185|45=>184|50=>108|5=>5|9=>9|66=>209|70=>213|76=>234|77=>235|n=>n,fun|n=>n⟩
theorem Tryz.sortEnd:Go.Proofs.SlLaysF0.n6 Tryz.prog Tryz.sortEnd_ren:={
 mixed:=by kernel_rfl
 f6:=⟨Tryz.f55.name,by decide,Tryz.func55.trans (congrArg some (by kernel_rfl))⟩
 f14:=⟨Tryz.f99.name,by decide,Tryz.func99.trans (congrArg some (by kernel_rfl))⟩
 f15:=Tryz.func100.trans (congrArg some (by kernel_rfl))
 f20:=⟨Tryz.f130.name,by decide,Tryz.func130.trans (congrArg some (by kernel_rfl))⟩
 f21:=⟨Tryz.f131.name,by decide,Tryz.func131.trans (congrArg some (by kernel_rfl))⟩
 f22:=⟨Tryz.f132.name,by decide,Tryz.func132.trans (congrArg some (by kernel_rfl))⟩
 f23:=⟨Tryz.f133.name,by decide,Tryz.func133.trans (congrArg some (by kernel_rfl))⟩
 f24:=⟨Tryz.f134.name,by decide,Tryz.func134.trans (congrArg some (by kernel_rfl))⟩
 f25:=⟨Tryz.f135.name,by decide,Tryz.func135.trans (congrArg some (by kernel_rfl))⟩
 f26:=⟨Tryz.f136.name,by decide,Tryz.func136.trans (congrArg some (by kernel_rfl))⟩
 f27:=⟨Tryz.f137.name,by decide,Tryz.func137.trans (congrArg some (by kernel_rfl))⟩
 f28:=Tryz.func138.trans (congrArg some (by kernel_rfl))
 f29:=Tryz.func139.trans (congrArg some (by kernel_rfl))
 f46:=⟨Tryz.f166.name,by decide,Tryz.func166.trans (congrArg some (by kernel_rfl))⟩
 f47:=Tryz.func167.trans (congrArg some (by kernel_rfl))
 f48:=Tryz.func168.trans (congrArg some (by kernel_rfl))
 f49:=⟨Tryz.f169.name,by decide,Tryz.func169.trans (congrArg some (by kernel_rfl))⟩
 f50:=⟨Tryz.f170.name,by decide,Tryz.func170.trans (congrArg some (by kernel_rfl))⟩
 f57:=⟨Tryz.f184.name,by decide,Tryz.func184.trans (congrArg some (by kernel_rfl))⟩
 t0:=Tryz.underlying0
 a0:=Tryz.isAgg0
 z0:=Tryz.sizeOf0
 v0:=Tryz.zeroValue0
 t3:=Tryz.underlying3
 a3:=Tryz.isAgg3
 z3:=Tryz.sizeOf3
 v3:=Tryz.zeroValue3
 t4:=Tryz.underlying4
 a4:=Tryz.isAgg4
 z4:=Tryz.sizeOf4
 v4:=Tryz.zeroValue4
 t5:=Tryz.underlying5
 a5:=Tryz.isAgg5
 z5:=Tryz.sizeOf5
 v5:=Tryz.zeroValue5
 t9:=Tryz.underlying9
 a9:=Tryz.isAgg9
 z9:=Tryz.sizeOf9
 v9:=Tryz.zeroValue9
 t22:=Tryz.underlying110
 a22:=Tryz.isAgg110
 z22:=Tryz.sizeOf110
 v22:=Tryz.zeroValue110
 t25:=Tryz.underlying116
 a25:=Tryz.isAgg116
 z25:=Tryz.sizeOf116
 v25:=Tryz.zeroValue116
 t39:=Tryz.underlying156
 a39:=Tryz.isAgg156
 z39:=Tryz.sizeOf156
 v39:=Tryz.zeroValue156
 t45:=Tryz.underlying184
 a45:=Tryz.isAgg184
 z45:=Tryz.sizeOf184
 v45:=Tryz.zeroValue184
 t46:=Tryz.underlying185
 a46:=Tryz.isAgg185
 z46:=Tryz.sizeOf185
 v46:=Tryz.zeroValue185
 t50:=Tryz.underlying108
 a50:=Tryz.isAgg108
 z50:=Tryz.sizeOf108
 v50:=Tryz.zeroValue108
 t53:=Tryz.underlying47
 a53:=Tryz.isAgg47
 z53:=Tryz.sizeOf47
 v53:=Tryz.zeroValue47
 t55:=Tryz.underlying81
 a55:=Tryz.isAgg81
 z55:=Tryz.sizeOf81
 v55:=Tryz.zeroValue81
 t66:=Tryz.underlying209
 a66:=Tryz.isAgg209
 z66:=Tryz.sizeOf209
 v66:=Tryz.zeroValue209
 t70:=Tryz.underlying213
 a70:=Tryz.isAgg213
 z70:=Tryz.sizeOf213
 v70:=Tryz.zeroValue213
 t76:=Tryz.underlying234
 a76:=Tryz.isAgg234
 z76:=Tryz.sizeOf234
 v76:=Tryz.zeroValue234
 t77:=Tryz.underlying235
 a77:=Tryz.isAgg235
 z77:=Tryz.sizeOf235
 v77:=Tryz.zeroValue235}
def Tryz.insI_ren:Go.Shelf.Ren:=⟨fun|20=>185|n=>n,fun|24=>3|22=>36|3=>3|25=>115|4=>4|0=>0|n=>n,fun|n=>n⟩
theorem Tryz.insI:Go.Proofs.SlLaysF.n20 Tryz.prog Tryz.insI_ren:={
 mixed:=by kernel_rfl
 f20:=⟨Tryz.f185.name,by decide,Tryz.func185.trans (congrArg some (by kernel_rfl))⟩
 t0:=Tryz.underlying0
 a0:=Tryz.isAgg0
 z0:=Tryz.sizeOf0
 v0:=Tryz.zeroValue0
 t3:=Tryz.underlying3
 a3:=Tryz.isAgg3
 z3:=Tryz.sizeOf3
 v3:=Tryz.zeroValue3
 t4:=Tryz.underlying4
 a4:=Tryz.isAgg4
 z4:=Tryz.sizeOf4
 v4:=Tryz.zeroValue4
 t22:=Tryz.underlying36
 a22:=Tryz.isAgg36
 z22:=Tryz.sizeOf36
 v22:=Tryz.zeroValue36
 a24:=Tryz.isAgg3
 z24:=Tryz.sizeOf3
 t25:=Tryz.underlying115
 a25:=Tryz.isAgg115
 z25:=Tryz.sizeOf115
 v25:=Tryz.zeroValue115}
end Go.Proofs
namespace Go.Proofs.YtaglfmlgbcmakaaGreatDoor
open Go.RowKit
section
variable {α:Type}
structure J7 (lt:α->α->Bool):Prop where
 irr:∀a,lt a a=false
 tr:∀a b c,lt a b=true->lt b c=true->lt a c=true
 tot:∀a b,lt a b=false->lt b a=false->a=b
theorem Ni {lt:α->α->Bool}(h:J7 lt):∀xs ys:List α,xs.Pairwise (fun a b=>lt a b=true)->ys.Pairwise (fun a b=>lt a b=true)->(∀a,a∈xs↔a∈ys)->xs=ys
 |[],[],_,_,_=>rfl
 |[],y::ys,_,_,hm=>by have:=(hm y).2 List.mem_cons_self;cases this
 |x::xs,[],_,_,hm=>by have:=(hm x).1 List.mem_cons_self;cases this
 |x::xs,y::ys,hx,hy,hm=>by
  rw[List.pairwise_cons]at hx hy
  have a0:x=y:=by
   rcases List.mem_cons.1 ((hm x).1 List.mem_cons_self)with e|e
   ·exact e
   ·rcases List.mem_cons.1 ((hm y).2 List.mem_cons_self)with e'|e'
    ·exact e'.symm
    ·have h1:=hy.1 x e;have h2:=hx.1 y e';have h3:=h.tr _ _ _ h1 h2;rw[h.irr]at h3;cases h3
  subst a0;congr 1;refine Ni h xs ys hx.2 hy.2 fun a=>⟨fun ha=> ?_,fun ha=> ?_⟩
  ·rcases List.mem_cons.1 ((hm a).1 (List.mem_cons_of_mem _ ha))with e|e
   ·subst e;have:=hx.1 a ha;rw[h.irr]at this;cases this
   ·exact e
  ·rcases List.mem_cons.1 ((hm a).2 (List.mem_cons_of_mem _ ha))with e|e
   ·subst e;have:=hy.1 a ha;rw[h.irr]at this;cases this
   ·exact e
end
section
variable {lt:Nat->Nat->Bool}
def Fq (lt:Nat->Nat->Bool)(m i:Nat):Nat:=((List.range m).filter fun k=>lt k i).length
theorem Qr {α:Type}{p q:α->Bool}(h:∀a,p a=true->q a=true):∀l:List α,(l.filter p).length<=(l.filter q).length
 |[]=>rr
 |x::l=>by
  have ih:=Qr h l;rw[List.filter_cons,List.filter_cons];by_cases hp:p x=true
  ·rw[if_pos hp,if_pos (h x hp)];simp;exact ih
  ·rw[if_neg hp];split
   ·simp;omega
   ·exact ih
theorem Ky {α:Type}{p q:α->Bool}(h:∀a,p a=true->q a=true){y:α}(hp:p y=false)(hq:q y=true):∀l:List α,y∈l->(l.filter p).length<(l.filter q).length
 |[],hy=>by cases hy
 |x::l,hy=>by
  rw[List.filter_cons,List.filter_cons];rcases List.mem_cons.1 hy with e|hy
  ·subst e;rw[if_neg (by simp[hp]),if_pos hq]
   have:=Qr h l
   simp;omega
  ·have ih:=Ky h hp hq l hy;by_cases hpx:p x=true
   ·rw[if_pos hpx,if_pos (h x hpx)];simp;exact ih
   ·rw[if_neg hpx];split
    ·simp;omega
    ·exact ih
theorem Zz (h:J7 lt){m i j:Nat}(hi:i<m)(hij:lt i j=true):Fq lt m i<Fq lt m j:=
 Ky (p:=fun k=>lt k i) (q:=fun k=>lt k j) (fun k hk=>h.tr k i j hk hij) (h.irr i) hij _ (List.mem_range.2 hi)
theorem Z0 (h:J7 lt){m i:Nat}(hi:i<m):Fq lt m i<m:=by
 have:=Ky (p:=fun k=>lt k i) (q:=fun _=>true) (fun _ _=>rfl) (h.irr i) rfl (List.range m) (List.mem_range.2 hi)
 rw[List.filter_eq_self.2 (fun _ _=>rfl),List.length_range]at this;exact this
def Fr (lt:Nat->Nat->Bool)(p:Nat->Bool)(m:Nat):List Nat:=(List.range m).flatMap fun n=>(List.range m).filter fun i=>decide (Fq lt m i=n) && p i
theorem Fs (h:J7 lt)(p:Nat->Bool)(m i:Nat):i∈Fr lt p m↔i<m/\p i=true:=by
 unfold Fr;rw[List.mem_flatMap];constructor
 ·rintro⟨n,_,hi⟩;obtain⟨h1,h2⟩:=List.mem_filter.1 hi;rw[Bool.and_eq_true]at h2;exact⟨List.mem_range.1 h1,h2.2⟩
 ·rintro⟨h1,h2⟩;exact⟨Fq lt m i,List.mem_range.2 (Z0 h h1),List.mem_filter.2 ⟨List.mem_range.2 h1,by simp[h2]⟩⟩
theorem Kq (h:J7 lt)(p:Nat->Bool)(m:Nat):(Fr lt p m).Pairwise (fun a b=>lt a b=true):=by
 have key:∀ns:List Nat,ns.Pairwise (fun a b=>a<b)->(ns.flatMap fun n=>(List.range m).filter fun i=>decide (Fq lt m i=n) && p i).Pairwise (fun a b=>lt a b=true):=by
  intro ns
  induction ns with
  |nil=>intro _;simp
  |cons n ns ih=>
   intro hn;rw[List.pairwise_cons]at hn;rw[List.flatMap_cons,List.pairwise_append]
   have hm:∀k i,i∈(List.range m).filter (fun i=>decide (Fq lt m i=k) && p i)->i<m/\Fq lt m i=k:=fun k i hi=>by
    obtain⟨h1,h2⟩:=List.mem_filter.1 hi;rw[Bool.and_eq_true]at h2;exact⟨List.mem_range.1 h1,by simpa using h2.1⟩
   refine⟨?_,ih hn.2,fun a ha b hb=> ?_⟩
   ·refine((List.pairwise_lt_range (n:=m)).filter _).imp_of_mem fun{a b} ha hb hab=> ?_
    obtain⟨h1,h2⟩:=hm n a ha;obtain⟨h3,h4⟩:=hm n b hb
    cases hx:lt a b with
    |true=>rfl
    |false=>
     cases hy:lt b a with
     |true=>have:=Zz h h3 hy;omega
     |false=>have:=h.tot a b hx hy;omega
   ·obtain⟨k,hk,hb⟩:=List.mem_flatMap.1 hb;obtain⟨h1,h2⟩:=hm n a ha;obtain⟨h3,h4⟩:=hm k b hb;have a0:=hn.1 k hk
    cases hx:lt a b with
    |true=>rfl
    |false=>
     cases hy:lt b a with
     |true=>have:=Zz h h3 hy;omega
     |false=>have:=h.tot a b hx hy;subst this;omega
 exact key _ List.pairwise_lt_range
theorem Ng (h:J7 lt)(p:Nat->Bool)(m:Nat){s:List Nat}(hs:s.Pairwise (fun a b=>lt a b=true))(hm:∀i,i∈s↔i<m/\p i=true):s=Fr lt p m:=
 Ni h _ _ hs (Kq h p m) fun i=>by rw[hm,Fs h]
end
def C0 (t:Nat->Option Nat)(i j:Nat):Bool:=match t i,t j with
 |some x,some y=>decide (x<y)||(decide (x=y) && decide (i<j))
 |some _,none=>true
 |none,some _=>false
 |none,none=>decide (i<j)
theorem Cr (t:Nat->Option Nat):J7 (C0 t) where
 irr:=fun a=>by unfold C0;cases t a<;>simp
 tr:=fun a b c h1 h2=>by
  unfold C0 at*;cases ha:t a<;>cases hb:t b<;>cases hc:t c<;>rw[ha,hb]at h1<;>rw[hb,hc]at h2<;>simp at h1 h2 ⊢ <;>omega
 tot:=fun a b h1 h2=>by
  unfold C0 at*;cases ha:t a<;>cases hb:t b<;>rw[ha,hb]at h1 h2<;>simp at h1 h2<;>omega
inductive Way (wt:Nat->Nat->Option Nat):Nat->Nat->Nat->Prop
 |nil (a:Nat):Way wt a a 0
 |snoc {a b c d l:Nat}:Way wt a b d->wt b c=some l->Way wt a c (d+l)
def L7 (wt:Nat->Nat->Option Nat)(a b:Nat)(o:Option Nat):Prop:=match o with
 |none=>∀d,¬Way wt a b d
 |some d=>Way wt a b d∧∀d',Way wt a b d'->d<=d'
theorem Ri {wt:Nat->Nat->Option Nat}{a b:Nat}{o o':Option Nat}(h:L7 wt a b o)(h':L7 wt a b o'):o=o':=by
 cases o with
 |none=>cases o' with
  |none=>rfl
  |some d=>exact absurd h'.1 (h d)
 |some d=>cases o' with
  |none=>exact absurd h.1 (h' d)
  |some d'=>exact congrArg some (Nat.le_antisymm (h.2 d' h'.1) (h'.2 d h.1))
theorem Way.append {wt:Nat->Nat->Option Nat}{a b c d d':Nat}(h:Way wt a b d)(h':Way wt b c d'):Way wt a c (d+d'):=by
 induction h' with
 |nil=>exact h
 |snoc _ hl ih=>rw[←Nat.add_assoc];exact .snoc ih hl
theorem Way.one {wt:Nat->Nat->Option Nat}{a b l:Nat}(h:wt a b=some l):Way wt a b l:=by
 have:=Way.snoc (Way.nil (wt:=wt) a) h
 rwa[Nat.zero_add]at this
theorem Way.rev {wt:Nat->Nat->Option Nat}(hs:∀a b,wt a b=wt b a){a b d:Nat}(h:Way wt a b d):Way wt b a d:=by
 induction h with
 |nil=>exact .nil _
 |snoc _ hl ih=>
  rw[hs]at hl;rw[Nat.add_comm];exact(Way.one hl).append ih
theorem L7.rev {wt:Nat->Nat->Option Nat}(hs:∀a b,wt a b=wt b a){a b:Nat}{o:Option Nat}(h:L7 wt a b o):L7 wt b a o:=by
 cases o with
 |none=>exact fun d hd=>h d (hd.rev hs)
 |some d=>exact⟨h.1.rev hs,fun d' hd=>h.2 d' (hd.rev hs)⟩
inductive M1 (wt:Nat->Nat->Option Nat) (P:Nat->Prop):Nat->Nat->Nat->Prop
 |nil (a:Nat):M1 wt P a a 0
 |edge {a b l:Nat}:wt a b=some l->M1 wt P a b l
 |cons {a b c d l:Nat}:wt a b=some l->P b->M1 wt P b c d->M1 wt P a c (l+d)
theorem M1.way {wt:Nat->Nat->Option Nat}{P:Nat->Prop}{a b d:Nat}(h:M1 wt P a b d):Way wt a b d:=by
 induction h with
 |nil=>exact .nil _
 |edge h=>exact Way.one h
 |cons h _ _ ih=>exact(Way.one h).append ih
theorem M1.split {wt:Nat->Nat->Option Nat}{k a c d:Nat}(h:M1 wt (fun v=>v<k+1) a c d):
  M1 wt (fun v=>v<k) a c d∨∃d1 d2,M1 wt (fun v=>v<k) a k d1/\M1 wt (fun v=>v<k) k c d2/\d1+d2<=d:=by
 induction h with
 |nil a=>exact .inl (.nil a)
 |edge h=>exact .inl (.edge h)
 | @cons a b c d l hl hb _ ih=>
  rcases Nat.lt_or_ge b k with hk|hk
  ·rcases ih with ih|⟨d1,d2,h1,h2,h3⟩
   ·exact .inl (.cons hl hk ih)
   ·exact .inr ⟨l+d1,d2, .cons hl hk h1,h2,by omega⟩
  ·obtain rfl:b=k:=by omega
   rcases ih with ih|⟨d1,d2,h1,h2,h3⟩
   ·exact .inr ⟨l,d, .edge hl,ih,rr⟩
   ·exact .inr ⟨l,d2, .edge hl,h2,by omega⟩
theorem Way.all {wt:Nat->Nat->Option Nat}{n:Nat}(hn:∀a b l,wt a b=some l->a<n/\b<n){a b d:Nat}(h:Way wt a b d):M1 wt (fun v=>v<n) a b d:=by
 -- first as a way that begins with its first road
 have key:∀{b d},Way wt a b d→∀{c l},wt b c=some l->M1 wt (fun v=>v<n) a c (d+l):=by
  intro b d hw
  induction hw with
  |nil=>intro c l hl;rw[Nat.zero_add];exact .edge hl
  | @snoc b c d l hw hl ih=>
   intro e l' a1;have hc:c<n:=(hn _ _ _ hl).2
   have snoc':∀{x y d},M1 wt (fun v=>v<n) x y d->y<n→∀{z l},wt y z=some l->M1 wt (fun v=>v<n) x z (d+l):=by
    intro x y d a0
    induction a0 with
    |nil=>intro _ z l hl;rw[Nat.zero_add];exact .edge hl
    |edge h=>intro hy z l hl;exact .cons h hy (.edge hl)
    |cons h hb _ ih=>intro hy z l hl;rw[Nat.add_assoc];exact .cons h hb (ih hy hl)
   exact snoc' (ih hl) hc a1
 cases h with
 |nil=>exact .nil _
 |snoc hw hl=>exact key hw hl
def N5:Option Nat->Option Nat->Option Nat
 |none,o=>o
 |some d,none=>some d
 |some d,some e=>some (min d e)
def Uf:Option Nat->Option Nat->Option Nat
 |some d,some e=>some (d+e)
 |_,_=>none
def Ev (k:Nat)(D:Nat->Nat->Option Nat):Nat->Nat->Option Nat:=fun i j=>N5 (D i j) (Uf (D i k) (D k j))
def Ea (D:Nat->Nat->Option Nat):Nat->Nat->Nat->Option Nat
 |0=>D
 |k+1=>Ev k (Ea D k)
theorem Acr {wt:Nat->Nat->Option Nat}{D:Nat->Nat->Option Nat}(h0:∀i j d,D i j=some d->Way wt i j d):∀k i j d,Ea D k i j=some d->Way wt i j d
 |0,i,j,d,h=>h0 i j d h
 |k+1,i,j,d,h=>by
  have ih:=Acr h0 k;unfold Ea Ev at h
  cases h1:Ea D k i j with
  |none=>
   rw[h1]at h
   cases h2:Ea D k i k with
   |none=>rw[h2]at h;cases h
   |some d1=>cases h3:Ea D k k j with
    |none=>rw[h2,h3]at h;cases h
    |some d2=>
     rw[h2,h3]at h;obtain rfl:d1+d2=d:=by simpa[N5,Uf]using h
     exact(ih _ _ _ h2).append (ih _ _ _ h3)
  |some d0=>
   rw[h1]at h
   cases h2:Ea D k i k with
   |none=>
    rw[h2]at h;obtain rfl:d0=d:=by simpa[N5,Uf]using h
    exact ih _ _ _ h1
   |some d1=>cases h3:Ea D k k j with
    |none=>
     rw[h2,h3]at h;obtain rfl:d0=d:=by simpa[N5,Uf]using h
     exact ih _ _ _ h1
    |some d2=>
     rw[h2,h3]at h;have h4:min d0 (d1+d2)=d:=by simpa[N5,Uf]using h
     rcases Nat.le_total d0 (d1+d2)with h5|h5
     ·rw[Nat.min_eq_left h5]at h4;subst h4;exact ih _ _ _ h1
     ·rw[Nat.min_eq_right h5]at h4;subst h4;exact(ih _ _ _ h2).append (ih _ _ _ h3)
def leO (o:Option Nat)(d:Nat):Prop:=∃e,o=some e/\e<=d
theorem Yc {wt:Nat->Nat->Option Nat}{D:Nat->Nat->Option Nat}(h0:∀i,D i i=some 0)(h1:∀i j l,wt i j=some l->leO (D i j) l):∀k i j d,M1 wt (fun v=>v<k) i j d->leO (Ea D k i j) d
 |0,i,j,d,h=>by
  cases h with
  |nil=>exact⟨0,h0 _,rr⟩
  |edge h=>exact h1 _ _ _ h
  |cons _ hb _=>omega
 |k+1,i,j,d,h=>by
  have ih:=Yc h0 h1 k;unfold Ea Ev;rcases h.split with h|⟨d1,d2,h2,h3,h4⟩
  ·obtain⟨e,he,a1⟩:=ih _ _ _ h;rw[he]
   cases Uf (Ea D k i k) (Ea D k k j)with
   |none=>exact⟨e,rfl,a1⟩
   |some x=>exact⟨min e x,rfl,by omega⟩
  ·obtain⟨e1,a2,a4⟩:=ih _ _ _ h2;obtain⟨e2,a0,a3⟩:=ih _ _ _ h3;rw[a2,a0]
   cases Ea D k i j with
   |none=>exact⟨e1+e2,rfl,by omega⟩
   |some x=>exact⟨min x (e1+e2),rfl,by omega⟩
theorem Ajp {wt:Nat->Nat->Option Nat}{D:Nat->Nat->Option Nat}{n:Nat}(hn:∀a b l,wt a b=some l->a<n/\b<n)(h0:∀i,D i i=some 0)(hw:∀i j d,D i j=some d->Way wt i j d)
  (h1:∀i j l,wt i j=some l->leO (D i j) l) (i j:Nat):L7 wt i j (Ea D n i j):=by
 have hs:∀d,Way wt i j d->leO (Ea D n i j) d:=fun d hd=>Yc h0 h1 n i j d (hd.all hn)
 cases h:Ea D n i j with
 |none=>exact fun d hd=>by obtain⟨e,he,_⟩:=hs d hd;rw[h]at he;cases he
 |some d=>exact⟨Acr hw n i j d h,fun d' hd=>by obtain⟨e,he,a0⟩:=hs d' hd;rw[h]at he;cases he;exact a0⟩
theorem Acs {D:Nat->Nat->Option Nat}{k:Nat}(h0:D k k=some 0)(i:Nat):Ev k D i k=D i k/\Ev k D k i=D k i:=by
 unfold Ev;rw[h0];constructor
 ·cases D i k<;>simp[N5,Uf]
 ·cases D k i<;>simp[N5,Uf]
theorem Acu {D:Nat->Nat->Option Nat}(h0:∀i,D i i=some 0):∀k i,Ea D k i i=some 0
 |0,i=>h0 i
 |k+1,i=>by
  unfold Ea Ev;rw[Acu h0 k i];cases Uf (Ea D k i k) (Ea D k k i)<;>simp[N5]
-- the nearest open point first
structure Dij (wt:Nat->Nat->Option Nat)(a:Nat)(D:Nat->Option Nat)(op:List Nat):Prop where
 start:D a=some 0
 way:∀v d,D v=some d->Way wt a v d
 open_:∀v∈op,∃d,D v=some d
 closed:∀u du,D u=some du->u∉op→∀v l,wt u v=some l->leO (D v) (du+l)
 order:∀u du,D u=some du->u∉op→∀v∈op,∀dv,D v=some dv->du<=dv
theorem Dij.begin (wt:Nat->Nat->Option Nat)(a:Nat):Dij wt a (fun v=>if v=a then some 0 else none) [a] where
 start:=by simp
 way:=fun v d h=>by
  by_cases e:v=a
  ·subst e;simp at h;subst h;exact .nil _
  ·simp[e]at h
 open_:=fun v hv=>⟨0,by simp at hv;simp[hv]⟩
 closed:=fun u du h hu=>by
  by_cases e:u=a
  ·subst e;simp at hu
  ·simp[e]at h
 order:=fun u du h hu=>by
  by_cases e:u=a
  ·subst e;simp at hu
  ·simp[e]at h
theorem Dij.done {wt:Nat->Nat->Option Nat}{a:Nat}{D:Nat->Option Nat}(h:Dij wt a D [])(v:Nat):L7 wt a v (D v):=by
 have hs:∀v d,Way wt a v d->leO (D v) d:=by
  intro v d hw
  induction hw with
  |nil=>exact⟨0,h.start,rr⟩
  | @snoc b c d l _ hl ih=>
   obtain⟨e,he,a2⟩:=ih;obtain⟨x,hx,a1⟩:=h.closed _ _ he (by simp) _ _ hl;exact⟨x,hx,by omega⟩
 cases hd:D v with
 |none=>exact fun d hw=>by obtain⟨e,he,_⟩:=hs v d hw;rw[hd]at he;cases he
 |some d=>exact⟨h.way v d hd,fun d' hw=>by obtain⟨e,he,a0⟩:=hs v d' hw;rw[hd]at he;cases he;exact a0⟩
def Kb (D:Nat->Option Nat)(x d:Nat):Nat->Option Nat:=fun v=>if v=x then some d else D v
theorem Du (D:Nat->Option Nat)(x d:Nat):Kb D x d x=some d:=by simp[Kb]
theorem Dv (D:Nat->Option Nat){x v:Nat}(d:Nat)(h:v≠x):Kb D x d v=D v:=by simp[Kb,h]
def Nl (dAt:Nat)(x l:Nat)(s:(Nat->Option Nat)×List Nat):(Nat->Option Nat)×List Nat:=
 match s.1 x with
 |none=>(Kb s.1 x (dAt+l),s.2++[x])
 |some dx=>if dx<=dAt+l then s else(Kb s.1 x (dAt+l),s.2)
structure Rlx (wt:Nat->Nat->Option Nat)(a at_ dAt:Nat)(done:List (Nat×Nat))(D:Nat->Option Nat)(op:List Nat):Prop where
 start:D a=some 0
 way:∀v d,D v=some d->Way wt a v d
 open_:∀v∈op,∃d,D v=some d
 atv:D at_=some dAt
 ato:at_∉op
 cl:∀u du,D u=some du->u∉op->du<=dAt/\(u≠at_→∀v l,wt u v=some l->leO (D v) (du+l))
 dn:∀v l,(v,l)∈done->leO (D v) (dAt+l)
 od:∀v∈op,∀dv,D v=some dv->dAt<=dv
theorem Rlx.begin {wt:Nat->Nat->Option Nat}{a at_ dAt:Nat}{D:Nat->Option Nat}{op:List Nat}(h:Dij wt a D op)(ha:at_∈op)(hd:D at_=some dAt)(hm:∀v∈op,∀dv,D v=some dv->dAt<=dv):Rlx wt a at_ dAt [] D (op.filter fun x=> !decide (x=at_)) where
 start:=h.start
 way:=h.way
 open_:=fun v hv=>h.open_ v (List.mem_filter.1 hv).1
 atv:=hd
 ato:=fun hv=>by simp at hv
 cl:=fun u du hu hn=>by
  by_cases e:u=at_
  ·subst e;rw[hd]at hu;cases hu;exact⟨rr,fun hne=>absurd rfl hne⟩
  ·have a0:u∉op:=fun hv=>hn (List.mem_filter.2 ⟨hv,by simp[e]⟩)
   exact⟨h.order u du hu a0 at_ ha dAt hd,fun _=>h.closed u du hu a0⟩
 dn:=fun v l hv=>by cases hv
 od:=fun v hv=>hm v (List.mem_filter.1 hv).1
theorem Rlx.step {wt:Nat->Nat->Option Nat}{a at_ dAt:Nat}{done:List (Nat×Nat)}{D:Nat->Option Nat}{op:List Nat}(h:Rlx wt a at_ dAt done D op){x l:Nat}(hx:wt at_ x=some l):
  Rlx wt a at_ dAt (done++[(x,l)]) (Nl dAt x l (D,op)).1 (Nl dAt x l (D,op)).2:=by
 have a1:Way wt a x (dAt+l):= .snoc (h.way _ _ h.atv) hx
 have a0:∀{D':Nat->Option Nat},leO (D' x) (dAt+l)->(∀v k,leO (D v) k->leO (D' v) k)→∀v k,(v,k)∈done++[(x,l)]->leO (D' v) (dAt+k):=fun h1 h2 v k hv=>by
  rcases List.mem_append.1 hv with hv|hv
  ·exact h2 v _ (h.dn v k hv)
  ·obtain⟨rfl,rfl⟩:v=x/\k=l:=by simpa using hv
   exact h1
 unfold Nl;dsimp only
 cases hD:D x with
 |none=>
  dsimp only
  have a2:∀v k,leO (D v) k->leO (Kb D x (dAt+l) v) k:=fun v k ⟨e,he,hk⟩=>by
   by_cases e':v=x
   ·subst e';rw[hD]at he;cases he
   ·rw[Dv _ _ e'];exact⟨e,he,hk⟩
  have a3:at_≠x:=fun e=>by rw[←e,h.atv]at hD;cases hD
  refine⟨?_,fun v d hv=> ?_,fun v hv=> ?_,by rw[Dv _ _ a3];exact h.atv,fun hv=> ?_,fun u du hu hn=> ?_,a0 ⟨_,Du _ _ _,rr⟩ a2,fun v hv dv hdv=> ?_⟩
  ·rw[Dv _ _ (fun e=>by rw[←e,h.start]at hD;cases hD)];exact h.start
  ·by_cases e:v=x
   ·subst e;rw[Du]at hv;cases hv;exact a1
   ·rw[Dv _ _ e]at hv;exact h.way v d hv
  ·by_cases e:v=x
   ·subst e;exact⟨_,Du _ _ _⟩
   ·rcases List.mem_append.1 hv with hv|hv
    ·rw[Dv _ _ e];exact h.open_ v hv
    ·exact absurd (by simpa using hv) e
  ·rcases List.mem_append.1 hv with hv|hv
   ·exact h.ato hv
   ·exact a3 (by simpa using hv)
  ·have a4:u≠x:=fun e=>hn (List.mem_append.2 (.inr (by simp[e])))
   have a7:u∉op:=fun hv=>hn (List.mem_append.2 (.inl hv))
   rw[Dv _ _ a4]at hu;obtain⟨h1,h2⟩:=h.cl u du hu a7;exact⟨h1,fun hne v k hk=>a2 v _ (h2 hne v k hk)⟩
  ·by_cases e:v=x
   ·subst e;rw[Du]at hdv;cases hdv;omega
   ·rcases List.mem_append.1 hv with hv|hv
    ·rw[Dv _ _ e]at hdv;exact h.od v hv dv hdv
    ·exact absurd (by simpa using hv) e
 |some dx=>
  dsimp only;by_cases hle:dx<=dAt+l
  ·rw[if_pos hle];exact⟨h.start,h.way,h.open_,h.atv,h.ato,h.cl,a0 ⟨dx,hD,hle⟩ (fun _ _ h=>h),h.od⟩
  ·rw[if_neg hle];dsimp only
   -- the point is open
   have a5:x∈op:=Classical.byContradiction fun hn=>by
    have:=(h.cl x dx hD hn).1;omega
   have a2:∀v k,leO (D v) k->leO (Kb D x (dAt+l) v) k:=fun v k ⟨e,he,hk⟩=>by
    by_cases e':v=x
    ·subst e';rw[hD]at he;cases he;exact⟨_,Du _ _ _,by omega⟩
    ·rw[Dv _ _ e'];exact⟨e,he,hk⟩
   have a3:at_≠x:=fun e=>h.ato (e▸a5)
   refine⟨?_,fun v d hv=> ?_,fun v hv=> ?_,by rw[Dv _ _ a3];exact h.atv,h.ato,fun u du hu hn=> ?_,a0 ⟨_,Du _ _ _,rr⟩ a2,fun v hv dv hdv=> ?_⟩
   ·have a6:a≠x:=fun e=>by
     rw[←e,h.start]at hD;cases hD;omega
    rw[Dv _ _ a6];exact h.start
   ·by_cases e:v=x
    ·subst e;rw[Du]at hv;cases hv;exact a1
    ·rw[Dv _ _ e]at hv;exact h.way v d hv
   ·by_cases e:v=x
    ·subst e;exact⟨_,Du _ _ _⟩
    ·rw[Dv _ _ e];exact h.open_ v hv
   ·have a4:u≠x:=fun e=>hn (e▸a5)
    rw[Dv _ _ a4]at hu;obtain⟨h1,h2⟩:=h.cl u du hu hn;exact⟨h1,fun hne v k hk=>a2 v _ (h2 hne v k hk)⟩
   ·by_cases e:v=x
    ·subst e;rw[Du]at hdv;cases hdv;omega
    ·rw[Dv _ _ e]at hdv;exact h.od v hv dv hdv
theorem Rlx.done_ {wt:Nat->Nat->Option Nat}{a at_ dAt:Nat}{done:List (Nat×Nat)}{D:Nat->Option Nat}{op:List Nat}(h:Rlx wt a at_ dAt done D op)(hall:∀v l,wt at_ v=some l->(v,l)∈done):Dij wt a D op where
 start:=h.start
 way:=h.way
 open_:=h.open_
 closed:=fun u du hu hn v l hl=>by
  by_cases e:u=at_
  ·subst e;rw[h.atv]at hu;cases hu;exact h.dn v l (hall v l hl)
  ·exact(h.cl u du hu hn).2 e v l hl
 order:=fun u du hu hn v hv dv hdv=>Nat.le_trans (h.cl u du hu hn).1 (h.od v hv dv hdv)
def Kl (l:List (Option Nat)):Option Nat:=l.foldl N5 none
def Gf (near:Option Nat)(T S:Nat)(U:Int):Option Nat:=match near with
 |none=>none
 |some d=>if 9223372036854775807<T+S*d then none else if U<=((T+S*d:Nat):Int)then none else some (T+S*d)
theorem Add {T S d M:Nat}(hT:T<=M):(0<d/\(M-T)/d<S)↔M<T+S*d:=by
 constructor
 ·rintro⟨h0,h1⟩
  have:=(Nat.div_lt_iff_lt_mul h0).1 h1
  omega
 ·intro h
  have h0:0<d:=by
   rcases Nat.eq_zero_or_pos d with e|e
   ·subst e;simp at h;omega
   ·exact e
  exact⟨h0,(Nat.div_lt_iff_lt_mul h0).2 (by omega)⟩
theorem Ai8 {T S d M:Nat}(hT:T<=M):(0<S/\(M-T)/S<d)↔M<T+S*d:=by
 rw[Nat.mul_comm];exact Add hT
theorem Q8 (a:Option Nat):N5 a none=a:=by cases a<;>rfl
theorem Sp (d e:Nat):N5 (some d) (some e)=if e<d then some e else some d:=by
 show some (min d e)=_;by_cases h:e<d
 ·rw[if_pos h,Nat.min_eq_right (by omega)]
 ·rw[if_neg h,Nat.min_eq_left (by omega)]
abbrev Bk:=Nat×Nat×Nat
def Cj (r:Bk)(a b:Nat):Bool:=(decide (r.1=a) && decide (r.2.1=b))||(decide (r.1=b) && decide (r.2.1=a))
theorem Aa6 (r:Bk)(a b:Nat):Cj r a b=Cj r b a:=by unfold Cj;rw[Bool.or_comm]
theorem Dw {r:Bk}{a b:Nat}:Cj r a b=true↔(r.1=a/\r.2.1=b)\/(r.1=b/\r.2.1=a):=by
 unfold Cj;simp
def wtN (rs:List Bk)(a b:Nat):Option Nat:=(rs.find? fun r=>Cj r a b).map fun r=>r.2.2
theorem Aj7 (rs:List Bk)(a b:Nat):wtN rs a b=wtN rs b a:=by
 unfold wtN;rw[show(fun r=>Cj r a b)=fun r=>Cj r b a from funext fun r=>Aa6 r a b]
def Dm (rs:List Bk)(v:Nat):List (Nat×Nat):=rs.filterMap fun r=>if r.1=v then some (r.2.1,r.2.2)else if r.2.1=v then some (r.1,r.2.2)else none
structure Cv (n:Nat)(rs:List Bk):Prop where
 lt:∀r∈rs,r.1<n/\r.2.1<n/\r.1≠r.2.1/\1<=r.2.2/\r.2.2<=1073741824
 one:rs.Pairwise fun r s=>Cj r s.1 s.2.1=false
theorem Adv (rs:List Bk)(r:Bk)(v:Nat):Dm (rs++[r]) v=Dm rs v++(if r.1=v then [(r.2.1,r.2.2)]else if r.2.1=v then [(r.1,r.2.2)]else []):=by
 unfold Dm;rw[List.filterMap_append];congr 1;by_cases h:r.1=v
 ·simp[h]
 ·by_cases h':r.2.1=v
  ·simp[h,h']
  ·simp[h,h']
theorem Kv {rs:List Bk}{v x l:Nat}:(x,l)∈Dm rs v↔∃r∈rs,(r.1=v/\r.2.1=x/\r.2.2=l)\/(r.1≠v/\r.2.1=v/\r.1=x/\r.2.2=l):=by
 unfold Dm;rw[List.mem_filterMap];constructor
 ·rintro⟨r,hr,h⟩;refine⟨r,hr, ?_⟩;by_cases h1:r.1=v
  ·rw[if_pos h1]at h;simp only[Option.some.injEq,Prod.mk.injEq]at h;exact .inl ⟨h1,h⟩
  ·rw[if_neg h1]at h;by_cases h2:r.2.1=v
   ·rw[if_pos h2]at h;simp only[Option.some.injEq,Prod.mk.injEq]at h;exact .inr ⟨h1,h2,h⟩
   ·rw[if_neg h2]at h;cases h
 ·rintro⟨r,hr,⟨h1,h2,h3⟩|⟨h1,h2,h3,h4⟩⟩
  ·exact⟨r,hr,by rw[if_pos h1,h2,h3]⟩
  ·exact⟨r,hr,by rw[if_neg h1,if_pos h2,h3,h4]⟩
theorem Agt {rs:List Bk}{a b:Nat}(hab:a≠b):(Dm rs a).any (fun p=>decide (p.1=b))=rs.any fun r=>Cj r a b:=by
 rw[Bool.eq_iff_iff,List.any_eq_true,List.any_eq_true];constructor
 ·rintro⟨⟨x,l⟩,hm,hx⟩;obtain rfl:x=b:=by simpa using hx
  obtain⟨r,hr,⟨h1,h2,_⟩|⟨_,h2,h3,_⟩⟩:=Kv.1 hm
  ·exact⟨r,hr,Dw.2 (.inl ⟨h1,h2⟩)⟩
  ·exact⟨r,hr,Dw.2 (.inr ⟨h3,h2⟩)⟩
 ·rintro⟨r,hr,h⟩;rcases Dw.1 h with⟨h1,h2⟩|⟨h1,h2⟩
  ·exact⟨(b,r.2.2),Kv.2 ⟨r,hr, .inl ⟨h1,h2,rfl⟩⟩,by simp⟩
  ·exact⟨(b,r.2.2),Kv.2 ⟨r,hr, .inr ⟨fun e=>hab (e.symm.trans h1),h2,h1,rfl⟩⟩,by simp⟩
theorem Sh {n:Nat}{rs:List Bk}(h:Cv n rs){v x l:Nat}:(x,l)∈Dm rs v↔wtN rs v x=some l:=by
 rw[Kv];unfold wtN;constructor
 ·rintro⟨r,hr,hc⟩
  have hj:Cj r v x=true:=by
   rcases hc with⟨h1,h2,_⟩|⟨_,h2,h3,_⟩
   ·exact Dw.2 (.inl ⟨h1,h2⟩)
   ·exact Dw.2 (.inr ⟨h3,h2⟩)
  have hl:r.2.2=l:=by rcases hc with⟨_,_,h⟩|⟨_,_,_,h⟩<;>exact h
  obtain⟨s,hs⟩:∃s,rs.find? (fun r=>Cj r v x)=some s:=by
   cases hf:rs.find? (fun r=>Cj r v x)with
   |some s=>exact⟨s,rfl⟩
   |none=>exact absurd hj (by simpa using List.find?_eq_none.1 hf r hr)
  have a5:Cj s v x=true:=by simpa using List.find?_some hs
  have a8:=List.mem_of_find?_eq_some hs
  -- both join the same points: they are one
  have:s=r:=by
   have key:∀{a b:Bk},Cj a v x=true->Cj b v x=true->Cj a b.1 b.2.1=true:=by
    intro a b ha hb;rcases Dw.1 ha with⟨a1,a2⟩|⟨a1,a2⟩<;>rcases Dw.1 hb with⟨b1,b2⟩|⟨b1,b2⟩<;>rw[Dw,a1,a2,b1,b2]<;>simp
   rcases Classical.em (s=r)with e|e
   ·exact e
   ·exfalso;obtain⟨i,hi,rfl⟩:=List.getElem_of_mem a8;obtain⟨j,a3,rfl⟩:=List.getElem_of_mem hr;have hp:=List.pairwise_iff_getElem.1 h.one;rcases Nat.lt_trichotomy i j with a0|a0|a0
    ·have:=hp i j hi a3 a0;rw[key a5 hj]at this;cases this
    ·subst a0;exact e rfl
    ·have:=hp j i a3 hi a0;rw[key hj a5]at this;cases this
  rw[hs,this,←hl];rfl
 ·intro hw
  cases hf:rs.find? (fun r=>Cj r v x)with
  |none=>rw[hf]at hw;cases hw
  |some r=>
   rw[hf]at hw;obtain rfl:r.2.2=l:=by simpa using hw
   have a4:=List.mem_of_find?_eq_some hf;have a7:Cj r v x=true:=by simpa using List.find?_some hf
   refine⟨r,a4, ?_⟩;have a6:=(h.lt r a4).2.2.1;rcases Dw.1 a7 with⟨h1,h2⟩|⟨h1,h2⟩
   ·exact .inl ⟨h1,h2,rfl⟩
   ·exact .inr ⟨fun e=>a6 (e.trans h2.symm),h2,h1,rfl⟩
theorem Alj {n:Nat}{rs:List Bk}(h:Cv n rs)(a b l:Nat)(hw:wtN rs a b=some l):a<n/\b<n:=by
 obtain⟨r,hr,hc⟩:=Kv.1 ((Sh h).2 hw)
 have:=h.lt r hr
 rcases hc with⟨h1,h2,_⟩|⟨_,h2,h3,_⟩<;>omega
theorem Agu {n:Nat}{rs:List Bk}(h:Cv n rs){a b l:Nat}(hw:wtN rs a b=some l):l<=1073741824:=by
 obtain⟨r,hr,hc⟩:=Kv.1 ((Sh h).2 hw)
 have:=h.lt r hr
 rcases hc with⟨_,_,h3⟩|⟨_,_,_,h3⟩<;>omega
abbrev Ep:=Int×Int×Int
def Bm (r:Ep):Bk:=(r.1.toNat,r.2.1.toNat,r.2.2.toNat)
def Da (n:Nat)(done:List Bk):List Ep->Int
 |[]=>0
 |r::rs=>if min r.1 r.2.1<0\/(n:Int)<=max r.1 r.2.1 then 3 else if r.1=r.2.1 then 9 else if r.2.2<1\/1073741824<r.2.2 then 2
  else if done.any (fun s=>Cj s r.1.toNat r.2.1.toNat)then 6 else Da n (done++[Bm r]) rs
theorem S0 {n:Nat}:∀{rs:List Ep} {done:List Bk},Da n done rs=0->Cv n done->Cv n (done++rs.map Bm)
 |[],done,_,h=>by simpa using h
 |r::rs,done,he,h=>by
  unfold Da at he;by_cases h1:min r.1 r.2.1<0\/(n:Int)<=max r.1 r.2.1
  ·rw[if_pos h1]at he;cases he
  rw[if_neg h1]at he;by_cases h2:r.1=r.2.1
  ·rw[if_pos h2]at he;cases he
  rw[if_neg h2]at he;by_cases h3:r.2.2<1\/1073741824<r.2.2
  ·rw[if_pos h3]at he;cases he
  rw[if_neg h3]at he;by_cases h4:done.any (fun s=>Cj s r.1.toNat r.2.1.toNat)=true
  ·rw[if_pos h4]at he;cases he
  rw[if_neg h4]at he
  have:=S0 he ⟨fun s hs=> ?_, ?_⟩
  ·rwa[List.append_assoc]at this
  ·rcases List.mem_append.1 hs with hs|hs
   ·exact h.lt s hs
   ·obtain rfl:s=Bm r:=by simpa using hs
    show r.1.toNat<n/\r.2.1.toNat<n/\r.1.toNat≠r.2.1.toNat/\1<=r.2.2.toNat/\r.2.2.toNat<=1073741824;omega
  ·rw[List.pairwise_append];refine⟨h.one,by simp,fun a ha b hb=> ?_⟩
   obtain rfl:b=Bm r:=by simpa using hb
   cases hj:Cj a (Bm r).1 (Bm r).2.1 with
   |false=>rfl
   |true=>exact absurd (List.any_eq_true.2 ⟨a,ha,hj⟩) h4
def D0 (rs:List Bk)(i j:Nat):Option Nat:=if i=j then some 0 else wtN rs i j
def F8 (n:Nat)(rs:List Bk)(a b:Nat):Option Nat:=Ea (D0 rs) n a b
theorem Wu {n:Nat}{rs:List Bk}(h:Cv n rs)(a b:Nat):L7 (wtN rs) a b (F8 n rs a b):=by
 refine Ajp (Alj h) (fun i=>by simp[D0]) (fun i j d hd=> ?_) (fun i j l hl=> ?_) a b
 ·unfold D0 at hd;by_cases e:i=j
  ·rw[if_pos e]at hd;cases hd;subst e;exact .nil _
  ·rw[if_neg e]at hd;exact Way.one hd
 ·unfold D0;by_cases e:i=j
  ·rw[if_pos e];exact⟨0,rfl,Nat.zero_le _⟩
  ·rw[if_neg e];exact⟨l,hl,rr⟩
set_option maxRecDepth 100000
def L5 (n:Nat)(D:Nat->Option Nat):Nat:=((List.range n).filter fun v=>(D v).isNone).length
theorem Afw {n:Nat}{D:Nat->Option Nat}{x d:Nat}(hx:x<n)(h:D x=none):L5 n (Kb D x d)<L5 n D:=by
 unfold L5;refine Ky (p:=fun v=>(Kb D x d v).isNone) (q:=fun v=>(D v).isNone) (fun v hv=> ?_) (y:=x) (by simp[Du]) (by simp[h]) _ (List.mem_range.2 hx);by_cases e:v=x
 ·subst e;simp[h]
 ·rw[Dv _ _ e]at hv;exact hv
theorem Adr {n:Nat}{D:Nat->Option Nat}{x d:Nat}:L5 n (Kb D x d)<=L5 n D:=by
 unfold L5;refine Qr (p:=fun v=>(Kb D x d v).isNone) (q:=fun v=>(D v).isNone) (fun v hv=> ?_) _;by_cases e:v=x
 ·subst e;rw[Du]at hv;cases hv
 ·rw[Dv _ _ e]at hv;exact hv
theorem L6 {a:Nat}:∀{op:List Nat},a∈op->(op.filter fun x=> !decide (x=a)).length<op.length
 |y::ys,h=>by
  by_cases e:y=a
  ·subst e;rw[List.filter_cons_of_neg (by simp)]
   have:=List.length_filter_le (fun x=> !decide (x=y)) ys
   simp;omega
  ·rw[List.filter_cons_of_pos (by simp[e])]
   have h':a∈ys:=by
    rcases List.mem_cons.1 h with h|h
    ·exact absurd h.symm e
    ·exact h
   have:=L6 h'
   simp;omega
structure DB (n m:Nat)(D:Nat->Option Nat)(op:List Nat):Prop where
 out:∀v d,D v=some d->v<n
 inn:∀v∈op,v<n
 me:2*L5 n D+op.length<=m
 bd:∀v d,D v=some d->d+m*1073741824<=2*n*1073741824
theorem DB.begin {n a:Nat}(ha:a<n):DB n (2*n-1) (fun v=>if v=a then some 0 else none) [a] where
 out:=fun v d h=>by
  by_cases e:v=a
  ·subst e;exact ha
  ·simp[e]at h
 inn:=fun v hv=>by simp at hv;subst hv;exact ha
 me:=by
  have h1:L5 n (fun v=>if v=a then some 0 else none)<n:=by
   unfold L5
   have:=Ky (p:=fun v=>(if v=a then some 0 else none:Option Nat).isNone) (q:=fun _=>true) (fun _ _=>rfl) (y:=a) (by simp) rfl (List.range n) (List.mem_range.2 ha)
   rw[List.filter_eq_self.2 (fun _ _=>rfl),List.length_range]at this;exact this
  simp;omega
 bd:=fun v d h=>by
  by_cases e:v=a
  ·subst e;simp at h;subst h;rw[Nat.zero_add];exact Nat.mul_le_mul_right _ (Nat.sub_le (2*n) 1)
  ·simp[e]at h
theorem DB.pos {n m at_:Nat}{D:Nat->Option Nat}{op:List Nat}(h:DB n m D op)(ha:at_∈op):0<m:=by
 have h1:=List.length_pos_of_mem ha;have h2:=h.me;omega
theorem DB.del {n m at_ dAt:Nat}{D:Nat->Option Nat}{op:List Nat}(h:DB n (m+1) D op)(ha:at_∈op)(hd:D at_=some dAt):DB n m D (op.filter fun x=> !decide (x=at_))/\dAt+1073741824+m*1073741824<=2*n*1073741824:=by
 have a0:(op.filter fun x=> !decide (x=at_)).length<op.length:=by
  have:=L6 ha
  exact this
 refine⟨⟨h.out,fun v hv=>h.inn v (List.mem_filter.1 hv).1, ?_,fun v d hv=> ?_⟩, ?_⟩
 ·have:=h.me;omega
 ·have:=h.bd v d hv
  rw[Nat.add_mul m 1,Nat.one_mul]at this;generalize 1073741824=C at this ⊢;generalize 2*n*C=X at this ⊢;omega
 ·have:=h.bd at_ dAt hd
  rw[Nat.add_mul m 1,Nat.one_mul]at this;generalize 1073741824=C at this ⊢;generalize 2*n*C=X at this ⊢;omega
theorem DB.relax {n m dAt x l:Nat}{D:Nat->Option Nat}{op:List Nat}(h:DB n m D op)(hb:dAt+1073741824+m*1073741824<=2*n*1073741824)(hx:x<n)(hl:l<=1073741824):DB n m (Nl dAt x l (D,op)).1 (Nl dAt x l (D,op)).2:=by
 have a0:∀v d,Kb D x (dAt+l) v=some d->v<n:=fun v d hv=>by
  by_cases e:v=x
  ·subst e;exact hx
  ·rw[Dv _ _ e]at hv;exact h.out v d hv
 have a1:∀v d,Kb D x (dAt+l) v=some d->d+m*1073741824<=2*n*1073741824:=fun v d hv=>by
  by_cases e:v=x
  ·subst e;rw[Du]at hv;cases hv;omega
  ·rw[Dv _ _ e]at hv;exact h.bd v d hv
 unfold Nl;dsimp only
 cases hD:D x with
 |none=>
  refine⟨a0,fun v hv=> ?_, ?_,a1⟩
  ·rcases List.mem_append.1 hv with hv|hv
   ·exact h.inn v hv
   ·have:v=x:=by simpa using hv
    subst this;exact hx
  ·have h1:=Afw (d:=dAt+l) hx hD;have h2:=h.me;show 2*L5 n (Kb D x (dAt+l))+(op++[x]).length<=m;rw[List.length_append];simp only[List.length_cons,List.length_nil];omega
 |some dx=>
  dsimp only;split
  ·exact h
  ·refine⟨a0,h.inn, ?_,a1⟩;have h1:=Adr (n:=n) (D:=D) (x:=x) (d:=dAt+l);have h2:=h.me;show 2*L5 n (Kb D x (dAt+l))+op.length<=m;omega
end Go.Proofs.YtaglfmlgbcmakaaGreatDoor
namespace Go.Proofs.YtaglfmlgbcmakaaGreatDoor
def Bn:Option Nat->Int
 |none=> -1
 |some t=>t
end Go.Proofs.YtaglfmlgbcmakaaGreatDoor
namespace Go.Proofs.YtaglfmlgbcmakaaGreatDoor
open Go.RowKit Go.Shelf Go.Sort Go.Lib
def Eh (x y:Int):Int:=if x<y then-1 else if y<x then 1 else 0
theorem Qj (x:Int)(w:World):Calls Tryz.prog 118 #[.int .i64 x] w fun e w'=>e= .returned (.bool false)/\w'=w:=by
 go_enter Tryz.func118,Tryz.ntmps118;go_wp2;go_ret;simp
theorem Wv (x y:Int)(w:World):Calls Tryz.prog 79 #[.int .i64 x, .int .i64 y] w fun e w'=>e= .returned (.int .i64 (Eh x y))/\w'=w:=by
 go_enter Tryz.func79,Tryz.ntmps79;by_cases h1:x<y
 ·have h2:Eh x y= -1:=by unfold Eh;rw[if_pos h1]
  rw[h2];go_wp2_with(go_at_call 118;refine(Qj _ _).mono ?_;rintro e w1 ⟨rfl,rfl⟩);go_ret;exact⟨rfl,rfl⟩
 ·by_cases h2:y<x
  ·have h3:Eh x y=1:=by unfold Eh;rw[if_neg h1,if_pos h2]
   rw[h3];go_wp2_with(go_at_call 118;refine(Qj _ _).mono ?_;rintro e w1 ⟨rfl,rfl⟩);go_ret;exact⟨rfl,rfl⟩
  ·have h3:Eh x y=0:=by unfold Eh;rw[if_neg h1,if_neg h2]
   rw[h3];go_wp2_with(go_at_call 118;refine(Qj _ _).mono ?_;rintro e w1 ⟨rfl,rfl⟩);go_ret;exact⟨rfl,rfl⟩
def Ek (n:Nat)(f:Nat->Int):Array Value:=((List.range n).map fun v=>Value.int .i64 (f v)).toArray
theorem Acz {n v:Nat}(f:Nat->Int)(h:v<n):(Ek n f)[v]? =some (.int .i64 (f v)):=by
 unfold Ek;simp[h]
theorem Mf {n k:Nat}{f g:Nat->Int}{x:Int}(hk:g k=x)(h:∀v,v<n->v≠k->g v=f v):(Ek n f).setIfInBounds k (.int .i64 x)=Ek n g:=by
 unfold Ek;apply Array.ext
 ·simp
 ·intro i h1 h2;have hi:i<n:=by simpa using h2
  by_cases e:i=k
  ·subst e;simp[hk]
  ·simp[Ne.symm e,h i hi e]
theorem Hk {n v g:Nat}{f:Nat->Int}{t:TypeId}{w:World}(hg:w.heap[g]? =some (.cells (Ek n f) t (0,0)))(h:v<n):w.cell? ⟨g,v,none⟩=some (.int .i64 (f v)):=Ad hg (Acz f h)
theorem Mt (n:Nat):madeCells #[.int .i64 0] n=Ek n fun _=>0:=by
 unfold madeCells Ek;apply Array.ext
 ·simp
 ·intro i h1 h2;simp[Nat.mod_one]
abbrev Akj (n:Nat)(D:Nat->Option Nat):Array Value:=Ek n fun v=>Bn (D v)
theorem Ac0 {n v:Nat}(D:Nat->Option Nat)(h:v<n):(Akj n D)[v]? =some (.int .i64 (Bn (D v))):=Acz _ h
theorem S6:(Tryz.prog.info? 2).map (fun i=>(i.zero,i.size,i.bytes))=some (some (.int .i64 0),1,8):=by kernel_rfl
theorem Aht (n x y bx gd:Nat)(D:Nat->Option Nat)(hx:x<n)(hy:y<n)(w:World)(hbx:w.heap[bx]? =some (.cells #[.slice (some ⟨gd,0,none⟩) n n] 42 (0,0)))(hgd:w.heap[gd]? =some (.cells (Akj n D) 2 (0,0))):
  Calls Tryz.prog 106 #[.int .i64 (x:Int), .int .i64 (y:Int), .pointer (some ⟨bx,0,none⟩)] w fun e w'=>e= .returned (.int .i64 (Eh (Bn (D x)) (Bn (D y))))/\w'=w.drewN 1:=by
 have c0:w.cell? ⟨bx,0,none⟩=some (.slice (some ⟨gd,0,none⟩) n n):=by simp[World.cell?,hbx]
 have cx:w.cell? ⟨gd,x,none⟩=some (.int .i64 (Bn (D x))):=by simp[World.cell?,hgd,Ac0 D hx]
 have cy:w.cell? ⟨gd,y,none⟩=some (.int .i64 (Bn (D y))):=by simp[World.cell?,hgd,Ac0 D hy]
 have a0:(x:Int)<(n:Int):=by omega
 have a1:(y:Int)<(n:Int):=by omega
 clear hbx hgd hx hy;go_enter Tryz.func106,Tryz.ntmps106;go_wp2_with fail;refine Bg (fun W'=>W'.cell? ⟨bx,0,none⟩=some (.slice (some ⟨gd,0,none⟩) n n)/\W'.cell? ⟨gd,x,none⟩=some (.int .i64 (Bn (D x)))/\W'.cell? ⟨gd,y,none⟩=some (.int .i64 (Bn (D y)))) (by kernel_rfl) ⟨c0,cx,cy⟩ (fun hHeld=> ?_)
 (refine' Ae 0 rfl ?_;(try simp only[Act.put,nY,nX]));(refine' Ae 1 rfl ?_;(try simp only[Act.put,nY,nX]));(refine' Ae 2 rfl ?_;(try simp only[Act.put,nY,nX]));(refine' Ae 3 rfl ?_;(try simp only[Act.put,nY,nX]));(refine' Ae 4 rfl ?_;(try simp only[Act.put,nY,nX]));(refine' Ae 5 rfl ?_;(try simp only[Act.put,nY,nX]));(refine' Ae 6 rfl ?_;(try simp only[Act.put,nY,nX]));(refine' Ae 7 rfl ?_;(try simp only[Act.put,nY,nX]))
 (refine Anv 8 rfl (fun K' hK'=> ?_);simp only[nY];go_simp)
 refine(Wv (Bn (D x)) (Bn (D y)) _).mono ?_;rintro e w1 ⟨rfl,rfl⟩;refine hK' _ _ ⟨.inr hHeld,fun _=> ?_⟩
 clear hK' K'
 (try simp only[Act.put,nY,nX])
 (refine Anv 9 rfl (fun K' hK'=> ?_);simp only[nY];go_simp)
 refine hK' _ _ ⟨.inl (by kernel_rfl),fun _=>Bf (by kernel_rfl) ?_ _⟩
 clear hK' K';go_wp2;go_ret;exact⟨rfl,rfl⟩
theorem Zc {α:Type} [Inhabited α](f:α->Int)(d:Array α):∀i,(∃j,j<=i/\pickBy (fun x m=>decide (Eh (f x) (f m)<0)) d i=d[j]!)∧∀j,j<=i->f (pickBy (fun x m=>decide (Eh (f x) (f m)<0)) d i)<=f d[j]!
 |0=>by
  refine⟨⟨0,rr,rfl⟩,fun j hj=> ?_⟩
  have:j=0:=by omega
  subst this;exact Int.le_refl _
 |i+1=>by
  obtain⟨⟨j,hj,e⟩,h⟩:=Zc f d i;have a0:∀x y:Int,decide (Eh x y<0)=decide (x<y):=fun x y=>by unfold Eh;by_cases h1:x<y<;>by_cases h2:y<x<;>simp[h1,h2]
  unfold pickBy;by_cases hb:decide (Eh (f d[i+1]!) (f (pickBy (fun x m=>decide (Eh (f x) (f m)<0)) d i))<0)=true
  ·rw[if_pos hb];rw[a0,decide_eq_true_eq]at hb;refine⟨⟨i+1,rr,rfl⟩,fun k hk=> ?_⟩
   rcases Nat.lt_or_ge i k with a1|a1
   ·obtain rfl:k=i+1:=by omega
    exact Int.le_refl _
   ·have:=h k a1;omega
  ·rw[if_neg hb];rw[a0,decide_eq_true_eq]at hb;refine⟨⟨j,by omega,e⟩,fun k hk=> ?_⟩
   rcases Nat.lt_or_ge i k with a1|a1
   ·obtain rfl:k=i+1:=by omega
    omega
   ·exact h k a1
theorem Mg {α:Type} [Inhabited α]{enc:α->Value}(w:World)(g m:Nat)(d:Array α)(os:Array Obj):Ba (fun k=>k=g) w (sortWorld enc w g 0 m d os):=by
 unfold sortWorld putRow mapBlock Sort.grow Sort.ahead;refine⟨rfl,rfl,rfl,by simp,fun k hk hs=> ?_⟩
 simp only;rw[Array.getElem?_append_left (by simpa using hk),Array.getElem?_modify,if_neg (fun e=>hs e.symm)]
theorem Abk (w:World)(m:Nat)(os:Array Obj):Below w.heap.size w (grow (w.drewN m) os):=by
 refine⟨rfl,rfl,rfl,by simp[grow],fun k hk=> ?_⟩
 unfold grow;simp only;rw[Array.getElem?_append_left (by simpa using hk)];rfl
theorem Pj {α:Type} [Inhabited α]{enc:α->Value}{w:World}{g:Nat}{d:Array α}{cur:Array Value}{t:TypeId}(hg:w.heap[g]? =some (.cells cur t (0,0)))(h:∀(j:Nat) (x:α),d[j]? =some x->cur[j]? =some (enc x)):Holds enc w g 0 d:=by
 intro j hj;have hx:d[j]? =some d[j]! :=by rw[getElem!_pos d j hj];exact Array.getElem?_eq_getElem hj
 refine⟨?_, ?_⟩
 ·simp[World.cell?,hg,h j _ hx]
 ·simp[World.frozen?,hg]
theorem Anf (n:Nat)(D:Nat->Option Nat)(op:List Nat)(g gd bx cap:Nat)(w:World)(cur:Array Value)(hg:w.heap[g]? =some (.cells cur 3 (0,0)))(hc:∀(j x:Nat),op[j]? =some x->cur[j]? =some (.int .i64 (x:Int)))
  (hin:∀x∈op,x<n) (h0:0<op.length) (hl:op.length<=4000) (hbx:w.heap[bx]? =some (.cells #[.slice (some ⟨gd,0,none⟩) n n] 42 (0,0))) (hgd:w.heap[gd]? =some (.cells (Akj n D) 2 (0,0))) (h1:bx≠g) (h2:gd≠g):
  Calls Tryz.prog 107 #[.slice (some ⟨g,0,none⟩) op.length cap, .func (.func 106) #[] #[.pointer (some ⟨bx,0,none⟩)]] w fun e w'=>
   ∃x:Nat,e= .returned (.int .i64 (x:Int))/\x∈op/\(∀v∈op,Bn (D x)<=Bn (D v))/\Below w.heap.size w w':=by
 haveI:Inhabited {x:Nat//x<n}:=⟨⟨op[0],hin _ (List.getElem_mem h0)⟩⟩
 obtain⟨d,hd⟩:∃d:Array {x:Nat//x<n},d.toList.map (·.1)=op:=
  ⟨(op.attach.map fun p=>⟨p.1,hin p.1 p.2⟩).toArray,by simp only[List.map_map,Function.comp_def];exact List.attach_map_subtype_val op⟩
 have a5:d.size=op.length:=by rw[←hd];simp
 have a3:∀j (x:{x:Nat//x<n}),d[j]? =some x->op[j]? =some x.1:=fun j x hx=>by
  rw[←hd,List.getElem?_map,Array.getElem?_toList,hx];rfl
 have a1:=Any.slices_MinFunc Tryz.minI (fun x:{x:Nat//x<n}=>Value.int .i64 (x.1:Int)) (fun _=>rfl) (fun x y=>Eh (Bn (D x.1)) (Bn (D y.1))) 106 #[.pointer (some ⟨bx,0,none⟩)] g 0 cap d w
  (enters_of Tryz.func106 (by kernel_rfl) rfl) (fun m os dk _ x y=> ?hcmp) (Pj hg fun j x hx=>hc j _ (a3 j x hx)) (lt_of_block hg) (by omega) (by omega)
 case hcmp=>
  have hK:=Mg (enc:=fun x:{x:Nat//x<n}=>Value.int .i64 (x.1:Int)) w g m dk os;refine(Aht n x.1 y.1 bx gd D x.2 y.2 _ ((hK.block bx (lt_of_block hbx) h1).trans hbx) ((hK.block gd (lt_of_block hgd) h2).trans hgd)).mono ?_;rintro e w' ⟨e1,e2⟩;exact⟨e1,1, #[],by rw[e2,grow_empty]⟩
 rw[a5]at a1;refine Calls.mono a1 ?_;rintro e w' ⟨rfl,m,os,rfl⟩;obtain⟨⟨j,hj,hp⟩,a2⟩:=Zc (fun x:{x:Nat//x<n}=>Bn (D x.1)) d (op.length-1);have a6:j<d.size:=by omega
 refine⟨_,rfl, ?_,fun v hv=> ?_, ?_⟩
 ·rw[hp,←hd,getElem!_pos d j a6];exact List.mem_map.2 ⟨_,by simp,rfl⟩
 ·rw[←hd]at hv;obtain⟨y,hy,rfl⟩:=List.mem_map.1 hv;obtain⟨k,hk,rfl⟩:=List.getElem_of_mem hy;have a4:k<d.size:=by simpa using hk
  have:=a2 k (by omega)
  rw[getElem!_pos d k a4]at this;simpa using this
 ·have a0:putRow (fun x:{x:Nat//x<n}=>Value.int .i64 (x.1:Int)) (Sort.ahead w m) g 0 d=Sort.ahead w m:=putRow_self _ _ _ _ d (holds_ahead _ w m g 0 d (Pj hg fun j x hx=>hc j _ (a3 j x hx)));unfold sortWorld;rw[a0];exact Abk w m os
theorem Ahu (x at_ ba:Nat)(w:World)(hba:w.heap[ba]? =some (.cells #[.int .i64 (at_:Int)] 3 (0,0))):
  Calls Tryz.prog 109 #[.int .i64 (x:Int), .pointer (some ⟨ba,0,none⟩)] w fun e w'=>e= .returned (.bool (decide (x=at_)))/\w'=w:=by
 have c0:w.cell? ⟨ba,0,none⟩=some (.int .i64 (at_:Int)):=by simp[World.cell?,hba]
 clear hba;go_enter Tryz.func109,Tryz.ntmps109;go_wp2;go_ret;refine⟨?_,rfl⟩;congr 2;by_cases h:x=at_
 ·subst h;simp
 ·have h':¬(x:Int)=(at_:Int):=by omega
  simp[h,h']
def Fi (w:World)(base g cap:Nat)(op:List Nat):Prop:=w.ownsRow base 3 1 (.slice (some ⟨g,0,none⟩) op.length cap) op.length (op.map fun(x:Nat)=>Value.int .i64 (x:Int))
theorem Fi.block {w:World}{base g cap:Nat}{op:List Nat}(h:Fi w base g cap op):base<=g/\op.length<=cap/\cap<=maxLen∧∃cur:Array Value,w.heap[g]? =some (.cells cur 3 (0,0))/\cur.size=cap/\cur.toList.take op.length=op.map (fun(x:Nat)=>Value.int .i64 (x:Int)):=by
 rcases h.2 with⟨hv,_⟩|⟨g',cap',cur,hv,hb,hg,a1,a0,a2,ht⟩
 ·cases hv
 ·injection hv with hA _ hc
  injection hA with hA
  injection hA with hA
  subst hA hc;exact⟨hb,a1,a0,cur,hg,by omega,by rw[Nat.mul_one]at ht;exact ht⟩
theorem Fi.heap {w w':World}{base g cap:Nat}{op:List Nat}(h:Fi w base g cap op)(hg:w'.heap[g]? =w.heap[g]?):Fi w' base g cap op:=by
 refine⟨h.1, ?_⟩;rcases h.2 with hn|⟨g',cap',cur,hv,h1,a0,rest⟩
 ·exact Or.inl hn
 ·have e:g'=g:=by injection hv with hA;injection hA with hA;injection hA with hA;exact hA.symm
  subst e;exact Or.inr ⟨g',cap',cur,hv,h1,hg.trans a0,rest⟩
theorem Fi.below {w w':World}{base g cap:Nat}{op:List Nat}(h:Fi w base g cap op)(hb:Below w.heap.size w w'):Fi w' base g cap op:=by
 obtain⟨_,_,_,cur,hg,_⟩:=h.block;exact h.heap (hb.block g (lt_of_block hg))
theorem Pk {cur:Array Value}{op:List Nat}(h:cur.toList.take op.length=op.map fun(x:Nat)=>Value.int .i64 (x:Int))(j x:Nat)(hx:op[j]? =some x):cur[j]? =some (.int .i64 (x:Int)):=by
 have hj:=(List.getElem?_eq_some_iff.1 hx).1;have h1:=congrArg (fun l:List Value=>l[j]?) h;simp only[List.getElem?_take,if_pos hj,List.getElem?_map,hx,Option.map_some]at h1;simpa using h1
theorem Ang (op:List Nat)(at_ base g ba cap:Nat)(w:World)(hO:Fi w base g cap op)(hba:w.heap[ba]? =some (.cells #[.int .i64 (at_:Int)] 3 (0,0)))(h1:ba≠g):
  Calls Tryz.prog 108 #[.slice (some ⟨g,0,none⟩) op.length cap, .func (.func 109) #[] #[.pointer (some ⟨ba,0,none⟩)]] w fun e w'=>
   e= .returned (.slice (some ⟨g,0,none⟩) (op.filter fun x=> !decide (x=at_)).length cap)/\Fi w' base g cap (op.filter fun x=> !decide (x=at_))/\Ba (fun k=>k=g) w w':=by
 obtain⟨hb,a4,a2,cur,hg,a7,ht⟩:=hO.block;have a6:cap<=9223372036854775807:=a2;have hH:Holds (fun x:Nat=>Value.int .i64 (x:Int)) w g 0 op.toArray:=Pj hg fun j x hx=>Pk ht j x (by simpa using hx)
 have a0:=lt_of_block hba
 have a1:=AnyE.slices_DeleteFunc Tryz.delI (fun x:Nat=>Value.int .i64 (x:Int)) (fun _=>rfl) (fun x=>decide (x=at_)) 109 #[.pointer (some ⟨ba,0,none⟩)] (enters_of Tryz.func109 (by kernel_rfl) rfl) 0 Tryz.zeroValue3 g 0 cap op.toArray w
  (fun W x hb'=> ?hp) (fun m os dk x _=> ?hpo) hH (by simp;omega) (by simpa using a4)
 case hp=>
  refine(Ahu x at_ ba W ((hb'.block ba a0).trans hba)).mono ?_;rintro e w' ⟨e1,e2⟩;exact⟨e1,0,e2⟩
 case hpo=>
  have hK:=Mg (enc:=fun x:Nat=>Value.int .i64 (x:Int)) w g m dk os;refine(Ahu x at_ ba _ ((hK.block ba a0 h1).trans hba)).mono ?_;rintro e w' ⟨e1,e2⟩;exact⟨e1,0,e2⟩
 rw[show op.toArray.toList=op from rfl,show op.toArray.size=op.length from by simp]at a1;refine Calls.mono a1 ?_;obtain⟨r,hr⟩:∃r,r=op.filter fun x=> !decide (x=at_):=⟨_,rfl⟩
 rw[←hr];have a5:r.length<=op.length:=by rw[hr];exact List.length_filter_le _ _
 rintro e w' ⟨rfl,q,rfl⟩
 have hK:Ba (fun k=>k=g) w (putRow (fun x:Nat=>Value.int .i64 (x:Int)) (Sort.ahead w q) g 0 (r++List.replicate (op.length-r.length) 0).toArray):=by
  have hK:=Mg (enc:=fun x:Nat=>Value.int .i64 (x:Int)) w g q (r++List.replicate (op.length-r.length) 0).toArray #[];unfold sortWorld at hK;rwa[grow_empty]at hK
 refine⟨rfl, ?_,hK⟩;refine⟨by simp,Or.inr ⟨g,cap,putCells (fun x:Nat=>Value.int .i64 (x:Int)) 0 (r++List.replicate (op.length-r.length) 0).toArray cur,rfl,hb, ?_,by omega,a2,by unfold putCells;simp;omega, ?_⟩⟩
 ·have hl:=lt_of_block hg;unfold putRow mapBlock Sort.ahead;simp only;rw[Array.getElem?_modify,if_pos rfl,hg];rfl
 ·rw[Nat.mul_one];apply List.ext_getElem?;intro j;rw[List.getElem?_take,List.getElem?_map];by_cases hj:j<r.length
  ·rw[if_pos hj,List.getElem?_eq_getElem hj];have a3:j<cur.size:=by omega
   unfold putCells;rw[Array.getElem?_toList,Array.getElem?_mapIdx,Array.getElem?_eq_getElem a3,Option.map_some,if_pos ⟨Nat.zero_le _,by simp;omega⟩,Nat.sub_zero,getElem!_pos _ j (by simp;omega)];simp[List.getElem_append_left hj]
  ·rw[if_neg hj,List.getElem?_eq_none (by omega)];rfl
end Go.Proofs.YtaglfmlgbcmakaaGreatDoor
namespace Go.Proofs.YtaglfmlgbcmakaaGreatDoor
open Go.RowKit
def Ma (r:Ep):List Value:=[.int .i64 r.1, .int .i64 r.2.1, .int .i64 r.2.2]
theorem Vf (r:Ep):(Ma r).length=3:=rfl
def Jr (r:Bk):Ep:=((r.1:Int),(r.2.1:Int),(r.2.2:Int))
def D7 (w:World)(A:Option Addr)(n c:Nat)(rs:List Ep):Prop:=Eb Ma 3 w A n c rs
def Lz (p:Nat×Nat):List Value:=[.int .i64 (p.1:Int), .int .i64 (p.2:Int)]
theorem Mb (p:Nat×Nat):(Lz p).length=2:=rfl
def Gj (w:World)(A:Option Addr)(n c:Nat)(es:List (Nat×Nat)):Prop:=Eb Lz 2 w A n c es
abbrev Aa7:=Option Addr×Nat×Nat×List (Nat×Nat)
def Aa7.val (p:Aa7):Value:= .slice p.1 p.2.1 p.2.2.1
def Hi (w:World)(A:Option Addr)(n c:Nat)(ss:List ByteArray):Prop:=Az w A n c 1 (ss.map Value.string)
theorem Hi.below {w w':World}{A:Option Addr}{n c:Nat}{ss:List ByteArray}(h:Hi w A n c ss){B:Nat}(hb:Below B w w')(hB:w.heap.size<=B):Hi w' A n c ss:=Az.below h hb hB
theorem Hi.len {w:World}{A:Option Addr}{n c:Nat}{ss:List ByteArray}(h:Hi w A n c ss):ss.length=n:=by have:=h.1;simpa using this
structure Aj8 (w:World)(b n:Nat)(rs:List Bk)(An:Option Addr)(cn mb:Nat)(Ar:Option Addr)(cr:Nat)(Aq:Option Addr)(cq:Nat)(vs:List Aa7):Prop where
 blk:w.heap[b]? =some (.cells #[.slice An n cn, .map (some mb), .slice Ar rs.length cr, .slice Aq n cq] 99 (0,0))
 roads:D7 w Ar rs.length cr (rs.map Jr)
 near:Az w Aq n cq 1 (vs.map Aa7.val)
 ends:∀(v:Nat) (p:Aa7),vs[v]? =some p->Gj w p.1 p.2.1 p.2.2.1 p.2.2.2/\p.2.2.2.Perm (Dm rs v)
 ok:Cv n rs
 few:n<=128
 fewR:rs.length<=512
def Dr (w:World)(b n:Nat)(rs:List Bk):Prop:=∃An cn mb Ar cr Aq cq vs,Aj8 w b n rs An cn mb Ar cr Aq cq vs
section
variable {w w':World}{b n:Nat}{rs:List Bk}
theorem Aj8.below {An:Option Addr}{cn mb:Nat}{Ar:Option Addr}{cr:Nat}{Aq:Option Addr}{cq:Nat}{vs:List Aa7}(h:Aj8 w b n rs An cn mb Ar cr Aq cq vs)(hb:Below w.heap.size w w'):Aj8 w' b n rs An cn mb Ar cr Aq cq vs:=
 ⟨(hb.block b (lt_of_block h.blk)).trans h.blk,h.roads.below hb rr,h.near.below hb rr,fun v p hp=>⟨(h.ends v p hp).1.below hb rr,(h.ends v p hp).2⟩,h.ok,h.few,h.fewR⟩
theorem Dr.below (h:Dr w b n rs)(hb:Below w.heap.size w w'):Dr w' b n rs:=by
 obtain⟨An,cn,mb,Ar,cr,Aq,cq,vs,h⟩:=h;exact⟨An,cn,mb,Ar,cr,Aq,cq,vs,h.below hb⟩
theorem Dr.few (h:Dr w b n rs):n<=128:=by obtain⟨An,cn,mb,Ar,cr,Aq,cq,vs,h⟩:=h;exact h.few
theorem Dr.fewR (h:Dr w b n rs):rs.length<=512:=by obtain⟨An,cn,mb,Ar,cr,Aq,cq,vs,h⟩:=h;exact h.fewR
theorem Dr.ok (h:Dr w b n rs):Cv n rs:=by obtain⟨An,cn,mb,Ar,cr,Aq,cq,vs,h⟩:=h;exact h.ok
theorem Dr.lt (h:Dr w b n rs):b<w.heap.size:=by obtain⟨An,cn,mb,Ar,cr,Aq,cq,vs,h⟩:=h;exact lt_of_block h.blk
theorem Dr.cells (h:Dr w b n rs):∃An cn mb Ar cr Aq cq,w.cell? ⟨b,0,none⟩=some (.slice An n cn)/\w.cell? ⟨b,1,none⟩=some (.map (some mb))/\w.cell? ⟨b,2,none⟩=some (.slice Ar rs.length cr)/\w.cell? ⟨b,3,none⟩=some (.slice Aq n cq):=by
 obtain⟨An,cn,mb,Ar,cr,Aq,cq,vs,h⟩:=h;exact⟨An,cn,mb,Ar,cr,Aq,cq,Ad h.blk rfl,Ad h.blk rfl,Ad h.blk rfl,Ad h.blk rfl⟩
theorem Dr.nearAt (h:Dr w b n rs){v:Nat}(hv:v<n):∃qb qo cq A m c es,w.cell? ⟨b,3,none⟩=some (.slice (some ⟨qb,qo,none⟩) n cq)/\qb<w.heap.size/\w.cell? ⟨qb,qo+v,none⟩=some (.slice A m c)/\Gj w A m c es/\es.Perm (Dm rs v):=by
 obtain⟨An,cn,mb,Ar,cr,Aq,cq,vs,h⟩:=h;obtain⟨qb,qo,rfl,a1,hc⟩:=h.near.2.2.2.2 (by omega);have hl:vs.length=n:=by have:=h.near.1;simpa using this
 have a0:vs[v]? =some (vs[v]'(by omega)):=List.getElem?_eq_getElem _;obtain⟨h1,h2⟩:=h.ends v _ a0;exact⟨qb,qo,cq,_,_,_,_,Ad h.blk rfl,a1,hc v _ (by rw[List.getElem?_map,a0];rfl),h1,h2⟩
end
theorem Gj.len {w:World}{A:Option Addr}{n c:Nat}{es:List (Nat×Nat)}(h:Gj w A n c es):es.length=n:=h.2
theorem Gj.max {w:World}{A:Option Addr}{n c:Nat}{es:List (Nat×Nat)}(h:Gj w A n c es):n<=c/\c<=9223372036854775807:=by have h1:=h.1.2.1;have h2:=h.1.2.2.1;unfold maxLen at h2;omega
theorem Gj.at_ {w:World}{A:Option Addr}{n c:Nat}{es:List (Nat×Nat)}(h:Gj w A n c es){k:Nat}(hk:k<n):
  ∃b off x l,A=some ⟨b,off,none⟩/\b<w.heap.size/\es[k]? =some (x,l)/\w.cell? ⟨b,off+k*2,none⟩=some (.int .i64 (x:Int))/\w.cell? ⟨b,off+k*2+1,none⟩=some (.int .i64 (l:Int)):=by
 have hx:es[k]? =some (es[k]'(by rw[h.2];exact hk)):=List.getElem?_eq_getElem _;obtain⟨b,off,hA,hb,hc⟩:=Eb.at_ h Mb (by decide) hx;simp only[Nat.add_assoc]at hc ⊢;exact⟨b,off,_,_,hA,hb,hx,hc 0 _ rfl,hc 1 _ rfl⟩
end Go.Proofs.YtaglfmlgbcmakaaGreatDoor
