/-
  slices.SortFunc over words, as inverse.Image calls it.
  slices.CompactFunc over words, as inverse.Image calls it.
  inverse.Image.
  A word that does not lie in a row of one's own.
  Pairs of words, in a slice of one's own.
  A text for each word, different ones for different words; a map from texts to places, in plain words.
  What is kept while inverse.Lost collects words and pairs.
  strings.Builder at this program: tables of numbers, and facts of the program (written by the kit's lay-plain).
-/
import Derived.Lib.SliceRun
import Derived.Maps.Views
import Derived.Maps.OwnSet
import Derived.Shelf.Strings.BuilderK
import Derived.Test.YtlgliddhideflaaGreatDoorH04
import Derived.Test.YtlgliddhideflaaGreatDoorG28
set_option linter.all false
set_option maxRecDepth 100000
set_option maxHeartbeats 4000000
namespace Go.Proofs.YtlgliddhideflaaGreatDoor
open Go.RowKit Go.Shelf Go.Sort
-- the order of words
theorem Ahf {x y:Snd}(h:Js x y=0):x=y:=by
 obtain⟨x1,x2⟩:=x;obtain⟨y1,y2⟩:=y;unfold Js orI F6 at h;by_cases h1:x1<y1
 ·simp[h1]at h
 ·by_cases h2:y1<x1
  ·simp[h1,h2]at h
  ·obtain rfl:x1=y1:=by omega
   by_cases h3:x2<y2
   ·simp[h3]at h
   ·by_cases h4:y2<x2
    ·simp[h3,h4]at h
    ·obtain rfl:x2=y2:=by omega
     rfl
theorem Aff:∀a b:List Snd,decide (Lw a b<0)=Dc a b
 |[],[]=>rfl
 |[],_::_=>rfl
 |_::_,[]=>rfl
 |x::a,y::b=>by
  have h:=Aev x y;by_cases e:x=y
  ·subst e;have h0:Js x x=0:=by simp[Js,orI,F6]
   have hv:Lw (x::a) (x::b)=Lw a b:=by
    show(if Js x x≠0 then Js x x else Lw a b)=_;rw[if_neg (by simp[h0])]
   have hw:Dc (x::a) (x::b)=Dc a b:=by
    show(if x=x then Dc a b else Cw x x)=_;rw[if_pos rfl]
   rw[hw,←Aff a b];simp only[hv]
  ·have h0:Js x y≠0:=fun h0=>e (Ahf h0)
   have hv:Lw (x::a) (y::b)=Js x y:=by
    show(if Js x y≠0 then Js x y else Lw a b)=_;rw[if_pos h0]
   have hw:Dc (x::a) (y::b)=Cw x y:=by
    show(if x=y then Dc a b else Cw x y)=_;rw[if_neg e]
   rw[hw,←h];simp only[hv]
theorem Nq (a b:List Snd):ltOf Wy a b=Cm a b:=by
 show decide (Wy a b<0)=_;unfold Wy orI F6 Cm;by_cases h1:a.length<b.length
 ·simp[h1]
 ·by_cases h2:b.length<a.length
  ·simp[h1,h2];omega
  ·have h3:a.length=b.length:=by omega
   have:=Aff a b
   simp[h3,this]
theorem Wq:SWO (ltOf Wy) where
 irrefl x:=by rw[Nq];exact Fz.irr x
 trans x y z h1 h2:=by rw[Nq]at*;exact Fz.tr x y z h1 h2
 ntrans x y z h1 h2:=by
  rw[Nq]at*
  cases h:Cm x z with
  |false=>rfl
  |true=>
   cases h3:Cm y x with
   |false=>have:=Fz.tot x y h1 h3;subst this;rw[h]at h2;cases h2
   |true=>have:=Fz.tr y x z h3 h;rw[this]at h2;cases h2
-- the world of the sort
theorem Anx {α:Type} [Inhabited α]{enc:α->Value}{w:World}{g m:Nat}{d:Array α}{os:Array Obj}{cur:Array Value}{t:TypeId}{fz:Nat×Nat}(h:w.heap[g]? =some (.cells cur t fz)):
  (sortWorld enc w g 0 m d os).heap[g]? =some (.cells (putCells enc 0 d cur) t fz):=by
 have hl:g<w.heap.size:=(Array.getElem?_eq_some_iff.1 h).1;unfold sortWorld putRow mapBlock Sort.grow Sort.ahead;simp only;rw[Array.getElem?_append_left (by simpa using hl),Array.getElem?_modify,if_pos rfl,h];rfl
theorem Yx {α:Type} [Inhabited α]{enc:α->Value}(w:World)(g m:Nat)(d:Array α)(os:Array Obj):Aj (fun k=>k=g) w (sortWorld enc w g 0 m d os):=by
 unfold sortWorld putRow mapBlock Sort.grow Sort.ahead;refine⟨rfl,rfl,rfl,by simp,fun k hk hs=> ?_⟩
 simp only;rw[Array.getElem?_append_left (by simpa using hk),Array.getElem?_modify,if_neg (fun e=>hs e.symm)]
theorem Al8 {α:Type} [Inhabited α]{enc:α->Value}{d:Array α}{cur:Array Value}{j:Nat}{x:α}(hx:d[j]? =some x)(hc:j<cur.size):(putCells enc 0 d cur)[j]? =some (enc x):=by
 have hj:j<d.size:=(Array.getElem?_eq_some_iff.1 hx).1;unfold putCells;rw[Array.getElem?_mapIdx,Array.getElem?_eq_getElem hc,Option.map_some,if_pos ⟨Nat.zero_le _,by omega⟩,Nat.sub_zero,getElem!_pos d j hj];rw[(Array.getElem?_eq_some_iff.1 hx).2]
instance goodPart (w:World) (g:Nat):Inhabited {p:Part//Ad w p.1 p.2.1 p.2.2.1 p.2.2.2/\(0<p.2.1→∀ad,p.1=some ad->ad.block≠g)}:=⟨⟨(none,0,0,[]),Bd.nil _ _,fun h=>absurd h (by decide)⟩⟩
theorem Ahg (g cap:Nat)(ps:List Part)(w:World)(cur:Array Value)(hg:w.heap[g]? =some (.cells cur 32 (0,0)))(hc:∀(j:Nat) (p:Part),ps[j]? =some p->cur[j]? =some p.val)
  (hp:∀p∈ps,Ad w p.1 p.2.1 p.2.2.1 p.2.2.2/\(0<p.2.1→∀ad,p.1=some ad->ad.block≠g)) (hn:ps.length<=4000):
  Calls Tryz.prog 114 #[.slice (some ⟨g,0,none⟩) ps.length cap, .func (.func 115) #[] #[]] w fun e w'=>e= .returned (.tuple #[])/\Aj (fun k=>k=g) w w'∧∃(ps':List Part) (cur':Array Value),
   ps'.Perm ps/\(ps'.map Part.word).Pairwise (fun a b=>Cm b a=false)/\w'.heap[g]? =some (.cells cur' 32 (0,0))/\cur'.size=cur.size∧∀(j:Nat) (p:Part),ps'[j]? =some p->cur'[j]? =some p.val:=by
 obtain⟨d,hd⟩:∃d:Array {p:Part//Ad w p.1 p.2.1 p.2.2.1 p.2.2.2/\(0<p.2.1→∀ad,p.1=some ad->ad.block≠g)},d.toList.map (·.1)=ps:=
  ⟨(ps.attach.map fun p=>⟨p.1,hp p.1 p.2⟩).toArray,by simp only[List.map_map,Function.comp_def];exact List.attach_map_subtype_val ps⟩
 have a2:d.size=ps.length:=by rw[←hd];simp
 have a5:=lt_of_block hg
 have a9:∀j (x:{p:Part//Ad w p.1 p.2.1 p.2.2.1 p.2.2.2/\(0<p.2.1→∀ad,p.1=some ad->ad.block≠g)}),d[j]? =some x->ps[j]? =some x.1:=fun j x hx=>by
  rw[←hd,List.getElem?_map,Array.getElem?_toList,hx];rfl
 have hH:Holds (fun x:{p:Part//Ad w p.1 p.2.1 p.2.2.1 p.2.2.2/\(0<p.2.1→∀ad,p.1=some ad->ad.block≠g)}=>x.1.val) w g 0 d:=by
  intro j hj;have hx:d[j]? =some d[j]! :=by rw[getElem!_pos d j hj];exact Array.getElem?_eq_getElem hj
  have h1:=hc j _ (a9 j _ hx);refine⟨?_, ?_⟩
  ·simp[World.cell?,hg,h1]
  ·simp[World.frozen?,hg]
 have a0:=Any.slices_SortFunc Tryz.sortWord (fun x:{p:Part//Ad w p.1 p.2.1 p.2.2.1 p.2.2.2/\(0<p.2.1→∀ad,p.1=some ad->ad.block≠g)}=>x.1.val) (fun x=>rfl) (fun x y=>Wy x.1.word y.1.word)
  ⟨fun x=>Wq.irrefl x.1.word,fun x y z=>Wq.trans x.1.word y.1.word z.1.word,fun x y z=>Wq.ntrans x.1.word y.1.word z.1.word⟩ 115 #[] g 0 cap d w
  (enters_of Tryz.func115 (by kernel_rfl) rfl) (fun m os dk _ x y=> ?hcmp) hH a5 (by omega)
 case hcmp=>
  have hK:=Yx (enc:=fun x:{p:Part//Ad w p.1 p.2.1 p.2.2.1 p.2.2.2/\(0<p.2.1→∀ad,p.1=some ad->ad.block≠g)}=>x.1.val) w g m dk os;refine(Ak0 x.1.1 x.1.2.1 x.1.2.2.1 x.1.2.2.2 y.1.1 y.1.2.1 y.1.2.2.1 y.1.2.2.2 _ (x.2.1.keep hK x.2.2) (y.2.1.keep hK y.2.2)).mono ?_;rintro e w' ⟨h1,h2⟩;exact⟨h1,h2.eq⟩
 rw[a2]at a0;refine Calls.mono a0 ?_;rintro e w' ⟨rfl,d',n,os,a3,a4,rfl⟩;have a1:d'.size=ps.length:=a3.1.trans a2;refine⟨rfl,Yx _ _ _ _ _,d'.toList.map (·.1),putCells _ 0 d' cur, ?_, ?_,Anx hg,by unfold putCells;simp,fun j p hj=> ?_⟩
 ·have h3:=a3.2.2;rw[←a2]at h3;rw[Array.extract_eq_self_of_le (by omega),Array.extract_eq_self_of_le (by omega)]at h3;rw[←hd];exact h3.map _
 ·rw[List.map_map,List.pairwise_map,List.pairwise_iff_getElem];intro i j hi hj b0;have a7:i<d'.size:=by simpa using hi
  have a6:j<d'.size:=by simpa using hj
  have h4:=a4 i j (Nat.zero_le _) b0 (by omega);rw[getElem!_pos d' j a6,getElem!_pos d' i a7]at h4;have h5:ltOf Wy d'[j].1.word d'[i].1.word=false:=h4;rw[Nq]at h5;simpa using h5
 ·rw[List.getElem?_map,Array.getElem?_toList]at hj;obtain⟨x,hx,rfl⟩:=Option.map_eq_some_iff.1 hj;have a8:j<ps.length:=by rw[←a1];exact(Array.getElem?_eq_some_iff.1 hx).1
  have b1:j<cur.size:=(Array.getElem?_eq_some_iff.1 (hc j _ (List.getElem?_eq_getElem a8))).1;exact Al8 hx b1
end Go.Proofs.YtlgliddhideflaaGreatDoor
namespace Go.Proofs.YtlgliddhideflaaGreatDoor
open Go.RowKit Go.Shelf
theorem L2 {α:Type} [DecidableEq α]:∀(l:List α) (x y:α),B2 (l++[x,y])=if x=y then B2 (l++[x])else B2 (l++[x])++[y]
 |[],x,y=>by
  by_cases h:x=y
  ·subst h;simp[B2]
  ·simp[B2,h]
 |[a],x,y=>by
  have ih:=L2 [] x y;simp only[List.nil_append]at ih;by_cases h:a=x
  ·subst h;by_cases h2:a=y
   ·subst h2;simp[B2]
   ·simp[B2,h2]
  ·by_cases h2:x=y
   ·subst h2;simp[B2,h]
   ·simp[B2,h,h2]
 |a::b::l,x,y=>by
  have ih:=L2 (b::l) x y;show(if a=b then B2 (b::(l++[x,y]))else a::B2 (b::(l++[x,y])))=if x=y then(if a=b then B2 (b::(l++[x]))else a::B2 (b::(l++[x])))else(if a=b then B2 (b::(l++[x]))else a::B2 (b::(l++[x])))++[y]
  rw[List.cons_append,List.cons_append]at ih;rw[ih];by_cases h:a=b<;>by_cases h2:x=y<;>simp[h,h2]
theorem Ru {α:Type} [DecidableEq α]{W:List α}{k:Nat}{x y:α}(hk:1<=k)(hx:W[k-1]? =some x)(hy:W[k]? =some y):B2 (W.take (k+1))=if x=y then B2 (W.take k)else B2 (W.take k)++[y]:=by
 have e1:W.take k=W.take (k-1)++[x]:=by
  have:=Bb W (k-1) x hx
  rwa[show k-1+1=k by omega]at this
 rw[Bb W k y hy,e1,List.append_assoc];exact L2 _ x y
theorem Aar {α:Type} [DecidableEq α](W:List α):B2 (W.take 1)=W.take 1:=by
 cases W with
 |nil=>rfl
 |cons a W=>rfl
structure CpR (g:Nat)(ps:List Part)(w:World)(m:Nat)(C:List Part)(W:World):Prop where
 kp:Aj (fun k=>k=g) w W
 le:C.length<=m
 wd:C.map Part.word=B2 ((ps.map Part.word).take m)
 mem:∀p∈C,p∈ps
 row:∃cur:Array Value,W.heap[g]? =some (.cells cur 32 (0,0))∧∀(j:Nat) (p:Part),(C++ps.drop C.length)[j]? =some p->cur[j]? =some p.val
namespace CpR
variable {g:Nat}{ps:List Part}{w W:World}{m:Nat}{C:List Part}
theorem cell (h:CpR g ps w m C W){j:Nat}{p:Part}(hj:C.length<=j)(hp:ps[j]? =some p):W.cell? ⟨g,j,none⟩=some p.val:=by
 obtain⟨cur,h1,h2⟩:=h.row;have h3:=h2 j p (by rw[List.getElem?_append_right hj,List.getElem?_drop];rw[←hp];congr 1;omega);simp[World.cell?,h1,h3]
theorem free (h:CpR g ps w m C W)(j:Nat):W.frozen? ⟨g,j,none⟩=false:=by
 obtain⟨cur,h1,h2⟩:=h.row;simp[World.frozen?,h1]
theorem skip (h:CpR g ps w m C W){x y:Part}(hm:1<=m)(hx:ps[m-1]? =some x)(hy:ps[m]? =some y)(e:y.word=x.word):CpR g ps w (m+1) C W:=by
 refine⟨h.kp,Nat.le_succ_of_le h.le, ?_,h.mem,h.row⟩;rw[h.wd,Ru hm (x:=x.word) (y:=y.word) (by rw[List.getElem?_map,hx];rfl) (by rw[List.getElem?_map,hy];rfl),if_pos e.symm]
theorem put (h:CpR g ps w m C W){x y:Part}(hm:1<=m)(hx:ps[m-1]? =some x)(hy:ps[m]? =some y)(e:¬y.word=x.word):CpR g ps w (m+1) (C++[y]) (W.setCell ⟨g,C.length,none⟩ y.val):=by
 obtain⟨cur,h1,h2⟩:=h.row;refine⟨h.kp.setCell (p:=⟨g,C.length,none⟩) rfl _,by rw[List.length_append];have:=h.le;simp;omega, ?_,fun p hp=> ?_, ?_⟩
 ·rw[List.map_append,h.wd,Ru hm (x:=x.word) (y:=y.word) (by rw[List.getElem?_map,hx];rfl) (by rw[List.getElem?_map,hy];rfl),if_neg (fun e'=>e e'.symm)];rfl
 ·rcases List.mem_append.1 hp with hp|hp
  ·exact h.mem p hp
  ·obtain rfl:p=y:=by simpa using hp
   exact List.mem_of_getElem? hy
 ·refine⟨cur.setIfInBounds C.length y.val, ?_,fun j p hj=> ?_⟩
  ·simp[World.setCell,Array.getElem?_modify,h1]
  ·have a1:C.length<cur.size:=by
    have a0:C.length<ps.length:=by have:=h.le;have:=(List.getElem?_eq_some_iff.1 hy).1;omega
    have h5:=h2 C.length _ (by rw[List.getElem?_append_right rr,Nat.sub_self,List.getElem?_drop];exact List.getElem?_eq_getElem a0);exact(Array.getElem?_eq_some_iff.1 h5).1
   rw[List.length_append,List.length_singleton]at hj;rw[Array.getElem?_setIfInBounds];by_cases ej:C.length=j
   ·subst ej;rw[List.append_assoc,List.getElem?_append_right rr,Nat.sub_self]at hj;obtain rfl:y=p:=by simpa using hj
    rw[if_pos rfl,if_pos a1]
   ·rw[if_neg ej];refine h2 j p ?_;rcases Nat.lt_or_ge j C.length with hl|hl
    ·rw[List.getElem?_append_left hl];rw[List.append_assoc,List.getElem?_append_left hl]at hj;exact hj
    ·rw[List.getElem?_append_right hl,List.getElem?_drop];rw[List.getElem?_append_right (by simp;omega),List.length_append,List.length_singleton,List.getElem?_drop]at hj;rw[←hj];congr 1;omega
theorem start {cur:Array Value}(hg:w.heap[g]? =some (.cells cur 32 (0,0)))(hc:∀(j:Nat) (p:Part),ps[j]? =some p->cur[j]? =some p.val){k:Nat}(hk:k<=ps.length)(h:B2 ((ps.map Part.word).take k)=(ps.map Part.word).take k):CpR g ps w k (ps.take k) w:=by
 refine⟨Aj.refl _ _,by rw[List.length_take];omega,by rw[h,List.map_take],fun p hp=>List.mem_of_mem_take hp,cur,hg,fun j p hj=> ?_⟩
 rw[List.length_take,Nat.min_eq_left hk,List.take_append_drop]at hj;exact hc j p hj
theorem move {W':World}(h:CpR g ps w m C W)(hk:Aj (fun _=>False) W W'):CpR g ps w m C W':=by
 obtain⟨cur,h1,h2⟩:=h.row;exact⟨h.kp.trans (hk.mono fun _ e=>e.elim),h.le,h.wd,h.mem,cur,(hk.block _ (lt_of_block h1) (fun e=>e)).trans h1,h2⟩
end CpR
theorem Pz {g:Nat}{t:TypeId}{fz:Nat×Nat}:∀(vs:List Value) (o:Nat) (W:World) (cur:Array Value),W.heap[g]? =some (.cells cur t fz)→
  Aj (fun k=>k=g) W (W.setCells g o vs)∧∃cur':Array Value,(W.setCells g o vs).heap[g]? =some (.cells cur' t fz)∧∀j,j<o->cur'[j]? =cur[j]?
 |[],o,W,cur,h=>⟨Aj.refl _ _,cur,h,fun _ _=>rfl⟩
 |v::r,o,W,cur,h=>by
  have h1:(W.setCell ⟨g,o,none⟩ v).heap[g]? =some (.cells (cur.setIfInBounds o v) t fz):=by simp[World.setCell,Array.getElem?_modify,h]
  obtain⟨k1,cur',h2,h3⟩:=Pz r (o+1) (W.setCell ⟨g,o,none⟩ v) _ h1;refine⟨((Aj.refl (fun k=>k=g) W).setCell (p:=⟨g,o,none⟩) rfl v).trans k1,cur',h2,fun j hj=> ?_⟩
  rw[h3 j (by omega),Array.getElem?_setIfInBounds,if_neg (by omega)]
structure Ah7 (g:Nat)(ps:List Part)(w:World)(C:List Part)(W:World):Prop where
 kp:Aj (fun k=>k=g) w W
 wd:C.map Part.word=B2 (ps.map Part.word)
 mem:∀p∈C,p∈ps
 row:∃cur:Array Value,W.heap[g]? =some (.cells cur 32 (0,0))∧∀(j:Nat) (p:Part),C[j]? =some p->cur[j]? =some p.val
theorem Zi (g cap:Nat)(ps:List Part)(w:World)(cur:Array Value)(hg:w.heap[g]? =some (.cells cur 32 (0,0)))(hc:∀(j:Nat) (p:Part),ps[j]? =some p->cur[j]? =some p.val)
  (hp:∀p∈ps,Ad w p.1 p.2.1 p.2.2.1 p.2.2.2/\(0<p.2.1→∀ad,p.1=some ad->ad.block≠g)) (hn:ps.length<=4000) (hcap:ps.length<=cap):
  Calls Tryz.prog 119 #[.slice (some ⟨g,0,none⟩) ps.length cap, .func (.func 120) #[] #[]] w fun e w'=>∃C:List Part,e= .returned (.slice (some ⟨g,0,none⟩) C.length cap)/\Ah7 g ps w C w':=by
 obtain⟨n,b3⟩:∃n,n=ps.length:=⟨_,rfl⟩;have HP:Hid (∀X,Aj (fun k=>k=g) w X→∀p∈ps,Ad X p.1 p.2.1 p.2.2.1 p.2.2.2):=fun X hK p hm=>(hp p hm).1.keep hK (hp p hm).2
 have d6:Hid (∀k,k<=ps.length->B2 ((ps.map Part.word).take k)=(ps.map Part.word).take k->CpR g ps w k (ps.take k) w):=fun k hk h=>CpR.start hg hc hk h
 have a3:Hid (∀X,Aj (fun _=>False) w X->B2 (ps.map Part.word)=ps.map Part.word->Ah7 g ps w ps X):=
  fun X hX h=>⟨hX.mono fun _ e=>e.elim,h.symm,fun p hp=>hp,cur,(hX.block _ (lt_of_block hg) (fun e=>e)).trans hg,hc⟩
 have a2:Hid (∀X,Aj (fun _=>False) w X→∀(j:Nat) (p:Part),ps[j]? =some p->X.cell? ⟨g,j,none⟩=some p.val):=fun X hX j p hj=>by
  have h1:=(hX.block _ (lt_of_block hg) (fun e=>e)).trans hg;simp[World.cell?,h1,hc j p hj]
 rw[←b3]at hn hcap ⊢;have a1:Hid (ps.length=n):=b3.symm;clear hp hg hc b3;go_enter Tryz.func119,Tryz.ntmps119;by_cases h2:(n:Int)<2
 ·go_wp2;go_ret;have hl:=a1.out;refine⟨ps,by rw[hl];rfl,a3.out _ (Aj.refl _ _) ?_⟩;have h1:=Aar (ps.map Part.word);rwa[List.take_of_length_le (by rw[List.length_map];omega)]at h1
 go_wp2
 go_loopw [5] (fun vk wr=>∃k:Nat,vk= .int .i64 k/\1<=k/\k<=n/\Hid (B2 ((ps.map Part.word).take k)=(ps.map Part.word).take k)/\Hid (Aj (fun _=>False) w wr)) (fun vk _=>n-(intOf vk).toNat)
 case atStart=>exact⟨1,rfl,rr,by omega,Aar _,Aj.refl _ _⟩
 case round=>
  obtain⟨k,rfl,b8,f0,HC,HK⟩:=hrel;by_cases hlt:(k:Int)<(n:Int)
  ·have d7:k<n:=by omega
   obtain⟨⟨Ax,nx,cx,wx⟩,hx⟩:∃x,ps[k-1]? =some x:=⟨ps[k-1]'(by rw[a1.out];omega),List.getElem?_eq_getElem _⟩;obtain⟨⟨Ay,ny,cy,wy⟩,hy⟩:∃y,ps[k]? =some y:=⟨ps[k]'(by rw[a1.out];omega),List.getElem?_eq_getElem _⟩;have ex:wr.cell? ⟨g,k-1,none⟩=some (.slice Ax nx cx):=a2.out wr HK.out _ _ hx;have ey:wr.cell? ⟨g,k,none⟩=some (.slice Ay ny cy):=a2.out wr HK.out _ _ hy;have a7:Ad wr.drew Ax nx cx wx:=HP.out wr.drew ((HK.out.mono fun _ e=>e.elim).drew) _ (List.mem_of_getElem? hx);have a6:Ad wr.drew Ay ny cy wy:=HP.out wr.drew ((HK.out.mono fun _ e=>e.elim).drew) _ (List.mem_of_getElem? hy);obtain⟨i1,a4⟩:∃i1:Nat,i1=k-1:=⟨_,rfl⟩;have b5:IntKind.i64.wrap ((k:Int)-1)=(i1:Int):=by rw[IntWalk.i64_in _ (by omega)];omega
   rw[←a4]at ex;have d2:i1<n:=by omega
   clear a4;have b0:=hI a7;have a9:=hI a6;have HX:=hI hx;have HY:=hI hy;clear hx hy a7 a6;go_wp2_with fail;refine Bj (fun W'=>W'.cell? ⟨g,i1,none⟩=some (.slice Ax nx cx)/\W'.cell? ⟨g,k,none⟩=some (.slice Ay ny cy)) (by kernel_rfl) ⟨ex,ey⟩ (fun hHeld=> ?_)
   (refine' Aa 0 rfl ?_;(try simp only[Act.put,nY,nX]));(refine' Aa 1 rfl ?_;(try simp only[Act.put,nY,nX]));(refine' Aa 2 rfl ?_;(try simp only[Act.put,nY,nX]));(refine' Aa 3 rfl ?_;(try simp only[Act.put,nY,nX]));(refine' Aa 4 rfl ?_;(try simp only[Act.put,nY,nX]));(refine' Aa 5 rfl ?_;(try simp only[Act.put,nY,nX]));(refine' Aa 6 rfl ?_;(try simp only[Act.put,nY,nX]));(refine' Aa 7 rfl ?_;(try simp only[Act.put,nY,nX]));(refine' Aa 8 rfl ?_;(try simp only[Act.put,nY,nX]));(refine' Aa 9 rfl ?_;(try simp only[Act.put,nY,nX]))
   (refine Aqq 10 rfl (fun K' hK'=> ?_);simp only[nY];go_simp)
   refine(Aco Ay ny cy wy Ax nx cx wx _ (Pu Ay Ax ny nx cy cx wy wx _ a9.out b0.out)).mono ?_;rintro e w1 ⟨rfl,d1⟩;refine hK' _ _ ⟨.inl (by kernel_rfl),fun _=>Be (by kernel_rfl) ?_ _⟩
   clear hK' K' hHeld ex ey;have b1:Hid (Aj (fun _=>False) w w1):=HK.out.drew.trans (Bc d1);clear d1;by_cases he:wy=wx
   ·rw[decide_eq_true he];have HE:=hI he;clear he;have HR:Hid (CpR g ps w (k+1) (ps.take k) w1):=((d6.out k (by rw[a1.out];omega) HC.out).move b1.out).skip b8 HX.out HY.out HE.out;clear HX HY b0 a9 HE d2 b5;go_wp2_with fail
    go_loopw [5,7] (fun vk v7 wr2=>∃(i k2:Nat) (C:List Part),vk= .int .i64 i/\v7= .int .i64 k2/\1<=k2/\k+k2<=n/\C.length=i/\i<k+k2/\Hid (CpR g ps w (k+k2) C wr2)) (fun _ v7 _=>n-(intOf v7).toNat)
    case atStart=>exact⟨k,1,ps.take k,rfl,rfl,rr,by omega,by rw[List.length_take,a1.out];omega,by omega,HR⟩
    case round=>
     clear HR b1 HK;obtain⟨i,k2,C,rfl,rfl,d8,d9,d3,f2,HR⟩:=hrel;have a0:=hI d3;clear d3;by_cases hlt2:(k2:Int)<((n-k:Nat):Int)
     ·obtain⟨⟨Ax,nx,cx,wx⟩,hx⟩:∃x,ps[k+k2-1]? =some x:=⟨ps[k+k2-1]'(by rw[a1.out];omega),List.getElem?_eq_getElem _⟩;obtain⟨⟨Ay,ny,cy,wy⟩,hy⟩:∃y,ps[k+k2]? =some y:=⟨ps[k+k2]'(by rw[a1.out];omega),List.getElem?_eq_getElem _⟩;obtain⟨i1,a4⟩:∃i1:Nat,i1=k2-1:=⟨_,rfl⟩;have b5:IntKind.i64.wrap ((k2:Int)-1)=(i1:Int):=by rw[IntWalk.i64_in _ (by omega)];omega
      have ex:wr.cell? ⟨g,k+i1,none⟩=some (.slice Ax nx cx):=HR.out.cell (p:=(Ax,nx,cx,wx)) (by rw[a0.out];omega) (by rw[a4,←hx];congr 1;omega);have ey:wr.cell? ⟨g,k+k2,none⟩=some (.slice Ay ny cy):=HR.out.cell (p:=(Ay,ny,cy,wy)) (by rw[a0.out];omega) hy;have a7:Ad wr.drew Ax nx cx wx:=HP.out wr.drew HR.out.kp.drew _ (List.mem_of_getElem? hx);have a6:Ad wr.drew Ay ny cy wy:=HP.out wr.drew HR.out.kp.drew _ (List.mem_of_getElem? hy);have d2:i1<n-k:=by omega
      clear a4;have b0:=hI a7;have a9:=hI a6;have HX:=hI hx;have HY:=hI hy;clear hx hy a7 a6;go_wp2_with fail;refine Bj (fun W'=>W'.cell? ⟨g,k+i1,none⟩=some (.slice Ax nx cx)/\W'.cell? ⟨g,k+k2,none⟩=some (.slice Ay ny cy)) (by kernel_rfl) ⟨ex,ey⟩ (fun hHeld=> ?_)
      (refine' Aa 0 rfl ?_;(try simp only[Act.put,nY,nX]));(refine' Aa 1 rfl ?_;(try simp only[Act.put,nY,nX]));(refine' Aa 2 rfl ?_;(try simp only[Act.put,nY,nX]));(refine' Aa 3 rfl ?_;(try simp only[Act.put,nY,nX]));(refine' Aa 4 rfl ?_;(try simp only[Act.put,nY,nX]));(refine' Aa 5 rfl ?_;(try simp only[Act.put,nY,nX]));(refine' Aa 6 rfl ?_;(try simp only[Act.put,nY,nX]));(refine' Aa 7 rfl ?_;(try simp only[Act.put,nY,nX]));(refine' Aa 8 rfl ?_;(try simp only[Act.put,nY,nX]));(refine' Aa 9 rfl ?_;(try simp only[Act.put,nY,nX]))
      (refine Aqq 10 rfl (fun K' hK'=> ?_);simp only[nY];go_simp)
      refine(Aco Ay ny cy wy Ax nx cx wx _ (Pu Ay Ax ny nx cy cx wy wx _ a9.out b0.out)).mono ?_;rintro e w2 ⟨rfl,b9⟩;have b4:Aj (fun _=>False) wr w2:=(Aj.refl _ wr).drew.trans (Bc b9);have a5:Hid (CpR g ps w (k+k2) C w2):=HR.out.move b4;have b6:w2.cell? ⟨g,k+k2,none⟩=some (.slice Ay ny cy):=a5.out.cell (p:=(Ay,ny,cy,wy)) (by rw[a0.out];omega) HY.out
      have b2:w2.cell? ⟨g,k+i1,none⟩=some (.slice Ax nx cx):=by
       obtain⟨cur2,d4,_⟩:=HR.out.row;exact(World.cell?_of_block (b4.block g (lt_of_block d4) (fun e=>e))).trans ex
      refine hK' _ _ ⟨.inr ⟨b2,b6⟩,fun _=> ?_⟩
      clear hK' K' hHeld ex ey b9 b4 HR
      (try simp only[Act.put,nY,nX])
      by_cases he:wy=wx
      ·rw[decide_eq_true he];have a8:Hid (CpR g ps w (k+k2+1) C w2):=a5.out.skip (by omega) HX.out HY.out he;clear he
       (refine Aqq 11 rfl (fun K' hK'=> ?_);simp only[nY];go_simp)
       refine hK' _ _ ⟨.inl (by kernel_rfl),fun _=>Be (by kernel_rfl) ?_ _⟩
       clear hK' K' b2 b6;go_wp2
       go_roundw
       case rel=>first|exact⟨i,k2+1,C,rfl,by go_num,by omega,by omega,a0.out,by omega,a8⟩|((repeat apply Exists.intro);exact⟨⟨i,k2+1,C,rfl,by go_num,by omega,by omega,a0.out,by omega,a8⟩,rfl⟩)
       case measure=>simp[intOf];omega
      ·rw[decide_eq_false he]
       (refine Aqq 11 rfl (fun K' hK'=> ?_);simp only[nY];go_simp)
       refine hK' _ _ ⟨.inl (by kernel_rfl),fun _=>Be (by kernel_rfl) ?_ _⟩
       clear hK' K' b2
       have a8:Hid (CpR g ps w (k+k2+1) (C++[(Ay,ny,cy,wy)]) (w2.setCell ⟨g,i,none⟩ (.slice Ay ny cy))):=by
        have h5:=a5.out.put (by omega) HX.out HY.out he;rw[a0.out]at h5;exact h5
       have cz:∃v,w2.cell? ⟨g,i,none⟩=some v:=⟨_,a5.out.cell (j:=i) (Nat.le_of_eq a0.out) (List.getElem?_eq_getElem (by rw[a1.out];omega))⟩;obtain⟨vz,cz⟩:=cz;have fz:=a5.out.free i;clear he;go_wp2
       go_roundw
       case rel=>first|exact⟨i+1,k2+1,_,by go_num,by go_num,by omega,by omega,by rw[List.length_append,a0.out];rfl,by omega,a8⟩|((repeat apply Exists.intro);exact⟨⟨i+1,k2+1,_,by go_num,by go_num,by omega,by omega,by rw[List.length_append,a0.out];rfl,by omega,a8⟩,rfl⟩)
       case measure=>simp[intOf];omega
     ·have f1:∀ty,(Builtin.clear_ #[46] ty #[.slice (some ⟨g,i,none⟩) (n-i) (cap-i)]).run Tryz.prog wr= .ok (.tuple #[]) (wr.setCells g i (List.replicate (n-i) (.slice none 0 0))):=
       fun ty=>Lib.run_clear_slice wr _ _ ty _ Tryz.underlying46 Tryz.zeroValue32 rfl rfl g i _ _ (by omega) (fun j hj=>by
        rw[HR.out.cell (j:=i+j) (by rw[a0.out];omega) (List.getElem?_eq_getElem (by rw[a1.out];omega))];rfl) (fun j hj=>HR.out.free (i+j))
      have HO:Hid (Ah7 g ps w C (wr.setCells g i (List.replicate (n-i) (.slice none 0 0)))):=by
       obtain⟨cur9,h5,h6⟩:=HR.out.row;obtain⟨k1,cur',h7,h8⟩:=Pz (List.replicate (n-i) (.slice none 0 0)) i wr cur9 h5;have d0:=HR.out.wd;rw[List.take_of_length_le (by rw[List.length_map,a1.out];omega)]at d0;refine⟨HR.out.kp.trans k1,d0,HR.out.mem,cur',h7,fun j p hj=> ?_⟩
       have d5:=(List.getElem?_eq_some_iff.1 hj).1;rw[h8 j (by have:=a0.out;omega)];exact h6 j p (by rw[List.getElem?_append_left d5];exact hj)
      generalize(wr.setCells g i (List.replicate (n-i) (.slice none 0 0)))=W9 at*;go_wp2;go_ret;exact⟨C,by rw[a0.out];rfl,HO.out⟩
   ·rw[decide_eq_false he]
    have b7:Hid (B2 ((ps.map Part.word).take (k+1))=(ps.map Part.word).take (k+1)):=by
     show _=_;rw[Ru b8 (x:=wx) (y:=wy) (by rw[List.getElem?_map,HX.out];rfl) (by rw[List.getElem?_map,HY.out];rfl),if_neg (fun e=>he e.symm),HC.out,Bb _ k wy (by rw[List.getElem?_map,HY.out];rfl)]
    clear he;go_wp2
    go_roundw
    case rel=>first|exact⟨k+1,by go_num,by omega,by omega,b7,b1⟩|((repeat apply Exists.intro);exact⟨⟨k+1,by go_num,by omega,by omega,b7,b1⟩,rfl⟩)
    case measure=>simp[intOf];omega
  ·have d7:k=n:=by omega
   go_wp2;go_ret;have hl:=a1.out;refine⟨ps,by rw[hl];rfl,a3.out _ HK.out ?_⟩;have h1:=HC.out;rwa[List.take_of_length_le (by rw[List.length_map];omega)]at h1
theorem Ac9 (p:Option Addr)(c:Nat)(v:Value)(w:World):Calls Tryz.prog 119 #[.slice p 0 c,v] w fun e w'=>e= .returned (.slice p 0 c)/\w'=w:=by
 go_enter Tryz.func119,Tryz.ntmps119;go_wp2;go_ret;exact⟨rfl,rfl⟩
theorem Ada {w:World}{base:Nat}{v:Value}{ps:List Part}(h:w.ownsRow base 32 1 v ps.length (ps.map Part.val))(h0:0<ps.length):
  ∃(g cap:Nat) (cur:Array Value),v= .slice (some ⟨g,0,none⟩) ps.length cap/\base<=g/\w.heap[g]? =some (.cells cur 32 (0,0))/\ps.length<=cap/\cap<=maxLen∧∀(j:Nat) (p:Part),ps[j]? =some p->cur[j]? =some p.val:=by
 obtain⟨h1,⟨e0,e1⟩|⟨g,cap,cur,e0,hb,hg,hn,hm,hs,ht⟩⟩:=h
 ·omega
 ·refine⟨g,cap,cur,e0,hb,hg,hn,hm,fun j p hj=> ?_⟩
  have a0:=(List.getElem?_eq_some_iff.1 hj).1;have h5:=congrArg (fun x:List Value=>x[j]?) ht;simp only[List.getElem?_take,Nat.mul_one]at h5;rw[if_pos (by omega),Array.getElem?_toList,List.getElem?_map,hj]at h5;exact h5
theorem Qc {α:Type} [DecidableEq α]:∀l:List α,(B2 l).length<=l.length
 |[]=>rr
 |[x]=>rr
 |x::y::r=>by
  have ih:=Qc (y::r);show(if x=y then B2 (y::r)else x::B2 (y::r)).length<=_;by_cases h:x=y
  ·rw[if_pos h];simp at*;omega
  ·rw[if_neg h];simp at*;omega
theorem Adb {ls:List Bg}{ss:List Snd}{n:Int}(h:C3 ls ss n=0):B7 ls [] ss=0/\0<=n/\n<=4:=by
 by_cases h1:B7 ls [] ss=0
 ·by_cases h2:n<0\/4<n
  ·rw[Td h1 h2]at h;cases h
  ·exact⟨h1,by omega,by omega⟩
 ·rw[Xu h1]at h;exact absurd h h1
theorem Adc {ls:List Bg}{ss:List Snd}{n:Int}(h:C3 ls ss n=0):(Cr ls ss n.toNat).length<=625:=by
 obtain⟨h1,h2,h3⟩:=Adb h;have hr:=(Dk h1).2.2;exact Qb (Cg hr).2.2 (Cg hr).1 (by omega)
theorem Ae2 (A:Option Addr)(n c:Nat)(xs:List Co)(As:Option Addr)(ns cs:Nat)(ss:List Snd)(k:Int)(w:World)(hx:B4 w A n c xs)(hs:Ad w As ns cs ss)(hT:Cq w):
  Calls Tryz.prog 46 #[.slice A n c, .slice As ns cs, .int .i64 k] w (Pc w (F9 (Ah xs) ss k)):=by
 have HX:=hI hx;have HS:=hI hs;have HT:=hI hT;clear hx hs hT;go_enter Tryz.func46,Tryz.ntmps46;go_wp2_with fail;have hB:Below w.heap.size w (w.alloc (.cells #[.slice none 0 0] 46)):=bel;have b1:(w.alloc (.cells #[.slice none 0 0] 46)).heap[w.heap.size]? =some (.cells #[.slice none 0 0] 46 (0,0)):=hpt;generalize w.alloc (.cells #[.slice none 0 0] 46)=W1 at*;obtain⟨b7,b6⟩:∃b7,b7=w.heap.size:=⟨_,rfl⟩;rw[←b6]at b1 ⊢;have g6:w.heap.size<=b7:=Nat.le_of_eq b6.symm;clear b6;have HB:=hI hB;have d5:=hI b1;clear hB b1;have d7:=lt_of_block d5.out
 refine(U8 A n c xs As ns cs ss k 113 #[.pointer (some ⟨b7,0,none⟩)] W1 (fun i T X=>∃vw ps,T=Lg b7 (fun _=>False) vw ps/\ps.map Part.word=((Cr (Ah xs) ss k.toNat).take i).map (·.2)/\ps.length=i/\Ja b7 (fun _=>False) W1 vw ps X)
  (Lg b7 (fun _=>False) (.slice none 0 0) []) ?hu ?h0 (enters_of Tryz.func113 (by kernel_rfl) rfl)).mono ?_
 case h0=>exact⟨_,[],rfl,by simp,rfl,Ja.start d7 (fun _ h=>h.elim) d5.out⟩
 case hu=>
  refine⟨?hB, ?hlt, ?hst, ?hnd, ?hrd, ?hy⟩
  case hB=>rintro i T X ⟨vw,ps, -, -, -,h⟩;exact h.kp.size
  case hlt=>rintro i T X ⟨vw,ps,rfl, -, -,h⟩;exact h.lts
  case hst=>rintro i T X X' ⟨vw,ps,rfl,h1,h2,h⟩ hk;exact⟨vw,ps,rfl,h1,h2,h.keep hk⟩
  case hnd=>rintro i T X ⟨vw,ps,rfl, -, -,h⟩;exact h.nds fun _ h=>h.elim
  case hrd=>
   rintro i T X ⟨vw,ps, -, -, -,h⟩;have hX:Below w.heap.size w X:=HB.out.trans (h.kp.to_below (B:=w.heap.size) (fun b hb=>hb.elim (fun e=>by omega) fun e=>e.elim) HB.out.size);exact⟨HX.out.below hX rr,HS.out.below hX rr,HT.out.below hX rr⟩
  case hy=>
   rintro i T X Af nf cf u At nt ct y hr f4 d2 g7 f7 g4 d8 ⟨vw,ps,rfl,h1,h2,h⟩;have hr:=(Dk hr).2.2;have a2:=Qb (ls:=Ah xs) (Cg hr).2.2 (Cg hr).1 f4;have hi:i<(Cr (Ah xs) ss k.toNat).length:=(List.getElem?_eq_some_iff.1 d2).1;refine(Aim b7 (fun _=>False) W1 vw ps Af nf cf At nt ct y X h f7 d8 (by omega)).mono ?_;rintro e W'' ⟨hv,vw',g1,g2,g3⟩;refine⟨hv,g2,_,⟨vw',_,rfl, ?_,by rw[List.length_append,h2];rfl,g1⟩,fun b hb=> ?_⟩
   ·rw[List.map_append,h1,Bb _ i _ d2,List.map_append];rfl
   ·rcases g3 b hb with h|h|h
    ·exact .inl h
    ·exact .inr (.inl h)
    ·exact .inr (.inr (.inr h))
 rintro e X ⟨rfl,i,T,⟨vw,ps, -,b8,b5,hC⟩,hi⟩;obtain⟨A7,k7,rfl⟩:=Bh hC.o7;have hX:Below w.heap.size w X:=HB.out.trans (hC.kp.to_below (B:=w.heap.size) (fun b hb=>hb.elim (fun e=>by omega) fun e=>e.elim) HB.out.size);have c7:=cell_of_one hC.c7;have a7:=hI hX;clear hX;obtain⟨er,b3⟩:∃er,er=C3 (Ah xs) ss k:=⟨_,rfl⟩;rw[←b3]at hi ⊢;have b4:=hI b3;clear b3;by_cases h0:er=0
 case neg=>
  have h1:(er !=0)=true:=by simpa using h0
  have HM:Hid (F9 (Ah xs) ss k=(er,[])):=by show _=_;unfold F9;rw[←b4.out,if_pos h0]
  clear h0 hi b8 b5 hC c7;go_wp2;exact bodyPost_ret (results_tmp2 Tryz.results46 _ _ _) rfl ⟨none,0,0,by rw[HM.out];rfl,by rw[HM.out];exact Bx.nil _,a7.out⟩
 have h1:(er !=0)=false:=by simpa using h0
 have HM:Hid (F9 (Ah xs) ss k=(0,Lk Cm (ps.map Part.word))):=by
  show _=_;unfold F9;rw[←b4.out,if_neg (by simpa using h0),b8,hi h0,List.take_length]
 have f6:ps.length<=625:=by
  have f5:C3 (Ah xs) ss k=0:=by rw[←b4.out];exact h0
  have:=Adc f5
  rw[b5,hi h0];exact this
 clear h0 hi b8 b5;by_cases hps:ps.length=0
 ·have d9:ps=[]:=List.eq_nil_of_length_eq_zero hps;subst d9;have d6:Hid (F9 (Ah xs) ss k=(0,[])):=HM;have f8:Hid (Bd X A7 0 k7 1 []):=Bd.of_own hC.o7 (by decide);clear hC hps f6;rw[List.length_nil]at c7;go_wp2_with fail;refine(AnyF.slices_SortFunc_none {Tryz.sortWord with} A7 k7 _ X).mono ?_;rintro e X2 ⟨rfl,rfl⟩;go_wp2_with fail;refine(Ac9 A7 k7 _ X2).mono ?_;rintro e X3 ⟨rfl,rfl⟩;go_wp2;exact bodyPost_ret (results_tmp2 Tryz.results46 _ _ _) rfl ⟨A7,0,k7,by rw[d6.out];rfl,by rw[d6.out];exact⟨[],rfl,f8.out,fun p hp=>by simp at hp⟩,a7.out⟩
 ·obtain⟨g,cap,cur,hv,g5,hg,f9,f1,a6⟩:=Ada hC.o7 (by omega);have f0:A7=some ⟨g,0,none⟩:=by injection hv
  have f3:k7=cap:=by injection hv
  subst f0 f3;clear hv;have b9:∀p∈ps,Ad X p.1 p.2.1 p.2.2.1 p.2.2.2/\(0<p.2.1→∀ad,p.1=some ad->ad.block≠g):=fun p hp=>⟨hC.pp p hp,fun hn ad had e=>(hC.pd p hp ad had).2 hn (by rw[e];rfl)⟩
  have d1:=hI b9;clear b9;have HC:=hI hC;clear hC;have HG:=hI hg;have b0:=hI a6;clear hg a6;go_wp2_with fail;refine(Ahg g k7 ps X cur HG.out b0.out d1.out (by omega)).mono ?_;rintro e X2 ⟨rfl,a9,ps',cur',a8,d3,d0, -,a1⟩;have a2:ps'.length=ps.length:=a8.length_eq;have c7':X2.cell? ⟨b7,0,none⟩=some (.slice (some ⟨g,0,none⟩) ps.length k7):=cell_of_one ((a9.block b7 (lt_of_block HC.out.c7) (by omega)).trans HC.out.c7)
  have a5:Hid (∀p∈ps',Ad X2 p.1 p.2.1 p.2.2.1 p.2.2.2/\(0<p.2.1→∀ad,p.1=some ad->ad.block≠g)):=fun p hp=>by
   have h5:=d1.out p (a8.mem_iff.1 hp);exact⟨h5.1.keep a9 h5.2,h5.2⟩
  have b2:Hid (B2 (ps'.map Part.word)=Lk Cm (ps.map Part.word)):=Aa1 Fz d3 (fun a=>(a8.map Part.word).mem_iff);have d4:Hid (Below w.heap.size w X2):=a7.out.trans (a9.to_below (B:=w.heap.size) (fun b hb=>by have:=HB.out.size;omega) a7.out.size);have f2:=hI d0;have a4:=hI a1;clear a8 d3 d0 a1 a9 c7;have a0:=hI a2;clear a2;go_wp2_with fail;have a3:=Zi g k7 ps' X2 cur' f2.out a4.out a5.out (by rw[a0.out];omega) (by rw[a0.out];exact f9);rw[a0.out]at a3;refine a3.mono ?_;rintro e X3 ⟨C,rfl,hO⟩;have HO:=hI hO;clear hO a3;go_wp2;refine bodyPost_ret (results_tmp2 Tryz.results46 _ _ _) rfl ⟨some ⟨g,0,none⟩,C.length,k7,by rw[HM.out];rfl, ?_,d4.out.trans (HO.out.kp.to_below (B:=w.heap.size) (fun b hb=>by have:=HB.out.size;omega) d4.out.size)⟩;rw[HM.out,←b2.out];obtain⟨cur3,g3,r3⟩:=HO.out.row
  have g0:C.length<=k7:=by
   have h5:=Qc (ps'.map Part.word);rw[←HO.out.wd,List.length_map,List.length_map]at h5
   have:=a0.out
   omega
  refine⟨C,HO.out.wd,⟨by rw[List.length_map];omega,g0,f1,(fun h=>by cases h),fun _=>⟨g,0,rfl,lt_of_block g3,fun j v hj=> ?_⟩⟩,fun p hp=> ?_⟩
  ·rw[List.getElem?_map]at hj;obtain⟨p,hp,rfl⟩:=Option.map_eq_some_iff.1 hj;rw[Nat.zero_add];exact Ab g3 (r3 j p hp)
  ·have h6:=a5.out p (HO.out.mem p hp);exact h6.1.keep HO.out.kp h6.2
def Mm (B:Nat)(v:Value)(w:World)(p:Part):Prop:=Ad w p.1 p.2.1 p.2.2.1 p.2.2.2∧∀ad,p.1=some ad->B<=ad.block/\(0<p.2.1→¬v.ownBlock=some ad.block)
theorem Mm.below {B:Nat}{v:Value}{w w':World}{p:Part}(h:Mm B v w p)(hb:Below w.heap.size w w'):Mm B v w' p:=⟨h.1.below hb rr,h.2⟩
theorem Mm.grown {B:Nat}{v v':Value}{w X:World}{p:Part}(h:Mm B v w p)(hg:w.grownBy X v.ownBlock)(a2:v'.ownBlock=v.ownBlock\/v'.ownBlock=some w.heap.size):Mm B v' X p:=by
 have a1:0<p.2.1→∀ad,p.1=some ad->ad.block<w.heap.size:=by
  intro hn ad a0;obtain⟨b,off,hb,a1,_⟩:=h.1.2.2.2.2 hn;rw[a0]at hb;injection hb with hb
  subst hb;exact a1
 refine⟨h.1.keep (S:=fun k=>v.ownBlock=some k) ((Aj.refl (fun k=>v.ownBlock=some k) w).grown hg (fun k e=> .inl e)) fun hn ad a0 e=>(h.2 ad a0).2 hn e,fun ad a0=>⟨(h.2 ad a0).1,fun hn e=> ?_⟩⟩
 rcases a2 with e'|e'
 ·exact(h.2 ad a0).2 hn (e'▸e)
 ·rw[e']at e;injection e with e;have:=a1 hn ad a0;omega
structure Cf where
 p:Part
 q:Part
def Cf.cells (s:Cf):List Value:=[s.p.val,s.q.val]
theorem Cf.len (s:Cf):s.cells.length=2:=rfl
def Cf.data (s:Cf):List Snd×List Snd:=(s.p.word,s.q.word)
def D5 (w:World)(A:Option Addr)(n c:Nat)(ss:List Cf):Prop:=Gz Cf.cells 2 w A n c ss∧∀s∈ss,Ad w s.p.1 s.p.2.1 s.p.2.2.1 s.p.2.2.2/\Ad w s.q.1 s.q.2.1 s.q.2.2.1 s.q.2.2.2
theorem D5.below {w w':World}{A:Option Addr}{n c:Nat}{ss:List Cf}(h:D5 w A n c ss){B:Nat}(hb:Below B w w')(hB:w.heap.size<=B):D5 w' A n c ss:=
 ⟨h.1.below hb hB,fun s hs=>⟨(h.2 s hs).1.below hb hB,(h.2 s hs).2.below hb hB⟩⟩
structure Fl (w:World)(B:Nat)(v:Value)(ss:List Cf):Prop where
 own:w.ownsRow B 52 2 v ss.length (ss.flatMap Cf.cells)
 pq:∀s∈ss,Mm B v w s.p/\Mm B v w s.q
 sz:B<=w.heap.size
theorem Fl.below {w w':World}{B:Nat}{v:Value}{ss:List Cf}(h:Fl w B v ss)(hb:Below w.heap.size w w'):Fl w' B v ss:=
 ⟨B0 h.own fun k e=>hb.block k (h.own.lt k e).2,fun s hs=>⟨(h.pq s hs).1.below hb,(h.pq s hs).2.below hb⟩,Nat.le_trans h.sz hb.size⟩
theorem Fl.nil (w:World):Fl w w.heap.size (.slice none 0 0) []:=⟨World.ownsRow_nil _ _ _ _,fun s hs=>by simp at hs,rr⟩
theorem Fl.pairs {w:World}{B:Nat}{A:Option Addr}{n c:Nat}{ss:List Cf}(h:Fl w B (.slice A n c) ss)(hn:n=ss.length):D5 w A n c ss:=by
 subst hn;exact⟨Gz.of_own h.own Cf.len (by decide),fun s hs=>⟨(h.pq s hs).1.1,(h.pq s hs).2.1⟩⟩
theorem Fl.push {w X:World}{B:Nat}{v v':Value}{ss:List Cf}(h:Fl w B v ss){s:Cf}(hp:Mm B v w s.p)(hq:Mm B v w s.q)
  (hown:X.ownsRow B 52 2 v' (ss.length+1) (ss.flatMap Cf.cells++s.cells)) (hg:w.grownBy X v.ownBlock) (hat:v'.ownBlock=v.ownBlock\/v'.ownBlock=some w.heap.size):Fl X B v' (ss++[s]):=by
 refine⟨?_,fun t ht=> ?_,Nat.le_trans h.sz hg.size⟩
 ·rw[List.length_append,List.length_singleton,List.flatMap_append,List.flatMap_singleton];exact hown
 ·rcases List.mem_append.1 ht with ht|ht
  ·exact⟨(h.pq t ht).1.grown hg hat,(h.pq t ht).2.grown hg hat⟩
  ·obtain rfl:t=s:=by simpa using ht
   exact⟨hp.grown hg hat,hq.grown hg hat⟩
def Abj (w:World)(r:Int×List (List Snd×List Snd))(e:Ending)(w':World):Prop:=
 ∃A n c ss,e= .returned (.tuple #[.slice A n c, .int .i64 r.1])/\ss.map Cf.data=r.2/\D5 w' A n c ss/\Below w.heap.size w w'
def Ke (p:Int)(i:Nat):UInt8:=UInt8.ofNat (p/2^(8*i)%256).toNat
theorem Rk (p:Int)(i:Nat):((Ke p i).toNat:Int)=p/2^(8*i)%256:=by
 unfold Ke;rw[UInt8.toNat_ofNat'];have h1:=Int.emod_nonneg (p/2^(8*i)) (show(256:Int)≠0 by decide);have h2:=Int.emod_lt_of_pos (p/2^(8*i)) (show(0:Int)<256 by decide);generalize p/2^(8*i)%256=x at*;rw[Nat.mod_eq_of_lt (by omega)];omega
def Pr (s:Snd):List UInt8:=[Ke s.1 0,Ke s.2 0,Ke s.1 1,Ke s.2 1,Ke s.1 2,Ke s.2 2,Ke s.1 3,Ke s.2 3]
def Fd (w:List Snd):List UInt8:=w.flatMap Pr
theorem Ach {p q:Int}(hp:U32 p)(hq:U32 q)(h0:Ke p 0=Ke q 0)(h1:Ke p 1=Ke q 1)(h2:Ke p 2=Ke q 2)(h3:Ke p 3=Ke q 3):p=q:=by
 have e:∀i,Ke p i=Ke q i->p/2^(8*i)%256=q/2^(8*i)%256:=fun i h=>by rw[←Rk,←Rk,h]
 have e0:=e 0 h0;have e1:=e 1 h1;have e2:=e 2 h2;have e3:=e 3 h3;obtain⟨a1,a2⟩:=hp;obtain⟨b1,b2⟩:=hq;simp only[Nat.reduceMul,Int.reducePow]at e0 e1 e2 e3;omega
theorem Y7:∀{v w:List Snd},Bq v->Bq w->Fd v=Fd w->v=w
 |[],[],_,_,_=>rfl
 |[],y::w,_,_,h=>by simp[Fd,Pr]at h
 |x::v,[],_,_,h=>by simp[Fd,Pr]at h
 |x::v,y::w,hv,hw,h=>by
  simp only[Fd,List.flatMap_cons,Pr,List.cons_append,List.nil_append,List.cons.injEq]at h;obtain⟨p0,m0,p1,m1,p2,m2,p3,m3,hr⟩:=h;have hx:=hv x List.mem_cons_self;have hy:=hw y List.mem_cons_self;rw[Prod.ext (Ach hx.1 hy.1 p0 p1 p2 p3) (Ach hx.2 hy.2 m0 m1 m2 m3),Y7 (fun s hs=>hv s (List.mem_cons_of_mem _ hs)) (fun s hs=>hw s (List.mem_cons_of_mem _ hs)) hr]
theorem Y8 (w:List Snd):(Fd w).length=w.length*8:=by
 induction w with
 |nil=>rfl
 |cons x w ih=>simp only[Fd,List.flatMap_cons,List.length_append,List.length_cons]at ih ⊢;rw[ih];simp[Pr];omega
def Rl (w:List Snd):Lit:= .string (Fd w)
theorem Aci {v w:List Snd}(hv:Bq v)(hw:Bq w)(h:Rl v=Rl w):v=w:=Y7 hv hw (by injection h)
def Ku (D:DataW Unit)(fs:List (List Snd×List Snd)):Prop:=
 Go.Maps.IsMap D/\(∀t,Bq t->Go.Maps.has D (Rl t)=fs.any fun p=>decide (p.2=t))∧∀(i:Nat) p,fs[i]? =some p->D.atKey (Rl p.2) (.lit (.int .i64 0))= .lit (.int .i64 (i:Int))
theorem Aen:Ku (.map []) []:=⟨Go.Maps.isMap_empty,fun _ _=>rfl,fun i p h=>by simp at h⟩
theorem Ahk {D:DataW Unit}{fs:List (List Snd×List Snd)}{x:List Snd×List Snd}(h:Ku D fs)(hu:∀p∈fs,Bq p.2)(hx:Bq x.2)(hn:fs.any (fun p=>decide (p.2=x.2))=false):
  Ku (D.put (Rl x.2) (.lit (.int .i64 (fs.length:Int)))) (fs++[x]):=by
 obtain⟨h1,h2,h3⟩:=h;refine⟨h1.put _ _,fun t ht=> ?_,fun i p hp=> ?_⟩
 ·rw[List.any_append];by_cases e:t=x.2
  ·subst e;rw[Go.Maps.has_put_same h1 (show WideAt.IsKeyLit (Rl x.2)from trivial)];simp
  ·rw[Go.Maps.has_put_other (fun e'=>e (Aci ht hx e')),h2 t ht];have e2:¬x.2=t:=fun e'=>e e'.symm
   simp[e2]
 ·rcases Nat.lt_or_ge i fs.length with hi|hi
  ·rw[List.getElem?_append_left hi]at hp;have hm:=List.mem_of_getElem? hp
   have a0:p.2≠x.2:=fun e=>by
    have:=List.any_eq_false.1 hn p hm
    simp[e]at this
   rw[Go.Maps.atKey_put_other (fun e'=>a0 (Aci (hu p hm) hx e'))];exact h3 i p hp
  ·rw[List.getElem?_append_right hi]at hp
   have h0:i-fs.length=0:=by
    have:=(List.getElem?_eq_some_iff.1 hp).1
    simp at this;omega
   rw[h0]at hp;obtain rfl:x=p:=by simpa using hp
   obtain rfl:i=fs.length:=by omega
   exact Go.Maps.atKey_put_same h1 (show WideAt.IsKeyLit (Rl x.2)from trivial) _ _
theorem Aeo {D:DataW Unit}{fs:List (List Snd×List Snd)}{t:List Snd}(h:Ku D fs)(ht:Bq t):
  (Go.Maps.has D (Rl t)=true∧∃(i:Nat) (p:List Snd×List Snd),fs[i]? =some p/\fs.find? (fun p=>decide (p.2=t))=some p/\D.atKey (Rl t) (.lit (.int .i64 0))= .lit (.int .i64 (i:Int)))∨
   (Go.Maps.has D (Rl t)=false/\fs.find? (fun p=>decide (p.2=t))=none/\fs.any (fun p=>decide (p.2=t))=false):=by
 obtain⟨h1,h2,h3⟩:=h;rcases Vk (fs:=fs) (t:=t)with⟨⟨p,e1,e2,e3⟩,e4⟩|⟨e1,e2⟩
 ·obtain⟨i,hi,a0⟩:=List.getElem_of_mem e2;have hp:fs[i]? =some p:=by rw[List.getElem?_eq_getElem hi,a0]
  refine .inl ⟨by rw[h2 t ht,e4],i,p,hp,e1, ?_⟩;rw[←e3];exact h3 i p hp
 ·exact .inr ⟨by rw[h2 t ht,e2],e1,e2⟩
end Go.Proofs.YtlgliddhideflaaGreatDoor
namespace Go.Proofs.YtlgliddhideflaaGreatDoor
open Go.RowKit Go.Shelf Go.Maps
-- what a word of an alphabet becomes
theorem Aa6:∀(ls:List Bg) (ws:List Snd),Bq ws→∀x∈(Bu ls ws).2,Bq x
 |[],ws,hw,x,hx=>by
  obtain rfl:x=ws:=by simpa[Bu]using hx
  exact hw
 |l::ls,ws,hw,x,hx=>by
  unfold Bu at hx;split at hx
  ·obtain rfl:x=ws:=by simpa using hx
   exact hw
  ·rcases List.mem_cons.1 hx with rfl|hx
   ·exact hw
   ·exact Aa6 ls _ (Abo hw) x hx
theorem Af8 {ls:List Bg}{ws:List Snd}(hw:Bq ws):Bq (Bm ls ws).2:=by
 unfold Bm;split
 ·intro s hs;simp at hs
 ·split
  ·intro s hs;simp at hs
  ·cases e:(Bu ls ws).2.getLast? with
   |none=>intro s hs;simp at hs
   |some x=>exact Aa6 ls ws hw x (List.mem_of_getLast? e)
theorem Xg {ls:List Bg}{ws:List Snd}(hl:C5 ls=0)(hw:Bs ws=0):Bs (Bm ls ws).2=0:=by
 unfold Bm;split
 ·rfl
 ·split
  ·rfl
  ·cases e:(Bu ls ws).2.getLast? with
   |none=>rfl
   |some x=>exact(S8 ls ws (Y9 hl).2 hw).2 x (List.mem_of_getLast? e)
theorem Vq {ls:List Bg}{ss:List Snd}{k:Nat}(hw:B7 ls [] ss=0)(hk:k<=4)(hu:Bq ss){x y:List Snd}(h:(x,y)∈Cr ls ss k):x.length<=4/\y.length<=32/\Bq x/\Bq y:=by
 obtain⟨h1,h2,h3⟩:=Dk hw;unfold Cr at h;obtain⟨v,hv,e⟩:=List.mem_map.1 h;injection e with e1 e2
 subst e1;obtain⟨a4,a2⟩:=(Eu _ k v).1 (List.mem_filter.1 hv).1;have a0:∀s∈v,s∈ss:=fun s hs=>(Gd ss s).1 (a2 s hs)
 have a1:Bq v:=fun s hs=>hu s (a0 s hs)
 have a3:Bs v=0:=Qd (Cg h3).2.1 a0 (by omega);have hy:=Xg h1 a3;rw[e2]at hy;refine⟨by omega, ?_,a1,by rw[←e2];exact Af8 a1⟩;exact(E0.1 hy).1
def Kn (fs:List Part)(qs:List Cf):List Part:=fs++qs.flatMap fun s=>[s.p,s.q]
def Fc (bm bf bo:Nat)(vf vo:Value)(fs:List Part)(qs:List Cf):Nat->Prop:=fun k=>
 k=bm\/k=bf\/k=bo\/vf.ownBlock=some k\/vo.ownBlock=some k∨∃p∈Kn fs qs,0<p.2.1∧∃ad,p.1=some ad/\ad.block=k
structure Ef (bp bm bf bo:Nat)(W1:World)(i:Nat)(vf vo:Value)(fs:List Part)(qs:List Cf)(D:DataW Unit)(X:World):Prop where
 lt:bp<W1.heap.size/\bm<W1.heap.size/\bf<W1.heap.size/\bo<W1.heap.size/\bp≠bm/\bp≠bf/\bp≠bo/\bm≠bf/\bm≠bo/\bf≠bo
 cp:X.heap[bp]? =some (.cells #[.map (some bm)] 157 (0,0))
 cf:X.heap[bf]? =some (.cells #[vf] 46 (0,0))
 co:X.heap[bo]? =some (.cells #[vo] 47 (0,0))
 om:X.ownsMap Tryz.prog 9 (plainElem (H:=Unit) Tryz.prog 3) bm i D
 of:X.ownsRow W1.heap.size 32 1 vf fs.length (fs.map Part.val)
 oo:X.ownsRow W1.heap.size 52 2 vo qs.length (qs.flatMap Cf.cells)
 pw:Ki X (Kn fs qs)
 pd:∀p∈Kn fs qs,∀ad,p.1=some ad->W1.heap.size<=ad.block/\(0<p.2.1→¬vf.ownBlock=some ad.block∧¬vo.ownBlock=some ad.block)
 fo:∀k,vf.ownBlock=some k→¬vo.ownBlock=some k
 kp:Aj (fun k=>k=bm\/k=bf\/k=bo) W1 X
section
variable {bp bm bf bo:Nat}{W1:World}{i:Nat}{vf vo:Value}{fs:List Part}{qs:List Cf}{D:DataW Unit}{X X':World}
theorem Ef.wlt (h:Ef bp bm bf bo W1 i vf vo fs qs D X){p:Part}(hp:p∈Kn fs qs)(hn:0<p.2.1){ad:Addr}(had:p.1=some ad):ad.block<X.heap.size:=by
 obtain⟨b,off,hb,a0,_⟩:=(h.pw p hp).2.2.2.2 hn;rw[had]at hb;injection hb with hb;subst hb
 exact a0
theorem Ef.lts (h:Ef bp bm bf bo W1 i vf vo fs qs D X):∀k,Fc bm bf bo vf vo fs qs k->k<X.heap.size:=by
 rintro k (rfl|rfl|rfl|hk|hk|⟨p,hp,hn,ad,a0,rfl⟩)
 ·exact h.om.lt
 ·exact lt_of_block h.cf
 ·exact lt_of_block h.co
 ·exact(h.of.lt k hk).2
 ·exact(h.oo.lt k hk).2
 ·exact h.wlt hp hn a0
theorem Ef.nds (h:Ef bp bm bf bo W1 i vf vo fs qs D X):∀k,Fc bm bf bo vf vo fs qs k→∀x,X.heap[k]? ≠some (.deferred x):=by
 rintro k (rfl|rfl|rfl|hk|hk|⟨p,hp,hn,ad,a0,rfl⟩) x hx
 ·obtain⟨es,clock,hb,_⟩:=h.om;rw[hb]at hx;cases hx
 ·rw[h.cf]at hx;cases hx
 ·rw[h.co]at hx;cases hx
 ·obtain⟨cur,hc⟩:=Lv h.of hk;rw[hc]at hx;cases hx
 ·obtain⟨cur,hc⟩:=Lv h.oo hk;rw[hc]at hx;cases hx
 ·obtain⟨v,hv⟩:=Ps (h.pw p hp) hn a0;simp[World.cell?,hx]at hv
theorem Ef.keep (h:Ef bp bm bf bo W1 i vf vo fs qs D X)(hk:Aj (fun b=>W1.heap.size<=b∧¬Fc bm bf bo vf vo fs qs b) X X'):Ef bp bm bf bo W1 i vf vo fs qs D X':=by
 have hs:=h.kp.size;have a0:∀k,Fc bm bf bo vf vo fs qs k->X'.heap[k]? =X.heap[k]? :=fun k hT=>hk.block k (h.lts k hT) (fun e=>e.2 hT)
 have a1:X'.heap[bp]? =X.heap[bp]? :=hk.block bp (lt_of_block h.cp) (fun e=>by have:=h.lt.1;omega)
 refine⟨h.lt,a1.trans h.cp,(a0 _ (.inr (.inl rfl))).trans h.cf,(a0 _ (.inr (.inr (.inl rfl)))).trans h.co, ?_,B0 h.of fun k e=>a0 k (.inr (.inr (.inr (.inl e)))),B0 h.oo fun k e=>a0 k (.inr (.inr (.inr (.inr (.inl e))))),
  fun p hp=>(h.pw p hp).keep hk fun hn ad had e=>e.2 (.inr (.inr (.inr (.inr (.inr ⟨p,hp,hn,ad,had,rfl⟩))))),h.pd,h.fo, ?_⟩
 ·obtain⟨es,clock,hb,r⟩:=h.om;exact⟨es,clock,(a0 _ (.inl rfl)).trans hb,r⟩
 ·exact((h.kp.mono (S':=fun k=>(k=bm\/k=bf\/k=bo)\/W1.heap.size<=k) fun _ e=> .inl e).trans (hk.mono fun _ e=> .inr e.1)).old fun k hlt e=>e.resolve_right (by omega)
theorem Aa7 {p q:Part}(hp:p∈Kn (fs++[q]) qs):p∈Kn fs qs\/p=q:=by
 unfold Kn at*;rcases List.mem_append.1 hp with hp|hp
 ·rcases List.mem_append.1 hp with hp|hp
  ·exact .inl (List.mem_append.2 (.inl hp))
  ·exact .inr (by simpa using hp)
 ·exact .inl (List.mem_append.2 (.inr hp))
theorem Ya {p:Part}{s:Cf}(hp:p∈Kn fs (qs++[s])):p∈Kn fs qs\/p=s.p\/p=s.q:=by
 unfold Kn at*;rcases List.mem_append.1 hp with hp|hp
 ·exact .inl (List.mem_append.2 (.inl hp))
 ·rw[List.flatMap_append]at hp;rcases List.mem_append.1 hp with hp|hp
  ·exact .inl (List.mem_append.2 (.inr hp))
  ·exact .inr (by simpa using hp)
theorem Ef.upd (h:Ef bp bm bf bo W1 i vf vo fs qs D X){D':DataW Unit}{j:Nat}(hg:X.grownBy X' (some bm))(hm:X'.ownsMap Tryz.prog 9 (plainElem (H:=Unit) Tryz.prog 3) bm j D'):
  Ef bp bm bf bo W1 j vf vo fs qs D' X'/\Aj (fun k=>k=bm) X X':=by
 have hK:Aj (fun k=>k=bm) X X':=(Aj.refl (fun k=>k=bm) X).grown hg (fun k e=>by injection e with e;exact .inl e.symm);have hs:=h.kp.size;have hl:=h.lt;have ho:∀k,k<X.heap.size->k≠bm->X'.heap[k]? =X.heap[k]? :=fun k hk hn=>hK.block k hk hn
 refine⟨⟨h.lt,(ho _ (by omega) hl.2.2.2.2.1).trans h.cp,(ho _ (by omega) (fun e=>hl.2.2.2.2.2.2.2.1 e.symm)).trans h.cf,(ho _ (by omega) (fun e=>hl.2.2.2.2.2.2.2.2.1 e.symm)).trans h.co,hm,B0 h.of fun k e=>ho k (h.of.lt k e).2 (by have:=(h.of.lt k e).1;omega),
  B0 h.oo fun k e=>ho k (h.oo.lt k e).2 (by have:=(h.oo.lt k e).1;omega),fun p hp=>(h.pw p hp).keep hK fun hn ad had e=>by have:=(h.pd p hp ad had).1;omega,h.pd,h.fo,h.kp.trans (hK.mono fun _ e=> .inl e)⟩,hK⟩
theorem Ef.first (h:Ef bp bm bf bo W1 i vf vo fs qs D X){vf':Value}{p:Part}(hK:Aj (fun k=>vf.ownBlock=some k\/k=bf) X X')(hc:X'.heap[bf]? =some (.cells #[vf'] 46 (0,0)))
  (ho:X'.ownsRow W1.heap.size 32 1 vf' (fs++[p]).length ((fs++[p]).map Part.val)) (a1:∀k,vf'.ownBlock=some k->vf.ownBlock=some k\/X.heap.size<=k) (hp:Ad X p.1 p.2.1 p.2.2.1 p.2.2.2)
  (hd:∀ad,p.1=some ad->W1.heap.size<=ad.block∧¬Fc bm bf bo vf vo fs qs ad.block):Ef bp bm bf bo W1 i vf' vo (fs++[p]) qs D X'∧
   ∀k,Fc bm bf bo vf' vo (fs++[p]) qs k->Fc bm bf bo vf vo fs qs k\/X.heap.size<=k\/(0<p.2.1∧∃ad,p.1=some ad/\ad.block=k):=by
 have hs:=h.kp.size;have hl:=h.lt;have a4:∀k,vf.ownBlock=some k->W1.heap.size<=k:=fun k e=>(h.of.lt k e).1
 have a2:∀k,k<W1.heap.size->k≠bf→¬(vf.ownBlock=some k\/k=bf):=fun k h1 h2 e=>e.elim (fun e=>by have:=a4 k e;omega) h2
 have a6:0<p.2.1→∀ad,p.1=some ad->ad.block<X.heap.size:=fun hn ad a0=>by
  obtain⟨b,off,hb,a5,_⟩:=hp.2.2.2.2 hn;rw[a0]at hb;injection hb with hb;subst hb
  exact a5
 have a3:∀q∈Kn (fs++[p]) qs,Ad X q.1 q.2.1 q.2.2.1 q.2.2.2∧∀ad,q.1=some ad->W1.heap.size<=ad.block/\(0<q.2.1->ad.block<X.heap.size∧¬vf.ownBlock=some ad.block∧¬vo.ownBlock=some ad.block):=by
  intro q hq;rcases Aa7 hq with hq|rfl
  ·exact⟨h.pw q hq,fun ad a0=>⟨(h.pd q hq ad a0).1,fun hn=>⟨h.wlt hq hn a0,(h.pd q hq ad a0).2 hn⟩⟩⟩
  ·exact⟨hp,fun ad a0=>⟨(hd ad a0).1,fun hn=>⟨a6 hn ad a0,fun e=>(hd ad a0).2 (.inr (.inr (.inr (.inl e)))),fun e=>(hd ad a0).2 (.inr (.inr (.inr (.inr (.inl e)))))⟩⟩⟩
 refine⟨⟨h.lt,(hK.block _ (lt_of_block h.cp) (a2 _ hl.1 hl.2.2.2.2.2.1)).trans h.cp,hc,(hK.block _ (lt_of_block h.co) (a2 _ hl.2.2.2.1 (fun e=>hl.2.2.2.2.2.2.2.2.2 e.symm))).trans h.co, ?_,ho,
  B0 h.oo fun k e=>hK.block k (h.oo.lt k e).2 (fun e2=>e2.elim (fun e2=>h.fo k e2 e) (fun e2=>by have:=(h.oo.lt k e).1;omega)),fun q hq=> ?_,fun q hq ad a0=> ?_,fun k e e2=> ?_, ?_⟩,fun k hk=> ?_⟩
 ·obtain⟨es,clock,hb,r⟩:=h.om;exact⟨es,clock,(hK.block _ h.om.lt (a2 _ hl.2.1 hl.2.2.2.2.2.2.2.1)).trans hb,r⟩
 ·refine(a3 q hq).1.keep hK fun hn ad a0 e=> ?_
  have h1:=(a3 q hq).2 ad a0;rcases e with e|e
  ·exact(h1.2 hn).2.1 e
  ·omega
 ·have h1:=(a3 q hq).2 ad a0;refine⟨h1.1,fun hn=>⟨fun e=> ?_,(h1.2 hn).2.2⟩⟩
  rcases a1 _ e with e|e
  ·exact(h1.2 hn).2.1 e
  ·have:=(h1.2 hn).1;omega
 ·rcases a1 k e with e|e
  ·exact h.fo k e e2
  ·have:=(h.oo.lt k e2).2;omega
 ·refine((h.kp.mono (S':=fun k=>(k=bm\/k=bf\/k=bo)\/W1.heap.size<=k) (fun _ e=> .inl e)).trans (hK.mono (S':=fun k=>(k=bm\/k=bf\/k=bo)\/W1.heap.size<=k) fun k e=> ?_)).old fun k a5 e=>e.resolve_right (by omega)
  rcases e with e|e
  ·exact .inr (a4 k e)
  ·exact .inl (.inr (.inl e))
 ·rcases hk with e|e|e|e|e|⟨q,hq,hn,ad,a0,e⟩
  ·exact .inl (.inl e)
  ·exact .inl (.inr (.inl e))
  ·exact .inl (.inr (.inr (.inl e)))
  ·rcases a1 k e with e|e
   ·exact .inl (.inr (.inr (.inr (.inl e))))
   ·exact .inr (.inl e)
  ·exact .inl (.inr (.inr (.inr (.inr (.inl e)))))
  ·rcases Aa7 hq with hq|rfl
   ·exact .inl (.inr (.inr (.inr (.inr (.inr ⟨q,hq,hn,ad,a0,e⟩)))))
   ·exact .inr (.inr ⟨hn,ad,a0,e⟩)
theorem Ef.pair (h:Ef bp bm bf bo W1 i vf vo fs qs D X){vo':Value}{s:Cf}(hK:Aj (fun k=>vo.ownBlock=some k\/k=bo) X X')(hc:X'.heap[bo]? =some (.cells #[vo'] 47 (0,0)))
  (ho:X'.ownsRow W1.heap.size 52 2 vo' (qs++[s]).length ((qs++[s]).flatMap Cf.cells)) (a1:∀k,vo'.ownBlock=some k->vo.ownBlock=some k\/X.heap.size<=k)
  (hp:∀p,p=s.p\/p=s.q->Ad X p.1 p.2.1 p.2.2.1 p.2.2.2∧∀ad,p.1=some ad->W1.heap.size<=ad.block∧¬Fc bm bf bo vf vo fs qs ad.block):Ef bp bm bf bo W1 i vf vo' fs (qs++[s]) D X'∧
   ∀k,Fc bm bf bo vf vo' fs (qs++[s]) k->Fc bm bf bo vf vo fs qs k\/X.heap.size<=k∨∃p,(p=s.p\/p=s.q)/\0<p.2.1∧∃ad,p.1=some ad/\ad.block=k:=by
 have hs:=h.kp.size;have hl:=h.lt;have a4:∀k,vo.ownBlock=some k->W1.heap.size<=k:=fun k e=>(h.oo.lt k e).1
 have a2:∀k,k<W1.heap.size->k≠bo→¬(vo.ownBlock=some k\/k=bo):=fun k h1 h2 e=>e.elim (fun e=>by have:=a4 k e;omega) h2
 have a3:∀q∈Kn fs (qs++[s]),Ad X q.1 q.2.1 q.2.2.1 q.2.2.2∧∀ad,q.1=some ad->W1.heap.size<=ad.block/\(0<q.2.1->ad.block<X.heap.size∧¬vf.ownBlock=some ad.block∧¬vo.ownBlock=some ad.block):=by
  intro q hq;rcases Ya hq with hq|hq
  ·exact⟨h.pw q hq,fun ad a0=>⟨(h.pd q hq ad a0).1,fun hn=>⟨h.wlt hq hn a0,(h.pd q hq ad a0).2 hn⟩⟩⟩
  ·refine⟨(hp q hq).1,fun ad a0=>⟨((hp q hq).2 ad a0).1,fun hn=>⟨?_,fun e=>((hp q hq).2 ad a0).2 (.inr (.inr (.inr (.inl e)))),fun e=>((hp q hq).2 ad a0).2 (.inr (.inr (.inr (.inr (.inl e)))))⟩⟩⟩
   obtain⟨b,off,hb,a5,_⟩:=(hp q hq).1.2.2.2.2 hn;rw[a0]at hb;injection hb with hb;subst hb
   exact a5
 refine⟨⟨h.lt,(hK.block _ (lt_of_block h.cp) (a2 _ hl.1 hl.2.2.2.2.2.2.1)).trans h.cp,(hK.block _ (lt_of_block h.cf) (a2 _ hl.2.2.1 hl.2.2.2.2.2.2.2.2.2)).trans h.cf,hc, ?_,
  B0 h.of fun k e=>hK.block k (h.of.lt k e).2 (fun e2=>e2.elim (fun e2=>h.fo k e e2) (fun e2=>by have:=(h.of.lt k e).1;omega)),ho,fun q hq=> ?_,fun q hq ad a0=> ?_,fun k e e2=> ?_, ?_⟩,fun k hk=> ?_⟩
 ·obtain⟨es,clock,hb,r⟩:=h.om;exact⟨es,clock,(hK.block _ h.om.lt (a2 _ hl.2.1 hl.2.2.2.2.2.2.2.2.1)).trans hb,r⟩
 ·refine(a3 q hq).1.keep hK fun hn ad a0 e=> ?_
  have h1:=(a3 q hq).2 ad a0;rcases e with e|e
  ·exact(h1.2 hn).2.2 e
  ·omega
 ·have h1:=(a3 q hq).2 ad a0;refine⟨h1.1,fun hn=>⟨(h1.2 hn).2.1,fun e=> ?_⟩⟩
  rcases a1 _ e with e|e
  ·exact(h1.2 hn).2.2 e
  ·have:=(h1.2 hn).1;omega
 ·rcases a1 k e2 with e2|e2
  ·exact h.fo k e e2
  ·have:=(h.of.lt k e).2;omega
 ·refine((h.kp.mono (S':=fun k=>(k=bm\/k=bf\/k=bo)\/W1.heap.size<=k) (fun _ e=> .inl e)).trans (hK.mono (S':=fun k=>(k=bm\/k=bf\/k=bo)\/W1.heap.size<=k) fun k e=> ?_)).old fun k a5 e=>e.resolve_right (by omega)
  rcases e with e|e
  ·exact .inr (a4 k e)
  ·exact .inl (.inr (.inr e))
 ·rcases hk with e|e|e|e|e|⟨q,hq,hn,ad,a0,e⟩
  ·exact .inl (.inl e)
  ·exact .inl (.inr (.inl e))
  ·exact .inl (.inr (.inr (.inl e)))
  ·exact .inl (.inr (.inr (.inr (.inl e))))
  ·rcases a1 k e with e|e
   ·exact .inl (.inr (.inr (.inr (.inr (.inl e)))))
   ·exact .inr (.inl e)
  ·rcases Ya hq with hq|hq
   ·exact .inl (.inr (.inr (.inr (.inr (.inr ⟨q,hq,hn,ad,a0,e⟩)))))
   ·exact .inr (.inr ⟨q,hq,hn,ad,a0,e⟩)
theorem Ef.below (h:Ef bp bm bf bo W1 i vf vo fs qs D X)(hb:Below X.heap.size X X'):Ef bp bm bf bo W1 i vf vo fs qs D X':=h.keep (Bc hb)
end
end Go.Proofs.YtlgliddhideflaaGreatDoor
namespace Go.Proofs
open Go.Shelf
def Tryz.lays169_ren:Go.Shelf.Ren:=⟨fun|169=>171|n=>n,fun|70=>200|9=>9|0=>0|72=>202|37=>101|127=>237|3=>3|5=>5|n=>n,fun|n=>n⟩
theorem Tryz.lays169:Go.Proofs.Lays.n169 Tryz.prog Tryz.lays169_ren:={
 mixed:=by kernel_rfl
 f169:=Tryz.func171.trans (congrArg some (by kernel_rfl))
 t0:=Tryz.underlying0
 a0:=Tryz.isAgg0
 z0:=Tryz.sizeOf0
 v0:=Tryz.zeroValue0
 t3:=Tryz.underlying3
 a3:=Tryz.isAgg3
 z3:=Tryz.sizeOf3
 v3:=Tryz.zeroValue3
 t9:=Tryz.underlying9
 a9:=Tryz.isAgg9
 z9:=Tryz.sizeOf9
 v9:=Tryz.zeroValue9
 t37:=Tryz.underlying101
 a37:=Tryz.isAgg101
 z37:=Tryz.sizeOf101
 v37:=Tryz.zeroValue101
 t70:=Tryz.underlying200
 a70:=Tryz.isAgg200
 z70:=Tryz.sizeOf200
 v70:=Tryz.zeroValue200
 t72:=Tryz.underlying202
 a72:=Tryz.isAgg202
 z72:=Tryz.sizeOf202
 v72:=Tryz.zeroValue202
 t127:=Tryz.underlying237
 a127:=Tryz.isAgg237
 z127:=Tryz.sizeOf237
 v127:=Tryz.zeroValue237}
end Go.Proofs
