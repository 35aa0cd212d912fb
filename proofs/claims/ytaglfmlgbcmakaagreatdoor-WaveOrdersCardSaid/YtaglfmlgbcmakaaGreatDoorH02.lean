/-
  The nearest open point first (chapter 36), in plain words: how long it goes on, and how large the numbers become.
  cmp.Compare over int64 and int; slices.MinFunc and slices.DeleteFunc as points.Map's from calls them.
  slices.MinFunc and slices.DeleteFunc, as points.Map's from calls them.
  points.Map's from: the distances of all points from one.
  points.Map's Dist and Roads.
  Waves (chapter 38), in plain words: how long ways are, lines that grow, lists of points gone over.
  Waves in memory (chapter 38).
  When a wave arrives at a point: wave.Wave's at.
-/
import Derived.Deep.OwnRows
import Derived.Lib.SliceRun
import Derived.Deep.CutRange
import Derived.Deep.CutBlock
import Derived.Deep.DeepCutAuto
import Derived.Test.YtaglfmlgbcmakaaGreatDoorH01
import Derived.Test.YtaglfmlgbcmakaaGreatDoorG40
import Derived.Test.YtaglfmlgbcmakaaGreatDoorG33
set_option linter.all false
set_option maxRecDepth 100000
set_option maxHeartbeats 4000000
namespace Go.Proofs.YtaglfmlgbcmakaaGreatDoor
open Go.RowKit
set_option maxRecDepth 100000
def Jz (n:Nat)(D:Nat->Option Nat):Nat:=((List.range n).filter fun v=>(D v).isNone).length
theorem Acb {n:Nat}{D:Nat->Option Nat}{x d:Nat}(hx:x<n)(h:D x=none):Jz n (Gx D x d)<Jz n D:=by
 unfold Jz;refine Fr (p:=fun v=>(Gx D x d v).isNone) (q:=fun v=>(D v).isNone) (fun v hv=> ?_) (y:=x) (by simp[Cz]) (by simp[h]) _ (List.mem_range.2 hx);by_cases e:v=x
 ·subst e;simp[h]
 ·rw[C0 _ _ e]at hv;exact hv
theorem Aar {n:Nat}{D:Nat->Option Nat}{x d:Nat}:Jz n (Gx D x d)<=Jz n D:=by
 unfold Jz;refine Nf (p:=fun v=>(Gx D x d v).isNone) (q:=fun v=>(D v).isNone) (fun v hv=> ?_) _;by_cases e:v=x
 ·subst e;rw[Cz]at hv;cases hv
 ·rw[C0 _ _ e]at hv;exact hv
theorem J2 {a:Nat}:∀{op:List Nat},a∈op->(op.filter fun x=> !decide (x=a)).length<op.length
 |y::ys,h=>by
  by_cases e:y=a
  ·subst e;rw[List.filter_cons_of_neg (by simp)]
   have:=List.length_filter_le (fun x=> !decide (x=y)) ys
   simp;omega
  ·rw[List.filter_cons_of_pos (by simp[e])]
   have h':a∈ys:=by
    rcases List.mem_cons.1 h with h|h
    ·exact absurd h.symm e
    ·exact h
   have:=J2 h'
   simp;omega
structure DB (n m:Nat)(D:Nat->Option Nat)(op:List Nat):Prop where
 out:∀v d,D v=some d->v<n
 inn:∀v∈op,v<n
 me:2*Jz n D+op.length<=m
 bd:∀v d,D v=some d->d+m*1073741824<=2*n*1073741824
theorem DB.begin {n a:Nat}(ha:a<n):DB n (2*n-1) (fun v=>if v=a then some 0 else none) [a] where
 out:=fun v d h=>by
  by_cases e:v=a
  ·subst e;exact ha
  ·simp[e]at h
 inn:=fun v hv=>by simp at hv;subst hv;exact ha
 me:=by
  have h1:Jz n (fun v=>if v=a then some 0 else none)<n:=by
   unfold Jz
   have:=Fr (p:=fun v=>(if v=a then some 0 else none:Option Nat).isNone) (q:=fun _=>true) (fun _ _=>rfl) (y:=a) (by simp) rfl (List.range n) (List.mem_range.2 ha)
   rw[List.filter_eq_self.2 (fun _ _=>rfl),List.length_range]at this;exact this
  simp;omega
 bd:=fun v d h=>by
  by_cases e:v=a
  ·subst e;simp at h;subst h;rw[Nat.zero_add];exact Nat.mul_le_mul_right _ (Nat.sub_le (2*n) 1)
  ·simp[e]at h
theorem DB.pos {n m at_:Nat}{D:Nat->Option Nat}{op:List Nat}(h:DB n m D op)(ha:at_∈op):0<m:=by
 have h1:=List.length_pos_of_mem ha;have h2:=h.me;omega
theorem DB.del {n m at_ dAt:Nat}{D:Nat->Option Nat}{op:List Nat}(h:DB n (m+1) D op)(ha:at_∈op)(hd:D at_=some dAt):DB n m D (op.filter fun x=> !decide (x=at_))/\dAt+1073741824+m*1073741824<=2*n*1073741824:=by
 have a0:(op.filter fun x=> !decide (x=at_)).length<op.length:=by
  have:=J2 ha
  exact this
 refine⟨⟨h.out,fun v hv=>h.inn v (List.mem_filter.1 hv).1, ?_,fun v d hv=> ?_⟩, ?_⟩
 ·have:=h.me;omega
 ·have:=h.bd v d hv
  rw[Nat.add_mul m 1,Nat.one_mul]at this;generalize 1073741824=C at this ⊢;generalize 2*n*C=X at this ⊢;omega
 ·have:=h.bd at_ dAt hd
  rw[Nat.add_mul m 1,Nat.one_mul]at this;generalize 1073741824=C at this ⊢;generalize 2*n*C=X at this ⊢;omega
theorem DB.relax {n m dAt x l:Nat}{D:Nat->Option Nat}{op:List Nat}(h:DB n m D op)(hb:dAt+1073741824+m*1073741824<=2*n*1073741824)(hx:x<n)(hl:l<=1073741824):DB n m (Ld dAt x l (D,op)).1 (Ld dAt x l (D,op)).2:=by
 have a0:∀v d,Gx D x (dAt+l) v=some d->v<n:=fun v d hv=>by
  by_cases e:v=x
  ·subst e;exact hx
  ·rw[C0 _ _ e]at hv;exact h.out v d hv
 have a1:∀v d,Gx D x (dAt+l) v=some d->d+m*1073741824<=2*n*1073741824:=fun v d hv=>by
  by_cases e:v=x
  ·subst e;rw[Cz]at hv;cases hv;omega
  ·rw[C0 _ _ e]at hv;exact h.bd v d hv
 unfold Ld;dsimp only
 cases hD:D x with
 |none=>
  refine⟨a0,fun v hv=> ?_, ?_,a1⟩
  ·rcases List.mem_append.1 hv with hv|hv
   ·exact h.inn v hv
   ·have:v=x:=by simpa using hv
    subst this;exact hx
  ·have h1:=Acb (d:=dAt+l) hx hD;have h2:=h.me;show 2*Jz n (Gx D x (dAt+l))+(op++[x]).length<=m;rw[List.length_append];simp only[List.length_cons,List.length_nil];omega
 |some dx=>
  dsimp only;split
  ·exact h
  ·refine⟨a0,h.inn, ?_,a1⟩;have h1:=Aar (n:=n) (D:=D) (x:=x) (d:=dAt+l);have h2:=h.me;show 2*Jz n (Gx D x (dAt+l))+op.length<=m;omega
end Go.Proofs.YtaglfmlgbcmakaaGreatDoor
namespace Go.Proofs.YtaglfmlgbcmakaaGreatDoor
open Go.RowKit Go.Shelf Go.Sort Go.Lib
def Dg (x y:Int):Int:=if x<y then-1 else if y<x then 1 else 0
theorem M9 (x:Int)(w:World):Calls Tryz.prog 118 #[.int .i64 x] w fun e w'=>e= .returned (.bool false)/\w'=w:=by
 go_enter Tryz.func118,Tryz.ntmps118;go_wp2;go_ret;simp
theorem Uz (x y:Int)(w:World):Calls Tryz.prog 79 #[.int .i64 x, .int .i64 y] w fun e w'=>e= .returned (.int .i64 (Dg x y))/\w'=w:=by
 go_enter Tryz.func79,Tryz.ntmps79;by_cases h1:x<y
 ·have h2:Dg x y= -1:=by unfold Dg;rw[if_pos h1]
  rw[h2];go_wp2_with(go_at_call 118;refine(M9 _ _).mono ?_;rintro e w1 ⟨rfl,rfl⟩);go_ret;exact⟨rfl,rfl⟩
 ·by_cases h2:y<x
  ·have h3:Dg x y=1:=by unfold Dg;rw[if_neg h1,if_pos h2]
   rw[h3];go_wp2_with(go_at_call 118;refine(M9 _ _).mono ?_;rintro e w1 ⟨rfl,rfl⟩);go_ret;exact⟨rfl,rfl⟩
  ·have h3:Dg x y=0:=by unfold Dg;rw[if_neg h1,if_neg h2]
   rw[h3];go_wp2_with(go_at_call 118;refine(M9 _ _).mono ?_;rintro e w1 ⟨rfl,rfl⟩);go_ret;exact⟨rfl,rfl⟩
def E9 (n:Nat)(f:Nat->Int):Array Value:=((List.range n).map fun v=>Value.int .i64 (f v)).toArray
theorem Z7 {n v:Nat}(f:Nat->Int)(h:v<n):(E9 n f)[v]? =some (.int .i64 (f v)):=by
 unfold E9;simp[h]
theorem Qq {n k:Nat}{f g:Nat->Int}{x:Int}(hk:g k=x)(h:∀v,v<n->v≠k->g v=f v):(E9 n f).setIfInBounds k (.int .i64 x)=E9 n g:=by
 unfold E9;apply Array.ext
 ·simp
 ·intro i h1 h2;have hi:i<n:=by simpa using h2
  by_cases e:i=k
  ·subst e;simp[hk]
  ·simp[Ne.symm e,h i hi e]
theorem Ks {n v g:Nat}{f:Nat->Int}{t:TypeId}{w:World}(hg:w.heap[g]? =some (.cells (E9 n f) t (0,0)))(h:v<n):w.cell? ⟨g,v,none⟩=some (.int .i64 (f v)):=Ad hg (Z7 f h)
theorem Na (n:Nat):madeCells #[.int .i64 0] n=E9 n fun _=>0:=by
 unfold madeCells E9;apply Array.ext
 ·simp
 ·intro i h1 h2;simp[Nat.mod_one]
abbrev Af7 (n:Nat)(D:Nat->Option Nat):Array Value:=E9 n fun v=>Bj (D v)
theorem Z8 {n v:Nat}(D:Nat->Option Nat)(h:v<n):(Af7 n D)[v]? =some (.int .i64 (Bj (D v))):=Z7 _ h
theorem Wy:(Tryz.prog.info? 2).map (fun i=>(i.zero,i.size,i.bytes))=some (some (.int .i64 0),1,8):=by kernel_rfl
theorem Ad5 (n x y bx gd:Nat)(D:Nat->Option Nat)(hx:x<n)(hy:y<n)(w:World)(hbx:w.heap[bx]? =some (.cells #[.slice (some ⟨gd,0,none⟩) n n] 42 (0,0)))(hgd:w.heap[gd]? =some (.cells (Af7 n D) 2 (0,0))):
  Calls Tryz.prog 106 #[.int .i64 (x:Int), .int .i64 (y:Int), .pointer (some ⟨bx,0,none⟩)] w fun e w'=>e= .returned (.int .i64 (Dg (Bj (D x)) (Bj (D y))))/\w'=w.drewN 1:=by
 have c0:w.cell? ⟨bx,0,none⟩=some (.slice (some ⟨gd,0,none⟩) n n):=by simp[World.cell?,hbx]
 have cx:w.cell? ⟨gd,x,none⟩=some (.int .i64 (Bj (D x))):=by simp[World.cell?,hgd,Z8 D hx]
 have cy:w.cell? ⟨gd,y,none⟩=some (.int .i64 (Bj (D y))):=by simp[World.cell?,hgd,Z8 D hy]
 have a0:(x:Int)<(n:Int):=by omega
 have a1:(y:Int)<(n:Int):=by omega
 clear hbx hgd hx hy;go_enter Tryz.func106,Tryz.ntmps106;go_wp2_with fail;refine Bm (fun W'=>W'.cell? ⟨bx,0,none⟩=some (.slice (some ⟨gd,0,none⟩) n n)/\W'.cell? ⟨gd,x,none⟩=some (.int .i64 (Bj (D x)))/\W'.cell? ⟨gd,y,none⟩=some (.int .i64 (Bj (D y)))) (by kernel_rfl) ⟨c0,cx,cy⟩ (fun hHeld=> ?_)
 (refine' Ae 0 rfl ?_;(try simp only[Act.put,nY,nX]));(refine' Ae 1 rfl ?_;(try simp only[Act.put,nY,nX]));(refine' Ae 2 rfl ?_;(try simp only[Act.put,nY,nX]));(refine' Ae 3 rfl ?_;(try simp only[Act.put,nY,nX]));(refine' Ae 4 rfl ?_;(try simp only[Act.put,nY,nX]));(refine' Ae 5 rfl ?_;(try simp only[Act.put,nY,nX]));(refine' Ae 6 rfl ?_;(try simp only[Act.put,nY,nX]));(refine' Ae 7 rfl ?_;(try simp only[Act.put,nY,nX]))
 (refine Aim 8 rfl (fun K' hK'=> ?_);simp only[nY];go_simp)
 refine(Uz (Bj (D x)) (Bj (D y)) _).mono ?_;rintro e w1 ⟨rfl,rfl⟩;refine hK' _ _ ⟨.inr hHeld,fun _=> ?_⟩
 clear hK' K'
 (try simp only[Act.put,nY,nX])
 (refine Aim 9 rfl (fun K' hK'=> ?_);simp only[nY];go_simp)
 refine hK' _ _ ⟨.inl (by kernel_rfl),fun _=>Bg (by kernel_rfl) ?_ _⟩
 clear hK' K';go_wp2;go_ret;exact⟨rfl,rfl⟩
theorem Wz {α:Type} [Inhabited α](f:α->Int)(d:Array α):∀i,(∃j,j<=i/\pickBy (fun x m=>decide (Dg (f x) (f m)<0)) d i=d[j]!)∧∀j,j<=i->f (pickBy (fun x m=>decide (Dg (f x) (f m)<0)) d i)<=f d[j]!
 |0=>by
  refine⟨⟨0,rr,rfl⟩,fun j hj=> ?_⟩
  have:j=0:=by omega
  subst this;exact Int.le_refl _
 |i+1=>by
  obtain⟨⟨j,hj,e⟩,h⟩:=Wz f d i;have a0:∀x y:Int,decide (Dg x y<0)=decide (x<y):=fun x y=>by unfold Dg;by_cases h1:x<y<;>by_cases h2:y<x<;>simp[h1,h2]
  unfold pickBy;by_cases hb:decide (Dg (f d[i+1]!) (f (pickBy (fun x m=>decide (Dg (f x) (f m)<0)) d i))<0)=true
  ·rw[if_pos hb];rw[a0,decide_eq_true_eq]at hb;refine⟨⟨i+1,rr,rfl⟩,fun k hk=> ?_⟩
   rcases Nat.lt_or_ge i k with a1|a1
   ·obtain rfl:k=i+1:=by omega
    exact Int.le_refl _
   ·have:=h k a1;omega
  ·rw[if_neg hb];rw[a0,decide_eq_true_eq]at hb;refine⟨⟨j,by omega,e⟩,fun k hk=> ?_⟩
   rcases Nat.lt_or_ge i k with a1|a1
   ·obtain rfl:k=i+1:=by omega
    omega
   ·exact h k a1
theorem Kc {α:Type} [Inhabited α]{enc:α->Value}(w:World)(g m:Nat)(d:Array α)(os:Array Obj):Ak (fun k=>k=g) w (sortWorld enc w g 0 m d os):=by
 unfold sortWorld putRow mapBlock Sort.grow Sort.ahead;refine⟨rfl,rfl,rfl,by simp,fun k hk hs=> ?_⟩
 simp only;rw[Array.getElem?_append_left (by simpa using hk),Array.getElem?_modify,if_neg (fun e=>hs e.symm)]
theorem Zb (w:World)(m:Nat)(os:Array Obj):Below w.heap.size w (grow (w.drewN m) os):=by
 refine⟨rfl,rfl,rfl,by simp[grow],fun k hk=> ?_⟩
 unfold grow;simp only;rw[Array.getElem?_append_left (by simpa using hk)];rfl
theorem Mg {α:Type} [Inhabited α]{enc:α->Value}{w:World}{g:Nat}{d:Array α}{cur:Array Value}{t:TypeId}(hg:w.heap[g]? =some (.cells cur t (0,0)))(h:∀(j:Nat) (x:α),d[j]? =some x->cur[j]? =some (enc x)):Holds enc w g 0 d:=by
 intro j hj;have hx:d[j]? =some d[j]! :=by rw[getElem!_pos d j hj];exact Array.getElem?_eq_getElem hj
 refine⟨?_, ?_⟩
 ·simp[World.cell?,hg,h j _ hx]
 ·simp[World.frozen?,hg]
theorem Aie (n:Nat)(D:Nat->Option Nat)(op:List Nat)(g gd bx cap:Nat)(w:World)(cur:Array Value)(hg:w.heap[g]? =some (.cells cur 3 (0,0)))(hc:∀(j x:Nat),op[j]? =some x->cur[j]? =some (.int .i64 (x:Int)))
  (hin:∀x∈op,x<n) (h0:0<op.length) (hl:op.length<=4000) (hbx:w.heap[bx]? =some (.cells #[.slice (some ⟨gd,0,none⟩) n n] 42 (0,0))) (hgd:w.heap[gd]? =some (.cells (Af7 n D) 2 (0,0))) (h1:bx≠g) (h2:gd≠g):
  Calls Tryz.prog 107 #[.slice (some ⟨g,0,none⟩) op.length cap, .func (.func 106) #[] #[.pointer (some ⟨bx,0,none⟩)]] w fun e w'=>
   ∃x:Nat,e= .returned (.int .i64 (x:Int))/\x∈op/\(∀v∈op,Bj (D x)<=Bj (D v))/\Below w.heap.size w w':=by
 haveI:Inhabited {x:Nat//x<n}:=⟨⟨op[0],hin _ (List.getElem_mem h0)⟩⟩
 obtain⟨d,hd⟩:∃d:Array {x:Nat//x<n},d.toList.map (·.1)=op:=
  ⟨(op.attach.map fun p=>⟨p.1,hin p.1 p.2⟩).toArray,by simp only[List.map_map,Function.comp_def];exact List.attach_map_subtype_val op⟩
 have a5:d.size=op.length:=by rw[←hd];simp
 have a3:∀j (x:{x:Nat//x<n}),d[j]? =some x->op[j]? =some x.1:=fun j x hx=>by
  rw[←hd,List.getElem?_map,Array.getElem?_toList,hx];rfl
 have a0:=Any.slices_MinFunc Tryz.minI (fun x:{x:Nat//x<n}=>Value.int .i64 (x.1:Int)) (fun _=>rfl) (fun x y=>Dg (Bj (D x.1)) (Bj (D y.1))) 106 #[.pointer (some ⟨bx,0,none⟩)] g 0 cap d w
  (enters_of Tryz.func106 (by kernel_rfl) rfl) (fun m os dk _ x y=> ?hcmp) (Mg hg fun j x hx=>hc j _ (a3 j x hx)) (lt_of_block hg) (by omega) (by omega)
 case hcmp=>
  have hK:=Kc (enc:=fun x:{x:Nat//x<n}=>Value.int .i64 (x.1:Int)) w g m dk os;refine(Ad5 n x.1 y.1 bx gd D x.2 y.2 _ ((hK.block bx (lt_of_block hbx) h1).trans hbx) ((hK.block gd (lt_of_block hgd) h2).trans hgd)).mono ?_;rintro e w' ⟨e1,e2⟩;exact⟨e1,1, #[],by rw[e2,grow_empty]⟩
 rw[a5]at a0;refine Calls.mono a0 ?_;rintro e w' ⟨rfl,m,os,rfl⟩;obtain⟨⟨j,hj,hp⟩,a2⟩:=Wz (fun x:{x:Nat//x<n}=>Bj (D x.1)) d (op.length-1);have a4:j<d.size:=by omega
 refine⟨_,rfl, ?_,fun v hv=> ?_, ?_⟩
 ·rw[hp,←hd,getElem!_pos d j a4];exact List.mem_map.2 ⟨_,by simp,rfl⟩
 ·rw[←hd]at hv;obtain⟨y,hy,rfl⟩:=List.mem_map.1 hv;obtain⟨k,hk,rfl⟩:=List.getElem_of_mem hy;have a6:k<d.size:=by simpa using hk
  have:=a2 k (by omega)
  rw[getElem!_pos d k a6]at this;simpa using this
 ·have a1:putRow (fun x:{x:Nat//x<n}=>Value.int .i64 (x.1:Int)) (Sort.ahead w m) g 0 d=Sort.ahead w m:=putRow_self _ _ _ _ d (holds_ahead _ w m g 0 d (Mg hg fun j x hx=>hc j _ (a3 j x hx)));unfold sortWorld;rw[a1];exact Zb w m os
theorem Ad6 (x at_ ba:Nat)(w:World)(hba:w.heap[ba]? =some (.cells #[.int .i64 (at_:Int)] 3 (0,0))):
  Calls Tryz.prog 109 #[.int .i64 (x:Int), .pointer (some ⟨ba,0,none⟩)] w fun e w'=>e= .returned (.bool (decide (x=at_)))/\w'=w:=by
 have c0:w.cell? ⟨ba,0,none⟩=some (.int .i64 (at_:Int)):=by simp[World.cell?,hba]
 clear hba;go_enter Tryz.func109,Tryz.ntmps109;go_wp2;go_ret;refine⟨?_,rfl⟩;congr 2;by_cases h:x=at_
 ·subst h;simp
 ·have h':¬(x:Int)=(at_:Int):=by omega
  simp[h,h']
def D7 (w:World)(base g cap:Nat)(op:List Nat):Prop:=w.ownsRow base 3 1 (.slice (some ⟨g,0,none⟩) op.length cap) op.length (op.map fun(x:Nat)=>Value.int .i64 (x:Int))
theorem D7.block {w:World}{base g cap:Nat}{op:List Nat}(h:D7 w base g cap op):base<=g/\op.length<=cap/\cap<=maxLen∧∃cur:Array Value,w.heap[g]? =some (.cells cur 3 (0,0))/\cur.size=cap/\cur.toList.take op.length=op.map (fun(x:Nat)=>Value.int .i64 (x:Int)):=by
 rcases h.2 with⟨hv,_⟩|⟨g',cap',cur,hv,hb,hg,a1,a0,a2,ht⟩
 ·cases hv
 ·injection hv with hA _ hc
  injection hA with hA
  injection hA with hA
  subst hA hc;exact⟨hb,a1,a0,cur,hg,by omega,by rw[Nat.mul_one]at ht;exact ht⟩
theorem D7.heap {w w':World}{base g cap:Nat}{op:List Nat}(h:D7 w base g cap op)(hg:w'.heap[g]? =w.heap[g]?):D7 w' base g cap op:=by
 refine⟨h.1, ?_⟩;rcases h.2 with hn|⟨g',cap',cur,hv,h1,a0,rest⟩
 ·exact Or.inl hn
 ·have e:g'=g:=by injection hv with hA;injection hA with hA;injection hA with hA;exact hA.symm
  subst e;exact Or.inr ⟨g',cap',cur,hv,h1,hg.trans a0,rest⟩
theorem D7.below {w w':World}{base g cap:Nat}{op:List Nat}(h:D7 w base g cap op)(hb:Below w.heap.size w w'):D7 w' base g cap op:=by
 obtain⟨_,_,_,cur,hg,_⟩:=h.block;exact h.heap (hb.block g (lt_of_block hg))
theorem Mh {cur:Array Value}{op:List Nat}(h:cur.toList.take op.length=op.map fun(x:Nat)=>Value.int .i64 (x:Int))(j x:Nat)(hx:op[j]? =some x):cur[j]? =some (.int .i64 (x:Int)):=by
 have hj:=(List.getElem?_eq_some_iff.1 hx).1;have h1:=congrArg (fun l:List Value=>l[j]?) h;simp only[List.getElem?_take,if_pos hj,List.getElem?_map,hx,Option.map_some]at h1;simpa using h1
theorem Aif (op:List Nat)(at_ base g ba cap:Nat)(w:World)(hO:D7 w base g cap op)(hba:w.heap[ba]? =some (.cells #[.int .i64 (at_:Int)] 3 (0,0)))(h1:ba≠g):
  Calls Tryz.prog 108 #[.slice (some ⟨g,0,none⟩) op.length cap, .func (.func 109) #[] #[.pointer (some ⟨ba,0,none⟩)]] w fun e w'=>
   e= .returned (.slice (some ⟨g,0,none⟩) (op.filter fun x=> !decide (x=at_)).length cap)/\D7 w' base g cap (op.filter fun x=> !decide (x=at_))/\Ak (fun k=>k=g) w w':=by
 obtain⟨hb,a4,a2,cur,hg,a6,ht⟩:=hO.block;have a5:cap<=9223372036854775807:=a2;have hH:Holds (fun x:Nat=>Value.int .i64 (x:Int)) w g 0 op.toArray:=Mg hg fun j x hx=>Mh ht j x (by simpa using hx)
 have a1:=lt_of_block hba
 have a0:=AnyE.slices_DeleteFunc Tryz.delI (fun x:Nat=>Value.int .i64 (x:Int)) (fun _=>rfl) (fun x=>decide (x=at_)) 109 #[.pointer (some ⟨ba,0,none⟩)] (enters_of Tryz.func109 (by kernel_rfl) rfl) 0 Tryz.zeroValue3 g 0 cap op.toArray w
  (fun W x hb'=> ?hp) (fun m os dk x _=> ?hpo) hH (by simp;omega) (by simpa using a4)
 case hp=>
  refine(Ad6 x at_ ba W ((hb'.block ba a1).trans hba)).mono ?_;rintro e w' ⟨e1,e2⟩;exact⟨e1,0,e2⟩
 case hpo=>
  have hK:=Kc (enc:=fun x:Nat=>Value.int .i64 (x:Int)) w g m dk os;refine(Ad6 x at_ ba _ ((hK.block ba a1 h1).trans hba)).mono ?_;rintro e w' ⟨e1,e2⟩;exact⟨e1,0,e2⟩
 rw[show op.toArray.toList=op from rfl,show op.toArray.size=op.length from by simp]at a0;refine Calls.mono a0 ?_;obtain⟨r,hr⟩:∃r,r=op.filter fun x=> !decide (x=at_):=⟨_,rfl⟩
 rw[←hr];have a7:r.length<=op.length:=by rw[hr];exact List.length_filter_le _ _
 rintro e w' ⟨rfl,q,rfl⟩
 have hK:Ak (fun k=>k=g) w (putRow (fun x:Nat=>Value.int .i64 (x:Int)) (Sort.ahead w q) g 0 (r++List.replicate (op.length-r.length) 0).toArray):=by
  have hK:=Kc (enc:=fun x:Nat=>Value.int .i64 (x:Int)) w g q (r++List.replicate (op.length-r.length) 0).toArray #[];unfold sortWorld at hK;rwa[grow_empty]at hK
 refine⟨rfl, ?_,hK⟩;refine⟨by simp,Or.inr ⟨g,cap,putCells (fun x:Nat=>Value.int .i64 (x:Int)) 0 (r++List.replicate (op.length-r.length) 0).toArray cur,rfl,hb, ?_,by omega,a2,by unfold putCells;simp;omega, ?_⟩⟩
 ·have hl:=lt_of_block hg;unfold putRow mapBlock Sort.ahead;simp only;rw[Array.getElem?_modify,if_pos rfl,hg];rfl
 ·rw[Nat.mul_one];apply List.ext_getElem?;intro j;rw[List.getElem?_take,List.getElem?_map];by_cases hj:j<r.length
  ·rw[if_pos hj,List.getElem?_eq_getElem hj];have a3:j<cur.size:=by omega
   unfold putCells;rw[Array.getElem?_toList,Array.getElem?_mapIdx,Array.getElem?_eq_getElem a3,Option.map_some,if_pos ⟨Nat.zero_le _,by simp;omega⟩,Nat.sub_zero,getElem!_pos _ j (by simp;omega)];simp[List.getElem_append_left hj]
  ·rw[if_neg hj,List.getElem?_eq_none (by omega)];rfl
end Go.Proofs.YtaglfmlgbcmakaaGreatDoor
namespace Go.Proofs.YtaglfmlgbcmakaaGreatDoor
open Go.RowKit Go.Shelf
structure FrD (w:World)(bx gd n:Nat)(f:Nat->Int)(wr:World):Prop where
 hx:wr.heap[bx]? =some (.cells #[.slice (some ⟨gd,0,none⟩) n n] 42 (0,0))
 hd:wr.heap[gd]? =some (.cells (E9 n f) 2 (0,0))
 hb:Below w.heap.size w wr
theorem FrD.cx {w:World}{bx gd n:Nat}{f:Nat->Int}{wr:World}(h:FrD w bx gd n f wr):wr.cell? ⟨bx,0,none⟩=some (.slice (some ⟨gd,0,none⟩) n n):=Ad h.hx rfl
theorem FrD.cd {w:World}{bx gd n:Nat}{f:Nat->Int}{wr:World}(h:FrD w bx gd n f wr){v:Nat}(hv:v<n):wr.cell? ⟨gd,v,none⟩=some (.int .i64 (f v)):=Ks h.hd hv
theorem FrD.fz {w:World}{bx gd n:Nat}{f:Nat->Int}{wr:World}(h:FrD w bx gd n f wr)(v:Nat):wr.frozen? ⟨gd,v,none⟩=false:=by simp[World.frozen?,h.hd]
theorem FrD.set {w:World}{bx gd n:Nat}{f g:Nat->Int}{wr:World}(h:FrD w bx gd n f wr)(hlt:w.heap.size<=gd)(hne:bx≠gd){k:Nat}{x:Int}(hk:g k=x)(hg:∀v,v<n->v≠k->g v=f v):FrD w bx gd n g (wr.setCell ⟨gd,k,none⟩ (.int .i64 x)) where
 hx:=(Below.heap_setCell _ _ _ _ hne).trans h.hx
 hd:=by rw[Ca h.hd,Qq hk hg]
 hb:=h.hb.setCell (p:=⟨gd,k,none⟩) hlt _
theorem FrD.keep {w:World}{bx gd n:Nat}{f:Nat->Int}{wr wr':World}{S:Nat->Prop}(h:FrD w bx gd n f wr)(hK:Ak S wr wr')(hS:∀k,S k->w.heap.size<=k/\k≠bx/\k≠gd):FrD w bx gd n f wr' where
 hx:=(hK.block bx (lt_of_block h.hx) fun e=>(hS _ e).2.1 rfl).trans h.hx
 hd:=(hK.block gd (lt_of_block h.hd) fun e=>(hS _ e).2.2 rfl).trans h.hd
 hb:=h.hb.trans (hK.to_below (fun k e=>(hS k e).1) h.hb.size)
theorem FrD.below {w:World}{bx gd n:Nat}{f:Nat->Int}{wr wr':World}(h:FrD w bx gd n f wr)(hb:Below wr.heap.size wr wr'):FrD w bx gd n f wr' where
 hx:=(hb.block bx (lt_of_block h.hx)).trans h.hx
 hd:=(hb.block gd (lt_of_block h.hd)).trans h.hd
 hb:=h.hb.trans (hb.mono h.hb.size)
theorem FrD.alloc {w:World}{bx gd n:Nat}{f:Nat->Int}{wr:World}(h:FrD w bx gd n f wr)(o:Obj):FrD w bx gd n f (wr.alloc o) where
 hx:=(Below.heap_alloc _ _ _ (lt_of_block h.hx)).trans h.hx
 hd:=(Below.heap_alloc _ _ _ (lt_of_block h.hd)).trans h.hd
 hb:=h.hb.alloc h.hb.size _
theorem FrD.eqf {w:World}{bx gd n:Nat}{f g:Nat->Int}{wr:World}(h:FrD w bx gd n f wr)(hg:∀v,v<n->g v=f v):FrD w bx gd n g wr where
 hx:=h.hx
 hd:=by
  rw[h.hd,show E9 n f=E9 n g from ?_];unfold E9;congr 1;exact List.map_congr_left fun v hv=>by rw[hg v (List.mem_range.1 hv)]
 hb:=h.hb
theorem Ahs (b n:Nat)(rs:List Bd)(a:Nat)(w:World)(hm:Cq w b n rs)(ha:a<n):
  Calls Tryz.prog 64 #[.pointer (some ⟨b,0,none⟩), .int .i64 (a:Int)] w fun e w'=>∃g,e= .returned (.slice (some ⟨g,0,none⟩) n n)/\w'.heap[g]? =some (.cells (Af7 n (D6 n rs a)) 2 (0,0))/\Below w.heap.size w w':=by
 obtain⟨An,cn,mb,Ar,cr,Aq,cq,c0,c1,c2,c3⟩:=hm.cells;have o4:=hm.few;have HM:=hI hm;clear hm c1 c2;go_enter Tryz.func64,Tryz.ntmps64;go_wp2_with fail;refine(Gp b An n cn w c0).mono ?_;rintro e w1 ⟨rfl,m8⟩;have m4:=hI m8;clear m8;have q2:=fun w=>run_make_row' (P:=Tryz.prog) 42 2 (.int .i64 0) 8 Tryz.underlying42 Wy rfl .i64 .i64 n (by omega) (by omega) w
 have s1:n<=maxLen:=by unfold maxLen;omega
 go_wp2;clear q2;rw[Na];have o7:=m4.out.size
 have f8:Hid (FrD w (w1.heap.size+1) w1.heap.size n (fun _=>0) ((w1.alloc (.cells (E9 n fun _=>0) 2)).alloc (.cells #[.slice (some ⟨w1.heap.size,0,none⟩) n n] 42))):=
  ⟨Aj (by simp),(Au (by simp)).trans (Aj rfl),(m4.out.alloc o7 _).alloc (by simp;omega) _⟩
 obtain⟨bx,o8⟩:∃bx,bx=w1.heap.size+1:=⟨_,rfl⟩;rw[←o8]at f8 ⊢;obtain⟨gd,m0⟩:∃gd,gd=w1.heap.size:=⟨_,rfl⟩;rw[←m0]at f8 ⊢;have f1:w.heap.size<=gd:=by omega
 have f6:gd<bx:=by omega
 generalize(w1.alloc (.cells (E9 n fun _=>0) 2)).alloc (.cells #[.slice (some ⟨gd,0,none⟩) n n] 42)=W2 at*;clear m0 o8 o7
 go_loopw [6,18] (fun _ i wr=>∃k:Nat,k<=n/\i= .int .i64 (k:Int)/\Hid (FrD w bx gd n (fun v=>if v<k then-1 else 0) wr)) (fun _ i _=>n-(intOf i).toNat)
 case atStart=>exact⟨0,Nat.zero_le _,rfl,f8.out.eqf fun v _=>by simp⟩
 case round=>
  obtain⟨k,hk,rfl,HF⟩:=hrel;by_cases hlt:k<n
  ·have s3:(k:Int)<(n:Int):=by omega
   have cx:=HF.out.cx;have cd:=HF.out.cd hlt;have fz:=HF.out.fz k;go_wp2
   go_roundw
   case rel=>
    refine⟨k+1,by omega,by simp,HF.out.set f1 (by omega) (g:=fun v=>if v<k+1 then-1 else 0) (by simp) fun v _ hv=> ?_⟩
    by_cases e:v<k
    ·simp[e,Nat.lt_succ_of_lt e]
    ·have:¬v<k+1:=by omega
     simp[e,this]
   case measure=>simp[intOf];omega
  ·obtain rfl:k=n:=by omega
   clear f8;have cx:=HF.out.cx;have cd:=HF.out.cd ha;have fz:=HF.out.fz a;have q3:(a:Int)<(k:Int):=by omega
   go_wp2
   have j8:Hid (FrD w bx gd k (fun v=>Bj (if v=a then some 0 else none)) (wr.setCell ⟨gd,a,none⟩ (.int .i64 0))):=
    HF.out.set f1 (by omega) (by simp[Bj]) fun v hv hne=>by simp[hne,Bj,hv]
   have hz:(wr.setCell ⟨gd,a,none⟩ (.int .i64 0)).heap.size=wr.heap.size:=by simp
   rw[←hz];generalize wr.setCell ⟨gd,a,none⟩ (.int .i64 0)=W3 at*;clear cx cd fz HF q3 hz;obtain⟨B0,f9⟩:∃B0,B0=W3.heap.size:=⟨_,rfl⟩;have g0:bx<B0:=by rw[f9];exact lt_of_block j8.out.hx
   have o5:Hid (D7 (W3.alloc (.cells #[.int .i64 (a:Int)] 3)) B0 B0 1 [a]):=
    ⟨by simp,Or.inr ⟨B0,1, #[.int .i64 (a:Int)],rfl,rr,Aj f9,by simp,by simp[maxLen],by simp,by simp⟩⟩
   have m1:=hI (j8.out.alloc (.cells #[.int .i64 (a:Int)] 3));have HN:=hI (Jg HM.out.ok a);rw[←f9];generalize W3.alloc (.cells #[.int .i64 (a:Int)] 3)=W4 at*;clear f9 j8
   go_loopg [7] (2*k-1) (fun kx s7 wr=>∃(D:Nat->Option Nat) (op:List Nat) (go co:Nat),s7= .slice (some ⟨go,0,none⟩) op.length co/\kx<=2*k/\Hid (Dij (wtN rs) a D op)/\Hid (DB k kx D op)/\Hid (FrD w bx gd k (fun v=>Bj (D v)) wr)/\Hid (D7 wr B0 go co op))
   case atStart=>exact⟨_,[a],B0,1,rfl,Nat.sub_le _ _,Dij.begin _ _,DB.begin ha,m1.out,o5.out⟩
   case round=>
    obtain⟨D,op,go,co,rfl,s0,f4,a8,a5,j9⟩:=hrel;clear m1 o5;by_cases hop:op.length=0
    ·have g5:op=[]:=List.eq_nil_of_length_eq_zero hop;subst g5;have cx:=a5.out.cx;go_wp2;go_ret;exact⟨gd,rfl,by rw[a5.out.hd];rw[show(fun v=>Bj (D v))=fun v=>Bj (D6 k rs a v)from funext fun v=>congrArg Bj (J3 (f4.out.done v) (HN.out v))],a5.out.hb⟩
    ·have r0:(0:Int)<(op.length:Int):=by omega
     obtain⟨p2,q9,r4,cur,hg,r9,o3⟩:=j9.out.block;have p5:op.length<=4000:=by have:=a8.out.me;omega
     have k6:Hid (Cq wr b k rs):=HM.out.below a5.out.hb;go_wp2_with fail;refine(Aie k D op go gd bx co _ cur hg (Mh o3) a8.out.inn (by omega) p5 a5.out.hx a5.out.hd (by omega) (by omega)).mono ?_;rintro e w5 ⟨at_,rfl,d3,b4,b9⟩;have b0:=hI d3;have o1:=hI b4;have p6:=b9.size;have j4:=hI (a5.out.below b9);have i2:=hI (j9.out.below b9);have p3:=hI (k6.out.below b9);clear b9 d3 b4 hg o3 r9 p2 q9 r4 k6 a5 j9;go_wp2_with fail;have g6:(w5.alloc (.cells #[.int .i64 (at_:Int)] 3)).heap[w5.heap.size]? =some (.cells #[.int .i64 (at_:Int)] 3 (0,0)):=hpt;have g4:go<w5.heap.size:=by obtain⟨_,_,_,cur,hg,_⟩:=i2.out.block;exact lt_of_block hg
     have j0:bx<w5.heap.size:=lt_of_block j4.out.hx;have p1:=hI (j4.out.alloc (.cells #[.int .i64 (at_:Int)] 3));have p0:=hI (i2.out.below ((Below.refl _ w5).alloc rr (.cells #[.int .i64 (at_:Int)] 3)));have q1:=hI (p3.out.below ((Below.refl _ w5).alloc rr (.cells #[.int .i64 (at_:Int)] 3)));obtain⟨ba,m3⟩:∃ba,ba=w5.heap.size:=⟨_,rfl⟩;rw[←m3]at g6 g4 j0 ⊢;have f5:=hI g6;generalize w5.alloc (.cells #[.int .i64 (at_:Int)] 3)=w6 at*;clear m3 g6 j4 i2 p3 p6;refine(Aif op at_ B0 go ba co w6 p0.out f5.out (by omega)).mono ?_;rintro e w7 ⟨rfl,j3,i8⟩;have p2:B0<=go:=j3.block.1;have k5:=hI j3;have a4:=hI ((i8.block ba (lt_of_block f5.out) (by omega)).trans f5.out);have b8:=hI (p1.out.keep i8 fun z e=>by subst e;exact⟨by omega,by omega,by omega⟩);have q6:=hI (HM.out.below b8.out.hb);clear j3 i8 p0 f5 p1 q1;obtain⟨dAt,a3⟩:=f4.out.open_ at_ b0.out;obtain⟨m,rfl⟩:∃m,gk=m+1:=⟨gk-1,by have:=a8.out.pos b0.out;omega⟩;obtain⟨i9,k9⟩:=a8.out.del b0.out a3
     have i4:=Rlx.begin f4.out b0.out a3 (fun v hv dv hdv=>by
      have:=o1.out v hv
      rw[a3,hdv]at this;simp only[Bj]at this;omega)
     have d5:=a8.out.inn at_ b0.out;obtain⟨r,hr⟩:∃r,r=op.filter fun x=> !decide (x=at_):=⟨_,rfl⟩
     rw[←hr]at k5 i9 i4 ⊢;have r6:=hI i4;have g7:=hI i9;have o6:=hI k9;have s4:=hI a3;clear i4 i9 k9 a3 hr f4 a8 o1 b0;obtain⟨qb,qo,cq',A,me,ce,es,c3w,m6,cqw,o0,d2⟩:=HM.out.nearAt d5;have c3':=(b8.out.hb.cell (p:=⟨b,3,none⟩) HM.out.lt).trans c3w;have cqa:=(b8.out.hb.cell (p:=⟨qb,qo+at_,none⟩) m6).trans cqw;clear c3w cqw;have i7:=hI o0;have o2:=hI d2;clear o0 d2;have ca:=Ad (j:=0) a4.out rfl;have o9:(at_:Int)<(k:Int):=by omega
     go_upto_region 13 with fail
     go_cut [46,47,48]from 40 to 48 (fun s46 s47 s48 wx=>s46= .slice A me ce/\s47= .int .i64 (me:Int)/\s48= .int .i64 0/\wx=w7.drew)
     case first=>
      refine Bm (fun W'=>W'.cell? ⟨b,3,none⟩=some (.slice (some ⟨qb,qo,none⟩) k cq')/\W'.cell? ⟨ba,0,none⟩=some (.int .i64 (at_:Int))/\W'.cell? ⟨qb,qo+at_,none⟩=some (.slice A me ce)) (by kernel_rfl) ⟨c3',ca,cqa⟩ (fun hHeld=> ?_)
      (refine' Ae 0 rfl ?_;(try simp only[Act.put,nY,nX]));(refine' Ae 1 rfl ?_;(try simp only[Act.put,nY,nX]));(refine' Ae 2 rfl ?_;(try simp only[Act.put,nY,nX]));(refine' Ae 3 rfl ?_;(try simp only[Act.put,nY,nX]));(refine' Ae 4 rfl ?_;(try simp only[Act.put,nY,nX]));(refine' Ae 5 rfl ?_;(try simp only[Act.put,nY,nX]));(refine' Ae 6 rfl ?_;(try simp only[Act.put,nY,nX]))
      refine W9 (i:=7) (j:=8) (by kernel_rfl) rfl rfl (fun K' hK'=> ?_) (fun K' hK'=> ?_)
      all_goals rw[if_pos (by rfl)]
      all_goals go_simp
      ·refine hK' _ _ ⟨.inr hHeld,fun _=> ?_⟩
       clear hK' K'
       (try simp only[Act.put,nY,nX])
       (refine Aim 8 rfl (fun K' hK'=> ?_);simp only[nY];go_simp)
       refine hK' _ _ ⟨.inl (by kernel_rfl),fun _=>Bg (by kernel_rfl) ?_ _⟩
       clear hK' K' hHeld;go_wp2_with fail;go_meet
       case rel=>exact⟨rfl,rfl,rfl,rfl⟩
      ·refine hK' _ _ ⟨.inr hHeld,fun _=> ?_⟩
       clear hK' K'
       (try simp only[Act.put,nY,nX])
       (refine Aim 7 rfl (fun K' hK'=> ?_);simp only[nY];go_simp)
       refine hK' _ _ ⟨.inl (by kernel_rfl),fun _=>Bg (by kernel_rfl) ?_ _⟩
       clear hK' K' hHeld;go_wp2_with fail;go_meet
       case rel=>exact⟨rfl,rfl,rfl,rfl⟩
     case rest=>
     obtain⟨rfl,rfl,rfl,r7⟩:=hcut;obtain rfl:=r7;go_wp2_with fail;have q5:=E0.max i7.out;have k2:=hI (b8.out.below ((Below.refl w7.heap.size w7).drew));have m7:=hI (k5.out.below ((Below.refl w7.heap.size w7).drew));have k7:Hid (w7.drew.heap[ba]? =some (.cells #[.int .i64 (at_:Int)] 3 (0,0))):=a4.out;have p8:w7.drew.heap.size=w7.heap.size:=rfl;have r5:ba<w7.drew.heap.size:=lt_of_block a4.out;have p9:bx<w7.drew.heap.size:=lt_of_block k2.out.hx;generalize w7.drew=w8 at*;clear b8 k5 a4 q6 c3' cqa ca p8 m6
     go_loopw [7,48] (fun s7 i wr=>∃(j:Nat) (D:Nat->Option Nat) (op:List Nat) (go co:Nat),i= .int .i64 (j:Int)/\j<=me/\go≠ba/\s7= .slice (some ⟨go,0,none⟩) op.length co/\Hid (Rlx (wtN rs) a at_ dAt (es.take j) D op)/\Hid (DB k m D op)/\Hid (FrD w bx gd k (fun v=>Bj (D v)) wr)/\Hid (D7 wr B0 go co op)∧
      Hid (wr.heap[ba]? =some (.cells #[.int .i64 (at_:Int)] 3 (0,0)))) (fun _ i _=>me-(intOf i).toNat)
     case atStart=>exact⟨0,D,r,go,co,rfl,Nat.zero_le _,by omega,rfl,r6.out,g7.out,k2.out,m7.out,k7.out⟩
     case round=>
      obtain⟨j,D',op',go',co',rfl,hj,k0,rfl,g3,m9,d1,k1,f7⟩:=hrel;clear k2 m7 k7;by_cases hlt:j<me
      ·have s2:(j:Int)<(me:Int):=by omega
       obtain⟨eb,eo,x,l,hA,q0,f6,ex,el⟩:=E0.at_ (i7.out.below d1.out.hb rr) hlt;subst hA;have b1:(x,l)∈Cv rs at_:=o2.out.mem_iff.1 (List.mem_of_getElem? f6);have hw:=(Kp HM.out.ok).1 b1;obtain⟨_,i1⟩:=Z1 HM.out.ok _ _ _ hw;have j7:=Ac7 HM.out.ok hw;have r1:=hI f6;have r2:=hI hw;clear b1 hw f6;have f0:Below wr.heap.size wr (wr.alloc (.cells #[.int .i64 (x:Int), .int .i64 (l:Int)] 112)):=bel;have g0:=(Aj rfl:(wr.alloc (.cells #[.int .i64 (x:Int), .int .i64 (l:Int)] 112)).heap[wr.heap.size]? =_);have g1:=hI (d1.out.below f0);have m5:=hI (k1.out.below f0);have k4:=hI ((f0.block ba (lt_of_block f7.out)).trans f7.out);have i5:bx<wr.heap.size:=lt_of_block d1.out.hx;have i0:ba<wr.heap.size:=lt_of_block f7.out;go_wp2_with fail;obtain⟨xb,d4⟩:∃xb,xb=wr.heap.size:=⟨_,rfl⟩;rw[←d4]at g0 i5 i0 ⊢;have i3:=hI g0;generalize wr.alloc (.cells #[.int .i64 (x:Int), .int .i64 (l:Int)] 112)=w9 at*;clear d4 f0 g0 ex el q0 d1 k1 f7;have cbx:=g1.out.cx;have cba:=Ad (j:=0) k4.out rfl;have cda:w9.cell? ⟨gd,at_,none⟩=some (.int .i64 (dAt:Int)):=by have:=g1.out.cd d5;rw[g3.out.atv]at this;exact this
       have cxl:=Ad (j:=1) i3.out rfl
       have q7:IntKind.i64.wrap ((dAt:Int)+(l:Int))=((dAt+l:Nat):Int):=by
        have h1:=o6.out;rw[IntWalk.i64_in _ (by omega)];omega
       refine Bm (fun W'=>W'.cell? ⟨bx,0,none⟩=some (.slice (some ⟨gd,0,none⟩) k k)/\W'.cell? ⟨ba,0,none⟩=some (.int .i64 (at_:Int))/\W'.cell? ⟨gd,at_,none⟩=some (.int .i64 (dAt:Int))/\W'.cell? ⟨xb,1,none⟩=some (.int .i64 (l:Int))) (by kernel_rfl) ⟨cbx,cba,cda,cxl⟩ (fun hHeld=> ?_)
       (refine' Ae 0 rfl ?_;(try simp only[Act.put,nY,nX]));(refine' Ae 1 rfl ?_;(try simp only[Act.put,nY,nX]));(refine' Ae 2 rfl ?_;(try simp only[Act.put,nY,nX]));(refine' Ae 3 rfl ?_;(try simp only[Act.put,nY,nX]));(refine' Ae 4 rfl ?_;(try simp only[Act.put,nY,nX]));(refine' Ae 5 rfl ?_;(try simp only[Act.put,nY,nX]));(refine' Ae 6 rfl ?_;(try simp only[Act.put,nY,nX]))
       (refine Aim 7 rfl (fun K' hK'=> ?_);simp only[nY];go_simp)
       rw[show(dAt:Int)+(l:Int)=((dAt+l:Nat):Int)from by omega];refine hK' _ _ ⟨.inl (by kernel_rfl),fun _=>Bg (by kernel_rfl) ?_ _⟩
       clear hK' K' hHeld q7 cda cba cxl cbx;have a6:Below w9.heap.size w9 w9.drew:=(Below.refl _ _).drew;have a9:=hI (g1.out.below a6);have b6:=hI (m5.out.below a6);have g2:Hid (w9.drew.heap[ba]? =some (.cells #[.int .i64 (at_:Int)] 3 (0,0))):=k4.out;have f2:Hid (w9.drew.heap[xb]? =some (.cells #[.int .i64 (x:Int), .int .i64 (l:Int)] 112 (0,0))):=i3.out;clear g1 m5 k4 i3 a6;generalize w9.drew=wa at*;have cbx:=a9.out.cx;have cxx:=Ad (j:=0) f2.out rfl;have cdx:=a9.out.cd i1;have fzx:=a9.out.fz x;have a1:=g3.out.step r2.out;have a0:=m9.out.relax o6.out i1 j7;have r8:(x:Int)<(k:Int):=by omega
       have p4:=q5.2;have j2:Hid (es.take (j+1)=es.take j++[(x,l)]):=Bi es j (x,l) r1.out;unfold Ld at a1 a0;dsimp only at a1 a0
       cases hD:D' x with
       |none=>
        rw[hD]at a1 a0 cdx;dsimp only at a1 a0;have b3:=hI a1;have a2:=hI a0;have k3:op'.length+1<=4096:=by have:=a0.me;rw[List.length_append]at this;simp at this;omega
        clear a1 a0 hD;simp only[Bj]at cdx;have d7:=b6.out.below ((Below.refl _ wa).alloc rr (.cells #[.int .i64 (x:Int)] 3));have k8:=hI d7
        have p7:B0<=(wa.alloc (.cells #[.int .i64 (x:Int)] 3)).heap.size:=by
         have h1:=d7.block.1;obtain⟨_,_,_,cur,hg,_⟩:=d7.block
         have:=lt_of_block hg
         omega
        have i6:xb<wa.heap.size:=lt_of_block f2.out;clear d7;go_wp2_with(at_builtin;refine H8 rfl (.tmp 66) (.tmp 69) rfl B0 (.slice (some ⟨go',0,none⟩) op'.length co') op'.length (op'.map fun(x:Nat)=>Value.int .i64 (x:Int)) rfl k8.out ⟨wa.heap.size,0,none⟩ 1 (.int .i64 (x:Int)) rfl (cell_one_new _ _ _) rfl k3 p7 ?hc)
        case hc=>
         intro v' wb a7 hg d3;obtain⟨g8,c8,rfl,h8,_⟩:=Tx a7 (by omega);have d9:Ak (fun z=>z=go') (wa.alloc (.cells #[.int .i64 (x:Int)] 3)) wb:=(Ak.refl _ _).grown hg (fun z e=> .inl (by injection e with e;exact e.symm));have q8:B0<=go':=k8.out.block.1
         have b5:Hid (D7 wb B0 g8 c8 (op'++[x])):=by
          show wb.ownsRow _ _ _ _ _ _;rw[List.map_append,List.length_append];exact a7
         have f3:Below wa.heap.size wa (wa.alloc (.cells #[.int .i64 (x:Int)] 3)):=bel;have b7:=hI ((a9.out.below f3).keep d9 fun z e=>by subst e;exact⟨by omega,by omega,by omega⟩);have m2:=hI ((d9.block ba (by simp;omega) (Ne.symm k0)).trans ((f3.block ba (by omega)).trans g2.out))
         have q4:=hI ((d9.block xb (by simp;omega) (by
          obtain⟨_,_,_,cur,d8,_⟩:=b6.out.block;intro e;rw[←e,f2.out]at d8;cases d8)).trans ((f3.block xb i6).trans f2.out))
         have r3:g8≠ba:=by
          rcases d3 with h|h
          ·have:g8=go':=by injection h
           omega
          ·have:g8=wa.heap.size+1:=by injection h
           omega
         clear a7 hg d3 d9 f3;have ccx:=b7.out.cx;have ccd:=b7.out.cd i1;have ccf:=b7.out.fz x;have ccx0:=Ad (j:=0) q4.out rfl;have j1:ba≠gd:=fun e=>by omega
         have d6:=hI (b7.out.set f1 (by omega) (g:=fun v=>Bj (Gx D' x (dAt+l) v)) (x:=((dAt+l:Nat):Int)) (by show Bj (Gx D' x (dAt+l) x)=_;rw[Cz];rfl) fun v _ hv=>by show Bj (Gx D' x (dAt+l) v)=_;rw[C0 _ _ hv])
         have b2:=hI (b5.out.heap (w':=wb.setCell ⟨gd,x,none⟩ (.int .i64 ((dAt+l:Nat):Int))) (Below.heap_setCell _ _ _ _ (by show g8≠gd;omega)));have d0:=hI ((Below.heap_setCell wb ⟨gd,x,none⟩ (.int .i64 ((dAt+l:Nat):Int)) ba j1).trans m2.out);clear m2 b5 b7;go_wp2_with fail
         go_roundw
         case rel=>exact⟨j+1,_,_,g8,c8,by first|rfl|(simp;done),by omega,r3,by first|rfl|(simp;done),by rw[j2.out];exact b3.out,a2.out,by first|exact d6.out|simpa using d6.out,by first|exact b2.out|simpa using b2.out,by first|exact d0.out|simpa using d0.out⟩
         case measure=>simp[intOf];omega
       |some dx=>
        rw[hD]at a1 a0 cdx;dsimp only at a1 a0;simp only[Bj]at cdx;by_cases hle:dx<=dAt+l
        ·rw[if_pos hle]at a1 a0;have b3:=hI a1;have a2:=hI a0;clear a1 a0 hD;have j6:(dx:Int)<=(dAt:Int)+(l:Int):=by omega
         have g9:¬(dx:Int)<0:=by omega
         go_wp2_with fail
         go_roundw
         case rel=>exact⟨j+1,_,_,go',co',by first|rfl|(simp;done),by omega,k0,by first|rfl|(simp;done),by rw[j2.out];exact b3.out,a2.out,a9.out,b6.out,g2.out⟩
         case measure=>simp[intOf];omega
        ·rw[if_neg hle]at a1 a0;have b3:=hI a1;have a2:=hI a0;clear a1 a0 hD;have j6:¬(dx:Int)<=(dAt:Int)+(l:Int):=by omega
         have g9:¬(dx:Int)<0:=by omega
         have j1:ba≠gd:=fun e=>by omega
         have d8:go'≠gd:=by have:=b6.out.block.1;omega
         have d6:=hI (a9.out.set f1 (by omega) (g:=fun v=>Bj (Gx D' x (dAt+l) v)) (x:=((dAt+l:Nat):Int)) (by show Bj (Gx D' x (dAt+l) x)=_;rw[Cz];rfl) fun v _ hv=>by show Bj (Gx D' x (dAt+l) v)=_;rw[C0 _ _ hv])
         have b2:=hI (b6.out.heap (w':=wa.setCell ⟨gd,x,none⟩ (.int .i64 ((dAt+l:Nat):Int))) (Below.heap_setCell _ _ _ _ d8));have d0:=hI ((Below.heap_setCell wa ⟨gd,x,none⟩ (.int .i64 ((dAt+l:Nat):Int)) ba j1).trans g2.out);go_wp2_with fail
         go_roundw
         case rel=>exact⟨j+1,_,_,go',co',by first|rfl|(simp;done),by omega,k0,by first|rfl|(simp;done),by rw[j2.out];exact b3.out,a2.out,by first|exact d6.out|simpa using d6.out,by first|exact b2.out|simpa using b2.out,by first|exact d0.out|simpa using d0.out⟩
         case measure=>simp[intOf];omega
      ·obtain rfl:j=me:=by omega
       go_wp2_with fail
       have j5:Dij (wtN rs) a D' op':=g3.out.done_ fun v l hv=>by
        have h1:=o2.out.mem_iff.2 ((Kp HM.out.ok).2 hv);rw[List.take_of_length_le (by rw[E0.len i7.out];exact rr)];exact h1
       go_roundg m
       case measure=>omega
       case rel=>exact⟨D',op',go',co',by first|rfl|(simp;done),by omega,j5,m9.out,d1.out,k1.out⟩
def Ht (n:Nat)(rs:List Bd)(x y:Int):Option Nat:=if(0<=x/\x<n)/\0<=y/\y<n then D6 n rs x.toNat y.toNat else none
theorem Ad7 (b n:Nat)(rs:List Bd)(x y:Int)(w:World)(hm:Cq w b n rs):
  Calls Tryz.prog 21 #[.pointer (some ⟨b,0,none⟩), .int .i64 x, .int .i64 y] w fun e w'=>e= .returned (.tuple #[.int .i64 (((Ht n rs x y).getD 0:Nat):Int), .bool (Ht n rs x y).isSome])/\Below w.heap.size w w':=by
 obtain⟨An,cn,mb,Ar,cr,Aq,cq,c0,c1,c2,c3⟩:=hm.cells;have HM:=hI hm;have a9:=hm.lt;clear hm c1 c2 c3;have a5:=hI c0;clear c0;go_enter Tryz.func21,Tryz.ntmps21;go_wp2_with fail;refine(Ad4 b An n cn x w a5.out).mono ?_;rintro e w1 ⟨rfl,a2⟩;have a1:=hI a2;clear a2;by_cases hx:0<=x/\x<(n:Int)
 ·rw[decide_eq_true hx];go_wp2_with fail;refine(Ad4 b An n cn y w1 ((a1.out.cell (p:=⟨b,0,none⟩) a9).trans a5.out)).mono ?_;rintro e w2 ⟨rfl,a4⟩;have a0:=hI (a1.out.trans (a4.mono a1.out.size));clear a4 a1;by_cases hy:0<=y/\y<(n:Int)
  ·rw[decide_eq_true hy];obtain⟨xn,rfl⟩:∃xn:Nat,x=xn:=⟨x.toNat,by omega⟩;obtain⟨yn,rfl⟩:∃yn:Nat,y=yn:=⟨y.toNat,by omega⟩;have HD:Hid (Ht n rs xn yn=D6 n rs xn yn):=by show _=_;unfold Ht;rw[if_pos ⟨hx,hy⟩];rfl
   have a8:yn<n:=by omega
   have a7:(yn:Int)<(n:Int):=hy.2;go_wp2_with fail;refine(Ahs b n rs xn w2 (HM.out.below a0.out) (by omega)).mono ?_;rintro e w3 ⟨g,rfl,hg,a6⟩;have a3:=hI (a0.out.trans (a6.mono a0.out.size));have hc:=Ks hg a8;clear a6 hg a0 hx hy;obtain⟨o,ho⟩:∃o,o=D6 n rs xn yn:=⟨_,rfl⟩;have HO:Hid (Ht n rs xn yn=o):=HD.out.trans ho.symm;rw[←ho]at hc;clear ho
   cases o with
   |none=>
    simp only[Bj]at hc;go_wp2
    go_ret2
    exact⟨by rw[HO.out];rfl,a3.out⟩
   |some d=>
    simp only[Bj]at hc;go_wp2
    go_ret2
    exact⟨by rw[HO.out];simp,a3.out⟩
  ·have HD:Hid (Ht n rs x y=none):=by show _=_;unfold Ht;rw[if_neg (fun h=>hy h.2)]
   rw[decide_eq_false hy];clear hx hy;go_wp2
   go_ret2
   exact⟨by rw[HD.out];rfl,a0.out⟩
 ·have HD:Hid (Ht n rs x y=none):=by show _=_;unfold Ht;rw[if_neg (fun h=>hx h.1)]
  rw[decide_eq_false hx];clear hx;go_wp2
  go_ret2
  exact⟨by rw[HD.out];rfl,a1.out⟩
end Go.Proofs.YtaglfmlgbcmakaaGreatDoor
namespace Go.Proofs.YtaglfmlgbcmakaaGreatDoor
open Go.RowKit
-- how long the shortest ways are
theorem Uh {wt:Nat->Nat->Option Nat}{a b d:Nat}(h:Fb wt a b (some d)):b=a∨∃c e l,wt c b=some l/\Fb wt a c (some e)/\e+l=d:=by
 obtain⟨hw,hm⟩:=h
 cases hw with
 |nil=>exact .inl rfl
 | @snoc c _ e l hw hl=>
  refine .inr ⟨c,e,l,hl,⟨hw,fun d' hw'=> ?_⟩,rfl⟩
  have:=hm _ (Way.snoc hw' hl)
  omega
def Fv (_wt:Nat->Nat->Option Nat)(n _a d:Nat)(dist:Nat->Option Nat):Nat:=((List.range n).filter fun v=>match dist v with|some e=>decide (e<d)|none=>false).length
theorem Zo {wt:Nat->Nat->Option Nat}{n M a:Nat}{dist:Nat->Option Nat}(hd:∀v,Fb wt a v (dist v))(hn:∀u v l,wt u v=some l->u<n/\v<n)(hl:∀u v l,wt u v=some l->1<=l/\l<=M):
  ∀(d b:Nat),dist b=some d->d<=M*Fv wt n a d dist:=by
 intro d
 induction d using Nat.strongRecOn with
 |ind d ih=>
  intro b hb;have a0:=hd b;rw[hb]at a0;rcases Uh a0 with e|⟨c,e,l,a2,a3,a4⟩
  ·subst e
   have:d=0:=by
    have:=a0.2 0 (.nil _);omega
   subst this;exact Nat.zero_le _
  ·obtain⟨a6,a5⟩:=hl _ _ _ a2
   have a1:dist c=some e:=by
    have:=hd c
    exact J3 this a3
   have h1:=ih e (by omega) c a1
   have h2:Fv wt n a e dist<Fv wt n a d dist:=by
    unfold Fv;refine Fr (p:=fun v=>match dist v with|some x=>decide (x<e)|none=>false) (q:=fun v=>match dist v with|some x=>decide (x<d)|none=>false) (fun v hv=> ?_) (y:=c) (by simp[a1]) (by simp[a1];omega) _ (List.mem_range.2 (hn _ _ _ a2).1)
    cases hv':dist v with
    |none=>rw[hv']at hv;cases hv
    |some x=>rw[hv']at hv;simp at hv ⊢;omega
   have h3:M*Fv wt n a e dist+M<=M*Fv wt n a d dist:=by
    rw[←Nat.mul_succ];exact Nat.mul_le_mul_left _ h2
   omega
theorem Agr {n:Nat}{rs:List Bd}(h:Cw n rs){a b d:Nat}(hd:D6 n rs a b=some d):d<=1073741824*(n-1):=by
 have h1:=Zo (M:=1073741824) (fun v=>Jg h a v) (Z1 h) (fun u v l hw=>⟨Ahh h hw,Ac7 h hw⟩) d b hd;refine Nat.le_trans h1 (Nat.mul_le_mul_left _ ?_);rcases Nat.eq_zero_or_pos d with e|e
 ·subst e
  have:Fv (wtN rs) n a 0 (D6 n rs a)=0:=by
   unfold Fv;rw[List.length_eq_zero_iff,List.filter_eq_nil_iff];intro v _;cases D6 n rs a v<;>simp
  omega
 ·-- the point itself is not nearer than it is
  have a0:b<n:=by
   have hw:=(Jg h a b);rw[hd]at hw;rcases Uh hw with e'|⟨c,x,l,hc,_,_⟩
   ·subst e'
    have:=hw.2 0 (.nil _);omega
   ·exact(Z1 h _ _ _ hc).2
  have h2:Fv (wtN rs) n a d (D6 n rs a)<n:=by
   unfold Fv
   have:=Fr (p:=fun v=>match D6 n rs a v with|some e=>decide (e<d)|none=>false) (q:=fun _=>true) (fun _ _=>rfl) (y:=b) (by simp[hd]) rfl (List.range n) (List.mem_range.2 a0)
   rw[List.filter_eq_self.2 (fun _ _=>rfl),List.length_range]at this;exact this
  omega
theorem Ui {n:Nat}{rs:List Bd}(h:Cw n rs)(a b:Nat):D6 n rs a b=D6 n rs b a:=
 J3 (Jg h a b) ((Jg h b a).rev (Uv rs))
-- lines that grow
theorem Lb {α:Type}{R:α->α->Prop}{p q:α->Bool}(hR:∀a b,R a b->p b=true->p a=true)(hpq:∀a,p a=true->q a=true):∀L:List α,L.Pairwise R->(L.filter p)<+:(L.filter q)
 |[],_=>List.prefix_refl _
 |x::L,h=>by
  rw[List.pairwise_cons]at h;by_cases hx:p x=true
  ·rw[List.filter_cons_of_pos hx,List.filter_cons_of_pos (hpq x hx),List.cons_prefix_cons];exact⟨rfl,Lb hR hpq L h.2⟩
  ·have:(x::L).filter p=[]:=by
    rw[List.filter_eq_nil_iff];intro y hy;rcases List.mem_cons.1 hy with e|hy
    ·subst e;exact hx
    ·exact fun hp=>hx (hR x y (h.1 y hy) hp)
   rw[this];exact List.nil_prefix
theorem N5 {lt:Nat->Nat->Bool}(h:Hj lt)(p:Nat->Bool)(m:Nat):D4 lt p m=(D4 lt (fun _=>true) m).filter p:=by
 symm;refine Hi h p m ((Et h _ m).filter _) fun i=> ?_
 rw[List.mem_filter,Dr h];simp
theorem Xx {n:Nat}{rs:List Bd}{ws:List Cg}{a:Nat}{x y:Int}(h:x<=y):(Hc n rs ws a x)<+:(Hc n rs ws a y):=by
 unfold Hc;have hS:=Bx (tAt n rs ws a);rw[N5 hS (fun i=>E7 x (tAt n rs ws a i)),N5 hS (fun i=>E7 y (tAt n rs ws a i))];refine Lb (R:=fun i j=>Ci (tAt n rs ws a) i j=true) (fun i j hij hj=> ?_) (fun i hi=> ?_) _ (Et hS _ _)
 ·unfold Ci at hij
  cases hi':tAt n rs ws a i with
  |none=>
   rw[hi']at hij
   cases hj':tAt n rs ws a j with
   |none=>rw[hj']at hj;cases hj
   |some t=>rw[hj']at hij;cases hij
  |some s=>
   rw[hi']at hij
   cases hj':tAt n rs ws a j with
   |none=>rw[hj']at hj;cases hj
   |some t=>
    rw[hj']at hij hj;simp only[E7,decide_eq_true_eq,Bool.or_eq_true,Bool.and_eq_true]at*;omega
 ·cases hi':tAt n rs ws a i with
  |none=>rw[hi']at hi;cases hi
  |some s=>rw[hi']at hi;simp only[E7,decide_eq_true_eq]at*;omega
theorem H7 {lt:Nat->Nat->Bool}(h:Hj lt)(p:Nat->Bool)(m:Nat):(D4 lt p m).length=((List.range m).filter p).length:=by
 refine List.Perm.length_eq ((List.perm_ext_iff_of_nodup ?_ ?_).2 fun i=> ?_)
 ·exact(Et h p m).imp fun{a b} hab e=>by subst e;rw[h.irr]at hab;cases hab
 ·exact(List.nodup_range (n:=m)).filter _
 ·rw[Dr h,List.mem_filter,List.mem_range]
-- lists of points gone over
theorem My {P:Nat->Bool}{n c:Nat}(hc:c<n):((List.range n).filter P)[((List.range c).filter P).length]? =some c↔P c=true:=by
 have e:List.range n=List.range c++(c::(List.range' (c+1) (n-c-1))):=by
  rw[List.range_eq_range',List.range_eq_range',show n=c+(1+(n-c-1))by omega,←List.range'_append_1,←List.range'_append_1];simp[List.range'_one]
 rw[e,List.filter_append,List.getElem?_append_right rr,Nat.sub_self];by_cases h:P c=true
 ·rw[List.filter_cons_of_pos h];simp[h]
 ·rw[List.filter_cons_of_neg h];constructor
  ·intro h1;have h2:=List.mem_of_getElem? h1;have h3:=(List.mem_filter.1 h2).1;rw[List.mem_range'_1]at h3;omega
  ·exact fun h'=>absurd h' h
theorem N6 {P:Nat->Bool}{c:Nat}:((List.range (c+1)).filter P).length=((List.range c).filter P).length+(if P c=true then 1 else 0):=by
 rw[List.range_succ,List.filter_append];by_cases h:P c=true
 ·rw[if_pos h,List.filter_cons_of_pos h];simp
 ·rw[if_neg h,List.filter_cons_of_neg h];simp
end Go.Proofs.YtaglfmlgbcmakaaGreatDoor
namespace Go.Proofs.YtaglfmlgbcmakaaGreatDoor
open Go.RowKit Go.Shelf
structure Cr where
 d:Cg
 A:Option Addr
 n:Nat
 c:Nat
def Cr.cells (x:Cr):List Value:=[.int .i64 x.d.law, .slice x.A x.n x.c, .int .i64 x.d.time, .int .i64 x.d.slow, .int .i64 x.d.fin]
theorem Cr.len (x:Cr):x.cells.length=5:=rfl
abbrev Z2 (x:Cr):Value:= .agg #[.int .i64 x.d.law, .slice x.A x.n x.c, .int .i64 x.d.time, .int .i64 x.d.slow, .int .i64 x.d.fin]
structure Ac8 (x:Cg):Prop where
 law: -9223372036854775808<=x.law/\x.law<=9223372036854775807
 time: -9223372036854775808<=x.time/\x.time<=9223372036854775807
 slow: -9223372036854775808<=x.slow/\x.slow<=9223372036854775807
 fin: -9223372036854775808<=x.fin/\x.fin<=9223372036854775807
 at_:∀a∈x.at_, -9223372036854775808<=a/\a<=9223372036854775807
structure Jh (w:World)(x:Cr):Prop where
 pts:Ba w x.A x.n x.c x.d.at_
 u:Ac8 x.d
def Ct (w:World)(A:Option Addr)(n c:Nat)(ys:List Cr):Prop:=Du Cr.cells 5 w A n c ys∧∀y∈ys,Jh w y
def Af (ys:List Cr):List Cg:=ys.map Cr.d
section
variable {w w':World}{A:Option Addr}{n c:Nat}{ys:List Cr}
theorem Jh.below {x:Cr}(h:Jh w x)(hb:Below w.heap.size w w'):Jh w' x:=⟨Az.below h.pts hb rr,h.u⟩
theorem Ct.below (h:Ct w A n c ys)(hb:Below w.heap.size w w'):Ct w' A n c ys:=⟨h.1.below hb rr,fun y hy=>(h.2 y hy).below hb⟩
theorem Ct.len (h:Ct w A n c ys):ys.length=n:=h.1.2
theorem Ct.max (h:Ct w A n c ys):n<=c/\c<=9223372036854775807:=by have h1:=h.1.1.2.1;have h2:=h.1.1.2.2.1;unfold maxLen at h2;omega
theorem Ct.at_ (h:Ct w A n c ys){k:Nat}{x:Cr}(hx:ys[k]? =some x):∃b off,A=some ⟨b,off,none⟩/\b<w.heap.size/\Jh w x∧
  w.cell? ⟨b,off+k*5,none⟩=some (.int .i64 x.d.law)/\w.cell? ⟨b,off+k*5+1,none⟩=some (.slice x.A x.n x.c)/\w.cell? ⟨b,off+k*5+2,none⟩=some (.int .i64 x.d.time)/\w.cell? ⟨b,off+k*5+3,none⟩=some (.int .i64 x.d.slow)/\w.cell? ⟨b,off+k*5+4,none⟩=some (.int .i64 x.d.fin):=by
 obtain⟨b,off,hA,hb,hc⟩:=h.1.at_ Cr.len (by decide) hx;refine⟨b,off,hA,hb,h.2 x (List.mem_of_getElem? hx), ?_⟩;simp only[Nat.add_assoc];exact⟨hc 0 _ rfl,hc 1 _ rfl,hc 2 _ rfl,hc 3 _ rfl,hc 4 _ rfl⟩
theorem Ct.get (h:Ct w A n c ys){k:Nat}(hk:k<n):∃x,ys[k]? =some x:=⟨ys[k]'(by rw[h.len];exact hk),List.getElem?_eq_getElem _⟩
end
theorem Xz (l:List (Option Nat))(o:Option Nat):F4 (l++[o])=J4 (F4 l) o:=by
 unfold F4;rw[List.foldl_append];rfl
theorem Ae2 (b n:Nat)(rs:List Bd)(x:Cr)(a:Nat)(w:World)(hm:Cq w b n rs)(hx:Jh w x)(h1:Eh n x.d=0)(ha:a<n):
  Calls Tryz.prog 62 #[Z2 x, .pointer (some ⟨b,0,none⟩), .int .i64 (a:Int)] w fun e w'=>e= .returned (.int .i64 (Bj (Da n rs x.d a)))/\Below w.heap.size w w':=by
 obtain⟨a0,hu⟩:=hx;obtain⟨b0,b5,d6,b6,d1⟩:=R8 h1;obtain⟨⟨law,ps,time,slow,fin⟩,Aw,nw,cw⟩:=x;obtain⟨T,rfl⟩:∃T:Nat,time=T:=⟨time.toNat,by simp only at b5;omega⟩;obtain⟨S,rfl⟩:∃S:Nat,slow=S:=⟨slow.toNat,by simp only at b6;omega⟩;have b2:=hu.fin;simp only at a0 b0 d6 d1 b2;have HP:=hI a0;have d3:=hI b0;have HM:=hI hm;have d8:nw<=9223372036854775807:=by have h1:=a0.2.1;have h2:=a0.2.2.1;unfold maxLen at h2;omega
 have a3:ps.length=nw:=by have:=a0.1;simpa using this
 have HL:=hI a3;clear a0 b0 hu h1 hm b5 b6 a3;have kb:(w.alloc (.cells #[.int .i64 law, .slice Aw nw cw, .int .i64 (T:Int), .int .i64 (S:Int), .int .i64 fin] 38)).heap[w.heap.size]? =some (.cells #[.int .i64 law, .slice Aw nw cw, .int .i64 (T:Int), .int .i64 (S:Int), .int .i64 fin] 38 (0,0)):=hpt;have kB:Below w.heap.size w (w.alloc (.cells #[.int .i64 law, .slice Aw nw cw, .int .i64 (T:Int), .int .i64 (S:Int), .int .i64 fin] 38)):=bel;go_enter Tryz.func62,Tryz.ntmps62;go_wp2_with fail;obtain⟨f,hf⟩:∃f:Int->Option Nat,f=fun b=>D6 n rs a b.toNat:=⟨_,rfl⟩
 have HF:=hI hf;obtain⟨B0,a8⟩:∃B0,B0=w.heap.size:=⟨_,rfl⟩;rw[←a8]at kb ⊢;have b9:=hI kb;have b7:=hI kB;have g1:w.heap.size<=B0:=Nat.le_of_eq a8.symm;generalize w.alloc (.cells #[.int .i64 law, .slice Aw nw cw, .int .i64 (T:Int), .int .i64 (S:Int), .int .i64 fin] 38)=W0 at*;clear a8 kb kB hf
 go_loopw [7,15] (fun s7 i wr=>∃k:Nat,k<=nw/\i= .int .i64 (k:Int)/\s7= .int .i64 (Bj (F4 ((ps.take k).map f)))/\Hid (wr.heap[B0]? =some (.cells #[.int .i64 law, .slice Aw nw cw, .int .i64 (T:Int), .int .i64 (S:Int), .int .i64 fin] 38 (0,0)))/\Hid (Below w.heap.size w wr)) (fun _ i _=>nw-(intOf i).toNat)
 case atStart=>exact⟨0,Nat.zero_le _,rfl,by simp[F4,Bj],b9.out,b7.out⟩
 case round=>
  obtain⟨k,hk,rfl,rfl,HK,HB⟩:=hrel;clear b9 b7;obtain⟨o0,a4⟩:∃o0,o0=F4 ((ps.take k).map f):=⟨_,rfl⟩;rw[←a4];by_cases hlt:k<nw
  ·have f9:(k:Int)<(nw:Int):=by omega
   obtain⟨pb,po,v,hA,d7,hv,d2⟩:=(HP.out.below HB.out rr:Az wr Aw nw cw 1 (ps.map (Value.int .i64))).at1 hlt;subst hA;obtain⟨p,hp⟩:∃p,ps[k]? =some p:=⟨ps[k]'(by rw[HL.out];exact hlt),List.getElem?_eq_getElem _⟩;obtain rfl:v= .int .i64 p:=by rw[List.getElem?_map,hp]at hv;simpa using hv.symm
   have a1:=d3.out p (List.mem_of_getElem? hp);have d0:Hid (ps.take (k+1)=ps.take k++[p]):=Bi ps k p hp
   have b8:Ht n rs (a:Int) p=f p:=by
    unfold Ht;rw[if_pos ⟨⟨by omega,by omega⟩,a1.1,a1.2⟩,HF.out];rfl
   have d9:=hI b8;have f5:=hI a4;clear hv hp b8 a4 a1;go_wp2_with fail;refine(Ad7 b n rs (a:Int) p wr (HM.out.below HB.out)).mono ?_;rw[d9.out];obtain⟨o,ho⟩:∃o,o=f p:=⟨_,rfl⟩
   have a7:Hid (F4 ((ps.take (k+1)).map f)=J4 o0 o):=by
    show _=_;rw[d0.out,List.map_append,List.map_singleton,Xz,ho,f5.out]
   rw[←ho];rintro e w1 ⟨rfl,a9⟩;have a6:=hI (HB.out.trans (a9.mono HB.out.size));have a5:=hI ((a9.block B0 (lt_of_block HK.out)).trans HK.out);clear a9 HB HK ho d2 d7
   cases o with
   |none=>
    go_wp2_with fail
    go_roundw
    case rel=>exact⟨k+1,by omega,by simp,by rw[a7.out,Ug],a5.out,a6.out⟩
    case measure=>simp[intOf];omega
   |some d=>
    cases o0 with
    |none=>
     simp only[Bj,Option.getD_some,Option.isSome_some];go_wp2_with fail
     go_roundw
     case rel=>exact⟨k+1,by omega,by simp,by rw[a7.out];rfl,a5.out,a6.out⟩
     case measure=>simp[intOf];omega
    |some e0=>
     simp only[Bj,Option.getD_some,Option.isSome_some];have f1:¬(e0:Int)<0:=by omega
     by_cases hde:d<e0
     ·have b1:(d:Int)<(e0:Int):=by omega
      go_wp2_with fail
      go_roundw
      case rel=>exact⟨k+1,by omega,by simp,by rw[a7.out,Px,if_pos hde];rfl,a5.out,a6.out⟩
      case measure=>simp[intOf];omega
     ·have b1:¬(d:Int)<(e0:Int):=by omega
      go_wp2_with fail
      go_roundw
      case rel=>exact⟨k+1,by omega,by simp,by rw[a7.out,Px,if_neg hde];rfl,a5.out,a6.out⟩
      case measure=>simp[intOf];omega
  ·obtain rfl:k=nw:=by omega
   have HN:Hid (Da n rs ⟨law,ps,T,S,fin⟩ a=Fk o0 T S fin):=by
    show _=_;unfold Da Kn;rw[←HF.out,a4,List.take_of_length_le (by rw[HL.out];exact rr)];rfl
   have c2:=Ad (j:=2) HK.out rfl;have c3:=Ad (j:=3) HK.out rfl;have c4:=Ad (j:=4) HK.out rfl;clear a4
   cases o0 with
   |none=>
    simp only[Bj];go_wp2;go_ret;exact⟨by rw[HN.out];rfl,HB.out⟩
   |some d=>
    simp only[Bj];have f1:¬(d:Int)<0:=by omega
    go_upto_region 11 with fail
    go_cut [41]from 42 to 53 (fun s41 wx=>s41= .bool (decide (9223372036854775807<T+S*d))/\wx=wr.drew)
    case first=>
     by_cases hd0:d=0
     ·subst hd0;have hS:wr.cell? ⟨B0,3,none⟩=some (.int .i64 (S:Int))/\wr.cell? ⟨B0,2,none⟩=some (.int .i64 (T:Int)):=⟨c3,c2⟩;refine Bm (fun W'=>W'.cell? ⟨B0,3,none⟩=some (.int .i64 (S:Int))/\W'.cell? ⟨B0,2,none⟩=some (.int .i64 (T:Int))) (by kernel_rfl) hS (fun hHeld=> ?_);clear hS;have hS:=hHeld
      (refine' Ae 0 rfl ?_;(try simp only[Act.put,nY,nX]));(refine' Ae 1 rfl ?_;(try simp only[Act.put,nY,nX]));(refine' Ae 2 rfl ?_;(try simp only[Act.put,nY,nX]))
      refine' Cu (i:=3) (v:=undef) rfl (by as_aux_lemma=>kernel_rfl) (by as_aux_lemma=>kernel_rfl) (by as_aux_lemma=>kernel_rfl) (by as_aux_lemma=>kernel_rfl) (fun _ _ _ h=>h) (Or.inr ⟨by as_aux_lemma=>kernel_rfl,rfl⟩) hS ?_
      (try simp only[Act.put,nY,nX])
      refine' Cu (i:=4) (v:=undef) rfl (by as_aux_lemma=>kernel_rfl) (by as_aux_lemma=>kernel_rfl) (by as_aux_lemma=>kernel_rfl) (by as_aux_lemma=>kernel_rfl) (fun _ _ _ h=>h) (Or.inr ⟨by as_aux_lemma=>kernel_rfl,rfl⟩) hS ?_
      (try simp only[Act.put,nY,nX])
      refine' Cu (i:=5) (v:=undef) rfl (by as_aux_lemma=>kernel_rfl) (by as_aux_lemma=>kernel_rfl) (by as_aux_lemma=>kernel_rfl) (by as_aux_lemma=>kernel_rfl) (fun _ _ _ h=>h) (Or.inr ⟨by as_aux_lemma=>kernel_rfl,rfl⟩) hS ?_
      (try simp only[Act.put,nY,nX])
      refine' Cu (i:=6) (v:=undef) rfl (by as_aux_lemma=>kernel_rfl) (by as_aux_lemma=>kernel_rfl) (by as_aux_lemma=>kernel_rfl) (by as_aux_lemma=>kernel_rfl) (fun _ _ _ h=>h) (Or.inr ⟨by as_aux_lemma=>kernel_rfl,rfl⟩) hS ?_
      (try simp only[Act.put,nY,nX])
      refine' Cu (i:=7) (v:=undef) rfl (by as_aux_lemma=>kernel_rfl) (by as_aux_lemma=>kernel_rfl) (by as_aux_lemma=>kernel_rfl) (by as_aux_lemma=>kernel_rfl) (fun _ _ _ h=>h) (Or.inr ⟨by as_aux_lemma=>kernel_rfl,rfl⟩) hS ?_
      (try simp only[Act.put,nY,nX])
      refine' Cu (i:=8) (v:=undef) rfl (by as_aux_lemma=>kernel_rfl) (by as_aux_lemma=>kernel_rfl) (by as_aux_lemma=>kernel_rfl) (by as_aux_lemma=>kernel_rfl) (fun _ _ _ h=>h) (Or.inr ⟨by as_aux_lemma=>kernel_rfl,rfl⟩) hS ?_
      (try simp only[Act.put,nY,nX])
      refine' Cu (i:=9) (v:=undef) rfl (by as_aux_lemma=>kernel_rfl) (by as_aux_lemma=>kernel_rfl) (by as_aux_lemma=>kernel_rfl) (by as_aux_lemma=>kernel_rfl) (fun _ _ _ h=>h) (Or.inr ⟨by as_aux_lemma=>kernel_rfl,rfl⟩) hS ?_
      (try simp only[Act.put,nY,nX])
      refine' Cu (i:=10) (v:=undef) rfl (by as_aux_lemma=>kernel_rfl) (by as_aux_lemma=>kernel_rfl) (by as_aux_lemma=>kernel_rfl) (by as_aux_lemma=>kernel_rfl) (fun _ _ _ h=>h) (Or.inr ⟨by as_aux_lemma=>kernel_rfl,rfl⟩) hS ?_
      (try simp only[Act.put,nY,nX])
      (refine' Ae 11 rfl ?_;(try simp only[Act.put,nY,nX]))
      (refine Aim 12 rfl (fun K' hK'=> ?_);simp only[nY];go_simp)
      refine hK' _ _ ⟨.inl (by kernel_rfl),fun _=>Bg (by kernel_rfl) ?_ _⟩
      clear hK' K' hHeld hS;go_wp2_with fail;go_meet
      case rel=>exact⟨by rw[Nat.mul_zero];rw[decide_eq_false (by omega)],rfl⟩
     ·have f7:(0:Int)<(d:Int):=by omega
      have hS:wr.cell? ⟨B0,3,none⟩=some (.int .i64 (S:Int))/\wr.cell? ⟨B0,2,none⟩=some (.int .i64 (T:Int)):=⟨c3,c2⟩;refine Bm (fun W'=>W'.cell? ⟨B0,3,none⟩=some (.int .i64 (S:Int))/\W'.cell? ⟨B0,2,none⟩=some (.int .i64 (T:Int))) (by kernel_rfl) hS (fun hHeld=> ?_);clear hS
      (refine' Ae 0 rfl ?_;(try simp only[Act.put,nY,nX]));(refine' Ae 1 rfl ?_;(try simp only[Act.put,nY,nX]))
      rw[decide_eq_true (show 0<d by omega)];obtain⟨q,hq⟩:∃q:Nat,q=(9223372036854775807-T)/d:=⟨_,rfl⟩
      have f3:(9223372036854775807-(T:Int))/(d:Int)=(q:Int):=by
       rw[hq,show(9223372036854775807-(T:Int))=((9223372036854775807-T:Nat):Int)by omega];rfl
      have f6:Int.tdiv (9223372036854775807-(T:Int)) (d:Int)=(q:Int):=by rw[Int.tdiv_eq_ediv_of_nonneg (by omega)];exact f3
      have f8:¬d=0:=hd0;have g2:q<=9223372036854775807:=by rw[hq];exact Nat.le_trans (Nat.div_le_self _ _) (Nat.sub_le _ _)
      (refine' Ae 2 rfl ?_;(try simp only[Act.put,nY,nX]));(refine' Ae 3 rfl ?_;(try simp only[Act.put,nY,nX]));(refine' Ae 4 rfl ?_;(try simp only[Act.put,nY,nX]));(refine' Ae 5 rfl ?_;(try simp only[Act.put,nY,nX]));(refine' Ae 6 rfl ?_;(try simp only[Act.put,nY,nX]));(refine' Ae 7 rfl ?_;(try simp only[Act.put,nY,nX]));(refine' Ae 8 rfl ?_;(try simp only[Act.put,nY,nX]))
      have b3:(q<S)↔9223372036854775807<T+S*d:=by
       have:=Agq (T:=T) (S:=S) (d:=d) (M:=9223372036854775807) (by omega)
       rw[hq,←this];exact⟨fun h=>⟨by omega,h⟩,fun h=>h.2⟩
      have d4:=hI b3;clear hq b3
      (refine' Ae 9 rfl ?_;(try simp only[Act.put,nY,nX]))
      rw[show IntKind.i64.wrap (9223372036854775807-(T:Int))=9223372036854775807-(T:Int)from IntWalk.i64_in _ (by omega),f6,show IntKind.i64.wrap (q:Int)=(q:Int)from IntWalk.i64_in _ (by omega)]
      (refine' Ae 10 rfl ?_;(try simp only[Act.put,nY,nX]));(refine' Ae 11 rfl ?_;(try simp only[Act.put,nY,nX]))
      (refine Aim 12 rfl (fun K' hK'=> ?_);simp only[nY];go_simp)
      refine hK' _ _ ⟨.inl (by kernel_rfl),fun _=>Bg (by kernel_rfl) ?_ _⟩
      clear hK' K' hHeld;go_wp2_with fail;go_meet
      case rel=>exact⟨by congr 1;exact decide_eq_decide.2 d4.out,rfl⟩
    case rest=>
     obtain⟨rfl,f0⟩:=hcut;obtain rfl:=f0;by_cases hbig:9223372036854775807<T+S*d
     ·rw[decide_eq_true hbig];go_wp2;go_ret;exact⟨by rw[HN.out];show _=Ending.returned (.int .i64 (Bj (if 9223372036854775807<T+S*d then none else _)));rw[if_pos hbig];rfl,HB.out.drew⟩
     ·rw[decide_eq_false hbig];have d5:(S:Int)*(d:Int)=((S*d:Nat):Int):=by simp
      have f4:S*d<=9223372036854775807:=by omega
      obtain⟨sd,a2⟩:∃sd,sd=S*d:=⟨_,rfl⟩;rw[←a2]at d5 f4 hbig;have g0:T+sd<=9223372036854775807:=by omega
      have f2:=hI a2;clear a2
      have HV:Hid (Fk (some d) T S fin=if fin<=(T:Int)+(sd:Int)then none else some (T+sd)):=by
       show(if 9223372036854775807<T+S*d then none else if fin<=((T+S*d:Nat):Int)then none else some (T+S*d))=_;rw[←f2.out,if_neg hbig];simp
      have b4:=hI HB.out.drew;by_cases hfi:fin<=(T:Int)+(sd:Int)
      ·go_wp2;go_ret;exact⟨by rw[HN.out,HV.out,if_pos hfi];rfl,b4.out⟩
      ·go_wp2;go_ret;exact⟨by rw[HN.out,HV.out,if_neg (by omega)];simp[Bj],b4.out⟩
end Go.Proofs.YtaglfmlgbcmakaaGreatDoor
