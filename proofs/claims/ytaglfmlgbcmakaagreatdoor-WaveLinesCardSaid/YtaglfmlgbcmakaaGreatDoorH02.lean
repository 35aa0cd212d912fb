/-
  The nearest open point first (chapter 36), in plain words: how long it goes on, and how large the numbers become.
  cmp.Compare over int64 and int; slices.MinFunc and slices.DeleteFunc as points.Map's from calls them.
  slices.MinFunc and slices.DeleteFunc, as points.Map's from calls them.
  points.Map's from: the distances of all points from one.
  points.Map's Dist and Roads.
  Waves (chapter 38), in plain words: how long ways are, lines that grow, lists of points gone over.
  Waves in memory (chapter 38).
  When a wave arrives at a point: wave.Wave's at.
-/
import Derived.Deep.OwnRows
import Derived.Lib.SliceRun
import Derived.Deep.CutRange
import Derived.Deep.CutBlock
import Derived.Deep.DeepCutAuto
import Derived.Test.YtaglfmlgbcmakaaGreatDoorH01
import Derived.Test.YtaglfmlgbcmakaaGreatDoorG40
import Derived.Test.YtaglfmlgbcmakaaGreatDoorG33
set_option linter.all false
set_option maxRecDepth 100000
set_option maxHeartbeats 4000000
namespace Go.Proofs.YtaglfmlgbcmakaaGreatDoor
open Go.RowKit
set_option maxRecDepth 100000
def Kr (n:Nat)(D:Nat->Option Nat):Nat:=((List.range n).filter fun v=>(D v).isNone).length
theorem Afs {n:Nat}{D:Nat->Option Nat}{x d:Nat}(hx:x<n)(h:D x=none):Kr n (Hu D x d)<Kr n D:=by
 unfold Kr;refine Gl (p:=fun v=>(Hu D x d v).isNone) (q:=fun v=>(D v).isNone) (fun v hv=> ?_) (y:=x) (by simp[Dq]) (by simp[h]) _ (List.mem_range.2 hx);by_cases e:v=x
 ·subst e;simp[h]
 ·rw[Dr _ _ e]at hv;exact hv
theorem Adp {n:Nat}{D:Nat->Option Nat}{x d:Nat}:Kr n (Hu D x d)<=Kr n D:=by
 unfold Kr;refine Pl (p:=fun v=>(Hu D x d v).isNone) (q:=fun v=>(D v).isNone) (fun v hv=> ?_) _;by_cases e:v=x
 ·subst e;rw[Dq]at hv;cases hv
 ·rw[Dr _ _ e]at hv;exact hv
theorem Ks {a:Nat}:∀{op:List Nat},a∈op->(op.filter fun x=> !decide (x=a)).length<op.length
 |y::ys,h=>by
  by_cases e:y=a
  ·subst e;rw[List.filter_cons_of_neg (by simp)]
   have:=List.length_filter_le (fun x=> !decide (x=y)) ys
   simp;omega
  ·rw[List.filter_cons_of_pos (by simp[e])]
   have h':a∈ys:=by
    rcases List.mem_cons.1 h with h|h
    ·exact absurd h.symm e
    ·exact h
   have:=Ks h'
   simp;omega
structure DB (n m:Nat)(D:Nat->Option Nat)(op:List Nat):Prop where
 out:∀v d,D v=some d->v<n
 inn:∀v∈op,v<n
 me:2*Kr n D+op.length<=m
 bd:∀v d,D v=some d->d+m*1073741824<=2*n*1073741824
theorem DB.begin {n a:Nat}(ha:a<n):DB n (2*n-1) (fun v=>if v=a then some 0 else none) [a] where
 out:=fun v d h=>by
  by_cases e:v=a
  ·subst e;exact ha
  ·simp[e]at h
 inn:=fun v hv=>by simp at hv;subst hv;exact ha
 me:=by
  have h1:Kr n (fun v=>if v=a then some 0 else none)<n:=by
   unfold Kr
   have:=Gl (p:=fun v=>(if v=a then some 0 else none:Option Nat).isNone) (q:=fun _=>true) (fun _ _=>rfl) (y:=a) (by simp) rfl (List.range n) (List.mem_range.2 ha)
   rw[List.filter_eq_self.2 (fun _ _=>rfl),List.length_range]at this;exact this
  simp;omega
 bd:=fun v d h=>by
  by_cases e:v=a
  ·subst e;simp at h;subst h;rw[Nat.zero_add];exact Nat.mul_le_mul_right _ (Nat.sub_le (2*n) 1)
  ·simp[e]at h
theorem DB.pos {n m at_:Nat}{D:Nat->Option Nat}{op:List Nat}(h:DB n m D op)(ha:at_∈op):0<m:=by
 have h1:=List.length_pos_of_mem ha;have h2:=h.me;omega
theorem DB.del {n m at_ dAt:Nat}{D:Nat->Option Nat}{op:List Nat}(h:DB n (m+1) D op)(ha:at_∈op)(hd:D at_=some dAt):DB n m D (op.filter fun x=> !decide (x=at_))/\dAt+1073741824+m*1073741824<=2*n*1073741824:=by
 have a0:(op.filter fun x=> !decide (x=at_)).length<op.length:=by
  have:=Ks ha
  exact this
 refine⟨⟨h.out,fun v hv=>h.inn v (List.mem_filter.1 hv).1, ?_,fun v d hv=> ?_⟩, ?_⟩
 ·have:=h.me;omega
 ·have:=h.bd v d hv
  rw[Nat.add_mul m 1,Nat.one_mul]at this;generalize 1073741824=C at this ⊢;generalize 2*n*C=X at this ⊢;omega
 ·have:=h.bd at_ dAt hd
  rw[Nat.add_mul m 1,Nat.one_mul]at this;generalize 1073741824=C at this ⊢;generalize 2*n*C=X at this ⊢;omega
theorem DB.relax {n m dAt x l:Nat}{D:Nat->Option Nat}{op:List Nat}(h:DB n m D op)(hb:dAt+1073741824+m*1073741824<=2*n*1073741824)(hx:x<n)(hl:l<=1073741824):DB n m (L7 dAt x l (D,op)).1 (L7 dAt x l (D,op)).2:=by
 have a0:∀v d,Hu D x (dAt+l) v=some d->v<n:=fun v d hv=>by
  by_cases e:v=x
  ·subst e;exact hx
  ·rw[Dr _ _ e]at hv;exact h.out v d hv
 have a1:∀v d,Hu D x (dAt+l) v=some d->d+m*1073741824<=2*n*1073741824:=fun v d hv=>by
  by_cases e:v=x
  ·subst e;rw[Dq]at hv;cases hv;omega
  ·rw[Dr _ _ e]at hv;exact h.bd v d hv
 unfold L7;dsimp only
 cases hD:D x with
 |none=>
  refine⟨a0,fun v hv=> ?_, ?_,a1⟩
  ·rcases List.mem_append.1 hv with hv|hv
   ·exact h.inn v hv
   ·have:v=x:=by simpa using hv
    subst this;exact hx
  ·have h1:=Afs (d:=dAt+l) hx hD;have h2:=h.me;show 2*Kr n (Hu D x (dAt+l))+(op++[x]).length<=m;rw[List.length_append];simp only[List.length_cons,List.length_nil];omega
 |some dx=>
  dsimp only;split
  ·exact h
  ·refine⟨a0,h.inn, ?_,a1⟩;have h1:=Adp (n:=n) (D:=D) (x:=x) (d:=dAt+l);have h2:=h.me;show 2*Kr n (Hu D x (dAt+l))+op.length<=m;omega
end Go.Proofs.YtaglfmlgbcmakaaGreatDoor
namespace Go.Proofs.YtaglfmlgbcmakaaGreatDoor
open Go.RowKit Go.Shelf Go.Sort Go.Lib
def D6 (x y:Int):Int:=if x<y then-1 else if y<x then 1 else 0
theorem Pi (x:Int)(w:World):Calls Tryz.prog 118 #[.int .i64 x] w fun e w'=>e= .returned (.bool false)/\w'=w:=by
 go_enter Tryz.func118,Tryz.ntmps118;go_wp2;go_ret;simp
theorem Wi (x y:Int)(w:World):Calls Tryz.prog 79 #[.int .i64 x, .int .i64 y] w fun e w'=>e= .returned (.int .i64 (D6 x y))/\w'=w:=by
 go_enter Tryz.func79,Tryz.ntmps79;by_cases h1:x<y
 ·have h2:D6 x y= -1:=by unfold D6;rw[if_pos h1]
  rw[h2];go_wp2_with(go_at_call 118;refine(Pi _ _).mono ?_;rintro e w1 ⟨rfl,rfl⟩);go_ret;exact⟨rfl,rfl⟩
 ·by_cases h2:y<x
  ·have h3:D6 x y=1:=by unfold D6;rw[if_neg h1,if_pos h2]
   rw[h3];go_wp2_with(go_at_call 118;refine(Pi _ _).mono ?_;rintro e w1 ⟨rfl,rfl⟩);go_ret;exact⟨rfl,rfl⟩
  ·have h3:D6 x y=0:=by unfold D6;rw[if_neg h1,if_neg h2]
   rw[h3];go_wp2_with(go_at_call 118;refine(Pi _ _).mono ?_;rintro e w1 ⟨rfl,rfl⟩);go_ret;exact⟨rfl,rfl⟩
def D9 (n:Nat)(f:Nat->Int):Array Value:=((List.range n).map fun v=>Value.int .i64 (f v)).toArray
theorem Acz {n v:Nat}(f:Nat->Int)(h:v<n):(D9 n f)[v]? =some (.int .i64 (f v)):=by
 unfold D9;simp[h]
theorem K4 {n k:Nat}{f g:Nat->Int}{x:Int}(hk:g k=x)(h:∀v,v<n->v≠k->g v=f v):(D9 n f).setIfInBounds k (.int .i64 x)=D9 n g:=by
 unfold D9;apply Array.ext
 ·simp
 ·intro i h1 h2;have hi:i<n:=by simpa using h2
  by_cases e:i=k
  ·subst e;simp[hk]
  ·simp[Ne.symm e,h i hi e]
theorem Gk {n v g:Nat}{f:Nat->Int}{t:TypeId}{w:World}(hg:w.heap[g]? =some (.cells (D9 n f) t (0,0)))(h:v<n):w.cell? ⟨g,v,none⟩=some (.int .i64 (f v)):=Ad hg (Acz f h)
theorem Lm (n:Nat):madeCells #[.int .i64 0] n=D9 n fun _=>0:=by
 unfold madeCells D9;apply Array.ext
 ·simp
 ·intro i h1 h2;simp[Nat.mod_one]
abbrev Aj9 (n:Nat)(D:Nat->Option Nat):Array Value:=D9 n fun v=>Bf (D v)
theorem Ac0 {n v:Nat}(D:Nat->Option Nat)(h:v<n):(Aj9 n D)[v]? =some (.int .i64 (Bf (D v))):=Acz _ h
theorem K6:(Tryz.prog.info? 2).map (fun i=>(i.zero,i.size,i.bytes))=some (some (.int .i64 0),1,8):=by kernel_rfl
theorem Ahn (n x y bx gd:Nat)(D:Nat->Option Nat)(hx:x<n)(hy:y<n)(w:World)(hbx:w.heap[bx]? =some (.cells #[.slice (some ⟨gd,0,none⟩) n n] 42 (0,0)))(hgd:w.heap[gd]? =some (.cells (Aj9 n D) 2 (0,0))):
  Calls Tryz.prog 106 #[.int .i64 (x:Int), .int .i64 (y:Int), .pointer (some ⟨bx,0,none⟩)] w fun e w'=>e= .returned (.int .i64 (D6 (Bf (D x)) (Bf (D y))))/\w'=w.drewN 1:=by
 have c0:w.cell? ⟨bx,0,none⟩=some (.slice (some ⟨gd,0,none⟩) n n):=by simp[World.cell?,hbx]
 have cx:w.cell? ⟨gd,x,none⟩=some (.int .i64 (Bf (D x))):=by simp[World.cell?,hgd,Ac0 D hx]
 have cy:w.cell? ⟨gd,y,none⟩=some (.int .i64 (Bf (D y))):=by simp[World.cell?,hgd,Ac0 D hy]
 have a0:(x:Int)<(n:Int):=by omega
 have a1:(y:Int)<(n:Int):=by omega
 clear hbx hgd hx hy;go_enter Tryz.func106,Tryz.ntmps106;go_wp2_with fail;refine Bg (fun W'=>W'.cell? ⟨bx,0,none⟩=some (.slice (some ⟨gd,0,none⟩) n n)/\W'.cell? ⟨gd,x,none⟩=some (.int .i64 (Bf (D x)))/\W'.cell? ⟨gd,y,none⟩=some (.int .i64 (Bf (D y)))) (by kernel_rfl) ⟨c0,cx,cy⟩ (fun hHeld=> ?_)
 (refine' Ab 0 rfl ?_;(try simp only[Act.put,nY,nX]));(refine' Ab 1 rfl ?_;(try simp only[Act.put,nY,nX]));(refine' Ab 2 rfl ?_;(try simp only[Act.put,nY,nX]));(refine' Ab 3 rfl ?_;(try simp only[Act.put,nY,nX]));(refine' Ab 4 rfl ?_;(try simp only[Act.put,nY,nX]));(refine' Ab 5 rfl ?_;(try simp only[Act.put,nY,nX]));(refine' Ab 6 rfl ?_;(try simp only[Act.put,nY,nX]));(refine' Ab 7 rfl ?_;(try simp only[Act.put,nY,nX]))
 (refine Am8 8 rfl (fun K' hK'=> ?_);simp only[nY];go_simp)
 refine(Wi (Bf (D x)) (Bf (D y)) _).mono ?_;rintro e w1 ⟨rfl,rfl⟩;refine hK' _ _ ⟨.inr hHeld,fun _=> ?_⟩
 clear hK' K'
 (try simp only[Act.put,nY,nX])
 (refine Am8 9 rfl (fun K' hK'=> ?_);simp only[nY];go_simp)
 refine hK' _ _ ⟨.inl (by kernel_rfl),fun _=>Ba (by kernel_rfl) ?_ _⟩
 clear hK' K';go_wp2;go_ret;exact⟨rfl,rfl⟩
theorem Y2 {α:Type} [Inhabited α](f:α->Int)(d:Array α):∀i,(∃j,j<=i/\pickBy (fun x m=>decide (D6 (f x) (f m)<0)) d i=d[j]!)∧∀j,j<=i->f (pickBy (fun x m=>decide (D6 (f x) (f m)<0)) d i)<=f d[j]!
 |0=>by
  refine⟨⟨0,rr,rfl⟩,fun j hj=> ?_⟩
  have:j=0:=by omega
  subst this;exact Int.le_refl _
 |i+1=>by
  obtain⟨⟨j,hj,e⟩,h⟩:=Y2 f d i;have a0:∀x y:Int,decide (D6 x y<0)=decide (x<y):=fun x y=>by unfold D6;by_cases h1:x<y<;>by_cases h2:y<x<;>simp[h1,h2]
  unfold pickBy;by_cases hb:decide (D6 (f d[i+1]!) (f (pickBy (fun x m=>decide (D6 (f x) (f m)<0)) d i))<0)=true
  ·rw[if_pos hb];rw[a0,decide_eq_true_eq]at hb;refine⟨⟨i+1,rr,rfl⟩,fun k hk=> ?_⟩
   rcases Nat.lt_or_ge i k with a1|a1
   ·obtain rfl:k=i+1:=by omega
    exact Int.le_refl _
   ·have:=h k a1;omega
  ·rw[if_neg hb];rw[a0,decide_eq_true_eq]at hb;refine⟨⟨j,by omega,e⟩,fun k hk=> ?_⟩
   rcases Nat.lt_or_ge i k with a1|a1
   ·obtain rfl:k=i+1:=by omega
    omega
   ·exact h k a1
theorem K8 {α:Type} [Inhabited α]{enc:α->Value}(w:World)(g m:Nat)(d:Array α)(os:Array Obj):Au (fun k=>k=g) w (sortWorld enc w g 0 m d os):=by
 unfold sortWorld putRow mapBlock Sort.grow Sort.ahead;refine⟨rfl,rfl,rfl,by simp,fun k hk hs=> ?_⟩
 simp only;rw[Array.getElem?_append_left (by simpa using hk),Array.getElem?_modify,if_neg (fun e=>hs e.symm)]
theorem Abh (w:World)(m:Nat)(os:Array Obj):Below w.heap.size w (grow (w.drewN m) os):=by
 refine⟨rfl,rfl,rfl,by simp[grow],fun k hk=> ?_⟩
 unfold grow;simp only;rw[Array.getElem?_append_left (by simpa using hk)];rfl
theorem Nm {α:Type} [Inhabited α]{enc:α->Value}{w:World}{g:Nat}{d:Array α}{cur:Array Value}{t:TypeId}(hg:w.heap[g]? =some (.cells cur t (0,0)))(h:∀(j:Nat) (x:α),d[j]? =some x->cur[j]? =some (enc x)):Holds enc w g 0 d:=by
 intro j hj;have hx:d[j]? =some d[j]! :=by rw[getElem!_pos d j hj];exact Array.getElem?_eq_getElem hj
 refine⟨?_, ?_⟩
 ·simp[World.cell?,hg,h j _ hx]
 ·simp[World.frozen?,hg]
theorem Ams (n:Nat)(D:Nat->Option Nat)(op:List Nat)(g gd bx cap:Nat)(w:World)(cur:Array Value)(hg:w.heap[g]? =some (.cells cur 3 (0,0)))(hc:∀(j x:Nat),op[j]? =some x->cur[j]? =some (.int .i64 (x:Int)))
  (hin:∀x∈op,x<n) (h0:0<op.length) (hl:op.length<=4000) (hbx:w.heap[bx]? =some (.cells #[.slice (some ⟨gd,0,none⟩) n n] 42 (0,0))) (hgd:w.heap[gd]? =some (.cells (Aj9 n D) 2 (0,0))) (h1:bx≠g) (h2:gd≠g):
  Calls Tryz.prog 107 #[.slice (some ⟨g,0,none⟩) op.length cap, .func (.func 106) #[] #[.pointer (some ⟨bx,0,none⟩)]] w fun e w'=>
   ∃x:Nat,e= .returned (.int .i64 (x:Int))/\x∈op/\(∀v∈op,Bf (D x)<=Bf (D v))/\Below w.heap.size w w':=by
 haveI:Inhabited {x:Nat//x<n}:=⟨⟨op[0],hin _ (List.getElem_mem h0)⟩⟩
 obtain⟨d,hd⟩:∃d:Array {x:Nat//x<n},d.toList.map (·.1)=op:=
  ⟨(op.attach.map fun p=>⟨p.1,hin p.1 p.2⟩).toArray,by simp only[List.map_map,Function.comp_def];exact List.attach_map_subtype_val op⟩
 have a5:d.size=op.length:=by rw[←hd];simp
 have a3:∀j (x:{x:Nat//x<n}),d[j]? =some x->op[j]? =some x.1:=fun j x hx=>by
  rw[←hd,List.getElem?_map,Array.getElem?_toList,hx];rfl
 have a1:=Any.slices_MinFunc Tryz.minI (fun x:{x:Nat//x<n}=>Value.int .i64 (x.1:Int)) (fun _=>rfl) (fun x y=>D6 (Bf (D x.1)) (Bf (D y.1))) 106 #[.pointer (some ⟨bx,0,none⟩)] g 0 cap d w
  (enters_of Tryz.func106 (by kernel_rfl) rfl) (fun m os dk _ x y=> ?hcmp) (Nm hg fun j x hx=>hc j _ (a3 j x hx)) (lt_of_block hg) (by omega) (by omega)
 case hcmp=>
  have hK:=K8 (enc:=fun x:{x:Nat//x<n}=>Value.int .i64 (x.1:Int)) w g m dk os;refine(Ahn n x.1 y.1 bx gd D x.2 y.2 _ ((hK.block bx (lt_of_block hbx) h1).trans hbx) ((hK.block gd (lt_of_block hgd) h2).trans hgd)).mono ?_;rintro e w' ⟨e1,e2⟩;exact⟨e1,1, #[],by rw[e2,grow_empty]⟩
 rw[a5]at a1;refine Calls.mono a1 ?_;rintro e w' ⟨rfl,m,os,rfl⟩;obtain⟨⟨j,hj,hp⟩,a2⟩:=Y2 (fun x:{x:Nat//x<n}=>Bf (D x.1)) d (op.length-1);have a6:j<d.size:=by omega
 refine⟨_,rfl, ?_,fun v hv=> ?_, ?_⟩
 ·rw[hp,←hd,getElem!_pos d j a6];exact List.mem_map.2 ⟨_,by simp,rfl⟩
 ·rw[←hd]at hv;obtain⟨y,hy,rfl⟩:=List.mem_map.1 hv;obtain⟨k,hk,rfl⟩:=List.getElem_of_mem hy;have a4:k<d.size:=by simpa using hk
  have:=a2 k (by omega)
  rw[getElem!_pos d k a4]at this;simpa using this
 ·have a0:putRow (fun x:{x:Nat//x<n}=>Value.int .i64 (x.1:Int)) (Sort.ahead w m) g 0 d=Sort.ahead w m:=putRow_self _ _ _ _ d (holds_ahead _ w m g 0 d (Nm hg fun j x hx=>hc j _ (a3 j x hx)));unfold sortWorld;rw[a0];exact Abh w m os
theorem Aho (x at_ ba:Nat)(w:World)(hba:w.heap[ba]? =some (.cells #[.int .i64 (at_:Int)] 3 (0,0))):
  Calls Tryz.prog 109 #[.int .i64 (x:Int), .pointer (some ⟨ba,0,none⟩)] w fun e w'=>e= .returned (.bool (decide (x=at_)))/\w'=w:=by
 have c0:w.cell? ⟨ba,0,none⟩=some (.int .i64 (at_:Int)):=by simp[World.cell?,hba]
 clear hba;go_enter Tryz.func109,Tryz.ntmps109;go_wp2;go_ret;refine⟨?_,rfl⟩;congr 2;by_cases h:x=at_
 ·subst h;simp
 ·have h':¬(x:Int)=(at_:Int):=by omega
  simp[h,h']
def E2 (w:World)(base g cap:Nat)(op:List Nat):Prop:=w.ownsRow base 3 1 (.slice (some ⟨g,0,none⟩) op.length cap) op.length (op.map fun(x:Nat)=>Value.int .i64 (x:Int))
theorem E2.block {w:World}{base g cap:Nat}{op:List Nat}(h:E2 w base g cap op):base<=g/\op.length<=cap/\cap<=maxLen∧∃cur:Array Value,w.heap[g]? =some (.cells cur 3 (0,0))/\cur.size=cap/\cur.toList.take op.length=op.map (fun(x:Nat)=>Value.int .i64 (x:Int)):=by
 rcases h.2 with⟨hv,_⟩|⟨g',cap',cur,hv,hb,hg,a1,a0,a2,ht⟩
 ·cases hv
 ·injection hv with hA _ hc
  injection hA with hA
  injection hA with hA
  subst hA hc;exact⟨hb,a1,a0,cur,hg,by omega,by rw[Nat.mul_one]at ht;exact ht⟩
theorem E2.heap {w w':World}{base g cap:Nat}{op:List Nat}(h:E2 w base g cap op)(hg:w'.heap[g]? =w.heap[g]?):E2 w' base g cap op:=by
 refine⟨h.1, ?_⟩;rcases h.2 with hn|⟨g',cap',cur,hv,h1,a0,rest⟩
 ·exact Or.inl hn
 ·have e:g'=g:=by injection hv with hA;injection hA with hA;injection hA with hA;exact hA.symm
  subst e;exact Or.inr ⟨g',cap',cur,hv,h1,hg.trans a0,rest⟩
theorem E2.below {w w':World}{base g cap:Nat}{op:List Nat}(h:E2 w base g cap op)(hb:Below w.heap.size w w'):E2 w' base g cap op:=by
 obtain⟨_,_,_,cur,hg,_⟩:=h.block;exact h.heap (hb.block g (lt_of_block hg))
theorem Nn {cur:Array Value}{op:List Nat}(h:cur.toList.take op.length=op.map fun(x:Nat)=>Value.int .i64 (x:Int))(j x:Nat)(hx:op[j]? =some x):cur[j]? =some (.int .i64 (x:Int)):=by
 have hj:=(List.getElem?_eq_some_iff.1 hx).1;have h1:=congrArg (fun l:List Value=>l[j]?) h;simp only[List.getElem?_take,if_pos hj,List.getElem?_map,hx,Option.map_some]at h1;simpa using h1
theorem Amt (op:List Nat)(at_ base g ba cap:Nat)(w:World)(hO:E2 w base g cap op)(hba:w.heap[ba]? =some (.cells #[.int .i64 (at_:Int)] 3 (0,0)))(h1:ba≠g):
  Calls Tryz.prog 108 #[.slice (some ⟨g,0,none⟩) op.length cap, .func (.func 109) #[] #[.pointer (some ⟨ba,0,none⟩)]] w fun e w'=>
   e= .returned (.slice (some ⟨g,0,none⟩) (op.filter fun x=> !decide (x=at_)).length cap)/\E2 w' base g cap (op.filter fun x=> !decide (x=at_))/\Au (fun k=>k=g) w w':=by
 obtain⟨hb,a4,a2,cur,hg,a7,ht⟩:=hO.block;have a6:cap<=9223372036854775807:=a2;have hH:Holds (fun x:Nat=>Value.int .i64 (x:Int)) w g 0 op.toArray:=Nm hg fun j x hx=>Nn ht j x (by simpa using hx)
 have a0:=lt_of_block hba
 have a1:=AnyE.slices_DeleteFunc Tryz.delI (fun x:Nat=>Value.int .i64 (x:Int)) (fun _=>rfl) (fun x=>decide (x=at_)) 109 #[.pointer (some ⟨ba,0,none⟩)] (enters_of Tryz.func109 (by kernel_rfl) rfl) 0 Tryz.zeroValue3 g 0 cap op.toArray w
  (fun W x hb'=> ?hp) (fun m os dk x _=> ?hpo) hH (by simp;omega) (by simpa using a4)
 case hp=>
  refine(Aho x at_ ba W ((hb'.block ba a0).trans hba)).mono ?_;rintro e w' ⟨e1,e2⟩;exact⟨e1,0,e2⟩
 case hpo=>
  have hK:=K8 (enc:=fun x:Nat=>Value.int .i64 (x:Int)) w g m dk os;refine(Aho x at_ ba _ ((hK.block ba a0 h1).trans hba)).mono ?_;rintro e w' ⟨e1,e2⟩;exact⟨e1,0,e2⟩
 rw[show op.toArray.toList=op from rfl,show op.toArray.size=op.length from by simp]at a1;refine Calls.mono a1 ?_;obtain⟨r,hr⟩:∃r,r=op.filter fun x=> !decide (x=at_):=⟨_,rfl⟩
 rw[←hr];have a5:r.length<=op.length:=by rw[hr];exact List.length_filter_le _ _
 rintro e w' ⟨rfl,q,rfl⟩
 have hK:Au (fun k=>k=g) w (putRow (fun x:Nat=>Value.int .i64 (x:Int)) (Sort.ahead w q) g 0 (r++List.replicate (op.length-r.length) 0).toArray):=by
  have hK:=K8 (enc:=fun x:Nat=>Value.int .i64 (x:Int)) w g q (r++List.replicate (op.length-r.length) 0).toArray #[];unfold sortWorld at hK;rwa[grow_empty]at hK
 refine⟨rfl, ?_,hK⟩;refine⟨by simp,Or.inr ⟨g,cap,putCells (fun x:Nat=>Value.int .i64 (x:Int)) 0 (r++List.replicate (op.length-r.length) 0).toArray cur,rfl,hb, ?_,by omega,a2,by unfold putCells;simp;omega, ?_⟩⟩
 ·have hl:=lt_of_block hg;unfold putRow mapBlock Sort.ahead;simp only;rw[Array.getElem?_modify,if_pos rfl,hg];rfl
 ·rw[Nat.mul_one];apply List.ext_getElem?;intro j;rw[List.getElem?_take,List.getElem?_map];by_cases hj:j<r.length
  ·rw[if_pos hj,List.getElem?_eq_getElem hj];have a3:j<cur.size:=by omega
   unfold putCells;rw[Array.getElem?_toList,Array.getElem?_mapIdx,Array.getElem?_eq_getElem a3,Option.map_some,if_pos ⟨Nat.zero_le _,by simp;omega⟩,Nat.sub_zero,getElem!_pos _ j (by simp;omega)];simp[List.getElem_append_left hj]
  ·rw[if_neg hj,List.getElem?_eq_none (by omega)];rfl
end Go.Proofs.YtaglfmlgbcmakaaGreatDoor
namespace Go.Proofs.YtaglfmlgbcmakaaGreatDoor
open Go.RowKit Go.Shelf
structure FrD (w:World)(bx gd n:Nat)(f:Nat->Int)(wr:World):Prop where
 hx:wr.heap[bx]? =some (.cells #[.slice (some ⟨gd,0,none⟩) n n] 42 (0,0))
 hd:wr.heap[gd]? =some (.cells (D9 n f) 2 (0,0))
 hb:Below w.heap.size w wr
theorem FrD.cx {w:World}{bx gd n:Nat}{f:Nat->Int}{wr:World}(h:FrD w bx gd n f wr):wr.cell? ⟨bx,0,none⟩=some (.slice (some ⟨gd,0,none⟩) n n):=Ad h.hx rfl
theorem FrD.cd {w:World}{bx gd n:Nat}{f:Nat->Int}{wr:World}(h:FrD w bx gd n f wr){v:Nat}(hv:v<n):wr.cell? ⟨gd,v,none⟩=some (.int .i64 (f v)):=Gk h.hd hv
theorem FrD.fz {w:World}{bx gd n:Nat}{f:Nat->Int}{wr:World}(h:FrD w bx gd n f wr)(v:Nat):wr.frozen? ⟨gd,v,none⟩=false:=by simp[World.frozen?,h.hd]
theorem FrD.set {w:World}{bx gd n:Nat}{f g:Nat->Int}{wr:World}(h:FrD w bx gd n f wr)(hlt:w.heap.size<=gd)(hne:bx≠gd){k:Nat}{x:Int}(hk:g k=x)(hg:∀v,v<n->v≠k->g v=f v):FrD w bx gd n g (wr.setCell ⟨gd,k,none⟩ (.int .i64 x)) where
 hx:=(Below.heap_setCell _ _ _ _ hne).trans h.hx
 hd:=by rw[B2 h.hd,K4 hk hg]
 hb:=h.hb.setCell (p:=⟨gd,k,none⟩) hlt _
theorem FrD.keep {w:World}{bx gd n:Nat}{f:Nat->Int}{wr wr':World}{S:Nat->Prop}(h:FrD w bx gd n f wr)(hK:Au S wr wr')(hS:∀k,S k->w.heap.size<=k/\k≠bx/\k≠gd):FrD w bx gd n f wr' where
 hx:=(hK.block bx (lt_of_block h.hx) fun e=>(hS _ e).2.1 rfl).trans h.hx
 hd:=(hK.block gd (lt_of_block h.hd) fun e=>(hS _ e).2.2 rfl).trans h.hd
 hb:=h.hb.trans (hK.to_below (fun k e=>(hS k e).1) h.hb.size)
theorem FrD.below {w:World}{bx gd n:Nat}{f:Nat->Int}{wr wr':World}(h:FrD w bx gd n f wr)(hb:Below wr.heap.size wr wr'):FrD w bx gd n f wr' where
 hx:=(hb.block bx (lt_of_block h.hx)).trans h.hx
 hd:=(hb.block gd (lt_of_block h.hd)).trans h.hd
 hb:=h.hb.trans (hb.mono h.hb.size)
theorem FrD.alloc {w:World}{bx gd n:Nat}{f:Nat->Int}{wr:World}(h:FrD w bx gd n f wr)(o:Obj):FrD w bx gd n f (wr.alloc o) where
 hx:=(Below.heap_alloc _ _ _ (lt_of_block h.hx)).trans h.hx
 hd:=(Below.heap_alloc _ _ _ (lt_of_block h.hd)).trans h.hd
 hb:=h.hb.alloc h.hb.size _
theorem FrD.eqf {w:World}{bx gd n:Nat}{f g:Nat->Int}{wr:World}(h:FrD w bx gd n f wr)(hg:∀v,v<n->g v=f v):FrD w bx gd n g wr where
 hx:=h.hx
 hd:=by
  rw[h.hd,show D9 n f=D9 n g from ?_];unfold D9;congr 1;exact List.map_congr_left fun v hv=>by rw[hg v (List.mem_range.1 hv)]
 hb:=h.hb
theorem Alt (b n:Nat)(rs:List Bb)(a:Nat)(w:World)(hm:C0 w b n rs)(ha:a<n):
  Calls Tryz.prog 64 #[.pointer (some ⟨b,0,none⟩), .int .i64 (a:Int)] w fun e w'=>∃g,e= .returned (.slice (some ⟨g,0,none⟩) n n)/\w'.heap[g]? =some (.cells (Aj9 n (D3 n rs a)) 2 (0,0))/\Below w.heap.size w w':=by
 obtain⟨An,cn,mb,Ar,cr,Aq,cq,c0,c1,c2,c3⟩:=hm.cells;have o1:=hm.few;have HM:=hI hm;clear hm c1 c2;go_enter Tryz.func64,Tryz.ntmps64;go_wp2_with fail;refine(Gz b An n cn w c0).mono ?_;rintro e w1 ⟨rfl,p3⟩;have o2:=hI p3;clear p3;have q2:=fun w=>run_make_row' (P:=Tryz.prog) 42 2 (.int .i64 0) 8 Tryz.underlying42 K6 rfl .i64 .i64 n (by omega) (by omega) w
 have s4:n<=maxLen:=by unfold maxLen;omega
 go_wp2;clear q2;rw[Lm];have o0:=o2.out.size
 have f7:Hid (FrD w (w1.heap.size+1) w1.heap.size n (fun _=>0) ((w1.alloc (.cells (D9 n fun _=>0) 2)).alloc (.cells #[.slice (some ⟨w1.heap.size,0,none⟩) n n] 42))):=
  ⟨Ak (by simp),(Az (by simp)).trans (Ak rfl),(o2.out.alloc o0 _).alloc (by simp;omega) _⟩
 obtain⟨bx,m6⟩:∃bx,bx=w1.heap.size+1:=⟨_,rfl⟩;rw[←m6]at f7 ⊢;obtain⟨gd,k6⟩:∃gd,gd=w1.heap.size:=⟨_,rfl⟩;rw[←k6]at f7 ⊢;have f2:w.heap.size<=gd:=by omega
 have f1:gd<bx:=by omega
 generalize(w1.alloc (.cells (D9 n fun _=>0) 2)).alloc (.cells #[.slice (some ⟨gd,0,none⟩) n n] 42)=W2 at*;clear k6 m6 o0
 go_loopw [6,18] (fun _ i wr=>∃k:Nat,k<=n/\i= .int .i64 (k:Int)/\Hid (FrD w bx gd n (fun v=>if v<k then-1 else 0) wr)) (fun _ i _=>n-(intOf i).toNat)
 case atStart=>exact⟨0,Nat.zero_le _,rfl,f7.out.eqf fun v _=>by simp⟩
 case round=>
  obtain⟨k,hk,rfl,HF⟩:=hrel;by_cases hlt:k<n
  ·have s0:(k:Int)<(n:Int):=by omega
   have cx:=HF.out.cx;have cd:=HF.out.cd hlt;have fz:=HF.out.fz k;go_wp2
   go_roundw
   case rel=>
    refine⟨k+1,by omega,by simp,HF.out.set f2 (by omega) (g:=fun v=>if v<k+1 then-1 else 0) (by simp) fun v _ hv=> ?_⟩
    by_cases e:v<k
    ·simp[e,Nat.lt_succ_of_lt e]
    ·have:¬v<k+1:=by omega
     simp[e,this]
   case measure=>simp[intOf];omega
  ·obtain rfl:k=n:=by omega
   clear f7;have cx:=HF.out.cx;have cd:=HF.out.cd ha;have fz:=HF.out.fz a;have p5:(a:Int)<(k:Int):=by omega
   go_wp2
   have i4:Hid (FrD w bx gd k (fun v=>Bf (if v=a then some 0 else none)) (wr.setCell ⟨gd,a,none⟩ (.int .i64 0))):=
    HF.out.set f2 (by omega) (by simp[Bf]) fun v hv hne=>by simp[hne,Bf,hv]
   have hz:(wr.setCell ⟨gd,a,none⟩ (.int .i64 0)).heap.size=wr.heap.size:=by simp
   rw[←hz];generalize wr.setCell ⟨gd,a,none⟩ (.int .i64 0)=W3 at*;clear cx cd fz HF p5 hz;obtain⟨B0,f9⟩:∃B0,B0=W3.heap.size:=⟨_,rfl⟩;have f8:bx<B0:=by rw[f9];exact lt_of_block i4.out.hx
   have m2:Hid (E2 (W3.alloc (.cells #[.int .i64 (a:Int)] 3)) B0 B0 1 [a]):=
    ⟨by simp,Or.inr ⟨B0,1, #[.int .i64 (a:Int)],rfl,rr,Ak f9,by simp,by simp[maxLen],by simp,by simp⟩⟩
   have p2:=hI (i4.out.alloc (.cells #[.int .i64 (a:Int)] 3));have HN:=hI (M7 HM.out.ok a);rw[←f9];generalize W3.alloc (.cells #[.int .i64 (a:Int)] 3)=W4 at*;clear f9 i4
   go_loopg [7] (2*k-1) (fun kx s7 wr=>∃(D:Nat->Option Nat) (op:List Nat) (go co:Nat),s7= .slice (some ⟨go,0,none⟩) op.length co/\kx<=2*k/\Hid (Dij (wtN rs) a D op)/\Hid (DB k kx D op)/\Hid (FrD w bx gd k (fun v=>Bf (D v)) wr)/\Hid (E2 wr B0 go co op))
   case atStart=>exact⟨_,[a],B0,1,rfl,Nat.sub_le _ _,Dij.begin _ _,DB.begin ha,p2.out,m2.out⟩
   case round=>
    obtain⟨D,op,go,co,rfl,s2,g1,b0,a5,i3⟩:=hrel;clear p2 m2;by_cases hop:op.length=0
    ·have k5:op=[]:=List.eq_nil_of_length_eq_zero hop;subst k5;have cx:=a5.out.cx;go_wp2;go_ret;exact⟨gd,rfl,by rw[a5.out.hd];rw[show(fun v=>Bf (D v))=fun v=>Bf (D3 k rs a v)from funext fun v=>congrArg Bf (Kt (g1.out.done v) (HN.out v))],a5.out.hb⟩
    ·have q1:(0:Int)<(op.length:Int):=by omega
     obtain⟨m4,r5,q7,cur,hg,q3,o9⟩:=i3.out.block;have p8:op.length<=4000:=by have:=b0.out.me;omega
     have p1:Hid (C0 wr b k rs):=HM.out.below a5.out.hb;go_wp2_with fail;refine(Ams k D op go gd bx co _ cur hg (Nn o9) b0.out.inn (by omega) p8 a5.out.hx a5.out.hd (by omega) (by omega)).mono ?_;rintro e w5 ⟨at_,rfl,d3,b2,d4⟩;have a9:=hI d3;have k7:=hI b2;have p9:=d4.size;have j8:=hI (a5.out.below d4);have i5:=hI (i3.out.below d4);have k9:=hI (p1.out.below d4);clear d4 d3 b2 hg o9 q3 m4 r5 q7 p1 a5 i3;go_wp2_with fail;have i2:(w5.alloc (.cells #[.int .i64 (at_:Int)] 3)).heap[w5.heap.size]? =some (.cells #[.int .i64 (at_:Int)] 3 (0,0)):=hpt;have k0:go<w5.heap.size:=by obtain⟨_,_,_,cur,hg,_⟩:=i5.out.block;exact lt_of_block hg
     have i8:bx<w5.heap.size:=lt_of_block j8.out.hx;have o3:=hI (j8.out.alloc (.cells #[.int .i64 (at_:Int)] 3));have m8:=hI (i5.out.below ((Below.refl _ w5).alloc rr (.cells #[.int .i64 (at_:Int)] 3)));have r0:=hI (k9.out.below ((Below.refl _ w5).alloc rr (.cells #[.int .i64 (at_:Int)] 3)));obtain⟨ba,p0⟩:∃ba,ba=w5.heap.size:=⟨_,rfl⟩;rw[←p0]at i2 k0 i8 ⊢;have d8:=hI i2;generalize w5.alloc (.cells #[.int .i64 (at_:Int)] 3)=w6 at*;clear p0 i2 j8 i5 k9 p9;refine(Amt op at_ B0 go ba co w6 m8.out d8.out (by omega)).mono ?_;rintro e w7 ⟨rfl,i9,g3⟩;have m4:B0<=go:=i9.block.1;have j1:=hI i9;have a4:=hI ((g3.block ba (lt_of_block d8.out) (by omega)).trans d8.out);have b3:=hI (o3.out.keep g3 fun z e=>by subst e;exact⟨by omega,by omega,by omega⟩);have q9:=hI (HM.out.below b3.out.hb);clear i9 g3 m8 d8 o3 r0;obtain⟨dAt,a2⟩:=g1.out.open_ at_ a9.out;obtain⟨m,rfl⟩:∃m,gk=m+1:=⟨gk-1,by have:=b0.out.pos a9.out;omega⟩;obtain⟨i6,m3⟩:=b0.out.del a9.out a2
     have j0:=Rlx.begin g1.out a9.out a2 (fun v hv dv hdv=>by
      have:=k7.out v hv
      rw[a2,hdv]at this;simp only[Bf]at this;omega)
     have b6:=b0.out.inn at_ a9.out;obtain⟨r,hr⟩:∃r,r=op.filter fun x=> !decide (x=at_):=⟨_,rfl⟩
     rw[←hr]at j1 i6 j0 ⊢;have q0:=hI j0;have g2:=hI i6;have m5:=hI m3;have s1:=hI a2;clear j0 i6 m3 a2 hr g1 b0 k7 a9;obtain⟨qb,qo,cq',A,me,ce,es,c3w,m9,cqw,o6,b5⟩:=HM.out.nearAt b6;have c3':=(b3.out.hb.cell (p:=⟨b,3,none⟩) HM.out.lt).trans c3w;have cqa:=(b3.out.hb.cell (p:=⟨qb,qo+at_,none⟩) m9).trans cqw;clear c3w cqw;have j9:=hI o6;have o8:=hI b5;clear o6 b5;have ca:=Ad (j:=0) a4.out rfl;have o7:(at_:Int)<(k:Int):=by omega
     go_upto_region 13 with fail
     go_cut [46,47,48]from 40 to 48 (fun s46 s47 s48 wx=>s46= .slice A me ce/\s47= .int .i64 (me:Int)/\s48= .int .i64 0/\wx=w7.drew)
     case first=>
      refine Bg (fun W'=>W'.cell? ⟨b,3,none⟩=some (.slice (some ⟨qb,qo,none⟩) k cq')/\W'.cell? ⟨ba,0,none⟩=some (.int .i64 (at_:Int))/\W'.cell? ⟨qb,qo+at_,none⟩=some (.slice A me ce)) (by kernel_rfl) ⟨c3',ca,cqa⟩ (fun hHeld=> ?_)
      (refine' Ab 0 rfl ?_;(try simp only[Act.put,nY,nX]));(refine' Ab 1 rfl ?_;(try simp only[Act.put,nY,nX]));(refine' Ab 2 rfl ?_;(try simp only[Act.put,nY,nX]));(refine' Ab 3 rfl ?_;(try simp only[Act.put,nY,nX]));(refine' Ab 4 rfl ?_;(try simp only[Act.put,nY,nX]));(refine' Ab 5 rfl ?_;(try simp only[Act.put,nY,nX]));(refine' Ab 6 rfl ?_;(try simp only[Act.put,nY,nX]))
      refine Ju (i:=7) (j:=8) (by kernel_rfl) rfl rfl (fun K' hK'=> ?_) (fun K' hK'=> ?_)
      all_goals rw[if_pos (by rfl)]
      all_goals go_simp
      ·refine hK' _ _ ⟨.inr hHeld,fun _=> ?_⟩
       clear hK' K'
       (try simp only[Act.put,nY,nX])
       (refine Am8 8 rfl (fun K' hK'=> ?_);simp only[nY];go_simp)
       refine hK' _ _ ⟨.inl (by kernel_rfl),fun _=>Ba (by kernel_rfl) ?_ _⟩
       clear hK' K' hHeld;go_wp2_with fail;go_meet
       case rel=>exact⟨rfl,rfl,rfl,rfl⟩
      ·refine hK' _ _ ⟨.inr hHeld,fun _=> ?_⟩
       clear hK' K'
       (try simp only[Act.put,nY,nX])
       (refine Am8 7 rfl (fun K' hK'=> ?_);simp only[nY];go_simp)
       refine hK' _ _ ⟨.inl (by kernel_rfl),fun _=>Ba (by kernel_rfl) ?_ _⟩
       clear hK' K' hHeld;go_wp2_with fail;go_meet
       case rel=>exact⟨rfl,rfl,rfl,rfl⟩
     case rest=>
     obtain⟨rfl,rfl,rfl,r2⟩:=hcut;obtain rfl:=r2;go_wp2_with fail;have r6:=Fv.max j9.out;have j3:=hI (b3.out.below ((Below.refl w7.heap.size w7).drew));have m0:=hI (j1.out.below ((Below.refl w7.heap.size w7).drew));have m7:Hid (w7.drew.heap[ba]? =some (.cells #[.int .i64 (at_:Int)] 3 (0,0))):=a4.out;have r4:w7.drew.heap.size=w7.heap.size:=rfl;have r3:ba<w7.drew.heap.size:=lt_of_block a4.out;have p7:bx<w7.drew.heap.size:=lt_of_block j3.out.hx;generalize w7.drew=w8 at*;clear b3 j1 a4 q9 c3' cqa ca r4 m9
     go_loopw [7,48] (fun s7 i wr=>∃(j:Nat) (D:Nat->Option Nat) (op:List Nat) (go co:Nat),i= .int .i64 (j:Int)/\j<=me/\go≠ba/\s7= .slice (some ⟨go,0,none⟩) op.length co/\Hid (Rlx (wtN rs) a at_ dAt (es.take j) D op)/\Hid (DB k m D op)/\Hid (FrD w bx gd k (fun v=>Bf (D v)) wr)/\Hid (E2 wr B0 go co op)∧
      Hid (wr.heap[ba]? =some (.cells #[.int .i64 (at_:Int)] 3 (0,0)))) (fun _ i _=>me-(intOf i).toNat)
     case atStart=>exact⟨0,D,r,go,co,rfl,Nat.zero_le _,by omega,rfl,q0.out,g2.out,j3.out,m0.out,m7.out⟩
     case round=>
      obtain⟨j,D',op',go',co',rfl,hj,k4,rfl,g4,k8,d2,j2,f3⟩:=hrel;clear j3 m0 m7;by_cases hlt:j<me
      ·have s3:(j:Int)<(me:Int):=by omega
       obtain⟨eb,eo,x,l,hA,q6,f1,ex,el⟩:=Fv.at_ (j9.out.below d2.out.hb rr) hlt;subst hA;have b7:(x,l)∈Dh rs at_:=o8.out.mem_iff.1 (List.mem_of_getElem? f1);have hw:=(M6 HM.out.ok).1 b7;obtain⟨_,g7⟩:=Acp HM.out.ok _ _ _ hw;have k1:=Aav HM.out.ok hw;have p6:=hI f1;have q4:=hI hw;clear b7 hw f1;have f5:Below wr.heap.size wr (wr.alloc (.cells #[.int .i64 (x:Int), .int .i64 (l:Int)] 112)):=bel;have f8:=(Ak rfl:(wr.alloc (.cells #[.int .i64 (x:Int), .int .i64 (l:Int)] 112)).heap[wr.heap.size]? =_);have f4:=hI (d2.out.below f5);have m1:=hI (j2.out.below f5);have j4:=hI ((f5.block ba (lt_of_block f3.out)).trans f3.out);have i7:bx<wr.heap.size:=lt_of_block d2.out.hx;have g6:ba<wr.heap.size:=lt_of_block f3.out;go_wp2_with fail;obtain⟨xb,d0⟩:∃xb,xb=wr.heap.size:=⟨_,rfl⟩;rw[←d0]at f8 i7 g6 ⊢;have k2:=hI f8;generalize wr.alloc (.cells #[.int .i64 (x:Int), .int .i64 (l:Int)] 112)=w9 at*;clear d0 f5 f8 ex el q6 d2 j2 f3;have cbx:=f4.out.cx;have cba:=Ad (j:=0) j4.out rfl;have cda:w9.cell? ⟨gd,at_,none⟩=some (.int .i64 (dAt:Int)):=by have:=f4.out.cd b6;rw[g4.out.atv]at this;exact this
       have cxl:=Ad (j:=1) k2.out rfl
       have q5:IntKind.i64.wrap ((dAt:Int)+(l:Int))=((dAt+l:Nat):Int):=by
        have h1:=m5.out;rw[IntWalk.i64_in _ (by omega)];omega
       refine Bg (fun W'=>W'.cell? ⟨bx,0,none⟩=some (.slice (some ⟨gd,0,none⟩) k k)/\W'.cell? ⟨ba,0,none⟩=some (.int .i64 (at_:Int))/\W'.cell? ⟨gd,at_,none⟩=some (.int .i64 (dAt:Int))/\W'.cell? ⟨xb,1,none⟩=some (.int .i64 (l:Int))) (by kernel_rfl) ⟨cbx,cba,cda,cxl⟩ (fun hHeld=> ?_)
       (refine' Ab 0 rfl ?_;(try simp only[Act.put,nY,nX]));(refine' Ab 1 rfl ?_;(try simp only[Act.put,nY,nX]));(refine' Ab 2 rfl ?_;(try simp only[Act.put,nY,nX]));(refine' Ab 3 rfl ?_;(try simp only[Act.put,nY,nX]));(refine' Ab 4 rfl ?_;(try simp only[Act.put,nY,nX]));(refine' Ab 5 rfl ?_;(try simp only[Act.put,nY,nX]));(refine' Ab 6 rfl ?_;(try simp only[Act.put,nY,nX]))
       (refine Am8 7 rfl (fun K' hK'=> ?_);simp only[nY];go_simp)
       rw[show(dAt:Int)+(l:Int)=((dAt+l:Nat):Int)from by omega];refine hK' _ _ ⟨.inl (by kernel_rfl),fun _=>Ba (by kernel_rfl) ?_ _⟩
       clear hK' K' hHeld q5 cda cba cxl cbx;have a7:Below w9.heap.size w9 w9.drew:=(Below.refl _ _).drew;have a8:=hI (f4.out.below a7);have b1:=hI (m1.out.below a7);have j6:Hid (w9.drew.heap[ba]? =some (.cells #[.int .i64 (at_:Int)] 3 (0,0))):=j4.out;have f6:Hid (w9.drew.heap[xb]? =some (.cells #[.int .i64 (x:Int), .int .i64 (l:Int)] 112 (0,0))):=k2.out;clear f4 m1 j4 k2 a7;generalize w9.drew=wa at*;have cbx:=a8.out.cx;have cxx:=Ad (j:=0) f6.out rfl;have cdx:=a8.out.cd g7;have fzx:=a8.out.fz x;have a1:=g4.out.step q4.out;have a0:=k8.out.relax m5.out g7 k1;have r8:(x:Int)<(k:Int):=by omega
       have p4:=r6.2;have g5:Hid (es.take (j+1)=es.take j++[(x,l)]):=Bd es j (x,l) p6.out;unfold L7 at a1 a0;dsimp only at a1 a0
       cases hD:D' x with
       |none=>
        rw[hD]at a1 a0 cdx;dsimp only at a1 a0;have d6:=hI a1;have a3:=hI a0;have i1:op'.length+1<=4096:=by have:=a0.me;rw[List.length_append]at this;simp at this;omega
        clear a1 a0 hD;simp only[Bf]at cdx;have d7:=b1.out.below ((Below.refl _ wa).alloc rr (.cells #[.int .i64 (x:Int)] 3));have o5:=hI d7
        have q8:B0<=(wa.alloc (.cells #[.int .i64 (x:Int)] 3)).heap.size:=by
         have h1:=d7.block.1;obtain⟨_,_,_,cur,hg,_⟩:=d7.block
         have:=lt_of_block hg
         omega
        have i0:xb<wa.heap.size:=lt_of_block f6.out;clear d7;go_wp2_with(at_builtin;refine Fs rfl (.tmp 66) (.tmp 69) rfl B0 (.slice (some ⟨go',0,none⟩) op'.length co') op'.length (op'.map fun(x:Nat)=>Value.int .i64 (x:Int)) rfl o5.out ⟨wa.heap.size,0,none⟩ 1 (.int .i64 (x:Int)) rfl (cell_one_new _ _ _) rfl i1 q8 ?hc)
        case hc=>
         intro v' wb a6 hg d3;obtain⟨g8,c8,rfl,h8,_⟩:=Vo a6 (by omega);have d9:Au (fun z=>z=go') (wa.alloc (.cells #[.int .i64 (x:Int)] 3)) wb:=(Au.refl _ _).grown hg (fun z e=> .inl (by injection e with e;exact e.symm));have r1:B0<=go':=o5.out.block.1
         have b9:Hid (E2 wb B0 g8 c8 (op'++[x])):=by
          show wb.ownsRow _ _ _ _ _ _;rw[List.map_append,List.length_append];exact a6
         have f0:Below wa.heap.size wa (wa.alloc (.cells #[.int .i64 (x:Int)] 3)):=bel;have d1:=hI ((a8.out.below f0).keep d9 fun z e=>by subst e;exact⟨by omega,by omega,by omega⟩);have o4:=hI ((d9.block ba (by simp;omega) (Ne.symm k4)).trans ((f0.block ba (by omega)).trans j6.out))
         have r7:=hI ((d9.block xb (by simp;omega) (by
          obtain⟨_,_,_,cur,g0,_⟩:=b1.out.block;intro e;rw[←e,f6.out]at g0;cases g0)).trans ((f0.block xb i0).trans f6.out))
         have r9:g8≠ba:=by
          rcases d3 with h|h
          ·have:g8=go':=by injection h
           omega
          ·have:g8=wa.heap.size+1:=by injection h
           omega
         clear a6 hg d3 d9 f0;have ccx:=d1.out.cx;have ccd:=d1.out.cd g7;have ccf:=d1.out.fz x;have ccx0:=Ad (j:=0) r7.out rfl;have j5:ba≠gd:=fun e=>by omega
         have b4:=hI (d1.out.set f2 (by omega) (g:=fun v=>Bf (Hu D' x (dAt+l) v)) (x:=((dAt+l:Nat):Int)) (by show Bf (Hu D' x (dAt+l) x)=_;rw[Dq];rfl) fun v _ hv=>by show Bf (Hu D' x (dAt+l) v)=_;rw[Dr _ _ hv])
         have d5:=hI (b9.out.heap (w':=wb.setCell ⟨gd,x,none⟩ (.int .i64 ((dAt+l:Nat):Int))) (Below.heap_setCell _ _ _ _ (by show g8≠gd;omega)));have b8:=hI ((Below.heap_setCell wb ⟨gd,x,none⟩ (.int .i64 ((dAt+l:Nat):Int)) ba j5).trans o4.out);clear o4 b9 d1;go_wp2_with fail
         go_roundw
         case rel=>exact⟨j+1,_,_,g8,c8,by first|rfl|(simp;done),by omega,r9,by first|rfl|(simp;done),by rw[g5.out];exact d6.out,a3.out,by first|exact b4.out|simpa using b4.out,by first|exact d5.out|simpa using d5.out,by first|exact b8.out|simpa using b8.out⟩
         case measure=>simp[intOf];omega
       |some dx=>
        rw[hD]at a1 a0 cdx;dsimp only at a1 a0;simp only[Bf]at cdx;by_cases hle:dx<=dAt+l
        ·rw[if_pos hle]at a1 a0;have d6:=hI a1;have a3:=hI a0;clear a1 a0 hD;have g9:(dx:Int)<=(dAt:Int)+(l:Int):=by omega
         have k3:¬(dx:Int)<0:=by omega
         go_wp2_with fail
         go_roundw
         case rel=>exact⟨j+1,_,_,go',co',by first|rfl|(simp;done),by omega,k4,by first|rfl|(simp;done),by rw[g5.out];exact d6.out,a3.out,a8.out,b1.out,j6.out⟩
         case measure=>simp[intOf];omega
        ·rw[if_neg hle]at a1 a0;have d6:=hI a1;have a3:=hI a0;clear a1 a0 hD;have g9:¬(dx:Int)<=(dAt:Int)+(l:Int):=by omega
         have k3:¬(dx:Int)<0:=by omega
         have j5:ba≠gd:=fun e=>by omega
         have g0:go'≠gd:=by have:=b1.out.block.1;omega
         have b4:=hI (a8.out.set f2 (by omega) (g:=fun v=>Bf (Hu D' x (dAt+l) v)) (x:=((dAt+l:Nat):Int)) (by show Bf (Hu D' x (dAt+l) x)=_;rw[Dq];rfl) fun v _ hv=>by show Bf (Hu D' x (dAt+l) v)=_;rw[Dr _ _ hv])
         have d5:=hI (b1.out.heap (w':=wa.setCell ⟨gd,x,none⟩ (.int .i64 ((dAt+l:Nat):Int))) (Below.heap_setCell _ _ _ _ g0));have b8:=hI ((Below.heap_setCell wa ⟨gd,x,none⟩ (.int .i64 ((dAt+l:Nat):Int)) ba j5).trans j6.out);go_wp2_with fail
         go_roundw
         case rel=>exact⟨j+1,_,_,go',co',by first|rfl|(simp;done),by omega,k4,by first|rfl|(simp;done),by rw[g5.out];exact d6.out,a3.out,by first|exact b4.out|simpa using b4.out,by first|exact d5.out|simpa using d5.out,by first|exact b8.out|simpa using b8.out⟩
         case measure=>simp[intOf];omega
      ·obtain rfl:j=me:=by omega
       go_wp2_with fail
       have j7:Dij (wtN rs) a D' op':=g4.out.done_ fun v l hv=>by
        have h1:=o8.out.mem_iff.2 ((M6 HM.out.ok).2 hv);rw[List.take_of_length_le (by rw[Fv.len j9.out];exact rr)];exact h1
       go_roundg m
       case measure=>omega
       case rel=>exact⟨D',op',go',co',by first|rfl|(simp;done),by omega,j7,k8.out,d2.out,j2.out⟩
def Jt (n:Nat)(rs:List Bb)(x y:Int):Option Nat:=if(0<=x/\x<n)/\0<=y/\y<n then D3 n rs x.toNat y.toNat else none
theorem Ahp (b n:Nat)(rs:List Bb)(x y:Int)(w:World)(hm:C0 w b n rs):
  Calls Tryz.prog 21 #[.pointer (some ⟨b,0,none⟩), .int .i64 x, .int .i64 y] w fun e w'=>e= .returned (.tuple #[.int .i64 (((Jt n rs x y).getD 0:Nat):Int), .bool (Jt n rs x y).isSome])/\Below w.heap.size w w':=by
 obtain⟨An,cn,mb,Ar,cr,Aq,cq,c0,c1,c2,c3⟩:=hm.cells;have HM:=hI hm;have a8:=hm.lt;clear hm c1 c2 c3;have a3:=hI c0;clear c0;go_enter Tryz.func21,Tryz.ntmps21;go_wp2_with fail;refine(Ahm b An n cn x w a3.out).mono ?_;rintro e w1 ⟨rfl,a5⟩;have a0:=hI a5;clear a5;by_cases hx:0<=x/\x<(n:Int)
 ·rw[decide_eq_true hx];go_wp2_with fail;refine(Ahm b An n cn y w1 ((a0.out.cell (p:=⟨b,0,none⟩) a8).trans a3.out)).mono ?_;rintro e w2 ⟨rfl,a4⟩;have a1:=hI (a0.out.trans (a4.mono a0.out.size));clear a4 a0;by_cases hy:0<=y/\y<(n:Int)
  ·rw[decide_eq_true hy];obtain⟨xn,rfl⟩:∃xn:Nat,x=xn:=⟨x.toNat,by omega⟩;obtain⟨yn,rfl⟩:∃yn:Nat,y=yn:=⟨y.toNat,by omega⟩;have HD:Hid (Jt n rs xn yn=D3 n rs xn yn):=by show _=_;unfold Jt;rw[if_pos ⟨hx,hy⟩];rfl
   have a7:yn<n:=by omega
   have a9:(yn:Int)<(n:Int):=hy.2;go_wp2_with fail;refine(Alt b n rs xn w2 (HM.out.below a1.out) (by omega)).mono ?_;rintro e w3 ⟨g,rfl,hg,a6⟩;have a2:=hI (a1.out.trans (a6.mono a1.out.size));have hc:=Gk hg a7;clear a6 hg a1 hx hy;obtain⟨o,ho⟩:∃o,o=D3 n rs xn yn:=⟨_,rfl⟩;have HO:Hid (Jt n rs xn yn=o):=HD.out.trans ho.symm;rw[←ho]at hc;clear ho
   cases o with
   |none=>
    simp only[Bf]at hc;go_wp2
    go_ret2
    exact⟨by rw[HO.out];rfl,a2.out⟩
   |some d=>
    simp only[Bf]at hc;go_wp2
    go_ret2
    exact⟨by rw[HO.out];simp,a2.out⟩
  ·have HD:Hid (Jt n rs x y=none):=by show _=_;unfold Jt;rw[if_neg (fun h=>hy h.2)]
   rw[decide_eq_false hy];clear hx hy;go_wp2
   go_ret2
   exact⟨by rw[HD.out];rfl,a1.out⟩
 ·have HD:Hid (Jt n rs x y=none):=by show _=_;unfold Jt;rw[if_neg (fun h=>hx h.1)]
  rw[decide_eq_false hx];clear hx;go_wp2
  go_ret2
  exact⟨by rw[HD.out];rfl,a0.out⟩
end Go.Proofs.YtaglfmlgbcmakaaGreatDoor
namespace Go.Proofs.YtaglfmlgbcmakaaGreatDoor
open Go.RowKit
-- how long the shortest ways are
theorem Vv {wt:Nat->Nat->Option Nat}{a b d:Nat}(h:Hf wt a b (some d)):b=a∨∃c e l,wt c b=some l/\Hf wt a c (some e)/\e+l=d:=by
 obtain⟨hw,hm⟩:=h
 cases hw with
 |nil=>exact .inl rfl
 | @snoc c _ e l hw hl=>
  refine .inr ⟨c,e,l,hl,⟨hw,fun d' hw'=> ?_⟩,rfl⟩
  have:=hm _ (Way.snoc hw' hl)
  omega
def Gr (_wt:Nat->Nat->Option Nat)(n _a d:Nat)(dist:Nat->Option Nat):Nat:=((List.range n).filter fun v=>match dist v with|some e=>decide (e<d)|none=>false).length
theorem Aca {wt:Nat->Nat->Option Nat}{n M a:Nat}{dist:Nat->Option Nat}(hd:∀v,Hf wt a v (dist v))(hn:∀u v l,wt u v=some l->u<n/\v<n)(hl:∀u v l,wt u v=some l->1<=l/\l<=M):
  ∀(d b:Nat),dist b=some d->d<=M*Gr wt n a d dist:=by
 intro d
 induction d using Nat.strongRecOn with
 |ind d ih=>
  intro b hb;have a1:=hd b;rw[hb]at a1;rcases Vv a1 with e|⟨c,e,l,a2,a3,a6⟩
  ·subst e
   have:d=0:=by
    have:=a1.2 0 (.nil _);omega
   subst this;exact Nat.zero_le _
  ·obtain⟨a5,a4⟩:=hl _ _ _ a2
   have a0:dist c=some e:=by
    have:=hd c
    exact Kt this a3
   have h1:=ih e (by omega) c a0
   have h2:Gr wt n a e dist<Gr wt n a d dist:=by
    unfold Gr;refine Gl (p:=fun v=>match dist v with|some x=>decide (x<e)|none=>false) (q:=fun v=>match dist v with|some x=>decide (x<d)|none=>false) (fun v hv=> ?_) (y:=c) (by simp[a0]) (by simp[a0];omega) _ (List.mem_range.2 (hn _ _ _ a2).1)
    cases hv':dist v with
    |none=>rw[hv']at hv;cases hv
    |some x=>rw[hv']at hv;simp at hv ⊢;omega
   have h3:M*Gr wt n a e dist+M<=M*Gr wt n a d dist:=by
    rw[←Nat.mul_succ];exact Nat.mul_le_mul_left _ h2
   omega
theorem Akv {n:Nat}{rs:List Bb}(h:Ci n rs){a b d:Nat}(hd:D3 n rs a b=some d):d<=1073741824*(n-1):=by
 have h1:=Aca (M:=1073741824) (fun v=>M7 h a v) (Acp h) (fun u v l hw=>⟨Aln h hw,Aav h hw⟩) d b hd;refine Nat.le_trans h1 (Nat.mul_le_mul_left _ ?_);rcases Nat.eq_zero_or_pos d with e|e
 ·subst e
  have:Gr (wtN rs) n a 0 (D3 n rs a)=0:=by
   unfold Gr;rw[List.length_eq_zero_iff,List.filter_eq_nil_iff];intro v _;cases D3 n rs a v<;>simp
  omega
 ·-- the point itself is not nearer than it is
  have a0:b<n:=by
   have hw:=(M7 h a b);rw[hd]at hw;rcases Vv hw with e'|⟨c,x,l,hc,_,_⟩
   ·subst e'
    have:=hw.2 0 (.nil _);omega
   ·exact(Acp h _ _ _ hc).2
  have h2:Gr (wtN rs) n a d (D3 n rs a)<n:=by
   unfold Gr
   have:=Gl (p:=fun v=>match D3 n rs a v with|some e=>decide (e<d)|none=>false) (q:=fun _=>true) (fun _ _=>rfl) (y:=b) (by simp[hd]) rfl (List.range n) (List.mem_range.2 a0)
   rw[List.filter_eq_self.2 (fun _ _=>rfl),List.length_range]at this;exact this
  omega
theorem Vw {n:Nat}{rs:List Bb}(h:Ci n rs)(a b:Nat):D3 n rs a b=D3 n rs b a:=
 Kt (M7 h a b) ((M7 h b a).rev (Ajw rs))
-- lines that grow
theorem Hr {lt:Nat->Nat->Bool}(h:Ho lt)(p:Nat->Bool)(m:Nat):(E9 lt p m).length=((List.range m).filter p).length:=by
 refine List.Perm.length_eq ((List.perm_ext_iff_of_nodup ?_ ?_).2 fun i=> ?_)
 ·exact(Jk h p m).imp fun{a b} hab e=>by subst e;rw[h.irr]at hab;cases hab
 ·exact(List.nodup_range (n:=m)).filter _
 ·rw[Fy h,List.mem_filter,List.mem_range]
-- lists of points gone over
end Go.Proofs.YtaglfmlgbcmakaaGreatDoor
namespace Go.Proofs.YtaglfmlgbcmakaaGreatDoor
open Go.RowKit Go.Shelf
structure Bu where
 d:Cv
 A:Option Addr
 n:Nat
 c:Nat
def Bu.cells (x:Bu):List Value:=[.int .i64 x.d.law, .slice x.A x.n x.c, .int .i64 x.d.time, .int .i64 x.d.slow, .int .i64 x.d.fin]
theorem Bu.len (x:Bu):x.cells.length=5:=rfl
abbrev M8 (x:Bu):Value:= .agg #[.int .i64 x.d.law, .slice x.A x.n x.c, .int .i64 x.d.time, .int .i64 x.d.slow, .int .i64 x.d.fin]
structure Acq (x:Cv):Prop where
 law: -9223372036854775808<=x.law/\x.law<=9223372036854775807
 time: -9223372036854775808<=x.time/\x.time<=9223372036854775807
 slow: -9223372036854775808<=x.slow/\x.slow<=9223372036854775807
 fin: -9223372036854775808<=x.fin/\x.fin<=9223372036854775807
 at_:∀a∈x.at_, -9223372036854775808<=a/\a<=9223372036854775807
structure Fw (w:World)(x:Bu):Prop where
 pts:Bn w x.A x.n x.c x.d.at_
 u:Acq x.d
def Bv (w:World)(A:Option Addr)(n c:Nat)(ys:List Bu):Prop:=Cr Bu.cells 5 w A n c ys∧∀y∈ys,Fw w y
def Ae (ys:List Bu):List Cv:=ys.map Bu.d
section
variable {w w':World}{A:Option Addr}{n c:Nat}{ys:List Bu}
theorem Fw.below {x:Bu}(h:Fw w x)(hb:Below w.heap.size w w'):Fw w' x:=⟨Am.below h.pts hb rr,h.u⟩
theorem Bv.below (h:Bv w A n c ys)(hb:Below w.heap.size w w'):Bv w' A n c ys:=⟨h.1.below hb rr,fun y hy=>(h.2 y hy).below hb⟩
theorem Bv.len (h:Bv w A n c ys):ys.length=n:=h.1.2
theorem Bv.max (h:Bv w A n c ys):n<=c/\c<=9223372036854775807:=by have h1:=h.1.1.2.1;have h2:=h.1.1.2.2.1;unfold maxLen at h2;omega
theorem Bv.at_ (h:Bv w A n c ys){k:Nat}{x:Bu}(hx:ys[k]? =some x):∃b off,A=some ⟨b,off,none⟩/\b<w.heap.size/\Fw w x∧
  w.cell? ⟨b,off+k*5,none⟩=some (.int .i64 x.d.law)/\w.cell? ⟨b,off+k*5+1,none⟩=some (.slice x.A x.n x.c)/\w.cell? ⟨b,off+k*5+2,none⟩=some (.int .i64 x.d.time)/\w.cell? ⟨b,off+k*5+3,none⟩=some (.int .i64 x.d.slow)/\w.cell? ⟨b,off+k*5+4,none⟩=some (.int .i64 x.d.fin):=by
 obtain⟨b,off,hA,hb,hc⟩:=h.1.at_ Bu.len (by decide) hx;refine⟨b,off,hA,hb,h.2 x (List.mem_of_getElem? hx), ?_⟩;simp only[Nat.add_assoc];exact⟨hc 0 _ rfl,hc 1 _ rfl,hc 2 _ rfl,hc 3 _ rfl,hc 4 _ rfl⟩
theorem Bv.get (h:Bv w A n c ys){k:Nat}(hk:k<n):∃x,ys[k]? =some x:=⟨ys[k]'(by rw[h.len];exact hk),List.getElem?_eq_getElem _⟩
end
theorem Ql (l:List (Option Nat))(o:Option Nat):Fl (l++[o])=Jm (Fl l) o:=by
 unfold Fl;rw[List.foldl_append];rfl
theorem Aix (b n:Nat)(rs:List Bb)(x:Bu)(a:Nat)(w:World)(hm:C0 w b n rs)(hx:Fw w x)(h1:Di n x.d=0)(ha:a<n):
  Calls Tryz.prog 62 #[M8 x, .pointer (some ⟨b,0,none⟩), .int .i64 (a:Int)] w fun e w'=>e= .returned (.int .i64 (Bf (De n rs x.d a)))/\Below w.heap.size w w':=by
 obtain⟨a0,hu⟩:=hx;obtain⟨a8,b8,d7,b5,d8⟩:=Ab9 h1;obtain⟨⟨law,ps,time,slow,fin⟩,Aw,nw,cw⟩:=x;obtain⟨T,rfl⟩:∃T:Nat,time=T:=⟨time.toNat,by simp only at b8;omega⟩;obtain⟨S,rfl⟩:∃S:Nat,slow=S:=⟨slow.toNat,by simp only at b5;omega⟩;have a9:=hu.fin;simp only at a0 a8 d7 d8 a9;have HP:=hI a0;have d4:=hI a8;have HM:=hI hm;have d2:nw<=9223372036854775807:=by have h1:=a0.2.1;have h2:=a0.2.2.1;unfold maxLen at h2;omega
 have a4:ps.length=nw:=by have:=a0.1;simpa using this
 have HL:=hI a4;clear a0 a8 hu h1 hm b8 b5 a4;have kb:(w.alloc (.cells #[.int .i64 law, .slice Aw nw cw, .int .i64 (T:Int), .int .i64 (S:Int), .int .i64 fin] 38)).heap[w.heap.size]? =some (.cells #[.int .i64 law, .slice Aw nw cw, .int .i64 (T:Int), .int .i64 (S:Int), .int .i64 fin] 38 (0,0)):=hpt;have kB:Below w.heap.size w (w.alloc (.cells #[.int .i64 law, .slice Aw nw cw, .int .i64 (T:Int), .int .i64 (S:Int), .int .i64 fin] 38)):=bel;go_enter Tryz.func62,Tryz.ntmps62;go_wp2_with fail;obtain⟨f,hf⟩:∃f:Int->Option Nat,f=fun b=>D3 n rs a b.toNat:=⟨_,rfl⟩
 have HF:=hI hf;obtain⟨B0,b0⟩:∃B0,B0=w.heap.size:=⟨_,rfl⟩;rw[←b0]at kb ⊢;have b6:=hI kb;have b3:=hI kB;have g1:w.heap.size<=B0:=Nat.le_of_eq b0.symm;generalize w.alloc (.cells #[.int .i64 law, .slice Aw nw cw, .int .i64 (T:Int), .int .i64 (S:Int), .int .i64 fin] 38)=W0 at*;clear b0 kb kB hf
 go_loopw [7,15] (fun s7 i wr=>∃k:Nat,k<=nw/\i= .int .i64 (k:Int)/\s7= .int .i64 (Bf (Fl ((ps.take k).map f)))/\Hid (wr.heap[B0]? =some (.cells #[.int .i64 law, .slice Aw nw cw, .int .i64 (T:Int), .int .i64 (S:Int), .int .i64 fin] 38 (0,0)))/\Hid (Below w.heap.size w wr)) (fun _ i _=>nw-(intOf i).toNat)
 case atStart=>exact⟨0,Nat.zero_le _,rfl,by simp[Fl,Bf],b6.out,b3.out⟩
 case round=>
  obtain⟨k,hk,rfl,rfl,HK,HB⟩:=hrel;clear b6 b3;obtain⟨o0,a3⟩:∃o0,o0=Fl ((ps.take k).map f):=⟨_,rfl⟩;rw[←a3];by_cases hlt:k<nw
  ·have f8:(k:Int)<(nw:Int):=by omega
   obtain⟨pb,po,v,hA,d0,hv,f2⟩:=(HP.out.below HB.out rr:Am wr Aw nw cw 1 (ps.map (Value.int .i64))).at1 hlt;subst hA;obtain⟨p,hp⟩:∃p,ps[k]? =some p:=⟨ps[k]'(by rw[HL.out];exact hlt),List.getElem?_eq_getElem _⟩;obtain rfl:v= .int .i64 p:=by rw[List.getElem?_map,hp]at hv;simpa using hv.symm
   have a2:=d4.out p (List.mem_of_getElem? hp);have d3:Hid (ps.take (k+1)=ps.take k++[p]):=Bd ps k p hp
   have b7:Jt n rs (a:Int) p=f p:=by
    unfold Jt;rw[if_pos ⟨⟨by omega,by omega⟩,a2.1,a2.2⟩,HF.out];rfl
   have f4:=hI b7;have f0:=hI a3;clear hv hp b7 a3 a2;go_wp2_with fail;refine(Ahp b n rs (a:Int) p wr (HM.out.below HB.out)).mono ?_;rw[f4.out];obtain⟨o,ho⟩:∃o,o=f p:=⟨_,rfl⟩
   have a7:Hid (Fl ((ps.take (k+1)).map f)=Jm o0 o):=by
    show _=_;rw[d3.out,List.map_append,List.map_singleton,Ql,ho,f0.out]
   rw[←ho];rintro e w1 ⟨rfl,b1⟩;have a6:=hI (HB.out.trans (b1.mono HB.out.size));have a5:=hI ((b1.block B0 (lt_of_block HK.out)).trans HK.out);clear b1 HB HK ho f2 d0
   cases o with
   |none=>
    go_wp2_with fail
    go_roundw
    case rel=>exact⟨k+1,by omega,by simp,by rw[a7.out,Lo],a5.out,a6.out⟩
    case measure=>simp[intOf];omega
   |some d=>
    cases o0 with
    |none=>
     simp only[Bf,Option.getD_some,Option.isSome_some];go_wp2_with fail
     go_roundw
     case rel=>exact⟨k+1,by omega,by simp,by rw[a7.out];rfl,a5.out,a6.out⟩
     case measure=>simp[intOf];omega
    |some e0=>
     simp only[Bf,Option.getD_some,Option.isSome_some];have f3:¬(e0:Int)<0:=by omega
     by_cases hde:d<e0
     ·have b2:(d:Int)<(e0:Int):=by omega
      go_wp2_with fail
      go_roundw
      case rel=>exact⟨k+1,by omega,by simp,by rw[a7.out,Lp,if_pos hde];rfl,a5.out,a6.out⟩
      case measure=>simp[intOf];omega
     ·have b2:¬(d:Int)<(e0:Int):=by omega
      go_wp2_with fail
      go_roundw
      case rel=>exact⟨k+1,by omega,by simp,by rw[a7.out,Lp,if_neg hde];rfl,a5.out,a6.out⟩
      case measure=>simp[intOf];omega
  ·obtain rfl:k=nw:=by omega
   have HN:Hid (De n rs ⟨law,ps,T,S,fin⟩ a=Ev o0 T S fin):=by
    show _=_;unfold De L5;rw[←HF.out,a3,List.take_of_length_le (by rw[HL.out];exact rr)];rfl
   have c2:=Ad (j:=2) HK.out rfl;have c3:=Ad (j:=3) HK.out rfl;have c4:=Ad (j:=4) HK.out rfl;clear a3
   cases o0 with
   |none=>
    simp only[Bf];go_wp2;go_ret;exact⟨by rw[HN.out];rfl,HB.out⟩
   |some d=>
    simp only[Bf];have f3:¬(d:Int)<0:=by omega
    go_upto_region 11 with fail
    go_cut [41]from 42 to 53 (fun s41 wx=>s41= .bool (decide (9223372036854775807<T+S*d))/\wx=wr.drew)
    case first=>
     by_cases hd0:d=0
     ·subst hd0;have hS:wr.cell? ⟨B0,3,none⟩=some (.int .i64 (S:Int))/\wr.cell? ⟨B0,2,none⟩=some (.int .i64 (T:Int)):=⟨c3,c2⟩;refine Bg (fun W'=>W'.cell? ⟨B0,3,none⟩=some (.int .i64 (S:Int))/\W'.cell? ⟨B0,2,none⟩=some (.int .i64 (T:Int))) (by kernel_rfl) hS (fun hHeld=> ?_);clear hS;have hS:=hHeld
      (refine' Ab 0 rfl ?_;(try simp only[Act.put,nY,nX]));(refine' Ab 1 rfl ?_;(try simp only[Act.put,nY,nX]));(refine' Ab 2 rfl ?_;(try simp only[Act.put,nY,nX]))
      refine' Bm (i:=3) (v:=undef) rfl (by as_aux_lemma=>kernel_rfl) (by as_aux_lemma=>kernel_rfl) (by as_aux_lemma=>kernel_rfl) (by as_aux_lemma=>kernel_rfl) (fun _ _ _ h=>h) (Or.inr ⟨by as_aux_lemma=>kernel_rfl,rfl⟩) hS ?_
      (try simp only[Act.put,nY,nX])
      refine' Bm (i:=4) (v:=undef) rfl (by as_aux_lemma=>kernel_rfl) (by as_aux_lemma=>kernel_rfl) (by as_aux_lemma=>kernel_rfl) (by as_aux_lemma=>kernel_rfl) (fun _ _ _ h=>h) (Or.inr ⟨by as_aux_lemma=>kernel_rfl,rfl⟩) hS ?_
      (try simp only[Act.put,nY,nX])
      refine' Bm (i:=5) (v:=undef) rfl (by as_aux_lemma=>kernel_rfl) (by as_aux_lemma=>kernel_rfl) (by as_aux_lemma=>kernel_rfl) (by as_aux_lemma=>kernel_rfl) (fun _ _ _ h=>h) (Or.inr ⟨by as_aux_lemma=>kernel_rfl,rfl⟩) hS ?_
      (try simp only[Act.put,nY,nX])
      refine' Bm (i:=6) (v:=undef) rfl (by as_aux_lemma=>kernel_rfl) (by as_aux_lemma=>kernel_rfl) (by as_aux_lemma=>kernel_rfl) (by as_aux_lemma=>kernel_rfl) (fun _ _ _ h=>h) (Or.inr ⟨by as_aux_lemma=>kernel_rfl,rfl⟩) hS ?_
      (try simp only[Act.put,nY,nX])
      refine' Bm (i:=7) (v:=undef) rfl (by as_aux_lemma=>kernel_rfl) (by as_aux_lemma=>kernel_rfl) (by as_aux_lemma=>kernel_rfl) (by as_aux_lemma=>kernel_rfl) (fun _ _ _ h=>h) (Or.inr ⟨by as_aux_lemma=>kernel_rfl,rfl⟩) hS ?_
      (try simp only[Act.put,nY,nX])
      refine' Bm (i:=8) (v:=undef) rfl (by as_aux_lemma=>kernel_rfl) (by as_aux_lemma=>kernel_rfl) (by as_aux_lemma=>kernel_rfl) (by as_aux_lemma=>kernel_rfl) (fun _ _ _ h=>h) (Or.inr ⟨by as_aux_lemma=>kernel_rfl,rfl⟩) hS ?_
      (try simp only[Act.put,nY,nX])
      refine' Bm (i:=9) (v:=undef) rfl (by as_aux_lemma=>kernel_rfl) (by as_aux_lemma=>kernel_rfl) (by as_aux_lemma=>kernel_rfl) (by as_aux_lemma=>kernel_rfl) (fun _ _ _ h=>h) (Or.inr ⟨by as_aux_lemma=>kernel_rfl,rfl⟩) hS ?_
      (try simp only[Act.put,nY,nX])
      refine' Bm (i:=10) (v:=undef) rfl (by as_aux_lemma=>kernel_rfl) (by as_aux_lemma=>kernel_rfl) (by as_aux_lemma=>kernel_rfl) (by as_aux_lemma=>kernel_rfl) (fun _ _ _ h=>h) (Or.inr ⟨by as_aux_lemma=>kernel_rfl,rfl⟩) hS ?_
      (try simp only[Act.put,nY,nX])
      (refine' Ab 11 rfl ?_;(try simp only[Act.put,nY,nX]))
      (refine Am8 12 rfl (fun K' hK'=> ?_);simp only[nY];go_simp)
      refine hK' _ _ ⟨.inl (by kernel_rfl),fun _=>Ba (by kernel_rfl) ?_ _⟩
      clear hK' K' hHeld hS;go_wp2_with fail;go_meet
      case rel=>exact⟨by rw[Nat.mul_zero];rw[decide_eq_false (by omega)],rfl⟩
     ·have f7:(0:Int)<(d:Int):=by omega
      have hS:wr.cell? ⟨B0,3,none⟩=some (.int .i64 (S:Int))/\wr.cell? ⟨B0,2,none⟩=some (.int .i64 (T:Int)):=⟨c3,c2⟩;refine Bg (fun W'=>W'.cell? ⟨B0,3,none⟩=some (.int .i64 (S:Int))/\W'.cell? ⟨B0,2,none⟩=some (.int .i64 (T:Int))) (by kernel_rfl) hS (fun hHeld=> ?_);clear hS
      (refine' Ab 0 rfl ?_;(try simp only[Act.put,nY,nX]));(refine' Ab 1 rfl ?_;(try simp only[Act.put,nY,nX]))
      rw[decide_eq_true (show 0<d by omega)];obtain⟨q,hq⟩:∃q:Nat,q=(9223372036854775807-T)/d:=⟨_,rfl⟩
      have d5:(9223372036854775807-(T:Int))/(d:Int)=(q:Int):=by
       rw[hq,show(9223372036854775807-(T:Int))=((9223372036854775807-T:Nat):Int)by omega];rfl
      have d1:Int.tdiv (9223372036854775807-(T:Int)) (d:Int)=(q:Int):=by rw[Int.tdiv_eq_ediv_of_nonneg (by omega)];exact d5
      have f9:¬d=0:=hd0;have g2:q<=9223372036854775807:=by rw[hq];exact Nat.le_trans (Nat.div_le_self _ _) (Nat.sub_le _ _)
      (refine' Ab 2 rfl ?_;(try simp only[Act.put,nY,nX]));(refine' Ab 3 rfl ?_;(try simp only[Act.put,nY,nX]));(refine' Ab 4 rfl ?_;(try simp only[Act.put,nY,nX]));(refine' Ab 5 rfl ?_;(try simp only[Act.put,nY,nX]));(refine' Ab 6 rfl ?_;(try simp only[Act.put,nY,nX]));(refine' Ab 7 rfl ?_;(try simp only[Act.put,nY,nX]));(refine' Ab 8 rfl ?_;(try simp only[Act.put,nY,nX]))
      have b4:(q<S)↔9223372036854775807<T+S*d:=by
       have:=Add (T:=T) (S:=S) (d:=d) (M:=9223372036854775807) (by omega)
       rw[hq,←this];exact⟨fun h=>⟨by omega,h⟩,fun h=>h.2⟩
      have f5:=hI b4;clear hq b4
      (refine' Ab 9 rfl ?_;(try simp only[Act.put,nY,nX]))
      rw[show IntKind.i64.wrap (9223372036854775807-(T:Int))=9223372036854775807-(T:Int)from IntWalk.i64_in _ (by omega),d1,show IntKind.i64.wrap (q:Int)=(q:Int)from IntWalk.i64_in _ (by omega)]
      (refine' Ab 10 rfl ?_;(try simp only[Act.put,nY,nX]));(refine' Ab 11 rfl ?_;(try simp only[Act.put,nY,nX]))
      (refine Am8 12 rfl (fun K' hK'=> ?_);simp only[nY];go_simp)
      refine hK' _ _ ⟨.inl (by kernel_rfl),fun _=>Ba (by kernel_rfl) ?_ _⟩
      clear hK' K' hHeld;go_wp2_with fail;go_meet
      case rel=>exact⟨by congr 1;exact decide_eq_decide.2 f5.out,rfl⟩
    case rest=>
     obtain⟨rfl,d9⟩:=hcut;obtain rfl:=d9;by_cases hbig:9223372036854775807<T+S*d
     ·rw[decide_eq_true hbig];go_wp2;go_ret;exact⟨by rw[HN.out];show _=Ending.returned (.int .i64 (Bf (if 9223372036854775807<T+S*d then none else _)));rw[if_pos hbig];rfl,HB.out.drew⟩
     ·rw[decide_eq_false hbig];have f1:(S:Int)*(d:Int)=((S*d:Nat):Int):=by simp
      have d6:S*d<=9223372036854775807:=by omega
      obtain⟨sd,a1⟩:∃sd,sd=S*d:=⟨_,rfl⟩;rw[←a1]at f1 d6 hbig;have g0:T+sd<=9223372036854775807:=by omega
      have f6:=hI a1;clear a1
      have HV:Hid (Ev (some d) T S fin=if fin<=(T:Int)+(sd:Int)then none else some (T+sd)):=by
       show(if 9223372036854775807<T+S*d then none else if fin<=((T+S*d:Nat):Int)then none else some (T+S*d))=_;rw[←f6.out,if_neg hbig];simp
      have b9:=hI HB.out.drew;by_cases hfi:fin<=(T:Int)+(sd:Int)
      ·go_wp2;go_ret;exact⟨by rw[HN.out,HV.out,if_pos hfi];rfl,b9.out⟩
      ·go_wp2;go_ret;exact⟨by rw[HN.out,HV.out,if_neg (by omega)];simp[Bf],b9.out⟩
end Go.Proofs.YtaglfmlgbcmakaaGreatDoor
