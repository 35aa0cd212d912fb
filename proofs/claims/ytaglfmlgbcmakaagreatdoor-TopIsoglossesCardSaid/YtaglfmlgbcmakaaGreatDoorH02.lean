/-
  The nearest open point first (chapter 36), in plain words: how long it goes on, and how large the numbers become.
  cmp.Compare over int64 and int; slices.MinFunc and slices.DeleteFunc as points.Map's from calls them.
  slices.MinFunc and slices.DeleteFunc, as points.Map's from calls them.
  points.Map's from: the distances of all points from one.
  points.Map's Dist and Roads.
  Waves (chapter 38), in plain words: how long ways are, lines that grow, lists of points gone over.
  Waves in memory (chapter 38).
  When a wave arrives at a point: wave.Wave's at.
-/
import Derived.Deep.OwnRows
import Derived.Lib.SliceRun
import Derived.Deep.CutRange
import Derived.Deep.CutBlock
import Derived.Deep.DeepCutAuto
import Derived.Test.YtaglfmlgbcmakaaGreatDoorH01
import Derived.Test.YtaglfmlgbcmakaaGreatDoorG40
import Derived.Test.YtaglfmlgbcmakaaGreatDoorG33
set_option linter.all false
set_option maxRecDepth 100000
set_option maxHeartbeats 4000000
namespace Go.Proofs.YtaglfmlgbcmakaaGreatDoor
open Go.RowKit
set_option maxRecDepth 100000
def Hq (n:Nat)(D:Nat->Option Nat):Nat:=((List.range n).filter fun v=>(D v).isNone).length
theorem Ym {n:Nat}{D:Nat->Option Nat}{x d:Nat}(hx:x<n)(h:D x=none):Hq n (F8 D x d)<Hq n D:=by
 unfold Hq;refine Gw (p:=fun v=>(F8 D x d v).isNone) (q:=fun v=>(D v).isNone) (fun v hv=> ?_) (y:=x) (by simp[Ct]) (by simp[h]) _ (List.mem_range.2 hx);by_cases e:v=x
 ·subst e;simp[h]
 ·rw[Cu _ _ e]at hv;exact hv
theorem Wj {n:Nat}{D:Nat->Option Nat}{x d:Nat}:Hq n (F8 D x d)<=Hq n D:=by
 unfold Hq;refine L2 (p:=fun v=>(F8 D x d v).isNone) (q:=fun v=>(D v).isNone) (fun v hv=> ?_) _;by_cases e:v=x
 ·subst e;rw[Ct]at hv;cases hv
 ·rw[Cu _ _ e]at hv;exact hv
theorem Hr {a:Nat}:∀{op:List Nat},a∈op->(op.filter fun x=> !decide (x=a)).length<op.length
 |y::ys,h=>by
  by_cases e:y=a
  ·subst e;rw[List.filter_cons_of_neg (by simp)]
   have:=List.length_filter_le (fun x=> !decide (x=y)) ys
   simp;omega
  ·rw[List.filter_cons_of_pos (by simp[e])]
   have h':a∈ys:=by
    rcases List.mem_cons.1 h with h|h
    ·exact absurd h.symm e
    ·exact h
   have:=Hr h'
   simp;omega
structure DB (n m:Nat)(D:Nat->Option Nat)(op:List Nat):Prop where
 out:∀v d,D v=some d->v<n
 inn:∀v∈op,v<n
 me:2*Hq n D+op.length<=m
 bd:∀v d,D v=some d->d+m*1073741824<=2*n*1073741824
theorem DB.begin {n a:Nat}(ha:a<n):DB n (2*n-1) (fun v=>if v=a then some 0 else none) [a] where
 out:=fun v d h=>by
  by_cases e:v=a
  ·subst e;exact ha
  ·simp[e]at h
 inn:=fun v hv=>by simp at hv;subst hv;exact ha
 me:=by
  have h1:Hq n (fun v=>if v=a then some 0 else none)<n:=by
   unfold Hq
   have:=Gw (p:=fun v=>(if v=a then some 0 else none:Option Nat).isNone) (q:=fun _=>true) (fun _ _=>rfl) (y:=a) (by simp) rfl (List.range n) (List.mem_range.2 ha)
   rw[List.filter_eq_self.2 (fun _ _=>rfl),List.length_range]at this;exact this
  simp;omega
 bd:=fun v d h=>by
  by_cases e:v=a
  ·subst e;simp at h;subst h;rw[Nat.zero_add];exact Nat.mul_le_mul_right _ (Nat.sub_le (2*n) 1)
  ·simp[e]at h
theorem DB.pos {n m at_:Nat}{D:Nat->Option Nat}{op:List Nat}(h:DB n m D op)(ha:at_∈op):0<m:=by
 have h1:=List.length_pos_of_mem ha;have h2:=h.me;omega
theorem DB.del {n m at_ dAt:Nat}{D:Nat->Option Nat}{op:List Nat}(h:DB n (m+1) D op)(ha:at_∈op)(hd:D at_=some dAt):DB n m D (op.filter fun x=> !decide (x=at_))/\dAt+1073741824+m*1073741824<=2*n*1073741824:=by
 have a0:(op.filter fun x=> !decide (x=at_)).length<op.length:=by
  have:=Hr ha
  exact this
 refine⟨⟨h.out,fun v hv=>h.inn v (List.mem_filter.1 hv).1, ?_,fun v d hv=> ?_⟩, ?_⟩
 ·have:=h.me;omega
 ·have:=h.bd v d hv
  rw[Nat.add_mul m 1,Nat.one_mul]at this;generalize 1073741824=C at this ⊢;generalize 2*n*C=X at this ⊢;omega
 ·have:=h.bd at_ dAt hd
  rw[Nat.add_mul m 1,Nat.one_mul]at this;generalize 1073741824=C at this ⊢;generalize 2*n*C=X at this ⊢;omega
theorem DB.relax {n m dAt x l:Nat}{D:Nat->Option Nat}{op:List Nat}(h:DB n m D op)(hb:dAt+1073741824+m*1073741824<=2*n*1073741824)(hx:x<n)(hl:l<=1073741824):DB n m (Jw dAt x l (D,op)).1 (Jw dAt x l (D,op)).2:=by
 have a0:∀v d,F8 D x (dAt+l) v=some d->v<n:=fun v d hv=>by
  by_cases e:v=x
  ·subst e;exact hx
  ·rw[Cu _ _ e]at hv;exact h.out v d hv
 have a1:∀v d,F8 D x (dAt+l) v=some d->d+m*1073741824<=2*n*1073741824:=fun v d hv=>by
  by_cases e:v=x
  ·subst e;rw[Ct]at hv;cases hv;omega
  ·rw[Cu _ _ e]at hv;exact h.bd v d hv
 unfold Jw;dsimp only
 cases hD:D x with
 |none=>
  refine⟨a0,fun v hv=> ?_, ?_,a1⟩
  ·rcases List.mem_append.1 hv with hv|hv
   ·exact h.inn v hv
   ·have:v=x:=by simpa using hv
    subst this;exact hx
  ·have h1:=Ym (d:=dAt+l) hx hD;have h2:=h.me;show 2*Hq n (F8 D x (dAt+l))+(op++[x]).length<=m;rw[List.length_append];simp only[List.length_cons,List.length_nil];omega
 |some dx=>
  dsimp only;split
  ·exact h
  ·refine⟨a0,h.inn, ?_,a1⟩;have h1:=Wj (n:=n) (D:=D) (x:=x) (d:=dAt+l);have h2:=h.me;show 2*Hq n (F8 D x (dAt+l))+op.length<=m;omega
end Go.Proofs.YtaglfmlgbcmakaaGreatDoor
namespace Go.Proofs.YtaglfmlgbcmakaaGreatDoor
open Go.RowKit Go.Shelf Go.Sort Go.Lib
def Ed (x y:Int):Int:=if x<y then-1 else if y<x then 1 else 0
theorem Lv (x:Int)(w:World):Calls Tryz.prog 118 #[.int .i64 x] w fun e w'=>e= .returned (.bool false)/\w'=w:=by
 go_enter Tryz.func118,Tryz.ntmps118;go_wp2;go_ret;simp
theorem Vt (x y:Int)(w:World):Calls Tryz.prog 79 #[.int .i64 x, .int .i64 y] w fun e w'=>e= .returned (.int .i64 (Ed x y))/\w'=w:=by
 go_enter Tryz.func79,Tryz.ntmps79;by_cases h1:x<y
 ·have h2:Ed x y= -1:=by unfold Ed;rw[if_pos h1]
  rw[h2];go_wp2_with(go_at_call 118;refine(Lv _ _).mono ?_;rintro e w1 ⟨rfl,rfl⟩);go_ret;exact⟨rfl,rfl⟩
 ·by_cases h2:y<x
  ·have h3:Ed x y=1:=by unfold Ed;rw[if_neg h1,if_pos h2]
   rw[h3];go_wp2_with(go_at_call 118;refine(Lv _ _).mono ?_;rintro e w1 ⟨rfl,rfl⟩);go_ret;exact⟨rfl,rfl⟩
  ·have h3:Ed x y=0:=by unfold Ed;rw[if_neg h1,if_neg h2]
   rw[h3];go_wp2_with(go_at_call 118;refine(Lv _ _).mono ?_;rintro e w1 ⟨rfl,rfl⟩);go_ret;exact⟨rfl,rfl⟩
def Et (n:Nat)(f:Nat->Int):Array Value:=((List.range n).map fun v=>Value.int .i64 (f v)).toArray
theorem Vu {n v:Nat}(f:Nat->Int)(h:v<n):(Et n f)[v]? =some (.int .i64 (f v)):=by
 unfold Et;simp[h]
theorem Nz {n k:Nat}{f g:Nat->Int}{x:Int}(hk:g k=x)(h:∀v,v<n->v≠k->g v=f v):(Et n f).setIfInBounds k (.int .i64 x)=Et n g:=by
 unfold Et;apply Array.ext
 ·simp
 ·intro i h1 h2;have hi:i<n:=by simpa using h2
  by_cases e:i=k
  ·subst e;simp[hk]
  ·simp[Ne.symm e,h i hi e]
theorem Jf {n v g:Nat}{f:Nat->Int}{t:TypeId}{w:World}(hg:w.heap[g]? =some (.cells (Et n f) t (0,0)))(h:v<n):w.cell? ⟨g,v,none⟩=some (.int .i64 (f v)):=Aa hg (Vu f h)
theorem Lw (n:Nat):madeCells #[.int .i64 0] n=Et n fun _=>0:=by
 unfold madeCells Et;apply Array.ext
 ·simp
 ·intro i h1 h2;simp[Nat.mod_one]
abbrev Aca (n:Nat)(D:Nat->Option Nat):Array Value:=Et n fun v=>Bx (D v)
theorem Vv {n v:Nat}(D:Nat->Option Nat)(h:v<n):(Aca n D)[v]? =some (.int .i64 (Bx (D v))):=Vu _ h
theorem Su:(Tryz.prog.info? 2).map (fun i=>(i.zero,i.size,i.bytes))=some (some (.int .i64 0),1,8):=by kernel_rfl
theorem Aaa (n x y bx gd:Nat)(D:Nat->Option Nat)(hx:x<n)(hy:y<n)(w:World)(hbx:w.heap[bx]? =some (.cells #[.slice (some ⟨gd,0,none⟩) n n] 42 (0,0)))(hgd:w.heap[gd]? =some (.cells (Aca n D) 2 (0,0))):
  Calls Tryz.prog 106 #[.int .i64 (x:Int), .int .i64 (y:Int), .pointer (some ⟨bx,0,none⟩)] w fun e w'=>e= .returned (.int .i64 (Ed (Bx (D x)) (Bx (D y))))/\w'=w.drewN 1:=by
 have c0:w.cell? ⟨bx,0,none⟩=some (.slice (some ⟨gd,0,none⟩) n n):=by simp[World.cell?,hbx]
 have cx:w.cell? ⟨gd,x,none⟩=some (.int .i64 (Bx (D x))):=by simp[World.cell?,hgd,Vv D hx]
 have cy:w.cell? ⟨gd,y,none⟩=some (.int .i64 (Bx (D y))):=by simp[World.cell?,hgd,Vv D hy]
 have a0:(x:Int)<(n:Int):=by omega
 have a1:(y:Int)<(n:Int):=by omega
 clear hbx hgd hx hy;go_enter Tryz.func106,Tryz.ntmps106;go_wp2_with fail;refine Br (fun W'=>W'.cell? ⟨bx,0,none⟩=some (.slice (some ⟨gd,0,none⟩) n n)/\W'.cell? ⟨gd,x,none⟩=some (.int .i64 (Bx (D x)))/\W'.cell? ⟨gd,y,none⟩=some (.int .i64 (Bx (D y)))) (by kernel_rfl) ⟨c0,cx,cy⟩ (fun hHeld=> ?_)
 (refine' Ab 0 rfl ?_;(try simp only[Act.put,nY,nX]));(refine' Ab 1 rfl ?_;(try simp only[Act.put,nY,nX]));(refine' Ab 2 rfl ?_;(try simp only[Act.put,nY,nX]));(refine' Ab 3 rfl ?_;(try simp only[Act.put,nY,nX]));(refine' Ab 4 rfl ?_;(try simp only[Act.put,nY,nX]));(refine' Ab 5 rfl ?_;(try simp only[Act.put,nY,nX]));(refine' Ab 6 rfl ?_;(try simp only[Act.put,nY,nX]));(refine' Ab 7 rfl ?_;(try simp only[Act.put,nY,nX]))
 (refine Aeu 8 rfl (fun K' hK'=> ?_);simp only[nY];go_simp)
 refine(Vt (Bx (D x)) (Bx (D y)) _).mono ?_;rintro e w1 ⟨rfl,rfl⟩;refine hK' _ _ ⟨.inr hHeld,fun _=> ?_⟩
 clear hK' K'
 (try simp only[Act.put,nY,nX])
 (refine Aeu 9 rfl (fun K' hK'=> ?_);simp only[nY];go_simp)
 refine hK' _ _ ⟨.inl (by kernel_rfl),fun _=>Bc (by kernel_rfl) ?_ _⟩
 clear hK' K';go_wp2;go_ret;exact⟨rfl,rfl⟩
theorem Sv {α:Type} [Inhabited α](f:α->Int)(d:Array α):∀i,(∃j,j<=i/\pickBy (fun x m=>decide (Ed (f x) (f m)<0)) d i=d[j]!)∧∀j,j<=i->f (pickBy (fun x m=>decide (Ed (f x) (f m)<0)) d i)<=f d[j]!
 |0=>by
  refine⟨⟨0,rr,rfl⟩,fun j hj=> ?_⟩
  have:j=0:=by omega
  subst this;exact Int.le_refl _
 |i+1=>by
  obtain⟨⟨j,hj,e⟩,h⟩:=Sv f d i;have a0:∀x y:Int,decide (Ed x y<0)=decide (x<y):=fun x y=>by unfold Ed;by_cases h1:x<y<;>by_cases h2:y<x<;>simp[h1,h2]
  unfold pickBy;by_cases hb:decide (Ed (f d[i+1]!) (f (pickBy (fun x m=>decide (Ed (f x) (f m)<0)) d i))<0)=true
  ·rw[if_pos hb];rw[a0,decide_eq_true_eq]at hb;refine⟨⟨i+1,rr,rfl⟩,fun k hk=> ?_⟩
   rcases Nat.lt_or_ge i k with a1|a1
   ·obtain rfl:k=i+1:=by omega
    exact Int.le_refl _
   ·have:=h k a1;omega
  ·rw[if_neg hb];rw[a0,decide_eq_true_eq]at hb;refine⟨⟨j,by omega,e⟩,fun k hk=> ?_⟩
   rcases Nat.lt_or_ge i k with a1|a1
   ·obtain rfl:k=i+1:=by omega
    omega
   ·exact h k a1
theorem Hw {α:Type} [Inhabited α]{enc:α->Value}(w:World)(g m:Nat)(d:Array α)(os:Array Obj):Ag (fun k=>k=g) w (sortWorld enc w g 0 m d os):=by
 unfold sortWorld putRow mapBlock Sort.grow Sort.ahead;refine⟨rfl,rfl,rfl,by simp,fun k hk hs=> ?_⟩
 simp only;rw[Array.getElem?_append_left (by simpa using hk),Array.getElem?_modify,if_neg (fun e=>hs e.symm)]
theorem Uv (w:World)(m:Nat)(os:Array Obj):Below w.heap.size w (grow (w.drewN m) os):=by
 refine⟨rfl,rfl,rfl,by simp[grow],fun k hk=> ?_⟩
 unfold grow;simp only;rw[Array.getElem?_append_left (by simpa using hk)];rfl
theorem Kv {α:Type} [Inhabited α]{enc:α->Value}{w:World}{g:Nat}{d:Array α}{cur:Array Value}{t:TypeId}(hg:w.heap[g]? =some (.cells cur t (0,0)))(h:∀(j:Nat) (x:α),d[j]? =some x->cur[j]? =some (enc x)):Holds enc w g 0 d:=by
 intro j hj;have hx:d[j]? =some d[j]! :=by rw[getElem!_pos d j hj];exact Array.getElem?_eq_getElem hj
 refine⟨?_, ?_⟩
 ·simp[World.cell?,hg,h j _ hx]
 ·simp[World.frozen?,hg]
theorem Aem (n:Nat)(D:Nat->Option Nat)(op:List Nat)(g gd bx cap:Nat)(w:World)(cur:Array Value)(hg:w.heap[g]? =some (.cells cur 3 (0,0)))(hc:∀(j x:Nat),op[j]? =some x->cur[j]? =some (.int .i64 (x:Int)))
  (hin:∀x∈op,x<n) (h0:0<op.length) (hl:op.length<=4000) (hbx:w.heap[bx]? =some (.cells #[.slice (some ⟨gd,0,none⟩) n n] 42 (0,0))) (hgd:w.heap[gd]? =some (.cells (Aca n D) 2 (0,0))) (h1:bx≠g) (h2:gd≠g):
  Calls Tryz.prog 107 #[.slice (some ⟨g,0,none⟩) op.length cap, .func (.func 106) #[] #[.pointer (some ⟨bx,0,none⟩)]] w fun e w'=>
   ∃x:Nat,e= .returned (.int .i64 (x:Int))/\x∈op/\(∀v∈op,Bx (D x)<=Bx (D v))/\Below w.heap.size w w':=by
 haveI:Inhabited {x:Nat//x<n}:=⟨⟨op[0],hin _ (List.getElem_mem h0)⟩⟩
 obtain⟨d,hd⟩:∃d:Array {x:Nat//x<n},d.toList.map (·.1)=op:=
  ⟨(op.attach.map fun p=>⟨p.1,hin p.1 p.2⟩).toArray,by simp only[List.map_map,Function.comp_def];exact List.attach_map_subtype_val op⟩
 have a5:d.size=op.length:=by rw[←hd];simp
 have a3:∀j (x:{x:Nat//x<n}),d[j]? =some x->op[j]? =some x.1:=fun j x hx=>by
  rw[←hd,List.getElem?_map,Array.getElem?_toList,hx];rfl
 have a0:=Any.slices_MinFunc Tryz.minI (fun x:{x:Nat//x<n}=>Value.int .i64 (x.1:Int)) (fun _=>rfl) (fun x y=>Ed (Bx (D x.1)) (Bx (D y.1))) 106 #[.pointer (some ⟨bx,0,none⟩)] g 0 cap d w
  (enters_of Tryz.func106 (by kernel_rfl) rfl) (fun m os dk _ x y=> ?hcmp) (Kv hg fun j x hx=>hc j _ (a3 j x hx)) (lt_of_block hg) (by omega) (by omega)
 case hcmp=>
  have hK:=Hw (enc:=fun x:{x:Nat//x<n}=>Value.int .i64 (x.1:Int)) w g m dk os;refine(Aaa n x.1 y.1 bx gd D x.2 y.2 _ ((hK.block bx (lt_of_block hbx) h1).trans hbx) ((hK.block gd (lt_of_block hgd) h2).trans hgd)).mono ?_;rintro e w' ⟨e1,e2⟩;exact⟨e1,1, #[],by rw[e2,grow_empty]⟩
 rw[a5]at a0;refine Calls.mono a0 ?_;rintro e w' ⟨rfl,m,os,rfl⟩;obtain⟨⟨j,hj,hp⟩,a2⟩:=Sv (fun x:{x:Nat//x<n}=>Bx (D x.1)) d (op.length-1);have a6:j<d.size:=by omega
 refine⟨_,rfl, ?_,fun v hv=> ?_, ?_⟩
 ·rw[hp,←hd,getElem!_pos d j a6];exact List.mem_map.2 ⟨_,by simp,rfl⟩
 ·rw[←hd]at hv;obtain⟨y,hy,rfl⟩:=List.mem_map.1 hv;obtain⟨k,hk,rfl⟩:=List.getElem_of_mem hy;have a4:k<d.size:=by simpa using hk
  have:=a2 k (by omega)
  rw[getElem!_pos d k a4]at this;simpa using this
 ·have a1:putRow (fun x:{x:Nat//x<n}=>Value.int .i64 (x.1:Int)) (Sort.ahead w m) g 0 d=Sort.ahead w m:=putRow_self _ _ _ _ d (holds_ahead _ w m g 0 d (Kv hg fun j x hx=>hc j _ (a3 j x hx)));unfold sortWorld;rw[a1];exact Uv w m os
theorem Aab (x at_ ba:Nat)(w:World)(hba:w.heap[ba]? =some (.cells #[.int .i64 (at_:Int)] 3 (0,0))):
  Calls Tryz.prog 109 #[.int .i64 (x:Int), .pointer (some ⟨ba,0,none⟩)] w fun e w'=>e= .returned (.bool (decide (x=at_)))/\w'=w:=by
 have c0:w.cell? ⟨ba,0,none⟩=some (.int .i64 (at_:Int)):=by simp[World.cell?,hba]
 clear hba;go_enter Tryz.func109,Tryz.ntmps109;go_wp2;go_ret;refine⟨?_,rfl⟩;congr 2;by_cases h:x=at_
 ·subst h;simp
 ·have h':¬(x:Int)=(at_:Int):=by omega
  simp[h,h']
def Dv (w:World)(base g cap:Nat)(op:List Nat):Prop:=w.ownsRow base 3 1 (.slice (some ⟨g,0,none⟩) op.length cap) op.length (op.map fun(x:Nat)=>Value.int .i64 (x:Int))
theorem Dv.block {w:World}{base g cap:Nat}{op:List Nat}(h:Dv w base g cap op):base<=g/\op.length<=cap/\cap<=maxLen∧∃cur:Array Value,w.heap[g]? =some (.cells cur 3 (0,0))/\cur.size=cap/\cur.toList.take op.length=op.map (fun(x:Nat)=>Value.int .i64 (x:Int)):=by
 rcases h.2 with⟨hv,_⟩|⟨g',cap',cur,hv,hb,hg,a0,a1,a2,ht⟩
 ·cases hv
 ·injection hv with hA _ hc
  injection hA with hA
  injection hA with hA
  subst hA hc;exact⟨hb,a0,a1,cur,hg,by omega,by rw[Nat.mul_one]at ht;exact ht⟩
theorem Dv.heap {w w':World}{base g cap:Nat}{op:List Nat}(h:Dv w base g cap op)(hg:w'.heap[g]? =w.heap[g]?):Dv w' base g cap op:=by
 refine⟨h.1, ?_⟩;rcases h.2 with hn|⟨g',cap',cur,hv,h1,a0,rest⟩
 ·exact Or.inl hn
 ·have e:g'=g:=by injection hv with hA;injection hA with hA;injection hA with hA;exact hA.symm
  subst e;exact Or.inr ⟨g',cap',cur,hv,h1,hg.trans a0,rest⟩
theorem Dv.below {w w':World}{base g cap:Nat}{op:List Nat}(h:Dv w base g cap op)(hb:Below w.heap.size w w'):Dv w' base g cap op:=by
 obtain⟨_,_,_,cur,hg,_⟩:=h.block;exact h.heap (hb.block g (lt_of_block hg))
theorem Kw {cur:Array Value}{op:List Nat}(h:cur.toList.take op.length=op.map fun(x:Nat)=>Value.int .i64 (x:Int))(j x:Nat)(hx:op[j]? =some x):cur[j]? =some (.int .i64 (x:Int)):=by
 have hj:=(List.getElem?_eq_some_iff.1 hx).1;have h1:=congrArg (fun l:List Value=>l[j]?) h;simp only[List.getElem?_take,if_pos hj,List.getElem?_map,hx,Option.map_some]at h1;simpa using h1
theorem Aen (op:List Nat)(at_ base g ba cap:Nat)(w:World)(hO:Dv w base g cap op)(hba:w.heap[ba]? =some (.cells #[.int .i64 (at_:Int)] 3 (0,0)))(h1:ba≠g):
  Calls Tryz.prog 108 #[.slice (some ⟨g,0,none⟩) op.length cap, .func (.func 109) #[] #[.pointer (some ⟨ba,0,none⟩)]] w fun e w'=>
   e= .returned (.slice (some ⟨g,0,none⟩) (op.filter fun x=> !decide (x=at_)).length cap)/\Dv w' base g cap (op.filter fun x=> !decide (x=at_))/\Ag (fun k=>k=g) w w':=by
 obtain⟨hb,a3,a2,cur,hg,a7,ht⟩:=hO.block;have a5:cap<=9223372036854775807:=a2;have hH:Holds (fun x:Nat=>Value.int .i64 (x:Int)) w g 0 op.toArray:=Kv hg fun j x hx=>Kw ht j x (by simpa using hx)
 have a0:=lt_of_block hba
 have a1:=AnyE.slices_DeleteFunc Tryz.delI (fun x:Nat=>Value.int .i64 (x:Int)) (fun _=>rfl) (fun x=>decide (x=at_)) 109 #[.pointer (some ⟨ba,0,none⟩)] (enters_of Tryz.func109 (by kernel_rfl) rfl) 0 Tryz.zeroValue3 g 0 cap op.toArray w
  (fun W x hb'=> ?hp) (fun m os dk x _=> ?hpo) hH (by simp;omega) (by simpa using a3)
 case hp=>
  refine(Aab x at_ ba W ((hb'.block ba a0).trans hba)).mono ?_;rintro e w' ⟨e1,e2⟩;exact⟨e1,0,e2⟩
 case hpo=>
  have hK:=Hw (enc:=fun x:Nat=>Value.int .i64 (x:Int)) w g m dk os;refine(Aab x at_ ba _ ((hK.block ba a0 h1).trans hba)).mono ?_;rintro e w' ⟨e1,e2⟩;exact⟨e1,0,e2⟩
 rw[show op.toArray.toList=op from rfl,show op.toArray.size=op.length from by simp]at a1;refine Calls.mono a1 ?_;obtain⟨r,hr⟩:∃r,r=op.filter fun x=> !decide (x=at_):=⟨_,rfl⟩
 rw[←hr];have a6:r.length<=op.length:=by rw[hr];exact List.length_filter_le _ _
 rintro e w' ⟨rfl,q,rfl⟩
 have hK:Ag (fun k=>k=g) w (putRow (fun x:Nat=>Value.int .i64 (x:Int)) (Sort.ahead w q) g 0 (r++List.replicate (op.length-r.length) 0).toArray):=by
  have hK:=Hw (enc:=fun x:Nat=>Value.int .i64 (x:Int)) w g q (r++List.replicate (op.length-r.length) 0).toArray #[];unfold sortWorld at hK;rwa[grow_empty]at hK
 refine⟨rfl, ?_,hK⟩;refine⟨by simp,Or.inr ⟨g,cap,putCells (fun x:Nat=>Value.int .i64 (x:Int)) 0 (r++List.replicate (op.length-r.length) 0).toArray cur,rfl,hb, ?_,by omega,a2,by unfold putCells;simp;omega, ?_⟩⟩
 ·have hl:=lt_of_block hg;unfold putRow mapBlock Sort.ahead;simp only;rw[Array.getElem?_modify,if_pos rfl,hg];rfl
 ·rw[Nat.mul_one];apply List.ext_getElem?;intro j;rw[List.getElem?_take,List.getElem?_map];by_cases hj:j<r.length
  ·rw[if_pos hj,List.getElem?_eq_getElem hj];have a4:j<cur.size:=by omega
   unfold putCells;rw[Array.getElem?_toList,Array.getElem?_mapIdx,Array.getElem?_eq_getElem a4,Option.map_some,if_pos ⟨Nat.zero_le _,by simp;omega⟩,Nat.sub_zero,getElem!_pos _ j (by simp;omega)];simp[List.getElem_append_left hj]
  ·rw[if_neg hj,List.getElem?_eq_none (by omega)];rfl
end Go.Proofs.YtaglfmlgbcmakaaGreatDoor
namespace Go.Proofs.YtaglfmlgbcmakaaGreatDoor
open Go.RowKit Go.Shelf
structure FrD (w:World)(bx gd n:Nat)(f:Nat->Int)(wr:World):Prop where
 hx:wr.heap[bx]? =some (.cells #[.slice (some ⟨gd,0,none⟩) n n] 42 (0,0))
 hd:wr.heap[gd]? =some (.cells (Et n f) 2 (0,0))
 hb:Below w.heap.size w wr
theorem FrD.cx {w:World}{bx gd n:Nat}{f:Nat->Int}{wr:World}(h:FrD w bx gd n f wr):wr.cell? ⟨bx,0,none⟩=some (.slice (some ⟨gd,0,none⟩) n n):=Aa h.hx rfl
theorem FrD.cd {w:World}{bx gd n:Nat}{f:Nat->Int}{wr:World}(h:FrD w bx gd n f wr){v:Nat}(hv:v<n):wr.cell? ⟨gd,v,none⟩=some (.int .i64 (f v)):=Jf h.hd hv
theorem FrD.fz {w:World}{bx gd n:Nat}{f:Nat->Int}{wr:World}(h:FrD w bx gd n f wr)(v:Nat):wr.frozen? ⟨gd,v,none⟩=false:=by simp[World.frozen?,h.hd]
theorem FrD.set {w:World}{bx gd n:Nat}{f g:Nat->Int}{wr:World}(h:FrD w bx gd n f wr)(hlt:w.heap.size<=gd)(hne:bx≠gd){k:Nat}{x:Int}(hk:g k=x)(hg:∀v,v<n->v≠k->g v=f v):FrD w bx gd n g (wr.setCell ⟨gd,k,none⟩ (.int .i64 x)) where
 hx:=(Below.heap_setCell _ _ _ _ hne).trans h.hx
 hd:=by rw[B2 h.hd,Nz hk hg]
 hb:=h.hb.setCell (p:=⟨gd,k,none⟩) hlt _
theorem FrD.keep {w:World}{bx gd n:Nat}{f:Nat->Int}{wr wr':World}{S:Nat->Prop}(h:FrD w bx gd n f wr)(hK:Ag S wr wr')(hS:∀k,S k->w.heap.size<=k/\k≠bx/\k≠gd):FrD w bx gd n f wr' where
 hx:=(hK.block bx (lt_of_block h.hx) fun e=>(hS _ e).2.1 rfl).trans h.hx
 hd:=(hK.block gd (lt_of_block h.hd) fun e=>(hS _ e).2.2 rfl).trans h.hd
 hb:=h.hb.trans (hK.to_below (fun k e=>(hS k e).1) h.hb.size)
theorem FrD.below {w:World}{bx gd n:Nat}{f:Nat->Int}{wr wr':World}(h:FrD w bx gd n f wr)(hb:Below wr.heap.size wr wr'):FrD w bx gd n f wr' where
 hx:=(hb.block bx (lt_of_block h.hx)).trans h.hx
 hd:=(hb.block gd (lt_of_block h.hd)).trans h.hd
 hb:=h.hb.trans (hb.mono h.hb.size)
theorem FrD.alloc {w:World}{bx gd n:Nat}{f:Nat->Int}{wr:World}(h:FrD w bx gd n f wr)(o:Obj):FrD w bx gd n f (wr.alloc o) where
 hx:=(Below.heap_alloc _ _ _ (lt_of_block h.hx)).trans h.hx
 hd:=(Below.heap_alloc _ _ _ (lt_of_block h.hd)).trans h.hd
 hb:=h.hb.alloc h.hb.size _
theorem FrD.eqf {w:World}{bx gd n:Nat}{f g:Nat->Int}{wr:World}(h:FrD w bx gd n f wr)(hg:∀v,v<n->g v=f v):FrD w bx gd n g wr where
 hx:=h.hx
 hd:=by
  rw[h.hd,show Et n f=Et n g from ?_];unfold Et;congr 1;exact List.map_congr_left fun v hv=>by rw[hg v (List.mem_range.1 hv)]
 hb:=h.hb
theorem Adx (b n:Nat)(rs:List Bh)(a:Nat)(w:World)(hm:Cl w b n rs)(ha:a<n):
  Calls Tryz.prog 64 #[.pointer (some ⟨b,0,none⟩), .int .i64 (a:Int)] w fun e w'=>∃g,e= .returned (.slice (some ⟨g,0,none⟩) n n)/\w'.heap[g]? =some (.cells (Aca n (Mi n rs a)) 2 (0,0))/\Below w.heap.size w w':=by
 obtain⟨An,cn,mb,Ar,cr,Aq,cq,c0,c1,c2,c3⟩:=hm.cells;have o2:=hm.few;have HM:=hI hm;clear hm c1 c2;go_enter Tryz.func64,Tryz.ntmps64;go_wp2_with fail;refine(F2 b An n cn w c0).mono ?_;rintro e w1 ⟨rfl,o8⟩;have p3:=hI o8;clear o8;have r3:=fun w=>run_make_row' (P:=Tryz.prog) 42 2 (.int .i64 0) 8 Tryz.underlying42 Su rfl .i64 .i64 n (by omega) (by omega) w
 have s1:n<=maxLen:=by unfold maxLen;omega
 go_wp2;clear r3;rw[Lw];have k7:=p3.out.size
 have f5:Hid (FrD w (w1.heap.size+1) w1.heap.size n (fun _=>0) ((w1.alloc (.cells (Et n fun _=>0) 2)).alloc (.cells #[.slice (some ⟨w1.heap.size,0,none⟩) n n] 42))):=
  ⟨Ah (by simp),(Aj (by simp)).trans (Ah rfl),(p3.out.alloc k7 _).alloc (by simp;omega) _⟩
 obtain⟨bx,m7⟩:∃bx,bx=w1.heap.size+1:=⟨_,rfl⟩;rw[←m7]at f5 ⊢;obtain⟨gd,o3⟩:∃gd,gd=w1.heap.size:=⟨_,rfl⟩;rw[←o3]at f5 ⊢;have g1:w.heap.size<=gd:=by omega
 have d7:gd<bx:=by omega
 generalize(w1.alloc (.cells (Et n fun _=>0) 2)).alloc (.cells #[.slice (some ⟨gd,0,none⟩) n n] 42)=W2 at*;clear o3 m7 k7
 go_loopw [6,18] (fun _ i wr=>∃k:Nat,k<=n/\i= .int .i64 (k:Int)/\Hid (FrD w bx gd n (fun v=>if v<k then-1 else 0) wr)) (fun _ i _=>n-(intOf i).toNat)
 case atStart=>exact⟨0,Nat.zero_le _,rfl,f5.out.eqf fun v _=>by simp⟩
 case round=>
  obtain⟨k,hk,rfl,HF⟩:=hrel;by_cases hlt:k<n
  ·have s4:(k:Int)<(n:Int):=by omega
   have cx:=HF.out.cx;have cd:=HF.out.cd hlt;have fz:=HF.out.fz k;go_wp2
   go_roundw
   case rel=>
    refine⟨k+1,by omega,by simp,HF.out.set g1 (by omega) (g:=fun v=>if v<k+1 then-1 else 0) (by simp) fun v _ hv=> ?_⟩
    by_cases e:v<k
    ·simp[e,Nat.lt_succ_of_lt e]
    ·have:¬v<k+1:=by omega
     simp[e,this]
   case measure=>simp[intOf];omega
  ·obtain rfl:k=n:=by omega
   clear f5;have cx:=HF.out.cx;have cd:=HF.out.cd ha;have fz:=HF.out.fz a;have r1:(a:Int)<(k:Int):=by omega
   go_wp2
   have g3:Hid (FrD w bx gd k (fun v=>Bx (if v=a then some 0 else none)) (wr.setCell ⟨gd,a,none⟩ (.int .i64 0))):=
    HF.out.set g1 (by omega) (by simp[Bx]) fun v hv hne=>by simp[hne,Bx,hv]
   have hz:(wr.setCell ⟨gd,a,none⟩ (.int .i64 0)).heap.size=wr.heap.size:=by simp
   rw[←hz];generalize wr.setCell ⟨gd,a,none⟩ (.int .i64 0)=W3 at*;clear cx cd fz HF r1 hz;obtain⟨B0,f2⟩:∃B0,B0=W3.heap.size:=⟨_,rfl⟩;have d9:bx<B0:=by rw[f2];exact lt_of_block g3.out.hx
   have m5:Hid (Dv (W3.alloc (.cells #[.int .i64 (a:Int)] 3)) B0 B0 1 [a]):=
    ⟨by simp,Or.inr ⟨B0,1, #[.int .i64 (a:Int)],rfl,rr,Ah f2,by simp,by simp[maxLen],by simp,by simp⟩⟩
   have m2:=hI (g3.out.alloc (.cells #[.int .i64 (a:Int)] 3));have HN:=hI (Aby HM.out.ok a);rw[←f2];generalize W3.alloc (.cells #[.int .i64 (a:Int)] 3)=W4 at*;clear f2 g3
   go_loopg [7] (2*k-1) (fun kx s7 wr=>∃(D:Nat->Option Nat) (op:List Nat) (go co:Nat),s7= .slice (some ⟨go,0,none⟩) op.length co/\kx<=2*k/\Hid (Dij (wtN rs) a D op)/\Hid (DB k kx D op)/\Hid (FrD w bx gd k (fun v=>Bx (D v)) wr)/\Hid (Dv wr B0 go co op))
   case atStart=>exact⟨_,[a],B0,1,rfl,Nat.sub_le _ _,Dij.begin _ _,DB.begin ha,m2.out,m5.out⟩
   case round=>
    obtain⟨D,op,go,co,rfl,s3,f0,b0,a5,j6⟩:=hrel;clear m2 m5;by_cases hop:op.length=0
    ·have g6:op=[]:=List.eq_nil_of_length_eq_zero hop;subst g6;have cx:=a5.out.cx;go_wp2;go_ret;exact⟨gd,rfl,by rw[a5.out.hd];rw[show(fun v=>Bx (D v))=fun v=>Bx (Mi k rs a v)from funext fun v=>congrArg Bx (Rz (f0.out.done v) (HN.out v))],a5.out.hb⟩
    ·have r5:(0:Int)<(op.length:Int):=by omega
     obtain⟨o6,q2,r7,cur,hg,r4,o1⟩:=j6.out.block;have q9:op.length<=4000:=by have:=b0.out.me;omega
     have o7:Hid (Cl wr b k rs):=HM.out.below a5.out.hb;go_wp2_with fail;refine(Aem k D op go gd bx co _ cur hg (Kw o1) b0.out.inn (by omega) q9 a5.out.hx a5.out.hd (by omega) (by omega)).mono ?_;rintro e w5 ⟨at_,rfl,d1,d3,b8⟩;have a8:=hI d1;have m9:=hI d3;have r8:=b8.size;have j2:=hI (a5.out.below b8);have j1:=hI (j6.out.below b8);have p4:=hI (o7.out.below b8);clear b8 d1 d3 hg o1 r4 o6 q2 r7 o7 a5 j6;go_wp2_with fail;have i2:(w5.alloc (.cells #[.int .i64 (at_:Int)] 3)).heap[w5.heap.size]? =some (.cells #[.int .i64 (at_:Int)] 3 (0,0)):=hpt;have g9:go<w5.heap.size:=by obtain⟨_,_,_,cur,hg,_⟩:=j1.out.block;exact lt_of_block hg
     have j5:bx<w5.heap.size:=lt_of_block j2.out.hx;have k6:=hI (j2.out.alloc (.cells #[.int .i64 (at_:Int)] 3));have m3:=hI (j1.out.below ((Below.refl _ w5).alloc rr (.cells #[.int .i64 (at_:Int)] 3)));have q1:=hI (p4.out.below ((Below.refl _ w5).alloc rr (.cells #[.int .i64 (at_:Int)] 3)));obtain⟨ba,m1⟩:∃ba,ba=w5.heap.size:=⟨_,rfl⟩;rw[←m1]at i2 g9 j5 ⊢;have f3:=hI i2;generalize w5.alloc (.cells #[.int .i64 (at_:Int)] 3)=w6 at*;clear m1 i2 j2 j1 p4 r8;refine(Aen op at_ B0 go ba co w6 m3.out f3.out (by omega)).mono ?_;rintro e w7 ⟨rfl,i9,k5⟩;have o6:B0<=go:=i9.block.1;have g2:=hI i9;have a4:=hI ((k5.block ba (lt_of_block f3.out) (by omega)).trans f3.out);have b6:=hI (k6.out.keep k5 fun z e=>by subst e;exact⟨by omega,by omega,by omega⟩);have q3:=hI (HM.out.below b6.out.hb);clear i9 k5 m3 f3 k6 q1;obtain⟨dAt,a3⟩:=f0.out.open_ at_ a8.out;obtain⟨m,rfl⟩:∃m,gk=m+1:=⟨gk-1,by have:=b0.out.pos a8.out;omega⟩;obtain⟨i8,p1⟩:=b0.out.del a8.out a3
     have j0:=Rlx.begin f0.out a8.out a3 (fun v hv dv hdv=>by
      have:=m9.out v hv
      rw[a3,hdv]at this;simp only[Bx]at this;omega)
     have b4:=b0.out.inn at_ a8.out;obtain⟨r,hr⟩:∃r,r=op.filter fun x=> !decide (x=at_):=⟨_,rfl⟩
     rw[←hr]at g2 i8 j0 ⊢;have p8:=hI j0;have i7:=hI i8;have p2:=hI p1;have s2:=hI a3;clear j0 i8 p1 a3 hr f0 b0 m9 a8;obtain⟨qb,qo,cq',A,me,ce,es,c3w,o4,cqw,o5,b1⟩:=HM.out.nearAt b4;have c3':=(b6.out.hb.cell (p:=⟨b,3,none⟩) HM.out.lt).trans c3w;have cqa:=(b6.out.hb.cell (p:=⟨qb,qo+at_,none⟩) o4).trans cqw;clear c3w cqw;have j8:=hI o5;have k8:=hI b1;clear o5 b1;have ca:=Aa (j:=0) a4.out rfl;have m6:(at_:Int)<(k:Int):=by omega
     go_upto_region 13 with fail
     go_cut [46,47,48]from 40 to 48 (fun s46 s47 s48 wx=>s46= .slice A me ce/\s47= .int .i64 (me:Int)/\s48= .int .i64 0/\wx=w7.drew)
     case first=>
      refine Br (fun W'=>W'.cell? ⟨b,3,none⟩=some (.slice (some ⟨qb,qo,none⟩) k cq')/\W'.cell? ⟨ba,0,none⟩=some (.int .i64 (at_:Int))/\W'.cell? ⟨qb,qo+at_,none⟩=some (.slice A me ce)) (by kernel_rfl) ⟨c3',ca,cqa⟩ (fun hHeld=> ?_)
      (refine' Ab 0 rfl ?_;(try simp only[Act.put,nY,nX]));(refine' Ab 1 rfl ?_;(try simp only[Act.put,nY,nX]));(refine' Ab 2 rfl ?_;(try simp only[Act.put,nY,nX]));(refine' Ab 3 rfl ?_;(try simp only[Act.put,nY,nX]));(refine' Ab 4 rfl ?_;(try simp only[Act.put,nY,nX]));(refine' Ab 5 rfl ?_;(try simp only[Act.put,nY,nX]));(refine' Ab 6 rfl ?_;(try simp only[Act.put,nY,nX]))
      refine Sx (i:=7) (j:=8) (by kernel_rfl) rfl rfl (fun K' hK'=> ?_) (fun K' hK'=> ?_)
      all_goals rw[if_pos (by rfl)]
      all_goals go_simp
      ·refine hK' _ _ ⟨.inr hHeld,fun _=> ?_⟩
       clear hK' K'
       (try simp only[Act.put,nY,nX])
       (refine Aeu 8 rfl (fun K' hK'=> ?_);simp only[nY];go_simp)
       refine hK' _ _ ⟨.inl (by kernel_rfl),fun _=>Bc (by kernel_rfl) ?_ _⟩
       clear hK' K' hHeld;go_wp2_with fail;go_meet
       case rel=>exact⟨rfl,rfl,rfl,rfl⟩
      ·refine hK' _ _ ⟨.inr hHeld,fun _=> ?_⟩
       clear hK' K'
       (try simp only[Act.put,nY,nX])
       (refine Aeu 7 rfl (fun K' hK'=> ?_);simp only[nY];go_simp)
       refine hK' _ _ ⟨.inl (by kernel_rfl),fun _=>Bc (by kernel_rfl) ?_ _⟩
       clear hK' K' hHeld;go_wp2_with fail;go_meet
       case rel=>exact⟨rfl,rfl,rfl,rfl⟩
     case rest=>
     obtain⟨rfl,rfl,rfl,q8⟩:=hcut;obtain rfl:=q8;go_wp2_with fail;have q4:=Ek.max j8.out;have g5:=hI (b6.out.below ((Below.refl w7.heap.size w7).drew));have m0:=hI (g2.out.below ((Below.refl w7.heap.size w7).drew));have m8:Hid (w7.drew.heap[ba]? =some (.cells #[.int .i64 (at_:Int)] 3 (0,0))):=a4.out;have r9:w7.drew.heap.size=w7.heap.size:=rfl;have q6:ba<w7.drew.heap.size:=lt_of_block a4.out;have p5:bx<w7.drew.heap.size:=lt_of_block g5.out.hx;generalize w7.drew=w8 at*;clear b6 g2 a4 q3 c3' cqa ca r9 o4
     go_loopw [7,48] (fun s7 i wr=>∃(j:Nat) (D:Nat->Option Nat) (op:List Nat) (go co:Nat),i= .int .i64 (j:Int)/\j<=me/\go≠ba/\s7= .slice (some ⟨go,0,none⟩) op.length co/\Hid (Rlx (wtN rs) a at_ dAt (es.take j) D op)/\Hid (DB k m D op)/\Hid (FrD w bx gd k (fun v=>Bx (D v)) wr)/\Hid (Dv wr B0 go co op)∧
      Hid (wr.heap[ba]? =some (.cells #[.int .i64 (at_:Int)] 3 (0,0)))) (fun _ i _=>me-(intOf i).toNat)
     case atStart=>exact⟨0,D,r,go,co,rfl,Nat.zero_le _,by omega,rfl,p8.out,i7.out,g5.out,m0.out,m8.out⟩
     case round=>
      obtain⟨j,D',op',go',co',rfl,hj,i3,rfl,i1,o0,d4,k2,f8⟩:=hrel;clear g5 m0 m8;by_cases hlt:j<me
      ·have s0:(j:Int)<(me:Int):=by omega
       obtain⟨eb,eo,x,l,hA,q5,d7,ex,el⟩:=Ek.at_ (j8.out.below d4.out.hb rr) hlt;subst hA;have d6:(x,l)∈Cp rs at_:=k8.out.mem_iff.1 (List.mem_of_getElem? d7);have hw:=(M3 HM.out.ok).1 d6;obtain⟨_,i0⟩:=Ac4 HM.out.ok _ _ _ hw;have j9:=Adn HM.out.ok hw;have r2:=hI d7;have q7:=hI hw;clear d6 hw d7;have d8:Below wr.heap.size wr (wr.alloc (.cells #[.int .i64 (x:Int), .int .i64 (l:Int)] 112)):=bel;have d9:=(Ah rfl:(wr.alloc (.cells #[.int .i64 (x:Int), .int .i64 (l:Int)] 112)).heap[wr.heap.size]? =_);have f4:=hI (d4.out.below d8);have o9:=hI (k2.out.below d8);have i4:=hI ((d8.block ba (lt_of_block f8.out)).trans f8.out);have g7:bx<wr.heap.size:=lt_of_block d4.out.hx;have k3:ba<wr.heap.size:=lt_of_block f8.out;go_wp2_with fail;obtain⟨xb,b7⟩:∃xb,xb=wr.heap.size:=⟨_,rfl⟩;rw[←b7]at d9 g7 k3 ⊢;have k4:=hI d9;generalize wr.alloc (.cells #[.int .i64 (x:Int), .int .i64 (l:Int)] 112)=w9 at*;clear b7 d8 d9 ex el q5 d4 k2 f8;have cbx:=f4.out.cx;have cba:=Aa (j:=0) i4.out rfl;have cda:w9.cell? ⟨gd,at_,none⟩=some (.int .i64 (dAt:Int)):=by have:=f4.out.cd b4;rw[i1.out.atv]at this;exact this
       have cxl:=Aa (j:=1) k4.out rfl
       have p9:IntKind.i64.wrap ((dAt:Int)+(l:Int))=((dAt+l:Nat):Int):=by
        have h1:=p2.out;rw[IntWalk.i64_in _ (by omega)];omega
       refine Br (fun W'=>W'.cell? ⟨bx,0,none⟩=some (.slice (some ⟨gd,0,none⟩) k k)/\W'.cell? ⟨ba,0,none⟩=some (.int .i64 (at_:Int))/\W'.cell? ⟨gd,at_,none⟩=some (.int .i64 (dAt:Int))/\W'.cell? ⟨xb,1,none⟩=some (.int .i64 (l:Int))) (by kernel_rfl) ⟨cbx,cba,cda,cxl⟩ (fun hHeld=> ?_)
       (refine' Ab 0 rfl ?_;(try simp only[Act.put,nY,nX]));(refine' Ab 1 rfl ?_;(try simp only[Act.put,nY,nX]));(refine' Ab 2 rfl ?_;(try simp only[Act.put,nY,nX]));(refine' Ab 3 rfl ?_;(try simp only[Act.put,nY,nX]));(refine' Ab 4 rfl ?_;(try simp only[Act.put,nY,nX]));(refine' Ab 5 rfl ?_;(try simp only[Act.put,nY,nX]));(refine' Ab 6 rfl ?_;(try simp only[Act.put,nY,nX]))
       (refine Aeu 7 rfl (fun K' hK'=> ?_);simp only[nY];go_simp)
       rw[show(dAt:Int)+(l:Int)=((dAt+l:Nat):Int)from by omega];refine hK' _ _ ⟨.inl (by kernel_rfl),fun _=>Bc (by kernel_rfl) ?_ _⟩
       clear hK' K' hHeld p9 cda cba cxl cbx;have a6:Below w9.heap.size w9 w9.drew:=(Below.refl _ _).drew;have a9:=hI (f4.out.below a6);have d0:=hI (o9.out.below a6);have j3:Hid (w9.drew.heap[ba]? =some (.cells #[.int .i64 (at_:Int)] 3 (0,0))):=i4.out;have f7:Hid (w9.drew.heap[xb]? =some (.cells #[.int .i64 (x:Int), .int .i64 (l:Int)] 112 (0,0))):=k4.out;clear f4 o9 i4 k4 a6;generalize w9.drew=wa at*;have cbx:=a9.out.cx;have cxx:=Aa (j:=0) f7.out rfl;have cdx:=a9.out.cd i0;have fzx:=a9.out.fz x;have a1:=i1.out.step q7.out;have a0:=o0.out.relax p2.out i0 j9;have r0:(x:Int)<(k:Int):=by omega
       have k9:=q4.2;have j7:Hid (es.take (j+1)=es.take j++[(x,l)]):=Bp es j (x,l) r2.out;unfold Jw at a1 a0;dsimp only at a1 a0
       cases hD:D' x with
       |none=>
        rw[hD]at a1 a0 cdx;dsimp only at a1 a0;have d2:=hI a1;have a2:=hI a0;have k1:op'.length+1<=4096:=by have:=a0.me;rw[List.length_append]at this;simp at this;omega
        clear a1 a0 hD;simp only[Bx]at cdx;have f1:=d0.out.below ((Below.refl _ wa).alloc rr (.cells #[.int .i64 (x:Int)] 3));have m4:=hI f1
        have p6:B0<=(wa.alloc (.cells #[.int .i64 (x:Int)] 3)).heap.size:=by
         have h1:=f1.block.1;obtain⟨_,_,_,cur,hg,_⟩:=f1.block
         have:=lt_of_block hg
         omega
        have i5:xb<wa.heap.size:=lt_of_block f7.out;clear f1;go_wp2_with(at_builtin;refine Jv rfl (.tmp 66) (.tmp 69) rfl B0 (.slice (some ⟨go',0,none⟩) op'.length co') op'.length (op'.map fun(x:Nat)=>Value.int .i64 (x:Int)) rfl m4.out ⟨wa.heap.size,0,none⟩ 1 (.int .i64 (x:Int)) rfl (cell_one_new _ _ _) rfl k1 p6 ?hc)
        case hc=>
         intro v' wb a7 hg d1;obtain⟨g8,c8,rfl,h8,_⟩:=Qp a7 (by omega);have f9:Ag (fun z=>z=go') (wa.alloc (.cells #[.int .i64 (x:Int)] 3)) wb:=(Ag.refl _ _).grown hg (fun z e=> .inl (by injection e with e;exact e.symm));have p7:B0<=go':=m4.out.block.1
         have d5:Hid (Dv wb B0 g8 c8 (op'++[x])):=by
          show wb.ownsRow _ _ _ _ _ _;rw[List.map_append,List.length_append];exact a7
         have g0:Below wa.heap.size wa (wa.alloc (.cells #[.int .i64 (x:Int)] 3)):=bel;have b3:=hI ((a9.out.below g0).keep f9 fun z e=>by subst e;exact⟨by omega,by omega,by omega⟩);have p0:=hI ((f9.block ba (by simp;omega) (Ne.symm i3)).trans ((g0.block ba (by omega)).trans j3.out))
         have r6:=hI ((f9.block xb (by simp;omega) (by
          obtain⟨_,_,_,cur,f6,_⟩:=d0.out.block;intro e;rw[←e,f7.out]at f6;cases f6)).trans ((g0.block xb i5).trans f7.out))
         have q0:g8≠ba:=by
          rcases d1 with h|h
          ·have:g8=go':=by injection h
           omega
          ·have:g8=wa.heap.size+1:=by injection h
           omega
         clear a7 hg d1 f9 g0;have ccx:=b3.out.cx;have ccd:=b3.out.cd i0;have ccf:=b3.out.fz x;have ccx0:=Aa (j:=0) r6.out rfl;have i6:ba≠gd:=fun e=>by omega
         have b9:=hI (b3.out.set g1 (by omega) (g:=fun v=>Bx (F8 D' x (dAt+l) v)) (x:=((dAt+l:Nat):Int)) (by show Bx (F8 D' x (dAt+l) x)=_;rw[Ct];rfl) fun v _ hv=>by show Bx (F8 D' x (dAt+l) v)=_;rw[Cu _ _ hv])
         have b5:=hI (d5.out.heap (w':=wb.setCell ⟨gd,x,none⟩ (.int .i64 ((dAt+l:Nat):Int))) (Below.heap_setCell _ _ _ _ (by show g8≠gd;omega)));have b2:=hI ((Below.heap_setCell wb ⟨gd,x,none⟩ (.int .i64 ((dAt+l:Nat):Int)) ba i6).trans p0.out);clear p0 d5 b3;go_wp2_with fail
         go_roundw
         case rel=>exact⟨j+1,_,_,g8,c8,by first|rfl|(simp;done),by omega,q0,by first|rfl|(simp;done),by rw[j7.out];exact d2.out,a2.out,by first|exact b9.out|simpa using b9.out,by first|exact b5.out|simpa using b5.out,by first|exact b2.out|simpa using b2.out⟩
         case measure=>simp[intOf];omega
       |some dx=>
        rw[hD]at a1 a0 cdx;dsimp only at a1 a0;simp only[Bx]at cdx;by_cases hle:dx<=dAt+l
        ·rw[if_pos hle]at a1 a0;have d2:=hI a1;have a2:=hI a0;clear a1 a0 hD;have j4:(dx:Int)<=(dAt:Int)+(l:Int):=by omega
         have k0:¬(dx:Int)<0:=by omega
         go_wp2_with fail
         go_roundw
         case rel=>exact⟨j+1,_,_,go',co',by first|rfl|(simp;done),by omega,i3,by first|rfl|(simp;done),by rw[j7.out];exact d2.out,a2.out,a9.out,d0.out,j3.out⟩
         case measure=>simp[intOf];omega
        ·rw[if_neg hle]at a1 a0;have d2:=hI a1;have a2:=hI a0;clear a1 a0 hD;have j4:¬(dx:Int)<=(dAt:Int)+(l:Int):=by omega
         have k0:¬(dx:Int)<0:=by omega
         have i6:ba≠gd:=fun e=>by omega
         have f6:go'≠gd:=by have:=d0.out.block.1;omega
         have b9:=hI (a9.out.set g1 (by omega) (g:=fun v=>Bx (F8 D' x (dAt+l) v)) (x:=((dAt+l:Nat):Int)) (by show Bx (F8 D' x (dAt+l) x)=_;rw[Ct];rfl) fun v _ hv=>by show Bx (F8 D' x (dAt+l) v)=_;rw[Cu _ _ hv])
         have b5:=hI (d0.out.heap (w':=wa.setCell ⟨gd,x,none⟩ (.int .i64 ((dAt+l:Nat):Int))) (Below.heap_setCell _ _ _ _ f6));have b2:=hI ((Below.heap_setCell wa ⟨gd,x,none⟩ (.int .i64 ((dAt+l:Nat):Int)) ba i6).trans j3.out);go_wp2_with fail
         go_roundw
         case rel=>exact⟨j+1,_,_,go',co',by first|rfl|(simp;done),by omega,i3,by first|rfl|(simp;done),by rw[j7.out];exact d2.out,a2.out,by first|exact b9.out|simpa using b9.out,by first|exact b5.out|simpa using b5.out,by first|exact b2.out|simpa using b2.out⟩
         case measure=>simp[intOf];omega
      ·obtain rfl:j=me:=by omega
       go_wp2_with fail
       have g4:Dij (wtN rs) a D' op':=i1.out.done_ fun v l hv=>by
        have h1:=k8.out.mem_iff.2 ((M3 HM.out.ok).2 hv);rw[List.take_of_length_le (by rw[Ek.len j8.out];exact rr)];exact h1
       go_roundg m
       case measure=>omega
       case rel=>exact⟨D',op',go',co',by first|rfl|(simp;done),by omega,g4,o0.out,d4.out,k2.out⟩
def Hx (n:Nat)(rs:List Bh)(x y:Int):Option Nat:=if(0<=x/\x<n)/\0<=y/\y<n then Mi n rs x.toNat y.toNat else none
theorem Ady (b n:Nat)(rs:List Bh)(x y:Int)(w:World)(hm:Cl w b n rs):
  Calls Tryz.prog 21 #[.pointer (some ⟨b,0,none⟩), .int .i64 x, .int .i64 y] w fun e w'=>e= .returned (.tuple #[.int .i64 (((Hx n rs x y).getD 0:Nat):Int), .bool (Hx n rs x y).isSome])/\Below w.heap.size w w':=by
 obtain⟨An,cn,mb,Ar,cr,Aq,cq,c0,c1,c2,c3⟩:=hm.cells;have HM:=hI hm;have a9:=hm.lt;clear hm c1 c2 c3;have a5:=hI c0;clear c0;go_enter Tryz.func21,Tryz.ntmps21;go_wp2_with fail;refine(Z9 b An n cn x w a5.out).mono ?_;rintro e w1 ⟨rfl,a6⟩;have a1:=hI a6;clear a6;by_cases hx:0<=x/\x<(n:Int)
 ·rw[decide_eq_true hx];go_wp2_with fail;refine(Z9 b An n cn y w1 ((a1.out.cell (p:=⟨b,0,none⟩) a9).trans a5.out)).mono ?_;rintro e w2 ⟨rfl,a2⟩;have a0:=hI (a1.out.trans (a2.mono a1.out.size));clear a2 a1;by_cases hy:0<=y/\y<(n:Int)
  ·rw[decide_eq_true hy];obtain⟨xn,rfl⟩:∃xn:Nat,x=xn:=⟨x.toNat,by omega⟩;obtain⟨yn,rfl⟩:∃yn:Nat,y=yn:=⟨y.toNat,by omega⟩;have HD:Hid (Hx n rs xn yn=Mi n rs xn yn):=by show _=_;unfold Hx;rw[if_pos ⟨hx,hy⟩];rfl
   have a7:yn<n:=by omega
   have a8:(yn:Int)<(n:Int):=hy.2;go_wp2_with fail;refine(Adx b n rs xn w2 (HM.out.below a0.out) (by omega)).mono ?_;rintro e w3 ⟨g,rfl,hg,a4⟩;have a3:=hI (a0.out.trans (a4.mono a0.out.size));have hc:=Jf hg a7;clear a4 hg a0 hx hy;obtain⟨o,ho⟩:∃o,o=Mi n rs xn yn:=⟨_,rfl⟩;have HO:Hid (Hx n rs xn yn=o):=HD.out.trans ho.symm;rw[←ho]at hc;clear ho
   cases o with
   |none=>
    simp only[Bx]at hc;go_wp2
    go_ret2
    exact⟨by rw[HO.out];rfl,a3.out⟩
   |some d=>
    simp only[Bx]at hc;go_wp2
    go_ret2
    exact⟨by rw[HO.out];simp,a3.out⟩
  ·have HD:Hid (Hx n rs x y=none):=by show _=_;unfold Hx;rw[if_neg (fun h=>hy h.2)]
   rw[decide_eq_false hy];clear hx hy;go_wp2
   go_ret2
   exact⟨by rw[HD.out];rfl,a0.out⟩
 ·have HD:Hid (Hx n rs x y=none):=by show _=_;unfold Hx;rw[if_neg (fun h=>hx h.1)]
  rw[decide_eq_false hx];clear hx;go_wp2
  go_ret2
  exact⟨by rw[HD.out];rfl,a1.out⟩
end Go.Proofs.YtaglfmlgbcmakaaGreatDoor
namespace Go.Proofs.YtaglfmlgbcmakaaGreatDoor
open Go.RowKit
-- how long the shortest ways are
theorem G3 {lt:Nat->Nat->Bool}(h:Hg lt)(p:Nat->Bool)(m:Nat):(D9 lt p m).length=((List.range m).filter p).length:=by
 refine List.Perm.length_eq ((List.perm_ext_iff_of_nodup ?_ ?_).2 fun i=> ?_)
 ·exact(Gk h p m).imp fun{a b} hab e=>by subst e;rw[h.irr]at hab;cases hab
 ·exact(List.nodup_range (n:=m)).filter _
 ·rw[Em h,List.mem_filter,List.mem_range]
-- lists of points gone over
theorem Lk {P:Nat->Bool}{n c:Nat}(hc:c<n):((List.range n).filter P)[((List.range c).filter P).length]? =some c↔P c=true:=by
 have e:List.range n=List.range c++(c::(List.range' (c+1) (n-c-1))):=by
  rw[List.range_eq_range',List.range_eq_range',show n=c+(1+(n-c-1))by omega,←List.range'_append_1,←List.range'_append_1];simp[List.range'_one]
 rw[e,List.filter_append,List.getElem?_append_right rr,Nat.sub_self];by_cases h:P c=true
 ·rw[List.filter_cons_of_pos h];simp[h]
 ·rw[List.filter_cons_of_neg h];constructor
  ·intro h1;have h2:=List.mem_of_getElem? h1;have h3:=(List.mem_filter.1 h2).1;rw[List.mem_range'_1]at h3;omega
  ·exact fun h'=>absurd h' h
theorem Mq {P:Nat->Bool}{c:Nat}:((List.range (c+1)).filter P).length=((List.range c).filter P).length+(if P c=true then 1 else 0):=by
 rw[List.range_succ,List.filter_append];by_cases h:P c=true
 ·rw[if_pos h,List.filter_cons_of_pos h];simp
 ·rw[if_neg h,List.filter_cons_of_neg h];simp
end Go.Proofs.YtaglfmlgbcmakaaGreatDoor
namespace Go.Proofs.YtaglfmlgbcmakaaGreatDoor
open Go.RowKit Go.Shelf
structure Cs where
 d:C7
 A:Option Addr
 n:Nat
 c:Nat
def Cs.cells (x:Cs):List Value:=[.int .i64 x.d.law, .slice x.A x.n x.c, .int .i64 x.d.time, .int .i64 x.d.slow, .int .i64 x.d.fin]
theorem Cs.len (x:Cs):x.cells.length=5:=rfl
abbrev Vo (x:Cs):Value:= .agg #[.int .i64 x.d.law, .slice x.A x.n x.c, .int .i64 x.d.time, .int .i64 x.d.slow, .int .i64 x.d.fin]
structure Ac5 (x:C7):Prop where
 law: -9223372036854775808<=x.law/\x.law<=9223372036854775807
 time: -9223372036854775808<=x.time/\x.time<=9223372036854775807
 slow: -9223372036854775808<=x.slow/\x.slow<=9223372036854775807
 fin: -9223372036854775808<=x.fin/\x.fin<=9223372036854775807
 at_:∀a∈x.at_, -9223372036854775808<=a/\a<=9223372036854775807
structure Hb (w:World)(x:Cs):Prop where
 pts:Cm w x.A x.n x.c x.d.at_
 u:Ac5 x.d
def Ci (w:World)(A:Option Addr)(n c:Nat)(ys:List Cs):Prop:=Dg Cs.cells 5 w A n c ys∧∀y∈ys,Hb w y
def Af (ys:List Cs):List C7:=ys.map Cs.d
section
variable {w w':World}{A:Option Addr}{n c:Nat}{ys:List Cs}
theorem Hb.below {x:Cs}(h:Hb w x)(hb:Below w.heap.size w w'):Hb w' x:=⟨Am.below h.pts hb rr,h.u⟩
theorem Ci.below (h:Ci w A n c ys)(hb:Below w.heap.size w w'):Ci w' A n c ys:=⟨h.1.below hb rr,fun y hy=>(h.2 y hy).below hb⟩
theorem Ci.len (h:Ci w A n c ys):ys.length=n:=h.1.2
theorem Ci.max (h:Ci w A n c ys):n<=c/\c<=9223372036854775807:=by have h1:=h.1.1.2.1;have h2:=h.1.1.2.2.1;unfold maxLen at h2;omega
theorem Ci.at_ (h:Ci w A n c ys){k:Nat}{x:Cs}(hx:ys[k]? =some x):∃b off,A=some ⟨b,off,none⟩/\b<w.heap.size/\Hb w x∧
  w.cell? ⟨b,off+k*5,none⟩=some (.int .i64 x.d.law)/\w.cell? ⟨b,off+k*5+1,none⟩=some (.slice x.A x.n x.c)/\w.cell? ⟨b,off+k*5+2,none⟩=some (.int .i64 x.d.time)/\w.cell? ⟨b,off+k*5+3,none⟩=some (.int .i64 x.d.slow)/\w.cell? ⟨b,off+k*5+4,none⟩=some (.int .i64 x.d.fin):=by
 obtain⟨b,off,hA,hb,hc⟩:=h.1.at_ Cs.len (by decide) hx;refine⟨b,off,hA,hb,h.2 x (List.mem_of_getElem? hx), ?_⟩;simp only[Nat.add_assoc];exact⟨hc 0 _ rfl,hc 1 _ rfl,hc 2 _ rfl,hc 3 _ rfl,hc 4 _ rfl⟩
theorem Ci.get (h:Ci w A n c ys){k:Nat}(hk:k<n):∃x,ys[k]? =some x:=⟨ys[k]'(by rw[h.len];exact hk),List.getElem?_eq_getElem _⟩
end
theorem Tl (l:List (Option Nat))(o:Option Nat):Mp (l++[o])=Pl (Mp l) o:=by
 unfold Mp;rw[List.foldl_append];rfl
theorem Aes (b n:Nat)(rs:List Bh)(x:Cs)(a:Nat)(w:World)(hm:Cl w b n rs)(hx:Hb w x)(h1:Ev n x.d=0)(ha:a<n):
  Calls Tryz.prog 62 #[Vo x, .pointer (some ⟨b,0,none⟩), .int .i64 (a:Int)] w fun e w'=>e= .returned (.int .i64 (Bx (Hn n rs x.d a)))/\Below w.heap.size w w':=by
 obtain⟨a0,hu⟩:=hx;obtain⟨b2,b8,d8,b7,d3⟩:=Ad8 h1;obtain⟨⟨law,ps,time,slow,fin⟩,Aw,nw,cw⟩:=x;obtain⟨T,rfl⟩:∃T:Nat,time=T:=⟨time.toNat,by simp only at b8;omega⟩;obtain⟨S,rfl⟩:∃S:Nat,slow=S:=⟨slow.toNat,by simp only at b7;omega⟩;have b0:=hu.fin;simp only at a0 b2 d8 d3 b0;have HP:=hI a0;have d2:=hI b2;have HM:=hI hm;have d0:nw<=9223372036854775807:=by have h1:=a0.2.1;have h2:=a0.2.2.1;unfold maxLen at h2;omega
 have a3:ps.length=nw:=by have:=a0.1;simpa using this
 have HL:=hI a3;clear a0 b2 hu h1 hm b8 b7 a3;have kb:(w.alloc (.cells #[.int .i64 law, .slice Aw nw cw, .int .i64 (T:Int), .int .i64 (S:Int), .int .i64 fin] 38)).heap[w.heap.size]? =some (.cells #[.int .i64 law, .slice Aw nw cw, .int .i64 (T:Int), .int .i64 (S:Int), .int .i64 fin] 38 (0,0)):=hpt;have kB:Below w.heap.size w (w.alloc (.cells #[.int .i64 law, .slice Aw nw cw, .int .i64 (T:Int), .int .i64 (S:Int), .int .i64 fin] 38)):=bel;go_enter Tryz.func62,Tryz.ntmps62;go_wp2_with fail;obtain⟨f,hf⟩:∃f:Int->Option Nat,f=fun b=>Mi n rs a b.toNat:=⟨_,rfl⟩
 have HF:=hI hf;obtain⟨B0,a9⟩:∃B0,B0=w.heap.size:=⟨_,rfl⟩;rw[←a9]at kb ⊢;have b6:=hI kb;have b5:=hI kB;have g2:w.heap.size<=B0:=Nat.le_of_eq a9.symm;generalize w.alloc (.cells #[.int .i64 law, .slice Aw nw cw, .int .i64 (T:Int), .int .i64 (S:Int), .int .i64 fin] 38)=W0 at*;clear a9 kb kB hf
 go_loopw [7,15] (fun s7 i wr=>∃k:Nat,k<=nw/\i= .int .i64 (k:Int)/\s7= .int .i64 (Bx (Mp ((ps.take k).map f)))/\Hid (wr.heap[B0]? =some (.cells #[.int .i64 law, .slice Aw nw cw, .int .i64 (T:Int), .int .i64 (S:Int), .int .i64 fin] 38 (0,0)))/\Hid (Below w.heap.size w wr)) (fun _ i _=>nw-(intOf i).toNat)
 case atStart=>exact⟨0,Nat.zero_le _,rfl,by simp[Mp,Bx],b6.out,b5.out⟩
 case round=>
  obtain⟨k,hk,rfl,rfl,HK,HB⟩:=hrel;clear b6 b5;obtain⟨o0,a4⟩:∃o0,o0=Mp ((ps.take k).map f):=⟨_,rfl⟩;rw[←a4];by_cases hlt:k<nw
  ·have f8:(k:Int)<(nw:Int):=by omega
   obtain⟨pb,po,v,hA,f6,hv,f3⟩:=(HP.out.below HB.out rr:Am wr Aw nw cw 1 (ps.map (Value.int .i64))).at1 hlt;subst hA;obtain⟨p,hp⟩:∃p,ps[k]? =some p:=⟨ps[k]'(by rw[HL.out];exact hlt),List.getElem?_eq_getElem _⟩;obtain rfl:v= .int .i64 p:=by rw[List.getElem?_map,hp]at hv;simpa using hv.symm
   have a2:=d2.out p (List.mem_of_getElem? hp);have d6:Hid (ps.take (k+1)=ps.take k++[p]):=Bp ps k p hp
   have b9:Hx n rs (a:Int) p=f p:=by
    unfold Hx;rw[if_pos ⟨⟨by omega,by omega⟩,a2.1,a2.2⟩,HF.out];rfl
   have f1:=hI b9;have f0:=hI a4;clear hv hp b9 a4 a2;go_wp2_with fail;refine(Ady b n rs (a:Int) p wr (HM.out.below HB.out)).mono ?_;rw[f1.out];obtain⟨o,ho⟩:∃o,o=f p:=⟨_,rfl⟩
   have a7:Hid (Mp ((ps.take (k+1)).map f)=Pl o0 o):=by
    show _=_;rw[d6.out,List.map_append,List.map_singleton,Tl,ho,f0.out]
   rw[←ho];rintro e w1 ⟨rfl,a8⟩;have a6:=hI (HB.out.trans (a8.mono HB.out.size));have a5:=hI ((a8.block B0 (lt_of_block HK.out)).trans HK.out);clear a8 HB HK ho f3 f6
   cases o with
   |none=>
    go_wp2_with fail
    go_roundw
    case rel=>exact⟨k+1,by omega,by simp,by rw[a7.out,Xr],a5.out,a6.out⟩
    case measure=>simp[intOf];omega
   |some d=>
    cases o0 with
    |none=>
     simp only[Bx,Option.getD_some,Option.isSome_some];go_wp2_with fail
     go_roundw
     case rel=>exact⟨k+1,by omega,by simp,by rw[a7.out];rfl,a5.out,a6.out⟩
     case measure=>simp[intOf];omega
    |some e0=>
     simp only[Bx,Option.getD_some,Option.isSome_some];have d9:¬(e0:Int)<0:=by omega
     by_cases hde:d<e0
     ·have b1:(d:Int)<(e0:Int):=by omega
      go_wp2_with fail
      go_roundw
      case rel=>exact⟨k+1,by omega,by simp,by rw[a7.out,V6,if_pos hde];rfl,a5.out,a6.out⟩
      case measure=>simp[intOf];omega
     ·have b1:¬(d:Int)<(e0:Int):=by omega
      go_wp2_with fail
      go_roundw
      case rel=>exact⟨k+1,by omega,by simp,by rw[a7.out,V6,if_neg hde];rfl,a5.out,a6.out⟩
      case measure=>simp[intOf];omega
  ·obtain rfl:k=nw:=by omega
   have HN:Hid (Hn n rs ⟨law,ps,T,S,fin⟩ a=Lj o0 T S fin):=by
    show _=_;unfold Hn Adc;rw[←HF.out,a4,List.take_of_length_le (by rw[HL.out];exact rr)];rfl
   have c2:=Aa (j:=2) HK.out rfl;have c3:=Aa (j:=3) HK.out rfl;have c4:=Aa (j:=4) HK.out rfl;clear a4
   cases o0 with
   |none=>
    simp only[Bx];go_wp2;go_ret;exact⟨by rw[HN.out];rfl,HB.out⟩
   |some d=>
    simp only[Bx];have d9:¬(d:Int)<0:=by omega
    go_upto_region 11 with fail
    go_cut [41]from 42 to 53 (fun s41 wx=>s41= .bool (decide (9223372036854775807<T+S*d))/\wx=wr.drew)
    case first=>
     by_cases hd0:d=0
     ·subst hd0;have hS:wr.cell? ⟨B0,3,none⟩=some (.int .i64 (S:Int))/\wr.cell? ⟨B0,2,none⟩=some (.int .i64 (T:Int)):=⟨c3,c2⟩;refine Br (fun W'=>W'.cell? ⟨B0,3,none⟩=some (.int .i64 (S:Int))/\W'.cell? ⟨B0,2,none⟩=some (.int .i64 (T:Int))) (by kernel_rfl) hS (fun hHeld=> ?_);clear hS;have hS:=hHeld
      (refine' Ab 0 rfl ?_;(try simp only[Act.put,nY,nX]));(refine' Ab 1 rfl ?_;(try simp only[Act.put,nY,nX]));(refine' Ab 2 rfl ?_;(try simp only[Act.put,nY,nX]))
      refine' Bo (i:=3) (v:=undef) rfl (by as_aux_lemma=>kernel_rfl) (by as_aux_lemma=>kernel_rfl) (by as_aux_lemma=>kernel_rfl) (by as_aux_lemma=>kernel_rfl) (fun _ _ _ h=>h) (Or.inr ⟨by as_aux_lemma=>kernel_rfl,rfl⟩) hS ?_
      (try simp only[Act.put,nY,nX])
      refine' Bo (i:=4) (v:=undef) rfl (by as_aux_lemma=>kernel_rfl) (by as_aux_lemma=>kernel_rfl) (by as_aux_lemma=>kernel_rfl) (by as_aux_lemma=>kernel_rfl) (fun _ _ _ h=>h) (Or.inr ⟨by as_aux_lemma=>kernel_rfl,rfl⟩) hS ?_
      (try simp only[Act.put,nY,nX])
      refine' Bo (i:=5) (v:=undef) rfl (by as_aux_lemma=>kernel_rfl) (by as_aux_lemma=>kernel_rfl) (by as_aux_lemma=>kernel_rfl) (by as_aux_lemma=>kernel_rfl) (fun _ _ _ h=>h) (Or.inr ⟨by as_aux_lemma=>kernel_rfl,rfl⟩) hS ?_
      (try simp only[Act.put,nY,nX])
      refine' Bo (i:=6) (v:=undef) rfl (by as_aux_lemma=>kernel_rfl) (by as_aux_lemma=>kernel_rfl) (by as_aux_lemma=>kernel_rfl) (by as_aux_lemma=>kernel_rfl) (fun _ _ _ h=>h) (Or.inr ⟨by as_aux_lemma=>kernel_rfl,rfl⟩) hS ?_
      (try simp only[Act.put,nY,nX])
      refine' Bo (i:=7) (v:=undef) rfl (by as_aux_lemma=>kernel_rfl) (by as_aux_lemma=>kernel_rfl) (by as_aux_lemma=>kernel_rfl) (by as_aux_lemma=>kernel_rfl) (fun _ _ _ h=>h) (Or.inr ⟨by as_aux_lemma=>kernel_rfl,rfl⟩) hS ?_
      (try simp only[Act.put,nY,nX])
      refine' Bo (i:=8) (v:=undef) rfl (by as_aux_lemma=>kernel_rfl) (by as_aux_lemma=>kernel_rfl) (by as_aux_lemma=>kernel_rfl) (by as_aux_lemma=>kernel_rfl) (fun _ _ _ h=>h) (Or.inr ⟨by as_aux_lemma=>kernel_rfl,rfl⟩) hS ?_
      (try simp only[Act.put,nY,nX])
      refine' Bo (i:=9) (v:=undef) rfl (by as_aux_lemma=>kernel_rfl) (by as_aux_lemma=>kernel_rfl) (by as_aux_lemma=>kernel_rfl) (by as_aux_lemma=>kernel_rfl) (fun _ _ _ h=>h) (Or.inr ⟨by as_aux_lemma=>kernel_rfl,rfl⟩) hS ?_
      (try simp only[Act.put,nY,nX])
      refine' Bo (i:=10) (v:=undef) rfl (by as_aux_lemma=>kernel_rfl) (by as_aux_lemma=>kernel_rfl) (by as_aux_lemma=>kernel_rfl) (by as_aux_lemma=>kernel_rfl) (fun _ _ _ h=>h) (Or.inr ⟨by as_aux_lemma=>kernel_rfl,rfl⟩) hS ?_
      (try simp only[Act.put,nY,nX])
      (refine' Ab 11 rfl ?_;(try simp only[Act.put,nY,nX]))
      (refine Aeu 12 rfl (fun K' hK'=> ?_);simp only[nY];go_simp)
      refine hK' _ _ ⟨.inl (by kernel_rfl),fun _=>Bc (by kernel_rfl) ?_ _⟩
      clear hK' K' hHeld hS;go_wp2_with fail;go_meet
      case rel=>exact⟨by rw[Nat.mul_zero];rw[decide_eq_false (by omega)],rfl⟩
     ·have f9:(0:Int)<(d:Int):=by omega
      have hS:wr.cell? ⟨B0,3,none⟩=some (.int .i64 (S:Int))/\wr.cell? ⟨B0,2,none⟩=some (.int .i64 (T:Int)):=⟨c3,c2⟩;refine Br (fun W'=>W'.cell? ⟨B0,3,none⟩=some (.int .i64 (S:Int))/\W'.cell? ⟨B0,2,none⟩=some (.int .i64 (T:Int))) (by kernel_rfl) hS (fun hHeld=> ?_);clear hS
      (refine' Ab 0 rfl ?_;(try simp only[Act.put,nY,nX]));(refine' Ab 1 rfl ?_;(try simp only[Act.put,nY,nX]))
      rw[decide_eq_true (show 0<d by omega)];obtain⟨q,hq⟩:∃q:Nat,q=(9223372036854775807-T)/d:=⟨_,rfl⟩
      have f2:(9223372036854775807-(T:Int))/(d:Int)=(q:Int):=by
       rw[hq,show(9223372036854775807-(T:Int))=((9223372036854775807-T:Nat):Int)by omega];rfl
      have d4:Int.tdiv (9223372036854775807-(T:Int)) (d:Int)=(q:Int):=by rw[Int.tdiv_eq_ediv_of_nonneg (by omega)];exact f2
      have f7:¬d=0:=hd0;have g0:q<=9223372036854775807:=by rw[hq];exact Nat.le_trans (Nat.div_le_self _ _) (Nat.sub_le _ _)
      (refine' Ab 2 rfl ?_;(try simp only[Act.put,nY,nX]));(refine' Ab 3 rfl ?_;(try simp only[Act.put,nY,nX]));(refine' Ab 4 rfl ?_;(try simp only[Act.put,nY,nX]));(refine' Ab 5 rfl ?_;(try simp only[Act.put,nY,nX]));(refine' Ab 6 rfl ?_;(try simp only[Act.put,nY,nX]));(refine' Ab 7 rfl ?_;(try simp only[Act.put,nY,nX]));(refine' Ab 8 rfl ?_;(try simp only[Act.put,nY,nX]))
      have b4:(q<S)↔9223372036854775807<T+S*d:=by
       have:=Acv (T:=T) (S:=S) (d:=d) (M:=9223372036854775807) (by omega)
       rw[hq,←this];exact⟨fun h=>⟨by omega,h⟩,fun h=>h.2⟩
      have d1:=hI b4;clear hq b4
      (refine' Ab 9 rfl ?_;(try simp only[Act.put,nY,nX]))
      rw[show IntKind.i64.wrap (9223372036854775807-(T:Int))=9223372036854775807-(T:Int)from IntWalk.i64_in _ (by omega),d4,show IntKind.i64.wrap (q:Int)=(q:Int)from IntWalk.i64_in _ (by omega)]
      (refine' Ab 10 rfl ?_;(try simp only[Act.put,nY,nX]));(refine' Ab 11 rfl ?_;(try simp only[Act.put,nY,nX]))
      (refine Aeu 12 rfl (fun K' hK'=> ?_);simp only[nY];go_simp)
      refine hK' _ _ ⟨.inl (by kernel_rfl),fun _=>Bc (by kernel_rfl) ?_ _⟩
      clear hK' K' hHeld;go_wp2_with fail;go_meet
      case rel=>exact⟨by congr 1;exact decide_eq_decide.2 d1.out,rfl⟩
    case rest=>
     obtain⟨rfl,f5⟩:=hcut;obtain rfl:=f5;by_cases hbig:9223372036854775807<T+S*d
     ·rw[decide_eq_true hbig];go_wp2;go_ret;exact⟨by rw[HN.out];show _=Ending.returned (.int .i64 (Bx (if 9223372036854775807<T+S*d then none else _)));rw[if_pos hbig];rfl,HB.out.drew⟩
     ·rw[decide_eq_false hbig];have d5:(S:Int)*(d:Int)=((S*d:Nat):Int):=by simp
      have f4:S*d<=9223372036854775807:=by omega
      obtain⟨sd,a1⟩:∃sd,sd=S*d:=⟨_,rfl⟩;rw[←a1]at d5 f4 hbig;have g1:T+sd<=9223372036854775807:=by omega
      have d7:=hI a1;clear a1
      have HV:Hid (Lj (some d) T S fin=if fin<=(T:Int)+(sd:Int)then none else some (T+sd)):=by
       show(if 9223372036854775807<T+S*d then none else if fin<=((T+S*d:Nat):Int)then none else some (T+S*d))=_;rw[←d7.out,if_neg hbig];simp
      have b3:=hI HB.out.drew;by_cases hfi:fin<=(T:Int)+(sd:Int)
      ·go_wp2;go_ret;exact⟨by rw[HN.out,HV.out,if_pos hfi];rfl,b3.out⟩
      ·go_wp2;go_ret;exact⟨by rw[HN.out,HV.out,if_neg (by omega)];simp[Bx],b3.out⟩
end Go.Proofs.YtaglfmlgbcmakaaGreatDoor
