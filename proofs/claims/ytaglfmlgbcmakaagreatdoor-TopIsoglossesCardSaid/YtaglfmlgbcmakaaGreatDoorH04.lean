/-
  A region whose operations come in any order, many of them laying memory: what each operation's value is, said of each alone, whatever has come before.
  wave.Crossed.
  The closures of wave.line and wave.arrived; slices.SortStableFunc over few waves.
  slices.SortStableFunc over at most 19 waves that have arrived.
  slices.SortStableFunc over at most 19 waves that have arrived: the whole call.
  The iterator of wave.arrived.
-/
import Derived.Shelf.SlSortCmp.Insertion
import Derived.Test.YtaglfmlgbcmakaaGreatDoorH03
set_option linter.all false
set_option maxRecDepth 100000
set_option maxHeartbeats 4000000
namespace Go.Proofs.YtaglfmlgbcmakaaGreatDoor
open Go.RowKit Go.Shelf
def Ju (p:Nat->Bool):Nat->Nat
 |0=>0
 |n+1=>Ju p n+(if p n=true then 1 else 0)
theorem Pw {p q:Nat->Bool}:∀n,(∀j,j<n->q j=p j)->Ju q n=Ju p n
 |0,_=>rfl
 |n+1,h=>by unfold Ju;rw[Pw n fun j hj=>h j (by omega),h n (by omega)]
theorem Rp {p q:Nat->Bool}{i:Nat}(hp:p i=false)(hq:q i=true)(h:∀j,j≠i->q j=p j):∀n,i<n->Ju q n=Ju p n+1
 |0,hi=>by omega
 |n+1,hi=>by
  unfold Ju;by_cases e:i=n
  ·subst e;rw[Pw (p:=p) i fun j hj=>h j (by omega),hp,hq];simp
  ·rw[Rp hp hq h n (by omega),h n (Ne.symm e)];omega
theorem Vg (p:Nat->Bool):∀n,Ju p n<=n
 |0=>rr
 |n+1=>by unfold Ju;have:=Vg p n;split<;>omega
theorem Rq {p:Nat->Bool}:∀n,Ju p n=n→∀i,i<n->p i=true
 |0,_,i,hi=>by omega
 |n+1,h,i,hi=>by
  unfold Ju at h;have h1:=Vg p n;by_cases hn:p n=true
  ·rw[if_pos hn]at h;rcases Nat.lt_or_ge i n with h2|h2
   ·exact Rq n (by omega) i h2
   ·obtain rfl:i=n:=by omega
    exact hn
  ·rw[if_neg hn]at h;omega
section
variable {P:Program}{ops:Array Oper}{Q:Exit->Act->World->Prop}{md:Region.Mode}
def Du (ops:Array Oper)(i:Nat):Option Tmp:=(ops[i]?).bind (·.dst)
def Ei (ops:Array Oper)(vs:Nat->Value):Nat->Array Value->Array Value
 |0,t=>t
 |n+1,t=>match Du ops n with|some d=>(Ei ops vs n t).setIfInBounds d (vs n)|none=>Ei ops vs n t
theorem F9 (vs:Nat->Value):∀(n:Nat) (t:Array Value),(Ei ops vs n t).size=t.size
 |0,_=>rfl
 |n+1,t=>by
  unfold Ei;split
  ·rw[Array.size_setIfInBounds,F9 vs n t]
  ·exact F9 vs n t
theorem J9 (vs:Nat->Value){s:Nat}:∀(n:Nat) (t:Array Value),(∀i,i<n->Du ops i≠some s)->(Ei ops vs n t)[s]? =t[s]?
 |0,_,_=>rfl
 |n+1,t,h=>by
  unfold Ei;have ih:=J9 vs n t fun i hi=>h i (by omega)
  split
  ·rename_i d hd
   have a0:d≠s:=fun e=>h n (by omega) (by rw[hd,e])
   rw[Array.getElem?_setIfInBounds_ne a0];exact ih
  ·exact ih
theorem Px (hd:∀i j s,Du ops i=some s->Du ops j=some s->i=j)(vs:Nat->Value){i s:Nat}(hi:Du ops i=some s):∀(n:Nat) (t:Array Value),i<n->s<t.size->(Ei ops vs n t)[s]? =some (vs i)
 |0,_,h,_=>by omega
 |n+1,t,h,hs=>by
  unfold Ei;by_cases e:i=n
  ·subst e;rw[hi];show((Ei ops vs i t).setIfInBounds s (vs i))[s]? =_;rw[Array.getElem?_setIfInBounds_self_of_lt (by rw[F9];exact hs)]
  ·have ih:=Px hd vs hi n t (by omega) hs;split
   ·rename_i d hdn
    have a0:d≠s:=fun e'=>e (hd i n s hi (by rw[hdn,e']))
    rw[Array.getElem?_setIfInBounds_ne a0];exact ih
   ·exact ih
structure X9 (ops:Array Oper)(Φ:Nat->Value->World->Prop)(a0:Act)(w0:World)(vs:Nat->Value)(listed:Array Bool)(a:Act)(w:World):Prop where
 df:a.defers=a0.defers
 sz:a.tmps.size=a0.tmps.size
 ls:listed.size=ops.size
 other:∀s,(∀i,listed.getD i false=true->Du ops i≠some s)->a.tmps[s]? =a0.tmps[s]?
 at_:∀i s,listed.getD i false=true->Du ops i=some s->s<a0.tmps.size->a.tmps[s]? =some (vs i)
 is:∀i,listed.getD i false=true->Φ i (vs i) w
 bw:Below w0.heap.size w0 w
def Ya (md:Region.Mode)(ops:Array Oper)(Φ:Nat->Value->World->Prop)(a0:Act)(o:Oper)(a:Act)(w:World):Prop:=
 (∀j,(∃e∈o.after,Region.binds md e=true/\e.on=j)→∃v,Φ j v w∧∀s,Du ops j=some s->s<a0.tmps.size->a.tmps[s]? =some v)∧
 (∀s,(∀j,Du ops j≠some s)->a.tmps[s]? =a0.tmps[s]?)/\a.tmps.size=a0.tmps.size
theorem Jj {listed:Array Bool}{i:Nat}(h:i<listed.size)(d:Bool):(listed.setIfInBounds i true).getD i d=true:=by
 simp[Array.getD_eq_getD_getElem?,h]
theorem Abf (Φ:Nat->Value->World->Prop)(a0:Act)(w0:World)
  (hmono:∀j v w w',Φ j v w->Below w.heap.size w w'->Φ j v w')
  (hd:∀i j s,Du ops i=some s->Du ops j=some s->i=j)
  (hg:∀(i:Nat) (o:Oper),ops[i]? =some o->o.guard=none)
  (hac:∀(i:Nat) (o:Oper),ops[i]? =some o→∀e∈o.after,Region.binds md e=true->e.on<i)
  (H:∀(i:Nat) (o:Oper),ops[i]? =some o→∀a w,Ya md ops Φ a0 o a w->Below w0.heap.size w0 w->o.wp P a w (fun a' w'=>∃v,a'=a.put o.dst v/\Φ i v w'/\Below w.heap.size w w') Q)
  (hQ:∀vs w',(∀i,i<ops.size->Φ i (vs i) w')->Below w0.heap.size w0 w'->Q .normal {a0 with tmps:=Ei ops vs ops.size a0.tmps} w'):
  ∀fuel vs listed a w,X9 ops Φ a0 w0 vs listed a w->Ju (fun i=>listed.getD i false) ops.size+fuel=ops.size->wpAny P md ops Q fuel listed a w:=by
 -- all are listed: the end
 have a5:∀vs listed a w,X9 ops Φ a0 w0 vs listed a w->(∀i,i<ops.size->listed.getD i false=true)->Q .normal a w:=by
  intro vs listed a w hI a1;have h:=hQ vs w (fun i hi=>hI.is i (a1 i hi)) hI.bw
  have ha:a={a0 with tmps:=Ei ops vs ops.size a0.tmps}:=by
   obtain⟨t,df⟩:=a;have h1:df=a0.defers:=hI.df
   have h2:t=Ei ops vs ops.size a0.tmps:=by
    apply Array.ext_getElem?;intro s;by_cases hs:∃i,i<ops.size/\Du ops i=some s
    ·obtain⟨i,hi,b0⟩:=hs;rcases Nat.lt_or_ge s a0.tmps.size with a2|a8
     ·rw[Px hd vs b0 _ _ hi a2];exact hI.at_ i s (a1 i hi) b0 a2
     ·have h3:(Ei ops vs ops.size a0.tmps)[s]? =none:=Array.getElem?_eq_none (by rw[F9];exact a8);have h4:t.size=a0.tmps.size:=hI.sz;rw[h3,Array.getElem?_eq_none (by omega)]
    ·rw[J9 vs _ _ fun i hi e=>hs ⟨i,hi,e⟩]
     refine hI.other s fun i hl e=>hs ⟨i, ?_,e⟩
     rcases Nat.lt_or_ge i ops.size with a2|a8
     ·exact a2
     ·unfold Du at e;rw[Array.getElem?_eq_none a8]at e;cases e
   rw[h1,h2]
  rw[ha];exact h
 -- nothing is ready: all are listed
 have a4:∀listed:Array Bool,listed.size=ops.size->Region.ready md ops listed=[]→∀i,i<ops.size->listed.getD i false=true:=by
  intro listed b3 h0 i
  induction i using Nat.strongRecOn with
  |_ i ih=>
   intro hi
   cases hb:listed.getD i false with
   |true=>rfl
   |false=>
    exfalso;have ho:ops[i]? =some ops[i]:=Array.getElem?_eq_getElem hi
    have hm:i∈Region.ready md ops listed:=mem_ready.2 ⟨by
     have a3:i<listed.size:=by omega
     simp only[Array.getD_eq_getD_getElem?,Array.getElem?_eq_getElem a3,Option.getD_some]at hb ⊢
     exact hb,ops[i],ho,fun e he hbnd_=>by
      have h1:=hac i _ ho e he hbnd_;exact ih e.on h1 (by omega)⟩
    rw[h0]at hm;cases hm
 intro fuel
 induction fuel with
 |zero=>
  intro vs listed a w hI hc;have a1:=Rq ops.size (by omega:Ju (fun i=>listed.getD i false) ops.size=ops.size);refine⟨?_,a5 vs listed a w hI a1⟩;apply List.eq_nil_iff_forall_not_mem.2;intro i hi;obtain⟨h1,o,ho,_⟩:=mem_ready.1 hi;have a2:i<ops.size:=(Array.getElem?_eq_some_iff.1 ho).1;have h2:=a1 i a2;have a3:i<listed.size:=by rw[hI.ls];exact a2
  simp only[Array.getD_eq_getD_getElem?,Array.getElem?_eq_getElem a3,Option.getD_some]at h1 h2;rw[h1]at h2;cases h2
 |succ fuel ih=>
  intro vs listed a w hI hc;refine⟨fun h0=>a5 vs listed a w hI (a4 listed hI.ls h0),fun i hi=> ?_⟩
  obtain⟨h1,o,ho,a7⟩:=mem_ready.1 hi;have a2:i<ops.size:=(Array.getElem?_eq_some_iff.1 ho).1;have a3:i<listed.size:=by rw[hI.ls];exact a2
  have b1:listed.getD i false=false:=by
   simp only[Array.getD_eq_getD_getElem?,Array.getElem?_eq_getElem a3,Option.getD_some]at h1 ⊢;exact h1
  have hw:Region.wanted o (yielded ops a.tmps)=true:=by unfold Region.wanted;rw[hg i o ho]
  unfold wpOp;rw[ho];simp only[hw,if_true];left;refine Oper.wp_mono (fun a' w' h=> ?_) (H i o ho a w ⟨fun j ⟨e,he,hb,hej⟩=> ?_,fun s hs=>hI.other s fun j _=>hs j,hI.sz⟩ hI.bw)
  ·obtain⟨v,rfl,hv,hb⟩:=h;have a9:Du ops i=o.dst:=by unfold Du;rw[ho];rfl
   have a6:∀j,j≠i->(listed.setIfInBounds i true).getD j false=listed.getD j false:=fun j hj=>getD_set_ne false (Ne.symm hj)
   refine ih (fun j=>if j=i then v else vs j) _ _ _ ⟨?_, ?_,by rw[Array.size_setIfInBounds];exact hI.ls,fun s hs=> ?_,fun j s hj hjs hlt'=> ?_,fun j hj=> ?_,hI.bw.trans (hb.mono hI.bw.size)⟩ ?_
   ·unfold Act.put;split<;>exact hI.df
   ·unfold Act.put;split
    ·show(a.tmps.setIfInBounds _ v).size=_;rw[Array.size_setIfInBounds];exact hI.sz
    ·exact hI.sz
   ·have b2:o.dst≠some s:=by rw[←a9];exact hs i (Jj a3 false)
    have h2:=hI.other s fun j hj=>by
     by_cases e:j=i
     ·subst e;rw[b1]at hj;cases hj
     ·exact hs j (by rw[a6 j e];exact hj)
    unfold Act.put;split
    ·rename_i d hdd
     have:d≠s:=fun e=>b2 (by rw[hdd,e])
     show(a.tmps.setIfInBounds d v)[s]? =_;rw[Array.getElem?_setIfInBounds_ne this];exact h2
    ·exact h2
   ·by_cases e:j=i
    ·subst e;rw[a9]at hjs;simp only[if_true];unfold Act.put;rw[hjs];show(a.tmps.setIfInBounds s v)[s]? =some v;rw[Array.getElem?_setIfInBounds_self_of_lt (by rw[hI.sz];exact hlt')]
    ·rw[a6 j e]at hj;have h2:=hI.at_ j s hj hjs hlt';simp only[if_neg e];unfold Act.put;split
     ·rename_i d hdd
      have:d≠s:=fun e'=>e (hd j i s hjs (by rw[a9,hdd,e']))
      show(a.tmps.setIfInBounds d v)[s]? =_;rw[Array.getElem?_setIfInBounds_ne this];exact h2
     ·exact h2
   ·by_cases e:j=i
    ·subst e;simp only[if_true];exact hv
    ·rw[a6 j e]at hj;simp only[if_neg e];exact hmono j _ _ _ (hI.is j hj) hb
   ·rw[Rp (p:=fun j=>listed.getD j false) b1 (Jj a3 false) (fun j hj=>a6 j hj) ops.size a2];omega
  ·have hl:listed.getD j false=true:=by rw[←hej];exact a7 e he hb
   exact⟨vs j,hI.is j hl,fun s hs hlt'=>hI.at_ j s hl hs hlt'⟩
def Acz (ops:Array Oper):Bool:=(List.range ops.size).all fun i=>match ops[i]? with
 |none=>false
 |some o=>o.guard.isNone && (o.after.all fun e=>(!Region.binds .any e||decide (e.on<i))) && (o.dst.isNone||(List.range i).all fun j=> !(Du ops j==o.dst))
theorem Ts (h:Acz ops=true):(∀i j s,Du ops i=some s->Du ops j=some s->i=j)/\(∀(i:Nat) (o:Oper),ops[i]? =some o->o.guard=none)∧∀(i:Nat) (o:Oper),ops[i]? =some o→∀e∈o.after,Region.binds .any e=true->e.on<i:=by
 have key:∀(i:Nat) (o:Oper),ops[i]? =some o->o.guard=none/\(∀e∈o.after,Region.binds .any e=true->e.on<i)/\(∀s,o.dst=some s→∀j,j<i->Du ops j≠some s):=fun i o ho=>by
  have hi:i<ops.size:=(Array.getElem?_eq_some_iff.1 ho).1;have h1:=List.all_eq_true.1 h i (List.mem_range.2 hi);rw[ho]at h1;simp only[Bool.and_eq_true,Bool.or_eq_true]at h1;obtain⟨⟨h2,h3⟩,h4⟩:=h1;refine⟨by simpa using h2,fun e he hbd=>by have h:=Array.all_eq_true'.1 h3 e he;rw[hbd]at h;simpa using h,fun s hs j hj e=> ?_⟩
  rcases h4 with h4|h4
  ·rw[hs]at h4;cases h4
  ·have h5:=List.all_eq_true.1 h4 j (List.mem_range.2 hj);rw[e,hs]at h5;simp at h5
 refine⟨fun i j s hi hj=> ?_,fun i o ho=>(key i o ho).1,fun i o ho=>(key i o ho).2.1⟩
 have hw:∀i s,Du ops i=some s→∃o,ops[i]? =some o/\o.dst=some s:=fun i s h=>by
  unfold Du at h
  cases ho:ops[i]? with
  |none=>rw[ho]at h;cases h
  |some o=>rw[ho]at h;exact⟨o,rfl,h⟩
 obtain⟨oi,h1,h2⟩:=hw i s hi;obtain⟨oj,h3,h4⟩:=hw j s hj;rcases Nat.lt_trichotomy i j with h5|h5|h5
 ·exact absurd hi ((key j oj h3).2.2 s h4 i h5)
 ·exact h5
 ·exact absurd hj ((key i oi h1).2.2 s h2 j h5)
theorem V9 (n m:Nat):Ju (fun i=>(Array.replicate m false).getD i false) n=0:=by
 induction n with
 |zero=>rfl
 |succ n ih=>
  unfold Ju;rw[ih]
  have:(Array.replicate m false).getD n false=false:=by
   simp only[Array.getD_eq_getD_getElem?,Array.getElem?_replicate];split<;>rfl
  rw[this];rfl
theorem Tt {id:Nat}(hm:P.follows .mixedOrders=true)(hok:Acz ops=true)(Φ:Nat->Value->World->Prop)(a0:Act)(w:World)
  (hmono:∀j v w w',Φ j v w->Below w.heap.size w w'->Φ j v w')
  (H:∀(i:Nat) (o:Oper),ops[i]? =some o→∀a w',Ya .any ops Φ a0 o a w'->Below w.heap.size w w'->o.wp P a w' (fun a' w''=>∃v,a'=a.put o.dst v/\Φ i v w''/\Below w'.heap.size w' w'') Q)
  (hQ:∀vs w',(∀i,i<ops.size->Φ i (vs i) w')->Below w.heap.size w w'->Q .normal {a0 with tmps:=Ei ops vs ops.size a0.tmps} w'):(Code.region id ops true).wp P Q a0 w:=by
 obtain⟨hd,hg,a2⟩:=Ts hok;have a1:Below w.heap.size w w.drew:=(Below.refl _ _).drew;refine wp_region_any hm (Abf Φ a0 w.drew hmono hd hg a2 (fun i o ho a w' ha hb=>H i o ho a w' ha (a1.trans hb)) (fun vs w' h hb=>hQ vs w' h (a1.trans hb)) ops.size (fun _=>undef) _ a0 w.drew ⟨rfl,rfl,by simp,fun s _=>rfl,fun i s h=> ?_,fun i h=> ?_,Below.refl _ _⟩ (by rw[V9];omega))
 ·simp only[Array.getD_eq_getD_getElem?,Array.getElem?_replicate]at h;split at h<;>cases h
 ·simp only[Array.getD_eq_getD_getElem?,Array.getElem?_replicate]at h;split at h<;>cases h
end
theorem Aec (x y:Int):(Ed x y<0)↔x<y:=by unfold Ed;by_cases h1:x<y<;>by_cases h2:y<x<;>simp[h1,h2]
end Go.Proofs.YtaglfmlgbcmakaaGreatDoor
namespace Go.Proofs.YtaglfmlgbcmakaaGreatDoor
open Go.RowKit Go.Shelf Go.Sort Go.Lib
theorem Acy (o:Option Nat)(now:Int)(bn:Nat)(w:World)(h:w.heap[bn]? =some (.cells #[.int .i64 now] 2 (0,0))):
  Calls Tryz.prog 103 #[.int .i64 (Bx o), .pointer (some ⟨bn,0,none⟩)] w fun e w'=>e= .returned (.bool (G0 now o))/\w'=w:=by
 obtain⟨x,hx⟩:∃x,x=Bx o:=⟨_,rfl⟩;have HB:=hI (Aew o now w);rw[←hx]at*;clear hx;have c0:=cell_of_one h;clear h;go_enter Tryz.func103,Tryz.ntmps103;go_wp2_with fail;refine HB.out.mono ?_;rintro e w1 ⟨rfl,rfl⟩;go_wp2;go_ret;exact⟨rfl,rfl⟩
def Hi (w:World)(g tb:Nat)(m:Nat)(tt:Nat->Option Nat):Prop:=∃c,w.heap[g]? =some (.cells #[.slice (some ⟨tb,0,none⟩) m c] 192 (0,0))∧∃cur:Array Value,w.heap[tb]? =some (.cells cur 123 (0,0))∧∀j,j<m->cur[j]? =some (.int .i64 (Bx (tt j)))
theorem Hi.keep {w w':World}{g tb m:Nat}{tt:Nat->Option Nat}{S:Nat->Prop}(h:Hi w g tb m tt)(hk:Ag S w w')(h1:¬S g)(h2:¬S tb):Hi w' g tb m tt:=by
 obtain⟨c,hg,cur,ht,hc⟩:=h;exact⟨c,(hk.block g (lt_of_block hg) h1).trans hg,cur,(hk.block tb (lt_of_block ht) h2).trans ht,hc⟩
theorem X6 (i k m g tb:Nat)(tt:Nat->Option Nat)(hi:i<m)(hk:k<m)(w:World)(h:Hi w g tb m tt):
  Calls Tryz.prog 142 #[.int .i64 (i:Int), .int .i64 (k:Int), .pointer (some ⟨g,0,none⟩)] w fun e w'=>e= .returned (.int .i64 (Ed (D7 (tt i)) (D7 (tt k))))/\w'=w.drewN 1:=by
 obtain⟨c,hg,cur,ht,hc⟩:=h;have c0:w.cell? ⟨g,0,none⟩=some (.slice (some ⟨tb,0,none⟩) m c):=by simp[World.cell?,hg]
 have cx:w.cell? ⟨tb,i,none⟩=some (.int .i64 (Bx (tt i))):=by simp[World.cell?,ht,hc i hi]
 have cy:w.cell? ⟨tb,k,none⟩=some (.int .i64 (Bx (tt k))):=by simp[World.cell?,ht,hc k hk]
 have a7:(i:Int)<(m:Int):=by omega
 have a6:(k:Int)<(m:Int):=by omega
 have a4:=hI fun w=>Abd (tt i) w
 have a5:=hI fun w=>Abd (tt k) w
 obtain⟨ri,a0⟩:∃x,x=D7 (tt i):=⟨_,rfl⟩;obtain⟨rk,a1⟩:∃x,x=D7 (tt k):=⟨_,rfl⟩;obtain⟨ai,a2⟩:∃x,x=Bx (tt i):=⟨_,rfl⟩;obtain⟨ak,a3⟩:∃x,x=Bx (tt k):=⟨_,rfl⟩;rw[←a0,←a2]at a4;rw[←a1,←a3]at a5;rw[←a0,←a1];rw[←a2]at cx;rw[←a3]at cy;clear hg ht hc hi hk a0 a1 a2 a3;go_enter Tryz.func142,Tryz.ntmps142;go_wp2_with fail;refine Br (fun W'=>W'.cell? ⟨g,0,none⟩=some (.slice (some ⟨tb,0,none⟩) m c)/\W'.cell? ⟨tb,i,none⟩=some (.int .i64 ai)/\W'.cell? ⟨tb,k,none⟩=some (.int .i64 ak)) (by kernel_rfl) ⟨c0,cx,cy⟩ (fun hHeld=> ?_)
 (refine' Ab 0 rfl ?_;(try simp only[Act.put,nY,nX]));(refine' Ab 1 rfl ?_;(try simp only[Act.put,nY,nX]));(refine' Ab 2 rfl ?_;(try simp only[Act.put,nY,nX]));(refine' Ab 3 rfl ?_;(try simp only[Act.put,nY,nX]));(refine' Ab 5 rfl ?_;(try simp only[Act.put,nY,nX]));(refine' Ab 6 rfl ?_;(try simp only[Act.put,nY,nX]));(refine' Ab 7 rfl ?_;(try simp only[Act.put,nY,nX]));(refine' Ab 8 rfl ?_;(try simp only[Act.put,nY,nX]))
 (refine Aeu 4 rfl (fun K' hK'=> ?_);simp only[nY];go_simp)
 refine(a4.out _).mono ?_;rintro e w1 ⟨rfl,rfl⟩;refine hK' _ _ ⟨.inr hHeld,fun _=> ?_⟩
 clear hK' K'
 (try simp only[Act.put,nY,nX])
 (refine Aeu 9 rfl (fun K' hK'=> ?_);simp only[nY];go_simp)
 refine(a5.out _).mono ?_;rintro e w1 ⟨rfl,rfl⟩;refine hK' _ _ ⟨.inr hHeld,fun _=> ?_⟩
 clear hK' K'
 (try simp only[Act.put,nY,nX])
 (refine Aeu 10 rfl (fun K' hK'=> ?_);simp only[nY];go_simp)
 refine(Vt ri rk _).mono ?_;rintro e w1 ⟨rfl,rfl⟩;refine hK' _ _ ⟨.inr hHeld,fun _=> ?_⟩
 clear hK' K'
 (try simp only[Act.put,nY,nX])
 (refine Aeu 11 rfl (fun K' hK'=> ?_);simp only[nY];go_simp)
 refine hK' _ _ ⟨.inl (by kernel_rfl),fun _=>Bc (by kernel_rfl) ?_ _⟩
 clear hK' K';go_wp2;go_ret;exact⟨rfl,rfl⟩
def Eb (m x:Nat):Nat:=if x<m then x else 0
theorem V8 {m x:Nat}(h:0<m):Eb m x<m:=by unfold Eb;split<;>omega
theorem M9 {m x:Nat}(h:x<m):Eb m x=x:=by unfold Eb;rw[if_pos h]
theorem Tr {m:Nat}{tt:Nat->Option Nat}{p:Nat->Bool}{op:List Nat}(hop:op=(List.range m).filter p)(hmx:∀i x,tt i=some x->x<9223372036854775807)(hm:0<m):
  (insertionSort (ltOf fun x y=>Ed (D7 (tt (Eb m x))) (D7 (tt (Eb m y)))) op.toArray 0 op.toArray.size).toList=D9 (Cz tt) p m:=by
 have a0:(ltOf fun x y=>Ed (D7 (tt (Eb m x))) (D7 (tt (Eb m y))))=fun i j=>decide (D7 (tt (Eb m i))<D7 (tt (Eb m j))):=by
  funext x y
  unfold ltOf
  have:=Aec (D7 (tt (Eb m x))) (D7 (tt (Eb m y)))
  by_cases h:D7 (tt (Eb m x))<D7 (tt (Eb m y))
  ·rw[decide_eq_true h,decide_eq_true (this.2 h)]
  ·rw[decide_eq_false h,decide_eq_false (fun h'=>h (this.1 h'))]
 rw[a0]
 have hr:∀i j,decide (D7 (tt (Eb m i))<D7 (tt (Eb m j)))=match tt (Eb m i),tt (Eb m j)with|some x,some y=>decide (x<y)|some _,none=>true|none,_=>false:=by
  intro i j
  cases hi:tt (Eb m i)with
  |none=>
   cases hj:tt (Eb m j)with
   |none=>rfl
   |some y=>
    have:=hmx _ _ hj
    show decide ((9223372036854775807:Int)<(y:Int))=false;exact decide_eq_false (by omega)
  |some x=>
   have hx:=hmx _ _ hi
   cases hj:tt (Eb m j)with
   |none=>
    show decide ((x:Int)<(9223372036854775807:Int))=true;exact decide_eq_true (by omega)
   |some y=>
    show decide ((x:Int)<(y:Int))=decide (x<y);by_cases h:x<y
    ·rw[decide_eq_true h,decide_eq_true (by omega)]
    ·rw[decide_eq_false h,decide_eq_false (by omega)]
 have h:=Tc (t:=fun i=>tt (Eb m i)) (rk:=fun i=>D7 (tt (Eb m i))) hr (p:=p) (m:=m) (d:=op.toArray) hop;rw[h];refine Jp (Ca tt) p m ?_ fun i=>by rw[Em (Ca _)]
 have hs:=Gk (Ca fun i=>tt (Eb m i)) p m;refine hs.imp_of_mem fun{a b} ha hb hab=> ?_
 rw[Em (Ca _)]at ha hb;unfold Cz at hab ⊢;simp only[M9 ha.1,M9 hb.1]at hab;exact hab
theorem Dv.put {w:World}{base g cap:Nat}{op:List Nat}{enc:Nat->Value}{q:Nat}{d:Array Nat}(h:Dv w base g cap op)(hd:d.size=op.length)(he:∀x∈d.toList,enc x= .int .i64 (x:Int)):
  Dv ((putRow enc w g 0 d).drewN q) base g cap d.toList:=by
 obtain⟨hb,a3,a0,cur,hg,a5,ht⟩:=h.block;have a2:cap<=9223372036854775807:=a0;refine⟨by simp,Or.inr ⟨g,cap,putCells enc 0 d cur,by simp,hb, ?_,by simp;omega,a0,by unfold putCells;simp;omega, ?_⟩⟩
 ·show(putRow enc w g 0 d).heap[g]? =_;unfold putRow mapBlock;simp only;rw[Array.getElem?_modify,if_pos rfl,hg];rfl
 ·rw[Nat.mul_one];apply List.ext_getElem?;intro j;rw[List.getElem?_take,List.getElem?_map];have a4:d.toList.length=d.size:=by simp
  by_cases hj:j<d.size
  ·rw[if_pos (by simpa using hj)];have a1:j<cur.size:=by omega
   unfold putCells;rw[Array.getElem?_toList,Array.getElem?_mapIdx,Array.getElem?_eq_getElem a1,Option.map_some,if_pos ⟨Nat.zero_le _,by omega⟩,Nat.sub_zero,getElem!_pos d j hj];rw[Array.getElem?_toList,Array.getElem?_eq_getElem hj,Option.map_some,he _ (by simp)]
  ·rw[if_neg (by simpa using hj),Array.getElem?_toList,Array.getElem?_eq_none (by omega)];rfl
theorem X7 {enc:Nat->Value}(w:World)(g q:Nat)(d:Array Nat):Ag (fun k=>k=g) w ((putRow enc w g 0 d).drewN q):=by
 have h:=Hw (enc:=enc) w g q d #[];rwa[sortWorld_none]at h
theorem Aed (op:List Nat)(base g cap m tg tb:Nat)(tt:Nat->Option Nat)(p:Nat->Bool)(hop:op=(List.range m).filter p)(hmx:∀i x,tt i=some x->x<9223372036854775807)(hm:0<m)(h64:m<=64)
  (w:World) (hO:Dv w base g cap op) (hT:Hi w tg tb m tt) (h1:tg≠g) (h2:tb≠g):
  Calls Tryz.prog 185 #[.slice (some ⟨g,0,none⟩) op.length cap, .int .i64 0, .int .i64 (op.length:Int), .func (.func 142) #[] #[.pointer (some ⟨tg,0,none⟩)]] w fun e w'=>
   e= .returned (.tuple #[])/\Dv w' base g cap (D9 (Cz tt) p m)/\(D9 (Cz tt) p m).length=op.length/\Ag (fun k=>k=g) w w':=by
 obtain⟨hb,a5,a7,cur,hg,a6,ht⟩:=hO.block;have a3:∀x∈op,x<m:=fun x hx=>by rw[hop]at hx;exact List.mem_range.1 (List.mem_filter.1 hx).1
 have a4:op.length<=m:=by rw[hop];exact Nat.le_trans (List.length_filter_le _ _) (by simp)
 have hH:Holds (fun x:Nat=>Value.int .i64 (Eb m x:Nat)) w g 0 op.toArray:=Kv hg fun j x hx=>by
  have a1:op[j]? =some x:=by simpa using hx
  rw[M9 (a3 x (List.mem_of_getElem? a1))];exact Kw ht j x a1
 have a0:=Any.insertionSortCmpFunc_one Tryz.insI (fun x:Nat=>Value.int .i64 (Eb m x:Nat)) (fun _=>rfl) (fun x y=>Ed (D7 (tt (Eb m x))) (D7 (tt (Eb m y)))) 142 #[.pointer (some ⟨tg,0,none⟩)] g 0 cap 0 op.toArray.size op.toArray w
  (enters_of Tryz.func142 (by kernel_rfl) rfl) (fun mm os dk _ x y=> ?hcmp) hH (Nat.zero_le _) rr (by simp;omega)
 case hcmp=>
  have hK:=Hw (enc:=fun x:Nat=>Value.int .i64 (Eb m x:Nat)) w g mm dk os;refine(X6 (Eb m x) (Eb m y) m tg tb tt (V8 hm) (V8 hm) _ (hT.keep hK h1 h2)).mono ?_;rintro e w' ⟨e1,e2⟩;exact⟨e1,1,e2⟩
 rw[show op.toArray.size=op.length from by simp]at a0;refine Calls.mono a0 ?_;rintro e w' ⟨rfl,q,rfl⟩;have hs:=Tr (tt:=tt) hop hmx hm;have a2:(D9 (Cz tt) p m).length=op.length:=by rw[G3 (Ca tt),hop]
 rw[show op.toArray.size=op.length from by simp]at hs;generalize insertionSort (ltOf fun x y=>Ed (D7 (tt (Eb m x))) (D7 (tt (Eb m y)))) op.toArray 0 op.length=d at hs ⊢
 refine⟨rfl, ?_,a2,X7 w g q d⟩;rw[←hs];refine hO.put (by rw[←a2,←hs];simp) fun x hx=> ?_
 rw[hs,Em (Ca tt)]at hx;rw[M9 hx.1]
end Go.Proofs.YtaglfmlgbcmakaaGreatDoor
namespace Go.Proofs.YtaglfmlgbcmakaaGreatDoor
open Go.RowKit Go.Shelf
theorem Abe (op:List Nat)(base g cap m tg tb:Nat)(tt:Nat->Option Nat)(p:Nat->Bool)(hop:op=(List.range m).filter p)(hmx:∀i x,tt i=some x->x<9223372036854775807)(hm:0<m)(h64:m<=19)
  (w:World) (hO:Dv w base g cap op) (hT:Hi w tg tb m tt) (h1:tg≠g) (h2:tb≠g):
  Calls Tryz.prog 141 #[.slice (some ⟨g,0,none⟩) op.length cap, .func (.func 142) #[] #[.pointer (some ⟨tg,0,none⟩)]] w fun e w'=>
   e= .returned (.tuple #[])/\Dv w' base g cap (D9 (Cz tt) p m)/\(D9 (Cz tt) p m).length=op.length/\Ag (fun k=>k=g) w w':=by
 have HI:=hI (Aed op base g cap m tg tb tt p hop hmx hm (by omega) w hO hT h1 h2);have a0:op.length<=m:=by rw[hop];exact Nat.le_trans (List.length_filter_le _ _) (by simp)
 obtain⟨n,hn⟩:∃n,n=op.length:=⟨_,rfl⟩;rw[←hn]at HI a0 ⊢;have a3:n<=19:=by omega
 clear hop hmx hm h64 hO hT a0 hn h1 h2
 have a1:Calls Tryz.prog 171 #[.slice (some ⟨g,0,none⟩) n cap, .int .i64 (n:Int), .func (.func 142) #[] #[.pointer (some ⟨tg,0,none⟩)]] w fun e w'=>
   e= .returned (.tuple #[])/\Dv w' base g cap (D9 (Cz tt) p m)/\(D9 (Cz tt) p m).length=n/\Ag (fun k=>k=g) w w':=by
  go_enter Tryz.func171,Tryz.ntmps171;go_wp2_with fail;refine wp_loop_rounds 1 ?_;rw[rounds_succ];go_wp2_with fail;refine HI.out.mono ?_;rintro e w1 ⟨rfl,h1,h2,h3⟩;have H1:=hI h1;have H2:=hI h2;have H3:=hI h3;clear h1 h2 h3;go_wp2_with fail;refine wp_loop_rounds 1 ?_;rw[rounds_succ];go_wp2_with fail
  go_end0
  exact⟨rfl,H1.out,H2.out,H3.out⟩
 have a2:=hI a1;clear a1 HI;go_enter Tryz.func141,Tryz.ntmps141;go_wp2_with fail;refine a2.out.mono ?_;rintro e w1 ⟨rfl,h1,h2,h3⟩;have H1:=hI h1;have H2:=hI h2;have H3:=hI h3;clear h1 h2 h3;go_wp2_with fail
 go_end0
 exact⟨rfl,H1.out,H2.out,H3.out⟩
theorem X8 (tg:Nat)(fv:Value)(hf:fv= .func (.func 142) #[] #[.pointer (some ⟨tg,0,none⟩)])(w:World):
  Calls Tryz.prog 141 #[.slice none 0 0,fv] w fun e w'=>e= .returned (.tuple #[])/\w'=w:=by
 subst hf
 have hi:Calls Tryz.prog 185 #[.slice none 0 0, .int .i64 0, .int .i64 0, .func (.func 142) #[] #[.pointer (some ⟨tg,0,none⟩)]] w fun e w'=>e= .returned (.tuple #[])/\w'=w:=by
  go_enter Tryz.func185,Tryz.ntmps185;go_wp2_with fail;refine wp_loop_rounds 1 ?_;rw[rounds_succ];go_wp2_with fail
  go_end0
  exact⟨rfl,rfl⟩
 have HI:=hI hi
 have a0:Calls Tryz.prog 171 #[.slice none 0 0, .int .i64 0, .func (.func 142) #[] #[.pointer (some ⟨tg,0,none⟩)]] w fun e w'=>e= .returned (.tuple #[])/\w'=w:=by
  go_enter Tryz.func171,Tryz.ntmps171;go_wp2_with fail;refine wp_loop_rounds 1 ?_;rw[rounds_succ];go_wp2_with fail;refine HI.out.mono ?_;rintro e w1 ⟨rfl,rfl⟩;go_wp2_with fail;refine wp_loop_rounds 1 ?_;rw[rounds_succ];go_wp2_with fail
  go_end0
  exact⟨rfl,rfl⟩
 have a1:=hI a0;go_enter Tryz.func141,Tryz.ntmps141;go_wp2_with fail;refine a1.out.mono ?_;rintro e w1 ⟨rfl,rfl⟩;go_wp2_with fail
 go_end0
 exact⟨rfl,rfl⟩
end Go.Proofs.YtaglfmlgbcmakaaGreatDoor
namespace Go.Proofs.YtaglfmlgbcmakaaGreatDoor
open Go.RowKit Go.Shelf
attribute [local go_sem] Oper.semAt_some
def Ve (w:World)(g B j:Nat)(tt:Nat->Option Nat):Prop:=∃v,w.heap[g]? =some (.cells #[v] 192 (0,0))/\w.ownsRow B 123 1 v j ((List.range j).map fun i=>Value.int .i64 (Bx (tt i)))
theorem Ve.below {w w':World}{g B j:Nat}{tt:Nat->Option Nat}(h:Ve w g B j tt)(hb:Below w.heap.size w w'):Ve w' g B j tt:=by
 obtain⟨v,h1,h2⟩:=h;exact⟨v,(hb.block g (lt_of_block h1)).trans h1,Be h2 fun k e=>hb.block k (h2.lt k e).2⟩
theorem Bz {w w':World}{b:Nat}(h:w'.heap[b]? =w.heap[b]?)(o:Nat):w'.cell? ⟨b,o,none⟩=w.cell? ⟨b,o,none⟩:=by simp[World.cell?,h]
theorem Mb {w:World}{B B':Nat}{t t':TypeId}{v v':Value}{n n':Nat}{xs xs':List Value}(h:w.ownsRow B t 1 v n xs)(h':w.ownsRow B' t' 1 v' n' xs')(hn:t≠t'):∀k,v.ownBlock=some k->v'.ownBlock≠some k:=by
 intro k hk a0;rcases h.2 with⟨rfl,_⟩|⟨g,cap,cur,rfl,_,hg,_⟩
 ·cases hk
 ·rcases h'.2 with⟨rfl,_⟩|⟨g',cap',cur',rfl,_,a1,_⟩
  ·cases a0
  ·obtain rfl:g=k:=Option.some.inj hk;obtain rfl:g'=g:=Option.some.inj a0;rw[hg]at a1;injection a1 with e
   injection e with _ e _
   exact hn e
theorem Ee.block {w w':World}{B:Nat}{v:Value}{l:List Int}(h:Ee w B v l)(hs:w.heap.size<=w'.heap.size)(hb:∀k,v.ownBlock=some k->w'.heap[k]? =w.heap[k]?):Ee w' B v l:=⟨Be h.1 hb,Nat.le_trans h.2 hs⟩
theorem Vf {w:World}{B:Nat}{t:TypeId}{v:Value}{n j:Nat}{xs:List Value}{x:Value}(h:w.ownsRow B t 1 v n xs)(hx:xs[j]? =some x):∃tb cap,v= .slice (some ⟨tb,0,none⟩) n cap/\w.cell? ⟨tb,j,none⟩=some x/\B<=tb/\tb<w.heap.size∧∃cur,w.heap[tb]? =some (.cells cur t (0,0))/\n<=cap/\cap<=maxLen/\cur.size=cap/\cur.toList.take n=xs:=by
 rcases h.2 with⟨rfl,rfl⟩|⟨g,cap,cur,rfl,hb,hg,h1,h2,h3,h4⟩
 ·have:=h.1;rw[Nat.zero_mul]at this
  rw[List.length_eq_zero_iff.1 this]at hx;cases hx
 ·refine⟨g,cap,rfl, ?_,hb,lt_of_block hg,cur,hg,h1,h2,by omega,by rw[Nat.mul_one]at h4;exact h4⟩;refine Aa hg ?_;rw[←h4,List.getElem?_take]at hx;split at hx
  ·simpa using hx
  ·cases hx
theorem Rn:(Tryz.prog.info? 123).map (fun i=>(i.zero,i.size,i.bytes))=some (some (.int .i64 0),1,8):=by kernel_rfl
theorem Xu (mm lr b1 b2 b3 b4 bn:Nat)(hmm:1<=mm)(mb n:Nat)(rs:List Bh)(A:Option Addr)(m c:Nat)(ys:List Cs)(a:Nat)(now:Int)(J:Nat->(Nat->Prop)->World->Prop)(T0:Nat->Prop)(W:World)
  (hlt:∀s T W',J s T W'→∀k,T k->k<W'.heap.size)
  (hst:∀s T W' W'',J s T W'->Ag (fun k=>W.heap.size<=k∧¬T k) W' W''->J s T W'')
  (hy:∀i T W' k,(Jd n rs (Af ys) a now)[i]? =some k->J i T W'->YieldAt Fence.wide (mm-1) Tryz.prog lr #[.int .i64 (k:Int)] W' (fun e W''=>
   e= .returned (.bool true)∧∃T',J (i+1) T' W''/\Ag T W' W''∧∀k,T' k->T k\/W'.heap.size<=k))
  (h0:J 0 T0 W) (c1:W.cell? ⟨b1,0,none⟩=some (.slice A m c)) (c2:W.cell? ⟨b2,0,none⟩=some (.pointer (some ⟨mb,0,none⟩))) (c3:W.cell? ⟨b3,0,none⟩=some (.int .i64 (a:Int)))
  (c4:W.cell? ⟨b4,0,none⟩=some (.func (.func 103) #[] #[.pointer (some ⟨bn,0,none⟩)])) (c5:W.heap[bn]? =some (.cells #[.int .i64 now] 2 (0,0)))
  (hb1:b1<W.heap.size) (hb2:b2<W.heap.size) (hb3:b3<W.heap.size) (hb4:b4<W.heap.size)
  (hmap:Cl W mb n rs) (hys:Ci W A m c ys) (hone:∀y∈ys,Ev n y.d=0) (han:a<n) (hm19:m<=19):
  CallsIn Fence.wide mm Tryz.prog 140 #[.func (.yield lr) #[] #[], .pointer (some ⟨b1,0,none⟩), .pointer (some ⟨b2,0,none⟩), .pointer (some ⟨b3,0,none⟩), .pointer (some ⟨b4,0,none⟩)] W fun e W'=>
   (∃v,e= .returned v)∧∃T,J (Jd n rs (Af ys) a now).length T W':=by
 have j6:=hlt _ _ _ h0;have t0:=hys.max;have s0:=hI hlt;have m8:=hI hst;have HY:=hI hy;have H0:=hI h0;have HM:=hI hmap;have g2:=hI hys;have g3:=hI hone;have p8:=hI j6;have C1:=hI c1;have C2:=hI c2;have C3:=hI c3;have C4:=hI c4;have C5:=hI c5;have g9:Hid ((Af ys).length=m):=by show _=_;rw[Af,List.length_map];exact hys.len
 obtain⟨tt,k8⟩:∃tt,tt=tAt n rs (Af ys) a:=⟨_,rfl⟩;obtain⟨P,hP⟩:∃P:Nat->Bool,P=fun i=>G0 now (tt i):=⟨_,rfl⟩
 have f6:=hI k8;have HP:=hI hP;clear hlt hst hy h0 hmap hys hone j6 c1 c2 c3 c4 c5 k8 hP;refine callsIn_of_wp Tryz.func140 rfl trivial ?_;simp only[Tryz.ntmps140,List.size_toArray,List.length_cons,List.length_nil,Nat.reduceAdd,Nat.reduceSub,Array.replicate_succ,Array.replicate_zero,List.push_toArray,List.append_toArray,List.nil_append,List.cons_append];have k1:(W.alloc (.cells #[.slice none 0 0] 192)).cell? ⟨b1,0,none⟩=some (.slice A m c):=by first|exact(cell_old_at hb1).trans C1.out|exact(Below.alloc (Below.refl _ W) rr _).cell (p:=⟨b1,0,none⟩) hb1 |>.trans C1.out
 gi_wp2_with fail
 clear k1;have g5:(W.alloc (.cells #[.slice none 0 0] 192)).heap[W.heap.size]? =some (.cells #[.slice none 0 0] 192 (0,0)):=Ah rfl;have m1:Below W.heap.size W (W.alloc (.cells #[.slice none 0 0] 192)):=(Below.refl _ W).alloc rr _;have o4:(W.alloc (.cells #[.slice none 0 0] 192)).heap.size=W.heap.size+1:=by simp
 obtain⟨g,hg⟩:∃g,g=W.heap.size:=⟨_,rfl⟩;rw[←hg]at g5 ⊢;obtain⟨B,hB⟩:∃B,B=(W.alloc (.cells #[.slice none 0 0] 192)).heap.size:=⟨_,rfl⟩;have r5:g<B:=by omega
 have s3:W.heap.size<=g:=by omega
 have j3:Hid (Ee (W.alloc (.cells #[.slice none 0 0] 192)) B (.slice none 0 0) []):=Ee.nil (by omega);have m6:Hid (Ve (W.alloc (.cells #[.slice none 0 0] 192)) g B 0 tt):=⟨_,g5,World.ownsRow_nil _ _ _ _⟩;have o1:=hI m1;generalize(W.alloc (.cells #[.slice none 0 0] 192))=W0 at*;have r3:g<=W.heap.size:=by omega
 clear g5 m1 o4 hg hB
 gi_loopw [7,14] (fun s7 i wr=>∃j:Nat,j<=m/\i= .int .i64 (j:Int)/\Hid (Ee wr B s7 (((List.range j).filter P).map fun(a:Nat)=>(a:Int)))/\Hid (Ve wr g B j tt)/\Hid (Below W.heap.size W wr)/\Hid ((List.range j).filter P=[]->s7= .slice none 0 0)) (fun _ i _=>m-(intOf i).toNat)
 case atStart=>exact⟨0,Nat.zero_le _,rfl,j3.out,m6.out,o1.out,fun _=>rfl⟩
 case round=>
  obtain⟨j,hj,rfl,HN,HI,HB,HE⟩:=hrel;clear j3 m6 o1;by_cases hlt:j<m
  ·have s2:(j:Int)<(m:Int):=by omega
   obtain⟨x,hx⟩:=(g2.out.below HB.out).get hlt;obtain⟨yb,yo,hA,t1,f5,k0,k1,k2,k3,k4⟩:=(g2.out.below HB.out).at_ hx;subst hA;have j4:(Af ys)[j]? =some x.d:=by rw[Af,List.getElem?_map,hx];rfl
   have i3:Hid (tt j=Hn n rs x.d a):=by show _=_;rw[f6.out];unfold tAt;rw[j4];rfl
   have H1:Hid (Ev n x.d=0):=g3.out x (List.mem_of_getElem? hx);have i7:=hI f5;clear hx j4 f5;obtain⟨⟨law,ps,T,S,fin⟩,Aw,nw,cw⟩:=x;simp only at k0 k1 k2 k3 k4
   gi_wp2_with fail
   clear k0 k1 k2 k3 k4;have kx:(wr.alloc (.cells #[.int .i64 law, .slice Aw nw cw, .int .i64 T, .int .i64 S, .int .i64 fin] 38)).heap[wr.heap.size]? =some (.cells #[.int .i64 law, .slice Aw nw cw, .int .i64 T, .int .i64 S, .int .i64 fin] 38 (0,0)):=Ah rfl;have kb:Below wr.heap.size wr (wr.alloc (.cells #[.int .i64 law, .slice Aw nw cw, .int .i64 T, .int .i64 S, .int .i64 fin] 38)):=(Below.refl _ wr).alloc rr _;obtain⟨X,hX⟩:∃X,X=wr.heap.size:=⟨_,rfl⟩;have p0:wr.heap.size<=X:=by omega
   rw[←hX]at kx ⊢;clear hX;generalize wr.alloc (.cells #[.int .i64 law, .slice Aw nw cw, .int .i64 T, .int .i64 S, .int .i64 fin] 38)=V at*;have d0:Below W.heap.size W V:=HB.out.trans (kb.mono HB.out.size);have s6:=HN.out.2;obtain⟨vt,a4,a2⟩:=HI.out;have f4:=hI (Mb HN.out.1 a2 (by decide));have d4:=hI a2.lt;have a6:=(kb.block g (lt_of_block a4)).trans a4;have b7:=Be a2 fun k e=>kb.block k (a2.lt k e).2
   have r4:=lt_of_block a4;clear a4 a2;have k0:=cell_of_one a6;have k1:=Aa (j:=0) kx rfl;have k2:=Aa (j:=1) kx rfl;have k3:=Aa (j:=2) kx rfl;have k4:=Aa (j:=3) kx rfl;have k5:=Aa (j:=4) kx rfl;have k6:=(d0.cell (p:=⟨b2,0,none⟩) hb2).trans C2.out;have k7:=(d0.cell (p:=⟨b3,0,none⟩) hb3).trans C3.out
   have a7:Hid (∀W':World,(∀k,k<V.heap.size->vt.ownBlock≠some k->W'.heap[k]? =V.heap[k]?)->W'.cell? ⟨g,0,none⟩=some vt/\W'.cell? ⟨X,0,none⟩=some (.int .i64 law)/\W'.cell? ⟨X,1,none⟩=some (.slice Aw nw cw)/\W'.cell? ⟨X,2,none⟩=some (.int .i64 T)/\W'.cell? ⟨X,3,none⟩=some (.int .i64 S)/\W'.cell? ⟨X,4,none⟩=some (.int .i64 fin)/\W'.cell? ⟨b2,0,none⟩=some (.pointer (some ⟨mb,0,none⟩))/\W'.cell? ⟨b3,0,none⟩=some (.int .i64 (a:Int))):=by
    intro W' hk;have b0:∀k,k<B\/wr.heap.size<=k->vt.ownBlock≠some k:=fun k h e=>by have:=d4.out k e;omega
    have f0:=(hk X (lt_of_block kx) (b0 X (.inr p0))).trans kx
    exact⟨cell_of_one ((hk g (lt_of_block a6) (b0 g (.inl r5))).trans a6),Aa (j:=0) f0 rfl,Aa (j:=1) f0 rfl,Aa (j:=2) f0 rfl,Aa (j:=3) f0 rfl,Aa (j:=4) f0 rfl,
     (Bz (hk b2 (by have:=d0.size;omega) (b0 b2 (.inl (by omega)))) 0).trans k6,(Bz (hk b3 (by have:=d0.size;omega) (b0 b3 (.inl (by omega)))) 0).trans k7⟩
   have b5:=hI a6;have g0:=hI b7;have KX:=hI kx;have KB:=hI kb;have b9:=hI d0;have s9:=kb.size;clear a6 b7 kx kb d0;refine Gc (fun W'=>W'.cell? ⟨g,0,none⟩=some vt/\W'.cell? ⟨X,0,none⟩=some (.int .i64 law)/\W'.cell? ⟨X,1,none⟩=some (.slice Aw nw cw)/\W'.cell? ⟨X,2,none⟩=some (.int .i64 T)/\W'.cell? ⟨X,3,none⟩=some (.int .i64 S)/\W'.cell? ⟨X,4,none⟩=some (.int .i64 fin)/\W'.cell? ⟨b2,0,none⟩=some (.pointer (some ⟨mb,0,none⟩))/\W'.cell? ⟨b3,0,none⟩=some (.int .i64 (a:Int))) (by kernel_rfl) ⟨k0,k1,k2,k3,k4,k5,k6,k7⟩ (fun hHeld=> ?_);clear k0 k1 k2 k3 k4 k5 k6 k7
   (refine' Ab 0 rfl ?_;(try simp only[Act.put,nY,nX]));(refine' Ab 1 rfl ?_;(try simp only[Act.put,nY,nX]));(refine' Ab 2 rfl ?_;(try simp only[Act.put,nY,nX]));(refine' Ab 3 rfl ?_;(try simp only[Act.put,nY,nX]))
   clear hHeld
   (refine Aeu 4 rfl (fun K' hK'=> ?_);simp only[nY];go_simp)
   have a5:Below V.heap.size V V.drew:=(Below.refl _ _).drew;have m4:=b9.out.trans (a5.mono b9.out.size);refine(Aes mb n rs ⟨⟨law,ps,T,S,fin⟩,Aw,nw,cw⟩ a V.drew (HM.out.below m4) ((i7.out.below KB.out).below a5) H1.out han).mono ?_;obtain⟨t,ht⟩:∃t,t=Bx (Hn n rs ⟨law,ps,T,S,fin⟩ a):=⟨_,rfl⟩;have p6:Hid (Bx (tt j)=t):=by show _=_;rw[i3.out,ht]
   rw[←ht];rintro e w1 ⟨rfl,d9⟩;have a8:=hI (a5.trans d9);refine hK' _ _ ⟨.inr (a7.out w1 fun k h _=>a8.out.block k h),fun _=> ?_⟩
   clear hK' K' d9 a5 m4 ht i3 H1 i7
   (try simp only[Act.put,nY,nX])
   (refine Aeu 5 rfl (fun K' hK'=> ?_);simp only[nY];go_simp)
   have z1:(w1.alloc (.cells #[.int .i64 t] 123)).heap[w1.heap.size]? =some (.cells #[.int .i64 t] 123 (0,0)):=Ah rfl;have a1:Below V.heap.size V (w1.alloc (.cells #[.int .i64 t] 123)):=a8.out.alloc a8.out.size _;have o7:(w1.alloc (.cells #[.int .i64 t] 123)).ownsRow B 123 1 vt j _:=Be g0.out fun k e=>a1.block k (g0.out.lt k e).2
   have p5:=a8.out.size;refine hK' _ _ ⟨.inr (a7.out _ fun k h _=>a1.block k h),fun _=> ?_⟩
   clear hK' K'
   (try simp only[Act.put,nY,nX])
   refine Aeu 6 rfl (fun K' hK'=> ?_);rw[if_pos (by rfl)];refine Bs (.tmp 19) (.tmp 24) 192 rfl B 123 (.int .i64 0) 1 8 Tryz.underlying192 Rn rfl (by decide) vt j ((List.range j).map fun i=>Value.int .i64 (Bx (tt i))) (by rfl) o7 ⟨w1.heap.size,0,none⟩ 1 1 [.int .i64 t] (by rfl) rfl (Es z1) (by intro u hu;simp at hu;subst hu;rfl) (by unfold maxLen;omega) (by omega) (by simp;omega) ?_;intro vt' X2 a0 b6 _ f5;have m9:=a7.out X2 fun k h1 h2=>(b6.block k (by have:=a1.size;omega) (fun e=>h2 e.symm)).trans (a1.block k h1)
   have f7:X2.frozen? ⟨g,0,none⟩=false:=free_of_one (((b6.block g (by have:=a1.size;have:=lt_of_block b5.out;omega) (fun e=>by have:=d4.out g e.symm;omega)).trans (a1.block g (lt_of_block b5.out))).trans b5.out);have x7:=((b6.block g (by have:=a1.size;have:=lt_of_block b5.out;omega) (fun e=>by have:=d4.out g e.symm;omega)).trans (a1.block g (lt_of_block b5.out))).trans b5.out;obtain⟨At,kt,rfl⟩:=Bg a0;have c7:=cell_of_one x7;refine hK' _ _ ⟨.inr m9,fun _=> ?_⟩
   clear hK' K'
   have g7:Hid (Ve (X2.setCell ⟨g,0,none⟩ (.slice At (j+1) kt)) g B (j+1) tt):=by
    refine⟨_,one_setCell x7, ?_⟩;rw[List.range_succ,List.map_append];show World.ownsRow _ _ _ _ _ _ (List.map (fun i=>Value.int .i64 (Bx (tt i))) (List.range j)++[.int .i64 (Bx (tt j))]);rw[p6.out];exact ownsRow_setCell_other a0 (fun e=>by have:=(a0.lt _ e).1;simp at this;omega) _
   have i8:Hid (Ee (X2.setCell ⟨g,0,none⟩ (.slice At (j+1) kt)) B u7 (((List.range j).filter P).map fun(a:Nat)=>(a:Int))):=by
    refine Ee.block HN.out (by have:=b6.size;have:=a1.size;simp at*;omega) fun k e=> ?_
    have q8:=(HN.out.1.lt k e);have p2:k<V.heap.size:=by omega
    exact(Below.heap_setCell _ _ _ _ (by show k≠g;omega)).trans (((b6.block k (by have:=a1.size;omega) (fun e'=>f4.out k e e'.symm)).trans (a1.block k p2)).trans (KB.out.block k q8.2))
   have d6:Hid (Below W.heap.size W (X2.setCell ⟨g,0,none⟩ (.slice At (j+1) kt))):=
    ((b9.out.trans (a1.mono b9.out.size)).grown b6 (by have:=a1.size;have:=b9.out.size;omega) fun k e=>by have:=(d4.out k e).1;omega).setCell (p:=⟨g,0,none⟩) (by show W.heap.size<=g;omega) _
   clear a0 b6 f5 m9 x7 o7 z1 a1 a7 HN HI HB f4 d4 b9 b5 g0 KX KB a8
   (try simp only[Act.put,nY,nX])
   (refine Aeu 7 rfl (fun K' hK'=> ?_);simp only[nY];go_simp)
   refine hK' _ _ ⟨.inl (by kernel_rfl),fun _=>Bc (by kernel_rfl) ?_ _⟩
   clear hK' K' f7 c7;generalize X2.setCell ⟨g,0,none⟩ (.slice At (j+1) kt)=Y at*;gi_wp2;obtain⟨v5,i4,j5⟩:=g7.out;obtain⟨tb,ct,rfl,ct5,p4,q6,cur5,d5,q7, -⟩:=Vf j5 (j:=j) (x:= .int .i64 (Bx (tt j))) (by rw[List.getElem?_map,List.getElem?_range (by omega)];rfl);have kg:=cell_of_one i4;have k4:=(d6.out.cell (p:=⟨b4,0,none⟩) hb4).trans C4.out;have KN:=hI ((d6.out.block bn (lt_of_block C5.out)).trans C5.out);have s8:(j:Int)<((j:Int)+1):=by omega
   clear i4 j5 d5;obtain⟨o,ho⟩:∃o,o=tt j:=⟨_,rfl⟩;rw[←ho]at ct5;have j7:=hI ho;clear ho;have f2:=hI fun w=>Acy o now bn w
   have d3:Hid (P j=G0 now o):=by show _=_;rw[HP.out,j7.out]
   obtain⟨ar,m5⟩:∃ar,ar=Bx o:=⟨_,rfl⟩;rw[←m5]at ct5 f2;obtain⟨pj,i1⟩:∃pj,pj=G0 now o:=⟨_,rfl⟩;rw[←i1]at f2 d3;clear m5 i1;refine Gc (fun W'=>W'.cell? ⟨b4,0,none⟩=some (.func (.func 103) #[] #[.pointer (some ⟨bn,0,none⟩)])/\W'.cell? ⟨g,0,none⟩=some (.slice (some ⟨tb,0,none⟩) (j+1) ct)/\W'.cell? ⟨tb,j,none⟩=some (.int .i64 ar)) (by kernel_rfl) ⟨k4,kg,ct5⟩ (fun hHeld=> ?_);clear k4 kg ct5
   (refine' Ab 0 rfl ?_;(try simp only[Act.put,nY,nX]));(refine' Ab 1 rfl ?_;(try simp only[Act.put,nY,nX]));(refine' Ab 2 rfl ?_;(try simp only[Act.put,nY,nX]));(refine' Ab 3 rfl ?_;(try simp only[Act.put,nY,nX]));(refine' Ab 4 rfl ?_;(try simp only[Act.put,nY,nX]))
   (refine Aeu 5 rfl (fun K' hK'=> ?_);simp only[nY];go_simp)
   refine(f2.out Y.drew KN.out).mono ?_;rintro e w5 ⟨rfl,rfl⟩;refine hK' _ _ ⟨.inl (by kernel_rfl),fun _=>Bc (by kernel_rfl) ?_ _⟩
   clear hK' K' hHeld;have a5:Below Y.heap.size Y Y.drew:=(Below.refl _ _).drew;have f8:=hI (i8.out.below a5);have o0:=hI (g7.out.below a5);have i0:=hI (d6.out.trans (a5.mono d6.out.size))
   have f3:Hid ((List.range (j+1)).filter P=(List.range j).filter P++(if P j=true then [j]else [])):=by
    show _=_;rw[List.range_succ,List.filter_append];congr 1;by_cases h:P j=true
    ·rw[if_pos h,List.filter_cons_of_pos h];rfl
    ·rw[if_neg h,List.filter_cons_of_neg h];rfl
   clear a5 i8 g7 d6 KN f2 j7 q6;generalize Y.drew=Z at*
   cases pj with
   |false=>
    gi_wp2
    go_roundw
    case rel=>exact⟨j+1,by omega,by simp,by show Ee _ _ _ _;rw[f3.out,d3.out];simpa using f8.out,o0.out,i0.out,fun h=>HE.out (by rw[f3.out,d3.out]at h;simpa using h)⟩
    case measure=>simp[intOf];omega
   |true=>
    obtain⟨A8,c8,p9⟩:=f8.out.form;subst p9;obtain⟨L,hL⟩:∃L,L=((List.range j).filter P).map fun(a:Nat)=>(a:Int):=⟨_,rfl⟩
    have s1:L.length<=j:=by rw[hL,List.length_map];exact Nat.le_trans (List.length_filter_le _ _) (by simp)
    rw[←hL]at f8 ⊢;have HL:=hI hL;clear hL;have f1:Below Z.heap.size Z (Z.alloc (.cells #[.int .i64 (j:Int)] 3)):=(Below.refl _ Z).alloc rr _;have b8:=hI (f8.out.below f1);have q2:=hI (o0.out.below f1);have o5:=b8.out.2;have r7:Hid (Below W.heap.size W (Z.alloc (.cells #[.int .i64 (j:Int)] 3))):=i0.out.trans (f1.mono i0.out.size);have f4:=hI (fun k (hk:(Value.slice A8 L.length c8).ownBlock=some k)=>(b8.out.1.lt k hk));obtain⟨vz,i2,f9⟩:=q2.out;have r2:=hI (Mb f9 b8.out.1 (by decide));have o2:=hI i2;have k9:=hI f9;clear f1 i2 f9
    gi_wp2_with (gi_at_builtin;refine F4 rfl (.tmp 32) (.tmp 34) 36 rfl B 3 (.int .i64 0) 1 8 Tryz.underlying36 Fg rfl (by decide) (.slice A8 L.length c8) L.length (L.map (Value.int .i64)) rfl b8.out.1 ⟨Z.heap.size,0,none⟩ 1 1 [.int .i64 (j:Int)] rfl rfl (cell_one_new _ _ _) (by simp[Value.oneCell']) (by unfold maxLen;omega) (by omega) o5 ?hc)
    case hc=>
     intro v' w4 a0 hg _;have r0:=hI (b8.out.push a0 hg);have r8:Hid (Below W.heap.size W w4):=b8.out.grow r7.out (by omega) hg;have q1:Hid (Ve w4 g B (j+1) tt):=⟨vz,(hg.block g (lt_of_block o2.out) (fun e=>by have:=(f4.out g e.symm).1;omega)).trans o2.out,Be k9.out fun k e=>hg.block k (k9.out.lt k e).2 (fun e'=>r2.out k e e'.symm)⟩
     clear a0 hg;gi_wp2
     go_roundw
     case rel=>exact⟨j+1,by omega,by simp,by show Ee _ _ _ _;rw[f3.out,d3.out,if_pos rfl,List.map_append,←HL.out];exact r0.out,q1.out,r8.out,fun h=>by rw[f3.out,d3.out]at h;simp at h⟩
     case measure=>simp[intOf];omega
  ·obtain rfl:j=m:=by omega
   obtain⟨op,d1⟩:∃op,op=(List.range j).filter P:=⟨_,rfl⟩;obtain⟨LL,d7⟩:∃LL,LL=Jd n rs (Af ys) a now:=⟨_,rfl⟩;have a3:LL=D9 (Cz tt) P j:=by rw[d7,f6.out,HP.out,f6.out,←g9.out];rfl
   have g1:Hid (LL.length=op.length):=by show _=_;rw[a3,G3 (Ca tt),d1]
   have a9:∀i x,tt i=some x->x<9223372036854775807:=fun i x hx=>by
    rw[f6.out]at hx;obtain⟨y,hy,hz⟩:=Aa7 hx;obtain⟨y',o6,rfl⟩:=List.mem_map.1 (List.mem_of_getElem? hy);have h1:=(Xs hz).2.1;have h2:=(g2.out.2 y' o6).u.fin.2;omega
   rw[←d1]at HN HE;rw[←d7]at HY;have g4:=hI d7;by_cases he:op=[]
   ·have hu:=HE.out he;subst hu;have q5:Hid (LL.length=0):=by show _=_;rw[g1.out,he];rfl
    have p3:=hI (X8 g _ rfl);clear HE HN HI d7 a3 g1 he d1 a9;gi_wp2;refine⟨trivial, ?_⟩;refine(callsIn_wide.2 (p3.out wr)).mono ?_;rintro e w1 ⟨rfl,rfl⟩;gi_wp2
    gi_loopw [42] (fun i wq=>i= .int .i64 0/\wq=w1) (fun _ _=>0)
    case atStart=>exact⟨rfl,rfl⟩
    case round=>
     obtain⟨rfl,rfl⟩:=hrel;gi_wp2
     go_end0
     exact⟨⟨_,rfl⟩,T0,by rw[←g4.out,q5.out];exact m8.out _ _ _ _ H0.out (Au HB.out)⟩
   ·have m7:0<j:=by
     rcases Nat.eq_zero_or_pos j with e|e
     ·subst e;exact absurd d1 (by simpa using he)
     ·exact e
    obtain⟨v0,i9⟩:∃v0:Value,v0= .int .i64 ((op[0]'(List.length_pos_iff.2 he):Nat):Int):=⟨_,rfl⟩;obtain⟨gf,cf,hu, -,s5,o9, -⟩:=Vf HN.out.1 (j:=0) (x:=v0) (by rw[List.getElem?_map,List.getElem?_map,List.getElem?_eq_getElem (List.length_pos_iff.2 he),i9];rfl);subst hu;have g6:(op.map fun(a:Nat)=>(a:Int)).length=op.length:=List.length_map _;have o3:Dv wr B gf cf op:=by have:=HN.out.1;rw[List.map_map,g6]at this;exact this
    rw[g6]at HN ⊢;obtain⟨vt,a6,b7⟩:=HI.out;obtain⟨tb,ct,rfl, -,p4,p7,cur,d8,q4,r1,g8,j8⟩:=Vf b7 (j:=0) (x:= .int .i64 (Bx (tt 0))) (by rw[List.getElem?_map,List.getElem?_range m7];rfl)
    have j9:Hi wr g tb j tt:=⟨ct,a6,cur,d8,fun k hk=>by
     have h1:=congrArg (fun l:List Value=>l[k]?) j8;simp only[List.getElem?_take,if_pos hk,List.getElem?_map,List.getElem?_range hk,Option.map_some]at h1;simpa using h1⟩
    have b0:tb≠gf:=fun e=>by
     have:=Mb HN.out.1 b7 (by decide) gf rfl
     exact this (by rw[e];rfl)
    have a7:=hI (Abe op B gf cf j g tb tt P d1 a9 m7 hm19 wr o3 j9 (by omega) b0);rw[←a3]at a7;have o8:=HB.out.size;clear i9 g6 o3 a6 b7 d8 q4 r1 g8 j8 j9 b0 a3 d1 a9 HE HN HI he p7;gi_wp2;refine⟨trivial, ?_⟩;refine(callsIn_wide.2 a7.out).mono ?_;rintro e w1 ⟨rfl,h1,h2,h3⟩;have d2:LL.length=op.length:=h2;rw[←d2];have a8:Hid (Below W.heap.size W w1):=HB.out.trans (h3.to_below (fun k hk=>by omega) o8);have m3:Hid (J 0 T0 w1):=m8.out _ _ _ _ H0.out (Au a8.out);have i6:=hI h1;have q3:gf<w1.heap.size:=Nat.lt_of_lt_of_le o9 h3.size;have j0:Hid (¬T0 gf):=fun h=>by have:=p8.out _ h;omega
    have i5:LL.length<=19:=by
     have h1:=G3 (Ca (tAt n rs (Af ys) a)) (fun i=>G0 now (tAt n rs (Af ys) a i)) (Af ys).length;have h2:=List.length_filter_le (fun i=>G0 now (tAt n rs (Af ys) a i)) (List.range (Af ys).length);rw[List.length_range,g9.out]at h2;rw[g4.out];unfold Jd;rw[h1,g9.out];omega
    clear h1 h2 h3 HB g1 d2 a7 d7;gi_wp2
    gi_loopw [11,42] (fun _ i wr=>∃(k:Nat) (T:Nat->Prop),i= .int .i64 (k:Int)/\k<=LL.length/\Hid (J k T wr)/\Hid (Dv wr B gf cf LL)/\Hid (¬T gf)) (fun _ i _=>LL.length-(intOf i).toNat)
    case atStart=>exact⟨0,T0,rfl,Nat.zero_le _,m3.out,i6.out,j0.out⟩
    case round=>
     obtain⟨k,T,rfl,hk,HJ,HO,HT⟩:=hrel;clear a8 m3 i6 j0;by_cases hkl:k<LL.length
     ·have r9:(k:Int)<(LL.length:Int):=by omega
      obtain⟨_,_,_,cur,hg,g8,ht⟩:=HO.out.block;have hx:LL[k]? =some (LL[k]'hkl):=List.getElem?_eq_getElem hkl;obtain⟨x,m2⟩:∃x,x=LL[k]'hkl:=⟨_,rfl⟩;rw[←m2]at hx;have cx:wr.cell? ⟨gf,k,none⟩=some (.int .i64 (x:Int)):=Aa hg (Kw ht k x hx);have q0:=lt_of_block hg;obtain⟨fn,tmps,assign,body,s4,hR⟩:=HY.out k T wr x hx HJ.out;have HR:=hI hR;clear hR m2 hx hg g8 ht;gi_wp2;refine HR.out.mono ?_;rintro e W3 ⟨rfl,T',m0,j1,j2⟩;have r6:=hI m0;have q9:=hI (HO.out.heap (j1.block gf q0 HT.out));have p1:Hid (¬T' gf):=fun h=>(j2 _ h).elim HT.out (by omega)
      clear m0 j1 j2;gi_wp2
      go_roundw
      case rel=>exact⟨k+1,T',by go_num,by omega,r6.out,q9.out,p1.out⟩
      case measure=>simp[intOf];omega
     ·obtain rfl:k=LL.length:=by omega
      gi_wp2
      go_end0
      exact⟨⟨_,rfl⟩,T,by rw[←g4.out];exact HJ.out⟩
end Go.Proofs.YtaglfmlgbcmakaaGreatDoor
