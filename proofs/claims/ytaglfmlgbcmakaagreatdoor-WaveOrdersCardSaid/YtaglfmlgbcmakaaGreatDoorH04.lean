/-
  A region whose operations come in any order, many of them laying memory: what each operation's value is, said of each alone, whatever has come before.
  wave.Crossed.
  The closures of wave.line and wave.arrived; slices.SortStableFunc over few waves.
  slices.SortStableFunc over at most 19 waves that have arrived.
  slices.SortStableFunc over at most 19 waves that have arrived: the whole call.
  The iterator of wave.arrived.
-/
import Derived.Shelf.SlSortCmp.Insertion
import Derived.Test.YtaglfmlgbcmakaaGreatDoorH03
set_option linter.all false
set_option maxRecDepth 100000
set_option maxHeartbeats 4000000
namespace Go.Proofs.YtaglfmlgbcmakaaGreatDoor
open Go.RowKit Go.Shelf
def Lc (p:Nat->Bool):Nat->Nat
 |0=>0
 |n+1=>Lc p n+(if p n=true then 1 else 0)
theorem S8 {p q:Nat->Bool}:∀n,(∀j,j<n->q j=p j)->Lc q n=Lc p n
 |0,_=>rfl
 |n+1,h=>by unfold Lc;rw[S8 n fun j hj=>h j (by omega),h n (by omega)]
theorem Vs {p q:Nat->Bool}{i:Nat}(hp:p i=false)(hq:q i=true)(h:∀j,j≠i->q j=p j):∀n,i<n->Lc q n=Lc p n+1
 |0,hi=>by omega
 |n+1,hi=>by
  unfold Lc;by_cases e:i=n
  ·subst e;rw[S8 (p:=p) i fun j hj=>h j (by omega),hp,hq];simp
  ·rw[Vs hp hq h n (by omega),h n (Ne.symm e)];omega
theorem Zt (p:Nat->Bool):∀n,Lc p n<=n
 |0=>rr
 |n+1=>by unfold Lc;have:=Zt p n;split<;>omega
theorem Vt {p:Nat->Bool}:∀n,Lc p n=n→∀i,i<n->p i=true
 |0,_,i,hi=>by omega
 |n+1,h,i,hi=>by
  unfold Lc at h;have h1:=Zt p n;by_cases hn:p n=true
  ·rw[if_pos hn]at h;rcases Nat.lt_or_ge i n with h2|h2
   ·exact Vt n (by omega) i h2
   ·obtain rfl:i=n:=by omega
    exact hn
  ·rw[if_neg hn]at h;omega
section
variable {P:Program}{ops:Array Oper}{Q:Exit->Act->World->Prop}{md:Region.Mode}
def D5 (ops:Array Oper)(i:Nat):Option Tmp:=(ops[i]?).bind (·.dst)
def Ex (ops:Array Oper)(vs:Nat->Value):Nat->Array Value->Array Value
 |0,t=>t
 |n+1,t=>match D5 ops n with|some d=>(Ex ops vs n t).setIfInBounds d (vs n)|none=>Ex ops vs n t
theorem Gy (vs:Nat->Value):∀(n:Nat) (t:Array Value),(Ex ops vs n t).size=t.size
 |0,_=>rfl
 |n+1,t=>by
  unfold Ex;split
  ·rw[Array.size_setIfInBounds,Gy vs n t]
  ·exact Gy vs n t
theorem Ls (vs:Nat->Value){s:Nat}:∀(n:Nat) (t:Array Value),(∀i,i<n->D5 ops i≠some s)->(Ex ops vs n t)[s]? =t[s]?
 |0,_,_=>rfl
 |n+1,t,h=>by
  unfold Ex;have ih:=Ls vs n t fun i hi=>h i (by omega)
  split
  ·rename_i d hd
   have a0:d≠s:=fun e=>h n (by omega) (by rw[hd,e])
   rw[Array.getElem?_setIfInBounds_ne a0];exact ih
  ·exact ih
theorem S9 (hd:∀i j s,D5 ops i=some s->D5 ops j=some s->i=j)(vs:Nat->Value){i s:Nat}(hi:D5 ops i=some s):∀(n:Nat) (t:Array Value),i<n->s<t.size->(Ex ops vs n t)[s]? =some (vs i)
 |0,_,h,_=>by omega
 |n+1,t,h,hs=>by
  unfold Ex;by_cases e:i=n
  ·subst e;rw[hi];show((Ex ops vs i t).setIfInBounds s (vs i))[s]? =_;rw[Array.getElem?_setIfInBounds_self_of_lt (by rw[Gy];exact hs)]
  ·have ih:=S9 hd vs hi n t (by omega) hs;split
   ·rename_i d hdn
    have a0:d≠s:=fun e'=>e (hd i n s hi (by rw[hdn,e']))
    rw[Array.getElem?_setIfInBounds_ne a0];exact ih
   ·exact ih
structure Ab1 (ops:Array Oper)(Φ:Nat->Value->World->Prop)(a0:Act)(w0:World)(vs:Nat->Value)(listed:Array Bool)(a:Act)(w:World):Prop where
 df:a.defers=a0.defers
 sz:a.tmps.size=a0.tmps.size
 ls:listed.size=ops.size
 other:∀s,(∀i,listed.getD i false=true->D5 ops i≠some s)->a.tmps[s]? =a0.tmps[s]?
 at_:∀i s,listed.getD i false=true->D5 ops i=some s->s<a0.tmps.size->a.tmps[s]? =some (vs i)
 is:∀i,listed.getD i false=true->Φ i (vs i) w
 bw:Below w0.heap.size w0 w
def Ab2 (md:Region.Mode)(ops:Array Oper)(Φ:Nat->Value->World->Prop)(a0:Act)(o:Oper)(a:Act)(w:World):Prop:=
 (∀j,(∃e∈o.after,Region.binds md e=true/\e.on=j)→∃v,Φ j v w∧∀s,D5 ops j=some s->s<a0.tmps.size->a.tmps[s]? =some v)∧
 (∀s,(∀j,D5 ops j≠some s)->a.tmps[s]? =a0.tmps[s]?)/\a.tmps.size=a0.tmps.size
theorem Kx {listed:Array Bool}{i:Nat}(h:i<listed.size)(d:Bool):(listed.setIfInBounds i true).getD i d=true:=by
 simp[Array.getD_eq_getD_getElem?,h]
theorem Afb (Φ:Nat->Value->World->Prop)(a0:Act)(w0:World)
  (hmono:∀j v w w',Φ j v w->Below w.heap.size w w'->Φ j v w')
  (hd:∀i j s,D5 ops i=some s->D5 ops j=some s->i=j)
  (hg:∀(i:Nat) (o:Oper),ops[i]? =some o->o.guard=none)
  (hac:∀(i:Nat) (o:Oper),ops[i]? =some o→∀e∈o.after,Region.binds md e=true->e.on<i)
  (H:∀(i:Nat) (o:Oper),ops[i]? =some o→∀a w,Ab2 md ops Φ a0 o a w->Below w0.heap.size w0 w->o.wp P a w (fun a' w'=>∃v,a'=a.put o.dst v/\Φ i v w'/\Below w.heap.size w w') Q)
  (hQ:∀vs w',(∀i,i<ops.size->Φ i (vs i) w')->Below w0.heap.size w0 w'->Q .normal {a0 with tmps:=Ex ops vs ops.size a0.tmps} w'):
  ∀fuel vs listed a w,Ab1 ops Φ a0 w0 vs listed a w->Lc (fun i=>listed.getD i false) ops.size+fuel=ops.size->wpAny P md ops Q fuel listed a w:=by
 -- all are listed: the end
 have a5:∀vs listed a w,Ab1 ops Φ a0 w0 vs listed a w->(∀i,i<ops.size->listed.getD i false=true)->Q .normal a w:=by
  intro vs listed a w hI a1;have h:=hQ vs w (fun i hi=>hI.is i (a1 i hi)) hI.bw
  have ha:a={a0 with tmps:=Ex ops vs ops.size a0.tmps}:=by
   obtain⟨t,df⟩:=a;have h1:df=a0.defers:=hI.df
   have h2:t=Ex ops vs ops.size a0.tmps:=by
    apply Array.ext_getElem?;intro s;by_cases hs:∃i,i<ops.size/\D5 ops i=some s
    ·obtain⟨i,hi,b0⟩:=hs;rcases Nat.lt_or_ge s a0.tmps.size with a2|a8
     ·rw[S9 hd vs b0 _ _ hi a2];exact hI.at_ i s (a1 i hi) b0 a2
     ·have h3:(Ex ops vs ops.size a0.tmps)[s]? =none:=Array.getElem?_eq_none (by rw[Gy];exact a8);have h4:t.size=a0.tmps.size:=hI.sz;rw[h3,Array.getElem?_eq_none (by omega)]
    ·rw[Ls vs _ _ fun i hi e=>hs ⟨i,hi,e⟩]
     refine hI.other s fun i hl e=>hs ⟨i, ?_,e⟩
     rcases Nat.lt_or_ge i ops.size with a2|a8
     ·exact a2
     ·unfold D5 at e;rw[Array.getElem?_eq_none a8]at e;cases e
   rw[h1,h2]
  rw[ha];exact h
 -- nothing is ready: all are listed
 have a3:∀listed:Array Bool,listed.size=ops.size->Region.ready md ops listed=[]→∀i,i<ops.size->listed.getD i false=true:=by
  intro listed b3 h0 i
  induction i using Nat.strongRecOn with
  |_ i ih=>
   intro hi
   cases hb:listed.getD i false with
   |true=>rfl
   |false=>
    exfalso;have ho:ops[i]? =some ops[i]:=Array.getElem?_eq_getElem hi
    have hm:i∈Region.ready md ops listed:=mem_ready.2 ⟨by
     have a4:i<listed.size:=by omega
     simp only[Array.getD_eq_getD_getElem?,Array.getElem?_eq_getElem a4,Option.getD_some]at hb ⊢
     exact hb,ops[i],ho,fun e he hbnd_=>by
      have h1:=hac i _ ho e he hbnd_;exact ih e.on h1 (by omega)⟩
    rw[h0]at hm;cases hm
 intro fuel
 induction fuel with
 |zero=>
  intro vs listed a w hI hc;have a1:=Vt ops.size (by omega:Lc (fun i=>listed.getD i false) ops.size=ops.size);refine⟨?_,a5 vs listed a w hI a1⟩;apply List.eq_nil_iff_forall_not_mem.2;intro i hi;obtain⟨h1,o,ho,_⟩:=mem_ready.1 hi;have a2:i<ops.size:=(Array.getElem?_eq_some_iff.1 ho).1;have h2:=a1 i a2;have a4:i<listed.size:=by rw[hI.ls];exact a2
  simp only[Array.getD_eq_getD_getElem?,Array.getElem?_eq_getElem a4,Option.getD_some]at h1 h2;rw[h1]at h2;cases h2
 |succ fuel ih=>
  intro vs listed a w hI hc;refine⟨fun h0=>a5 vs listed a w hI (a3 listed hI.ls h0),fun i hi=> ?_⟩
  obtain⟨h1,o,ho,a7⟩:=mem_ready.1 hi;have a2:i<ops.size:=(Array.getElem?_eq_some_iff.1 ho).1;have a4:i<listed.size:=by rw[hI.ls];exact a2
  have b1:listed.getD i false=false:=by
   simp only[Array.getD_eq_getD_getElem?,Array.getElem?_eq_getElem a4,Option.getD_some]at h1 ⊢;exact h1
  have hw:Region.wanted o (yielded ops a.tmps)=true:=by unfold Region.wanted;rw[hg i o ho]
  unfold wpOp;rw[ho];simp only[hw,if_true];left;refine Oper.wp_mono (fun a' w' h=> ?_) (H i o ho a w ⟨fun j ⟨e,he,hb,hej⟩=> ?_,fun s hs=>hI.other s fun j _=>hs j,hI.sz⟩ hI.bw)
  ·obtain⟨v,rfl,hv,hb⟩:=h;have a9:D5 ops i=o.dst:=by unfold D5;rw[ho];rfl
   have a6:∀j,j≠i->(listed.setIfInBounds i true).getD j false=listed.getD j false:=fun j hj=>getD_set_ne false (Ne.symm hj)
   refine ih (fun j=>if j=i then v else vs j) _ _ _ ⟨?_, ?_,by rw[Array.size_setIfInBounds];exact hI.ls,fun s hs=> ?_,fun j s hj hjs hlt'=> ?_,fun j hj=> ?_,hI.bw.trans (hb.mono hI.bw.size)⟩ ?_
   ·unfold Act.put;split<;>exact hI.df
   ·unfold Act.put;split
    ·show(a.tmps.setIfInBounds _ v).size=_;rw[Array.size_setIfInBounds];exact hI.sz
    ·exact hI.sz
   ·have b2:o.dst≠some s:=by rw[←a9];exact hs i (Kx a4 false)
    have h2:=hI.other s fun j hj=>by
     by_cases e:j=i
     ·subst e;rw[b1]at hj;cases hj
     ·exact hs j (by rw[a6 j e];exact hj)
    unfold Act.put;split
    ·rename_i d hdd
     have:d≠s:=fun e=>b2 (by rw[hdd,e])
     show(a.tmps.setIfInBounds d v)[s]? =_;rw[Array.getElem?_setIfInBounds_ne this];exact h2
    ·exact h2
   ·by_cases e:j=i
    ·subst e;rw[a9]at hjs;simp only[if_true];unfold Act.put;rw[hjs];show(a.tmps.setIfInBounds s v)[s]? =some v;rw[Array.getElem?_setIfInBounds_self_of_lt (by rw[hI.sz];exact hlt')]
    ·rw[a6 j e]at hj;have h2:=hI.at_ j s hj hjs hlt';simp only[if_neg e];unfold Act.put;split
     ·rename_i d hdd
      have:d≠s:=fun e'=>e (hd j i s hjs (by rw[a9,hdd,e']))
      show(a.tmps.setIfInBounds d v)[s]? =_;rw[Array.getElem?_setIfInBounds_ne this];exact h2
     ·exact h2
   ·by_cases e:j=i
    ·subst e;simp only[if_true];exact hv
    ·rw[a6 j e]at hj;simp only[if_neg e];exact hmono j _ _ _ (hI.is j hj) hb
   ·rw[Vs (p:=fun j=>listed.getD j false) b1 (Kx a4 false) (fun j hj=>a6 j hj) ops.size a2];omega
  ·have hl:listed.getD j false=true:=by rw[←hej];exact a7 e he hb
   exact⟨vs j,hI.is j hl,fun s hs hlt'=>hI.at_ j s hl hs hlt'⟩
def Agu (ops:Array Oper):Bool:=(List.range ops.size).all fun i=>match ops[i]? with
 |none=>false
 |some o=>o.guard.isNone && (o.after.all fun e=>(!Region.binds .any e||decide (e.on<i))) && (o.dst.isNone||(List.range i).all fun j=> !(D5 ops j==o.dst))
theorem Yb (h:Agu ops=true):(∀i j s,D5 ops i=some s->D5 ops j=some s->i=j)/\(∀(i:Nat) (o:Oper),ops[i]? =some o->o.guard=none)∧∀(i:Nat) (o:Oper),ops[i]? =some o→∀e∈o.after,Region.binds .any e=true->e.on<i:=by
 have key:∀(i:Nat) (o:Oper),ops[i]? =some o->o.guard=none/\(∀e∈o.after,Region.binds .any e=true->e.on<i)/\(∀s,o.dst=some s→∀j,j<i->D5 ops j≠some s):=fun i o ho=>by
  have hi:i<ops.size:=(Array.getElem?_eq_some_iff.1 ho).1;have h1:=List.all_eq_true.1 h i (List.mem_range.2 hi);rw[ho]at h1;simp only[Bool.and_eq_true,Bool.or_eq_true]at h1;obtain⟨⟨h2,h3⟩,h4⟩:=h1;refine⟨by simpa using h2,fun e he hbd=>by have h:=Array.all_eq_true'.1 h3 e he;rw[hbd]at h;simpa using h,fun s hs j hj e=> ?_⟩
  rcases h4 with h4|h4
  ·rw[hs]at h4;cases h4
  ·have h5:=List.all_eq_true.1 h4 j (List.mem_range.2 hj);rw[e,hs]at h5;simp at h5
 refine⟨fun i j s hi hj=> ?_,fun i o ho=>(key i o ho).1,fun i o ho=>(key i o ho).2.1⟩
 have hw:∀i s,D5 ops i=some s→∃o,ops[i]? =some o/\o.dst=some s:=fun i s h=>by
  unfold D5 at h
  cases ho:ops[i]? with
  |none=>rw[ho]at h;cases h
  |some o=>rw[ho]at h;exact⟨o,rfl,h⟩
 obtain⟨oi,h1,h2⟩:=hw i s hi;obtain⟨oj,h3,h4⟩:=hw j s hj;rcases Nat.lt_trichotomy i j with h5|h5|h5
 ·exact absurd hi ((key j oj h3).2.2 s h4 i h5)
 ·exact h5
 ·exact absurd hj ((key i oi h1).2.2 s h2 j h5)
theorem Aai (n m:Nat):Lc (fun i=>(Array.replicate m false).getD i false) n=0:=by
 induction n with
 |zero=>rfl
 |succ n ih=>
  unfold Lc;rw[ih]
  have:(Array.replicate m false).getD n false=false:=by
   simp only[Array.getD_eq_getD_getElem?,Array.getElem?_replicate];split<;>rfl
  rw[this];rfl
theorem Yc {id:Nat}(hm:P.follows .mixedOrders=true)(hok:Agu ops=true)(Φ:Nat->Value->World->Prop)(a0:Act)(w:World)
  (hmono:∀j v w w',Φ j v w->Below w.heap.size w w'->Φ j v w')
  (H:∀(i:Nat) (o:Oper),ops[i]? =some o→∀a w',Ab2 .any ops Φ a0 o a w'->Below w.heap.size w w'->o.wp P a w' (fun a' w''=>∃v,a'=a.put o.dst v/\Φ i v w''/\Below w'.heap.size w' w'') Q)
  (hQ:∀vs w',(∀i,i<ops.size->Φ i (vs i) w')->Below w.heap.size w w'->Q .normal {a0 with tmps:=Ex ops vs ops.size a0.tmps} w'):(Code.region id ops true).wp P Q a0 w:=by
 obtain⟨hd,hg,a2⟩:=Yb hok;have a1:Below w.heap.size w w.drew:=(Below.refl _ _).drew;refine wp_region_any hm (Afb Φ a0 w.drew hmono hd hg a2 (fun i o ho a w' ha hb=>H i o ho a w' ha (a1.trans hb)) (fun vs w' h hb=>hQ vs w' h (a1.trans hb)) ops.size (fun _=>undef) _ a0 w.drew ⟨rfl,rfl,by simp,fun s _=>rfl,fun i s h=> ?_,fun i h=> ?_,Below.refl _ _⟩ (by rw[Aai];omega))
 ·simp only[Array.getD_eq_getD_getElem?,Array.getElem?_replicate]at h;split at h<;>cases h
 ·simp only[Array.getD_eq_getD_getElem?,Array.getElem?_replicate]at h;split at h<;>cases h
end
theorem Zs (x y:Int):(Dg x y<0)↔x<y:=by unfold Dg;by_cases h1:x<y<;>by_cases h2:y<x<;>simp[h1,h2]
theorem X9 (x y:Int):Dg x y=0↔x=y:=by unfold Dg;by_cases h1:x<y<;>by_cases h2:y<x<;>simp[h1,h2]<;>omega
theorem Ae7 {a b:Int}(h:a=0):orQ a b=b:=by unfold orQ;simp[h]
theorem Ae8 {a b:Int}(h:a≠0):orQ a b=a:=by unfold orQ;simp[h]
theorem Ae9 {t:Nat->Option Nat}{i j x:Nat}(hx:t i=some x)(hlt:x<9223372036854775807):decide (orQ (Dg (Di (t i)) (Di (t j))) (Dg (i:Int) (j:Int))<0)=Ci t i j:=by
 unfold Ci;rw[hx]
 cases hy:t j with
 |none=>
  have hc:Dg (Di (some x)) (Di none)= -1:=by unfold Dg;rw[if_pos (by show(x:Int)<9223372036854775807;omega)]
  rw[Ae8 (by rw[hc];decide),hc];simp
 |some y=>
  show decide (orQ (Dg (x:Int) (y:Int)) (Dg (i:Int) (j:Int))<0)=(decide (x<y)||(decide (x=y) && decide (i<j)));by_cases e:x=y
  ·subst e;rw[Ae7 ((X9 _ _).2 rfl)];have h2:=Zs (i:Int) (j:Int);by_cases h3:i<j
   ·have h4:Dg (i:Int) (j:Int)<0:=h2.2 (by omega);simp[h3,h4]
   ·have h4:¬Dg (i:Int) (j:Int)<0:=fun h=>h3 (by have:=h2.1 h;omega)
    simp[h3];omega
  ·rw[Ae8 (fun h=>e (by have:=(X9 _ _).1 h;omega))];have h2:=Zs (x:Int) (y:Int);by_cases h3:x<y
   ·have h4:Dg (x:Int) (y:Int)<0:=h2.2 (by omega);simp[h3,h4]
   ·have h4:¬Dg (x:Int) (y:Int)<0:=fun h=>h3 (by have:=h2.1 h;omega)
    simp[h3,e];omega
theorem Uk (b n:Nat)(rs:List Bd)(Ax:Option Addr)(nx cx:Nat)(xs:List Bn)(A:Option Addr)(m c:Nat)(ys:List Cr)(ki kj:Int)(w:World)(hm:Cq w b n rs)(hx:B2 w Ax nx cx xs)(hy:Ct w A m c ys)(hT:B9 w):
  Calls Tryz.prog 33 #[.pointer (some ⟨b,0,none⟩), .slice Ax nx cx, .slice A m c, .int .i64 ki, .int .i64 kj] w (Gv w (Ei n rs (Am xs) (Af ys) ki kj)):=by
 obtain⟨An,cn,mb,Ar,cr,Aq,cq,c0,c1,c2,c3⟩:=hm.cells;have i7:=hm.lt;have g4:=hm.few;have j1:=hy.max;have HM:=hI hm;have HX:=hI hx;have HY:=hI hy;have HT:=hI hT;have HC:=hI c0;have i5:Hid ((Af ys).length=m):=by show _=_;rw[Af,List.length_map];exact hy.len
 clear hm hx hy hT c0 c1 c2 c3;go_enter Tryz.func33,Tryz.ntmps33;go_wp2_with fail;refine(Gu b n rs Ax nx cx xs A m c ys w HM.out HX.out HY.out HT.out).mono ?_;obtain⟨er,d2⟩:∃er,er=C9 n (Am xs) (Af ys):=⟨_,rfl⟩;rw[←d2];rintro e w1 ⟨rfl,f9⟩;have a6:=hI f9;have b4:=hI d2;clear f9 d2;by_cases he0:er=0
 ·have j0:(er !=0)=false:=by simp[he0]
  have b7:Hid (C9 n (Am xs) (Af ys)=0):=by show _=_;rw[←b4.out,he0]
  have HV:Hid (Ei n rs (Am xs) (Af ys) ki kj=if min ki kj<0\/(m:Int)<=max ki kj then(3,[])else(0,((List.range n).filter (Dx n rs (Af ys) ki.toNat kj.toNat)).map fun(a:Nat)=>(a:Int))):=by
   show _=_;unfold Ei;rw[if_neg (by rw[b7.out];simp),i5.out]
  clear b4 he0;by_cases hk0:min ki kj<0
  ·have b0:Hid (Ei n rs (Am xs) (Af ys) ki kj=(3,[])):=by show _=_;rw[HV.out,if_pos (.inl hk0)]
   go_wp2
   go_ret2
   exact Gv.bad b0.out a6.out
  ·by_cases hkm:(m:Int)<=max ki kj
   ·have b0:Hid (Ei n rs (Am xs) (Af ys) ki kj=(3,[])):=by show _=_;rw[HV.out,if_pos (.inr hkm)]
    go_wp2
    go_ret2
    exact Gv.bad b0.out a6.out
   ·obtain⟨i,rfl⟩:∃k:Nat,ki=k:=⟨ki.toNat,by omega⟩;obtain⟨k,rfl⟩:∃k:Nat,kj=k:=⟨kj.toNat,by omega⟩;have b9:k<m:=by omega
    have d8:i<m:=by omega
    obtain⟨P,hP⟩:∃P:Nat->Bool,P=Dx n rs (Af ys) i k:=⟨_,rfl⟩
    have b0:Hid (Ei n rs (Am xs) (Af ys) i k=(0,((List.range n).filter P).map fun(a:Nat)=>(a:Int))):=by
     show _=_;rw[HV.out,if_neg (by omega),hP];rfl
    have HP:=hI hP;clear HV hP;have i3:(k:Int)<(m:Int):=by omega
    have i8:(i:Int)<(m:Int):=by omega
    go_wp2_with fail;refine(Gp b An n cn w1 ((a6.out.cell (p:=⟨b,0,none⟩) i7).trans HC.out)).mono ?_;rintro e w2 ⟨rfl,f4⟩;have d7:=hI (a6.out.trans (f4.mono a6.out.size));clear f4 a6;have d6:=d7.out.size;obtain⟨B,hB⟩:∃B,B=w2.heap.size:=⟨_,rfl⟩;have i0:w.heap.size<=B:=by omega
    have f8:Hid (D9 w2 B (.slice none 0 0) []):=D9.nil (by omega);clear hB d6;go_wp2_with fail
    go_loopw [13,40] (fun s13 i wr=>∃j:Nat,j<=n/\i= .int .i64 (j:Int)/\Hid (D9 wr B s13 (((List.range j).filter P).map fun(a:Nat)=>(a:Int)))/\Hid (Below w.heap.size w wr)) (fun _ i _=>n-(intOf i).toNat)
    case atStart=>exact⟨0,Nat.zero_le _,rfl,f8.out,d7.out⟩
    case round=>
     obtain⟨j,hj,rfl,HN,HB⟩:=hrel;clear f8 d7;by_cases hlt:j<n
     ·have j2:(j:Int)<(n:Int):=by omega
      obtain⟨x,hx⟩:=(HY.out.below HB.out).get d8;obtain⟨yb,yo,hA,a2,f7,k0,k1,k2,k3,k4⟩:=(HY.out.below HB.out).at_ hx;have a5:(Af ys)[i]? =some x.d:=by rw[Af,List.getElem?_map,hx];rfl
      have g6:Hid (tAt n rs (Af ys) j i=Da n rs x.d j):=by show _=_;unfold tAt;rw[a5];rfl
      have H1:Hid (Eh n x.d=0):=((D1 b7.out).2.2.2 x.d (List.mem_of_getElem? a5)).2.2;have i9:=hI f7;clear hx a5 f7;obtain⟨x',hx⟩:=(HY.out.below HB.out).get b9;obtain⟨yb',yo',d5,d4,a9,l0,l1,l2,l3,l4⟩:=(HY.out.below HB.out).at_ hx;obtain⟨rfl,rfl⟩:yb=yb'/\yo=yo':=by rw[hA]at d5;injection d5 with h;injection h with h1 h2;exact⟨h1,h2⟩
      have a5:(Af ys)[k]? =some x'.d:=by rw[Af,List.getElem?_map,hx];rfl
      have g3:Hid (tAt n rs (Af ys) j k=Da n rs x'.d j):=by show _=_;unfold tAt;rw[a5];rfl
      have g0:Hid (Eh n x'.d=0):=((D1 b7.out).2.2.2 x'.d (List.mem_of_getElem? a5)).2.2;have d3:=hI a9;clear hx a5 a9 d5 d4;subst hA;obtain⟨⟨law,ps,T,S,fin⟩,Aw,nw,cw⟩:=x;obtain⟨⟨law',ps',T',S',fin'⟩,Aw',nw',cw'⟩:=x';simp only at k0 k1 k2 k3 k4 l0 l1 l2 l3 l4
      have b8:Hid (∀W':World,Below wr.heap.size wr W'->W'.cell? ⟨yb,yo+i*5,none⟩=some (.int .i64 law)/\W'.cell? ⟨yb,yo+i*5+1,none⟩=some (.slice Aw nw cw)/\W'.cell? ⟨yb,yo+i*5+2,none⟩=some (.int .i64 T)/\W'.cell? ⟨yb,yo+i*5+3,none⟩=some (.int .i64 S)/\W'.cell? ⟨yb,yo+i*5+4,none⟩=some (.int .i64 fin)/\W'.cell? ⟨yb,yo+k*5,none⟩=some (.int .i64 law')/\W'.cell? ⟨yb,yo+k*5+1,none⟩=some (.slice Aw' nw' cw')/\W'.cell? ⟨yb,yo+k*5+2,none⟩=some (.int .i64 T')/\W'.cell? ⟨yb,yo+k*5+3,none⟩=some (.int .i64 S')/\W'.cell? ⟨yb,yo+k*5+4,none⟩=some (.int .i64 fin')):=fun W' hb=>
       ⟨(hb.cell (p:=⟨yb,_,none⟩) a2).trans k0,(hb.cell (p:=⟨yb,_,none⟩) a2).trans k1,(hb.cell (p:=⟨yb,_,none⟩) a2).trans k2,(hb.cell (p:=⟨yb,_,none⟩) a2).trans k3,(hb.cell (p:=⟨yb,_,none⟩) a2).trans k4,
        (hb.cell (p:=⟨yb,_,none⟩) a2).trans l0,(hb.cell (p:=⟨yb,_,none⟩) a2).trans l1,(hb.cell (p:=⟨yb,_,none⟩) a2).trans l2,(hb.cell (p:=⟨yb,_,none⟩) a2).trans l3,(hb.cell (p:=⟨yb,_,none⟩) a2).trans l4⟩
      go_wp2_with fail;refine Bm (fun W'=>W'.cell? ⟨yb,yo+i*5,none⟩=some (.int .i64 law)/\W'.cell? ⟨yb,yo+i*5+1,none⟩=some (.slice Aw nw cw)/\W'.cell? ⟨yb,yo+i*5+2,none⟩=some (.int .i64 T)/\W'.cell? ⟨yb,yo+i*5+3,none⟩=some (.int .i64 S)/\W'.cell? ⟨yb,yo+i*5+4,none⟩=some (.int .i64 fin)/\W'.cell? ⟨yb,yo+k*5,none⟩=some (.int .i64 law')/\W'.cell? ⟨yb,yo+k*5+1,none⟩=some (.slice Aw' nw' cw')/\W'.cell? ⟨yb,yo+k*5+2,none⟩=some (.int .i64 T')/\W'.cell? ⟨yb,yo+k*5+3,none⟩=some (.int .i64 S')/\W'.cell? ⟨yb,yo+k*5+4,none⟩=some (.int .i64 fin')) (by kernel_rfl) ⟨k0,k1,k2,k3,k4,l0,l1,l2,l3,l4⟩ (fun hHeld=> ?_);clear k0 k1 k2 k3 k4 l0 l1 l2 l3 l4
      (refine' Ae 0 rfl ?_;(try simp only[Act.put,nY,nX]));(refine' Ae 1 rfl ?_;(try simp only[Act.put,nY,nX]));(refine' Ae 2 rfl ?_;(try simp only[Act.put,nY,nX]));(refine' Ae 3 rfl ?_;(try simp only[Act.put,nY,nX]));(refine' Ae 4 rfl ?_;(try simp only[Act.put,nY,nX]));(refine' Ae 5 rfl ?_;(try simp only[Act.put,nY,nX]));(refine' Ae 7 rfl ?_;(try simp only[Act.put,nY,nX]));(refine' Ae 8 rfl ?_;(try simp only[Act.put,nY,nX]));(refine' Ae 9 rfl ?_;(try simp only[Act.put,nY,nX]));(refine' Ae 10 rfl ?_;(try simp only[Act.put,nY,nX]));(refine' Ae 11 rfl ?_;(try simp only[Act.put,nY,nX]));(refine' Ae 12 rfl ?_;(try simp only[Act.put,nY,nX]))
      clear hHeld
      (refine Aim 6 rfl (fun K' hK'=> ?_);simp only[nY];go_simp)
      have b3:Below wr.heap.size wr wr.drew:=(Below.refl _ _).drew;refine(Ae2 b n rs ⟨⟨law,ps,T,S,fin⟩,Aw,nw,cw⟩ j wr.drew (HM.out.below (HB.out.trans (b3.mono HB.out.size))) (i9.out.below b3) H1.out hlt).mono ?_;obtain⟨t,ht⟩:∃t,t=Da n rs ⟨law,ps,T,S,fin⟩ j:=⟨_,rfl⟩;have a8:Hid (tAt n rs (Af ys) j i=t):=by show _=_;rw[g6.out,ht]
      rw[←ht];rintro e wq ⟨rfl,f3⟩;have a4:Below wr.heap.size wr wq:=b3.trans f3;have a1:=hI a4;refine hK' _ _ ⟨.inr (b8.out wq a4),fun _=> ?_⟩
      clear hK' K' f3 a4 b3 ht g6 H1
      (try simp only[Act.put,nY,nX])
      (refine Aim 13 rfl (fun K' hK'=> ?_);simp only[nY];go_simp)
      refine(Ae2 b n rs ⟨⟨law',ps',T',S',fin'⟩,Aw',nw',cw'⟩ j wq (HM.out.below (HB.out.trans (a1.out.mono HB.out.size))) (d3.out.below a1.out) g0.out hlt).mono ?_;obtain⟨u,hu⟩:∃u,u=Da n rs ⟨law',ps',T',S',fin'⟩ j:=⟨_,rfl⟩;have g1:Hid (tAt n rs (Af ys) j k=u):=by show _=_;rw[g3.out,hu]
      rw[←hu];rintro e w3 ⟨rfl,g5⟩;have b2:Below wr.heap.size wr w3:=a1.out.trans (g5.mono a1.out.size);have f2:=hI (HN.out.below b2);have b6:=hI (HB.out.trans (b2.mono HB.out.size));have a7:=b8.out w3 b2;refine hK' _ _ ⟨.inr a7,fun _=> ?_⟩
      clear hK' K' g5 b2 hu g3 g0 HN HB a1 b8
      (try simp only[Act.put,nY,nX])
      (refine Aim 14 rfl (fun K' hK'=> ?_);simp only[nY];go_simp)
      refine hK' _ _ ⟨.inr a7,fun _=> ?_⟩
      clear hK' K'
      (try simp only[Act.put,nY,nX])
      (refine Aim 15 rfl (fun K' hK'=> ?_);simp only[nY];go_simp)
      refine hK' _ _ ⟨.inl (by kernel_rfl),fun _=>Bg (by kernel_rfl) ?_ _⟩
      clear hK' K' a7;go_wp2_with fail;refine(Vr t w3).mono ?_;rintro e w4 ⟨rfl,rfl⟩;go_wp2_with fail;refine(Vr u w4).mono ?_;rintro e w5 ⟨rfl,rfl⟩;go_wp2_with fail;refine(Uz (Di t) (Di u) w5).mono ?_;rintro e w6 ⟨rfl,rfl⟩;go_wp2_with fail;refine(Ae6 (i:Int) (k:Int) w6).mono ?_;rintro e w7 ⟨rfl,rfl⟩;obtain⟨c1,d1⟩:∃c1,c1=Dg (Di t) (Di u):=⟨_,rfl⟩;obtain⟨c2,d9⟩:∃c2,c2=Dg (i:Int) (k:Int):=⟨_,rfl⟩;rw[←d1,←d9];have f5:=hI d1;have g2:=hI d9;clear d1 d9;go_wp2_with fail;refine(Ail c1 c2 w7.heap.size (w7.alloc (.cells #[.int .i64 c1, .int .i64 c2] 3)) (B7 rfl) (B7 rfl)).mono ?_;rintro e w8 ⟨rfl,rfl⟩
      have b5:Hid (P j=(t.isSome && decide (orQ c1 c2<0))):=by
       show _=_;rw[HP.out];show((tAt n rs (Af ys) j i).isSome && Ci (tAt n rs (Af ys) j) i k)=_
       cases t with
       |none=>rw[a8.out];rfl
       |some x=>
        have g9:x<9223372036854775807:=by
         obtain⟨y,hy,ha⟩:=R9 a8.out
         have:=E8 ha
         obtain⟨z,hz,i2⟩:=List.mem_map.1 (List.mem_of_getElem? hy);have hu:=((HY.out.2 z hz).u).fin;rw[i2]at hu;omega
        rw[←Ae9 (t:=tAt n rs (Af ys) j) (j:=k) a8.out g9,a8.out,g1.out,f5.out,g2.out]
      obtain⟨od,f6⟩:∃od,od=orQ c1 c2:=⟨_,rfl⟩;rw[←f6]at b5 ⊢;have a0:=hI (f2.out.below ((Below.refl _ w7).alloc rr (.cells #[.int .i64 c1, .int .i64 c2] 3)));have a3:Hid (Below w.heap.size w (w7.alloc (.cells #[.int .i64 c1, .int .i64 c2] 3))):=b6.out.alloc b6.out.size _;generalize w7.alloc (.cells #[.int .i64 c1, .int .i64 c2] 3)=w9 at*;clear f5 g2 f6 f2 b6 a8 g1;generalize Bj u=ua
      have f0:Hid ((List.range (j+1)).filter P=(List.range j).filter P++(if P j=true then [j]else [])):=by
       show _=_;rw[List.range_succ,List.filter_append];congr 1;by_cases h:P j=true
       ·rw[if_pos h,List.filter_cons_of_pos h];rfl
       ·rw[if_neg h,List.filter_cons_of_neg h];rfl
      cases t with
      |none=>
       simp only[Bj];go_wp2_with fail
       go_roundw
       case rel=>exact⟨j+1,by omega,by simp,by show D9 _ _ _ _;rw[f0.out,b5.out];simpa using a0.out,a3.out⟩
       case measure=>simp[intOf];omega
      |some t=>
       simp only[Bj];have j4:((t:Int) != -1)=true:=by simp
       by_cases hlo:od<0
       ·obtain⟨A8,c8,g8⟩:=a0.out.form;subst g8;obtain⟨L,hL⟩:∃L,L=((List.range j).filter P).map fun(a:Nat)=>(a:Int):=⟨_,rfl⟩
        have j3:L.length<=j:=by rw[hL,List.length_map];exact Nat.le_trans (List.length_filter_le _ _) (by simp)
        rw[←hL]at a0 ⊢;have HL:=hI hL;clear hL;have f1:=a0.out.below ((Below.refl _ w9).alloc rr (.cells #[.int .i64 (j:Int)] 3));have d0:=hI f1;have g7:=f1.2;have i6:Hid (Below w.heap.size w (w9.alloc (.cells #[.int .i64 (j:Int)] 3))):=a3.out.alloc a3.out.size _;clear f1;go_wp2_with(at_builtin;refine H8 rfl (.tmp 75) (.tmp 77) rfl B (.slice A8 L.length c8) L.length (L.map (Value.int .i64)) rfl d0.out.1 ⟨w9.heap.size,0,none⟩ 1 (.int .i64 (j:Int)) rfl (cell_one_new _ _ _) rfl (by omega) g7 ?hc)
        case hc=>
         intro v' wb b1 hg _;have i4:=hI (d0.out.push b1 hg);have i1:=hI (d0.out.grow i6.out i0 hg);clear b1 hg;go_wp2_with fail
         go_roundw
         case rel=>exact⟨j+1,by omega,by simp,by show D9 _ _ _ _;rw[f0.out,b5.out,if_pos (by simp[hlo]),List.map_append,←HL.out];exact i4.out,i1.out⟩
         case measure=>simp[intOf];omega
       ·go_wp2_with fail
        go_roundw
        case rel=>exact⟨j+1,by omega,by simp,by show D9 _ _ _ _;rw[f0.out,b5.out,if_neg (by simp;omega),List.append_nil];exact a0.out,a3.out⟩
        case measure=>simp[intOf];omega
     ·obtain rfl:j=n:=by omega
      go_wp2
      go_ret2
      exact Gv.own b0.out HN.out.1 HB.out
 ·have j0:(er !=0)=true:=by simpa using he0
  have HV:Hid (Ei n rs (Am xs) (Af ys) ki kj=(er,[])):=by show _=_;unfold Ei;rw[if_pos (by rw[←b4.out];exact he0),b4.out]
  go_wp2
  go_ret2
  exact Gv.bad HV.out a6.out
end Go.Proofs.YtaglfmlgbcmakaaGreatDoor
namespace Go.Proofs.YtaglfmlgbcmakaaGreatDoor
open Go.RowKit Go.Shelf Go.Sort Go.Lib
theorem Agt (o:Option Nat)(now:Int)(bn:Nat)(w:World)(h:w.heap[bn]? =some (.cells #[.int .i64 now] 2 (0,0))):
  Calls Tryz.prog 103 #[.int .i64 (Bj o), .pointer (some ⟨bn,0,none⟩)] w fun e w'=>e= .returned (.bool (E7 now o))/\w'=w:=by
 obtain⟨x,hx⟩:∃x,x=Bj o:=⟨_,rfl⟩;have HB:=hI (Aio o now w);rw[←hx]at*;clear hx;have c0:=cell_of_one h;clear h;go_enter Tryz.func103,Tryz.ntmps103;go_wp2_with fail;refine HB.out.mono ?_;rintro e w1 ⟨rfl,rfl⟩;go_wp2;go_ret;exact⟨rfl,rfl⟩
def Jq (w:World)(g tb:Nat)(m:Nat)(tt:Nat->Option Nat):Prop:=∃c,w.heap[g]? =some (.cells #[.slice (some ⟨tb,0,none⟩) m c] 192 (0,0))∧∃cur:Array Value,w.heap[tb]? =some (.cells cur 123 (0,0))∧∀j,j<m->cur[j]? =some (.int .i64 (Bj (tt j)))
theorem Jq.keep {w w':World}{g tb m:Nat}{tt:Nat->Option Nat}{S:Nat->Prop}(h:Jq w g tb m tt)(hk:Ak S w w')(h1:¬S g)(h2:¬S tb):Jq w' g tb m tt:=by
 obtain⟨c,hg,cur,ht,hc⟩:=h;exact⟨c,(hk.block g (lt_of_block hg) h1).trans hg,cur,(hk.block tb (lt_of_block ht) h2).trans ht,hc⟩
theorem Aby (i k m g tb:Nat)(tt:Nat->Option Nat)(hi:i<m)(hk:k<m)(w:World)(h:Jq w g tb m tt):
  Calls Tryz.prog 142 #[.int .i64 (i:Int), .int .i64 (k:Int), .pointer (some ⟨g,0,none⟩)] w fun e w'=>e= .returned (.int .i64 (Dg (Di (tt i)) (Di (tt k))))/\w'=w.drewN 1:=by
 obtain⟨c,hg,cur,ht,hc⟩:=h;have c0:w.cell? ⟨g,0,none⟩=some (.slice (some ⟨tb,0,none⟩) m c):=by simp[World.cell?,hg]
 have cx:w.cell? ⟨tb,i,none⟩=some (.int .i64 (Bj (tt i))):=by simp[World.cell?,ht,hc i hi]
 have cy:w.cell? ⟨tb,k,none⟩=some (.int .i64 (Bj (tt k))):=by simp[World.cell?,ht,hc k hk]
 have a7:(i:Int)<(m:Int):=by omega
 have a6:(k:Int)<(m:Int):=by omega
 have a4:=hI fun w=>Vr (tt i) w
 have a5:=hI fun w=>Vr (tt k) w
 obtain⟨ri,a2⟩:∃x,x=Di (tt i):=⟨_,rfl⟩;obtain⟨rk,a1⟩:∃x,x=Di (tt k):=⟨_,rfl⟩;obtain⟨ai,a3⟩:∃x,x=Bj (tt i):=⟨_,rfl⟩;obtain⟨ak,a0⟩:∃x,x=Bj (tt k):=⟨_,rfl⟩;rw[←a2,←a3]at a4;rw[←a1,←a0]at a5;rw[←a2,←a1];rw[←a3]at cx;rw[←a0]at cy;clear hg ht hc hi hk a2 a1 a3 a0;go_enter Tryz.func142,Tryz.ntmps142;go_wp2_with fail;refine Bm (fun W'=>W'.cell? ⟨g,0,none⟩=some (.slice (some ⟨tb,0,none⟩) m c)/\W'.cell? ⟨tb,i,none⟩=some (.int .i64 ai)/\W'.cell? ⟨tb,k,none⟩=some (.int .i64 ak)) (by kernel_rfl) ⟨c0,cx,cy⟩ (fun hHeld=> ?_)
 (refine' Ae 0 rfl ?_;(try simp only[Act.put,nY,nX]));(refine' Ae 1 rfl ?_;(try simp only[Act.put,nY,nX]));(refine' Ae 2 rfl ?_;(try simp only[Act.put,nY,nX]));(refine' Ae 3 rfl ?_;(try simp only[Act.put,nY,nX]));(refine' Ae 5 rfl ?_;(try simp only[Act.put,nY,nX]));(refine' Ae 6 rfl ?_;(try simp only[Act.put,nY,nX]));(refine' Ae 7 rfl ?_;(try simp only[Act.put,nY,nX]));(refine' Ae 8 rfl ?_;(try simp only[Act.put,nY,nX]))
 (refine Aim 4 rfl (fun K' hK'=> ?_);simp only[nY];go_simp)
 refine(a4.out _).mono ?_;rintro e w1 ⟨rfl,rfl⟩;refine hK' _ _ ⟨.inr hHeld,fun _=> ?_⟩
 clear hK' K'
 (try simp only[Act.put,nY,nX])
 (refine Aim 9 rfl (fun K' hK'=> ?_);simp only[nY];go_simp)
 refine(a5.out _).mono ?_;rintro e w1 ⟨rfl,rfl⟩;refine hK' _ _ ⟨.inr hHeld,fun _=> ?_⟩
 clear hK' K'
 (try simp only[Act.put,nY,nX])
 (refine Aim 10 rfl (fun K' hK'=> ?_);simp only[nY];go_simp)
 refine(Uz ri rk _).mono ?_;rintro e w1 ⟨rfl,rfl⟩;refine hK' _ _ ⟨.inr hHeld,fun _=> ?_⟩
 clear hK' K'
 (try simp only[Act.put,nY,nX])
 (refine Aim 11 rfl (fun K' hK'=> ?_);simp only[nY];go_simp)
 refine hK' _ _ ⟨.inl (by kernel_rfl),fun _=>Bg (by kernel_rfl) ?_ _⟩
 clear hK' K';go_wp2;go_ret;exact⟨rfl,rfl⟩
def Ep (m x:Nat):Nat:=if x<m then x else 0
theorem Aah {m x:Nat}(h:0<m):Ep m x<m:=by unfold Ep;split<;>omega
theorem Pz {m x:Nat}(h:x<m):Ep m x=x:=by unfold Ep;rw[if_pos h]
theorem Ya {m:Nat}{tt:Nat->Option Nat}{p:Nat->Bool}{op:List Nat}(hop:op=(List.range m).filter p)(hmx:∀i x,tt i=some x->x<9223372036854775807)(hm:0<m):
  (insertionSort (ltOf fun x y=>Dg (Di (tt (Ep m x))) (Di (tt (Ep m y)))) op.toArray 0 op.toArray.size).toList=D4 (Ci tt) p m:=by
 have a0:(ltOf fun x y=>Dg (Di (tt (Ep m x))) (Di (tt (Ep m y))))=fun i j=>decide (Di (tt (Ep m i))<Di (tt (Ep m j))):=by
  funext x y
  unfold ltOf
  have:=Zs (Di (tt (Ep m x))) (Di (tt (Ep m y)))
  by_cases h:Di (tt (Ep m x))<Di (tt (Ep m y))
  ·rw[decide_eq_true h,decide_eq_true (this.2 h)]
  ·rw[decide_eq_false h,decide_eq_false (fun h'=>h (this.1 h'))]
 rw[a0]
 have hr:∀i j,decide (Di (tt (Ep m i))<Di (tt (Ep m j)))=match tt (Ep m i),tt (Ep m j)with|some x,some y=>decide (x<y)|some _,none=>true|none,_=>false:=by
  intro i j
  cases hi:tt (Ep m i)with
  |none=>
   cases hj:tt (Ep m j)with
   |none=>rfl
   |some y=>
    have:=hmx _ _ hj
    show decide ((9223372036854775807:Int)<(y:Int))=false;exact decide_eq_false (by omega)
  |some x=>
   have hx:=hmx _ _ hi
   cases hj:tt (Ep m j)with
   |none=>
    show decide ((x:Int)<(9223372036854775807:Int))=true;exact decide_eq_true (by omega)
   |some y=>
    show decide ((x:Int)<(y:Int))=decide (x<y);by_cases h:x<y
    ·rw[decide_eq_true h,decide_eq_true (by omega)]
    ·rw[decide_eq_false h,decide_eq_false (by omega)]
 have h:=Xo (t:=fun i=>tt (Ep m i)) (rk:=fun i=>Di (tt (Ep m i))) hr (p:=p) (m:=m) (d:=op.toArray) hop;rw[h];refine Hi (Bx tt) p m ?_ fun i=>by rw[Dr (Bx _)]
 have hs:=Et (Bx fun i=>tt (Ep m i)) p m;refine hs.imp_of_mem fun{a b} ha hb hab=> ?_
 rw[Dr (Bx _)]at ha hb;unfold Ci at hab ⊢;simp only[Pz ha.1,Pz hb.1]at hab;exact hab
theorem D7.put {w:World}{base g cap:Nat}{op:List Nat}{enc:Nat->Value}{q:Nat}{d:Array Nat}(h:D7 w base g cap op)(hd:d.size=op.length)(he:∀x∈d.toList,enc x= .int .i64 (x:Int)):
  D7 ((putRow enc w g 0 d).drewN q) base g cap d.toList:=by
 obtain⟨hb,a5,a0,cur,hg,a4,ht⟩:=h.block;have a3:cap<=9223372036854775807:=a0;refine⟨by simp,Or.inr ⟨g,cap,putCells enc 0 d cur,by simp,hb, ?_,by simp;omega,a0,by unfold putCells;simp;omega, ?_⟩⟩
 ·show(putRow enc w g 0 d).heap[g]? =_;unfold putRow mapBlock;simp only;rw[Array.getElem?_modify,if_pos rfl,hg];rfl
 ·rw[Nat.mul_one];apply List.ext_getElem?;intro j;rw[List.getElem?_take,List.getElem?_map];have a2:d.toList.length=d.size:=by simp
  by_cases hj:j<d.size
  ·rw[if_pos (by simpa using hj)];have a1:j<cur.size:=by omega
   unfold putCells;rw[Array.getElem?_toList,Array.getElem?_mapIdx,Array.getElem?_eq_getElem a1,Option.map_some,if_pos ⟨Nat.zero_le _,by omega⟩,Nat.sub_zero,getElem!_pos d j hj];rw[Array.getElem?_toList,Array.getElem?_eq_getElem hj,Option.map_some,he _ (by simp)]
  ·rw[if_neg (by simpa using hj),Array.getElem?_toList,Array.getElem?_eq_none (by omega)];rfl
theorem Abz {enc:Nat->Value}(w:World)(g q:Nat)(d:Array Nat):Ak (fun k=>k=g) w ((putRow enc w g 0 d).drewN q):=by
 have h:=Kc (enc:=enc) w g q d #[];rwa[sortWorld_none]at h
theorem Ah2 (op:List Nat)(base g cap m tg tb:Nat)(tt:Nat->Option Nat)(p:Nat->Bool)(hop:op=(List.range m).filter p)(hmx:∀i x,tt i=some x->x<9223372036854775807)(hm:0<m)(h64:m<=64)
  (w:World) (hO:D7 w base g cap op) (hT:Jq w tg tb m tt) (h1:tg≠g) (h2:tb≠g):
  Calls Tryz.prog 185 #[.slice (some ⟨g,0,none⟩) op.length cap, .int .i64 0, .int .i64 (op.length:Int), .func (.func 142) #[] #[.pointer (some ⟨tg,0,none⟩)]] w fun e w'=>
   e= .returned (.tuple #[])/\D7 w' base g cap (D4 (Ci tt) p m)/\(D4 (Ci tt) p m).length=op.length/\Ak (fun k=>k=g) w w':=by
 obtain⟨hb,a7,a5,cur,hg,a6,ht⟩:=hO.block;have a4:∀x∈op,x<m:=fun x hx=>by rw[hop]at hx;exact List.mem_range.1 (List.mem_filter.1 hx).1
 have a3:op.length<=m:=by rw[hop];exact Nat.le_trans (List.length_filter_le _ _) (by simp)
 have hH:Holds (fun x:Nat=>Value.int .i64 (Ep m x:Nat)) w g 0 op.toArray:=Mg hg fun j x hx=>by
  have a2:op[j]? =some x:=by simpa using hx
  rw[Pz (a4 x (List.mem_of_getElem? a2))];exact Mh ht j x a2
 have a0:=Any.insertionSortCmpFunc_one Tryz.insI (fun x:Nat=>Value.int .i64 (Ep m x:Nat)) (fun _=>rfl) (fun x y=>Dg (Di (tt (Ep m x))) (Di (tt (Ep m y)))) 142 #[.pointer (some ⟨tg,0,none⟩)] g 0 cap 0 op.toArray.size op.toArray w
  (enters_of Tryz.func142 (by kernel_rfl) rfl) (fun mm os dk _ x y=> ?hcmp) hH (Nat.zero_le _) rr (by simp;omega)
 case hcmp=>
  have hK:=Kc (enc:=fun x:Nat=>Value.int .i64 (Ep m x:Nat)) w g mm dk os;refine(Aby (Ep m x) (Ep m y) m tg tb tt (Aah hm) (Aah hm) _ (hT.keep hK h1 h2)).mono ?_;rintro e w' ⟨e1,e2⟩;exact⟨e1,1,e2⟩
 rw[show op.toArray.size=op.length from by simp]at a0;refine Calls.mono a0 ?_;rintro e w' ⟨rfl,q,rfl⟩;have hs:=Ya (tt:=tt) hop hmx hm;have a1:(D4 (Ci tt) p m).length=op.length:=by rw[H7 (Bx tt),hop]
 rw[show op.toArray.size=op.length from by simp]at hs;generalize insertionSort (ltOf fun x y=>Dg (Di (tt (Ep m x))) (Di (tt (Ep m y)))) op.toArray 0 op.length=d at hs ⊢
 refine⟨rfl, ?_,a1,Abz w g q d⟩;rw[←hs];refine hO.put (by rw[←a1,←hs];simp) fun x hx=> ?_
 rw[hs,Dr (Bx tt)]at hx;rw[Pz hx.1]
end Go.Proofs.YtaglfmlgbcmakaaGreatDoor
namespace Go.Proofs.YtaglfmlgbcmakaaGreatDoor
open Go.RowKit Go.Shelf
theorem Afa (op:List Nat)(base g cap m tg tb:Nat)(tt:Nat->Option Nat)(p:Nat->Bool)(hop:op=(List.range m).filter p)(hmx:∀i x,tt i=some x->x<9223372036854775807)(hm:0<m)(h64:m<=19)
  (w:World) (hO:D7 w base g cap op) (hT:Jq w tg tb m tt) (h1:tg≠g) (h2:tb≠g):
  Calls Tryz.prog 141 #[.slice (some ⟨g,0,none⟩) op.length cap, .func (.func 142) #[] #[.pointer (some ⟨tg,0,none⟩)]] w fun e w'=>
   e= .returned (.tuple #[])/\D7 w' base g cap (D4 (Ci tt) p m)/\(D4 (Ci tt) p m).length=op.length/\Ak (fun k=>k=g) w w':=by
 have HI:=hI (Ah2 op base g cap m tg tb tt p hop hmx hm (by omega) w hO hT h1 h2);have a0:op.length<=m:=by rw[hop];exact Nat.le_trans (List.length_filter_le _ _) (by simp)
 obtain⟨n,hn⟩:∃n,n=op.length:=⟨_,rfl⟩;rw[←hn]at HI a0 ⊢;have a3:n<=19:=by omega
 clear hop hmx hm h64 hO hT a0 hn h1 h2
 have a1:Calls Tryz.prog 171 #[.slice (some ⟨g,0,none⟩) n cap, .int .i64 (n:Int), .func (.func 142) #[] #[.pointer (some ⟨tg,0,none⟩)]] w fun e w'=>
   e= .returned (.tuple #[])/\D7 w' base g cap (D4 (Ci tt) p m)/\(D4 (Ci tt) p m).length=n/\Ak (fun k=>k=g) w w':=by
  go_enter Tryz.func171,Tryz.ntmps171;go_wp2_with fail;refine wp_loop_rounds 1 ?_;rw[rounds_succ];go_wp2_with fail;refine HI.out.mono ?_;rintro e w1 ⟨rfl,h1,h2,h3⟩;have H1:=hI h1;have H2:=hI h2;have H3:=hI h3;clear h1 h2 h3;go_wp2_with fail;refine wp_loop_rounds 1 ?_;rw[rounds_succ];go_wp2_with fail
  go_end0
  exact⟨rfl,H1.out,H2.out,H3.out⟩
 have a2:=hI a1;clear a1 HI;go_enter Tryz.func141,Tryz.ntmps141;go_wp2_with fail;refine a2.out.mono ?_;rintro e w1 ⟨rfl,h1,h2,h3⟩;have H1:=hI h1;have H2:=hI h2;have H3:=hI h3;clear h1 h2 h3;go_wp2_with fail
 go_end0
 exact⟨rfl,H1.out,H2.out,H3.out⟩
theorem Ab0 (tg:Nat)(fv:Value)(hf:fv= .func (.func 142) #[] #[.pointer (some ⟨tg,0,none⟩)])(w:World):
  Calls Tryz.prog 141 #[.slice none 0 0,fv] w fun e w'=>e= .returned (.tuple #[])/\w'=w:=by
 subst hf
 have hi:Calls Tryz.prog 185 #[.slice none 0 0, .int .i64 0, .int .i64 0, .func (.func 142) #[] #[.pointer (some ⟨tg,0,none⟩)]] w fun e w'=>e= .returned (.tuple #[])/\w'=w:=by
  go_enter Tryz.func185,Tryz.ntmps185;go_wp2_with fail;refine wp_loop_rounds 1 ?_;rw[rounds_succ];go_wp2_with fail
  go_end0
  exact⟨rfl,rfl⟩
 have HI:=hI hi
 have a0:Calls Tryz.prog 171 #[.slice none 0 0, .int .i64 0, .func (.func 142) #[] #[.pointer (some ⟨tg,0,none⟩)]] w fun e w'=>e= .returned (.tuple #[])/\w'=w:=by
  go_enter Tryz.func171,Tryz.ntmps171;go_wp2_with fail;refine wp_loop_rounds 1 ?_;rw[rounds_succ];go_wp2_with fail;refine HI.out.mono ?_;rintro e w1 ⟨rfl,rfl⟩;go_wp2_with fail;refine wp_loop_rounds 1 ?_;rw[rounds_succ];go_wp2_with fail
  go_end0
  exact⟨rfl,rfl⟩
 have a1:=hI a0;go_enter Tryz.func141,Tryz.ntmps141;go_wp2_with fail;refine a1.out.mono ?_;rintro e w1 ⟨rfl,rfl⟩;go_wp2_with fail
 go_end0
 exact⟨rfl,rfl⟩
end Go.Proofs.YtaglfmlgbcmakaaGreatDoor
namespace Go.Proofs.YtaglfmlgbcmakaaGreatDoor
open Go.RowKit Go.Shelf
attribute [local go_sem] Oper.semAt_some
def Zp (w:World)(g B j:Nat)(tt:Nat->Option Nat):Prop:=∃v,w.heap[g]? =some (.cells #[v] 192 (0,0))/\w.ownsRow B 123 1 v j ((List.range j).map fun i=>Value.int .i64 (Bj (tt i)))
theorem Zp.below {w w':World}{g B j:Nat}{tt:Nat->Option Nat}(h:Zp w g B j tt)(hb:Below w.heap.size w w'):Zp w' g B j tt:=by
 obtain⟨v,h1,h2⟩:=h;exact⟨v,(hb.block g (lt_of_block h1)).trans h1,Bf h2 fun k e=>hb.block k (h2.lt k e).2⟩
theorem B8 {w w':World}{b:Nat}(h:w'.heap[b]? =w.heap[b]?)(o:Nat):w'.cell? ⟨b,o,none⟩=w.cell? ⟨b,o,none⟩:=by simp[World.cell?,h]
theorem Np {w:World}{B B':Nat}{t t':TypeId}{v v':Value}{n n':Nat}{xs xs':List Value}(h:w.ownsRow B t 1 v n xs)(h':w.ownsRow B' t' 1 v' n' xs')(hn:t≠t'):∀k,v.ownBlock=some k->v'.ownBlock≠some k:=by
 intro k hk a1;rcases h.2 with⟨rfl,_⟩|⟨g,cap,cur,rfl,_,hg,_⟩
 ·cases hk
 ·rcases h'.2 with⟨rfl,_⟩|⟨g',cap',cur',rfl,_,a0,_⟩
  ·cases a1
  ·obtain rfl:g=k:=Option.some.inj hk;obtain rfl:g'=g:=Option.some.inj a1;rw[hg]at a0;injection a0 with e
   injection e with _ e _
   exact hn e
theorem D9.block {w w':World}{B:Nat}{v:Value}{l:List Int}(h:D9 w B v l)(hs:w.heap.size<=w'.heap.size)(hb:∀k,v.ownBlock=some k->w'.heap[k]? =w.heap[k]?):D9 w' B v l:=⟨Bf h.1 hb,Nat.le_trans h.2 hs⟩
theorem Zq {w:World}{B:Nat}{t:TypeId}{v:Value}{n j:Nat}{xs:List Value}{x:Value}(h:w.ownsRow B t 1 v n xs)(hx:xs[j]? =some x):∃tb cap,v= .slice (some ⟨tb,0,none⟩) n cap/\w.cell? ⟨tb,j,none⟩=some x/\B<=tb/\tb<w.heap.size∧∃cur,w.heap[tb]? =some (.cells cur t (0,0))/\n<=cap/\cap<=maxLen/\cur.size=cap/\cur.toList.take n=xs:=by
 rcases h.2 with⟨rfl,rfl⟩|⟨g,cap,cur,rfl,hb,hg,h1,h2,h3,h4⟩
 ·have:=h.1;rw[Nat.zero_mul]at this
  rw[List.length_eq_zero_iff.1 this]at hx;cases hx
 ·refine⟨g,cap,rfl, ?_,hb,lt_of_block hg,cur,hg,h1,h2,by omega,by rw[Nat.mul_one]at h4;exact h4⟩;refine Ad hg ?_;rw[←h4,List.getElem?_take]at hx;split at hx
  ·simpa using hx
  ·cases hx
theorem Vo:(Tryz.prog.info? 123).map (fun i=>(i.zero,i.size,i.bytes))=some (some (.int .i64 0),1,8):=by kernel_rfl
theorem Abs (mm lr b1 b2 b3 b4 bn:Nat)(hmm:1<=mm)(mb n:Nat)(rs:List Bd)(A:Option Addr)(m c:Nat)(ys:List Cr)(a:Nat)(now:Int)(J:Nat->(Nat->Prop)->World->Prop)(T0:Nat->Prop)(W:World)
  (hlt:∀s T W',J s T W'→∀k,T k->k<W'.heap.size)
  (hst:∀s T W' W'',J s T W'->Ak (fun k=>W.heap.size<=k∧¬T k) W' W''->J s T W'')
  (hy:∀i T W' k,(Hc n rs (Af ys) a now)[i]? =some k->J i T W'->YieldAt Fence.wide (mm-1) Tryz.prog lr #[.int .i64 (k:Int)] W' (fun e W''=>
   e= .returned (.bool true)∧∃T',J (i+1) T' W''/\Ak T W' W''∧∀k,T' k->T k\/W'.heap.size<=k))
  (h0:J 0 T0 W) (c1:W.cell? ⟨b1,0,none⟩=some (.slice A m c)) (c2:W.cell? ⟨b2,0,none⟩=some (.pointer (some ⟨mb,0,none⟩))) (c3:W.cell? ⟨b3,0,none⟩=some (.int .i64 (a:Int)))
  (c4:W.cell? ⟨b4,0,none⟩=some (.func (.func 103) #[] #[.pointer (some ⟨bn,0,none⟩)])) (c5:W.heap[bn]? =some (.cells #[.int .i64 now] 2 (0,0)))
  (hb1:b1<W.heap.size) (hb2:b2<W.heap.size) (hb3:b3<W.heap.size) (hb4:b4<W.heap.size)
  (hmap:Cq W mb n rs) (hys:Ct W A m c ys) (hone:∀y∈ys,Eh n y.d=0) (han:a<n) (hm19:m<=19):
  CallsIn Fence.wide mm Tryz.prog 140 #[.func (.yield lr) #[] #[], .pointer (some ⟨b1,0,none⟩), .pointer (some ⟨b2,0,none⟩), .pointer (some ⟨b3,0,none⟩), .pointer (some ⟨b4,0,none⟩)] W fun e W'=>
   (∃v,e= .returned v)∧∃T,J (Hc n rs (Af ys) a now).length T W':=by
 have j7:=hlt _ _ _ h0;have s3:=hys.max;have s9:=hI hlt;have i7:=hI hst;have HY:=hI hy;have H0:=hI h0;have HM:=hI hmap;have g8:=hI hys;have g7:=hI hone;have q6:=hI j7;have C1:=hI c1;have C2:=hI c2;have C3:=hI c3;have C4:=hI c4;have C5:=hI c5;have g3:Hid ((Af ys).length=m):=by show _=_;rw[Af,List.length_map];exact hys.len
 obtain⟨tt,i4⟩:∃tt,tt=tAt n rs (Af ys) a:=⟨_,rfl⟩;obtain⟨P,hP⟩:∃P:Nat->Bool,P=fun i=>E7 now (tt i):=⟨_,rfl⟩
 have f1:=hI i4;have HP:=hI hP;clear hlt hst hy h0 hmap hys hone j7 c1 c2 c3 c4 c5 i4 hP;refine callsIn_of_wp Tryz.func140 rfl trivial ?_;simp only[Tryz.ntmps140,List.size_toArray,List.length_cons,List.length_nil,Nat.reduceAdd,Nat.reduceSub,Array.replicate_succ,Array.replicate_zero,List.push_toArray,List.append_toArray,List.nil_append,List.cons_append];have k1:(W.alloc (.cells #[.slice none 0 0] 192)).cell? ⟨b1,0,none⟩=some (.slice A m c):=by first|exact(cell_old_at hb1).trans C1.out|exact(Below.alloc (Below.refl _ W) rr _).cell (p:=⟨b1,0,none⟩) hb1 |>.trans C1.out
 gi_wp2_with fail
 clear k1;have g0:(W.alloc (.cells #[.slice none 0 0] 192)).heap[W.heap.size]? =some (.cells #[.slice none 0 0] 192 (0,0)):=Aj rfl;have m4:Below W.heap.size W (W.alloc (.cells #[.slice none 0 0] 192)):=(Below.refl _ W).alloc rr _;have p5:(W.alloc (.cells #[.slice none 0 0] 192)).heap.size=W.heap.size+1:=by simp
 obtain⟨g,hg⟩:∃g,g=W.heap.size:=⟨_,rfl⟩;rw[←hg]at g0 ⊢;obtain⟨B,hB⟩:∃B,B=(W.alloc (.cells #[.slice none 0 0] 192)).heap.size:=⟨_,rfl⟩;have o8:g<B:=by omega
 have s6:W.heap.size<=g:=by omega
 have j8:Hid (D9 (W.alloc (.cells #[.slice none 0 0] 192)) B (.slice none 0 0) []):=D9.nil (by omega);have m9:Hid (Zp (W.alloc (.cells #[.slice none 0 0] 192)) g B 0 tt):=⟨_,g0,World.ownsRow_nil _ _ _ _⟩;have i3:=hI m4;generalize(W.alloc (.cells #[.slice none 0 0] 192))=W0 at*;have q3:g<=W.heap.size:=by omega
 clear g0 m4 p5 hg hB
 gi_loopw [7,14] (fun s7 i wr=>∃j:Nat,j<=m/\i= .int .i64 (j:Int)/\Hid (D9 wr B s7 (((List.range j).filter P).map fun(a:Nat)=>(a:Int)))/\Hid (Zp wr g B j tt)/\Hid (Below W.heap.size W wr)/\Hid ((List.range j).filter P=[]->s7= .slice none 0 0)) (fun _ i _=>m-(intOf i).toNat)
 case atStart=>exact⟨0,Nat.zero_le _,rfl,j8.out,m9.out,i3.out,fun _=>rfl⟩
 case round=>
  obtain⟨j,hj,rfl,HN,HI,HB,HE⟩:=hrel;clear j8 m9 i3;by_cases hlt:j<m
  ·have s5:(j:Int)<(m:Int):=by omega
   obtain⟨x,hx⟩:=(g8.out.below HB.out).get hlt;obtain⟨yb,yo,hA,t1,f6,k0,k1,k2,k3,k4⟩:=(g8.out.below HB.out).at_ hx;subst hA;have i9:(Af ys)[j]? =some x.d:=by rw[Af,List.getElem?_map,hx];rfl
   have i5:Hid (tt j=Da n rs x.d a):=by show _=_;rw[f1.out];unfold tAt;rw[i9];rfl
   have H1:Hid (Eh n x.d=0):=g7.out x (List.mem_of_getElem? hx);have m6:=hI f6;clear hx i9 f6;obtain⟨⟨law,ps,T,S,fin⟩,Aw,nw,cw⟩:=x;simp only at k0 k1 k2 k3 k4
   gi_wp2_with fail
   clear k0 k1 k2 k3 k4;have kx:(wr.alloc (.cells #[.int .i64 law, .slice Aw nw cw, .int .i64 T, .int .i64 S, .int .i64 fin] 38)).heap[wr.heap.size]? =some (.cells #[.int .i64 law, .slice Aw nw cw, .int .i64 T, .int .i64 S, .int .i64 fin] 38 (0,0)):=Aj rfl;have kb:Below wr.heap.size wr (wr.alloc (.cells #[.int .i64 law, .slice Aw nw cw, .int .i64 T, .int .i64 S, .int .i64 fin] 38)):=(Below.refl _ wr).alloc rr _;obtain⟨X,hX⟩:∃X,X=wr.heap.size:=⟨_,rfl⟩;have q1:wr.heap.size<=X:=by omega
   rw[←hX]at kx ⊢;clear hX;generalize wr.alloc (.cells #[.int .i64 law, .slice Aw nw cw, .int .i64 T, .int .i64 S, .int .i64 fin] 38)=V at*;have d1:Below W.heap.size W V:=HB.out.trans (kb.mono HB.out.size);have s2:=HN.out.2;obtain⟨vt,a5,a2⟩:=HI.out;have f5:=hI (Np HN.out.1 a2 (by decide));have d7:=hI a2.lt;have a8:=(kb.block g (lt_of_block a5)).trans a5;have b7:=Bf a2 fun k e=>kb.block k (a2.lt k e).2
   have p0:=lt_of_block a5;clear a5 a2;have k0:=cell_of_one a8;have k1:=Ad (j:=0) kx rfl;have k2:=Ad (j:=1) kx rfl;have k3:=Ad (j:=2) kx rfl;have k4:=Ad (j:=3) kx rfl;have k5:=Ad (j:=4) kx rfl;have k6:=(d1.cell (p:=⟨b2,0,none⟩) hb2).trans C2.out;have k7:=(d1.cell (p:=⟨b3,0,none⟩) hb3).trans C3.out
   have a6:Hid (∀W':World,(∀k,k<V.heap.size->vt.ownBlock≠some k->W'.heap[k]? =V.heap[k]?)->W'.cell? ⟨g,0,none⟩=some vt/\W'.cell? ⟨X,0,none⟩=some (.int .i64 law)/\W'.cell? ⟨X,1,none⟩=some (.slice Aw nw cw)/\W'.cell? ⟨X,2,none⟩=some (.int .i64 T)/\W'.cell? ⟨X,3,none⟩=some (.int .i64 S)/\W'.cell? ⟨X,4,none⟩=some (.int .i64 fin)/\W'.cell? ⟨b2,0,none⟩=some (.pointer (some ⟨mb,0,none⟩))/\W'.cell? ⟨b3,0,none⟩=some (.int .i64 (a:Int))):=by
    intro W' hk;have b6:∀k,k<B\/wr.heap.size<=k->vt.ownBlock≠some k:=fun k h e=>by have:=d7.out k e;omega
    have f0:=(hk X (lt_of_block kx) (b6 X (.inr q1))).trans kx
    exact⟨cell_of_one ((hk g (lt_of_block a8) (b6 g (.inl o8))).trans a8),Ad (j:=0) f0 rfl,Ad (j:=1) f0 rfl,Ad (j:=2) f0 rfl,Ad (j:=3) f0 rfl,Ad (j:=4) f0 rfl,
     (B8 (hk b2 (by have:=d1.size;omega) (b6 b2 (.inl (by omega)))) 0).trans k6,(B8 (hk b3 (by have:=d1.size;omega) (b6 b3 (.inl (by omega)))) 0).trans k7⟩
   have a9:=hI a8;have g4:=hI b7;have KX:=hI kx;have KB:=hI kb;have b9:=hI d1;have t0:=kb.size;clear a8 b7 kx kb d1;refine G3 (fun W'=>W'.cell? ⟨g,0,none⟩=some vt/\W'.cell? ⟨X,0,none⟩=some (.int .i64 law)/\W'.cell? ⟨X,1,none⟩=some (.slice Aw nw cw)/\W'.cell? ⟨X,2,none⟩=some (.int .i64 T)/\W'.cell? ⟨X,3,none⟩=some (.int .i64 S)/\W'.cell? ⟨X,4,none⟩=some (.int .i64 fin)/\W'.cell? ⟨b2,0,none⟩=some (.pointer (some ⟨mb,0,none⟩))/\W'.cell? ⟨b3,0,none⟩=some (.int .i64 (a:Int))) (by kernel_rfl) ⟨k0,k1,k2,k3,k4,k5,k6,k7⟩ (fun hHeld=> ?_);clear k0 k1 k2 k3 k4 k5 k6 k7
   (refine' Ae 0 rfl ?_;(try simp only[Act.put,nY,nX]));(refine' Ae 1 rfl ?_;(try simp only[Act.put,nY,nX]));(refine' Ae 2 rfl ?_;(try simp only[Act.put,nY,nX]));(refine' Ae 3 rfl ?_;(try simp only[Act.put,nY,nX]))
   clear hHeld
   (refine Aim 4 rfl (fun K' hK'=> ?_);simp only[nY];go_simp)
   have a3:Below V.heap.size V V.drew:=(Below.refl _ _).drew;have j3:=b9.out.trans (a3.mono b9.out.size);refine(Ae2 mb n rs ⟨⟨law,ps,T,S,fin⟩,Aw,nw,cw⟩ a V.drew (HM.out.below j3) ((m6.out.below KB.out).below a3) H1.out han).mono ?_;obtain⟨t,ht⟩:∃t,t=Bj (Da n rs ⟨law,ps,T,S,fin⟩ a):=⟨_,rfl⟩;have r7:Hid (Bj (tt j)=t):=by show _=_;rw[i5.out,ht]
   rw[←ht];rintro e w1 ⟨rfl,d9⟩;have a7:=hI (a3.trans d9);refine hK' _ _ ⟨.inr (a6.out w1 fun k h _=>a7.out.block k h),fun _=> ?_⟩
   clear hK' K' d9 a3 j3 ht i5 H1 m6
   (try simp only[Act.put,nY,nX])
   (refine Aim 5 rfl (fun K' hK'=> ?_);simp only[nY];go_simp)
   have z1:(w1.alloc (.cells #[.int .i64 t] 123)).heap[w1.heap.size]? =some (.cells #[.int .i64 t] 123 (0,0)):=Aj rfl;have a1:Below V.heap.size V (w1.alloc (.cells #[.int .i64 t] 123)):=a7.out.alloc a7.out.size _;have o7:(w1.alloc (.cells #[.int .i64 t] 123)).ownsRow B 123 1 vt j _:=Bf g4.out fun k e=>a1.block k (g4.out.lt k e).2
   have p4:=a7.out.size;refine hK' _ _ ⟨.inr (a6.out _ fun k h _=>a1.block k h),fun _=> ?_⟩
   clear hK' K'
   (try simp only[Act.put,nY,nX])
   refine Aim 6 rfl (fun K' hK'=> ?_);rw[if_pos (by rfl)];refine Bz (.tmp 19) (.tmp 24) 192 rfl B 123 (.int .i64 0) 1 8 Tryz.underlying192 Vo rfl (by decide) vt j ((List.range j).map fun i=>Value.int .i64 (Bj (tt i))) (by rfl) o7 ⟨w1.heap.size,0,none⟩ 1 1 [.int .i64 t] (by rfl) rfl (E6 z1) (by intro u hu;simp at hu;subst hu;rfl) (by unfold maxLen;omega) (by omega) (by simp;omega) ?_;intro vt' X2 a0 b0 _ f6;have j0:=a6.out X2 fun k h1 h2=>(b0.block k (by have:=a1.size;omega) (fun e=>h2 e.symm)).trans (a1.block k h1)
   have f7:X2.frozen? ⟨g,0,none⟩=false:=free_of_one (((b0.block g (by have:=a1.size;have:=lt_of_block a9.out;omega) (fun e=>by have:=d7.out g e.symm;omega)).trans (a1.block g (lt_of_block a9.out))).trans a9.out);have x7:=((b0.block g (by have:=a1.size;have:=lt_of_block a9.out;omega) (fun e=>by have:=d7.out g e.symm;omega)).trans (a1.block g (lt_of_block a9.out))).trans a9.out;obtain⟨At,kt,rfl⟩:=Bh a0;have c7:=cell_of_one x7;refine hK' _ _ ⟨.inr j0,fun _=> ?_⟩
   clear hK' K'
   have g6:Hid (Zp (X2.setCell ⟨g,0,none⟩ (.slice At (j+1) kt)) g B (j+1) tt):=by
    refine⟨_,one_setCell x7, ?_⟩;rw[List.range_succ,List.map_append];show World.ownsRow _ _ _ _ _ _ (List.map (fun i=>Value.int .i64 (Bj (tt i))) (List.range j)++[.int .i64 (Bj (tt j))]);rw[r7.out];exact ownsRow_setCell_other a0 (fun e=>by have:=(a0.lt _ e).1;simp at this;omega) _
   have k9:Hid (D9 (X2.setCell ⟨g,0,none⟩ (.slice At (j+1) kt)) B u7 (((List.range j).filter P).map fun(a:Nat)=>(a:Int))):=by
    refine D9.block HN.out (by have:=b0.size;have:=a1.size;simp at*;omega) fun k e=> ?_
    have p7:=(HN.out.1.lt k e);have p6:k<V.heap.size:=by omega
    exact(Below.heap_setCell _ _ _ _ (by show k≠g;omega)).trans (((b0.block k (by have:=a1.size;omega) (fun e'=>f5.out k e e'.symm)).trans (a1.block k p6)).trans (KB.out.block k p7.2))
   have d6:Hid (Below W.heap.size W (X2.setCell ⟨g,0,none⟩ (.slice At (j+1) kt))):=
    ((b9.out.trans (a1.mono b9.out.size)).grown b0 (by have:=a1.size;have:=b9.out.size;omega) fun k e=>by have:=(d7.out k e).1;omega).setCell (p:=⟨g,0,none⟩) (by show W.heap.size<=g;omega) _
   clear a0 b0 f6 j0 x7 o7 z1 a1 a6 HN HI HB f5 d7 b9 a9 g4 KX KB a7
   (try simp only[Act.put,nY,nX])
   (refine Aim 7 rfl (fun K' hK'=> ?_);simp only[nY];go_simp)
   refine hK' _ _ ⟨.inl (by kernel_rfl),fun _=>Bg (by kernel_rfl) ?_ _⟩
   clear hK' K' f7 c7;generalize X2.setCell ⟨g,0,none⟩ (.slice At (j+1) kt)=Y at*;gi_wp2;obtain⟨v5,m3,m5⟩:=g6.out;obtain⟨tb,ct,rfl,ct5,r8,q4,cur5,d2,p3, -⟩:=Zq m5 (j:=j) (x:= .int .i64 (Bj (tt j))) (by rw[List.getElem?_map,List.getElem?_range (by omega)];rfl);have kg:=cell_of_one m3;have k4:=(d6.out.cell (p:=⟨b4,0,none⟩) hb4).trans C4.out;have KN:=hI ((d6.out.block bn (lt_of_block C5.out)).trans C5.out);have s4:(j:Int)<((j:Int)+1):=by omega
   clear m3 m5 d2;obtain⟨o,ho⟩:∃o,o=tt j:=⟨_,rfl⟩;rw[←ho]at ct5;have j6:=hI ho;clear ho;have f3:=hI fun w=>Agt o now bn w
   have d4:Hid (P j=E7 now o):=by show _=_;rw[HP.out,j6.out]
   obtain⟨ar,j1⟩:∃ar,ar=Bj o:=⟨_,rfl⟩;rw[←j1]at ct5 f3;obtain⟨pj,j2⟩:∃pj,pj=E7 now o:=⟨_,rfl⟩;rw[←j2]at f3 d4;clear j1 j2;refine G3 (fun W'=>W'.cell? ⟨b4,0,none⟩=some (.func (.func 103) #[] #[.pointer (some ⟨bn,0,none⟩)])/\W'.cell? ⟨g,0,none⟩=some (.slice (some ⟨tb,0,none⟩) (j+1) ct)/\W'.cell? ⟨tb,j,none⟩=some (.int .i64 ar)) (by kernel_rfl) ⟨k4,kg,ct5⟩ (fun hHeld=> ?_);clear k4 kg ct5
   (refine' Ae 0 rfl ?_;(try simp only[Act.put,nY,nX]));(refine' Ae 1 rfl ?_;(try simp only[Act.put,nY,nX]));(refine' Ae 2 rfl ?_;(try simp only[Act.put,nY,nX]));(refine' Ae 3 rfl ?_;(try simp only[Act.put,nY,nX]));(refine' Ae 4 rfl ?_;(try simp only[Act.put,nY,nX]))
   (refine Aim 5 rfl (fun K' hK'=> ?_);simp only[nY];go_simp)
   refine(f3.out Y.drew KN.out).mono ?_;rintro e w5 ⟨rfl,rfl⟩;refine hK' _ _ ⟨.inl (by kernel_rfl),fun _=>Bg (by kernel_rfl) ?_ _⟩
   clear hK' K' hHeld;have a3:Below Y.heap.size Y Y.drew:=(Below.refl _ _).drew;have f2:=hI (k9.out.below a3);have j5:=hI (g6.out.below a3);have f9:=hI (d6.out.trans (a3.mono d6.out.size))
   have f8:Hid ((List.range (j+1)).filter P=(List.range j).filter P++(if P j=true then [j]else [])):=by
    show _=_;rw[List.range_succ,List.filter_append];congr 1;by_cases h:P j=true
    ·rw[if_pos h,List.filter_cons_of_pos h];rfl
    ·rw[if_neg h,List.filter_cons_of_neg h];rfl
   clear a3 k9 g6 d6 KN f3 j6 q4;generalize Y.drew=Z at*
   cases pj with
   |false=>
    gi_wp2
    go_roundw
    case rel=>exact⟨j+1,by omega,by simp,by show D9 _ _ _ _;rw[f8.out,d4.out];simpa using f2.out,j5.out,f9.out,fun h=>HE.out (by rw[f8.out,d4.out]at h;simpa using h)⟩
    case measure=>simp[intOf];omega
   |true=>
    obtain⟨A8,c8,o6⟩:=f2.out.form;subst o6;obtain⟨L,hL⟩:∃L,L=((List.range j).filter P).map fun(a:Nat)=>(a:Int):=⟨_,rfl⟩
    have s8:L.length<=j:=by rw[hL,List.length_map];exact Nat.le_trans (List.length_filter_le _ _) (by simp)
    rw[←hL]at f2 ⊢;have HL:=hI hL;clear hL;have f4:Below Z.heap.size Z (Z.alloc (.cells #[.int .i64 (j:Int)] 3)):=(Below.refl _ Z).alloc rr _;have b8:=hI (f2.out.below f4);have r9:=hI (j5.out.below f4);have o5:=b8.out.2;have q8:Hid (Below W.heap.size W (Z.alloc (.cells #[.int .i64 (j:Int)] 3))):=f9.out.trans (f4.mono f9.out.size);have f5:=hI (fun k (hk:(Value.slice A8 L.length c8).ownBlock=some k)=>(b8.out.1.lt k hk));obtain⟨vz,j9,g5⟩:=r9.out;have q9:=hI (Np g5 b8.out.1 (by decide));have i8:=hI j9;have m0:=hI g5;clear f4 j9 g5
    gi_wp2_with (gi_at_builtin;refine Gr rfl (.tmp 32) (.tmp 34) 36 rfl B 3 (.int .i64 0) 1 8 Tryz.underlying36 Fw rfl (by decide) (.slice A8 L.length c8) L.length (L.map (Value.int .i64)) rfl b8.out.1 ⟨Z.heap.size,0,none⟩ 1 1 [.int .i64 (j:Int)] rfl rfl (cell_one_new _ _ _) (by simp[Value.oneCell']) (by unfold maxLen;omega) (by omega) o5 ?hc)
    case hc=>
     intro v' w4 a0 hg _;have p9:=hI (b8.out.push a0 hg);have q2:Hid (Below W.heap.size W w4):=b8.out.grow q8.out (by omega) hg;have r5:Hid (Zp w4 g B (j+1) tt):=⟨vz,(hg.block g (lt_of_block i8.out) (fun e=>by have:=(f5.out g e.symm).1;omega)).trans i8.out,Bf m0.out fun k e=>hg.block k (m0.out.lt k e).2 (fun e'=>q9.out k e e'.symm)⟩
     clear a0 hg;gi_wp2
     go_roundw
     case rel=>exact⟨j+1,by omega,by simp,by show D9 _ _ _ _;rw[f8.out,d4.out,if_pos rfl,List.map_append,←HL.out];exact p9.out,r5.out,q2.out,fun h=>by rw[f8.out,d4.out]at h;simp at h⟩
     case measure=>simp[intOf];omega
  ·obtain rfl:j=m:=by omega
   obtain⟨op,d0⟩:∃op,op=(List.range j).filter P:=⟨_,rfl⟩;obtain⟨LL,d5⟩:∃LL,LL=Hc n rs (Af ys) a now:=⟨_,rfl⟩;have a4:LL=D4 (Ci tt) P j:=by rw[d5,f1.out,HP.out,f1.out,←g3.out];rfl
   have i0:Hid (LL.length=op.length):=by show _=_;rw[a4,H7 (Bx tt),d0]
   have b5:∀i x,tt i=some x->x<9223372036854775807:=fun i x hx=>by
    rw[f1.out]at hx;obtain⟨y,hy,hz⟩:=R9 hx;obtain⟨y',r4,rfl⟩:=List.mem_map.1 (List.mem_of_getElem? hy);have h1:=(E8 hz).2.1;have h2:=(g8.out.2 y' r4).u.fin.2;omega
   rw[←d0]at HN HE;rw[←d5]at HY;have g2:=hI d5;by_cases he:op=[]
   ·have hu:=HE.out he;subst hu;have r0:Hid (LL.length=0):=by show _=_;rw[i0.out,he];rfl
    have r2:=hI (Ab0 g _ rfl);clear HE HN HI d5 a4 i0 he d0 b5;gi_wp2;refine⟨trivial, ?_⟩;refine(callsIn_wide.2 (r2.out wr)).mono ?_;rintro e w1 ⟨rfl,rfl⟩;gi_wp2
    gi_loopw [42] (fun i wq=>i= .int .i64 0/\wq=w1) (fun _ _=>0)
    case atStart=>exact⟨rfl,rfl⟩
    case round=>
     obtain⟨rfl,rfl⟩:=hrel;gi_wp2
     go_end0
     exact⟨⟨_,rfl⟩,T0,by rw[←g2.out,r0.out];exact i7.out _ _ _ _ H0.out (Bb HB.out)⟩
   ·have o0:0<j:=by
     rcases Nat.eq_zero_or_pos j with e|e
     ·subst e;exact absurd d0 (by simpa using he)
     ·exact e
    obtain⟨v0,i6⟩:∃v0:Value,v0= .int .i64 ((op[0]'(List.length_pos_iff.2 he):Nat):Int):=⟨_,rfl⟩;obtain⟨gf,cf,hu, -,s1,p8, -⟩:=Zq HN.out.1 (j:=0) (x:=v0) (by rw[List.getElem?_map,List.getElem?_map,List.getElem?_eq_getElem (List.length_pos_iff.2 he),i6];rfl);subst hu;have g1:(op.map fun(a:Nat)=>(a:Int)).length=op.length:=List.length_map _;have i1:D7 wr B gf cf op:=by have:=HN.out.1;rw[List.map_map,g1]at this;exact this
    rw[g1]at HN ⊢;obtain⟨vt,a8,b7⟩:=HI.out;obtain⟨tb,ct,rfl, -,r8,r6,cur,d3,o9,r1,g9,k8⟩:=Zq b7 (j:=0) (x:= .int .i64 (Bj (tt 0))) (by rw[List.getElem?_map,List.getElem?_range o0];rfl)
    have m1:Jq wr g tb j tt:=⟨ct,a8,cur,d3,fun k hk=>by
     have h1:=congrArg (fun l:List Value=>l[k]?) k8;simp only[List.getElem?_take,if_pos hk,List.getElem?_map,List.getElem?_range hk,Option.map_some]at h1;simpa using h1⟩
    have b6:tb≠gf:=fun e=>by
     have:=Np HN.out.1 b7 (by decide) gf rfl
     exact this (by rw[e];rfl)
    have a6:=hI (Afa op B gf cf j g tb tt P d0 b5 o0 hm19 wr i1 m1 (by omega) b6);rw[←a4]at a6;have q7:=HB.out.size;clear i6 g1 i1 a8 b7 d3 o9 r1 g9 k8 m1 b6 a4 d0 b5 HE HN HI he r6;gi_wp2;refine⟨trivial, ?_⟩;refine(callsIn_wide.2 a6.out).mono ?_;rintro e w1 ⟨rfl,h1,h2,h3⟩;have d8:LL.length=op.length:=h2;rw[←d8];have a7:Hid (Below W.heap.size W w1):=HB.out.trans (h3.to_below (fun k hk=>by omega) q7);have o3:Hid (J 0 T0 w1):=i7.out _ _ _ _ H0.out (Bb a7.out);have m2:=hI h1;have q5:gf<w1.heap.size:=Nat.lt_of_lt_of_le p8 h3.size;have m7:Hid (¬T0 gf):=fun h=>by have:=q6.out _ h;omega
    have j4:LL.length<=19:=by
     have h1:=H7 (Bx (tAt n rs (Af ys) a)) (fun i=>E7 now (tAt n rs (Af ys) a i)) (Af ys).length;have h2:=List.length_filter_le (fun i=>E7 now (tAt n rs (Af ys) a i)) (List.range (Af ys).length);rw[List.length_range,g3.out]at h2;rw[g2.out];unfold Hc;rw[h1,g3.out];omega
    clear h1 h2 h3 HB i0 d8 a6 d5;gi_wp2
    gi_loopw [11,42] (fun _ i wr=>∃(k:Nat) (T:Nat->Prop),i= .int .i64 (k:Int)/\k<=LL.length/\Hid (J k T wr)/\Hid (D7 wr B gf cf LL)/\Hid (¬T gf)) (fun _ i _=>LL.length-(intOf i).toNat)
    case atStart=>exact⟨0,T0,rfl,Nat.zero_le _,o3.out,m2.out,m7.out⟩
    case round=>
     obtain⟨k,T,rfl,hk,HJ,HO,HT⟩:=hrel;clear a7 o3 m2 m7;by_cases hkl:k<LL.length
     ·have p1:(k:Int)<(LL.length:Int):=by omega
      obtain⟨_,_,_,cur,hg,g9,ht⟩:=HO.out.block;have hx:LL[k]? =some (LL[k]'hkl):=List.getElem?_eq_getElem hkl;obtain⟨x,o2⟩:∃x,x=LL[k]'hkl:=⟨_,rfl⟩;rw[←o2]at hx;have cx:wr.cell? ⟨gf,k,none⟩=some (.int .i64 (x:Int)):=Ad hg (Mh ht k x hx);have p2:=lt_of_block hg;obtain⟨fn,tmps,assign,body,s0,hR⟩:=HY.out k T wr x hx HJ.out;have HR:=hI hR;clear hR o2 hx hg g9 ht;gi_wp2;refine HR.out.mono ?_;rintro e W3 ⟨rfl,T',m8,o1,i2⟩;have q0:=hI m8;have r3:=hI (HO.out.heap (o1.block gf p2 HT.out));have o4:Hid (¬T' gf):=fun h=>(i2 _ h).elim HT.out (by omega)
      clear m8 o1 i2;gi_wp2
      go_roundw
      case rel=>exact⟨k+1,T',by go_num,by omega,q0.out,r3.out,o4.out⟩
      case measure=>simp[intOf];omega
     ·obtain rfl:k=LL.length:=by omega
      gi_wp2
      go_end0
      exact⟨⟨_,rfl⟩,T,by rw[←g2.out];exact HJ.out⟩
end Go.Proofs.YtaglfmlgbcmakaaGreatDoor
