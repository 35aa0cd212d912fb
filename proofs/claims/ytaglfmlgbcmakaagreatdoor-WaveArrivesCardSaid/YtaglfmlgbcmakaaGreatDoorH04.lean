/-
  A region whose operations come in any order, many of them laying memory: what each operation's value is, said of each alone, whatever has come before.
  wave.Crossed.
  The closures of wave.line and wave.arrived; slices.SortStableFunc over few waves.
  slices.SortStableFunc over at most 19 waves that have arrived.
  slices.SortStableFunc over at most 19 waves that have arrived: the whole call.
  The iterator of wave.arrived.
-/
import Derived.Shelf.SlSortCmp.Insertion
import Derived.Test.YtaglfmlgbcmakaaGreatDoorH03
set_option linter.all false
set_option maxRecDepth 100000
set_option maxHeartbeats 4000000
namespace Go.Proofs.YtaglfmlgbcmakaaGreatDoor
open Go.RowKit Go.Shelf
def L6 (p:Nat->Bool):Nat->Nat
 |0=>0
 |n+1=>L6 p n+(if p n=true then 1 else 0)
theorem Uh {p q:Nat->Bool}:∀n,(∀j,j<n->q j=p j)->L6 q n=L6 p n
 |0,_=>rfl
 |n+1,h=>by unfold L6;rw[Uh n fun j hj=>h j (by omega),h n (by omega)]
theorem Xm {p q:Nat->Bool}{i:Nat}(hp:p i=false)(hq:q i=true)(h:∀j,j≠i->q j=p j):∀n,i<n->L6 q n=L6 p n+1
 |0,hi=>by omega
 |n+1,hi=>by
  unfold L6;by_cases e:i=n
  ·subst e;rw[Uh (p:=p) i fun j hj=>h j (by omega),hp,hq];simp
  ·rw[Xm hp hq h n (by omega),h n (Ne.symm e)];omega
theorem Acg (p:Nat->Bool):∀n,L6 p n<=n
 |0=>rr
 |n+1=>by unfold L6;have:=Acg p n;split<;>omega
theorem Xn {p:Nat->Bool}:∀n,L6 p n=n→∀i,i<n->p i=true
 |0,_,i,hi=>by omega
 |n+1,h,i,hi=>by
  unfold L6 at h;have h1:=Acg p n;by_cases hn:p n=true
  ·rw[if_pos hn]at h;rcases Nat.lt_or_ge i n with h2|h2
   ·exact Xn n (by omega) i h2
   ·obtain rfl:i=n:=by omega
    exact hn
  ·rw[if_neg hn]at h;omega
section
variable {P:Program}{ops:Array Oper}{Q:Exit->Act->World->Prop}{md:Region.Mode}
def E1 (ops:Array Oper)(i:Nat):Option Tmp:=(ops[i]?).bind (·.dst)
def Fr (ops:Array Oper)(vs:Nat->Value):Nat->Array Value->Array Value
 |0,t=>t
 |n+1,t=>match E1 ops n with|some d=>(Fr ops vs n t).setIfInBounds d (vs n)|none=>Fr ops vs n t
theorem Hv (vs:Nat->Value):∀(n:Nat) (t:Array Value),(Fr ops vs n t).size=t.size
 |0,_=>rfl
 |n+1,t=>by
  unfold Fr;split
  ·rw[Array.size_setIfInBounds,Hv vs n t]
  ·exact Hv vs n t
theorem Mt (vs:Nat->Value){s:Nat}:∀(n:Nat) (t:Array Value),(∀i,i<n->E1 ops i≠some s)->(Fr ops vs n t)[s]? =t[s]?
 |0,_,_=>rfl
 |n+1,t,h=>by
  unfold Fr;have ih:=Mt vs n t fun i hi=>h i (by omega)
  split
  ·rename_i d hd
   have a0:d≠s:=fun e=>h n (by omega) (by rw[hd,e])
   rw[Array.getElem?_setIfInBounds_ne a0];exact ih
  ·exact ih
theorem Ui (hd:∀i j s,E1 ops i=some s->E1 ops j=some s->i=j)(vs:Nat->Value){i s:Nat}(hi:E1 ops i=some s):∀(n:Nat) (t:Array Value),i<n->s<t.size->(Fr ops vs n t)[s]? =some (vs i)
 |0,_,h,_=>by omega
 |n+1,t,h,hs=>by
  unfold Fr;by_cases e:i=n
  ·subst e;rw[hi];show((Fr ops vs i t).setIfInBounds s (vs i))[s]? =_;rw[Array.getElem?_setIfInBounds_self_of_lt (by rw[Hv];exact hs)]
  ·have ih:=Ui hd vs hi n t (by omega) hs;split
   ·rename_i d hdn
    have a0:d≠s:=fun e'=>e (hd i n s hi (by rw[hdn,e']))
    rw[Array.getElem?_setIfInBounds_ne a0];exact ih
   ·exact ih
structure Afh (ops:Array Oper)(Φ:Nat->Value->World->Prop)(a0:Act)(w0:World)(vs:Nat->Value)(listed:Array Bool)(a:Act)(w:World):Prop where
 df:a.defers=a0.defers
 sz:a.tmps.size=a0.tmps.size
 ls:listed.size=ops.size
 other:∀s,(∀i,listed.getD i false=true->E1 ops i≠some s)->a.tmps[s]? =a0.tmps[s]?
 at_:∀i s,listed.getD i false=true->E1 ops i=some s->s<a0.tmps.size->a.tmps[s]? =some (vs i)
 is:∀i,listed.getD i false=true->Φ i (vs i) w
 bw:Below w0.heap.size w0 w
def Afi (md:Region.Mode)(ops:Array Oper)(Φ:Nat->Value->World->Prop)(a0:Act)(o:Oper)(a:Act)(w:World):Prop:=
 (∀j,(∃e∈o.after,Region.binds md e=true/\e.on=j)→∃v,Φ j v w∧∀s,E1 ops j=some s->s<a0.tmps.size->a.tmps[s]? =some v)∧
 (∀s,(∀j,E1 ops j≠some s)->a.tmps[s]? =a0.tmps[s]?)/\a.tmps.size=a0.tmps.size
theorem Lw {listed:Array Bool}{i:Nat}(h:i<listed.size)(d:Bool):(listed.setIfInBounds i true).getD i d=true:=by
 simp[Array.getD_eq_getD_getElem?,h]
theorem Ai9 (Φ:Nat->Value->World->Prop)(a0:Act)(w0:World)
  (hmono:∀j v w w',Φ j v w->Below w.heap.size w w'->Φ j v w')
  (hd:∀i j s,E1 ops i=some s->E1 ops j=some s->i=j)
  (hg:∀(i:Nat) (o:Oper),ops[i]? =some o->o.guard=none)
  (hac:∀(i:Nat) (o:Oper),ops[i]? =some o→∀e∈o.after,Region.binds md e=true->e.on<i)
  (H:∀(i:Nat) (o:Oper),ops[i]? =some o→∀a w,Afi md ops Φ a0 o a w->Below w0.heap.size w0 w->o.wp P a w (fun a' w'=>∃v,a'=a.put o.dst v/\Φ i v w'/\Below w.heap.size w w') Q)
  (hQ:∀vs w',(∀i,i<ops.size->Φ i (vs i) w')->Below w0.heap.size w0 w'->Q .normal {a0 with tmps:=Fr ops vs ops.size a0.tmps} w'):
  ∀fuel vs listed a w,Afh ops Φ a0 w0 vs listed a w->L6 (fun i=>listed.getD i false) ops.size+fuel=ops.size->wpAny P md ops Q fuel listed a w:=by
 -- all are listed: the end
 have a5:∀vs listed a w,Afh ops Φ a0 w0 vs listed a w->(∀i,i<ops.size->listed.getD i false=true)->Q .normal a w:=by
  intro vs listed a w hI a1;have h:=hQ vs w (fun i hi=>hI.is i (a1 i hi)) hI.bw
  have ha:a={a0 with tmps:=Fr ops vs ops.size a0.tmps}:=by
   obtain⟨t,df⟩:=a;have h1:df=a0.defers:=hI.df
   have h2:t=Fr ops vs ops.size a0.tmps:=by
    apply Array.ext_getElem?;intro s;by_cases hs:∃i,i<ops.size/\E1 ops i=some s
    ·obtain⟨i,hi,b0⟩:=hs;rcases Nat.lt_or_ge s a0.tmps.size with a2|a7
     ·rw[Ui hd vs b0 _ _ hi a2];exact hI.at_ i s (a1 i hi) b0 a2
     ·have h3:(Fr ops vs ops.size a0.tmps)[s]? =none:=Array.getElem?_eq_none (by rw[Hv];exact a7);have h4:t.size=a0.tmps.size:=hI.sz;rw[h3,Array.getElem?_eq_none (by omega)]
    ·rw[Mt vs _ _ fun i hi e=>hs ⟨i,hi,e⟩]
     refine hI.other s fun i hl e=>hs ⟨i, ?_,e⟩
     rcases Nat.lt_or_ge i ops.size with a2|a7
     ·exact a2
     ·unfold E1 at e;rw[Array.getElem?_eq_none a7]at e;cases e
   rw[h1,h2]
  rw[ha];exact h
 -- nothing is ready: all are listed
 have a4:∀listed:Array Bool,listed.size=ops.size->Region.ready md ops listed=[]→∀i,i<ops.size->listed.getD i false=true:=by
  intro listed b3 h0 i
  induction i using Nat.strongRecOn with
  |_ i ih=>
   intro hi
   cases hb:listed.getD i false with
   |true=>rfl
   |false=>
    exfalso;have ho:ops[i]? =some ops[i]:=Array.getElem?_eq_getElem hi
    have hm:i∈Region.ready md ops listed:=mem_ready.2 ⟨by
     have a3:i<listed.size:=by omega
     simp only[Array.getD_eq_getD_getElem?,Array.getElem?_eq_getElem a3,Option.getD_some]at hb ⊢
     exact hb,ops[i],ho,fun e he hbnd_=>by
      have h1:=hac i _ ho e he hbnd_;exact ih e.on h1 (by omega)⟩
    rw[h0]at hm;cases hm
 intro fuel
 induction fuel with
 |zero=>
  intro vs listed a w hI hc;have a1:=Xn ops.size (by omega:L6 (fun i=>listed.getD i false) ops.size=ops.size);refine⟨?_,a5 vs listed a w hI a1⟩;apply List.eq_nil_iff_forall_not_mem.2;intro i hi;obtain⟨h1,o,ho,_⟩:=mem_ready.1 hi;have a2:i<ops.size:=(Array.getElem?_eq_some_iff.1 ho).1;have h2:=a1 i a2;have a3:i<listed.size:=by rw[hI.ls];exact a2
  simp only[Array.getD_eq_getD_getElem?,Array.getElem?_eq_getElem a3,Option.getD_some]at h1 h2;rw[h1]at h2;cases h2
 |succ fuel ih=>
  intro vs listed a w hI hc;refine⟨fun h0=>a5 vs listed a w hI (a4 listed hI.ls h0),fun i hi=> ?_⟩
  obtain⟨h1,o,ho,a9⟩:=mem_ready.1 hi;have a2:i<ops.size:=(Array.getElem?_eq_some_iff.1 ho).1;have a3:i<listed.size:=by rw[hI.ls];exact a2
  have b1:listed.getD i false=false:=by
   simp only[Array.getD_eq_getD_getElem?,Array.getElem?_eq_getElem a3,Option.getD_some]at h1 ⊢;exact h1
  have hw:Region.wanted o (yielded ops a.tmps)=true:=by unfold Region.wanted;rw[hg i o ho]
  unfold wpOp;rw[ho];simp only[hw,if_true];left;refine Oper.wp_mono (fun a' w' h=> ?_) (H i o ho a w ⟨fun j ⟨e,he,hb,hej⟩=> ?_,fun s hs=>hI.other s fun j _=>hs j,hI.sz⟩ hI.bw)
  ·obtain⟨v,rfl,hv,hb⟩:=h;have a8:E1 ops i=o.dst:=by unfold E1;rw[ho];rfl
   have a6:∀j,j≠i->(listed.setIfInBounds i true).getD j false=listed.getD j false:=fun j hj=>getD_set_ne false (Ne.symm hj)
   refine ih (fun j=>if j=i then v else vs j) _ _ _ ⟨?_, ?_,by rw[Array.size_setIfInBounds];exact hI.ls,fun s hs=> ?_,fun j s hj hjs hlt'=> ?_,fun j hj=> ?_,hI.bw.trans (hb.mono hI.bw.size)⟩ ?_
   ·unfold Act.put;split<;>exact hI.df
   ·unfold Act.put;split
    ·show(a.tmps.setIfInBounds _ v).size=_;rw[Array.size_setIfInBounds];exact hI.sz
    ·exact hI.sz
   ·have b2:o.dst≠some s:=by rw[←a8];exact hs i (Lw a3 false)
    have h2:=hI.other s fun j hj=>by
     by_cases e:j=i
     ·subst e;rw[b1]at hj;cases hj
     ·exact hs j (by rw[a6 j e];exact hj)
    unfold Act.put;split
    ·rename_i d hdd
     have:d≠s:=fun e=>b2 (by rw[hdd,e])
     show(a.tmps.setIfInBounds d v)[s]? =_;rw[Array.getElem?_setIfInBounds_ne this];exact h2
    ·exact h2
   ·by_cases e:j=i
    ·subst e;rw[a8]at hjs;simp only[if_true];unfold Act.put;rw[hjs];show(a.tmps.setIfInBounds s v)[s]? =some v;rw[Array.getElem?_setIfInBounds_self_of_lt (by rw[hI.sz];exact hlt')]
    ·rw[a6 j e]at hj;have h2:=hI.at_ j s hj hjs hlt';simp only[if_neg e];unfold Act.put;split
     ·rename_i d hdd
      have:d≠s:=fun e'=>e (hd j i s hjs (by rw[a8,hdd,e']))
      show(a.tmps.setIfInBounds d v)[s]? =_;rw[Array.getElem?_setIfInBounds_ne this];exact h2
     ·exact h2
   ·by_cases e:j=i
    ·subst e;simp only[if_true];exact hv
    ·rw[a6 j e]at hj;simp only[if_neg e];exact hmono j _ _ _ (hI.is j hj) hb
   ·rw[Xm (p:=fun j=>listed.getD j false) b1 (Lw a3 false) (fun j hj=>a6 j hj) ops.size a2];omega
  ·have hl:listed.getD j false=true:=by rw[←hej];exact a9 e he hb
   exact⟨vs j,hI.is j hl,fun s hs hlt'=>hI.at_ j s hl hs hlt'⟩
def Akz (ops:Array Oper):Bool:=(List.range ops.size).all fun i=>match ops[i]? with
 |none=>false
 |some o=>o.guard.isNone && (o.after.all fun e=>(!Region.binds .any e||decide (e.on<i))) && (o.dst.isNone||(List.range i).all fun j=> !(E1 ops j==o.dst))
theorem Aae (h:Akz ops=true):(∀i j s,E1 ops i=some s->E1 ops j=some s->i=j)/\(∀(i:Nat) (o:Oper),ops[i]? =some o->o.guard=none)∧∀(i:Nat) (o:Oper),ops[i]? =some o→∀e∈o.after,Region.binds .any e=true->e.on<i:=by
 have key:∀(i:Nat) (o:Oper),ops[i]? =some o->o.guard=none/\(∀e∈o.after,Region.binds .any e=true->e.on<i)/\(∀s,o.dst=some s→∀j,j<i->E1 ops j≠some s):=fun i o ho=>by
  have hi:i<ops.size:=(Array.getElem?_eq_some_iff.1 ho).1;have h1:=List.all_eq_true.1 h i (List.mem_range.2 hi);rw[ho]at h1;simp only[Bool.and_eq_true,Bool.or_eq_true]at h1;obtain⟨⟨h2,h3⟩,h4⟩:=h1;refine⟨by simpa using h2,fun e he hbd=>by have h:=Array.all_eq_true'.1 h3 e he;rw[hbd]at h;simpa using h,fun s hs j hj e=> ?_⟩
  rcases h4 with h4|h4
  ·rw[hs]at h4;cases h4
  ·have h5:=List.all_eq_true.1 h4 j (List.mem_range.2 hj);rw[e,hs]at h5;simp at h5
 refine⟨fun i j s hi hj=> ?_,fun i o ho=>(key i o ho).1,fun i o ho=>(key i o ho).2.1⟩
 have hw:∀i s,E1 ops i=some s→∃o,ops[i]? =some o/\o.dst=some s:=fun i s h=>by
  unfold E1 at h
  cases ho:ops[i]? with
  |none=>rw[ho]at h;cases h
  |some o=>rw[ho]at h;exact⟨o,rfl,h⟩
 obtain⟨oi,h1,h2⟩:=hw i s hi;obtain⟨oj,h3,h4⟩:=hw j s hj;rcases Nat.lt_trichotomy i j with h5|h5|h5
 ·exact absurd hi ((key j oj h3).2.2 s h4 i h5)
 ·exact h5
 ·exact absurd hj ((key i oi h1).2.2 s h2 j h5)
theorem Adh (n m:Nat):L6 (fun i=>(Array.replicate m false).getD i false) n=0:=by
 induction n with
 |zero=>rfl
 |succ n ih=>
  unfold L6;rw[ih]
  have:(Array.replicate m false).getD n false=false:=by
   simp only[Array.getD_eq_getD_getElem?,Array.getElem?_replicate];split<;>rfl
  rw[this];rfl
theorem Aaf {id:Nat}(hm:P.follows .mixedOrders=true)(hok:Akz ops=true)(Φ:Nat->Value->World->Prop)(a0:Act)(w:World)
  (hmono:∀j v w w',Φ j v w->Below w.heap.size w w'->Φ j v w')
  (H:∀(i:Nat) (o:Oper),ops[i]? =some o→∀a w',Afi .any ops Φ a0 o a w'->Below w.heap.size w w'->o.wp P a w' (fun a' w''=>∃v,a'=a.put o.dst v/\Φ i v w''/\Below w'.heap.size w' w'') Q)
  (hQ:∀vs w',(∀i,i<ops.size->Φ i (vs i) w')->Below w.heap.size w w'->Q .normal {a0 with tmps:=Fr ops vs ops.size a0.tmps} w'):(Code.region id ops true).wp P Q a0 w:=by
 obtain⟨hd,hg,a2⟩:=Aae hok;have a1:Below w.heap.size w w.drew:=(Below.refl _ _).drew;refine wp_region_any hm (Ai9 Φ a0 w.drew hmono hd hg a2 (fun i o ho a w' ha hb=>H i o ho a w' ha (a1.trans hb)) (fun vs w' h hb=>hQ vs w' h (a1.trans hb)) ops.size (fun _=>undef) _ a0 w.drew ⟨rfl,rfl,by simp,fun s _=>rfl,fun i s h=> ?_,fun i h=> ?_,Below.refl _ _⟩ (by rw[Adh];omega))
 ·simp only[Array.getD_eq_getD_getElem?,Array.getElem?_replicate]at h;split at h<;>cases h
 ·simp only[Array.getD_eq_getD_getElem?,Array.getElem?_replicate]at h;split at h<;>cases h
end
theorem Acd (x y:Int):(D6 x y<0)↔x<y:=by unfold D6;by_cases h1:x<y<;>by_cases h2:y<x<;>simp[h1,h2]
theorem Aac (x y:Int):D6 x y=0↔x=y:=by unfold D6;by_cases h1:x<y<;>by_cases h2:y<x<;>simp[h1,h2]<;>omega
theorem Ai4 {a b:Int}(h:a=0):orQ a b=b:=by unfold orQ;simp[h]
theorem Ai5 {a b:Int}(h:a≠0):orQ a b=a:=by unfold orQ;simp[h]
theorem Ai6 {t:Nat->Option Nat}{i j x:Nat}(hx:t i=some x)(hlt:x<9223372036854775807):decide (orQ (D6 (D7 (t i)) (D7 (t j))) (D6 (i:Int) (j:Int))<0)=Cf t i j:=by
 unfold Cf;rw[hx]
 cases hy:t j with
 |none=>
  have hc:D6 (D7 (some x)) (D7 none)= -1:=by unfold D6;rw[if_pos (by show(x:Int)<9223372036854775807;omega)]
  rw[Ai5 (by rw[hc];decide),hc];simp
 |some y=>
  show decide (orQ (D6 (x:Int) (y:Int)) (D6 (i:Int) (j:Int))<0)=(decide (x<y)||(decide (x=y) && decide (i<j)));by_cases e:x=y
  ·subst e;rw[Ai4 ((Aac _ _).2 rfl)];have h2:=Acd (i:Int) (j:Int);by_cases h3:i<j
   ·have h4:D6 (i:Int) (j:Int)<0:=h2.2 (by omega);simp[h3,h4]
   ·have h4:¬D6 (i:Int) (j:Int)<0:=fun h=>h3 (by have:=h2.1 h;omega)
    simp[h3];omega
  ·rw[Ai5 (fun h=>e (by have:=(Aac _ _).1 h;omega))];have h2:=Acd (x:Int) (y:Int);by_cases h3:x<y
   ·have h4:D6 (x:Int) (y:Int)<0:=h2.2 (by omega);simp[h3,h4]
   ·have h4:¬D6 (x:Int) (y:Int)<0:=fun h=>h3 (by have:=h2.1 h;omega)
    simp[h3,e];omega
theorem Vy (b n:Nat)(rs:List Bb)(Ax:Option Addr)(nx cx:Nat)(xs:List Bj)(A:Option Addr)(m c:Nat)(ys:List Bu)(ki kj:Int)(w:World)(hm:C0 w b n rs)(hx:Br w Ax nx cx xs)(hy:Bv w A m c ys)(hT:Cd w):
  Calls Tryz.prog 33 #[.pointer (some ⟨b,0,none⟩), .slice Ax nx cx, .slice A m c, .int .i64 ki, .int .i64 kj] w (C6 w (Cz n rs (Ah xs) (Ae ys) ki kj)):=by
 obtain⟨An,cn,mb,Ar,cr,Aq,cq,c0,c1,c2,c3⟩:=hm.cells;have i4:=hm.lt;have g2:=hm.few;have j2:=hy.max;have HM:=hI hm;have HX:=hI hx;have HY:=hI hy;have HT:=hI hT;have HC:=hI c0;have i0:Hid ((Ae ys).length=m):=by show _=_;rw[Ae,List.length_map];exact hy.len
 clear hm hx hy hT c0 c1 c2 c3;go_enter Tryz.func33,Tryz.ntmps33;go_wp2_with fail;refine(Hs b n rs Ax nx cx xs A m c ys w HM.out HX.out HY.out HT.out).mono ?_;obtain⟨er,d3⟩:∃er,er=Ck n (Ah xs) (Ae ys):=⟨_,rfl⟩;rw[←d3];rintro e w1 ⟨rfl,g5⟩;have a6:=hI g5;have b5:=hI d3;clear g5 d3;by_cases he0:er=0
 ·have g8:(er !=0)=false:=by simp[he0]
  have d6:Hid (Ck n (Ah xs) (Ae ys)=0):=by show _=_;rw[←b5.out,he0]
  have HV:Hid (Cz n rs (Ah xs) (Ae ys) ki kj=if min ki kj<0\/(m:Int)<=max ki kj then(3,[])else(0,((List.range n).filter (Ms n rs (Ae ys) ki.toNat kj.toNat)).map fun(a:Nat)=>(a:Int))):=by
   show _=_;unfold Cz;rw[if_neg (by rw[d6.out];simp),i0.out]
  clear b5 he0;by_cases hk0:min ki kj<0
  ·have b1:Hid (Cz n rs (Ah xs) (Ae ys) ki kj=(3,[])):=by show _=_;rw[HV.out,if_pos (.inl hk0)]
   go_wp2
   go_ret2
   exact C6.bad b1.out a6.out
  ·by_cases hkm:(m:Int)<=max ki kj
   ·have b1:Hid (Cz n rs (Ah xs) (Ae ys) ki kj=(3,[])):=by show _=_;rw[HV.out,if_pos (.inr hkm)]
    go_wp2
    go_ret2
    exact C6.bad b1.out a6.out
   ·obtain⟨i,rfl⟩:∃k:Nat,ki=k:=⟨ki.toNat,by omega⟩;obtain⟨k,rfl⟩:∃k:Nat,kj=k:=⟨kj.toNat,by omega⟩;have b7:k<m:=by omega
    have b8:i<m:=by omega
    obtain⟨P,hP⟩:∃P:Nat->Bool,P=Ms n rs (Ae ys) i k:=⟨_,rfl⟩
    have b1:Hid (Cz n rs (Ah xs) (Ae ys) i k=(0,((List.range n).filter P).map fun(a:Nat)=>(a:Int))):=by
     show _=_;rw[HV.out,if_neg (by omega),hP];rfl
    have HP:=hI hP;clear HV hP;have i3:(k:Int)<(m:Int):=by omega
    have g7:(i:Int)<(m:Int):=by omega
    go_wp2_with fail;refine(Gz b An n cn w1 ((a6.out.cell (p:=⟨b,0,none⟩) i4).trans HC.out)).mono ?_;rintro e w2 ⟨rfl,f9⟩;have d1:=hI (a6.out.trans (f9.mono a6.out.size));clear f9 a6;have d9:=d1.out.size;obtain⟨B,hB⟩:∃B,B=w2.heap.size:=⟨_,rfl⟩;have j0:w.heap.size<=B:=by omega
    have f2:Hid (Ct w2 B (.slice none 0 0) []):=Ct.nil (by omega);clear hB d9;go_wp2_with fail
    go_loopw [13,40] (fun s13 i wr=>∃j:Nat,j<=n/\i= .int .i64 (j:Int)/\Hid (Ct wr B s13 (((List.range j).filter P).map fun(a:Nat)=>(a:Int)))/\Hid (Below w.heap.size w wr)) (fun _ i _=>n-(intOf i).toNat)
    case atStart=>exact⟨0,Nat.zero_le _,rfl,f2.out,d1.out⟩
    case round=>
     obtain⟨j,hj,rfl,HN,HB⟩:=hrel;clear f2 d1;by_cases hlt:j<n
     ·have j1:(j:Int)<(n:Int):=by omega
      obtain⟨x,hx⟩:=(HY.out.below HB.out).get b8;obtain⟨yb,yo,hA,a2,g3,k0,k1,k2,k3,k4⟩:=(HY.out.below HB.out).at_ hx;have a4:(Ae ys)[i]? =some x.d:=by rw[Ae,List.getElem?_map,hx];rfl
      have f4:Hid (tAt n rs (Ae ys) j i=De n rs x.d j):=by show _=_;unfold tAt;rw[a4];rfl
      have H1:Hid (Di n x.d=0):=((Dj d6.out).2.2.2 x.d (List.mem_of_getElem? a4)).2.2;have i2:=hI g3;clear hx a4 g3;obtain⟨x',hx⟩:=(HY.out.below HB.out).get b7;obtain⟨yb',yo',f0,b6,a9,l0,l1,l2,l3,l4⟩:=(HY.out.below HB.out).at_ hx;obtain⟨rfl,rfl⟩:yb=yb'/\yo=yo':=by rw[hA]at f0;injection f0 with h;injection h with h1 h2;exact⟨h1,h2⟩
      have a4:(Ae ys)[k]? =some x'.d:=by rw[Ae,List.getElem?_map,hx];rfl
      have g1:Hid (tAt n rs (Ae ys) j k=De n rs x'.d j):=by show _=_;unfold tAt;rw[a4];rfl
      have f6:Hid (Di n x'.d=0):=((Dj d6.out).2.2.2 x'.d (List.mem_of_getElem? a4)).2.2;have b9:=hI a9;clear hx a4 a9 f0 b6;subst hA;obtain⟨⟨law,ps,T,S,fin⟩,Aw,nw,cw⟩:=x;obtain⟨⟨law',ps',T',S',fin'⟩,Aw',nw',cw'⟩:=x';simp only at k0 k1 k2 k3 k4 l0 l1 l2 l3 l4
      have d7:Hid (∀W':World,Below wr.heap.size wr W'->W'.cell? ⟨yb,yo+i*5,none⟩=some (.int .i64 law)/\W'.cell? ⟨yb,yo+i*5+1,none⟩=some (.slice Aw nw cw)/\W'.cell? ⟨yb,yo+i*5+2,none⟩=some (.int .i64 T)/\W'.cell? ⟨yb,yo+i*5+3,none⟩=some (.int .i64 S)/\W'.cell? ⟨yb,yo+i*5+4,none⟩=some (.int .i64 fin)/\W'.cell? ⟨yb,yo+k*5,none⟩=some (.int .i64 law')/\W'.cell? ⟨yb,yo+k*5+1,none⟩=some (.slice Aw' nw' cw')/\W'.cell? ⟨yb,yo+k*5+2,none⟩=some (.int .i64 T')/\W'.cell? ⟨yb,yo+k*5+3,none⟩=some (.int .i64 S')/\W'.cell? ⟨yb,yo+k*5+4,none⟩=some (.int .i64 fin')):=fun W' hb=>
       ⟨(hb.cell (p:=⟨yb,_,none⟩) a2).trans k0,(hb.cell (p:=⟨yb,_,none⟩) a2).trans k1,(hb.cell (p:=⟨yb,_,none⟩) a2).trans k2,(hb.cell (p:=⟨yb,_,none⟩) a2).trans k3,(hb.cell (p:=⟨yb,_,none⟩) a2).trans k4,
        (hb.cell (p:=⟨yb,_,none⟩) a2).trans l0,(hb.cell (p:=⟨yb,_,none⟩) a2).trans l1,(hb.cell (p:=⟨yb,_,none⟩) a2).trans l2,(hb.cell (p:=⟨yb,_,none⟩) a2).trans l3,(hb.cell (p:=⟨yb,_,none⟩) a2).trans l4⟩
      go_wp2_with fail;refine Bg (fun W'=>W'.cell? ⟨yb,yo+i*5,none⟩=some (.int .i64 law)/\W'.cell? ⟨yb,yo+i*5+1,none⟩=some (.slice Aw nw cw)/\W'.cell? ⟨yb,yo+i*5+2,none⟩=some (.int .i64 T)/\W'.cell? ⟨yb,yo+i*5+3,none⟩=some (.int .i64 S)/\W'.cell? ⟨yb,yo+i*5+4,none⟩=some (.int .i64 fin)/\W'.cell? ⟨yb,yo+k*5,none⟩=some (.int .i64 law')/\W'.cell? ⟨yb,yo+k*5+1,none⟩=some (.slice Aw' nw' cw')/\W'.cell? ⟨yb,yo+k*5+2,none⟩=some (.int .i64 T')/\W'.cell? ⟨yb,yo+k*5+3,none⟩=some (.int .i64 S')/\W'.cell? ⟨yb,yo+k*5+4,none⟩=some (.int .i64 fin')) (by kernel_rfl) ⟨k0,k1,k2,k3,k4,l0,l1,l2,l3,l4⟩ (fun hHeld=> ?_);clear k0 k1 k2 k3 k4 l0 l1 l2 l3 l4
      (refine' Ab 0 rfl ?_;(try simp only[Act.put,nY,nX]));(refine' Ab 1 rfl ?_;(try simp only[Act.put,nY,nX]));(refine' Ab 2 rfl ?_;(try simp only[Act.put,nY,nX]));(refine' Ab 3 rfl ?_;(try simp only[Act.put,nY,nX]));(refine' Ab 4 rfl ?_;(try simp only[Act.put,nY,nX]));(refine' Ab 5 rfl ?_;(try simp only[Act.put,nY,nX]));(refine' Ab 7 rfl ?_;(try simp only[Act.put,nY,nX]));(refine' Ab 8 rfl ?_;(try simp only[Act.put,nY,nX]));(refine' Ab 9 rfl ?_;(try simp only[Act.put,nY,nX]));(refine' Ab 10 rfl ?_;(try simp only[Act.put,nY,nX]));(refine' Ab 11 rfl ?_;(try simp only[Act.put,nY,nX]));(refine' Ab 12 rfl ?_;(try simp only[Act.put,nY,nX]))
      clear hHeld
      (refine Am8 6 rfl (fun K' hK'=> ?_);simp only[nY];go_simp)
      have b2:Below wr.heap.size wr wr.drew:=(Below.refl _ _).drew;refine(Aix b n rs ⟨⟨law,ps,T,S,fin⟩,Aw,nw,cw⟩ j wr.drew (HM.out.below (HB.out.trans (b2.mono HB.out.size))) (i2.out.below b2) H1.out hlt).mono ?_;obtain⟨t,ht⟩:∃t,t=De n rs ⟨law,ps,T,S,fin⟩ j:=⟨_,rfl⟩;have a8:Hid (tAt n rs (Ae ys) j i=t):=by show _=_;rw[f4.out,ht]
      rw[←ht];rintro e wq ⟨rfl,g4⟩;have a5:Below wr.heap.size wr wq:=b2.trans g4;have a1:=hI a5;refine hK' _ _ ⟨.inr (d7.out wq a5),fun _=> ?_⟩
      clear hK' K' g4 a5 b2 ht f4 H1
      (try simp only[Act.put,nY,nX])
      (refine Am8 13 rfl (fun K' hK'=> ?_);simp only[nY];go_simp)
      refine(Aix b n rs ⟨⟨law',ps',T',S',fin'⟩,Aw',nw',cw'⟩ j wq (HM.out.below (HB.out.trans (a1.out.mono HB.out.size))) (b9.out.below a1.out) f6.out hlt).mono ?_;obtain⟨u,hu⟩:∃u,u=De n rs ⟨law',ps',T',S',fin'⟩ j:=⟨_,rfl⟩;have f3:Hid (tAt n rs (Ae ys) j k=u):=by show _=_;rw[g1.out,hu]
      rw[←hu];rintro e w3 ⟨rfl,g0⟩;have b3:Below wr.heap.size wr w3:=a1.out.trans (g0.mono a1.out.size);have f7:=hI (HN.out.below b3);have d4:=hI (HB.out.trans (b3.mono HB.out.size));have a7:=d7.out w3 b3;refine hK' _ _ ⟨.inr a7,fun _=> ?_⟩
      clear hK' K' g0 b3 hu g1 f6 HN HB a1 d7
      (try simp only[Act.put,nY,nX])
      (refine Am8 14 rfl (fun K' hK'=> ?_);simp only[nY];go_simp)
      refine hK' _ _ ⟨.inr a7,fun _=> ?_⟩
      clear hK' K'
      (try simp only[Act.put,nY,nX])
      (refine Am8 15 rfl (fun K' hK'=> ?_);simp only[nY];go_simp)
      refine hK' _ _ ⟨.inl (by kernel_rfl),fun _=>Ba (by kernel_rfl) ?_ _⟩
      clear hK' K' a7;go_wp2_with fail;refine(Xl t w3).mono ?_;rintro e w4 ⟨rfl,rfl⟩;go_wp2_with fail;refine(Xl u w4).mono ?_;rintro e w5 ⟨rfl,rfl⟩;go_wp2_with fail;refine(Wi (D7 t) (D7 u) w5).mono ?_;rintro e w6 ⟨rfl,rfl⟩;go_wp2_with fail;refine(Ai3 (i:Int) (k:Int) w6).mono ?_;rintro e w7 ⟨rfl,rfl⟩;obtain⟨c1,f1⟩:∃c1,c1=D6 (D7 t) (D7 u):=⟨_,rfl⟩;obtain⟨c2,d0⟩:∃c2,c2=D6 (i:Int) (k:Int):=⟨_,rfl⟩;rw[←f1,←d0];have f5:=hI f1;have f8:=hI d0;clear f1 d0;go_wp2_with fail;refine(Am7 c1 c2 w7.heap.size (w7.alloc (.cells #[.int .i64 c1, .int .i64 c2] 3)) (Ch rfl) (Ch rfl)).mono ?_;rintro e w8 ⟨rfl,rfl⟩
      have b4:Hid (P j=(t.isSome && decide (orQ c1 c2<0))):=by
       show _=_;rw[HP.out];show((tAt n rs (Ae ys) j i).isSome && Cf (tAt n rs (Ae ys) j) i k)=_
       cases t with
       |none=>rw[a8.out];rfl
       |some x=>
        have i1:x<9223372036854775807:=by
         obtain⟨y,hy,ha⟩:=Z6 a8.out
         have:=Vu ha
         obtain⟨z,hz,i8⟩:=List.mem_map.1 (List.mem_of_getElem? hy);have hu:=((HY.out.2 z hz).u).fin;rw[i8]at hu;omega
        rw[←Ai6 (t:=tAt n rs (Ae ys) j) (j:=k) a8.out i1,a8.out,f3.out,f5.out,f8.out]
      obtain⟨od,g6⟩:∃od,od=orQ c1 c2:=⟨_,rfl⟩;rw[←g6]at b4 ⊢;have a0:=hI (f7.out.below ((Below.refl _ w7).alloc rr (.cells #[.int .i64 c1, .int .i64 c2] 3)));have a3:Hid (Below w.heap.size w (w7.alloc (.cells #[.int .i64 c1, .int .i64 c2] 3))):=d4.out.alloc d4.out.size _;generalize w7.alloc (.cells #[.int .i64 c1, .int .i64 c2] 3)=w9 at*;clear f5 f8 g6 f7 d4 a8 f3;generalize Bf u=ua
      have d5:Hid ((List.range (j+1)).filter P=(List.range j).filter P++(if P j=true then [j]else [])):=by
       show _=_;rw[List.range_succ,List.filter_append];congr 1;by_cases h:P j=true
       ·rw[if_pos h,List.filter_cons_of_pos h];rfl
       ·rw[if_neg h,List.filter_cons_of_neg h];rfl
      cases t with
      |none=>
       simp only[Bf];go_wp2_with fail
       go_roundw
       case rel=>exact⟨j+1,by omega,by simp,by show Ct _ _ _ _;rw[d5.out,b4.out];simpa using a0.out,a3.out⟩
       case measure=>simp[intOf];omega
      |some t=>
       simp only[Bf];have j3:((t:Int) != -1)=true:=by simp
       by_cases hlo:od<0
       ·obtain⟨A8,c8,i7⟩:=a0.out.form;subst i7;obtain⟨L,hL⟩:∃L,L=((List.range j).filter P).map fun(a:Nat)=>(a:Int):=⟨_,rfl⟩
        have j4:L.length<=j:=by rw[hL,List.length_map];exact Nat.le_trans (List.length_filter_le _ _) (by simp)
        rw[←hL]at a0 ⊢;have HL:=hI hL;clear hL;have d8:=a0.out.below ((Below.refl _ w9).alloc rr (.cells #[.int .i64 (j:Int)] 3));have d2:=hI d8;have i5:=d8.2;have i9:Hid (Below w.heap.size w (w9.alloc (.cells #[.int .i64 (j:Int)] 3))):=a3.out.alloc a3.out.size _;clear d8;go_wp2_with(at_builtin;refine Fs rfl (.tmp 75) (.tmp 77) rfl B (.slice A8 L.length c8) L.length (L.map (Value.int .i64)) rfl d2.out.1 ⟨w9.heap.size,0,none⟩ 1 (.int .i64 (j:Int)) rfl (cell_one_new _ _ _) rfl (by omega) i5 ?hc)
        case hc=>
         intro v' wb b0 hg _;have i6:=hI (d2.out.push b0 hg);have g9:=hI (d2.out.grow i9.out j0 hg);clear b0 hg;go_wp2_with fail
         go_roundw
         case rel=>exact⟨j+1,by omega,by simp,by show Ct _ _ _ _;rw[d5.out,b4.out,if_pos (by simp[hlo]),List.map_append,←HL.out];exact i6.out,g9.out⟩
         case measure=>simp[intOf];omega
       ·go_wp2_with fail
        go_roundw
        case rel=>exact⟨j+1,by omega,by simp,by show Ct _ _ _ _;rw[d5.out,b4.out,if_neg (by simp;omega),List.append_nil];exact a0.out,a3.out⟩
        case measure=>simp[intOf];omega
     ·obtain rfl:j=n:=by omega
      go_wp2
      go_ret2
      exact C6.own b1.out HN.out.1 HB.out
 ·have g8:(er !=0)=true:=by simpa using he0
  have HV:Hid (Cz n rs (Ah xs) (Ae ys) ki kj=(er,[])):=by show _=_;unfold Cz;rw[if_pos (by rw[←b5.out];exact he0),b5.out]
  go_wp2
  go_ret2
  exact C6.bad HV.out a6.out
end Go.Proofs.YtaglfmlgbcmakaaGreatDoor
namespace Go.Proofs.YtaglfmlgbcmakaaGreatDoor
open Go.RowKit Go.Shelf Go.Sort Go.Lib
theorem Akx (o:Option Nat)(now:Int)(bn:Nat)(w:World)(h:w.heap[bn]? =some (.cells #[.int .i64 now] 2 (0,0))):
  Calls Tryz.prog 103 #[.int .i64 (Bf o), .pointer (some ⟨bn,0,none⟩)] w fun e w'=>e= .returned (.bool (En now o))/\w'=w:=by
 obtain⟨x,hx⟩:∃x,x=Bf o:=⟨_,rfl⟩;have HB:=hI (Ana o now w);rw[←hx]at*;clear hx;have c0:=cell_of_one h;clear h;go_enter Tryz.func103,Tryz.ntmps103;go_wp2_with fail;refine HB.out.mono ?_;rintro e w1 ⟨rfl,rfl⟩;go_wp2;go_ret;exact⟨rfl,rfl⟩
def Kj (w:World)(g tb:Nat)(m:Nat)(tt:Nat->Option Nat):Prop:=∃c,w.heap[g]? =some (.cells #[.slice (some ⟨tb,0,none⟩) m c] 192 (0,0))∧∃cur:Array Value,w.heap[tb]? =some (.cells cur 123 (0,0))∧∀j,j<m->cur[j]? =some (.int .i64 (Bf (tt j)))
theorem Kj.keep {w w':World}{g tb m:Nat}{tt:Nat->Option Nat}{S:Nat->Prop}(h:Kj w g tb m tt)(hk:Au S w w')(h1:¬S g)(h2:¬S tb):Kj w' g tb m tt:=by
 obtain⟨c,hg,cur,ht,hc⟩:=h;exact⟨c,(hk.block g (lt_of_block hg) h1).trans hg,cur,(hk.block tb (lt_of_block ht) h2).trans ht,hc⟩
theorem Afa (i k m g tb:Nat)(tt:Nat->Option Nat)(hi:i<m)(hk:k<m)(w:World)(h:Kj w g tb m tt):
  Calls Tryz.prog 142 #[.int .i64 (i:Int), .int .i64 (k:Int), .pointer (some ⟨g,0,none⟩)] w fun e w'=>e= .returned (.int .i64 (D6 (D7 (tt i)) (D7 (tt k))))/\w'=w.drewN 1:=by
 obtain⟨c,hg,cur,ht,hc⟩:=h;have c0:w.cell? ⟨g,0,none⟩=some (.slice (some ⟨tb,0,none⟩) m c):=by simp[World.cell?,hg]
 have cx:w.cell? ⟨tb,i,none⟩=some (.int .i64 (Bf (tt i))):=by simp[World.cell?,ht,hc i hi]
 have cy:w.cell? ⟨tb,k,none⟩=some (.int .i64 (Bf (tt k))):=by simp[World.cell?,ht,hc k hk]
 have a7:(i:Int)<(m:Int):=by omega
 have a6:(k:Int)<(m:Int):=by omega
 have a4:=hI fun w=>Xl (tt i) w
 have a5:=hI fun w=>Xl (tt k) w
 obtain⟨ri,a2⟩:∃x,x=D7 (tt i):=⟨_,rfl⟩;obtain⟨rk,a3⟩:∃x,x=D7 (tt k):=⟨_,rfl⟩;obtain⟨ai,a0⟩:∃x,x=Bf (tt i):=⟨_,rfl⟩;obtain⟨ak,a1⟩:∃x,x=Bf (tt k):=⟨_,rfl⟩;rw[←a2,←a0]at a4;rw[←a3,←a1]at a5;rw[←a2,←a3];rw[←a0]at cx;rw[←a1]at cy;clear hg ht hc hi hk a2 a3 a0 a1;go_enter Tryz.func142,Tryz.ntmps142;go_wp2_with fail;refine Bg (fun W'=>W'.cell? ⟨g,0,none⟩=some (.slice (some ⟨tb,0,none⟩) m c)/\W'.cell? ⟨tb,i,none⟩=some (.int .i64 ai)/\W'.cell? ⟨tb,k,none⟩=some (.int .i64 ak)) (by kernel_rfl) ⟨c0,cx,cy⟩ (fun hHeld=> ?_)
 (refine' Ab 0 rfl ?_;(try simp only[Act.put,nY,nX]));(refine' Ab 1 rfl ?_;(try simp only[Act.put,nY,nX]));(refine' Ab 2 rfl ?_;(try simp only[Act.put,nY,nX]));(refine' Ab 3 rfl ?_;(try simp only[Act.put,nY,nX]));(refine' Ab 5 rfl ?_;(try simp only[Act.put,nY,nX]));(refine' Ab 6 rfl ?_;(try simp only[Act.put,nY,nX]));(refine' Ab 7 rfl ?_;(try simp only[Act.put,nY,nX]));(refine' Ab 8 rfl ?_;(try simp only[Act.put,nY,nX]))
 (refine Am8 4 rfl (fun K' hK'=> ?_);simp only[nY];go_simp)
 refine(a4.out _).mono ?_;rintro e w1 ⟨rfl,rfl⟩;refine hK' _ _ ⟨.inr hHeld,fun _=> ?_⟩
 clear hK' K'
 (try simp only[Act.put,nY,nX])
 (refine Am8 9 rfl (fun K' hK'=> ?_);simp only[nY];go_simp)
 refine(a5.out _).mono ?_;rintro e w1 ⟨rfl,rfl⟩;refine hK' _ _ ⟨.inr hHeld,fun _=> ?_⟩
 clear hK' K'
 (try simp only[Act.put,nY,nX])
 (refine Am8 10 rfl (fun K' hK'=> ?_);simp only[nY];go_simp)
 refine(Wi ri rk _).mono ?_;rintro e w1 ⟨rfl,rfl⟩;refine hK' _ _ ⟨.inr hHeld,fun _=> ?_⟩
 clear hK' K'
 (try simp only[Act.put,nY,nX])
 (refine Am8 11 rfl (fun K' hK'=> ?_);simp only[nY];go_simp)
 refine hK' _ _ ⟨.inl (by kernel_rfl),fun _=>Ba (by kernel_rfl) ?_ _⟩
 clear hK' K';go_wp2;go_ret;exact⟨rfl,rfl⟩
def Fh (m x:Nat):Nat:=if x<m then x else 0
theorem Adg {m x:Nat}(h:0<m):Fh m x<m:=by unfold Fh;split<;>omega
theorem Rn {m x:Nat}(h:x<m):Fh m x=x:=by unfold Fh;rw[if_pos h]
theorem Aad {m:Nat}{tt:Nat->Option Nat}{p:Nat->Bool}{op:List Nat}(hop:op=(List.range m).filter p)(hmx:∀i x,tt i=some x->x<9223372036854775807)(hm:0<m):
  (insertionSort (ltOf fun x y=>D6 (D7 (tt (Fh m x))) (D7 (tt (Fh m y)))) op.toArray 0 op.toArray.size).toList=E9 (Cf tt) p m:=by
 have a0:(ltOf fun x y=>D6 (D7 (tt (Fh m x))) (D7 (tt (Fh m y))))=fun i j=>decide (D7 (tt (Fh m i))<D7 (tt (Fh m j))):=by
  funext x y
  unfold ltOf
  have:=Acd (D7 (tt (Fh m x))) (D7 (tt (Fh m y)))
  by_cases h:D7 (tt (Fh m x))<D7 (tt (Fh m y))
  ·rw[decide_eq_true h,decide_eq_true (this.2 h)]
  ·rw[decide_eq_false h,decide_eq_false (fun h'=>h (this.1 h'))]
 rw[a0]
 have hr:∀i j,decide (D7 (tt (Fh m i))<D7 (tt (Fh m j)))=match tt (Fh m i),tt (Fh m j)with|some x,some y=>decide (x<y)|some _,none=>true|none,_=>false:=by
  intro i j
  cases hi:tt (Fh m i)with
  |none=>
   cases hj:tt (Fh m j)with
   |none=>rfl
   |some y=>
    have:=hmx _ _ hj
    show decide ((9223372036854775807:Int)<(y:Int))=false;exact decide_eq_false (by omega)
  |some x=>
   have hx:=hmx _ _ hi
   cases hj:tt (Fh m j)with
   |none=>
    show decide ((x:Int)<(9223372036854775807:Int))=true;exact decide_eq_true (by omega)
   |some y=>
    show decide ((x:Int)<(y:Int))=decide (x<y);by_cases h:x<y
    ·rw[decide_eq_true h,decide_eq_true (by omega)]
    ·rw[decide_eq_false h,decide_eq_false (by omega)]
 have h:=Zv (t:=fun i=>tt (Fh m i)) (rk:=fun i=>D7 (tt (Fh m i))) hr (p:=p) (m:=m) (d:=op.toArray) hop;rw[h];refine Gp (B8 tt) p m ?_ fun i=>by rw[Fy (B8 _)]
 have hs:=Jk (B8 fun i=>tt (Fh m i)) p m;refine hs.imp_of_mem fun{a b} ha hb hab=> ?_
 rw[Fy (B8 _)]at ha hb;unfold Cf at hab ⊢;simp only[Rn ha.1,Rn hb.1]at hab;exact hab
theorem E2.put {w:World}{base g cap:Nat}{op:List Nat}{enc:Nat->Value}{q:Nat}{d:Array Nat}(h:E2 w base g cap op)(hd:d.size=op.length)(he:∀x∈d.toList,enc x= .int .i64 (x:Int)):
  E2 ((putRow enc w g 0 d).drewN q) base g cap d.toList:=by
 obtain⟨hb,a2,a0,cur,hg,a4,ht⟩:=h.block;have a3:cap<=9223372036854775807:=a0;refine⟨by simp,Or.inr ⟨g,cap,putCells enc 0 d cur,by simp,hb, ?_,by simp;omega,a0,by unfold putCells;simp;omega, ?_⟩⟩
 ·show(putRow enc w g 0 d).heap[g]? =_;unfold putRow mapBlock;simp only;rw[Array.getElem?_modify,if_pos rfl,hg];rfl
 ·rw[Nat.mul_one];apply List.ext_getElem?;intro j;rw[List.getElem?_take,List.getElem?_map];have a5:d.toList.length=d.size:=by simp
  by_cases hj:j<d.size
  ·rw[if_pos (by simpa using hj)];have a1:j<cur.size:=by omega
   unfold putCells;rw[Array.getElem?_toList,Array.getElem?_mapIdx,Array.getElem?_eq_getElem a1,Option.map_some,if_pos ⟨Nat.zero_le _,by omega⟩,Nat.sub_zero,getElem!_pos d j hj];rw[Array.getElem?_toList,Array.getElem?_eq_getElem hj,Option.map_some,he _ (by simp)]
  ·rw[if_neg (by simpa using hj),Array.getElem?_toList,Array.getElem?_eq_none (by omega)];rfl
theorem Afb {enc:Nat->Value}(w:World)(g q:Nat)(d:Array Nat):Au (fun k=>k=g) w ((putRow enc w g 0 d).drewN q):=by
 have h:=K8 (enc:=enc) w g q d #[];rwa[sortWorld_none]at h
theorem Amd (op:List Nat)(base g cap m tg tb:Nat)(tt:Nat->Option Nat)(p:Nat->Bool)(hop:op=(List.range m).filter p)(hmx:∀i x,tt i=some x->x<9223372036854775807)(hm:0<m)(h64:m<=64)
  (w:World) (hO:E2 w base g cap op) (hT:Kj w tg tb m tt) (h1:tg≠g) (h2:tb≠g):
  Calls Tryz.prog 185 #[.slice (some ⟨g,0,none⟩) op.length cap, .int .i64 0, .int .i64 (op.length:Int), .func (.func 142) #[] #[.pointer (some ⟨tg,0,none⟩)]] w fun e w'=>
   e= .returned (.tuple #[])/\E2 w' base g cap (E9 (Cf tt) p m)/\(E9 (Cf tt) p m).length=op.length/\Au (fun k=>k=g) w w':=by
 obtain⟨hb,a6,a5,cur,hg,a7,ht⟩:=hO.block;have a3:∀x∈op,x<m:=fun x hx=>by rw[hop]at hx;exact List.mem_range.1 (List.mem_filter.1 hx).1
 have a4:op.length<=m:=by rw[hop];exact Nat.le_trans (List.length_filter_le _ _) (by simp)
 have hH:Holds (fun x:Nat=>Value.int .i64 (Fh m x:Nat)) w g 0 op.toArray:=Nm hg fun j x hx=>by
  have a1:op[j]? =some x:=by simpa using hx
  rw[Rn (a3 x (List.mem_of_getElem? a1))];exact Nn ht j x a1
 have a0:=Any.insertionSortCmpFunc_one Tryz.insI (fun x:Nat=>Value.int .i64 (Fh m x:Nat)) (fun _=>rfl) (fun x y=>D6 (D7 (tt (Fh m x))) (D7 (tt (Fh m y)))) 142 #[.pointer (some ⟨tg,0,none⟩)] g 0 cap 0 op.toArray.size op.toArray w
  (enters_of Tryz.func142 (by kernel_rfl) rfl) (fun mm os dk _ x y=> ?hcmp) hH (Nat.zero_le _) rr (by simp;omega)
 case hcmp=>
  have hK:=K8 (enc:=fun x:Nat=>Value.int .i64 (Fh m x:Nat)) w g mm dk os;refine(Afa (Fh m x) (Fh m y) m tg tb tt (Adg hm) (Adg hm) _ (hT.keep hK h1 h2)).mono ?_;rintro e w' ⟨e1,e2⟩;exact⟨e1,1,e2⟩
 rw[show op.toArray.size=op.length from by simp]at a0;refine Calls.mono a0 ?_;rintro e w' ⟨rfl,q,rfl⟩;have hs:=Aad (tt:=tt) hop hmx hm;have a2:(E9 (Cf tt) p m).length=op.length:=by rw[Hr (B8 tt),hop]
 rw[show op.toArray.size=op.length from by simp]at hs;generalize insertionSort (ltOf fun x y=>D6 (D7 (tt (Fh m x))) (D7 (tt (Fh m y)))) op.toArray 0 op.length=d at hs ⊢
 refine⟨rfl, ?_,a2,Afb w g q d⟩;rw[←hs];refine hO.put (by rw[←a2,←hs];simp) fun x hx=> ?_
 rw[hs,Fy (B8 tt)]at hx;rw[Rn hx.1]
end Go.Proofs.YtaglfmlgbcmakaaGreatDoor
namespace Go.Proofs.YtaglfmlgbcmakaaGreatDoor
open Go.RowKit Go.Shelf
theorem Ai7 (op:List Nat)(base g cap m tg tb:Nat)(tt:Nat->Option Nat)(p:Nat->Bool)(hop:op=(List.range m).filter p)(hmx:∀i x,tt i=some x->x<9223372036854775807)(hm:0<m)(h64:m<=19)
  (w:World) (hO:E2 w base g cap op) (hT:Kj w tg tb m tt) (h1:tg≠g) (h2:tb≠g):
  Calls Tryz.prog 141 #[.slice (some ⟨g,0,none⟩) op.length cap, .func (.func 142) #[] #[.pointer (some ⟨tg,0,none⟩)]] w fun e w'=>
   e= .returned (.tuple #[])/\E2 w' base g cap (E9 (Cf tt) p m)/\(E9 (Cf tt) p m).length=op.length/\Au (fun k=>k=g) w w':=by
 have HI:=hI (Amd op base g cap m tg tb tt p hop hmx hm (by omega) w hO hT h1 h2);have a0:op.length<=m:=by rw[hop];exact Nat.le_trans (List.length_filter_le _ _) (by simp)
 obtain⟨n,hn⟩:∃n,n=op.length:=⟨_,rfl⟩;rw[←hn]at HI a0 ⊢;have a2:n<=19:=by omega
 clear hop hmx hm h64 hO hT a0 hn h1 h2
 have a1:Calls Tryz.prog 171 #[.slice (some ⟨g,0,none⟩) n cap, .int .i64 (n:Int), .func (.func 142) #[] #[.pointer (some ⟨tg,0,none⟩)]] w fun e w'=>
   e= .returned (.tuple #[])/\E2 w' base g cap (E9 (Cf tt) p m)/\(E9 (Cf tt) p m).length=n/\Au (fun k=>k=g) w w':=by
  go_enter Tryz.func171,Tryz.ntmps171;go_wp2_with fail;refine wp_loop_rounds 1 ?_;rw[rounds_succ];go_wp2_with fail;refine HI.out.mono ?_;rintro e w1 ⟨rfl,h1,h2,h3⟩;have H1:=hI h1;have H2:=hI h2;have H3:=hI h3;clear h1 h2 h3;go_wp2_with fail;refine wp_loop_rounds 1 ?_;rw[rounds_succ];go_wp2_with fail
  go_end0
  exact⟨rfl,H1.out,H2.out,H3.out⟩
 have a3:=hI a1;clear a1 HI;go_enter Tryz.func141,Tryz.ntmps141;go_wp2_with fail;refine a3.out.mono ?_;rintro e w1 ⟨rfl,h1,h2,h3⟩;have H1:=hI h1;have H2:=hI h2;have H3:=hI h3;clear h1 h2 h3;go_wp2_with fail
 go_end0
 exact⟨rfl,H1.out,H2.out,H3.out⟩
theorem Afc (tg:Nat)(fv:Value)(hf:fv= .func (.func 142) #[] #[.pointer (some ⟨tg,0,none⟩)])(w:World):
  Calls Tryz.prog 141 #[.slice none 0 0,fv] w fun e w'=>e= .returned (.tuple #[])/\w'=w:=by
 subst hf
 have hi:Calls Tryz.prog 185 #[.slice none 0 0, .int .i64 0, .int .i64 0, .func (.func 142) #[] #[.pointer (some ⟨tg,0,none⟩)]] w fun e w'=>e= .returned (.tuple #[])/\w'=w:=by
  go_enter Tryz.func185,Tryz.ntmps185;go_wp2_with fail;refine wp_loop_rounds 1 ?_;rw[rounds_succ];go_wp2_with fail
  go_end0
  exact⟨rfl,rfl⟩
 have HI:=hI hi
 have a0:Calls Tryz.prog 171 #[.slice none 0 0, .int .i64 0, .func (.func 142) #[] #[.pointer (some ⟨tg,0,none⟩)]] w fun e w'=>e= .returned (.tuple #[])/\w'=w:=by
  go_enter Tryz.func171,Tryz.ntmps171;go_wp2_with fail;refine wp_loop_rounds 1 ?_;rw[rounds_succ];go_wp2_with fail;refine HI.out.mono ?_;rintro e w1 ⟨rfl,rfl⟩;go_wp2_with fail;refine wp_loop_rounds 1 ?_;rw[rounds_succ];go_wp2_with fail
  go_end0
  exact⟨rfl,rfl⟩
 have a1:=hI a0;go_enter Tryz.func141,Tryz.ntmps141;go_wp2_with fail;refine a1.out.mono ?_;rintro e w1 ⟨rfl,rfl⟩;go_wp2_with fail
 go_end0
 exact⟨rfl,rfl⟩
end Go.Proofs.YtaglfmlgbcmakaaGreatDoor
namespace Go.Proofs.YtaglfmlgbcmakaaGreatDoor
open Go.RowKit Go.Shelf
attribute [local go_sem] Oper.semAt_some
def Acb (w:World)(g B j:Nat)(tt:Nat->Option Nat):Prop:=∃v,w.heap[g]? =some (.cells #[v] 192 (0,0))/\w.ownsRow B 123 1 v j ((List.range j).map fun i=>Value.int .i64 (Bf (tt i)))
theorem Acb.below {w w':World}{g B j:Nat}{tt:Nat->Option Nat}(h:Acb w g B j tt)(hb:Below w.heap.size w w'):Acb w' g B j tt:=by
 obtain⟨v,h1,h2⟩:=h;exact⟨v,(hb.block g (lt_of_block h1)).trans h1,Bc h2 fun k e=>hb.block k (h2.lt k e).2⟩
theorem Cn {w w':World}{b:Nat}(h:w'.heap[b]? =w.heap[b]?)(o:Nat):w'.cell? ⟨b,o,none⟩=w.cell? ⟨b,o,none⟩:=by simp[World.cell?,h]
theorem Pv {w:World}{B B':Nat}{t t':TypeId}{v v':Value}{n n':Nat}{xs xs':List Value}(h:w.ownsRow B t 1 v n xs)(h':w.ownsRow B' t' 1 v' n' xs')(hn:t≠t'):∀k,v.ownBlock=some k->v'.ownBlock≠some k:=by
 intro k hk a0;rcases h.2 with⟨rfl,_⟩|⟨g,cap,cur,rfl,_,hg,_⟩
 ·cases hk
 ·rcases h'.2 with⟨rfl,_⟩|⟨g',cap',cur',rfl,_,a1,_⟩
  ·cases a0
  ·obtain rfl:g=k:=Option.some.inj hk;obtain rfl:g'=g:=Option.some.inj a0;rw[hg]at a1;injection a1 with e
   injection e with _ e _
   exact hn e
theorem Ct.block {w w':World}{B:Nat}{v:Value}{l:List Int}(h:Ct w B v l)(hs:w.heap.size<=w'.heap.size)(hb:∀k,v.ownBlock=some k->w'.heap[k]? =w.heap[k]?):Ct w' B v l:=⟨Bc h.1 hb,Nat.le_trans h.2 hs⟩
theorem Xh {w:World}{B:Nat}{t:TypeId}{v:Value}{n j:Nat}{xs:List Value}{x:Value}(h:w.ownsRow B t 1 v n xs)(hx:xs[j]? =some x):∃tb cap,v= .slice (some ⟨tb,0,none⟩) n cap/\w.cell? ⟨tb,j,none⟩=some x/\B<=tb/\tb<w.heap.size∧∃cur,w.heap[tb]? =some (.cells cur t (0,0))/\n<=cap/\cap<=maxLen/\cur.size=cap/\cur.toList.take n=xs:=by
 rcases h.2 with⟨rfl,rfl⟩|⟨g,cap,cur,rfl,hb,hg,h1,h2,h3,h4⟩
 ·have:=h.1;rw[Nat.zero_mul]at this
  rw[List.length_eq_zero_iff.1 this]at hx;cases hx
 ·refine⟨g,cap,rfl, ?_,hb,lt_of_block hg,cur,hg,h1,h2,by omega,by rw[Nat.mul_one]at h4;exact h4⟩;refine Ad hg ?_;rw[←h4,List.getElem?_take]at hx;split at hx
  ·simpa using hx
  ·cases hx
theorem Xi:(Tryz.prog.info? 123).map (fun i=>(i.zero,i.size,i.bytes))=some (some (.int .i64 0),1,8):=by kernel_rfl
theorem Ae4 (mm lr b1 b2 b3 b4 bn:Nat)(hmm:1<=mm)(mb n:Nat)(rs:List Bb)(A:Option Addr)(m c:Nat)(ys:List Bu)(a:Nat)(now:Int)(J:Nat->(Nat->Prop)->World->Prop)(T0:Nat->Prop)(W:World)
  (hlt:∀s T W',J s T W'→∀k,T k->k<W'.heap.size)
  (hst:∀s T W' W'',J s T W'->Au (fun k=>W.heap.size<=k∧¬T k) W' W''->J s T W'')
  (hy:∀i T W' k,(Jd n rs (Ae ys) a now)[i]? =some k->J i T W'->YieldAt Fence.wide (mm-1) Tryz.prog lr #[.int .i64 (k:Int)] W' (fun e W''=>
   e= .returned (.bool true)∧∃T',J (i+1) T' W''/\Au T W' W''∧∀k,T' k->T k\/W'.heap.size<=k))
  (h0:J 0 T0 W) (c1:W.cell? ⟨b1,0,none⟩=some (.slice A m c)) (c2:W.cell? ⟨b2,0,none⟩=some (.pointer (some ⟨mb,0,none⟩))) (c3:W.cell? ⟨b3,0,none⟩=some (.int .i64 (a:Int)))
  (c4:W.cell? ⟨b4,0,none⟩=some (.func (.func 103) #[] #[.pointer (some ⟨bn,0,none⟩)])) (c5:W.heap[bn]? =some (.cells #[.int .i64 now] 2 (0,0)))
  (hb1:b1<W.heap.size) (hb2:b2<W.heap.size) (hb3:b3<W.heap.size) (hb4:b4<W.heap.size)
  (hmap:C0 W mb n rs) (hys:Bv W A m c ys) (hone:∀y∈ys,Di n y.d=0) (han:a<n) (hm19:m<=19):
  CallsIn Fence.wide mm Tryz.prog 140 #[.func (.yield lr) #[] #[], .pointer (some ⟨b1,0,none⟩), .pointer (some ⟨b2,0,none⟩), .pointer (some ⟨b3,0,none⟩), .pointer (some ⟨b4,0,none⟩)] W fun e W'=>
   (∃v,e= .returned v)∧∃T,J (Jd n rs (Ae ys) a now).length T W':=by
 have j2:=hlt _ _ _ h0;have s9:=hys.max;have s6:=hI hlt;have o3:=hI hst;have HY:=hI hy;have H0:=hI h0;have HM:=hI hmap;have g4:=hI hys;have g8:=hI hone;have p7:=hI j2;have C1:=hI c1;have C2:=hI c2;have C3:=hI c3;have C4:=hI c4;have C5:=hI c5;have g1:Hid ((Ae ys).length=m):=by show _=_;rw[Ae,List.length_map];exact hys.len
 obtain⟨tt,j1⟩:∃tt,tt=tAt n rs (Ae ys) a:=⟨_,rfl⟩;obtain⟨P,hP⟩:∃P:Nat->Bool,P=fun i=>En now (tt i):=⟨_,rfl⟩
 have f3:=hI j1;have HP:=hI hP;clear hlt hst hy h0 hmap hys hone j2 c1 c2 c3 c4 c5 j1 hP;refine callsIn_of_wp Tryz.func140 rfl trivial ?_;simp only[Tryz.ntmps140,List.size_toArray,List.length_cons,List.length_nil,Nat.reduceAdd,Nat.reduceSub,Array.replicate_succ,Array.replicate_zero,List.push_toArray,List.append_toArray,List.nil_append,List.cons_append];have k1:(W.alloc (.cells #[.slice none 0 0] 192)).cell? ⟨b1,0,none⟩=some (.slice A m c):=by first|exact(cell_old_at hb1).trans C1.out|exact(Below.alloc (Below.refl _ W) rr _).cell (p:=⟨b1,0,none⟩) hb1 |>.trans C1.out
 gi_wp2_with fail
 clear k1;have f9:(W.alloc (.cells #[.slice none 0 0] 192)).heap[W.heap.size]? =some (.cells #[.slice none 0 0] 192 (0,0)):=Ak rfl;have m5:Below W.heap.size W (W.alloc (.cells #[.slice none 0 0] 192)):=(Below.refl _ W).alloc rr _;have p5:(W.alloc (.cells #[.slice none 0 0] 192)).heap.size=W.heap.size+1:=by simp
 obtain⟨g,hg⟩:∃g,g=W.heap.size:=⟨_,rfl⟩;rw[←hg]at f9 ⊢;obtain⟨B,hB⟩:∃B,B=(W.alloc (.cells #[.slice none 0 0] 192)).heap.size:=⟨_,rfl⟩;have r9:g<B:=by omega
 have s5:W.heap.size<=g:=by omega
 have i4:Hid (Ct (W.alloc (.cells #[.slice none 0 0] 192)) B (.slice none 0 0) []):=Ct.nil (by omega);have o1:Hid (Acb (W.alloc (.cells #[.slice none 0 0] 192)) g B 0 tt):=⟨_,f9,World.ownsRow_nil _ _ _ _⟩;have m1:=hI m5;generalize(W.alloc (.cells #[.slice none 0 0] 192))=W0 at*;have q2:g<=W.heap.size:=by omega
 clear f9 m5 p5 hg hB
 gi_loopw [7,14] (fun s7 i wr=>∃j:Nat,j<=m/\i= .int .i64 (j:Int)/\Hid (Ct wr B s7 (((List.range j).filter P).map fun(a:Nat)=>(a:Int)))/\Hid (Acb wr g B j tt)/\Hid (Below W.heap.size W wr)/\Hid ((List.range j).filter P=[]->s7= .slice none 0 0)) (fun _ i _=>m-(intOf i).toNat)
 case atStart=>exact⟨0,Nat.zero_le _,rfl,i4.out,o1.out,m1.out,fun _=>rfl⟩
 case round=>
  obtain⟨j,hj,rfl,HN,HI,HB,HE⟩:=hrel;clear i4 o1 m1;by_cases hlt:j<m
  ·have s4:(j:Int)<(m:Int):=by omega
   obtain⟨x,hx⟩:=(g4.out.below HB.out).get hlt;obtain⟨yb,yo,hA,s1,f8,k0,k1,k2,k3,k4⟩:=(g4.out.below HB.out).at_ hx;subst hA;have i1:(Ae ys)[j]? =some x.d:=by rw[Ae,List.getElem?_map,hx];rfl
   have j0:Hid (tt j=De n rs x.d a):=by show _=_;rw[f3.out];unfold tAt;rw[i1];rfl
   have H1:Hid (Di n x.d=0):=g8.out x (List.mem_of_getElem? hx);have j7:=hI f8;clear hx i1 f8;obtain⟨⟨law,ps,T,S,fin⟩,Aw,nw,cw⟩:=x;simp only at k0 k1 k2 k3 k4
   gi_wp2_with fail
   clear k0 k1 k2 k3 k4;have kx:(wr.alloc (.cells #[.int .i64 law, .slice Aw nw cw, .int .i64 T, .int .i64 S, .int .i64 fin] 38)).heap[wr.heap.size]? =some (.cells #[.int .i64 law, .slice Aw nw cw, .int .i64 T, .int .i64 S, .int .i64 fin] 38 (0,0)):=Ak rfl;have kb:Below wr.heap.size wr (wr.alloc (.cells #[.int .i64 law, .slice Aw nw cw, .int .i64 T, .int .i64 S, .int .i64 fin] 38)):=(Below.refl _ wr).alloc rr _;obtain⟨X,hX⟩:∃X,X=wr.heap.size:=⟨_,rfl⟩;have o8:wr.heap.size<=X:=by omega
   rw[←hX]at kx ⊢;clear hX;generalize wr.alloc (.cells #[.int .i64 law, .slice Aw nw cw, .int .i64 T, .int .i64 S, .int .i64 fin] 38)=V at*;have d0:Below W.heap.size W V:=HB.out.trans (kb.mono HB.out.size);have t0:=HN.out.2;obtain⟨vt,a3,a2⟩:=HI.out;have f6:=hI (Pv HN.out.1 a2 (by decide));have f0:=hI a2.lt;have a7:=(kb.block g (lt_of_block a3)).trans a3;have b9:=Bc a2 fun k e=>kb.block k (a2.lt k e).2
   have r0:=lt_of_block a3;clear a3 a2;have k0:=cell_of_one a7;have k1:=Ad (j:=0) kx rfl;have k2:=Ad (j:=1) kx rfl;have k3:=Ad (j:=2) kx rfl;have k4:=Ad (j:=3) kx rfl;have k5:=Ad (j:=4) kx rfl;have k6:=(d0.cell (p:=⟨b2,0,none⟩) hb2).trans C2.out;have k7:=(d0.cell (p:=⟨b3,0,none⟩) hb3).trans C3.out
   have a8:Hid (∀W':World,(∀k,k<V.heap.size->vt.ownBlock≠some k->W'.heap[k]? =V.heap[k]?)->W'.cell? ⟨g,0,none⟩=some vt/\W'.cell? ⟨X,0,none⟩=some (.int .i64 law)/\W'.cell? ⟨X,1,none⟩=some (.slice Aw nw cw)/\W'.cell? ⟨X,2,none⟩=some (.int .i64 T)/\W'.cell? ⟨X,3,none⟩=some (.int .i64 S)/\W'.cell? ⟨X,4,none⟩=some (.int .i64 fin)/\W'.cell? ⟨b2,0,none⟩=some (.pointer (some ⟨mb,0,none⟩))/\W'.cell? ⟨b3,0,none⟩=some (.int .i64 (a:Int))):=by
    intro W' hk;have a9:∀k,k<B\/wr.heap.size<=k->vt.ownBlock≠some k:=fun k h e=>by have:=f0.out k e;omega
    have d5:=(hk X (lt_of_block kx) (a9 X (.inr o8))).trans kx
    exact⟨cell_of_one ((hk g (lt_of_block a7) (a9 g (.inl r9))).trans a7),Ad (j:=0) d5 rfl,Ad (j:=1) d5 rfl,Ad (j:=2) d5 rfl,Ad (j:=3) d5 rfl,Ad (j:=4) d5 rfl,
     (Cn (hk b2 (by have:=d0.size;omega) (a9 b2 (.inl (by omega)))) 0).trans k6,(Cn (hk b3 (by have:=d0.size;omega) (a9 b3 (.inl (by omega)))) 0).trans k7⟩
   have b0:=hI a7;have g2:=hI b9;have KX:=hI kx;have KB:=hI kb;have d1:=hI d0;have s3:=kb.size;clear a7 b9 kx kb d0;refine H7 (fun W'=>W'.cell? ⟨g,0,none⟩=some vt/\W'.cell? ⟨X,0,none⟩=some (.int .i64 law)/\W'.cell? ⟨X,1,none⟩=some (.slice Aw nw cw)/\W'.cell? ⟨X,2,none⟩=some (.int .i64 T)/\W'.cell? ⟨X,3,none⟩=some (.int .i64 S)/\W'.cell? ⟨X,4,none⟩=some (.int .i64 fin)/\W'.cell? ⟨b2,0,none⟩=some (.pointer (some ⟨mb,0,none⟩))/\W'.cell? ⟨b3,0,none⟩=some (.int .i64 (a:Int))) (by kernel_rfl) ⟨k0,k1,k2,k3,k4,k5,k6,k7⟩ (fun hHeld=> ?_);clear k0 k1 k2 k3 k4 k5 k6 k7
   (refine' Ab 0 rfl ?_;(try simp only[Act.put,nY,nX]));(refine' Ab 1 rfl ?_;(try simp only[Act.put,nY,nX]));(refine' Ab 2 rfl ?_;(try simp only[Act.put,nY,nX]));(refine' Ab 3 rfl ?_;(try simp only[Act.put,nY,nX]))
   clear hHeld
   (refine Am8 4 rfl (fun K' hK'=> ?_);simp only[nY];go_simp)
   have a4:Below V.heap.size V V.drew:=(Below.refl _ _).drew;have m7:=d1.out.trans (a4.mono d1.out.size);refine(Aix mb n rs ⟨⟨law,ps,T,S,fin⟩,Aw,nw,cw⟩ a V.drew (HM.out.below m7) ((j7.out.below KB.out).below a4) H1.out han).mono ?_;obtain⟨t,ht⟩:∃t,t=Bf (De n rs ⟨law,ps,T,S,fin⟩ a):=⟨_,rfl⟩;have p6:Hid (Bf (tt j)=t):=by show _=_;rw[j0.out,ht]
   rw[←ht];rintro e w1 ⟨rfl,d4⟩;have a6:=hI (a4.trans d4);refine hK' _ _ ⟨.inr (a8.out w1 fun k h _=>a6.out.block k h),fun _=> ?_⟩
   clear hK' K' d4 a4 m7 ht j0 H1 j7
   (try simp only[Act.put,nY,nX])
   (refine Am8 5 rfl (fun K' hK'=> ?_);simp only[nY];go_simp)
   have z1:(w1.alloc (.cells #[.int .i64 t] 123)).heap[w1.heap.size]? =some (.cells #[.int .i64 t] 123 (0,0)):=Ak rfl;have a1:Below V.heap.size V (w1.alloc (.cells #[.int .i64 t] 123)):=a6.out.alloc a6.out.size _;have o7:(w1.alloc (.cells #[.int .i64 t] 123)).ownsRow B 123 1 vt j _:=Bc g2.out fun k e=>a1.block k (g2.out.lt k e).2
   have o5:=a6.out.size;refine hK' _ _ ⟨.inr (a8.out _ fun k h _=>a1.block k h),fun _=> ?_⟩
   clear hK' K'
   (try simp only[Act.put,nY,nX])
   refine Am8 6 rfl (fun K' hK'=> ?_);rw[if_pos (by rfl)];refine B6 (.tmp 19) (.tmp 24) 192 rfl B 123 (.int .i64 0) 1 8 Tryz.underlying192 Xi rfl (by decide) vt j ((List.range j).map fun i=>Value.int .i64 (Bf (tt i))) (by rfl) o7 ⟨w1.heap.size,0,none⟩ 1 1 [.int .i64 t] (by rfl) rfl (F3 z1) (by intro u hu;simp at hu;subst hu;rfl) (by unfold maxLen;omega) (by omega) (by simp;omega) ?_;intro vt' X2 a0 b6 _ f8;have m9:=a8.out X2 fun k h1 h2=>(b6.block k (by have:=a1.size;omega) (fun e=>h2 e.symm)).trans (a1.block k h1)
   have f7:X2.frozen? ⟨g,0,none⟩=false:=free_of_one (((b6.block g (by have:=a1.size;have:=lt_of_block b0.out;omega) (fun e=>by have:=f0.out g e.symm;omega)).trans (a1.block g (lt_of_block b0.out))).trans b0.out);have x7:=((b6.block g (by have:=a1.size;have:=lt_of_block b0.out;omega) (fun e=>by have:=f0.out g e.symm;omega)).trans (a1.block g (lt_of_block b0.out))).trans b0.out;obtain⟨At,kt,rfl⟩:=Bh a0;have c7:=cell_of_one x7;refine hK' _ _ ⟨.inr m9,fun _=> ?_⟩
   clear hK' K'
   have i0:Hid (Acb (X2.setCell ⟨g,0,none⟩ (.slice At (j+1) kt)) g B (j+1) tt):=by
    refine⟨_,one_setCell x7, ?_⟩;rw[List.range_succ,List.map_append];show World.ownsRow _ _ _ _ _ _ (List.map (fun i=>Value.int .i64 (Bf (tt i))) (List.range j)++[.int .i64 (Bf (tt j))]);rw[p6.out];exact ownsRow_setCell_other a0 (fun e=>by have:=(a0.lt _ e).1;simp at this;omega) _
   have j4:Hid (Ct (X2.setCell ⟨g,0,none⟩ (.slice At (j+1) kt)) B u7 (((List.range j).filter P).map fun(a:Nat)=>(a:Int))):=by
    refine Ct.block HN.out (by have:=b6.size;have:=a1.size;simp at*;omega) fun k e=> ?_
    have o4:=(HN.out.1.lt k e);have q6:k<V.heap.size:=by omega
    exact(Below.heap_setCell _ _ _ _ (by show k≠g;omega)).trans (((b6.block k (by have:=a1.size;omega) (fun e'=>f6.out k e e'.symm)).trans (a1.block k q6)).trans (KB.out.block k o4.2))
   have d8:Hid (Below W.heap.size W (X2.setCell ⟨g,0,none⟩ (.slice At (j+1) kt))):=
    ((d1.out.trans (a1.mono d1.out.size)).grown b6 (by have:=a1.size;have:=d1.out.size;omega) fun k e=>by have:=(f0.out k e).1;omega).setCell (p:=⟨g,0,none⟩) (by show W.heap.size<=g;omega) _
   clear a0 b6 f8 m9 x7 o7 z1 a1 a8 HN HI HB f6 f0 d1 b0 g2 KX KB a6
   (try simp only[Act.put,nY,nX])
   (refine Am8 7 rfl (fun K' hK'=> ?_);simp only[nY];go_simp)
   refine hK' _ _ ⟨.inl (by kernel_rfl),fun _=>Ba (by kernel_rfl) ?_ _⟩
   clear hK' K' f7 c7;generalize X2.setCell ⟨g,0,none⟩ (.slice At (j+1) kt)=Y at*;gi_wp2;obtain⟨v5,m0,i6⟩:=i0.out;obtain⟨tb,ct,rfl,ct5,p1,q0,cur5,d6,p4, -⟩:=Xh i6 (j:=j) (x:= .int .i64 (Bf (tt j))) (by rw[List.getElem?_map,List.getElem?_range (by omega)];rfl);have kg:=cell_of_one m0;have k4:=(d8.out.cell (p:=⟨b4,0,none⟩) hb4).trans C4.out;have KN:=hI ((d8.out.block bn (lt_of_block C5.out)).trans C5.out);have s8:(j:Int)<((j:Int)+1):=by omega
   clear m0 i6 d6;obtain⟨o,ho⟩:∃o,o=tt j:=⟨_,rfl⟩;rw[←ho]at ct5;have o2:=hI ho;clear ho;have f4:=hI fun w=>Akx o now bn w
   have d2:Hid (P j=En now o):=by show _=_;rw[HP.out,o2.out]
   obtain⟨ar,i2⟩:∃ar,ar=Bf o:=⟨_,rfl⟩;rw[←i2]at ct5 f4;obtain⟨pj,m3⟩:∃pj,pj=En now o:=⟨_,rfl⟩;rw[←m3]at f4 d2;clear i2 m3;refine H7 (fun W'=>W'.cell? ⟨b4,0,none⟩=some (.func (.func 103) #[] #[.pointer (some ⟨bn,0,none⟩)])/\W'.cell? ⟨g,0,none⟩=some (.slice (some ⟨tb,0,none⟩) (j+1) ct)/\W'.cell? ⟨tb,j,none⟩=some (.int .i64 ar)) (by kernel_rfl) ⟨k4,kg,ct5⟩ (fun hHeld=> ?_);clear k4 kg ct5
   (refine' Ab 0 rfl ?_;(try simp only[Act.put,nY,nX]));(refine' Ab 1 rfl ?_;(try simp only[Act.put,nY,nX]));(refine' Ab 2 rfl ?_;(try simp only[Act.put,nY,nX]));(refine' Ab 3 rfl ?_;(try simp only[Act.put,nY,nX]));(refine' Ab 4 rfl ?_;(try simp only[Act.put,nY,nX]))
   (refine Am8 5 rfl (fun K' hK'=> ?_);simp only[nY];go_simp)
   refine(f4.out Y.drew KN.out).mono ?_;rintro e w5 ⟨rfl,rfl⟩;refine hK' _ _ ⟨.inl (by kernel_rfl),fun _=>Ba (by kernel_rfl) ?_ _⟩
   clear hK' K' hHeld;have a4:Below Y.heap.size Y Y.drew:=(Below.refl _ _).drew;have f2:=hI (j4.out.below a4);have k8:=hI (i0.out.below a4);have g3:=hI (d8.out.trans (a4.mono d8.out.size))
   have f5:Hid ((List.range (j+1)).filter P=(List.range j).filter P++(if P j=true then [j]else [])):=by
    show _=_;rw[List.range_succ,List.filter_append];congr 1;by_cases h:P j=true
    ·rw[if_pos h,List.filter_cons_of_pos h];rfl
    ·rw[if_neg h,List.filter_cons_of_neg h];rfl
   clear a4 j4 i0 d8 KN f4 o2 q0;generalize Y.drew=Z at*
   cases pj with
   |false=>
    gi_wp2
    go_roundw
    case rel=>exact⟨j+1,by omega,by simp,by show Ct _ _ _ _;rw[f5.out,d2.out];simpa using f2.out,k8.out,g3.out,fun h=>HE.out (by rw[f5.out,d2.out]at h;simpa using h)⟩
    case measure=>simp[intOf];omega
   |true=>
    obtain⟨A8,c8,r1⟩:=f2.out.form;subst r1;obtain⟨L,hL⟩:∃L,L=((List.range j).filter P).map fun(a:Nat)=>(a:Int):=⟨_,rfl⟩
    have t1:L.length<=j:=by rw[hL,List.length_map];exact Nat.le_trans (List.length_filter_le _ _) (by simp)
    rw[←hL]at f2 ⊢;have HL:=hI hL;clear hL;have f1:Below Z.heap.size Z (Z.alloc (.cells #[.int .i64 (j:Int)] 3)):=(Below.refl _ Z).alloc rr _;have b7:=hI (f2.out.below f1);have p2:=hI (k8.out.below f1);have q8:=b7.out.2;have r4:Hid (Below W.heap.size W (Z.alloc (.cells #[.int .i64 (j:Int)] 3))):=g3.out.trans (f1.mono g3.out.size);have f6:=hI (fun k (hk:(Value.slice A8 L.length c8).ownBlock=some k)=>(b7.out.1.lt k hk));obtain⟨vz,m6,g0⟩:=p2.out;have o6:=hI (Pv g0 b7.out.1 (by decide));have i8:=hI m6;have k9:=hI g0;clear f1 m6 g0
    gi_wp2_with (gi_at_builtin;refine Hm rfl (.tmp 32) (.tmp 34) 36 rfl B 3 (.int .i64 0) 1 8 Tryz.underlying36 Gs rfl (by decide) (.slice A8 L.length c8) L.length (L.map (Value.int .i64)) rfl b7.out.1 ⟨Z.heap.size,0,none⟩ 1 1 [.int .i64 (j:Int)] rfl rfl (cell_one_new _ _ _) (by simp[Value.oneCell']) (by unfold maxLen;omega) (by omega) q8 ?hc)
    case hc=>
     intro v' w4 a0 hg _;have q5:=hI (b7.out.push a0 hg);have r3:Hid (Below W.heap.size W w4):=b7.out.grow r4.out (by omega) hg;have p3:Hid (Acb w4 g B (j+1) tt):=⟨vz,(hg.block g (lt_of_block i8.out) (fun e=>by have:=(f6.out g e.symm).1;omega)).trans i8.out,Bc k9.out fun k e=>hg.block k (k9.out.lt k e).2 (fun e'=>o6.out k e e'.symm)⟩
     clear a0 hg;gi_wp2
     go_roundw
     case rel=>exact⟨j+1,by omega,by simp,by show Ct _ _ _ _;rw[f5.out,d2.out,if_pos rfl,List.map_append,←HL.out];exact q5.out,p3.out,r3.out,fun h=>by rw[f5.out,d2.out]at h;simp at h⟩
     case measure=>simp[intOf];omega
  ·obtain rfl:j=m:=by omega
   obtain⟨op,b8⟩:∃op,op=(List.range j).filter P:=⟨_,rfl⟩;obtain⟨LL,d7⟩:∃LL,LL=Jd n rs (Ae ys) a now:=⟨_,rfl⟩;have a5:LL=E9 (Cf tt) P j:=by rw[d7,f3.out,HP.out,f3.out,←g1.out];rfl
   have g9:Hid (LL.length=op.length):=by show _=_;rw[a5,Hr (B8 tt),b8]
   have b5:∀i x,tt i=some x->x<9223372036854775807:=fun i x hx=>by
    rw[f3.out]at hx;obtain⟨y,hy,hz⟩:=Z6 hx;obtain⟨y',r8,rfl⟩:=List.mem_map.1 (List.mem_of_getElem? hy);have h1:=(Vu hz).2.1;have h2:=(g4.out.2 y' r8).u.fin.2;omega
   rw[←b8]at HN HE;rw[←d7]at HY;have g7:=hI d7;by_cases he:op=[]
   ·have hu:=HE.out he;subst hu;have o9:Hid (LL.length=0):=by show _=_;rw[g9.out,he];rfl
    have p0:=hI (Afc g _ rfl);clear HE HN HI d7 a5 g9 he b8 b5;gi_wp2;refine⟨trivial, ?_⟩;refine(callsIn_wide.2 (p0.out wr)).mono ?_;rintro e w1 ⟨rfl,rfl⟩;gi_wp2
    gi_loopw [42] (fun i wq=>i= .int .i64 0/\wq=w1) (fun _ _=>0)
    case atStart=>exact⟨rfl,rfl⟩
    case round=>
     obtain⟨rfl,rfl⟩:=hrel;gi_wp2
     go_end0
     exact⟨⟨_,rfl⟩,T0,by rw[←g7.out,o9.out];exact o3.out _ _ _ _ H0.out (Bk HB.out)⟩
   ·have j9:0<j:=by
     rcases Nat.eq_zero_or_pos j with e|e
     ·subst e;exact absurd b8 (by simpa using he)
     ·exact e
    obtain⟨v0,o0⟩:∃v0:Value,v0= .int .i64 ((op[0]'(List.length_pos_iff.2 he):Nat):Int):=⟨_,rfl⟩;obtain⟨gf,cf,hu, -,s0,p8, -⟩:=Xh HN.out.1 (j:=0) (x:=v0) (by rw[List.getElem?_map,List.getElem?_map,List.getElem?_eq_getElem (List.length_pos_iff.2 he),o0];rfl);subst hu;have g5:(op.map fun(a:Nat)=>(a:Int)).length=op.length:=List.length_map _;have i7:E2 wr B gf cf op:=by have:=HN.out.1;rw[List.map_map,g5]at this;exact this
    rw[g5]at HN ⊢;obtain⟨vt,a7,b9⟩:=HI.out;obtain⟨tb,ct,rfl, -,p1,r5,cur,d9,q3,q7,g6,j5⟩:=Xh b9 (j:=0) (x:= .int .i64 (Bf (tt 0))) (by rw[List.getElem?_map,List.getElem?_range j9];rfl)
    have i5:Kj wr g tb j tt:=⟨ct,a7,cur,d9,fun k hk=>by
     have h1:=congrArg (fun l:List Value=>l[k]?) j5;simp only[List.getElem?_take,if_pos hk,List.getElem?_map,List.getElem?_range hk,Option.map_some]at h1;simpa using h1⟩
    have a9:tb≠gf:=fun e=>by
     have:=Pv HN.out.1 b9 (by decide) gf rfl
     exact this (by rw[e];rfl)
    have a8:=hI (Ai7 op B gf cf j g tb tt P b8 b5 j9 hm19 wr i7 i5 (by omega) a9);rw[←a5]at a8;have q1:=HB.out.size;clear o0 g5 i7 a7 b9 d9 q3 q7 g6 j5 i5 a9 a5 b8 b5 HE HN HI he r5;gi_wp2;refine⟨trivial, ?_⟩;refine(callsIn_wide.2 a8.out).mono ?_;rintro e w1 ⟨rfl,h1,h2,h3⟩;have d3:LL.length=op.length:=h2;rw[←d3];have a6:Hid (Below W.heap.size W w1):=HB.out.trans (h3.to_below (fun k hk=>by omega) q1);have m8:Hid (J 0 T0 w1):=o3.out _ _ _ _ H0.out (Bk a6.out);have i9:=hI h1;have r2:gf<w1.heap.size:=Nat.lt_of_lt_of_le p8 h3.size;have j3:Hid (¬T0 gf):=fun h=>by have:=p7.out _ h;omega
    have i3:LL.length<=19:=by
     have h1:=Hr (B8 (tAt n rs (Ae ys) a)) (fun i=>En now (tAt n rs (Ae ys) a i)) (Ae ys).length;have h2:=List.length_filter_le (fun i=>En now (tAt n rs (Ae ys) a i)) (List.range (Ae ys).length);rw[List.length_range,g1.out]at h2;rw[g7.out];unfold Jd;rw[h1,g1.out];omega
    clear h1 h2 h3 HB g9 d3 a8 d7;gi_wp2
    gi_loopw [11,42] (fun _ i wr=>∃(k:Nat) (T:Nat->Prop),i= .int .i64 (k:Int)/\k<=LL.length/\Hid (J k T wr)/\Hid (E2 wr B gf cf LL)/\Hid (¬T gf)) (fun _ i _=>LL.length-(intOf i).toNat)
    case atStart=>exact⟨0,T0,rfl,Nat.zero_le _,m8.out,i9.out,j3.out⟩
    case round=>
     obtain⟨k,T,rfl,hk,HJ,HO,HT⟩:=hrel;clear a6 m8 i9 j3;by_cases hkl:k<LL.length
     ·have q9:(k:Int)<(LL.length:Int):=by omega
      obtain⟨_,_,_,cur,hg,g6,ht⟩:=HO.out.block;have hx:LL[k]? =some (LL[k]'hkl):=List.getElem?_eq_getElem hkl;obtain⟨x,j6⟩:∃x,x=LL[k]'hkl:=⟨_,rfl⟩;rw[←j6]at hx;have cx:wr.cell? ⟨gf,k,none⟩=some (.int .i64 (x:Int)):=Ad hg (Nn ht k x hx);have q4:=lt_of_block hg;obtain⟨fn,tmps,assign,body,s2,hR⟩:=HY.out k T wr x hx HJ.out;have HR:=hI hR;clear hR j6 hx hg g6 ht;gi_wp2;refine HR.out.mono ?_;rintro e W3 ⟨rfl,T',m2,j8,m4⟩;have r6:=hI m2;have r7:=hI (HO.out.heap (j8.block gf q4 HT.out));have p9:Hid (¬T' gf):=fun h=>(m4 _ h).elim HT.out (by omega)
      clear m2 j8 m4;gi_wp2
      go_roundw
      case rel=>exact⟨k+1,T',by go_num,by omega,r6.out,r7.out,p9.out⟩
      case measure=>simp[intOf];omega
     ·obtain rfl:k=LL.length:=by omega
      gi_wp2
      go_end0
      exact⟨⟨_,rfl⟩,T,by rw[←g7.out];exact HJ.out⟩
end Go.Proofs.YtaglfmlgbcmakaaGreatDoor
