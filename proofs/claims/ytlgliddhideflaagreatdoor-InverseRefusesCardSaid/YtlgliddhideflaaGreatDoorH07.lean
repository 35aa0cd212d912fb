/-
  A region whose operations come in any order, many of them laying memory: what each operation's value is, said of each alone, whatever has come before.
  As AnyI, for regions whose operations have guards that are all met.
  Operations one by one: what each comes to (for a region whose order is drawn).
-/
import Derived.Test.YtlgliddhideflaaGreatDoorG33
import Derived.Test.YtlgliddhideflaaGreatDoorH05
set_option linter.all false
set_option maxRecDepth 100000
set_option maxHeartbeats 4000000
namespace Go.Proofs.YtlgliddhideflaaGreatDoor
open Go.RowKit Go.Shelf
def Kg (p:Nat->Bool):Nat->Nat
 |0=>0
 |n+1=>Kg p n+(if p n=true then 1 else 0)
theorem Qk {p q:Nat->Bool}:∀n,(∀j,j<n->q j=p j)->Kg q n=Kg p n
 |0,_=>rfl
 |n+1,h=>by unfold Kg;rw[Qk n fun j hj=>h j (by omega),h n (by omega)]
theorem Sv {p q:Nat->Bool}{i:Nat}(hp:p i=false)(hq:q i=true)(h:∀j,j≠i->q j=p j):∀n,i<n->Kg q n=Kg p n+1
 |0,hi=>by omega
 |n+1,hi=>by
  unfold Kg;by_cases e:i=n
  ·subst e;rw[Qk (p:=p) i fun j hj=>h j (by omega),hp,hq];simp
  ·rw[Sv hp hq h n (by omega),h n (Ne.symm e)];omega
theorem Wm (p:Nat->Bool):∀n,Kg p n<=n
 |0=>rr
 |n+1=>by unfold Kg;have:=Wm p n;split<;>omega
theorem Sw {p:Nat->Bool}:∀n,Kg p n=n→∀i,i<n->p i=true
 |0,_,i,hi=>by omega
 |n+1,h,i,hi=>by
  unfold Kg at h;have h1:=Wm p n;by_cases hn:p n=true
  ·rw[if_pos hn]at h;rcases Nat.lt_or_ge i n with h2|h2
   ·exact Sw n (by omega) i h2
   ·obtain rfl:i=n:=by omega
    exact hn
  ·rw[if_neg hn]at h;omega
section
variable {P:Program}{ops:Array Oper}{Q:Exit->Act->World->Prop}{md:Region.Mode}
def Db (ops:Array Oper)(i:Nat):Option Tmp:=(ops[i]?).bind (·.dst)
def Em (ops:Array Oper)(vs:Nat->Value):Nat->Array Value->Array Value
 |0,t=>t
 |n+1,t=>match Db ops n with|some d=>(Em ops vs n t).setIfInBounds d (vs n)|none=>Em ops vs n t
theorem F6 (vs:Nat->Value):∀(n:Nat) (t:Array Value),(Em ops vs n t).size=t.size
 |0,_=>rfl
 |n+1,t=>by
  unfold Em;split
  ·rw[Array.size_setIfInBounds,F6 vs n t]
  ·exact F6 vs n t
theorem Kz (vs:Nat->Value){s:Nat}:∀(n:Nat) (t:Array Value),(∀i,i<n->Db ops i≠some s)->(Em ops vs n t)[s]? =t[s]?
 |0,_,_=>rfl
 |n+1,t,h=>by
  unfold Em;have ih:=Kz vs n t fun i hi=>h i (by omega)
  split
  ·rename_i d hd
   have a0:d≠s:=fun e=>h n (by omega) (by rw[hd,e])
   rw[Array.getElem?_setIfInBounds_ne a0];exact ih
  ·exact ih
theorem L8 (hd:∀i j s,Db ops i=some s->Db ops j=some s->i=j)(vs:Nat->Value){i s:Nat}(hi:Db ops i=some s):∀(n:Nat) (t:Array Value),i<n->s<t.size->(Em ops vs n t)[s]? =some (vs i)
 |0,_,h,_=>by omega
 |n+1,t,h,hs=>by
  unfold Em;by_cases e:i=n
  ·subst e;rw[hi];show((Em ops vs i t).setIfInBounds s (vs i))[s]? =_;rw[Array.getElem?_setIfInBounds_self_of_lt (by rw[F6];exact hs)]
  ·have ih:=L8 hd vs hi n t (by omega) hs;split
   ·rename_i d hdn
    have a0:d≠s:=fun e'=>e (hd i n s hi (by rw[hdn,e']))
    rw[Array.getElem?_setIfInBounds_ne a0];exact ih
   ·exact ih
structure Zi (ops:Array Oper)(Φ:Nat->Value->World->Prop)(a0:Act)(w0:World)(vs:Nat->Value)(listed:Array Bool)(a:Act)(w:World):Prop where
 df:a.defers=a0.defers
 sz:a.tmps.size=a0.tmps.size
 ls:listed.size=ops.size
 other:∀s,(∀i,listed.getD i false=true->Db ops i≠some s)->a.tmps[s]? =a0.tmps[s]?
 at_:∀i s,listed.getD i false=true->Db ops i=some s->s<a0.tmps.size->a.tmps[s]? =some (vs i)
 is:∀i,listed.getD i false=true->Φ i (vs i) w
 bw:Below w0.heap.size w0 w
def Dk (md:Region.Mode)(ops:Array Oper)(Φ:Nat->Value->World->Prop)(a0:Act)(o:Oper)(a:Act)(w:World):Prop:=
 (∀j,(∃e∈o.after,Region.binds md e=true/\e.on=j)→∃v,Φ j v w∧∀s,Db ops j=some s->s<a0.tmps.size->a.tmps[s]? =some v)∧
 (∀s,(∀j,Db ops j≠some s)->a.tmps[s]? =a0.tmps[s]?)/\a.tmps.size=a0.tmps.size
theorem J6 {listed:Array Bool}{i:Nat}(h:i<listed.size)(d:Bool):(listed.setIfInBounds i true).getD i d=true:=by
 simp[Array.getD_eq_getD_getElem?,h]
theorem Xm (n m:Nat):Kg (fun i=>(Array.replicate m false).getD i false) n=0:=by
 induction n with
 |zero=>rfl
 |succ n ih=>
  unfold Kg;rw[ih]
  have:(Array.replicate m false).getD n false=false:=by
   simp only[Array.getD_eq_getD_getElem?,Array.getElem?_replicate];split<;>rfl
  rw[this];rfl
end
section
variable {P:Program}{ops:Array Oper}{Q:Exit->Act->World->Prop}{md:Region.Mode}
theorem Zh (Φ:Nat->Value->World->Prop)(a0:Act)(w0:World)
  (hmono:∀j v w w',Φ j v w->Below w.heap.size w w'->Φ j v w')
  (hd:∀i j s,Db ops i=some s->Db ops j=some s->i=j)
  (hg:∀(i:Nat) (o:Oper),ops[i]? =some o→∀a w,Dk md ops Φ a0 o a w->Below w0.heap.size w0 w->Region.wanted o (yielded ops a.tmps)=true)
  (hac:∀(i:Nat) (o:Oper),ops[i]? =some o→∀e∈o.after,Region.binds md e=true->e.on<i)
  (H:∀(i:Nat) (o:Oper),ops[i]? =some o→∀a w,Dk md ops Φ a0 o a w->Below w0.heap.size w0 w->o.wp P a w (fun a' w'=>∃v,a'=a.put o.dst v/\Φ i v w'/\Below w.heap.size w w') Q)
  (hQ:∀vs w',(∀i,i<ops.size->Φ i (vs i) w')->Below w0.heap.size w0 w'->Q .normal {a0 with tmps:=Em ops vs ops.size a0.tmps} w'):
  ∀fuel vs listed a w,Zi ops Φ a0 w0 vs listed a w->Kg (fun i=>listed.getD i false) ops.size+fuel=ops.size->wpAny P md ops Q fuel listed a w:=by
 -- all are listed: the end
 have a6:∀vs listed a w,Zi ops Φ a0 w0 vs listed a w->(∀i,i<ops.size->listed.getD i false=true)->Q .normal a w:=by
  intro vs listed a w hI a1;have h:=hQ vs w (fun i hi=>hI.is i (a1 i hi)) hI.bw
  have ha:a={a0 with tmps:=Em ops vs ops.size a0.tmps}:=by
   obtain⟨t,df⟩:=a;have h1:df=a0.defers:=hI.df
   have h2:t=Em ops vs ops.size a0.tmps:=by
    apply Array.ext_getElem?;intro s;by_cases hs:∃i,i<ops.size/\Db ops i=some s
    ·obtain⟨i,hi,b2⟩:=hs;rcases Nat.lt_or_ge s a0.tmps.size with a2|a9
     ·rw[L8 hd vs b2 _ _ hi a2];exact hI.at_ i s (a1 i hi) b2 a2
     ·have h3:(Em ops vs ops.size a0.tmps)[s]? =none:=Array.getElem?_eq_none (by rw[F6];exact a9);have h4:t.size=a0.tmps.size:=hI.sz;rw[h3,Array.getElem?_eq_none (by omega)]
    ·rw[Kz vs _ _ fun i hi e=>hs ⟨i,hi,e⟩]
     refine hI.other s fun i hl e=>hs ⟨i, ?_,e⟩
     rcases Nat.lt_or_ge i ops.size with a2|a9
     ·exact a2
     ·unfold Db at e;rw[Array.getElem?_eq_none a9]at e;cases e
   rw[h1,h2]
  rw[ha];exact h
 -- nothing is ready: all are listed
 have a3:∀listed:Array Bool,listed.size=ops.size->Region.ready md ops listed=[]→∀i,i<ops.size->listed.getD i false=true:=by
  intro listed b4 h0 i
  induction i using Nat.strongRecOn with
  |_ i ih=>
   intro hi
   cases hb:listed.getD i false with
   |true=>rfl
   |false=>
    exfalso;have ho:ops[i]? =some ops[i]:=Array.getElem?_eq_getElem hi
    have hm:i∈Region.ready md ops listed:=mem_ready.2 ⟨by
     have a4:i<listed.size:=by omega
     simp only[Array.getD_eq_getD_getElem?,Array.getElem?_eq_getElem a4,Option.getD_some]at hb ⊢
     exact hb,ops[i],ho,fun e he hbnd_=>by
      have h1:=hac i _ ho e he hbnd_;exact ih e.on h1 (by omega)⟩
    rw[h0]at hm;cases hm
 intro fuel
 induction fuel with
 |zero=>
  intro vs listed a w hI hc;have a1:=Sw ops.size (by omega:Kg (fun i=>listed.getD i false) ops.size=ops.size);refine⟨?_,a6 vs listed a w hI a1⟩;apply List.eq_nil_iff_forall_not_mem.2;intro i hi;obtain⟨h1,o,ho,_⟩:=mem_ready.1 hi;have a2:i<ops.size:=(Array.getElem?_eq_some_iff.1 ho).1;have h2:=a1 i a2;have a4:i<listed.size:=by rw[hI.ls];exact a2
  simp only[Array.getD_eq_getD_getElem?,Array.getElem?_eq_getElem a4,Option.getD_some]at h1 h2;rw[h1]at h2;cases h2
 |succ fuel ih=>
  intro vs listed a w hI hc;refine⟨fun h0=>a6 vs listed a w hI (a3 listed hI.ls h0),fun i hi=> ?_⟩
  obtain⟨h1,o,ho,b0⟩:=mem_ready.1 hi;have a2:i<ops.size:=(Array.getElem?_eq_some_iff.1 ho).1;have a4:i<listed.size:=by rw[hI.ls];exact a2
  have b1:listed.getD i false=false:=by
   simp only[Array.getD_eq_getD_getElem?,Array.getElem?_eq_getElem a4,Option.getD_some]at h1 ⊢;exact h1
  have a5:Dk md ops Φ a0 o a w:=⟨fun j ⟨e,he,hb,hej⟩=>by
   have hl:listed.getD j false=true:=by rw[←hej];exact b0 e he hb
   exact⟨vs j,hI.is j hl,fun s hs hlt'=>hI.at_ j s hl hs hlt'⟩,fun s hs=>hI.other s fun j _=>hs j,hI.sz⟩
  have hw:=hg i o ho a w a5 hI.bw;unfold wpOp;rw[ho];simp only[hw,if_true];left;refine Oper.wp_mono (fun a' w' h=> ?_) (H i o ho a w a5 hI.bw)
  ·obtain⟨v,rfl,hv,hb⟩:=h;have a8:Db ops i=o.dst:=by unfold Db;rw[ho];rfl
   have a7:∀j,j≠i->(listed.setIfInBounds i true).getD j false=listed.getD j false:=fun j hj=>getD_set_ne false (Ne.symm hj)
   refine ih (fun j=>if j=i then v else vs j) _ _ _ ⟨?_, ?_,by rw[Array.size_setIfInBounds];exact hI.ls,fun s hs=> ?_,fun j s hj hjs hlt'=> ?_,fun j hj=> ?_,hI.bw.trans (hb.mono hI.bw.size)⟩ ?_
   ·unfold Act.put;split<;>exact hI.df
   ·unfold Act.put;split
    ·show(a.tmps.setIfInBounds _ v).size=_;rw[Array.size_setIfInBounds];exact hI.sz
    ·exact hI.sz
   ·have b3:o.dst≠some s:=by rw[←a8];exact hs i (J6 a4 false)
    have h2:=hI.other s fun j hj=>by
     by_cases e:j=i
     ·subst e;rw[b1]at hj;cases hj
     ·exact hs j (by rw[a7 j e];exact hj)
    unfold Act.put;split
    ·rename_i d hdd
     have:d≠s:=fun e=>b3 (by rw[hdd,e])
     show(a.tmps.setIfInBounds d v)[s]? =_;rw[Array.getElem?_setIfInBounds_ne this];exact h2
    ·exact h2
   ·by_cases e:j=i
    ·subst e;rw[a8]at hjs;simp only[if_true];unfold Act.put;rw[hjs];show(a.tmps.setIfInBounds s v)[s]? =some v;rw[Array.getElem?_setIfInBounds_self_of_lt (by rw[hI.sz];exact hlt')]
    ·rw[a7 j e]at hj;have h2:=hI.at_ j s hj hjs hlt';simp only[if_neg e];unfold Act.put;split
     ·rename_i d hdd
      have:d≠s:=fun e'=>e (hd j i s hjs (by rw[a8,hdd,e']))
      show(a.tmps.setIfInBounds d v)[s]? =_;rw[Array.getElem?_setIfInBounds_ne this];exact h2
     ·exact h2
   ·by_cases e:j=i
    ·subst e;simp only[if_true];exact hv
    ·rw[a7 j e]at hj;simp only[if_neg e];exact hmono j _ _ _ (hI.is j hj) hb
   ·rw[Sv (p:=fun j=>listed.getD j false) b1 (J6 a4 false) (fun j hj=>a7 j hj) ops.size a2];omega
def Ut (ops:Array Oper):Bool:=(List.range ops.size).all fun i=>match ops[i]? with
 |none=>false
 |some o=>(o.after.all fun e=>(!Region.binds .any e||decide (e.on<i))) && (o.dst.isNone||(List.range i).all fun j=> !(Db ops j==o.dst))
theorem Mq (h:Ut ops=true):(∀i j s,Db ops i=some s->Db ops j=some s->i=j)∧∀(i:Nat) (o:Oper),ops[i]? =some o→∀e∈o.after,Region.binds .any e=true->e.on<i:=by
 have key:∀(i:Nat) (o:Oper),ops[i]? =some o->(∀e∈o.after,Region.binds .any e=true->e.on<i)/\(∀s,o.dst=some s→∀j,j<i->Db ops j≠some s):=fun i o ho=>by
  have hi:i<ops.size:=(Array.getElem?_eq_some_iff.1 ho).1;have h1:=List.all_eq_true.1 h i (List.mem_range.2 hi);rw[ho]at h1;simp only[Bool.and_eq_true,Bool.or_eq_true]at h1;obtain⟨h3,h4⟩:=h1;refine⟨fun e he hbd=>by have h:=Array.all_eq_true'.1 h3 e he;rw[hbd]at h;simpa using h,fun s hs j hj e=> ?_⟩
  rcases h4 with h4|h4
  ·rw[hs]at h4;cases h4
  ·have h5:=List.all_eq_true.1 h4 j (List.mem_range.2 hj);rw[e,hs]at h5;simp at h5
 refine⟨fun i j s hi hj=> ?_,fun i o ho=>(key i o ho).1⟩
 have hw:∀i s,Db ops i=some s→∃o,ops[i]? =some o/\o.dst=some s:=fun i s h=>by
  unfold Db at h
  cases ho:ops[i]? with
  |none=>rw[ho]at h;cases h
  |some o=>rw[ho]at h;exact⟨o,rfl,h⟩
 obtain⟨oi,h1,h2⟩:=hw i s hi;obtain⟨oj,h3,h4⟩:=hw j s hj;rcases Nat.lt_trichotomy i j with h5|h5|h5
 ·exact absurd hi ((key j oj h3).2 s h4 i h5)
 ·exact h5
 ·exact absurd hj ((key i oi h1).2 s h2 j h5)
theorem Su {id:Nat}(hm:P.follows .mixedOrders=true)(hok:Ut ops=true)(Φ:Nat->Value->World->Prop)(a0:Act)(w:World)
  (hmono:∀j v w w',Φ j v w->Below w.heap.size w w'->Φ j v w')
  (hg:∀(i:Nat) (o:Oper),ops[i]? =some o→∀a w',Dk .any ops Φ a0 o a w'->Below w.heap.size w w'->Region.wanted o (yielded ops a.tmps)=true)
  (H:∀(i:Nat) (o:Oper),ops[i]? =some o→∀a w',Dk .any ops Φ a0 o a w'->Below w.heap.size w w'->o.wp P a w' (fun a' w''=>∃v,a'=a.put o.dst v/\Φ i v w''/\Below w'.heap.size w' w'') Q)
  (hQ:∀vs w',(∀i,i<ops.size->Φ i (vs i) w')->Below w.heap.size w w'->Q .normal {a0 with tmps:=Em ops vs ops.size a0.tmps} w'):(Code.region id ops true).wp P Q a0 w:=by
 obtain⟨hd,a2⟩:=Mq hok;have a1:Below w.heap.size w w.drew:=(Below.refl _ _).drew;refine wp_region_any hm (Zh Φ a0 w.drew hmono hd (fun i o ho a w' ha hb=>hg i o ho a w' ha (a1.trans hb)) a2 (fun i o ho a w' ha hb=>H i o ho a w' ha (a1.trans hb)) (fun vs w' h hb=>hQ vs w' h (a1.trans hb)) ops.size (fun _=>undef) _ a0 w.drew ⟨rfl,rfl,by simp,fun s _=>rfl,fun i s h=> ?_,fun i h=> ?_,Below.refl _ _⟩ (by rw[Xm];omega))
 ·simp only[Array.getD_eq_getD_getElem?,Array.getElem?_replicate]at h;split at h<;>cases h
 ·simp only[Array.getD_eq_getD_getElem?,Array.getElem?_replicate]at h;split at h<;>cases h
end
section
variable {o:Oper}{a:Act}{w:World}{K:Act->World->Prop}{Q:Exit->Act->World->Prop}
theorem Ez {v:Value}{w':World}(hr:(execOp a.eval o).run Tryz.prog w= .ok (.value v) w')(h:K (a.put o.dst v) w'):o.wp Tryz.prog a w K Q:=by
 unfold Oper.wp;rw[hr];exact h
theorem Ch (x:Operand)(hop:o.op= .move x){v:Value}(hv:a.eval x=v)(h:K (a.put o.dst v) w):o.wp Tryz.prog a w K Q:=
 Ez (by unfold execOp;simp only[hop,hv];go_simp) h
theorem Uo (x:Operand)(hop:o.op= .assign x){v:Value}(hv:a.eval x=v)(h:K (a.put o.dst v) w):o.wp Tryz.prog a w K Q:=
 Ez (by unfold execOp;simp only[hop,hv];go_simp) h
theorem D4 (c x y:Operand)(hop:o.op= .pick c x y){v:Value}(hc:a.eval c= .bool true)(hv:a.eval x=v)(h:K (a.put o.dst v) w):o.wp Tryz.prog a w K Q:=
 Ez (by unfold execOp;simp only[hop,hc,hv];go_simp) h
theorem Hj (x y:Operand)(T T':TypeId)(hop:o.op= .binOp .eql T x y T')(hT:T=3\/T=37){i:Int}(hx:a.eval x= .int .i64 i)(hy:a.eval y= .int .i64 i)(h:K (a.put o.dst (.bool true)) w):o.wp Tryz.prog a w K Q:=
 Ez (by
  have hi:(i==i)=true:=by simp
  unfold execOp;simp only[hop,hx,hy];rcases hT with rfl|rfl<;>go_simp) h
theorem Ab3 (x:Nat)(hop:o.op= .call {callee:= .builtin .len,args:= #[.tmp x],argTypes:= #[47]}){A:Option Addr}{n c:Nat}(hx:a.tmps[x]? =some (.slice A n c))(h:K (a.put o.dst (.int .i64 n)) w):o.wp Tryz.prog a w K Q:=
 Ez (by unfold execOp;simp only[hop];go_simp) h
theorem Dj (x:Operand)(hop:o.op= .load 24 x){b:Nat}{p m:Int}(hx:a.eval x= .pointer (some ⟨b,0,none⟩))(h0:w.cell? ⟨b,0,none⟩=some (.int .u32 p))(h1:w.cell? ⟨b,1,none⟩=some (.int .u32 m))(h:K (a.put o.dst (.agg #[.int .u32 p, .int .u32 m])) w):o.wp Tryz.prog a w K Q:=
 Ez (by unfold execOp;simp only[hop,hx];go_simp) h
theorem Rl (x:Operand)(hop:o.op= .load 32 x){ad:Addr}{v:Value}(hx:a.eval x= .pointer (some ad))(h0:w.cell? ad=some v)(h:K (a.put o.dst v) w):o.wp Tryz.prog a w K Q:=
 Ez (by unfold execOp;simp only[hop,hx];go_simp) h
theorem Pu (x:Operand)(hop:o.op= .indexAddr 47 x (.const (.int .i64 0))){b off c:Nat}(hx:a.eval x= .slice (some ⟨b,off,none⟩) 1 c)(h:K (a.put o.dst (.pointer (some ⟨b,off,none⟩))) w):o.wp Tryz.prog a w K Q:=
 Ez (by unfold execOp;simp only[hop,hx];go_simp) h
theorem Pv (x:Operand)(j:Nat)(hop:o.op= .fieldAddr 52 x j){b off:Nat}(hj:j=0\/j=1)(hx:a.eval x= .pointer (some ⟨b,off,none⟩))(h:K (a.put o.dst (.pointer (some ⟨b,off+j,none⟩))) w):o.wp Tryz.prog a w K Q:=
 Ez (by unfold execOp;simp only[hop,hx];rcases hj with rfl|rfl<;>go_simp) h
theorem Ab4 (hop:o.op= .buildSlice 32 0 #[])(h:K (a.put o.dst (.slice (some ⟨w.heap.size,0,none⟩) 0 0)) (w.alloc (.cells (Bc []).toArray 24))):o.wp Tryz.prog a w K Q:=
 Ez (by unfold execOp;simp only[hop];go_simp;rfl) h
theorem Up (x:Nat)(hop:o.op= .buildSlice 32 1 #[(0, .tmp x)]){s:Snd}(hx:a.tmps[x]? =some (.agg #[.int .u32 s.1, .int .u32 s.2]))(h:K (a.put o.dst (.slice (some ⟨w.heap.size,0,none⟩) 1 1)) (w.alloc (.cells (Bc [s]).toArray 24))):o.wp Tryz.prog a w K Q:=
 Ez (by unfold execOp;simp only[hop];go_simp;rfl) h
theorem L7 (x y z:Nat)(hop:o.op= .buildSlice 32 3 #[(0, .tmp x),(1, .tmp y),(2, .tmp z)]){s t u:Snd}(hx:a.tmps[x]? =some (.agg #[.int .u32 s.1, .int .u32 s.2]))(hy:a.tmps[y]? =some (.agg #[.int .u32 t.1, .int .u32 t.2]))(hz:a.tmps[z]? =some (.agg #[.int .u32 u.1, .int .u32 u.2]))(h:K (a.put o.dst (.slice (some ⟨w.heap.size,0,none⟩) 3 3)) (w.alloc (.cells (Bc [s,t,u]).toArray 24))):o.wp Tryz.prog a w K Q:=
 Ez (by unfold execOp;simp only[hop];go_simp;rfl) h
theorem Ab5 (x y:Nat)(hop:o.op= .buildSlice 46 2 #[(0, .tmp x),(1, .tmp y)]){p q:Part}(hx:a.tmps[x]? =some (.slice p.1 p.2.1 p.2.2.1))(hy:a.tmps[y]? =some (.slice q.1 q.2.1 q.2.2.1))(h:K (a.put o.dst (.slice (some ⟨w.heap.size,0,none⟩) 2 2)) (w.alloc (.cells ([p,q].map Part.val).toArray 32))):o.wp Tryz.prog a w K Q:=
 Ez (by unfold execOp;simp only[hop];go_simp;rfl) h
theorem Ab6 (x y z:Nat)(hop:o.op= .buildSlice 46 3 #[(0, .tmp x),(1, .tmp y),(2, .tmp z)]){p q r:Part}(hx:a.tmps[x]? =some (.slice p.1 p.2.1 p.2.2.1))(hy:a.tmps[y]? =some (.slice q.1 q.2.1 q.2.2.1))(hz:a.tmps[z]? =some (.slice r.1 r.2.1 r.2.2.1))(h:K (a.put o.dst (.slice (some ⟨w.heap.size,0,none⟩) 3 3)) (w.alloc (.cells ([p,q,r].map Part.val).toArray 32))):o.wp Tryz.prog a w K Q:=
 Ez (by unfold execOp;simp only[hop];go_simp;rfl) h
theorem J2 (F:Nat)(x y:Nat)(T:Array TypeId)(hop:o.op= .call {callee:= .value (.func F),args:= #[.tmp x, .tmp y],argTypes:=T}){u v:Value}(hx:a.tmps[x]? =some (u))(hy:a.tmps[y]? =some (v)){r:Value}(hE:Enters Tryz.prog F)(h:Calls Tryz.prog F #[u,v] w fun e w'=>e= .returned r/\Below w.heap.size w w')(hK:∀w',Below w.heap.size w w'->K (a.put o.dst r) w'):o.wp Tryz.prog a w K Q:=by
 unfold Enters at hE;unfold Oper.wp;rw[show(execOp a.eval o).run Tryz.prog w= .ok (.enter F #[u,v]) w from by unfold execOp;simp only[hop];go_simp];rw[Oper.upon_enter];refine h.mono ?_;rintro e w' ⟨rfl,hb⟩;exact hK w' hb
def Mp (ops:Array Oper)(i j:Nat):Bool:=((ops[i]?.map fun o=>o.after.any fun e=>Region.binds .any e && e.on==j).getD false)
theorem Ab7 {ops:Array Oper}{Φ:Nat->Value->World->Prop}{i:Nat}(j s:Nat){a0:Act}(ho:ops[i]? =some o)(hs:Dk .any ops Φ a0 o a w)(hj:Mp ops i j=true)(hd:Db ops j=some s)(hz:s<a0.tmps.size):∃v,Φ j v w/\a.tmps[s]? =some v/\a.eval (.tmp s)=v:=by
 unfold Mp at hj;rw[ho]at hj;simp only[Option.map_some,Option.getD_some]at hj;obtain⟨e,he,hb⟩:=Array.any_eq_true'.1 hj;simp only[Bool.and_eq_true,beq_iff_eq]at hb;obtain⟨v,h1,h2⟩:=hs.1 j ⟨e,he,hb⟩;have h3:=h2 s hd hz;exact⟨v,h1,h3,by simp[Act.eval,h3]⟩
end
end Go.Proofs.YtlgliddhideflaaGreatDoor
