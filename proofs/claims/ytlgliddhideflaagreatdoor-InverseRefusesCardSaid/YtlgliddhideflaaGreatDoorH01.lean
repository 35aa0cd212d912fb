/-
  Words of an alphabet (chapter 11), in plain words: the order of sounds, all words of some sounds in order, and how one goes from one to the next.
  Lists in order (chapter 11), in plain words: sounds that are sorted, words in the order of the chapter, lists with one more that are in order.
  Words that laws turn into others (chapter 11), in plain words.
  What the statements of chapter 11 ask, in plain words: pairs of words that become the same; all words by their numbers.
  Chapter 11, in plain words: few words, one law alone, no laws.
  The alphabets, words and laws that the statements of chapter 11 use, in plain words.
  What Image, Lost and Fixed come to (chapter 11), in plain words.
  cmp.Compare, cmp.Or and feats.Order, with how the world grows; slices.Contains over sounds.
  word.Order; how inverse.Image compares words.
-/
import Derived.Sort.Grow
import Derived.Deep.Draws
import Derived.Sort.Statements
import Derived.Shelf.SlSortCmp.NoneTotal
import Derived.Test.YtlgliddhideflaaGreatDoorG23
set_option linter.all false
set_option maxRecDepth 100000
set_option maxHeartbeats 4000000
namespace Go.Proofs.YtlgliddhideflaaGreatDoor
open Go.RowKit Go.Shelf
def Fa (a b:Snd):Bool:=decide (a.1<b.1)||(decide (a.1=b.1) && decide (a.2<b.2))
def Cp (l:List Snd):Nat->List (List Snd)
 |0=>[[]]
 |n+1=>(Cp l n).flatMap fun v=>l.map fun s=>v++[s]
theorem Gx (l:List Snd)(n:Nat):(Cp l n).length=l.length^n:=by
 induction n with
 |zero=>rfl
 |succ n ih=>
  rw[Cp,List.length_flatMap,Nat.pow_succ,←ih];simp only[List.length_map];generalize Cp l n=L
  induction L with
  |nil=>simp
  |cons x r ih=>simp[ih,Nat.succ_mul];omega
def E0 (k:Nat)(p:List Nat):Nat:=p.foldl (fun a d=>a*k+d) 0
theorem E2 (k:Nat)(p:List Nat)(d:Nat):E0 k (p++[d])=E0 k p*k+d:=by simp[E0]
theorem Nw {α β:Type}(f:α->List β)(m:Nat):∀(l:List α),(∀x∈l,(f x).length=m)→∀(i d:Nat) (x:α),l[i]? =some x->d<m->(l.flatMap f)[i*m+d]? =(f x)[d]?
 |[],_,i,d,x,h,_=>by simp at h
 |y::r,hl,i,d,x,h,hd=>by
  rw[List.flatMap_cons]
  cases i with
  |zero=>
   obtain rfl:y=x:=by simpa using h
   rw[Nat.zero_mul,Nat.zero_add,List.getElem?_append_left (by rw[hl y List.mem_cons_self];exact hd)]
  |succ i=>
   rw[List.getElem?_append_right (by rw[hl y List.mem_cons_self,Nat.succ_mul];omega),hl y List.mem_cons_self,show(i+1)*m+d-m=i*m+d by rw[Nat.succ_mul];omega];exact Nw f m r (fun z hz=>hl z (List.mem_cons_of_mem _ hz)) i d x (by simpa using h) hd
def Nx (l:List Snd)(p:List Nat):List Snd:=p.map fun d=>l.getD d (0,0)
theorem Ny (l:List Snd):∀(n:Nat) (p:List Nat),p.length=n->(∀d∈p,d<l.length)->(Cp l n)[E0 l.length p]? =some (Nx l p)
 |0,p,hp,_=>by
  have:p=[]:=List.eq_nil_of_length_eq_zero hp
  subst this;rfl
 |n+1,p,hp,hd=>by
  have a1:p≠ []:=fun e=>by rw[e]at hp;cases hp
  obtain⟨q,d,rfl⟩:∃q d,p=q++[d]:=⟨p.dropLast,p.getLast a1,(List.dropLast_concat_getLast a1).symm⟩;have hq:q.length=n:=by simpa using hp
  have a0:d<l.length:=hd d (by simp);have ih:=Ny l n q hq fun x hx=>hd x (List.mem_append.2 (.inl hx))
  rw[Cp,E2,Nw _ l.length _ (fun x _=>by simp) _ _ _ ih a0,List.getElem?_map,List.getElem?_eq_getElem a0];simp[Nx,List.getD_eq_getElem?_getD,List.getElem?_eq_getElem a0]
theorem Wu {k:Nat}:∀(n:Nat) (p:List Nat),p.length=n->(∀d∈p,d<k)->E0 k p<k^n
 |0,p,hp,_=>by
  have:p=[]:=List.eq_nil_of_length_eq_zero hp
  subst this;simp[E0]
 |n+1,p,hp,hd=>by
  have a0:p≠ []:=fun e=>by rw[e]at hp;cases hp
  obtain⟨q,d,rfl⟩:∃q d,p=q++[d]:=⟨p.dropLast,p.getLast a0,(List.dropLast_concat_getLast a0).symm⟩;have hq:q.length=n:=by simpa using hp
  have a1:d<k:=hd d (by simp);have ih:=Wu n q hq fun x hx=>hd x (List.mem_append.2 (.inl hx))
  rw[E2,Nat.pow_succ]
  calc E0 k q*k+d<E0 k q*k+k:=by omega
   _=(E0 k q+1)*k:=by rw[Nat.succ_mul]
   _<=k^n*k:=Nat.mul_le_mul_right _ ih
theorem Qr (k n:Nat):E0 k (List.replicate n 0)=0:=by
 induction n with
 |zero=>rfl
 |succ n ih=>rw[List.replicate_succ',E2,ih];simp
theorem Vj (k m:Nat)(p:List Nat):E0 k (p++List.replicate m 0)=E0 k p*k^m:=by
 induction m with
 |zero=>simp
 |succ m ih=>rw[List.replicate_succ',←List.append_assoc,E2,ih,Nat.pow_succ,Nat.add_zero,Nat.mul_assoc]
def Back (k n:Nat)(p:List Nat)(i:Nat)(q:List Nat):Prop:=i<=n/\q=p.take i++List.replicate (n-i) 0/\E0 k p+1=(E0 k (p.take i)+1)*k^(n-i)
theorem Back.start {k n:Nat}{p:List Nat}(hp:p.length=n):Back k n p n p:=⟨rr,by rw[Nat.sub_self,←hp,List.take_length];simp,by rw[Nat.sub_self,←hp,List.take_length];simp⟩
theorem Back.digit {k n:Nat}{p:List Nat}{i:Nat}{q:List Nat}(h:Back k n p (i+1) q)(hp:p.length=n):q[i]? =p[i]? :=by
 obtain⟨h1,rfl,_⟩:=h;rw[List.getElem?_append_left (by rw[List.length_take];omega),List.getElem?_take_of_lt (by omega)]
theorem Back.step {k n:Nat}{p:List Nat}{i d:Nat}{q:List Nat}(h:Back k n p (i+1) q)(hp:p.length=n)(hd:p[i]? =some d)(hk:d+1=k):Back k n p i (q.set i 0):=by
 obtain⟨h1,rfl,h2⟩:=h;have ht:p.take (i+1)=p.take i++[d]:=Ba p i d hd;refine⟨by omega, ?_, ?_⟩
 ·rw[ht,List.append_assoc,List.set_append_right _ _ (by rw[List.length_take];omega),List.length_take,Nat.min_eq_left (by omega),Nat.sub_self];rw[show n-i=(n-(i+1))+1 by omega,List.replicate_succ];rfl
 ·rw[h2,ht,E2,show E0 k (p.take i)*k+d+1=(E0 k (p.take i)+1)*k by rw[Nat.succ_mul];omega,show n-i=(n-(i+1))+1 by omega,Nat.pow_succ',Nat.mul_assoc]
theorem Back.next {k n:Nat}{p:List Nat}{i d:Nat}{q:List Nat}(h:Back k n p (i+1) q)(hp:p.length=n)(hd:p[i]? =some d)(hall:∀x∈p,x<k)(hk:d+1<k):
  (q.set i (d+1)).length=n/\(∀x∈q.set i (d+1),x<k)/\E0 k (q.set i (d+1))=E0 k p+1:=by
 obtain⟨h1,rfl,h2⟩:=h;have ht:p.take (i+1)=p.take i++[d]:=Ba p i d hd
 have hs:(p.take (i+1)++List.replicate (n-(i+1)) 0).set i (d+1)=(p.take i++[d+1])++List.replicate (n-(i+1)) 0:=by
  rw[ht,List.append_assoc,List.set_append_right _ _ (by rw[List.length_take];omega),List.length_take,Nat.min_eq_left (by omega),Nat.sub_self,List.append_assoc];rfl
 rw[hs];refine⟨?_,fun x hx=> ?_, ?_⟩
 ·simp;omega
 ·rcases List.mem_append.1 hx with hx|hx
  ·rcases List.mem_append.1 hx with hx|hx
   ·exact hall x (List.mem_of_mem_take hx)
   ·have:x=d+1:=by simpa using hx
    omega
  ·have:=List.eq_of_mem_replicate hx;omega
 ·rw[Vj,E2,h2,ht,E2,Nat.add_assoc]
theorem Back.last {k n:Nat}{p q:List Nat}(h:Back k n p 0 q):E0 k p+1=k^n:=by
 obtain⟨_,_,h2⟩:=h;rw[h2];simp[E0]
section
variable {α:Type}
structure Gh (lt:α->α->Bool):Prop where
 irr:∀a,lt a a=false
 tr:∀a b c,lt a b=true->lt b c=true->lt a c=true
 tot:∀a b,lt a b=false->lt b a=false->a=b
theorem Gi {lt:α->α->Bool}(h:Gh lt):∀xs ys:List α,xs.Pairwise (fun a b=>lt a b=true)->ys.Pairwise (fun a b=>lt a b=true)->(∀a,a∈xs↔a∈ys)->xs=ys
 |[],[],_,_,_=>rfl
 |[],y::ys,_,_,hm=>by have:=(hm y).2 List.mem_cons_self;cases this
 |x::xs,[],_,_,hm=>by have:=(hm x).1 List.mem_cons_self;cases this
 |x::xs,y::ys,hx,hy,hm=>by
  rw[List.pairwise_cons]at hx hy
  have a0:x=y:=by
   rcases List.mem_cons.1 ((hm x).1 List.mem_cons_self)with e|e
   ·exact e
   ·rcases List.mem_cons.1 ((hm y).2 List.mem_cons_self)with e'|e'
    ·exact e'.symm
    ·have h1:=hy.1 x e;have h2:=hx.1 y e';have h3:=h.tr _ _ _ h1 h2;rw[h.irr]at h3;cases h3
  subst a0;congr 1;refine Gi h xs ys hx.2 hy.2 fun a=>⟨fun ha=> ?_,fun ha=> ?_⟩
  ·rcases List.mem_cons.1 ((hm a).1 (List.mem_cons_of_mem _ ha))with e|e
   ·subst e;have:=hx.1 a ha;rw[h.irr]at this;cases this
   ·exact e
  ·rcases List.mem_cons.1 ((hm a).2 (List.mem_cons_of_mem _ ha))with e|e
   ·subst e;have:=hy.1 a ha;rw[h.irr]at this;cases this
   ·exact e
def N0 (lt:α->α->Bool) [DecidableEq α](x:α):List α->List α
 |[]=>[x]
 |y::r=>if lt y x=true then y::N0 lt x r else if y=x then y::r else x::y::r
variable [DecidableEq α]
theorem N1 (lt:α->α->Bool)(x a:α):∀l:List α,a∈N0 lt x l↔a=x\/a∈l
 |[]=>by simp[N0]
 |y::r=>by
  unfold N0;split
  ·rw[List.mem_cons,N1 lt x a r,List.mem_cons];constructor
   ·rintro(h|h|h)
    ·exact .inr (.inl h)
    ·exact .inl h
    ·exact .inr (.inr h)
   ·rintro(h|h|h)
    ·exact .inr (.inl h)
    ·exact .inl h
    ·exact .inr (.inr h)
  ·split
   ·rename_i h;subst h
    rw[List.mem_cons];constructor
    ·exact fun h=> .inr h
    ·rintro(h|h)
     ·exact .inl h
     ·exact h
   ·rw[List.mem_cons]
theorem Mw {lt:α->α->Bool}(h:Gh lt)(x:α):∀l:List α,l.Pairwise (fun a b=>lt a b=true)->(N0 lt x l).Pairwise (fun a b=>lt a b=true)
 |[],_=>by simp[N0]
 |y::r,hl=>by
  rw[List.pairwise_cons]at hl;unfold N0;split
  ·rename_i h1
   rw[List.pairwise_cons];refine⟨fun a ha=> ?_,Mw h x r hl.2⟩
   rcases(N1 lt x a r).1 ha with e|e
   ·rw[e];exact h1
   ·exact hl.1 a e
  ·split
   ·rw[List.pairwise_cons];exact hl
   ·rename_i h1 h2
    have a0:lt x y=true:=by
     cases hb:lt x y with
     |true=>rfl
     |false=>exact absurd (h.tot y x (by simpa using h1) hb) h2
    rw[List.pairwise_cons];refine⟨fun a ha=> ?_,by rw[List.pairwise_cons];exact hl⟩
    rcases List.mem_cons.1 ha with e|e
    ·rw[e];exact a0
    ·exact h.tr _ _ _ a0 (hl.1 a e)
def Rz (lt:α->α->Bool)(l:List α):List α:=l.foldl (fun out x=>N0 lt x out) []
theorem Kj {lt:α->α->Bool}(h:Gh lt):∀(l out:List α),out.Pairwise (fun a b=>lt a b=true)->(l.foldl (fun out x=>N0 lt x out) out).Pairwise (fun a b=>lt a b=true)∧∀a,a∈l.foldl (fun out x=>N0 lt x out) out↔a∈l\/a∈out
 |[],out,ho=>⟨ho,fun a=>by simp⟩
 |x::l,out,ho=>by
  obtain⟨h1,h2⟩:=Kj h l (N0 lt x out) (Mw h x out ho);refine⟨h1,fun a=> ?_⟩
  rw[List.foldl_cons,h2,N1,List.mem_cons];constructor
  ·rintro(e|e|e)
   ·exact .inl (.inr e)
   ·exact .inl (.inl e)
   ·exact .inr e
  ·rintro((e|e)|e)
   ·exact .inr (.inl e)
   ·exact .inl e
   ·exact .inr (.inr e)
theorem Jm {lt:α->α->Bool}(h:Gh lt)(l:List α):(Rz lt l).Pairwise (fun a b=>lt a b=true):=(Kj h l [] List.Pairwise.nil).1
theorem N2 {lt:α->α->Bool}(h:Gh lt)(l:List α)(a:α):a∈Rz lt l↔a∈l:=by
 have:=(Kj h l [] List.Pairwise.nil).2 a
 rw[Rz,this];simp
def Bf:List α->List α
 |[]=>[]
 |[x]=>[x]
 |x::y::r=>if x=y then Bf (y::r)else x::Bf (y::r)
theorem Ho (a:α):∀l:List α,a∈Bf l↔a∈l
 |[]=>by simp[Bf]
 |[x]=>by simp[Bf]
 |x::y::r=>by
  have ih:=Ho a (y::r);unfold Bf;split
  ·rename_i h;subst h
   rw[ih];simp
  ·rw[List.mem_cons,ih];simp
theorem Fh {lt:α->α->Bool}(h:Gh lt):∀l:List α,l.Pairwise (fun a b=>lt b a=false)->(Bf l).Pairwise (fun a b=>lt a b=true)
 |[],_=>by simp[Bf]
 |[x],_=>by simp[Bf]
 |x::y::r,hl=>by
  rw[List.pairwise_cons]at hl;unfold Bf;split
  ·exact Fh h (y::r) hl.2
  ·rename_i hxy
   rw[List.pairwise_cons];refine⟨fun a ha=> ?_,Fh h (y::r) hl.2⟩
   rw[Ho]at ha;have h1:=hl.1 y List.mem_cons_self
   have a0:lt x y=true:=by
    cases hb:lt x y with
    |true=>rfl
    |false=>exact absurd (h.tot x y hb h1) hxy
   rcases List.mem_cons.1 ha with e|e
   ·rw[e];exact a0
   ·have h2:=(List.pairwise_cons.1 hl.2).1 a e
    cases hb:lt y a with
    |true=>exact h.tr _ _ _ a0 hb
    |false=>rw[←h.tot y a hb h2];exact a0
theorem Te {lt:α->α->Bool}(h:Gh lt){l s:List α}(hs:s.Pairwise (fun a b=>lt b a=false))(hp:∀a,a∈s↔a∈l):Bf s=Rz lt l:=
 Gi h _ _ (Fh h s hs) (Jm h l) fun a=>by rw[Ho,hp,N2 h]
theorem Aaf {lt:α->α->Bool}(h:Gh lt){l s:List α}(hs:s.Pairwise (fun a b=>lt b a=false))(hn:s.Nodup)(hp:∀a,a∈s↔a∈l):s=Rz lt l:=by
 refine Gi h _ _ ?_ (Jm h l) fun a=>by rw[hp,N2 h]
 refine(List.pairwise_and_iff.2 ⟨hs,hn⟩).imp fun{a b} hab=> ?_
 cases hb:lt a b with
 |true=>rfl
 |false=>exact absurd (h.tot a b hb hab.1) hab.2
end
theorem Cq:Gh Fa where
 irr:=fun a=>by simp[Fa]
 tr:=fun a b c h1 h2=>by
  simp only[Fa,Bool.or_eq_true,Bool.and_eq_true,decide_eq_true_eq]at h1 h2 ⊢;omega
 tot:=fun a b h1 h2=>by
  simp only[Fa,Bool.or_eq_false_iff,Bool.and_eq_false_iff,decide_eq_false_iff_not]at h1 h2;exact Prod.ext (by omega) (by omega)
def Dz:List Snd->List Snd->Bool
 |[],[]=>false
 |[],_::_=>true
 |_::_,[]=>false
 |x::xs,y::ys=>if x=y then Dz xs ys else Fa x y
def Ee (v w:List Snd):Bool:=decide (v.length<w.length)||(decide (v.length=w.length) && Dz v w)
theorem N3:∀a,Dz a a=false
 |[]=>rfl
 |x::a=>by simp[Dz,N3 a]
theorem Qs:∀a b c,Dz a b=true->Dz b c=true->Dz a c=true
 |[],[],_,h,_=>by cases h
 |[],_::_,[],_,h=>by cases h
 |[],_::_,_::_,_,_=>rfl
 |_::_,[],_,h,_=>by cases h
 |_::_,_::_,[],_,h=>by cases h
 |x::a,y::b,z::c,h1,h2=>by
  unfold Dz at h1 h2 ⊢;by_cases e1:x=y
  ·subst e1;rw[if_pos rfl]at h1;by_cases e2:x=z
   ·rw[if_pos e2]at h2 ⊢;exact Qs a b c h1 h2
   ·rw[if_neg e2]at h2 ⊢;exact h2
  ·rw[if_neg e1]at h1;by_cases e2:y=z
   ·subst e2;rw[if_neg e1];exact h1
   ·rw[if_neg e2]at h2;have h3:=Cq.tr _ _ _ h1 h2;have e3:x≠z:=fun e=>by subst e;rw[Cq.irr]at h3;cases h3
    rw[if_neg e3];exact h3
theorem N4:∀a b,Dz a b=false->Dz b a=false->a=b
 |[],[],_,_=>rfl
 |[],_::_,h,_=>by cases h
 |_::_,[],_,h=>by cases h
 |x::a,y::b,h1,h2=>by
  unfold Dz at h1 h2;by_cases e1:x=y
  ·rw[if_pos e1]at h1;rw[if_pos e1.symm]at h2;rw[e1,N4 a b h1 h2]
  ·rw[if_neg e1]at h1;rw[if_neg (Ne.symm e1)]at h2;exact absurd (Cq.tot _ _ h1 h2) e1
theorem Eb:Gh Ee where
 irr:=fun a=>by simp[Ee,N3]
 tr:=fun a b c h1 h2=>by
  simp only[Ee,Bool.or_eq_true,Bool.and_eq_true,decide_eq_true_eq]at h1 h2 ⊢;rcases h1 with h1|⟨e1,h1⟩<;>rcases h2 with h2|⟨e2,h2⟩
  ·left;omega
  ·left;omega
  ·left;omega
  ·right;exact⟨by omega,Qs _ _ _ h1 h2⟩
 tot:=fun a b h1 h2=>by
  simp only[Ee,Bool.or_eq_false_iff,Bool.and_eq_false_iff,decide_eq_false_iff_not]at h1 h2;have hl:a.length=b.length:=by omega
  refine N4 a b ?_ ?_
  ·rcases h1.2 with e|e
   ·exact absurd hl e
   ·exact e
  ·rcases h2.2 with e|e
   ·exact absurd hl.symm e
   ·exact e
def B2 (ss:List Snd):Int:=if 5<ss.length then 12 else if ss.any (fun s=> !Br s.1 s.2)=true then 14 else if¬ss.Nodup then 6 else 0
def Bg (ls:List Av)(w ss:List Snd):Int:=if D5 ls≠0 then D5 ls else if Bx w≠0 then Bx w else B2 ss
def B3 (ss:List Snd):List Snd:=Rz Fa ss
def E3 (ss:List Snd):List (List Snd):=(List.range 7).flatMap (Cp (B3 ss))
def Ca (ls:List Av)(w ss:List Snd):List (List Snd):=(E3 ss).filter fun v=>decide (Bl ls v=(0,w))
def Eo (ls:List Av)(w ss:List Snd)(most:Int):Int×List (List Snd):=
 if Bg ls w ss≠0 then(Bg ls w ss,[])else if most<0 then(3,[])else(0,(Ca ls w ss).take most.toNat)
def Gg (ls:List Av)(w ss:List Snd):Int×Int:=if Bg ls w ss≠0 then(Bg ls w ss,0)else(0,((Ca ls w ss).length:Nat))
def Cb (ls:List Av)(ss:List Snd)(n:Int):Int:=if Bg ls [] ss≠0 then Bg ls [] ss else if n<0\/4<n then 3 else 0
def Ce (ls:List Av)(ss:List Snd)(n:Nat):List (List Snd×List Snd):=((Cp (B3 ss) n).filter fun v=>decide ((Bl ls v).1=0)).map fun v=>(v,(Bl ls v).2)
def Fu (ls:List Av)(ss:List Snd)(n:Int):Int×List (List Snd):=
 if Cb ls ss n≠0 then(Cb ls ss n,[])else(0,Rz Ee ((Ce ls ss n.toNat).map fun p=>p.2))
def Dv:List (List Snd×List Snd)->List (List Snd×List Snd)->List (List Snd×List Snd)
 |[],_=>[]
 |x::r,fs=>match fs.find? (fun p=>decide (p.2=x.2))with|some p=>(p.1,x.1)::Dv r fs|none=>Dv r (fs++[x])
def J8 (ls:List Av)(ss:List Snd)(n:Int):Int×List (List Snd×List Snd):=if Cb ls ss n≠0 then(Cb ls ss n,[])else(0,Dv (Ce ls ss n.toNat) [])
def Fg (l:Av)(ss:List Snd)(n:Int):Int×Int:=
 if Cb [l] ss n≠0 then(Cb [l] ss n,0)else(0,(((Ce [l] ss n.toNat).filter fun p=>decide (p.1=p.2)).length:Nat))
-- words of an alphabet
theorem Gy (l:List Snd):∀(n:Nat) (v:List Snd),v∈Cp l n↔v.length=n∧∀s∈v,s∈l
 |0,v=>by
  simp only[Cp,List.mem_singleton];constructor
  ·rintro rfl;exact⟨rfl,fun s hs=>by cases hs⟩
  ·rintro⟨h,_⟩;exact List.eq_nil_of_length_eq_zero h
 |n+1,v=>by
  simp only[Cp,List.mem_flatMap,List.mem_map];constructor
  ·rintro⟨u,hu,s,hs,rfl⟩;obtain⟨h1,h2⟩:=(Gy l n u).1 hu;refine⟨by simp[h1],fun x hx=> ?_⟩
   rcases List.mem_append.1 hx with hx|hx
   ·exact h2 x hx
   ·obtain rfl:x=s:=by simpa using hx
    exact hs
  ·rintro⟨h1,h2⟩;have a0:v≠ []:=fun e=>by rw[e]at h1;cases h1
   refine⟨v.dropLast,(Gy l n _).2 ⟨by rw[List.length_dropLast];omega,fun s hs=>h2 s ((List.dropLast_sublist v).mem hs)⟩,v.getLast a0,h2 _ (List.getLast_mem a0),List.dropLast_concat_getLast a0⟩
theorem Rw (ss:List Snd):(B3 ss).Pairwise (fun a b=>Fa a b=true):=Jm Cq ss
theorem Ju (ss:List Snd)(s:Snd):s∈B3 ss↔s∈ss:=N2 Cq ss s
theorem Rx (ss v:List Snd):v∈E3 ss↔v.length<=6∧∀s∈v,s∈ss:=by
 unfold E3;rw[List.mem_flatMap];constructor
 ·rintro⟨n,hn,hv⟩;obtain⟨h1,h2⟩:=(Gy _ n v).1 hv
  have:=List.mem_range.1 hn
  exact⟨by omega,fun s hs=>(Ju ss s).1 (h2 s hs)⟩
 ·rintro⟨h1,h2⟩;exact⟨v.length,List.mem_range.2 (by omega),(Gy _ _ v).2 ⟨rfl,fun s hs=>(Ju ss s).2 (h2 s hs)⟩⟩
theorem Vk (ls:List Av)(w ss v:List Snd):v∈Ca ls w ss↔(v.length<=6∧∀s∈v,s∈ss)/\Bl ls v=(0,w):=by
 unfold Ca;rw[List.mem_filter,Rx];simp
theorem Jv {ss:List Snd}(h:ss.Nodup):(B3 ss).length=ss.length:=by
 refine List.Perm.length_eq ?_;refine(List.perm_ext_iff_of_nodup ((Rw ss).imp fun{a b} hab e=> ?_) h).2 (Ju ss);rw[e,Cq.irr]at hab;cases hab
theorem Ry {ss:List Snd}(h:ss.Nodup):(E3 ss).length=((List.range 7).map fun n=>ss.length^n).sum:=by
 unfold E3;rw[List.length_flatMap];congr 1;apply List.map_congr_left;intro n _;rw[Gx,Jv h]
def C9:List (List Snd×List Snd)->List (List Snd×List Snd)->List (List Snd×List Snd)
 |[],fs=>fs
 |x::r,fs=>if fs.any (fun p=>decide (p.2=x.2))=true then C9 r fs else C9 r (fs++[x])
theorem Nz {fs:List (List Snd×List Snd)}{t:List Snd}:(∃p,fs.find? (fun p=>decide (p.2=t))=some p/\p∈fs/\p.2=t)/\fs.any (fun p=>decide (p.2=t))=true\/fs.find? (fun p=>decide (p.2=t))=none/\fs.any (fun p=>decide (p.2=t))=false:=by
 cases h:fs.find? (fun p=>decide (p.2=t))with
 |none=>
  right;refine⟨rfl,List.any_eq_false.2 fun p hp=> ?_⟩
  exact List.find?_eq_none.1 h p hp
 |some p=>
  left;have h1:=List.find?_some h;have h2:=List.mem_of_find?_eq_some h;exact⟨⟨p,rfl,h2,by simpa using h1⟩,List.any_eq_true.2 ⟨p,h2,h1⟩⟩
theorem Fv {x p:List Snd×List Snd}{r fs:List (List Snd×List Snd)}(h:fs.find? (fun p=>decide (p.2=x.2))=some p):Dv (x::r) fs=(p.1,x.1)::Dv r fs:=by
 rw[Dv,h]
theorem Fw {x:List Snd×List Snd}{r fs:List (List Snd×List Snd)}(h:fs.find? (fun p=>decide (p.2=x.2))=none):Dv (x::r) fs=Dv r (fs++[x]):=by
 rw[Dv,h]
theorem Hn {ls:List Av}{w ss:List Snd}(h:ss.Nodup)(h5:ss.length<=5):(Ca ls w ss).length<=19531:=by
 refine Nat.le_trans (List.length_filter_le _ _) ?_;rw[Ry h];have hp:∀n,ss.length^n<=5^n:=fun n=>Nat.pow_le_pow_left h5 n
 have h0:=hp 0;have h1:=hp 1;have h2:=hp 2;have h3:=hp 3;have h4:=hp 4;have a0:=hp 5;have h6:=hp 6;simp only[List.range,List.range.loop,List.map_cons,List.map_nil,List.sum_cons,List.sum_nil];omega
theorem Bz {ss:List Snd}(h:B2 ss=0):ss.length<=5/\(∀s∈ss,Br s.1 s.2=true)/\ss.Nodup:=by
 unfold B2 at h;by_cases h1:5<ss.length
 ·rw[if_pos h1]at h;exact absurd h (by decide)
 rw[if_neg h1]at h;by_cases h2:ss.any (fun s=> !Br s.1 s.2)=true
 ·rw[if_pos h2]at h;exact absurd h (by decide)
 rw[if_neg h2]at h;by_cases h3:ss.Nodup
 ·refine⟨by omega,fun s hs=> ?_,h3⟩
  cases hb:Br s.1 s.2 with
  |true=>rfl
  |false=>exact absurd (List.any_eq_true.2 ⟨s,hs,by simp[hb]⟩) h2
 ·rw[if_pos h3]at h;exact absurd h (by decide)
theorem C4 {ls:List Av}{w ss:List Snd}(h:Bg ls w ss=0):D5 ls=0/\Bx w=0/\B2 ss=0:=by
 unfold Bg at h;by_cases h1:D5 ls=0
 ·rw[if_neg (by simpa using h1)]at h;by_cases h2:Bx w=0
  ·rw[if_neg (by simpa using h2)]at h;exact⟨h1,h2,h⟩
  ·rw[if_pos h2]at h;exact absurd h h2
 ·rw[if_pos h1]at h;exact absurd h h1
theorem Rv {ss v:List Snd}(h:∀s∈ss,Br s.1 s.2=true)(hv:∀s∈v,s∈ss)(hl:v.length<=32):Bx v=0:=by
 unfold Bx;rw[if_neg (by omega),if_pos (List.all_eq_true.2 fun s hs=>by rw[Qe];exact h s (hv s hs))]
def Jl:List Snd:=[(2,5),(3,4),(4,3),(5,2),(7,0)]
theorem Vi {n:Nat}(h:n<=5):(Jl.take n).length=n:=by rw[List.length_take];show min n 5=n;omega
theorem take_all {ls:List Av}{w ss:List Snd}(h:B2 ss=0):(Ca ls w ss).take 100000=Ca ls w ss:=by
 obtain⟨h5,_,hn⟩:=Bz h;exact List.take_of_length_le (Nat.le_trans (Hn hn h5) (by omega))
end Go.Proofs.YtlgliddhideflaaGreatDoor
namespace Go.Proofs.YtlgliddhideflaaGreatDoor
open Go.RowKit Go.Shelf
end Go.Proofs.YtlgliddhideflaaGreatDoor
namespace Go.Proofs.YtlgliddhideflaaGreatDoor
open Go.RowKit Go.Shelf
structure Dw (w w':World):Prop where
 b:Below w.heap.size w w'
 d:w.drawn<=w'.drawn
namespace Dw
variable {w w' w'':World}
theorem refl (w:World):Dw w w:=⟨Below.refl _ _,rr⟩
theorem trans (h:Dw w w')(k:Dw w' w''):Dw w w'':=⟨h.b.trans (k.b.mono h.b.size),Nat.le_trans h.d k.d⟩
theorem alloc (h:Dw w w')(o:Obj):Dw w (w'.alloc o):=⟨h.b.alloc h.b.size _,h.d⟩
theorem drew (h:Dw w w'):Dw w w'.drew:=⟨h.b.drew,Nat.le_succ_of_le h.d⟩
theorem eq (h:Dw w w'):∃q os,w'=Sort.grow (w.drewN q) os:=by
 refine⟨w'.drawn-w.drawn,w'.heap.extract w.heap.size w'.heap.size, ?_⟩;obtain⟨⟨h1,h2,h3,h4,h5⟩,h6⟩:=h
 have hh:w'.heap=w.heap++w'.heap.extract w.heap.size w'.heap.size:=by
  apply Array.ext_getElem?;intro i;rcases Nat.lt_or_ge i w.heap.size with h|h
  ·rw[h5 i h,Array.getElem?_append_left h]
  ·rw[Array.getElem?_append_right h,Array.getElem?_extract];rcases Nat.lt_or_ge i w'.heap.size with h'|h'
   ·rw[if_pos (by omega),show w.heap.size+(i-w.heap.size)=i by omega]
   ·rw[if_neg (by omega),Array.getElem?_eq_none h']
 unfold Sort.grow World.drewN;obtain⟨a0,tape',drawn',os',output'⟩:=w';obtain⟨heap,tape,drawn,os,output⟩:=w;simp only at*;subst h1 h2 h3;rw[←hh];congr 1;omega
end Dw
def Eg (x y:Int):Int:=if x<y then-1 else if y<x then 1 else 0
theorem Rm (x:Int)(w:World):Calls Tryz.prog 234 #[.int .u32 x] w fun e w'=>e= .returned (.bool false)/\w'=w:=by
 go_enter Tryz.func234,Tryz.ntmps234;go_wp2;go_ret;simp
theorem Rn (x y:Int)(w:World):Calls Tryz.prog 203 #[.int .u32 x, .int .u32 y] w fun e w'=>e= .returned (.int .i64 (Eg x y))/\w'=w:=by
 go_enter Tryz.func203,Tryz.ntmps203;by_cases h1:x<y
 ·have h2:Eg x y= -1:=by unfold Eg;rw[if_pos h1]
  rw[h2];go_wp2_with(go_at_call 234;refine(Rm _ _).mono ?_;rintro e w1 ⟨rfl,rfl⟩);go_ret;exact⟨rfl,rfl⟩
 ·by_cases h2:y<x
  ·have h3:Eg x y=1:=by unfold Eg;rw[if_neg h1,if_pos h2]
   rw[h3];go_wp2_with(go_at_call 234;refine(Rm _ _).mono ?_;rintro e w1 ⟨rfl,rfl⟩);go_ret;exact⟨rfl,rfl⟩
  ·have h3:Eg x y=0:=by unfold Eg;rw[if_neg h1,if_neg h2]
   rw[h3];go_wp2_with(go_at_call 234;refine(Rm _ _).mono ?_;rintro e w1 ⟨rfl,rfl⟩);go_ret;exact⟨rfl,rfl⟩
def orI (x y:Int):Int:=if x≠0 then x else y
theorem Ze (x y:Int)(b:Nat)(w:World)(h0:w.cell? ⟨b,0,none⟩=some (.int .i64 x))(h1:w.cell? ⟨b,1,none⟩=some (.int .i64 y)):
  Calls Tryz.prog 116 #[.slice (some ⟨b,0,none⟩) 2 2] w fun e w'=>e= .returned (.int .i64 (orI x y))/\w'=w:=by
 go_enter Tryz.func116,Tryz.ntmps116;go_wp2
 go_loopw [5,8] (fun _ i wr=>∃k:Nat,k<=2/\i= .int .i64 k/\(0<k->x=0)/\(1<k->y=0)/\wr=w) (fun _ i _=>2-(intOf i).toNat)
 case atStart=>exact⟨0,by omega,rfl,by omega,by omega,rfl⟩
 case round=>
  obtain⟨k,hk,rfl,hx,hy,rfl⟩:=hrel;have a1:k=0\/k=1\/k=2:=by omega
  rcases a1 with rfl|rfl|rfl
  ·by_cases h:x=0
   ·subst h;go_wp2
    go_roundw
    case rel=>exact⟨1,by omega,rfl,by simp,by simp,by simp⟩
    case measure=>simp[intOf]
   ·have hb:(x !=0)=true:=by simpa using h
    go_wp2;go_ret;exact⟨by unfold orI;rw[if_pos h];rfl,rfl⟩
  ·have a0:=hx (by omega);subst a0;by_cases h:y=0
   ·subst h;go_wp2
    go_roundw
    case rel=>exact⟨2,by omega,rfl,by simp,by simp,by simp⟩
    case measure=>simp[intOf]
   ·have hb:(y !=0)=true:=by simpa using h
    go_wp2;go_ret;exact⟨by unfold orI;rw[if_neg (by simp)];rfl,rfl⟩
  ·have a0:=hx (by omega);have a2:=hy (by omega);subst a0 a2;go_wp2;go_ret;exact⟨rfl,rfl⟩
def Fr (a b:Snd):Int:=orI (Eg a.1 b.1) (Eg a.2 b.2)
theorem Zf (p m p' m':Int)(w:World):Calls Tryz.prog 192 #[C8 p m,C8 p' m'] w fun e w'=>e= .returned (.int .i64 (Fr (p,m) (p',m')))/\Dw w w':=by
 go_enter Tryz.func192,Tryz.ntmps192;go_wp2_with fail;obtain⟨W,hW⟩:∃W,W=(w.alloc (.cells #[.int .u32 p, .int .u32 m] 24)).alloc (.cells #[.int .u32 p', .int .u32 m'] 24):=⟨_,rfl⟩;have hG:Dw w W:=by rw[hW];exact((Dw.refl w).alloc _).alloc _
 have k0:W.heap[w.heap.size]? =some (.cells #[.int .u32 p, .int .u32 m] 24 (0,0)):=by rw[hW];exact hpt
 have k1:W.heap[w.heap.size+1]? =some (.cells #[.int .u32 p', .int .u32 m'] 24 (0,0)):=by rw[hW];exact hpt
 rw[←hW];clear hW
 have hS:W.drew.cell? ⟨w.heap.size,0,none⟩=some (.int .u32 p)/\W.drew.cell? ⟨w.heap.size,1,none⟩=some (.int .u32 m)/\W.drew.cell? ⟨w.heap.size+1,0,none⟩=some (.int .u32 p')/\W.drew.cell? ⟨w.heap.size+1,1,none⟩=some (.int .u32 m'):=
  ⟨Ac k0 rfl,Ac k0 rfl,Ac k1 rfl,Ac k1 rfl⟩
 have a0:w.heap.size<W.heap.size/\w.heap.size+1<W.heap.size:=⟨lt_of_block k0,lt_of_block k1⟩;generalize w.heap.size=b0 at*;refine Bs (fun W'=>W'.cell? ⟨b0,0,none⟩=some (.int .u32 p)/\W'.cell? ⟨b0,1,none⟩=some (.int .u32 m)/\W'.cell? ⟨b0+1,0,none⟩=some (.int .u32 p')/\W'.cell? ⟨b0+1,1,none⟩=some (.int .u32 m')) (by kernel_rfl) hS (fun hHeld=> ?_)
 (refine' Aa 0 rfl ?_;(try simp only[Act.put,nY,nX]));(refine' Aa 1 rfl ?_;(try simp only[Act.put,nY,nX]));(refine' Aa 2 rfl ?_;(try simp only[Act.put,nY,nX]));(refine' Aa 3 rfl ?_;(try simp only[Act.put,nY,nX]));(refine' Aa 5 rfl ?_;(try simp only[Act.put,nY,nX]));(refine' Aa 6 rfl ?_;(try simp only[Act.put,nY,nX]));(refine' Aa 7 rfl ?_;(try simp only[Act.put,nY,nX]));(refine' Aa 8 rfl ?_;(try simp only[Act.put,nY,nX]))
 (refine Agz 4 rfl (fun K' hK'=> ?_);simp only[nY];go_simp)
 refine(Rn p p' W.drew).mono ?_;rintro e w1 ⟨rfl,rfl⟩;refine hK' _ _ ⟨.inr hS,fun _=> ?_⟩
 clear hK' K'
 (try simp only[Act.put,nY,nX])
 (refine Agz 9 rfl (fun K' hK'=> ?_);simp only[nY];go_simp)
 refine(Rn m m' W.drew).mono ?_;rintro e w1 ⟨rfl,rfl⟩;refine hK' _ _ ⟨.inr hS,fun _=> ?_⟩
 clear hK' K'
 (try simp only[Act.put,nY,nX])
 (refine Agz 10 rfl (fun K' hK'=> ?_);simp only[nY];go_simp)
 refine hK' _ _ ⟨.inr ⟨(Au (by simpa using a0.1)).trans hS.1,(Au (by simpa using a0.1)).trans hS.2.1,(Au (by simpa using a0.2)).trans hS.2.2.1,(Au (by simpa using a0.2)).trans hS.2.2.2⟩,fun _=> ?_⟩
 clear hK' K'
 (try simp only[Act.put,nY,nX])
 (refine Agz 11 rfl (fun K' hK'=> ?_);simp only[nY];go_simp)
 refine(Ze (Eg p p') (Eg m m') W.heap.size (W.drew.alloc (.cells #[.int .i64 (Eg p p'), .int .i64 (Eg m m')] 3)) (B6 (w:=W.drew) rfl) (B6 (w:=W.drew) rfl)).mono ?_;rintro e w1 ⟨rfl,rfl⟩;refine hK' _ _ ⟨.inr ⟨(Au (by simpa using a0.1)).trans hS.1,(Au (by simpa using a0.1)).trans hS.2.1,(Au (by simpa using a0.2)).trans hS.2.2.1,(Au (by simpa using a0.2)).trans hS.2.2.2⟩,fun _=> ?_⟩
 clear hK' K'
 (try simp only[Act.put,nY,nX])
 (refine Agz 12 rfl (fun K' hK'=> ?_);simp only[nY];go_simp)
 refine hK' _ _ ⟨.inl (by kernel_rfl),fun _=>Be (by kernel_rfl) ?_ _⟩
 clear hK' K';go_wp2;go_ret;exact⟨rfl,(hG.drew).alloc _⟩
theorem Pp (x:Int)(w:World):Calls Tryz.prog 164 #[.int .i64 x] w fun e w'=>e= .returned (.bool false)/\w'=w:=by
 go_enter Tryz.func164,Tryz.ntmps164;go_wp2;go_ret;simp
theorem Aei (x y:Int)(w:World):Calls Tryz.prog 117 #[.int .i64 x, .int .i64 y] w fun e w'=>e= .returned (.int .i64 (Eg x y))/\w'=w:=by
 go_enter Tryz.func117,Tryz.ntmps117;by_cases h1:x<y
 ·have h2:Eg x y= -1:=by unfold Eg;rw[if_pos h1]
  rw[h2];go_wp2_with(go_at_call 164;refine(Pp _ _).mono ?_;rintro e w1 ⟨rfl,rfl⟩);go_ret;exact⟨rfl,rfl⟩
 ·by_cases h2:y<x
  ·have h3:Eg x y=1:=by unfold Eg;rw[if_neg h1,if_pos h2]
   rw[h3];go_wp2_with(go_at_call 164;refine(Pp _ _).mono ?_;rintro e w1 ⟨rfl,rfl⟩);go_ret;exact⟨rfl,rfl⟩
  ·have h3:Eg x y=0:=by unfold Eg;rw[if_neg h1,if_neg h2]
   rw[h3];go_wp2_with(go_at_call 164;refine(Pp _ _).mono ?_;rintro e w1 ⟨rfl,rfl⟩);go_ret;exact⟨rfl,rfl⟩
theorem Adb (p m p' m':Int)(w:World):Calls Tryz.prog 166 #[C8 p m,C8 p' m'] w fun e w'=>e= .returned (.int .i64 (Fr (p,m) (p',m')))/\Dw w w':=by
 go_enter Tryz.func166,Tryz.ntmps166;go_wp2_with fail;obtain⟨W,hW⟩:∃W,W=(w.alloc (.cells #[.int .u32 p, .int .u32 m] 24)).alloc (.cells #[.int .u32 p', .int .u32 m'] 24):=⟨_,rfl⟩;have hG:Dw w W:=by rw[hW];exact((Dw.refl w).alloc _).alloc _
 have k0:W.heap[w.heap.size]? =some (.cells #[.int .u32 p, .int .u32 m] 24 (0,0)):=by rw[hW];exact hpt
 have k1:W.heap[w.heap.size+1]? =some (.cells #[.int .u32 p', .int .u32 m'] 24 (0,0)):=by rw[hW];exact hpt
 rw[←hW];clear hW
 have hS:W.drew.cell? ⟨w.heap.size,0,none⟩=some (.int .u32 p)/\W.drew.cell? ⟨w.heap.size,1,none⟩=some (.int .u32 m)/\W.drew.cell? ⟨w.heap.size+1,0,none⟩=some (.int .u32 p')/\W.drew.cell? ⟨w.heap.size+1,1,none⟩=some (.int .u32 m'):=
  ⟨Ac k0 rfl,Ac k0 rfl,Ac k1 rfl,Ac k1 rfl⟩
 have a0:w.heap.size<W.heap.size/\w.heap.size+1<W.heap.size:=⟨lt_of_block k0,lt_of_block k1⟩;generalize w.heap.size=b0 at*;refine Bs (fun W'=>W'.cell? ⟨b0,0,none⟩=some (.int .u32 p)/\W'.cell? ⟨b0,1,none⟩=some (.int .u32 m)/\W'.cell? ⟨b0+1,0,none⟩=some (.int .u32 p')/\W'.cell? ⟨b0+1,1,none⟩=some (.int .u32 m')) (by kernel_rfl) hS (fun hHeld=> ?_)
 (refine' Aa 0 rfl ?_;(try simp only[Act.put,nY,nX]));(refine' Aa 1 rfl ?_;(try simp only[Act.put,nY,nX]));(refine' Aa 2 rfl ?_;(try simp only[Act.put,nY,nX]));(refine' Aa 3 rfl ?_;(try simp only[Act.put,nY,nX]));(refine' Aa 5 rfl ?_;(try simp only[Act.put,nY,nX]));(refine' Aa 6 rfl ?_;(try simp only[Act.put,nY,nX]));(refine' Aa 7 rfl ?_;(try simp only[Act.put,nY,nX]));(refine' Aa 8 rfl ?_;(try simp only[Act.put,nY,nX]))
 (refine Agz 4 rfl (fun K' hK'=> ?_);simp only[nY];go_simp)
 refine(Rn p p' W.drew).mono ?_;rintro e w1 ⟨rfl,rfl⟩;refine hK' _ _ ⟨.inr hS,fun _=> ?_⟩
 clear hK' K'
 (try simp only[Act.put,nY,nX])
 (refine Agz 9 rfl (fun K' hK'=> ?_);simp only[nY];go_simp)
 refine(Rn m m' W.drew).mono ?_;rintro e w1 ⟨rfl,rfl⟩;refine hK' _ _ ⟨.inr hS,fun _=> ?_⟩
 clear hK' K'
 (try simp only[Act.put,nY,nX])
 (refine Agz 10 rfl (fun K' hK'=> ?_);simp only[nY];go_simp)
 refine hK' _ _ ⟨.inr ⟨(Au (by simpa using a0.1)).trans hS.1,(Au (by simpa using a0.1)).trans hS.2.1,(Au (by simpa using a0.2)).trans hS.2.2.1,(Au (by simpa using a0.2)).trans hS.2.2.2⟩,fun _=> ?_⟩
 clear hK' K'
 (try simp only[Act.put,nY,nX])
 (refine Agz 11 rfl (fun K' hK'=> ?_);simp only[nY];go_simp)
 refine(Ze (Eg p p') (Eg m m') W.heap.size (W.drew.alloc (.cells #[.int .i64 (Eg p p'), .int .i64 (Eg m m')] 3)) (B6 (w:=W.drew) rfl) (B6 (w:=W.drew) rfl)).mono ?_;rintro e w1 ⟨rfl,rfl⟩;refine hK' _ _ ⟨.inr ⟨(Au (by simpa using a0.1)).trans hS.1,(Au (by simpa using a0.1)).trans hS.2.1,(Au (by simpa using a0.2)).trans hS.2.2.1,(Au (by simpa using a0.2)).trans hS.2.2.2⟩,fun _=> ?_⟩
 clear hK' K'
 (try simp only[Act.put,nY,nX])
 (refine Agz 12 rfl (fun K' hK'=> ?_);simp only[nY];go_simp)
 refine hK' _ _ ⟨.inl (by kernel_rfl),fun _=>Be (by kernel_rfl) ?_ _⟩
 clear hK' K';go_wp2;go_ret;exact⟨rfl,(hG.drew).alloc _⟩
def Hi:List Snd->List Snd->Int
 |[],[]=>0
 |[],_::_=> -1
 |_::_,[]=>1
 |x::a,y::b=>if Fr x y≠0 then Fr x y else Hi a b
theorem Ni {α:Type}{l:List α}{j:Nat}{x:α}(h:l[j]? =some x):l.drop j=x::l.drop (j+1):=by
 obtain⟨hj,rfl⟩:=List.getElem?_eq_some_iff.1 h;exact List.drop_eq_getElem_cons hj
theorem Aej (A:Option Addr)(n c:Nat)(xs:List Snd)(A':Option Addr)(n' c':Nat)(ys:List Snd)(w:World)(hx:Ab w A n c xs)(hy:Ab w A' n' c' ys):
  Calls Tryz.prog 165 #[.slice A n c, .slice A' n' c', .func (.func 166) #[] #[]] w fun e w'=>e= .returned (.int .i64 (Hi xs ys))/\Dw w w':=by
 have a9:Hid (xs.length=n):=hx.len;have a4:Hid (ys.length=n'):=hy.len;have HX:=hI hx;have HY:=hI hy;have b8:=hx.max;have b9:=hy.max;clear hx hy;go_enter Tryz.func165,Tryz.ntmps165;go_wp2
 go_loopw [13] (fun vi wr=>∃j:Nat,vi= .int .i64 j/\j<=n/\j<=n'/\Hid (Hi xs ys=Hi (xs.drop j) (ys.drop j))/\Hid (Dw w wr)) (fun vi _=>n-(intOf vi).toNat)
 case atStart=>exact⟨0,rfl,Nat.zero_le _,Nat.zero_le _,rfl,Dw.refl _⟩
 case round=>
  obtain⟨j,rfl,hj,b7,HO,HG⟩:=hrel;by_cases hlt:(j:Int)<(n:Int)
  ·have b0:j<n:=by omega
   obtain⟨b,off,p,m,rfl,b3,hs,b6,b4⟩:=(HX.out.below HG.out.b rr).at_ b0;have HS:=hI hs;clear hs;by_cases hge:(n':Int)<=(j:Int)
   ·go_wp2;go_ret
    have HV:Hid (Hi xs ys=1):=by
     show _=_;rw[HO.out,Ni HS.out,List.drop_of_length_le (l:=ys) (by rw[a4.out];omega)];rfl
    exact⟨by rw[HV.out];rfl,HG.out.alloc _⟩
   ·have a6:j<n':=by omega
    have a7:Hid (Dw w (wr.alloc (.cells #[.int .u32 p, .int .u32 m] 24))):=HG.out.alloc _;obtain⟨b',off',p',m',rfl,a1,b1,a5,a2⟩:=(HY.out.below a7.out.b rr).at_ a6;have b5:=hI b1;clear b1;go_wp2_with fail;refine(Adb p m p' m' _).mono ?_;rintro e w2 ⟨rfl,a8⟩;have a3:Hid (Dw w w2):=(a7.out.alloc _).trans a8;clear a8 b6 b4 a5 a2 b3 a1;obtain⟨q,hq⟩:∃q,q=Fr (p,m) (p',m'):=⟨_,rfl⟩;rw[←hq]
    have a0:Hid (Hi xs ys=if q≠0 then q else Hi (xs.drop (j+1)) (ys.drop (j+1))):=by
     show _=_;rw[HO.out,Ni HS.out,Ni b5.out,hq];rfl
    clear hq;by_cases hq0:q=0
    ·subst hq0
     have b2:Hid (Hi xs ys=Hi (xs.drop (j+1)) (ys.drop (j+1))):=by
      show _=_;rw[a0.out];rfl
     clear a0;go_wp2
     go_roundw
     case rel=>first|exact⟨j+1,by go_num,by omega,by omega,b2,a3⟩|((repeat apply Exists.intro);exact⟨⟨j+1,by go_num,by omega,by omega,b2,a3⟩,rfl⟩)
     case measure=>simp[intOf];omega
    ·have d0:(q !=0)=true:=by simpa using hq0
     have HV:Hid (Hi xs ys=q):=by show _=_;rw[a0.out,if_pos hq0]
     clear hq0 a0;go_wp2;go_ret;exact⟨by rw[HV.out];rfl,a3.out⟩
  ·have b0:j=n:=by omega
   by_cases hnn:(n:Int)<(n':Int)
   ·have HV:Hid (Hi xs ys= -1):=by
     show _=_;obtain⟨y,hy⟩:∃y,ys[j]? =some y:=⟨ys[j]'(by rw[a4.out];omega),List.getElem?_eq_getElem _⟩;rw[HO.out,Ni hy,List.drop_of_length_le (l:=xs) (by rw[a9.out];omega)];rfl
    go_wp2;go_ret;exact⟨by rw[HV.out];rfl,HG.out⟩
   ·have HV:Hid (Hi xs ys=0):=by
     show _=_;rw[HO.out,List.drop_of_length_le (l:=xs) (by rw[a9.out];omega),List.drop_of_length_le (l:=ys) (by rw[a4.out];omega)];rfl
    go_wp2;go_ret;exact⟨by rw[HV.out];rfl,HG.out⟩
theorem Aek (A:Option Addr)(n c:Nat)(xs:List Snd)(A':Option Addr)(n' c':Nat)(ys:List Snd)(w:World)(hx:Ab w A n c xs)(hy:Ab w A' n' c' ys):
  Calls Tryz.prog 118 #[.slice A n c, .slice A' n' c'] w fun e w'=>e= .returned (.int .i64 (Hi xs ys))/\Dw w w':=by
 have HX:=hI hx;have HY:=hI hy;clear hx hy;go_enter Tryz.func118,Tryz.ntmps118;go_wp2_with fail;refine(Aej A n c xs A' n' c' ys w HX.out HY.out).mono ?_;rintro e w1 ⟨rfl,hg⟩;go_wp2;go_ret;exact⟨rfl,hg⟩
def Pq (xs ys:List Snd):Int:=orI (Eg xs.length ys.length) (Hi xs ys)
theorem Ab0 (A:Option Addr)(n c:Nat)(xs:List Snd)(A':Option Addr)(n' c':Nat)(ys:List Snd)(w:World)(hx:Ab w A n c xs)(hy:Ab w A' n' c' ys):
  Calls Tryz.prog 115 #[.slice A n c, .slice A' n' c'] w fun e w'=>e= .returned (.int .i64 (Pq xs ys))/\Dw w w':=by
 have hm:Eg (n:Int) (n':Int)=Eg xs.length ys.length:=by rw[hx.len,hy.len]
 have a1:=hx.max;have a0:=hy.max;have HX:=hI hx;have HY:=hI hy;clear hx hy;go_enter Tryz.func115,Tryz.ntmps115;go_wp2_with fail;refine(Aei n n' w).mono ?_;rintro e w1 ⟨rfl,rfl⟩;rw[hm];have HM:=hI hm;clear hm;go_wp2_with fail;refine(Aek A n c xs A' n' c' ys w1 HX.out HY.out).mono ?_;rintro e w2 ⟨rfl,hg⟩;have HG:=hI hg;clear hg;go_wp2_with fail;refine(Ze _ _ w2.heap.size _ (B6 rfl) (B6 rfl)).mono ?_;rintro e w3 ⟨rfl,rfl⟩;go_wp2;go_ret;exact⟨rfl,HG.out.alloc _⟩
theorem Um (A:Option Addr)(n c:Nat)(xs:List Snd)(A':Option Addr)(n' c':Nat)(ys:List Snd)(w:World)(h:Calls Tryz.prog 22 #[.slice A n c, .slice A' n' c'] w fun e w'=>e= .returned (.bool (decide (xs=ys)))/\Below w.heap.size w w'):
  Calls Tryz.prog 120 #[.slice A n c, .slice A' n' c'] w fun e w'=>e= .returned (.bool (decide (xs=ys)))/\Below w.heap.size w w':=by
 go_enter Tryz.func120,Tryz.ntmps120;go_wp2_with fail;refine h.mono ?_;rintro e w1 ⟨rfl,hb⟩;go_wp2;go_ret;exact⟨rfl,hb⟩
end Go.Proofs.YtlgliddhideflaaGreatDoor
