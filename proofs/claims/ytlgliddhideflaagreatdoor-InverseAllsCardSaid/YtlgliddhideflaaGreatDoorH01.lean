/-
  Words of an alphabet (chapter 11), in plain words: the order of sounds, all words of some sounds in order, and how one goes from one to the next.
  Lists in order (chapter 11), in plain words: sounds that are sorted, words in the order of the chapter, lists with one more that are in order.
  Words that laws turn into others (chapter 11), in plain words.
  What the functions of chapter 11 answer in its example.
  The example of chapter 11: an alphabet and two laws.
  What the statements of chapter 11 ask, in plain words: pairs of words that become the same; all words by their numbers.
  Chapter 11, in plain words: few words, one law alone, no laws.
  The alphabets, words and laws that the statements of chapter 11 use, in plain words.
  What Image, Lost and Fixed come to (chapter 11), in plain words.
  The words that are searched, one after the other, and those of them that become a word (chapter 11), in plain words.
  A list in order with one more, by places; words that are derived one after the other (chapter 11), in plain words.
-/
import Derived.Test.YtlgliddhideflaaGreatDoorG34
import Derived.Test.YtlgliddhideflaaGreatDoorG37
import Derived.Test.YtlgliddhideflaaGreatDoorG23
set_option linter.all false
set_option maxRecDepth 100000
set_option maxHeartbeats 4000000
namespace Go.Proofs.YtlgliddhideflaaGreatDoor
open Go.RowKit Go.Shelf
def Cw (a b:Snd):Bool:=decide (a.1<b.1)||(decide (a.1=b.1) && decide (a.2<b.2))
def Bp (l:List Snd):Nat->List (List Snd)
 |0=>[[]]
 |n+1=>(Bp l n).flatMap fun v=>l.map fun s=>v++[s]
theorem Hk (l:List Snd)(n:Nat):(Bp l n).length=l.length^n:=by
 induction n with
 |zero=>rfl
 |succ n ih=>
  rw[Bp,List.length_flatMap,Nat.pow_succ,←ih];simp only[List.length_map];generalize Bp l n=L
  induction L with
  |nil=>simp
  |cons x r ih=>simp[ih,Nat.succ_mul];omega
def Hb (k:Nat)(p:List Nat):Nat:=p.foldl (fun a d=>a*k+d) 0
theorem Hl (k:Nat)(p:List Nat)(d:Nat):Hb k (p++[d])=Hb k p*k+d:=by simp[Hb]
theorem Vh {α β:Type}(f:α->List β)(m:Nat):∀(l:List α),(∀x∈l,(f x).length=m)→∀(i d:Nat) (x:α),l[i]? =some x->d<m->(l.flatMap f)[i*m+d]? =(f x)[d]?
 |[],_,i,d,x,h,_=>by simp at h
 |y::r,hl,i,d,x,h,hd=>by
  rw[List.flatMap_cons]
  cases i with
  |zero=>
   obtain rfl:y=x:=by simpa using h
   rw[Nat.zero_mul,Nat.zero_add,List.getElem?_append_left (by rw[hl y List.mem_cons_self];exact hd)]
  |succ i=>
   rw[List.getElem?_append_right (by rw[hl y List.mem_cons_self,Nat.succ_mul];omega),hl y List.mem_cons_self,show(i+1)*m+d-m=i*m+d by rw[Nat.succ_mul];omega];exact Vh f m r (fun z hz=>hl z (List.mem_cons_of_mem _ hz)) i d x (by simpa using h) hd
def Vi (l:List Snd)(p:List Nat):List Snd:=p.map fun d=>l.getD d (0,0)
theorem Vj (l:List Snd):∀(n:Nat) (p:List Nat),p.length=n->(∀d∈p,d<l.length)->(Bp l n)[Hb l.length p]? =some (Vi l p)
 |0,p,hp,_=>by
  have:p=[]:=List.eq_nil_of_length_eq_zero hp
  subst this;rfl
 |n+1,p,hp,hd=>by
  have a1:p≠ []:=fun e=>by rw[e]at hp;cases hp
  obtain⟨q,d,rfl⟩:∃q d,p=q++[d]:=⟨p.dropLast,p.getLast a1,(List.dropLast_concat_getLast a1).symm⟩;have hq:q.length=n:=by simpa using hp
  have a0:d<l.length:=hd d (by simp);have ih:=Vj l n q hq fun x hx=>hd x (List.mem_append.2 (.inl hx))
  rw[Bp,Hl,Vh _ l.length _ (fun x _=>by simp) _ _ _ ih a0,List.getElem?_map,List.getElem?_eq_getElem a0];simp[Vi,List.getD_eq_getElem?_getD,List.getElem?_eq_getElem a0]
theorem Ae3 {k:Nat}:∀(n:Nat) (p:List Nat),p.length=n->(∀d∈p,d<k)->Hb k p<k^n
 |0,p,hp,_=>by
  have:p=[]:=List.eq_nil_of_length_eq_zero hp
  subst this;simp[Hb]
 |n+1,p,hp,hd=>by
  have a0:p≠ []:=fun e=>by rw[e]at hp;cases hp
  obtain⟨q,d,rfl⟩:∃q d,p=q++[d]:=⟨p.dropLast,p.getLast a0,(List.dropLast_concat_getLast a0).symm⟩;have hq:q.length=n:=by simpa using hp
  have a1:d<k:=hd d (by simp);have ih:=Ae3 n q hq fun x hx=>hd x (List.mem_append.2 (.inl hx))
  rw[Hl,Nat.pow_succ]
  calc Hb k q*k+d<Hb k q*k+k:=by omega
   _=(Hb k q+1)*k:=by rw[Nat.succ_mul]
   _<=k^n*k:=Nat.mul_le_mul_right _ ih
theorem Xy (k n:Nat):Hb k (List.replicate n 0)=0:=by
 induction n with
 |zero=>rfl
 |succ n ih=>rw[List.replicate_succ',Hl,ih];simp
theorem Ade (k m:Nat)(p:List Nat):Hb k (p++List.replicate m 0)=Hb k p*k^m:=by
 induction m with
 |zero=>simp
 |succ m ih=>rw[List.replicate_succ',←List.append_assoc,Hl,ih,Nat.pow_succ,Nat.add_zero,Nat.mul_assoc]
def Back (k n:Nat)(p:List Nat)(i:Nat)(q:List Nat):Prop:=i<=n/\q=p.take i++List.replicate (n-i) 0/\Hb k p+1=(Hb k (p.take i)+1)*k^(n-i)
theorem Back.start {k n:Nat}{p:List Nat}(hp:p.length=n):Back k n p n p:=⟨rr,by rw[Nat.sub_self,←hp,List.take_length];simp,by rw[Nat.sub_self,←hp,List.take_length];simp⟩
theorem Back.digit {k n:Nat}{p:List Nat}{i:Nat}{q:List Nat}(h:Back k n p (i+1) q)(hp:p.length=n):q[i]? =p[i]? :=by
 obtain⟨h1,rfl,_⟩:=h;rw[List.getElem?_append_left (by rw[List.length_take];omega),List.getElem?_take_of_lt (by omega)]
theorem Back.step {k n:Nat}{p:List Nat}{i d:Nat}{q:List Nat}(h:Back k n p (i+1) q)(hp:p.length=n)(hd:p[i]? =some d)(hk:d+1=k):Back k n p i (q.set i 0):=by
 obtain⟨h1,rfl,h2⟩:=h;have ht:p.take (i+1)=p.take i++[d]:=Bb p i d hd;refine⟨by omega, ?_, ?_⟩
 ·rw[ht,List.append_assoc,List.set_append_right _ _ (by rw[List.length_take];omega),List.length_take,Nat.min_eq_left (by omega),Nat.sub_self];rw[show n-i=(n-(i+1))+1 by omega,List.replicate_succ];rfl
 ·rw[h2,ht,Hl,show Hb k (p.take i)*k+d+1=(Hb k (p.take i)+1)*k by rw[Nat.succ_mul];omega,show n-i=(n-(i+1))+1 by omega,Nat.pow_succ',Nat.mul_assoc]
theorem Back.next {k n:Nat}{p:List Nat}{i d:Nat}{q:List Nat}(h:Back k n p (i+1) q)(hp:p.length=n)(hd:p[i]? =some d)(hall:∀x∈p,x<k)(hk:d+1<k):
  (q.set i (d+1)).length=n/\(∀x∈q.set i (d+1),x<k)/\Hb k (q.set i (d+1))=Hb k p+1:=by
 obtain⟨h1,rfl,h2⟩:=h;have ht:p.take (i+1)=p.take i++[d]:=Bb p i d hd
 have hs:(p.take (i+1)++List.replicate (n-(i+1)) 0).set i (d+1)=(p.take i++[d+1])++List.replicate (n-(i+1)) 0:=by
  rw[ht,List.append_assoc,List.set_append_right _ _ (by rw[List.length_take];omega),List.length_take,Nat.min_eq_left (by omega),Nat.sub_self,List.append_assoc];rfl
 rw[hs];refine⟨?_,fun x hx=> ?_, ?_⟩
 ·simp;omega
 ·rcases List.mem_append.1 hx with hx|hx
  ·rcases List.mem_append.1 hx with hx|hx
   ·exact hall x (List.mem_of_mem_take hx)
   ·have:x=d+1:=by simpa using hx
    omega
  ·have:=List.eq_of_mem_replicate hx;omega
 ·rw[Ade,Hl,h2,ht,Hl,Nat.add_assoc]
theorem Back.last {k n:Nat}{p q:List Nat}(h:Back k n p 0 q):Hb k p+1=k^n:=by
 obtain⟨_,_,h2⟩:=h;rw[h2];simp[Hb]
section
variable {α:Type}
structure Kx (lt:α->α->Bool):Prop where
 irr:∀a,lt a a=false
 tr:∀a b c,lt a b=true->lt b c=true->lt a c=true
 tot:∀a b,lt a b=false->lt b a=false->a=b
theorem Ky {lt:α->α->Bool}(h:Kx lt):∀xs ys:List α,xs.Pairwise (fun a b=>lt a b=true)->ys.Pairwise (fun a b=>lt a b=true)->(∀a,a∈xs↔a∈ys)->xs=ys
 |[],[],_,_,_=>rfl
 |[],y::ys,_,_,hm=>by have:=(hm y).2 List.mem_cons_self;cases this
 |x::xs,[],_,_,hm=>by have:=(hm x).1 List.mem_cons_self;cases this
 |x::xs,y::ys,hx,hy,hm=>by
  rw[List.pairwise_cons]at hx hy
  have a0:x=y:=by
   rcases List.mem_cons.1 ((hm x).1 List.mem_cons_self)with e|e
   ·exact e
   ·rcases List.mem_cons.1 ((hm y).2 List.mem_cons_self)with e'|e'
    ·exact e'.symm
    ·have h1:=hy.1 x e;have h2:=hx.1 y e';have h3:=h.tr _ _ _ h1 h2;rw[h.irr]at h3;cases h3
  subst a0;congr 1;refine Ky h xs ys hx.2 hy.2 fun a=>⟨fun ha=> ?_,fun ha=> ?_⟩
  ·rcases List.mem_cons.1 ((hm a).1 (List.mem_cons_of_mem _ ha))with e|e
   ·subst e;have:=hx.1 a ha;rw[h.irr]at this;cases this
   ·exact e
  ·rcases List.mem_cons.1 ((hm a).2 (List.mem_cons_of_mem _ ha))with e|e
   ·subst e;have:=hy.1 a ha;rw[h.irr]at this;cases this
   ·exact e
def Hm (lt:α->α->Bool) [DecidableEq α](x:α):List α->List α
 |[]=>[x]
 |y::r=>if lt y x=true then y::Hm lt x r else if y=x then y::r else x::y::r
variable [DecidableEq α]
theorem Vl (lt:α->α->Bool)(x a:α):∀l:List α,a∈Hm lt x l↔a=x\/a∈l
 |[]=>by simp[Hm]
 |y::r=>by
  unfold Hm;split
  ·rw[List.mem_cons,Vl lt x a r,List.mem_cons];constructor
   ·rintro(h|h|h)
    ·exact .inr (.inl h)
    ·exact .inl h
    ·exact .inr (.inr h)
   ·rintro(h|h|h)
    ·exact .inr (.inl h)
    ·exact .inl h
    ·exact .inr (.inr h)
  ·split
   ·rename_i h;subst h
    rw[List.mem_cons];constructor
    ·exact fun h=> .inr h
    ·rintro(h|h)
     ·exact .inl h
     ·exact h
   ·rw[List.mem_cons]
theorem Th {lt:α->α->Bool}(h:Kx lt)(x:α):∀l:List α,l.Pairwise (fun a b=>lt a b=true)->(Hm lt x l).Pairwise (fun a b=>lt a b=true)
 |[],_=>by simp[Hm]
 |y::r,hl=>by
  rw[List.pairwise_cons]at hl;unfold Hm;split
  ·rename_i h1
   rw[List.pairwise_cons];refine⟨fun a ha=> ?_,Th h x r hl.2⟩
   rcases(Vl lt x a r).1 ha with e|e
   ·rw[e];exact h1
   ·exact hl.1 a e
  ·split
   ·rw[List.pairwise_cons];exact hl
   ·rename_i h1 h2
    have a0:lt x y=true:=by
     cases hb:lt x y with
     |true=>rfl
     |false=>exact absurd (h.tot y x (by simpa using h1) hb) h2
    rw[List.pairwise_cons];refine⟨fun a ha=> ?_,by rw[List.pairwise_cons];exact hl⟩
    rcases List.mem_cons.1 ha with e|e
    ·rw[e];exact a0
    ·exact h.tr _ _ _ a0 (hl.1 a e)
def Lk (lt:α->α->Bool)(l:List α):List α:=l.foldl (fun out x=>Hm lt x out) []
theorem Pd {lt:α->α->Bool}(h:Kx lt):∀(l out:List α),out.Pairwise (fun a b=>lt a b=true)->(l.foldl (fun out x=>Hm lt x out) out).Pairwise (fun a b=>lt a b=true)∧∀a,a∈l.foldl (fun out x=>Hm lt x out) out↔a∈l\/a∈out
 |[],out,ho=>⟨ho,fun a=>by simp⟩
 |x::l,out,ho=>by
  obtain⟨h1,h2⟩:=Pd h l (Hm lt x out) (Th h x out ho);refine⟨h1,fun a=> ?_⟩
  rw[List.foldl_cons,h2,Vl,List.mem_cons];constructor
  ·rintro(e|e|e)
   ·exact .inl (.inr e)
   ·exact .inl (.inl e)
   ·exact .inr e
  ·rintro((e|e)|e)
   ·exact .inr (.inl e)
   ·exact .inl e
   ·exact .inr (.inr e)
theorem Mx {lt:α->α->Bool}(h:Kx lt)(l:List α):(Lk lt l).Pairwise (fun a b=>lt a b=true):=(Pd h l [] List.Pairwise.nil).1
theorem Qi {lt:α->α->Bool}(h:Kx lt)(l:List α)(a:α):a∈Lk lt l↔a∈l:=by
 have:=(Pd h l [] List.Pairwise.nil).2 a
 rw[Lk,this];simp
def B2:List α->List α
 |[]=>[]
 |[x]=>[x]
 |x::y::r=>if x=y then B2 (y::r)else x::B2 (y::r)
theorem L7 (a:α):∀l:List α,a∈B2 l↔a∈l
 |[]=>by simp[B2]
 |[x]=>by simp[B2]
 |x::y::r=>by
  have ih:=L7 a (y::r);unfold B2;split
  ·rename_i h;subst h
   rw[ih];simp
  ·rw[List.mem_cons,ih];simp
theorem Jg {lt:α->α->Bool}(h:Kx lt):∀l:List α,l.Pairwise (fun a b=>lt b a=false)->(B2 l).Pairwise (fun a b=>lt a b=true)
 |[],_=>by simp[B2]
 |[x],_=>by simp[B2]
 |x::y::r,hl=>by
  rw[List.pairwise_cons]at hl;unfold B2;split
  ·exact Jg h (y::r) hl.2
  ·rename_i hxy
   rw[List.pairwise_cons];refine⟨fun a ha=> ?_,Jg h (y::r) hl.2⟩
   rw[L7]at ha;have h1:=hl.1 y List.mem_cons_self
   have a0:lt x y=true:=by
    cases hb:lt x y with
    |true=>rfl
    |false=>exact absurd (h.tot x y hb h1) hxy
   rcases List.mem_cons.1 ha with e|e
   ·rw[e];exact a0
   ·have h2:=(List.pairwise_cons.1 hl.2).1 a e
    cases hb:lt y a with
    |true=>exact h.tr _ _ _ a0 hb
    |false=>rw[←h.tot y a hb h2];exact a0
theorem Aa1 {lt:α->α->Bool}(h:Kx lt){l s:List α}(hs:s.Pairwise (fun a b=>lt b a=false))(hp:∀a,a∈s↔a∈l):B2 s=Lk lt l:=
 Ky h _ _ (Jg h s hs) (Mx h l) fun a=>by rw[L7,hp,Qi h]
theorem Aip {lt:α->α->Bool}(h:Kx lt){l s:List α}(hs:s.Pairwise (fun a b=>lt b a=false))(hn:s.Nodup)(hp:∀a,a∈s↔a∈l):s=Lk lt l:=by
 refine Ky h _ _ ?_ (Mx h l) fun a=>by rw[hp,Qi h]
 refine(List.pairwise_and_iff.2 ⟨hs,hn⟩).imp fun{a b} hab=> ?_
 cases hb:lt a b with
 |true=>rfl
 |false=>exact absurd (h.tot a b hb hab.1) hab.2
end
theorem Cp:Kx Cw where
 irr:=fun a=>by simp[Cw]
 tr:=fun a b c h1 h2=>by
  simp only[Cw,Bool.or_eq_true,Bool.and_eq_true,decide_eq_true_eq]at h1 h2 ⊢;omega
 tot:=fun a b h1 h2=>by
  simp only[Cw,Bool.or_eq_false_iff,Bool.and_eq_false_iff,decide_eq_false_iff_not]at h1 h2;exact Prod.ext (by omega) (by omega)
def Dc:List Snd->List Snd->Bool
 |[],[]=>false
 |[],_::_=>true
 |_::_,[]=>false
 |x::xs,y::ys=>if x=y then Dc xs ys else Cw x y
def Cm (v w:List Snd):Bool:=decide (v.length<w.length)||(decide (v.length=w.length) && Dc v w)
theorem L8:∀a,Dc a a=false
 |[]=>rfl
 |x::a=>by simp[Dc,L8 a]
theorem X0:∀a b c,Dc a b=true->Dc b c=true->Dc a c=true
 |[],[],_,h,_=>by cases h
 |[],_::_,[],_,h=>by cases h
 |[],_::_,_::_,_,_=>rfl
 |_::_,[],_,h,_=>by cases h
 |_::_,_::_,[],_,h=>by cases h
 |x::a,y::b,z::c,h1,h2=>by
  unfold Dc at h1 h2 ⊢;by_cases e1:x=y
  ·subst e1;rw[if_pos rfl]at h1;by_cases e2:x=z
   ·rw[if_pos e2]at h2 ⊢;exact X0 a b c h1 h2
   ·rw[if_neg e2]at h2 ⊢;exact h2
  ·rw[if_neg e1]at h1;by_cases e2:y=z
   ·subst e2;rw[if_neg e1];exact h1
   ·rw[if_neg e2]at h2;have h3:=Cp.tr _ _ _ h1 h2;have e3:x≠z:=fun e=>by subst e;rw[Cp.irr]at h3;cases h3
    rw[if_neg e3];exact h3
theorem Vm:∀a b,Dc a b=false->Dc b a=false->a=b
 |[],[],_,_=>rfl
 |[],_::_,h,_=>by cases h
 |_::_,[],_,h=>by cases h
 |x::a,y::b,h1,h2=>by
  unfold Dc at h1 h2;by_cases e1:x=y
  ·rw[if_pos e1]at h1;rw[if_pos e1.symm]at h2;rw[e1,Vm a b h1 h2]
  ·rw[if_neg e1]at h1;rw[if_neg (Ne.symm e1)]at h2;exact absurd (Cp.tot _ _ h1 h2) e1
theorem Fz:Kx Cm where
 irr:=fun a=>by simp[Cm,L8]
 tr:=fun a b c h1 h2=>by
  simp only[Cm,Bool.or_eq_true,Bool.and_eq_true,decide_eq_true_eq]at h1 h2 ⊢;rcases h1 with h1|⟨e1,h1⟩<;>rcases h2 with h2|⟨e2,h2⟩
  ·left;omega
  ·left;omega
  ·left;omega
  ·right;exact⟨by omega,X0 _ _ _ h1 h2⟩
 tot:=fun a b h1 h2=>by
  simp only[Cm,Bool.or_eq_false_iff,Bool.and_eq_false_iff,decide_eq_false_iff_not]at h1 h2;have hl:a.length=b.length:=by omega
  refine Vm a b ?_ ?_
  ·rcases h1.2 with e|e
   ·exact absurd hl e
   ·exact e
  ·rcases h2.2 with e|e
   ·exact absurd hl.symm e
   ·exact e
def B1 (ss:List Snd):Int:=if 5<ss.length then 12 else if ss.any (fun s=> !Br s.1 s.2)=true then 14 else if¬ss.Nodup then 6 else 0
def B7 (ls:List Bg)(w ss:List Snd):Int:=if C5 ls≠0 then C5 ls else if Bs w≠0 then Bs w else B1 ss
def Ba (ss:List Snd):List Snd:=Lk Cw ss
def C0 (ss:List Snd):List (List Snd):=(List.range 7).flatMap (Bp (Ba ss))
def Cl (ls:List Bg)(w ss:List Snd):List (List Snd):=(C0 ss).filter fun v=>decide (Bm ls v=(0,w))
def Et (ls:List Bg)(w ss:List Snd)(most:Int):Int×List (List Snd):=
 if B7 ls w ss≠0 then(B7 ls w ss,[])else if most<0 then(3,[])else(0,(Cl ls w ss).take most.toNat)
def Fa (ls:List Bg)(w ss:List Snd):Int×Int:=if B7 ls w ss≠0 then(B7 ls w ss,0)else(0,((Cl ls w ss).length:Nat))
def C3 (ls:List Bg)(ss:List Snd)(n:Int):Int:=if B7 ls [] ss≠0 then B7 ls [] ss else if n<0\/4<n then 3 else 0
def Cr (ls:List Bg)(ss:List Snd)(n:Nat):List (List Snd×List Snd):=((Bp (Ba ss) n).filter fun v=>decide ((Bm ls v).1=0)).map fun v=>(v,(Bm ls v).2)
def F9 (ls:List Bg)(ss:List Snd)(n:Int):Int×List (List Snd):=
 if C3 ls ss n≠0 then(C3 ls ss n,[])else(0,Lk Cm ((Cr ls ss n.toNat).map fun p=>p.2))
def Ds:List (List Snd×List Snd)->List (List Snd×List Snd)->List (List Snd×List Snd)
 |[],_=>[]
 |x::r,fs=>match fs.find? (fun p=>decide (p.2=x.2))with|some p=>(p.1,x.1)::Ds r fs|none=>Ds r (fs++[x])
def Kl (ls:List Bg)(ss:List Snd)(n:Int):Int×List (List Snd×List Snd):=if C3 ls ss n≠0 then(C3 ls ss n,[])else(0,Ds (Cr ls ss n.toNat) [])
def Fg (l:Bg)(ss:List Snd)(n:Int):Int×Int:=
 if C3 [l] ss n≠0 then(C3 [l] ss n,0)else(0,(((Cr [l] ss n.toNat).filter fun p=>decide (p.1=p.2)).length:Nat))
-- words of an alphabet
theorem Eu (l:List Snd):∀(n:Nat) (v:List Snd),v∈Bp l n↔v.length=n∧∀s∈v,s∈l
 |0,v=>by
  simp only[Bp,List.mem_singleton];constructor
  ·rintro rfl;exact⟨rfl,fun s hs=>by cases hs⟩
  ·rintro⟨h,_⟩;exact List.eq_nil_of_length_eq_zero h
 |n+1,v=>by
  simp only[Bp,List.mem_flatMap,List.mem_map];constructor
  ·rintro⟨u,hu,s,hs,rfl⟩;obtain⟨h1,h2⟩:=(Eu l n u).1 hu;refine⟨by simp[h1],fun x hx=> ?_⟩
   rcases List.mem_append.1 hx with hx|hx
   ·exact h2 x hx
   ·obtain rfl:x=s:=by simpa using hx
    exact hs
  ·rintro⟨h1,h2⟩;have a0:v≠ []:=fun e=>by rw[e]at h1;cases h1
   refine⟨v.dropLast,(Eu l n _).2 ⟨by rw[List.length_dropLast];omega,fun s hs=>h2 s ((List.dropLast_sublist v).mem hs)⟩,v.getLast a0,h2 _ (List.getLast_mem a0),List.dropLast_concat_getLast a0⟩
theorem Mw:∀(a b:List Snd) (x y:Snd),a.length=b.length->Dc (a++[x]) (b++[y])=if a=b then Cw x y else Dc a b
 |[],[],x,y,_=>by
  by_cases h:x=y
  ·subst h;simp[Dc,Cp.irr]
  ·simp[Dc,h]
 |[],_::_,_,_,h=>by cases h
 |_::_,[],_,_,h=>by cases h
 |p::a,q::b,x,y,h=>by
  have ih:=Mw a b x y (by simpa using h);show(if p=q then Dc (a++[x]) (b++[y])else Cw p q)=_;by_cases e:p=q
  ·subst e;rw[if_pos rfl,ih];by_cases e2:a=b
   ·subst e2;simp
   ·rw[if_neg e2,if_neg (by simp[e2])];simp[Dc]
  ·rw[if_neg e,if_neg (by simp[e])];simp[Dc,e]
theorem Qe {l:List Snd}(h:l.Pairwise (fun a b=>Cw a b=true)):∀n,(Bp l n).Pairwise (fun a b=>Dc a b=true)
 |0=>by simp[Bp]
 |n+1=>by
  have ih:=Qe h n;have hm:∀v∈Bp l n,v.length=n:=fun v hv=>((Eu l n v).1 hv).1
  rw[Bp];generalize Bp l n=L at ih hm
  induction L with
  |nil=>simp
  |cons v r ih2=>
   rw[List.pairwise_cons]at ih;rw[List.flatMap_cons,List.pairwise_append];refine⟨?_,ih2 ih.2 (fun u hu=>hm u (List.mem_cons_of_mem _ hu)),fun a ha b hb=> ?_⟩
   ·rw[List.pairwise_map];exact h.imp fun{x y} hxy=>by rw[Mw v v x y rfl,if_pos rfl];exact hxy
   ·obtain⟨x,_,rfl⟩:=List.mem_map.1 ha;obtain⟨u,hu,hb⟩:=List.mem_flatMap.1 hb;obtain⟨y,_,rfl⟩:=List.mem_map.1 hb;have h1:=ih.1 u hu;rw[Mw v u x y (by rw[hm v List.mem_cons_self,hm u (List.mem_cons_of_mem _ hu)]),if_neg (fun e=>by rw[e,L8]at h1;cases h1)];exact h1
theorem Qf (ss:List Snd):(Ba ss).Pairwise (fun a b=>Cw a b=true):=Mx Cp ss
theorem Gd (ss:List Snd)(s:Snd):s∈Ba ss↔s∈ss:=Qi Cp ss s
theorem Qg (ss v:List Snd):v∈C0 ss↔v.length<=6∧∀s∈v,s∈ss:=by
 unfold C0;rw[List.mem_flatMap];constructor
 ·rintro⟨n,hn,hv⟩;obtain⟨h1,h2⟩:=(Eu _ n v).1 hv
  have:=List.mem_range.1 hn
  exact⟨by omega,fun s hs=>(Gd ss s).1 (h2 s hs)⟩
 ·rintro⟨h1,h2⟩;exact⟨v.length,List.mem_range.2 (by omega),(Eu _ _ v).2 ⟨rfl,fun s hs=>(Gd ss s).2 (h2 s hs)⟩⟩
theorem Adf (ls:List Bg)(w ss v:List Snd):v∈Cl ls w ss↔(v.length<=6∧∀s∈v,s∈ss)/\Bm ls v=(0,w):=by
 unfold Cl;rw[List.mem_filter,Qg];simp
theorem Fk {ss:List Snd}(h:ss.Nodup):(Ba ss).length=ss.length:=by
 refine List.Perm.length_eq ?_;refine(List.perm_ext_iff_of_nodup ((Qf ss).imp fun{a b} hab e=> ?_) h).2 (Gd ss);rw[e,Cp.irr]at hab;cases hab
theorem Qh {ss:List Snd}(h:ss.Nodup):(C0 ss).length=((List.range 7).map fun n=>ss.length^n).sum:=by
 unfold C0;rw[List.length_flatMap];congr 1;apply List.map_congr_left;intro n _;rw[Hk,Fk h]
theorem Af1:Et [vD] [sA,sB,sA] [sP,sB,sA] 9=(0,[[sA,sP,sA],[sA,sB,sA]]):=by decide+kernel
theorem Ac6:F9 [vD,fD] [sP,sB,sA] 1=(0,[[],[sP],[sB]]):=by decide+kernel
theorem Af2:Kl [vD] [sP,sB,sA] 3=(0,[([sA,sP,sA],[sA,sB,sA])]):=by decide+kernel
theorem Ac7:Fg fD [sP,sB,sA] 2=(0,6):=by decide+kernel
theorem Mu {o:Oper}{a:Act}{K:Act->World->Prop}{Q:Exit->Act->World->Prop}(w:World)(x y:Operand)(ho:o.op= .store 34 x y)
  (b:Nat) (l:Bg) (la:Dn) (hx:a.eval x= .pointer (some ⟨b,0,none⟩)) (hy:a.eval y=C8 l la) {old:Array Value} {t:TypeId} (hr:w.heap[b]? =some (.cells old t (0,0))) (hs:old.size=18)
  (h:∀W,W.heap[b]? =some (.cells (Bv l la) t (0,0))->Aj (fun k=>k=b) w W->W.heap.size=w.heap.size->K (a.put o.dst undef) W):o.wp Tryz.prog a w K Q:=by
 have h':=h (w.setRow b (Bv l la)) (setRow_heap w b old _ t _ hr) ⟨rfl,rfl,rfl,by simp[World.setRow],fun k _ hk=>setRow_other w b k _ hk⟩ (by simp[World.setRow])
 unfold Oper.wp execOp;simp only[ho,hx,hy,Instr.storeAt,Instr.sureAddr,Sem.run_bind,Sem.run_pure,Result.andThen_ok,run_storeVar_row w b t 34 old (Bv l la) hr (Ln l la) (by rw[Ma];exact hs) (Zm l la)];exact h'
theorem Rv {fn:Func}{s p q:Tmp}(h:fn.results= #[.tmp s, .cell p 34, .cell q 34])(tmps:Array Value)(w:World)(v:Value)(b1 b2:Nat)(l1 l2:Bg)(a1 a2:Dn){t:TypeId}{fr:Nat×Nat}(hv:tmps.getD s undef=v)
  (hp:tmps.getD p undef= .pointer (some ⟨b1,0,none⟩)) (hq:tmps.getD q undef= .pointer (some ⟨b2,0,none⟩)) (h1:w.heap[b1]? =some (.cells (Bv l1 a1) t fr)) (h2:w.heap[b2]? =some (.cells (Bv l2 a2) t fr)):
  (results fn tmps).run Tryz.prog w= .ok (.tuple #[v,C8 l1 a1,C8 l2 a2]) w:=by
 have a5:tmps[s]?.getD undef=v:=by simpa using hv
 have a3:tmps[p]?.getD undef= .pointer (some ⟨b1,0,none⟩):=by simpa using hp
 have a4:tmps[q]?.getD undef= .pointer (some ⟨b2,0,none⟩):=by simpa using hq
 have hl:=Jm h1;have a0:=Jm h2;simp[results,h,a5,a3,a4,asAddr,hl,a0]
theorem Alc (w:World):Calls Tryz.prog 73 #[] w fun e w'=>∃(A:Option Addr) (c:Nat) (av af:Dn),e= .returned (.tuple #[.slice A 3 c,C8 vD av,C8 fD af])/\Ad w' A 3 c [sP,sB,sA]/\Cv w' vD av/\Cv w' fD af/\Below w.heap.size w w':=by
 go_enter Tryz.func73,Tryz.ntmps73;obtain⟨av,a5⟩:∃a:Dn,a={Al:=none,cl:=0,Ar:=none,cr:=0,Ai:=some ⟨w.heap.size+1+1+1,0,none⟩,ci:=1,Ao:=some ⟨w.heap.size+1+1+1+1,0,none⟩,co:=1}:=⟨_,rfl⟩;go_wp2_with(refine Lp rfl (.tmp 4) (.tmp 15) rfl (w.heap.size+1+1+1+1+1) vD av rfl (by rw[a5];rfl) (t:=34) (by repeat(first|exact Ak sd|rw[Am sd])) rfl ?_;intro W1 g1 g2 g3);obtain⟨af,a6⟩:∃a:Dn,a={Al:=none,cl:=0,Ar:=none,cr:=0,Ai:=some ⟨w.heap.size+1+1+1+1+1+1,0,none⟩,ci:=1,Ao:=none,co:=0}:=⟨_,rfl⟩;have b7:W1.heap.size=w.heap.size+6:=by rw[g3];simp
 have q0:∃old:Array Value,W1.heap[w.heap.size]? =some (.cells old 34 (0,0))/\old.size=18:=⟨_,(g2.block _ sd (by omega)).trans (by repeat(first|exact Ak sd|rw[Am sd])),rfl⟩;have q1:∃old:Array Value,W1.heap[w.heap.size+1]? =some (.cells old 34 (0,0))/\old.size=18:=⟨_,(g2.block _ sd (by omega)).trans (by repeat(first|exact Ak sd|rw[Am sd])),rfl⟩;have q3:W1.heap[w.heap.size+1+1+1]? =some (.cells #[.int .u32 2, .int .u32 0] 24 (0,0)):=(g2.block _ sd (by omega)).trans (by repeat(first|exact Ak sd|rw[Am sd]));have q4:W1.heap[w.heap.size+1+1+1+1]? =some (.cells #[.int .i64 0, .int .u32 0, .int .u32 1, .int .u32 0, .int .u32 0, .int .i64 0] 30 (0,0)):=(g2.block _ sd (by omega)).trans (by repeat(first|exact Ak sd|rw[Am sd]));have a3:Below w.heap.size w W1:=Below.trans bel (g2.to_below (B:=w.heap.size) (fun k hk=>by omega) (by simp;omega));clear g2 g3;generalize hW5:(W1.alloc (.cells #[.int .u32 4, .int .u32 0] 24)).alloc (.cells #[.string ⟨#[70]⟩, .int .i64 0, .int .u32 0, .int .u32 0, .bool false, .int .i64 0, .int .i64 0, .slice none 0 0, .int .i64 6, .int .u32 0, .int .u32 0, .bool false, .int .i64 0, .int .i64 0, .slice none 0 0, .slice (some ⟨w.heap.size+1+1+1+1+1+1,0,none⟩) 1 1, .slice none 0 0, .int .i64 1] 34)=W5;have a9:W5.heap.size=w.heap.size+8:=by rw[←hW5];simp;omega
 have o5:∀k,k<w.heap.size+6->W5.heap[k]? =W1.heap[k]? :=fun k hk=>by rw[←hW5];exact(Am (by simp;omega)).trans (Am (by omega))
 have k4:W5.heap[w.heap.size+1+1+1+1+1]? =some (.cells (Bv vD av) 34 (0,0)):=(o5 _ (by omega)).trans g1;have k6:W5.heap[w.heap.size+1+1+1+1+1+1]? =some (.cells #[.int .u32 4, .int .u32 0] 24 (0,0)):=by rw[←hW5];exact(Am (by simp;omega)).trans (Ak (by omega))
 have k7:W5.heap[w.heap.size+1+1+1+1+1+1+1]? =some (.cells (Bv fD af) 34 (0,0)):=by rw[←hW5,a6];exact Ak (by simp;omega)
 obtain⟨ol0,q0,z0⟩:=q0;obtain⟨ol1,q1,z1⟩:=q1;have k0:=(o5 _ (by omega)).trans q0;have k1:=(o5 _ (by omega)).trans q1;have k3:=(o5 _ (by omega)).trans q3;have k44:=(o5 _ (by omega)).trans q4;have a8:Below w.heap.size w W5:=⟨by rw[←hW5];exact a3.os,by rw[←hW5];exact a3.tape,by rw[←hW5];exact a3.output,by omega,fun k hk=>(o5 k (by omega)).trans (a3.block k hk)⟩
 have b8:=hI a5;have d0:=hI a6;have d1:=hI a9;have b4:w.heap.size+8<=W5.heap.size:=by omega
 have K0:=hI k0;have K1:=hI k1;have K3:=hI k3;have b9:=hI k44;have K6:=hI k6;have K4:=hI k4;have K7:=hI k7;have b3:=hI a8;have Z0:=hI z0;have Z1:=hI z1;clear hW5 g1 q0 q1 q3 q4 o5 a3 b7 a5 a6 a9 k0 k1 k3 k44 k6 a8 z0 z1;refine Bj (fun W'=>W'.heap[w.heap.size+1+1+1+1+1]? =some (.cells (Bv vD av) 34 (0,0))/\W'.heap[w.heap.size+1+1+1+1+1+1+1]? =some (.cells (Bv fD af) 34 (0,0))) (by kernel_rfl) ⟨k4,k7⟩ (fun hHeld=> ?_);clear k4 k7
 (refine' Aa 0 rfl ?_;(try simp only[Act.put,nY,nX]));(refine' Aa 1 rfl ?_;(try simp only[Act.put,nY,nX]));(refine' Aa 2 rfl ?_;(try simp only[Act.put,nY,nX]))
 (refine' Ct (i:=4) (v:=C8 vD av) rfl (by kernel_rfl) (by kernel_rfl) (by kernel_rfl) (by kernel_rfl) (fun _ _ _ h=>h) (Ga (by rfl) (.tmp 4) rfl (w.heap.size+1+1+1+1+1) vD av (by rfl) (fun w' hSw=>hSw.1)) (by assumption) ?_;(try simp only[Act.put,nY,nX]))
 (refine' Ct (i:=5) (v:=C8 fD af) rfl (by kernel_rfl) (by kernel_rfl) (by kernel_rfl) (by kernel_rfl) (fun _ _ _ h=>h) (Ga (by rfl) (.tmp 5) rfl (w.heap.size+1+1+1+1+1+1+1) fD af (by rfl) (fun w' hSw=>hSw.2)) (by assumption) ?_;(try simp only[Act.put,nY,nX]))
 (refine Aqq 3 rfl (fun K' hK'=> ?_);simp only[nY];go_simp)
 have b0:Ad ((W5.alloc (.cells #[.int .u32 2, .int .u32 5, .int .u32 3, .int .u32 4, .int .u32 5, .int .u32 2] 24)).drew) (some ⟨W5.heap.size,0,none⟩) 3 3 [sP,sB,sA]:=E1 W5 [sP,sB,sA] 24 (by simp);have a2:Below W5.heap.size W5 ((W5.alloc (.cells #[.int .u32 2, .int .u32 5, .int .u32 3, .int .u32 4, .int .u32 5, .int .u32 2] 24)).drew):=((Below.refl _ W5).alloc rr _).drew
 have a0:((W5.alloc (.cells #[.int .u32 2, .int .u32 5, .int .u32 3, .int .u32 4, .int .u32 5, .int .u32 2] 24)).drew).heap[w.heap.size+1+1+1+1+1]? =some (.cells (Bv vD av) 34 (0,0))/\((W5.alloc (.cells #[.int .u32 2, .int .u32 5, .int .u32 3, .int .u32 4, .int .u32 5, .int .u32 2] 24)).drew).heap[w.heap.size+1+1+1+1+1+1+1]? =some (.cells (Bv fD af) 34 (0,0)):=
  ⟨(a2.block _ (by omega)).trans K4.out,(a2.block _ (by omega)).trans K7.out⟩
 refine hK' _ _ ⟨.inr a0,fun _=> ?_⟩
 clear hK' K' hHeld
 (try simp only[Act.put,nY,nX])
 generalize(W5.alloc (.cells #[.int .u32 2, .int .u32 5, .int .u32 3, .int .u32 4, .int .u32 5, .int .u32 2] 24)).drew=W6 at*;have k0:=(a2.block _ (by omega)).trans K0.out;have k1:=(a2.block _ (by omega)).trans K1.out;have k3:=(a2.block _ (by omega)).trans K3.out;have k44:=(a2.block _ (by omega)).trans b9.out;have k6:=(a2.block _ (by omega)).trans K6.out;have d2:=a2.size;have a7:Below w.heap.size w W6:=b3.out.trans (a2.mono (by omega));have b6:=hI b0;clear b0 a2
 (refine Aqq 6 rfl (fun K' hK'=> ?_);simp only[nY];go_simp)
 refine hK' _ _ ⟨.inr a0,fun _=> ?_⟩
 clear hK' K'
 (try simp only[Act.put,nY,nX])
 refine Aqq 7 rfl (fun K' hK'=> ?_);rw[if_pos (by rfl)];refine Mu _ (.tmp 1) (.tmp 24) rfl w.heap.size vD av (by rfl) (by rfl) k0 Z0.out ?_;intro X1 x1 x2 x3;have y1:∀k,k≠w.heap.size->k<w.heap.size+8->X1.heap[k]? =W6.heap[k]? :=fun k hk hl=>x2.block k (by omega) hk
 have a1:X1.heap[w.heap.size+1+1+1+1+1]? =some (.cells (Bv vD av) 34 (0,0))/\X1.heap[w.heap.size+1+1+1+1+1+1+1]? =some (.cells (Bv fD af) 34 (0,0)):=⟨(y1 _ (by omega) (by omega)).trans a0.1,(y1 _ (by omega) (by omega)).trans a0.2⟩;refine hK' _ _ ⟨.inr a1,fun _=> ?_⟩
 clear hK' K' a0
 (try simp only[Act.put,nY,nX])
 refine Aqq 8 rfl (fun K' hK'=> ?_);rw[if_pos (by rfl)];refine Mu _ (.tmp 2) (.tmp 25) rfl (w.heap.size+1) fD af (by rfl) (by rfl) ((y1 _ (by omega) (by omega)).trans k1) Z1.out ?_;intro X2 x4 x5 x6;refine hK' _ _ ⟨.inl (by kernel_rfl),fun _=>Be (by kernel_rfl) ?_ _⟩
 clear hK' K' a1
 (try simp only[Act.put,nY,nX])
 have y2:∀k,k≠w.heap.size->k≠w.heap.size+1->k<w.heap.size+8->X2.heap[k]? =W6.heap[k]? :=fun k hk hk1 hl=>(x5.block k (by omega) hk1).trans (y1 k hk hl)
 have r0:=(x5.block w.heap.size (by omega) (by omega)).trans x1;have r3:=(y2 _ (by omega) (by omega) (by omega)).trans k3;have r44:=(y2 _ (by omega) (by omega) (by omega)).trans k44;have r6:=(y2 _ (by omega) (by omega) (by omega)).trans k6;have a4:Aj (fun k=>k=w.heap.size\/k=w.heap.size+1) W6 X2:=(x2.mono fun k e=> .inl e).trans (x5.mono fun k e=> .inr e);have R0:=hI r0;have R1:=hI x4;have R3:=hI r3;have R44:=hI r44;have R6:=hI r6;have b2:Hid (Ad X2 (some ⟨W5.heap.size,0,none⟩) 3 3 [sP,sB,sA]):=b6.out.keep a4 fun _ ad had e=>by injection had with had;subst had;simp at e;omega
 have b1:Hid (Below w.heap.size w X2):=a7.trans (a4.to_below (B:=w.heap.size) (fun k hk=>by rcases hk with rfl|rfl<;>omega) a7.size);clear k0 k1 k3 k44 k6 x1 x2 x3 x4 x5 x6 y1 y2 r0 r3 r44 r6 a4 a7;go_wp2;refine bodyPost_ret (Rv Tryz.results73 _ _ _ w.heap.size (w.heap.size+1) vD fD av af rfl rfl rfl R0.out R1.out) rfl ⟨_,3,av,af,rfl,b2.out, ?_, ?_,b1.out⟩
 ·rw[b8.out];refine⟨Uo _,Uo _,Aav (s:=(2,0)) R3.out,⟨⟨rfl,rr,(by decide:1<=maxLen),(fun h=>by cases h),fun _=>⟨w.heap.size+1+1+1+1,0,rfl,lt_of_block R44.out,fun j v hv=> ?_⟩⟩,rfl⟩,by decide⟩
  rw[Nat.zero_add];refine Ab R44.out ?_;have b5:[Value.int .i64 0, .int .u32 0, .int .u32 1, .int .u32 0, .int .u32 0, .int .i64 0][j]? =some v:=hv;simpa using b5
 ·rw[d0.out];exact⟨Uo _,Uo _,Aav (s:=(4,0)) R6.out,⟨Bd.nil _ _,rfl⟩,by decide⟩
def Dl:List (List Snd×List Snd)->List (List Snd×List Snd)->List (List Snd×List Snd)
 |[],fs=>fs
 |x::r,fs=>if fs.any (fun p=>decide (p.2=x.2))=true then Dl r fs else Dl r (fs++[x])
theorem Vk {fs:List (List Snd×List Snd)}{t:List Snd}:(∃p,fs.find? (fun p=>decide (p.2=t))=some p/\p∈fs/\p.2=t)/\fs.any (fun p=>decide (p.2=t))=true\/fs.find? (fun p=>decide (p.2=t))=none/\fs.any (fun p=>decide (p.2=t))=false:=by
 cases h:fs.find? (fun p=>decide (p.2=t))with
 |none=>
  right;refine⟨rfl,List.any_eq_false.2 fun p hp=> ?_⟩
  exact List.find?_eq_none.1 h p hp
 |some p=>
  left;have h1:=List.find?_some h;have h2:=List.mem_of_find?_eq_some h;exact⟨⟨p,rfl,h2,by simpa using h1⟩,List.any_eq_true.2 ⟨p,h2,h1⟩⟩
theorem Ju {x p:List Snd×List Snd}{r fs:List (List Snd×List Snd)}(h:fs.find? (fun p=>decide (p.2=x.2))=some p):Ds (x::r) fs=(p.1,x.1)::Ds r fs:=by
 rw[Ds,h]
theorem Jv {x:List Snd×List Snd}{r fs:List (List Snd×List Snd)}(h:fs.find? (fun p=>decide (p.2=x.2))=none):Ds (x::r) fs=Ds r (fs++[x]):=by
 rw[Ds,h]
def lsd (ss:List Snd):Nat->Nat->List Snd
 |0,_=>[]
 |n+1,i=>ss.getD (i%ss.length) (0,0)::lsd ss n (i/ss.length)
theorem Ae4 (ss:List Snd):∀(n i:Nat),(lsd ss n i).length=n
 |0,_=>rfl
 |n+1,i=>by simp[lsd,Ae4 ss n]
theorem Ain {ss:List Snd}{i:Nat}(h:i<ss.length):ss.getD i (0,0)∈ss:=by
 rw[List.getD_eq_getElem?_getD,List.getElem?_eq_getElem h];exact List.getElem_mem h
theorem Ae5 {ss:List Snd}(h:0<ss.length):∀(n i:Nat),∀s∈lsd ss n i,s∈ss
 |0,_,s,hs=>by cases hs
 |n+1,i,s,hs=>by
  rcases List.mem_cons.1 hs with e|hs
  ·rw[e];exact Ain (Nat.mod_lt _ h)
  ·exact Ae5 h n _ s hs
theorem Ae6 {ss:List Snd}(hn:ss.Nodup)(h:0<ss.length):∀(n i j:Nat),i<ss.length^n->j<ss.length^n->lsd ss n i=lsd ss n j->i=j
 |0,i,j,hi,hj,_=>by simp at hi hj;omega
 |n+1,i,j,hi,hj,e=>by
  injection e with e1 e2
  have a1:=Nat.mod_lt i h;have a0:=Nat.mod_lt j h
  have h1:i%ss.length=j%ss.length:=by
   rw[List.getD_eq_getElem?_getD,List.getElem?_eq_getElem a1,List.getD_eq_getElem?_getD,List.getElem?_eq_getElem a0]at e1;exact(List.getElem_inj hn).1 (by simpa using e1)
  have h2:=Ae6 hn h n (i/ss.length) (j/ss.length) (Nat.div_lt_of_lt_mul (by rw[←Nat.pow_succ'];exact hi)) (Nat.div_lt_of_lt_mul (by rw[←Nat.pow_succ'];exact hj)) e2;rw[←Nat.div_add_mod i ss.length,←Nat.div_add_mod j ss.length,h1,h2]
theorem Aa0 {ss:List Snd}:∀(n:Nat) (v:List Snd),v.length=n->(∀s∈v,s∈ss)→∃i,i<ss.length^n/\lsd ss n i=v
 |0,v,hv,_=>⟨0,by simp,by rw[List.eq_nil_of_length_eq_zero hv];rfl⟩
 |n+1,[],hv,_=>by cases hv
 |n+1,s::v,hv,hs=>by
  obtain⟨j,hj,a1⟩:=Aa0 n v (by simpa using hv) (fun x hx=>hs x (List.mem_cons_of_mem _ hx));obtain⟨d,hd,a0⟩:=List.getElem_of_mem (hs s List.mem_cons_self);have h0:0<ss.length:=by omega
  refine⟨d+ss.length*j, ?_, ?_⟩
  ·rw[Nat.pow_succ']
   calc d+ss.length*j<ss.length+ss.length*j:=by omega
    _=ss.length*(j+1):=by rw[Nat.mul_add];omega
    _<=ss.length*ss.length^n:=Nat.mul_le_mul_left _ hj
  ·rw[lsd];have h1:(d+ss.length*j)%ss.length=d:=by rw[Nat.add_mul_mod_self_left,Nat.mod_eq_of_lt hd]
   have h2:(d+ss.length*j)/ss.length=j:=by rw[Nat.add_mul_div_left _ _ h0,Nat.div_eq_of_lt hd];omega
   rw[h1,h2,a1,List.getD_eq_getElem?_getD,List.getElem?_eq_getElem hd];simp[a0]
theorem Aio {ss:List Snd}(hn:ss.Nodup)(n:Nat):((List.range (ss.length^n)).map (lsd ss n)).Perm (Bp (Ba ss) n):=by
 refine(List.perm_ext_iff_of_nodup ?_ ?_).2 fun v=> ?_
 ·rw[List.nodup_iff_pairwise_ne,List.pairwise_map];refine(List.nodup_iff_pairwise_ne.1 List.nodup_range).imp_of_mem fun{i j} hi hj hij e=> ?_
  rcases Nat.eq_zero_or_pos ss.length with h0|h0
  ·rcases n with _|n
   ·have:=List.mem_range.1 hi;have:=List.mem_range.1 hj;simp at*;omega
   ·have:=List.mem_range.1 hi;rw[h0]at this;simp at this
  ·exact hij (Ae6 hn h0 n i j (List.mem_range.1 hi) (List.mem_range.1 hj) e)
 ·exact(Qe (Qf ss) n).imp fun{a b} hab e=>by rw[e,L8]at hab;cases hab
 ·rw[Eu,List.mem_map];constructor
  ·rintro⟨i,hi,rfl⟩;refine⟨Ae4 ss n i,fun s hs=>(Gd ss s).2 ?_⟩
   rcases Nat.eq_zero_or_pos ss.length with h0|h0
   ·rcases n with _|n
    ·cases hs
    ·have:=List.mem_range.1 hi;rw[h0]at this;simp at this
   ·exact Ae5 h0 n i s hs
  ·rintro⟨h1,h2⟩;obtain⟨i,hi,e⟩:=Aa0 n v h1 (fun s hs=>(Gd ss s).1 (h2 s hs));exact⟨i,List.mem_range.2 hi,e⟩
theorem Xz {ss:List Snd}(hn:ss.Nodup)(n:Nat)(p:List Snd->Bool):((List.range (ss.length^n)).filter fun i=>p (lsd ss n i)).length=((Bp (Ba ss) n).filter p).length:=by
 have h:=((Aio hn n).filter p).length_eq;rw[←h,List.filter_map,List.length_map];rfl
theorem L6 {ls:List Bg}{w ss:List Snd}(h:ss.Nodup)(h5:ss.length<=5):(Cl ls w ss).length<=19531:=by
 refine Nat.le_trans (List.length_filter_le _ _) ?_;rw[Qh h];have hp:∀n,ss.length^n<=5^n:=fun n=>Nat.pow_le_pow_left h5 n
 have h0:=hp 0;have h1:=hp 1;have h2:=hp 2;have h3:=hp 3;have h4:=hp 4;have a0:=hp 5;have h6:=hp 6;simp only[List.range,List.range.loop,List.map_cons,List.map_nil,List.sum_cons,List.sum_nil];omega
theorem Cg {ss:List Snd}(h:B1 ss=0):ss.length<=5/\(∀s∈ss,Br s.1 s.2=true)/\ss.Nodup:=by
 unfold B1 at h;by_cases h1:5<ss.length
 ·rw[if_pos h1]at h;exact absurd h (by decide)
 rw[if_neg h1]at h;by_cases h2:ss.any (fun s=> !Br s.1 s.2)=true
 ·rw[if_pos h2]at h;exact absurd h (by decide)
 rw[if_neg h2]at h;by_cases h3:ss.Nodup
 ·refine⟨by omega,fun s hs=> ?_,h3⟩
  cases hb:Br s.1 s.2 with
  |true=>rfl
  |false=>exact absurd (List.any_eq_true.2 ⟨s,hs,by simp[hb]⟩) h2
 ·rw[if_pos h3]at h;exact absurd h (by decide)
theorem Dk {ls:List Bg}{w ss:List Snd}(h:B7 ls w ss=0):C5 ls=0/\Bs w=0/\B1 ss=0:=by
 unfold B7 at h;by_cases h1:C5 ls=0
 ·rw[if_neg (by simpa using h1)]at h;by_cases h2:Bs w=0
  ·rw[if_neg (by simpa using h2)]at h;exact⟨h1,h2,h⟩
  ·rw[if_pos h2]at h;exact absurd h h2
 ·rw[if_pos h1]at h;exact absurd h h1
theorem Qd {ss v:List Snd}(h:∀s∈ss,Br s.1 s.2=true)(hv:∀s∈v,s∈ss)(hl:v.length<=32):Bs v=0:=by
 unfold Bs;rw[if_neg (by omega),if_pos (List.all_eq_true.2 fun s hs=>by rw[Xo];exact h s (hv s hs))]
theorem Add {l:Bg}{v:List Snd}(hl:C5 [l]=0)(hw:Bs v=0):Bm [l] v=if(Bo l v).1≠0 then(11,[])else(0,(Bo l v).2):=by
 rw[Ahi hl hw];by_cases h:(Bo l v).1=0
 ·rw[Ahh h,if_neg (by simp[Rh]),if_neg (by simpa using h)];rfl
 ·rw[Akj h,if_pos h,if_pos h]
theorem take_all {ls:List Bg}{w ss:List Snd}(h:B1 ss=0):(Cl ls w ss).take 100000=Cl ls w ss:=by
 obtain⟨h5,_,hn⟩:=Cg h;exact List.take_of_length_le (Nat.le_trans (L6 hn h5) (by omega))
theorem Aaz {l:Bg}{ss:List Snd}(hl:C5 [l]=0)(hs:B1 ss=0){n:Nat}(hn:n<=32):
  ((Cr [l] ss n).filter fun p=>decide (p.1=p.2)).length=((List.range (ss.length^n)).filter fun i=>decide (Bo l (lsd ss n i)=(0,lsd ss n i))).length:=by
 obtain⟨_,hv,a1⟩:=Cg hs;rw[Xz a1 n (fun v=>decide (Bo l v=(0,v)))];unfold Cr;rw[List.filter_map,List.length_map,List.filter_filter];congr 1;apply List.filter_congr;intro v a0;obtain⟨h1,h2⟩:=(Eu _ n v).1 a0;have hw:Bs v=0:=Qd hv (fun s hs'=>(Gd ss s).1 (h2 s hs')) (by omega);show(decide (v=(Bm [l] v).2) && decide ((Bm [l] v).1=0))=decide (Bo l v=(0,v));rw[Add hl hw];by_cases h:(Bo l v).1=0
 ·rw[if_neg (by simpa using h)];by_cases h3:v=(Bo l v).2
  ·have:Bo l v=(0,v):=Prod.ext h h3.symm
   simp[←h3,this]
  ·have:¬Bo l v=(0,v):=fun e=>h3 (by rw[e])
   simp[h3,this]
 ·rw[if_pos h]
  have:¬Bo l v=(0,v):=fun e=>h (by rw[e])
  simp[this]
def Lc (ls:List Bg)(w ss:List Snd)(n i:Nat):List (List Snd):=
 ((List.range n).flatMap (Bp (Ba ss))++(Bp (Ba ss) n).take i).filter fun v=>decide (Bm ls v=(0,w))
theorem Akf (ls:List Bg)(w ss:List Snd):Lc ls w ss 0 0=[]:=by simp[Lc]
theorem Akg (ls:List Bg)(w ss:List Snd):Lc ls w ss 7 0=Cl ls w ss:=by simp[Lc,Cl,C0]
theorem Akh (ls:List Bg)(w ss:List Snd)(n:Nat):Lc ls w ss n (Bp (Ba ss) n).length=Lc ls w ss (n+1) 0:=by
 unfold Lc;rw[List.take_length,List.take_zero,List.append_nil,List.range_succ,List.flatMap_append,List.flatMap_cons,List.flatMap_nil,List.append_nil]
theorem Afg {ls:List Bg}{w ss x:List Snd}{n i:Nat}(h:(Bp (Ba ss) n)[i]? =some x)(hx:Bm ls x=(0,w)):Lc ls w ss n (i+1)=Lc ls w ss n i++[x]:=by
 unfold Lc;rw[Bb _ i x h,←List.append_assoc,List.filter_append,List.filter_cons_of_pos (by simpa using hx)];rfl
theorem Aki {ls:List Bg}{w ss x:List Snd}{n i:Nat}(h:(Bp (Ba ss) n)[i]? =some x)(hx:¬Bm ls x=(0,w)):Lc ls w ss n (i+1)=Lc ls w ss n i:=by
 unfold Lc;rw[Bb _ i x h,←List.append_assoc,List.filter_append,List.filter_cons_of_neg (by simpa using hx)];simp
theorem Al9 {ls:List Bg}{w ss:List Snd}{n i:Nat}(hn:n<=6):Lc ls w ss n i<+:Cl ls w ss:=by
 unfold Lc Cl C0;refine List.IsPrefix.filter _ ?_
 have h1:List.range 7=List.range n++n::((List.range 7).drop (n+1)):=by
  have:n=0\/n=1\/n=2\/n=3\/n=4\/n=5\/n=6:=by omega
  rcases this with rfl|rfl|rfl|rfl|rfl|rfl|rfl<;>rfl
 rw[h1,List.flatMap_append,List.flatMap_cons];refine(List.prefix_append_right_inj _).2 ?_;exact(List.take_prefix _ _).trans (List.prefix_append _ _)
theorem Anz {ls:List Bg}{w ss x:List Snd}{n i:Nat}(hn:n<=6)(h:(Bp (Ba ss) n)[i]? =some x)(hx:Bm ls x=(0,w)):(Cl ls w ss)[(Lc ls w ss n i).length]? =some x:=by
 have h1:=Afg h hx;obtain⟨r,hr⟩:=Al9 (ls:=ls) (w:=w) (ss:=ss) (i:=i+1) hn;rw[←hr,h1,List.append_assoc,List.getElem?_append_right rr,Nat.sub_self];rfl
theorem Zz {α:Type} [DecidableEq α]{lt:α->α->Bool}(x:α):∀(l:List α) (k:Nat),(∀y∈l.take k,lt y x=true)->(∀y,l[k]? =some y->lt y x=false)->k<=l.length→
  Hm lt x l=if l[k]? =some x then l else l.take k++x::l.drop k
 |[],k,_,_,hk=>by
  obtain rfl:k=0:=by simpa using hk
  simp[Hm]
 |y::r,0,_,h2,_=>by
  have h:=h2 y rfl;unfold Hm;rw[if_neg (by simp[h])];by_cases e:y=x
  ·rw[if_pos e,if_pos (by simp[e])]
  ·rw[if_neg e,if_neg (by simpa using e)];rfl
 |y::r,k+1,h1,h2,hk=>by
  have h:=h1 y (by simp);have ih:=Zz x r k (fun z hz=>h1 z (by rw[List.take_succ_cons];exact List.mem_cons_of_mem _ hz)) (fun z hz=>h2 z (by simpa using hz)) (by simpa using hk);unfold Hm;rw[if_pos h,ih,List.getElem?_cons_succ];split<;>simp
theorem Yt {α:Type} [DecidableEq α]{lt:α->α->Bool}(l:List α)(x:α):Lk lt (l++[x])=Hm lt x (Lk lt l):=by simp[Lk]
theorem Ag1 {α:Type} [DecidableEq α]{lt:α->α->Bool}{l:List α}{i:Nat}{x:α}(h:l[i]? =some x):Lk lt (l.take (i+1))=Hm lt x (Lk lt (l.take i)):=by rw[Bb l i x h,Yt]
theorem Ag2 {ss:List Snd}{i k:Nat}{x:Snd}(hd:ss.Nodup)(h:ss[i]? =some x)(h1:∀y∈(Ba (ss.take i)).take k,Cw y x=true)(h2:∀y,(Ba (ss.take i))[k]? =some y->Cw y x=false)(hk:k<=(Ba (ss.take i)).length):
  Ba (ss.take (i+1))=(Ba (ss.take i)).take k++x::(Ba (ss.take i)).drop k:=by
 unfold Ba at*;rw[Ag1 h,Zz x _ k h1 h2 hk,if_neg];intro e;have hm:=(Qi Cp (ss.take i) x).1 (List.mem_of_getElem? e);obtain⟨j,hj,a0⟩:=List.getElem_of_mem hm;rw[List.length_take]at hj;rw[List.getElem_take]at a0;obtain⟨hi,a1⟩:=List.getElem?_eq_some_iff.1 h
 have:=(List.getElem_inj (h₀:=by omega) (h₁:=hi) hd).1 (a0.trans a1.symm)
 omega
def Cu (ls:List Bg)(L:List (List Snd)):List (List Snd×List Snd):=(L.filter fun v=>decide ((Bm ls v).1=0)).map fun v=>(v,(Bm ls v).2)
theorem Ab7 (ls:List Bg)(ss:List Snd)(n:Nat):Cr ls ss n=Cu ls (Bp (Ba ss) n):=rfl
theorem Kr {ls:List Bg}{L:List (List Snd)}{i:Nat}{x:List Snd}(h:L[i]? =some x)(hx:(Bm ls x).1=0):Cu ls (L.take (i+1))=Cu ls (L.take i)++[(x,(Bm ls x).2)]:=by
 unfold Cu;rw[Bb L i x h,List.filter_append,List.filter_cons_of_pos (by simpa using hx),List.map_append];rfl
theorem Pn {ls:List Bg}{L:List (List Snd)}{i:Nat}{x:List Snd}(h:L[i]? =some x)(hx:¬(Bm ls x).1=0):Cu ls (L.take (i+1))=Cu ls (L.take i):=by
 unfold Cu;rw[Bb L i x h,List.filter_append,List.filter_cons_of_neg (by simpa using hx)];simp
theorem Ab8 (ls:List Bg)(L:List (List Snd)):Cu ls (L.take L.length)=Cu ls L:=by rw[List.take_length]
theorem Ab9 (ls:List Bg)(L:List (List Snd))(i:Nat):(Cu ls (L.take i)).length<=i:=by
 unfold Cu;rw[List.length_map];exact Nat.le_trans (List.length_filter_le _ _) (by rw[List.length_take];omega)
theorem Aeh {ls:List Bg}{L:List (List Snd)}{i:Nat}{x:List Snd}(h:L[i]? =some x)(hx:(Bm ls x).1=0):(Cu ls L)[(Cu ls (L.take i)).length]? =some (x,(Bm ls x).2):=by
 have h1:L=L.take (i+1)++L.drop (i+1):=(List.take_append_drop _ _).symm
 have h2:Cu ls L=Cu ls (L.take (i+1))++Cu ls (L.drop (i+1)):=by
  conv=>lhs;rw[h1]
  unfold Cu;rw[List.filter_append,List.map_append]
 rw[h2,Kr h hx,List.append_assoc,List.getElem?_append_right rr,Nat.sub_self];rfl
theorem Np (x:List Snd×List Snd):∀(P fs:List (List Snd×List Snd)),Ds (P++[x]) fs=Ds P fs++(match(Dl P fs).find? (fun p=>decide (p.2=x.2))with|some p=>[(p.1,x.1)]|none=>[])∧
  Dl (P++[x]) fs=if(Dl P fs).any (fun p=>decide (p.2=x.2))=true then Dl P fs else Dl P fs++[x]
 |[],fs=>by
  rcases Vk (fs:=fs) (t:=x.2)with⟨⟨p,h1,_⟩,h2⟩|⟨h1,h2⟩
  ·rw[List.nil_append,Ju h1];simp only[Ds,Dl,h1,h2];simp
  ·rw[List.nil_append,Jv h1];simp only[Ds,Dl,h1,h2];simp
 |y::P,fs=>by
  rw[List.cons_append];rcases Vk (fs:=fs) (t:=y.2)with⟨⟨p,h1,_⟩,h2⟩|⟨h1,h2⟩
  ·obtain⟨i1,i2⟩:=Np x P fs;rw[Ju h1,Ju h1,i1];simp only[Dl,h2,i2,if_true];exact⟨by simp,trivial⟩
  ·obtain⟨i1,i2⟩:=Np x P (fs++[y]);rw[Jv h1,Jv h1,i1];simp only[Dl,h2,i2];exact⟨by simp,by simp⟩
theorem M6 {x p:List Snd×List Snd}{P:List (List Snd×List Snd)}(h:(Dl P []).find? (fun p=>decide (p.2=x.2))=some p):Ds (P++[x]) []=Ds P []++[(p.1,x.1)]/\Dl (P++[x]) []=Dl P []:=by
 obtain⟨h1,h2⟩:=Np x P [];rw[h]at h1;refine⟨h1, ?_⟩;rw[h2,if_pos];exact List.any_eq_true.2 ⟨p,List.mem_of_find?_eq_some h,by have h5:=List.find?_some h;exact h5⟩
theorem M7 {x:List Snd×List Snd}{P:List (List Snd×List Snd)}(h:(Dl P []).find? (fun p=>decide (p.2=x.2))=none):Ds (P++[x]) []=Ds P []/\Dl (P++[x]) []=Dl P []++[x]:=by
 obtain⟨h1,h2⟩:=Np x P [];rw[h]at h1;refine⟨by rw[h1];simp, ?_⟩;rw[h2,if_neg];intro hc;obtain⟨p,hp,he⟩:=List.any_eq_true.1 hc;exact absurd he (List.find?_eq_none.1 h p hp)
theorem Afd {α:Type}{f:α->Bool}:∀(l:List α) (k:Nat) (p:α),l[k]? =some p->f p=true->(∀y∈l.take k,f y=false)->l.find? f=some p
 |[],k,p,h,_,_=>by simp at h
 |y::r,0,p,h,hp,_=>by
  obtain rfl:y=p:=by simpa using h
  rw[List.find?_cons,hp]
 |y::r,k+1,p,h,hp,hn=>by
  rw[List.find?_cons,hn y (by simp)];exact Afd r k p (by simpa using h) hp fun z hz=>hn z (by rw[List.take_succ_cons];exact List.mem_cons_of_mem _ hz)
theorem Aj6 {α:Type}{f:α->Bool}{l:List α}(h:∀y∈l.take l.length,f y=false):l.find? f=none:=by
 rw[List.take_length]at h;exact List.find?_eq_none.2 fun y hy=>by simp[h y hy]
theorem Yu (l:List Snd)(n k:Nat){v:List Snd}(h:(Bp l n)[k]? =some v)(j:Nat){s:Snd}(hs:l[j]? =some s):
  ((Bp l n).take k).flatMap (fun v=>l.map fun s=>v++[s])++(l.take (j+1)).map (fun s=>v++[s])=(((Bp l n).take k).flatMap (fun v=>l.map fun s=>v++[s])++(l.take j).map (fun s=>v++[s]))++[v++[s]]:=by
 rw[Bb l j s hs,List.map_append,List.append_assoc];rfl
theorem Ag3 (l:List Snd)(n k:Nat){v:List Snd}(h:(Bp l n)[k]? =some v):
  ((Bp l n).take k).flatMap (fun v=>l.map fun s=>v++[s])++(l.take l.length).map (fun s=>v++[s])=((Bp l n).take (k+1)).flatMap (fun v=>l.map fun s=>v++[s]):=by
 rw[List.take_length,Bb _ k v h,List.flatMap_append,List.flatMap_cons,List.flatMap_nil,List.append_nil]
theorem Q8 {ss:List Snd}(h:5<ss.length):B1 ss=12:=by unfold B1;rw[if_pos h]
theorem Aca {ss:List Snd}(h:¬5<ss.length){i:Nat}{s:Snd}(hs:ss[i]? =some s)(hb:Br s.1 s.2=false):B1 ss=14:=by
 unfold B1;rw[if_neg h,if_pos (List.any_eq_true.2 ⟨s,List.mem_of_getElem? hs,by simp[hb]⟩)]
theorem N8 {ss:List Snd}(h:¬5<ss.length)(hv:∀s∈ss,Br s.1 s.2=true){i k:Nat}{s:Snd}(hk:k<i)(h1:ss[i]? =some s)(h2:ss[k]? =some s):B1 ss=6:=by
 unfold B1;rw[if_neg h,if_neg,if_pos]
 ·intro hn;obtain⟨hi,e1⟩:=List.getElem?_eq_some_iff.1 h1;obtain⟨a0,e2⟩:=List.getElem?_eq_some_iff.1 h2
  have:=(List.getElem_inj (h₀:=hi) (h₁:=a0) hn).1 (e1.trans e2.symm)
  omega
 ·intro hc;obtain⟨x,hx,hb⟩:=List.any_eq_true.1 hc;rw[hv x hx]at hb;simp at hb
theorem Wi {ss:List Snd}(h:¬5<ss.length)(hv:∀s∈ss,Br s.1 s.2=true)(hn:ss.Nodup):B1 ss=0:=by
 unfold B1;rw[if_neg h,if_neg,if_neg (by simpa using hn)];intro hc;obtain⟨x,hx,hb⟩:=List.any_eq_true.1 hc;rw[hv x hx]at hb;simp at hb
theorem Wj {ss:List Snd}{i:Nat}{s:Snd}(h:ss[i]? =some s)(hn:(ss.take i).Nodup)(hs:s∉ss.take i):(ss.take (i+1)).Nodup:=by
 rw[Bb ss i s h,List.nodup_append];refine⟨hn,by simp,fun a ha b hb e=>hs ?_⟩
 have a0:b=s:=by simpa using hb
 rw[←a0,←e];exact ha
end Go.Proofs.YtlgliddhideflaaGreatDoor
