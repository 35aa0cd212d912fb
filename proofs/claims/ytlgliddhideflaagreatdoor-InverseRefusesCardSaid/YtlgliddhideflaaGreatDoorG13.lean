/-
  word.Equal, law.Apply, law.Changes.
  Slices of laws; slices of words.
  slices.IndexFunc and slices.ContainsFunc over records of type api.Law.
  derive.Check, derive.check.
  derive.forms and its iterator: the forms of a derivation, one after the other; a failure is a panic.
-/
import Derived.Test.YtlgliddhideflaaGreatDoorG12
set_option linter.all false
set_option maxRecDepth 100000
set_option maxHeartbeats 4000000
namespace Go.Proofs.YtlgliddhideflaaGreatDoor
open Go.RowKit Go.Shelf
theorem K8 (A A':Option Addr)(n n' c c':Nat)(xs ys:List Snd)(w:World)(hx:Ab w A n c xs)(hy:Ab w A' n' c' ys):
  Calls Tryz.prog 22 #[.slice A n c, .slice A' n' c'] w fun e w'=>e= .returned (.bool (decide (xs=ys)))/\Below w.heap.size w w':=by
 go_enter Tryz.func22,Tryz.ntmps22;go_wp2_with(go_at_call 67;refine(Ab1 A A' n n' c c' xs ys w hx hy).mono ?_;rintro e w1 ⟨rfl,a0⟩);go_ret;exact⟨rfl,a0⟩
def Ade (w:World)(r:Int×List Snd)(e:Ending)(w':World):Prop:=
 ∃A n c,e= .returned (.tuple #[.slice A n c, .int .i64 r.1])/\Ab w' A n c r.2/\Below w.heap.size w w'∧∀ad,A=some ad->w.heap.size<=ad.block
theorem Mr {α:Type}{l:List α}{m:Nat}(h:l.length=m+1):l.getLast? =l[m]? :=by
 rw[List.getLast?_eq_getElem?,h];rfl
theorem K9 (l:Av)(ws:List Snd)(h:(Cr l ws).1=0):Cd l ws=(0,(((Cr l ws).2.map (·.2)).getLast?).getD ws):=by
 unfold Cd;rw[if_neg (by rw[h];simp),List.getLast?_map];cases(Cr l ws).2.getLast? <;>rfl
theorem Sx {l:Av}{ws:List Snd}(h:(Cr l ws).1=0):Ck l ws=0:=by
 unfold Cr at h;by_cases h0:Ck l ws=0
 ·exact h0
 ·rw[if_pos h0]at h;exact absurd h h0
theorem Xn {l:Av}{ws:List Snd}(h:Ck l ws=0):ws.length<=32:=by
 unfold Ck at h;by_cases h0:Cy l=0
 ·rw[if_pos h0]at h;unfold Bx at h;rcases Nat.lt_or_ge 32 ws.length with h1|h1
  ·rw[if_pos h1]at h;exact absurd h (by decide)
  ·exact h1
 ·rw[if_neg h0]at h;exact absurd h h0
theorem Ab9 (l:Av)(a:De)(A:Option Addr)(n c:Nat)(ws:List Snd)(w:World)(hl:Df w l a)(hw:Ab w A n c ws)(hT:B7 w):
  Calls Tryz.prog 139 #[C3 l a, .slice A n c] w (Ade w (Cd l ws)):=by
 have HL:=hI hl;clear hl;have HW:=hI hw;clear hw;have HT:=hI hT;clear hT;obtain⟨Wb,d3,a8,f1,a0,f2⟩:=Er w l a;go_enter Tryz.func139,Tryz.ntmps139;go_wp2_with(refine Dn rfl (.tmp 2) rfl w.heap.size l a rfl a8 ?_);refine(Ac7 l a A n c ws Wb (HL.out.below a0 rr) (HW.out.below a0 rr) (HT.out.below a0 rr)).mono ?_;rintro e w1 ⟨A1,c1,A2,n2,c2,ps,rfl,d7,b4,a2,b3,b2,b5⟩;have b6:Below w.heap.size w w1:=a0.trans (b5.mono a0.size);have b7:=a0.size;have a9:(ps.map Part.val).length=n2:=by have:=a2.1;simpa using this
 have b8:n2<=9223372036854775807:=by have h1:=a2.2.1;have h2:=a2.2.2.1;unfold maxLen at h2;omega
 have a1:=hI b6;have d1:=hI b4;have d8:=hI a2;have d0:=hI b3;have d5:=hI b2;have a5:=hI a9;clear d3 a8 b5 d7 b4 a2 b3 b2 b6 a9 a0;obtain⟨er,a6⟩:∃er,er=(Cr l ws).1:=⟨_,rfl⟩;rw[←a6];have a7:=hI a6;clear a6;by_cases h0:er=0
 case neg=>
  have h1:(er !=0)=true:=by simpa using h0
  have HM:Hid (Cd l ws=(er,[])):=by show Cd l ws=_;unfold Cd;rw[←a7.out,if_pos h0]
  clear h0;go_wp2
  go_ret2
  exact⟨none,0,0,by rw[HM.out];rfl,by rw[HM.out];exact Bb.nil _ _,a1.out,fun ad h=>by cases h⟩
 have h1:(er !=0)=false:=by simpa using h0
 have HM:Hid (Cd l ws=(0,((ps.map Part.word).getLast?).getD ws)):=by show Cd l ws=_;rw[K9 l ws (by rw[←a7.out];exact h0),d1.out]
 have HN:Hid (ws.length<=32):=Xn (Sx (by rw[←a7.out];exact h0));clear h0;by_cases hz:0<n2
 ·obtain⟨m,rfl⟩:∃m,n2=m+1:=⟨n2-1,by omega⟩;obtain⟨b,off,v,rfl,d9,hv,a3⟩:=d8.out.at1 (k:=m) (by omega);have f0:(m:Int)<(m:Int)+1:=by omega
  have f3:((m:Int)).toNat=m:=by omega
  obtain⟨p,hp⟩:∃p,ps[m]? =some p:=by
   have:=a5.out
   simp only[List.length_map]at this;exact⟨ps[m],List.getElem?_eq_getElem (by omega)⟩
  have d6:v=p.val:=by rw[List.getElem?_map,hp]at hv;simpa using hv.symm
  subst d6;have HP:=hI hp;clear hv hp;unfold Part.val at a3;go_wp2
  go_ret2
  have a4:=List.mem_of_getElem? HP.out;refine⟨p.1,p.2.1,p.2.2.1,by rw[HM.out];rfl, ?_,a1.out,fun ad had=>Nat.le_trans b7 (d5.out p a4 ad had)⟩
  rw[HM.out,Mr (m:=m) (by have:=a5.out;simpa using this),List.getElem?_map,HP.out];exact d0.out p a4
 ·obtain rfl:n2=0:=by omega
  have b1:ps=[]:=by have:=a5.out;simpa using this
  have b0:Hid (Cd l ws=(0,ws)):=by show Cd l ws=_;rw[HM.out,b1];rfl
  clear b1;go_wp2_with(go_at_call 61;refine(L4 A n c ws w1 (HW.out.below a1.out rr) (by have:=HN.out;have:=HW.out.len;omega)).mono ?_;rintro e w2 ⟨A',n',c',rfl,d4,d2,b9⟩)
  go_ret2
  exact⟨A',n',c',by rw[b0.out];rfl,by rw[b0.out];exact d4,a1.out.trans (d2.mono a1.out.size),fun ad had=>Nat.le_trans a1.out.size (b9 ad had)⟩
structure Bu where
 l:Av
 a:De
def Bu.cells (x:Bu):List Value:=(Bh x.l x.a).toList
theorem Bu.len (x:Bu):x.cells.length=18:=rfl
def Bw (w:World)(A:Option Addr)(n c:Nat)(xs:List Bu):Prop:=Fc Bu.cells 18 w A n c xs∧∀x∈xs,Df w x.l x.a
section laws
variable {w w':World}{A:Option Addr}{n c:Nat}{xs:List Bu}
theorem Bw.below (h:Bw w A n c xs){B:Nat}(hb:Below B w w')(hB:w.heap.size<=B):Bw w' A n c xs:=⟨h.1.below hb hB,fun x hx=>(h.2 x hx).below hb hB⟩
theorem Bw.len (h:Bw w A n c xs):xs.length=n:=h.1.2
theorem Bw.max (h:Bw w A n c xs):n<=c/\c<=9223372036854775807:=by have h1:=h.1.1.2.1;have h2:=h.1.1.2.2.1;unfold maxLen at h2;omega
theorem Bw.at_ (h:Bw w A n c xs){k:Nat}{x:Bu}(hx:xs[k]? =some x):∃b off,A=some ⟨b,off,none⟩/\b<w.heap.size/\w.rangeAt b (off+k*18) x.cells:=by
 obtain⟨b,off,hA,hb,hc⟩:=h.1.at_ Bu.len (by decide) hx;exact⟨b,off,hA,hb,fun j v hv=>by rw[Nat.add_assoc];exact hc j v hv⟩
theorem Bw.get (h:Bw w A n c xs){k:Nat}(hk:k<n):∃x,xs[k]? =some x:=⟨xs[k]'(by rw[h.len];exact hk),List.getElem?_eq_getElem _⟩
theorem Bw.drop (h:Bw w A n c xs){k:Nat}(hk:k<=n):Bw w (if c=k then A else A.map (·.add (k*18))) (n-k) (c-k) (xs.drop k):=
 ⟨h.1.drop Bu.len hk,fun x hx=>h.2 x (List.mem_of_mem_drop hx)⟩
theorem Bw.take (h:Bw w A n c xs){k:Nat}(hk:k<=n):Bw w A k c (xs.take k):=⟨h.1.take Bu.len hk,fun x hx=>h.2 x (List.mem_of_mem_take hx)⟩
end laws
theorem X7 (l:Av)(a:De):(Tryz.prog.info? 34).map (·.size)=some (Bh l a).toList.length:=by rw[Array.length_toList];exact G0 l a
theorem Kb {w:World}{b o:Nat}{x:Bu}(hr:w.rangeAt b o x.cells):(loadVar 34 ⟨b,o,none⟩).run Tryz.prog w= .ok (C3 x.l x.a) w:=
 run_loadVar_mid w b o 34 (Bh x.l x.a).toList _ hr Tryz.underlying34 rfl (X7 x.l x.a)
theorem Qu {ops:Array Oper}{rest:List Oper}{op:Oper}{ac:Act}{w:World}{Q:Exit->Act->World->Prop}(hgd:op.guard=none)(x:Operand)(ho:op.op= .load 34 x)
  (b o:Nat) (s:Bu) (hx:ac.eval x= .pointer (some ⟨b,o,none⟩)) (hr:w.rangeAt b o s.cells) (h:wpList Tryz.prog ops Q rest (ac.put op.dst (C3 s.l s.a)) w):wpList Tryz.prog ops Q (op::rest) ac w:=by
 refine wpList_plain hgd fun K hK=> ?_
 unfold Oper.wp execOp;simp only[ho,hx,Instr.loadAt,Instr.sureAddr,Sem.run_bind,Sem.run_pure,Result.andThen_ok,Kb hr];exact hK _ _ h
theorem Ti {F:Fence}{n:Nat}{ops:Array Oper}{rest:List Oper}{op:Oper}{ac:Act}{w:World}{Q:Exit->Act->World->Prop}(hgd:op.guard=none)(x:Operand)(ho:op.op= .load 34 x)
  (b o:Nat) (s:Bu) (hx:ac.eval x= .pointer (some ⟨b,o,none⟩)) (hr:w.rangeAt b o s.cells) (h:wpListIn F n Tryz.prog ops Q rest (ac.put op.dst (C3 s.l s.a)) w):wpListIn F n Tryz.prog ops Q (op::rest) ac w:=by
 refine wpListIn_plain hgd fun K hK=> ?_
 unfold Oper.wpIn;refine⟨by simp[Oper.about,ho], ?_⟩;rw[Oper.semAt_plain F _ _ (by rw[ho];intro c a0;cases a0)];unfold execOp;simp only[ho,hx,Instr.loadAt,Instr.sureAddr,Sem.run_bind,Sem.run_pure,Result.andThen_ok,Kb hr];exact hK _ _ h
theorem Tj {F:Fence}{n:Nat}{ops:Array Oper}{rest:List Oper}{op:Oper}{ac:Act}{w:World}{Q:Exit->Act->World->Prop}(hgd:op.guard=none)(x y:Operand)(ho:op.op= .store 34 x y)
  (b:Nat) (l:Av) (a:De) (hx:ac.eval x= .pointer (some ⟨b,0,none⟩)) (hy:ac.eval y=C3 l a) {old:Array Value} {t:TypeId} (hr:w.heap[b]? =some (.cells old t (0,0))) (hs:old.size=18)
  (h:∀W,W.heap[b]? =some (.cells (Bh l a) t (0,0))->Ae (fun k=>k=b) w W->W.heap.size=w.heap.size->wpListIn F n Tryz.prog ops Q rest (ac.put op.dst undef) W):wpListIn F n Tryz.prog ops Q (op::rest) ac w:=by
 have h':=h (w.setRow b (Bh l a)) (setRow_heap w b old _ t _ hr) ⟨rfl,rfl,rfl,by simp[World.setRow],fun k _ hk=>setRow_other w b k _ hk⟩ (by simp[World.setRow])
 refine wpListIn_plain hgd fun K hK=> ?_
 unfold Oper.wpIn;refine⟨by simp[Oper.about,ho], ?_⟩;rw[Oper.semAt_plain F _ _ (by rw[ho];intro c a0;cases a0)];unfold execOp;simp only[ho,hx,hy,Instr.storeAt,Instr.sureAddr,Sem.run_bind,Sem.run_pure,Result.andThen_ok,run_storeVar_row w b t 34 old (Bh l a) hr (G0 l a) (by rw[Hq];exact hs) (Nc l a)];exact hK _ _ h'
theorem G7 {ops:Array Oper}{rest:List Oper}{op:Oper}{ac:Act}{w:World}{Q:Exit->Act->World->Prop}(hgd:op.guard=none)(x y:Operand)(ho:op.op= .store 34 x y)
  (b:Nat) (l:Av) (a:De) (hx:ac.eval x= .pointer (some ⟨b,0,none⟩)) (hy:ac.eval y=C3 l a) {old:Array Value} {t:TypeId} (hr:w.heap[b]? =some (.cells old t (0,0))) (hs:old.size=18)
  (h:∀W,W.heap[b]? =some (.cells (Bh l a) t (0,0))->Ae (fun k=>k=b) w W->W.heap.size=w.heap.size->wpList Tryz.prog ops Q rest (ac.put op.dst undef) W):wpList Tryz.prog ops Q (op::rest) ac w:=by
 have h':=h (w.setRow b (Bh l a)) (setRow_heap w b old _ t _ hr) ⟨rfl,rfl,rfl,by simp[World.setRow],fun k _ hk=>setRow_other w b k _ hk⟩ (by simp[World.setRow])
 exact wpList_store_row hgd 34 x y ho b (Bh l a) hx hy t old hr (G0 l a) (by rw[Hq];exact hs) (Nc l a) h'
theorem B5.mk {w:World}{A:Option Addr}{n c:Nat}{ps:List Part}(h:Bb w A n c 1 (ps.map Part.val))(hp:Je w ps):B5 w A n c (ps.map Part.word):=⟨ps,rfl,h,hp⟩
section words
variable {w w':World}{A:Option Addr}{n c:Nat}{xss:List (List Snd)}
theorem B5.len (h:B5 w A n c xss):xss.length=n:=by
 obtain⟨ps,rfl,h,_⟩:=h
 have:=h.1
 simpa using this
theorem B5.max (h:B5 w A n c xss):n<=c/\c<=9223372036854775807:=by
 obtain⟨ps,_,h,_⟩:=h;have h1:=h.2.1;have h2:=h.2.2.1;unfold maxLen at h2;omega
theorem B5.below (h:B5 w A n c xss){B:Nat}(hb:Below B w w')(hB:w.heap.size<=B):B5 w' A n c xss:=by
 obtain⟨ps,rfl,h,hp⟩:=h;exact⟨ps,rfl,h.below hb hB,fun p hp'=>(hp p hp').below hb hB⟩
theorem B5.at_ (h:B5 w A n c xss){k:Nat}(hk:k<n):
  ∃b off A' n' c' xs,A=some ⟨b,off,none⟩/\b<w.heap.size/\w.cell? ⟨b,off+k,none⟩=some (.slice A' n' c')/\xss[k]? =some xs/\Ab w A' n' c' xs:=by
 obtain⟨ps,rfl,h,hp⟩:=h;obtain⟨b,off,v,hA,hb,hv,hc⟩:=h.at1 hk;rw[List.getElem?_map]at hv
 cases hpk:ps[k]? with
 |none=>rw[hpk]at hv;cases hv
 |some p=>
  rw[hpk]at hv;obtain rfl:p.val=v:=by simpa using hv
  exact⟨b,off,p.1,p.2.1,p.2.2.1,p.word,hA,hb,hc,by rw[List.getElem?_map,hpk];rfl,hp p (List.mem_of_getElem? hpk)⟩
end words
theorem B5.nil (w:World):B5 w none 0 0 []:=⟨[],rfl,Bb.nil _ _,fun p hp=>by simp at hp⟩
theorem Z9 (A:Option Addr)(n c:Nat)(xs:List Bu)(F:Nat)(lb:Array Value)(p:Bu->Bool)(w:World)(hx:Fc Bu.cells 18 w A n c xs)(hE:Enters Tryz.prog F)
  (hcall:∀W,Below w.heap.size w W→∀s∈xs,Calls Tryz.prog F (#[C3 s.l s.a]++lb) W fun e W'=>e= .returned (.bool (p s))/\Below W.heap.size W W'):
  Calls Tryz.prog 146 #[.slice A n c, .func (.func F) #[] lb] w fun e w'=>e= .returned (.int .i64 (Gf p xs))/\Below w.heap.size w w':=by
 have hm:n<=9223372036854775807:=by have h1:=hx.1.2.1;have h2:=hx.1.2.2.1;unfold maxLen at h2;omega
 have HX:=hI hx;clear hx;have HC:=hI hcall;clear hcall;unfold Enters at hE;go_enter Tryz.func146,Tryz.ntmps146;go_wp2
 go_loopw [5,8] (fun _ i wr=>∃k:Nat,k<=n/\i= .int .i64 k/\Hid ((xs.take k).any p=false)/\Below w.heap.size w wr) (fun _ i _=>n-(intOf i).toNat)
 case atStart=>exact⟨0,Nat.zero_le _,rfl,by simp[Hid],Below.refl _ _⟩
 case round=>
  obtain⟨k,hk,rfl,HA,hB⟩:=hrel;by_cases hlt:k<n
  ·obtain⟨s,a3⟩:∃s,xs[k]? =some s:=⟨xs[k]'(by rw[HX.out.2];exact hlt),List.getElem?_eq_getElem _⟩;obtain⟨b,off,rfl,hb,a0⟩:=(HX.out.below hB rr).at_ Bu.len (by decide) a3;have d1:=a0 0 _ rfl;have b5:=a0 1 _ rfl;have b4:=a0 2 _ rfl;have b9:=a0 3 _ rfl;have b6:=a0 4 _ rfl;have d3:=a0 5 _ rfl;have d2:=a0 6 _ rfl;have b8:=a0 7 _ rfl;have b7:=a0 8 _ rfl;have d0:=a0 9 _ rfl;have b1:=a0 10 _ rfl;have a7:=a0 11 _ rfl;have a9:=a0 12 _ rfl;have a8:=a0 13 _ rfl;have a5:=a0 14 _ rfl;have b0:=a0 15 _ rfl;have a6:=a0 16 _ rfl;have a4:=a0 17 _ rfl;simp only[Nat.add_zero,←Nat.add_assoc]at d1 b5 b4 b9 b6 d3 d2 b8 b7 d0 b1 a7 a9 a8 a5 b0 a6 a4;clear a0;have a1:=hI (HC.out wr hB s (List.mem_of_getElem? a3));have HK:=hI a3;clear a3;by_cases hp:p s=true
   ·have hr:=Gw p xs k s HK.out HA.out hp;have HR:=hI hr;clear hr;have HP:=hI hp;clear hp;go_wp2_with fail;refine a1.out.mono ?_;rintro e w1 ⟨rfl,a2⟩;rw[HP.out];have b2:=hB.trans (a2.mono hB.size);clear a2;go_wp2;go_ret;exact⟨by rw[HR.out];rfl,b2⟩
   ·have b3:p s=false:=by simpa using hp
    have HP:=hI b3;clear hp b3;go_wp2_with fail;refine a1.out.mono ?_;rintro e w1 ⟨rfl,a2⟩;rw[HP.out];have b2:=hB.trans (a2.mono hB.size);clear a2;go_wp2
    go_roundw
    case rel=>exact⟨k+1,by omega,by go_num,by rw[Ba xs k _ HK.out,List.any_append,HA.out];simp[HP.out,Hid],b2⟩
    case measure=>simp[intOf];omega
  ·obtain rfl:k=n:=by omega
   have hr:Gf p xs= -1:=by
    have:=HA.out
    rw[List.take_of_length_le (by rw[HX.out.2];exact rr)]at this;exact Gv p xs this
   have HR:=hI hr;clear hr;go_wp2;go_ret;exact⟨by rw[HR.out];rfl,hB⟩
theorem Aaa (A:Option Addr)(n c:Nat)(xs:List Bu)(F:Nat)(lb:Array Value)(p:Bu->Bool)(w:World)(hx:Fc Bu.cells 18 w A n c xs)(hE:Enters Tryz.prog F)
  (hcall:∀W,Below w.heap.size w W→∀s∈xs,Calls Tryz.prog F (#[C3 s.l s.a]++lb) W fun e W'=>e= .returned (.bool (p s))/\Below W.heap.size W W'):
  Calls Tryz.prog 75 #[.slice A n c, .func (.func F) #[] lb] w fun e w'=>e= .returned (.bool (xs.any p))/\Below w.heap.size w w':=by
 have a0:=Z9 A n c xs F lb p w hx hE hcall;have H:=hI (Jk p xs);clear hx hcall hE;go_enter Tryz.func75,Tryz.ntmps75;go_wp2_with(go_at_call 146;refine a0.mono ?_;rintro e w1 ⟨rfl,a1⟩);go_ret;refine⟨?_,a1⟩;show Ending.returned (.bool (decide (0<=Gf p xs)))=_;rw[H.out]
def D5 (ls:List Av):Int:=if 64<ls.length then 12 else if ls.any (fun l=>Cy l !=0)then 17 else 0
def Ji (wss:List (List Snd)):Int:=((wss.map Bx).find? (· !=0)).getD 0
def Pw (ls:List Av)(wss:List (List Snd)):Int:=if D5 ls≠0 then D5 ls else if 256<wss.length then 12 else Ji wss
abbrev Am (xs:List Bu):List Av:=xs.map Bu.l
theorem Xu (l:Av)(a:De)(w:World)(hl:Df w l a):
  Calls Tryz.prog 76 #[C3 l a] w fun e w'=>e= .returned (.bool (Cy l !=0))/\Below w.heap.size w w':=by
 have HL:=hI hl;clear hl;obtain⟨Wb,a3,a1,a4,a0,a5⟩:=Er w l a;go_enter Tryz.func76,Tryz.ntmps76;go_wp2_with(refine Dn rfl (.tmp 1) rfl w.heap.size l a rfl a1 ?_);refine(Th l a Wb (HL.out.below a0 rr)).mono ?_;rintro e w1 ⟨rfl,a2⟩;clear a3 a1;go_wp2;go_ret;exact⟨rfl,a0.trans (a2.mono a0.size)⟩
theorem S6 (A:Option Addr)(n c:Nat)(xs:List Bu)(w:World)(hx:Bw w A n c xs):
  Calls Tryz.prog 18 #[.slice A n c] w fun e w'=>e= .returned (.int .i64 (D5 (Am xs)))/\Below w.heap.size w w':=by
 have hm:=hx.max;have HX:=hI hx;clear hx;have a0:=Aaa A n c xs 76 #[] (fun x=>Cy x.l !=0) w HX.out.1 (enters_of Tryz.func76 (by kernel_rfl) rfl) (fun W hB s hs=>Xu s.l s.a W ((HX.out.2 s hs).below hB rr));have HA:=hI a0;clear a0;by_cases h64:64<n
 ·have hr:D5 (Am xs)=12:=by unfold D5;rw[if_pos (by rw[List.length_map,HX.out.len];exact h64)]
  have HR:=hI hr;clear hr;go_enter Tryz.func18,Tryz.ntmps18;go_wp2;go_ret;exact⟨by rw[HR.out];rfl,Below.refl _ _⟩
 ·have hr:D5 (Am xs)=if xs.any (fun x=>Cy x.l !=0)then 17 else 0:=by
   unfold D5;rw[if_neg (by rw[List.length_map,HX.out.len];exact h64),List.any_map];rfl
  obtain⟨b,hb⟩:∃b,b=xs.any (fun x=>Cy x.l !=0):=⟨_,rfl⟩;rw[←hb]at hr;have HB:=hI hb;clear hb;have HR:=hI hr;clear hr;go_enter Tryz.func18,Tryz.ntmps18;go_wp2_with(go_at_call 75;refine HA.out.mono ?_;rintro e w1 ⟨rfl,a1⟩;rw[←HB.out])
  all_goals
   go_ret;exact⟨by rw[HR.out];simp[*];try rfl,a1⟩
theorem Mu {wss:List (List Snd)}{k:Nat}{xs:List Snd}(h:wss[k]? =some xs)(h0:(wss.take k).all (fun x=>Bx x==0)=true)(h1:Bx xs≠0):Ji wss=Bx xs:=by
 unfold Ji;rw[←List.take_append_drop k wss];have hk:=(List.getElem?_eq_some_iff.1 h);obtain⟨a0,a1⟩:=hk;rw[List.drop_eq_getElem_cons a0,a1,List.map_append,List.find?_append]
 have:((wss.take k).map Bx).find? (· !=0)=none:=by
  rw[List.find?_eq_none];intro x hx;obtain⟨y,hy,rfl⟩:=List.mem_map.1 hx
  have:=List.all_eq_true.1 h0 y hy
  simpa using this
 rw[this,List.map_cons,List.find?_cons];have h2:(Bx xs !=0)=true:=by simpa using h1
 rw[h2];rfl
theorem S7 {wss:List (List Snd)}(h0:wss.all (fun x=>Bx x==0)=true):Ji wss=0:=by
 unfold Ji
 have:(wss.map Bx).find? (· !=0)=none:=by
  rw[List.find?_eq_none];intro x hx;obtain⟨y,hy,rfl⟩:=List.mem_map.1 hx
  have:=List.all_eq_true.1 h0 y hy
  simpa using this
 rw[this];rfl
theorem Zv (A:Option Addr)(n c:Nat)(xs:List Bu)(A':Option Addr)(n' c':Nat)(wss:List (List Snd))(w:World)(hx:Bw w A n c xs)(hw:B5 w A' n' c' wss):
  Calls Tryz.prog 77 #[.slice A n c, .slice A' n' c'] w fun e w'=>e= .returned (.int .i64 (Pw (Am xs) wss))/\Below w.heap.size w w':=by
 have hm:=hx.max;have b4:=hw.max;have HX:=hI hx;clear hx;have HW:=hI hw;clear hw;have a0:=S6 A n c xs w HX.out;have HC:=hI a0;clear a0;obtain⟨er,b0⟩:∃er,er=D5 (Am xs):=⟨_,rfl⟩;have a4:=hI b0;clear b0;by_cases h0:er=0
 case neg=>
  have h1:(er !=0)=true:=by simpa using h0
  have hr:Pw (Am xs) wss=er:=by unfold Pw;rw[←a4.out,if_pos h0]
  have HR:=hI hr;clear hr h0;go_enter Tryz.func77,Tryz.ntmps77;go_wp2_with(go_at_call 18;refine HC.out.mono ?_;rintro e w1 ⟨rfl,a2⟩;rw[←a4.out]);go_ret;exact⟨by rw[HR.out];rfl,a2⟩
 have h1:(er !=0)=false:=by simpa using h0
 have hr:Pw (Am xs) wss=if 256<wss.length then 12 else Ji wss:=by unfold Pw;rw[←a4.out,if_neg (by simpa using h0)]
 rw[HW.out.len]at hr;have HR:=hI hr;clear hr h0;by_cases h256:256<n'
 ·go_enter Tryz.func77,Tryz.ntmps77;go_wp2_with(go_at_call 18;refine HC.out.mono ?_;rintro e w1 ⟨rfl,a2⟩;rw[←a4.out]);go_ret;exact⟨by rw[HR.out,if_pos h256];rfl,a2⟩
 go_enter Tryz.func77,Tryz.ntmps77;go_wp2_with(go_at_call 18;refine HC.out.mono ?_;rintro e w1 ⟨rfl,a2⟩;rw[←a4.out]);have b3:=hI a2;clear a2
 go_loopw [8,19] (fun _ i wr=>∃k:Nat,k<=n'/\i= .int .i64 k/\Hid ((wss.take k).all (fun x=>Bx x==0)=true)/\Below w.heap.size w wr) (fun _ i _=>n'-(intOf i).toNat)
 case atStart=>exact⟨0,Nat.zero_le _,rfl,by simp[Hid],b3.out⟩
 case round=>
  obtain⟨k,hk,rfl,a1,hB⟩:=hrel;by_cases hlt:k<n'
  ·obtain⟨b,off,A1,n1,c1,ws,rfl,hb,hc,a7,a6⟩:=(HW.out.below hB rr).at_ hlt;have b1:=hI a7;clear a7;obtain⟨e1,a9⟩:∃e1,e1=Bx ws:=⟨_,rfl⟩;have a3:=hI a9;clear a9;have a8:=hI (Pr A1 n1 c1 ws wr a6);clear a6;by_cases hz:e1=0
   ·have b2:(e1 !=0)=false:=by simpa using hz
    have HZ:=hI hz;clear hz;go_wp2_with(go_at_call 102;refine a8.out.mono ?_;rintro e w2 ⟨rfl,a5⟩;rw[←a3.out])
    go_roundw
    case rel=>exact⟨k+1,by omega,by go_num,by show List.all _ _=true;rw[Ba wss k ws b1.out,List.all_append,a1.out];simp[←a3.out,HZ.out],hB.trans (a5.mono hB.size)⟩
    case measure=>simp[intOf];omega
   ·have b2:(e1 !=0)=true:=by simpa using hz
    have hf:Ji wss=e1:=by rw[a3.out];exact Mu b1.out a1.out (by rw[←a3.out];exact hz)
    have HF:=hI hf;clear hf hz;go_wp2_with(go_at_call 102;refine a8.out.mono ?_;rintro e w2 ⟨rfl,a5⟩;rw[←a3.out]);go_ret;exact⟨by rw[HR.out,if_neg h256,HF.out];rfl,hB.trans (a5.mono hB.size)⟩
  ·obtain rfl:k=n':=by omega
   have hf:Ji wss=0:=S7 (by have:=a1.out;rwa[List.take_of_length_le (by rw[HW.out.len];exact rr)]at this);have HF:=hI hf;clear hf;go_wp2;go_ret;exact⟨by rw[HR.out,if_neg h256,HF.out];rfl,hB⟩
end Go.Proofs.YtlgliddhideflaaGreatDoor
namespace Go.Proofs.YtlgliddhideflaaGreatDoor
open Go.RowKit Go.Shelf
attribute [local go_sem] Oper.semAt_some
def Bp:List Av->List Snd->Int×List (List Snd)
 |[],ws=>(0,[ws])
 |l::ls,ws=>if(Cd l ws).1≠0 then((Cd l ws).1,[ws])else((Bp ls (Cd l ws).2).1,ws::(Bp ls (Cd l ws).2).2)
def En (ls:List Av)(ws:List Snd)(k:Nat)(x:List Snd):Prop:=
 Bp ls ws=((Bp (ls.drop k) x).1,(Bp ls ws).2.take k++(Bp (ls.drop k) x).2)/\k<(Bp ls ws).2.length
theorem Hm (ls:List Av)(ws:List Snd):∃r,(Bp ls ws).2=ws::r:=by
 cases ls with
 |nil=>exact⟨[],rfl⟩
 |cons l ls=>
  unfold Bp;split
  ·exact⟨[],rfl⟩
  ·exact⟨_,rfl⟩
theorem En.start (ls:List Av)(ws:List Snd):En ls ws 0 ws:=by
 refine⟨by simp, ?_⟩;obtain⟨r,hr⟩:=Hm ls ws;rw[hr];simp
theorem En.get {ls:List Av}{ws x:List Snd}{k:Nat}(h:En ls ws k x):(Bp ls ws).2[k]? =some x:=by
 obtain⟨r,hr⟩:=Hm (ls.drop k) x;have h1:=congrArg Prod.snd h.1;rw[hr]at h1;dsimp only at h1;rw[h1,List.getElem?_append_right (by rw[List.length_take];omega),List.length_take,Nat.min_eq_left (by have:=h.2;omega),Nat.sub_self];rfl
theorem En.step {ls:List Av}{ws x:List Snd}{k:Nat}{l:Av}(h:En ls ws k x)(hl:ls[k]? =some l)(h0:(Cd l x).1=0):En ls ws (k+1) (Cd l x).2:=by
 obtain⟨hk,a0⟩:=List.getElem?_eq_some_iff.1 hl;have hd:ls.drop k=l::ls.drop (k+1):=by rw[List.drop_eq_getElem_cons hk,a0]
 have hg:=h.get;obtain⟨h1,h2⟩:=h;rw[hd]at h1
 have e:Bp (l::ls.drop (k+1)) x=((Bp (ls.drop (k+1)) (Cd l x).2).1,x::(Bp (ls.drop (k+1)) (Cd l x).2).2):=by
  rw[Bp,if_neg (by rw[h0];simp)]
 rw[e]at h1;have e2:(Bp ls ws).2.take (k+1)=(Bp ls ws).2.take k++[x]:=Ba _ _ _ hg
 have h3:Bp ls ws=((Bp (ls.drop (k+1)) (Cd l x).2).1,(Bp ls ws).2.take (k+1)++(Bp (ls.drop (k+1)) (Cd l x).2).2):=by
  rw[e2,List.append_assoc];exact h1
 refine⟨h3, ?_⟩;obtain⟨r,hr⟩:=Hm (ls.drop (k+1)) (Cd l x).2;have h4:=congrArg (fun y=>y.2.length) h3;dsimp only at h4;rw[hr,List.length_append,List.length_take]at h4;simp only[List.length_cons]at h4;omega
theorem En.fail {ls:List Av}{ws x:List Snd}{k:Nat}{l:Av}(h:En ls ws k x)(hl:ls[k]? =some l)(h0:(Cd l x).1≠0):(Bp ls ws).1=(Cd l x).1/\(Bp ls ws).2.length=k+1:=by
 obtain⟨hk,a0⟩:=List.getElem?_eq_some_iff.1 hl;have hd:ls.drop k=l::ls.drop (k+1):=by rw[List.drop_eq_getElem_cons hk,a0]
 obtain⟨h1,h2⟩:=h;rw[hd]at h1;have e:Bp (l::ls.drop (k+1)) x=((Cd l x).1,[x]):=by rw[Bp,if_pos h0]
 rw[e]at h1;refine⟨congrArg Prod.fst h1, ?_⟩;have h4:=congrArg (fun y=>y.2.length) h1;dsimp only at h4;rw[List.length_append,List.length_take]at h4;simp only[List.length_cons,List.length_nil]at h4;omega
theorem En.fin {ls:List Av}{ws x:List Snd}(h:En ls ws ls.length x):(Bp ls ws).1=0/\(Bp ls ws).2.length=ls.length+1:=by
 obtain⟨h1,h2⟩:=h;rw[List.drop_length]at h1;refine⟨congrArg Prod.fst h1, ?_⟩;have h4:=congrArg (fun y=>y.2.length) h1;dsimp only[Bp]at h4;rw[List.length_append,List.length_take]at h4;simp only[List.length_cons,List.length_nil]at h4;omega
def Z2 (w:World)(A:Option Addr)(n c:Nat)(A':Option Addr)(n' c':Nat)(e:Ending)(w':World):Prop:=
 ∃bw bl:Nat,e= .returned (.func (.func 150) #[] #[.pointer (some ⟨bw,0,none⟩), .pointer (some ⟨bl,0,none⟩)])∧
  w'.heap[bl]? =some (.cells #[.slice A n c] 35 (0,0))/\w'.heap[bw]? =some (.cells #[.slice A' n' c'] 32 (0,0))/\w.heap.size<=bw/\w.heap.size<=bl/\Below w.heap.size w w'
theorem Acj (A:Option Addr)(n c:Nat)(A':Option Addr)(n' c':Nat)(w:World):Calls Tryz.prog 84 #[.slice A n c, .slice A' n' c'] w (Z2 w A n c A' n' c'):=by
 go_enter Tryz.func84,Tryz.ntmps84;go_wp2;go_ret;exact⟨w.heap.size+1,w.heap.size,rfl,hpt,hpt,by omega,rr,bel⟩
structure Z4 (lr bw bl:Nat)(A:Option Addr)(n c:Nat)(xs:List Bu)(Aw:Option Addr)(nw cw:Nat)(ws:List Snd)(B:Nat)(J:Nat->(Nat->Prop)->World->Prop):Prop where
 hB:∀i T W,J i T W->B<=W.heap.size
 hlt:∀i T W,J i T W→∀k,T k->k<W.heap.size
 hst:∀i T W W',J i T W->Below W.heap.size W W'->J i T W'
 hrd:∀i T W,J i T W->W.heap[bl]? =some (.cells #[.slice A n c] 35 (0,0))/\W.heap[bw]? =some (.cells #[.slice Aw nw cw] 32 (0,0))/\Bw W A n c xs/\Ab W Aw nw cw ws/\B7 W
 hy:∀i T W A' n' c' x,(Bp (Am xs) ws).2[i]? =some x->Ab W A' n' c' x->(∀ad,A'=some ad->B<=ad.block∧¬T ad.block)->J i T W->YieldAt Fence.wide 0 Tryz.prog lr #[.int .i64 i, .slice A' n' c'] W (fun e W''=>
  e= .returned (.bool true)∧∃T',J (i+1) T' W''/\Ae T W W''∧∀k,T' k->T k\/W.heap.size<=k)
def Z5 (r:Int×List (List Snd))(J:Nat->(Nat->Prop)->World->Prop)(e:Ending)(W':World):Prop:=
 (∃T,J r.2.length T W')/\((r.1=0∧∃v,e= .returned v)\/(r.1≠0/\e= .panicked [{v:= .iface 181 (.int .i64 r.1),recovered:=false}]))
theorem Tb (m lr bw bl:Nat)(hm:1<=m)(A:Option Addr)(n c:Nat)(xs:List Bu)(Aw:Option Addr)(nw cw:Nat)(ws:List Snd)(W:World)(J:Nat->(Nat->Prop)->World->Prop)(T0:Nat->Prop)(B:Nat)
  (H:Z4 lr bw bl A n c xs Aw nw cw ws B J) (h0:J 0 T0 W) (hnw:nw<=4096):
  CallsIn Fence.wide m Tryz.prog 150 #[.func (.yield lr) #[] #[], .pointer (some ⟨bw,0,none⟩), .pointer (some ⟨bl,0,none⟩)] W (Z5 (Bp (Am xs) ws) J):=by
 have b9:=H.hlt _ _ _ h0;have i2:=H.hB _ _ _ h0;obtain⟨r1,r2,r3,r4,r5⟩:=H.hrd _ _ _ h0;have e2:=cell_of_one r2;have HU:=hI H;clear H;have H0:=hI h0;clear h0;have i4:=r3.max;have b5:=r3.len;have d2:=hI b5;clear b5;have d9:=L4 Aw nw cw ws W r4 hnw;have f5:=hI d9;clear d9;clear r1 r2 r3 r4 r5;refine callsIn_of_wp Tryz.func150 rfl trivial ?_;simp only[Tryz.ntmps150,List.size_toArray,List.length_cons,List.length_nil,Nat.reduceAdd,Nat.reduceSub,Array.replicate_succ,Array.replicate_zero,List.push_toArray,List.append_toArray,List.nil_append,List.cons_append];gi_wp2;refine⟨trivial, ?_⟩;refine(callsIn_wide.2 f5.out).mono ?_;rintro e w1 ⟨A1,n1,c1,rfl,a7,b3,a6⟩;have g7:=b3.size;have f8:=hI (HU.out.hst _ _ _ _ H0.out b3);obtain⟨fn,tmps,assign,body,a4,hR⟩:=D3 (m':=m-1) (HU.out.hy 0 T0 _ A1 n1 c1 ws (En.start _ _).get a7 (fun ad had=>⟨by have:=a6 ad had;omega,fun hT=>by have:=a6 ad had;have:=b9 _ hT;omega⟩) f8.out);rw[show((0:Nat):Int)=0 from rfl]at a4;have HR:=hI hR;clear hR;have f6:=hI a7;clear a7;have g6:=hI a6;clear a6;clear b3 e2;gi_wp2;refine HR.out.mono ?_;rintro e W2 ⟨rfl,T2,a9,d0,g9⟩;have g5:=hI (f6.out.keep d0 (fun hn ad had hT=>by have:=g6.out ad had;have:=b9 _ hT;omega));have i1:=hI a9;obtain⟨q1,q2,q3,q4,q5⟩:=HU.out.hrd _ _ _ a9;have e3:=cell_of_one q1;clear a4 d0 g9 a9 q1 q2 q3 q4 q5;gi_wp2;clear e3
 gi_loopw [4,17] (fun wv i wr=>∃(k:Nat) (x:List Snd) (A1:Option Addr) (n1 c1:Nat) (T:Nat->Prop),i= .int .i64 k/\k<=n/\wv= .slice A1 n1 c1/\Hid (Ab wr A1 n1 c1 x)/\Hid (J (k+1) T wr)/\Hid (En (Am xs) ws k x))
  (fun _ i _=>n-(intOf i).toNat)
 case atStart=>exact⟨0,ws,A1,n1,c1,T2,rfl,Nat.zero_le _,rfl,g5,i1,En.start _ _⟩
 case round=>
  obtain⟨k,x,Ax,nx,cx,T,rfl,hk,rfl,g0,HJ,b0⟩:=hrel;obtain⟨q1,q2,q3,q4,q5⟩:=HU.out.hrd _ _ _ HJ.out;by_cases hlt:k<n
  ·obtain⟨s,hs⟩:=q3.get hlt;obtain⟨b,off,rfl,i3,b8⟩:=q3.at_ hs;have b7:(Am xs)[k]? =some s.l:=by rw[List.getElem?_map,hs];rfl
   have d7:=q3.2 s (List.mem_of_getElem? hs);have d3:=hI b7;clear b7;have f9:=hI b8;clear b8;have i0:=hI d7;clear d7 hs;have g4:=hI q5;clear q1 q2 q3 q4 q5
   gi_wp2_with (first|(refine Ti rfl (.tmp 20) rfl b (off+k*18) s rfl f9.out ?_)|(refine Tj rfl (.tmp 6) (.tmp 21) rfl wr.heap.size s.l s.a rfl rfl (t:=34) (Ak rfl) rfl ?_;intro W3 g1 g2 g3)|(refine Dl rfl (.tmp 6) rfl wr.heap.size s.l s.a rfl (by assumption) ?_))
   have b4:Below wr.heap.size wr W3:=((Below.refl wr.heap.size wr).alloc rr _).trans (g2.to_below (B:=wr.heap.size) (fun k hk=>by subst hk;exact rr) (by simp));have G1:=hI g1;clear g1 g2;have g3':=Nat.le_of_eq g3;have a2:=hI b4;clear b4 g3;refine⟨trivial, ?_⟩;refine(callsIn_wide.2 (Ab9 s.l s.a Ax nx cx x W3 (i0.out.below a2.out rr) (g0.out.below a2.out rr) (g4.out.below a2.out rr))).mono ?_;rintro e w4 ⟨A4,n4,c4,rfl,f0,d8,a8⟩;have f1:Below wr.heap.size wr w4:=a2.out.trans (d8.mono a2.out.size);have f2:=hI (HU.out.hst _ _ _ _ HJ.out f1);have a5:∀ad,A4=some ad->B<=ad.block∧¬T ad.block:=fun ad had=>⟨by have h1:=a8 ad had;have h2:=HU.out.hB _ _ _ HJ.out;have h3:=a2.out.size;omega,fun hT=>by have h1:=a8 ad had;have h2:=HU.out.hlt _ _ _ HJ.out _ hT;have h3:=a2.out.size;omega⟩
   have d4:=hI f0;clear f0;have b6:=hI a5;clear a5 a8 d8 f1;obtain⟨er,b1⟩:∃er,er=(Cd s.l x).1:=⟨_,rfl⟩;rw[←b1];have b2:=hI b1;clear b1;by_cases hz:er=0
   case neg=>
    have g8:(er !=0)=true:=by simpa using hz
    have a0:=b0.out.fail d3.out (by rw[←b2.out];exact hz);rw[←b2.out]at a0;have a1:=hI a0;have HZ:=hI hz;clear a0 hz;gi_wp2;refine⟨rfl,⟨T,by rw[a1.out.2];exact f2.out⟩, .inr ⟨by rw[a1.out.1];exact HZ.out,by rw[a1.out.1]⟩⟩
   have g8:(er !=0)=false:=by simpa using hz
   have a3:=b0.out.step d3.out (by rw[←b2.out];exact hz);have d5:=hI a3;clear a3 hz;obtain⟨fn',tmps',assign',body',a4,hR⟩:=D3 (m':=m-1) (HU.out.hy (k+1) T _ A4 n4 c4 (Cd s.l x).2 d5.out.get d4.out b6.out f2.out);rw[show((k+1:Nat):Int)=(k:Int)+1 by omega]at a4;have HR:=hI hR;clear hR;gi_wp2;refine HR.out.mono ?_;rintro e W5 ⟨rfl,T5,d1,d6,f7⟩;have f4:=hI (d4.out.keep d6 (fun hn ad had hT=>(b6.out ad had).2 hT));have f3:=hI d1;clear a4 d6 f7 d1;gi_wp2
   go_roundw
   case rel=>exact⟨k+1,(Cd s.l x).2,A4,n4,c4,T5,by go_num,by omega,rfl,f4,f3,d5⟩
   case measure=>simp[intOf];omega
  ·obtain rfl:k=n:=by omega
   have a0:=b0.out;rw[show k=(Am xs).length by rw[List.length_map,d2.out]]at a0;have a1:=hI a0.fin;clear a0 q1 q2 q3 q4 q5;gi_wp2;refine bodyPost_ret (v:= .tuple #[]) (by simp[results,Tryz.results150,go_sem]) rfl ⟨⟨T, ?_⟩, .inl ⟨a1.out.1,_,rfl⟩⟩;rw[a1.out.2,List.length_map,d2.out];exact HJ.out
end Go.Proofs.YtlgliddhideflaaGreatDoor
