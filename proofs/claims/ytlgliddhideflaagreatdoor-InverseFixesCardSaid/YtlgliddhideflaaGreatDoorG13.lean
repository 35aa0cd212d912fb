/-
  word.Equal, law.Apply, law.Changes.
  Slices of laws; slices of words.
  slices.IndexFunc and slices.ContainsFunc over records of type api.Law.
  derive.Check, derive.check.
  derive.forms and its iterator: the forms of a derivation, one after the other; a failure is a panic.
-/
import Derived.Test.YtlgliddhideflaaGreatDoorG12
set_option linter.all false
set_option maxRecDepth 100000
set_option maxHeartbeats 4000000
namespace Go.Proofs.YtlgliddhideflaaGreatDoor
open Go.RowKit Go.Shelf
theorem Pu (A A':Option Addr)(n n' c c':Nat)(xs ys:List Snd)(w:World)(hx:Ad w A n c xs)(hy:Ad w A' n' c' ys):
  Calls Tryz.prog 22 #[.slice A n c, .slice A' n' c'] w fun e w'=>e= .returned (.bool (decide (xs=ys)))/\Below w.heap.size w w':=by
 go_enter Tryz.func22,Tryz.ntmps22;go_wp2_with(go_at_call 67;refine(Xa A A' n n' c c' xs ys w hx hy).mono ?_;rintro e w1 ⟨rfl,a0⟩);go_ret;exact⟨rfl,a0⟩
def Aez (w:World)(r:Int×List Snd)(e:Ending)(w':World):Prop:=
 ∃A n c,e= .returned (.tuple #[.slice A n c, .int .i64 r.1])/\Ad w' A n c r.2/\Below w.heap.size w w'∧∀ad,A=some ad->w.heap.size<=ad.block
theorem Kg {α:Type}{l:List α}{m:Nat}(h:l.length=m+1):l.getLast? =l[m]? :=by
 rw[List.getLast?_eq_getElem?,h];rfl
theorem Ly (l:Bg)(ws:List Snd)(h:(Cy l ws).1=0):Bo l ws=(0,(((Cy l ws).2.map (·.2)).getLast?).getD ws):=by
 unfold Bo;rw[if_neg (by rw[h];simp),List.getLast?_map];cases(Cy l ws).2.getLast? <;>rfl
theorem Aal {l:Bg}{ws:List Snd}(h:(Cy l ws).1=0):Cc l ws=0:=by
 unfold Cy at h;by_cases h0:Cc l ws=0
 ·exact h0
 ·rw[if_pos h0]at h;exact absurd h h0
theorem Afs {l:Bg}{ws:List Snd}(h:Cc l ws=0):ws.length<=32:=by
 unfold Cc at h;by_cases h0:Ci l=0
 ·rw[if_pos h0]at h;unfold Bs at h;rcases Nat.lt_or_ge 32 ws.length with h1|h1
  ·rw[if_pos h1]at h;exact absurd h (by decide)
  ·exact h1
 ·rw[if_neg h0]at h;exact absurd h h0
theorem Ak7 (l:Bg)(a:Dn)(A:Option Addr)(n c:Nat)(ws:List Snd)(w:World)(hl:Cv w l a)(hw:Ad w A n c ws)(hT:Cq w):
  Calls Tryz.prog 139 #[C8 l a, .slice A n c] w (Aez w (Bo l ws)):=by
 have HL:=hI hl;clear hl;have HW:=hI hw;clear hw;have HT:=hI hT;clear hT;obtain⟨Wb,d8,b1,f3,a0,d9⟩:=De w l a;go_enter Tryz.func139,Tryz.ntmps139;go_wp2_with(refine Cn rfl (.tmp 2) rfl w.heap.size l a rfl b1 ?_);refine(Ame l a A n c ws Wb (HL.out.below a0 rr) (HW.out.below a0 rr) (HT.out.below a0 rr)).mono ?_;rintro e w1 ⟨A1,c1,A2,n2,c2,ps,rfl,b8,b3,a3,a9,b2,b6⟩;have b0:Below w.heap.size w w1:=a0.trans (b6.mono a0.size);have d7:=a0.size;have b4:(ps.map Part.val).length=n2:=by have:=a3.1;simpa using this
 have d0:n2<=9223372036854775807:=by have h1:=a3.2.1;have h2:=a3.2.2.1;unfold maxLen at h2;omega
 have a1:=hI b0;have b7:=hI b3;have d6:=hI a3;have d1:=hI a9;have d2:=hI b2;have a5:=hI b4;clear d8 b1 b6 b8 b3 a3 a9 b2 b0 b4 a0;obtain⟨er,a6⟩:∃er,er=(Cy l ws).1:=⟨_,rfl⟩;rw[←a6];have a7:=hI a6;clear a6;by_cases h0:er=0
 case neg=>
  have h1:(er !=0)=true:=by simpa using h0
  have HM:Hid (Bo l ws=(er,[])):=by show Bo l ws=_;unfold Bo;rw[←a7.out,if_pos h0]
  clear h0;go_wp2
  go_ret2
  exact⟨none,0,0,by rw[HM.out];rfl,by rw[HM.out];exact Bd.nil _ _,a1.out,fun ad h=>by cases h⟩
 have h1:(er !=0)=false:=by simpa using h0
 have HM:Hid (Bo l ws=(0,((ps.map Part.word).getLast?).getD ws)):=by show Bo l ws=_;rw[Ly l ws (by rw[←a7.out];exact h0),b7.out]
 have HN:Hid (ws.length<=32):=Afs (Aal (by rw[←a7.out];exact h0));clear h0;by_cases hz:0<n2
 ·obtain⟨m,rfl⟩:∃m,n2=m+1:=⟨n2-1,by omega⟩;obtain⟨b,off,v,rfl,f0,hv,a2⟩:=d6.out.at1 (k:=m) (by omega);have f2:(m:Int)<(m:Int)+1:=by omega
  have f1:((m:Int)).toNat=m:=by omega
  obtain⟨p,hp⟩:∃p,ps[m]? =some p:=by
   have:=a5.out
   simp only[List.length_map]at this;exact⟨ps[m],List.getElem?_eq_getElem (by omega)⟩
  have d3:v=p.val:=by rw[List.getElem?_map,hp]at hv;simpa using hv.symm
  subst d3;have HP:=hI hp;clear hv hp;unfold Part.val at a2;go_wp2
  go_ret2
  have a4:=List.mem_of_getElem? HP.out;refine⟨p.1,p.2.1,p.2.2.1,by rw[HM.out];rfl, ?_,a1.out,fun ad had=>Nat.le_trans d7 (d2.out p a4 ad had)⟩
  rw[HM.out,Kg (m:=m) (by have:=a5.out;simpa using this),List.getElem?_map,HP.out];exact d1.out p a4
 ·obtain rfl:n2=0:=by omega
  have b5:ps=[]:=by have:=a5.out;simpa using this
  have a8:Hid (Bo l ws=(0,ws)):=by show Bo l ws=_;rw[HM.out,b5];rfl
  clear b5;go_wp2_with(go_at_call 61;refine(Ml A n c ws w1 (HW.out.below a1.out rr) (by have:=HN.out;have:=HW.out.len;omega)).mono ?_;rintro e w2 ⟨A',n',c',rfl,b9,d4,d5⟩)
  go_ret2
  exact⟨A',n',c',by rw[a8.out];rfl,by rw[a8.out];exact b9,a1.out.trans (d4.mono a1.out.size),fun ad had=>Nat.le_trans a1.out.size (d5 ad had)⟩
structure Co where
 l:Bg
 a:Dn
def Co.cells (x:Co):List Value:=(Bv x.l x.a).toList
theorem Co.len (x:Co):x.cells.length=18:=rfl
def B4 (w:World)(A:Option Addr)(n c:Nat)(xs:List Co):Prop:=Gz Co.cells 18 w A n c xs∧∀x∈xs,Cv w x.l x.a
section laws
variable {w w':World}{A:Option Addr}{n c:Nat}{xs:List Co}
theorem B4.below (h:B4 w A n c xs){B:Nat}(hb:Below B w w')(hB:w.heap.size<=B):B4 w' A n c xs:=⟨h.1.below hb hB,fun x hx=>(h.2 x hx).below hb hB⟩
theorem B4.len (h:B4 w A n c xs):xs.length=n:=h.1.2
theorem B4.max (h:B4 w A n c xs):n<=c/\c<=9223372036854775807:=by have h1:=h.1.1.2.1;have h2:=h.1.1.2.2.1;unfold maxLen at h2;omega
theorem B4.at_ (h:B4 w A n c xs){k:Nat}{x:Co}(hx:xs[k]? =some x):∃b off,A=some ⟨b,off,none⟩/\b<w.heap.size/\w.rangeAt b (off+k*18) x.cells:=by
 obtain⟨b,off,hA,hb,hc⟩:=h.1.at_ Co.len (by decide) hx;exact⟨b,off,hA,hb,fun j v hv=>by rw[Nat.add_assoc];exact hc j v hv⟩
theorem B4.get (h:B4 w A n c xs){k:Nat}(hk:k<n):∃x,xs[k]? =some x:=⟨xs[k]'(by rw[h.len];exact hk),List.getElem?_eq_getElem _⟩
theorem B4.drop (h:B4 w A n c xs){k:Nat}(hk:k<=n):B4 w (if c=k then A else A.map (·.add (k*18))) (n-k) (c-k) (xs.drop k):=
 ⟨h.1.drop Co.len hk,fun x hx=>h.2 x (List.mem_of_mem_drop hx)⟩
theorem B4.take (h:B4 w A n c xs){k:Nat}(hk:k<=n):B4 w A k c (xs.take k):=⟨h.1.take Co.len hk,fun x hx=>h.2 x (List.mem_of_mem_take hx)⟩
end laws
theorem Af6 (l:Bg)(a:Dn):(Tryz.prog.info? 34).map (·.size)=some (Bv l a).toList.length:=by rw[Array.length_toList];exact Ln l a
theorem Kz {w:World}{b o:Nat}{x:Co}(hr:w.rangeAt b o x.cells):(loadVar 34 ⟨b,o,none⟩).run Tryz.prog w= .ok (C8 x.l x.a) w:=
 run_loadVar_mid w b o 34 (Bv x.l x.a).toList _ hr Tryz.underlying34 rfl (Af6 x.l x.a)
theorem Rw {ops:Array Oper}{rest:List Oper}{op:Oper}{ac:Act}{w:World}{Q:Exit->Act->World->Prop}(hgd:op.guard=none)(x:Operand)(ho:op.op= .load 34 x)
  (b o:Nat) (s:Co) (hx:ac.eval x= .pointer (some ⟨b,o,none⟩)) (hr:w.rangeAt b o s.cells) (h:wpList Tryz.prog ops Q rest (ac.put op.dst (C8 s.l s.a)) w):wpList Tryz.prog ops Q (op::rest) ac w:=by
 refine wpList_plain hgd fun K hK=> ?_
 unfold Oper.wp execOp;simp only[ho,hx,Instr.loadAt,Instr.sureAddr,Sem.run_bind,Sem.run_pure,Result.andThen_ok,Kz hr];exact hK _ _ h
theorem Aa4 {F:Fence}{n:Nat}{ops:Array Oper}{rest:List Oper}{op:Oper}{ac:Act}{w:World}{Q:Exit->Act->World->Prop}(hgd:op.guard=none)(x:Operand)(ho:op.op= .load 34 x)
  (b o:Nat) (s:Co) (hx:ac.eval x= .pointer (some ⟨b,o,none⟩)) (hr:w.rangeAt b o s.cells) (h:wpListIn F n Tryz.prog ops Q rest (ac.put op.dst (C8 s.l s.a)) w):wpListIn F n Tryz.prog ops Q (op::rest) ac w:=by
 refine wpListIn_plain hgd fun K hK=> ?_
 unfold Oper.wpIn;refine⟨by simp[Oper.about,ho], ?_⟩;rw[Oper.semAt_plain F _ _ (by rw[ho];intro c a0;cases a0)];unfold execOp;simp only[ho,hx,Instr.loadAt,Instr.sureAddr,Sem.run_bind,Sem.run_pure,Result.andThen_ok,Kz hr];exact hK _ _ h
theorem Aa5 {F:Fence}{n:Nat}{ops:Array Oper}{rest:List Oper}{op:Oper}{ac:Act}{w:World}{Q:Exit->Act->World->Prop}(hgd:op.guard=none)(x y:Operand)(ho:op.op= .store 34 x y)
  (b:Nat) (l:Bg) (a:Dn) (hx:ac.eval x= .pointer (some ⟨b,0,none⟩)) (hy:ac.eval y=C8 l a) {old:Array Value} {t:TypeId} (hr:w.heap[b]? =some (.cells old t (0,0))) (hs:old.size=18)
  (h:∀W,W.heap[b]? =some (.cells (Bv l a) t (0,0))->Aj (fun k=>k=b) w W->W.heap.size=w.heap.size->wpListIn F n Tryz.prog ops Q rest (ac.put op.dst undef) W):wpListIn F n Tryz.prog ops Q (op::rest) ac w:=by
 have h':=h (w.setRow b (Bv l a)) (setRow_heap w b old _ t _ hr) ⟨rfl,rfl,rfl,by simp[World.setRow],fun k _ hk=>setRow_other w b k _ hk⟩ (by simp[World.setRow])
 refine wpListIn_plain hgd fun K hK=> ?_
 unfold Oper.wpIn;refine⟨by simp[Oper.about,ho], ?_⟩;rw[Oper.semAt_plain F _ _ (by rw[ho];intro c a0;cases a0)];unfold execOp;simp only[ho,hx,hy,Instr.storeAt,Instr.sureAddr,Sem.run_bind,Sem.run_pure,Result.andThen_ok,run_storeVar_row w b t 34 old (Bv l a) hr (Ln l a) (by rw[Ma];exact hs) (Zm l a)];exact hK _ _ h'
theorem Lp {ops:Array Oper}{rest:List Oper}{op:Oper}{ac:Act}{w:World}{Q:Exit->Act->World->Prop}(hgd:op.guard=none)(x y:Operand)(ho:op.op= .store 34 x y)
  (b:Nat) (l:Bg) (a:Dn) (hx:ac.eval x= .pointer (some ⟨b,0,none⟩)) (hy:ac.eval y=C8 l a) {old:Array Value} {t:TypeId} (hr:w.heap[b]? =some (.cells old t (0,0))) (hs:old.size=18)
  (h:∀W,W.heap[b]? =some (.cells (Bv l a) t (0,0))->Aj (fun k=>k=b) w W->W.heap.size=w.heap.size->wpList Tryz.prog ops Q rest (ac.put op.dst undef) W):wpList Tryz.prog ops Q (op::rest) ac w:=by
 have h':=h (w.setRow b (Bv l a)) (setRow_heap w b old _ t _ hr) ⟨rfl,rfl,rfl,by simp[World.setRow],fun k _ hk=>setRow_other w b k _ hk⟩ (by simp[World.setRow])
 exact wpList_store_row hgd 34 x y ho b (Bv l a) hx hy t old hr (Ln l a) (by rw[Ma];exact hs) (Zm l a) h'
theorem Bx.mk {w:World}{A:Option Addr}{n c:Nat}{ps:List Part}(h:Bd w A n c 1 (ps.map Part.val))(hp:Ki w ps):Bx w A n c (ps.map Part.word):=⟨ps,rfl,h,hp⟩
section words
variable {w w':World}{A:Option Addr}{n c:Nat}{xss:List (List Snd)}
theorem Bx.len (h:Bx w A n c xss):xss.length=n:=by
 obtain⟨ps,rfl,h,_⟩:=h
 have:=h.1
 simpa using this
theorem Bx.max (h:Bx w A n c xss):n<=c/\c<=9223372036854775807:=by
 obtain⟨ps,_,h,_⟩:=h;have h1:=h.2.1;have h2:=h.2.2.1;unfold maxLen at h2;omega
theorem Bx.below (h:Bx w A n c xss){B:Nat}(hb:Below B w w')(hB:w.heap.size<=B):Bx w' A n c xss:=by
 obtain⟨ps,rfl,h,hp⟩:=h;exact⟨ps,rfl,h.below hb hB,fun p hp'=>(hp p hp').below hb hB⟩
theorem Bx.at_ (h:Bx w A n c xss){k:Nat}(hk:k<n):
  ∃b off A' n' c' xs,A=some ⟨b,off,none⟩/\b<w.heap.size/\w.cell? ⟨b,off+k,none⟩=some (.slice A' n' c')/\xss[k]? =some xs/\Ad w A' n' c' xs:=by
 obtain⟨ps,rfl,h,hp⟩:=h;obtain⟨b,off,v,hA,hb,hv,hc⟩:=h.at1 hk;rw[List.getElem?_map]at hv
 cases hpk:ps[k]? with
 |none=>rw[hpk]at hv;cases hv
 |some p=>
  rw[hpk]at hv;obtain rfl:p.val=v:=by simpa using hv
  exact⟨b,off,p.1,p.2.1,p.2.2.1,p.word,hA,hb,hc,by rw[List.getElem?_map,hpk];rfl,hp p (List.mem_of_getElem? hpk)⟩
end words
theorem Bx.nil (w:World):Bx w none 0 0 []:=⟨[],rfl,Bd.nil _ _,fun p hp=>by simp at hp⟩
theorem Aih (A:Option Addr)(n c:Nat)(xs:List Co)(F:Nat)(lb:Array Value)(p:Co->Bool)(w:World)(hx:Gz Co.cells 18 w A n c xs)(hE:Enters Tryz.prog F)
  (hcall:∀W,Below w.heap.size w W→∀s∈xs,Calls Tryz.prog F (#[C8 s.l s.a]++lb) W fun e W'=>e= .returned (.bool (p s))/\Below W.heap.size W W'):
  Calls Tryz.prog 146 #[.slice A n c, .func (.func F) #[] lb] w fun e w'=>e= .returned (.int .i64 (Kw p xs))/\Below w.heap.size w w':=by
 have hm:n<=9223372036854775807:=by have h1:=hx.1.2.1;have h2:=hx.1.2.2.1;unfold maxLen at h2;omega
 have HX:=hI hx;clear hx;have HC:=hI hcall;clear hcall;unfold Enters at hE;go_enter Tryz.func146,Tryz.ntmps146;go_wp2
 go_loopw [5,8] (fun _ i wr=>∃k:Nat,k<=n/\i= .int .i64 k/\Hid ((xs.take k).any p=false)/\Below w.heap.size w wr) (fun _ i _=>n-(intOf i).toNat)
 case atStart=>exact⟨0,Nat.zero_le _,rfl,by simp[Hid],Below.refl _ _⟩
 case round=>
  obtain⟨k,hk,rfl,HA,hB⟩:=hrel;by_cases hlt:k<n
  ·obtain⟨s,a3⟩:∃s,xs[k]? =some s:=⟨xs[k]'(by rw[HX.out.2];exact hlt),List.getElem?_eq_getElem _⟩;obtain⟨b,off,rfl,hb,a0⟩:=(HX.out.below hB rr).at_ Co.len (by decide) a3;have b8:=a0 0 _ rfl;have d0:=a0 1 _ rfl;have b5:=a0 2 _ rfl;have d2:=a0 3 _ rfl;have b7:=a0 4 _ rfl;have d3:=a0 5 _ rfl;have b9:=a0 6 _ rfl;have b6:=a0 7 _ rfl;have d1:=a0 8 _ rfl;have b4:=a0 9 _ rfl;have a5:=a0 10 _ rfl;have b2:=a0 11 _ rfl;have b0:=a0 12 _ rfl;have a4:=a0 13 _ rfl;have b1:=a0 14 _ rfl;have a7:=a0 15 _ rfl;have a8:=a0 16 _ rfl;have a9:=a0 17 _ rfl;simp only[Nat.add_zero,←Nat.add_assoc]at b8 d0 b5 d2 b7 d3 b9 b6 d1 b4 a5 b2 b0 a4 b1 a7 a8 a9;clear a0;have a1:=hI (HC.out wr hB s (List.mem_of_getElem? a3));have HK:=hI a3;clear a3;by_cases hp:p s=true
   ·have hr:=Lj p xs k s HK.out HA.out hp;have HR:=hI hr;clear hr;have HP:=hI hp;clear hp;go_wp2_with fail;refine a1.out.mono ?_;rintro e w1 ⟨rfl,a2⟩;rw[HP.out];have a6:=hB.trans (a2.mono hB.size);clear a2;go_wp2;go_ret;exact⟨by rw[HR.out];rfl,a6⟩
   ·have b3:p s=false:=by simpa using hp
    have HP:=hI b3;clear hp b3;go_wp2_with fail;refine a1.out.mono ?_;rintro e w1 ⟨rfl,a2⟩;rw[HP.out];have a6:=hB.trans (a2.mono hB.size);clear a2;go_wp2
    go_roundw
    case rel=>exact⟨k+1,by omega,by go_num,by rw[Bb xs k _ HK.out,List.any_append,HA.out];simp[HP.out,Hid],a6⟩
    case measure=>simp[intOf];omega
  ·obtain rfl:k=n:=by omega
   have hr:Kw p xs= -1:=by
    have:=HA.out
    rw[List.take_of_length_le (by rw[HX.out.2];exact rr)]at this;exact Li p xs this
   have HR:=hI hr;clear hr;go_wp2;go_ret;exact⟨by rw[HR.out];rfl,hB⟩
theorem Aii (A:Option Addr)(n c:Nat)(xs:List Co)(F:Nat)(lb:Array Value)(p:Co->Bool)(w:World)(hx:Gz Co.cells 18 w A n c xs)(hE:Enters Tryz.prog F)
  (hcall:∀W,Below w.heap.size w W→∀s∈xs,Calls Tryz.prog F (#[C8 s.l s.a]++lb) W fun e W'=>e= .returned (.bool (p s))/\Below W.heap.size W W'):
  Calls Tryz.prog 75 #[.slice A n c, .func (.func F) #[] lb] w fun e w'=>e= .returned (.bool (xs.any p))/\Below w.heap.size w w':=by
 have a0:=Aih A n c xs F lb p w hx hE hcall;have H:=hI (Mv p xs);clear hx hcall hE;go_enter Tryz.func75,Tryz.ntmps75;go_wp2_with(go_at_call 146;refine a0.mono ?_;rintro e w1 ⟨rfl,a1⟩);go_ret;refine⟨?_,a1⟩;show Ending.returned (.bool (decide (0<=Kw p xs)))=_;rw[H.out]
def C5 (ls:List Bg):Int:=if 64<ls.length then 12 else if ls.any (fun l=>Ci l !=0)then 17 else 0
def Kv (wss:List (List Snd)):Int:=((wss.map Bs).find? (· !=0)).getD 0
def Hi (ls:List Bg)(wss:List (List Snd)):Int:=if C5 ls≠0 then C5 ls else if 256<wss.length then 12 else Kv wss
abbrev Ah (xs:List Co):List Bg:=xs.map Co.l
theorem Afz (l:Bg)(a:Dn)(w:World)(hl:Cv w l a):
  Calls Tryz.prog 76 #[C8 l a] w fun e w'=>e= .returned (.bool (Ci l !=0))/\Below w.heap.size w w':=by
 have HL:=hI hl;clear hl;obtain⟨Wb,a3,a1,a4,a0,a5⟩:=De w l a;go_enter Tryz.func76,Tryz.ntmps76;go_wp2_with(refine Cn rfl (.tmp 1) rfl w.heap.size l a rfl a1 ?_);refine(Aa3 l a Wb (HL.out.below a0 rr)).mono ?_;rintro e w1 ⟨rfl,a2⟩;clear a3 a1;go_wp2;go_ret;exact⟨rfl,a0.trans (a2.mono a0.size)⟩
theorem Aas (A:Option Addr)(n c:Nat)(xs:List Co)(w:World)(hx:B4 w A n c xs):
  Calls Tryz.prog 18 #[.slice A n c] w fun e w'=>e= .returned (.int .i64 (C5 (Ah xs)))/\Below w.heap.size w w':=by
 have hm:=hx.max;have HX:=hI hx;clear hx;have a0:=Aii A n c xs 76 #[] (fun x=>Ci x.l !=0) w HX.out.1 (enters_of Tryz.func76 (by kernel_rfl) rfl) (fun W hB s hs=>Afz s.l s.a W ((HX.out.2 s hs).below hB rr));have HA:=hI a0;clear a0;by_cases h64:64<n
 ·have hr:C5 (Ah xs)=12:=by unfold C5;rw[if_pos (by rw[List.length_map,HX.out.len];exact h64)]
  have HR:=hI hr;clear hr;go_enter Tryz.func18,Tryz.ntmps18;go_wp2;go_ret;exact⟨by rw[HR.out];rfl,Below.refl _ _⟩
 ·have hr:C5 (Ah xs)=if xs.any (fun x=>Ci x.l !=0)then 17 else 0:=by
   unfold C5;rw[if_neg (by rw[List.length_map,HX.out.len];exact h64),List.any_map];rfl
  obtain⟨b,hb⟩:∃b,b=xs.any (fun x=>Ci x.l !=0):=⟨_,rfl⟩;rw[←hb]at hr;have HB:=hI hb;clear hb;have HR:=hI hr;clear hr;go_enter Tryz.func18,Tryz.ntmps18;go_wp2_with(go_at_call 75;refine HA.out.mono ?_;rintro e w1 ⟨rfl,a1⟩;rw[←HB.out])
  all_goals
   go_ret;exact⟨by rw[HR.out];simp[*];try rfl,a1⟩
theorem Te {wss:List (List Snd)}{k:Nat}{xs:List Snd}(h:wss[k]? =some xs)(h0:(wss.take k).all (fun x=>Bs x==0)=true)(h1:Bs xs≠0):Kv wss=Bs xs:=by
 unfold Kv;rw[←List.take_append_drop k wss];have hk:=(List.getElem?_eq_some_iff.1 h);obtain⟨a1,a0⟩:=hk;rw[List.drop_eq_getElem_cons a1,a0,List.map_append,List.find?_append]
 have:((wss.take k).map Bs).find? (· !=0)=none:=by
  rw[List.find?_eq_none];intro x hx;obtain⟨y,hy,rfl⟩:=List.mem_map.1 hx
  have:=List.all_eq_true.1 h0 y hy
  simpa using this
 rw[this,List.map_cons,List.find?_cons];have h2:(Bs xs !=0)=true:=by simpa using h1
 rw[h2];rfl
theorem Aat {wss:List (List Snd)}(h0:wss.all (fun x=>Bs x==0)=true):Kv wss=0:=by
 unfold Kv
 have:(wss.map Bs).find? (· !=0)=none:=by
  rw[List.find?_eq_none];intro x hx;obtain⟨y,hy,rfl⟩:=List.mem_map.1 hx
  have:=List.all_eq_true.1 h0 y hy
  simpa using this
 rw[this];rfl
theorem Ah8 (A:Option Addr)(n c:Nat)(xs:List Co)(A':Option Addr)(n' c':Nat)(wss:List (List Snd))(w:World)(hx:B4 w A n c xs)(hw:Bx w A' n' c' wss):
  Calls Tryz.prog 77 #[.slice A n c, .slice A' n' c'] w fun e w'=>e= .returned (.int .i64 (Hi (Ah xs) wss))/\Below w.heap.size w w':=by
 have hm:=hx.max;have b4:=hw.max;have HX:=hI hx;clear hx;have HW:=hI hw;clear hw;have a0:=Aas A n c xs w HX.out;have HC:=hI a0;clear a0;obtain⟨er,a7⟩:∃er,er=C5 (Ah xs):=⟨_,rfl⟩;have a3:=hI a7;clear a7;by_cases h0:er=0
 case neg=>
  have h1:(er !=0)=true:=by simpa using h0
  have hr:Hi (Ah xs) wss=er:=by unfold Hi;rw[←a3.out,if_pos h0]
  have HR:=hI hr;clear hr h0;go_enter Tryz.func77,Tryz.ntmps77;go_wp2_with(go_at_call 18;refine HC.out.mono ?_;rintro e w1 ⟨rfl,a2⟩;rw[←a3.out]);go_ret;exact⟨by rw[HR.out];rfl,a2⟩
 have h1:(er !=0)=false:=by simpa using h0
 have hr:Hi (Ah xs) wss=if 256<wss.length then 12 else Kv wss:=by unfold Hi;rw[←a3.out,if_neg (by simpa using h0)]
 rw[HW.out.len]at hr;have HR:=hI hr;clear hr h0;by_cases h256:256<n'
 ·go_enter Tryz.func77,Tryz.ntmps77;go_wp2_with(go_at_call 18;refine HC.out.mono ?_;rintro e w1 ⟨rfl,a2⟩;rw[←a3.out]);go_ret;exact⟨by rw[HR.out,if_pos h256];rfl,a2⟩
 go_enter Tryz.func77,Tryz.ntmps77;go_wp2_with(go_at_call 18;refine HC.out.mono ?_;rintro e w1 ⟨rfl,a2⟩;rw[←a3.out]);have b2:=hI a2;clear a2
 go_loopw [8,19] (fun _ i wr=>∃k:Nat,k<=n'/\i= .int .i64 k/\Hid ((wss.take k).all (fun x=>Bs x==0)=true)/\Below w.heap.size w wr) (fun _ i _=>n'-(intOf i).toNat)
 case atStart=>exact⟨0,Nat.zero_le _,rfl,by simp[Hid],b2.out⟩
 case round=>
  obtain⟨k,hk,rfl,a1,hB⟩:=hrel;by_cases hlt:k<n'
  ·obtain⟨b,off,A1,n1,c1,ws,rfl,hb,hc,a6,a8⟩:=(HW.out.below hB rr).at_ hlt;have a9:=hI a6;clear a6;obtain⟨e1,b0⟩:∃e1,e1=Bs ws:=⟨_,rfl⟩;have a4:=hI b0;clear b0;have b1:=hI (Wz A1 n1 c1 ws wr a8);clear a8;by_cases hz:e1=0
   ·have b3:(e1 !=0)=false:=by simpa using hz
    have HZ:=hI hz;clear hz;go_wp2_with(go_at_call 102;refine b1.out.mono ?_;rintro e w2 ⟨rfl,a5⟩;rw[←a4.out])
    go_roundw
    case rel=>exact⟨k+1,by omega,by go_num,by show List.all _ _=true;rw[Bb wss k ws a9.out,List.all_append,a1.out];simp[←a4.out,HZ.out],hB.trans (a5.mono hB.size)⟩
    case measure=>simp[intOf];omega
   ·have b3:(e1 !=0)=true:=by simpa using hz
    have hf:Kv wss=e1:=by rw[a4.out];exact Te a9.out a1.out (by rw[←a4.out];exact hz)
    have HF:=hI hf;clear hf hz;go_wp2_with(go_at_call 102;refine b1.out.mono ?_;rintro e w2 ⟨rfl,a5⟩;rw[←a4.out]);go_ret;exact⟨by rw[HR.out,if_neg h256,HF.out];rfl,hB.trans (a5.mono hB.size)⟩
  ·obtain rfl:k=n':=by omega
   have hf:Kv wss=0:=Aat (by have:=a1.out;rwa[List.take_of_length_le (by rw[HW.out.len];exact rr)]at this);have HF:=hI hf;clear hf;go_wp2;go_ret;exact⟨by rw[HR.out,if_neg h256,HF.out];rfl,hB⟩
end Go.Proofs.YtlgliddhideflaaGreatDoor
namespace Go.Proofs.YtlgliddhideflaaGreatDoor
open Go.RowKit Go.Shelf
attribute [local go_sem] Oper.semAt_some
def Bu:List Bg->List Snd->Int×List (List Snd)
 |[],ws=>(0,[ws])
 |l::ls,ws=>if(Bo l ws).1≠0 then((Bo l ws).1,[ws])else((Bu ls (Bo l ws).2).1,ws::(Bu ls (Bo l ws).2).2)
def E9 (ls:List Bg)(ws:List Snd)(k:Nat)(x:List Snd):Prop:=
 Bu ls ws=((Bu (ls.drop k) x).1,(Bu ls ws).2.take k++(Bu (ls.drop k) x).2)/\k<(Bu ls ws).2.length
theorem Hj (ls:List Bg)(ws:List Snd):∃r,(Bu ls ws).2=ws::r:=by
 cases ls with
 |nil=>exact⟨[],rfl⟩
 |cons l ls=>
  unfold Bu;split
  ·exact⟨[],rfl⟩
  ·exact⟨_,rfl⟩
theorem E9.start (ls:List Bg)(ws:List Snd):E9 ls ws 0 ws:=by
 refine⟨by simp, ?_⟩;obtain⟨r,hr⟩:=Hj ls ws;rw[hr];simp
theorem E9.get {ls:List Bg}{ws x:List Snd}{k:Nat}(h:E9 ls ws k x):(Bu ls ws).2[k]? =some x:=by
 obtain⟨r,hr⟩:=Hj (ls.drop k) x;have h1:=congrArg Prod.snd h.1;rw[hr]at h1;dsimp only at h1;rw[h1,List.getElem?_append_right (by rw[List.length_take];omega),List.length_take,Nat.min_eq_left (by have:=h.2;omega),Nat.sub_self];rfl
theorem E9.step {ls:List Bg}{ws x:List Snd}{k:Nat}{l:Bg}(h:E9 ls ws k x)(hl:ls[k]? =some l)(h0:(Bo l x).1=0):E9 ls ws (k+1) (Bo l x).2:=by
 obtain⟨hk,a0⟩:=List.getElem?_eq_some_iff.1 hl;have hd:ls.drop k=l::ls.drop (k+1):=by rw[List.drop_eq_getElem_cons hk,a0]
 have hg:=h.get;obtain⟨h1,h2⟩:=h;rw[hd]at h1
 have e:Bu (l::ls.drop (k+1)) x=((Bu (ls.drop (k+1)) (Bo l x).2).1,x::(Bu (ls.drop (k+1)) (Bo l x).2).2):=by
  rw[Bu,if_neg (by rw[h0];simp)]
 rw[e]at h1;have e2:(Bu ls ws).2.take (k+1)=(Bu ls ws).2.take k++[x]:=Bb _ _ _ hg
 have h3:Bu ls ws=((Bu (ls.drop (k+1)) (Bo l x).2).1,(Bu ls ws).2.take (k+1)++(Bu (ls.drop (k+1)) (Bo l x).2).2):=by
  rw[e2,List.append_assoc];exact h1
 refine⟨h3, ?_⟩;obtain⟨r,hr⟩:=Hj (ls.drop (k+1)) (Bo l x).2;have h4:=congrArg (fun y=>y.2.length) h3;dsimp only at h4;rw[hr,List.length_append,List.length_take]at h4;simp only[List.length_cons]at h4;omega
theorem E9.fail {ls:List Bg}{ws x:List Snd}{k:Nat}{l:Bg}(h:E9 ls ws k x)(hl:ls[k]? =some l)(h0:(Bo l x).1≠0):(Bu ls ws).1=(Bo l x).1/\(Bu ls ws).2.length=k+1:=by
 obtain⟨hk,a0⟩:=List.getElem?_eq_some_iff.1 hl;have hd:ls.drop k=l::ls.drop (k+1):=by rw[List.drop_eq_getElem_cons hk,a0]
 obtain⟨h1,h2⟩:=h;rw[hd]at h1;have e:Bu (l::ls.drop (k+1)) x=((Bo l x).1,[x]):=by rw[Bu,if_pos h0]
 rw[e]at h1;refine⟨congrArg Prod.fst h1, ?_⟩;have h4:=congrArg (fun y=>y.2.length) h1;dsimp only at h4;rw[List.length_append,List.length_take]at h4;simp only[List.length_cons,List.length_nil]at h4;omega
theorem E9.fin {ls:List Bg}{ws x:List Snd}(h:E9 ls ws ls.length x):(Bu ls ws).1=0/\(Bu ls ws).2.length=ls.length+1:=by
 obtain⟨h1,h2⟩:=h;rw[List.drop_length]at h1;refine⟨congrArg Prod.fst h1, ?_⟩;have h4:=congrArg (fun y=>y.2.length) h1;dsimp only[Bu]at h4;rw[List.length_append,List.length_take]at h4;simp only[List.length_cons,List.length_nil]at h4;omega
def Aic (w:World)(A:Option Addr)(n c:Nat)(A':Option Addr)(n' c':Nat)(e:Ending)(w':World):Prop:=
 ∃bw bl:Nat,e= .returned (.func (.func 150) #[] #[.pointer (some ⟨bw,0,none⟩), .pointer (some ⟨bl,0,none⟩)])∧
  w'.heap[bl]? =some (.cells #[.slice A n c] 35 (0,0))/\w'.heap[bw]? =some (.cells #[.slice A' n' c'] 32 (0,0))/\w.heap.size<=bw/\w.heap.size<=bl/\Below w.heap.size w w'
theorem Alh (A:Option Addr)(n c:Nat)(A':Option Addr)(n' c':Nat)(w:World):Calls Tryz.prog 84 #[.slice A n c, .slice A' n' c'] w (Aic w A n c A' n' c'):=by
 go_enter Tryz.func84,Tryz.ntmps84;go_wp2;go_ret;exact⟨w.heap.size+1,w.heap.size,rfl,hpt,hpt,by omega,rr,bel⟩
structure Aid (lr bw bl:Nat)(A:Option Addr)(n c:Nat)(xs:List Co)(Aw:Option Addr)(nw cw:Nat)(ws:List Snd)(B:Nat)(J:Nat->(Nat->Prop)->World->Prop):Prop where
 hB:∀i T W,J i T W->B<=W.heap.size
 hlt:∀i T W,J i T W→∀k,T k->k<W.heap.size
 hst:∀i T W W',J i T W->Below W.heap.size W W'->J i T W'
 hrd:∀i T W,J i T W->W.heap[bl]? =some (.cells #[.slice A n c] 35 (0,0))/\W.heap[bw]? =some (.cells #[.slice Aw nw cw] 32 (0,0))/\B4 W A n c xs/\Ad W Aw nw cw ws/\Cq W
 hy:∀i T W A' n' c' x,(Bu (Ah xs) ws).2[i]? =some x->Ad W A' n' c' x->(∀ad,A'=some ad->B<=ad.block∧¬T ad.block)->J i T W->YieldAt Fence.wide 0 Tryz.prog lr #[.int .i64 i, .slice A' n' c'] W (fun e W''=>
  e= .returned (.bool true)∧∃T',J (i+1) T' W''/\Aj T W W''∧∀k,T' k->T k\/W.heap.size<=k)
def Aie (r:Int×List (List Snd))(J:Nat->(Nat->Prop)->World->Prop)(e:Ending)(W':World):Prop:=
 (∃T,J r.2.length T W')/\((r.1=0∧∃v,e= .returned v)\/(r.1≠0/\e= .panicked [{v:= .iface 181 (.int .i64 r.1),recovered:=false}]))
theorem Aax (m lr bw bl:Nat)(hm:1<=m)(A:Option Addr)(n c:Nat)(xs:List Co)(Aw:Option Addr)(nw cw:Nat)(ws:List Snd)(W:World)(J:Nat->(Nat->Prop)->World->Prop)(T0:Nat->Prop)(B:Nat)
  (H:Aid lr bw bl A n c xs Aw nw cw ws B J) (h0:J 0 T0 W) (hnw:nw<=4096):
  CallsIn Fence.wide m Tryz.prog 150 #[.func (.yield lr) #[] #[], .pointer (some ⟨bw,0,none⟩), .pointer (some ⟨bl,0,none⟩)] W (Aie (Bu (Ah xs) ws) J):=by
 have d3:=H.hlt _ _ _ h0;have i4:=H.hB _ _ _ h0;obtain⟨r1,r2,r3,r4,r5⟩:=H.hrd _ _ _ h0;have e2:=cell_of_one r2;have HU:=hI H;clear H;have H0:=hI h0;clear h0;have i3:=r3.max;have b9:=r3.len;have d7:=hI b9;clear b9;have d1:=Ml Aw nw cw ws W r4 hnw;have f3:=hI d1;clear d1;clear r1 r2 r3 r4 r5;refine callsIn_of_wp Tryz.func150 rfl trivial ?_;simp only[Tryz.ntmps150,List.size_toArray,List.length_cons,List.length_nil,Nat.reduceAdd,Nat.reduceSub,Array.replicate_succ,Array.replicate_zero,List.push_toArray,List.append_toArray,List.nil_append,List.cons_append];gi_wp2;refine⟨trivial, ?_⟩;refine(callsIn_wide.2 f3.out).mono ?_;rintro e w1 ⟨A1,n1,c1,rfl,a7,b3,a6⟩;have i1:=b3.size;have g8:=hI (HU.out.hst _ _ _ _ H0.out b3);obtain⟨fn,tmps,assign,body,a5,hR⟩:=Fp (m':=m-1) (HU.out.hy 0 T0 _ A1 n1 c1 ws (E9.start _ _).get a7 (fun ad had=>⟨by have:=a6 ad had;omega,fun hT=>by have:=a6 ad had;have:=d3 _ hT;omega⟩) g8.out);rw[show((0:Nat):Int)=0 from rfl]at a5;have HR:=hI hR;clear hR;have f6:=hI a7;clear a7;have f8:=hI a6;clear a6;clear b3 e2;gi_wp2;refine HR.out.mono ?_;rintro e W2 ⟨rfl,T2,a9,d5,g5⟩;have f7:=hI (f6.out.keep d5 (fun hn ad had hT=>by have:=f8.out ad had;have:=d3 _ hT;omega));have f5:=hI a9;obtain⟨q1,q2,q3,q4,q5⟩:=HU.out.hrd _ _ _ a9;have e3:=cell_of_one q1;clear a5 d5 g5 a9 q1 q2 q3 q4 q5;gi_wp2;clear e3
 gi_loopw [4,17] (fun wv i wr=>∃(k:Nat) (x:List Snd) (A1:Option Addr) (n1 c1:Nat) (T:Nat->Prop),i= .int .i64 k/\k<=n/\wv= .slice A1 n1 c1/\Hid (Ad wr A1 n1 c1 x)/\Hid (J (k+1) T wr)/\Hid (E9 (Ah xs) ws k x))
  (fun _ i _=>n-(intOf i).toNat)
 case atStart=>exact⟨0,ws,A1,n1,c1,T2,rfl,Nat.zero_le _,rfl,f7,f5,E9.start _ _⟩
 case round=>
  obtain⟨k,x,Ax,nx,cx,T,rfl,hk,rfl,i0,HJ,a8⟩:=hrel;obtain⟨q1,q2,q3,q4,q5⟩:=HU.out.hrd _ _ _ HJ.out;by_cases hlt:k<n
  ·obtain⟨s,hs⟩:=q3.get hlt;obtain⟨b,off,rfl,i2,f0⟩:=q3.at_ hs;have f2:(Ah xs)[k]? =some s.l:=by rw[List.getElem?_map,hs];rfl
   have f1:=q3.2 s (List.mem_of_getElem? hs);have d9:=hI f2;clear f2;have g7:=hI f0;clear f0;have g4:=hI f1;clear f1 hs;have g0:=hI q5;clear q1 q2 q3 q4 q5
   gi_wp2_with (first|(refine Aa4 rfl (.tmp 20) rfl b (off+k*18) s rfl g7.out ?_)|(refine Aa5 rfl (.tmp 6) (.tmp 21) rfl wr.heap.size s.l s.a rfl rfl (t:=34) (Ak rfl) rfl ?_;intro W3 g1 g2 g3)|(refine El rfl (.tmp 6) rfl wr.heap.size s.l s.a rfl (by assumption) ?_))
   have b8:Below wr.heap.size wr W3:=((Below.refl wr.heap.size wr).alloc rr _).trans (g2.to_below (B:=wr.heap.size) (fun k hk=>by subst hk;exact rr) (by simp));have G1:=hI g1;clear g1 g2;have g3':=Nat.le_of_eq g3;have a2:=hI b8;clear b8 g3;refine⟨trivial, ?_⟩;refine(callsIn_wide.2 (Ak7 s.l s.a Ax nx cx x W3 (g4.out.below a2.out rr) (i0.out.below a2.out rr) (g0.out.below a2.out rr))).mono ?_;rintro e w4 ⟨A4,n4,c4,rfl,d4,d0,b2⟩;have d8:Below wr.heap.size wr w4:=a2.out.trans (d0.mono a2.out.size);have b4:=hI (HU.out.hst _ _ _ _ HJ.out d8);have a4:∀ad,A4=some ad->B<=ad.block∧¬T ad.block:=fun ad had=>⟨by have h1:=b2 ad had;have h2:=HU.out.hB _ _ _ HJ.out;have h3:=a2.out.size;omega,fun hT=>by have h1:=b2 ad had;have h2:=HU.out.hlt _ _ _ HJ.out _ hT;have h3:=a2.out.size;omega⟩
   have b7:=hI d4;clear d4;have d2:=hI a4;clear a4 b2 d0 d8;obtain⟨er,b0⟩:∃er,er=(Bo s.l x).1:=⟨_,rfl⟩;rw[←b0];have b1:=hI b0;clear b0;by_cases hz:er=0
   case neg=>
    have g9:(er !=0)=true:=by simpa using hz
    have a0:=a8.out.fail d9.out (by rw[←b1.out];exact hz);rw[←b1.out]at a0;have a1:=hI a0;have HZ:=hI hz;clear a0 hz;gi_wp2;refine⟨rfl,⟨T,by rw[a1.out.2];exact b4.out⟩, .inr ⟨by rw[a1.out.1];exact HZ.out,by rw[a1.out.1]⟩⟩
   have g9:(er !=0)=false:=by simpa using hz
   have a3:=a8.out.step d9.out (by rw[←b1.out];exact hz);have b6:=hI a3;clear a3 hz;obtain⟨fn',tmps',assign',body',a5,hR⟩:=Fp (m':=m-1) (HU.out.hy (k+1) T _ A4 n4 c4 (Bo s.l x).2 b6.out.get b7.out d2.out b4.out);rw[show((k+1:Nat):Int)=(k:Int)+1 by omega]at a5;have HR:=hI hR;clear hR;gi_wp2;refine HR.out.mono ?_;rintro e W5 ⟨rfl,T5,d6,b5,g6⟩;have f9:=hI (b7.out.keep b5 (fun hn ad had hT=>(d2.out ad had).2 hT));have f4:=hI d6;clear a5 b5 g6 d6;gi_wp2
   go_roundw
   case rel=>exact⟨k+1,(Bo s.l x).2,A4,n4,c4,T5,by go_num,by omega,rfl,f9,f4,b6⟩
   case measure=>simp[intOf];omega
  ·obtain rfl:k=n:=by omega
   have a0:=a8.out;rw[show k=(Ah xs).length by rw[List.length_map,d7.out]]at a0;have a1:=hI a0.fin;clear a0 q1 q2 q3 q4 q5;gi_wp2;refine bodyPost_ret (v:= .tuple #[]) (by simp[results,Tryz.results150,go_sem]) rfl ⟨⟨T, ?_⟩, .inl ⟨a1.out.1,_,rfl⟩⟩;rw[a1.out.2,List.length_map,d7.out];exact HJ.out
end Go.Proofs.YtlgliddhideflaaGreatDoor
