/-
  word.Equal, law.Apply, law.Changes.
  Slices of laws; slices of words.
  slices.IndexFunc and slices.ContainsFunc over records of type api.Law.
  derive.Check, derive.check.
  derive.forms and its iterator: the forms of a derivation, one after the other; a failure is a panic.
-/
import Derived.Test.YtaglfmlgbcmakaaGreatDoorG12
set_option linter.all false
set_option maxRecDepth 100000
set_option maxHeartbeats 4000000
namespace Go.Proofs.YtaglfmlgbcmakaaGreatDoor
open Go.RowKit Go.Shelf
theorem Afm (A A':Option Addr)(n n' c c':Nat)(xs ys:List Snd)(w:World)(hx:Ak w A n c xs)(hy:Ak w A' n' c' ys):
  Calls Tryz.prog 23 #[.slice A n c, .slice A' n' c'] w fun e w'=>e= .returned (.bool (decide (xs=ys)))/\Below w.heap.size w w':=by
 go_enter Tryz.func23,Tryz.ntmps23;go_wp2_with(go_at_call 67;refine(Ajb A A' n n' c c' xs ys w hx hy).mono ?_;rintro e w1 ⟨rfl,a0⟩);go_ret;exact⟨rfl,a0⟩
def Acp (w:World)(r:Int×List Snd)(e:Ending)(w':World):Prop:=
 ∃A n c,e= .returned (.tuple #[.slice A n c, .int .i64 r.1])/\Ak w' A n c r.2/\Below w.heap.size w w'∧∀ad,A=some ad->w.heap.size<=ad.block
theorem Ke {α:Type}{l:List α}{m:Nat}(h:l.length=m+1):l.getLast? =l[m]? :=by
 rw[List.getLast?_eq_getElem?,h];rfl
theorem La (l:Bi)(ws:List Snd)(h:(Co l ws).1=0):B3 l ws=(0,(((Co l ws).2.map (·.2)).getLast?).getD ws):=by
 unfold B3;rw[if_neg (by rw[h];simp),List.getLast?_map];cases(Co l ws).2.getLast? <;>rfl
theorem Xz {l:Bi}{ws:List Snd}(h:(Co l ws).1=0):B7 l ws=0:=by
 unfold Co at h;by_cases h0:B7 l ws=0
 ·exact h0
 ·rw[if_pos h0]at h;exact absurd h h0
theorem Adj {l:Bi}{ws:List Snd}(h:B7 l ws=0):ws.length<=32:=by
 unfold B7 at h;by_cases h0:Cc l=0
 ·rw[if_pos h0]at h;unfold B4 at h;rcases Nat.lt_or_ge 32 ws.length with h1|h1
  ·rw[if_pos h1]at h;exact absurd h (by decide)
  ·exact h1
 ·rw[if_neg h0]at h;exact absurd h h0
theorem Ajl (l:Bi)(a:Dq)(A:Option Addr)(n c:Nat)(ws:List Snd)(w:World)(hl:Df w l a)(hw:Ak w A n c ws)(hT:Cw w):
  Calls Tryz.prog 173 #[Eg l a, .slice A n c] w (Acp w (B3 l ws)):=by
 have HL:=hI hl;clear hl;have HW:=hI hw;clear hw;have HT:=hI hT;clear hT;obtain⟨Wb,d5,b1,f3,a0,f2⟩:=D6 w l a;go_enter Tryz.func173,Tryz.ntmps173;go_wp2_with(refine Eo rfl (.tmp 2) rfl w.heap.size l a rfl b1 ?_);refine(Ak7 l a A n c ws Wb (HL.out.below a0 rr) (HW.out.below a0 rr) (HT.out.below a0 rr)).mono ?_;rintro e w1 ⟨A1,c1,A2,n2,c2,ps,rfl,b7,a9,a2,b0,b5,b6⟩;have a8:Below w.heap.size w w1:=a0.trans (b6.mono a0.size);have d1:=a0.size;have b3:(ps.map Part.val).length=n2:=by have:=a2.1;simpa using this
 have b8:n2<=9223372036854775807:=by have h1:=a2.2.1;have h2:=a2.2.2.1;unfold maxLen at h2;omega
 have a1:=hI a8;have d0:=hI a9;have d2:=hI a2;have d8:=hI b0;have d4:=hI b5;have a5:=hI b3;clear d5 b1 b6 b7 a9 a2 b0 b5 a8 b3 a0;obtain⟨er,a6⟩:∃er,er=(Co l ws).1:=⟨_,rfl⟩;rw[←a6];have a7:=hI a6;clear a6;by_cases h0:er=0
 case neg=>
  have h1:(er !=0)=true:=by simpa using h0
  have HM:Hid (B3 l ws=(er,[])):=by show B3 l ws=_;unfold B3;rw[←a7.out,if_pos h0]
  clear h0;go_wp2
  go_ret2
  exact⟨none,0,0,by rw[HM.out];rfl,by rw[HM.out];exact Az.nil _ _,a1.out,fun ad h=>by cases h⟩
 have h1:(er !=0)=false:=by simpa using h0
 have HM:Hid (B3 l ws=(0,((ps.map Part.word).getLast?).getD ws)):=by show B3 l ws=_;rw[La l ws (by rw[←a7.out];exact h0),d0.out]
 have HN:Hid (ws.length<=32):=Adj (Xz (by rw[←a7.out];exact h0));clear h0;by_cases hz:0<n2
 ·obtain⟨m,rfl⟩:∃m,n2=m+1:=⟨n2-1,by omega⟩;obtain⟨b,off,v,rfl,d9,hv,a3⟩:=d2.out.at1 (k:=m) (by omega);have f0:(m:Int)<(m:Int)+1:=by omega
  have f1:((m:Int)).toNat=m:=by omega
  obtain⟨p,hp⟩:∃p,ps[m]? =some p:=by
   have:=a5.out
   simp only[List.length_map]at this;exact⟨ps[m],List.getElem?_eq_getElem (by omega)⟩
  have d7:v=p.val:=by rw[List.getElem?_map,hp]at hv;simpa using hv.symm
  subst d7;have HP:=hI hp;clear hv hp;unfold Part.val at a3;go_wp2
  go_ret2
  have a4:=List.mem_of_getElem? HP.out;refine⟨p.1,p.2.1,p.2.2.1,by rw[HM.out];rfl, ?_,a1.out,fun ad had=>Nat.le_trans d1 (d4.out p a4 ad had)⟩
  rw[HM.out,Ke (m:=m) (by have:=a5.out;simpa using this),List.getElem?_map,HP.out];exact d8.out p a4
 ·obtain rfl:n2=0:=by omega
  have b4:ps=[]:=by have:=a5.out;simpa using this
  have b2:Hid (B3 l ws=(0,ws)):=by show B3 l ws=_;rw[HM.out,b4];rfl
  clear b4;go_wp2_with(go_at_call 60;refine(Adf A n c ws w1 (HW.out.below a1.out rr) (by have:=HN.out;have:=HW.out.len;omega)).mono ?_;rintro e w2 ⟨A',n',c',rfl,b9,d3,d6⟩)
  go_ret2
  exact⟨A',n',c',by rw[b2.out];rfl,by rw[b2.out];exact b9,a1.out.trans (d3.mono a1.out.size),fun ad had=>Nat.le_trans a1.out.size (d6 ad had)⟩
structure Cb where
 l:Bi
 a:Dq
def Cb.cells (x:Cb):List Value:=(Bw x.l x.a).toList
theorem Cb.len (x:Cb):x.cells.length=18:=rfl
def Cf (w:World)(A:Option Addr)(n c:Nat)(xs:List Cb):Prop:=Eb Cb.cells 18 w A n c xs∧∀x∈xs,Df w x.l x.a
section laws
variable {w w':World}{A:Option Addr}{n c:Nat}{xs:List Cb}
theorem Cf.below (h:Cf w A n c xs){B:Nat}(hb:Below B w w')(hB:w.heap.size<=B):Cf w' A n c xs:=⟨h.1.below hb hB,fun x hx=>(h.2 x hx).below hb hB⟩
theorem Cf.len (h:Cf w A n c xs):xs.length=n:=h.1.2
theorem Cf.max (h:Cf w A n c xs):n<=c/\c<=9223372036854775807:=by have h1:=h.1.1.2.1;have h2:=h.1.1.2.2.1;unfold maxLen at h2;omega
theorem Cf.at_ (h:Cf w A n c xs){k:Nat}{x:Cb}(hx:xs[k]? =some x):∃b off,A=some ⟨b,off,none⟩/\b<w.heap.size/\w.rangeAt b (off+k*18) x.cells:=by
 obtain⟨b,off,hA,hb,hc⟩:=h.1.at_ Cb.len (by decide) hx;exact⟨b,off,hA,hb,fun j v hv=>by rw[Nat.add_assoc];exact hc j v hv⟩
theorem Cf.get (h:Cf w A n c xs){k:Nat}(hk:k<n):∃x,xs[k]? =some x:=⟨xs[k]'(by rw[h.len];exact hk),List.getElem?_eq_getElem _⟩
theorem Cf.drop (h:Cf w A n c xs){k:Nat}(hk:k<=n):Cf w (if c=k then A else A.map (·.add (k*18))) (n-k) (c-k) (xs.drop k):=
 ⟨h.1.drop Cb.len hk,fun x hx=>h.2 x (List.mem_of_mem_drop hx)⟩
theorem Cf.take (h:Cf w A n c xs){k:Nat}(hk:k<=n):Cf w A k c (xs.take k):=⟨h.1.take Cb.len hk,fun x hx=>h.2 x (List.mem_of_mem_take hx)⟩
end laws
theorem Adu (l:Bi)(a:Dq):(Tryz.prog.info? 55).map (·.size)=some (Bw l a).toList.length:=by rw[Array.length_toList];exact L9 l a
theorem Kn {w:World}{b o:Nat}{x:Cb}(hr:w.rangeAt b o x.cells):(loadVar 55 ⟨b,o,none⟩).run Tryz.prog w= .ok (Eg x.l x.a) w:=
 run_loadVar_mid w b o 55 (Bw x.l x.a).toList _ hr Tryz.underlying55 rfl (Adu x.l x.a)
theorem Qg {ops:Array Oper}{rest:List Oper}{op:Oper}{ac:Act}{w:World}{Q:Exit->Act->World->Prop}(hgd:op.guard=none)(x:Operand)(ho:op.op= .load 55 x)
  (b o:Nat) (s:Cb) (hx:ac.eval x= .pointer (some ⟨b,o,none⟩)) (hr:w.rangeAt b o s.cells) (h:wpList Tryz.prog ops Q rest (ac.put op.dst (Eg s.l s.a)) w):wpList Tryz.prog ops Q (op::rest) ac w:=by
 refine wpList_plain hgd fun K hK=> ?_
 unfold Oper.wp execOp;simp only[ho,hx,Instr.loadAt,Instr.sureAddr,Sem.run_bind,Sem.run_pure,Result.andThen_ok,Kn hr];exact hK _ _ h
theorem Yr {F:Fence}{n:Nat}{ops:Array Oper}{rest:List Oper}{op:Oper}{ac:Act}{w:World}{Q:Exit->Act->World->Prop}(hgd:op.guard=none)(x:Operand)(ho:op.op= .load 55 x)
  (b o:Nat) (s:Cb) (hx:ac.eval x= .pointer (some ⟨b,o,none⟩)) (hr:w.rangeAt b o s.cells) (h:wpListIn F n Tryz.prog ops Q rest (ac.put op.dst (Eg s.l s.a)) w):wpListIn F n Tryz.prog ops Q (op::rest) ac w:=by
 refine wpListIn_plain hgd fun K hK=> ?_
 unfold Oper.wpIn;refine⟨by simp[Oper.about,ho], ?_⟩;rw[Oper.semAt_plain F _ _ (by rw[ho];intro c a0;cases a0)];unfold execOp;simp only[ho,hx,Instr.loadAt,Instr.sureAddr,Sem.run_bind,Sem.run_pure,Result.andThen_ok,Kn hr];exact hK _ _ h
theorem Aj6 (l:Bi)(a:Dq):(Bw l a).all (·.oneCell')=true:=Wt l a
theorem Ys {F:Fence}{n:Nat}{ops:Array Oper}{rest:List Oper}{op:Oper}{ac:Act}{w:World}{Q:Exit->Act->World->Prop}(hgd:op.guard=none)(x y:Operand)(ho:op.op= .store 55 x y)
  (b:Nat) (l:Bi) (a:Dq) (hx:ac.eval x= .pointer (some ⟨b,0,none⟩)) (hy:ac.eval y=Eg l a) {old:Array Value} {t:TypeId} (hr:w.heap[b]? =some (.cells old t (0,0))) (hs:old.size=18)
  (h:∀W,W.heap[b]? =some (.cells (Bw l a) t (0,0))->Ba (fun k=>k=b) w W->W.heap.size=w.heap.size->wpListIn F n Tryz.prog ops Q rest (ac.put op.dst undef) W):wpListIn F n Tryz.prog ops Q (op::rest) ac w:=by
 have h':=h (w.setRow b (Bw l a)) (setRow_heap w b old _ t _ hr) ⟨rfl,rfl,rfl,by simp[World.setRow],fun k _ hk=>setRow_other w b k _ hk⟩ (by simp[World.setRow])
 refine wpListIn_plain hgd fun K hK=> ?_
 unfold Oper.wpIn;refine⟨by simp[Oper.about,ho], ?_⟩;rw[Oper.semAt_plain F _ _ (by rw[ho];intro c a0;cases a0)];unfold execOp;simp only[ho,hx,hy,Instr.storeAt,Instr.sureAddr,Sem.run_bind,Sem.run_pure,Result.andThen_ok,run_storeVar_row w b t 55 old (Bw l a) hr (L9 l a) (by rw[Nm];exact hs) (Wt l a)];exact hK _ _ h'
theorem Ve {ops:Array Oper}{rest:List Oper}{op:Oper}{ac:Act}{w:World}{Q:Exit->Act->World->Prop}(hgd:op.guard=none)(x y:Operand)(ho:op.op= .store 55 x y)
  (b:Nat) (l:Bi) (a:Dq) (hx:ac.eval x= .pointer (some ⟨b,0,none⟩)) (hy:ac.eval y=Eg l a) {old:Array Value} {t:TypeId} (hr:w.heap[b]? =some (.cells old t (0,0))) (hs:old.size=18)
  (h:∀W,W.heap[b]? =some (.cells (Bw l a) t (0,0))->Ba (fun k=>k=b) w W->W.heap.size=w.heap.size->wpList Tryz.prog ops Q rest (ac.put op.dst undef) W):wpList Tryz.prog ops Q (op::rest) ac w:=by
 have h':=h (w.setRow b (Bw l a)) (setRow_heap w b old _ t _ hr) ⟨rfl,rfl,rfl,by simp[World.setRow],fun k _ hk=>setRow_other w b k _ hk⟩ (by simp[World.setRow])
 exact wpList_store_row hgd 55 x y ho b (Bw l a) hx hy t old hr (L9 l a) (by rw[Nm];exact hs) (Wt l a) h'
theorem Ku {fn:Func}{p:Tmp}(h:fn.results= #[.cell p 55])(tmps:Array Value)(w:World)(b:Nat)(l:Bi)(a:Dq){t:TypeId}{fr:Nat×Nat}(hp:tmps.getD p undef= .pointer (some ⟨b,0,none⟩))(hr:w.heap[b]? =some (.cells (Bw l a) t fr)):
  (results fn tmps).run Tryz.prog w= .ok (Eg l a) w:=by
 have a0:tmps[p]?.getD undef= .pointer (some ⟨b,0,none⟩):=by simpa using hp
 have hl:=Lg hr;simp[results,h,a0,asAddr,hl]
theorem Bs.mk {w:World}{A:Option Addr}{n c:Nat}{ps:List Part}(h:Az w A n c 1 (ps.map Part.val))(hp:Hu w ps):Bs w A n c (ps.map Part.word):=⟨ps,rfl,h,hp⟩
section words
variable {w w':World}{A:Option Addr}{n c:Nat}{xss:List (List Snd)}
theorem Bs.len (h:Bs w A n c xss):xss.length=n:=by
 obtain⟨ps,rfl,h,_⟩:=h
 have:=h.1
 simpa using this
theorem Bs.max (h:Bs w A n c xss):n<=c/\c<=9223372036854775807:=by
 obtain⟨ps,_,h,_⟩:=h;have h1:=h.2.1;have h2:=h.2.2.1;unfold maxLen at h2;omega
theorem Bs.below (h:Bs w A n c xss){B:Nat}(hb:Below B w w')(hB:w.heap.size<=B):Bs w' A n c xss:=by
 obtain⟨ps,rfl,h,hp⟩:=h;exact⟨ps,rfl,h.below hb hB,fun p hp'=>(hp p hp').below hb hB⟩
theorem Bs.at_ (h:Bs w A n c xss){k:Nat}(hk:k<n):
  ∃b off A' n' c' xs,A=some ⟨b,off,none⟩/\b<w.heap.size/\w.cell? ⟨b,off+k,none⟩=some (.slice A' n' c')/\xss[k]? =some xs/\Ak w A' n' c' xs:=by
 obtain⟨ps,rfl,h,hp⟩:=h;obtain⟨b,off,v,hA,hb,hv,hc⟩:=h.at1 hk;rw[List.getElem?_map]at hv
 cases hpk:ps[k]? with
 |none=>rw[hpk]at hv;cases hv
 |some p=>
  rw[hpk]at hv;obtain rfl:p.val=v:=by simpa using hv
  exact⟨b,off,p.1,p.2.1,p.2.2.1,p.word,hA,hb,hc,by rw[List.getElem?_map,hpk];rfl,hp p (List.mem_of_getElem? hpk)⟩
end words
theorem Bs.nil (w:World):Bs w none 0 0 []:=⟨[],rfl,Az.nil _ _,fun p hp=>by simp at hp⟩
theorem Agg (A:Option Addr)(n c:Nat)(xs:List Cb)(F:Nat)(lb:Array Value)(p:Cb->Bool)(w:World)(hx:Eb Cb.cells 18 w A n c xs)(hE:Enters Tryz.prog F)
  (hcall:∀W,Below w.heap.size w W→∀s∈xs,Calls Tryz.prog F (#[Eg s.l s.a]++lb) W fun e W'=>e= .returned (.bool (p s))/\Below W.heap.size W W'):
  Calls Tryz.prog 148 #[.slice A n c, .func (.func F) #[] lb] w fun e w'=>e= .returned (.int .i64 (Hx p xs))/\Below w.heap.size w w':=by
 have hm:n<=9223372036854775807:=by have h1:=hx.1.2.1;have h2:=hx.1.2.2.1;unfold maxLen at h2;omega
 have HX:=hI hx;clear hx;have HC:=hI hcall;clear hcall;unfold Enters at hE;go_enter Tryz.func148,Tryz.ntmps148;go_wp2
 go_loopw [5,8] (fun _ i wr=>∃k:Nat,k<=n/\i= .int .i64 k/\Hid ((xs.take k).any p=false)/\Below w.heap.size w wr) (fun _ i _=>n-(intOf i).toNat)
 case atStart=>exact⟨0,Nat.zero_le _,rfl,by simp[Hid],Below.refl _ _⟩
 case round=>
  obtain⟨k,hk,rfl,HA,hB⟩:=hrel;by_cases hlt:k<n
  ·obtain⟨s,a3⟩:∃s,xs[k]? =some s:=⟨xs[k]'(by rw[HX.out.2];exact hlt),List.getElem?_eq_getElem _⟩;obtain⟨b,off,rfl,hb,a0⟩:=(HX.out.below hB rr).at_ Cb.len (by decide) a3;have b4:=a0 0 _ rfl;have b6:=a0 1 _ rfl;have d0:=a0 2 _ rfl;have d3:=a0 3 _ rfl;have b7:=a0 4 _ rfl;have b5:=a0 5 _ rfl;have d2:=a0 6 _ rfl;have b9:=a0 7 _ rfl;have d1:=a0 8 _ rfl;have b8:=a0 9 _ rfl;have b1:=a0 10 _ rfl;have a9:=a0 11 _ rfl;have b2:=a0 12 _ rfl;have a8:=a0 13 _ rfl;have a5:=a0 14 _ rfl;have a6:=a0 15 _ rfl;have b0:=a0 16 _ rfl;have a7:=a0 17 _ rfl;simp only[Nat.add_zero,←Nat.add_assoc]at b4 b6 d0 d3 b7 b5 d2 b9 d1 b8 b1 a9 b2 a8 a5 a6 b0 a7;clear a0;have a1:=hI (HC.out wr hB s (List.mem_of_getElem? a3));have HK:=hI a3;clear a3;by_cases hp:p s=true
   ·have hr:=Jm p xs k s HK.out HA.out hp;have HR:=hI hr;clear hr;have HP:=hI hp;clear hp;go_wp2_with fail;refine a1.out.mono ?_;rintro e w1 ⟨rfl,a2⟩;rw[HP.out];have a4:=hB.trans (a2.mono hB.size);clear a2;go_wp2;go_ret;exact⟨by rw[HR.out];rfl,a4⟩
   ·have b3:p s=false:=by simpa using hp
    have HP:=hI b3;clear hp b3;go_wp2_with fail;refine a1.out.mono ?_;rintro e w1 ⟨rfl,a2⟩;rw[HP.out];have a4:=hB.trans (a2.mono hB.size);clear a2;go_wp2
    go_roundw
    case rel=>exact⟨k+1,by omega,by go_num,by rw[Bd xs k _ HK.out,List.any_append,HA.out];simp[HP.out,Hid],a4⟩
    case measure=>simp[intOf];omega
  ·obtain rfl:k=n:=by omega
   have hr:Hx p xs= -1:=by
    have:=HA.out
    rw[List.take_of_length_le (by rw[HX.out.2];exact rr)]at this;exact Jl p xs this
   have HR:=hI hr;clear hr;go_wp2;go_ret;exact⟨by rw[HR.out];rfl,hB⟩
theorem Agh (A:Option Addr)(n c:Nat)(xs:List Cb)(F:Nat)(lb:Array Value)(p:Cb->Bool)(w:World)(hx:Eb Cb.cells 18 w A n c xs)(hE:Enters Tryz.prog F)
  (hcall:∀W,Below w.heap.size w W→∀s∈xs,Calls Tryz.prog F (#[Eg s.l s.a]++lb) W fun e W'=>e= .returned (.bool (p s))/\Below W.heap.size W W'):
  Calls Tryz.prog 120 #[.slice A n c, .func (.func F) #[] lb] w fun e w'=>e= .returned (.bool (xs.any p))/\Below w.heap.size w w':=by
 have a0:=Agg A n c xs F lb p w hx hE hcall;have H:=hI (L8 p xs);clear hx hcall hE;go_enter Tryz.func120,Tryz.ntmps120;go_wp2_with(go_at_call 148;refine a0.mono ?_;rintro e w1 ⟨rfl,a1⟩);go_ret;refine⟨?_,a1⟩;show Ending.returned (.bool (decide (0<=Hx p xs)))=_;rw[H.out]
def C8 (ls:List Bi):Int:=if 64<ls.length then 12 else if ls.any (fun l=>Cc l !=0)then 17 else 0
def Lc (wss:List (List Snd)):Int:=((wss.map B4).find? (· !=0)).getD 0
def Hf (ls:List Bi)(wss:List (List Snd)):Int:=if C8 ls≠0 then C8 ls else if 256<wss.length then 12 else Lc wss
abbrev Au (xs:List Cb):List Bi:=xs.map Cb.l
theorem Adp (l:Bi)(a:Dq)(w:World)(hl:Df w l a):
  Calls Tryz.prog 121 #[Eg l a] w fun e w'=>e= .returned (.bool (Cc l !=0))/\Below w.heap.size w w':=by
 have HL:=hI hl;clear hl;obtain⟨Wb,a2,a1,a5,a0,a4⟩:=D6 w l a;go_enter Tryz.func121,Tryz.ntmps121;go_wp2_with(refine Eo rfl (.tmp 1) rfl w.heap.size l a rfl a1 ?_);refine(Yq l a Wb (HL.out.below a0 rr)).mono ?_;rintro e w1 ⟨rfl,a3⟩;clear a2 a1;go_wp2;go_ret;exact⟨rfl,a0.trans (a3.mono a0.size)⟩
theorem Ya (A:Option Addr)(n c:Nat)(xs:List Cb)(w:World)(hx:Cf w A n c xs):
  Calls Tryz.prog 82 #[.slice A n c] w fun e w'=>e= .returned (.int .i64 (C8 (Au xs)))/\Below w.heap.size w w':=by
 have hm:=hx.max;have HX:=hI hx;clear hx;have a0:=Agh A n c xs 121 #[] (fun x=>Cc x.l !=0) w HX.out.1 (enters_of Tryz.func121 (by kernel_rfl) rfl) (fun W hB s hs=>Adp s.l s.a W ((HX.out.2 s hs).below hB rr));have HA:=hI a0;clear a0;by_cases h64:64<n
 ·have hr:C8 (Au xs)=12:=by unfold C8;rw[if_pos (by rw[List.length_map,HX.out.len];exact h64)]
  have HR:=hI hr;clear hr;go_enter Tryz.func82,Tryz.ntmps82;go_wp2;go_ret;exact⟨by rw[HR.out];rfl,Below.refl _ _⟩
 ·have hr:C8 (Au xs)=if xs.any (fun x=>Cc x.l !=0)then 17 else 0:=by
   unfold C8;rw[if_neg (by rw[List.length_map,HX.out.len];exact h64),List.any_map];rfl
  obtain⟨b,hb⟩:∃b,b=xs.any (fun x=>Cc x.l !=0):=⟨_,rfl⟩;rw[←hb]at hr;have HB:=hI hb;clear hb;have HR:=hI hr;clear hr;go_enter Tryz.func82,Tryz.ntmps82;go_wp2_with(go_at_call 120;refine HA.out.mono ?_;rintro e w1 ⟨rfl,a1⟩;rw[←HB.out])
  all_goals
   go_ret;exact⟨by rw[HR.out];simp[*];try rfl,a1⟩
theorem Rh {wss:List (List Snd)}{k:Nat}{xs:List Snd}(h:wss[k]? =some xs)(h0:(wss.take k).all (fun x=>B4 x==0)=true)(h1:B4 xs≠0):Lc wss=B4 xs:=by
 unfold Lc;rw[←List.take_append_drop k wss];have hk:=(List.getElem?_eq_some_iff.1 h);obtain⟨a1,a0⟩:=hk;rw[List.drop_eq_getElem_cons a1,a0,List.map_append,List.find?_append]
 have:((wss.take k).map B4).find? (· !=0)=none:=by
  rw[List.find?_eq_none];intro x hx;obtain⟨y,hy,rfl⟩:=List.mem_map.1 hx
  have:=List.all_eq_true.1 h0 y hy
  simpa using this
 rw[this,List.map_cons,List.find?_cons];have h2:(B4 xs !=0)=true:=by simpa using h1
 rw[h2];rfl
theorem Yb {wss:List (List Snd)}(h0:wss.all (fun x=>B4 x==0)=true):Lc wss=0:=by
 unfold Lc
 have:(wss.map B4).find? (· !=0)=none:=by
  rw[List.find?_eq_none];intro x hx;obtain⟨y,hy,rfl⟩:=List.mem_map.1 hx
  have:=List.all_eq_true.1 h0 y hy
  simpa using this
 rw[this];rfl
theorem Afu (A:Option Addr)(n c:Nat)(xs:List Cb)(A':Option Addr)(n' c':Nat)(wss:List (List Snd))(w:World)(hx:Cf w A n c xs)(hw:Bs w A' n' c' wss):
  Calls Tryz.prog 65 #[.slice A n c, .slice A' n' c'] w fun e w'=>e= .returned (.int .i64 (Hf (Au xs) wss))/\Below w.heap.size w w':=by
 have hm:=hx.max;have b4:=hw.max;have HX:=hI hx;clear hx;have HW:=hI hw;clear hw;have a0:=Ya A n c xs w HX.out;have HC:=hI a0;clear a0;obtain⟨er,a8⟩:∃er,er=C8 (Au xs):=⟨_,rfl⟩;have a4:=hI a8;clear a8;by_cases h0:er=0
 case neg=>
  have h1:(er !=0)=true:=by simpa using h0
  have hr:Hf (Au xs) wss=er:=by unfold Hf;rw[←a4.out,if_pos h0]
  have HR:=hI hr;clear hr h0;go_enter Tryz.func65,Tryz.ntmps65;go_wp2_with(go_at_call 82;refine HC.out.mono ?_;rintro e w1 ⟨rfl,a2⟩;rw[←a4.out]);go_ret;exact⟨by rw[HR.out];rfl,a2⟩
 have h1:(er !=0)=false:=by simpa using h0
 have hr:Hf (Au xs) wss=if 256<wss.length then 12 else Lc wss:=by unfold Hf;rw[←a4.out,if_neg (by simpa using h0)]
 rw[HW.out.len]at hr;have HR:=hI hr;clear hr h0;by_cases h256:256<n'
 ·go_enter Tryz.func65,Tryz.ntmps65;go_wp2_with(go_at_call 82;refine HC.out.mono ?_;rintro e w1 ⟨rfl,a2⟩;rw[←a4.out]);go_ret;exact⟨by rw[HR.out,if_pos h256];rfl,a2⟩
 go_enter Tryz.func65,Tryz.ntmps65;go_wp2_with(go_at_call 82;refine HC.out.mono ?_;rintro e w1 ⟨rfl,a2⟩;rw[←a4.out]);have b3:=hI a2;clear a2
 go_loopw [8,19] (fun _ i wr=>∃k:Nat,k<=n'/\i= .int .i64 k/\Hid ((wss.take k).all (fun x=>B4 x==0)=true)/\Below w.heap.size w wr) (fun _ i _=>n'-(intOf i).toNat)
 case atStart=>exact⟨0,Nat.zero_le _,rfl,by simp[Hid],b3.out⟩
 case round=>
  obtain⟨k,hk,rfl,a1,hB⟩:=hrel;by_cases hlt:k<n'
  ·obtain⟨b,off,A1,n1,c1,ws,rfl,hb,hc,a9,a6⟩:=(HW.out.below hB rr).at_ hlt;have b1:=hI a9;clear a9;obtain⟨e1,b0⟩:∃e1,e1=B4 ws:=⟨_,rfl⟩;have a3:=hI b0;clear b0;have a7:=hI (Ty A1 n1 c1 ws wr a6);clear a6;by_cases hz:e1=0
   ·have b2:(e1 !=0)=false:=by simpa using hz
    have HZ:=hI hz;clear hz;go_wp2_with(go_at_call 46;refine a7.out.mono ?_;rintro e w2 ⟨rfl,a5⟩;rw[←a3.out])
    go_roundw
    case rel=>exact⟨k+1,by omega,by go_num,by show List.all _ _=true;rw[Bd wss k ws b1.out,List.all_append,a1.out];simp[←a3.out,HZ.out],hB.trans (a5.mono hB.size)⟩
    case measure=>simp[intOf];omega
   ·have b2:(e1 !=0)=true:=by simpa using hz
    have hf:Lc wss=e1:=by rw[a3.out];exact Rh b1.out a1.out (by rw[←a3.out];exact hz)
    have HF:=hI hf;clear hf hz;go_wp2_with(go_at_call 46;refine a7.out.mono ?_;rintro e w2 ⟨rfl,a5⟩;rw[←a3.out]);go_ret;exact⟨by rw[HR.out,if_neg h256,HF.out];rfl,hB.trans (a5.mono hB.size)⟩
  ·obtain rfl:k=n':=by omega
   have hf:Lc wss=0:=Yb (by have:=a1.out;rwa[List.take_of_length_le (by rw[HW.out.len];exact rr)]at this);have HF:=hI hf;clear hf;go_wp2;go_ret;exact⟨by rw[HR.out,if_neg h256,HF.out];rfl,hB⟩
end Go.Proofs.YtaglfmlgbcmakaaGreatDoor
namespace Go.Proofs.YtaglfmlgbcmakaaGreatDoor
open Go.RowKit Go.Shelf
attribute [local go_sem] Oper.semAt_some
def Bq:List Bi->List Snd->Int×List (List Snd)
 |[],ws=>(0,[ws])
 |l::ls,ws=>if(B3 l ws).1≠0 then((B3 l ws).1,[ws])else((Bq ls (B3 l ws).2).1,ws::(Bq ls (B3 l ws).2).2)
def Fg (ls:List Bi)(ws:List Snd)(k:Nat)(x:List Snd):Prop:=
 Bq ls ws=((Bq (ls.drop k) x).1,(Bq ls ws).2.take k++(Bq (ls.drop k) x).2)/\k<(Bq ls ws).2.length
theorem Hh (ls:List Bi)(ws:List Snd):∃r,(Bq ls ws).2=ws::r:=by
 cases ls with
 |nil=>exact⟨[],rfl⟩
 |cons l ls=>
  unfold Bq;split
  ·exact⟨[],rfl⟩
  ·exact⟨_,rfl⟩
theorem Fg.start (ls:List Bi)(ws:List Snd):Fg ls ws 0 ws:=by
 refine⟨by simp, ?_⟩;obtain⟨r,hr⟩:=Hh ls ws;rw[hr];simp
theorem Fg.get {ls:List Bi}{ws x:List Snd}{k:Nat}(h:Fg ls ws k x):(Bq ls ws).2[k]? =some x:=by
 obtain⟨r,hr⟩:=Hh (ls.drop k) x;have h1:=congrArg Prod.snd h.1;rw[hr]at h1;dsimp only at h1;rw[h1,List.getElem?_append_right (by rw[List.length_take];omega),List.length_take,Nat.min_eq_left (by have:=h.2;omega),Nat.sub_self];rfl
theorem Fg.step {ls:List Bi}{ws x:List Snd}{k:Nat}{l:Bi}(h:Fg ls ws k x)(hl:ls[k]? =some l)(h0:(B3 l x).1=0):Fg ls ws (k+1) (B3 l x).2:=by
 obtain⟨hk,a0⟩:=List.getElem?_eq_some_iff.1 hl;have hd:ls.drop k=l::ls.drop (k+1):=by rw[List.drop_eq_getElem_cons hk,a0]
 have hg:=h.get;obtain⟨h1,h2⟩:=h;rw[hd]at h1
 have e:Bq (l::ls.drop (k+1)) x=((Bq (ls.drop (k+1)) (B3 l x).2).1,x::(Bq (ls.drop (k+1)) (B3 l x).2).2):=by
  rw[Bq,if_neg (by rw[h0];simp)]
 rw[e]at h1;have e2:(Bq ls ws).2.take (k+1)=(Bq ls ws).2.take k++[x]:=Bd _ _ _ hg
 have h3:Bq ls ws=((Bq (ls.drop (k+1)) (B3 l x).2).1,(Bq ls ws).2.take (k+1)++(Bq (ls.drop (k+1)) (B3 l x).2).2):=by
  rw[e2,List.append_assoc];exact h1
 refine⟨h3, ?_⟩;obtain⟨r,hr⟩:=Hh (ls.drop (k+1)) (B3 l x).2;have h4:=congrArg (fun y=>y.2.length) h3;dsimp only at h4;rw[hr,List.length_append,List.length_take]at h4;simp only[List.length_cons]at h4;omega
theorem Fg.fail {ls:List Bi}{ws x:List Snd}{k:Nat}{l:Bi}(h:Fg ls ws k x)(hl:ls[k]? =some l)(h0:(B3 l x).1≠0):(Bq ls ws).1=(B3 l x).1/\(Bq ls ws).2.length=k+1:=by
 obtain⟨hk,a0⟩:=List.getElem?_eq_some_iff.1 hl;have hd:ls.drop k=l::ls.drop (k+1):=by rw[List.drop_eq_getElem_cons hk,a0]
 obtain⟨h1,h2⟩:=h;rw[hd]at h1;have e:Bq (l::ls.drop (k+1)) x=((B3 l x).1,[x]):=by rw[Bq,if_pos h0]
 rw[e]at h1;refine⟨congrArg Prod.fst h1, ?_⟩;have h4:=congrArg (fun y=>y.2.length) h1;dsimp only at h4;rw[List.length_append,List.length_take]at h4;simp only[List.length_cons,List.length_nil]at h4;omega
theorem Fg.fin {ls:List Bi}{ws x:List Snd}(h:Fg ls ws ls.length x):(Bq ls ws).1=0/\(Bq ls ws).2.length=ls.length+1:=by
 obtain⟨h1,h2⟩:=h;rw[List.drop_length]at h1;refine⟨congrArg Prod.fst h1, ?_⟩;have h4:=congrArg (fun y=>y.2.length) h1;dsimp only[Bq]at h4;rw[List.length_append,List.length_take]at h4;simp only[List.length_cons,List.length_nil]at h4;omega
def Af5 (w:World)(A:Option Addr)(n c:Nat)(A':Option Addr)(n' c':Nat)(e:Ending)(w':World):Prop:=
 ∃bw bl:Nat,e= .returned (.func (.func 172) #[] #[.pointer (some ⟨bw,0,none⟩), .pointer (some ⟨bl,0,none⟩)])∧
  w'.heap[bl]? =some (.cells #[.slice A n c] 26 (0,0))/\w'.heap[bw]? =some (.cells #[.slice A' n' c'] 28 (0,0))/\w.heap.size<=bw/\w.heap.size<=bl/\Below w.heap.size w w'
theorem Ajx (A:Option Addr)(n c:Nat)(A':Option Addr)(n' c':Nat)(w:World):Calls Tryz.prog 145 #[.slice A n c, .slice A' n' c'] w (Af5 w A n c A' n' c'):=by
 go_enter Tryz.func145,Tryz.ntmps145;go_wp2;go_ret;exact⟨w.heap.size+1,w.heap.size,rfl,hpt,hpt,by omega,rr,bel⟩
structure Af6 (lr bw bl:Nat)(A:Option Addr)(n c:Nat)(xs:List Cb)(Aw:Option Addr)(nw cw:Nat)(ws:List Snd)(B:Nat)(J:Nat->(Nat->Prop)->World->Prop):Prop where
 hB:∀i T W,J i T W->B<=W.heap.size
 hlt:∀i T W,J i T W→∀k,T k->k<W.heap.size
 hst:∀i T W W',J i T W->Below W.heap.size W W'->J i T W'
 hrd:∀i T W,J i T W->W.heap[bl]? =some (.cells #[.slice A n c] 26 (0,0))/\W.heap[bw]? =some (.cells #[.slice Aw nw cw] 28 (0,0))/\Cf W A n c xs/\Ak W Aw nw cw ws/\Cw W
 hy:∀i T W A' n' c' x,(Bq (Au xs) ws).2[i]? =some x->Ak W A' n' c' x->(∀ad,A'=some ad->B<=ad.block∧¬T ad.block)->J i T W->YieldAt Fence.wide 0 Tryz.prog lr #[.int .i64 i, .slice A' n' c'] W (fun e W''=>
  e= .returned (.bool true)∧∃T',J (i+1) T' W''/\Ba T W W''∧∀k,T' k->T k\/W.heap.size<=k)
def Af7 (r:Int×List (List Snd))(J:Nat->(Nat->Prop)->World->Prop)(e:Ending)(W':World):Prop:=
 (∃T,J r.2.length T W')/\((r.1=0∧∃v,e= .returned v)\/(r.1≠0/\e= .panicked [{v:= .iface 196 (.int .i64 r.1),recovered:=false}]))
theorem Yh (m lr bw bl:Nat)(hm:1<=m)(A:Option Addr)(n c:Nat)(xs:List Cb)(Aw:Option Addr)(nw cw:Nat)(ws:List Snd)(W:World)(J:Nat->(Nat->Prop)->World->Prop)(T0:Nat->Prop)(B:Nat)
  (H:Af6 lr bw bl A n c xs Aw nw cw ws B J) (h0:J 0 T0 W) (hnw:nw<=4096):
  CallsIn Fence.wide m Tryz.prog 172 #[.func (.yield lr) #[] #[], .pointer (some ⟨bw,0,none⟩), .pointer (some ⟨bl,0,none⟩)] W (Af7 (Bq (Au xs) ws) J):=by
 have d7:=H.hlt _ _ _ h0;have i4:=H.hB _ _ _ h0;obtain⟨r1,r2,r3,r4,r5⟩:=H.hrd _ _ _ h0;have e2:=cell_of_one r2;have HU:=hI H;clear H;have H0:=hI h0;clear h0;have i3:=r3.max;have b4:=r3.len;have d2:=hI b4;clear b4;have f0:=Adf Aw nw cw ws W r4 hnw;have g8:=hI f0;clear f0;clear r1 r2 r3 r4 r5;refine callsIn_of_wp Tryz.func172 rfl trivial ?_;simp only[Tryz.ntmps172,List.size_toArray,List.length_cons,List.length_nil,Nat.reduceAdd,Nat.reduceSub,Array.replicate_succ,Array.replicate_zero,List.push_toArray,List.append_toArray,List.nil_append,List.cons_append];gi_wp2;refine⟨trivial, ?_⟩;refine(callsIn_wide.2 g8.out).mono ?_;rintro e w1 ⟨A1,n1,c1,rfl,b1,b2,a6⟩;have f5:=b2.size;have f6:=hI (HU.out.hst _ _ _ _ H0.out b2);obtain⟨fn,tmps,assign,body,a3,hR⟩:=Kz (m':=m-1) (HU.out.hy 0 T0 _ A1 n1 c1 ws (Fg.start _ _).get b1 (fun ad had=>⟨by have:=a6 ad had;omega,fun hT=>by have:=a6 ad had;have:=d7 _ hT;omega⟩) f6.out);rw[show((0:Nat):Int)=0 from rfl]at a3;have HR:=hI hR;clear hR;have g6:=hI b1;clear b1;have i0:=hI a6;clear a6;clear b2 e2;gi_wp2;refine HR.out.mono ?_;rintro e W2 ⟨rfl,T2,a9,d5,f8⟩;have f7:=hI (g6.out.keep d5 (fun hn ad had hT=>by have:=i0.out ad had;have:=d7 _ hT;omega));have g0:=hI a9;obtain⟨q1,q2,q3,q4,q5⟩:=HU.out.hrd _ _ _ a9;have e3:=cell_of_one q1;clear a3 d5 f8 a9 q1 q2 q3 q4 q5;gi_wp2;clear e3
 gi_loopw [4,17] (fun wv i wr=>∃(k:Nat) (x:List Snd) (A1:Option Addr) (n1 c1:Nat) (T:Nat->Prop),i= .int .i64 k/\k<=n/\wv= .slice A1 n1 c1/\Hid (Ak wr A1 n1 c1 x)/\Hid (J (k+1) T wr)/\Hid (Fg (Au xs) ws k x))
  (fun _ i _=>n-(intOf i).toNat)
 case atStart=>exact⟨0,ws,A1,n1,c1,T2,rfl,Nat.zero_le _,rfl,f7,g0,Fg.start _ _⟩
 case round=>
  obtain⟨k,x,Ax,nx,cx,T,rfl,hk,rfl,f4,HJ,a8⟩:=hrel;obtain⟨q1,q2,q3,q4,q5⟩:=HU.out.hrd _ _ _ HJ.out;by_cases hlt:k<n
  ·obtain⟨s,hs⟩:=q3.get hlt;obtain⟨b,off,rfl,i2,d4⟩:=q3.at_ hs;have d0:(Au xs)[k]? =some s.l:=by rw[List.getElem?_map,hs];rfl
   have d6:=q3.2 s (List.mem_of_getElem? hs);have b8:=hI d0;clear d0;have f3:=hI d4;clear d4;have g7:=hI d6;clear d6 hs;have g4:=hI q5;clear q1 q2 q3 q4 q5
   gi_wp2_with (first|(refine Yr rfl (.tmp 20) rfl b (off+k*18) s rfl f3.out ?_)|(refine Ys rfl (.tmp 6) (.tmp 21) rfl wr.heap.size s.l s.a rfl rfl (t:=55) (Am rfl) rfl ?_;intro W3 g1 g2 g3)|(refine Ew rfl (.tmp 6) rfl wr.heap.size s.l s.a rfl (by assumption) ?_))
   have f2:Below wr.heap.size wr W3:=((Below.refl wr.heap.size wr).alloc rr _).trans (g2.to_below (B:=wr.heap.size) (fun k hk=>by subst hk;exact rr) (by simp));have G1:=hI g1;clear g1 g2;have g3':=Nat.le_of_eq g3;have a2:=hI f2;clear f2 g3;refine⟨trivial, ?_⟩;refine(callsIn_wide.2 (Ajl s.l s.a Ax nx cx x W3 (g7.out.below a2.out rr) (f4.out.below a2.out rr) (g4.out.below a2.out rr))).mono ?_;rintro e w4 ⟨A4,n4,c4,rfl,b6,d9,b0⟩;have d3:Below wr.heap.size wr w4:=a2.out.trans (d9.mono a2.out.size);have f1:=hI (HU.out.hst _ _ _ _ HJ.out d3);have a5:∀ad,A4=some ad->B<=ad.block∧¬T ad.block:=fun ad had=>⟨by have h1:=b0 ad had;have h2:=HU.out.hB _ _ _ HJ.out;have h3:=a2.out.size;omega,fun hT=>by have h1:=b0 ad had;have h2:=HU.out.hlt _ _ _ HJ.out _ hT;have h3:=a2.out.size;omega⟩
   have d8:=hI b6;clear b6;have d1:=hI a5;clear a5 b0 d9 d3;obtain⟨er,a7⟩:∃er,er=(B3 s.l x).1:=⟨_,rfl⟩;rw[←a7];have b3:=hI a7;clear a7;by_cases hz:er=0
   case neg=>
    have f9:(er !=0)=true:=by simpa using hz
    have a0:=a8.out.fail b8.out (by rw[←b3.out];exact hz);rw[←b3.out]at a0;have a1:=hI a0;have HZ:=hI hz;clear a0 hz;gi_wp2;refine⟨rfl,⟨T,by rw[a1.out.2];exact f1.out⟩, .inr ⟨by rw[a1.out.1];exact HZ.out,by rw[a1.out.1]⟩⟩
   have f9:(er !=0)=false:=by simpa using hz
   have a4:=a8.out.step b8.out (by rw[←b3.out];exact hz);have b5:=hI a4;clear a4 hz;obtain⟨fn',tmps',assign',body',a3,hR⟩:=Kz (m':=m-1) (HU.out.hy (k+1) T _ A4 n4 c4 (B3 s.l x).2 b5.out.get d8.out d1.out f1.out);rw[show((k+1:Nat):Int)=(k:Int)+1 by omega]at a3;have HR:=hI hR;clear hR;gi_wp2;refine HR.out.mono ?_;rintro e W5 ⟨rfl,T5,b7,b9,g5⟩;have i1:=hI (d8.out.keep b9 (fun hn ad had hT=>(d1.out ad had).2 hT));have g9:=hI b7;clear a3 b9 g5 b7;gi_wp2
   go_roundw
   case rel=>exact⟨k+1,(B3 s.l x).2,A4,n4,c4,T5,by go_num,by omega,rfl,i1,g9,b5⟩
   case measure=>simp[intOf];omega
  ·obtain rfl:k=n:=by omega
   have a0:=a8.out;rw[show k=(Au xs).length by rw[List.length_map,d2.out]]at a0;have a1:=hI a0.fin;clear a0 q1 q2 q3 q4 q5;gi_wp2;refine bodyPost_ret (v:= .tuple #[]) (by simp[results,Tryz.results172,go_sem]) rfl ⟨⟨T, ?_⟩, .inl ⟨a1.out.1,_,rfl⟩⟩;rw[a1.out.2,List.length_map,d2.out];exact HJ.out
end Go.Proofs.YtaglfmlgbcmakaaGreatDoor
