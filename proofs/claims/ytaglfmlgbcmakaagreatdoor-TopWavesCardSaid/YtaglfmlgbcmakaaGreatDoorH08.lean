/-
  TopWaves, in plain words: waves that are put in one by one, each behind those that do not arrive later, stand in the order of a line.
  TopWaves: the laws of waves that are put in one by one; appends where the order is drawn.
-/
import Derived.Test.YtaglfmlgbcmakaaGreatDoorH07
import Derived.Test.YtaglfmlgbcmakaaGreatDoorG37
set_option linter.all false
set_option maxRecDepth 100000
set_option maxHeartbeats 4000000
namespace Go.Proofs.YtaglfmlgbcmakaaGreatDoor
open Go.RowKit
structure Pb (t:Nat->Option Nat)(now:Int)(k:Nat)(S:List Nat):Prop where
 srt:S.Pairwise (fun a b=>Cf t a b=true)
 mem:∀i,i∈S↔i<k/\En now (t i)=true
theorem Pb.nil (t:Nat->Option Nat)(now:Int):Pb t now 0 []:=⟨List.Pairwise.nil,fun i=>by simp⟩
theorem Pb.skip {t:Nat->Option Nat}{now:Int}{k:Nat}{S:List Nat}(h:Pb t now k S)(hk:En now (t k)=false):Pb t now (k+1) S:=
 ⟨h.srt,fun i=>by
  rw[h.mem];constructor
  ·rintro⟨h1,h2⟩;exact⟨by omega,h2⟩
  ·rintro⟨h1,h2⟩;rcases Nat.lt_or_ge i k with h3|h3
   ·exact⟨h3,h2⟩
   ·obtain rfl:i=k:=by omega
    rw[hk]at h2;cases h2⟩
def Dw (t:Nat->Option Nat)(i:Nat):Nat:=(t i).getD 0
theorem Adu {t:Nat->Option Nat}{i j:Nat}(h:Cf t i j=true){x y:Nat}(hx:t i=some x)(hy:t j=some y):x<=y:=by
 unfold Cf at h;rw[hx,hy]at h;simp at h;omega
theorem Pb.put {t:Nat->Option Nat}{now:Int}{k p s:Nat}{S:List Nat}(h:Pb t now k S)(hk:t k=some s)(hs:(s:Int)<=now)(hp:p<=S.length)
  (hafter:∀(j:Nat) (i:Nat),p<=j->S[j]? =some i->s<Dw t i) (a1:p=0∨∃i,S[p-1]? =some i/\Dw t i<=s):Pb t now (k+1) (S.take p++k::S.drop p):=by
 have a0:∀i∈S,i<k∧∃x,t i=some x:=fun i hi=>by
  obtain⟨h1,h2⟩:=(h.mem i).1 hi;refine⟨h1, ?_⟩
  cases hx:t i with
  |none=>rw[hx]at h2;cases h2
  |some x=>exact⟨x,rfl⟩
 have a8:∀i∈S.take p,Dw t i<=s:=by
  intro i hi;rcases a1 with h0|⟨q,hq,a4⟩
  ·subst h0;simp at hi
  ·obtain⟨j,hj⟩:=List.getElem?_of_mem hi;rw[List.getElem?_take]at hj;split at hj
   case isFalse=>cases hj
   case isTrue hjp=>
    rcases Nat.lt_or_ge j (p-1)with h1|h1
    ·obtain⟨a7,e1⟩:=List.getElem?_eq_some_iff.1 hj;obtain⟨a6,e2⟩:=List.getElem?_eq_some_iff.1 hq;have h3:=List.pairwise_iff_getElem.1 h.srt j (p-1) a7 a6 h1;rw[e1,e2]at h3;obtain⟨_,x,hx⟩:=a0 i (List.mem_of_getElem? hj);obtain⟨_,y,hy⟩:=a0 q (List.mem_of_getElem? hq)
     have:=Adu h3 hx hy
     unfold Dw at*;rw[hx];rw[hy]at a4;simp only[Option.getD_some]at*;omega
    ·obtain rfl:j=p-1:=by omega
     rw[hj]at hq;obtain rfl:i=q:=Option.some.inj hq;exact a4
 have a3:∀i∈S.drop p,s<Dw t i:=by
  intro i hi;obtain⟨j,hj⟩:=List.getElem?_of_mem hi;rw[List.getElem?_drop]at hj;exact hafter (p+j) i (by omega) hj
 refine⟨?_,fun i=> ?_⟩
 ·rw[List.pairwise_append,List.pairwise_cons];refine⟨h.srt.sublist (List.take_sublist _ _),⟨fun i hi=> ?_,h.srt.sublist (List.drop_sublist _ _)⟩,fun i hi j hj=> ?_⟩
  ·obtain⟨_,x,hx⟩:=a0 i (List.mem_of_mem_drop hi)
   have:=a3 i hi
   unfold Dw at this;rw[hx]at this;unfold Cf;rw[hk,hx];simp only[Option.getD_some]at this;simp;omega
  ·have a5:=List.mem_of_mem_take hi;obtain⟨h1,x,hx⟩:=a0 i a5;have a2:=a8 i hi;unfold Dw at a2;rw[hx]at a2;simp only[Option.getD_some]at a2;rcases List.mem_cons.1 hj with e|hj
   ·subst e;unfold Cf;rw[hk,hx];simp;omega
   ·obtain⟨_,y,hy⟩:=a0 j (List.mem_of_mem_drop hj)
    have:=a3 j hj
    unfold Dw at this;rw[hy]at this;simp only[Option.getD_some]at this;unfold Cf;rw[hx,hy];simp;omega
 ·rw[List.mem_append,List.mem_cons];constructor
  ·rintro(hi|hi|hi)
   ·obtain⟨h1,h2⟩:=(h.mem i).1 (List.mem_of_mem_take hi);exact⟨by omega,h2⟩
   ·subst hi;exact⟨by omega,by rw[hk];simpa[En]using hs⟩
   ·obtain⟨h1,h2⟩:=(h.mem i).1 (List.mem_of_mem_drop hi);exact⟨by omega,h2⟩
  ·rintro⟨h1,h2⟩;rcases Nat.lt_or_ge i k with h3|h3
   ·have:=(h.mem i).2 ⟨h3,h2⟩
    rw[←List.take_append_drop p S,List.mem_append]at this;rcases this with h4|h4
    ·exact .inl h4
    ·exact .inr (.inr h4)
   ·exact .inr (.inl (by omega))
theorem Pb.line {n:Nat}{rs:List Bb}{ws:List Cv}{a:Nat}{now:Int}{S:List Nat}(h:Pb (tAt n rs ws a) now ws.length S):S=Jd n rs ws a now:=
 Gp (B8 _) _ _ h.srt h.mem
end Go.Proofs.YtaglfmlgbcmakaaGreatDoor
namespace Go.Proofs.YtaglfmlgbcmakaaGreatDoor
open Go.RowKit Go.Shelf
def zR:Bj:=⟨vD,⟨none,0,none,0,none,0,none,0⟩⟩
theorem Al9 (laws:List Bj)(waves:List Bu)(h:∀y∈waves,0<=y.d.law/\y.d.law<(laws.length:Int)):∃g:Nat->Bj,∀(i:Nat) (y:Bu),waves[i]? =some y->laws[y.d.law.toNat]? =some (g i):=by
 refine⟨fun i=>((waves[i]?).bind fun y=>laws[y.d.law.toNat]?).getD zR,fun i y hy=> ?_⟩
 have h1:=h y (List.mem_of_getElem? hy);have h2:laws[y.d.law.toNat]? =some (laws[y.d.law.toNat]'(by omega)):=List.getElem?_eq_getElem _;simp only[hy,Option.bind_some];rw[h2];rfl
theorem Z2 {laws:List Bj}{waves:List Bu}{g:Nat->Bj}(hg:∀(i:Nat) (y:Bu),waves[i]? =some y->laws[y.d.law.toNat]? =some (g i)):∀S:List Nat,(∀i∈S,i<waves.length)->Ah (S.map g)=Df (Ah laws) (S.map (Li (Ae waves)))
 |[],_=>rfl
 |i::S,h=>by
  have ih:=Z2 hg S fun j hj=>h j (List.mem_cons_of_mem _ hj)
  have hi:=h i (List.mem_cons_self ..);have hy:waves[i]? =some (waves[i]'hi):=List.getElem?_eq_getElem _;have h1:=hg i _ hy
  have h2:(Ah laws)[(Li (Ae waves) i).toNat]? =some (g i).l:=by
   unfold Li;rw[Pa hy,Ah,List.getElem?_map];simp only[Option.map_some,Option.getD_some];rw[h1];rfl
  unfold Df at ih ⊢;rw[List.map_cons,List.map_cons,List.filterMap_cons,h2,←ih];rfl
theorem Mn {o:Oper}{a:Act}{w:World}{K:Act->World->Prop}{Q:Exit->Act->World->Prop}(p:Operand)(ho:o.op= .buildSlice 26 1 #[(0,p)])(x:Bj)(hp:a.eval p=Ez x.l x.a)
  (h:K (a.put o.dst (.slice (some ⟨w.heap.size,0,none⟩) 1 1)) (w.alloc (.cells (x.cells).toArray 55))):o.wp Tryz.prog a w K Q:=by
 have hr:=Rp x w;unfold Oper.wp execOp;simp only[ho,List.map_toArray,List.map_cons,List.map_nil,hp,hr,Sem.run_bind,Sem.run_pure,Result.andThen_ok];exact h
theorem G9 {o:Oper}{a:Act}{w:World}{K:Act->World->Prop}{Q:Exit->Act->World->Prop}(s x:Operand)
  (ho:o.op= .call {callee:= .builtin .append,args:= #[s,x],argTypes:= #[26,26]})
  (base:Nat) (v:Value) (n:Nat) (xs:List Bj) (hs:a.eval s=v) (hown:w.ownsRow base 55 18 v n (xs.flatMap Bj.cells))
  (A:Option Addr) (m c:Nat) (ys:List Bj) (hx:a.eval x= .slice A m c) (hr:Cr Bj.cells 18 w A m c ys) (hl:n+m<=4096) (hbase:base<=w.heap.size)
  (h:∀v' w',w'.ownsRow base 55 18 v' (n+m) ((xs++ys).flatMap Bj.cells)->w.grownBy w' v.ownBlock->(v'= .slice none 0 0↔v= .slice none 0 0/\m=0)->K (a.put o.dst v') w'):o.wp Tryz.prog a w K Q:=by
 obtain⟨i0,hi,a1,a2,a0⟩:=info_parts Xo
 refine Gy w s x 26 ho base 55 i0 _ 18 200 Tryz.underlying26 hi a1 a2 a0 Uj (by decide) v n _ hs hown A m c _ hx hr.1
  (Xp ys) (by unfold maxLen;omega) (by omega) hbase ?_
 rw[←List.flatMap_append];exact h
theorem Ha {o:Oper}{a:Act}{w:World}{K:Act->World->Prop}{Q:Exit->Act->World->Prop}(s x:Operand)
  (ho:o.op= .call {callee:= .builtin .append,args:= #[s,x],argTypes:= #[42,42]})
  (base:Nat) (v:Value) (n:Nat) (xs:List Int) (hs:a.eval s=v) (hown:w.ownsRow base 2 1 v n (xs.map (Value.int .i64)))
  (A:Option Addr) (m c:Nat) (ys:List Int) (hx:a.eval x= .slice A m c) (hr:Am w A m c 1 (ys.map (Value.int .i64))) (hl:n+m<=4096) (hbase:base<=w.heap.size)
  (h:∀v' w',w'.ownsRow base 2 1 v' (n+m) ((xs++ys).map (Value.int .i64))->w.grownBy w' v.ownBlock->(v'= .slice none 0 0↔v= .slice none 0 0/\m=0)->K (a.put o.dst v') w'):o.wp Tryz.prog a w K Q:=by
 obtain⟨i0,hi,a1,a2,a0⟩:=info_parts K6
 refine Gy w s x 42 ho base 2 i0 _ 1 8 Tryz.underlying42 hi a1 a2 a0 rfl (by decide) v n _ hs hown A m c _ hx hr
  (fun u hu=>by obtain⟨z,_,rfl⟩:=List.mem_map.1 hu;rfl) (by unfold maxLen;omega) (by omega) hbase ?_
 rw[←List.map_append];exact h
theorem Pt {w:World}{b b':Nat}{e:TypeId}{sz n:Nat}{v:Value}{xs:List Value}(h:w.ownsRow b e sz v n xs)(hb:b'<=b):w.ownsRow b' e sz v n xs:=by
 obtain⟨h1,h2|⟨g,cap,cur,h2,h3,h4⟩⟩:=h
 ·exact⟨h1, .inl h2⟩
 ·exact⟨h1, .inr ⟨g,cap,cur,h2,by omega,h4⟩⟩
theorem Td {w:World}{B bs p j:Nat}{S:List Nat}{g:Nat->Bj}{v:Value}(hp:p<=S.length)(hb:B<=bs)(h:w.ownsRow bs 55 18 v (0+p+1+(S.length-p)) (([]++(S.map g).take p++[g j]++(S.map g).drop p).flatMap Bj.cells)):w.ownsRow B 55 18 v (S.take p++j::S.drop p).length (((S.take p++j::S.drop p).map g).flatMap Bj.cells):=by
 have h1:(S.take p++j::S.drop p).length=0+p+1+(S.length-p):=by simp;omega
 have h2:(S.take p++j::S.drop p).map g=[]++(S.map g).take p++[g j]++(S.map g).drop p:=by simp[List.map_take,List.map_drop]
 rw[h1,h2];exact Pt h hb
theorem Pu {w:World}{B bs p j:Nat}{S:List Nat}{T0:Nat->Option Nat}{tz:List Int}{x:Int}{v:Value}(hp:p<=S.length)(htz:tz=S.map fun i=>((Dw T0 i:Nat):Int))(hx:((Dw T0 j:Nat):Int)=x)(hb:B<=bs)
  (h:w.ownsRow bs 2 1 v (0+p+1+(S.length-p)) (([]++tz.take p++[x]++tz.drop p).map (Value.int .i64))):w.ownsRow B 2 1 v (S.take p++j::S.drop p).length (((S.take p++j::S.drop p).map fun i=>((Dw T0 i:Nat):Int)).map (Value.int .i64)):=by
 subst htz hx;have h1:(S.take p++j::S.drop p).length=0+p+1+(S.length-p):=by simp;omega
 have h2:((S.take p++j::S.drop p).map fun i=>((Dw T0 i:Nat):Int))=[]++(S.map fun i=>((Dw T0 i:Nat):Int)).take p++[((Dw T0 j:Nat):Int)]++(S.map fun i=>((Dw T0 i:Nat):Int)).drop p:=by simp[List.map_take,List.map_drop]
 rw[h1,h2];exact Pt h hb
theorem Xc (x:Bj)(w:World):Cr Bj.cells 18 (w.alloc (.cells x.cells.toArray 55)) (some ⟨w.heap.size,0,none⟩) 1 1 [x]:=
 ⟨⟨by simp[Bj.len],rr,by unfold maxLen;omega,(fun h=>by cases h),fun _=>⟨w.heap.size,0,rfl,by simp,fun j v hv=>by rw[Nat.zero_add];exact Ch (by simpa using hv)⟩⟩,rfl⟩
theorem Xd (x:Int)(w:World):Am (w.alloc (.cells #[.int .i64 x] 2)) (some ⟨w.heap.size,0,none⟩) 1 1 1 ([x].map (Value.int .i64)):=
 ⟨by simp,rr,by unfold maxLen;omega,(fun h=>by cases h),fun _=>⟨w.heap.size,0,rfl,by simp,fun j v hv=>by rw[Nat.zero_add];exact Ch (by simpa using hv)⟩⟩
theorem Lg {w w':World}{row:Option Nat}{blk n c sz:Nat}{vs:List Value}(h:Am w (some ⟨blk,0,none⟩) n c sz vs)(hg:w.grownBy w' row)(hne:some blk≠row):Am w' (some ⟨blk,0,none⟩) n c sz vs:=by
 obtain⟨h1,h2,h3,h4,h5⟩:=h;refine⟨h1,h2,h3,h4,fun hn=> ?_⟩
 obtain⟨b,off,e,a0,hc⟩:=h5 hn;refine⟨b,off,e,Nat.lt_of_lt_of_le a0 hg.size,fun j v hv=>hg.cell (hc j v hv) ?_⟩
 cases e;exact hne
theorem Te {w w':World}{row:Option Nat}{blk n c:Nat}{xs:List Bj}(h:Cr Bj.cells 18 w (some ⟨blk,0,none⟩) n c xs)(hg:w.grownBy w' row)(hne:some blk≠row):Cr Bj.cells 18 w' (some ⟨blk,0,none⟩) n c xs:=⟨Lg h.1 hg hne,h.2⟩
end Go.Proofs.YtaglfmlgbcmakaaGreatDoor
