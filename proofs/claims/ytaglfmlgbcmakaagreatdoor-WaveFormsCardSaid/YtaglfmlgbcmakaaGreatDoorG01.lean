/-
  Plain words for all texts of this seat: facts about worlds, slices and small numbers. Nothing here speaks of the program.
  Short names.
  Closed facts about the program's types: equality of sounds, sizes of the types that are made.
  The small functions of feats and of word: what each returns.
  feats.Change and feats.Take, on valid arguments: what each returns.
  feats.Change and feats.Take on any arguments.
-/
import Derived.WalkKit
import Derived.WalkSpells
import Derived.WalkLawsBesides
import Derived.Lib.Hide
import Derived.StillTailTactics
import Derived.Deep.QuietTactic
import Derived.BigQuiet
import Derived.Deep.RegionWith
import Derived.Deep.RegionHeld3
import Derived.Deep.LoopGhost
import Derived.Deep.DeepFit
import Derived.Deep.DeepMust
import Derived.Handy
import Derived.Laws.CopyOwn
import Derived.Test.YtaglfmlgbcmakaaGreatDoorProg
set_option linter.all false
set_option maxRecDepth 100000
set_option maxHeartbeats 4000000
namespace Go.Proofs.YtaglfmlgbcmakaaGreatDoor
open Go.RowKit
theorem Anz {W w1:World}(hb:Below W.heap.size W w1):
  (∀b o,b<W.heap.size->w1.cell? ⟨b,o,none⟩=W.cell? ⟨b,o,none⟩)∧
  (∀b o,b<W.heap.size->w1.frozen? ⟨b,o,none⟩=W.frozen? ⟨b,o,none⟩):=
 ⟨fun b o h=>hb.cell (p:=⟨b,o,none⟩) h,fun b o h=>hb.frozen (p:=⟨b,o,none⟩) h⟩
theorem Db {W w1:World}(hb:Below W.heap.size W w1):W.heap.size<=w1.heap.size:=hb.size
theorem _root_.Go.RowKit.Below.step {B C:Nat}{w W w2:World}(h:Below C W w2)(hB:B<=C)(h0:Below B w W):Below B w w2:=h0.trans (h.mono hB)
theorem _root_.Go.RowKit.Below.drewN {B:Nat}{a w:World}(h:Below B a w)(n:Nat):Below B a (w.drewN n):=⟨h.os,h.tape,h.output,h.size,h.block⟩
theorem Alq (w:World)(n:Nat):(w.drewN n).heap.size=w.heap.size:=rfl
theorem Ks (w:World):w.drew.heap=w.heap:=rfl
theorem Am {w:World}{o:Obj}{k:Nat}(h:k=w.heap.size):(w.alloc o).heap[k]? =some o:=by subst h;exact heap_alloc_new w o
theorem Bc {w:World}{o:Obj}{k:Nat}(h:k<w.heap.size):(w.alloc o).heap[k]? =w.heap[k]? :=Below.heap_alloc _ _ _ h
theorem B5 {w:World}{b o b' o':Nat}{v:Value}(h:b≠b'):(w.setCell ⟨b',o',none⟩ v).cell? ⟨b,o,none⟩=w.cell? ⟨b,o,none⟩:=
 World.cell?_setCell_other _ _ _ _ (fun e=>h (by injection e with e1 e2;first|exact e1.symm|exact e2.symm))
theorem Ajm {w:World}{b o b' o':Nat}{v:Value}(h:o≠o'):(w.setCell ⟨b',o',none⟩ v).cell? ⟨b,o,none⟩=w.cell? ⟨b,o,none⟩:=
 World.cell?_setCell_other _ _ _ _ (fun e=>h (by injection e with e1 e2;first|exact e1.symm|exact e2.symm))
theorem Cz {w:World}{b o:Nat}{x:Obj}(h:b<w.heap.size):(w.alloc x).cell? ⟨b,o,none⟩=w.cell? ⟨b,o,none⟩:=
 World.cell?_alloc_lt _ _ _ h
abbrev C7 (p m:Int):Value:= .agg #[.int .u32 p, .int .u32 m]
def Az (w:World)(A:Option Addr)(n c sz:Nat)(vs:List Value):Prop:=
 vs.length=n*sz/\n<=c/\c<=maxLen/\(A=none->c=0)∧
 (0<n→∃b off,A=some ⟨b,off,none⟩/\b<w.heap.size∧∀j v,vs[j]? =some v->w.cell? ⟨b,off+j,none⟩=some v)
theorem Az.below {w w':World}{A:Option Addr}{n c sz:Nat}{vs:List Value}(h:Az w A n c sz vs){B:Nat}(hb:Below B w w')(hB:w.heap.size<=B):Az w' A n c sz vs:=by
 obtain⟨h1,h2,h3,h4,h5⟩:=h;refine⟨h1,h2,h3,h4,fun hn=> ?_⟩
 obtain⟨b,off,hA,a0,hc⟩:=h5 hn;exact⟨b,off,hA,Nat.lt_of_lt_of_le a0 hb.size,fun j v hv=>(hb.cell (p:=⟨b,_,none⟩) (Nat.lt_of_lt_of_le a0 hB)).trans (hc j v hv)⟩
theorem Az.nil (w:World)(sz:Nat):Az w none 0 0 sz []:=⟨by simp,Nat.le_refl _,by simp[maxLen],fun _=>rfl,fun h=>absurd h (by omega)⟩
theorem Ht (b off j:Nat):(⟨b,off,none⟩:Addr).add j=⟨b,off+j,none⟩:=by
 unfold Addr.add;split
 ·rename_i h;subst h;rfl
 ·rfl
theorem Az.of_own {w:World}{base:Nat}{e:TypeId}{sz n:Nat}{A:Option Addr}{c:Nat}{vs:List Value}(h:w.ownsRow base e sz (.slice A n c) n vs)(hsz:0<sz):
  Az w A n c sz vs:=by
 obtain⟨h1,h2⟩:=h;rcases h2 with⟨hv,hn⟩|⟨g,cap,cur,hv,hb,hg,a1,a0,a2,ht⟩
 ·injection hv with hA _ hc
  subst hA hc hn;exact⟨h1,Nat.le_refl _,by simp[maxLen],fun _=>rfl,fun h=>absurd h (by omega)⟩
 ·injection hv with hA _ hc
  subst hA hc;refine⟨h1,a1,a0,(fun h=>by cases h),fun hn=>⟨g,0,rfl,(Array.getElem?_eq_some_iff.1 hg).1,fun j v hj=> ?_⟩⟩
  rw[cell_of_row w g (0+j) cur e (0,0) hg];rw[←ht,List.getElem?_take]at hj;split at hj
  ·simpa using hj
  ·cases hj
theorem Az.drop {w:World}{A:Option Addr}{n c sz:Nat}{vs:List Value}(h:Az w A n c sz vs){k:Nat}(hk:k<=n):
  Az w (if c=k then A else A.map (·.add (k*sz))) (n-k) (c-k) sz (vs.drop (k*sz)):=by
 obtain⟨h1,h2,h3,h4,h5⟩:=h;refine⟨by rw[List.length_drop,h1,Nat.sub_mul],by omega,by omega,fun hA=> ?_,fun hn=> ?_⟩
 ·split at hA
  ·omega
  ·cases A with
   |none=>have:=h4 rfl;omega
   |some a=>cases hA
 ·obtain⟨b,off,rfl,a0,hc⟩:=h5 (by omega);rw[if_neg (by omega)];refine⟨b,off+k*sz,by simp[Ht],a0,fun j v hj=> ?_⟩
  rw[Nat.add_assoc];exact hc _ v (by rw[←hj,List.getElem?_drop])
theorem Az.take {w:World}{A:Option Addr}{n c sz:Nat}{vs:List Value}(h:Az w A n c sz vs){k:Nat}(hk:k<=n):
  Az w A k c sz (vs.take (k*sz)):=by
 obtain⟨h1,h2,h3,h4,h5⟩:=h;have hm:k*sz<=n*sz:=Nat.mul_le_mul_right _ hk;refine⟨by rw[List.length_take,h1];omega,by omega,h3,h4,fun hn=> ?_⟩
 obtain⟨b,off,rfl,a0,hc⟩:=h5 (by omega);refine⟨b,off,rfl,a0,fun j v hj=>hc j v ?_⟩
 rw[List.getElem?_take]at hj;split at hj
 ·exact hj
 ·cases hj
section append
variable {P:Program}(w:World)
theorem Kf (base:Nat)(t ty e:TypeId)(i:TypeInfo)(sz:Nat)(ht:P.underlying t=some (.slice e))(hi:P.info? e=some i)
  (v:Value) (n:Nat) (xs:List Value) (hown:w.ownsRow base e sz v n xs) (c:Nat):(Builtin.append_ #[t,t] ty #[v, .slice none 0 c]).run P w= .ok v w:=by
 rcases hown.2 with⟨rfl,rfl⟩|⟨g,cap,cur,rfl,_,_,a0,_⟩
 ·simp[Builtin.append_,run_underlying ht,sizeOf,typeInfo,hi,Builtin.lenOf,Builtin.firstCells]
 ·simp[Builtin.append_,run_underlying ht,sizeOf,typeInfo,hi,Builtin.lenOf,Builtin.firstCells,a0,storeCells]
theorem Qb (base:Nat)(t ty e:TypeId)(i:TypeInfo)(z:Value)(sz bytes:Nat)(ht:P.underlying t=some (.slice e))(hi:P.info? e=some i)(hz:i.zero=some z)
  (hsize:i.size=sz) (hby:i.bytes=bytes) (hzs:z.cells.size=sz) (hsz:0<sz)
  (v:Value) (n:Nat) (xs:List Value) (hown:w.ownsRow base e sz v n xs)
  (A:Option Addr) (m c:Nat) (news:List Value) (hr:Az w A m c sz news) (h1:∀u∈news,u.oneCell'=true)
  (h63:n+m<=maxLen) (hbytes:(n+m)*bytes<=140737488355328) (hbase:base<=w.heap.size):
  ∃v' w',(Builtin.append_ #[t,t] ty #[v, .slice A m c]).run P w= .ok v' w'/\w'.ownsRow base e sz v' (n+m) (xs++news)/\w.grownBy w' v.ownBlock∧
   (v'= .slice none 0 0↔v= .slice none 0 0/\m=0):=by
 obtain⟨a0,h2,h3,h4,h5⟩:=hr;rcases Nat.eq_zero_or_pos m with hm|hm
 ·subst hm;have hn:news=[]:=List.eq_nil_of_length_eq_zero (by simpa using a0);subst hn
  cases A with
  |none=>exact⟨v,w,Kf w base t ty e i sz ht hi v n xs hown c,by simpa using hown,⟨rfl,rfl,rfl,Nat.le_refl _,fun _ _ _=>rfl⟩,by simp⟩
  |some ad=>exact run_append_own w base t ty e i z sz bytes ht hi hz hsize hby hzs hsz v n xs hown ad 0 c [] (by simp) (by simp) (by simp) h63 hbytes hbase
 ·obtain⟨b,off,rfl,_,hc⟩:=h5 hm;exact run_append_own w base t ty e i z sz bytes ht hi hz hsize hby hzs hsz v n xs hown ⟨b,off,none⟩ m c news a0 (fun j u hu=>by rw[Ht];exact hc j u hu) h1 h63 hbytes hbase
theorem Lu {o:Oper}{a:Act}{K:Act->World->Prop}{Q:Exit->Act->World->Prop}(s x:Operand)(t:TypeId)
  (ho:o.op= .call {callee:= .builtin .append,args:= #[s,x],argTypes:= #[t,t]})
  (base:Nat) (e:TypeId) (i:TypeInfo) (z:Value) (sz bytes:Nat) (ht:P.underlying t=some (.slice e)) (hi:P.info? e=some i) (hz:i.zero=some z)
  (hsize:i.size=sz) (hby:i.bytes=bytes) (hzs:z.cells.size=sz) (hsz:0<sz)
  (v:Value) (n:Nat) (xs:List Value) (hs:a.eval s=v) (hown:w.ownsRow base e sz v n xs)
  (A:Option Addr) (m c:Nat) (news:List Value) (hx:a.eval x= .slice A m c) (hr:Az w A m c sz news) (h1:∀u∈news,u.oneCell'=true)
  (h63:n+m<=maxLen) (hbytes:(n+m)*bytes<=140737488355328) (hbase:base<=w.heap.size)
  (h:∀v' w',w'.ownsRow base e sz v' (n+m) (xs++news)->w.grownBy w' v.ownBlock->(v'= .slice none 0 0↔v= .slice none 0 0/\m=0)->K (a.put o.dst v') w'):o.wp P a w K Q:=by
 obtain⟨v',w',a0,h2,h3,h4⟩:=Qb (P:=P) w base t o.type e i z sz bytes ht hi hz hsize hby hzs hsz v n xs hown A m c news hr h1 h63 hbytes hbase;unfold Oper.wp execOp;simp only[ho,resolve,invoke,builtin,Sem.run_bind,Sem.run_pure,Result.andThen_ok,List.map_toArray,List.map_cons,List.map_nil,hs,hx,a0];exact h v' w' h2 h3 h4
theorem E1 {ops:Array Oper}{rest:List Oper}{o:Oper}{a:Act}{Q:Exit->Act->World->Prop}(hgd:o.guard=none)(s x:Operand)(t:TypeId)
  (ho:o.op= .call {callee:= .builtin .append,args:= #[s,x],argTypes:= #[t,t]})
  (base:Nat) (e:TypeId) (i:TypeInfo) (z:Value) (sz bytes:Nat) (ht:P.underlying t=some (.slice e)) (hi:P.info? e=some i) (hz:i.zero=some z)
  (hsize:i.size=sz) (hby:i.bytes=bytes) (hzs:z.cells.size=sz) (hsz:0<sz)
  (v:Value) (n:Nat) (xs:List Value) (hs:a.eval s=v) (hown:w.ownsRow base e sz v n xs)
  (A:Option Addr) (m c:Nat) (news:List Value) (hx:a.eval x= .slice A m c) (hr:Az w A m c sz news) (h1:∀u∈news,u.oneCell'=true)
  (h63:n+m<=maxLen) (hbytes:(n+m)*bytes<=140737488355328) (hbase:base<=w.heap.size)
  (h:∀v' w',w'.ownsRow base e sz v' (n+m) (xs++news)->w.grownBy w' v.ownBlock->(v'= .slice none 0 0↔v= .slice none 0 0/\m=0)->wpList P ops Q rest (a.put o.dst v') w'):wpList P ops Q (o::rest) a w:=
 wpList_plain hgd fun _ hK=>Lu w s x t ho base e i z sz bytes ht hi hz hsize hby hzs hsz v n xs hs hown A m c news hx hr h1 h63 hbytes hbase fun v' w' h2 h3 h4=>hK _ _ (h v' w' h2 h3 h4)
theorem M0 (t u ty e:TypeId)(i:TypeInfo)(z:Value)(ht:P.underlying t=some (.slice e))(hu:P.underlying u=some (.int .i64))(hi:P.info? e=some i)(hz:i.zero=some z)
  (n:Nat) (h0:0<n) (hb:n*i.bytes<=140737488355328) (h63:n<=4611686018427387904) (hzp:0<i.size):
  (Builtin.append_ #[t,u] ty #[.slice none 0 0, .int .i64 (n:Int)]).run P w=
   .ok (.slice (some ⟨w.heap.size,0,none⟩) n (grownCap w n 0 e)) (w.drew.alloc (.cells (Builtin.zeroCells z.cells n++Builtin.zeroCells z.cells (grownCap w n 0 e-n)) e)):=by
 have hn:n≠0:=by omega
 have hw:IntKind.i64.wrap (n:Int)=n:=IntWalk.i64_in _ (by omega);have a3:¬(9223372036854775807<(n:Int)):=by omega
 have a4:¬(281474976710656<(n:Int)*(i.bytes:Int)):=by
  rw[←Int.natCast_mul];omega
 have a0:¬(281474976710656<Builtin.nextslicecap n 0*i.bytes):=by rw[nextslicecap_zero h0];omega
 have hsz:i.size≠0:=by omega
 have a1:¬(n*i.size=0):=fun h=>by rcases Nat.mul_eq_zero.1 h with h|h<;>omega
 have a2:¬((n:Int)<0):=by omega
 have a5:∀w:World,(asInt (.int .i64 (n:Int))).run P w= .ok (n:Int) w:=fun _=>rfl
 simp[Builtin.append_,run_underlying ht,run_underlying hu,sizeOf,typeInfo,zeroValue,hi,hz,hn,hw,a3,a4,a0,hsz,a1,a2,a5,Question.forced,run_firstCells_none,newRow,grownCap]
end append
abbrev Snd:=Int×Int
def B6:List Snd->List Value
 |[]=>[]
 |s::xs=> .int .u32 s.1:: .int .u32 s.2::B6 xs
theorem Km:∀xs:List Snd,(B6 xs).length=xs.length*2
 |[]=>rfl
 |_::xs=>by simp only[B6,List.length_cons,Km xs];omega
theorem Hq:∀xs ys:List Snd,B6 (xs++ys)=B6 xs++B6 ys
 |[],_=>rfl
 |_::xs,ys=>by simp only[B6,List.cons_append,Hq xs ys]
theorem Lb:∀(xs:List Snd),∀u∈B6 xs,u.oneCell'=true
 |[],u,h=>by simp[B6]at h
 |s::xs,u,h=>by
  simp only[B6,List.mem_cons]at h;rcases h with rfl|rfl|h
  ·rfl
  ·rfl
  ·exact Lb xs u h
theorem Rf:∀(xs:List Snd) (k:Nat),(B6 xs).drop (k*2)=B6 (xs.drop k)
 |[],k=>by simp[B6]
 |s::xs,0=>by simp
 |s::xs,k+1=>by
  rw[show(k+1)*2=k*2+1+1 by omega];simp only[B6,List.drop_succ_cons,Rf xs k]
theorem Rg:∀(xs:List Snd) (k:Nat),(B6 xs).take (k*2)=B6 (xs.take k)
 |[],k=>by simp[B6]
 |s::xs,0=>by simp[B6]
 |s::xs,k+1=>by
  rw[show(k+1)*2=k*2+1+1 by omega];simp only[B6,List.take_succ_cons,Rg xs k]
theorem Ux:∀(xs:List Snd) (k:Nat) (s:Snd),xs[k]? =some s->(B6 xs)[k*2]? =some (.int .u32 s.1)/\(B6 xs)[k*2+1]? =some (.int .u32 s.2)
 |[],k,s,h=>by simp at h
 |a::xs,0,s,h=>by simp at h;subst h;exact⟨rfl,rfl⟩
 |a::xs,k+1,s,h=>by
  rw[show(k+1)*2=k*2+1+1 by omega];exact Ux xs k s (by simpa using h)
def Ak (w:World)(A:Option Addr)(n c:Nat)(xs:List Snd):Prop:=Az w A n c 2 (B6 xs)
section word
variable {w w':World}{A:Option Addr}{n c:Nat}{xs:List Snd}
theorem Ak.len (h:Ak w A n c xs):xs.length=n:=by have:=h.1;rw[Km]at this;omega
theorem Ak.below (h:Ak w A n c xs){B:Nat}(hb:Below B w w')(hB:w.heap.size<=B):Ak w' A n c xs:=Az.below h hb hB
theorem Ak.at_ (h:Ak w A n c xs){k:Nat}(hk:k<n):
  ∃b off p m,A=some ⟨b,off,none⟩/\b<w.heap.size/\xs[k]? =some (p,m)∧
   w.cell? ⟨b,off+k*2,none⟩=some (.int .u32 p)/\w.cell? ⟨b,off+k*2+1,none⟩=some (.int .u32 m):=by
 obtain⟨b,off,hA,a0,hc⟩:=h.2.2.2.2 (by omega);have hl:k<xs.length:=by rw[h.len];exact hk
 obtain⟨h1,h2⟩:=Ux xs k xs[k] (List.getElem?_eq_getElem hl);exact⟨b,off,xs[k].1,xs[k].2,hA,a0,List.getElem?_eq_getElem hl,hc _ _ h1,hc _ _ h2⟩
theorem Ak.drop (h:Ak w A n c xs){k:Nat}(hk:k<=n):Ak w (if c=k then A else A.map (·.add (k*2))) (n-k) (c-k) (xs.drop k):=by
 have:=Az.drop h hk;rwa[Rf]at this
theorem Ak.take (h:Ak w A n c xs){k:Nat}(hk:k<=n):Ak w A k c (xs.take k):=by
 have:=Az.take h hk;rwa[Rg]at this
theorem Ak.max (h:Ak w A n c xs):n<=9223372036854775807:=by have h1:=h.2.1;have h2:=h.2.2.1;unfold maxLen at h2;omega
end word
theorem E3 {w w':World}{base:Nat}{e:TypeId}{sz n:Nat}{v:Value}{xs:List Value}{B:Nat}{w0:World}(hB:Below B w0 w)(h:w.ownsRow base e sz v n xs)
  (hg:w.grownBy w' v.ownBlock) (hb:B<=base) (hs:B<=w.heap.size):Below B w0 w':=
 hB.grown hg hs (fun k hk=>by have:=(h.lt k hk).1;omega)
theorem Bh {w:World}{base:Nat}{e:TypeId}{sz n:Nat}{v:Value}{xs:List Value}(h:w.ownsRow base e sz v n xs):∃A c,v= .slice A n c:=by
 rcases h.2 with⟨rfl,rfl⟩|⟨g,cap,cur,rfl,_⟩
 ·exact⟨_,_,rfl⟩
 ·exact⟨_,_,rfl⟩
def E8 (w:World)(xs:List Snd)(e:Ending)(w':World):Prop:=
 ∃A n c,e= .returned (.slice A n c)/\Ak w' A n c xs/\Below w.heap.size w w'∧∀ad,A=some ad->w.heap.size<=ad.block
theorem E8.of_own {w w':World}{xs:List Snd}{base:Nat}{t:TypeId}{n:Nat}{v:Value}{e:Ending}(he:e= .returned v)(h:w'.ownsRow base t 2 v n (B6 xs))(hb:Below w.heap.size w w')(hbase:w.heap.size<=base):
  E8 w xs e w':=by
 obtain⟨A,c,rfl⟩:=Bh h;refine⟨A,n,c,he,Az.of_own h (by decide),hb,fun ad had=> ?_⟩
 subst had;exact Nat.le_trans hbase (h.lt ad.block rfl).1
theorem Bd {α:Type}(l:List α)(k:Nat)(x:α)(h:l[k]? =some x):l.take (k+1)=l.take k++[x]:=by
 rw[List.take_add_one,h];rfl
abbrev Part:=Option Addr×Nat×Nat×List Snd
def Part.val (p:Part):Value:= .slice p.1 p.2.1 p.2.2.1
def Part.word (p:Part):List Snd:=p.2.2.2
def Hu (w:World)(ps:List Part):Prop:=∀p∈ps,Ak w p.1 p.2.1 p.2.2.1 p.2.2.2
def Ka (ps:List Part):List Snd:=ps.flatMap Part.word
theorem Qc (ps:List Part)(p:Part):Ka (ps++[p])=Ka ps++p.word:=by simp[Ka]
theorem Qd (ps:List Part)(k:Nat):(Ka (ps.take k)).length<=(Ka ps).length:=by
 conv=>rhs;rw[←List.take_append_drop k ps]
 unfold Ka;rw[List.flatMap_append,List.length_append];omega
theorem Az.at1 {w:World}{A:Option Addr}{n c:Nat}{vs:List Value}(h:Az w A n c 1 vs){k:Nat}(hk:k<n):
  ∃b off v,A=some ⟨b,off,none⟩/\b<w.heap.size/\vs[k]? =some v/\w.cell? ⟨b,off+k,none⟩=some v:=by
 obtain⟨h1,_,_,_,h5⟩:=h;obtain⟨b,off,hA,a0,hc⟩:=h5 (by omega);have hl:k<vs.length:=by omega
 exact⟨b,off,vs[k],hA,a0,List.getElem?_eq_getElem hl,hc _ _ (List.getElem?_eq_getElem hl)⟩
theorem sd {p:Prop}(h:p:=by first|omega|(simp;done)|(simp;omega)):p:=h
theorem hpt {p:Prop}(h:p:=by repeat(first|exact Am (by first|omega|(simp;done)|(simp;omega))|rw[Ks]|rw[Bc (by first|omega|(simp;done)|(simp;omega))])):p:=h
theorem nA {α:Type}{xs:List α}{i:Nat}(h:i<xs.toArray.size):xs.toArray[i]=xs[i]'(by simpa using h):=List.getElem_toArray h
theorem nB {α:Type}{a:α}{t:List α}(h:0<(a::t).length):(a::t)[0]=a:=List.getElem_cons_zero a t h
theorem nC {α:Type}{a:α}{t:List α}{i:Nat}(h:i+1<(a::t).length):(a::t)[i+1]=t[i]'(by simpa using h):=List.getElem_cons_succ a t i h
theorem nD {α:Type}(l:List α)(i:Nat)(a:α):l.toArray.setIfInBounds i a=(l.set i a).toArray:=List.setIfInBounds_toArray l i a
theorem nE {α:Type}{x:α}{t:List α}{a:α}:(x::t).set 0 a=a::t:=List.set_cons_zero
theorem nF {α:Type}{x:α}{t:List α}{i:Nat}{a:α}:(x::t).set (i+1) a=x::t.set i a:=List.set_cons_succ
theorem nY:(∀{α:Type} {xs:List α} {i:Nat} (h:i<xs.toArray.size),xs.toArray[i]=xs[i]'(by simpa using h))/\(∀{α:Type} {a:α} {t:List α} (h:0<(a::t).length),(a::t)[0]=a)/\(∀{α:Type} {a:α} {t:List α} {i:Nat} (h:i+1<(a::t).length),(a::t)[i+1]=t[i]'(by simpa using h)):=⟨nA,nB,nC⟩
theorem nX:(∀{α:Type} (l:List α) (i:Nat) (a:α),l.toArray.setIfInBounds i a=(l.set i a).toArray)/\(∀{α:Type} {x:α} {t:List α} {a:α},(x::t).set 0 a=a::t)/\(∀{α:Type} {x:α} {t:List α} {i:Nat} {a:α},(x::t).set (i+1) a=x::t.set i a):=⟨nD,nE,nF⟩
theorem bel {B:Nat}{w w':World}(h:Below B w w':=by repeat'(first|exact Below.refl _ _|assumption|refine Below.alloc ?_ (by first|omega|(simp;done)|(simp;omega)) _|refine Below.setCell ?_ (by first|omega|(simp;done)|(simp;omega)) _|refine Below.drew ?_|refine Below.drewN ?_ _|refine Below.step (by assumption) (by first|omega|(simp;done)|(simp;omega)) ?_)):Below B w w':=h
theorem rr {n:Nat}:n<=n:=Nat.le_refl n
theorem hI {p:Prop}(h:p):Hid p:=Lib.hid h
theorem Alu:Tryz.prog.eqGuardType Tryz.prog.depth 49=false:=by kernel_rfl
theorem Af2:Tryz.prog.stoodInHeld 49=false:=by kernel_rfl
theorem Af3:Tryz.prog.underlying 49=some (.struct (Tryz.prog.fieldsOf 49)):=by kernel_rfl
theorem Ajt (p m p' m':Int)(w:World):(binOp .eql 49 (C7 p m) (C7 p' m')).run Tryz.prog w= .ok (.bool (p==p' && m==m')) w:=by
 have u3:=Tryz.underlying47;have a3:=Tryz.isAgg47;have z3:=Tryz.sizeOf47;rw[run_eql_struct,show(10000:Nat)=9999+1 from rfl,run_equalIn_agg w 9999 49 _ _ Af3 Af2];simp only[Program.fieldsOf,Tryz.underlying49];go_simp;by_cases h1:p=p'<;>by_cases h2:m=m'<;>simp[h1,h2]
theorem Aju (p m p' m':Int)(w:World):(binOp .neq 49 (C7 p m) (C7 p' m')).run Tryz.prog w= .ok (.bool (!(p==p' && m==m'))) w:=by
 have u3:=Tryz.underlying47;have a3:=Tryz.isAgg47;have z3:=Tryz.sizeOf47;rw[run_neq_struct,show(10000:Nat)=9999+1 from rfl,run_equalIn_agg w 9999 49 _ _ Af3 Af2];simp only[Program.fieldsOf,Tryz.underlying49];go_simp;by_cases h1:p=p'<;>by_cases h2:m=m'<;>simp[h1,h2]
attribute [go_sem] Alu Ajt Aju
theorem N6:(Tryz.prog.info? 49).map (fun i=>(i.zero,i.size,i.bytes))=some (some (.agg #[.int .u32 0, .int .u32 0]),2,8):=by kernel_rfl
theorem Ajv (A:Option Addr)(n c:Nat)(w:World):(binOp .eql 28 (.slice A n c) (.slice none 0 0)).run Tryz.prog w= .ok (.bool A.isNone) w:=
 Lib.run_eql_slice_nil w _ _ A n c 0 0 Tryz.underlying28
attribute [go_sem] Ajv
theorem D1 {ops:Array Oper}{rest:List Oper}{o:Oper}{a:Act}{w:World}{Q:Exit->Act->World->Prop}(hgd:o.guard=none)(s x:Operand)
  (ho:o.op= .call {callee:= .builtin .append,args:= #[s,x],argTypes:= #[28,28]})
  (base:Nat) (v:Value) (n:Nat) (xs:List Snd) (hs:a.eval s=v) (hown:w.ownsRow base 49 2 v n (B6 xs))
  (A:Option Addr) (m c:Nat) (ys:List Snd) (hx:a.eval x= .slice A m c) (hr:Ak w A m c ys) (hl:n+m<=4096) (hbase:base<=w.heap.size)
  (h:∀v' w',w'.ownsRow base 49 2 v' (n+m) (B6 (xs++ys))->w.grownBy w' v.ownBlock->(v'= .slice none 0 0↔v= .slice none 0 0/\m=0)→
   wpList Tryz.prog ops Q rest (a.put o.dst v') w'):wpList Tryz.prog ops Q (o::rest) a w:=by
 obtain⟨i0,hi,a1,a2,a0⟩:=info_parts N6
 refine E1 w hgd s x 28 ho base 49 i0 _ 2 8 Tryz.underlying28 hi a1 a2 a0 rfl (by decide) v n (B6 xs) hs hown A m c (B6 ys) hx hr
  (Lb ys) (by unfold maxLen;omega) (by omega) hbase ?_
 rw[←Hq];exact h
theorem R9 (n:Nat)(h0:0<n)(hb:n<=4096)(ty:TypeId)(w:World):∃cap cur,n<=cap/\cap<=maxLen/\cur.size=cap*2∧
  (Builtin.append_ #[28,3] ty #[.slice none 0 0, .int .i64 (n:Int)]).run Tryz.prog w= .ok (.slice (some ⟨w.heap.size,0,none⟩) n cap) (w.drew.alloc (.cells cur 49)):=by
 obtain⟨i0,hi,a2,a3,a1⟩:=info_parts N6;have a0:=grownCap_ge w n 0 49;refine⟨_,_,a0,grownCap_le_maxLen w n 0 49 (by unfold maxLen;omega), ?_,M0 w 28 3 ty 49 i0 _ Tryz.underlying28 Tryz.underlying3 hi a2 n h0 (by rw[a1];omega) (by omega) (by omega)⟩;simp only[Array.size_append,size_zeroCells]
 have:(Value.agg #[Value.int IntKind.u32 0,Value.int IntKind.u32 0]).cells.size=2:=rfl
 rw[this];omega
theorem Sv {ops:Array Oper}{rest:List Oper}{o:Oper}{a:Act}{w:World}{Q:Exit->Act->World->Prop}(hgd:o.guard=none)(s x:Operand)
  (ho:o.op= .call {callee:= .builtin .append,args:= #[s,x],argTypes:= #[28,3]})
  (n:Nat) (hs:a.eval s= .slice none 0 0) (hx:a.eval x= .int .i64 (n:Int)) (h0:0<n) (hb:n<=4096)
  (h:∀cap cur,n<=cap->Hid (cap<=maxLen)->Hid (cur.size=cap*2)->wpList Tryz.prog ops Q rest (a.put o.dst (.slice (some ⟨w.heap.size,0,none⟩) n cap)) (w.drew.alloc (.cells cur 49))):
  wpList Tryz.prog ops Q (o::rest) a w:=by
 obtain⟨cap,cur,h1,h2,h3,a0⟩:=R9 n h0 hb o.type w;refine wpList_plain hgd fun _ hK=> ?_
 unfold Oper.wp execOp;simp only[ho,resolve,invoke,builtin,Sem.run_bind,Sem.run_pure,Result.andThen_ok,List.map_toArray,List.map_cons,List.map_nil,hs,hx,a0];exact hK _ _ (h cap cur h1 h2 h3)
def Bx (p m:Int):Bool:=bits .and .u32 p m==0 && decide (bits .or .u32 p m<=16777215)
theorem Ec (p m:Int)(w:World):
  Calls Tryz.prog 152 #[C7 p m] w fun e w'=>e= .returned (.bool (Bx p m))/\Below w.heap.size w w':=by
 by_cases h:(bits .and .u32 p m==0)=true
 ·have hv:Bx p m=decide (bits .or .u32 p m<=16777215):=by simp[Bx,h]
  have H:=hI hv;clear hv;go_enter Tryz.func152,Tryz.ntmps152;go_wp2;go_ret;exact⟨by rw[H.out];rfl,(Below.refl _ _).alloc rr _⟩
 ·have h':(bits .and .u32 p m==0)=false:=by simpa using h
  have hv:Bx p m=false:=by simp[Bx,h']
  have H:=hI hv;clear hv h;go_enter Tryz.func152,Tryz.ntmps152;go_wp2;go_ret;exact⟨by rw[H.out];rfl,(Below.refl _ _).alloc rr _⟩
def Cg (p m:Int):Bool:=bits .and .u32 p m==0 && bits .or .u32 p m/16777216==0
theorem Yg (p m:Int)(w:World):
  Calls Tryz.prog 88 #[C7 p m] w fun e w'=>e= .returned (.bool (Cg p m))/\Below w.heap.size w w':=by
 by_cases h:(bits .and .u32 p m==0)=true
 ·have hv:Cg p m=(bits .or .u32 p m/16777216==0):=by simp[Cg,h]
  have H:=hI hv;clear hv;go_enter Tryz.func88,Tryz.ntmps88;go_wp2;go_ret;exact⟨by rw[H.out];rfl,(Below.refl _ _).alloc rr _⟩
 ·have h':(bits .and .u32 p m==0)=false:=by simpa using h
  have hv:Cg p m=false:=by simp[Cg,h']
  have H:=hI hv;clear hv h;go_enter Tryz.func88,Tryz.ntmps88;go_wp2;go_ret;exact⟨by rw[H.out];rfl,(Below.refl _ _).alloc rr _⟩
theorem F7 (p m:Int)(w:World):
  Calls Tryz.prog 188 #[C7 p m] w fun e w'=>e= .returned (.bool (Cg p m))/\Below w.heap.size w w':=by
 by_cases h:(bits .and .u32 p m==0)=true
 ·have hv:Cg p m=(bits .or .u32 p m/16777216==0):=by simp[Cg,h]
  have H:=hI hv;clear hv;go_enter Tryz.func188,Tryz.ntmps188;go_wp2;go_ret;exact⟨by rw[H.out];rfl,(Below.refl _ _).alloc rr _⟩
 ·have h':(bits .and .u32 p m==0)=false:=by simpa using h
  have hv:Cg p m=false:=by simp[Cg,h']
  have H:=hI hv;clear hv h;go_enter Tryz.func188,Tryz.ntmps188;go_wp2;go_ret;exact⟨by rw[H.out];rfl,(Below.refl _ _).alloc rr _⟩
theorem Uy (p m:Int)(w:World):
  Calls Tryz.prog 228 #[C7 p m] w fun e w'=>e= .returned (.int .u32 (bits .or .u32 p m))/\Below w.heap.size w w':=by
 go_enter Tryz.func228,Tryz.ntmps228;go_wp2;go_ret;exact⟨rfl,(Below.refl _ _).alloc rr _⟩
def Ff (s f set:Int):Int:=bits .or .u32 (bits .andNot .u32 s set) (bits .and .u32 f set)
theorem Alf (p m p' m' set:Int)(w:World):
  Calls Tryz.prog 229 #[C7 p m,C7 p' m', .int .u32 set] w fun e w'=>
   e= .returned (C7 (Ff p p' set) (Ff m m' set))/\Below w.heap.size w w':=by
 go_enter Tryz.func229,Tryz.ntmps229;go_wp2
 exact bodyPost_ret (v:=C7 (Ff p p' set) (Ff m m' set)) (by simp[results,Tryz.results229,go_sem,Ff]) rfl
  ⟨rfl,(((Below.refl _ _).alloc rr _).alloc (by simp) _).alloc (by simp;omega) _⟩
def Gh (p m p' m':Int):Bool:=
 Bx p m && Bx p' m' && bits .andNot .u32 p' p==0 && bits .andNot .u32 m' m==0
theorem Alv (p m p' m':Int)(w:World):
  Calls Tryz.prog 217 #[C7 p m,C7 p' m'] w fun e w'=>e= .returned (.bool (Gh p m p' m'))/\Below w.heap.size w w':=by
 by_cases h1:Bx p m=true
 ·by_cases h2:Bx p' m'=true
  ·by_cases h3:(bits .andNot .u32 p' p==0)=true
   ·have hv:Gh p m p' m'=(bits .andNot .u32 m' m==0):=by simp[Gh,h1,h2,h3]
    have H:=hI hv;clear hv;go_enter Tryz.func217,Tryz.ntmps217;go_wp2_with(go_at_call 152;refine(Ec _ _ _).mono ?_;rintro e w1 ⟨rfl,a0⟩;have a2:=Db a0;(try simp only[World.size_alloc,World.size_drew,World.size_setCell]at a2);have c0:=fun o=>a0.cell (p:=⟨w.heap.size,o,none⟩) sd;have c1:=fun o=>a0.cell (p:=⟨w.heap.size+1,o,none⟩) sd;have f0:=fun o=>a0.frozen (p:=⟨w.heap.size,o,none⟩) sd;have f1:=fun o=>a0.frozen (p:=⟨w.heap.size+1,o,none⟩) sd;have a1:Below w.heap.size w w1:=bel;clear a0);go_ret;exact⟨by rw[H.out];rfl,a1⟩
   ·have a5:(bits .andNot .u32 p' p==0)=false:=by simpa using h3
    have hv:Gh p m p' m'=false:=by simp[Gh,h1,h2,a5]
    have H:=hI hv;clear hv h3;go_enter Tryz.func217,Tryz.ntmps217;go_wp2_with(go_at_call 152;refine(Ec _ _ _).mono ?_;rintro e w1 ⟨rfl,a0⟩;have a2:=Db a0;(try simp only[World.size_alloc,World.size_drew,World.size_setCell]at a2);have c0:=fun o=>a0.cell (p:=⟨w.heap.size,o,none⟩) sd;have c1:=fun o=>a0.cell (p:=⟨w.heap.size+1,o,none⟩) sd;have f0:=fun o=>a0.frozen (p:=⟨w.heap.size,o,none⟩) sd;have f1:=fun o=>a0.frozen (p:=⟨w.heap.size+1,o,none⟩) sd;have a1:Below w.heap.size w w1:=bel;clear a0);go_ret;exact⟨by rw[H.out];rfl,a1⟩
  ·have a3:Bx p' m'=false:=by simpa using h2
   have hv:Gh p m p' m'=false:=by simp[Gh,a3]
   have H:=hI hv;clear hv h2;go_enter Tryz.func217,Tryz.ntmps217;go_wp2_with(go_at_call 152;refine(Ec _ _ _).mono ?_;rintro e w1 ⟨rfl,a0⟩;have a2:=Db a0;(try simp only[World.size_alloc,World.size_drew,World.size_setCell]at a2);have c0:=fun o=>a0.cell (p:=⟨w.heap.size,o,none⟩) sd;have c1:=fun o=>a0.cell (p:=⟨w.heap.size+1,o,none⟩) sd;have f0:=fun o=>a0.frozen (p:=⟨w.heap.size,o,none⟩) sd;have f1:=fun o=>a0.frozen (p:=⟨w.heap.size+1,o,none⟩) sd;have a1:Below w.heap.size w w1:=bel;clear a0);go_ret;exact⟨by rw[H.out];rfl,a1⟩
 ·have a4:Bx p m=false:=by simpa using h1
  have hv:Gh p m p' m'=false:=by simp[Gh,a4]
  have H:=hI hv;clear hv h1;go_enter Tryz.func217,Tryz.ntmps217;go_wp2_with(go_at_call 152;refine(Ec _ _ _).mono ?_;rintro e w1 ⟨rfl,a0⟩;have a2:=Db a0;(try simp only[World.size_alloc,World.size_drew,World.size_setCell]at a2);have c0:=fun o=>a0.cell (p:=⟨w.heap.size,o,none⟩) sd;have c1:=fun o=>a0.cell (p:=⟨w.heap.size+1,o,none⟩) sd;have f0:=fun o=>a0.frozen (p:=⟨w.heap.size,o,none⟩) sd;have f1:=fun o=>a0.frozen (p:=⟨w.heap.size+1,o,none⟩) sd;have a1:Below w.heap.size w w1:=bel;clear a0);go_ret;exact⟨by rw[H.out];rfl,a1⟩
theorem Ads (p m clear p' m':Int)(w:World)(h1:Bx p m=true)(h2:Bx p' m'=true)(h3:clear<=16777215)
  (h4:bits .and .u32 clear (bits .or .u32 p' m')=0):
  Calls Tryz.prog 219 #[C7 p m, .int .u32 clear,C7 p' m'] w fun e w'=>
   e= .returned (.tuple #[C7 (Ff p p' (bits .or .u32 clear (bits .or .u32 p' m'))) (Ff m m' (bits .or .u32 clear (bits .or .u32 p' m'))), .int .i64 0])/\Below w.heap.size w w':=by
 have a3:(bits .and .u32 clear (bits .or .u32 p' m')==0)=true:=by rw[h4];rfl
 clear h4;have a4:decide (16777215<clear)=false:=by simpa using h3
 go_enter Tryz.func219,Tryz.ntmps219;go_wp2_with(first|(go_at_call 152;refine(Ec _ _ _).mono ?_;rintro e w1 ⟨rfl,a0⟩;have a1:=Db a0;(try simp only[World.size_alloc,World.size_drew,World.size_setCell]at a1);have c0:=fun o=>a0.cell (p:=⟨w.heap.size,o,none⟩) sd;have c1:=fun o=>a0.cell (p:=⟨w.heap.size+1,o,none⟩) sd;have c2:=fun o=>a0.cell (p:=⟨w.heap.size+1+1,o,none⟩) sd;have f0:=fun o=>a0.frozen (p:=⟨w.heap.size,o,none⟩) sd;have f1:=fun o=>a0.frozen (p:=⟨w.heap.size+1,o,none⟩) sd;have f2:=fun o=>a0.frozen (p:=⟨w.heap.size+1+1,o,none⟩) sd;have a2:Below w.heap.size w w1:=bel;clear a0)|(go_at_call 228;refine(Uy _ _ _).mono ?_;rintro e w1 ⟨rfl,a0⟩;have a1:=Db a0;(try simp only[World.size_alloc,World.size_drew,World.size_setCell]at a1);have c0:=fun o=>a0.cell (p:=⟨w.heap.size,o,none⟩) sd;have c1:=fun o=>a0.cell (p:=⟨w.heap.size+1,o,none⟩) sd;have c2:=fun o=>a0.cell (p:=⟨w.heap.size+1+1,o,none⟩) sd;have f0:=fun o=>a0.frozen (p:=⟨w.heap.size,o,none⟩) sd;have f1:=fun o=>a0.frozen (p:=⟨w.heap.size+1,o,none⟩) sd;have f2:=fun o=>a0.frozen (p:=⟨w.heap.size+1+1,o,none⟩) sd;have a2:Below w.heap.size w w1:=bel;clear a0))
 go_region_held3 (fun w'=>w'.cell? ⟨w.heap.size,0,none⟩=some (.int .u32 p)/\w'.cell? ⟨w.heap.size,1,none⟩=some (.int .u32 m)/\w'.cell? ⟨w.heap.size+1,0,none⟩=some (.int .u32 p')/\w'.cell? ⟨w.heap.size+1,1,none⟩=some (.int .u32 m')) (first|(go_keep;done)|((try dsimp only);((repeat' apply And.intro)<;>(try simp(disch:=omega) only[B5,Cz,World.cell?_drew])<;>first|assumption|(simp[*,go_sem];done))))
  (first|(go_at_call 228;refine(Uy _ _ _).mono ?_;rintro e w1 ⟨rfl,a0⟩;have a1:=Db a0;(try simp only[World.size_alloc,World.size_drew,World.size_setCell]at a1);have c0:=fun o=>a0.cell (p:=⟨w.heap.size,o,none⟩) sd;have c1:=fun o=>a0.cell (p:=⟨w.heap.size+1,o,none⟩) sd;have c2:=fun o=>a0.cell (p:=⟨w.heap.size+1+1,o,none⟩) sd;have f0:=fun o=>a0.frozen (p:=⟨w.heap.size,o,none⟩) sd;have f1:=fun o=>a0.frozen (p:=⟨w.heap.size+1,o,none⟩) sd;have f2:=fun o=>a0.frozen (p:=⟨w.heap.size+1+1,o,none⟩) sd;have a2:Below w.heap.size w w1:=bel;clear a0)|(go_at_call 229;refine(Alf _ _ _ _ _ _).mono ?_;rintro e w1 ⟨rfl,a0⟩;have a1:=Db a0;(try simp only[World.size_alloc,World.size_drew,World.size_setCell]at a1);have c0:=fun o=>a0.cell (p:=⟨w.heap.size,o,none⟩) sd;have c1:=fun o=>a0.cell (p:=⟨w.heap.size+1,o,none⟩) sd;have c2:=fun o=>a0.cell (p:=⟨w.heap.size+1+1,o,none⟩) sd;have f0:=fun o=>a0.frozen (p:=⟨w.heap.size,o,none⟩) sd;have f1:=fun o=>a0.frozen (p:=⟨w.heap.size+1,o,none⟩) sd;have f2:=fun o=>a0.frozen (p:=⟨w.heap.size+1+1,o,none⟩) sd;have a2:Below w.heap.size w w1:=bel;clear a0))
 go_wp2
 exact bodyPost_ret (v:= .tuple #[C7 (Ff p p' (bits .or .u32 clear (bits .or .u32 p' m'))) (Ff m m' (bits .or .u32 clear (bits .or .u32 p' m'))), .int .i64 0])
  (by simp[results,Tryz.results219,go_sem, *]) rfl ⟨rfl,bel⟩
theorem Ajw (p m p' m' mask:Int)(w:World)(h1:Bx p m=true)(h2:Bx p' m'=true)(h3:mask<=16777215):
  Calls Tryz.prog 220 #[C7 p m,C7 p' m', .int .u32 mask] w fun e w'=>
   e= .returned (.tuple #[C7 (Ff p p' mask) (Ff m m' mask), .int .i64 0])/\Below w.heap.size w w':=by
 have a3:decide (16777215<mask)=false:=by simpa using h3
 go_enter Tryz.func220,Tryz.ntmps220;go_wp2_with(first|(go_at_call 152;refine(Ec _ _ _).mono ?_;rintro e w1 ⟨rfl,a0⟩;have a1:=Db a0;(try simp only[World.size_alloc,World.size_drew,World.size_setCell]at a1);have c0:=fun o=>a0.cell (p:=⟨w.heap.size,o,none⟩) sd;have c1:=fun o=>a0.cell (p:=⟨w.heap.size+1,o,none⟩) sd;have c2:=fun o=>a0.cell (p:=⟨w.heap.size+1+1,o,none⟩) sd;have f0:=fun o=>a0.frozen (p:=⟨w.heap.size,o,none⟩) sd;have f1:=fun o=>a0.frozen (p:=⟨w.heap.size+1,o,none⟩) sd;have f2:=fun o=>a0.frozen (p:=⟨w.heap.size+1+1,o,none⟩) sd;have a2:Below w.heap.size w w1:=bel;clear a0)|(go_at_call 229;refine(Alf _ _ _ _ _ _).mono ?_;rintro e w1 ⟨rfl,a0⟩;have a1:=Db a0;(try simp only[World.size_alloc,World.size_drew,World.size_setCell]at a1);have c0:=fun o=>a0.cell (p:=⟨w.heap.size,o,none⟩) sd;have c1:=fun o=>a0.cell (p:=⟨w.heap.size+1,o,none⟩) sd;have c2:=fun o=>a0.cell (p:=⟨w.heap.size+1+1,o,none⟩) sd;have f0:=fun o=>a0.frozen (p:=⟨w.heap.size,o,none⟩) sd;have f1:=fun o=>a0.frozen (p:=⟨w.heap.size+1,o,none⟩) sd;have f2:=fun o=>a0.frozen (p:=⟨w.heap.size+1+1,o,none⟩) sd;have a2:Below w.heap.size w w1:=bel;clear a0))
 exact bodyPost_ret (v:= .tuple #[C7 (Ff p p' mask) (Ff m m' mask), .int .i64 0])
  (by simp[results,Tryz.results220,go_sem, *]) rfl ⟨rfl,bel⟩
def Jq (s:Snd)(clear:Int)(t:Snd):Bool:=Bx s.1 s.2 && Bx t.1 t.2 && decide (clear<=16777215) && bits .and .u32 clear (bits .or .u32 t.1 t.2)==0
def Dp (s:Snd)(clear:Int)(t:Snd):Snd:=
 if Jq s clear t then(Ff s.1 t.1 (bits .or .u32 clear (bits .or .u32 t.1 t.2)),Ff s.2 t.2 (bits .or .u32 clear (bits .or .u32 t.1 t.2)))else(0,0)
def Gv (s t:Snd)(mask:Int):Snd:=if Bx s.1 s.2 && Bx t.1 t.2 && decide (mask<=16777215)then(Ff s.1 t.1 mask,Ff s.2 t.2 mask)else(0,0)
def Wo (w:World)(s:Snd)(e:Ending)(w':World):Prop:=∃er:Int,e= .returned (.tuple #[C7 s.1 s.2, .int .i64 er])/\Below w.heap.size w w'
theorem Af4 (p m clear p' m':Int)(w:World):Calls Tryz.prog 219 #[C7 p m, .int .u32 clear,C7 p' m'] w (Wo w (Dp (p,m) clear (p',m'))):=by
 by_cases h1:Bx p m=true
 ·by_cases h2:Bx p' m'=true
  ·by_cases h3:clear<=16777215
   ·by_cases h4:bits .and .u32 clear (bits .or .u32 p' m')=0
    ·have hv:Dp (p,m) clear (p',m')=(Ff p p' (bits .or .u32 clear (bits .or .u32 p' m')),Ff m m' (bits .or .u32 clear (bits .or .u32 p' m'))):=by simp[Dp,Jq,h1,h2,h3,h4]
     rw[hv];exact(Ads p m clear p' m' w h1 h2 h3 h4).mono fun e w' ⟨h,hb⟩=>⟨0,h,hb⟩
    ·have hv:Dp (p,m) clear (p',m')=(0,0):=by simp[Dp,Jq,h4]
     have H:=hI hv;clear hv;have a5:decide (16777215<clear)=false:=by simpa using h3
     have a7:(bits .and .u32 clear (bits .or .u32 p' m')==0)=false:=by simpa using h4
     have a6:(bits .and .u32 clear (bits .or .u32 p' m') !=0)=true:=by simpa using h4
     clear h4;go_enter Tryz.func219,Tryz.ntmps219;go_wp2_with(first|(go_at_call 152;refine(Ec _ _ _).mono ?_;rintro e w1 ⟨rfl,a0⟩;have a1:=Db a0;(try simp only[World.size_alloc,World.size_drew,World.size_setCell]at a1);have c0:=fun o=>a0.cell (p:=⟨w.heap.size,o,none⟩) sd;have c1:=fun o=>a0.cell (p:=⟨w.heap.size+1,o,none⟩) sd;have c2:=fun o=>a0.cell (p:=⟨w.heap.size+1+1,o,none⟩) sd;have f0:=fun o=>a0.frozen (p:=⟨w.heap.size,o,none⟩) sd;have f1:=fun o=>a0.frozen (p:=⟨w.heap.size+1,o,none⟩) sd;have f2:=fun o=>a0.frozen (p:=⟨w.heap.size+1+1,o,none⟩) sd;have a2:Below w.heap.size w w1:=bel;clear a0)|(go_at_call 228;refine(Uy _ _ _).mono ?_;rintro e w1 ⟨rfl,a0⟩;have a1:=Db a0;(try simp only[World.size_alloc,World.size_drew,World.size_setCell]at a1);have c0:=fun o=>a0.cell (p:=⟨w.heap.size,o,none⟩) sd;have c1:=fun o=>a0.cell (p:=⟨w.heap.size+1,o,none⟩) sd;have c2:=fun o=>a0.cell (p:=⟨w.heap.size+1+1,o,none⟩) sd;have f0:=fun o=>a0.frozen (p:=⟨w.heap.size,o,none⟩) sd;have f1:=fun o=>a0.frozen (p:=⟨w.heap.size+1,o,none⟩) sd;have f2:=fun o=>a0.frozen (p:=⟨w.heap.size+1+1,o,none⟩) sd;have a2:Below w.heap.size w w1:=bel;clear a0))
     all_goals exact bodyPost_ret (v:= .tuple #[C7 0 0, .int .i64 2]) (by simp[results,Tryz.results219,go_sem, *]) rfl ⟨2,by rw[H.out],bel⟩
   ·have hv:Dp (p,m) clear (p',m')=(0,0):=by simp[Dp,Jq,h3]
    have H:=hI hv;clear hv;have a5:16777215<clear:=by omega
    go_enter Tryz.func219,Tryz.ntmps219;go_wp2_with(first|(go_at_call 152;refine(Ec _ _ _).mono ?_;rintro e w1 ⟨rfl,a0⟩;have a1:=Db a0;(try simp only[World.size_alloc,World.size_drew,World.size_setCell]at a1);have c0:=fun o=>a0.cell (p:=⟨w.heap.size,o,none⟩) sd;have c1:=fun o=>a0.cell (p:=⟨w.heap.size+1,o,none⟩) sd;have c2:=fun o=>a0.cell (p:=⟨w.heap.size+1+1,o,none⟩) sd;have f0:=fun o=>a0.frozen (p:=⟨w.heap.size,o,none⟩) sd;have f1:=fun o=>a0.frozen (p:=⟨w.heap.size+1,o,none⟩) sd;have f2:=fun o=>a0.frozen (p:=⟨w.heap.size+1+1,o,none⟩) sd;have a2:Below w.heap.size w w1:=bel;clear a0)|(go_at_call 228;refine(Uy _ _ _).mono ?_;rintro e w1 ⟨rfl,a0⟩;have a1:=Db a0;(try simp only[World.size_alloc,World.size_drew,World.size_setCell]at a1);have c0:=fun o=>a0.cell (p:=⟨w.heap.size,o,none⟩) sd;have c1:=fun o=>a0.cell (p:=⟨w.heap.size+1,o,none⟩) sd;have c2:=fun o=>a0.cell (p:=⟨w.heap.size+1+1,o,none⟩) sd;have f0:=fun o=>a0.frozen (p:=⟨w.heap.size,o,none⟩) sd;have f1:=fun o=>a0.frozen (p:=⟨w.heap.size+1,o,none⟩) sd;have f2:=fun o=>a0.frozen (p:=⟨w.heap.size+1+1,o,none⟩) sd;have a2:Below w.heap.size w w1:=bel;clear a0))
    all_goals exact bodyPost_ret (v:= .tuple #[C7 0 0, .int .i64 2]) (by simp[results,Tryz.results219,go_sem, *]) rfl ⟨2,by rw[H.out],bel⟩
  ·have a3:Bx p' m'=false:=by simpa using h2
   have hv:Dp (p,m) clear (p',m')=(0,0):=by simp[Dp,Jq,a3]
   have H:=hI hv;clear hv h2;go_enter Tryz.func219,Tryz.ntmps219;go_wp2_with(first|(go_at_call 152;refine(Ec _ _ _).mono ?_;rintro e w1 ⟨rfl,a0⟩;have a1:=Db a0;(try simp only[World.size_alloc,World.size_drew,World.size_setCell]at a1);have c0:=fun o=>a0.cell (p:=⟨w.heap.size,o,none⟩) sd;have c1:=fun o=>a0.cell (p:=⟨w.heap.size+1,o,none⟩) sd;have c2:=fun o=>a0.cell (p:=⟨w.heap.size+1+1,o,none⟩) sd;have f0:=fun o=>a0.frozen (p:=⟨w.heap.size,o,none⟩) sd;have f1:=fun o=>a0.frozen (p:=⟨w.heap.size+1,o,none⟩) sd;have f2:=fun o=>a0.frozen (p:=⟨w.heap.size+1+1,o,none⟩) sd;have a2:Below w.heap.size w w1:=bel;clear a0)|(go_at_call 228;refine(Uy _ _ _).mono ?_;rintro e w1 ⟨rfl,a0⟩;have a1:=Db a0;(try simp only[World.size_alloc,World.size_drew,World.size_setCell]at a1);have c0:=fun o=>a0.cell (p:=⟨w.heap.size,o,none⟩) sd;have c1:=fun o=>a0.cell (p:=⟨w.heap.size+1,o,none⟩) sd;have c2:=fun o=>a0.cell (p:=⟨w.heap.size+1+1,o,none⟩) sd;have f0:=fun o=>a0.frozen (p:=⟨w.heap.size,o,none⟩) sd;have f1:=fun o=>a0.frozen (p:=⟨w.heap.size+1,o,none⟩) sd;have f2:=fun o=>a0.frozen (p:=⟨w.heap.size+1+1,o,none⟩) sd;have a2:Below w.heap.size w w1:=bel;clear a0))
   all_goals exact bodyPost_ret (v:= .tuple #[C7 0 0, .int .i64 14]) (by simp[results,Tryz.results219,go_sem, *]) rfl ⟨14,by rw[H.out],bel⟩
 ·have a4:Bx p m=false:=by simpa using h1
  have hv:Dp (p,m) clear (p',m')=(0,0):=by simp[Dp,Jq,a4]
  have H:=hI hv;clear hv h1;go_enter Tryz.func219,Tryz.ntmps219;go_wp2_with(first|(go_at_call 152;refine(Ec _ _ _).mono ?_;rintro e w1 ⟨rfl,a0⟩;have a1:=Db a0;(try simp only[World.size_alloc,World.size_drew,World.size_setCell]at a1);have c0:=fun o=>a0.cell (p:=⟨w.heap.size,o,none⟩) sd;have c1:=fun o=>a0.cell (p:=⟨w.heap.size+1,o,none⟩) sd;have c2:=fun o=>a0.cell (p:=⟨w.heap.size+1+1,o,none⟩) sd;have f0:=fun o=>a0.frozen (p:=⟨w.heap.size,o,none⟩) sd;have f1:=fun o=>a0.frozen (p:=⟨w.heap.size+1,o,none⟩) sd;have f2:=fun o=>a0.frozen (p:=⟨w.heap.size+1+1,o,none⟩) sd;have a2:Below w.heap.size w w1:=bel;clear a0)|(go_at_call 228;refine(Uy _ _ _).mono ?_;rintro e w1 ⟨rfl,a0⟩;have a1:=Db a0;(try simp only[World.size_alloc,World.size_drew,World.size_setCell]at a1);have c0:=fun o=>a0.cell (p:=⟨w.heap.size,o,none⟩) sd;have c1:=fun o=>a0.cell (p:=⟨w.heap.size+1,o,none⟩) sd;have c2:=fun o=>a0.cell (p:=⟨w.heap.size+1+1,o,none⟩) sd;have f0:=fun o=>a0.frozen (p:=⟨w.heap.size,o,none⟩) sd;have f1:=fun o=>a0.frozen (p:=⟨w.heap.size+1,o,none⟩) sd;have f2:=fun o=>a0.frozen (p:=⟨w.heap.size+1+1,o,none⟩) sd;have a2:Below w.heap.size w w1:=bel;clear a0))
  all_goals exact bodyPost_ret (v:= .tuple #[C7 0 0, .int .i64 14]) (by simp[results,Tryz.results219,go_sem, *]) rfl ⟨14,by rw[H.out],bel⟩
theorem Alw (p m p' m' mask:Int)(w:World):Calls Tryz.prog 220 #[C7 p m,C7 p' m', .int .u32 mask] w (Wo w (Gv (p,m) (p',m') mask)):=by
 by_cases h1:Bx p m=true
 ·by_cases h2:Bx p' m'=true
  ·by_cases h3:mask<=16777215
   ·have hv:Gv (p,m) (p',m') mask=(Ff p p' mask,Ff m m' mask):=by simp[Gv,h1,h2,h3]
    rw[hv];exact(Ajw p m p' m' mask w h1 h2 h3).mono fun e w' ⟨h,hb⟩=>⟨0,h,hb⟩
   ·have hv:Gv (p,m) (p',m') mask=(0,0):=by simp[Gv,h3]
    have H:=hI hv;clear hv;have a5:16777215<mask:=by omega
    go_enter Tryz.func220,Tryz.ntmps220;go_wp2_with(first|(go_at_call 152;refine(Ec _ _ _).mono ?_;rintro e w1 ⟨rfl,a0⟩;have a1:=Db a0;(try simp only[World.size_alloc,World.size_drew,World.size_setCell]at a1);have c0:=fun o=>a0.cell (p:=⟨w.heap.size,o,none⟩) sd;have c1:=fun o=>a0.cell (p:=⟨w.heap.size+1,o,none⟩) sd;have c2:=fun o=>a0.cell (p:=⟨w.heap.size+1+1,o,none⟩) sd;have f0:=fun o=>a0.frozen (p:=⟨w.heap.size,o,none⟩) sd;have f1:=fun o=>a0.frozen (p:=⟨w.heap.size+1,o,none⟩) sd;have f2:=fun o=>a0.frozen (p:=⟨w.heap.size+1+1,o,none⟩) sd;have a2:Below w.heap.size w w1:=bel;clear a0))
    all_goals exact bodyPost_ret (v:= .tuple #[C7 0 0, .int .i64 2]) (by simp[results,Tryz.results220,go_sem, *]) rfl ⟨2,by rw[H.out],bel⟩
  ·have a3:Bx p' m'=false:=by simpa using h2
   have hv:Gv (p,m) (p',m') mask=(0,0):=by simp[Gv,a3]
   have H:=hI hv;clear hv h2;go_enter Tryz.func220,Tryz.ntmps220;go_wp2_with(first|(go_at_call 152;refine(Ec _ _ _).mono ?_;rintro e w1 ⟨rfl,a0⟩;have a1:=Db a0;(try simp only[World.size_alloc,World.size_drew,World.size_setCell]at a1);have c0:=fun o=>a0.cell (p:=⟨w.heap.size,o,none⟩) sd;have c1:=fun o=>a0.cell (p:=⟨w.heap.size+1,o,none⟩) sd;have c2:=fun o=>a0.cell (p:=⟨w.heap.size+1+1,o,none⟩) sd;have f0:=fun o=>a0.frozen (p:=⟨w.heap.size,o,none⟩) sd;have f1:=fun o=>a0.frozen (p:=⟨w.heap.size+1,o,none⟩) sd;have f2:=fun o=>a0.frozen (p:=⟨w.heap.size+1+1,o,none⟩) sd;have a2:Below w.heap.size w w1:=bel;clear a0))
   all_goals exact bodyPost_ret (v:= .tuple #[C7 0 0, .int .i64 14]) (by simp[results,Tryz.results220,go_sem, *]) rfl ⟨14,by rw[H.out],bel⟩
 ·have a4:Bx p m=false:=by simpa using h1
  have hv:Gv (p,m) (p',m') mask=(0,0):=by simp[Gv,a4]
  have H:=hI hv;clear hv h1;go_enter Tryz.func220,Tryz.ntmps220;go_wp2_with(first|(go_at_call 152;refine(Ec _ _ _).mono ?_;rintro e w1 ⟨rfl,a0⟩;have a1:=Db a0;(try simp only[World.size_alloc,World.size_drew,World.size_setCell]at a1);have c0:=fun o=>a0.cell (p:=⟨w.heap.size,o,none⟩) sd;have c1:=fun o=>a0.cell (p:=⟨w.heap.size+1,o,none⟩) sd;have c2:=fun o=>a0.cell (p:=⟨w.heap.size+1+1,o,none⟩) sd;have f0:=fun o=>a0.frozen (p:=⟨w.heap.size,o,none⟩) sd;have f1:=fun o=>a0.frozen (p:=⟨w.heap.size+1,o,none⟩) sd;have f2:=fun o=>a0.frozen (p:=⟨w.heap.size+1+1,o,none⟩) sd;have a2:Below w.heap.size w w1:=bel;clear a0))
  all_goals exact bodyPost_ret (v:= .tuple #[C7 0 0, .int .i64 14]) (by simp[results,Tryz.results220,go_sem, *]) rfl ⟨14,by rw[H.out],bel⟩
end Go.Proofs.YtaglfmlgbcmakaaGreatDoor
