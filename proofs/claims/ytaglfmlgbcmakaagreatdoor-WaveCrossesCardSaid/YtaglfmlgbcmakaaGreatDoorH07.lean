/-
  ablautref06.Size returns; nothing old is written; parts of laws.
  few and good of ablautlaw38.
  Waves (chapter 38), in plain words: what the statements of the program alone ask of arrivals, of lists of points, and of lines.
  Forms and values (chapter 38), in plain words: which errors there are, and which points have the same number.
  (*points.Map).Roads.
  A case of chapter 38 that is allowed: what lies in memory, and what the calls return.
  works38 of ablauttop.
  small and few of ablauttop: they return.
  slices.IndexFunc over records of type []int.
  isogloss: check, cut, Cuts.
  isogloss.Cuts.
  The maps, laws, waves and words of ablauttop's statements about waves: plain words, and what lies in memory.
-/
import Derived.Test.YtaglfmlgbcmakaaGreatDoorXWk38
set_option linter.all false
set_option maxRecDepth 100000
set_option maxHeartbeats 4000000
namespace Go.Proofs.YtaglfmlgbcmakaaGreatDoor
open Go.RowKit Go.Shelf
def Ac8 (w:World)(e:Ending)(w':World):Prop:=(∃m:Int,e= .returned (.int .i64 m))/\Below w.heap.size w w'
def Ac9 (w:World)(e:Ending)(w':World):Prop:=(∃b:Bool,e= .returned (.bool b))/\Below w.heap.size w w'
def Rm (w:World)(e:Ending)(w':World):Prop:=e= .returned (.bool true)/\Below w.heap.size w w'
def Ada (k:Nd)(ch:Fo):Prop:=∀(w:World) (A:Option Addr) (n c:Nat) (m:Int),FSl w A n c ch->Calls Tryz.prog 115 #[E3 k A n c, .int .i64 m] w (Ac8 w)
theorem S6 (k:Nd)(ch:Fo)(ih:∀j k' ch',ch.get j=some (k',ch')->Ada k' ch'):Ada k ch:=by
 intro w A n c m0 hs;have hn:n<=9223372036854775807:=by have h1:=hs.1.2.1;have h2:=hs.1.2.2.1;unfold maxLen at h2;omega
 have HI:=hI ih;clear ih;have HS:=hI hs;clear hs;obtain⟨kind,isp,ism,neg,lo,hi⟩:=k;go_enter Tryz.func115,Tryz.ntmps115;go_wp2
 go_loopw [5,6] (fun nv i wr=>∃(j:Nat) (m:Int),i= .int .i64 j/\nv= .int .i64 m/\j<=n/\Hid (wr.heap[w.heap.size]? =some (.cells #[.int .i64 kind, .int .u32 isp, .int .u32 ism, .bool neg, .int .i64 lo, .int .i64 hi, .slice A n c] 52 (0,0)))/\Below w.heap.size w wr) (fun _ i _=>n-(intOf i).toNat)
 case atStart=>exact⟨0,_,rfl,rfl,Nat.zero_le _,hpt,bel⟩
 case round=>
  obtain⟨j,m,rfl,rfl,hj,hb,hB⟩:=hrel;have a7:=hB.size;have a5:=Ad (j:=6) hb.out rfl;by_cases hlt:j<n
  ·by_cases hm:m<=40
   ·obtain⟨⟨k',ch'⟩,hg⟩:=ch.get_lt j (by have:=HS.out.1.1;omega);obtain⟨b,off,A',n',c',rfl,a8,⟨h0,h1,h2,h3,h4,h5,h6⟩,⟨rfl,a6⟩,a0,_⟩:=(HS.out.below hB rr).2.at_ ch _ 0 j k' ch' hg;have HG:=hI hg;clear hg;have a2:=hI a0;clear a0;simp only[Nat.zero_add]at h0 h1 h2 h3 h4 h5 h6;go_wp2_with fail;refine(HI.out j k' ch' HG.out wr A' _ c' m ⟨⟨rfl,a6⟩,a2.out⟩).mono ?_;rintro e w1 ⟨⟨m1,rfl⟩,a1⟩;have a4:=hI ((a1.block w.heap.size (lt_of_block hb.out)).trans hb.out);have a3:=hB.trans (a1.mono a7);clear a1 h0 h1 h2 h3 h4 h5 h6 a5;go_wp2
    go_roundw
    case rel=>exact⟨j+1,m1,by go_num,rfl,by omega,a4,a3⟩
    case measure=>simp[intOf];omega
   ·go_wp2;go_ret;exact⟨⟨_,rfl⟩,hB⟩
  ·obtain rfl:j=n:=by omega
   go_wp2;go_ret;exact⟨⟨_,rfl⟩,hB⟩
theorem Pr:∀(f:Fo) (j:Nat) (k:Nd) (ch:Fo),f.get j=some (k,ch)->Ada k ch
 | .node k0 ch0 nx,0,k,ch,hg=>by
  obtain⟨rfl,rfl⟩:k0=k/\ch0=ch:=by simpa[Fo.get]using hg
  exact S6 _ _ (Pr ch0)
 | .node k0 ch0 nx,j+1,k,ch,hg=>Pr nx j k ch (by simpa[Fo.get]using hg)
theorem Akh (k:Nd)(ch:Fo):Ada k ch:=S6 k ch (Pr ch)
theorem W8 (k:Nd)(ch:Fo)(w:World)(A:Option Addr)(n c:Nat)(hs:FSl w A n c ch):Calls Tryz.prog 72 #[E3 k A n c] w (Ac8 w):=by
 obtain⟨kind,isp,ism,neg,lo,hi⟩:=k;have HS:=hI hs;clear hs;go_enter Tryz.func72,Tryz.ntmps72;go_wp2_with fail;refine(Akh ⟨kind,isp,ism,neg,lo,hi⟩ ch _ A n c 0 (HS.out.below (B:=w.heap.size) bel rr)).mono ?_;rintro e w1 ⟨⟨m1,rfl⟩,a0⟩;go_wp2;go_ret;exact⟨⟨_,rfl⟩,Below.step (by assumption) (by simp) bel⟩
theorem Aer {w:World}{b o:Nat}{x:Bj}(h:w.rangeAt b o x.cells):w.rangeAt b (o+1) (Ca x.l.left.1 x.a.Al x.l.left.2.len x.a.cl):=fun j v hv=>by
 have:=h (1+j) v (by
  have e:x.cells= .string x.l.name::(Ca x.l.left.1 x.a.Al x.l.left.2.len x.a.cl++(Ca x.l.right.1 x.a.Ar x.l.right.2.len x.a.cr++[.slice x.a.Ai x.l.ifs.length x.a.ci, .slice x.a.Ao x.l.outs.length x.a.co, .int .i64 x.l.mode])):=rfl;rw[e,Nat.add_comm,List.getElem?_cons_succ,List.getElem?_append_left (List.getElem?_eq_some_iff.1 hv).1];exact hv)
 rwa[show o+1+j=o+(1+j)by omega]
theorem Abx {w:World}{b o:Nat}{x:Bj}(h:w.rangeAt b o x.cells):w.rangeAt b (o+8) (Ca x.l.right.1 x.a.Ar x.l.right.2.len x.a.cr):=fun j v hv=>by
 have:=h (8+j) v (by
  have e:x.cells=(.string x.l.name::Ca x.l.left.1 x.a.Al x.l.left.2.len x.a.cl)++(Ca x.l.right.1 x.a.Ar x.l.right.2.len x.a.cr++[.slice x.a.Ai x.l.ifs.length x.a.ci, .slice x.a.Ao x.l.outs.length x.a.co, .int .i64 x.l.mode]):=rfl;rw[e,List.getElem?_append_right (by simp[Ca]),show 8+j-(Value.string x.l.name::Ca x.l.left.1 x.a.Al x.l.left.2.len x.a.cl).length=j by simp[Ca],List.getElem?_append_left (List.getElem?_eq_some_iff.1 hv).1];exact hv)
 rwa[show o+8+j=o+(8+j)by omega]
theorem Kh {ops:Array Oper}{S:World->Prop}{op:Oper}{ac:Act}(hw:Region.wanted op (yielded ops ac.tmps)=true)(x:Operand)(ho:op.op= .load 52 x)
  (b o:Nat) (k:Nd) (A:Option Addr) (n c:Nat) (hx:ac.eval x= .pointer (some ⟨b,o,none⟩)) (hS:∀w,S w->w.rangeAt b o (Ca k A n c)):YieldsIf Tryz.prog ops S op (E3 k A n c) ac:=
 .inl ⟨hw,fun w hw'=>by
  unfold execOp;simp only[ho,hx,Instr.loadAt,Instr.sureAddr,Sem.run_bind,Sem.run_pure,Result.andThen_ok,Wd (hS w hw')]⟩
theorem Gx {w w':World}{b o:Nat}{cs:List Value}(h:w.rangeAt b o cs){B:Nat}(hb:Below B w w')(hB:b<B):w'.rangeAt b o cs:=fun j v hv=>(hb.cell (p:=⟨b,_,none⟩) hB).trans (h j v hv)
structure EdR where
 An:Option Addr
 nn:Nat
 cn:Nat
 names:List ByteArray
 Ar:Option Addr
 nr:Nat
 cr:Nat
 roads:List Dt
 Al:Option Addr
 nl:Nat
 cl:Nat
 laws:List Bj
 Av:Option Addr
 nv:Nat
 cv:Nat
 waves:List Bu
 Aw:Option Addr
 nw:Nat
 cw:Nat
 word:List Snd
 a:Int
 i:Int
 j:Int
 now:Int
def EdR.cells (x:EdR):List Value:=[.slice x.An x.nn x.cn, .slice x.Ar x.nr x.cr, .slice x.Al x.nl x.cl, .slice x.Av x.nv x.cv, .slice x.Aw x.nw x.cw, .int .i64 x.a, .int .i64 x.i, .int .i64 x.j, .int .i64 x.now]
abbrev edV (x:EdR):Value:= .agg #[.slice x.An x.nn x.cn, .slice x.Ar x.nr x.cr, .slice x.Al x.nl x.cl, .slice x.Av x.nv x.cv, .slice x.Aw x.nw x.cw, .int .i64 x.a, .int .i64 x.i, .int .i64 x.j, .int .i64 x.now]
structure Qr (w:World)(x:EdR):Prop where
 names:E7 w x.An x.nn x.cn x.names
 roads:Cw w x.Ar x.nr x.cr x.roads
 laws:Br w x.Al x.nl x.cl x.laws
 waves:Bv w x.Av x.nv x.cv x.waves
 word:Aj w x.Aw x.nw x.cw x.word
 now: -9223372036854775808<=x.now/\x.now<=9223372036854775807
 nsz:∀s∈x.names,s.size<=9223372036854775807
theorem Qr.below {w w':World}{x:EdR}(h:Qr w x)(hb:Below w.heap.size w w'):Qr w' x:=
 ⟨h.names.below hb rr,h.roads.below hb rr,h.laws.below hb rr,h.waves.below hb,h.word.below hb rr,h.now,h.nsz⟩
def Ak4 (x:EdR):Prop:=(x.nn<=12\/128<x.nn)/\(x.nr<=40\/512<x.nr)/\(x.nv<=6\/64<x.nv)/\x.nw<=100/\(x.nl<=6\/64<x.nl)/\x.nv<=100
end Go.Proofs.YtaglfmlgbcmakaaGreatDoor
namespace Go.Proofs.YtaglfmlgbcmakaaGreatDoor
open Go.RowKit
-- lists of points gone over
def Aks (P:Nat->Bool)(c:Nat):Nat:=((List.range c).filter P).length
def Kn (P:Nat->Bool)(n:Nat):List Int:=((List.range n).filter P).map fun(a:Nat)=>(a:Int)
section
variable {P:Nat->Bool}{n c:Nat}
theorem Adc:(Kn P n).length=Aks P n:=by unfold Kn Aks;rw[List.length_map]
theorem Aiq:Aks P c<=c:=by unfold Aks;exact Nat.le_trans (List.length_filter_le _ _) (by simp)
end
section
variable {n:Nat}{rs:List Bb}{ws:List Cv}{i j c s t:Nat}
end
theorem Air {n:Nat}{rs:List Bb}{ws:List Cv}{i c:Nat}{x:Cv}(h:ws[i]? =some x):tAt n rs ws c i=De n rs x c:=by unfold tAt;rw[h];rfl
-- the nearest beginning
theorem Akt {a b:Option Nat}{k:Nat}(h:Jm a b=some k):(∀x,a=some x->k<=x)/\(∀x,b=some x->k<=x)/\(a=some k\/b=some k):=by
 cases a with
 |none=>
  have hb:b=some k:=h;subst hb;exact⟨fun x hx=>(by cases hx),fun x hx=>(by cases hx;exact rr), .inr rfl⟩
 |some a=>
  cases b with
  |none=>
   have ha:some a=some k:=h;cases ha;exact⟨fun x hx=>(by cases hx;exact rr),fun x hx=>(by cases hx), .inl rfl⟩
  |some b=>
   have hm:min a b=k:=by simpa[Jm]using h
   subst hm;refine⟨fun x hx=>(by cases hx;omega),fun x hx=>(by cases hx;omega), ?_⟩
   rcases Nat.le_total a b with e|e
   ·exact .inl (by rw[Nat.min_eq_left e])
   ·exact .inr (by rw[Nat.min_eq_right e])
theorem Z5 {a b:Option Nat}(h:Jm a b=none):a=none/\b=none:=by
 cases a with
 |none=>exact⟨rfl,h⟩
 |some a=>cases b<;>cases h
theorem Mr (l:List (Option Nat))(o:Option Nat):Fl (l++[o])=Jm (Fl l) o:=by
 unfold Fl;rw[List.foldl_append];rfl
theorem Ais (l:List (Option Nat)):∀k,Fl l=some k->(∀x,some x∈l->k<=x)/\some k∈l:=by
 induction h:l.length generalizing l with
 |zero=>
  obtain rfl:=List.length_eq_zero_iff.1 h;intro k hk;cases hk
 |succ m ih=>
  obtain⟨l',o,rfl⟩:∃l' o,l=l'++[o]:=⟨l.dropLast,l.getLast (by intro e;subst e;cases h),(List.dropLast_concat_getLast _).symm⟩;intro k hk;rw[Mr]at hk;obtain⟨h1,h2,h3⟩:=Akt hk;have hl:l'.length=m:=by simpa using h
  refine⟨fun x hx=> ?_, ?_⟩
  ·rcases List.mem_append.1 hx with hx|hx
   ·cases hn:Fl l' with
    |none=>
     exfalso
     have key:∀l:List (Option Nat),Fl l=none→∀o∈l,o=none:=by
      intro l
      induction h:l.length generalizing l with
      |zero=>obtain rfl:=List.length_eq_zero_iff.1 h;intro _ o ho;cases ho
      |succ m ih=>
       obtain⟨l',o',rfl⟩:∃l' o,l=l'++[o]:=⟨l.dropLast,l.getLast (by intro e;subst e;cases h),(List.dropLast_concat_getLast _).symm⟩;intro hn o ho;rw[Mr]at hn;obtain⟨a1,a2⟩:=Z5 hn;rcases List.mem_append.1 ho with ho|ho
       ·exact ih l' (by simpa using h) a1 o ho
       ·have:o=o':=by simpa using ho
        rw[this];exact a2
     have:=key l' hn _ hx
     cases this
    |some y=>exact Nat.le_trans (h1 y hn) ((ih l' hl y hn).1 x hx)
   ·exact h2 x (List.mem_singleton.1 hx).symm
  ·rcases h3 with h3|h3
   ·exact List.mem_append.2 (.inl (ih l' hl k h3).2)
   ·exact List.mem_append.2 (.inr (by rw[h3];simp))
def Jc (n:Nat)(rs:List Bb)(ps:List Int)(c k:Nat):Option Nat:=Fl ((ps.take k).map fun b=>D3 n rs b.toNat c)
theorem Ae0 {n:Nat}{rs:List Bb}{ps:List Int}{c k:Nat}{b:Int}(h:ps[k]? =some b):Jc n rs ps c (k+1)=Jm (Jc n rs ps c k) (D3 n rs b.toNat c):=by
 unfold Jc;rw[List.take_add_one,h,Option.toList_some,List.map_append,List.map_singleton,Mr]
theorem Ait {n:Nat}{rs:List Bb}(hr:Ci n rs){x:Cv}{c:Nat}:Jc n rs x.at_ c x.at_.length=L5 n rs x c:=by
 unfold Jc L5;rw[List.take_length];congr 1;exact List.map_congr_left fun b _=>Vw hr _ _
theorem Ab7 {n:Nat}{rs:List Bb}{x:Cv}{c d:Nat}(hn:L5 n rs x c=some d)(hu:x.fin<=9223372036854775807)(h:((x.time.toNat+x.slow.toNat*d:Nat):Int)<x.fin):De n rs x c=some (x.time.toNat+x.slow.toNat*d):=by
 unfold De Ev;rw[hn];dsimp only;rw[if_neg (by omega),if_neg (by omega)]
theorem Ab8 {n:Nat}{rs:List Bb}{x:Cv}{c d:Nat}(hn:L5 n rs x c=some d)(h:x.fin<=((x.time.toNat+x.slow.toNat*d:Nat):Int)):De n rs x c=none:=by
 unfold De Ev;rw[hn];dsimp only;split
 ·rfl
 ·rfl
theorem Ae1 {n:Nat}{rs:List Bb}{x:Cv}{c:Nat}(hn:L5 n rs x c=none):De n rs x c=none:=by
 unfold De Ev;rw[hn]
theorem Aku {n:Nat}{rs:List Bb}(hr:Ci n rs){x:Cv}{c d:Nat}(h:L5 n rs x c=some d):d<=1073741824*(n-1):=by
 obtain⟨_,hm⟩:=Ais _ _ h;obtain⟨b,_,hb⟩:=List.mem_map.1 hm;exact Akv hr hb
section
variable {n:Nat}{rs:List Bb}{ws:List Cv}{a:Nat}
theorem Aiu (now:Int):(Et n rs ws a now).length=((List.range ws.length).filter fun i=>En now (tAt n rs ws a i)).length:=by
 unfold Et Jd;rw[List.length_map,Hr (B8 _)]
end
section
variable {f:Nat->Int×List Snd}
theorem Ak9:∀(L:List Nat) (done:List (List Snd)),(∀a∈L,(f a).1=0)->Du f done L=(0,done++L.map fun a=>(f a).2)
 |[],done,_=>by simp[Du]
 |a::L,done,h=>by
  unfold Du;rw[if_neg (by simp[h a (List.mem_cons_self ..)]),Ak9 L _ fun b hb=>h b (List.mem_cons_of_mem _ hb)]
  simp
theorem Aio:∀(L:List Nat) (done:List (List Snd)),(∃a∈L,(f a).1≠0)→∃a∈L,(f a).1≠0/\Du f done L=((f a).1,[])
 |[],done,h=>by obtain⟨a,ha,_⟩:=h;cases ha
 |b::L,done,h=>by
  by_cases h0:(f b).1=0
  ·obtain⟨a,ha,a0⟩:=h;rcases List.mem_cons.1 ha with e|ha
   ·subst e;exact absurd h0 a0
   ·obtain⟨x,hx,h1,h2⟩:=Aio L (done++[(f b).2]) ⟨a,ha,a0⟩;refine⟨x,List.mem_cons_of_mem _ hx,h1, ?_⟩;unfold Du;rw[if_neg (by simpa using h0)];exact h2
  ·refine⟨b,List.mem_cons_self ..,h0, ?_⟩;unfold Du;rw[if_pos h0]
end
theorem Akq {ls:List Bi}{on:List Int}{l:Bi}(h:l∈Df ls on):l∈ls:=by
 unfold Df at h;obtain⟨i,_,hi⟩:=List.mem_filterMap.1 h;exact List.mem_of_getElem? hi
theorem Akr {ls:List Bi}{on:List Int}:(Df ls on).length<=on.length:=List.length_filterMap_le _ _
section
variable {n:Nat}{rs:List Bb}{ls:List Bi}{ws:List Cv}{w:List Snd}{now:Int}
theorem Ab6 {a:Nat}:(Et n rs ws a now).length<=ws.length:=by
 rw[Aiu];exact Nat.le_trans (List.length_filter_le _ _) (by simp)
theorem Ama {a:Nat}(h:Ck n ls ws=0):Dg (Df ls (Et n rs ws a now))=0:=by
 obtain⟨_,h1,h2,_⟩:=Dj h;obtain⟨h3,h4⟩:=Vt h1;have hl:(Df ls (Et n rs ws a now)).length<=64:=Nat.le_trans Akr (Nat.le_trans Ab6 h2);unfold Dg;rw[if_neg (by omega),if_neg];intro a0;obtain⟨l,hl,hb⟩:=List.any_eq_true.1 a0;rw[h4 l (Akq hl)]at hb;exact absurd hb (by decide)
theorem Aip {a:Nat}(h:Ck n ls ws=0)(hw:Cg w=0):(Eo n rs ls ws w now a).1=0\/Eo n rs ls ws w now a=(11,[]):=by
 unfold Eo;rw[Aeu (Ama h) hw];split
 ·exact .inr rfl
 ·exact .inl rfl
theorem Tf {a:Nat}(h:Ck n ls ws=0)(hw:Cg w=0)(ha:a<n)(he:(Eo n rs ls ws w now a).1≠0):Bo n rs ls ws w now=(11,[]):=by
 unfold Bo;rw[if_neg (by rw[h];simp),if_neg (by rw[hw];simp)];obtain⟨x,_,h1,h2⟩:=Aio (f:=Eo n rs ls ws w now) (List.range n) [] ⟨a,List.mem_range.2 ha,he⟩;rw[h2];rcases Aip (rs:=rs) (a:=x) (now:=now) h hw with h3|h3
 ·exact absurd h3 h1
 ·rw[h3]
theorem Tg (h:Ck n ls ws=0)(hw:Cg w=0)(ha:∀a,a<n->(Eo n rs ls ws w now a).1=0):Bo n rs ls ws w now=(0,(List.range n).map fun a=>(Eo n rs ls ws w now a).2):=by
 unfold Bo;rw[if_neg (by rw[h];simp),if_neg (by rw[hw];simp),Ak9 _ _ fun a hm=>ha a (List.mem_range.1 hm)]
 rfl
end
end Go.Proofs.YtaglfmlgbcmakaaGreatDoor
namespace Go.Proofs.YtaglfmlgbcmakaaGreatDoor
open Go.RowKit Go.Shelf
theorem C0.roads {w:World}{b n:Nat}{rs:List Bb}(h:C0 w b n rs):∃Ar cr,w.cell? ⟨b,2,none⟩=some (.slice Ar rs.length cr)/\Cw w Ar rs.length cr (rs.map Hi):=by
 obtain⟨An,cn,mb,Ar,cr,Aq,cq,vs,h⟩:=h;exact⟨Ar,cr,Ad h.blk rfl,h.roads⟩
theorem Cw.at_ {w:World}{A:Option Addr}{n c k:Nat}{rs:List Dt}{r:Dt}(h:Cw w A n c rs)(hx:rs[k]? =some r):∃b off,A=some ⟨b,off,none⟩/\b<w.heap.size∧
  w.cell? ⟨b,off+k*3,none⟩=some (.int .i64 r.1)/\w.cell? ⟨b,off+k*3+1,none⟩=some (.int .i64 r.2.1)/\w.cell? ⟨b,off+k*3+2,none⟩=some (.int .i64 r.2.2):=by
 obtain⟨b,off,hA,hb,hc⟩:=Cr.at_ h Ut (by decide) hx;refine⟨b,off,hA,hb, ?_⟩;simp only[Nat.add_assoc];exact⟨hc 0 _ rfl,hc 1 _ rfl,hc 2 _ rfl⟩
structure GdW (x:EdR)(rs:List Bb)(b:Nat)(W:World):Prop where
 m:C0 W b x.nn rs
 e:Qr W x
 t:Cd W
structure GdN (x:EdR):Prop where
 ok:Ck x.nn (Ah x.laws) (Ae x.waves)=0
 n:x.nn<=12
 v:x.nv<=6
 l:x.nl<=6
section
variable {x:EdR}{rs:List Bb}{b:Nat}{W W':World}
theorem GdW.below (h:GdW x rs b W)(hb:Below W.heap.size W W'):GdW x rs b W':=⟨h.m.below hb,h.e.below hb,h.t.below hb rr⟩
theorem Pa {ys:List Bu}{k:Nat}{y:Bu}(h:ys[k]? =some y):(Ae ys)[k]? =some y.d:=by rw[Ae,List.getElem?_map,h];rfl
theorem GdW.len (h:GdW x rs b W):(Ae x.waves).length=x.nv:=by rw[Ae,List.length_map];exact h.e.waves.len
theorem GdN.one (hn:GdN x){y:Bu}(hy:y∈x.waves):Di x.nn y.d=0:=((Dj hn.ok).2.2.2 y.d (List.mem_map.2 ⟨y,hy,rfl⟩)).2.2
theorem GdN.law (hn:GdN x){y:Bu}(hy:y∈x.waves):0<=y.d.law/\y.d.law<(x.laws.length:Int):=by
 have:=(Dj hn.ok).2.2.2 y.d (List.mem_map.2 ⟨y,hy,rfl⟩)
 rw[Ah,List.length_map]at this;exact⟨this.1,this.2.1⟩
theorem GdW.arrive (h:GdW x rs b W)(hn:GdN x){k:Nat}{y:Bu}(hy:x.waves[k]? =some y):
  Calls Tryz.prog 20 #[.pointer (some ⟨b,0,none⟩),M8 y] W fun e w'=>∃A c,e= .returned (.tuple #[.slice A x.nn c, .int .i64 0])/\Bn w' A x.nn c ((List.range x.nn).map fun a=>Bf (tAt x.nn rs (Ae x.waves) a k))/\Below W.heap.size W w':=by
 have hm:=List.mem_of_getElem? hy;refine(J2 b x.nn rs y W h.m (h.e.waves.2 y hm)).mono ?_
 have e:Cx x.nn rs y.d=(0,(List.range x.nn).map fun a=>Bf (tAt x.nn rs (Ae x.waves) a k)):=by
  unfold Cx;rw[if_neg (by have:=(Dj hn.ok).1;omega),if_neg (by rw[hn.one hm];simp)];congr 1;exact List.map_congr_left fun a _=>by rw[Air (Pa hy)]
 rw[e];rintro e w' ⟨A,m,c,rfl,hi,hb⟩;obtain rfl:m=x.nn:=by have:=hi.len;simpa using this.symm
 exact⟨A,c,rfl,hi,hb⟩
theorem GdW.line (h:GdW x rs b W)(hn:GdN x){c:Nat}(hc:c<x.nn)(now:Int):
  Calls Tryz.prog 29 #[.pointer (some ⟨b,0,none⟩), .slice x.Al x.nl x.cl, .slice x.Av x.nv x.cv, .int .i64 (c:Int), .int .i64 now] W fun e w'=>∃A k cap,e= .returned (.tuple #[.slice A k cap, .int .i64 0])/\k=(Et x.nn rs (Ae x.waves) c now).length/\Bn w' A k cap (Et x.nn rs (Ae x.waves) c now)/\Below W.heap.size W w':=by
 refine(Xj b x.nn rs x.Al x.nl x.cl x.laws x.Av x.nv x.cv x.waves c now W h.m h.e.laws h.e.waves h.t (.inl (by have:=hn.v;omega))).mono ?_
 have e:Fm x.nn rs (Ah x.laws) (Ae x.waves) c now=(0,Et x.nn rs (Ae x.waves) c now):=by
  unfold Fm;rw[if_neg (by rw[hn.ok];simp),if_neg (by omega)];rfl
 rw[e];rintro e w' ⟨A,m,c,rfl,hi,hb⟩;exact⟨A,m,c,rfl,hi.len.symm,hi,hb⟩
theorem GdW.forms (h:GdW x rs b W)(hn:GdN x)(now:Int):
  Calls Tryz.prog 18 #[.pointer (some ⟨b,0,none⟩), .slice x.Al x.nl x.cl, .slice x.Av x.nv x.cv, .slice x.Aw x.nw x.cw, .int .i64 now] W fun e w'=>∃A k c,e= .returned (.tuple #[.slice A k c, .int .i64 (Bo x.nn rs (Ah x.laws) (Ae x.waves) x.word now).1])/\k=(Bo x.nn rs (Ah x.laws) (Ae x.waves) x.word now).2.length/\B3 w' A k c (Bo x.nn rs (Ah x.laws) (Ae x.waves) x.word now).2/\Below W.heap.size W w':=by
 refine(Lr b x.nn rs x.Al x.nl x.cl x.laws x.Av x.nv x.cv x.waves x.Aw x.nw x.cw x.word now W h.m h.e.laws h.e.waves h.e.word h.t (.inl (by have:=hn.v;omega))).mono ?_;rintro e w' ⟨A,c,ps,rfl,a1,a0,a2, -,hb⟩;exact⟨A,_,c,rfl,by rw[←a1,List.length_map],⟨ps,a1,Am.of_own a0 (by decide),a2⟩,hb⟩
theorem GdW.values (h:GdW x rs b W)(hn:GdN x)(now:Int):
  Calls Tryz.prog 24 #[.pointer (some ⟨b,0,none⟩), .slice x.Al x.nl x.cl, .slice x.Av x.nv x.cv, .slice x.Aw x.nw x.cw, .int .i64 now] W fun e w'=>∃A k c,e= .returned (.tuple #[.slice A k c, .int .i64 (Lq x.nn rs (Ah x.laws) (Ae x.waves) x.word now).1])/\k=(Lq x.nn rs (Ah x.laws) (Ae x.waves) x.word now).2.length/\Bn w' A k c (Lq x.nn rs (Ah x.laws) (Ae x.waves) x.word now).2/\Below W.heap.size W w':=by
 refine(Acc b x.nn rs x.Al x.nl x.cl x.laws x.Av x.nv x.cv x.waves x.Aw x.nw x.cw x.word now W h.m h.e.laws h.e.waves h.e.word h.t (.inl (by have:=hn.v;omega))).mono ?_;rintro e w' ⟨A,m,c,rfl,hi,hb⟩;exact⟨A,m,c,rfl,hi.len.symm,hi,hb⟩
theorem GdW.length (h:GdW x rs b W):Calls Tryz.prog 19 #[.pointer (some ⟨b,0,none⟩)] W fun e w'=>e= .returned (.int .i64 (x.nn:Int))/\Below W.heap.size W w':=by
 obtain⟨An,cn,mb,Ar,cr,Aq,cq,c0,_⟩:=h.m.cells;exact Gz b An x.nn cn W c0
end
structure StW (w:World)(x:EdR)(rs:List Bb)(b bx:Nat)(W:World):Prop where
 g:GdW x rs b W
 k:W.heap[bx]? =some (.cells #[.slice x.An x.nn x.cn, .slice x.Ar x.nr x.cr, .slice x.Al x.nl x.cl, .slice x.Av x.nv x.cv, .slice x.Aw x.nw x.cw, .int .i64 x.a, .int .i64 x.i, .int .i64 x.j, .int .i64 x.now] 66 (0,0))
 bl:Below w.heap.size w W
section
variable {w W W':World}{x:EdR}{rs:List Bb}{b bx:Nat}
theorem StW.step (h:StW w x rs b bx W)(hb:Below W.heap.size W W'):StW w x rs b bx W':=
 ⟨h.g.below hb,(hb.block bx (lt_of_block h.k)).trans h.k,h.bl.trans (hb.mono h.bl.size)⟩
theorem StW.c0 (h:StW w x rs b bx W):W.cell? ⟨bx,0,none⟩=some (.slice x.An x.nn x.cn):=Ad h.k rfl
theorem StW.c1 (h:StW w x rs b bx W):W.cell? ⟨bx,1,none⟩=some (.slice x.Ar x.nr x.cr):=Ad h.k rfl
theorem StW.c2 (h:StW w x rs b bx W):W.cell? ⟨bx,2,none⟩=some (.slice x.Al x.nl x.cl):=Ad h.k rfl
theorem StW.c3 (h:StW w x rs b bx W):W.cell? ⟨bx,3,none⟩=some (.slice x.Av x.nv x.cv):=Ad h.k rfl
theorem StW.c4 (h:StW w x rs b bx W):W.cell? ⟨bx,4,none⟩=some (.slice x.Aw x.nw x.cw):=Ad h.k rfl
theorem StW.c8 (h:StW w x rs b bx W):W.cell? ⟨bx,8,none⟩=some (.int .i64 x.now):=Ad h.k rfl
theorem StW.wave (h:StW w x rs b bx W){k:Nat}(hk:k<x.nv):∃(y:Bu) (yb yo:Nat),x.waves[k]? =some y/\yb<W.heap.size/\W.cell? ⟨bx,3,none⟩=some (.slice (some ⟨yb,yo,none⟩) x.nv x.cv)∧
  W.cell? ⟨yb,yo+k*5,none⟩=some (.int .i64 y.d.law)/\W.cell? ⟨yb,yo+k*5+1,none⟩=some (.slice y.A y.n y.c)/\W.cell? ⟨yb,yo+k*5+2,none⟩=some (.int .i64 y.d.time)/\W.cell? ⟨yb,yo+k*5+3,none⟩=some (.int .i64 y.d.slow)/\W.cell? ⟨yb,yo+k*5+4,none⟩=some (.int .i64 y.d.fin):=by
 obtain⟨y,hy⟩:=h.g.e.waves.get hk;obtain⟨yb,yo,hA,a0,_,l0,l1,l2,l3,l4⟩:=h.g.e.waves.at_ hy;exact⟨y,yb,yo,hy,a0,by rw[←hA];exact h.c3,l0,l1,l2,l3,l4⟩
end
def S8:List ByteArray:=[⟨#[97]⟩,⟨#[98]⟩]
def N0:List Dt:=[(0,1,3)]
def N1:List Bb:=[(0,1,3)]
def Aew:Cv:=⟨0,[0],1,2,100⟩
theorem Akl:Dp S8 N0=0:=by kernel_rfl
theorem Aex:N0.map Be=N1:=rfl
theorem Akm:Cx 2 N1 Aew=(0,[1,7]):=by kernel_rfl
theorem Al8:Acq Aew:=⟨by decide,by decide,by decide,by decide,fun x hx=>by
 have h:x=0:=by simpa[Aew]using hx
 rw[h];decide⟩
theorem Cp (w:World):Calls Tryz.prog 17 #[] w fun e w'=>e= .returned (.bool true)/\Below w.heap.size w w':=by
 go_enter Tryz.func17,Tryz.ntmps17;go_wp2_with fail;have a8:E7 (w.alloc (.cells #[.string ⟨#[97]⟩, .string ⟨#[98]⟩] 9)) (some ⟨w.heap.size,0,none⟩) 2 2 S8:=E4 w _ _ 2 1 rfl (by decide);have a3:Below w.heap.size w (w.alloc (.cells #[.string ⟨#[97]⟩, .string ⟨#[98]⟩] 9)):=(Below.refl _ w).alloc rr _;have hsz:(w.alloc (.cells #[.string ⟨#[97]⟩, .string ⟨#[98]⟩] 9)).heap.size=w.heap.size+1:=by simp
 generalize w.alloc (.cells #[.string ⟨#[97]⟩, .string ⟨#[98]⟩] 9)=V1 at*;have a1:Cw (V1.alloc (.cells #[.int .i64 0, .int .i64 1, .int .i64 3] 64)) (some ⟨V1.heap.size,0,none⟩) 1 1 N0:=⟨E4 V1 _ _ 1 3 rfl (by decide),rfl⟩;rw[hsz]at a1;have a0:Below V1.heap.size V1 (V1.alloc (.cells #[.int .i64 0, .int .i64 1, .int .i64 3] 64)):=(Below.refl _ V1).alloc rr _;generalize V1.alloc (.cells #[.int .i64 0, .int .i64 1, .int .i64 3] 64)=V2 at*;refine(Acu _ 2 2 S8 _ 1 1 N0 V2 (a8.below a0 rr) a1).mono ?_;rintro e w1 ⟨⟨h0, -⟩|⟨-,b,rfl,a6⟩,b1⟩
 ·exact absurd Akl h0
 rw[Aex]at a6;have a9:Hid (C0 w1 b 2 N1):=a6;have a7:Below w.heap.size w w1:=a3.trans ((a0.trans (b1.mono a0.size)).mono a3.size);have a4:=hI a7;clear a8 a3 hsz a1 a0 a6 b1 a7;go_wp2_with fail;have h5:Bn (w1.alloc (.cells #[.int .i64 0] 3)) (some ⟨w1.heap.size,0,none⟩) 1 1 [0]:=E4 w1 [.int .i64 0] _ 1 1 rfl (by decide);have z5:Below w1.heap.size w1 (w1.alloc (.cells #[.int .i64 0] 3)):=(Below.refl _ w1).alloc rr _;have a5:=hI (J2 b 2 N1 ⟨Aew,some ⟨w1.heap.size,0,none⟩,1,1⟩ _ (a9.out.below z5) ⟨h5,Al8⟩);rw[show(⟨Aew,some ⟨w1.heap.size,0,none⟩,1,1⟩:Bu).d=Aew from rfl,Akm]at a5;have HZ:=hI (a4.out.trans (z5.mono a4.out.size));clear h5 z5 a4;refine a5.out.mono ?_;rintro e w2 ⟨A2,n2,c2,rfl,a2,b0⟩;obtain rfl:n2=2:=a2.len.symm;obtain⟨sb,so,v,rfl,b3,hc,hv⟩:=a2.at_ (k:=1) (by omega);obtain rfl:(7:Int)=v:=Option.some.inj hv;have b2:=hI (HZ.out.trans (b0.mono HZ.out.size));clear b0 a2 hv a5 HZ a9;go_wp2;go_ret;exact⟨rfl,b2.out⟩
theorem Abz (l:Bi)(a:D8)(w:World)(hl:Ew w l a):Calls Tryz.prog 58 #[Ez l a] w (Ac9 w):=by
 have HL:=hI hl;clear hl;obtain⟨Wb,b5,a4,a2,a3,b6⟩:=Ga w l a;have hL:=Rz a4;have hR:=Pd a4;obtain⟨d0,d1,d2,d3⟩:=Cb a4
 have a5:Hid (∀W',Below Wb.heap.size Wb W'->W'.rangeAt w.heap.size 1 (Ca l.left.1 a.Al l.left.2.len a.cl)/\W'.rangeAt w.heap.size 8 (Ca l.right.1 a.Ar l.right.2.len a.cr)/\W'.cell? ⟨w.heap.size,15,none⟩=some (.slice a.Ai l.ifs.length a.ci)/\W'.cell? ⟨w.heap.size,16,none⟩=some (.slice a.Ao l.outs.length a.co)):=fun W' hb=>
  ⟨Gx hL hb a2,Gx hR hb a2,(hb.cell (p:=⟨w.heap.size,_,none⟩) a2).trans d1,(hb.cell (p:=⟨w.heap.size,_,none⟩) a2).trans d2⟩
 have b4:Hid (∀W',Below Wb.heap.size Wb W'->FSl W' a.Al l.left.2.len a.cl l.left.2):=fun W' hb=>(HL.out.below a3 rr).1.below hb rr
 have b3:Hid (∀W',Below Wb.heap.size Wb W'->FSl W' a.Ar l.right.2.len a.cr l.right.2):=fun W' hb=>(HL.out.below a3 rr).2.1.below hb rr
 clear d0 d1 d2 d3 hL hR;go_enter Tryz.func58,Tryz.ntmps58;go_wp2_with fail;clear b5;obtain⟨bx,a8⟩:∃bx,bx=w.heap.size:=⟨_,rfl⟩;rw[←a8]at a5 a2 ⊢;have b1:=hI a3;clear a4 a3 a8;refine Bg (fun W'=>W'.rangeAt bx 1 (Ca l.left.1 a.Al l.left.2.len a.cl)/\W'.rangeAt bx 8 (Ca l.right.1 a.Ar l.right.2.len a.cr)/\W'.cell? ⟨bx,15,none⟩=some (.slice a.Ai l.ifs.length a.ci)/\W'.cell? ⟨bx,16,none⟩=some (.slice a.Ao l.outs.length a.co)) (by kernel_rfl) (a5.out Wb.drew (Below.refl _ Wb).drew) (fun hHeld=> ?_)
 (refine' Ab 0 rfl ?_;(try simp only[Act.put,nY,nX]))
 (refine' Bm (i:=1) (v:=E3 l.left.1 a.Al l.left.2.len a.cl) rfl (by kernel_rfl) (by kernel_rfl) (by kernel_rfl) (by kernel_rfl) (fun _ _ _ h=>h) (Kh (by rfl) (.tmp 3) rfl bx 1 _ _ _ _ (by rfl) (fun _ h=>h.1)) (by assumption) ?_;(try simp only[Act.put,nY,nX]))
 (refine' Ab 3 rfl ?_;(try simp only[Act.put,nY,nX]))
 (refine' Bm (i:=4) (v:=E3 l.right.1 a.Ar l.right.2.len a.cr) rfl (by kernel_rfl) (by kernel_rfl) (by kernel_rfl) (by kernel_rfl) (fun _ _ _ h=>h) (Kh (by rfl) (.tmp 6) rfl bx 8 _ _ _ _ (by rfl) (fun _ h=>h.2.1)) (by assumption) ?_;(try simp only[Act.put,nY,nX]))
 clear hHeld
 (refine Am8 2 rfl (fun K' hK'=> ?_);simp only[nY];go_simp)
 have a7:Below Wb.heap.size Wb Wb.drew:=(Below.refl _ Wb).drew;refine(W8 l.left.1 l.left.2 Wb.drew a.Al l.left.2.len a.cl (b4.out _ a7)).mono ?_;rintro e w1 ⟨⟨m1,rfl⟩,b2⟩;have a0:=a7.trans b2;have a9:=a5.out w1 a0;refine hK' _ _ ⟨.inr a9,fun _=> ?_⟩
 clear hK' K' a7 b2
 (try simp only[Act.put,nY,nX])
 (refine Am8 5 rfl (fun K' hK'=> ?_);simp only[nY];go_simp)
 refine(W8 l.right.1 l.right.2 w1 a.Ar l.right.2.len a.cr (b3.out _ a0)).mono ?_;rintro e w2 ⟨⟨m2,rfl⟩,b0⟩;have a1:=a0.trans (b0.mono a0.size);have hS:=a5.out w2 a1;have a6:=hI (b1.out.trans (a1.mono b1.out.size));refine hK' _ _ ⟨.inr hS,fun _=> ?_⟩
 clear hK' K' a0 b0 a9 a1
 (try simp only[Act.put,nY,nX])
 (refine' Ab 6 rfl ?_;(try simp only[Act.put,nY,nX]));(refine' Ab 7 rfl ?_;(try simp only[Act.put,nY,nX]));(refine' Ab 8 rfl ?_;(try simp only[Act.put,nY,nX]))
 generalize decide (IntKind.i64.wrap (m1+m2)<=30)=q
 cases q with
 |false=>
  refine' Bm (i:=9) (v:=undef) rfl (by as_aux_lemma=>kernel_rfl) (by as_aux_lemma=>kernel_rfl) (by as_aux_lemma=>kernel_rfl) (by as_aux_lemma=>kernel_rfl) (fun _ _ _ h=>h) (Or.inr ⟨by as_aux_lemma=>kernel_rfl,rfl⟩) hS ?_
  (try simp only[Act.put,nY,nX])
  refine' Bm (i:=10) (v:=undef) rfl (by as_aux_lemma=>kernel_rfl) (by as_aux_lemma=>kernel_rfl) (by as_aux_lemma=>kernel_rfl) (by as_aux_lemma=>kernel_rfl) (fun _ _ _ h=>h) (Or.inr ⟨by as_aux_lemma=>kernel_rfl,rfl⟩) hS ?_
  (try simp only[Act.put,nY,nX])
  refine' Bm (i:=11) (v:=undef) rfl (by as_aux_lemma=>kernel_rfl) (by as_aux_lemma=>kernel_rfl) (by as_aux_lemma=>kernel_rfl) (by as_aux_lemma=>kernel_rfl) (fun _ _ _ h=>h) (Or.inr ⟨by as_aux_lemma=>kernel_rfl,rfl⟩) hS ?_
  (try simp only[Act.put,nY,nX])
  refine' Bm (i:=12) (v:=undef) rfl (by as_aux_lemma=>kernel_rfl) (by as_aux_lemma=>kernel_rfl) (by as_aux_lemma=>kernel_rfl) (by as_aux_lemma=>kernel_rfl) (fun _ _ _ h=>h) (Or.inr ⟨by as_aux_lemma=>kernel_rfl,rfl⟩) hS ?_
  (try simp only[Act.put,nY,nX])
  (refine' Ab 13 rfl ?_;(try simp only[Act.put,nY,nX]));(refine' Ab 14 rfl ?_;(try simp only[Act.put,nY,nX]))
  refine' Bm (i:=15) (v:=undef) rfl (by as_aux_lemma=>kernel_rfl) (by as_aux_lemma=>kernel_rfl) (by as_aux_lemma=>kernel_rfl) (by as_aux_lemma=>kernel_rfl) (fun _ _ _ h=>h) (Or.inr ⟨by as_aux_lemma=>kernel_rfl,rfl⟩) hS ?_
  (try simp only[Act.put,nY,nX])
  refine' Bm (i:=16) (v:=undef) rfl (by as_aux_lemma=>kernel_rfl) (by as_aux_lemma=>kernel_rfl) (by as_aux_lemma=>kernel_rfl) (by as_aux_lemma=>kernel_rfl) (fun _ _ _ h=>h) (Or.inr ⟨by as_aux_lemma=>kernel_rfl,rfl⟩) hS ?_
  (try simp only[Act.put,nY,nX])
  refine' Bm (i:=17) (v:=undef) rfl (by as_aux_lemma=>kernel_rfl) (by as_aux_lemma=>kernel_rfl) (by as_aux_lemma=>kernel_rfl) (by as_aux_lemma=>kernel_rfl) (fun _ _ _ h=>h) (Or.inr ⟨by as_aux_lemma=>kernel_rfl,rfl⟩) hS ?_
  (try simp only[Act.put,nY,nX])
  refine' Bm (i:=18) (v:=undef) rfl (by as_aux_lemma=>kernel_rfl) (by as_aux_lemma=>kernel_rfl) (by as_aux_lemma=>kernel_rfl) (by as_aux_lemma=>kernel_rfl) (fun _ _ _ h=>h) (Or.inr ⟨by as_aux_lemma=>kernel_rfl,rfl⟩) hS ?_
  (try simp only[Act.put,nY,nX])
  (refine' Ab 19 rfl ?_;(try simp only[Act.put,nY,nX]))
  (refine Am8 20 rfl (fun K' hK'=> ?_);simp only[nY];go_simp)
  refine hK' _ _ ⟨.inl (by kernel_rfl),fun _=>Ba (by kernel_rfl) ?_ _⟩
  clear hK' K';go_wp2;go_ret;exact⟨⟨_,rfl⟩,a6.out⟩
 |true=>
  (refine' Ab 9 rfl ?_;(try simp only[Act.put,nY,nX]));(refine' Ab 10 rfl ?_;(try simp only[Act.put,nY,nX]));(refine' Ab 11 rfl ?_;(try simp only[Act.put,nY,nX]));(refine' Ab 12 rfl ?_;(try simp only[Act.put,nY,nX]));(refine' Ab 13 rfl ?_;(try simp only[Act.put,nY,nX]));(refine' Ab 14 rfl ?_;(try simp only[Act.put,nY,nX]))
  generalize decide ((l.ifs.length:Int)<=10)=q
  cases q with
  |false=>
   refine' Bm (i:=15) (v:=undef) rfl (by as_aux_lemma=>kernel_rfl) (by as_aux_lemma=>kernel_rfl) (by as_aux_lemma=>kernel_rfl) (by as_aux_lemma=>kernel_rfl) (fun _ _ _ h=>h) (Or.inr ⟨by as_aux_lemma=>kernel_rfl,rfl⟩) hS ?_
   (try simp only[Act.put,nY,nX])
   refine' Bm (i:=16) (v:=undef) rfl (by as_aux_lemma=>kernel_rfl) (by as_aux_lemma=>kernel_rfl) (by as_aux_lemma=>kernel_rfl) (by as_aux_lemma=>kernel_rfl) (fun _ _ _ h=>h) (Or.inr ⟨by as_aux_lemma=>kernel_rfl,rfl⟩) hS ?_
   (try simp only[Act.put,nY,nX])
   refine' Bm (i:=17) (v:=undef) rfl (by as_aux_lemma=>kernel_rfl) (by as_aux_lemma=>kernel_rfl) (by as_aux_lemma=>kernel_rfl) (by as_aux_lemma=>kernel_rfl) (fun _ _ _ h=>h) (Or.inr ⟨by as_aux_lemma=>kernel_rfl,rfl⟩) hS ?_
   (try simp only[Act.put,nY,nX])
   refine' Bm (i:=18) (v:=undef) rfl (by as_aux_lemma=>kernel_rfl) (by as_aux_lemma=>kernel_rfl) (by as_aux_lemma=>kernel_rfl) (by as_aux_lemma=>kernel_rfl) (fun _ _ _ h=>h) (Or.inr ⟨by as_aux_lemma=>kernel_rfl,rfl⟩) hS ?_
   (try simp only[Act.put,nY,nX])
   (refine' Ab 19 rfl ?_;(try simp only[Act.put,nY,nX]))
   (refine Am8 20 rfl (fun K' hK'=> ?_);simp only[nY];go_simp)
   refine hK' _ _ ⟨.inl (by kernel_rfl),fun _=>Ba (by kernel_rfl) ?_ _⟩
   clear hK' K';go_wp2;go_ret;exact⟨⟨_,rfl⟩,a6.out⟩
  |true=>
   (refine' Ab 15 rfl ?_;(try simp only[Act.put,nY,nX]));(refine' Ab 16 rfl ?_;(try simp only[Act.put,nY,nX]));(refine' Ab 17 rfl ?_;(try simp only[Act.put,nY,nX]));(refine' Ab 18 rfl ?_;(try simp only[Act.put,nY,nX]));(refine' Ab 19 rfl ?_;(try simp only[Act.put,nY,nX]))
   (refine Am8 20 rfl (fun K' hK'=> ?_);simp only[nY];go_simp)
   refine hK' _ _ ⟨.inl (by kernel_rfl),fun _=>Ba (by kernel_rfl) ?_ _⟩
   clear hK' K';go_wp2;go_ret;exact⟨⟨_,rfl⟩,a6.out⟩
theorem Zz (A:Option Addr)(n c:Nat)(xs:List Bj)(A':Option Addr)(n' c':Nat)(wss:List (List Snd))(w:World)(hx:Br w A n c xs)(hw:B3 w A' n' c' wss):
  Calls Tryz.prog 16 #[.slice A n c, .slice A' n' c'] w (Ac9 w):=by
 have b1:=hx.max;have b2:=hw.max;have HX:=hI hx;have HW:=hI hw;clear hx hw;go_enter Tryz.func16,Tryz.ntmps16;by_cases h4:4<n
 ·have a6:(n:Int)>4:=by omega
  go_wp2;go_ret;exact⟨⟨false,rfl⟩,Below.refl _ _⟩
 have a6:¬(n:Int)>4:=by omega
 by_cases h6:6<n'
 ·have a7:(n':Int)>6:=by omega
  go_wp2;go_ret;exact⟨⟨false,rfl⟩,Below.refl _ _⟩
 have a7:¬(n':Int)>6:=by omega
 go_wp2_with fail
 go_loopw [5] (fun s5 wr=>∃j:Nat,s5= .int .i64 (j:Int)/\j<=n/\Hid (Below w.heap.size w wr)) (fun s5 _=>n-(intOf s5).toNat)
 case atStart=>exact⟨0,rfl,Nat.zero_le _,Below.refl _ _⟩
 case round=>
  obtain⟨j,rfl,hj,HB⟩:=hrel;by_cases hlt:j<n
  ·have a8:(j:Int)<(n:Int):=by omega
   obtain⟨s,hs⟩:=HX.out.get hlt;obtain⟨b,off,hA,b0,a2⟩:=(HX.out.below HB.out rr).at_ hs;have a3:=(HX.out.below HB.out rr).2 s (List.mem_of_getElem? hs);have a5:=hI a2;have a9:=hI a3;subst hA;clear hs a2 a3;go_wp2_with(refine Pe rfl (.tmp 23) rfl b (off+j*18) s rfl a5.out ?_);refine(Abz s.l s.a wr a9.out).mono ?_;rintro e w1 ⟨⟨q,rfl⟩,a4⟩;have a1:=hI (HB.out.trans (a4.mono HB.out.size));clear a4 HB
   cases q with
   |false=>
    go_wp2;go_ret;exact⟨⟨false,rfl⟩,a1.out⟩
   |true=>
    go_wp2_with fail
    go_roundw
    case rel=>first|exact⟨j+1,by go_num,by omega,a1.out⟩|((repeat apply Exists.intro);exact⟨⟨j+1,by go_num,by omega,a1.out⟩,rfl⟩)
    case measure=>simp[intOf];omega
  ·obtain rfl:j=n:=by omega
   go_wp2_with fail
   go_loopw [6] (fun s6 wr=>∃j:Nat,s6= .int .i64 (j:Int)/\j<=n'/\Hid (Below w.heap.size w wr)) (fun s6 _=>n'-(intOf s6).toNat)
   case atStart=>exact⟨0,rfl,Nat.zero_le _,HB.out⟩
   case round=>
    obtain⟨q,rfl,hq,HB⟩:=hrel;by_cases hlt:q<n'
    ·have a8:(q:Int)<(n':Int):=by omega
     obtain⟨b,off,Aq,nq,cq,xq,hA,hb,hc, -, -⟩:=(HW.out.below HB.out rr).at_ hlt;subst hA;by_cases h100:100<nq
     ·have a0:(nq:Int)>100:=by omega
      go_wp2;go_ret;exact⟨⟨false,rfl⟩,HB.out⟩
     ·have a0:¬(nq:Int)>100:=by omega
      go_wp2_with fail
      go_roundw
      case rel=>first|exact⟨q+1,by go_num,by omega,HB.out⟩|((repeat apply Exists.intro);exact⟨⟨q+1,by go_num,by omega,HB.out⟩,rfl⟩)
      case measure=>simp[intOf];omega
    ·obtain rfl:q=n':=by omega
     go_wp2;go_ret;exact⟨⟨true,rfl⟩,HB.out⟩
end Go.Proofs.YtaglfmlgbcmakaaGreatDoor
namespace Go.Proofs.YtaglfmlgbcmakaaGreatDoor
open Go.RowKit Go.Shelf
open Go.RowKit Go.Shelf
open Go.RowKit Go.Shelf
end Go.Proofs.YtaglfmlgbcmakaaGreatDoor
namespace Go.Proofs.YtaglfmlgbcmakaaGreatDoor
open Go.RowKit Go.Shelf
theorem Ab0 {n:Nat}{rs:List Bb}{ls:List Bi}{ws:List Cv}{w:List Snd}{now:Int}(h:(Bo n rs ls ws w now).1=0):
  Ck n ls ws=0/\Cg w=0/\Bo n rs ls ws w now=(0,(List.range n).map fun a=>(Eo n rs ls ws w now a).2)∧∀a,a<n->(Eo n rs ls ws w now a).1=0:=by
 by_cases h1:Ck n ls ws=0
 case neg=>unfold Bo at h;rw[if_pos h1]at h;exact absurd h h1
 by_cases h2:Cg w=0
 case neg=>unfold Bo at h;rw[if_neg (by simpa using h1),if_pos h2]at h;exact absurd h h2
 have a0:∀a,a<n->(Eo n rs ls ws w now a).1=0:=fun a ha=>Classical.byContradiction fun hne=>by
  rw[Tf h1 h2 ha hne]at h;cases h
 exact⟨h1,h2,Tg h1 h2 a0,a0⟩
theorem Ab1 {n:Nat}{rs:List Bb}{ls:List Bi}{ws:List Cv}{w:List Snd}{now:Int}(h:(Bo n rs ls ws w now).1≠0):(Bo n rs ls ws w now).2=[]:=by
 by_cases h1:Ck n ls ws=0
 case neg=>unfold Bo;rw[if_pos h1]
 by_cases h2:Cg w=0
 case neg=>unfold Bo;rw[if_neg (by simpa using h1),if_pos h2]
 by_cases hall:∀a,a<n->(Eo n rs ls ws w now a).1=0
 ·rw[Tg h1 h2 hall]at h;exact absurd rfl h
 ·obtain⟨a,ha⟩:=Classical.not_forall.1 hall;obtain⟨a0,a1⟩:=Classical.not_imp.1 ha;rw[Tf h1 h2 a0 a1]
theorem Vq {n:Nat}:∀{rs:List Dt} {done:List Bb},Cq n done rs=0→∀r∈rs,0<=r.1/\0<=r.2.1
 |[],_,_,r,hr=>by cases hr
 |q::rs,done,he,r,hr=>by
  unfold Cq at he;by_cases h1:min q.1 q.2.1<0\/(n:Int)<=max q.1 q.2.1
  ·rw[if_pos h1]at he;cases he
  rw[if_neg h1]at he;by_cases h2:q.1=q.2.1
  ·rw[if_pos h2]at he;cases he
  rw[if_neg h2]at he;by_cases h3:q.2.2<1\/1073741824<q.2.2
  ·rw[if_pos h3]at he;cases he
  rw[if_neg h3]at he;by_cases h4:done.any (fun s=>B7 s q.1.toNat q.2.1.toNat)=true
  ·rw[if_pos h4]at he;cases he
  rw[if_neg h4]at he;rcases List.mem_cons.1 hr with e|hr
  ·subst e;omega
  ·exact Vq he r hr
theorem Aey {names:List ByteArray}{roads:List Dt}(h:Dp names roads=0):Cq names.length [] roads=0:=by
 unfold Dp at h;by_cases h1:128<names.length\/512<roads.length
 ·rw[if_pos h1]at h;cases h
 rw[if_neg h1]at h;by_cases h2:Dc [] names≠0
 ·rw[if_pos h2]at h;exact absurd h h2
 rw[if_neg h2]at h;exact h
structure Ab2 (w:World)(x:EdR)(rs:List Bb)(b bx:Nat)(W:World):Prop where
 g:GdW x rs b W
 k:W.heap[bx]? =some (.cells #[.slice x.An x.nn x.cn, .slice x.Ar x.nr x.cr] 25 (0,0))
 bl:Below w.heap.size w W
section
variable {w W W':World}{x:EdR}{rs:List Bb}{b bx:Nat}
theorem Ab2.step (h:Ab2 w x rs b bx W)(hb:Below W.heap.size W W'):Ab2 w x rs b bx W':=
 ⟨h.g.below hb,(hb.block bx (lt_of_block h.k)).trans h.k,h.bl.trans (hb.mono h.bl.size)⟩
theorem Ab2.c1 (h:Ab2 w x rs b bx W):W.cell? ⟨bx,1,none⟩=some (.slice x.Ar x.nr x.cr):=Ad h.k rfl
theorem Ab2.wave (h:Ab2 w x rs b bx W){k:Nat}(hk:k<x.nv):∃(y:Bu) (yb yo:Nat),x.waves[k]? =some y/\yb<W.heap.size/\x.Av=some ⟨yb,yo,none⟩∧
  W.cell? ⟨yb,yo+k*5,none⟩=some (.int .i64 y.d.law)/\W.cell? ⟨yb,yo+k*5+1,none⟩=some (.slice y.A y.n y.c)/\W.cell? ⟨yb,yo+k*5+2,none⟩=some (.int .i64 y.d.time)/\W.cell? ⟨yb,yo+k*5+3,none⟩=some (.int .i64 y.d.slow)/\W.cell? ⟨yb,yo+k*5+4,none⟩=some (.int .i64 y.d.fin):=by
 obtain⟨y,hy⟩:=h.g.e.waves.get hk;obtain⟨yb,yo,hA,a0,_,l0,l1,l2,l3,l4⟩:=h.g.e.waves.at_ hy;exact⟨y,yb,yo,hy,a0,hA,l0,l1,l2,l3,l4⟩
end
end Go.Proofs.YtaglfmlgbcmakaaGreatDoor
