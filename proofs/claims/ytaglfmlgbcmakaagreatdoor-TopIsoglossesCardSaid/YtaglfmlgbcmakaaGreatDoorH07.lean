/-
  ablautref06.Size returns; nothing old is written; parts of laws.
  few and good of ablautlaw38.
  Waves (chapter 38), in plain words: what the statements of the program alone ask of arrivals, of lists of points, and of lines.
  Forms and values (chapter 38), in plain words: which errors there are, and which points have the same number.
  (*points.Map).Roads.
  A case of chapter 38 that is allowed: what lies in memory, and what the calls return.
  works38 of ablauttop.
  small and few of ablauttop: they return.
  slices.IndexFunc over records of type []int.
  isogloss: check, cut, Cuts.
  isogloss.Cuts.
  The maps, laws, waves and words of ablauttop's statements about waves: plain words, and what lies in memory.
-/
import Derived.Test.YtaglfmlgbcmakaaGreatDoorXWk38
set_option linter.all false
set_option maxRecDepth 100000
set_option maxHeartbeats 4000000
namespace Go.Proofs.YtaglfmlgbcmakaaGreatDoor
open Go.RowKit Go.Shelf
def Vy (w:World)(e:Ending)(w':World):Prop:=(∃m:Int,e= .returned (.int .i64 m))/\Below w.heap.size w w'
def Vz (w:World)(e:Ending)(w':World):Prop:=(∃b:Bool,e= .returned (.bool b))/\Below w.heap.size w w'
def Ach (w:World)(e:Ending)(w':World):Prop:=e= .returned (.bool true)/\Below w.heap.size w w'
def V3 (k:Nd)(ch:Fo):Prop:=∀(w:World) (A:Option Addr) (n c:Nat) (m:Int),FSl w A n c ch->Calls Tryz.prog 115 #[F1 k A n c, .int .i64 m] w (Vy w)
theorem N5 (k:Nd)(ch:Fo)(ih:∀j k' ch',ch.get j=some (k',ch')->V3 k' ch'):V3 k ch:=by
 intro w A n c m0 hs;have hn:n<=9223372036854775807:=by have h1:=hs.1.2.1;have h2:=hs.1.2.2.1;unfold maxLen at h2;omega
 have HI:=hI ih;clear ih;have HS:=hI hs;clear hs;obtain⟨kind,isp,ism,neg,lo,hi⟩:=k;go_enter Tryz.func115,Tryz.ntmps115;go_wp2
 go_loopw [5,6] (fun nv i wr=>∃(j:Nat) (m:Int),i= .int .i64 j/\nv= .int .i64 m/\j<=n/\Hid (wr.heap[w.heap.size]? =some (.cells #[.int .i64 kind, .int .u32 isp, .int .u32 ism, .bool neg, .int .i64 lo, .int .i64 hi, .slice A n c] 52 (0,0)))/\Below w.heap.size w wr) (fun _ i _=>n-(intOf i).toNat)
 case atStart=>exact⟨0,_,rfl,rfl,Nat.zero_le _,hpt,bel⟩
 case round=>
  obtain⟨j,m,rfl,rfl,hj,hb,hB⟩:=hrel;have a3:=hB.size;have a2:=Aa (j:=6) hb.out rfl;by_cases hlt:j<n
  ·by_cases hm:m<=40
   ·obtain⟨⟨k',ch'⟩,hg⟩:=ch.get_lt j (by have:=HS.out.1.1;omega);obtain⟨b,off,A',n',c',rfl,a8,⟨h0,h1,h2,h3,h4,h5,h6⟩,⟨rfl,a4⟩,a0,_⟩:=(HS.out.below hB rr).2.at_ ch _ 0 j k' ch' hg;have HG:=hI hg;clear hg;have a5:=hI a0;clear a0;simp only[Nat.zero_add]at h0 h1 h2 h3 h4 h5 h6;go_wp2_with fail;refine(HI.out j k' ch' HG.out wr A' _ c' m ⟨⟨rfl,a4⟩,a5.out⟩).mono ?_;rintro e w1 ⟨⟨m1,rfl⟩,a1⟩;have a7:=hI ((a1.block w.heap.size (lt_of_block hb.out)).trans hb.out);have a6:=hB.trans (a1.mono a3);clear a1 h0 h1 h2 h3 h4 h5 h6 a2;go_wp2
    go_roundw
    case rel=>exact⟨j+1,m1,by go_num,rfl,by omega,a7,a6⟩
    case measure=>simp[intOf];omega
   ·go_wp2;go_ret;exact⟨⟨_,rfl⟩,hB⟩
  ·obtain rfl:j=n:=by omega
   go_wp2;go_ret;exact⟨⟨_,rfl⟩,hB⟩
theorem L8:∀(f:Fo) (j:Nat) (k:Nd) (ch:Fo),f.get j=some (k,ch)->V3 k ch
 | .node k0 ch0 nx,0,k,ch,hg=>by
  obtain⟨rfl,rfl⟩:k0=k/\ch0=ch:=by simpa[Fo.get]using hg
  exact N5 _ _ (L8 ch0)
 | .node k0 ch0 nx,j+1,k,ch,hg=>L8 nx j k ch (by simpa[Fo.get]using hg)
theorem Aci (k:Nd)(ch:Fo):V3 k ch:=N5 k ch (L8 ch)
theorem Aan (k:Nd)(ch:Fo)(w:World)(A:Option Addr)(n c:Nat)(hs:FSl w A n c ch):Calls Tryz.prog 72 #[F1 k A n c] w (Vy w):=by
 obtain⟨kind,isp,ism,neg,lo,hi⟩:=k;have HS:=hI hs;clear hs;go_enter Tryz.func72,Tryz.ntmps72;go_wp2_with fail;refine(Aci ⟨kind,isp,ism,neg,lo,hi⟩ ch _ A n c 0 (HS.out.below (B:=w.heap.size) bel rr)).mono ?_;rintro e w1 ⟨⟨m1,rfl⟩,a0⟩;go_wp2;go_ret;exact⟨⟨_,rfl⟩,Below.step (by assumption) (by simp) bel⟩
theorem N6 {ops:Array Oper}{S:World->Prop}{op:Oper}{ac:Act}(hw:Region.wanted op (yielded ops ac.tmps)=true)(x:Operand)(ho:op.op= .load 52 x)
  (b o:Nat) (k:Nd) (A:Option Addr) (n c:Nat) (hx:ac.eval x= .pointer (some ⟨b,o,none⟩)) (hS:∀w,S w->w.rangeAt b o (Dj k A n c)):YieldsIf Tryz.prog ops S op (F1 k A n c) ac:=
 .inl ⟨hw,fun w hw'=>by
  unfold execOp;simp only[ho,hx,Instr.loadAt,Instr.sureAddr,Sem.run_bind,Sem.run_pure,Result.andThen_ok,Ra (hS w hw')]⟩
theorem Mo {w w':World}{b o:Nat}{cs:List Value}(h:w.rangeAt b o cs){B:Nat}(hb:Below B w w')(hB:b<B):w'.rangeAt b o cs:=fun j v hv=>(hb.cell (p:=⟨b,_,none⟩) hB).trans (h j v hv)
structure EdR where
 An:Option Addr
 nn:Nat
 cn:Nat
 names:List ByteArray
 Ar:Option Addr
 nr:Nat
 cr:Nat
 roads:List Db
 Al:Option Addr
 nl:Nat
 cl:Nat
 laws:List B8
 Av:Option Addr
 nv:Nat
 cv:Nat
 waves:List Cs
 Aw:Option Addr
 nw:Nat
 cw:Nat
 word:List Snd
 a:Int
 i:Int
 j:Int
 now:Int
def EdR.cells (x:EdR):List Value:=[.slice x.An x.nn x.cn, .slice x.Ar x.nr x.cr, .slice x.Al x.nl x.cl, .slice x.Av x.nv x.cv, .slice x.Aw x.nw x.cw, .int .i64 x.a, .int .i64 x.i, .int .i64 x.j, .int .i64 x.now]
structure Abr (w:World)(x:EdR):Prop where
 names:E0 w x.An x.nn x.cn x.names
 roads:Cv w x.Ar x.nr x.cr x.roads
 laws:B1 w x.Al x.nl x.cl x.laws
 waves:Ci w x.Av x.nv x.cv x.waves
 word:Ae w x.Aw x.nw x.cw x.word
 now: -9223372036854775808<=x.now/\x.now<=9223372036854775807
 nsz:∀s∈x.names,s.size<=9223372036854775807
theorem Abr.below {w w':World}{x:EdR}(h:Abr w x)(hb:Below w.heap.size w w'):Abr w' x:=
 ⟨h.names.below hb rr,h.roads.below hb rr,h.laws.below hb rr,h.waves.below hb,h.word.below hb rr,h.now,h.nsz⟩
end Go.Proofs.YtaglfmlgbcmakaaGreatDoor
namespace Go.Proofs.YtaglfmlgbcmakaaGreatDoor
open Go.RowKit
-- lists of points gone over
def Dk (P:Nat->Bool)(c:Nat):Nat:=((List.range c).filter P).length
def Gz (P:Nat->Bool)(n:Nat):List Int:=((List.range n).filter P).map fun(a:Nat)=>(a:Int)
section
variable {P:Nat->Bool}{n c:Nat}
theorem Acs (h:P c=true):Dk P (c+1)=Dk P c+1:=by unfold Dk;rw[Mq,if_pos h]
theorem Aa2 (h:P c=false):Dk P (c+1)=Dk P c:=by unfold Dk;rw[Mq,if_neg (by simp[h])];rfl
theorem M7:(Gz P n).length=Dk P n:=by unfold Gz Dk;rw[List.length_map]
theorem Aa3:Dk P c<=c:=by unfold Dk;exact Nat.le_trans (List.length_filter_le _ _) (by simp)
theorem Acu (hc:c<n)(h:P c=true):(Gz P n)[Dk P c]? =some (c:Int):=by
 unfold Gz Dk;rw[List.getElem?_map,(Lk hc).2 h];rfl
theorem Aa4 (hc:c<n)(h:P c=false){v:Int}(hv:(Gz P n)[Dk P c]? =some v):v≠(c:Int):=by
 intro e;subst e;unfold Gz Dk at hv;rw[List.getElem?_map]at hv
 cases hx:((List.range n).filter P)[((List.range c).filter P).length]? with
 |none=>rw[hx]at hv;cases hv
 |some y=>
  rw[hx]at hv;have a0:(y:Int)=(c:Int):=by simpa using hv
  obtain rfl:y=c:=by omega
  have:=(Lk hc).1 hx
  rw[h]at this;cases this
end
theorem Aa5 {P:Nat->Bool}{n c:Nat}(hc:c<n):(P c=true/\Dk P c<Dk P n/\(Gz P n)[Dk P c]? =some (c:Int))\/(P c=false∧¬Dk P c<Dk P n)\/(P c=false/\Dk P c<Dk P n∧∃v:Int,(Gz P n)[Dk P c]? =some v/\v≠(c:Int)):=by
 cases h:P c with
 |true=>
  have h1:=Acu hc h;refine .inl ⟨rfl, ?_,h1⟩;rw[←M7 (P:=P) (n:=n)];exact(List.getElem?_eq_some_iff.1 h1).1
 |false=>
  rcases Nat.lt_or_ge (Dk P c) (Dk P n)with h1|h1
  ·refine .inr (.inr ⟨rfl,h1, ?_⟩);have h2:(Gz P n)[Dk P c]? =some ((Gz P n)[Dk P c]'(by rw[M7];exact h1)):=List.getElem?_eq_getElem _;exact⟨_,h2,Aa4 hc h h2⟩
  ·exact .inr (.inl ⟨rfl,by omega⟩)
-- where one wave comes before another one
section
variable {n:Nat}{rs:List Bh}{ws:List C7}{i j c s t:Nat}
end
theorem Ad7 {n:Nat}{rs:List Bh}{ws:List C7}{i c:Nat}{x:C7}(h:ws[i]? =some x):tAt n rs ws c i=Hn n rs x c:=by unfold tAt;rw[h];rfl
-- the nearest beginning
section
variable {n:Nat}{rs:List Bh}{ws:List C7}{a:Nat}
theorem Aa6 (now:Int):(E5 n rs ws a now).length=((List.range ws.length).filter fun i=>G0 now (tAt n rs ws a i)).length:=by
 unfold E5 Jd;rw[List.length_map,G3 (Ca _)]
end
section
variable {f:Nat->Int×List Snd}
theorem Adb:∀(L:List Nat) (done:List (List Snd)),(∀a∈L,(f a).1=0)->Cw f done L=(0,done++L.map fun a=>(f a).2)
 |[],done,_=>by simp[Cw]
 |a::L,done,h=>by
  unfold Cw;rw[if_neg (by simp[h a (List.mem_cons_self ..)]),Adb L _ fun b hb=>h b (List.mem_cons_of_mem _ hb)]
  simp
theorem Aa0:∀(L:List Nat) (done:List (List Snd)),(∃a∈L,(f a).1≠0)→∃a∈L,(f a).1≠0/\Cw f done L=((f a).1,[])
 |[],done,h=>by obtain⟨a,ha,_⟩:=h;cases ha
 |b::L,done,h=>by
  by_cases h0:(f b).1=0
  ·obtain⟨a,ha,a0⟩:=h;rcases List.mem_cons.1 ha with e|ha
   ·subst e;exact absurd h0 a0
   ·obtain⟨x,hx,h1,h2⟩:=Aa0 L (done++[(f b).2]) ⟨a,ha,a0⟩;refine⟨x,List.mem_cons_of_mem _ hx,h1, ?_⟩;unfold Cw;rw[if_neg (by simpa using h0)];exact h2
  ·refine⟨b,List.mem_cons_self ..,h0, ?_⟩;unfold Cw;rw[if_pos h0]
end
theorem Acq {ls:List Bb}{on:List Int}{l:Bb}(h:l∈Cx ls on):l∈ls:=by
 unfold Cx at h;obtain⟨i,_,hi⟩:=List.mem_filterMap.1 h;exact List.mem_of_getElem? hi
theorem Acr {ls:List Bb}{on:List Int}:(Cx ls on).length<=on.length:=List.length_filterMap_le _ _
section
variable {n:Nat}{rs:List Bh}{ls:List Bb}{ws:List C7}{w:List Snd}{now:Int}
theorem Vb {a:Nat}:(E5 n rs ws a now).length<=ws.length:=by
 rw[Aa6];exact Nat.le_trans (List.length_filter_le _ _) (by simp)
theorem Ad6 {a:Nat}(h:Dr n ls ws=0):Dm (Cx ls (E5 n rs ws a now))=0:=by
 obtain⟨_,h1,h2,_⟩:=E7 h;obtain⟨h3,h4⟩:=Qw h1;have hl:(Cx ls (E5 n rs ws a now)).length<=64:=Nat.le_trans Acr (Nat.le_trans Vb h2);unfold Dm;rw[if_neg (by omega),if_neg];intro a0;obtain⟨l,hl,hb⟩:=List.any_eq_true.1 a0;rw[h4 l (Acq hl)]at hb;exact absurd hb (by decide)
theorem Aa1 {a:Nat}(h:Dr n ls ws=0)(hw:Bu w=0):(En n rs ls ws w now a).1=0\/En n rs ls ws w now a=(11,[]):=by
 unfold En;rw[Xl (Ad6 h) hw];split
 ·exact .inr rfl
 ·exact .inl rfl
theorem Vc {a:Nat}(h:Dr n ls ws=0)(hw:Bu w=0)(ha:a<n)(he:(En n rs ls ws w now a).1≠0):Bf n rs ls ws w now=(11,[]):=by
 unfold Bf;rw[if_neg (by rw[h];simp),if_neg (by rw[hw];simp)];obtain⟨x,_,h1,h2⟩:=Aa0 (f:=En n rs ls ws w now) (List.range n) [] ⟨a,List.mem_range.2 ha,he⟩;rw[h2];rcases Aa1 (rs:=rs) (a:=x) (now:=now) h hw with h3|h3
 ·exact absurd h3 h1
 ·rw[h3]
theorem Vd (h:Dr n ls ws=0)(hw:Bu w=0)(ha:∀a,a<n->(En n rs ls ws w now a).1=0):Bf n rs ls ws w now=(0,(List.range n).map fun a=>(En n rs ls ws w now a).2):=by
 unfold Bf;rw[if_neg (by rw[h];simp),if_neg (by rw[hw];simp),Adb _ _ fun a hm=>ha a (List.mem_range.1 hm)]
 rfl
theorem Tj {fs:List (List Snd)}(h:Bf n rs ls ws w now=(0,fs)):E6 n rs ls ws w now=(0,fs.map (Co fs)):=by
 unfold E6;rw[h];rfl
end
theorem Pc {fs:List (List Snd)}{c:Nat}{x:List Snd}(h:fs[c]? =some x):∃k:Nat,Co fs x=(k:Int)/\k<=c/\fs[k]? =some x:=by
 unfold Co
 cases hf:fs.findIdx? (fun y=>decide (x=y))with
 |none=>
  exfalso
  have:=List.findIdx?_eq_none_iff.1 hf x (List.mem_of_getElem? h)
  simp at this
 |some k=>
  obtain⟨hk,h1,h2⟩:=List.findIdx?_eq_some_iff_getElem.1 hf;refine⟨k,rfl, ?_, ?_⟩
  ·rcases Nat.lt_or_ge c k with hc|hc
   ·exfalso
    have:=h2 c hc
    obtain⟨hl,e⟩:=List.getElem?_eq_some_iff.1 h;rw[e]at this;simp at this
   ·exact hc
  ·rw[List.getElem?_eq_getElem hk]
   have:x=fs[k]:=by simpa using h1
   rw[←this]
theorem Xq {fs:List (List Snd)}{c d:Nat}{x y:List Snd}(h:fs[c]? =some x)(h':fs[d]? =some y):Co fs x=Co fs y↔x=y:=by
 constructor
 ·intro e;obtain⟨k,h1,_,h2⟩:=Pc h;obtain⟨k',h3,_,h4⟩:=Pc h';rw[h1,h3]at e;obtain rfl:k=k':=by omega
  rw[h2]at h4;exact Option.some.inj h4
 ·intro e;rw[e]
end Go.Proofs.YtaglfmlgbcmakaaGreatDoor
namespace Go.Proofs.YtaglfmlgbcmakaaGreatDoor
open Go.RowKit Go.Shelf
theorem Cl.roads {w:World}{b n:Nat}{rs:List Bh}(h:Cl w b n rs):∃Ar cr,w.cell? ⟨b,2,none⟩=some (.slice Ar rs.length cr)/\Cv w Ar rs.length cr (rs.map Dq):=by
 obtain⟨An,cn,mb,Ar,cr,Aq,cq,vs,h⟩:=h;exact⟨Ar,cr,Aa h.blk rfl,h.roads⟩
theorem Ab3 (b n:Nat)(rs:List Bh)(w:World)(h:Cl w b n rs):
  Calls Tryz.prog 36 #[.pointer (some ⟨b,0,none⟩)] w fun e w'=>∃v,e= .returned v/\w'.ownsRow w.heap.size 64 3 v rs.length ((rs.map Dq).flatMap Hj)/\Below w.heap.size w w':=by
 obtain⟨Ar,cr,c2,hr⟩:=h.roads;have hl:=h.fewR;have HC:=hI (Mj Ar rs.length cr (rs.map Dq) w hr (by omega));clear h hr;go_enter Tryz.func36,Tryz.ntmps36;go_wp2_with fail;refine HC.out.mono ?_;rintro e w1 ⟨v,rfl,ho,hb⟩;have HO:=hI ho;clear ho;go_wp2;go_ret;exact⟨v,rfl,HO.out,hb⟩
theorem Cv.at_ {w:World}{A:Option Addr}{n c k:Nat}{rs:List Db}{r:Db}(h:Cv w A n c rs)(hx:rs[k]? =some r):∃b off,A=some ⟨b,off,none⟩/\b<w.heap.size∧
  w.cell? ⟨b,off+k*3,none⟩=some (.int .i64 r.1)/\w.cell? ⟨b,off+k*3+1,none⟩=some (.int .i64 r.2.1)/\w.cell? ⟨b,off+k*3+2,none⟩=some (.int .i64 r.2.2):=by
 obtain⟨b,off,hA,hb,hc⟩:=Dg.at_ h Qd (by decide) hx;refine⟨b,off,hA,hb, ?_⟩;simp only[Nat.add_assoc];exact⟨hc 0 _ rfl,hc 1 _ rfl,hc 2 _ rfl⟩
structure GdW (x:EdR)(rs:List Bh)(b:Nat)(W:World):Prop where
 m:Cl W b x.nn rs
 e:Abr W x
 t:Cc W
structure GdN (x:EdR):Prop where
 ok:Dr x.nn (Ak x.laws) (Af x.waves)=0
 n:x.nn<=12
 v:x.nv<=6
 l:x.nl<=6
section
variable {x:EdR}{rs:List Bh}{b:Nat}{W W':World}
theorem GdW.below (h:GdW x rs b W)(hb:Below W.heap.size W W'):GdW x rs b W':=⟨h.m.below hb,h.e.below hb,h.t.below hb rr⟩
theorem Wp {ys:List Cs}{k:Nat}{y:Cs}(h:ys[k]? =some y):(Af ys)[k]? =some y.d:=by rw[Af,List.getElem?_map,h];rfl
theorem GdW.len (h:GdW x rs b W):(Af x.waves).length=x.nv:=by rw[Af,List.length_map];exact h.e.waves.len
theorem GdN.one (hn:GdN x){y:Cs}(hy:y∈x.waves):Ev x.nn y.d=0:=((E7 hn.ok).2.2.2 y.d (List.mem_map.2 ⟨y,hy,rfl⟩)).2.2
theorem GdN.law (hn:GdN x){y:Cs}(hy:y∈x.waves):0<=y.d.law/\y.d.law<(x.laws.length:Int):=by
 have:=(E7 hn.ok).2.2.2 y.d (List.mem_map.2 ⟨y,hy,rfl⟩)
 rw[Ak,List.length_map]at this;exact⟨this.1,this.2.1⟩
theorem GdW.arrive (h:GdW x rs b W)(hn:GdN x){k:Nat}{y:Cs}(hy:x.waves[k]? =some y):
  Calls Tryz.prog 20 #[.pointer (some ⟨b,0,none⟩),Vo y] W fun e w'=>∃A c,e= .returned (.tuple #[.slice A x.nn c, .int .i64 0])/\Cm w' A x.nn c ((List.range x.nn).map fun a=>Bx (tAt x.nn rs (Af x.waves) a k))/\Below W.heap.size W w':=by
 have hm:=List.mem_of_getElem? hy;refine(Tq b x.nn rs y W h.m (h.e.waves.2 y hm)).mono ?_
 have e:Ff x.nn rs y.d=(0,(List.range x.nn).map fun a=>Bx (tAt x.nn rs (Af x.waves) a k)):=by
  unfold Ff;rw[if_neg (by have:=(E7 hn.ok).1;omega),if_neg (by rw[hn.one hm];simp)];congr 1;exact List.map_congr_left fun a _=>by rw[Ad7 (Wp hy)]
 rw[e];rintro e w' ⟨A,m,c,rfl,hi,hb⟩;obtain rfl:m=x.nn:=by have:=hi.len;simpa using this.symm
 exact⟨A,c,rfl,hi,hb⟩
theorem GdW.line (h:GdW x rs b W)(hn:GdN x){c:Nat}(hc:c<x.nn)(now:Int):
  Calls Tryz.prog 29 #[.pointer (some ⟨b,0,none⟩), .slice x.Al x.nl x.cl, .slice x.Av x.nv x.cv, .int .i64 (c:Int), .int .i64 now] W fun e w'=>∃A k cap,e= .returned (.tuple #[.slice A k cap, .int .i64 0])/\k=(E5 x.nn rs (Af x.waves) c now).length/\Cm w' A k cap (E5 x.nn rs (Af x.waves) c now)/\Below W.heap.size W w':=by
 refine(Acx b x.nn rs x.Al x.nl x.cl x.laws x.Av x.nv x.cv x.waves c now W h.m h.e.laws h.e.waves h.t (.inl (by have:=hn.v;omega))).mono ?_
 have e:Jt x.nn rs (Ak x.laws) (Af x.waves) c now=(0,E5 x.nn rs (Af x.waves) c now):=by
  unfold Jt;rw[if_neg (by rw[hn.ok];simp),if_neg (by omega)];rfl
 rw[e];rintro e w' ⟨A,m,c,rfl,hi,hb⟩;exact⟨A,m,c,rfl,hi.len.symm,hi,hb⟩
theorem GdW.forms (h:GdW x rs b W)(hn:GdN x)(now:Int):
  Calls Tryz.prog 18 #[.pointer (some ⟨b,0,none⟩), .slice x.Al x.nl x.cl, .slice x.Av x.nv x.cv, .slice x.Aw x.nw x.cw, .int .i64 now] W fun e w'=>∃A k c,e= .returned (.tuple #[.slice A k c, .int .i64 (Bf x.nn rs (Ak x.laws) (Af x.waves) x.word now).1])/\k=(Bf x.nn rs (Ak x.laws) (Af x.waves) x.word now).2.length/\B7 w' A k c (Bf x.nn rs (Ak x.laws) (Af x.waves) x.word now).2/\Below W.heap.size W w':=by
 refine(Mc b x.nn rs x.Al x.nl x.cl x.laws x.Av x.nv x.cv x.waves x.Aw x.nw x.cw x.word now W h.m h.e.laws h.e.waves h.e.word h.t (.inl (by have:=hn.v;omega))).mono ?_;rintro e w' ⟨A,c,ps,rfl,a1,a0,a2, -,hb⟩;exact⟨A,_,c,rfl,by rw[←a1,List.length_map],⟨ps,a1,Am.of_own a0 (by decide),a2⟩,hb⟩
theorem GdW.values (h:GdW x rs b W)(hn:GdN x)(now:Int):
  Calls Tryz.prog 24 #[.pointer (some ⟨b,0,none⟩), .slice x.Al x.nl x.cl, .slice x.Av x.nv x.cv, .slice x.Aw x.nw x.cw, .int .i64 now] W fun e w'=>∃A k c,e= .returned (.tuple #[.slice A k c, .int .i64 (E6 x.nn rs (Ak x.laws) (Af x.waves) x.word now).1])/\k=(E6 x.nn rs (Ak x.laws) (Af x.waves) x.word now).2.length/\Cm w' A k c (E6 x.nn rs (Ak x.laws) (Af x.waves) x.word now).2/\Below W.heap.size W w':=by
 refine(Ph b x.nn rs x.Al x.nl x.cl x.laws x.Av x.nv x.cv x.waves x.Aw x.nw x.cw x.word now W h.m h.e.laws h.e.waves h.e.word h.t (.inl (by have:=hn.v;omega))).mono ?_;rintro e w' ⟨A,m,c,rfl,hi,hb⟩;exact⟨A,m,c,rfl,hi.len.symm,hi,hb⟩
theorem GdW.length (h:GdW x rs b W):Calls Tryz.prog 19 #[.pointer (some ⟨b,0,none⟩)] W fun e w'=>e= .returned (.int .i64 (x.nn:Int))/\Below W.heap.size W w':=by
 obtain⟨An,cn,mb,Ar,cr,Aq,cq,c0,_⟩:=h.m.cells;exact F2 b An x.nn cn W c0
end
structure StW (w:World)(x:EdR)(rs:List Bh)(b bx:Nat)(W:World):Prop where
 g:GdW x rs b W
 k:W.heap[bx]? =some (.cells #[.slice x.An x.nn x.cn, .slice x.Ar x.nr x.cr, .slice x.Al x.nl x.cl, .slice x.Av x.nv x.cv, .slice x.Aw x.nw x.cw, .int .i64 x.a, .int .i64 x.i, .int .i64 x.j, .int .i64 x.now] 66 (0,0))
 bl:Below w.heap.size w W
section
variable {w W W':World}{x:EdR}{rs:List Bh}{b bx:Nat}
theorem StW.step (h:StW w x rs b bx W)(hb:Below W.heap.size W W'):StW w x rs b bx W':=
 ⟨h.g.below hb,(hb.block bx (lt_of_block h.k)).trans h.k,h.bl.trans (hb.mono h.bl.size)⟩
theorem StW.c0 (h:StW w x rs b bx W):W.cell? ⟨bx,0,none⟩=some (.slice x.An x.nn x.cn):=Aa h.k rfl
theorem StW.c1 (h:StW w x rs b bx W):W.cell? ⟨bx,1,none⟩=some (.slice x.Ar x.nr x.cr):=Aa h.k rfl
theorem StW.c2 (h:StW w x rs b bx W):W.cell? ⟨bx,2,none⟩=some (.slice x.Al x.nl x.cl):=Aa h.k rfl
theorem StW.c3 (h:StW w x rs b bx W):W.cell? ⟨bx,3,none⟩=some (.slice x.Av x.nv x.cv):=Aa h.k rfl
theorem StW.c4 (h:StW w x rs b bx W):W.cell? ⟨bx,4,none⟩=some (.slice x.Aw x.nw x.cw):=Aa h.k rfl
theorem StW.c8 (h:StW w x rs b bx W):W.cell? ⟨bx,8,none⟩=some (.int .i64 x.now):=Aa h.k rfl
theorem StW.wave (h:StW w x rs b bx W){k:Nat}(hk:k<x.nv):∃(y:Cs) (yb yo:Nat),x.waves[k]? =some y/\yb<W.heap.size/\W.cell? ⟨bx,3,none⟩=some (.slice (some ⟨yb,yo,none⟩) x.nv x.cv)∧
  W.cell? ⟨yb,yo+k*5,none⟩=some (.int .i64 y.d.law)/\W.cell? ⟨yb,yo+k*5+1,none⟩=some (.slice y.A y.n y.c)/\W.cell? ⟨yb,yo+k*5+2,none⟩=some (.int .i64 y.d.time)/\W.cell? ⟨yb,yo+k*5+3,none⟩=some (.int .i64 y.d.slow)/\W.cell? ⟨yb,yo+k*5+4,none⟩=some (.int .i64 y.d.fin):=by
 obtain⟨y,hy⟩:=h.g.e.waves.get hk;obtain⟨yb,yo,hA,a0,_,l0,l1,l2,l3,l4⟩:=h.g.e.waves.at_ hy;exact⟨y,yb,yo,hy,a0,by rw[←hA];exact h.c3,l0,l1,l2,l3,l4⟩
end
def N8:List ByteArray:=[⟨#[97]⟩,⟨#[98]⟩]
def Lg:List Db:=[(0,1,3)]
def Lh:List Bh:=[(0,1,3)]
def Xm:C7:=⟨0,[0],1,2,100⟩
theorem Acl:Fc N8 Lg=0:=by kernel_rfl
theorem Xn:Lg.map B5=Lh:=rfl
theorem Acm:Ff 2 Lh Xm=(0,[1,7]):=by kernel_rfl
theorem Ad5:Ac5 Xm:=⟨by decide,by decide,by decide,by decide,fun x hx=>by
 have h:x=0:=by simpa[Xm]using hx
 rw[h];decide⟩
theorem B6 (w:World):Calls Tryz.prog 17 #[] w fun e w'=>e= .returned (.bool true)/\Below w.heap.size w w':=by
 go_enter Tryz.func17,Tryz.ntmps17;go_wp2_with fail;have b0:E0 (w.alloc (.cells #[.string ⟨#[97]⟩, .string ⟨#[98]⟩] 9)) (some ⟨w.heap.size,0,none⟩) 2 2 N8:=T7 w _ _ 2 1 rfl (by decide);have a4:Below w.heap.size w (w.alloc (.cells #[.string ⟨#[97]⟩, .string ⟨#[98]⟩] 9)):=(Below.refl _ w).alloc rr _;have hsz:(w.alloc (.cells #[.string ⟨#[97]⟩, .string ⟨#[98]⟩] 9)).heap.size=w.heap.size+1:=by simp
 generalize w.alloc (.cells #[.string ⟨#[97]⟩, .string ⟨#[98]⟩] 9)=V1 at*;have a2:Cv (V1.alloc (.cells #[.int .i64 0, .int .i64 1, .int .i64 3] 64)) (some ⟨V1.heap.size,0,none⟩) 1 1 Lg:=⟨T7 V1 _ _ 1 3 rfl (by decide),rfl⟩;rw[hsz]at a2;have a0:Below V1.heap.size V1 (V1.alloc (.cells #[.int .i64 0, .int .i64 1, .int .i64 3] 64)):=(Below.refl _ V1).alloc rr _;generalize V1.alloc (.cells #[.int .i64 0, .int .i64 1, .int .i64 3] 64)=V2 at*;refine(Ac6 _ 2 2 N8 _ 1 1 Lg V2 (b0.below a0 rr) a2).mono ?_;rintro e w1 ⟨⟨h0, -⟩|⟨-,b,rfl,a3⟩,a8⟩
 ·exact absurd Acl h0
 rw[Xn]at a3;have a9:Hid (Cl w1 b 2 Lh):=a3;have b1:Below w.heap.size w w1:=a4.trans ((a0.trans (a8.mono a0.size)).mono a4.size);have a5:=hI b1;clear b0 a4 hsz a2 a0 a3 a8 b1;go_wp2_with fail;have h5:Cm (w1.alloc (.cells #[.int .i64 0] 3)) (some ⟨w1.heap.size,0,none⟩) 1 1 [0]:=T7 w1 [.int .i64 0] _ 1 1 rfl (by decide);have z5:Below w1.heap.size w1 (w1.alloc (.cells #[.int .i64 0] 3)):=(Below.refl _ w1).alloc rr _;have a6:=hI (Tq b 2 Lh ⟨Xm,some ⟨w1.heap.size,0,none⟩,1,1⟩ _ (a9.out.below z5) ⟨h5,Ad5⟩);rw[show(⟨Xm,some ⟨w1.heap.size,0,none⟩,1,1⟩:Cs).d=Xm from rfl,Acm]at a6;have HZ:=hI (a5.out.trans (z5.mono a5.out.size));clear h5 z5 a5;refine a6.out.mono ?_;rintro e w2 ⟨A2,n2,c2,rfl,a1,a7⟩;obtain rfl:n2=2:=a1.len.symm;obtain⟨sb,so,v,rfl,b3,hc,hv⟩:=a1.at_ (k:=1) (by omega);obtain rfl:(7:Int)=v:=Option.some.inj hv;have b2:=hI (HZ.out.trans (a7.mono HZ.out.size));clear a7 a1 hv a6 HZ a9;go_wp2;go_ret;exact⟨rfl,b2.out⟩
theorem U0 (l:Bb)(a:Dl)(w:World)(hl:E9 w l a):Calls Tryz.prog 58 #[Fj l a] w (Vz w):=by
 have HL:=hI hl;clear hl;obtain⟨Wb,b4,a5,a2,a3,b6⟩:=Fe w l a;have hL:=Nq a5;have hR:=Ls a5;obtain⟨d0,d1,d2,d3⟩:=Cf a5
 have a4:Hid (∀W',Below Wb.heap.size Wb W'->W'.rangeAt w.heap.size 1 (Dj l.left.1 a.Al l.left.2.len a.cl)/\W'.rangeAt w.heap.size 8 (Dj l.right.1 a.Ar l.right.2.len a.cr)/\W'.cell? ⟨w.heap.size,15,none⟩=some (.slice a.Ai l.ifs.length a.ci)/\W'.cell? ⟨w.heap.size,16,none⟩=some (.slice a.Ao l.outs.length a.co)):=fun W' hb=>
  ⟨Mo hL hb a2,Mo hR hb a2,(hb.cell (p:=⟨w.heap.size,_,none⟩) a2).trans d1,(hb.cell (p:=⟨w.heap.size,_,none⟩) a2).trans d2⟩
 have b3:Hid (∀W',Below Wb.heap.size Wb W'->FSl W' a.Al l.left.2.len a.cl l.left.2):=fun W' hb=>(HL.out.below a3 rr).1.below hb rr
 have b5:Hid (∀W',Below Wb.heap.size Wb W'->FSl W' a.Ar l.right.2.len a.cr l.right.2):=fun W' hb=>(HL.out.below a3 rr).2.1.below hb rr
 clear d0 d1 d2 d3 hL hR;go_enter Tryz.func58,Tryz.ntmps58;go_wp2_with fail;clear b4;obtain⟨bx,b2⟩:∃bx,bx=w.heap.size:=⟨_,rfl⟩;rw[←b2]at a4 a2 ⊢;have a9:=hI a3;clear a5 a3 b2;refine Br (fun W'=>W'.rangeAt bx 1 (Dj l.left.1 a.Al l.left.2.len a.cl)/\W'.rangeAt bx 8 (Dj l.right.1 a.Ar l.right.2.len a.cr)/\W'.cell? ⟨bx,15,none⟩=some (.slice a.Ai l.ifs.length a.ci)/\W'.cell? ⟨bx,16,none⟩=some (.slice a.Ao l.outs.length a.co)) (by kernel_rfl) (a4.out Wb.drew (Below.refl _ Wb).drew) (fun hHeld=> ?_)
 (refine' Ab 0 rfl ?_;(try simp only[Act.put,nY,nX]))
 (refine' Bo (i:=1) (v:=F1 l.left.1 a.Al l.left.2.len a.cl) rfl (by kernel_rfl) (by kernel_rfl) (by kernel_rfl) (by kernel_rfl) (fun _ _ _ h=>h) (N6 (by rfl) (.tmp 3) rfl bx 1 _ _ _ _ (by rfl) (fun _ h=>h.1)) (by assumption) ?_;(try simp only[Act.put,nY,nX]))
 (refine' Ab 3 rfl ?_;(try simp only[Act.put,nY,nX]))
 (refine' Bo (i:=4) (v:=F1 l.right.1 a.Ar l.right.2.len a.cr) rfl (by kernel_rfl) (by kernel_rfl) (by kernel_rfl) (by kernel_rfl) (fun _ _ _ h=>h) (N6 (by rfl) (.tmp 6) rfl bx 8 _ _ _ _ (by rfl) (fun _ h=>h.2.1)) (by assumption) ?_;(try simp only[Act.put,nY,nX]))
 clear hHeld
 (refine Aeu 2 rfl (fun K' hK'=> ?_);simp only[nY];go_simp)
 have a7:Below Wb.heap.size Wb Wb.drew:=(Below.refl _ Wb).drew;refine(Aan l.left.1 l.left.2 Wb.drew a.Al l.left.2.len a.cl (b3.out _ a7)).mono ?_;rintro e w1 ⟨⟨m1,rfl⟩,b1⟩;have a0:=a7.trans b1;have b0:=a4.out w1 a0;refine hK' _ _ ⟨.inr b0,fun _=> ?_⟩
 clear hK' K' a7 b1
 (try simp only[Act.put,nY,nX])
 (refine Aeu 5 rfl (fun K' hK'=> ?_);simp only[nY];go_simp)
 refine(Aan l.right.1 l.right.2 w1 a.Ar l.right.2.len a.cr (b5.out _ a0)).mono ?_;rintro e w2 ⟨⟨m2,rfl⟩,a8⟩;have a1:=a0.trans (a8.mono a0.size);have hS:=a4.out w2 a1;have a6:=hI (a9.out.trans (a1.mono a9.out.size));refine hK' _ _ ⟨.inr hS,fun _=> ?_⟩
 clear hK' K' a0 a8 b0 a1
 (try simp only[Act.put,nY,nX])
 (refine' Ab 6 rfl ?_;(try simp only[Act.put,nY,nX]));(refine' Ab 7 rfl ?_;(try simp only[Act.put,nY,nX]));(refine' Ab 8 rfl ?_;(try simp only[Act.put,nY,nX]))
 generalize decide (IntKind.i64.wrap (m1+m2)<=30)=q
 cases q with
 |false=>
  refine' Bo (i:=9) (v:=undef) rfl (by as_aux_lemma=>kernel_rfl) (by as_aux_lemma=>kernel_rfl) (by as_aux_lemma=>kernel_rfl) (by as_aux_lemma=>kernel_rfl) (fun _ _ _ h=>h) (Or.inr ⟨by as_aux_lemma=>kernel_rfl,rfl⟩) hS ?_
  (try simp only[Act.put,nY,nX])
  refine' Bo (i:=10) (v:=undef) rfl (by as_aux_lemma=>kernel_rfl) (by as_aux_lemma=>kernel_rfl) (by as_aux_lemma=>kernel_rfl) (by as_aux_lemma=>kernel_rfl) (fun _ _ _ h=>h) (Or.inr ⟨by as_aux_lemma=>kernel_rfl,rfl⟩) hS ?_
  (try simp only[Act.put,nY,nX])
  refine' Bo (i:=11) (v:=undef) rfl (by as_aux_lemma=>kernel_rfl) (by as_aux_lemma=>kernel_rfl) (by as_aux_lemma=>kernel_rfl) (by as_aux_lemma=>kernel_rfl) (fun _ _ _ h=>h) (Or.inr ⟨by as_aux_lemma=>kernel_rfl,rfl⟩) hS ?_
  (try simp only[Act.put,nY,nX])
  refine' Bo (i:=12) (v:=undef) rfl (by as_aux_lemma=>kernel_rfl) (by as_aux_lemma=>kernel_rfl) (by as_aux_lemma=>kernel_rfl) (by as_aux_lemma=>kernel_rfl) (fun _ _ _ h=>h) (Or.inr ⟨by as_aux_lemma=>kernel_rfl,rfl⟩) hS ?_
  (try simp only[Act.put,nY,nX])
  (refine' Ab 13 rfl ?_;(try simp only[Act.put,nY,nX]));(refine' Ab 14 rfl ?_;(try simp only[Act.put,nY,nX]))
  refine' Bo (i:=15) (v:=undef) rfl (by as_aux_lemma=>kernel_rfl) (by as_aux_lemma=>kernel_rfl) (by as_aux_lemma=>kernel_rfl) (by as_aux_lemma=>kernel_rfl) (fun _ _ _ h=>h) (Or.inr ⟨by as_aux_lemma=>kernel_rfl,rfl⟩) hS ?_
  (try simp only[Act.put,nY,nX])
  refine' Bo (i:=16) (v:=undef) rfl (by as_aux_lemma=>kernel_rfl) (by as_aux_lemma=>kernel_rfl) (by as_aux_lemma=>kernel_rfl) (by as_aux_lemma=>kernel_rfl) (fun _ _ _ h=>h) (Or.inr ⟨by as_aux_lemma=>kernel_rfl,rfl⟩) hS ?_
  (try simp only[Act.put,nY,nX])
  refine' Bo (i:=17) (v:=undef) rfl (by as_aux_lemma=>kernel_rfl) (by as_aux_lemma=>kernel_rfl) (by as_aux_lemma=>kernel_rfl) (by as_aux_lemma=>kernel_rfl) (fun _ _ _ h=>h) (Or.inr ⟨by as_aux_lemma=>kernel_rfl,rfl⟩) hS ?_
  (try simp only[Act.put,nY,nX])
  refine' Bo (i:=18) (v:=undef) rfl (by as_aux_lemma=>kernel_rfl) (by as_aux_lemma=>kernel_rfl) (by as_aux_lemma=>kernel_rfl) (by as_aux_lemma=>kernel_rfl) (fun _ _ _ h=>h) (Or.inr ⟨by as_aux_lemma=>kernel_rfl,rfl⟩) hS ?_
  (try simp only[Act.put,nY,nX])
  (refine' Ab 19 rfl ?_;(try simp only[Act.put,nY,nX]))
  (refine Aeu 20 rfl (fun K' hK'=> ?_);simp only[nY];go_simp)
  refine hK' _ _ ⟨.inl (by kernel_rfl),fun _=>Bc (by kernel_rfl) ?_ _⟩
  clear hK' K';go_wp2;go_ret;exact⟨⟨_,rfl⟩,a6.out⟩
 |true=>
  (refine' Ab 9 rfl ?_;(try simp only[Act.put,nY,nX]));(refine' Ab 10 rfl ?_;(try simp only[Act.put,nY,nX]));(refine' Ab 11 rfl ?_;(try simp only[Act.put,nY,nX]));(refine' Ab 12 rfl ?_;(try simp only[Act.put,nY,nX]));(refine' Ab 13 rfl ?_;(try simp only[Act.put,nY,nX]));(refine' Ab 14 rfl ?_;(try simp only[Act.put,nY,nX]))
  generalize decide ((l.ifs.length:Int)<=10)=q
  cases q with
  |false=>
   refine' Bo (i:=15) (v:=undef) rfl (by as_aux_lemma=>kernel_rfl) (by as_aux_lemma=>kernel_rfl) (by as_aux_lemma=>kernel_rfl) (by as_aux_lemma=>kernel_rfl) (fun _ _ _ h=>h) (Or.inr ⟨by as_aux_lemma=>kernel_rfl,rfl⟩) hS ?_
   (try simp only[Act.put,nY,nX])
   refine' Bo (i:=16) (v:=undef) rfl (by as_aux_lemma=>kernel_rfl) (by as_aux_lemma=>kernel_rfl) (by as_aux_lemma=>kernel_rfl) (by as_aux_lemma=>kernel_rfl) (fun _ _ _ h=>h) (Or.inr ⟨by as_aux_lemma=>kernel_rfl,rfl⟩) hS ?_
   (try simp only[Act.put,nY,nX])
   refine' Bo (i:=17) (v:=undef) rfl (by as_aux_lemma=>kernel_rfl) (by as_aux_lemma=>kernel_rfl) (by as_aux_lemma=>kernel_rfl) (by as_aux_lemma=>kernel_rfl) (fun _ _ _ h=>h) (Or.inr ⟨by as_aux_lemma=>kernel_rfl,rfl⟩) hS ?_
   (try simp only[Act.put,nY,nX])
   refine' Bo (i:=18) (v:=undef) rfl (by as_aux_lemma=>kernel_rfl) (by as_aux_lemma=>kernel_rfl) (by as_aux_lemma=>kernel_rfl) (by as_aux_lemma=>kernel_rfl) (fun _ _ _ h=>h) (Or.inr ⟨by as_aux_lemma=>kernel_rfl,rfl⟩) hS ?_
   (try simp only[Act.put,nY,nX])
   (refine' Ab 19 rfl ?_;(try simp only[Act.put,nY,nX]))
   (refine Aeu 20 rfl (fun K' hK'=> ?_);simp only[nY];go_simp)
   refine hK' _ _ ⟨.inl (by kernel_rfl),fun _=>Bc (by kernel_rfl) ?_ _⟩
   clear hK' K';go_wp2;go_ret;exact⟨⟨_,rfl⟩,a6.out⟩
  |true=>
   (refine' Ab 15 rfl ?_;(try simp only[Act.put,nY,nX]));(refine' Ab 16 rfl ?_;(try simp only[Act.put,nY,nX]));(refine' Ab 17 rfl ?_;(try simp only[Act.put,nY,nX]));(refine' Ab 18 rfl ?_;(try simp only[Act.put,nY,nX]));(refine' Ab 19 rfl ?_;(try simp only[Act.put,nY,nX]))
   (refine Aeu 20 rfl (fun K' hK'=> ?_);simp only[nY];go_simp)
   refine hK' _ _ ⟨.inl (by kernel_rfl),fun _=>Bc (by kernel_rfl) ?_ _⟩
   clear hK' K';go_wp2;go_ret;exact⟨⟨_,rfl⟩,a6.out⟩
theorem Te (A:Option Addr)(n c:Nat)(xs:List B8)(A':Option Addr)(n' c':Nat)(wss:List (List Snd))(w:World)(hx:B1 w A n c xs)(hw:B7 w A' n' c' wss):
  Calls Tryz.prog 16 #[.slice A n c, .slice A' n' c'] w (Vz w):=by
 have b0:=hx.max;have b2:=hw.max;have HX:=hI hx;have HW:=hI hw;clear hx hw;go_enter Tryz.func16,Tryz.ntmps16;by_cases h4:4<n
 ·have a5:(n:Int)>4:=by omega
  go_wp2;go_ret;exact⟨⟨false,rfl⟩,Below.refl _ _⟩
 have a5:¬(n:Int)>4:=by omega
 by_cases h6:6<n'
 ·have a7:(n':Int)>6:=by omega
  go_wp2;go_ret;exact⟨⟨false,rfl⟩,Below.refl _ _⟩
 have a7:¬(n':Int)>6:=by omega
 go_wp2_with fail
 go_loopw [5] (fun s5 wr=>∃j:Nat,s5= .int .i64 (j:Int)/\j<=n/\Hid (Below w.heap.size w wr)) (fun s5 _=>n-(intOf s5).toNat)
 case atStart=>exact⟨0,rfl,Nat.zero_le _,Below.refl _ _⟩
 case round=>
  obtain⟨j,rfl,hj,HB⟩:=hrel;by_cases hlt:j<n
  ·have a8:(j:Int)<(n:Int):=by omega
   obtain⟨s,hs⟩:=HX.out.get hlt;obtain⟨b,off,hA,b1,a2⟩:=(HX.out.below HB.out rr).at_ hs;have a4:=(HX.out.below HB.out rr).2 s (List.mem_of_getElem? hs);have a9:=hI a2;have a6:=hI a4;subst hA;clear hs a2 a4;go_wp2_with(refine Qc rfl (.tmp 23) rfl b (off+j*18) s rfl a9.out ?_);refine(U0 s.l s.a wr a6.out).mono ?_;rintro e w1 ⟨⟨q,rfl⟩,a3⟩;have a1:=hI (HB.out.trans (a3.mono HB.out.size));clear a3 HB
   cases q with
   |false=>
    go_wp2;go_ret;exact⟨⟨false,rfl⟩,a1.out⟩
   |true=>
    go_wp2_with fail
    go_roundw
    case rel=>first|exact⟨j+1,by go_num,by omega,a1.out⟩|((repeat apply Exists.intro);exact⟨⟨j+1,by go_num,by omega,a1.out⟩,rfl⟩)
    case measure=>simp[intOf];omega
  ·obtain rfl:j=n:=by omega
   go_wp2_with fail
   go_loopw [6] (fun s6 wr=>∃j:Nat,s6= .int .i64 (j:Int)/\j<=n'/\Hid (Below w.heap.size w wr)) (fun s6 _=>n'-(intOf s6).toNat)
   case atStart=>exact⟨0,rfl,Nat.zero_le _,HB.out⟩
   case round=>
    obtain⟨q,rfl,hq,HB⟩:=hrel;by_cases hlt:q<n'
    ·have a8:(q:Int)<(n':Int):=by omega
     obtain⟨b,off,Aq,nq,cq,xq,hA,hb,hc, -, -⟩:=(HW.out.below HB.out rr).at_ hlt;subst hA;by_cases h100:100<nq
     ·have a0:(nq:Int)>100:=by omega
      go_wp2;go_ret;exact⟨⟨false,rfl⟩,HB.out⟩
     ·have a0:¬(nq:Int)>100:=by omega
      go_wp2_with fail
      go_roundw
      case rel=>first|exact⟨q+1,by go_num,by omega,HB.out⟩|((repeat apply Exists.intro);exact⟨⟨q+1,by go_num,by omega,HB.out⟩,rfl⟩)
      case measure=>simp[intOf];omega
    ·obtain rfl:q=n':=by omega
     go_wp2;go_ret;exact⟨⟨true,rfl⟩,HB.out⟩
theorem Abs (A:Option Addr)(n c:Nat)(xs:List Part)(F:Nat)(lb:Array Value)(p:Part->Bool)(w:World)(hx:Dg Eq 1 w A n c xs)(hE:Enters Tryz.prog F)
  (hcall:∀W,Below w.heap.size w W→∀s∈xs,Calls Tryz.prog F (#[Part.val s]++lb) W fun e W'=>e= .returned (.bool (p s))/\Below W.heap.size W W'):
  Calls Tryz.prog 146 #[.slice A n c, .func (.func F) #[] lb] w fun e w'=>e= .returned (.int .i64 (Ex p xs))/\Below w.heap.size w w':=by
 have hm:n<=9223372036854775807:=by have h1:=hx.1.2.1;have h2:=hx.1.2.2.1;unfold maxLen at h2;omega
 have HX:=hI hx;clear hx;have HC:=hI hcall;clear hcall;unfold Enters at hE;go_enter Tryz.func146,Tryz.ntmps146;go_wp2
 go_loopw [5,8] (fun _ i wr=>∃k:Nat,k<=n/\i= .int .i64 k/\Hid ((xs.take k).any p=false)/\Below w.heap.size w wr) (fun _ i _=>n-(intOf i).toNat)
 case atStart=>exact⟨0,Nat.zero_le _,rfl,by simp[Hid],Below.refl _ _⟩
 case round=>
  obtain⟨k,hk,rfl,HA,hB⟩:=hrel;by_cases hlt:k<n
  ·obtain⟨s,a2⟩:∃s,xs[k]? =some s:=⟨xs[k]'(by rw[HX.out.2];exact hlt),List.getElem?_eq_getElem _⟩;obtain⟨b,off,rfl,hb,a5⟩:=(HX.out.below hB rr).at_ Nv (by decide) a2;have a6:=a5 0 _ rfl;simp only[Nat.add_zero,←Nat.add_assoc,Nat.mul_one]at a6;clear a5;have a0:=hI (HC.out wr hB s (List.mem_of_getElem? a2));have HK:=hI a2;clear a2;by_cases hp:p s=true
   ·have hr:=Fb p xs k s HK.out HA.out hp;have HR:=hI hr;clear hr;have HP:=hI hp;clear hp;go_wp2_with fail;refine a0.out.mono ?_;rintro e w1 ⟨rfl,a1⟩;rw[HP.out];have a3:=hB.trans (a1.mono hB.size);clear a1;go_wp2;go_ret;exact⟨by rw[HR.out];rfl,a3⟩
   ·have a4:p s=false:=by simpa using hp
    have HP:=hI a4;clear hp a4;go_wp2_with fail;refine a0.out.mono ?_;rintro e w1 ⟨rfl,a1⟩;rw[HP.out];have a3:=hB.trans (a1.mono hB.size);clear a1;go_wp2
    go_roundw
    case rel=>exact⟨k+1,by omega,by go_num,by rw[Bp xs k _ HK.out,List.any_append,HA.out];simp[HP.out,Hid],a3⟩
    case measure=>simp[intOf];omega
  ·obtain rfl:k=n:=by omega
   have hr:Ex p xs= -1:=by
    have:=HA.out
    rw[List.take_of_length_le (by rw[HX.out.2];exact rr)]at this;exact Fa p xs this
   have HR:=hI hr;clear hr;go_wp2;go_ret;exact⟨by rw[HR.out];rfl,hB⟩
theorem Abt (A:Option Addr)(n c:Nat)(xs:List Part)(F:Nat)(lb:Array Value)(p:Part->Bool)(w:World)(hx:Dg Eq 1 w A n c xs)(hE:Enters Tryz.prog F)
  (hcall:∀W,Below w.heap.size w W→∀s∈xs,Calls Tryz.prog F (#[Part.val s]++lb) W fun e W'=>e= .returned (.bool (p s))/\Below W.heap.size W W'):
  Calls Tryz.prog 113 #[.slice A n c, .func (.func F) #[] lb] w fun e w'=>e= .returned (.bool (xs.any p))/\Below w.heap.size w w':=by
 have a0:=Abs A n c xs F lb p w hx hE hcall;have H:=hI (Gq p xs);clear hx hcall hE;go_enter Tryz.func113,Tryz.ntmps113;go_wp2_with(go_at_call 146;refine a0.mono ?_;rintro e w1 ⟨rfl,a1⟩);go_ret;refine⟨?_,a1⟩;show Ending.returned (.bool (decide (0<=Ex p xs)))=_;rw[H.out]
theorem Y5 (A:Option Addr)(n c bn m:Nat)(w:World)(h:w.heap[bn]? =some (.cells #[.int .i64 (m:Int)] 3 (0,0))):
  Calls Tryz.prog 114 #[.slice A n c, .pointer (some ⟨bn,0,none⟩)] w fun e w'=>e= .returned (.bool (decide (n≠m)))/\Below w.heap.size w w':=by
 have hc:=Aa (j:=0) h rfl;clear h;go_enter Tryz.func114,Tryz.ntmps114;by_cases e:n=m
 ·subst e;go_wp2;go_ret;exact⟨by simp,Below.refl _ _⟩
 ·have e':((n:Int) !=(m:Int))=true:=by simp;omega
  go_wp2;go_ret;exact⟨by simp[e],Below.refl _ _⟩
def Mx (n k:Nat):Int:=if n=0 then 1 else if k≠n then 2 else 0
theorem Wq (b n:Nat)(rs:List Bh)(A:Option Addr)(k c bl:Nat)(w:World)(hm:Cl w b n rs)(hl:w.heap[bl]? =some (.cells #[.slice A k c] 36 (0,0))):
  Calls Tryz.prog 70 #[.pointer (some ⟨b,0,none⟩), .slice (some ⟨bl,0,none⟩) 1 1] w fun e w'=>e= .returned (.int .i64 (Mx n k))/\Below w.heap.size w w':=by
 obtain⟨An,cn,mb,Ar,cr,Aq,cq,c0,_⟩:=hm.cells;have HC:=hI c0;have HL:=hI hl;have b1:=hm.lt;clear hm c0 hl;go_enter Tryz.func70,Tryz.ntmps70;go_wp2_with fail;refine(F2 b An n cn w HC.out).mono ?_;rintro e w1 ⟨rfl,a8⟩;have a1:=hI a8;clear a8;by_cases hn0:n=0
 ·have hz:((n:Int)==0)=true:=by simp[hn0]
  have HV:Hid (Mx n k=1):=by show _=_;unfold Mx;rw[if_pos hn0]
  have hB:Below w.heap.size w (w1.alloc (.cells #[.int .i64 (n:Int)] 3)):=a1.out.alloc a1.out.size _;clear hn0;go_wp2;go_ret;exact⟨by rw[HV.out];rfl,hB⟩
 ·have hz:((n:Int)==0)=false:=by simpa using hn0
  have a7:(w1.alloc (.cells #[.int .i64 (n:Int)] 3)).heap[w1.heap.size]? =some (.cells #[.int .i64 (n:Int)] 3 (0,0)):=hpt;have a4:Below w1.heap.size w1 (w1.alloc (.cells #[.int .i64 (n:Int)] 3)):=(Below.refl _ w1).alloc rr _;have a3:(w1.alloc (.cells #[.int .i64 (n:Int)] 3)).heap[bl]? =some (.cells #[.slice A k c] 36 (0,0)):=((a1.out.trans (a4.mono a1.out.size)).block bl (lt_of_block HL.out)).trans HL.out;have a5:=hI a7;have a2:=hI (a1.out.trans (a4.mono a1.out.size))
  have b0:Hid (Dg Eq 1 (w1.alloc (.cells #[.int .i64 (n:Int)] 3)) (some ⟨bl,0,none⟩) 1 1 [((A,k,c,[]):Part)]):=
   ⟨⟨rfl,rr,by unfold maxLen;omega,(fun h=>by cases h),fun _=>⟨bl,0,rfl,lt_of_block a3,fun j v hv=>by rw[Nat.zero_add];exact Aa a3 (by simpa[Eq,Part.val]using hv)⟩⟩,rfl⟩
  clear a7 a4 a3;go_wp2_with fail;refine(Abt (some ⟨bl,0,none⟩) 1 1 [((A,k,c,[]):Part)] 114 #[.pointer (some ⟨w1.heap.size,0,none⟩)] (fun p=>decide (p.2.1≠n)) _ b0.out (enters_of Tryz.func114 (by kernel_rfl) rfl) ?hcall).mono ?_
  case hcall=>
   intro W hW s hs;obtain rfl:s=(A,k,c,[]):=by simpa using hs
   exact Y5 A k c w1.heap.size n W ((hW.block _ (lt_of_block a5.out)).trans a5.out)
  rintro e w2 ⟨rfl,a6⟩;have a9:=hI (a2.out.trans (a6.mono a2.out.size));clear a6 a5 a2 b0 a1;by_cases hk:k=n
  ·have HV:Hid (Mx n k=0):=by show _=_;unfold Mx;rw[if_neg hn0,if_neg (by simpa using hk)]
   have a0:([((A,k,c,[]):Part)].any fun p=>decide (p.2.1≠n))=false:=by simp[hk]
   rw[a0];clear hk a0 hn0;go_wp2;go_ret;exact⟨by rw[HV.out];rfl,a9.out⟩
  ·have HV:Hid (Mx n k=2):=by show _=_;unfold Mx;rw[if_neg hn0,if_pos hk]
   have a0:([((A,k,c,[]):Part)].any fun p=>decide (p.2.1≠n))=true:=by simp[hk]
   rw[a0];clear hk a0 hn0;go_wp2;go_ret;exact⟨by rw[HV.out];rfl,a9.out⟩
theorem Aef (A:Option Addr)(n c:Nat)(vs:List Int)(ra rb rl:Nat)(va vb:Int)(w:World)(hv:Cm w A n c vs)(ha:vs[ra]? =some va)(hb:vs[rb]? =some vb):
  Calls Tryz.prog 71 #[.agg #[.int .i64 (ra:Int), .int .i64 (rb:Int), .int .i64 (rl:Int)], .slice A n c] w fun e w'=>e= .returned (.bool (decide (va≠vb)))/\Below w.heap.size w w':=by
 have a2:ra<n:=by have h1:=(List.getElem?_eq_some_iff.1 ha).1;have h2:=hv.len;omega
 have a0:rb<n:=by have h1:=(List.getElem?_eq_some_iff.1 hb).1;have h2:=hv.len;omega
 obtain⟨b,o,x,eA,a8,a9,a4⟩:=hv.at_ a2;obtain⟨b',o',y,a1, -,b0,a5⟩:=hv.at_ a0;obtain⟨rfl,rfl⟩:b=b'/\o=o':=by rw[eA]at a1;injection a1 with h;injection h with h1 h2;exact⟨h1,h2⟩
 obtain rfl:=Option.some.inj (ha.symm.trans a4);obtain rfl:=Option.some.inj (hb.symm.trans a5);have a7:=hv.max;subst eA;have a3:Below w.heap.size w (w.alloc (.cells #[.int .i64 (ra:Int), .int .i64 (rb:Int), .int .i64 (rl:Int)] 64)):=(Below.refl _ w).alloc rr _;have a6:=hI a3;clear a1 a4 a5 ha hb hv a3;go_enter Tryz.func71,Tryz.ntmps71;go_wp2_with fail
 go_quiet (fail)
 go_wp2;go_ret;refine⟨?_,a6.out.drewN _⟩;by_cases e:va=vb<;>simp[e]
def Y6 (rs:List Bh)(vs:List Int)(i:Nat):Bool:=match rs[i]? with
 |some r=>decide (vs[r.1]? ≠vs[r.2.1]?)
 |none=>false
def Nj (n:Nat)(rs:List Bh)(vs:List Int):Int×List Int:=if Mx n vs.length≠0 then(Mx n vs.length,[])else(0,Gz (Y6 rs vs) rs.length)
theorem Adl (b n:Nat)(rs:List Bh)(A:Option Addr)(k c:Nat)(vs:List Int)(w:World)(hm:Cl w b n rs)(hv:Cm w A k c vs):
  Calls Tryz.prog 25 #[.pointer (some ⟨b,0,none⟩), .slice A k c] w (Ji w (Nj n rs vs)):=by
 have HM:=hI hm;have g3:=hI hv;have a2:=hv.len;have a0:=hI a2;have a3:=hm.fewR;have g5:=hI hm.ok;clear hm hv a2;go_enter Tryz.func25,Tryz.ntmps25;go_wp2_with fail;have a7:Below w.heap.size w (w.alloc (.cells #[.slice A k c] 36)):=(Below.refl _ w).alloc rr _;have f7:(w.alloc (.cells #[.slice A k c] 36)).heap[w.heap.size]? =some (.cells #[.slice A k c] 36 (0,0)):=hpt;have b4:=hI a7;have f6:=hI f7;clear a7 f7;refine(Wq b n rs A k c w.heap.size _ (HM.out.below b4.out) f6.out).mono ?_;obtain⟨er,d1⟩:∃er,er=Mx n k:=⟨_,rfl⟩;rw[←d1];rintro e w1 ⟨rfl,d5⟩;have b0:=hI (b4.out.trans (d5.mono b4.out.size));have b1:=hI d1;clear d5 d1 b4 f6;by_cases he0:er=0
 ·have g6:(er !=0)=false:=by simp[he0]
  have g8:k=n:=by
   have:=b1.out;rw[he0]at this;unfold Mx at this
   by_cases h1:n=0
   ·rw[if_pos h1]at this;cases this
   ·rw[if_neg h1]at this;by_cases h2:k≠n
    ·rw[if_pos h2]at this;cases this
    ·exact Decidable.not_not.1 h2
  obtain⟨P,hP⟩:∃P,P=Y6 rs vs:=⟨_,rfl⟩;have d7:Hid (Nj n rs vs=(0,Gz P rs.length)):=by show _=_;unfold Nj;rw[a0.out,←b1.out,if_neg (by simp[he0]),hP]
  have HP:=hI hP;clear hP he0 b1;subst g8;go_wp2_with fail;refine(Ab3 b k rs w1 (HM.out.below b0.out)).mono ?_;rintro e w2 ⟨v,rfl,ho,d2⟩;obtain⟨Ar,cr,rfl⟩:=Bg ho;have f4:Hid (Cv w2 Ar rs.length cr (rs.map Dq)):=⟨Am.of_own ho (by decide),by simp⟩;have a4:=hI (b0.out.trans (d2.mono b0.out.size));clear ho d2 b0;have b7:=a4.out.size;obtain⟨B,hB⟩:∃B,B=w2.heap.size:=⟨_,rfl⟩;have g4:w2.heap.size<=B:=by omega
  have f2:Hid (Ee w2 B (.slice none 0 0) []):=Ee.nil (by omega);obtain⟨q,hq⟩:∃q,q=rs.length:=⟨_,rfl⟩;have HQ:=hI hq;rw[←hq]at f4 d7 a3 ⊢;clear hB b7 hq;go_wp2_with fail
  go_loopw [7,20] (fun s7 i wr=>∃j:Nat,j<=q/\i= .int .i64 (j:Int)/\Hid (Ee wr B s7 (Gz P j))/\Hid (Below w2.heap.size w2 wr)) (fun _ i _=>q-(intOf i).toNat)
  case atStart=>exact⟨0,Nat.zero_le _,rfl,f2.out,Below.refl _ _⟩
  case round=>
   obtain⟨j,hj,rfl,HN,HB⟩:=hrel;clear f2;have HR:Hid (Cv wr Ar q cr (rs.map Dq)):=Dg.below f4.out HB.out rr;by_cases hlt:j<q
   ·have i1:(j:Int)<(q:Int):=by omega
    obtain⟨⟨ra,rb,rl⟩,b5⟩:∃d,rs[j]? =some d:=⟨rs[j]'(by rw[←HQ.out];exact hlt),List.getElem?_eq_getElem _⟩;have f5:(rs.map Dq)[j]? =some ((ra:Int),(rb:Int),(rl:Int)):=by rw[List.getElem?_map,b5];rfl
    obtain⟨gb,gg,eR,g9,g0,g1,g2⟩:=HR.out.at_ f5;simp only at g0 g1 g2;obtain⟨d9,f1, -⟩:=g5.out.lt _ (List.mem_of_getElem? b5);simp only at d9 f1;obtain⟨va,b6⟩:∃va,vs[ra]? =some va:=⟨vs[ra]'(by rw[a0.out];exact d9),List.getElem?_eq_getElem _⟩;obtain⟨vb,d0⟩:∃vb,vs[rb]? =some vb:=⟨vs[rb]'(by rw[a0.out];exact f1),List.getElem?_eq_getElem _⟩;have a5:Hid (P j=decide (va≠vb)):=by show _=_;rw[HP.out];unfold Y6;rw[b5];show decide (vs[ra]? ≠vs[rb]?)=_;rw[b6,d0];simp
    have d8:=hI b6;have f0:=hI d0
    have b3:Hid (Gz P (j+1)=Gz P j++(if P j=true then [(j:Int)]else [])):=by
     show _=_;unfold Gz;rw[List.range_succ,List.filter_append,List.map_append];congr 1;by_cases h:P j=true
     ·rw[if_pos h,List.filter_cons_of_pos h];rfl
     ·rw[if_neg h,List.filter_cons_of_neg h];rfl
    have d4:(Gz P j).length<=j:=by rw[M7];exact Aa3
    subst eR;clear b5 f5 b6 d0;go_wp2_with fail;clear g0 g1 g2;have a7:Below wr.heap.size wr (wr.alloc (.cells #[.int .i64 (ra:Int), .int .i64 (rb:Int), .int .i64 (rl:Int)] 64)):=(Below.refl _ wr).alloc rr _;have HZ:=hI a7;clear a7;refine(Aef A k c vs ra rb rl va vb _ (g3.out.below (a4.out.trans ((HB.out.trans (HZ.out.mono HB.out.size)).mono a4.out.size)) rr) d8.out f0.out).mono ?_;obtain⟨pj,a9⟩:∃pj,pj=decide (va≠vb):=⟨_,rfl⟩;rw[←a9]at a5 ⊢;clear a9;rintro e w3 ⟨rfl,d3⟩;have a1:=HZ.out.trans (d3.mono HZ.out.size);have a6:=hI (HN.out.below a1);have b2:=hI (HB.out.trans (a1.mono HB.out.size));clear d3 a1 HN HR HB HZ d8 f0
    cases pj with
    |false=>
     go_wp2_with fail
     go_roundw
     case rel=>first|exact⟨j+1,by omega,by go_num,by show Ee _ _ _ _;rw[b3.out,a5.out,if_neg (by simp),List.append_nil];exact a6.out,b2.out⟩|((repeat apply Exists.intro);exact⟨⟨j+1,by omega,by go_num,by show Ee _ _ _ _;rw[b3.out,a5.out,if_neg (by simp),List.append_nil];exact a6.out,b2.out⟩,rfl⟩)
     case measure=>simp[intOf];omega
    |true=>
     obtain⟨A8,c8,f8⟩:=a6.out.form;subst f8;obtain⟨L,hL⟩:∃L,L=Gz P j:=⟨_,rfl⟩;have i0:L.length<=j:=by rw[hL];exact d4
     rw[←hL]at a6 ⊢;have HL:=hI hL;clear hL d4;have b8:=a6.out.below ((Below.refl _ w3).alloc rr (.cells #[.int .i64 (j:Int)] 3));have b9:=hI b8;have f9:=b8.2;have g7:Hid (Below w2.heap.size w2 (w3.alloc (.cells #[.int .i64 (j:Int)] 3))):=b2.out.alloc b2.out.size _;clear b8;go_wp2_with(at_builtin;refine Jv rfl (.tmp 28) (.tmp 30) rfl B (.slice A8 L.length c8) L.length (L.map (Value.int .i64)) rfl b9.out.1 ⟨w3.heap.size,0,none⟩ 1 (.int .i64 (j:Int)) rfl (cell_one_new _ _ _) rfl (by omega) f9 ?hc)
     case hc=>
      intro v' w4 a8 hg _;have d6:=hI (b9.out.push a8 hg);have f3:=hI (b9.out.grow g7.out g4 hg);clear a8 hg;go_wp2_with fail
      go_roundw
      case rel=>first|exact⟨j+1,by omega,by go_num,by show Ee _ _ _ _;rw[b3.out,a5.out,if_pos (by rfl),←HL.out];exact d6.out,f3.out⟩|((repeat apply Exists.intro);exact⟨⟨j+1,by omega,by go_num,by show Ee _ _ _ _;rw[b3.out,a5.out,if_pos (by rfl),←HL.out];exact d6.out,f3.out⟩,rfl⟩)
      case measure=>simp[intOf];omega
   ·obtain rfl:j=q:=by omega
    go_wp2
    go_ret2
    exact Ji.own d7.out HN.out.1 (a4.out.trans (HB.out.mono a4.out.size))
 ·have g6:(er !=0)=true:=by simpa using he0
  have HV:Hid (Nj n rs vs=(er,[])):=by show _=_;unfold Nj;rw[a0.out,if_pos (by rw[←b1.out];exact he0),b1.out]
  clear he0;go_wp2
  go_ret2
  exact Ji.bad HV.out b0.out
theorem U3 {n:Nat}{rs:List Bh}{ls:List Bb}{ws:List C7}{w:List Snd}{now:Int}(h:(Bf n rs ls ws w now).1=0):
  Dr n ls ws=0/\Bu w=0/\Bf n rs ls ws w now=(0,(List.range n).map fun a=>(En n rs ls ws w now a).2)∧∀a,a<n->(En n rs ls ws w now a).1=0:=by
 by_cases h1:Dr n ls ws=0
 case neg=>unfold Bf at h;rw[if_pos h1]at h;exact absurd h h1
 by_cases h2:Bu w=0
 case neg=>unfold Bf at h;rw[if_neg (by simpa using h1),if_pos h2]at h;exact absurd h h2
 have a0:∀a,a<n->(En n rs ls ws w now a).1=0:=fun a ha=>Classical.byContradiction fun hne=>by
  rw[Vc h1 h2 ha hne]at h;cases h
 exact⟨h1,h2,Vd h1 h2 a0,a0⟩
theorem Tf {n:Nat}{rs:List Bh}{ls:List Bb}{ws:List C7}{w:List Snd}{now:Int}(h:(Bf n rs ls ws w now).1≠0):E6 n rs ls ws w now=((Bf n rs ls ws w now).1,[]):=by
 unfold E6;rw[if_pos h]
theorem Qr {n:Nat}:∀{rs:List Db} {done:List Bh},Dt n done rs=0→∀r∈rs,0<=r.1/\0<=r.2.1
 |[],_,_,r,hr=>by cases hr
 |q::rs,done,he,r,hr=>by
  unfold Dt at he;by_cases h1:min q.1 q.2.1<0\/(n:Int)<=max q.1 q.2.1
  ·rw[if_pos h1]at he;cases he
  rw[if_neg h1]at he;by_cases h2:q.1=q.2.1
  ·rw[if_pos h2]at he;cases he
  rw[if_neg h2]at he;by_cases h3:q.2.2<1\/1073741824<q.2.2
  ·rw[if_pos h3]at he;cases he
  rw[if_neg h3]at he;by_cases h4:done.any (fun s=>Df s q.1.toNat q.2.1.toNat)=true
  ·rw[if_pos h4]at he;cases he
  rw[if_neg h4]at he;rcases List.mem_cons.1 hr with e|hr
  ·subst e;omega
  ·exact Qr he r hr
theorem Xo {names:List ByteArray}{roads:List Db}(h:Fc names roads=0):Dt names.length [] roads=0:=by
 unfold Fc at h;by_cases h1:128<names.length\/512<roads.length
 ·rw[if_pos h1]at h;cases h
 rw[if_neg h1]at h;by_cases h2:D8 [] names≠0
 ·rw[if_pos h2]at h;exact absurd h h2
 rw[if_neg h2]at h;exact h
structure U8 (w:World)(x:EdR)(rs:List Bh)(b bx:Nat)(W:World):Prop where
 g:GdW x rs b W
 k:W.heap[bx]? =some (.cells #[.slice x.An x.nn x.cn, .slice x.Ar x.nr x.cr] 25 (0,0))
 bl:Below w.heap.size w W
section
variable {w W W':World}{x:EdR}{rs:List Bh}{b bx:Nat}
theorem U8.step (h:U8 w x rs b bx W)(hb:Below W.heap.size W W'):U8 w x rs b bx W':=
 ⟨h.g.below hb,(hb.block bx (lt_of_block h.k)).trans h.k,h.bl.trans (hb.mono h.bl.size)⟩
theorem U8.c1 (h:U8 w x rs b bx W):W.cell? ⟨bx,1,none⟩=some (.slice x.Ar x.nr x.cr):=Aa h.k rfl
theorem U8.wave (h:U8 w x rs b bx W){k:Nat}(hk:k<x.nv):∃(y:Cs) (yb yo:Nat),x.waves[k]? =some y/\yb<W.heap.size/\x.Av=some ⟨yb,yo,none⟩∧
  W.cell? ⟨yb,yo+k*5,none⟩=some (.int .i64 y.d.law)/\W.cell? ⟨yb,yo+k*5+1,none⟩=some (.slice y.A y.n y.c)/\W.cell? ⟨yb,yo+k*5+2,none⟩=some (.int .i64 y.d.time)/\W.cell? ⟨yb,yo+k*5+3,none⟩=some (.int .i64 y.d.slow)/\W.cell? ⟨yb,yo+k*5+4,none⟩=some (.int .i64 y.d.fin):=by
 obtain⟨y,hy⟩:=h.g.e.waves.get hk;obtain⟨yb,yo,hA,a0,_,l0,l1,l2,l3,l4⟩:=h.g.e.waves.at_ hy;exact⟨y,yb,yo,hy,a0,hA,l0,l1,l2,l3,l4⟩
end
end Go.Proofs.YtaglfmlgbcmakaaGreatDoor
