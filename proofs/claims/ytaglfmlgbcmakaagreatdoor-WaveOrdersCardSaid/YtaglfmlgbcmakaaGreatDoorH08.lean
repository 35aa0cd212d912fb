/-
  Waves (chapter 38), in plain words: what the statements of the program alone ask of arrivals, of lists of points, and of lines.
  Forms and values (chapter 38), in plain words: which errors there are, and which points have the same number.
  (*points.Map).Roads.
  A case of chapter 38 that is allowed: what lies in memory, and what the calls return.
  good of ablautlaw38.
  A large region that only reads: the test of its order, cheap for the kernel.
-/
import Derived.Deep.Quiet
import Derived.Test.YtaglfmlgbcmakaaGreatDoorXFw39
set_option linter.all false
set_option maxRecDepth 100000
set_option maxHeartbeats 4000000
namespace Go.Proofs.YtaglfmlgbcmakaaGreatDoor
open Go.RowKit
-- lists of points gone over
def Bl (P:Nat->Bool)(c:Nat):Nat:=((List.range c).filter P).length
def Hx (P:Nat->Bool)(n:Nat):List Int:=((List.range n).filter P).map fun(a:Nat)=>(a:Int)
section
variable {P:Nat->Bool}{n c:Nat}
theorem Kt (h:P c=true):Bl P (c+1)=Bl P c+1:=by unfold Bl;rw[N6,if_pos h]
theorem Hz (h:P c=false):Bl P (c+1)=Bl P c:=by unfold Bl;rw[N6,if_neg (by simp[h])];rfl
theorem Mv:(Hx P n).length=Bl P n:=by unfold Hx Bl;rw[List.length_map]
theorem Vn:Bl P c<=c:=by unfold Bl;exact Nat.le_trans (List.length_filter_le _ _) (by simp)
theorem Agm (hc:c<n)(h:P c=true):(Hx P n)[Bl P c]? =some (c:Int):=by
 unfold Hx Bl;rw[List.getElem?_map,(My hc).2 h];rfl
theorem Aex (hc:c<n)(h:P c=false){v:Int}(hv:(Hx P n)[Bl P c]? =some v):v≠(c:Int):=by
 intro e;subst e;unfold Hx Bl at hv;rw[List.getElem?_map]at hv
 cases hx:((List.range n).filter P)[((List.range c).filter P).length]? with
 |none=>rw[hx]at hv;cases hv
 |some y=>
  rw[hx]at hv;have a0:(y:Int)=(c:Int):=by simpa using hv
  obtain rfl:y=c:=by omega
  have:=(My hc).1 hx
  rw[h]at this;cases this
end
theorem Km {P:Nat->Bool}{n c:Nat}(hc:c<n):(P c=true/\Bl P c<Bl P n/\(Hx P n)[Bl P c]? =some (c:Int))\/(P c=false∧¬Bl P c<Bl P n)\/(P c=false/\Bl P c<Bl P n∧∃v:Int,(Hx P n)[Bl P c]? =some v/\v≠(c:Int)):=by
 cases h:P c with
 |true=>
  have h1:=Agm hc h;refine .inl ⟨rfl, ?_,h1⟩;rw[←Mv (P:=P) (n:=n)];exact(List.getElem?_eq_some_iff.1 h1).1
 |false=>
  rcases Nat.lt_or_ge (Bl P c) (Bl P n)with h1|h1
  ·refine .inr (.inr ⟨rfl,h1, ?_⟩);have h2:(Hx P n)[Bl P c]? =some ((Hx P n)[Bl P c]'(by rw[Mv];exact h1)):=List.getElem?_eq_getElem _;exact⟨_,h2,Aex hc h h2⟩
  ·exact .inr (.inl ⟨rfl,by omega⟩)
-- where one wave comes before another one
section
variable {n:Nat}{rs:List Bd}{ws:List Cg}{i j c s t:Nat}
theorem Jo (h:tAt n rs ws c i=none):Dx n rs ws i j c=false:=by unfold Dx;rw[h];rfl
theorem N4 (h:tAt n rs ws c i=some s)(h':tAt n rs ws c j=none):Dx n rs ws i j c=true:=by unfold Dx Ci;rw[h,h'];rfl
theorem Rv (h:tAt n rs ws c i=some s)(h':tAt n rs ws c j=some t):Dx n rs ws i j c=(decide (s<t)||(decide (s=t) && decide (i<j))):=by unfold Dx Ci;rw[h,h'];rfl
theorem Zl:Dx n rs ws i i c=false:=by unfold Dx;rw[(Bx _).irr,Bool.and_false]
theorem Aey:Hx (Dx n rs ws i i) n=[]:=by
 unfold Hx;rw[List.filter_eq_nil_iff.2 fun a _=>by rw[Zl];decide];rfl
end
theorem Zm {n:Nat}{rs:List Bd}{ws:List Cg}{i c:Nat}{x:Cg}(h:ws[i]? =some x):tAt n rs ws c i=Da n rs x c:=by unfold tAt;rw[h];rfl
-- the nearest beginning
theorem Agn {a b:Option Nat}{k:Nat}(h:J4 a b=some k):(∀x,a=some x->k<=x)/\(∀x,b=some x->k<=x)/\(a=some k\/b=some k):=by
 cases a with
 |none=>
  have hb:b=some k:=h;subst hb;exact⟨fun x hx=>(by cases hx),fun x hx=>(by cases hx;exact rr), .inr rfl⟩
 |some a=>
  cases b with
  |none=>
   have ha:some a=some k:=h;cases ha;exact⟨fun x hx=>(by cases hx;exact rr),fun x hx=>(by cases hx), .inl rfl⟩
  |some b=>
   have hm:min a b=k:=by simpa[J4]using h
   subst hm;refine⟨fun x hx=>(by cases hx;omega),fun x hx=>(by cases hx;omega), ?_⟩
   rcases Nat.le_total a b with e|e
   ·exact .inl (by rw[Nat.min_eq_left e])
   ·exact .inr (by rw[Nat.min_eq_right e])
theorem Xw {a b:Option Nat}(h:J4 a b=none):a=none/\b=none:=by
 cases a with
 |none=>exact⟨rfl,h⟩
 |some a=>cases b<;>cases h
theorem Jp (l:List (Option Nat))(o:Option Nat):F4 (l++[o])=J4 (F4 l) o:=by
 unfold F4;rw[List.foldl_append];rfl
theorem Mw (l:List (Option Nat)):∀k,F4 l=some k->(∀x,some x∈l->k<=x)/\some k∈l:=by
 induction h:l.length generalizing l with
 |zero=>
  obtain rfl:=List.length_eq_zero_iff.1 h;intro k hk;cases hk
 |succ m ih=>
  obtain⟨l',o,rfl⟩:∃l' o,l=l'++[o]:=⟨l.dropLast,l.getLast (by intro e;subst e;cases h),(List.dropLast_concat_getLast _).symm⟩;intro k hk;rw[Jp]at hk;obtain⟨h1,h2,h3⟩:=Agn hk;have hl:l'.length=m:=by simpa using h
  refine⟨fun x hx=> ?_, ?_⟩
  ·rcases List.mem_append.1 hx with hx|hx
   ·cases hn:F4 l' with
    |none=>
     exfalso
     have key:∀l:List (Option Nat),F4 l=none→∀o∈l,o=none:=by
      intro l
      induction h:l.length generalizing l with
      |zero=>obtain rfl:=List.length_eq_zero_iff.1 h;intro _ o ho;cases ho
      |succ m ih=>
       obtain⟨l',o',rfl⟩:∃l' o,l=l'++[o]:=⟨l.dropLast,l.getLast (by intro e;subst e;cases h),(List.dropLast_concat_getLast _).symm⟩;intro hn o ho;rw[Jp]at hn;obtain⟨a1,a2⟩:=Xw hn;rcases List.mem_append.1 ho with ho|ho
       ·exact ih l' (by simpa using h) a1 o ho
       ·have:o=o':=by simpa using ho
        rw[this];exact a2
     have:=key l' hn _ hx
     cases this
    |some y=>exact Nat.le_trans (h1 y hn) ((ih l' hl y hn).1 x hx)
   ·exact h2 x (List.mem_singleton.1 hx).symm
  ·rcases h3 with h3|h3
   ·exact List.mem_append.2 (.inl (ih l' hl k h3).2)
   ·exact List.mem_append.2 (.inr (by rw[h3];simp))
theorem Ue {l:List (Option Nat)}{x:Nat}(h:some x∈l):∃k,F4 l=some k:=by
 induction hl:l.length generalizing l with
 |zero=>obtain rfl:=List.length_eq_zero_iff.1 hl;cases h
 |succ m ih=>
  obtain⟨l',o,rfl⟩:∃l' o,l=l'++[o]:=⟨l.dropLast,l.getLast (by intro e;subst e;cases hl),(List.dropLast_concat_getLast _).symm⟩;rw[Jp];rcases List.mem_append.1 h with h|h
  ·obtain⟨k,hk⟩:=ih h (by simpa using hl);rw[hk]
   cases o with
   |none=>exact⟨k,rfl⟩
   |some y=>exact⟨min k y,rfl⟩
  ·obtain rfl:some x=o:=by simpa using h
   cases F4 l' with
   |none=>exact⟨x,rfl⟩
   |some y=>exact⟨min y x,rfl⟩
def Hb (n:Nat)(rs:List Bd)(ps:List Int)(c k:Nat):Option Nat:=F4 ((ps.take k).map fun b=>D6 n rs b.toNat c)
theorem Abl {n:Nat}{rs:List Bd}{ps:List Int}{c k:Nat}{b:Int}(h:ps[k]? =some b):Hb n rs ps c (k+1)=J4 (Hb n rs ps c k) (D6 n rs b.toNat c):=by
 unfold Hb;rw[List.take_add_one,h,Option.toList_some,List.map_append,List.map_singleton,Jp]
theorem Aez {n:Nat}{rs:List Bd}(hr:Cw n rs){x:Cg}{c:Nat}:Hb n rs x.at_ c x.at_.length=Kn n rs x c:=by
 unfold Hb Kn;rw[List.take_length];congr 1;exact List.map_congr_left fun b _=>Ui hr _ _
theorem Rw {n:Nat}{rs:List Bd}{x:Cg}{c d:Nat}(hn:Kn n rs x c=some d)(hu:x.fin<=9223372036854775807)(h:((x.time.toNat+x.slow.toNat*d:Nat):Int)<x.fin):Da n rs x c=some (x.time.toNat+x.slow.toNat*d):=by
 unfold Da Fk;rw[hn];dsimp only;rw[if_neg (by omega),if_neg (by omega)]
theorem Rx {n:Nat}{rs:List Bd}{x:Cg}{c d:Nat}(hn:Kn n rs x c=some d)(h:x.fin<=((x.time.toNat+x.slow.toNat*d:Nat):Int)):Da n rs x c=none:=by
 unfold Da Fk;rw[hn];dsimp only;split
 ·rfl
 ·rfl
theorem Uf {n:Nat}{rs:List Bd}{x:Cg}{c:Nat}(hn:Kn n rs x c=none):Da n rs x c=none:=by
 unfold Da Fk;rw[hn]
theorem Ago {n:Nat}{rs:List Bd}(hr:Cw n rs){x:Cg}{c d:Nat}(h:Kn n rs x c=some d):d<=1073741824*(n-1):=by
 obtain⟨_,hm⟩:=Mw _ _ h;obtain⟨b,_,hb⟩:=List.mem_map.1 hm;exact Agr hr hb
theorem Abm {n:Nat}{rs:List Bd}(a:Nat):D6 n rs a a=some 0:=by
 unfold D6;exact Zy (fun i=>by simp[D0]) n a
theorem Ry {n:Nat}{rs:List Bd}{x:Cg}{a:Nat}(h:(a:Int)∈x.at_):Kn n rs x a=some 0:=by
 have hm:some 0∈x.at_.map fun b=>D6 n rs a b.toNat:=List.mem_map.2 ⟨_,h,by rw[Int.toNat_natCast];exact Abm a⟩
 obtain⟨k,hk⟩:=Ue hm
 have:=(Mw _ _ hk).1 0 hm
 obtain rfl:k=0:=by omega
 exact hk
theorem Ae0 {n:Nat}{rs:List Bd}{x:Cg}{a:Nat}(h:(a:Int)∈x.at_)(h1:Eh n x=0)(hlt:x.time<x.fin):Da n rs x a=some x.time.toNat:=by
 obtain⟨_,h2,h3,_⟩:=R8 h1;unfold Da Fk;rw[Ry h];dsimp only;rw[Nat.mul_zero,Nat.add_zero,if_neg (by omega),if_neg (by omega)]
theorem Abn {n:Nat}{rs:List Bd}{x:Cg}{a:Nat}(h:(a:Int)∈x.at_)(h1:Eh n x=0)(hlt:x.fin<=x.time):Da n rs x a=none:=by
 obtain⟨_,h2,h3,_⟩:=R8 h1;unfold Da Fk;rw[Ry h];dsimp only;rw[Nat.mul_zero,Nat.add_zero];split
 ·rfl
 ·rw[if_pos (by omega)]
theorem Agp {n:Nat}{rs:List Bd}(hr:Cw n rs){r:Bd}(hm:r∈rs):wtN rs r.1 r.2.1=some r.2.2/\wtN rs r.2.1 r.1=some r.2.2:=by
 have h:wtN rs r.1 r.2.1=some r.2.2:=(Kp hr).1 (F0.2 ⟨r,hm, .inl ⟨rfl,rfl,rfl⟩⟩);exact⟨h,by rw[Uv];exact h⟩
theorem Ku {n:Nat}{rs:List Bd}(hr:Cw n rs){x:Cg}{a b l s:Nat}(hw:wtN rs a b=some l)(ha:Da n rs x a=some s)(hl:((s+x.slow.toNat*l:Nat):Int)<x.fin)(hu:x.fin<=9223372036854775807):
  ∃t,Da n rs x b=some t/\t<=s+x.slow.toNat*l:=by
 cases hn:Kn n rs x a with
 |none=>rw[Uf hn]at ha;cases ha
 |some d=>
  have hs:s=x.time.toNat+x.slow.toNat*d:=by
   unfold Da Fk at ha;rw[hn]at ha;dsimp only at ha;split at ha
   ·cases ha
   ·split at ha
    ·cases ha
    ·exact(Option.some.inj ha).symm
  obtain⟨_,hm⟩:=Mw _ _ hn;obtain⟨p,hp,hd⟩:=List.mem_map.1 hm
  have h1:Fb (wtN rs) p.toNat a (some d):=by
   have:=Jg hr a p.toNat
   rw[hd]at this;exact this.rev (Uv rs)
  obtain⟨e,he,a2⟩:=Abp h1 (Jg hr p.toNat b) hw;have a1:some e∈x.at_.map fun q=>D6 n rs b q.toNat:=List.mem_map.2 ⟨p,hp,by rw[Ui hr];exact he⟩
  obtain⟨k,hk⟩:=Ue a1;have a3:=(Mw _ _ hk).1 e a1;have a0:x.slow.toNat*k<=x.slow.toNat*(d+l):=Nat.mul_le_mul_left _ (by omega);rw[Nat.mul_add]at a0;exact⟨_,Rw hk hu (by omega),by omega⟩
-- lines
section
variable {n:Nat}{rs:List Bd}{ws:List Cg}{a:Nat}
theorem Rz (now:Int):(Dc n rs ws a now).length=((List.range ws.length).filter fun i=>E7 now (tAt n rs ws a i)).length:=by
 unfold Dc Hc;rw[List.length_map,H7 (Bx _)]
theorem Mx {x y:Int}(h:x<=y):(Dc n rs ws a x).length<=(Dc n rs ws a y).length/\(Dc n rs ws a y).take (Dc n rs ws a x).length=Dc n rs ws a x:=by
 have hp:=Xx (n:=n) (rs:=rs) (ws:=ws) (a:=a) h;have hl:=hp.length_le;unfold Dc;rw[List.length_map,List.length_map,←List.map_take];exact⟨hl,by rw[←List.prefix_iff_eq_take.1 hp]⟩
theorem Zn:Dc n rs ws a (-1)=[]:=by
 have h:=Rz (n:=n) (rs:=rs) (ws:=ws) (a:=a) (-1);rw[List.filter_eq_nil_iff.2 fun i _=>by cases tAt n rs ws a i with|none=>simp[E7]|some t=>simp[E7];omega]at h
 exact List.length_eq_zero_iff.1 h
theorem Abo:(Dc n rs ws a 9223372036854775807).length=Bl (fun i=>(tAt n rs ws a i).isSome) ws.length:=by
 rw[Rz];unfold Bl;congr 1;refine List.filter_congr fun i _=> ?_
 cases h:tAt n rs ws a i with
 |none=>rfl
 |some t=>
  obtain⟨x,_,hx⟩:=R9 h
  have:=(E8 hx).1
  simp[E7];omega
end
section
variable {f:Nat->Int×List Snd}
theorem Ag5:∀(L:List Nat) (done:List (List Snd)),(∀a∈L,(f a).1=0)->C6 f done L=(0,done++L.map fun a=>(f a).2)
 |[],done,_=>by simp[C6]
 |a::L,done,h=>by
  unfold C6;rw[if_neg (by simp[h a (List.mem_cons_self ..)]),Ag5 L _ fun b hb=>h b (List.mem_cons_of_mem _ hb)]
  simp
theorem Aev:∀(L:List Nat) (done:List (List Snd)),(∃a∈L,(f a).1≠0)→∃a∈L,(f a).1≠0/\C6 f done L=((f a).1,[])
 |[],done,h=>by obtain⟨a,ha,_⟩:=h;cases ha
 |b::L,done,h=>by
  by_cases h0:(f b).1=0
  ·obtain⟨a,ha,a0⟩:=h;rcases List.mem_cons.1 ha with e|ha
   ·subst e;exact absurd h0 a0
   ·obtain⟨x,hx,h1,h2⟩:=Aev L (done++[(f b).2]) ⟨a,ha,a0⟩;refine⟨x,List.mem_cons_of_mem _ hx,h1, ?_⟩;unfold C6;rw[if_neg (by simpa using h0)];exact h2
  ·refine⟨b,List.mem_cons_self ..,h0, ?_⟩;unfold C6;rw[if_pos h0]
end
theorem Agk {ls:List Be}{on:List Int}{l:Be}(h:l∈Cm ls on):l∈ls:=by
 unfold Cm at h;obtain⟨i,_,hi⟩:=List.mem_filterMap.1 h;exact List.mem_of_getElem? hi
theorem Agl {ls:List Be}{on:List Int}:(Cm ls on).length<=on.length:=List.length_filterMap_le _ _
section
variable {n:Nat}{rs:List Bd}{ls:List Be}{ws:List Cg}{w:List Snd}{now:Int}
theorem Lq {a:Nat}:(Dc n rs ws a now).length<=ws.length:=by
 rw[Rz];exact Nat.le_trans (List.length_filter_le _ _) (by simp)
theorem Ahz {a:Nat}(h:C9 n ls ws=0):Dy (Cm ls (Dc n rs ws a now))=0:=by
 obtain⟨_,h1,h2,_⟩:=D1 h;obtain⟨h3,h4⟩:=T9 h1;have hl:(Cm ls (Dc n rs ws a now)).length<=64:=Nat.le_trans Agl (Nat.le_trans Lq h2);unfold Dy;rw[if_neg (by omega),if_neg];intro a0;obtain⟨l,hl,hb⟩:=List.any_eq_true.1 a0;rw[h4 l (Agk hl)]at hb;exact absurd hb (by decide)
theorem Aew {a:Nat}(h:C9 n ls ws=0)(hw:B3 w=0):(F8 n rs ls ws w now a).1=0\/F8 n rs ls ws w now a=(11,[]):=by
 unfold F8;rw[Abi (Ahz h) hw];split
 ·exact .inr rfl
 ·exact .inl rfl
theorem Zj {a:Nat}(h:C9 n ls ws=0)(hw:B3 w=0)(ha:a<n)(he:(F8 n rs ls ws w now a).1≠0):Bs n rs ls ws w now=(11,[]):=by
 unfold Bs;rw[if_neg (by rw[h];simp),if_neg (by rw[hw];simp)];obtain⟨x,_,h1,h2⟩:=Aev (f:=F8 n rs ls ws w now) (List.range n) [] ⟨a,List.mem_range.2 ha,he⟩;rw[h2];rcases Aew (rs:=rs) (a:=x) (now:=now) h hw with h3|h3
 ·exact absurd h3 h1
 ·rw[h3]
theorem Zk (h:C9 n ls ws=0)(hw:B3 w=0)(ha:∀a,a<n->(F8 n rs ls ws w now a).1=0):Bs n rs ls ws w now=(0,(List.range n).map fun a=>(F8 n rs ls ws w now a).2):=by
 unfold Bs;rw[if_neg (by rw[h];simp),if_neg (by rw[hw];simp),Ag5 _ _ fun a hm=>ha a (List.mem_range.1 hm)]
 rfl
theorem Xu (h:Bs n rs ls ws w now=(11,[])):Ft n rs ls ws w now=(11,[]):=by
 unfold Ft;rw[h];rfl
theorem Xv {fs:List (List Snd)}(h:Bs n rs ls ws w now=(0,fs)):Ft n rs ls ws w now=(0,fs.map (Db fs)):=by
 unfold Ft;rw[h];rfl
end
theorem Lr {fs:List (List Snd)}{c:Nat}{x:List Snd}(h:fs[c]? =some x):∃k:Nat,Db fs x=(k:Int)/\k<=c/\fs[k]? =some x:=by
 unfold Db
 cases hf:fs.findIdx? (fun y=>decide (x=y))with
 |none=>
  exfalso
  have:=List.findIdx?_eq_none_iff.1 hf x (List.mem_of_getElem? h)
  simp at this
 |some k=>
  obtain⟨hk,h1,h2⟩:=List.findIdx?_eq_some_iff_getElem.1 hf;refine⟨k,rfl, ?_, ?_⟩
  ·rcases Nat.lt_or_ge c k with hc|hc
   ·exfalso
    have:=h2 c hc
    obtain⟨hl,e⟩:=List.getElem?_eq_some_iff.1 h;rw[e]at this;simp at this
   ·exact hc
  ·rw[List.getElem?_eq_getElem hk]
   have:x=fs[k]:=by simpa using h1
   rw[←this]
theorem Abk {fs:List (List Snd)}{c d:Nat}{x y:List Snd}(h:fs[c]? =some x)(h':fs[d]? =some y):Db fs x=Db fs y↔x=y:=by
 constructor
 ·intro e;obtain⟨k,h1,_,h2⟩:=Lr h;obtain⟨k',h3,_,h4⟩:=Lr h';rw[h1,h3]at e;obtain rfl:k=k':=by omega
  rw[h2]at h4;exact Option.some.inj h4
 ·intro e;rw[e]
end Go.Proofs.YtaglfmlgbcmakaaGreatDoor
namespace Go.Proofs.YtaglfmlgbcmakaaGreatDoor
open Go.RowKit Go.Shelf
theorem Cq.roads {w:World}{b n:Nat}{rs:List Bd}(h:Cq w b n rs):∃Ar cr,w.cell? ⟨b,2,none⟩=some (.slice Ar rs.length cr)/\Dl w Ar rs.length cr (rs.map Dk):=by
 obtain⟨An,cn,mb,Ar,cr,Aq,cq,vs,h⟩:=h;exact⟨Ar,cr,Ad h.blk rfl,h.roads⟩
theorem Af0 (b n:Nat)(rs:List Bd)(w:World)(h:Cq w b n rs):
  Calls Tryz.prog 36 #[.pointer (some ⟨b,0,none⟩)] w fun e w'=>∃v,e= .returned v/\w'.ownsRow w.heap.size 64 3 v rs.length ((rs.map Dk).flatMap Js)/\Below w.heap.size w w':=by
 obtain⟨Ar,cr,c2,hr⟩:=h.roads;have hl:=h.fewR;have HC:=hI (Ny Ar rs.length cr (rs.map Dk) w hr (by omega));clear h hr;go_enter Tryz.func36,Tryz.ntmps36;go_wp2_with fail;refine HC.out.mono ?_;rintro e w1 ⟨v,rfl,ho,hb⟩;have HO:=hI ho;clear ho;go_wp2;go_ret;exact⟨v,rfl,HO.out,hb⟩
theorem Dl.at_ {w:World}{A:Option Addr}{n c k:Nat}{rs:List D2}{r:D2}(h:Dl w A n c rs)(hx:rs[k]? =some r):∃b off,A=some ⟨b,off,none⟩/\b<w.heap.size∧
  w.cell? ⟨b,off+k*3,none⟩=some (.int .i64 r.1)/\w.cell? ⟨b,off+k*3+1,none⟩=some (.int .i64 r.2.1)/\w.cell? ⟨b,off+k*3+2,none⟩=some (.int .i64 r.2.2):=by
 obtain⟨b,off,hA,hb,hc⟩:=Du.at_ h Tk (by decide) hx;refine⟨b,off,hA,hb, ?_⟩;simp only[Nat.add_assoc];exact⟨hc 0 _ rfl,hc 1 _ rfl,hc 2 _ rfl⟩
structure GdW (x:EdR)(rs:List Bd)(b:Nat)(W:World):Prop where
 m:Cq W b x.nn rs
 e:M5 W x
 t:B9 W
structure GdN (x:EdR):Prop where
 ok:C9 x.nn (Am x.laws) (Af x.waves)=0
 n:x.nn<=12
 v:x.nv<=6
 l:x.nl<=6
section
variable {x:EdR}{rs:List Bd}{b:Nat}{W W':World}
theorem GdW.below (h:GdW x rs b W)(hb:Below W.heap.size W W'):GdW x rs b W':=⟨h.m.below hb,h.e.below hb,h.t.below hb rr⟩
theorem M6 {ys:List Cr}{k:Nat}{y:Cr}(h:ys[k]? =some y):(Af ys)[k]? =some y.d:=by rw[Af,List.getElem?_map,h];rfl
theorem GdW.len (h:GdW x rs b W):(Af x.waves).length=x.nv:=by rw[Af,List.length_map];exact h.e.waves.len
theorem GdN.one (hn:GdN x){y:Cr}(hy:y∈x.waves):Eh x.nn y.d=0:=((D1 hn.ok).2.2.2 y.d (List.mem_map.2 ⟨y,hy,rfl⟩)).2.2
theorem GdN.law (hn:GdN x){y:Cr}(hy:y∈x.waves):0<=y.d.law/\y.d.law<(x.laws.length:Int):=by
 have:=(D1 hn.ok).2.2.2 y.d (List.mem_map.2 ⟨y,hy,rfl⟩)
 rw[Am,List.length_map]at this;exact⟨this.1,this.2.1⟩
theorem GdW.arrive (h:GdW x rs b W)(hn:GdN x){k:Nat}{y:Cr}(hy:x.waves[k]? =some y):
  Calls Tryz.prog 20 #[.pointer (some ⟨b,0,none⟩),Z2 y] W fun e w'=>∃A c,e= .returned (.tuple #[.slice A x.nn c, .int .i64 0])/\Ba w' A x.nn c ((List.range x.nn).map fun a=>Bj (tAt x.nn rs (Af x.waves) a k))/\Below W.heap.size W w':=by
 have hm:=List.mem_of_getElem? hy;refine(Se b x.nn rs y W h.m (h.e.waves.2 y hm)).mono ?_
 have e:Fl x.nn rs y.d=(0,(List.range x.nn).map fun a=>Bj (tAt x.nn rs (Af x.waves) a k)):=by
  unfold Fl;rw[if_neg (by have:=(D1 hn.ok).1;omega),if_neg (by rw[hn.one hm];simp)];congr 1;exact List.map_congr_left fun a _=>by rw[Zm (M6 hy)]
 rw[e];rintro e w' ⟨A,m,c,rfl,hi,hb⟩;obtain rfl:m=x.nn:=by have:=hi.len;simpa using this.symm
 exact⟨A,c,rfl,hi,hb⟩
theorem GdW.crossed (h:GdW x rs b W)(hn:GdN x){i j:Nat}(hi:i<x.nv)(hj:j<x.nv):
  Calls Tryz.prog 33 #[.pointer (some ⟨b,0,none⟩), .slice x.Al x.nl x.cl, .slice x.Av x.nv x.cv, .int .i64 (i:Int), .int .i64 (j:Int)] W fun e w'=>∃A c,e= .returned (.tuple #[.slice A (Bl (Dx x.nn rs (Af x.waves) i j) x.nn) c, .int .i64 0])/\Ba w' A (Bl (Dx x.nn rs (Af x.waves) i j) x.nn) c (Hx (Dx x.nn rs (Af x.waves) i j) x.nn)/\Below W.heap.size W w':=by
 refine(Uk b x.nn rs x.Al x.nl x.cl x.laws x.Av x.nv x.cv x.waves i j W h.m h.e.laws h.e.waves h.t).mono ?_
 have e:Ei x.nn rs (Am x.laws) (Af x.waves) i j=(0,Hx (Dx x.nn rs (Af x.waves) i j) x.nn):=by
  unfold Ei;rw[if_neg (by rw[hn.ok];simp),if_neg (by rw[h.len];omega)];rfl
 rw[e];rintro e w' ⟨A,m,c,rfl,hi,hb⟩;obtain rfl:m=_:=hi.len.symm;rw[Mv]at hi ⊢;exact⟨A,c,rfl,hi,hb⟩
theorem GdW.relics (h:GdW x rs b W)(hn:GdN x){k:Nat}(hk:k<x.nv):
  Calls Tryz.prog 41 #[.pointer (some ⟨b,0,none⟩), .slice x.Al x.nl x.cl, .slice x.Av x.nv x.cv, .int .i64 (k:Int)] W fun e w'=>∃A c,e= .returned (.tuple #[.slice A (Bl (fun a=>(tAt x.nn rs (Af x.waves) a k).isNone) x.nn) c, .int .i64 0])/\Ba w' A (Bl (fun a=>(tAt x.nn rs (Af x.waves) a k).isNone) x.nn) c (Hx (fun a=>(tAt x.nn rs (Af x.waves) a k).isNone) x.nn)/\Below W.heap.size W w':=by
 refine(Ae5 b x.nn rs x.Al x.nl x.cl x.laws x.Av x.nv x.cv x.waves k W h.m h.e.laws h.e.waves h.t).mono ?_
 have e:Fu x.nn rs (Am x.laws) (Af x.waves) k=(0,Hx (fun a=>(tAt x.nn rs (Af x.waves) a k).isNone) x.nn):=by
  unfold Fu;rw[if_neg (by rw[hn.ok];simp),if_neg (by rw[h.len];omega)];rfl
 rw[e];rintro e w' ⟨A,m,c,rfl,hi,hb⟩;obtain rfl:m=_:=hi.len.symm;rw[Mv]at hi ⊢;exact⟨A,c,rfl,hi,hb⟩
theorem GdW.line (h:GdW x rs b W)(hn:GdN x){c:Nat}(hc:c<x.nn)(now:Int):
  Calls Tryz.prog 29 #[.pointer (some ⟨b,0,none⟩), .slice x.Al x.nl x.cl, .slice x.Av x.nv x.cv, .int .i64 (c:Int), .int .i64 now] W fun e w'=>∃A k cap,e= .returned (.tuple #[.slice A k cap, .int .i64 0])/\k=(Dc x.nn rs (Af x.waves) c now).length/\Ba w' A k cap (Dc x.nn rs (Af x.waves) c now)/\Below W.heap.size W w':=by
 refine(Aag b x.nn rs x.Al x.nl x.cl x.laws x.Av x.nv x.cv x.waves c now W h.m h.e.laws h.e.waves h.t (.inl (by have:=hn.v;omega))).mono ?_
 have e:Ko x.nn rs (Am x.laws) (Af x.waves) c now=(0,Dc x.nn rs (Af x.waves) c now):=by
  unfold Ko;rw[if_neg (by rw[hn.ok];simp),if_neg (by omega)];rfl
 rw[e];rintro e w' ⟨A,m,c,rfl,hi,hb⟩;exact⟨A,m,c,rfl,hi.len.symm,hi,hb⟩
theorem GdW.forms (h:GdW x rs b W)(hn:GdN x)(now:Int):
  Calls Tryz.prog 18 #[.pointer (some ⟨b,0,none⟩), .slice x.Al x.nl x.cl, .slice x.Av x.nv x.cv, .slice x.Aw x.nw x.cw, .int .i64 now] W fun e w'=>∃A k c,e= .returned (.tuple #[.slice A k c, .int .i64 (Bs x.nn rs (Am x.laws) (Af x.waves) x.word now).1])/\k=(Bs x.nn rs (Am x.laws) (Af x.waves) x.word now).2.length/\Cd w' A k c (Bs x.nn rs (Am x.laws) (Af x.waves) x.word now).2/\Below W.heap.size W w':=by
 refine(Nr b x.nn rs x.Al x.nl x.cl x.laws x.Av x.nv x.cv x.waves x.Aw x.nw x.cw x.word now W h.m h.e.laws h.e.waves h.e.word h.t (.inl (by have:=hn.v;omega))).mono ?_;rintro e w' ⟨A,c,ps,rfl,a1,a0,a2, -,hb⟩;exact⟨A,_,c,rfl,by rw[←a1,List.length_map],⟨ps,a1,Az.of_own a0 (by decide),a2⟩,hb⟩
theorem GdW.values (h:GdW x rs b W)(hn:GdN x)(now:Int):
  Calls Tryz.prog 24 #[.pointer (some ⟨b,0,none⟩), .slice x.Al x.nl x.cl, .slice x.Av x.nv x.cv, .slice x.Aw x.nw x.cw, .int .i64 now] W fun e w'=>∃A k c,e= .returned (.tuple #[.slice A k c, .int .i64 (Ft x.nn rs (Am x.laws) (Af x.waves) x.word now).1])/\k=(Ft x.nn rs (Am x.laws) (Af x.waves) x.word now).2.length/\Ba w' A k c (Ft x.nn rs (Am x.laws) (Af x.waves) x.word now).2/\Below W.heap.size W w':=by
 refine(Zr b x.nn rs x.Al x.nl x.cl x.laws x.Av x.nv x.cv x.waves x.Aw x.nw x.cw x.word now W h.m h.e.laws h.e.waves h.e.word h.t (.inl (by have:=hn.v;omega))).mono ?_;rintro e w' ⟨A,m,c,rfl,hi,hb⟩;exact⟨A,m,c,rfl,hi.len.symm,hi,hb⟩
theorem GdW.length (h:GdW x rs b W):Calls Tryz.prog 19 #[.pointer (some ⟨b,0,none⟩)] W fun e w'=>e= .returned (.int .i64 (x.nn:Int))/\Below W.heap.size W w':=by
 obtain⟨An,cn,mb,Ar,cr,Aq,cq,c0,_⟩:=h.m.cells;exact Gp b An x.nn cn W c0
end
structure StW (w:World)(x:EdR)(rs:List Bd)(b bx:Nat)(W:World):Prop where
 g:GdW x rs b W
 k:W.heap[bx]? =some (.cells #[.slice x.An x.nn x.cn, .slice x.Ar x.nr x.cr, .slice x.Al x.nl x.cl, .slice x.Av x.nv x.cv, .slice x.Aw x.nw x.cw, .int .i64 x.a, .int .i64 x.i, .int .i64 x.j, .int .i64 x.now] 66 (0,0))
 bl:Below w.heap.size w W
section
variable {w W W':World}{x:EdR}{rs:List Bd}{b bx:Nat}
theorem StW.step (h:StW w x rs b bx W)(hb:Below W.heap.size W W'):StW w x rs b bx W':=
 ⟨h.g.below hb,(hb.block bx (lt_of_block h.k)).trans h.k,h.bl.trans (hb.mono h.bl.size)⟩
theorem StW.c0 (h:StW w x rs b bx W):W.cell? ⟨bx,0,none⟩=some (.slice x.An x.nn x.cn):=Ad h.k rfl
theorem StW.c1 (h:StW w x rs b bx W):W.cell? ⟨bx,1,none⟩=some (.slice x.Ar x.nr x.cr):=Ad h.k rfl
theorem StW.c2 (h:StW w x rs b bx W):W.cell? ⟨bx,2,none⟩=some (.slice x.Al x.nl x.cl):=Ad h.k rfl
theorem StW.c3 (h:StW w x rs b bx W):W.cell? ⟨bx,3,none⟩=some (.slice x.Av x.nv x.cv):=Ad h.k rfl
theorem StW.c4 (h:StW w x rs b bx W):W.cell? ⟨bx,4,none⟩=some (.slice x.Aw x.nw x.cw):=Ad h.k rfl
theorem StW.c8 (h:StW w x rs b bx W):W.cell? ⟨bx,8,none⟩=some (.int .i64 x.now):=Ad h.k rfl
theorem StW.wave (h:StW w x rs b bx W){k:Nat}(hk:k<x.nv):∃(y:Cr) (yb yo:Nat),x.waves[k]? =some y/\yb<W.heap.size/\W.cell? ⟨bx,3,none⟩=some (.slice (some ⟨yb,yo,none⟩) x.nv x.cv)∧
  W.cell? ⟨yb,yo+k*5,none⟩=some (.int .i64 y.d.law)/\W.cell? ⟨yb,yo+k*5+1,none⟩=some (.slice y.A y.n y.c)/\W.cell? ⟨yb,yo+k*5+2,none⟩=some (.int .i64 y.d.time)/\W.cell? ⟨yb,yo+k*5+3,none⟩=some (.int .i64 y.d.slow)/\W.cell? ⟨yb,yo+k*5+4,none⟩=some (.int .i64 y.d.fin):=by
 obtain⟨y,hy⟩:=h.g.e.waves.get hk;obtain⟨yb,yo,hA,a0,_,l0,l1,l2,l3,l4⟩:=h.g.e.waves.at_ hy;exact⟨y,yb,yo,hy,a0,by rw[←hA];exact h.c3,l0,l1,l2,l3,l4⟩
end
def Afr (w:World)(x:EdR)(e:Ending)(w':World):Prop:=
 (e= .returned (.pointer none)∨∃b,e= .returned (.pointer (some ⟨b,0,none⟩))/\Cq w' b x.nn (x.roads.map B1)/\GdN x)/\Below w.heap.size w w'
theorem J6 (x:EdR)(w:World)(hx:M5 w x)(hT:B9 w):Calls Tryz.prog 35 #[edV x] w (Afr w x):=by
 have HX:=hI hx;have HT:=hI hT;have b8:Hid (x.names.length=x.nn):=hx.names.len;have d0:Hid ((Af x.waves).length=x.nv):=by show _=_;rw[Af,List.length_map];exact hx.waves.len
 have d2:Hid ((Am x.laws).length=x.nl):=by show _=_;rw[Am,List.length_map];exact hx.laws.len
 clear hx hT;go_enter Tryz.func35,Tryz.ntmps35;have b1:Below w.heap.size w (w.alloc (.cells #[.slice x.An x.nn x.cn, .slice x.Ar x.nr x.cr, .slice x.Al x.nl x.cl, .slice x.Av x.nv x.cv, .slice x.Aw x.nw x.cw, .int .i64 x.a, .int .i64 x.i, .int .i64 x.j, .int .i64 x.now] 66)):=(Below.refl _ w).alloc rr _;have b5:(w.alloc (.cells #[.slice x.An x.nn x.cn, .slice x.Ar x.nr x.cr, .slice x.Al x.nl x.cl, .slice x.Av x.nv x.cv, .slice x.Aw x.nw x.cw, .int .i64 x.a, .int .i64 x.i, .int .i64 x.j, .int .i64 x.now] 66)).heap[w.heap.size]? =some (.cells #[.slice x.An x.nn x.cn, .slice x.Ar x.nr x.cr, .slice x.Al x.nl x.cl, .slice x.Av x.nv x.cv, .slice x.Aw x.nw x.cw, .int .i64 x.a, .int .i64 x.i, .int .i64 x.j, .int .i64 x.now] 66 (0,0)):=hpt;have a3:=hI b1;have a4:=hI b5;clear b1 b5;go_wp2_with fail;obtain⟨bx,b3⟩:∃bx,bx=w.heap.size:=⟨_,rfl⟩;rw[←b3]at a4 ⊢;generalize w.alloc (.cells #[.slice x.An x.nn x.cn, .slice x.Ar x.nr x.cr, .slice x.Al x.nl x.cl, .slice x.Av x.nv x.cv, .slice x.Aw x.nw x.cw, .int .i64 x.a, .int .i64 x.i, .int .i64 x.j, .int .i64 x.now] 66)=W0 at*;clear b3;refine(Afq x W0 (HX.out.below a3.out)).mono ?_;rintro e w1 ⟨h1,a7⟩;have a1:=hI (a3.out.trans (a7.mono a3.out.size));have a2:=hI ((a7.block bx (lt_of_block a4.out)).trans a4.out);clear a7 a3 a4;rcases h1 with rfl|⟨rfl,b4⟩
 ·go_wp2;go_ret;exact⟨.inl rfl,a1.out⟩
 ·have b0:=hI b4;have c0:=Ad (j:=0) a2.out rfl;have c1:=Ad (j:=1) a2.out rfl;clear b4;go_wp2_with fail;refine(Ag1 x.An x.nn x.cn x.names x.Ar x.nr x.cr x.roads w1 ((HX.out.below a1.out).names) ((HX.out.below a1.out).roads)).mono ?_;rintro e w2 ⟨h2,a8⟩;have a0:=hI (a1.out.trans (a8.mono a1.out.size));have a5:=hI ((a8.block bx (lt_of_block a2.out)).trans a2.out);clear a8 a1 a2 c0 c1;rcases h2 with⟨b6,rfl⟩|⟨_,b,rfl,hm⟩
  ·have b9:(F7 x.names x.roads !=0)=true:=by simpa using b6
   generalize F7 x.names x.roads=ne at*;clear b6;go_wp2;go_ret;exact⟨.inl rfl,a0.out⟩
  ·rw[b8.out]at hm;have HM:=hI hm;have c2:=Ad (j:=2) a5.out rfl;have c3:=Ad (j:=3) a5.out rfl;clear hm;go_wp2_with fail;refine(Gu b x.nn (x.roads.map B1) x.Al x.nl x.cl x.laws x.Av x.nv x.cv x.waves w2 HM.out ((HX.out.below a0.out).laws) ((HX.out.below a0.out).waves) (HT.out.below a0.out rr)).mono ?_;obtain⟨er,a6⟩:∃er,er=C9 x.nn (Am x.laws) (Af x.waves):=⟨_,rfl⟩;rw[←a6];rintro e w3 ⟨rfl,a9⟩;have b2:=hI (a0.out.trans (a9.mono a0.out.size));have b7:=hI (HM.out.below a9);have d1:=hI a6;clear a9 a6 a0 a5 c2 c3;by_cases he0:er=0
   ·have d3:(er !=0)=false:=by simp[he0]
    have HW:Hid (C9 x.nn (Am x.laws) (Af x.waves)=0):=by show _=_;rw[←d1.out,he0]
    clear he0;go_wp2;go_ret;refine⟨.inr ⟨b,rfl,b7.out,HW.out, ?_, ?_, ?_⟩,b2.out⟩
    ·have h1:=b0.out.1;have h2:=b7.out.few;omega
    ·have h1:=b0.out.2.2.1;have h2:=(D1 HW.out).2.2.1;rw[d0.out]at h2;omega
    ·have h1:=b0.out.2.2.2.2;have h2:=Te (D1 HW.out).2.1;rw[d2.out]at h2;omega
   ·have d3:(er !=0)=true:=by simpa using he0
    clear he0;go_wp2;go_ret;exact⟨.inl rfl,b2.out⟩
end Go.Proofs.YtaglfmlgbcmakaaGreatDoor
namespace Go.Proofs.YtaglfmlgbcmakaaGreatDoor
open Go.RowKit
def Aga (md:Region.Mode)(ops:Array Oper):Nat->List Oper->Bool
 |_,[]=>true
 |k,o::l=>(o.after.all fun e=> !Region.binds md e||decide (e.on<k)) && (l.all fun oj=>oj.after.any (fun e=>Region.binds md e && e.on==k)||o.apart ops oj) && Aga md ops (k+1) l
theorem Rl {md:Region.Mode}{ops:Array Oper}:∀(l:List Oper) (k:Nat) (listed:Array Bool),(∀j,l[j]? =ops[k+j]?)->listed.size=ops.size->k+l.length=ops.size→
  (∀j,j<ops.size->listed[j]? =some (decide (j<k)))->Aga md ops k l=true->Region.lexFrom md ops l.length k listed=true
 |[],k,listed,_,hs,hk,hl,_=>by
  show(Region.ready md ops listed).isEmpty=true;have hk:k=ops.size:=by simpa using hk
  unfold Region.ready;rw[List.isEmpty_iff,List.filter_eq_nil_iff];intro i hi;have hi:=List.mem_range.1 hi
  have h1:listed.getD i true=true:=by
   rw[Array.getD_eq_getD_getElem?,hl i hi];simp;omega
  rw[h1];simp
 |o::l,k,listed,hj,hs,hk,hl,hL=>by
  simp only[Aga,Bool.and_eq_true]at hL;obtain⟨⟨h1,h2⟩,h3⟩:=hL;have ho:ops[k]? =some o:=by simpa using(hj 0).symm
  have a4:k<ops.size:=(Array.getElem?_eq_some_iff.1 ho).1;have a2:∀(j:Nat) (d:Bool),j<ops.size->listed.getD j d=decide (j<k):=fun j d h=>by rw[Array.getD_eq_getD_getElem?,hl j h];rfl
  have a5:∀(j:Nat) (d:Bool),¬j<ops.size->listed.getD j d=d:=fun j d h=>by rw[Array.getD_eq_getD_getElem?,Array.getElem?_eq_none (by omega)];rfl
  simp only[List.length_cons,Region.lexFrom,Bool.and_eq_true];refine⟨⟨?_, ?_⟩, ?_⟩
  ·rw[List.contains_iff_mem];unfold Region.ready;rw[List.mem_filter];refine⟨List.mem_range.2 a4, ?_⟩;rw[a2 k true a4,ho];simp only[Option.map_some,Option.getD_some,Bool.and_eq_true];refine⟨by simp, ?_⟩;rw[Array.all_eq_true_iff_forall_mem]at h1 ⊢;intro e he
   have:=h1 e he
   rw[Bool.or_eq_true]at this ⊢;rcases this with h|h
   ·exact .inl h
   ·have a0:e.on<k:=of_decide_eq_true h;exact .inr (by rw[a2 _ _ (by omega)];exact decide_eq_true a0)
  ·unfold Region.free;rw[ho];simp only[List.all_eq_true,List.mem_range];intro j a1;by_cases e:j=k
   ·subst e;simp
   ·rw[a2 j true a1];by_cases a0:j<k
    ·simp[a0]
    ·obtain⟨d,rfl⟩:∃d,j=k+(d+1):=⟨j-k-1,by omega⟩;have hd:=hj (d+1);rw[List.getElem?_cons_succ]at hd;rw[←hd];have a3:d<l.length:=by simp only[List.length_cons]at hk;omega
     rw[List.getElem?_eq_getElem a3]
     have:=List.all_eq_true.1 h2 l[d] (List.getElem_mem a3)
     simp only[Bool.or_eq_true];right;simpa using this
  ·refine Rl l (k+1) _ (fun j=> ?_) (by simpa using hs) (by simp only[List.length_cons]at hk;omega) (fun j a1=> ?_) h3
   ·have:=hj (j+1)
    rw[List.getElem?_cons_succ]at this;rw[this];congr 1;omega
   ·rw[Array.getElem?_setIfInBounds];by_cases e:k=j
    ·subst e;rw[if_pos rfl,if_pos (by omega)];simp
    ·rw[if_neg e,hl j a1];congr 1;simp;omega
theorem Dw {md:Region.Mode}{l:List Oper}(hn:Region.noSelect l.toArray=true)(h:Aga md l.toArray 0 l=true):Region.lexB md l.toArray=true:=by
 unfold Region.lexB;rw[Bool.and_eq_true];refine⟨hn, ?_⟩
 have:=Rl (md:=md) (ops:=l.toArray) l 0 (Array.replicate l.toArray.size false) (fun j=>by simp) (by simp) (by simp) (fun j hj=>by rw[Array.getElem?_replicate,if_pos hj];rfl) h
 simpa using this
end Go.Proofs.YtaglfmlgbcmakaaGreatDoor
