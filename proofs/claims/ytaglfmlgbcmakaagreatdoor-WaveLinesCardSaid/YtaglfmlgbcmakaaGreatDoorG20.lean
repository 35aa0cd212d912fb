/-
  Arguments are read: slices of sounds, words, patterns, laws.
  What the listed variables give; the road from a walk to a row, for laws that answer true.
-/
import Derived.ProofKit
import Derived.Deep.Slices
import Derived.OpenShut
import Derived.LaidMore
import Derived.Lay
import Derived.Lib.LaidTab
import Derived.Stop.Joined
import Derived.Test.YtaglfmlgbcmakaaGreatDoorG13
import Derived.Test.YtaglfmlgbcmakaaGreatDoorRows
import Derived.Test.YtaglfmlgbcmakaaGreatDoorChecked
set_option linter.all false
set_option maxRecDepth 100000
set_option maxHeartbeats 4000000
namespace Go.Proofs.YtaglfmlgbcmakaaGreatDoor
open Go.RowKit Go.ChangeShapes Go.WideShapes
theorem Nb {w:World}{a:Addr}{v:Value}(h:w.cell? a=some v):a=⟨a.block,a.off,none⟩/\a.block<w.heap.size:=by
 unfold World.cell? at h;split at h
 ·rename_i c t f hb
  split at h
  ·cases h
  ·rename_i hs
   obtain⟨x,y,z⟩:=a
   cases z with
   |none=>exact⟨rfl,(Array.getElem?_eq_some_iff.1 hb).1⟩
   |some z=>simp at hs
 ·cases h
theorem Nc (sz:Nat):∀(L:List (List Value)),(∀r∈L,r.length=sz)→∀(k:Nat) (v:Value),L.flatten[k]? =some v→∃i j r,j<sz/\k=i*sz+j/\L[i]? =some r/\r[j]? =some v
 |[],_,k,v,h=>by simp at h
 |r::L,hr,k,v,h=>by
  have h0:r.length=sz:=hr r (by simp);rw[List.flatten_cons]at h;by_cases hk:k<sz
  ·rw[List.getElem?_append_left (by omega)]at h;exact⟨0,k,r,hk,by omega,rfl,h⟩
  ·rw[List.getElem?_append_right (by omega)]at h;obtain⟨i,j,r',hj,he,h1,h2⟩:=Nc sz L (fun r hr'=>hr r (by simp[hr'])) _ v h;exact⟨i+1,j,r',hj,by rw[Nat.add_mul];omega,by simpa using h1,h2⟩
theorem Lz (sz:Nat):∀(L:List (List Value)),(∀r∈L,r.length=sz)->L.flatten.length=L.length*sz
 |[],_=>by simp
 |r::L,hr=>by rw[List.flatten_cons,List.length_append,hr r (by simp),Lz sz L (fun r hr'=>hr r (by simp[hr'])),List.length_cons,Nat.add_mul];omega
section
variable {H:Type}{enc:TypeId×Value->H}{P:Program}{w:World}{base:Nat}{spare:Nat->Bool}{held:Bool}
theorem Eb {t e:TypeId}{fuel:Nat}{cs:List Value}{x:DataW H×List MemPlace}(ht:P.underlying t=some (.slice e))(h0:0<P.cellsOf e)(h:DataW.trod enc P w base spare held fuel t cs=some x):
  ∃(A:Option Addr) (n c m:Nat) (L:List (List Value)),cs=[.slice A n c]/\L.length=n/\Am w A n c (P.cellsOf e) L.flatten/\(∀r∈L,m<fuel/\r.length=P.cellsOf e∧∃y,DataW.trod enc P w base spare held m e r=some y):=by
 rcases DataW.trod_slice ht h with⟨rfl,_⟩|⟨a,len,cap,a3,rest,n,rfl,rfl,_,hb,hl,hm,a9,a8,_,_⟩
 ·exact⟨none,0,0,0,[],rfl,rfl,Am.nil _ _,fun r hr=>by simp at hr⟩
 have a2:∀i,i<len→∃r,w.cells? base (a.add (i*P.cellsOf e)) (P.cellsOf e)=some r∧∃y,DataW.trod enc P w base spare held n e r=some y:=by
  intro i hi;have h1:=a8 i hi;rw[List.getElem?_eq_getElem (by omega)]at h1;obtain⟨r,h2,h3⟩:=Option.bind_eq_some_iff.1 h1;exact⟨r,h2,_,h3⟩
 obtain⟨f,hf⟩:=Go.Deep.choose_lt (α:=List Value) a2
 have a0:∀r∈(List.range len).map f,r.length=P.cellsOf e:=by
  intro r hr;obtain⟨i,hi,rfl⟩:=List.mem_map.1 hr;exact(World.cells?_some (hf i (List.mem_range.1 hi)).1).2.1
 refine⟨some a,len,cap,n,(List.range len).map f,rfl,by simp,⟨by rw[Lz _ _ a0];simp,hl,hm,(fun h=>by cases h),fun hpos=> ?_⟩,fun r hr=>⟨by omega,a0 r hr, ?_⟩⟩
 ·have a4:∀i,i<len→∀j,j<P.cellsOf e->w.cell? (a.add (i*P.cellsOf e+j))=(f i)[j]? :=by
   intro i hi j hj
   have:=(World.cells?_some (hf i hi).1).2.2 j hj
   rwa[Go.Deep.add_add]at this
  have a6:=a0 (f 0) (List.mem_map.2 ⟨0,List.mem_range.2 hpos,rfl⟩);have a5:=a4 0 hpos 0 h0;rw[List.getElem?_eq_getElem (by omega)]at a5;have a1:w.cell? a=some ((f 0)[0]'(by omega)):=by simpa[Addr.add]using a5
  obtain⟨ha,a7⟩:=Nb a1;refine⟨a.block,a.off,congrArg some ha,a7,fun k v hv=> ?_⟩
  obtain⟨i,j,r,hj,rfl,h1,h2⟩:=Nc _ _ a0 k v hv;rw[List.getElem?_map]at h1
  have hi:i<len:=by
   by_cases hi:i<len
   ·exact hi
   ·rw[List.getElem?_eq_none (by simpa using Nat.not_lt.1 hi)]at h1;cases h1
  rw[List.getElem?_range hi]at h1;obtain rfl:f i=r:=by simpa using h1
  have:=a4 i hi j hj
  rw[ha,He]at this;exact this.trans h2
 ·obtain⟨i,hi,rfl⟩:=List.mem_map.1 hr;exact(hf i (List.mem_range.1 hi)).2
theorem Em {α:Type}{Q:α->Prop}{g:α->List Value}:∀(L:List (List Value)),(∀r∈L,∃x,r=g x/\Q x)→∃xs:List α,L=xs.map g∧∀x∈xs,Q x
 |[],_=>⟨[],rfl,fun x hx=>by simp at hx⟩
 |r::L,h=>by
  obtain⟨x,rfl,hq⟩:=h r (by simp);obtain⟨xs,rfl,a0⟩:=Em L (fun r hr=>h r (by simp[hr]));exact⟨x::xs,rfl,fun y hy=>by rcases List.mem_cons.1 hy with rfl|hy;exact hq;exact a0 y hy⟩
end
section
variable {H:Type}{enc:TypeId×Value->H}{w:World}{base:Nat}{spare:Nat->Bool}{held:Bool}
def Nf (s:Snd):List Value:=[.int .u32 s.1, .int .u32 s.2]
theorem Kz:∀xs:List Snd,(xs.map Nf).flatten=Ce xs
 |[]=>rfl
 |s::xs=>by rw[List.map_cons,List.flatten_cons,Kz xs];rfl
theorem C9 {P:Program}{t:TypeId}{fs:Array Field}{fuel:Nat}{cs:List Value}{x:DataW H×List MemPlace}(ht:P.underlying t=some (.struct fs))(h:DataW.trod enc P w base spare held fuel t cs=some x):
  ∃n,n<fuel/\cs.length=P.cellsOf t∧∀f∈fs.toList,∃y,DataW.trod enc P w base spare held n f.type ((cs.drop f.offset).take (P.cellsOf f.type))=some y:=by
 obtain⟨xs,n,hn,_,hl,a1,hf⟩:=DataW.trod_struct ht h;refine⟨n,by omega,hl,fun f hfm=> ?_⟩
 obtain⟨i,a0⟩:=List.getElem?_of_mem hfm;have hi:fs[i]? =some f:=by simpa using a0
 have h1:=hf i f hi;have h2:=(Array.getElem?_eq_some_iff.1 hi).1;rw[List.getElem?_eq_getElem (by omega)]at h1;exact⟨_,h1⟩
set_option maxRecDepth 100000
theorem K0:Tryz.prog.cellsOf 3=1:=by kernel_rfl
theorem Acw:Tryz.prog.cellsOf 47=1:=by kernel_rfl
theorem Ag4:Tryz.prog.cellsOf 4=1:=by kernel_rfl
theorem Ng:Tryz.prog.cellsOf 9=1:=by kernel_rfl
theorem Ag5:Tryz.prog.cellsOf 50=1:=by kernel_rfl
theorem Ag6:Tryz.prog.cellsOf 53=1:=by kernel_rfl
theorem Aa5:Tryz.prog.cellsOf 28=1:=by kernel_rfl
theorem L0:Tryz.prog.cellsOf 49=2:=by kernel_rfl
theorem Qd:Tryz.prog.cellsOf 52=7:=by kernel_rfl
theorem Uu:Tryz.prog.cellsOf 104=6:=by kernel_rfl
theorem Uv:Tryz.prog.cellsOf 55=18:=by kernel_rfl
theorem Ph {fuel:Nat}{r:List Value}{x:DataW H×List MemPlace}(h:DataW.trod enc Tryz.prog w base spare held fuel 49 r=some x):∃s:Snd,r=Nf s/\True:=by
 obtain⟨n,_,hl,hf⟩:=C9 Tryz.underlying49 h;rw[L0]at hl
 match r,hl with
 |[c0,c1],_=>
  simp only[List.mem_cons,forall_eq_or_imp,List.not_mem_nil,false_implies,implies_true,and_true,Acw,List.drop_zero,List.drop_succ_cons,List.take_succ_cons,List.take_zero]at hf;obtain⟨⟨_,h0⟩,⟨_,h1⟩⟩:=hf;obtain⟨p,e0,_⟩:=DataW.trod_int Tryz.underlying47 h0;obtain⟨m,e1,_⟩:=DataW.trod_int Tryz.underlying47 h1;obtain rfl:c0= .int .u32 p:=by simpa using e0
  obtain rfl:c1= .int .u32 m:=by simpa using e1
  exact⟨(p,m),rfl,trivial⟩
theorem Sd {fuel:Nat}{cs:List Value}{x:DataW H×List MemPlace}(h:DataW.trod enc Tryz.prog w base spare held fuel 28 cs=some x):∃A n c xs,cs=[.slice A n c]/\Aj w A n c xs:=by
 obtain⟨A,n,c,m,L,rfl,hL,hc,hr⟩:=Eb Tryz.underlying28 (by rw[L0];decide) h;obtain⟨xs,rfl,_⟩:=Em (g:=Nf) L (fun r hr'=>Ph (hr r hr').2.2.choose_spec);rw[L0,Kz]at hc;exact⟨A,n,c,xs,rfl,hc⟩
theorem Aj6 {fuel:Nat}{r:List Value}{x:DataW H×List MemPlace}(h:DataW.trod enc Tryz.prog w base spare held fuel 104 r=some x):∃s:Fe,r=s.cells/\True:=by
 obtain⟨n,_,hl,hf⟩:=C9 Tryz.underlying104 h;rw[Uu]at hl
 match r,hl with
 |[c0,c1,c2,c3,c4,c5],_=>
  simp only[List.mem_cons,forall_eq_or_imp,List.not_mem_nil,false_implies,implies_true,and_true,Acw,K0,L0,List.drop_zero,List.drop_succ_cons,List.take_succ_cons,List.take_zero]at hf;obtain⟨⟨_,h0⟩,⟨_,h1⟩,⟨_,h2⟩,⟨_,h3⟩,⟨_,h4⟩⟩:=hf;obtain⟨n0,e0,_⟩:=DataW.trod_int Tryz.underlying3 h0;obtain⟨n1,e1,_⟩:=DataW.trod_int Tryz.underlying47 h1;obtain⟨n2,e2,_⟩:=Ph h2;obtain⟨n3,e3,_⟩:=DataW.trod_int Tryz.underlying47 h3;obtain⟨n4,e4,_⟩:=DataW.trod_int Tryz.underlying3 h4;simp only[List.cons.injEq,and_true,Nf]at e0 e1 e2 e3 e4;obtain⟨rfl,rfl⟩:=e2;subst e0 e1 e3 e4;exact⟨⟨n0,n1,n2.1,n2.2,n3,n4⟩,rfl,trivial⟩
theorem Ee {α:Type}(g:α->List Value):∀xs:List α,(xs.map g).flatten=xs.flatMap g
 |[]=>rfl
 |x::xs=>by rw[List.map_cons,List.flatten_cons,List.flatMap_cons,Ee g xs]
theorem Aa6 {fuel:Nat}{cs:List Value}{x:DataW H×List MemPlace}(h:DataW.trod enc Tryz.prog w base spare held fuel 53 cs=some x):∃A n c xs,cs=[.slice A n c]/\Cr Fe.cells 6 w A n c xs:=by
 obtain⟨A,n,c,m,L,rfl,hL,hc,hr⟩:=Eb Tryz.underlying53 (by rw[show Tryz.prog.cellsOf _=6 from Uu];decide) h;obtain⟨xs,rfl,_⟩:=Em (g:=Fe.cells) L (fun r hr'=>Aj6 (hr r hr').2.2.choose_spec);rw[show Tryz.prog.cellsOf _=6 from Uu,Ee]at hc;exact⟨A,n,c,xs,rfl,hc,by simpa using hL⟩
structure Mc where
 k:Nd
 A:Option Addr
 c:Nat
 ch:Fo
def Mc.cells (p:Mc):List Value:=Ca p.k p.A p.ch.len p.c
def Aa7:List Mc->Fo
 |[]=> .nil
 |p::ps=> .node p.k p.ch (Aa7 ps)
theorem Se:∀ps:List Mc,(Aa7 ps).len=ps.length
 |[]=>rfl
 |p::ps=>by simp[Aa7,Fo.len,Se ps]
theorem Aa8 {b off:Nat}(hb:b<w.heap.size):∀(ps:List Mc) (i:Nat),(∀(j:Nat) v,(ps.flatMap Mc.cells)[j]? =some v->w.cell? ⟨b,off+i*7+j,none⟩=some v)->(∀p∈ps,FSl w p.A p.ch.len p.c p.ch)->FAt w (some ⟨b,off,none⟩) i (Aa7 ps)
 |[],_,_,_=>trivial
 |p::ps,i,hc,hp=>by
  have hh:=hp p (by simp);rw[List.flatMap_cons]at hc;have at0:∀(j:Nat) v,p.cells[j]? =some v->w.cell? ⟨b,off+i*7+j,none⟩=some v:=fun j v hv=>hc j v (by rw[List.getElem?_append_left (List.getElem?_eq_some_iff.1 hv).1];exact hv)
  refine⟨b,off,p.A,p.ch.len,p.c,rfl,hb,⟨at0 0 _ rfl,at0 1 _ rfl,at0 2 _ rfl,at0 3 _ rfl,at0 4 _ rfl,at0 5 _ rfl,at0 6 _ rfl⟩,hh.1,hh.2,Aa8 hb ps (i+1) (fun j v hv=> ?_) (fun q hq=>hp q (by simp[hq]))⟩
  have:=hc (7+j) v (by rw[List.getElem?_append_right (by show 7<=7+j;omega),show 7+j-p.cells.length=j by show 7+j-7=j;omega];exact hv)
  rw[show off+(i+1)*7+j=off+i*7+(7+j)by omega];exact this
theorem Yu {fuel:Nat}(ih:∀(f:Nat) (cs:List Value) (x:DataW H×List MemPlace),f<fuel->DataW.trod enc Tryz.prog w base spare held f 50 cs=some x→∃A n c fo,cs=[.slice A n c]/\FSl w A n c fo)
  {r:List Value} {x:DataW H×List MemPlace} (h:DataW.trod enc Tryz.prog w base spare held fuel 52 r=some x):∃p:Mc,r=p.cells/\FSl w p.A p.ch.len p.c p.ch:=by
 obtain⟨n,hn,hl,hf⟩:=C9 Tryz.underlying52 h;rw[Qd]at hl
 match r,hl with
 |[c0,c1,c2,c3,c4,c5,c6],_=>
  simp only[List.mem_cons,forall_eq_or_imp,List.not_mem_nil,false_implies,implies_true,and_true,K0,L0,Ag4,Ag5,List.drop_zero,List.drop_succ_cons,List.take_succ_cons,List.take_zero]at hf;obtain⟨⟨_,h0⟩,⟨_,h1⟩,⟨_,h2⟩,⟨_,h3⟩,⟨_,h4⟩,⟨_,h5⟩⟩:=hf;obtain⟨n0,e0,_⟩:=DataW.trod_int Tryz.underlying3 h0;obtain⟨n1,e1,_⟩:=Ph h1;obtain⟨n2,e2,_⟩:=DataW.trod_bool Tryz.underlying4 h2;obtain⟨n3,e3,_⟩:=DataW.trod_int Tryz.underlying3 h3;obtain⟨n4,e4,_⟩:=DataW.trod_int Tryz.underlying3 h4;obtain⟨A,m,c,fo,e5,a0⟩:=ih n _ _ hn h5;simp only[List.cons.injEq,and_true,Nf]at e0 e1 e2 e3 e4 e5;obtain⟨rfl,rfl⟩:=e1;subst e0 e2 e3 e4 e5;obtain rfl:=a0.1.1;exact⟨⟨⟨n0,n1.1,n1.2,n2,n3,n4⟩,A,c,fo⟩,rfl,a0⟩
theorem Aa9:∀(fuel:Nat) (cs:List Value) (x:DataW H×List MemPlace),DataW.trod enc Tryz.prog w base spare held fuel 50 cs=some x→∃A n c fo,cs=[.slice A n c]/\FSl w A n c fo:=by
 intro fuel
 induction fuel using Nat.strongRecOn with
 |ind fuel ih=>
  intro cs x h;obtain⟨A,n,c,m,L,rfl,hL,hc,hr⟩:=Eb Tryz.underlying50 (by rw[show Tryz.prog.cellsOf _=7 from Qd];decide) h;obtain⟨ps,rfl,hp⟩:=Em (g:=Mc.cells) L (fun r hr'=>Yu (fun f cs x hf hx=>ih f (Nat.lt_trans hf (hr r hr').1) cs x hx) (hr r hr').2.2.choose_spec)
  rw[show Tryz.prog.cellsOf _=7 from Qd,Ee]at hc;obtain rfl:ps.length=n:=by simpa using hL
  refine⟨A,_,c,Aa7 ps,rfl,⟨(Se ps).symm,hc.2.1,hc.2.2.1,hc.2.2.2.1⟩, ?_⟩
  cases ps with
  |nil=>trivial
  |cons p ps=>
   obtain⟨b,off,rfl,hb,a0⟩:=hc.2.2.2.2 (by simp);exact Aa8 hb _ 0 (fun j v hv=>by rw[show off+0*7+j=off+j by omega];exact a0 j v hv) hp
theorem Acx {fuel:Nat}{r:List Value}{x:DataW H×List MemPlace}(h:DataW.trod enc Tryz.prog w base spare held fuel 52 r=some x):∃p:Mc,r=p.cells/\FSl w p.A p.ch.len p.c p.ch:=
 Yu (fun f cs x _ hx=>Aa9 f cs x hx) h
theorem Aj7 {fuel:Nat}{r:List Value}{x:DataW H×List MemPlace}(h:DataW.trod enc Tryz.prog w base spare held fuel 55 r=some x):∃l:Bj,r=l.cells/\Ew w l.l l.a:=by
 obtain⟨n,hn,hl,hf⟩:=C9 Tryz.underlying55 h;rw[Uv]at hl
 match r,hl with
 |[c0,c1,c2,c3,c4,c5,c6,c7,c8,c9,c10,c11,c12,c13,c14,c15,c16,c17],_=>
  simp only[List.mem_cons,forall_eq_or_imp,List.not_mem_nil,false_implies,implies_true,and_true,K0,Ng,Qd,Aa5,Ag6,List.drop_zero,List.drop_succ_cons,List.take_succ_cons,List.take_zero]at hf;obtain⟨⟨_,h0⟩,⟨_,h1⟩,⟨_,h2⟩,⟨_,h3⟩,⟨_,h4⟩,⟨_,h5⟩⟩:=hf;obtain⟨n0,e0,_,hs⟩:=DataW.trod_string Tryz.underlying9 h0;obtain⟨p,e1,hp⟩:=Acx h1;obtain⟨q,e2,hq⟩:=Acx h2;obtain⟨Ai,mi,ci,is,e3,hi⟩:=Sd h3;obtain⟨Ao,mo,co,os,e4,ho⟩:=Aa6 h4;obtain⟨n5,e5,_⟩:=DataW.trod_int Tryz.underlying3 h5;simp only[List.cons.injEq,and_true,Mc.cells,Ca]at e0 e1 e2 e3 e4 e5;obtain⟨rfl,rfl,rfl,rfl,rfl,rfl,rfl⟩:=e1;obtain⟨rfl,rfl,rfl,rfl,rfl,rfl,rfl⟩:=e2;subst e0 e3 e4 e5;obtain rfl:=hi.len;obtain rfl:=ho.2;have a0:n0.size<=9223372036854775807:=by unfold maxLen at hs;omega
  exact⟨⟨⟨n0,(p.k,p.ch),(q.k,q.ch),is,os,n5⟩,⟨p.A,p.c,q.A,q.c,Ai,ci,Ao,co⟩⟩,rfl,hp,hq,hi,ho,a0⟩
theorem Aba {fuel:Nat}{cs:List Value}{x:DataW H×List MemPlace}(h:DataW.trod enc Tryz.prog w base spare held fuel 26 cs=some x):∃A n c xs,cs=[.slice A n c]/\Br w A n c xs:=by
 obtain⟨A,n,c,m,L,rfl,hL,hc,hr⟩:=Eb Tryz.underlying26 (by rw[show Tryz.prog.cellsOf _=18 from Uv];decide) h;obtain⟨xs,rfl,hx⟩:=Em (g:=Bj.cells) L (fun r hr'=>Aj7 (hr r hr').2.2.choose_spec);rw[show Tryz.prog.cellsOf _=18 from Uv,Ee]at hc;exact⟨A,n,c,xs,rfl,⟨hc,by simpa using hL⟩,hx⟩
end
end Go.Proofs.YtaglfmlgbcmakaaGreatDoor
namespace Go.Proofs.YtaglfmlgbcmakaaGreatDoor
open Go.RowKit Go.ChangeShapes Go.WideShapes Go.ChangeAt
theorem M2:ownKnob Tryz.prog.godebug=none:=by kernel_rfl
theorem Gt:laidOutB Tryz.prog=true:=by kernel_rfl
def Gh:List (String×DataW Unit):=[("math/bits.deBruijn64tab",Rows.laid_math_bits_deBruijn64tab),("unicode/utf8.acceptRanges",Rows.laid_unicode_utf8_acceptRanges),("unicode/utf8.first",Rows.laid_unicode_utf8_first)]
theorem Ak3:Tryz.prog.globalNamed "math/bits.deBruijn64tab" =some 3:=by kernel_rfl
theorem Hw {W:World}(h:laidMetH Tryz.prog Gh W):Cd W:=by
 rw[MakeChecks.laidMetH_plain _ _ _ (by kernel_rfl)]at h;have h1:laidMet Tryz.prog (("math/bits.deBruijn64tab",Lib.tabData .u8 (Lib.deBruijn64tab.map Int.ofNat))::Gh.tail) W:=h
 have h2:=Lib.tabIs_of_head Ak3 (show(Tryz.prog.globals[3]?).map (·.type)=some _ by kernel_rfl) Tryz.underlying287 Tryz.underlying5 (by kernel_rfl) (by kernel_rfl) h1
 have hc:∀j,j<64->W.cell? ⟨3,j,none⟩=some (.int .u8 (Lib.deBruijn64tab.getD j 0)):=by
  intro j hj
  have:=h2.cell Ak3 j hj
  rw[this];have hl:Lib.deBruijn64tab.length=64:=by kernel_rfl
  simp[List.getD,hl,hj]
 exact⟨(Nb (hc 0 (by decide))).2,hc⟩
section
variable {H:Type}{enc:TypeId×Value->H}{w:World}{base:Nat}{spare:Nat->Bool}{held:Bool}{A:Option Addr}{n c:Nat}{d:DataW H}{p:List MemPlace}
theorem Ads (h:DataW.Trod enc Tryz.prog w base spare held 26 (.slice A n c) d p):∃xs,Br w A n c xs:=by
 obtain⟨_,hf⟩:=h;obtain⟨A',n',c',xs,e,hx⟩:=Aba hf;simp[Value.cells]at e;obtain⟨rfl,rfl,rfl⟩:=e;exact⟨xs,hx⟩
theorem Adt (h:DataW.Trod enc Tryz.prog w base spare held 28 (.slice A n c) d p):∃xs,Aj w A n c xs:=by
 obtain⟨_,hf⟩:=h;obtain⟨A',n',c',xs,e,hx⟩:=Sd hf;simp[Value.cells]at e;obtain⟨rfl,rfl,rfl⟩:=e;exact⟨xs,hx⟩
end
end Go.Proofs.YtaglfmlgbcmakaaGreatDoor
