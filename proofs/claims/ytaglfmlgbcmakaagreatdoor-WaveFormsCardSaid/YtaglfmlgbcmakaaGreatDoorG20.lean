/-
  Arguments are read: slices of sounds, words, patterns, laws.
  What the listed variables give; the road from a walk to a row, for laws that answer true.
-/
import Derived.ProofKit
import Derived.Deep.Slices
import Derived.OpenShut
import Derived.LaidMore
import Derived.Lay
import Derived.Lib.LaidTab
import Derived.Stop.Joined
import Derived.Test.YtaglfmlgbcmakaaGreatDoorG13
import Derived.Test.YtaglfmlgbcmakaaGreatDoorRows
import Derived.Test.YtaglfmlgbcmakaaGreatDoorChecked
set_option linter.all false
set_option maxRecDepth 100000
set_option maxHeartbeats 4000000
namespace Go.Proofs.YtaglfmlgbcmakaaGreatDoor
open Go.RowKit Go.ChangeShapes Go.WideShapes
theorem Pe {w:World}{a:Addr}{v:Value}(h:w.cell? a=some v):a=⟨a.block,a.off,none⟩/\a.block<w.heap.size:=by
 unfold World.cell? at h;split at h
 ·rename_i c t f hb
  split at h
  ·cases h
  ·rename_i hs
   obtain⟨x,y,z⟩:=a
   cases z with
   |none=>exact⟨rfl,(Array.getElem?_eq_some_iff.1 hb).1⟩
   |some z=>simp at hs
 ·cases h
theorem Pf (sz:Nat):∀(L:List (List Value)),(∀r∈L,r.length=sz)→∀(k:Nat) (v:Value),L.flatten[k]? =some v→∃i j r,j<sz/\k=i*sz+j/\L[i]? =some r/\r[j]? =some v
 |[],_,k,v,h=>by simp at h
 |r::L,hr,k,v,h=>by
  have h0:r.length=sz:=hr r (by simp);rw[List.flatten_cons]at h;by_cases hk:k<sz
  ·rw[List.getElem?_append_left (by omega)]at h;exact⟨0,k,r,hk,by omega,rfl,h⟩
  ·rw[List.getElem?_append_right (by omega)]at h;obtain⟨i,j,r',hj,he,h1,h2⟩:=Pf sz L (fun r hr'=>hr r (by simp[hr'])) _ v h;exact⟨i+1,j,r',hj,by rw[Nat.add_mul];omega,by simpa using h1,h2⟩
theorem M7 (sz:Nat):∀(L:List (List Value)),(∀r∈L,r.length=sz)->L.flatten.length=L.length*sz
 |[],_=>by simp
 |r::L,hr=>by rw[List.flatten_cons,List.length_append,hr r (by simp),M7 sz L (fun r hr'=>hr r (by simp[hr'])),List.length_cons,Nat.add_mul];omega
section
variable {H:Type}{enc:TypeId×Value->H}{P:Program}{w:World}{base:Nat}{spare:Nat->Bool}{held:Bool}
theorem Gl {t e:TypeId}{fuel:Nat}{cs:List Value}{x:DataW H×List MemPlace}(ht:P.underlying t=some (.slice e))(h0:0<P.cellsOf e)(h:DataW.trod enc P w base spare held fuel t cs=some x):
  ∃(A:Option Addr) (n c m:Nat) (L:List (List Value)),cs=[.slice A n c]/\L.length=n/\Az w A n c (P.cellsOf e) L.flatten/\(∀r∈L,m<fuel/\r.length=P.cellsOf e∧∃y,DataW.trod enc P w base spare held m e r=some y):=by
 rcases DataW.trod_slice ht h with⟨rfl,_⟩|⟨a,len,cap,a3,rest,n,rfl,rfl,_,hb,hl,hm,a9,a8,_,_⟩
 ·exact⟨none,0,0,0,[],rfl,rfl,Az.nil _ _,fun r hr=>by simp at hr⟩
 have a2:∀i,i<len→∃r,w.cells? base (a.add (i*P.cellsOf e)) (P.cellsOf e)=some r∧∃y,DataW.trod enc P w base spare held n e r=some y:=by
  intro i hi;have h1:=a8 i hi;rw[List.getElem?_eq_getElem (by omega)]at h1;obtain⟨r,h2,h3⟩:=Option.bind_eq_some_iff.1 h1;exact⟨r,h2,_,h3⟩
 obtain⟨f,hf⟩:=Go.Deep.choose_lt (α:=List Value) a2
 have a0:∀r∈(List.range len).map f,r.length=P.cellsOf e:=by
  intro r hr;obtain⟨i,hi,rfl⟩:=List.mem_map.1 hr;exact(World.cells?_some (hf i (List.mem_range.1 hi)).1).2.1
 refine⟨some a,len,cap,n,(List.range len).map f,rfl,by simp,⟨by rw[M7 _ _ a0];simp,hl,hm,(fun h=>by cases h),fun hpos=> ?_⟩,fun r hr=>⟨by omega,a0 r hr, ?_⟩⟩
 ·have a4:∀i,i<len→∀j,j<P.cellsOf e->w.cell? (a.add (i*P.cellsOf e+j))=(f i)[j]? :=by
   intro i hi j hj
   have:=(World.cells?_some (hf i hi).1).2.2 j hj
   rwa[Go.Deep.add_add]at this
  have a6:=a0 (f 0) (List.mem_map.2 ⟨0,List.mem_range.2 hpos,rfl⟩);have a5:=a4 0 hpos 0 h0;rw[List.getElem?_eq_getElem (by omega)]at a5;have a1:w.cell? a=some ((f 0)[0]'(by omega)):=by simpa[Addr.add]using a5
  obtain⟨ha,a7⟩:=Pe a1;refine⟨a.block,a.off,congrArg some ha,a7,fun k v hv=> ?_⟩
  obtain⟨i,j,r,hj,rfl,h1,h2⟩:=Pf _ _ a0 k v hv;rw[List.getElem?_map]at h1
  have hi:i<len:=by
   by_cases hi:i<len
   ·exact hi
   ·rw[List.getElem?_eq_none (by simpa using Nat.not_lt.1 hi)]at h1;cases h1
  rw[List.getElem?_range hi]at h1;obtain rfl:f i=r:=by simpa using h1
  have:=a4 i hi j hj
  rw[ha,Ht]at this;exact this.trans h2
 ·obtain⟨i,hi,rfl⟩:=List.mem_map.1 hr;exact(hf i (List.mem_range.1 hi)).2
theorem Gy {α:Type}{Q:α->Prop}{g:α->List Value}:∀(L:List (List Value)),(∀r∈L,∃x,r=g x/\Q x)→∃xs:List α,L=xs.map g∧∀x∈xs,Q x
 |[],_=>⟨[],rfl,fun x hx=>by simp at hx⟩
 |r::L,h=>by
  obtain⟨x,rfl,hq⟩:=h r (by simp);obtain⟨xs,rfl,a0⟩:=Gy L (fun r hr=>h r (by simp[hr]));exact⟨x::xs,rfl,fun y hy=>by rcases List.mem_cons.1 hy with rfl|hy;exact hq;exact a0 y hy⟩
end
section
variable {H:Type}{enc:TypeId×Value->H}{w:World}{base:Nat}{spare:Nat->Bool}{held:Bool}
def Y2 (s:Snd):List Value:=[.int .u32 s.1, .int .u32 s.2]
theorem Rn:∀xs:List Snd,(xs.map Y2).flatten=B6 xs
 |[]=>rfl
 |s::xs=>by rw[List.map_cons,List.flatten_cons,Rn xs];rfl
theorem Fp {P:Program}{t:TypeId}{fs:Array Field}{fuel:Nat}{cs:List Value}{x:DataW H×List MemPlace}(ht:P.underlying t=some (.struct fs))(h:DataW.trod enc P w base spare held fuel t cs=some x):
  ∃n,n<fuel/\cs.length=P.cellsOf t∧∀f∈fs.toList,∃y,DataW.trod enc P w base spare held n f.type ((cs.drop f.offset).take (P.cellsOf f.type))=some y:=by
 obtain⟨xs,n,hn,_,hl,a1,hf⟩:=DataW.trod_struct ht h;refine⟨n,by omega,hl,fun f hfm=> ?_⟩
 obtain⟨i,a0⟩:=List.getElem?_of_mem hfm;have hi:fs[i]? =some f:=by simpa using a0
 have h1:=hf i f hi;have h2:=(Array.getElem?_eq_some_iff.1 hi).1;rw[List.getElem?_eq_getElem (by omega)]at h1;exact⟨_,h1⟩
set_option maxRecDepth 100000
theorem Ro:Tryz.prog.cellsOf 3=1:=by kernel_rfl
theorem Alm:Tryz.prog.cellsOf 47=1:=by kernel_rfl
theorem Al3:Tryz.prog.cellsOf 4=1:=by kernel_rfl
theorem S2:Tryz.prog.cellsOf 9=1:=by kernel_rfl
theorem Al4:Tryz.prog.cellsOf 50=1:=by kernel_rfl
theorem Al5:Tryz.prog.cellsOf 53=1:=by kernel_rfl
theorem Aha:Tryz.prog.cellsOf 28=1:=by kernel_rfl
theorem Y4:Tryz.prog.cellsOf 49=2:=by kernel_rfl
theorem Acy:Tryz.prog.cellsOf 52=7:=by kernel_rfl
theorem Ahb:Tryz.prog.cellsOf 104=6:=by kernel_rfl
theorem Ahc:Tryz.prog.cellsOf 55=18:=by kernel_rfl
theorem Gm {α:Type}(g:α->List Value):∀xs:List α,(xs.map g).flatten=xs.flatMap g
 |[]=>rfl
 |x::xs=>by rw[List.map_cons,List.flatten_cons,List.flatMap_cons,Gm g xs]
structure S3 where
 k:Nd
 A:Option Addr
 c:Nat
 ch:Fo
def S3.cells (p:S3):List Value:=Cx p.k p.A p.ch.len p.c
def Ad1:List S3->Fo
 |[]=> .nil
 |p::ps=> .node p.k p.ch (Ad1 ps)
theorem Y5:∀ps:List S3,(Ad1 ps).len=ps.length
 |[]=>rfl
 |p::ps=>by simp[Ad1,Fo.len,Y5 ps]
theorem Ahd {b off:Nat}(hb:b<w.heap.size):∀(ps:List S3) (i:Nat),(∀(j:Nat) v,(ps.flatMap S3.cells)[j]? =some v->w.cell? ⟨b,off+i*7+j,none⟩=some v)->(∀p∈ps,FSl w p.A p.ch.len p.c p.ch)->FAt w (some ⟨b,off,none⟩) i (Ad1 ps)
 |[],_,_,_=>trivial
 |p::ps,i,hc,hp=>by
  have hh:=hp p (by simp);rw[List.flatMap_cons]at hc;have at0:∀(j:Nat) v,p.cells[j]? =some v->w.cell? ⟨b,off+i*7+j,none⟩=some v:=fun j v hv=>hc j v (by rw[List.getElem?_append_left (List.getElem?_eq_some_iff.1 hv).1];exact hv)
  refine⟨b,off,p.A,p.ch.len,p.c,rfl,hb,⟨at0 0 _ rfl,at0 1 _ rfl,at0 2 _ rfl,at0 3 _ rfl,at0 4 _ rfl,at0 5 _ rfl,at0 6 _ rfl⟩,hh.1,hh.2,Ahd hb ps (i+1) (fun j v hv=> ?_) (fun q hq=>hp q (by simp[hq]))⟩
  have:=hc (7+j) v (by rw[List.getElem?_append_right (by show 7<=7+j;omega),show 7+j-p.cells.length=j by show 7+j-7=j;omega];exact hv)
  rw[show off+(i+1)*7+j=off+i*7+(7+j)by omega];exact this
end
end Go.Proofs.YtaglfmlgbcmakaaGreatDoor
namespace Go.Proofs.YtaglfmlgbcmakaaGreatDoor
open Go.RowKit Go.ChangeShapes Go.WideShapes Go.ChangeAt
theorem Af9:ownKnob Tryz.prog.godebug=none:=by kernel_rfl
theorem Aga:laidOutB Tryz.prog=true:=by kernel_rfl
def Uz:List (String×DataW Unit):=[("math/bits.deBruijn64tab",Rows.laid_math_bits_deBruijn64tab),("unicode/utf8.acceptRanges",Rows.laid_unicode_utf8_acceptRanges),("unicode/utf8.first",Rows.laid_unicode_utf8_first)]
theorem Alg:Tryz.prog.globalNamed "math/bits.deBruijn64tab" =some 3:=by kernel_rfl
theorem Yi {W:World}(h:laidMetH Tryz.prog Uz W):Cw W:=by
 rw[MakeChecks.laidMetH_plain _ _ _ (by kernel_rfl)]at h;have h1:laidMet Tryz.prog (("math/bits.deBruijn64tab",Lib.tabData .u8 (Lib.deBruijn64tab.map Int.ofNat))::Uz.tail) W:=h
 have h2:=Lib.tabIs_of_head Alg (show(Tryz.prog.globals[3]?).map (·.type)=some _ by kernel_rfl) Tryz.underlying287 Tryz.underlying5 (by kernel_rfl) (by kernel_rfl) h1
 have hc:∀j,j<64->W.cell? ⟨3,j,none⟩=some (.int .u8 (Lib.deBruijn64tab.getD j 0)):=by
  intro j hj
  have:=h2.cell Alg j hj
  rw[this];have hl:Lib.deBruijn64tab.length=64:=by kernel_rfl
  simp[List.getD,hl,hj]
 exact⟨(Pe (hc 0 (by decide))).2,hc⟩
section
variable {H:Type}{enc:TypeId×Value->H}{w:World}{base:Nat}{spare:Nat->Bool}{held:Bool}{A:Option Addr}{n c:Nat}{d:DataW H}{p:List MemPlace}
end
end Go.Proofs.YtaglfmlgbcmakaaGreatDoor
