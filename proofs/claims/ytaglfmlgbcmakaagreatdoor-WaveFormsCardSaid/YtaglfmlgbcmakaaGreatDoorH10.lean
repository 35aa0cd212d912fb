/-
  Forms that are written over (ablautlaw38.WaveForms).
  A parameter that is a case of chapter 38 is opened, with the ranges of its numbers.
-/
import Derived.Test.YtaglfmlgbcmakaaGreatDoorH09
import Derived.Test.YtaglfmlgbcmakaaGreatDoorXOpE
import Derived.Test.YtaglfmlgbcmakaaGreatDoorG29
set_option linter.all false
set_option maxRecDepth 100000
set_option maxHeartbeats 4000000
namespace Go.Proofs.YtaglfmlgbcmakaaGreatDoor
open Go.RowKit Go.Shelf
structure WrW (lo hi:Nat)(ps:List Part)(A:Option Addr)(W7 W:World):Prop where
 kp:Ba (fun k=>lo<=k/\k<hi) W7 W
 row:∀(k:Nat) (p:Part),ps[k]? =some p→∃g,A=some ⟨g,0,none⟩/\g<W.heap.size/\W.cell? ⟨g,k,none⟩=some p.val
 wr:∀p∈ps,0<p.2.1→∃b off cs t,p.1=some ⟨b,off,none⟩/\W.heap[b]? =some (.cells cs t (0,0))/\off+p.2.1*2<=cs.size/\lo<=b/\b<hi∧∀g,A=some ⟨g,0,none⟩->g≠b
section
variable {lo hi:Nat}{ps:List Part}{A:Option Addr}{W7 W:World}
theorem WrW.set (h:WrW lo hi ps A W7 W){b:Nat}(hb:lo<=b/\b<hi)(hA:∀g,A=some ⟨g,0,none⟩->g≠b)(o:Nat)(u:Value):WrW lo hi ps A W7 (W.setCell ⟨b,o,none⟩ u):=by
 refine⟨h.kp.setCell (p:=⟨b,o,none⟩) hb u,fun k p hp=> ?_,fun p hp hn=> ?_⟩
 ·obtain⟨g,h1,h2,h3⟩:=h.row k p hp;exact⟨g,h1,by simpa using h2,(B5 (hA g h1)).trans h3⟩
 ·obtain⟨b',off,cs,t,h1,h2,h3,h4,h5,h6⟩:=h.wr p hp hn;by_cases e:b'=b
  ·subst e;exact⟨b',off,_,t,h1,Be h2,by simpa using h3,h4,h5,h6⟩
  ·exact⟨b',off,cs,t,h1,(Below.heap_setCell _ _ _ _ (by show b'≠b;exact e)).trans h2,h3,h4,h5,h6⟩
theorem WrW.at_ (h:WrW lo hi ps A W7 W){k j:Nat}{p:Part}(hp:ps[k]? =some p)(hj:j<p.2.1):∃b off v1 v2,p.1=some ⟨b,off,none⟩/\(lo<=b/\b<hi)/\(∀g,A=some ⟨g,0,none⟩->g≠b)∧
  W.cell? ⟨b,off+j*2,none⟩=some v1/\W.cell? ⟨b,off+j*2+1,none⟩=some v2/\W.frozen? ⟨b,off+j*2,none⟩=false/\W.frozen? ⟨b,off+j*2+1,none⟩=false:=by
 obtain⟨b,off,cs,t,h1,h2,h3,h4,h5,h6⟩:=h.wr p (List.mem_of_getElem? hp) (by omega);have l1:off+j*2<cs.size:=by omega
 have l2:off+j*2+1<cs.size:=by omega
 exact⟨b,off,_,_,h1,⟨h4,h5⟩,h6,Ad h2 (Array.getElem?_eq_getElem l1),Ad h2 (Array.getElem?_eq_getElem l2),by simp[World.frozen?,h2],by simp[World.frozen?,h2]⟩
theorem WrW.below (h:WrW lo hi ps A W7 W){w2:World}(hb:Below w2.heap.size w2 W7)(hl:w2.heap.size<=lo):Below w2.heap.size w2 W:=
 ⟨h.kp.os.trans hb.os,h.kp.tape.trans hb.tape,h.kp.output.trans hb.output,Nat.le_trans hb.size h.kp.size,fun k hk=>(h.kp.block k (Nat.lt_of_lt_of_le hk hb.size) (fun e=>by omega)).trans (hb.block k hk)⟩
theorem WrW.words (h:WrW lo hi ps A W7 W){qs:List Part}{A':Option Addr}{n c:Nat}(hc:Az W7 A' n c 1 (qs.map Part.val))(hq:Hu W7 qs)(hf:∀q∈qs,∀ad,q.1=some ad->hi<=ad.block)(hA:∀ad,A'=some ad->hi<=ad.block):Bs W A' n c (qs.map Part.word):=by
 refine Bs.mk ?_ fun q hq'=>(hq q hq').keep h.kp fun _ ad had e=>by have:=hf q hq' ad had;omega
 obtain⟨h1,h2,h3,h4,h5⟩:=hc;refine⟨h1,h2,h3,h4,fun hn=> ?_⟩
 obtain⟨b,off,e,hb,a0⟩:=h5 hn;have a2:=hA _ e;have a1:=h.kp.block b hb (fun e'=>by have:hi<=b:=a2;omega);exact⟨b,off,e,Nat.lt_of_lt_of_le hb h.kp.size,fun j v hv=>(Cl a1 _).trans (a0 j v hv)⟩
end
theorem WrW.start {w2 w3 W7:World}{c:Nat}{A:Option Addr}{ps:List Part}(hown:w3.ownsRow w2.heap.size 28 1 (.slice A ps.length c) ps.length (ps.map Part.val))(hpp:Hu w3 ps)
  (hpd:∀p∈ps,0<p.2.1→∀ad,p.1=some ad->w2.heap.size<=ad.block/\(Value.slice A ps.length c).ownBlock≠some ad.block∧∃cs t,w3.heap[ad.block]? =some (.cells cs t (0,0))) (hb:Below w3.heap.size w3 W7):
  WrW w2.heap.size w3.heap.size ps A W7 W7:=by
 refine⟨Ba.refl _ _,fun k p hp=> ?_,fun p hp hn=> ?_⟩
 ·obtain⟨tb,cap,e,h2,_,h4,_⟩:=Tz hown (j:=k) (x:=p.val) (by rw[List.getElem?_map,hp];rfl);injection e with e _ _
  exact⟨tb,e,Nat.lt_of_lt_of_le h4 hb.size,(hb.cell (p:=⟨tb,k,none⟩) h4).trans h2⟩
 ·obtain⟨b,off,pp,mm,e,a0,_,_,hc⟩:=(hpp p hp).at_ (k:=p.2.1-1) (by omega);obtain⟨h1,h2,cs,t,h3⟩:=hpd p hp hn _ e
  have h4:cs[off+(p.2.1-1)*2+1]? =some (.int .u32 mm):=by
   rw[cell_of_row w3 b _ cs t (0,0) h3]at hc;exact hc
  have h5:=(Array.getElem?_eq_some_iff.1 h4).1;refine⟨b,off,cs,t,e,(hb.block b a0).trans h3,by omega,h1,a0,fun g hg e'=>h2 ?_⟩
  subst e';rw[hg];rfl
end Go.Proofs.YtaglfmlgbcmakaaGreatDoor
namespace Go.Proofs.YtaglfmlgbcmakaaGreatDoor
open Go.RowKit Go.ChangeShapes Go.WideShapes Go.ChangeAt
structure EdU (x:EdR):Prop where
 laws:Pm x.laws
 word:Ck x.word
section
variable {H:Type}{enc:TypeId×Value->H}{w:World}{base:Nat}{spare:Nat->Bool}{held:Bool}
set_option maxRecDepth 100000
theorem Akg {fuel:Nat}{r:List Value}{x:DataW H×List MemPlace}(h:DataW.trod enc Tryz.prog w base spare held fuel 66 r=some x):∃s:EdR,r=s.cells/\Wq w s/\EdU s:=by
 obtain⟨n,_,hl,hf⟩:=Fp Tryz.underlying66 h;rw[Ana]at hl
 match r,hl with
 |[c0,c1,c2,c3,c4,c5,c6,c7,c8],_=>
  simp only[List.mem_cons,forall_eq_or_imp,List.not_mem_nil,false_implies,implies_true,and_true,Ro,Ag6,Al1,Akd,Al2,Ake,Aha,List.drop_zero,List.drop_succ_cons,List.take_succ_cons,List.take_zero]at hf;obtain⟨⟨_,h0⟩,⟨_,h1⟩,⟨_,h2⟩,⟨_,h3⟩,⟨_,h4⟩,⟨_,h5⟩,⟨_,h6⟩,⟨_,h7⟩,⟨_,h8⟩⟩:=hf;obtain⟨A0,m0,d0,l0,e0,p0,z0⟩:=Abf h0;obtain⟨A1,m1,d1,l1,e1,p1⟩:=Y0 h1;obtain⟨A2,m2,d2,l2,e2,p2,y2⟩:=Y9 h2;obtain⟨A3,m3,d3,l3,e3,p3⟩:=Y1 h3;obtain⟨A4,m4,d4,l4,e4,p4,y4⟩:=Rp h4;obtain⟨n5,e5,u5⟩:=Lk h5;obtain⟨n6,e6,u6⟩:=Lk h6;obtain⟨n7,e7,u7⟩:=Lk h7;obtain⟨n8,e8,u8⟩:=Pd h8;simp only[List.cons.injEq,and_true]at e0 e1 e2 e3 e4 e5 e6 e7 e8;subst e0 e1 e2 e3 e4 e5 e6 e7 e8;exact⟨⟨A0,m0,d0,l0,A1,m1,d1,l1,A2,m2,d2,l2,A3,m3,d3,l3,A4,m4,d4,l4,n5,n6,n7,n8⟩,rfl,⟨p0,p1,p2,p3,p4,u8,z0⟩,y2,y4⟩
end
section
variable {H:Type}{enc:TypeId×Value->H}{w:World}{base:Nat}{spare:Nat->Bool}{held:Bool}{d:DataW H}{p:List MemPlace}
theorem Ag9 {cs:Array Value}(h:DataW.Trod enc Tryz.prog w base spare held 66 (.agg cs) d p):∃x:EdR,cs= #[.slice x.An x.nn x.cn, .slice x.Ar x.nr x.cr, .slice x.Al x.nl x.cl, .slice x.Av x.nv x.cv, .slice x.Aw x.nw x.cw, .int .i64 x.a, .int .i64 x.i, .int .i64 x.j, .int .i64 x.now]/\Wq w x/\EdU x:=by
 obtain⟨_,hf⟩:=h;obtain⟨x,e,hx⟩:=Akg hf;refine⟨x, ?_,hx⟩;apply Array.ext';simpa[Value.cells,EdR.cells]using e
end
end Go.Proofs.YtaglfmlgbcmakaaGreatDoor
