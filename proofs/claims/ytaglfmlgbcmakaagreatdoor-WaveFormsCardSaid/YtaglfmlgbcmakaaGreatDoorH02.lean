/-
  points.Map's from: the distances of all points from one.
  points.Map's Dist and Roads.
  What points.New refuses, in plain words.
  Sorting a rising list by another order that does not tell all elements apart: the sort keeps equal ones as they stand (slices.SortStableFunc over few elements), in plain words.
  Waves (chapter 38), in plain words: what is refused, when waves arrive, lines, forms, where one wave comes before another.
  Waves (chapter 38), in plain words: how long ways are, lines that grow, lists of points gone over.
  Waves in memory (chapter 38).
  When a wave arrives at a point: wave.Wave's at.
-/
import Derived.Deep.CutRange
import Derived.Deep.CutBlock
import Derived.Deep.DeepCutAuto
import Derived.Sort.LotA
import Derived.Test.YtaglfmlgbcmakaaGreatDoorH01
import Derived.Test.YtaglfmlgbcmakaaGreatDoorG40
import Derived.Test.YtaglfmlgbcmakaaGreatDoorG14
import Derived.Test.YtaglfmlgbcmakaaGreatDoorG33
set_option linter.all false
set_option maxRecDepth 100000
set_option maxHeartbeats 4000000
namespace Go.Proofs.YtaglfmlgbcmakaaGreatDoor
open Go.RowKit Go.Shelf
structure FrD (w:World)(bx gd n:Nat)(f:Nat->Int)(wr:World):Prop where
 hx:wr.heap[bx]? =some (.cells #[.slice (some ⟨gd,0,none⟩) n n] 42 (0,0))
 hd:wr.heap[gd]? =some (.cells (Ek n f) 2 (0,0))
 hb:Below w.heap.size w wr
theorem FrD.cx {w:World}{bx gd n:Nat}{f:Nat->Int}{wr:World}(h:FrD w bx gd n f wr):wr.cell? ⟨bx,0,none⟩=some (.slice (some ⟨gd,0,none⟩) n n):=Ad h.hx rfl
theorem FrD.cd {w:World}{bx gd n:Nat}{f:Nat->Int}{wr:World}(h:FrD w bx gd n f wr){v:Nat}(hv:v<n):wr.cell? ⟨gd,v,none⟩=some (.int .i64 (f v)):=Hk h.hd hv
theorem FrD.fz {w:World}{bx gd n:Nat}{f:Nat->Int}{wr:World}(h:FrD w bx gd n f wr)(v:Nat):wr.frozen? ⟨gd,v,none⟩=false:=by simp[World.frozen?,h.hd]
theorem FrD.set {w:World}{bx gd n:Nat}{f g:Nat->Int}{wr:World}(h:FrD w bx gd n f wr)(hlt:w.heap.size<=gd)(hne:bx≠gd){k:Nat}{x:Int}(hk:g k=x)(hg:∀v,v<n->v≠k->g v=f v):FrD w bx gd n g (wr.setCell ⟨gd,k,none⟩ (.int .i64 x)) where
 hx:=(Below.heap_setCell _ _ _ _ hne).trans h.hx
 hd:=by rw[Be h.hd,Mf hk hg]
 hb:=h.hb.setCell (p:=⟨gd,k,none⟩) hlt _
theorem FrD.keep {w:World}{bx gd n:Nat}{f:Nat->Int}{wr wr':World}{S:Nat->Prop}(h:FrD w bx gd n f wr)(hK:Ba S wr wr')(hS:∀k,S k->w.heap.size<=k/\k≠bx/\k≠gd):FrD w bx gd n f wr' where
 hx:=(hK.block bx (lt_of_block h.hx) fun e=>(hS _ e).2.1 rfl).trans h.hx
 hd:=(hK.block gd (lt_of_block h.hd) fun e=>(hS _ e).2.2 rfl).trans h.hd
 hb:=h.hb.trans (hK.to_below (fun k e=>(hS k e).1) h.hb.size)
theorem FrD.below {w:World}{bx gd n:Nat}{f:Nat->Int}{wr wr':World}(h:FrD w bx gd n f wr)(hb:Below wr.heap.size wr wr'):FrD w bx gd n f wr' where
 hx:=(hb.block bx (lt_of_block h.hx)).trans h.hx
 hd:=(hb.block gd (lt_of_block h.hd)).trans h.hd
 hb:=h.hb.trans (hb.mono h.hb.size)
theorem FrD.alloc {w:World}{bx gd n:Nat}{f:Nat->Int}{wr:World}(h:FrD w bx gd n f wr)(o:Obj):FrD w bx gd n f (wr.alloc o) where
 hx:=(Below.heap_alloc _ _ _ (lt_of_block h.hx)).trans h.hx
 hd:=(Below.heap_alloc _ _ _ (lt_of_block h.hd)).trans h.hd
 hb:=h.hb.alloc h.hb.size _
theorem FrD.eqf {w:World}{bx gd n:Nat}{f g:Nat->Int}{wr:World}(h:FrD w bx gd n f wr)(hg:∀v,v<n->g v=f v):FrD w bx gd n g wr where
 hx:=h.hx
 hd:=by
  rw[h.hd,show Ek n f=Ek n g from ?_];unfold Ek;congr 1;exact List.map_congr_left fun v hv=>by rw[hg v (List.mem_range.1 hv)]
 hb:=h.hb
theorem Al8 (b n:Nat)(rs:List Bk)(a:Nat)(w:World)(hm:Dr w b n rs)(ha:a<n):
  Calls Tryz.prog 64 #[.pointer (some ⟨b,0,none⟩), .int .i64 (a:Int)] w fun e w'=>∃g,e= .returned (.slice (some ⟨g,0,none⟩) n n)/\w'.heap[g]? =some (.cells (Akj n (F8 n rs a)) 2 (0,0))/\Below w.heap.size w w':=by
 obtain⟨An,cn,mb,Ar,cr,Aq,cq,c0,c1,c2,c3⟩:=hm.cells;have o1:=hm.few;have HM:=hI hm;clear hm c1 c2;go_enter Tryz.func64,Tryz.ntmps64;go_wp2_with fail;refine(Lm b An n cn w c0).mono ?_;rintro e w1 ⟨rfl,p3⟩;have o2:=hI p3;clear p3;have q2:=fun w=>run_make_row' (P:=Tryz.prog) 42 2 (.int .i64 0) 8 Tryz.underlying42 S6 rfl .i64 .i64 n (by omega) (by omega) w
 have s4:n<=maxLen:=by unfold maxLen;omega
 go_wp2;clear q2;rw[Mt];have o0:=o2.out.size
 have f7:Hid (FrD w (w1.heap.size+1) w1.heap.size n (fun _=>0) ((w1.alloc (.cells (Ek n fun _=>0) 2)).alloc (.cells #[.slice (some ⟨w1.heap.size,0,none⟩) n n] 42))):=
  ⟨Am (by simp),(Bc (by simp)).trans (Am rfl),(o2.out.alloc o0 _).alloc (by simp;omega) _⟩
 obtain⟨bx,m6⟩:∃bx,bx=w1.heap.size+1:=⟨_,rfl⟩;rw[←m6]at f7 ⊢;obtain⟨gd,k6⟩:∃gd,gd=w1.heap.size:=⟨_,rfl⟩;rw[←k6]at f7 ⊢;have f2:w.heap.size<=gd:=by omega
 have f1:gd<bx:=by omega
 generalize(w1.alloc (.cells (Ek n fun _=>0) 2)).alloc (.cells #[.slice (some ⟨gd,0,none⟩) n n] 42)=W2 at*;clear k6 m6 o0
 go_loopw [6,18] (fun _ i wr=>∃k:Nat,k<=n/\i= .int .i64 (k:Int)/\Hid (FrD w bx gd n (fun v=>if v<k then-1 else 0) wr)) (fun _ i _=>n-(intOf i).toNat)
 case atStart=>exact⟨0,Nat.zero_le _,rfl,f7.out.eqf fun v _=>by simp⟩
 case round=>
  obtain⟨k,hk,rfl,HF⟩:=hrel;by_cases hlt:k<n
  ·have s0:(k:Int)<(n:Int):=by omega
   have cx:=HF.out.cx;have cd:=HF.out.cd hlt;have fz:=HF.out.fz k;go_wp2
   go_roundw
   case rel=>
    refine⟨k+1,by omega,by simp,HF.out.set f2 (by omega) (g:=fun v=>if v<k+1 then-1 else 0) (by simp) fun v _ hv=> ?_⟩
    by_cases e:v<k
    ·simp[e,Nat.lt_succ_of_lt e]
    ·have:¬v<k+1:=by omega
     simp[e,this]
   case measure=>simp[intOf];omega
  ·obtain rfl:k=n:=by omega
   clear f7;have cx:=HF.out.cx;have cd:=HF.out.cd ha;have fz:=HF.out.fz a;have p5:(a:Int)<(k:Int):=by omega
   go_wp2
   have i4:Hid (FrD w bx gd k (fun v=>Bn (if v=a then some 0 else none)) (wr.setCell ⟨gd,a,none⟩ (.int .i64 0))):=
    HF.out.set f2 (by omega) (by simp[Bn]) fun v hv hne=>by simp[hne,Bn,hv]
   have hz:(wr.setCell ⟨gd,a,none⟩ (.int .i64 0)).heap.size=wr.heap.size:=by simp
   rw[←hz];generalize wr.setCell ⟨gd,a,none⟩ (.int .i64 0)=W3 at*;clear cx cd fz HF p5 hz;obtain⟨B0,f9⟩:∃B0,B0=W3.heap.size:=⟨_,rfl⟩;have f8:bx<B0:=by rw[f9];exact lt_of_block i4.out.hx
   have m2:Hid (Fi (W3.alloc (.cells #[.int .i64 (a:Int)] 3)) B0 B0 1 [a]):=
    ⟨by simp,Or.inr ⟨B0,1, #[.int .i64 (a:Int)],rfl,rr,Am f9,by simp,by simp[maxLen],by simp,by simp⟩⟩
   have p2:=hI (i4.out.alloc (.cells #[.int .i64 (a:Int)] 3));have HN:=hI (Wu HM.out.ok a);rw[←f9];generalize W3.alloc (.cells #[.int .i64 (a:Int)] 3)=W4 at*;clear f9 i4
   go_loopg [7] (2*k-1) (fun kx s7 wr=>∃(D:Nat->Option Nat) (op:List Nat) (go co:Nat),s7= .slice (some ⟨go,0,none⟩) op.length co/\kx<=2*k/\Hid (Dij (wtN rs) a D op)/\Hid (DB k kx D op)/\Hid (FrD w bx gd k (fun v=>Bn (D v)) wr)/\Hid (Fi wr B0 go co op))
   case atStart=>exact⟨_,[a],B0,1,rfl,Nat.sub_le _ _,Dij.begin _ _,DB.begin ha,p2.out,m2.out⟩
   case round=>
    obtain⟨D,op,go,co,rfl,s2,g1,b0,a5,i3⟩:=hrel;clear p2 m2;by_cases hop:op.length=0
    ·have k5:op=[]:=List.eq_nil_of_length_eq_zero hop;subst k5;have cx:=a5.out.cx;go_wp2;go_ret;exact⟨gd,rfl,by rw[a5.out.hd];rw[show(fun v=>Bn (D v))=fun v=>Bn (F8 k rs a v)from funext fun v=>congrArg Bn (Ri (g1.out.done v) (HN.out v))],a5.out.hb⟩
    ·have q1:(0:Int)<(op.length:Int):=by omega
     obtain⟨m4,r5,q7,cur,hg,q3,o9⟩:=i3.out.block;have p8:op.length<=4000:=by have:=b0.out.me;omega
     have p1:Hid (Dr wr b k rs):=HM.out.below a5.out.hb;go_wp2_with fail;refine(Anf k D op go gd bx co _ cur hg (Pk o9) b0.out.inn (by omega) p8 a5.out.hx a5.out.hd (by omega) (by omega)).mono ?_;rintro e w5 ⟨at_,rfl,d3,b2,d4⟩;have a9:=hI d3;have k7:=hI b2;have p9:=d4.size;have j8:=hI (a5.out.below d4);have i5:=hI (i3.out.below d4);have k9:=hI (p1.out.below d4);clear d4 d3 b2 hg o9 q3 m4 r5 q7 p1 a5 i3;go_wp2_with fail;have i2:(w5.alloc (.cells #[.int .i64 (at_:Int)] 3)).heap[w5.heap.size]? =some (.cells #[.int .i64 (at_:Int)] 3 (0,0)):=hpt;have k0:go<w5.heap.size:=by obtain⟨_,_,_,cur,hg,_⟩:=i5.out.block;exact lt_of_block hg
     have i8:bx<w5.heap.size:=lt_of_block j8.out.hx;have o3:=hI (j8.out.alloc (.cells #[.int .i64 (at_:Int)] 3));have m8:=hI (i5.out.below ((Below.refl _ w5).alloc rr (.cells #[.int .i64 (at_:Int)] 3)));have r0:=hI (k9.out.below ((Below.refl _ w5).alloc rr (.cells #[.int .i64 (at_:Int)] 3)));obtain⟨ba,p0⟩:∃ba,ba=w5.heap.size:=⟨_,rfl⟩;rw[←p0]at i2 k0 i8 ⊢;have d8:=hI i2;generalize w5.alloc (.cells #[.int .i64 (at_:Int)] 3)=w6 at*;clear p0 i2 j8 i5 k9 p9;refine(Ang op at_ B0 go ba co w6 m8.out d8.out (by omega)).mono ?_;rintro e w7 ⟨rfl,i9,g3⟩;have m4:B0<=go:=i9.block.1;have j1:=hI i9;have a4:=hI ((g3.block ba (lt_of_block d8.out) (by omega)).trans d8.out);have b3:=hI (o3.out.keep g3 fun z e=>by subst e;exact⟨by omega,by omega,by omega⟩);have q9:=hI (HM.out.below b3.out.hb);clear i9 g3 m8 d8 o3 r0;obtain⟨dAt,a2⟩:=g1.out.open_ at_ a9.out;obtain⟨m,rfl⟩:∃m,gk=m+1:=⟨gk-1,by have:=b0.out.pos a9.out;omega⟩;obtain⟨i6,m3⟩:=b0.out.del a9.out a2
     have j0:=Rlx.begin g1.out a9.out a2 (fun v hv dv hdv=>by
      have:=k7.out v hv
      rw[a2,hdv]at this;simp only[Bn]at this;omega)
     have b6:=b0.out.inn at_ a9.out;obtain⟨r,hr⟩:∃r,r=op.filter fun x=> !decide (x=at_):=⟨_,rfl⟩
     rw[←hr]at j1 i6 j0 ⊢;have q0:=hI j0;have g2:=hI i6;have m5:=hI m3;have s1:=hI a2;clear j0 i6 m3 a2 hr g1 b0 k7 a9;obtain⟨qb,qo,cq',A,me,ce,es,c3w,m9,cqw,o6,b5⟩:=HM.out.nearAt b6;have c3':=(b3.out.hb.cell (p:=⟨b,3,none⟩) HM.out.lt).trans c3w;have cqa:=(b3.out.hb.cell (p:=⟨qb,qo+at_,none⟩) m9).trans cqw;clear c3w cqw;have j9:=hI o6;have o8:=hI b5;clear o6 b5;have ca:=Ad (j:=0) a4.out rfl;have o7:(at_:Int)<(k:Int):=by omega
     go_upto_region 13 with fail
     go_cut [46,47,48]from 40 to 48 (fun s46 s47 s48 wx=>s46= .slice A me ce/\s47= .int .i64 (me:Int)/\s48= .int .i64 0/\wx=w7.drew)
     case first=>
      refine Bg (fun W'=>W'.cell? ⟨b,3,none⟩=some (.slice (some ⟨qb,qo,none⟩) k cq')/\W'.cell? ⟨ba,0,none⟩=some (.int .i64 (at_:Int))/\W'.cell? ⟨qb,qo+at_,none⟩=some (.slice A me ce)) (by kernel_rfl) ⟨c3',ca,cqa⟩ (fun hHeld=> ?_)
      (refine' Ae 0 rfl ?_;(try simp only[Act.put,nY,nX]));(refine' Ae 1 rfl ?_;(try simp only[Act.put,nY,nX]));(refine' Ae 2 rfl ?_;(try simp only[Act.put,nY,nX]));(refine' Ae 3 rfl ?_;(try simp only[Act.put,nY,nX]));(refine' Ae 4 rfl ?_;(try simp only[Act.put,nY,nX]));(refine' Ae 5 rfl ?_;(try simp only[Act.put,nY,nX]));(refine' Ae 6 rfl ?_;(try simp only[Act.put,nY,nX]))
      refine Ze (i:=7) (j:=8) (by kernel_rfl) rfl rfl (fun K' hK'=> ?_) (fun K' hK'=> ?_)
      all_goals rw[if_pos (by rfl)]
      all_goals go_simp
      ·refine hK' _ _ ⟨.inr hHeld,fun _=> ?_⟩
       clear hK' K'
       (try simp only[Act.put,nY,nX])
       (refine Anv 8 rfl (fun K' hK'=> ?_);simp only[nY];go_simp)
       refine hK' _ _ ⟨.inl (by kernel_rfl),fun _=>Bf (by kernel_rfl) ?_ _⟩
       clear hK' K' hHeld;go_wp2_with fail;go_meet
       case rel=>exact⟨rfl,rfl,rfl,rfl⟩
      ·refine hK' _ _ ⟨.inr hHeld,fun _=> ?_⟩
       clear hK' K'
       (try simp only[Act.put,nY,nX])
       (refine Anv 7 rfl (fun K' hK'=> ?_);simp only[nY];go_simp)
       refine hK' _ _ ⟨.inl (by kernel_rfl),fun _=>Bf (by kernel_rfl) ?_ _⟩
       clear hK' K' hHeld;go_wp2_with fail;go_meet
       case rel=>exact⟨rfl,rfl,rfl,rfl⟩
     case rest=>
     obtain⟨rfl,rfl,rfl,r2⟩:=hcut;obtain rfl:=r2;go_wp2_with fail;have r6:=Gj.max j9.out;have j3:=hI (b3.out.below ((Below.refl w7.heap.size w7).drew));have m0:=hI (j1.out.below ((Below.refl w7.heap.size w7).drew));have m7:Hid (w7.drew.heap[ba]? =some (.cells #[.int .i64 (at_:Int)] 3 (0,0))):=a4.out;have r4:w7.drew.heap.size=w7.heap.size:=rfl;have r3:ba<w7.drew.heap.size:=lt_of_block a4.out;have p7:bx<w7.drew.heap.size:=lt_of_block j3.out.hx;generalize w7.drew=w8 at*;clear b3 j1 a4 q9 c3' cqa ca r4 m9
     go_loopw [7,48] (fun s7 i wr=>∃(j:Nat) (D:Nat->Option Nat) (op:List Nat) (go co:Nat),i= .int .i64 (j:Int)/\j<=me/\go≠ba/\s7= .slice (some ⟨go,0,none⟩) op.length co/\Hid (Rlx (wtN rs) a at_ dAt (es.take j) D op)/\Hid (DB k m D op)/\Hid (FrD w bx gd k (fun v=>Bn (D v)) wr)/\Hid (Fi wr B0 go co op)∧
      Hid (wr.heap[ba]? =some (.cells #[.int .i64 (at_:Int)] 3 (0,0)))) (fun _ i _=>me-(intOf i).toNat)
     case atStart=>exact⟨0,D,r,go,co,rfl,Nat.zero_le _,by omega,rfl,q0.out,g2.out,j3.out,m0.out,m7.out⟩
     case round=>
      obtain⟨j,D',op',go',co',rfl,hj,k4,rfl,g4,k8,d2,j2,f3⟩:=hrel;clear j3 m0 m7;by_cases hlt:j<me
      ·have s3:(j:Int)<(me:Int):=by omega
       obtain⟨eb,eo,x,l,hA,q6,f1,ex,el⟩:=Gj.at_ (j9.out.below d2.out.hb rr) hlt;subst hA;have b7:(x,l)∈Dm rs at_:=o8.out.mem_iff.1 (List.mem_of_getElem? f1);have hw:=(Sh HM.out.ok).1 b7;obtain⟨_,g7⟩:=Alj HM.out.ok _ _ _ hw;have k1:=Agu HM.out.ok hw;have p6:=hI f1;have q4:=hI hw;clear b7 hw f1;have f5:Below wr.heap.size wr (wr.alloc (.cells #[.int .i64 (x:Int), .int .i64 (l:Int)] 112)):=bel;have f8:=(Am rfl:(wr.alloc (.cells #[.int .i64 (x:Int), .int .i64 (l:Int)] 112)).heap[wr.heap.size]? =_);have f4:=hI (d2.out.below f5);have m1:=hI (j2.out.below f5);have j4:=hI ((f5.block ba (lt_of_block f3.out)).trans f3.out);have i7:bx<wr.heap.size:=lt_of_block d2.out.hx;have g6:ba<wr.heap.size:=lt_of_block f3.out;go_wp2_with fail;obtain⟨xb,d0⟩:∃xb,xb=wr.heap.size:=⟨_,rfl⟩;rw[←d0]at f8 i7 g6 ⊢;have k2:=hI f8;generalize wr.alloc (.cells #[.int .i64 (x:Int), .int .i64 (l:Int)] 112)=w9 at*;clear d0 f5 f8 ex el q6 d2 j2 f3;have cbx:=f4.out.cx;have cba:=Ad (j:=0) j4.out rfl;have cda:w9.cell? ⟨gd,at_,none⟩=some (.int .i64 (dAt:Int)):=by have:=f4.out.cd b6;rw[g4.out.atv]at this;exact this
       have cxl:=Ad (j:=1) k2.out rfl
       have q5:IntKind.i64.wrap ((dAt:Int)+(l:Int))=((dAt+l:Nat):Int):=by
        have h1:=m5.out;rw[IntWalk.i64_in _ (by omega)];omega
       refine Bg (fun W'=>W'.cell? ⟨bx,0,none⟩=some (.slice (some ⟨gd,0,none⟩) k k)/\W'.cell? ⟨ba,0,none⟩=some (.int .i64 (at_:Int))/\W'.cell? ⟨gd,at_,none⟩=some (.int .i64 (dAt:Int))/\W'.cell? ⟨xb,1,none⟩=some (.int .i64 (l:Int))) (by kernel_rfl) ⟨cbx,cba,cda,cxl⟩ (fun hHeld=> ?_)
       (refine' Ae 0 rfl ?_;(try simp only[Act.put,nY,nX]));(refine' Ae 1 rfl ?_;(try simp only[Act.put,nY,nX]));(refine' Ae 2 rfl ?_;(try simp only[Act.put,nY,nX]));(refine' Ae 3 rfl ?_;(try simp only[Act.put,nY,nX]));(refine' Ae 4 rfl ?_;(try simp only[Act.put,nY,nX]));(refine' Ae 5 rfl ?_;(try simp only[Act.put,nY,nX]));(refine' Ae 6 rfl ?_;(try simp only[Act.put,nY,nX]))
       (refine Anv 7 rfl (fun K' hK'=> ?_);simp only[nY];go_simp)
       rw[show(dAt:Int)+(l:Int)=((dAt+l:Nat):Int)from by omega];refine hK' _ _ ⟨.inl (by kernel_rfl),fun _=>Bf (by kernel_rfl) ?_ _⟩
       clear hK' K' hHeld q5 cda cba cxl cbx;have a7:Below w9.heap.size w9 w9.drew:=(Below.refl _ _).drew;have a8:=hI (f4.out.below a7);have b1:=hI (m1.out.below a7);have j6:Hid (w9.drew.heap[ba]? =some (.cells #[.int .i64 (at_:Int)] 3 (0,0))):=j4.out;have f6:Hid (w9.drew.heap[xb]? =some (.cells #[.int .i64 (x:Int), .int .i64 (l:Int)] 112 (0,0))):=k2.out;clear f4 m1 j4 k2 a7;generalize w9.drew=wa at*;have cbx:=a8.out.cx;have cxx:=Ad (j:=0) f6.out rfl;have cdx:=a8.out.cd g7;have fzx:=a8.out.fz x;have a1:=g4.out.step q4.out;have a0:=k8.out.relax m5.out g7 k1;have r8:(x:Int)<(k:Int):=by omega
       have p4:=r6.2;have g5:Hid (es.take (j+1)=es.take j++[(x,l)]):=Bd es j (x,l) p6.out;unfold Nl at a1 a0;dsimp only at a1 a0
       cases hD:D' x with
       |none=>
        rw[hD]at a1 a0 cdx;dsimp only at a1 a0;have d6:=hI a1;have a3:=hI a0;have i1:op'.length+1<=4096:=by have:=a0.me;rw[List.length_append]at this;simp at this;omega
        clear a1 a0 hD;simp only[Bn]at cdx;have d7:=b1.out.below ((Below.refl _ wa).alloc rr (.cells #[.int .i64 (x:Int)] 3));have o5:=hI d7
        have q8:B0<=(wa.alloc (.cells #[.int .i64 (x:Int)] 3)).heap.size:=by
         have h1:=d7.block.1;obtain⟨_,_,_,cur,hg,_⟩:=d7.block
         have:=lt_of_block hg
         omega
        have i0:xb<wa.heap.size:=lt_of_block f6.out;clear d7;go_wp2_with(at_builtin;refine Eu rfl (.tmp 66) (.tmp 69) rfl B0 (.slice (some ⟨go',0,none⟩) op'.length co') op'.length (op'.map fun(x:Nat)=>Value.int .i64 (x:Int)) rfl o5.out ⟨wa.heap.size,0,none⟩ 1 (.int .i64 (x:Int)) rfl (cell_one_new _ _ _) rfl i1 q8 ?hc)
        case hc=>
         intro v' wb a6 hg d3;obtain⟨g8,c8,rfl,h8,_⟩:=V6 a6 (by omega);have d9:Ba (fun z=>z=go') (wa.alloc (.cells #[.int .i64 (x:Int)] 3)) wb:=(Ba.refl _ _).grown hg (fun z e=> .inl (by injection e with e;exact e.symm));have r1:B0<=go':=o5.out.block.1
         have b9:Hid (Fi wb B0 g8 c8 (op'++[x])):=by
          show wb.ownsRow _ _ _ _ _ _;rw[List.map_append,List.length_append];exact a6
         have f0:Below wa.heap.size wa (wa.alloc (.cells #[.int .i64 (x:Int)] 3)):=bel;have d1:=hI ((a8.out.below f0).keep d9 fun z e=>by subst e;exact⟨by omega,by omega,by omega⟩);have o4:=hI ((d9.block ba (by simp;omega) (Ne.symm k4)).trans ((f0.block ba (by omega)).trans j6.out))
         have r7:=hI ((d9.block xb (by simp;omega) (by
          obtain⟨_,_,_,cur,g0,_⟩:=b1.out.block;intro e;rw[←e,f6.out]at g0;cases g0)).trans ((f0.block xb i0).trans f6.out))
         have r9:g8≠ba:=by
          rcases d3 with h|h
          ·have:g8=go':=by injection h
           omega
          ·have:g8=wa.heap.size+1:=by injection h
           omega
         clear a6 hg d3 d9 f0;have ccx:=d1.out.cx;have ccd:=d1.out.cd g7;have ccf:=d1.out.fz x;have ccx0:=Ad (j:=0) r7.out rfl;have j5:ba≠gd:=fun e=>by omega
         have b4:=hI (d1.out.set f2 (by omega) (g:=fun v=>Bn (Kb D' x (dAt+l) v)) (x:=((dAt+l:Nat):Int)) (by show Bn (Kb D' x (dAt+l) x)=_;rw[Du];rfl) fun v _ hv=>by show Bn (Kb D' x (dAt+l) v)=_;rw[Dv _ _ hv])
         have d5:=hI (b9.out.heap (w':=wb.setCell ⟨gd,x,none⟩ (.int .i64 ((dAt+l:Nat):Int))) (Below.heap_setCell _ _ _ _ (by show g8≠gd;omega)));have b8:=hI ((Below.heap_setCell wb ⟨gd,x,none⟩ (.int .i64 ((dAt+l:Nat):Int)) ba j5).trans o4.out);clear o4 b9 d1;go_wp2_with fail
         go_roundw
         case rel=>exact⟨j+1,_,_,g8,c8,by first|rfl|(simp;done),by omega,r9,by first|rfl|(simp;done),by rw[g5.out];exact d6.out,a3.out,by first|exact b4.out|simpa using b4.out,by first|exact d5.out|simpa using d5.out,by first|exact b8.out|simpa using b8.out⟩
         case measure=>simp[intOf];omega
       |some dx=>
        rw[hD]at a1 a0 cdx;dsimp only at a1 a0;simp only[Bn]at cdx;by_cases hle:dx<=dAt+l
        ·rw[if_pos hle]at a1 a0;have d6:=hI a1;have a3:=hI a0;clear a1 a0 hD;have g9:(dx:Int)<=(dAt:Int)+(l:Int):=by omega
         have k3:¬(dx:Int)<0:=by omega
         go_wp2_with fail
         go_roundw
         case rel=>exact⟨j+1,_,_,go',co',by first|rfl|(simp;done),by omega,k4,by first|rfl|(simp;done),by rw[g5.out];exact d6.out,a3.out,a8.out,b1.out,j6.out⟩
         case measure=>simp[intOf];omega
        ·rw[if_neg hle]at a1 a0;have d6:=hI a1;have a3:=hI a0;clear a1 a0 hD;have g9:¬(dx:Int)<=(dAt:Int)+(l:Int):=by omega
         have k3:¬(dx:Int)<0:=by omega
         have j5:ba≠gd:=fun e=>by omega
         have g0:go'≠gd:=by have:=b1.out.block.1;omega
         have b4:=hI (a8.out.set f2 (by omega) (g:=fun v=>Bn (Kb D' x (dAt+l) v)) (x:=((dAt+l:Nat):Int)) (by show Bn (Kb D' x (dAt+l) x)=_;rw[Du];rfl) fun v _ hv=>by show Bn (Kb D' x (dAt+l) v)=_;rw[Dv _ _ hv])
         have d5:=hI (b1.out.heap (w':=wa.setCell ⟨gd,x,none⟩ (.int .i64 ((dAt+l:Nat):Int))) (Below.heap_setCell _ _ _ _ g0));have b8:=hI ((Below.heap_setCell wa ⟨gd,x,none⟩ (.int .i64 ((dAt+l:Nat):Int)) ba j5).trans j6.out);go_wp2_with fail
         go_roundw
         case rel=>exact⟨j+1,_,_,go',co',by first|rfl|(simp;done),by omega,k4,by first|rfl|(simp;done),by rw[g5.out];exact d6.out,a3.out,by first|exact b4.out|simpa using b4.out,by first|exact d5.out|simpa using d5.out,by first|exact b8.out|simpa using b8.out⟩
         case measure=>simp[intOf];omega
      ·obtain rfl:j=me:=by omega
       go_wp2_with fail
       have j7:Dij (wtN rs) a D' op':=g4.out.done_ fun v l hv=>by
        have h1:=o8.out.mem_iff.2 ((Sh HM.out.ok).2 hv);rw[List.take_of_length_le (by rw[Gj.len j9.out];exact rr)];exact h1
       go_roundg m
       case measure=>omega
       case rel=>exact⟨D',op',go',co',by first|rfl|(simp;done),by omega,j7,k8.out,d2.out,j2.out⟩
def Mh (n:Nat)(rs:List Bk)(x y:Int):Option Nat:=if(0<=x/\x<n)/\0<=y/\y<n then F8 n rs x.toNat y.toNat else none
theorem Al9 (b n:Nat)(rs:List Bk)(x y:Int)(w:World)(hm:Dr w b n rs):
  Calls Tryz.prog 21 #[.pointer (some ⟨b,0,none⟩), .int .i64 x, .int .i64 y] w fun e w'=>e= .returned (.tuple #[.int .i64 (((Mh n rs x y).getD 0:Nat):Int), .bool (Mh n rs x y).isSome])/\Below w.heap.size w w':=by
 obtain⟨An,cn,mb,Ar,cr,Aq,cq,c0,c1,c2,c3⟩:=hm.cells;have HM:=hI hm;have a8:=hm.lt;clear hm c1 c2 c3;have a3:=hI c0;clear c0;go_enter Tryz.func21,Tryz.ntmps21;go_wp2_with fail;refine(Ahs b An n cn x w a3.out).mono ?_;rintro e w1 ⟨rfl,a5⟩;have a0:=hI a5;clear a5;by_cases hx:0<=x/\x<(n:Int)
 ·rw[decide_eq_true hx];go_wp2_with fail;refine(Ahs b An n cn y w1 ((a0.out.cell (p:=⟨b,0,none⟩) a8).trans a3.out)).mono ?_;rintro e w2 ⟨rfl,a4⟩;have a1:=hI (a0.out.trans (a4.mono a0.out.size));clear a4 a0;by_cases hy:0<=y/\y<(n:Int)
  ·rw[decide_eq_true hy];obtain⟨xn,rfl⟩:∃xn:Nat,x=xn:=⟨x.toNat,by omega⟩;obtain⟨yn,rfl⟩:∃yn:Nat,y=yn:=⟨y.toNat,by omega⟩;have HD:Hid (Mh n rs xn yn=F8 n rs xn yn):=by show _=_;unfold Mh;rw[if_pos ⟨hx,hy⟩];rfl
   have a7:yn<n:=by omega
   have a9:(yn:Int)<(n:Int):=hy.2;go_wp2_with fail;refine(Al8 b n rs xn w2 (HM.out.below a1.out) (by omega)).mono ?_;rintro e w3 ⟨g,rfl,hg,a6⟩;have a2:=hI (a1.out.trans (a6.mono a1.out.size));have hc:=Hk hg a7;clear a6 hg a1 hx hy;obtain⟨o,ho⟩:∃o,o=F8 n rs xn yn:=⟨_,rfl⟩;have HO:Hid (Mh n rs xn yn=o):=HD.out.trans ho.symm;rw[←ho]at hc;clear ho
   cases o with
   |none=>
    simp only[Bn]at hc;go_wp2
    go_ret2
    exact⟨by rw[HO.out];rfl,a2.out⟩
   |some d=>
    simp only[Bn]at hc;go_wp2
    go_ret2
    exact⟨by rw[HO.out];simp,a2.out⟩
  ·have HD:Hid (Mh n rs x y=none):=by show _=_;unfold Mh;rw[if_neg (fun h=>hy h.2)]
   rw[decide_eq_false hy];clear hx hy;go_wp2
   go_ret2
   exact⟨by rw[HD.out];rfl,a1.out⟩
 ·have HD:Hid (Mh n rs x y=none):=by show _=_;unfold Mh;rw[if_neg (fun h=>hx h.1)]
  rw[decide_eq_false hx];clear hx;go_wp2
  go_ret2
  exact⟨by rw[HD.out];rfl,a0.out⟩
end Go.Proofs.YtaglfmlgbcmakaaGreatDoor
namespace Go.Proofs.YtaglfmlgbcmakaaGreatDoor
open Go.RowKit
def Dj (done:List ByteArray):List ByteArray->Int
 |[]=>0
 |s::ss=>if Dg s=false then 15 else if done.any (fun x=>decide (x=s))then 6 else Dj (done++[s]) ss
def Ed (names:List ByteArray)(roads:List Ep):Int:=
 if 128<names.length\/512<roads.length then 12 else if Dj [] names≠0 then Dj [] names else Da names.length [] roads
end Go.Proofs.YtaglfmlgbcmakaaGreatDoor
namespace Go.Proofs.YtaglfmlgbcmakaaGreatDoor
open Go.RowKit Go.Sort
section
variable {α:Type} [Inhabited α]
theorem Z6 {lt lt':α->α->Bool}(a:Nat):∀(j:Nat) (d:Array α),j<d.size->(∀k,k<j->lt d[j]! d[k]! =lt' d[j]! d[k]!)->insInner lt a j d=insInner lt' a j d
 |0,_,_,_=>rfl
 |j+1,d,hj,h=>by
  unfold insInner;rw[h j (by omega)];split
  ·refine Z6 a j _ (by rw[swp_size];omega) fun k hk=> ?_
   rw[swp_get d hj (by omega),swp_get d hj (by omega)];have h1:¬k=j:=by omega
   have h2:¬k=j+1:=by omega
   simp only[h1,h2,if_true,if_false];exact h k (by omega)
  ·rfl
theorem Z7 {lt:α->α->Bool}{S:α->Prop}(a:Nat):∀(j:Nat) (d:Array α),j<d.size->(∀k,k<=j->S d[k]!)->(∀k,k<=j->S (insInner lt a j d)[k]!)/\(∀k,j<k->(insInner lt a j d)[k]! =d[k]!)/\(insInner lt a j d).size=d.size
 |0,d,_,h=>⟨h,fun _ _=>rfl,rfl⟩
 |j+1,d,hj,h=>by
  unfold insInner;split
  ·obtain⟨h1,h2,h3⟩:=Z7 (lt:=lt) (S:=S) a j (swp d (j+1) j) (by rw[swp_size];omega) (fun k hk=>by
    rw[swp_get d hj (by omega)];split
    ·exact h _ (by omega)
    ·split
     ·exact h _ (by omega)
     ·exact h _ (by omega))
   refine⟨fun k hk=> ?_,fun k hk=> ?_,by rw[h3,swp_size]⟩
   ·by_cases e:k<=j
    ·exact h1 k e
    ·rw[h2 k (by omega),swp_get d hj (by omega)];split
     ·exact h _ (by omega)
     ·split
      ·exact h _ (by omega)
      ·exact h _ (by omega)
   ·rw[h2 k (by omega),swp_get d hj (by omega),if_neg (by omega),if_neg (by omega)]
  ·exact⟨h,fun _ _=>rfl,rfl⟩
theorem Z8 {lt lt':α->α->Bool}{d0:Array α}(a b:Nat)(hb:b<=d0.size)(H:∀i k,k<i->i<b->lt d0[i]! d0[k]! =lt' d0[i]! d0[k]!):
  ∀(n i:Nat) (d:Array α),b-i=n->d.size=d0.size->(∀p,i<=p->d[p]! =d0[p]!)->(∀k,k<i→∃k',k'<i/\d[k]! =d0[k']!)->insOuter lt a b i d=insOuter lt' a b i d
 |0,i,d,hn,_,_,_=>by
  unfold insOuter;rw[if_neg (by omega),if_neg (by omega)]
 |n+1,i,d,hn,hs,hp,hk=>by
  have e:insInner lt a i d=insInner lt' a i d:=Z6 a i d (by omega) fun k hki=>by
   obtain⟨k',a0,e⟩:=hk k hki;rw[hp i rr,e];exact H i k' a0 (by omega)
  unfold insOuter;rw[if_pos (by omega),if_pos (by omega),e]
  obtain⟨h1,h2,h3⟩:=Z7 (lt:=lt') (S:=fun x=>∃k',k'<i+1/\x=d0[k']!) a i d (by omega) (fun k hki=>by
   rcases Nat.lt_or_ge k i with h|h
   ·obtain⟨k',a0,e⟩:=hk k h;exact⟨k',by omega,e⟩
   ·obtain rfl:k=i:=by omega
    exact⟨k,by omega,hp k rr⟩)
  exact Z8 a b hb H n (i+1) _ (by omega) (by rw[h3,hs]) (fun p hip=>by rw[h2 p (by omega)];exact hp p (by omega)) (fun k hki=>h1 k (by omega))
theorem Ae2 {lt lt':α->α->Bool}{d:Array α}(H:∀i k,k<i->i<d.size->lt d[i]! d[k]! =lt' d[i]! d[k]!):insertionSort lt d 0 d.size=insertionSort lt' d 0 d.size:=by
 unfold insertionSort;refine Z8 0 d.size rr H _ 1 d rfl rfl (fun _ _=>rfl) (fun k hk=>⟨k,hk,rfl⟩)
end
theorem Z9 {t:Nat->Option Nat}{rk:Nat->Int}(hr:∀i j,decide (rk i<rk j)=match t i,t j with|some x,some y=>decide (x<y)|some _,none=>true|none,_=>false)
  {p:Nat->Bool} {m:Nat} {d:Array Nat} (hd:d.toList=(List.range m).filter p):(insertionSort (fun i j=>decide (rk i<rk j)) d 0 d.size).toList=Fr (C0 t) p m:=by
 have a2:d.toList.Pairwise (fun a b=>a<b):=by rw[hd];exact(List.pairwise_lt_range (n:=m)).filter _
 have a4:∀i k,k<i->i<d.size->d[k]! <d[i]! :=fun i k hk hi=>by
  have:=List.pairwise_iff_getElem.1 a2 k i (by simpa using by omega) (by simpa using hi) hk
  rw[getElem!_pos d k (by omega),getElem!_pos d i hi];simpa using this
 have hw:∀i j:Nat,j<i->decide (rk i<rk j)=C0 t i j:=fun i j hji=>by
  rw[hr];unfold C0;cases t i<;>cases t j<;>simp<;>omega
 rw[Ae2 (lt':=C0 t) fun i k hk hi=>hw _ _ (a4 i k hk hi)]
 have hS:=Cr t
 have a1:SWO (C0 t):=⟨hS.irr,hS.tr,fun x y z h1 h2=>by
  cases h:C0 t x z with
  |false=>rfl
  |true=>
   cases h3:C0 t y x with
   |false=>have:=hS.tot x y h1 h3;subst this;rw[h]at h2;cases h2
   |true=>have:=hS.tr y x z h3 h;rw[this]at h2;cases h2⟩
 obtain⟨⟨h1,_,h3⟩,h4⟩:=insertionSort_holds a1 d 0 d.size (Nat.zero_le _) rr;generalize insertionSort (C0 t) d 0 d.size=d' at h1 h3 h4
 have a0:d'.toList.Perm d.toList:=by
  have e1:(d'.extract 0 d.size).toList=d'.toList:=by rw[←h1];simp
  have e2:(d.extract 0 d.size).toList=d.toList:=by simp
  rw[e1,e2]at h3;exact h3
 have a8:d'.toList.Nodup:=a0.nodup_iff.2 (a2.imp fun h=>by omega);refine Ng hS p m ?_ fun i=>by rw[a0.mem_iff,hd,List.mem_filter,List.mem_range]
 rw[List.pairwise_iff_getElem];intro i j hi hj a3;have a7:i<d'.size:=by simpa using hi
 have a5:j<d'.size:=by simpa using hj
 have h5:=h4 i j (Nat.zero_le _) a3 (by omega);rw[getElem!_pos d' i a7,getElem!_pos d' j a5]at h5;have a6:d'.toList[i]≠d'.toList[j]:=List.pairwise_iff_getElem.1 a8 i j hi hj a3
 cases h6:C0 t d'.toList[i] d'.toList[j]with
 |true=>rfl
 |false=>exact absurd (hS.tot _ _ h6 (by simpa using h5)) a6
end Go.Proofs.YtaglfmlgbcmakaaGreatDoor
namespace Go.Proofs.YtaglfmlgbcmakaaGreatDoor
open Go.RowKit
structure Ef where
 law:Int
 at_:List Int
 time:Int
 slow:Int
 fin:Int
def Gs (n:Nat)(done:List Int):List Int->Int
 |[]=>0
 |a::rr1=>if a<0\/(n:Int)<=a then 3 else if done.any (fun b=>decide (b=a))then 6 else Gs n (done++[a]) rr1
def Em (n:Nat)(x:Ef):Int:=if Gs n [] x.at_≠0 then Gs n [] x.at_ else if min x.time x.slow<0\/1073741824<max x.time x.slow then 2 else 0
def Ey (n m:Nat):List Ef->Int
 |[]=>0
 |x::xs=>if x.law<0\/(m:Int)<=x.law then 3 else if Em n x≠0 then Em n x else Ey n m xs
def Dy (n:Nat)(ls:List Bi)(ws:List Ef):Int:=if n=0 then 1 else if C8 ls≠0 then C8 ls else if 64<ws.length then 12 else Ey n ls.length ws
def Ai9 (n:Nat)(rs:List Bk)(x:Ef)(a:Nat):Option Nat:=Kl (x.at_.map fun b=>F8 n rs a b.toNat)
def Gd (n:Nat)(rs:List Bk)(x:Ef)(a:Nat):Option Nat:=Gf (Ai9 n rs x a) x.time.toNat x.slow.toNat x.fin
def Jj (n:Nat)(rs:List Bk)(x:Ef):Int×List Int:=if n=0 then(1,[])else if Em n x≠0 then(Em n x,[])else(0,(List.range n).map fun a=>Bn (Gd n rs x a))
def tAt (n:Nat)(rs:List Bk)(ws:List Ef)(a i:Nat):Option Nat:=(ws[i]?).bind fun x=>Gd n rs x a
def Gt (now:Int):Option Nat->Bool
 |none=>false
 |some t=>decide ((t:Int)<=now)
def Lx (n:Nat)(rs:List Bk)(ws:List Ef)(a:Nat)(now:Int):List Nat:=Fr (C0 (tAt n rs ws a)) (fun i=>Gt now (tAt n rs ws a i)) ws.length
def Rw (ws:List Ef)(i:Nat):Int:=((ws[i]?).map Ef.law).getD 0
def Jd (n:Nat)(rs:List Bk)(ws:List Ef)(a:Nat)(now:Int):List Int:=(Lx n rs ws a now).map (Rw ws)
def Qa (n:Nat)(rs:List Bk)(ls:List Bi)(ws:List Ef)(a now:Int):Int×List Int:=
 if Dy n ls ws≠0 then(Dy n ls ws,[])else if a<0\/(n:Int)<=a then(3,[])else(0,Jd n rs ws a.toNat now)
def En (ls:List Bi)(on:List Int):List Bi:=on.filterMap fun i=>ls[i.toNat]?
def Ra (n:Nat)(rs:List Bk)(ls:List Bi)(ws:List Ef)(w:List Snd)(now:Int)(a:Nat):Int×List Snd:=Bz (En ls (Jd n rs ws a now)) w
def Fb (f:Nat->Int×List Snd)(done:List (List Snd)):List Nat->Int×List (List Snd)
 |[]=>(0,done)
 |a::rr1=>if(f a).1≠0 then((f a).1,[])else Fb f (done++[(f a).2]) rr1
def Bp (n:Nat)(rs:List Bk)(ls:List Bi)(ws:List Ef)(w:List Snd)(now:Int):Int×List (List Snd):=
 if Dy n ls ws≠0 then(Dy n ls ws,[])else if B4 w≠0 then(B4 w,[])else Fb (Ra n rs ls ws w now) [] (List.range n)
def Dd (fs:List (List Snd))(x:List Snd):Int:=match fs.findIdx? (fun y=>decide (x=y))with
 |some k=>k
 |none=> -1
def Hs (n:Nat)(rs:List Bk)(ls:List Bi)(ws:List Ef)(w:List Snd)(now:Int):Int×List Int:=
 if(Bp n rs ls ws w now).1≠0 then((Bp n rs ls ws w now).1,[])else(0,(Bp n rs ls ws w now).2.map (Dd (Bp n rs ls ws w now).2))
def Acj (n:Nat)(rs:List Bk)(ws:List Ef)(i j a:Nat):Bool:=(tAt n rs ws a i).isSome && C0 (tAt n rs ws a) i j
def Ha (n:Nat)(rs:List Bk)(ls:List Bi)(ws:List Ef)(i j:Int):Int×List Int:=
 if Dy n ls ws≠0 then(Dy n ls ws,[])else if min i j<0\/(ws.length:Int)<=max i j then(3,[])else
  (0,((List.range n).filter (Acj n rs ws i.toNat j.toNat)).map fun(a:Nat)=>(a:Int))
-- what is allowed
theorem Alp {n:Nat}:∀{rr1 done:List Int},Gs n done rr1=0→∀a∈rr1,0<=a/\a<n
 |[],_,_,a,ha=>by cases ha
 |b::bs,done,h,a,ha=>by
  unfold Gs at h;by_cases h1:b<0\/(n:Int)<=b
  ·rw[if_pos h1]at h;cases h
  rw[if_neg h1]at h;by_cases h2:done.any (fun x=>decide (x=b))=true
  ·rw[if_pos h2]at h;cases h
  rw[if_neg h2]at h;rcases List.mem_cons.1 ha with e|ha
  ·subst e;omega
  ·exact Alp h a ha
theorem Aja {n:Nat}{x:Ef}(h:Em n x=0):(∀a∈x.at_,0<=a/\a<n)/\0<=x.time/\x.time<=1073741824/\0<=x.slow/\x.slow<=1073741824:=by
 unfold Em at h;by_cases h1:Gs n [] x.at_≠0
 ·rw[if_pos h1]at h;exact absurd h h1
 rw[if_neg h1]at h;by_cases h2:min x.time x.slow<0\/1073741824<max x.time x.slow
 ·rw[if_pos h2]at h;cases h
 exact⟨Alp (by simpa using h1),by omega,by omega,by omega,by omega⟩
theorem Ade {n m:Nat}:∀{ws:List Ef},Ey n m ws=0→∀x∈ws,0<=x.law/\x.law<m/\Em n x=0
 |[],_,x,hx=>by cases hx
 |y::ys,h,x,hx=>by
  unfold Ey at h;by_cases h1:y.law<0\/(m:Int)<=y.law
  ·rw[if_pos h1]at h;cases h
  rw[if_neg h1]at h;by_cases h2:Em n y≠0
  ·rw[if_pos h2]at h;exact absurd h h2
  rw[if_neg h2]at h;rcases List.mem_cons.1 hx with e|hx
  ·subst e;exact⟨by omega,by omega,by simpa using h2⟩
  ·exact Ade h x hx
theorem F1 {n:Nat}{ls:List Bi}{ws:List Ef}(h:Dy n ls ws=0):0<n/\C8 ls=0/\ws.length<=64∧∀x∈ws,0<=x.law/\x.law<ls.length/\Em n x=0:=by
 unfold Dy at h;by_cases h1:n=0
 ·rw[if_pos h1]at h;cases h
 rw[if_neg h1]at h;by_cases h2:C8 ls≠0
 ·rw[if_pos h2]at h;exact absurd h h2
 rw[if_neg h2]at h;by_cases h3:64<ws.length
 ·rw[if_pos h3]at h;cases h
 rw[if_neg h3]at h;exact⟨by omega,by simpa using h2,by omega,Ade h⟩
theorem Aah {n:Nat}{rs:List Bk}{ws:List Ef}{a i t:Nat}(h:tAt n rs ws a i=some t):∃x,ws[i]? =some x/\Gd n rs x a=some t:=by
 unfold tAt at h
 cases hx:ws[i]? with
 |none=>rw[hx]at h;cases h
 |some x=>rw[hx]at h;exact⟨x,rfl,h⟩
theorem Wc {o:Option Nat}{T S:Nat}{U:Int}{t:Nat}(h:Gf o T S U=some t):t<=9223372036854775807/\(t:Int)<U/\T<=t:=by
 unfold Gf at h
 cases o with
 |none=>cases h
 |some d=>
  dsimp only at h;split at h
  ·cases h
  ·split at h
   ·cases h
   ·obtain rfl:T+S*d=t:=by simpa using h
    exact⟨by omega,by omega,by omega⟩
-- how long the shortest ways are
theorem Ae4 {n:Nat}{rs:List Bk}(h:Cv n rs)(a b:Nat):F8 n rs a b=F8 n rs b a:=
 Ri (Wu h a b) ((Wu h b a).rev (Aj7 rs))
-- lines that grow
theorem K8 {lt:Nat->Nat->Bool}(h:J7 lt)(p:Nat->Bool)(m:Nat):(Fr lt p m).length=((List.range m).filter p).length:=by
 refine List.Perm.length_eq ((List.perm_ext_iff_of_nodup ?_ ?_).2 fun i=> ?_)
 ·exact(Kq h p m).imp fun{a b} hab e=>by subst e;rw[h.irr]at hab;cases hab
 ·exact(List.nodup_range (n:=m)).filter _
 ·rw[Fs h,List.mem_filter,List.mem_range]
-- lists of points gone over
end Go.Proofs.YtaglfmlgbcmakaaGreatDoor
namespace Go.Proofs.YtaglfmlgbcmakaaGreatDoor
open Go.RowKit Go.Shelf
structure Cs where
 d:Ef
 A:Option Addr
 n:Nat
 c:Nat
def Cs.cells (x:Cs):List Value:=[.int .i64 x.d.law, .slice x.A x.n x.c, .int .i64 x.d.time, .int .i64 x.d.slow, .int .i64 x.d.fin]
theorem Cs.len (x:Cs):x.cells.length=5:=rfl
abbrev Yt (x:Cs):Value:= .agg #[.int .i64 x.d.law, .slice x.A x.n x.c, .int .i64 x.d.time, .int .i64 x.d.slow, .int .i64 x.d.fin]
structure Agv (x:Ef):Prop where
 law: -9223372036854775808<=x.law/\x.law<=9223372036854775807
 time: -9223372036854775808<=x.time/\x.time<=9223372036854775807
 slow: -9223372036854775808<=x.slow/\x.slow<=9223372036854775807
 fin: -9223372036854775808<=x.fin/\x.fin<=9223372036854775807
 at_:∀a∈x.at_, -9223372036854775808<=a/\a<=9223372036854775807
structure Js (w:World)(x:Cs):Prop where
 pts:Ci w x.A x.n x.c x.d.at_
 u:Agv x.d
def Cm (w:World)(A:Option Addr)(n c:Nat)(ys:List Cs):Prop:=Eb Cs.cells 5 w A n c ys∧∀y∈ys,Js w y
def Aj (ys:List Cs):List Ef:=ys.map Cs.d
section
variable {w w':World}{A:Option Addr}{n c:Nat}{ys:List Cs}
theorem Js.below {x:Cs}(h:Js w x)(hb:Below w.heap.size w w'):Js w' x:=⟨Az.below h.pts hb rr,h.u⟩
theorem Cm.below (h:Cm w A n c ys)(hb:Below w.heap.size w w'):Cm w' A n c ys:=⟨h.1.below hb rr,fun y hy=>(h.2 y hy).below hb⟩
theorem Cm.len (h:Cm w A n c ys):ys.length=n:=h.1.2
theorem Cm.max (h:Cm w A n c ys):n<=c/\c<=9223372036854775807:=by have h1:=h.1.1.2.1;have h2:=h.1.1.2.2.1;unfold maxLen at h2;omega
theorem Cm.at_ (h:Cm w A n c ys){k:Nat}{x:Cs}(hx:ys[k]? =some x):∃b off,A=some ⟨b,off,none⟩/\b<w.heap.size/\Js w x∧
  w.cell? ⟨b,off+k*5,none⟩=some (.int .i64 x.d.law)/\w.cell? ⟨b,off+k*5+1,none⟩=some (.slice x.A x.n x.c)/\w.cell? ⟨b,off+k*5+2,none⟩=some (.int .i64 x.d.time)/\w.cell? ⟨b,off+k*5+3,none⟩=some (.int .i64 x.d.slow)/\w.cell? ⟨b,off+k*5+4,none⟩=some (.int .i64 x.d.fin):=by
 obtain⟨b,off,hA,hb,hc⟩:=h.1.at_ Cs.len (by decide) hx;refine⟨b,off,hA,hb,h.2 x (List.mem_of_getElem? hx), ?_⟩;simp only[Nat.add_assoc];exact⟨hc 0 _ rfl,hc 1 _ rfl,hc 2 _ rfl,hc 3 _ rfl,hc 4 _ rfl⟩
theorem Cm.get (h:Cm w A n c ys){k:Nat}(hk:k<n):∃x,ys[k]? =some x:=⟨ys[k]'(by rw[h.len];exact hk),List.getElem?_eq_getElem _⟩
end
theorem Ry (l:List (Option Nat))(o:Option Nat):Kl (l++[o])=N5 (Kl l) o:=by
 unfold Kl;rw[List.foldl_append];rfl
theorem Ak9 (b n:Nat)(rs:List Bk)(x:Cs)(a:Nat)(w:World)(hm:Dr w b n rs)(hx:Js w x)(h1:Em n x.d=0)(ha:a<n):
  Calls Tryz.prog 62 #[Yt x, .pointer (some ⟨b,0,none⟩), .int .i64 (a:Int)] w fun e w'=>e= .returned (.int .i64 (Bn (Gd n rs x.d a)))/\Below w.heap.size w w':=by
 obtain⟨a0,hu⟩:=hx;obtain⟨a8,b8,d7,b5,d8⟩:=Aja h1;obtain⟨⟨law,ps,time,slow,fin⟩,Aw,nw,cw⟩:=x;obtain⟨T,rfl⟩:∃T:Nat,time=T:=⟨time.toNat,by simp only at b8;omega⟩;obtain⟨S,rfl⟩:∃S:Nat,slow=S:=⟨slow.toNat,by simp only at b5;omega⟩;have a9:=hu.fin;simp only at a0 a8 d7 d8 a9;have HP:=hI a0;have d4:=hI a8;have HM:=hI hm;have d2:nw<=9223372036854775807:=by have h1:=a0.2.1;have h2:=a0.2.2.1;unfold maxLen at h2;omega
 have a4:ps.length=nw:=by have:=a0.1;simpa using this
 have HL:=hI a4;clear a0 a8 hu h1 hm b8 b5 a4;have kb:(w.alloc (.cells #[.int .i64 law, .slice Aw nw cw, .int .i64 (T:Int), .int .i64 (S:Int), .int .i64 fin] 38)).heap[w.heap.size]? =some (.cells #[.int .i64 law, .slice Aw nw cw, .int .i64 (T:Int), .int .i64 (S:Int), .int .i64 fin] 38 (0,0)):=hpt;have kB:Below w.heap.size w (w.alloc (.cells #[.int .i64 law, .slice Aw nw cw, .int .i64 (T:Int), .int .i64 (S:Int), .int .i64 fin] 38)):=bel;go_enter Tryz.func62,Tryz.ntmps62;go_wp2_with fail;obtain⟨f,hf⟩:∃f:Int->Option Nat,f=fun b=>F8 n rs a b.toNat:=⟨_,rfl⟩
 have HF:=hI hf;obtain⟨B0,b0⟩:∃B0,B0=w.heap.size:=⟨_,rfl⟩;rw[←b0]at kb ⊢;have b6:=hI kb;have b3:=hI kB;have g1:w.heap.size<=B0:=Nat.le_of_eq b0.symm;generalize w.alloc (.cells #[.int .i64 law, .slice Aw nw cw, .int .i64 (T:Int), .int .i64 (S:Int), .int .i64 fin] 38)=W0 at*;clear b0 kb kB hf
 go_loopw [7,15] (fun s7 i wr=>∃k:Nat,k<=nw/\i= .int .i64 (k:Int)/\s7= .int .i64 (Bn (Kl ((ps.take k).map f)))/\Hid (wr.heap[B0]? =some (.cells #[.int .i64 law, .slice Aw nw cw, .int .i64 (T:Int), .int .i64 (S:Int), .int .i64 fin] 38 (0,0)))/\Hid (Below w.heap.size w wr)) (fun _ i _=>nw-(intOf i).toNat)
 case atStart=>exact⟨0,Nat.zero_le _,rfl,by simp[Kl,Bn],b6.out,b3.out⟩
 case round=>
  obtain⟨k,hk,rfl,rfl,HK,HB⟩:=hrel;clear b6 b3;obtain⟨o0,a3⟩:∃o0,o0=Kl ((ps.take k).map f):=⟨_,rfl⟩;rw[←a3];by_cases hlt:k<nw
  ·have f8:(k:Int)<(nw:Int):=by omega
   obtain⟨pb,po,v,hA,d0,hv,f2⟩:=(HP.out.below HB.out rr:Az wr Aw nw cw 1 (ps.map (Value.int .i64))).at1 hlt;subst hA;obtain⟨p,hp⟩:∃p,ps[k]? =some p:=⟨ps[k]'(by rw[HL.out];exact hlt),List.getElem?_eq_getElem _⟩;obtain rfl:v= .int .i64 p:=by rw[List.getElem?_map,hp]at hv;simpa using hv.symm
   have a2:=d4.out p (List.mem_of_getElem? hp);have d3:Hid (ps.take (k+1)=ps.take k++[p]):=Bd ps k p hp
   have b7:Mh n rs (a:Int) p=f p:=by
    unfold Mh;rw[if_pos ⟨⟨by omega,by omega⟩,a2.1,a2.2⟩,HF.out];rfl
   have f4:=hI b7;have f0:=hI a3;clear hv hp b7 a3 a2;go_wp2_with fail;refine(Al9 b n rs (a:Int) p wr (HM.out.below HB.out)).mono ?_;rw[f4.out];obtain⟨o,ho⟩:∃o,o=f p:=⟨_,rfl⟩
   have a7:Hid (Kl ((ps.take (k+1)).map f)=N5 o0 o):=by
    show _=_;rw[d3.out,List.map_append,List.map_singleton,Ry,ho,f0.out]
   rw[←ho];rintro e w1 ⟨rfl,b1⟩;have a6:=hI (HB.out.trans (b1.mono HB.out.size));have a5:=hI ((b1.block B0 (lt_of_block HK.out)).trans HK.out);clear b1 HB HK ho f2 d0
   cases o with
   |none=>
    go_wp2_with fail
    go_roundw
    case rel=>exact⟨k+1,by omega,by simp,by rw[a7.out,Q8],a5.out,a6.out⟩
    case measure=>simp[intOf];omega
   |some d=>
    cases o0 with
    |none=>
     simp only[Bn,Option.getD_some,Option.isSome_some];go_wp2_with fail
     go_roundw
     case rel=>exact⟨k+1,by omega,by simp,by rw[a7.out];rfl,a5.out,a6.out⟩
     case measure=>simp[intOf];omega
    |some e0=>
     simp only[Bn,Option.getD_some,Option.isSome_some];have f3:¬(e0:Int)<0:=by omega
     by_cases hde:d<e0
     ·have b2:(d:Int)<(e0:Int):=by omega
      go_wp2_with fail
      go_roundw
      case rel=>exact⟨k+1,by omega,by simp,by rw[a7.out,Sp,if_pos hde];rfl,a5.out,a6.out⟩
      case measure=>simp[intOf];omega
     ·have b2:¬(d:Int)<(e0:Int):=by omega
      go_wp2_with fail
      go_roundw
      case rel=>exact⟨k+1,by omega,by simp,by rw[a7.out,Sp,if_neg hde];rfl,a5.out,a6.out⟩
      case measure=>simp[intOf];omega
  ·obtain rfl:k=nw:=by omega
   have HN:Hid (Gd n rs ⟨law,ps,T,S,fin⟩ a=Gf o0 T S fin):=by
    show _=_;unfold Gd Ai9;rw[←HF.out,a3,List.take_of_length_le (by rw[HL.out];exact rr)];rfl
   have c2:=Ad (j:=2) HK.out rfl;have c3:=Ad (j:=3) HK.out rfl;have c4:=Ad (j:=4) HK.out rfl;clear a3
   cases o0 with
   |none=>
    simp only[Bn];go_wp2;go_ret;exact⟨by rw[HN.out];rfl,HB.out⟩
   |some d=>
    simp only[Bn];have f3:¬(d:Int)<0:=by omega
    go_upto_region 11 with fail
    go_cut [41]from 42 to 53 (fun s41 wx=>s41= .bool (decide (9223372036854775807<T+S*d))/\wx=wr.drew)
    case first=>
     by_cases hd0:d=0
     ·subst hd0;have hS:wr.cell? ⟨B0,3,none⟩=some (.int .i64 (S:Int))/\wr.cell? ⟨B0,2,none⟩=some (.int .i64 (T:Int)):=⟨c3,c2⟩;refine Bg (fun W'=>W'.cell? ⟨B0,3,none⟩=some (.int .i64 (S:Int))/\W'.cell? ⟨B0,2,none⟩=some (.int .i64 (T:Int))) (by kernel_rfl) hS (fun hHeld=> ?_);clear hS;have hS:=hHeld
      (refine' Ae 0 rfl ?_;(try simp only[Act.put,nY,nX]));(refine' Ae 1 rfl ?_;(try simp only[Act.put,nY,nX]));(refine' Ae 2 rfl ?_;(try simp only[Act.put,nY,nX]))
      refine' Ch (i:=3) (v:=undef) rfl (by as_aux_lemma=>kernel_rfl) (by as_aux_lemma=>kernel_rfl) (by as_aux_lemma=>kernel_rfl) (by as_aux_lemma=>kernel_rfl) (fun _ _ _ h=>h) (Or.inr ⟨by as_aux_lemma=>kernel_rfl,rfl⟩) hS ?_
      (try simp only[Act.put,nY,nX])
      refine' Ch (i:=4) (v:=undef) rfl (by as_aux_lemma=>kernel_rfl) (by as_aux_lemma=>kernel_rfl) (by as_aux_lemma=>kernel_rfl) (by as_aux_lemma=>kernel_rfl) (fun _ _ _ h=>h) (Or.inr ⟨by as_aux_lemma=>kernel_rfl,rfl⟩) hS ?_
      (try simp only[Act.put,nY,nX])
      refine' Ch (i:=5) (v:=undef) rfl (by as_aux_lemma=>kernel_rfl) (by as_aux_lemma=>kernel_rfl) (by as_aux_lemma=>kernel_rfl) (by as_aux_lemma=>kernel_rfl) (fun _ _ _ h=>h) (Or.inr ⟨by as_aux_lemma=>kernel_rfl,rfl⟩) hS ?_
      (try simp only[Act.put,nY,nX])
      refine' Ch (i:=6) (v:=undef) rfl (by as_aux_lemma=>kernel_rfl) (by as_aux_lemma=>kernel_rfl) (by as_aux_lemma=>kernel_rfl) (by as_aux_lemma=>kernel_rfl) (fun _ _ _ h=>h) (Or.inr ⟨by as_aux_lemma=>kernel_rfl,rfl⟩) hS ?_
      (try simp only[Act.put,nY,nX])
      refine' Ch (i:=7) (v:=undef) rfl (by as_aux_lemma=>kernel_rfl) (by as_aux_lemma=>kernel_rfl) (by as_aux_lemma=>kernel_rfl) (by as_aux_lemma=>kernel_rfl) (fun _ _ _ h=>h) (Or.inr ⟨by as_aux_lemma=>kernel_rfl,rfl⟩) hS ?_
      (try simp only[Act.put,nY,nX])
      refine' Ch (i:=8) (v:=undef) rfl (by as_aux_lemma=>kernel_rfl) (by as_aux_lemma=>kernel_rfl) (by as_aux_lemma=>kernel_rfl) (by as_aux_lemma=>kernel_rfl) (fun _ _ _ h=>h) (Or.inr ⟨by as_aux_lemma=>kernel_rfl,rfl⟩) hS ?_
      (try simp only[Act.put,nY,nX])
      refine' Ch (i:=9) (v:=undef) rfl (by as_aux_lemma=>kernel_rfl) (by as_aux_lemma=>kernel_rfl) (by as_aux_lemma=>kernel_rfl) (by as_aux_lemma=>kernel_rfl) (fun _ _ _ h=>h) (Or.inr ⟨by as_aux_lemma=>kernel_rfl,rfl⟩) hS ?_
      (try simp only[Act.put,nY,nX])
      refine' Ch (i:=10) (v:=undef) rfl (by as_aux_lemma=>kernel_rfl) (by as_aux_lemma=>kernel_rfl) (by as_aux_lemma=>kernel_rfl) (by as_aux_lemma=>kernel_rfl) (fun _ _ _ h=>h) (Or.inr ⟨by as_aux_lemma=>kernel_rfl,rfl⟩) hS ?_
      (try simp only[Act.put,nY,nX])
      (refine' Ae 11 rfl ?_;(try simp only[Act.put,nY,nX]))
      (refine Anv 12 rfl (fun K' hK'=> ?_);simp only[nY];go_simp)
      refine hK' _ _ ⟨.inl (by kernel_rfl),fun _=>Bf (by kernel_rfl) ?_ _⟩
      clear hK' K' hHeld hS;go_wp2_with fail;go_meet
      case rel=>exact⟨by rw[Nat.mul_zero];rw[decide_eq_false (by omega)],rfl⟩
     ·have f7:(0:Int)<(d:Int):=by omega
      have hS:wr.cell? ⟨B0,3,none⟩=some (.int .i64 (S:Int))/\wr.cell? ⟨B0,2,none⟩=some (.int .i64 (T:Int)):=⟨c3,c2⟩;refine Bg (fun W'=>W'.cell? ⟨B0,3,none⟩=some (.int .i64 (S:Int))/\W'.cell? ⟨B0,2,none⟩=some (.int .i64 (T:Int))) (by kernel_rfl) hS (fun hHeld=> ?_);clear hS
      (refine' Ae 0 rfl ?_;(try simp only[Act.put,nY,nX]));(refine' Ae 1 rfl ?_;(try simp only[Act.put,nY,nX]))
      rw[decide_eq_true (show 0<d by omega)];obtain⟨q,hq⟩:∃q:Nat,q=(9223372036854775807-T)/d:=⟨_,rfl⟩
      have d5:(9223372036854775807-(T:Int))/(d:Int)=(q:Int):=by
       rw[hq,show(9223372036854775807-(T:Int))=((9223372036854775807-T:Nat):Int)by omega];rfl
      have d1:Int.tdiv (9223372036854775807-(T:Int)) (d:Int)=(q:Int):=by rw[Int.tdiv_eq_ediv_of_nonneg (by omega)];exact d5
      have f9:¬d=0:=hd0;have g2:q<=9223372036854775807:=by rw[hq];exact Nat.le_trans (Nat.div_le_self _ _) (Nat.sub_le _ _)
      (refine' Ae 2 rfl ?_;(try simp only[Act.put,nY,nX]));(refine' Ae 3 rfl ?_;(try simp only[Act.put,nY,nX]));(refine' Ae 4 rfl ?_;(try simp only[Act.put,nY,nX]));(refine' Ae 5 rfl ?_;(try simp only[Act.put,nY,nX]));(refine' Ae 6 rfl ?_;(try simp only[Act.put,nY,nX]));(refine' Ae 7 rfl ?_;(try simp only[Act.put,nY,nX]));(refine' Ae 8 rfl ?_;(try simp only[Act.put,nY,nX]))
      have b4:(q<S)↔9223372036854775807<T+S*d:=by
       have:=Add (T:=T) (S:=S) (d:=d) (M:=9223372036854775807) (by omega)
       rw[hq,←this];exact⟨fun h=>⟨by omega,h⟩,fun h=>h.2⟩
      have f5:=hI b4;clear hq b4
      (refine' Ae 9 rfl ?_;(try simp only[Act.put,nY,nX]))
      rw[show IntKind.i64.wrap (9223372036854775807-(T:Int))=9223372036854775807-(T:Int)from IntWalk.i64_in _ (by omega),d1,show IntKind.i64.wrap (q:Int)=(q:Int)from IntWalk.i64_in _ (by omega)]
      (refine' Ae 10 rfl ?_;(try simp only[Act.put,nY,nX]));(refine' Ae 11 rfl ?_;(try simp only[Act.put,nY,nX]))
      (refine Anv 12 rfl (fun K' hK'=> ?_);simp only[nY];go_simp)
      refine hK' _ _ ⟨.inl (by kernel_rfl),fun _=>Bf (by kernel_rfl) ?_ _⟩
      clear hK' K' hHeld;go_wp2_with fail;go_meet
      case rel=>exact⟨by congr 1;exact decide_eq_decide.2 f5.out,rfl⟩
    case rest=>
     obtain⟨rfl,d9⟩:=hcut;obtain rfl:=d9;by_cases hbig:9223372036854775807<T+S*d
     ·rw[decide_eq_true hbig];go_wp2;go_ret;exact⟨by rw[HN.out];show _=Ending.returned (.int .i64 (Bn (if 9223372036854775807<T+S*d then none else _)));rw[if_pos hbig];rfl,HB.out.drew⟩
     ·rw[decide_eq_false hbig];have f1:(S:Int)*(d:Int)=((S*d:Nat):Int):=by simp
      have d6:S*d<=9223372036854775807:=by omega
      obtain⟨sd,a1⟩:∃sd,sd=S*d:=⟨_,rfl⟩;rw[←a1]at f1 d6 hbig;have g0:T+sd<=9223372036854775807:=by omega
      have f6:=hI a1;clear a1
      have HV:Hid (Gf (some d) T S fin=if fin<=(T:Int)+(sd:Int)then none else some (T+sd)):=by
       show(if 9223372036854775807<T+S*d then none else if fin<=((T+S*d:Nat):Int)then none else some (T+S*d))=_;rw[←f6.out,if_neg hbig];simp
      have b9:=hI HB.out.drew;by_cases hfi:fin<=(T:Int)+(sd:Int)
      ·go_wp2;go_ret;exact⟨by rw[HN.out,HV.out,if_pos hfi];rfl,b9.out⟩
      ·go_wp2;go_ret;exact⟨by rw[HN.out,HV.out,if_neg (by omega)];simp[Bn],b9.out⟩
end Go.Proofs.YtaglfmlgbcmakaaGreatDoor
