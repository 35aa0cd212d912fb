/-
  ablautlaw38.WaveDerives is true.
-/
import Derived.Test.YtaglfmlgbcmakaaGreatDoorH08
import Derived.Test.YtaglfmlgbcmakaaGreatDoorG37
set_option linter.all false
set_option maxRecDepth 100000
set_option maxHeartbeats 4000000
namespace Go.Proofs.YtaglfmlgbcmakaaGreatDoor
open Go.RowKit Go.Shelf
theorem Tz {o:Oper}{a:Act}{w:World}{K:Act->World->Prop}{Q:Exit->Act->World->Prop}(p:Operand)(ho:o.op= .buildSlice 26 1 #[(0,p)])(x:Bn)(hp:a.eval p=D8 x.l x.a)
  (h:K (a.put o.dst (.slice (some ⟨w.heap.size,0,none⟩) 1 1)) (w.alloc (.cells (x.cells).toArray 55))):o.wp Tryz.prog a w K Q:=by
 have hr:=P3 x w;unfold Oper.wp execOp;simp only[ho,List.map_toArray,List.map_cons,List.map_nil,hp,hr,Sem.run_bind,Sem.run_pure,Result.andThen_ok];exact h
theorem Kl {o:Oper}{a:Act}{w:World}{K:Act->World->Prop}{Q:Exit->Act->World->Prop}(s x:Operand)
  (ho:o.op= .call {callee:= .builtin .append,args:= #[s,x],argTypes:= #[26,26]})
  (base:Nat) (v:Value) (n:Nat) (xs:List Bn) (hs:a.eval s=v) (hown:w.ownsRow base 55 18 v n (xs.flatMap Bn.cells))
  (A:Option Addr) (m c:Nat) (ys:List Bn) (hx:a.eval x= .slice A m c) (hr:Du Bn.cells 18 w A m c ys) (hl:n+m<=4096) (hbase:base<=w.heap.size)
  (h:∀v' w',w'.ownsRow base 55 18 v' (n+m) ((xs++ys).flatMap Bn.cells)->w.grownBy w' v.ownBlock->(v'= .slice none 0 0↔v= .slice none 0 0/\m=0)->K (a.put o.dst v') w'):o.wp Tryz.prog a w K Q:=by
 obtain⟨i0,hi,a0,a2,a1⟩:=info_parts Vu
 refine Jr w s x 26 ho base 55 i0 _ 18 200 Tryz.underlying26 hi a0 a2 a1 Ta (by decide) v n _ hs hown A m c _ hx hr.1
  (Vv ys) (by unfold maxLen;omega) (by omega) hbase ?_
 rw[←List.flatMap_append];exact h
theorem S6 (x:EdR)(w:World)(hx:M5 w x)(hT:B9 w):Calls Tryz.prog 13 #[edV x] w (Ms w):=by
 have HX:=hI hx;have HT:=hI hT;clear hx hT;go_enter Tryz.func13,Tryz.ntmps13;have u5:Below w.heap.size w (w.alloc (.cells #[.slice x.An x.nn x.cn, .slice x.Ar x.nr x.cr, .slice x.Al x.nl x.cl, .slice x.Av x.nv x.cv, .slice x.Aw x.nw x.cw, .int .i64 x.a, .int .i64 x.i, .int .i64 x.j, .int .i64 x.now] 66)):=(Below.refl _ w).alloc rr _;have r8:(w.alloc (.cells #[.slice x.An x.nn x.cn, .slice x.Ar x.nr x.cr, .slice x.Al x.nl x.cl, .slice x.Av x.nv x.cv, .slice x.Aw x.nw x.cw, .int .i64 x.a, .int .i64 x.i, .int .i64 x.j, .int .i64 x.now] 66)).heap[w.heap.size]? =some (.cells #[.slice x.An x.nn x.cn, .slice x.Ar x.nr x.cr, .slice x.Al x.nl x.cl, .slice x.Av x.nv x.cv, .slice x.Aw x.nw x.cw, .int .i64 x.a, .int .i64 x.i, .int .i64 x.j, .int .i64 x.now] 66 (0,0)):=hpt;have k5:=hI u5;have o0:=hI r8;clear u5 r8;go_wp2_with fail;obtain⟨bx,s7⟩:∃bx,bx=w.heap.size:=⟨_,rfl⟩;rw[←s7]at o0 ⊢;generalize w.alloc (.cells #[.slice x.An x.nn x.cn, .slice x.Ar x.nr x.cr, .slice x.Al x.nl x.cl, .slice x.Av x.nv x.cv, .slice x.Aw x.nw x.cw, .int .i64 x.a, .int .i64 x.i, .int .i64 x.j, .int .i64 x.now] 66)=W0 at*;clear s7;refine(J6 x W0 (HX.out.below k5.out) (HT.out.below k5.out rr)).mono ?_;rintro e w1 ⟨h1,q7⟩;have f9:=hI (k5.out.trans (q7.mono k5.out.size));have t8:=hI ((q7.block bx (lt_of_block o0.out)).trans o0.out);clear q7 k5 o0;rcases h1 with rfl|⟨b,rfl,hm,hn⟩
 ·go_wp2_with fail;refine(Dd w1 (HT.out.below f9.out rr)).mono ?_;rintro e wz ⟨rfl,b2⟩;go_wp2;go_ret;exact⟨rfl,f9.out.trans (b2.mono f9.out.size)⟩
 obtain⟨rs,p2⟩:∃rs,rs=x.roads.map B1:=⟨_,rfl⟩;rw[←p2]at hm;have v6:=hI p2;have HN:=hI hn;have HS:Hid (StW w x rs b bx w1):=⟨⟨hm,HX.out.below f9.out,HT.out.below f9.out rr⟩,t8.out,f9.out⟩;have v3:=hn.n;have t1:=hn.v;have v8:=hn.l;clear p2 hm hn f9 t8 HX HT;have c4:=HS.out.c4;go_wp2_with fail;refine(Mz x.Aw x.nw x.cw x.word w1 HS.out.g.e.word).mono ?_;obtain⟨er,q0⟩:∃er,er=B3 x.word:=⟨_,rfl⟩;rw[←q0];rintro e w2 ⟨rfl,s5⟩;have b1:=hI (HS.out.step s5);have s6:=hI q0;clear s5 q0 HS c4;by_cases he0:er=0
 case neg=>
  have u9:(er !=0)=true:=by simpa using he0
  clear he0;go_wp2_with fail;refine(Dd w2 (b1.out).g.t).mono ?_;rintro e wz ⟨rfl,b2⟩;go_wp2;go_ret;exact⟨rfl,(b1.out).bl.trans (b2.mono (b1.out).bl.size)⟩
 have u9:(er !=0)=false:=by simp[he0]
 have s2:Hid (B3 x.word=0):=by show _=_;rw[←s6.out];exact he0
 clear s6 he0;obtain⟨Fm,o6⟩:∃Fm,Fm=F8 x.nn rs (Am x.laws) (Af x.waves) x.word x.now:=⟨_,rfl⟩;have s0:=hI o6;have g7:=hI (fun W (h:GdW x rs b W)=>h.forms HN.out x.now);have f6:=hI (fun W (h:GdW x rs b W)=>h.values HN.out x.now)
 have HR:Hid ((∃a,a<x.nn/\(Fm a).1≠0/\Bs x.nn rs (Am x.laws) (Af x.waves) x.word x.now=(11,[]))\/((∀a,a<x.nn->(Fm a).1=0)/\Bs x.nn rs (Am x.laws) (Af x.waves) x.word x.now=(0,(List.range x.nn).map fun a=>(Fm a).2))):=by
  by_cases a7:∀a,a<x.nn->(Fm a).1=0
  ·exact .inr ⟨a7,by rw[o6]at a7 ⊢;exact Zk HN.out.ok s2.out a7⟩
  ·obtain⟨a,ha⟩:=Classical.not_forall.1 a7;obtain⟨t0,q5⟩:=Classical.not_imp.1 ha;exact .inl ⟨a,t0,q5,by rw[o6]at q5;exact Zj HN.out.ok s2.out t0 q5⟩
 clear o6;have c2:=b1.out.c2;have c3:=b1.out.c3;have c4:=b1.out.c4;have c8:=b1.out.c8;rcases HR.out with⟨a0,u0,j4,g4⟩|⟨a7,g4⟩
 ·have j1:=Xu g4;rw[g4]at g7;rw[j1]at f6;have i7:Hid (a0<x.nn/\(Fm a0).1≠0):=⟨u0,j4⟩;clear g4 j1 HR u0 j4;go_wp2_with fail;refine(g7.out _ b1.out.g).mono ?_;rintro e w3 ⟨A3,k3,p3,rfl,f1, -,k8⟩;have r2:k3=0:=f1;subst r2;have a4:=hI (b1.out.step k8);clear f1 k8 b1 c2 c3 c4 c8;have c2:=a4.out.c2;have c3:=a4.out.c3;have c4:=a4.out.c4;have c8:=a4.out.c8;go_wp2_with fail;refine(f6.out _ a4.out.g).mono ?_;rintro e w4 ⟨A4,k4,p4,rfl,k0, -,i4⟩;have r3:k4=0:=k0;subst r3;have r9:=hI (a4.out.step i4);clear k0 i4 a4 c2 c3 c4 c8 g7 f6;go_wp2_with fail
  go_loopw [8,9] (fun s8 s9 wr=>∃(c:Nat) (u:Bool),s8= .bool u/\s9= .int .i64 (c:Int)/\c<=x.nn/\Hid (a0<c->u=true)/\Hid (StW w x rs b bx wr)) (fun _ s9 _=>x.nn-(intOf s9).toNat)
  case atStart=>exact⟨0,false,rfl,rfl,Nat.zero_le _,fun h=>absurd h (Nat.not_lt_zero _),r9.out⟩
  case round=>
   obtain⟨c,u,rfl,rfl,hc,HU,r1⟩:=hrel;clear r9;go_wp2_with fail;refine(r1.out.g.length).mono ?_;rintro e w6 ⟨rfl,m7⟩;have a1:=hI (r1.out.step m7);clear r1 m7;by_cases hcl:c<x.nn
   ·have s4:(c:Int)<(x.nn:Int):=by omega
    obtain⟨L,hL⟩:∃L,L=Dc x.nn rs (Af x.waves) c x.now:=⟨_,rfl⟩;have i1:Hid (Fm c=Bw (Cm (Am x.laws) L) x.word):=by show _=_;rw[s0.out,hL];rfl
    have a2:L.length<=6:=by rw[hL];exact Nat.le_trans Lq (by rw[a1.out.g.len];exact t1)
    have m1:Hid (∀z∈L,0<=z/\z<(x.nl:Int)):=fun z hz=>by
     rw[hL]at hz;obtain⟨j,hj,rfl⟩:=List.mem_map.1 hz;have k1:=((Dr (Bx _) _ _ _).1 hj).1;unfold R0;obtain⟨y,hy⟩:∃y,x.waves[j]? =some y:=⟨x.waves[j]'(by rw[Af,List.length_map]at k1;exact k1),List.getElem?_eq_getElem _⟩;rw[Af,List.getElem?_map,hy];have h2:=HN.out.law (List.mem_of_getElem? hy);rw[a1.out.g.e.laws.len]at h2;exact h2
    have g6:=hI (fun W (h:GdW x rs b W)=>h.line HN.out hcl x.now);rw[←hL]at g6;have c2:=a1.out.c2;have c3:=a1.out.c3;have c8:=a1.out.c8;clear hL;go_wp2_with fail;refine(g6.out _ a1.out.g).mono ?_;rintro e w7 ⟨A7,q,p7,rfl,hq,j0,b4⟩;have b7:=hI (a1.out.step b4);have m4:=hI j0;have HQ:=hI hq;have v0:q<=6:=by rw[hq];exact a2
    clear hq j0 c2 c3 c8 g6 a2;go_wp2_with fail
    go_loopw [12,13] (fun s12 s13 wq=>∃j:Nat,s13= .int .i64 (j:Int)/\j<=q/\Hid (wq.ownsRow w7.heap.size 55 18 s12 j ((Eu x.laws (L.take j)).flatMap Bn.cells))/\Hid (Below w7.heap.size w7 wq)) (fun _ s13 _=>q-(intOf s13).toNat)
    case atStart=>exact⟨0,rfl,Nat.zero_le _,World.ownsRow_nil _ _ _ _,Below.refl _ _⟩
    case round=>
     obtain⟨j,rfl,hj,HO,b5⟩:=hrel;by_cases hjq:j<q
     ·have r5:(j:Int)<(q:Int):=by omega
      have b6:L[j]? =some (L[j]'(by have:=HQ.out;omega)):=List.getElem?_eq_getElem _;obtain⟨zi,j5⟩:∃zi,zi=L[j]'(by have:=HQ.out;omega):=⟨_,rfl⟩;rw[←j5]at b6;have q6:=m1.out zi (List.mem_of_getElem? b6);obtain⟨z,rfl⟩:∃z:Nat,zi=z:=⟨zi.toNat,by omega⟩;have m8:z<x.nl:=by omega
      obtain⟨s,hs⟩:=b7.out.g.e.laws.get m8;have q8:Hid (L.take (j+1)=L.take j++[(z:Int)]):=by show _=_;rw[List.take_add_one,b6];rfl
      have g3:Hid (Eu x.laws (L.take (j+1))=Eu x.laws (L.take j)++[s]):=by show _=_;rw[q8.out];exact Nq x.laws _ _ s hs
      obtain⟨gl,ol,zv,r4,p0,d4,g1⟩:=m4.out.at_ hjq;rw[b6]at g1;obtain rfl:=Option.some.inj g1;obtain⟨b0,off0,k7,g5,m9⟩:=b7.out.g.e.laws.at_ hs;have a5:=b7.out.c2;rw[k7]at a5;subst r4;have r6:¬(x.nl:Int)<=(z:Int):=by omega
      have v1:decide ((x.nl:Int)<=(z:Int))=false:=decide_eq_false r6;have q3:decide (x.nl<=z)=false:=decide_eq_false (by omega);have t7:decide ((z:Int)<0)=false:=decide_eq_false (by omega);have b8:=lt_of_block b7.out.k
      have a8:Hid (∀W',Below w7.heap.size w7 W'->W'.cell? ⟨bx,2,none⟩=some (.slice (some ⟨b0,off0,none⟩) x.nl x.cl)/\W'.cell? ⟨gl,ol+j,none⟩=some (.int .i64 (z:Int))/\W'.rangeAt b0 (off0+z*18) s.cells):=fun W' hb=>
       ⟨(hb.cell (p:=⟨bx,_,none⟩) b8).trans a5,(hb.cell (p:=⟨gl,_,none⟩) p0).trans d4,G9 m9 hb g5⟩
      have v2:z<x.nl:=m8;obtain⟨A6,c6,rfl⟩:=Bh HO.out;obtain⟨d0,d1, -⟩:=a8.out wr b5.out;clear j5 b6 q6 hs g1 d4 m9 a5 k7 b8;go_wp2_with fail
      go_big_quiet (fail)
      go_wp2_with fail;clear d0 d1;obtain⟨wo,d6⟩:∃wo,wo=wr.drewN nq:=⟨_,rfl⟩;have d7:Hid (Below w7.heap.size w7 wo):=by rw[d6];exact b5.out.drewN _
      have j8:Hid (wo.ownsRow w7.heap.size 55 18 (.slice A6 j c6) j ((Eu x.laws (L.take j)).flatMap Bn.cells)):=by rw[d6];exact Bf HO.out fun p e=>rfl
      rw[←d6];clear d6 HO b5;refine Bm (fun W'=>W'.cell? ⟨bx,2,none⟩=some (.slice (some ⟨b0,off0,none⟩) x.nl x.cl)/\W'.cell? ⟨gl,ol+j,none⟩=some (.int .i64 (z:Int))/\W'.rangeAt b0 (off0+z*18) s.cells) (by kernel_rfl) (a8.out wo.drew d7.out.drew) (fun hHeld=> ?_)
      (refine' Ae 0 rfl ?_;(try simp only[Act.put,nY,nX]));(refine' Ae 1 rfl ?_;(try simp only[Act.put,nY,nX]));(refine' Ae 2 rfl ?_;(try simp only[Act.put,nY,nX]));(refine' Ae 3 rfl ?_;(try simp only[Act.put,nY,nX]));(refine' Ae 4 rfl ?_;(try simp only[Act.put,nY,nX]));(refine' Ae 5 rfl ?_;(try simp only[Act.put,nY,nX]));(refine' Ae 6 rfl ?_;(try simp only[Act.put,nY,nX]));(refine' Ae 7 rfl ?_;(try simp only[Act.put,nY,nX]))
      (refine' Cu (i:=8) (v:=D8 s.l s.a) rfl (by kernel_rfl) (by kernel_rfl) (by kernel_rfl) (by kernel_rfl) (fun _ _ _ h=>h) (N3 (by rfl) (.tmp 106) rfl b0 (off0+z*18) s (by rfl) (fun w' hSw=>hSw.2.2)) (by assumption) ?_;(try simp only[Act.put,nY,nX]))
      clear hHeld;refine Aim 9 rfl (fun K' hK'=> ?_);rw[if_pos (by rfl)];refine Tz (.tmp 107) rfl s (by rfl) ?_;have b2:Below wo.drew.heap.size wo.drew (wo.drew.alloc (.cells s.cells.toArray 55)):=(Below.refl _ _).alloc rr _;have d3:Hid (Below w7.heap.size w7 (wo.drew.alloc (.cells s.cells.toArray 55))):=d7.out.drew.trans (b2.mono d7.out.drew.size);have f3:Hid ((wo.drew.alloc (.cells s.cells.toArray 55)).ownsRow w7.heap.size 55 18 (.slice A6 j c6) j ((Eu x.laws (L.take j)).flatMap Bn.cells)):=(Bf j8.out fun p e=>rfl:wo.drew.ownsRow _ _ _ _ _ _).alloc _
      have b9:Du Bn.cells 18 (wo.drew.alloc (.cells s.cells.toArray 55)) (some ⟨wo.drew.heap.size,0,none⟩) 1 1 [s]:=
       ⟨⟨by simp[Bn.len],rr,by unfold maxLen;omega,(fun h=>by cases h),fun _=>⟨wo.drew.heap.size,0,rfl,by simp,fun j v hv=>by rw[Nat.zero_add];exact B7 (by simpa using hv)⟩⟩,rfl⟩
      have d2:=hI b9;refine hK' _ _ ⟨.inr (a8.out _ d3.out),fun _=> ?_⟩
      clear hK' K' b2 b9 d7 j8
      (try simp only[Act.put,nY,nX])
      refine Aim 10 rfl (fun K' hK'=> ?_);rw[if_pos (by rfl)];refine Kl (.tmp 99) (.tmp 108) rfl w7.heap.size (.slice A6 j c6) j (Eu x.laws (L.take j)) (by rfl) f3.out (some ⟨wo.drew.heap.size,0,none⟩) 1 1 [s] (by rfl) d2.out (by omega) d3.out.size ?_;intro v' w9 a3 m6 _;have i2:Hid (Below w7.heap.size w7 w9):=d3.out.grown m6 d3.out.size fun p hp=>(f3.out.lt _ hp).1
      have i6:Hid (w9.ownsRow w7.heap.size 55 18 v' (j+1) ((Eu x.laws (L.take (j+1))).flatMap Bn.cells)):=by
       show World.ownsRow _ _ _ _ _ _ _;rw[g3.out];exact a3
      refine hK' _ _ ⟨.inr (a8.out _ i2.out),fun _=> ?_⟩
      clear hK' K' a3 m6 d3 f3 d2 a8
      (try simp only[Act.put,nY,nX])
      (refine Aim 11 rfl (fun K' hK'=> ?_);simp only[nY];go_simp)
      refine hK' _ _ ⟨.inl (by kernel_rfl),fun _=>Bg (by kernel_rfl) ?_ _⟩
      clear hK' K';go_wp2_with fail
      go_roundw
      case rel=>first|exact⟨j+1,by go_num,by omega,i6.out,i2.out⟩|((repeat apply Exists.intro);exact⟨⟨j+1,by go_num,by omega,i6.out,i2.out⟩,rfl⟩)
      case measure=>simp[intOf];omega
     ·obtain rfl:j=q:=by omega
      have k2:L.take j=L:=List.take_of_length_le (by rw[HQ.out];exact rr);rw[k2]at HO;obtain⟨A6,c6,rfl⟩:=Bh HO.out;have b3:=hI (b7.out.step b5.out);have j3:B2 wr A6 j c6 (Eu x.laws L):=⟨Du.of_own HO.out Bn.len (by decide),fun y hy=>(b3.out.g.e.laws).2 y (Sd hy)⟩
      have m5:=hI j3;have c4:=b3.out.c4;have a6:=b5.out;clear j3 k2 HO;go_wp2_with fail;refine(Qc A6 j c6 (Eu x.laws L) x.Aw x.nw x.cw x.word wr m5.out b3.out.g.e.word b3.out.g.t).mono ?_;rw[Vq];obtain⟨e3,g0⟩:∃e3,e3=(Bw (Cm (Am x.laws) L) x.word).1:=⟨_,rfl⟩;rintro e w9 ⟨Ac,nc,cc,rfl,j7,g9, -⟩;rw[←g0];have q4:Hid ((Fm c).1=e3):=by show _=_;rw[i1.out,g0]
      have s1:Hid (Ah w9 Ac nc cc (Fm c).2):=by show Ah _ _ _ _ _;rw[i1.out];exact j7
      have k9:=hI (b3.out.step g9);have m2:Hid (Below w6.heap.size w6 w9):=b4.trans ((a6.trans (g9.mono a6.size)).mono b4.size);clear g0 j7 g9 a6 c4 m5 b3 i1 m1 m4 b4;by_cases h30:e3=0
      ·have t5:(e3 !=0)=false:=by simp[h30]
       have u3:Hid (a0<c+1->u=true):=fun h=>by
        rcases Nat.lt_or_ge a0 c with h1|h1
        ·exact HU.out h1
        ·obtain rfl:a0=c:=by omega
         exact absurd (q4.out.trans h30) i7.out.2
       clear h30;go_wp2_with fail
       go_roundw
       case rel=>first|exact⟨c+1,u,rfl,by go_num,by omega,u3.out,k9.out⟩|((repeat apply Exists.intro);exact⟨⟨c+1,u,rfl,by go_num,by omega,u3.out,k9.out⟩,rfl⟩)
       case measure=>simp[intOf];omega
      ·have t5:(e3 !=0)=true:=by simpa using h30
       clear h30;go_wp2_with fail
       go_roundw
       case rel=>first|exact⟨c+1,true,rfl,by go_num,by omega,fun _=>rfl,k9.out⟩|((repeat apply Exists.intro);exact⟨⟨c+1,true,rfl,by go_num,by omega,fun _=>rfl,k9.out⟩,rfl⟩)
       case measure=>simp[intOf];omega
   ·obtain rfl:c=x.nn:=by omega
    have hu:=HU.out i7.out.1;subst hu;go_wp2_with fail;refine(Dd w6 a1.out.g.t).mono ?_;rintro e wz ⟨rfl,b2⟩;go_wp2;go_ret;exact⟨rfl,a1.out.bl.trans (b2.mono a1.out.bl.size)⟩
 ·have j1:=Xv g4;rw[g4]at g7;rw[j1]at f6;obtain⟨fs,o3⟩:∃fs,fs=(List.range x.nn).map fun a=>(Fm a).2:=⟨_,rfl⟩
  rw[←o3]at g7 f6;have f5:Hid (∀c,c<x.nn->fs[c]? =some (Fm c).2):=fun c hc=>by rw[o3,List.getElem?_map,List.getElem?_range hc];rfl
  have k6:Hid (fs.length=x.nn):=by show _=_;rw[o3];simp
  have p5:=hI a7;clear g4 j1 HR a7 o3;go_wp2_with fail;refine(g7.out _ b1.out.g).mono ?_;rintro e w3 ⟨A3,k3,p3,rfl,f1,u2,k8⟩;obtain rfl:k3=x.nn:=by rw[f1];exact k6.out
  have a4:=hI (b1.out.step k8);have t6:=hI u2;clear f1 k8 u2 b1 c2 c3 c4 c8;have c2:=a4.out.c2;have c3:=a4.out.c3;have c4:=a4.out.c4;have c8:=a4.out.c8;go_wp2_with fail;refine(f6.out _ a4.out.g).mono ?_;rintro e w4 ⟨A4,k4,p4,rfl,k0,t9,i4⟩;obtain rfl:k4=x.nn:=by rw[k0];show(fs.map _).length=_;rw[List.length_map];exact k6.out
  obtain⟨F,hF⟩:∃F:World->Prop,F=fun W=>StW w x rs b bx W/\Cd W A3 x.nn p3 fs/\Ba W A4 x.nn p4 (fs.map (Db fs)):=⟨_,rfl⟩
  have u6:Hid (F w4):=by
   show F w4;rw[hF];exact⟨a4.out.step i4,Cd.below t6.out i4 rr,t9⟩
  have d9:Hid (∀W W',F W->Below W.heap.size W W'->F W'):=fun W W' h hb=>by
   rw[hF]at h ⊢;obtain⟨h1,h2,h3⟩:=h;exact⟨h1.step hb,h2.below hb rr,h3.below hb rr⟩
  have g2:Hid (∀W,F W->StW w x rs b bx W):=fun W h=>by rw[hF]at h;exact h.1
  have r0:Hid (∀W,F W->Cd W A3 x.nn p3 fs):=fun W h=>by rw[hF]at h;exact h.2.1
  have o4:Hid (∀W,F W->Ba W A4 x.nn p4 (fs.map (Db fs))):=fun W h=>by rw[hF]at h;exact h.2.2
  clear hF i4 t9 k0 a4 t6 c2 c3 c4 c8 g7 f6;go_wp2_with fail
  go_loopw [8,9] (fun s8 s9 wr=>∃c:Nat,s8= .bool false/\s9= .int .i64 (c:Int)/\c<=x.nn/\Hid (F wr)) (fun _ s9 _=>x.nn-(intOf s9).toNat)
  case atStart=>exact⟨0,rfl,rfl,Nat.zero_le _,u6.out⟩
  case round=>
   obtain⟨c,rfl,rfl,hc,o9⟩:=hrel;clear u6;go_wp2_with fail;refine((g2.out _ o9.out).g.length).mono ?_;rintro e w6 ⟨rfl,m7⟩;have i5:=hI (d9.out _ _ o9.out m7);have a1:=hI (g2.out _ i5.out);clear o9 m7;by_cases hcl:c<x.nn
   ·have s4:(c:Int)<(x.nn:Int):=by omega
    obtain⟨L,hL⟩:∃L,L=Dc x.nn rs (Af x.waves) c x.now:=⟨_,rfl⟩;have i1:Hid (Fm c=Bw (Cm (Am x.laws) L) x.word):=by show _=_;rw[s0.out,hL];rfl
    have a2:L.length<=6:=by rw[hL];exact Nat.le_trans Lq (by rw[a1.out.g.len];exact t1)
    have m1:Hid (∀z∈L,0<=z/\z<(x.nl:Int)):=fun z hz=>by
     rw[hL]at hz;obtain⟨j,hj,rfl⟩:=List.mem_map.1 hz;have k1:=((Dr (Bx _) _ _ _).1 hj).1;unfold R0;obtain⟨y,hy⟩:∃y,x.waves[j]? =some y:=⟨x.waves[j]'(by rw[Af,List.length_map]at k1;exact k1),List.getElem?_eq_getElem _⟩;rw[Af,List.getElem?_map,hy];have h2:=HN.out.law (List.mem_of_getElem? hy);rw[a1.out.g.e.laws.len]at h2;exact h2
    have g6:=hI (fun W (h:GdW x rs b W)=>h.line HN.out hcl x.now);rw[←hL]at g6;have c2:=a1.out.c2;have c3:=a1.out.c3;have c8:=a1.out.c8;clear hL;go_wp2_with fail;refine(g6.out _ a1.out.g).mono ?_;rintro e w7 ⟨A7,q,p7,rfl,hq,j0,b4⟩;have b7:=hI (a1.out.step b4);have m4:=hI j0;have HQ:=hI hq;have v0:q<=6:=by rw[hq];exact a2
    clear hq j0 c2 c3 c8 g6 a2;go_wp2_with fail
    go_loopw [12,13] (fun s12 s13 wq=>∃j:Nat,s13= .int .i64 (j:Int)/\j<=q/\Hid (wq.ownsRow w7.heap.size 55 18 s12 j ((Eu x.laws (L.take j)).flatMap Bn.cells))/\Hid (Below w7.heap.size w7 wq)) (fun _ s13 _=>q-(intOf s13).toNat)
    case atStart=>exact⟨0,rfl,Nat.zero_le _,World.ownsRow_nil _ _ _ _,Below.refl _ _⟩
    case round=>
     obtain⟨j,rfl,hj,HO,b5⟩:=hrel;by_cases hjq:j<q
     ·have r5:(j:Int)<(q:Int):=by omega
      have b6:L[j]? =some (L[j]'(by have:=HQ.out;omega)):=List.getElem?_eq_getElem _;obtain⟨zi,j5⟩:∃zi,zi=L[j]'(by have:=HQ.out;omega):=⟨_,rfl⟩;rw[←j5]at b6;have q6:=m1.out zi (List.mem_of_getElem? b6);obtain⟨z,rfl⟩:∃z:Nat,zi=z:=⟨zi.toNat,by omega⟩;have m8:z<x.nl:=by omega
      obtain⟨s,hs⟩:=b7.out.g.e.laws.get m8;have q8:Hid (L.take (j+1)=L.take j++[(z:Int)]):=by show _=_;rw[List.take_add_one,b6];rfl
      have g3:Hid (Eu x.laws (L.take (j+1))=Eu x.laws (L.take j)++[s]):=by show _=_;rw[q8.out];exact Nq x.laws _ _ s hs
      obtain⟨gl,ol,zv,r4,p0,d4,g1⟩:=m4.out.at_ hjq;rw[b6]at g1;obtain rfl:=Option.some.inj g1;obtain⟨b0,off0,k7,g5,m9⟩:=b7.out.g.e.laws.at_ hs;have a5:=b7.out.c2;rw[k7]at a5;subst r4;have r6:¬(x.nl:Int)<=(z:Int):=by omega
      have v1:decide ((x.nl:Int)<=(z:Int))=false:=decide_eq_false r6;have q3:decide (x.nl<=z)=false:=decide_eq_false (by omega);have t7:decide ((z:Int)<0)=false:=decide_eq_false (by omega);have b8:=lt_of_block b7.out.k
      have a8:Hid (∀W',Below w7.heap.size w7 W'->W'.cell? ⟨bx,2,none⟩=some (.slice (some ⟨b0,off0,none⟩) x.nl x.cl)/\W'.cell? ⟨gl,ol+j,none⟩=some (.int .i64 (z:Int))/\W'.rangeAt b0 (off0+z*18) s.cells):=fun W' hb=>
       ⟨(hb.cell (p:=⟨bx,_,none⟩) b8).trans a5,(hb.cell (p:=⟨gl,_,none⟩) p0).trans d4,G9 m9 hb g5⟩
      have v2:z<x.nl:=m8;obtain⟨A6,c6,rfl⟩:=Bh HO.out;obtain⟨d0,d1, -⟩:=a8.out wr b5.out;clear j5 b6 q6 hs g1 d4 m9 a5 k7 b8;go_wp2_with fail
      go_big_quiet (fail)
      go_wp2_with fail;clear d0 d1;obtain⟨wo,d6⟩:∃wo,wo=wr.drewN nq:=⟨_,rfl⟩;have d7:Hid (Below w7.heap.size w7 wo):=by rw[d6];exact b5.out.drewN _
      have j8:Hid (wo.ownsRow w7.heap.size 55 18 (.slice A6 j c6) j ((Eu x.laws (L.take j)).flatMap Bn.cells)):=by rw[d6];exact Bf HO.out fun p e=>rfl
      rw[←d6];clear d6 HO b5;refine Bm (fun W'=>W'.cell? ⟨bx,2,none⟩=some (.slice (some ⟨b0,off0,none⟩) x.nl x.cl)/\W'.cell? ⟨gl,ol+j,none⟩=some (.int .i64 (z:Int))/\W'.rangeAt b0 (off0+z*18) s.cells) (by kernel_rfl) (a8.out wo.drew d7.out.drew) (fun hHeld=> ?_)
      (refine' Ae 0 rfl ?_;(try simp only[Act.put,nY,nX]));(refine' Ae 1 rfl ?_;(try simp only[Act.put,nY,nX]));(refine' Ae 2 rfl ?_;(try simp only[Act.put,nY,nX]));(refine' Ae 3 rfl ?_;(try simp only[Act.put,nY,nX]));(refine' Ae 4 rfl ?_;(try simp only[Act.put,nY,nX]));(refine' Ae 5 rfl ?_;(try simp only[Act.put,nY,nX]));(refine' Ae 6 rfl ?_;(try simp only[Act.put,nY,nX]));(refine' Ae 7 rfl ?_;(try simp only[Act.put,nY,nX]))
      (refine' Cu (i:=8) (v:=D8 s.l s.a) rfl (by kernel_rfl) (by kernel_rfl) (by kernel_rfl) (by kernel_rfl) (fun _ _ _ h=>h) (N3 (by rfl) (.tmp 106) rfl b0 (off0+z*18) s (by rfl) (fun w' hSw=>hSw.2.2)) (by assumption) ?_;(try simp only[Act.put,nY,nX]))
      clear hHeld;refine Aim 9 rfl (fun K' hK'=> ?_);rw[if_pos (by rfl)];refine Tz (.tmp 107) rfl s (by rfl) ?_;have b2:Below wo.drew.heap.size wo.drew (wo.drew.alloc (.cells s.cells.toArray 55)):=(Below.refl _ _).alloc rr _;have d3:Hid (Below w7.heap.size w7 (wo.drew.alloc (.cells s.cells.toArray 55))):=d7.out.drew.trans (b2.mono d7.out.drew.size);have f3:Hid ((wo.drew.alloc (.cells s.cells.toArray 55)).ownsRow w7.heap.size 55 18 (.slice A6 j c6) j ((Eu x.laws (L.take j)).flatMap Bn.cells)):=(Bf j8.out fun p e=>rfl:wo.drew.ownsRow _ _ _ _ _ _).alloc _
      have b9:Du Bn.cells 18 (wo.drew.alloc (.cells s.cells.toArray 55)) (some ⟨wo.drew.heap.size,0,none⟩) 1 1 [s]:=
       ⟨⟨by simp[Bn.len],rr,by unfold maxLen;omega,(fun h=>by cases h),fun _=>⟨wo.drew.heap.size,0,rfl,by simp,fun j v hv=>by rw[Nat.zero_add];exact B7 (by simpa using hv)⟩⟩,rfl⟩
      have d2:=hI b9;refine hK' _ _ ⟨.inr (a8.out _ d3.out),fun _=> ?_⟩
      clear hK' K' b2 b9 d7 j8
      (try simp only[Act.put,nY,nX])
      refine Aim 10 rfl (fun K' hK'=> ?_);rw[if_pos (by rfl)];refine Kl (.tmp 99) (.tmp 108) rfl w7.heap.size (.slice A6 j c6) j (Eu x.laws (L.take j)) (by rfl) f3.out (some ⟨wo.drew.heap.size,0,none⟩) 1 1 [s] (by rfl) d2.out (by omega) d3.out.size ?_;intro v' w9 a3 m6 _;have i2:Hid (Below w7.heap.size w7 w9):=d3.out.grown m6 d3.out.size fun p hp=>(f3.out.lt _ hp).1
      have i6:Hid (w9.ownsRow w7.heap.size 55 18 v' (j+1) ((Eu x.laws (L.take (j+1))).flatMap Bn.cells)):=by
       show World.ownsRow _ _ _ _ _ _ _;rw[g3.out];exact a3
      refine hK' _ _ ⟨.inr (a8.out _ i2.out),fun _=> ?_⟩
      clear hK' K' a3 m6 d3 f3 d2 a8
      (try simp only[Act.put,nY,nX])
      (refine Aim 11 rfl (fun K' hK'=> ?_);simp only[nY];go_simp)
      refine hK' _ _ ⟨.inl (by kernel_rfl),fun _=>Bg (by kernel_rfl) ?_ _⟩
      clear hK' K';go_wp2_with fail
      go_roundw
      case rel=>first|exact⟨j+1,by go_num,by omega,i6.out,i2.out⟩|((repeat apply Exists.intro);exact⟨⟨j+1,by go_num,by omega,i6.out,i2.out⟩,rfl⟩)
      case measure=>simp[intOf];omega
     ·obtain rfl:j=q:=by omega
      have k2:L.take j=L:=List.take_of_length_le (by rw[HQ.out];exact rr);rw[k2]at HO;obtain⟨A6,c6,rfl⟩:=Bh HO.out;have b3:=hI (b7.out.step b5.out);have j3:B2 wr A6 j c6 (Eu x.laws L):=⟨Du.of_own HO.out Bn.len (by decide),fun y hy=>(b3.out.g.e.laws).2 y (Sd hy)⟩
      have m5:=hI j3;have c4:=b3.out.c4;have a6:=b5.out;clear j3 k2 HO;go_wp2_with fail;refine(Qc A6 j c6 (Eu x.laws L) x.Aw x.nw x.cw x.word wr m5.out b3.out.g.e.word b3.out.g.t).mono ?_;rw[Vq];obtain⟨e3,g0⟩:∃e3,e3=(Bw (Cm (Am x.laws) L) x.word).1:=⟨_,rfl⟩;rintro e w9 ⟨Ac,nc,cc,rfl,j7,g9, -⟩;rw[←g0];have q4:Hid ((Fm c).1=e3):=by show _=_;rw[i1.out,g0]
      have s1:Hid (Ah w9 Ac nc cc (Fm c).2):=by show Ah _ _ _ _ _;rw[i1.out];exact j7
      have k9:=hI (b3.out.step g9);have m2:Hid (Below w6.heap.size w6 w9):=b4.trans ((a6.trans (g9.mono a6.size)).mono b4.size);clear g0 j7 g9 a6 c4 m5 b3 i1 m1 m4 b4;obtain rfl:e3=0:=q4.out.symm.trans (p5.out c hcl);have t5:((0:Int) !=0)=false:=by decide
      have d8:=hI (d9.out _ _ i5.out m2.out);obtain⟨wb,wo,Aq,nq',cq',xq,o5,o8,o1,i3,i9⟩:=(r0.out _ d8.out).at_ hcl;obtain rfl:(Fm c).2=xq:=Option.some.inj ((f5.out c hcl).symm.trans i3);have m0:=hI i9;have u7:¬(x.nn:Int)<=(c:Int):=by omega
      subst o5;clear i3 i9 i5;go_wp2_with fail;refine(P0 Aq Ac nq' nc cq' cc (Fm c).2 (Fm c).2 w9 m0.out s1.out).mono ?_;rw[decide_eq_true rfl];rintro e wa ⟨rfl,j2⟩;have f7:=hI (d9.out _ _ d8.out j2);clear d8 j2 o1 m0;go_wp2_with fail
      go_roundw
      case rel=>first|exact⟨c+1,rfl,by go_num,by omega,f7.out⟩|((repeat apply Exists.intro);exact⟨⟨c+1,rfl,by go_num,by omega,f7.out⟩,rfl⟩)
      case measure=>simp[intOf];omega
   ·obtain rfl:c=x.nn:=by omega
    clear a1;go_wp2_with fail;refine((g2.out _ i5.out).g.length).mono ?_;rintro e w7 ⟨rfl,b4⟩;have o7:=hI (d9.out _ _ i5.out b4);clear i5 b4;go_wp2_with fail;refine((g2.out _ o7.out).g.length).mono ?_;rintro e w8 ⟨rfl,u1⟩;have t4:=hI (d9.out _ _ o7.out u1);clear o7 u1;go_wp2_with fail
    go_loopw [16] (fun s16 wr=>∃c:Nat,s16= .int .i64 (c:Int)/\c<=x.nn/\Hid (F wr)) (fun s16 _=>x.nn-(intOf s16).toNat)
    case atStart=>exact⟨0,rfl,Nat.zero_le _,t4.out⟩
    case round=>
     obtain⟨c,rfl,hc,d8⟩:=hrel;clear t4;by_cases hcl:c<x.nn
     ·have s4:(c:Int)<(x.nn:Int):=by omega
      go_wp2_with fail
      go_loopw [17] (fun s17 wr=>∃d:Nat,s17= .int .i64 (d:Int)/\d<=c+1/\Hid (F wr)) (fun s17 _=>c+1-(intOf s17).toNat)
      case atStart=>exact⟨0,rfl,Nat.zero_le _,d8.out⟩
      case round=>
       obtain⟨d,rfl,hd,d5⟩:=hrel;clear d8;by_cases hdc:d<=c
       ·have q1:(d:Int)<=(c:Int):=by omega
        have u4:d<x.nn:=by omega
        obtain⟨wb,wo,Aq,nq1,cq1,xq,o5,o8,o1,i3,i9⟩:=(r0.out _ d5.out).at_ hcl;obtain⟨wb',wo',Ar,nr1,cr1,xr,f2, -,t2,p1,s3⟩:=(r0.out _ d5.out).at_ u4;obtain⟨rfl,rfl⟩:wb=wb'/\wo=wo':=by rw[o5]at f2;injection f2 with h;injection h with h1 h2;exact⟨h1,h2⟩
        obtain⟨nb,no,vc,j9,p9,q9,g8⟩:=(o4.out _ d5.out).at_ hcl;obtain⟨nb',no',vd,a9, -,q2,f8⟩:=(o4.out _ d5.out).at_ u4;obtain⟨rfl,rfl⟩:nb=nb'/\no=no':=by rw[j9]at a9;injection a9 with h;injection h with h1 h2;exact⟨h1,h2⟩
        rw[List.getElem?_map,i3]at g8;rw[List.getElem?_map,p1]at f8;have i8:Db fs xq=vc:=Option.some.inj g8;have j6:Db fs xr=vd:=Option.some.inj f8;have i0:=Abk i3 p1;rw[i8,j6]at i0;have m0:=hI i9;have t3:=hI s3;have m3:=hI i0
        have a8:Hid (∀W',Below wr.heap.size wr W'->W'.cell? ⟨wb,wo+c,none⟩=some (.slice Aq nq1 cq1)/\W'.cell? ⟨wb,wo+d,none⟩=some (.slice Ar nr1 cr1)/\W'.cell? ⟨nb,no+c,none⟩=some (.int .i64 vc)/\W'.cell? ⟨nb,no+d,none⟩=some (.int .i64 vd)):=fun W' hb=>
         ⟨(hb.cell (p:=⟨wb,_,none⟩) o8).trans o1,(hb.cell (p:=⟨wb,_,none⟩) o8).trans t2,(hb.cell (p:=⟨nb,_,none⟩) p9).trans q9,(hb.cell (p:=⟨nb,_,none⟩) p9).trans q2⟩
        subst o5 j9;clear f2 a9 i3 p1 i9 s3 g8 f8 i8 j6 i0 o1 t2 q9 q2;go_wp2_with fail;refine Bm (fun W'=>W'.cell? ⟨wb,wo+c,none⟩=some (.slice Aq nq1 cq1)/\W'.cell? ⟨wb,wo+d,none⟩=some (.slice Ar nr1 cr1)/\W'.cell? ⟨nb,no+c,none⟩=some (.int .i64 vc)/\W'.cell? ⟨nb,no+d,none⟩=some (.int .i64 vd)) (by kernel_rfl) (a8.out wr.drew (Below.refl _ wr).drew) (fun hHeld=> ?_)
        (refine' Ae 0 rfl ?_;(try simp only[Act.put,nY,nX]));(refine' Ae 1 rfl ?_;(try simp only[Act.put,nY,nX]));(refine' Ae 2 rfl ?_;(try simp only[Act.put,nY,nX]));(refine' Ae 3 rfl ?_;(try simp only[Act.put,nY,nX]));(refine' Ae 4 rfl ?_;(try simp only[Act.put,nY,nX]));(refine' Ae 5 rfl ?_;(try simp only[Act.put,nY,nX]));(refine' Ae 6 rfl ?_;(try simp only[Act.put,nY,nX]));(refine' Ae 7 rfl ?_;(try simp only[Act.put,nY,nX]));(refine' Ae 9 rfl ?_;(try simp only[Act.put,nY,nX]));(refine' Ae 10 rfl ?_;(try simp only[Act.put,nY,nX]));(refine' Ae 11 rfl ?_;(try simp only[Act.put,nY,nX]));(refine' Ae 12 rfl ?_;(try simp only[Act.put,nY,nX]));(refine' Ae 13 rfl ?_;(try simp only[Act.put,nY,nX]));(refine' Ae 14 rfl ?_;(try simp only[Act.put,nY,nX]));(refine' Ae 15 rfl ?_;(try simp only[Act.put,nY,nX]));(refine' Ae 16 rfl ?_;(try simp only[Act.put,nY,nX]));(refine' Ae 17 rfl ?_;(try simp only[Act.put,nY,nX]))
        clear hHeld
        (refine Aim 8 rfl (fun K' hK'=> ?_);simp only[nY];go_simp)
        have o2:Below wr.heap.size wr wr.drew:=(Below.refl _ wr).drew;refine(P0 Aq Ar nq1 nr1 cq1 cr1 xq xr wr.drew (m0.out.below o2 rr) (t3.out.below o2 rr)).mono ?_;obtain⟨qe,f0⟩:∃qe,qe=decide (xq=xr):=⟨_,rfl⟩;rw[←f0];rintro e wa ⟨rfl,j2⟩
        have r7:Hid ((vc==vd)=qe):=by
         show _=_;rw[f0,Bool.eq_iff_iff,beq_iff_eq,decide_eq_true_iff];exact m3.out
        have f4:=o2.trans j2;have f7:=hI (d9.out _ _ d5.out f4);refine hK' _ _ ⟨.inr (a8.out wa f4),fun _=> ?_⟩
        clear hK' K' o2 j2 f4 f0 m3 a8 d5 m0 t3
        (try simp only[Act.put,nY,nX])
        (refine Aim 18 rfl (fun K' hK'=> ?_);simp only[nY];go_simp)
        refine hK' _ _ ⟨.inl (by kernel_rfl),fun _=>Bg (by kernel_rfl) ?_ _⟩
        clear hK' K';have f0:=r7.out;clear r7
        cases qe with
        |true=>
         obtain rfl:vc=vd:=by simpa using f0
         clear f0;rw[show(!(true==(vc==vc)))=false from by simp];go_wp2_with fail
         go_roundw
         case rel=>first|exact⟨d+1,by go_num,by omega,f7.out⟩|((repeat apply Exists.intro);exact⟨⟨d+1,by go_num,by omega,f7.out⟩,rfl⟩)
         case measure=>simp[intOf];omega
        |false=>
         have p6:¬vc=vd:=by simpa using f0
         clear f0;rw[show(!(false==(vc==vd)))=false from by simp[p6]];go_wp2_with fail
         go_roundw
         case rel=>first|exact⟨d+1,by go_num,by omega,f7.out⟩|((repeat apply Exists.intro);exact⟨⟨d+1,by go_num,by omega,f7.out⟩,rfl⟩)
         case measure=>simp[intOf];omega
       ·obtain rfl:d=c+1:=by omega
        have q1:¬(((c+1:Nat):Int)<=(c:Int)):=by omega
        obtain⟨kf,p8,v4,f1⟩:=Lr (f5.out c hcl);have u8:kf<x.nn:=by omega
        obtain⟨nb,no,vc,j9,p9,q9,g8⟩:=(o4.out _ d5.out).at_ hcl;obtain⟨nb',no',vd,a9, -,q2,f8⟩:=(o4.out _ d5.out).at_ u8;obtain⟨rfl,rfl⟩:nb=nb'/\no=no':=by rw[j9]at a9;injection a9 with h;injection h with h1 h2;exact⟨h1,h2⟩
        rw[List.getElem?_map,f5.out c hcl,Option.map_some,p8]at g8;rw[List.getElem?_map,f1,Option.map_some,p8]at f8;obtain rfl:=Option.some.inj g8;obtain rfl:=Option.some.inj f8;have t7:decide ((kf:Int)<0)=false:=decide_eq_false (by omega);have v7:decide ((c:Int)<(kf:Int))=false:=decide_eq_false (by omega);have v5:decide (c<kf)=false:=decide_eq_false (by omega);subst j9;clear a9 p8 f1 g8 f8;go_wp2_with fail
        go_big_quiet (fail)
        go_wp2_with fail
        go_roundw
        case rel=>first|exact⟨c+1,by go_num,by omega,d9.out _ _ d5.out ((Below.refl _ _).drewN _)⟩|((repeat apply Exists.intro);exact⟨⟨c+1,by go_num,by omega,d9.out _ _ d5.out ((Below.refl _ _).drewN _)⟩,rfl⟩)
        case measure=>simp[intOf];omega
     ·obtain rfl:c=x.nn:=by omega
      go_wp2_with fail;refine(Dd wr (g2.out _ d8.out).g.t).mono ?_;rintro e wz ⟨rfl,b2⟩;go_wp2;go_ret;exact⟨rfl,(g2.out _ d8.out).bl.trans (b2.mono (g2.out _ d8.out).bl.size)⟩
end Go.Proofs.YtaglfmlgbcmakaaGreatDoor
