/-
  ablautref08: right, left.
  ablautref08: left.
  ablautref08: all: what it keeps.
  ablautref08: all.
  ablautref08: Trace, Apply.
-/
import Derived.Test.YtaglfmlgbcmakaaGreatDoorG26
import Derived.Test.YtaglfmlgbcmakaaGreatDoorG38
set_option linter.all false
set_option maxRecDepth 100000
set_option maxHeartbeats 4000000
namespace Go.Proofs.YtaglfmlgbcmakaaGreatDoor
open Go.RowKit Go.Shelf
structure Fk (w:World)(B:Nat)(vp vw:Value)(np:Nat)(ps:List Part):Prop where
 op:∃xs,w.ownsRow B 3 1 vp np xs
 ow:w.ownsRow B 28 1 vw ps.length (ps.map Part.val)
 ne:∀k,vp.ownBlock=some k→¬vw.ownBlock=some k
 pp:∀p∈ps,Et vp w p/\Et vw w p
 sz:B<=w.heap.size
theorem Fk.nil (w:World):Fk w w.heap.size (.slice none 0 0) (.slice none 0 0) 0 []:=
 ⟨⟨[],World.ownsRow_nil _ _ _ _⟩,World.ownsRow_nil _ _ _ _,fun k h=>(by cases h),fun p hp=>by simp at hp,rr⟩
theorem Fk.below {w w':World}{B np:Nat}{vp vw:Value}{ps:List Part}(h:Fk w B vp vw np ps)(hb:Below w.heap.size w w'):Fk w' B vp vw np ps:=by
 obtain⟨xs,ho⟩:=h.op;exact⟨⟨xs,Bj ho fun k e=>hb.block k (ho.lt k e).2⟩,Bj h.ow fun k e=>hb.block k (h.ow.lt k e).2,h.ne,fun p hp=>⟨(h.pp p hp).1.below hb,(h.pp p hp).2.below hb⟩,Nat.le_trans h.sz hb.size⟩
theorem Fk.lts {w:World}{B np:Nat}{vp vw:Value}{ps:List Part}(h:Fk w B vp vw np ps):(∀k,vp.ownBlock=some k->B<=k/\k<w.heap.size)∧∀k,vw.ownBlock=some k->B<=k/\k<w.heap.size:=by
 obtain⟨xs,ho⟩:=h.op;exact⟨fun k e=>ho.lt k e,fun k e=>h.ow.lt k e⟩
theorem Fk.pushP {w X:World}{B np:Nat}{vp vp' vw:Value}{ps:List Part}{xs:List Value}(h:Fk w B vp vw np ps)(hown:X.ownsRow B 3 1 vp' (np+1) xs)(hg:w.grownBy X vp.ownBlock)
  (a0:vp'.ownBlock=vp.ownBlock\/vp'.ownBlock=some w.heap.size):Fk X B vp' vw (np+1) ps:=by
 refine⟨⟨xs,hown⟩,Bj h.ow fun k e=>hg.block k (h.ow.lt k e).2 (fun e'=>h.ne k e'.symm e),fun k e e'=> ?_,fun p hp=>⟨(h.pp p hp).1.grown hg a0,(h.pp p hp).1.word_grown hg,(h.pp p hp).2.2⟩,Nat.le_trans h.sz hg.size⟩
 rcases a0 with q|q
 ·exact h.ne k (q▸e) e'
 ·rw[q]at e;injection e with e;have:=(h.ow.lt k e').2;omega
theorem Fk.pushW {w X:World}{B np:Nat}{vp vw vw':Value}{ps:List Part}{q:Part}(h:Fk w B vp vw np ps)(hq:Et vp w q/\Et vw w q)(hown:X.ownsRow B 28 1 vw' (ps.length+1) (ps.map Part.val++[q.val]))(hg:w.grownBy X vw.ownBlock)
  (a0:vw'.ownBlock=vw.ownBlock\/vw'.ownBlock=some w.heap.size):Fk X B vp vw' np (ps++[q])/\Et vp X q/\Et vw' X q:=by
 obtain⟨xs,ho⟩:=h.op;refine⟨⟨⟨xs,Bj ho fun k e=>hg.block k (ho.lt k e).2 (fun e'=>h.ne k e e'.symm)⟩,by simpa using hown,fun k e e'=> ?_,fun p hp=> ?_,Nat.le_trans h.sz hg.size⟩,⟨hq.2.word_grown hg,hq.1.2⟩,hq.2.grown hg a0⟩
 ·rcases a0 with u|u
  ·exact h.ne k e (u▸e')
  ·rw[u]at e';injection e' with e';have:=(ho.lt k e).2;omega
 ·rcases List.mem_append.1 hp with hp|hp
  ·exact⟨⟨(h.pp p hp).2.word_grown hg,(h.pp p hp).1.2⟩,(h.pp p hp).2.grown hg a0⟩
  ·obtain rfl:p=q:=by simpa using hp
   exact⟨⟨hq.2.word_grown hg,hq.1.2⟩,hq.2.grown hg a0⟩
theorem Fk.fresh {w w':World}{B np:Nat}{vp vw:Value}{ps:List Part}{q:Part}(h:Fk w B vp vw np ps)(hq:Ak w' q.1 q.2.1 q.2.2.1 q.2.2.2)(hf:∀ad,q.1=some ad->w.heap.size<=ad.block):Et vp w' q/\Et vw w' q:=
 ⟨⟨hq,fun ad had _ e=>by have:=(h.lts.1 _ e).2;have:=hf ad had;omega⟩,hq,fun ad had _ e=>by have:=(h.lts.2 _ e).2;have:=hf ad had;omega⟩
theorem Fk.words {w:World}{B np n c:Nat}{vp:Value}{A:Option Addr}{ps:List Part}(h:Fk w B vp (.slice A n c) np ps)(hn:n=ps.length):Bs w A n c (ps.map Part.word):=by
 subst hn;exact Bs.mk (Az.of_own h.ow (by decide)) (fun p hp=>(h.pp p hp).1.1)
def trM (l:Bi)(ws:List Snd):Int×List (List Snd):=if(E0 l ws 80 (Ca l ws)).2 then(11,[])else(0,(E0 l ws 80 (Ca l ws)).1.map (·.2))
def Ac6 (w:World)(r:Int×List (List Snd))(e:Ending)(w':World):Prop:=
 ∃vp A n c,e= .returned (.tuple #[vp, .slice A n c, .int .i64 r.1])/\Bs w' A n c r.2/\Below w.heap.size w w'
def Ab8:Value->Nat
 | .slice _ n _=>n
 |_=>0
theorem Aep (l:Bi)(a:Dq)(A:Option Addr)(n c:Nat)(ws:List Snd)(w:World)(hl:Df w l a)(hw:Ak w A n c ws)(hu:Ps l)(hwu:Ck ws)(hv:Cc l=0)(hck:B4 ws=0)(hmode:l.mode=2):
  Calls Tryz.prog 193 #[Eg l a, .slice A n c] w (Ac6 w (trM l ws)):=by
 obtain⟨m8,m6,j7,f1⟩:=Qw hv;obtain⟨b5,j6⟩:=Fa.1 hck;have j8:ws.length=n:=hw.len;rw[j8]at b5;have H2:Hid (l.mode≠1):=by show _≠_;rw[hmode];decide
 have H3:Hid (l.mode=2):=hmode;have g9:=hI j7;have k2:=hI (Cy.start l ws (by omega));have m1:Hid (Ca l ws=⟨0,0,0,ws⟩):=by show _=_;unfold Ca;rw[if_neg (by rw[hmode];decide)]
 have g8:=hI f1;clear f1;have HL:=hI hl;clear hl;have HU:=hI hu;clear hu;have HV:=hI hv;clear hv j7 hck hmode j8;obtain⟨Wb,k8,i5,k0,b2,m2⟩:=D6 w l a;obtain⟨d0,d1,d2,d3⟩:=Bu i5;have g4:=hI i5;clear i5;have g7:=hI k0;clear k0;have m0:Hid (Df Wb l a):=HL.out.below b2 rr;have HW:Hid (Ak Wb A n c ws):=hw.below b2 rr;clear hw HL;have k6:Hid (Ck ws/\OkW ws):=⟨hwu,j6⟩;clear hwu j6;go_enter Tryz.func193,Tryz.ntmps193;go_wp2_with fail;clear k8 d0 d1 d2 d3
 go_loopw [1,7,8,10] (fun u1 vp vw i wr=>∃(p:Nat) (nx sh:Int) (now:List Snd) (done:List (Int×List Snd)) (ps:List Part) (A1:Option Addr) (n1 c1:Nat),u1= .slice A1 n1 c1/\i= .int .i64 p/\Hid (Fk wr Wb.heap.size vp vw done.length ps)/\Hid (ps.map Part.word=done.map (·.2))∧
  Hid (Cy l ws ⟨p,nx,sh,now⟩ done)/\Hid (Et vp wr (A1,n1,c1,now)/\Et vw wr (A1,n1,c1,now))/\n1<=32/\p<=33/\Hid (Ck now/\OkW now)/\Below Wb.heap.size Wb wr) (fun u1 _ _ i _=>Ab8 u1+1-(intOf i).toNat)
 case atStart=>exact⟨0,0,0,ws,[],[],A,n,c,rfl,rfl,Fk.nil _,rfl,(by show Cy _ _ _ _;have:=k2.out;rwa[m1.out]at this),⟨⟨HW.out,fun ad _ _ h=>by cases h⟩,HW.out,fun ad _ _ h=>by cases h⟩,b5,by omega,k6,Below.refl _ _⟩
 case round=>
  obtain⟨p,nx,sh,now,done,ps,A1,n1,c1,rfl,rfl,f8,g1,f5,b6,k1,hp,b3,hB⟩:=hrel;have k7:=hB.size;have i9:=(hB.block _ g7.out).trans g4.out;have i6:Hid (now.length=n1):=b6.out.1.1.len;have j3:=(m0.out.below hB rr);have i2:=hI j3;clear j3;have H1:=hI i9;clear i9;by_cases hfin:p+l.ifs.length<=n1
  ·have d9:E7 l ws ⟨p,nx,sh,now⟩=false:=by unfold E7;rw[if_neg H2.out,if_pos H3.out];have:=i6.out;simp;omega
   have g3:=hI d9;clear d9;have b4:(p:Int)+(l.ifs.length:Int)<=(n1:Int):=by omega
   go_wp2_with(refine Eo rfl (.tmp 2) rfl w.heap.size l a rfl H1.out ?_);refine(Xi l a A1 n1 c1 now p wr i2.out b6.out.1.1 HU.out b3.out.1 (by omega) (by omega) (by omega)).mono ?_;rintro e w2 ⟨rfl,b0⟩;have i0:=hB.trans (b0.mono k7);have f9:Hid (w2.heap[w.heap.size]? =some (.cells (Bw l a) 55 (0,0))):=(b0.block _ (lt_of_block H1.out)).trans H1.out;have j5:Hid (Df w2 l a):=i2.out.below b0 rr;have a4:Hid (Fk w2 Wb.heap.size u7 u8 done.length ps):=f8.out.below b0;have a9:Hid (Et u7 w2 (A1,n1,c1,now)/\Et u8 w2 (A1,n1,c1,now)):=⟨b6.out.1.below b0,b6.out.2.below b0⟩;clear b0 i2 H1 f8 b6
   cases hh:Ez l now p with
   |false=>
    have k3:Hid (Cy l ws ⟨(p+1:Nat),nx,sh,now⟩ done):=by
     refine f5.out.skip g9.out g3.out ?_;unfold C6;rw[if_neg H2.out,if_pos H3.out,if_neg (by rw[Int.toNat_natCast,hh];decide)];simp
    clear hh;go_wp2
    go_roundw
    case rel=>exact⟨p+1,nx,sh,now,done,ps,A1,n1,c1,rfl,by go_num,a4,g1,k3,a9,k1,by omega,b3,i0⟩
    case measure=>simp[intOf,Ab8];omega
   |true=>
    have j2:C6 l ws ⟨p,nx,sh,now⟩=(some ((p:Int),Bb l now p),⟨(p:Int)+l.outs.length+(if l.ifs.length=0 then 1 else 0),nx,sh,Bb l now p⟩):=by
     unfold C6;rw[if_neg H2.out,if_pos H3.out,if_pos (by rw[Int.toNat_natCast,hh])];rfl
    have f6:=hI j2;clear j2;have g5:=Lr hh;have HH:=hI hh;clear hh;go_wp2_with(refine Eo rfl (.tmp 2) rfl w.heap.size l a rfl f9.out ?_);refine(Ru l a A1 n1 c1 now p w2 j5.out a9.out.1.1 g8.out (by omega) hfin (by omega) HU.out b3.out.1 b3.out.2).mono ?_;rintro e w3 ⟨A3,n3,c3,rfl,g2,g0,j1⟩;have b9:=i0.trans (g0.mono i0.size);have k9:Hid (w3.heap[w.heap.size]? =some (.cells (Bw l a) 55 (0,0))):=(g0.block _ (lt_of_block f9.out)).trans f9.out;have a3:Hid (Fk w3 Wb.heap.size u7 u8 done.length ps):=a4.out.below g0;have a6:Hid (Et u7 w3 (A3,n3,c3,Bb l now p)/\Et u8 w3 (A3,n3,c3,Bb l now p)):=a4.out.fresh g2 j1;have d8:Hid (Ck (Bb l now p)/\OkW (Bb l now p)):=⟨Hp b3.out.1,Gr HV.out b3.out.2⟩;have m3:n3+l.ifs.length=n1+l.outs.length:=by have h1:=g2.len;have h2:=i6.out;omega
    have f0:Hid ((Bb l now p).length=n3):=g2.len;clear g0 j1 g2 a4 a9 j5 f9 g5;by_cases h32:32<n3
    ·have a2:trM l ws=(11,[]):=by unfold trM;rw[if_pos (f5.out.long g9.out g3.out f6.out (by rw[f0.out];exact h32))]
     have a1:=hI a2;clear a2;go_wp2
     go_ret3
     refine⟨.slice none 0 0,none,0,0, ?_, ?_,b2.trans (b9.mono b2.size)⟩
     ·rw[a1.out];rfl
     ·rw[a1.out];exact Bs.nil _
    ·have i8:Hid (Cy l ws ⟨(p:Int)+l.outs.length+(if l.ifs.length=0 then 1 else 0),nx,sh,Bb l now p⟩ (done++[((p:Int),Bb l now p)])):=f5.out.step g9.out g3.out f6.out (by rw[f0.out];omega);have m4:done.length<=80:=done_len f5.out;have j4:ps.length=done.length:=by have:=congrArg List.length g1.out;simpa using this
     have m5:=hI j4;have m7:ps.length<=80:=by omega
     clear j4;obtain⟨xs,j9⟩:=a3.out.op;have j0:=hI j9;clear j9;go_wp2_with(at_builtin;refine Eu rfl (.tmp 34) (.tmp 36) rfl Wb.heap.size u7 done.length xs rfl (j0.out.alloc _) ⟨w3.heap.size,0,none⟩ 1 (.int .i64 p) rfl (cell_one_new _ _ _) rfl (by omega) ?hz1 ?hc1)
     case hz1=>have:=b9.size;simp;omega
     case hc1=>
      intro v4 w4 a7 f7 d4;have d7:v4.ownBlock=u7.ownBlock\/v4.ownBlock=some (w3.alloc (.cells #[.int .i64 p] 3)).heap.size:=d4.imp id (fun e=>e.trans (by simp));have a0:Below w3.heap.size w3 (w3.alloc (.cells #[.int .i64 p] 3)):=(Below.refl _ _).alloc rr _;have a5:Hid (Fk w4 Wb.heap.size v4 u8 (done.length+1) ps):=(a3.out.below a0).pushP a7 f7 d7;have b1:Hid (Et v4 w4 (A3,n3,c3,Bb l now p)/\Et u8 w4 (A3,n3,c3,Bb l now p)):=⟨(a6.out.1.below a0).grown f7 d7,(a6.out.1.below a0).word_grown f7,a6.out.2.2⟩;have b8:=(a3.out.below a0).lts.1;have d5:Below Wb.heap.size Wb w4:=(b9.trans (a0.mono b9.size)).grown f7 (by have:=b9.size;simp;omega) (fun k hk=>(b8 k hk).1);have k4:Hid (w4.heap[w.heap.size]? =some (.cells (Bw l a) 55 (0,0))):=(d5.block _ g7.out).trans g4.out;clear a7 f7 d4 b8 a0 a3 a6 j0 k9;go_wp2_with(at_builtin;refine He rfl (.tmp 38) (.tmp 40) rfl Wb.heap.size u8 ps.length _ rfl (a5.out.ow.alloc _) ⟨w4.heap.size,0,none⟩ 1 (.slice A3 n3 c3) rfl (cell_one_new _ _ _) rfl (by omega) ?hz2 ?hc2)
      case hz2=>have:=d5.size;simp;omega
      case hc2=>
       intro v5 w5 a8 i7 f2;have i4:v5.ownBlock=u8.ownBlock\/v5.ownBlock=some (w4.alloc (.cells #[.slice A3 n3 c3] 28)).heap.size:=f2.imp id (fun e=>e.trans (by simp));have a0:Below w4.heap.size w4 (w4.alloc (.cells #[.slice A3 n3 c3] 28)):=(Below.refl _ _).alloc rr _;have h5:=(a5.out.below a0).pushW (q:=(A3,n3,c3,Bb l now p)) ⟨b1.out.1.below a0,b1.out.2.below a0⟩ a8 i7 i4;have H5:=hI h5;clear h5;have f3:=(a5.out.below a0).lts.2;have i3:Below Wb.heap.size Wb w5:=(d5.trans (a0.mono d5.size)).grown i7 (by have:=d5.size;simp;omega) (fun k hk=>(f3 k hk).1);have k5:Hid (w5.heap[w.heap.size]? =some (.cells (Bw l a) 55 (0,0))):=(i3.block _ g7.out).trans g4.out;have b7:Hid ((ps++[((A3,n3,c3,Bb l now p):Part)]).map Part.word=(done++[((p:Int),Bb l now p)]).map (·.2)):=by show _=_;rw[List.map_append,List.map_append,g1.out];rfl
       have d6:Hid (Fk w5 Wb.heap.size v4 v5 (done++[((p:Int),Bb l now p)]).length (ps++[((A3,n3,c3,Bb l now p):Part)])):=by show Fk _ _ _ _ _ _;rw[List.length_append];exact H5.out.1
       clear a8 i7 f2 f3 a0 a5 b1 k4;obtain⟨d0,d1,d2,d3⟩:=Bu k5.out;by_cases hk0:l.ifs.length=0
       ·have g6:Hid (Cy l ws ⟨(p+l.outs.length+1:Nat),nx,sh,Bb l now p⟩ (done++[((p:Int),Bb l now p)])):=by
         have:=i8.out
         rw[if_pos hk0]at this;show Cy _ _ _ _;rw[show((p+l.outs.length+1:Nat):Int)=(p:Int)+l.outs.length+1 by omega];exact this
        have i1:((l.ifs.length:Int)==0)=true:=by rw[hk0];rfl
        have f4:l.ifs.length<=0:=by omega
        clear hk0;go_wp2
        go_roundw
        case rel=>exact⟨p+l.outs.length+1,nx,sh,Bb l now p,_,_,A3,n3,c3,rfl,by go_num,d6,b7,g6,⟨H5.out.2.1,H5.out.2.2⟩,by omega,by omega,d8,i3⟩
        case measure=>simp[intOf,Ab8];omega
       ·have g6:Hid (Cy l ws ⟨(p+l.outs.length:Nat),nx,sh,Bb l now p⟩ (done++[((p:Int),Bb l now p)])):=by
         have:=i8.out
         rw[if_neg hk0]at this;show Cy _ _ _ _;rw[show((p+l.outs.length:Nat):Int)=(p:Int)+l.outs.length+0 by omega];exact this
        have i1:((l.ifs.length:Int)==0)=false:=by simpa using hk0
        have f4:1<=l.ifs.length:=by omega
        clear hk0;go_wp2
        go_roundw
        case rel=>exact⟨p+l.outs.length,nx,sh,Bb l now p,_,_,A3,n3,c3,rfl,by go_num,d6,b7,g6,⟨H5.out.2.1,H5.out.2.2⟩,by omega,by omega,d8,i3⟩
        case measure=>simp[intOf,Ab8];omega
  ·have d9:E7 l ws ⟨p,nx,sh,now⟩=true:=by unfold E7;rw[if_neg H2.out,if_pos H3.out];have:=i6.out;simp;omega
   have a2:trM l ws=(0,done.map (·.2)):=by unfold trM;rw[f5.out.fin d9];rfl
   have a1:=hI a2;clear a2 d9;have b4:¬((p:Int)+(l.ifs.length:Int)<=(n1:Int)):=by omega
   obtain⟨A8,c8,rfl⟩:=Bh f8.out.ow;go_wp2
   go_ret3
   refine⟨u7,A8,ps.length,c8, ?_, ?_,b2.trans (hB.mono b2.size)⟩
   ·rw[a1.out];rfl
   ·rw[a1.out];show Bs _ _ _ _ (done.map (·.2));rw[←g1.out];exact f8.out.words rfl
theorem Ail (l:Bi)(a:Dq)(A:Option Addr)(n c:Nat)(ws:List Snd)(w:World)(hl:Df w l a)(hw:Ak w A n c ws)(hu:Ps l)(hwu:Ck ws)(hv:Cc l=0)(hck:B4 ws=0)(hmode:l.mode=3):
  Calls Tryz.prog 194 #[Eg l a, .slice A n c] w (Ac6 w (trM l ws)):=by
 obtain⟨o1,m8,j9,f1⟩:=Qw hv;obtain⟨b5,j8⟩:=Fa.1 hck;have i5:ws.length=n:=hw.len;rw[i5]at b5;have H2:Hid (l.mode≠1):=by show _≠_;rw[hmode];decide
 have g3:Hid (l.mode≠2):=by show _≠_;rw[hmode];decide
 have H3:Hid (l.mode=3):=hmode;have i0:=hI j9;have k4:=hI (Cy.start l ws (by omega));have m3:Hid (Ca l ws=⟨(n:Int)-l.ifs.length,0,0,ws⟩):=by show _=_;unfold Ca;rw[if_pos hmode,i5]
 have g9:=hI f1;clear f1;have HL:=hI hl;clear hl;have HU:=hI hu;clear hu;have HV:=hI hv;clear hv j9 hck hmode i5;obtain⟨Wb,m0,i7,k2,b3,m4⟩:=D6 w l a;obtain⟨d0,d1,d2,d3⟩:=Bu i7;have g5:=hI i7;clear i7;have g8:=hI k2;clear k2;have m2:Hid (Df Wb l a):=HL.out.below b3 rr;have HW:Hid (Ak Wb A n c ws):=hw.below b3 rr;clear hw HL;have k8:Hid (Ck ws/\OkW ws):=⟨hwu,j8⟩;clear hwu j8;go_enter Tryz.func194,Tryz.ntmps194;go_wp2_with fail;clear m0 d0 d1 d2 d3
 go_loopw [1,7,8,10] (fun u1 vp vw i wr=>∃(q:Int) (nx sh:Int) (now:List Snd) (done:List (Int×List Snd)) (ps:List Part) (A1:Option Addr) (n1 c1:Nat),u1= .slice A1 n1 c1/\i= .int .i64 q/\Hid (Fk wr Wb.heap.size vp vw done.length ps)/\Hid (ps.map Part.word=done.map (·.2))∧
  Hid (Cy l ws ⟨q,nx,sh,now⟩ done)/\Hid (Et vp wr (A1,n1,c1,now)/\Et vw wr (A1,n1,c1,now))/\n1<=32/\q<=33∧ -40<=q/\Hid (Ck now/\OkW now)/\Below Wb.heap.size Wb wr) (fun _ _ _ i _=>(intOf i+1).toNat)
 case atStart=>exact⟨(n:Int)-l.ifs.length,0,0,ws,[],[],A,n,c,rfl,rfl,Fk.nil _,rfl,(by show Cy _ _ _ _;have:=k4.out;rwa[m3.out]at this),⟨⟨HW.out,fun ad _ _ h=>by cases h⟩,HW.out,fun ad _ _ h=>by cases h⟩,b5,by omega,by omega,k8,Below.refl _ _⟩
 case round=>
  obtain⟨q,nx,sh,now,done,ps,A1,n1,c1,rfl,rfl,f8,g1,f5,b6,k3,hp,o0,b4,hB⟩:=hrel;have k9:=hB.size;have j1:=(hB.block _ g8.out).trans g5.out;have k1:Hid (now.length=n1):=b6.out.1.1.len;have j5:=(m2.out.below hB rr);have i3:=hI j5;clear j5;have H1:=hI j1;clear j1;by_cases a5:0<=q
  ·obtain⟨p,rfl⟩:∃p:Nat,q=p:=⟨q.toNat,by omega⟩;clear a5;have d9:E7 l ws ⟨p,nx,sh,now⟩=false:=by unfold E7;rw[if_neg H2.out,if_neg g3.out,if_pos H3.out];simp
   have g4:=hI d9;clear d9;go_wp2_with(refine Eo rfl (.tmp 2) rfl w.heap.size l a rfl H1.out ?_);refine(Xi l a A1 n1 c1 now p wr i3.out b6.out.1.1 HU.out b4.out.1 (by omega) (by omega) (by omega)).mono ?_;rintro e w2 ⟨rfl,b1⟩;have i1:=hB.trans (b1.mono k9);have f9:Hid (w2.heap[w.heap.size]? =some (.cells (Bw l a) 55 (0,0))):=(b1.block _ (lt_of_block H1.out)).trans H1.out;have j7:Hid (Df w2 l a):=i3.out.below b1 rr;have a4:Hid (Fk w2 Wb.heap.size u7 u8 done.length ps):=f8.out.below b1;have b0:Hid (Et u7 w2 (A1,n1,c1,now)/\Et u8 w2 (A1,n1,c1,now)):=⟨b6.out.1.below b1,b6.out.2.below b1⟩;clear b1 i3 H1 f8 b6
   cases hh:Ez l now p with
   |false=>
    have k5:Hid (Cy l ws ⟨(p:Int)-1,nx,sh,now⟩ done):=by
     refine f5.out.skip i0.out g4.out ?_;unfold C6;rw[if_neg H2.out,if_neg g3.out,if_neg (by rw[Int.toNat_natCast,hh];decide)]
    clear hh;go_wp2
    go_roundw
    case rel=>exact⟨(p:Int)-1,nx,sh,now,done,ps,A1,n1,c1,rfl,by go_num,a4,g1,k5,b0,k3,by omega,by omega,b4,i1⟩
    case measure=>simp[intOf,Ab8]<;>omega
   |true=>
    have j4:C6 l ws ⟨p,nx,sh,now⟩=(some ((p:Int),Bb l now p),⟨(p:Int)-max (l.ifs.length:Int) 1,nx,sh,Bb l now p⟩):=by
     unfold C6;rw[if_neg H2.out,if_neg g3.out,if_pos (by rw[Int.toNat_natCast,hh])];rfl
    have f6:=hI j4;clear j4;have g6:=Lr hh;have a5:p+l.ifs.length<=n1:=by have:=Mo hh;have:=k1.out;omega
    have HH:=hI hh;clear hh;go_wp2_with(refine Eo rfl (.tmp 2) rfl w.heap.size l a rfl f9.out ?_);refine(Ru l a A1 n1 c1 now p w2 j7.out b0.out.1.1 g9.out (by omega) a5 (by omega) HU.out b4.out.1 b4.out.2).mono ?_;rintro e w3 ⟨A3,n3,c3,rfl,g2,g0,j3⟩;have b9:=i1.trans (g0.mono i1.size);have m1:Hid (w3.heap[w.heap.size]? =some (.cells (Bw l a) 55 (0,0))):=(g0.block _ (lt_of_block f9.out)).trans f9.out;have a3:Hid (Fk w3 Wb.heap.size u7 u8 done.length ps):=a4.out.below g0;have a7:Hid (Et u7 w3 (A3,n3,c3,Bb l now p)/\Et u8 w3 (A3,n3,c3,Bb l now p)):=a4.out.fresh g2 j3;have d8:Hid (Ck (Bb l now p)/\OkW (Bb l now p)):=⟨Hp b4.out.1,Gr HV.out b4.out.2⟩;have m5:n3+l.ifs.length=n1+l.outs.length:=by have h1:=g2.len;have h2:=k1.out;omega
    have f0:Hid ((Bb l now p).length=n3):=g2.len;clear g0 j3 g2 a4 b0 j7 f9 g6;by_cases h32:32<n3
    ·have a2:trM l ws=(11,[]):=by unfold trM;rw[if_pos (f5.out.long i0.out g4.out f6.out (by rw[f0.out];exact h32))]
     have a1:=hI a2;clear a2;go_wp2
     go_ret3
     refine⟨.slice none 0 0,none,0,0, ?_, ?_,b3.trans (b9.mono b3.size)⟩
     ·rw[a1.out];rfl
     ·rw[a1.out];exact Bs.nil _
    ·have i9:Hid (Cy l ws ⟨(p:Int)-max (l.ifs.length:Int) 1,nx,sh,Bb l now p⟩ (done++[((p:Int),Bb l now p)])):=f5.out.step i0.out g4.out f6.out (by rw[f0.out];omega);have m6:done.length<=80:=done_len f5.out;have j6:ps.length=done.length:=by have:=congrArg List.length g1.out;simpa using this
     have m7:=hI j6;have m9:ps.length<=80:=by omega
     clear j6;obtain⟨xs,k0⟩:=a3.out.op;have j2:=hI k0;clear k0;go_wp2_with(at_builtin;refine Eu rfl (.tmp 34) (.tmp 36) rfl Wb.heap.size u7 done.length xs rfl (j2.out.alloc _) ⟨w3.heap.size,0,none⟩ 1 (.int .i64 p) rfl (cell_one_new _ _ _) rfl (by omega) ?hz1 ?hc1)
     case hz1=>have:=b9.size;simp;omega
     case hc1=>
      intro v4 w4 a8 f7 d4;have d7:v4.ownBlock=u7.ownBlock\/v4.ownBlock=some (w3.alloc (.cells #[.int .i64 p] 3)).heap.size:=d4.imp id (fun e=>e.trans (by simp));have a0:Below w3.heap.size w3 (w3.alloc (.cells #[.int .i64 p] 3)):=(Below.refl _ _).alloc rr _;have a6:Hid (Fk w4 Wb.heap.size v4 u8 (done.length+1) ps):=(a3.out.below a0).pushP a8 f7 d7;have b2:Hid (Et v4 w4 (A3,n3,c3,Bb l now p)/\Et u8 w4 (A3,n3,c3,Bb l now p)):=⟨(a7.out.1.below a0).grown f7 d7,(a7.out.1.below a0).word_grown f7,a7.out.2.2⟩;have b8:=(a3.out.below a0).lts.1;have d5:Below Wb.heap.size Wb w4:=(b9.trans (a0.mono b9.size)).grown f7 (by have:=b9.size;simp;omega) (fun k hk=>(b8 k hk).1);have k6:Hid (w4.heap[w.heap.size]? =some (.cells (Bw l a) 55 (0,0))):=(d5.block _ g8.out).trans g5.out;clear a8 f7 d4 b8 a0 a3 a7 j2 m1;go_wp2_with(at_builtin;refine He rfl (.tmp 38) (.tmp 40) rfl Wb.heap.size u8 ps.length _ rfl (a6.out.ow.alloc _) ⟨w4.heap.size,0,none⟩ 1 (.slice A3 n3 c3) rfl (cell_one_new _ _ _) rfl (by omega) ?hz2 ?hc2)
      case hz2=>have:=d5.size;simp;omega
      case hc2=>
       intro v5 w5 a9 i8 f2;have i6:v5.ownBlock=u8.ownBlock\/v5.ownBlock=some (w4.alloc (.cells #[.slice A3 n3 c3] 28)).heap.size:=f2.imp id (fun e=>e.trans (by simp));have a0:Below w4.heap.size w4 (w4.alloc (.cells #[.slice A3 n3 c3] 28)):=(Below.refl _ _).alloc rr _;have h5:=(a6.out.below a0).pushW (q:=(A3,n3,c3,Bb l now p)) ⟨b2.out.1.below a0,b2.out.2.below a0⟩ a9 i8 i6;have H5:=hI h5;clear h5;have f3:=(a6.out.below a0).lts.2;have i4:Below Wb.heap.size Wb w5:=(d5.trans (a0.mono d5.size)).grown i8 (by have:=d5.size;simp;omega) (fun k hk=>(f3 k hk).1);have k7:Hid (w5.heap[w.heap.size]? =some (.cells (Bw l a) 55 (0,0))):=(i4.block _ g8.out).trans g5.out;have b7:Hid ((ps++[((A3,n3,c3,Bb l now p):Part)]).map Part.word=(done++[((p:Int),Bb l now p)]).map (·.2)):=by show _=_;rw[List.map_append,List.map_append,g1.out];rfl
       have d6:Hid (Fk w5 Wb.heap.size v4 v5 (done++[((p:Int),Bb l now p)]).length (ps++[((A3,n3,c3,Bb l now p):Part)])):=by show Fk _ _ _ _ _ _;rw[List.length_append];exact H5.out.1
       clear a9 i8 f2 f3 a0 a6 b2 k6;obtain⟨d0,d1,d2,d3⟩:=Bu k7.out;by_cases hk0:l.ifs.length=0
       ·have g7:Hid (Cy l ws ⟨(p:Int)-l.ifs.length-1,nx,sh,Bb l now p⟩ (done++[((p:Int),Bb l now p)])):=by
         have:=i9.out
         show Cy _ _ _ _;rw[show(p:Int)-l.ifs.length-1=(p:Int)-max (l.ifs.length:Int) 1 by omega];exact this
        have i2:((l.ifs.length:Int)==0)=true:=by rw[hk0];rfl
        have f4:l.ifs.length<=0:=by omega
        clear hk0;go_wp2
        go_roundw
        case rel=>exact⟨(p:Int)-l.ifs.length-1,nx,sh,Bb l now p,_,_,A3,n3,c3,rfl,by go_num,d6,b7,g7,⟨H5.out.2.1,H5.out.2.2⟩,by omega,by omega,by omega,d8,i4⟩
        case measure=>simp[intOf,Ab8];omega
       ·have g7:Hid (Cy l ws ⟨(p:Int)-l.ifs.length,nx,sh,Bb l now p⟩ (done++[((p:Int),Bb l now p)])):=by
         have:=i9.out
         show Cy _ _ _ _;rw[show(p:Int)-l.ifs.length=(p:Int)-max (l.ifs.length:Int) 1 by omega];exact this
        have i2:((l.ifs.length:Int)==0)=false:=by simpa using hk0
        have f4:1<=l.ifs.length:=by omega
        clear hk0;go_wp2
        go_roundw
        case rel=>exact⟨(p:Int)-l.ifs.length,nx,sh,Bb l now p,_,_,A3,n3,c3,rfl,by go_num,d6,b7,g7,⟨H5.out.2.1,H5.out.2.2⟩,by omega,by omega,by omega,d8,i4⟩
        case measure=>simp[intOf,Ab8];omega
  ·have d9:E7 l ws ⟨q,nx,sh,now⟩=true:=by unfold E7;rw[if_neg H2.out,if_neg g3.out,if_pos H3.out];simp;omega
   have a2:trM l ws=(0,done.map (·.2)):=by unfold trM;rw[f5.out.fin d9];rfl
   have a1:=hI a2;clear a2 d9;have j0:¬(0<=q):=a5;obtain⟨A8,c8,rfl⟩:=Bh f8.out.ow;go_wp2
   go_ret3
   refine⟨u7,A8,ps.length,c8, ?_, ?_,b3.trans (hB.mono b3.size)⟩
   ·rw[a1.out];rfl
   ·rw[a1.out];show Bs _ _ _ _ (done.map (·.2));rw[←g1.out];exact f8.out.words rfl
section at_
variable {P:Program}(w:World)
theorem M4 (base:Nat)(t ty e:TypeId)(i:TypeInfo)(z:Value)(sz bytes:Nat)(ht:P.underlying t=some (.slice e))(hi:P.info? e=some i)(hz:i.zero=some z)
  (hsize:i.size=sz) (hby:i.bytes=bytes) (hzs:z.cells.size=sz) (hsz:0<sz)
  (v:Value) (n:Nat) (xs:List Value) (hown:w.ownsRow base e sz v n xs)
  (A:Option Addr) (m c:Nat) (news:List Value) (hr:Az w A m c sz news) (h1:∀u∈news,u.oneCell'=true)
  (h63:n+m<=maxLen) (hbytes:(n+m)*bytes<=140737488355328) (hbase:base<=w.heap.size):
  ∃v' w',(Builtin.append_ #[t,t] ty #[v, .slice A m c]).run P w= .ok v' w'/\w'.ownsRow base e sz v' (n+m) (xs++news)/\w.grownBy w' v.ownBlock∧
   (v'.ownBlock=v.ownBlock\/v'.ownBlock=some w.heap.size):=by
 obtain⟨a0,h2,h3,h4,h5⟩:=hr;rcases Nat.eq_zero_or_pos m with hm|hm
 ·subst hm;have hn:news=[]:=List.eq_nil_of_length_eq_zero (by simpa using a0);subst hn
  cases A with
  |none=>exact⟨v,w,Kf w base t ty e i sz ht hi v n xs hown c,by simpa using hown,⟨rfl,rfl,rfl,rr,fun _ _ _=>rfl⟩, .inl rfl⟩
  |some ad=>
   obtain⟨v',w',q1,q2,q3,_,q4⟩:=run_append_own_at w base t ty e i z sz bytes ht hi hz hsize hby hzs hsz v n xs hown ad 0 c [] (by simp) (by simp) (by simp) h63 hbytes hbase;exact⟨v',w',q1,q2,q3,q4⟩
 ·obtain⟨b,off,rfl,_,hc⟩:=h5 hm;obtain⟨v',w',q1,q2,q3,_,q4⟩:=run_append_own_at w base t ty e i z sz bytes ht hi hz hsize hby hzs hsz v n xs hown ⟨b,off,none⟩ m c news a0 (fun j u hu=>by rw[Ht];exact hc j u hu) h1 h63 hbytes hbase;exact⟨v',w',q1,q2,q3,q4⟩
end at_
theorem G4 {o:Oper}{a:Act}{K:Act->World->Prop}{Q:Exit->Act->World->Prop}(w:World)(s x:Operand)
  (ho:o.op= .call {callee:= .builtin .append,args:= #[s,x],argTypes:= #[28,28]})
  (base:Nat) (v:Value) (n:Nat) (xs:List Snd) (hs:a.eval s=v) (hown:w.ownsRow base 49 2 v n (B6 xs))
  (A:Option Addr) (m c:Nat) (ys:List Snd) (hx:a.eval x= .slice A m c) (hr:Ak w A m c ys) (hl:n+m<=4096) (hbase:base<=w.heap.size)
  (h:∀v' w',w'.ownsRow base 49 2 v' (n+m) (B6 (xs++ys))->w.grownBy w' v.ownBlock->(v'.ownBlock=v.ownBlock\/v'.ownBlock=some w.heap.size)→
   K (a.put o.dst v') w'):o.wp Tryz.prog a w K Q:=by
 obtain⟨i0,hi,a2,a3,a1⟩:=info_parts N6
 obtain⟨v',w',a0,h2,h3,h4⟩:=M4 (P:=Tryz.prog) w base 28 o.type 49 i0 _ 2 8 Tryz.underlying28 hi a2 a3 a1 rfl (by decide) v n (B6 xs) hown A m c (B6 ys) hr
  (Lb ys) (by unfold maxLen;omega) (by omega) hbase
 unfold Oper.wp execOp;simp only[ho,resolve,invoke,builtin,Sem.run_bind,Sem.run_pure,Result.andThen_ok,List.map_toArray,List.map_cons,List.map_nil,hs,hx,a0];rw[←Hq]at h2;exact h v' w' h2 h3 h4
theorem Nc {ops:Array Oper}{rest:List Oper}{o:Oper}{a:Act}{w:World}{Q:Exit->Act->World->Prop}(hgd:o.guard=none)(s x:Operand)
  (ho:o.op= .call {callee:= .builtin .append,args:= #[s,x],argTypes:= #[28,28]})
  (base:Nat) (v:Value) (n:Nat) (xs:List Snd) (hs:a.eval s=v) (hown:w.ownsRow base 49 2 v n (B6 xs))
  (A:Option Addr) (m c:Nat) (ys:List Snd) (hx:a.eval x= .slice A m c) (hr:Ak w A m c ys) (hl:n+m<=4096) (hbase:base<=w.heap.size)
  (h:∀v' w',w'.ownsRow base 49 2 v' (n+m) (B6 (xs++ys))->w.grownBy w' v.ownBlock->(v'.ownBlock=v.ownBlock\/v'.ownBlock=some w.heap.size)→
   wpList Tryz.prog ops Q rest (a.put o.dst v') w'):wpList Tryz.prog ops Q (o::rest) a w:=
 wpList_plain hgd fun _ hK=>G4 w s x ho base v n xs hs hown A m c ys hx hr hl hbase fun v' w' h1 h2 h3=>hK _ _ (h v' w' h1 h2 h3)
structure Ja (w:World)(B:Nat)(vp vw vo:Value)(np:Nat)(ps:List Part)(no:Nat)(out:List Snd):Prop where
 tr:Fk w B vp vw np ps
 oo:w.ownsRow B 49 2 vo no (B6 out)
 on:∀k,vo.ownBlock=some k→¬vp.ownBlock=some k∧¬vw.ownBlock=some k
 fr:∀p∈ps,Et vo w p
theorem Ja.nil (w:World):Ja w w.heap.size (.slice none 0 0) (.slice none 0 0) (.slice none 0 0) 0 [] 0 []:=
 ⟨Fk.nil w,World.ownsRow_nil _ _ _ _,fun k h=>(by cases h),fun p hp=>by simp at hp⟩
section al
variable {w w' X:World}{B np no:Nat}{vp vw vo vp' vw' vo':Value}{ps:List Part}{out out':List Snd}
theorem Ja.below (h:Ja w B vp vw vo np ps no out)(hb:Below w.heap.size w w'):Ja w' B vp vw vo np ps no out:=
 ⟨h.tr.below hb,Bj h.oo fun k e=>hb.block k (h.oo.lt k e).2,h.on,fun p hp=>(h.fr p hp).below hb⟩
theorem Ja.pushP {xs:List Value}(h:Ja w B vp vw vo np ps no out)(hown:X.ownsRow B 3 1 vp' (np+1) xs)(hg:w.grownBy X vp.ownBlock)
  (a0:vp'.ownBlock=vp.ownBlock\/vp'.ownBlock=some w.heap.size):Ja X B vp' vw vo (np+1) ps no out:=by
 refine⟨h.tr.pushP hown hg a0,Bj h.oo fun k e=>hg.block k (h.oo.lt k e).2 (fun e'=>(h.on k e).1 e'.symm),fun k e=>⟨fun e'=> ?_,(h.on k e).2⟩,fun p hp=>⟨(h.tr.pp p hp).1.word_grown hg,(h.fr p hp).2⟩⟩
 rcases a0 with q|q
 ·exact(h.on k e).1 (q▸e')
 ·rw[q]at e';injection e' with e';have:=(h.oo.lt k e).2;omega
theorem Ja.pushW {q:Part}(h:Ja w B vp vw vo np ps no out)(hq:Et vp w q/\Et vw w q)(hqo:Et vo w q)(hown:X.ownsRow B 28 1 vw' (ps.length+1) (ps.map Part.val++[q.val]))(hg:w.grownBy X vw.ownBlock)
  (a0:vw'.ownBlock=vw.ownBlock\/vw'.ownBlock=some w.heap.size):Ja X B vp vw' vo np (ps++[q]) no out:=by
 refine⟨(h.tr.pushW hq hown hg a0).1,Bj h.oo fun k e=>hg.block k (h.oo.lt k e).2 (fun e'=>(h.on k e).2 e'.symm),fun k e=>⟨(h.on k e).1,fun e'=> ?_⟩,fun p hp=> ?_⟩
 ·rcases a0 with u|u
  ·exact(h.on k e).2 (u▸e')
  ·rw[u]at e';injection e' with e';have:=(h.oo.lt k e).2;omega
 ·rcases List.mem_append.1 hp with hp|hp
  ·exact⟨(h.tr.pp p hp).2.word_grown hg,(h.fr p hp).2⟩
  ·obtain rfl:p=q:=by simpa using hp
   exact⟨hq.2.word_grown hg,hqo.2⟩
theorem Ja.growO (h:Ja w B vp vw vo np ps no out){no':Nat}(hown:X.ownsRow B 49 2 vo' no' (B6 out'))(hg:w.grownBy X vo.ownBlock)
  (a0:vo'.ownBlock=vo.ownBlock\/vo'.ownBlock=some w.heap.size):Ja X B vp vw vo' np ps no' out':=by
 have hb:∀k,k<w.heap.size→¬vo.ownBlock=some k->X.heap[k]? =w.heap[k]? :=fun k h1 h2=>hg.block k h1 (fun e=>h2 e.symm)
 obtain⟨xs,ho⟩:=h.tr.op;refine⟨⟨⟨xs,Bj ho fun k e=>hb k (ho.lt k e).2 (fun e'=>(h.on k e').1 e)⟩,Bj h.tr.ow fun k e=>hb k (h.tr.ow.lt k e).2 (fun e'=>(h.on k e').2 e),h.tr.ne,fun p hp=>⟨⟨(h.fr p hp).word_grown hg,(h.tr.pp p hp).1.2⟩,(h.fr p hp).word_grown hg,(h.tr.pp p hp).2.2⟩,Nat.le_trans h.tr.sz hg.size⟩,hown,fun k e=> ?_,fun p hp=>(h.fr p hp).grown hg a0⟩
 rcases a0 with u|u
 ·exact h.on k (u▸e)
 ·rw[u]at e;injection e with e
  exact⟨fun e'=>by have:=(ho.lt k e').2;omega,fun e'=>by have:=(h.tr.ow.lt k e').2;omega⟩
theorem Ja.fresh {q:Part}(h:Ja w B vp vw vo np ps no out)(hq:Ak w' q.1 q.2.1 q.2.2.1 q.2.2.2)(hf:∀ad,q.1=some ad->w.heap.size<=ad.block):(Et vp w' q/\Et vw w' q)/\Et vo w' q:=
 ⟨h.tr.fresh hq hf,hq,fun ad had _ e=>by have:=(h.oo.lt _ e).2;have:=hf ad had;omega⟩
end al
def Dn (l:Bi)(ws:List Snd)(p:Nat)(out:List Snd)(done:List (Int×List Snd)):Prop:=
 (E0 l ws 80 (Ca l ws)=(done,false)/\ws.length<p+l.ifs.length)∨
 ∃nx sh,Cy l ws ⟨p,nx,sh,out++ws.drop p⟩ done/\nx<=p/\(out.length:Int)=p+sh/\p+l.ifs.length<=ws.length
section allat
variable {l:Bi}{ws out:List Snd}{done:List (Int×List Snd)}{p:Nat}
theorem Aim (hm:l.mode=1)(p:Nat)(nx sh:Int)(now:List Snd):E7 l ws ⟨p,nx,sh,now⟩=decide (ws.length<p+l.ifs.length):=by
 unfold E7;rw[if_pos hm];simp only;exact decide_eq_decide.2 (by omega)
theorem Dn.of (hm:l.mode=1){nx sh:Int}(h:Cy l ws ⟨p,nx,sh,out++ws.drop p⟩ done)(hn:nx<=p)(ho:p+l.ifs.length<=ws.length->(out.length:Int)=p+sh):Dn l ws p out done:=by
 by_cases hf:ws.length<p+l.ifs.length
 ·exact .inl ⟨h.fin (by rw[Aim hm];simpa using hf),hf⟩
 ·exact .inr ⟨nx,sh,h,hn,ho (by omega),by omega⟩
theorem Dn.start (hm:l.mode=1)(hw:ws.length<=32):Dn l ws 0 [] []:=by
 have h:=Cy.start l ws hw;have e:Ca l ws=⟨0,0,0,ws⟩:=by unfold Ca;rw[if_neg (by rw[hm];decide)]
 refine Dn.of hm (nx:=0) (sh:=0) ?_ (by omega) (fun _=>rfl);rw[e]at h;exact h
theorem Cy.jump (hm:l.mode=1){nx sh:Int}{now:List Snd}:∀(d p:Nat),Cy l ws ⟨p,nx,sh,now⟩ done->(p:Int)+d<=nx->(E0 l ws 80 (Ca l ws)=(done,false)/\ws.length<p+d+l.ifs.length)\/Cy l ws ⟨(p+d:Nat),nx,sh,now⟩ done
 |0,p,h,_=> .inr h
 |d+1,p,h,hn=>by
  by_cases hf:ws.length<p+l.ifs.length
  ·exact .inl ⟨h.fin (by rw[Aim hm];simpa using hf),by omega⟩
  ·have hs:Cy l ws ⟨(p+1:Nat),nx,sh,now⟩ done:=by
    refine h.skip (.inl hm) (by rw[Aim hm];simpa using hf) ?_;unfold C6;rw[if_pos hm,show decide (nx<=(p:Int))=false by simp;omega,Bool.and_false,if_neg (by decide)];simp
   have:=Cy.jump hm d (p+1) hs (by omega)
   rwa[show p+(d+1)=p+1+d by omega]
theorem Dn.skip (hm:l.mode=1)(h:Dn l ws p out done)(hh:Ez l ws p=false):Dn l ws (p+1) (out++(ws.drop p).take 1) done:=by
 rcases h with⟨h1,h2⟩|⟨nx,sh,h1,h2,h3,h4⟩
 ·exact .inl ⟨h1,by omega⟩
 ·have hs:Cy l ws ⟨(p+1:Nat),nx,sh,out++ws.drop p⟩ done:=by
   refine h1.skip (.inl hm) (by rw[Aim hm];simpa using h4) ?_;unfold C6;rw[if_pos hm,show Ez l ws ((⟨p,nx,sh,out++ws.drop p⟩:RS).at_.toNat)=false by rw[show(⟨p,nx,sh,out++ws.drop p⟩:RS).at_=p from rfl,Int.toNat_natCast,hh],Bool.false_and,if_neg (by decide)];simp
  refine Dn.of hm (nx:=nx) (sh:=sh) ?_ (by omega) (fun h5=> ?_)
  ·rw[List.append_assoc,show(ws.drop p).take 1++ws.drop (p+1)=ws.drop p by rw[←List.drop_drop];exact List.take_append_drop 1 _];exact hs
  ·rw[List.length_append,List.length_take,List.length_drop];omega
def F2 (l:Bi)(ws out:List Snd)(p:Nat):List Snd:=out++Hb l ((ws.drop p).take l.ifs.length)++ws.drop (p+l.ifs.length)
theorem Dn.hit_step (hm:l.mode=1)(h:Dn l ws p out done)(hh:Ez l ws p=true):∃nx sh,Cy l ws ⟨p,nx,sh,out++ws.drop p⟩ done/\(out.length:Int)=p+sh/\E7 l ws ⟨p,nx,sh,out++ws.drop p⟩=false∧
  C6 l ws ⟨p,nx,sh,out++ws.drop p⟩=(some ((p:Int),F2 l ws out p),⟨(p:Int)+1,(p:Int)+max (l.ifs.length:Int) 1,sh+l.outs.length-l.ifs.length,F2 l ws out p⟩):=by
 have hf:=Mo hh;rcases h with⟨h1,h2⟩|⟨nx,sh,h1,h2,h3,h4⟩
 ·omega
 ·refine⟨nx,sh,h1,h3,by rw[Aim hm];simpa using h4, ?_⟩;unfold C6
  have e:(out++ws.drop p).take ((p:Int)+sh).toNat=out:=by
   rw[←h3,Int.toNat_natCast];exact List.take_left
  simp only[if_pos hm,Int.toNat_natCast,hh,Bool.true_and,decide_eq_true h2,if_true,e];rfl
theorem Dn.long (hm:l.mode=1)(h:Dn l ws p out done)(hh:Ez l ws p=true)(hn:32<(F2 l ws out p).length):(E0 l ws 80 (Ca l ws)).2=true:=by
 obtain⟨nx,sh,h1,_,h2,h3⟩:=h.hit_step hm hh;exact h1.long (.inl hm) h2 h3 hn
theorem Dn.hit (hm:l.mode=1)(h:Dn l ws p out done)(hh:Ez l ws p=true)(hn:(F2 l ws out p).length<=32):
  Dn l ws (p+max l.ifs.length 1) (out++Hb l ((ws.drop p).take l.ifs.length)++if l.ifs.length=0 then(ws.drop p).take 1 else []) (done++[((p:Int),F2 l ws out p)]):=by
 obtain⟨nx,sh,h1,h5,h2,h3⟩:=h.hit_step hm hh;have hs:=h1.step (.inl hm) h2 h3 hn;have hf:=Mo hh;have a0:=Aae l ((ws.drop p).take l.ifs.length);have hj:=Cy.jump hm (max l.ifs.length 1-1) (p+1) (nx:=(p:Int)+max (l.ifs.length:Int) 1) (sh:=sh+l.outs.length-l.ifs.length) (now:=F2 l ws out p) (by simpa using hs) (by omega);rw[show p+1+(max l.ifs.length 1-1)=p+max l.ifs.length 1 by omega]at hj;rcases hj with⟨j1,j2⟩|hj
 ·exact .inl ⟨j1,by omega⟩
 ·refine Dn.of hm (nx:=(p:Int)+max (l.ifs.length:Int) 1) (sh:=sh+l.outs.length-l.ifs.length) ?_ (by omega) (fun h6=> ?_)
  ·by_cases hk:l.ifs.length=0
   ·rw[if_pos hk,List.append_assoc,show max l.ifs.length 1=1 by omega,show(ws.drop p).take 1++ws.drop (p+1)=ws.drop p by rw[←List.drop_drop];exact List.take_append_drop 1 _];rw[show max l.ifs.length 1=1 by omega]at hj;unfold F2 at hj ⊢;rw[show ws.drop (p+l.ifs.length)=ws.drop p by rw[hk];rfl]at hj ⊢;exact hj
   ·rw[if_neg hk,List.append_nil,show max l.ifs.length 1=l.ifs.length by omega];rw[show max l.ifs.length 1=l.ifs.length by omega]at hj;exact hj
  ·by_cases hk:l.ifs.length=0
   ·rw[if_pos hk,List.length_append,List.length_append,List.length_take,List.length_drop,a0];omega
   ·rw[if_neg hk,List.append_nil,List.length_append,a0];omega
theorem Dn.fin (h:Dn l ws p out done)(hp:ws.length<p):E0 l ws 80 (Ca l ws)=(done,false):=by
 rcases h with⟨h1,_⟩|⟨_,_,_,_,_,h4⟩
 ·exact h1
 ·omega
theorem Dn.done_len (h:Dn l ws p out done):done.length<=80:=by
 rcases h with⟨h1,_⟩|⟨_,_,h1,_⟩
 ·have:=K6 l ws 80 (Ca l ws)
  rw[h1]at this;exact this
 ·exact Proofs.YtaglfmlgbcmakaaGreatDoor.done_len h1
end allat
end Go.Proofs.YtaglfmlgbcmakaaGreatDoor
namespace Go.Proofs.YtaglfmlgbcmakaaGreatDoor
open Go.RowKit Go.Shelf
attribute [local go_sem] Oper.semAt_some
theorem Zy {α:Type}{l:List α}{p:Nat}{x:α}(h:l[p]? =some x):(l.drop p).take 1=[x]:=by
 obtain⟨hp,rfl⟩:=List.getElem?_eq_some_iff.1 h;rw[List.drop_eq_getElem_cons hp];rfl
theorem Aky (l:Bi)(a:Dq)(A:Option Addr)(n c:Nat)(ws:List Snd)(w:World)(hl:Df w l a)(hw:Ak w A n c ws)(hu:Ps l)(hwu:Ck ws)(hv:Cc l=0)(hck:B4 ws=0)(hmode:l.mode=1):
  Calls Tryz.prog 192 #[Eg l a, .slice A n c] w (Ac6 w (trM l ws)):=by
 obtain⟨s1,r7,q3,g6⟩:=Qw hv;obtain⟨j0,p0⟩:=Fa.1 hck;have k7:ws.length=n:=hw.len;rw[k7]at j0;have r9:n<=c:=hw.2.1;have p6:c<=9223372036854775807:=by have:=hw.2.2.1;unfold maxLen at this;omega
 have k2:Hid (l.mode=1):=hmode;have p7:Hid (Dn l ws 0 [] []):=Dn.start hmode (by omega);have i5:Hid (ws.length=n):=k7;have j8:=hI g6;clear g6;have HL:=hI hl;clear hl;have HU:=hI hu;clear hu;have HV:=hI hv;clear hv q3 hck hmode k7;obtain⟨Wb,q1,k9,p5,f0,q7⟩:=D6 w l a;obtain⟨d0,d1,d2,d3⟩:=Bu k9;have m7:=hI k9;clear k9;have o1:=hI p5;clear p5;have q4:Hid (Df Wb l a):=HL.out.below f0 rr;have HW:Hid (Ak Wb A n c ws):=hw.below f0 rr;clear hw HL;have j5:Hid (Ck ws/\OkW ws):=⟨hwu,p0⟩;clear hwu p0;go_enter Tryz.func192,Tryz.ntmps192;go_wp2_with fail;clear q1 d0 d1 d2 d3
 go_loopw [7,8,9,10] (fun vp vw vo i wr=>∃(p:Nat) (done:List (Int×List Snd)) (ps:List Part) (no:Nat) (out:List Snd),i= .int .i64 p/\Hid (Ja wr Wb.heap.size vp vw vo done.length ps no out)/\Hid (ps.map Part.word=done.map (·.2))∧
  Hid (Dn l ws p out done)/\no<=7*p/\p<=40/\Below Wb.heap.size Wb wr) (fun _ _ _ i _=>41-(intOf i).toNat)
 case atStart=>exact⟨0,[],[],0,[],rfl,Ja.nil _,rfl,p7,by omega,by omega,Below.refl _ _⟩
 case round=>
  obtain⟨p,done,ps,no,out,rfl,i6,g0,i0,q8,hp,hB⟩:=hrel;have p9:=hB.size;have m9:=(hB.block _ o1.out).trans m7.out;have o2:=(q4.out.below hB rr);have k0:=hI o2;clear o2;have H1:=hI m9;clear m9;by_cases hfin:p<=n
  ·have f1:(p:Int)<=(n:Int):=by omega
   go_wp2_with(refine Eo rfl (.tmp 2) rfl w.heap.size l a rfl H1.out ?_);refine(Xi l a A n c ws p wr k0.out (HW.out.below hB rr) HU.out j5.out.1 (by omega) (by omega) (by omega)).mono ?_;rintro e w2 ⟨rfl,f8⟩;have d6:=hB.trans (f8.mono p9);have i8:Hid (w2.heap[w.heap.size]? =some (.cells (Bw l a) 55 (0,0))):=(f8.block _ (lt_of_block H1.out)).trans H1.out;have o8:Hid (Df w2 l a):=k0.out.below f8 rr;have a2:Hid (Ja w2 Wb.heap.size u7 u8 u9 done.length ps no out):=i6.out.below f8;clear f8 k0 H1 i6
   cases hh:Ez l ws p with
   |false=>
    have i7:Hid (Dn l ws (p+1) (out++(ws.drop p).take 1) done):=i0.out.skip k2.out hh;clear hh;by_cases hlt:p<n
    ·obtain⟨bw,ow,x,y,rfl,k5,f9,k6,j3⟩:=(HW.out.below d6 rr).at_ hlt;have d8:(p:Int)<(n:Int):=by omega
     have b4:Hid (Dn l ws (p+1) (out++[(x,y)]) done):=by show Dn _ _ _ _ _;rw[←Zy f9];exact i7.out
     clear f9 i7;have b2:=d6.size;go_wp2_with(at_builtin;refine Nc rfl (.tmp 26) (.tmp 31) rfl Wb.heap.size u9 no out rfl (a2.out.oo.alloc _) (some ⟨w2.heap.size,0,none⟩) 1 1 [(x,y)] rfl (Jz w2 x y 49) (by omega) ?hz1 ?hc1)
     case hz1=>simp;omega
     case hc1=>
      intro v3 w3 b6 j7 g1;have f6:v3.ownBlock=u9.ownBlock\/v3.ownBlock=some (w2.alloc (.cells #[.int .u32 x, .int .u32 y] 49)).heap.size:=g1.imp id (fun e=>e.trans (by simp));have a0:Below w2.heap.size w2 (w2.alloc (.cells #[.int .u32 x, .int .u32 y] 49)):=(Below.refl _ _).alloc rr _;have a3:Hid (Ja w3 Wb.heap.size u7 u8 v3 done.length ps (no+1) (out++[(x,y)])):=(a2.out.below a0).growO b6 j7 f6;have f2:Below Wb.heap.size Wb w3:=(d6.trans (a0.mono b2)).grown j7 (by simp;omega) (fun k hk=>(a2.out.oo.lt k hk).1);clear b6 j7 g1 f6 a0 a2 k6 j3;go_wp2
      go_roundw
      case rel=>exact⟨p+1,done,ps,no+1,_,by go_num,a3,g0,b4,by omega,by omega,f2⟩
      case measure=>simp[intOf];omega
    ·have d8:¬((p:Int)<(n:Int)):=by omega
     have b4:Hid (Dn l ws (p+1) out done):=by
      have:=i7.out
      rwa[List.drop_eq_nil_of_le (by rw[i5.out];omega),List.take_nil,List.append_nil]at this
     clear i7;go_wp2
     go_roundw
     case rel=>exact⟨p+1,done,ps,no,out,by go_num,a2,g0,b4,by omega,by omega,d6⟩
     case measure=>simp[intOf];omega
   |true=>
    have j2:p+l.ifs.length<=n:=by have:=Mo hh;have:=i5.out;omega
    have HH:=hI hh;clear hh;have g3:=lt_of_block i8.out;have b2:=d6.size;obtain⟨d0,d1,d2,d3⟩:=Bu i8.out;go_wp2;clear d0 d1 d2 d3;have q9:(0:Int)<=(p:Int):=by omega
    have q6:(p:Int)<=(c:Int):=by omega
    have s2:(p:Int)<=(p:Int)+(l.ifs.length:Int):=by omega
    have r2:(p:Int)+(l.ifs.length:Int)<=(c:Int):=by omega
    have s0:(p:Int)+(l.ifs.length:Int)<=(n:Int):=by omega
    have r1:((p:Int)+(l.ifs.length:Int)).toNat=p+l.ifs.length:=by omega
    have r0:(0:Int)<=(p:Int)+(l.ifs.length:Int):=by omega
    have r5:IntKind.i64.wrap ((p:Int)+(l.ifs.length:Int))=(p:Int)+(l.ifs.length:Int):=IntWalk.i64_in _ (by omega);refine Bg (fun W'=>W'.heap[w.heap.size]? =some (.cells (Bw l a) 55 (0,0))) (by kernel_rfl) i8.out (fun hHeld=> ?_)
    (refine' Ae 0 rfl ?_;(try simp only[Act.put,nY,nX]))
    (refine' Ch (i:=1) (v:=Eg l a) rfl (by kernel_rfl) (by kernel_rfl) (by kernel_rfl) (by kernel_rfl) (fun _ _ _ h=>h) (Lh (by rfl) (.tmp 2) rfl (w.heap.size) l a (by rfl) (fun w' hSw=>by(try dsimp only at hSw);first|exact hSw|exact hSw.1)) (by assumption) ?_;(try simp only[Act.put,nY,nX]))
    (refine' Ae 2 rfl ?_;(try simp only[Act.put,nY,nX]));(refine' Ae 3 rfl ?_;(try simp only[Act.put,nY,nX]));(refine' Ae 4 rfl ?_;(try simp only[Act.put,nY,nX]));(refine' Ae 5 rfl ?_;(try simp only[Act.put,nY,nX]));(refine' Ae 6 rfl ?_;(try simp only[Act.put,nY,nX]));(refine' Ae 7 rfl ?_;(try simp only[Act.put,nY,nX]))
    (refine Anv 8 rfl (fun K' hK'=> ?_);simp only[nY];go_simp)
    have i9:Below w2.heap.size w2 w2.drew:=(Below.refl w2.heap.size w2).drew;have hcut:Ak w2.drew (if c=p then A else A.map (·.add (p*2))) l.ifs.length (c-p) ((ws.drop p).take l.ifs.length):=Ak.take ((HW.out.below (B:=Wb.heap.size) (d6.trans (i9.mono b2)) rr).drop (by omega)) (by omega);refine(Ac5 l a _ _ _ _ (o8.out.below (B:=w2.heap.size) i9 rr) hcut j8.out (by omega) HU.out ((j5.out.1.drop _).take _) ((j5.out.2.drop _).take _)).mono ?_;rintro e w3 ⟨A3,n3,c3,rfl,o5,d7,_⟩;have k1:Below w2.heap.size w2 w3:=i9.trans d7;have f2:Below Wb.heap.size Wb w3:=d6.trans (k1.mono b2);have o4:=(d7.block w.heap.size g3).trans hHeld;have a3:Hid (Ja w3 Wb.heap.size u7 u8 u9 done.length ps no out):=a2.out.below k1;have k3:=hI o5;clear o5;have o3:n3=l.outs.length:=by rw[←k3.out.len];simp[Hb]
    have r3:=hI o3;have p8:n3<=6:=by omega
    clear o3 hcut k1 d7 i9 a2 o8;refine hK' _ _ ⟨.inr o4,fun _=> ?_⟩
    clear hK' K' hHeld
    (try simp only[Act.put,nY,nX])
    refine Anv 9 rfl (fun K' hK'=> ?_);rw[if_pos (by rfl)];refine G4 w3 (.tmp 38) (.tmp 46) rfl Wb.heap.size u9 no out (by rfl) a3.out.oo A3 n3 c3 _ (by rfl) k3.out (by omega) (by have:=f2.size;omega) ?_;intro v4 w4 b5 k8 f3;have b3:Hid (Ja w4 Wb.heap.size u7 u8 v4 done.length ps (no+n3) (out++Hb l ((ws.drop p).take l.ifs.length))):=a3.out.growO b5 k8 f3;have f4:Below Wb.heap.size Wb w4:=f2.grown k8 f2.size (fun k hk=>(a3.out.oo.lt k hk).1);have p1:=(f4.block _ o1.out).trans m7.out;refine hK' _ _ ⟨.inr p1,fun _=> ?_⟩
    clear hK' K' k8 b5 f3 a3 o4 k3
    (try simp only[Act.put,nY,nX])
    (refine Anv 10 rfl (fun K' hK'=> ?_);simp only[nY];go_simp)
    refine hK' _ _ ⟨.inl (by kernel_rfl),fun _=>Bf (by kernel_rfl) ?_ _⟩
    clear hK' K' p1 i8 g3;generalize(if c=p then A else A.map (·.add (p*2)))=A5;have r4:done.length<=80:=i0.out.done_len;have q0:ps.length=done.length:=by have:=congrArg List.length g0.out;simpa using this
    have r8:ps.length<=80:=by omega
    clear q0;obtain⟨xs,p2⟩:=b3.out.tr.op;have o0:=hI p2;clear p2;go_wp2_with(at_builtin;refine Eu rfl (.tmp 48) (.tmp 50) rfl Wb.heap.size u7 done.length xs rfl (o0.out.alloc _) ⟨w4.heap.size,0,none⟩ 1 (.int .i64 p) rfl (cell_one_new _ _ _) rfl (by omega) ?hz1 ?hc1)
    case hz1=>have:=f4.size;simp;omega
    case hc1=>
     intro v5 w5 b8 m5 g7;have i1:v5.ownBlock=u7.ownBlock\/v5.ownBlock=some (w4.alloc (.cells #[.int .i64 p] 3)).heap.size:=g7.imp id (fun e=>e.trans (by simp));have a0:Below w4.heap.size w4 (w4.alloc (.cells #[.int .i64 p] 3)):=(Below.refl _ _).alloc rr _;have g8:=(b3.out.below a0).tr.lts.1;have a5:Hid (Ja w5 Wb.heap.size v5 u8 v4 (done.length+1) ps (no+n3) (out++Hb l ((ws.drop p).take l.ifs.length))):=(b3.out.below a0).pushP b8 m5 i1;have k4:Below Wb.heap.size Wb w5:=(f4.trans (a0.mono f4.size)).grown m5 (by have:=f4.size;simp;omega) (fun k hk=>(g8 k hk).1);clear b8 m5 g7 i1 a0 g8 b3 o0;obtain⟨A4,c4,rfl⟩:=Bh a5.out.oo;obtain⟨cutM,a8⟩:∃cutM,cutM=Hb l ((ws.drop p).take l.ifs.length):=⟨_,rfl⟩;rw[←a8]at a5;have p3:=hI a8;clear a8;go_wp2;refine Bg (fun _=>True) (by kernel_rfl) trivial (fun _=> ?_)
     (refine' Ae 1 rfl ?_;(try simp only[Act.put,nY,nX]));(refine' Ae 3 rfl ?_;(try simp only[Act.put,nY,nX]));(refine' Ae 4 rfl ?_;(try simp only[Act.put,nY,nX]));(refine' Ae 5 rfl ?_;(try simp only[Act.put,nY,nX]));(refine' Ae 6 rfl ?_;(try simp only[Act.put,nY,nX]));(refine' Ae 7 rfl ?_;(try simp only[Act.put,nY,nX]))
     (refine Anv 0 rfl (fun K' hK'=> ?_);simp only[nY];go_simp)
     refine hK' _ _ ⟨.inr trivial,fun _=> ?_⟩
     clear hK' K'
     (try simp only[Act.put,nY,nX])
     refine Anv 2 rfl (fun K' hK'=> ?_);rw[if_pos (by rfl)];have g2:=k4.size;have j4:Below w5.heap.size w5 (w5.drew.alloc (.cells #[] 49)):=((Below.refl w5.heap.size w5).drew).alloc rr _;have p4:Ak (w5.drew.alloc (.cells #[] 49)) A4 (no+n3) c4 (out++cutM):=Ak.below (Az.of_own a5.out.oo (by decide)) j4 rr;refine G4 _ (.tmp 52) (.tmp 53) rfl w5.heap.size (.slice (some ⟨w5.heap.size,0,none⟩) 0 0) 0 [] (by rfl) (World.ownsRow_lit w5.drew #[] 0 rr (by unfold maxLen;omega) rfl) A4 (no+n3) c4 _ (by rfl) p4 (by omega) (by simp) ?_;intro v6 w6 a6 o9 _;have g4:Below w5.heap.size w5 w6:=j4.grown o9 (by simp) (fun k hk=>by have h:w5.heap.size=k:=(by simpa[Value.ownBlock]using hk);omega);refine hK' _ _ ⟨.inr trivial,fun _=> ?_⟩
     clear hK' K' p4 j4 o9
     (try simp only[Act.put,nY,nX])
     refine Anv 8 rfl (fun K' hK'=> ?_);rw[if_pos (by rfl)];refine G4 w6 (.tmp 54) (.tmp 59) rfl w5.heap.size v6 (0+(no+n3)) _ (by rfl) a6 (if c=p+l.ifs.length then A else A.map (·.add ((p+l.ifs.length)*2))) (n-(p+l.ifs.length)) (c-(p+l.ifs.length)) (ws.drop (p+l.ifs.length)) (by rfl) (Ak.drop (HW.out.below (k4.trans (g4.mono g2)) rr) j2) (by omega) g4.size ?_;intro v7 w7 a1 o7 _;have m4:Below w5.heap.size w5 w7:=g4.grown o7 g4.size (fun k hk=>(a6.lt k hk).1);refine hK' _ _ ⟨.inr trivial,fun _=> ?_⟩
     clear hK' K' o7 a6 g4
     (try simp only[Act.put,nY,nX])
     (refine Anv 9 rfl (fun K' hK'=> ?_);simp only[nY];go_simp)
     refine hK' _ _ ⟨.inl (by kernel_rfl),fun _=>Bf (by kernel_rfl) ?_ _⟩
     clear hK' K';generalize(if c=p+l.ifs.length then A else A.map (·.add ((p+l.ifs.length)*2)))=A9;obtain⟨n7,m2⟩:∃n7,n7=0+(no+n3)+(n-(p+l.ifs.length)):=⟨_,rfl⟩;rw[←m2]at a1;obtain⟨A7,c7,rfl⟩:=Bh a1;have m8:F2 l ws out p=(([]++(out++cutM))++ws.drop (p+l.ifs.length)):=by unfold F2;rw[←p3.out];rfl
     have m0:Ak w7 A7 n7 c7 (F2 l ws out p):=by rw[m8];exact Az.of_own a1 (by decide)
     have o6:∀ad,A7=some ad->w5.heap.size<=ad.block:=fun ad had=>(a1.lt ad.block (by rw[had];rfl)).1
     have d4:Hid ((F2 l ws out p).length=n7):=m0.len;have b0:=hI (a5.out.fresh (q:=(A7,n7,c7,F2 l ws out p)) m0 o6);have b1:Hid (Ja w7 Wb.heap.size v5 u8 (.slice A4 (no+n3) c4) (done.length+1) ps (no+n3) (out++cutM)):=a5.out.below m4;have i2:Below Wb.heap.size Wb w7:=k4.trans (m4.mono g2);have r6:=hI m2;clear a1 m0 o6 m4 a5 m8 m2;by_cases h32:32<n7
     ·have a9:trM l ws=(11,[]):=by unfold trM;rw[if_pos (i0.out.long k2.out HH.out (by rw[d4.out];exact h32))]
      have a7:=hI a9;clear a9;go_wp2
      go_ret3
      refine⟨.slice none 0 0,none,0,0, ?_, ?_,f0.trans (i2.mono f0.size)⟩
      ·rw[a7.out];rfl
      ·rw[a7.out];exact Bs.nil _
     ·have b4:Hid (Dn l ws (p+max l.ifs.length 1) (out++cutM++if l.ifs.length=0 then(ws.drop p).take 1 else []) (done++[((p:Int),F2 l ws out p)])):=by
       show Dn _ _ _ _ _;rw[p3.out];exact i0.out.hit k2.out HH.out (by rw[d4.out];omega)
      have d5:Hid ((ps++[((A7,n7,c7,F2 l ws out p):Part)]).map Part.word=(done++[((p:Int),F2 l ws out p)]).map (·.2)):=by show _=_;rw[List.map_append,List.map_append,g0.out];rfl
      go_wp2_with(at_builtin;refine He rfl (.tmp 64) (.tmp 66) rfl Wb.heap.size u8 ps.length _ rfl (b1.out.tr.ow.alloc _) ⟨w7.heap.size,0,none⟩ 1 (.slice A7 n7 c7) rfl (cell_one_new _ _ _) rfl (by omega) ?hz2 ?hc2)
      case hz2=>have:=i2.size;simp;omega
      case hc2=>
       intro v8 w8 b9 m6 f5;have i3:v8.ownBlock=u8.ownBlock\/v8.ownBlock=some (w7.alloc (.cells #[.slice A7 n7 c7] 28)).heap.size:=f5.imp id (fun e=>e.trans (by simp));have a0:Below w7.heap.size w7 (w7.alloc (.cells #[.slice A7 n7 c7] 28)):=(Below.refl _ _).alloc rr _;have h8:=(b1.out.below a0).pushW (q:=(A7,n7,c7,F2 l ws out p)) ⟨b0.out.1.1.below a0,b0.out.1.2.below a0⟩ (b0.out.2.below a0) b9 m6 i3;have i4:=(b1.out.below a0).tr.lts.2;have g9:Below Wb.heap.size Wb w8:=(i2.trans (a0.mono i2.size)).grown m6 (by have:=i2.size;simp;omega) (fun k hk=>(i4 k hk).1);have a4:Hid (Ja w8 Wb.heap.size v5 v8 (.slice A4 (no+n3) c4) (done++[((p:Int),F2 l ws out p)]).length (ps++[((A7,n7,c7,F2 l ws out p):Part)]) (no+n3) (out++cutM)):=by show Ja _ _ _ _ _ _ _ _ _;rw[List.length_append];exact h8
       clear h8 b9 m6 f5 i3 a0 i4 b1 b0;have j1:=g9.size;by_cases hk0:l.ifs.length=0
       ·have d9:Hid (Dn l ws (p+l.ifs.length+1) (out++cutM++(ws.drop (p+l.ifs.length)).take 1) (done++[((p:Int),F2 l ws out p)])):=by
         have:=b4.out
         rw[if_pos hk0,show p+max l.ifs.length 1=p+l.ifs.length+1 by omega]at this;show Dn _ _ _ _ _;rw[show ws.drop (p+l.ifs.length)=ws.drop p by rw[hk0];rfl];exact this
        have j9:((l.ifs.length:Int)==0)=true:=by rw[hk0];rfl
        have q2:l.ifs.length<=0:=by omega
        clear hk0 b4;by_cases hlt:p+l.ifs.length<n
        ·obtain⟨bw,ow,x,y,rfl,k5,f9,k6,j3⟩:=(HW.out.below g9 rr).at_ hlt;have d8:(p:Int)+(l.ifs.length:Int)<(n:Int):=by omega
         have j6:Hid (Dn l ws (p+l.ifs.length+1) (out++cutM++[(x,y)]) (done++[((p:Int),F2 l ws out p)])):=by show Dn _ _ _ _ _;rw[←Zy f9];exact d9.out
         clear f9 d9;go_wp2_with(at_builtin;refine Nc rfl (.tmp 77) (.tmp 82) rfl Wb.heap.size (.slice A4 (no+n3) c4) (no+n3) (out++cutM) rfl (a4.out.oo.alloc _) (some ⟨w8.heap.size,0,none⟩) 1 1 [(x,y)] rfl (Jz w8 x y 49) (by omega) ?hz3 ?hc3)
         case hz3=>simp;omega
         case hc3=>
          intro v9 w9 b7 m3 f7;have g5:v9.ownBlock=(Value.slice A4 (no+n3) c4).ownBlock\/v9.ownBlock=some (w8.alloc (.cells #[.int .u32 x, .int .u32 y] 49)).heap.size:=f7.imp id (fun e=>e.trans (by simp));have a0:Below w8.heap.size w8 (w8.alloc (.cells #[.int .u32 x, .int .u32 y] 49)):=(Below.refl _ _).alloc rr _;have m1:=hI ((a4.out.below a0).growO b7 m3 g5);have q5:Below Wb.heap.size Wb w9:=(g9.trans (a0.mono j1)).grown m3 (by simp;omega) (fun k hk=>(a4.out.oo.lt k hk).1);clear b7 m3 f7 g5 a0 a4 k6 j3;go_wp2
          go_roundw
          case rel=>exact⟨p+l.ifs.length+1,_,_,no+n3+1,_,by go_num,m1,d5,(by have h:=j6.out;rw[List.append_assoc]at h;exact h),by omega,by omega,q5⟩
          case measure=>simp[intOf]<;>omega
        ·have d8:¬((p:Int)+(l.ifs.length:Int)<(n:Int)):=by omega
         have j6:Hid (Dn l ws (p+l.ifs.length+1) (out++cutM) (done++[((p:Int),F2 l ws out p)])):=by
          have:=d9.out
          rwa[List.drop_eq_nil_of_le (by rw[i5.out];omega),List.take_nil,List.append_nil]at this
         clear d9;go_wp2
         go_roundw
         case rel=>exact⟨p+l.ifs.length+1,_,_,no+n3,_,by go_num,a4,d5,j6,by omega,by omega,g9⟩
         case measure=>simp[intOf]<;>omega
       ·have d9:Hid (Dn l ws (p+l.ifs.length) (out++cutM) (done++[((p:Int),F2 l ws out p)])):=by
         have:=b4.out
         rwa[if_neg hk0,List.append_nil,show p+max l.ifs.length 1=p+l.ifs.length by omega]at this
        have j9:((l.ifs.length:Int)==0)=false:=by simpa using hk0
        have q2:1<=l.ifs.length:=by omega
        clear hk0 b4;go_wp2
        go_roundw
        case rel=>exact⟨p+l.ifs.length,_,_,no+n3,_,by go_num,a4,d5,d9,by omega,by omega,g9⟩
        case measure=>simp[intOf]<;>omega
  ·have a9:trM l ws=(0,done.map (·.2)):=by unfold trM;rw[i0.out.fin (by rw[i5.out];omega)];rfl
   have a7:=hI a9;clear a9;have f1:¬((p:Int)<=(n:Int)):=by omega
   obtain⟨A8,c8,rfl⟩:=Bh i6.out.tr.ow;go_wp2
   go_ret3
   refine⟨u7,A8,ps.length,c8, ?_, ?_,f0.trans (hB.mono f0.size)⟩
   ·rw[a7.out];rfl
   ·rw[a7.out];show Bs _ _ _ _ (done.map (·.2));rw[←g0.out];exact i6.out.tr.words rfl
end Go.Proofs.YtaglfmlgbcmakaaGreatDoor
namespace Go.Proofs.YtaglfmlgbcmakaaGreatDoor
open Go.RowKit Go.Shelf
def Nf (l:Bi)(ws:List Snd):Int×List (List Snd):=((Co l ws).1,(Co l ws).2.map (·.2))
theorem Aeq {l:Bi}{ws:List Snd}(h:B7 l ws≠0):Nf l ws=(B7 l ws,[]):=by unfold Nf Co;rw[if_pos h];rfl
theorem Ab9 {l:Bi}{ws:List Snd}(h:B7 l ws=0):Nf l ws=trM l ws:=by
 unfold Nf Co trM;rw[if_neg (by simpa using h)];split<;>rfl
theorem Vx {l:Bi}{ws:List Snd}(h:B7 l ws=0):Cc l=0/\B4 ws=0:=by
 unfold B7 at h;by_cases h1:Cc l=0
 ·rw[if_pos h1]at h;exact⟨h1,h⟩
 ·rw[if_neg h1]at h;exact absurd h h1
theorem Aer (l:Bi)(a:Dq)(A:Option Addr)(n c:Nat)(ws:List Snd)(w:World)(hl:Df w l a)(hw:Ak w A n c ws)(hu:Ps l)(hwu:Ck ws):
  Calls Tryz.prog 179 #[Eg l a, .slice A n c] w (Ac6 w (Nf l ws)):=by
 have HL:=hI hl;clear hl;have HW:=hI hw;clear hw;have HU:=hI hu;clear hu;have a5:=hI hwu;clear hwu;obtain⟨Wb,b3,b0,b4,a4,b5⟩:=D6 w l a;have a8:=hI b0;clear b0;go_enter Tryz.func179,Tryz.ntmps179;go_wp2_with(refine Eo rfl (.tmp 2) rfl w.heap.size l a rfl a8.out ?_);clear b3;refine(Aeo l a A n c ws _ (HL.out.below a4 rr) (HW.out.below a4 rr) HU.out a5.out).mono ?_;rintro e w1 ⟨rfl,a9⟩;have H1:Hid (w1.heap[w.heap.size]? =some (.cells (Bw l a) 55 (0,0))):=(a9.block _ b4).trans a8.out;have a0:Below w.heap.size w w1:=a4.trans (a9.mono a4.size);clear a9 a8;by_cases hE:B7 l ws=0
 ·have b2:(B7 l ws !=0)=false:=by simpa using hE
  have HR:=hI (Ab9 hE);obtain⟨h1,h2⟩:=Vx hE;obtain⟨_,_,b1,_⟩:=Qw h1;have a7:=hI h1;clear h1;have a6:=hI h2;clear h2;clear hE;obtain⟨d0,d1,d2,d3⟩:=Bu H1.out;rcases b1 with hm|hm|hm
  ·rw[hm]at d3;have HM:Hid (l.mode=1):=hm;clear d0 d1 d2;go_wp2_with(refine Eo rfl (.tmp 2) rfl w.heap.size l a rfl H1.out ?_);clear hm d3;refine(Aky l a A n c ws w1 (HL.out.below a0 rr) (HW.out.below a0 rr) HU.out a5.out a7.out a6.out HM.out).mono ?_;rintro e w2 ⟨vp,A2,n2,c2,rfl,a2,a1⟩;have a3:=a0.trans (a1.mono a0.size);clear a1;go_wp2
   go_ret3
   exact⟨vp,A2,n2,c2,by rw[HR.out];rfl,by rw[HR.out];exact a2,a3⟩
  ·rw[hm]at d3;have HM:Hid (l.mode=2):=hm;clear d0 d1 d2;go_wp2_with(refine Eo rfl (.tmp 2) rfl w.heap.size l a rfl H1.out ?_);clear hm d3;refine(Aep l a A n c ws w1 (HL.out.below a0 rr) (HW.out.below a0 rr) HU.out a5.out a7.out a6.out HM.out).mono ?_;rintro e w2 ⟨vp,A2,n2,c2,rfl,a2,a1⟩;have a3:=a0.trans (a1.mono a0.size);clear a1;go_wp2
   go_ret3
   exact⟨vp,A2,n2,c2,by rw[HR.out];rfl,by rw[HR.out];exact a2,a3⟩
  ·rw[hm]at d3;have HM:Hid (l.mode=3):=hm;clear d0 d1 d2;go_wp2_with(refine Eo rfl (.tmp 2) rfl w.heap.size l a rfl H1.out ?_);clear hm d3;refine(Ail l a A n c ws w1 (HL.out.below a0 rr) (HW.out.below a0 rr) HU.out a5.out a7.out a6.out HM.out).mono ?_;rintro e w2 ⟨vp,A2,n2,c2,rfl,a2,a1⟩;have a3:=a0.trans (a1.mono a0.size);clear a1;go_wp2
   go_ret3
   exact⟨vp,A2,n2,c2,by rw[HR.out];rfl,by rw[HR.out];exact a2,a3⟩
 ·have b2:(B7 l ws !=0)=true:=by simpa using hE
  have HR:=hI (Aeq hE);clear hE;go_wp2
  go_ret3
  exact⟨.slice none 0 0,none,0,0,by rw[HR.out];rfl,by rw[HR.out];exact Bs.nil _,a0⟩
theorem Aes (l:Bi)(a:Dq)(A:Option Addr)(n c:Nat)(ws:List Snd)(w:World)(hl:Df w l a)(hw:Ak w A n c ws)(hu:Ps l)(hwu:Ck ws):
  Calls Tryz.prog 162 #[Eg l a, .slice A n c] w (Acp w (B3 l ws)):=by
 have HL:=hI hl;clear hl;have HW:=hI hw;clear hw;have HU:=hI hu;clear hu;have d6:=hI hwu;clear hwu;obtain⟨Wb,d8,d0,f6,a7,f5⟩:=D6 w l a;have b9:=hI d0;clear d0;go_enter Tryz.func162,Tryz.ntmps162;go_wp2_with(refine Eo rfl (.tmp 2) rfl w.heap.size l a rfl b9.out ?_);clear d8;refine(Aer l a A n c ws _ (HL.out.below a7 rr) (HW.out.below a7 rr) HU.out d6.out).mono ?_;rintro e w1 ⟨vp,A2,n2,c2,rfl,a6,b4⟩;have b7:Below w.heap.size w w1:=a7.trans (b4.mono a7.size);have d3:=b4.size;clear b4 b9;have a8:=a6.len
 have d9:n2<=80:=by
  rw[←a8];unfold Nf Co;split
  ·simp
  ·split
   ·simp
   ·simp only[List.length_map];exact K6 _ _ _ _
 have b2:∀x∈(Nf l ws).2,x.length<=32:=by
  unfold Nf Co;split
  ·simp
  ·split
   ·simp
   ·intro x hx;obtain⟨y,hy,rfl⟩:=List.mem_map.1 hx;exact Ld l ws _ _ y hy
 have a1:=hI b7;obtain⟨er,b0⟩:∃er,er=(Nf l ws).1:=⟨_,rfl⟩;obtain⟨xss,a2⟩:∃xss,xss=(Nf l ws).2:=⟨_,rfl⟩;rw[←a2]at a8 b2 a6;rw[←b0];have d5:=hI a6;clear a6;have d4:=hI b2;clear b2;have b5:Hid (er=(Co l ws).1):=b0;have d2:Hid (xss=(Co l ws).2.map (·.2)):=a2;have b6:=hI a8;clear b0 a2 b7 a8;by_cases h0:er=0
 case neg=>
  have h1:(er !=0)=true:=by simpa using h0
  have HM:Hid (B3 l ws=(er,[])):=by show B3 l ws=_;unfold B3;rw[←b5.out,if_pos h0]
  clear h0;go_wp2
  go_ret2
  exact⟨none,0,0,by rw[HM.out];rfl,by rw[HM.out];exact Az.nil _ _,a1.out,fun ad h=>by cases h⟩
 have h1:(er !=0)=false:=by simpa using h0
 have HM:Hid (B3 l ws=(0,(xss.getLast?).getD ws)):=by show B3 l ws=_;rw[La l ws (by rw[←b5.out];exact h0),d2.out]
 have f1:n<=32:=by
  have h2:B7 l ws=0:=by
   by_cases h2:B7 l ws=0
   ·exact h2
   ·have:=b5.out;unfold Co at this;rw[if_pos h2,h0]at this;exact absurd this.symm h2
  have:=(Fa.1 (Vx h2).2).1
  have h3:=HW.out.len;omega
 clear h0;by_cases hz:0<n2
 ·obtain⟨m,rfl⟩:∃m,n2=m+1:=⟨n2-1,by omega⟩;obtain⟨b,off,A',n',c',xs,rfl,f0,d1,b3,a9⟩:=d5.out.at_ (k:=m) (by omega);have f2:(m:Int)<(m:Int)+1:=by omega
  have f4:((m:Int)).toNat=m:=by omega
  have f3:n'<=32:=by have h:=d4.out xs (List.mem_of_getElem? b3);have h3:=a9.len;omega
  have a5:Hid (B3 l ws=(0,xs)):=by show B3 l ws=_;rw[HM.out,Ke (m:=m) b6.out,b3];rfl
  have d7:=hI a9;clear a9 b3;have a4:Below w1.heap.size w1 (w1.alloc (.cells #[] 49)):=(Below.refl _ _).alloc rr _;have a3:=hI a4;clear a4;go_wp2_with(at_builtin;refine D1 rfl (.tmp 25) (.tmp 31) rfl w1.heap.size (.slice (some ⟨w1.heap.size,0,none⟩) 0 0) 0 [] rfl (World.ownsRow_lit w1 #[] 0 rr (by unfold maxLen;omega) rfl) A' n' c' xs rfl (d7.out.below a3.out rr) (by omega) (by simp) ?_;intro v4 w4 a0 b1 _)
  go_ret2
  obtain⟨A4,c4,rfl⟩:=Bh a0;refine⟨A4,0+n',c4,by rw[a5.out];rfl, ?_, ?_,fun ad had=> ?_⟩
  ·rw[a5.out];exact Az.of_own a0 (by decide)
  ·exact(a1.out.trans (a3.out.mono a1.out.size)).grown b1 (by have:=a1.out.size;simp;omega) (fun k hk=>by have h:w1.heap.size=k:=(by simpa[Value.ownBlock]using hk);have:=a1.out.size;omega)
  ·have:=(a0.lt ad.block (by rw[had];rfl)).1;have:=a1.out.size;omega
 ·obtain rfl:n2=0:=by omega
  have b8:xss=[]:=List.eq_nil_of_length_eq_zero b6.out;have a5:Hid (B3 l ws=(0,ws)):=by show B3 l ws=_;rw[HM.out,b8];rfl
  clear b8;have a4:Below w1.heap.size w1 (w1.alloc (.cells #[] 49)):=(Below.refl _ _).alloc rr _;have a3:=hI a4;clear a4;go_wp2_with(at_builtin;refine D1 rfl (.tmp 22) (.tmp 23) rfl w1.heap.size (.slice (some ⟨w1.heap.size,0,none⟩) 0 0) 0 [] rfl (World.ownsRow_lit w1 #[] 0 rr (by unfold maxLen;omega) rfl) A n c ws rfl (HW.out.below (a1.out.trans (a3.out.mono a1.out.size)) rr) (by omega) (by simp) ?_;intro v4 w4 a0 b1 _)
  go_ret2
  obtain⟨A4,c4,rfl⟩:=Bh a0;refine⟨A4,0+n,c4,by rw[a5.out];rfl, ?_, ?_,fun ad had=> ?_⟩
  ·rw[a5.out];exact Az.of_own a0 (by decide)
  ·exact(a1.out.trans (a3.out.mono a1.out.size)).grown b1 (by have:=a1.out.size;simp;omega) (fun k hk=>by have h:w1.heap.size=k:=(by simpa[Value.ownBlock]using hk);have:=a1.out.size;omega)
  ·have:=(a0.lt ad.block (by rw[had];rfl)).1;have:=a1.out.size;omega
end Go.Proofs.YtaglfmlgbcmakaaGreatDoor
