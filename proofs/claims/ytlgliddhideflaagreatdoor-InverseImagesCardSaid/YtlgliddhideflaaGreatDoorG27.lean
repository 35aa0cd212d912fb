/-
  ablautref08: right, left.
  ablautref08: left.
  ablautref08: all: what it keeps.
  ablautref08: all.
  ablautref08: Trace, Apply.
-/
import Derived.Test.YtlgliddhideflaaGreatDoorG26
import Derived.Test.YtlgliddhideflaaGreatDoorG38
set_option linter.all false
set_option maxRecDepth 100000
set_option maxHeartbeats 4000000
namespace Go.Proofs.YtlgliddhideflaaGreatDoor
open Go.RowKit Go.Shelf
structure Ff (w:World)(B:Nat)(vp vw:Value)(np:Nat)(ps:List Part):Prop where
 op:∃xs,w.ownsRow B 3 1 vp np xs
 ow:w.ownsRow B 32 1 vw ps.length (ps.map Part.val)
 ne:∀k,vp.ownBlock=some k→¬vw.ownBlock=some k
 pp:∀p∈ps,D7 vp w p/\D7 vw w p
 sz:B<=w.heap.size
theorem Ff.nil (w:World):Ff w w.heap.size (.slice none 0 0) (.slice none 0 0) 0 []:=
 ⟨⟨[],World.ownsRow_nil _ _ _ _⟩,World.ownsRow_nil _ _ _ _,fun k h=>(by cases h),fun p hp=>by simp at hp,rr⟩
theorem Ff.below {w w':World}{B np:Nat}{vp vw:Value}{ps:List Part}(h:Ff w B vp vw np ps)(hb:Below w.heap.size w w'):Ff w' B vp vw np ps:=by
 obtain⟨xs,ho⟩:=h.op;exact⟨⟨xs,B0 ho fun k e=>hb.block k (ho.lt k e).2⟩,B0 h.ow fun k e=>hb.block k (h.ow.lt k e).2,h.ne,fun p hp=>⟨(h.pp p hp).1.below hb,(h.pp p hp).2.below hb⟩,Nat.le_trans h.sz hb.size⟩
theorem Ff.lts {w:World}{B np:Nat}{vp vw:Value}{ps:List Part}(h:Ff w B vp vw np ps):(∀k,vp.ownBlock=some k->B<=k/\k<w.heap.size)∧∀k,vw.ownBlock=some k->B<=k/\k<w.heap.size:=by
 obtain⟨xs,ho⟩:=h.op;exact⟨fun k e=>ho.lt k e,fun k e=>h.ow.lt k e⟩
theorem Ff.pushP {w X:World}{B np:Nat}{vp vp' vw:Value}{ps:List Part}{xs:List Value}(h:Ff w B vp vw np ps)(hown:X.ownsRow B 3 1 vp' (np+1) xs)(hg:w.grownBy X vp.ownBlock)
  (a0:vp'.ownBlock=vp.ownBlock\/vp'.ownBlock=some w.heap.size):Ff X B vp' vw (np+1) ps:=by
 refine⟨⟨xs,hown⟩,B0 h.ow fun k e=>hg.block k (h.ow.lt k e).2 (fun e'=>h.ne k e'.symm e),fun k e e'=> ?_,fun p hp=>⟨(h.pp p hp).1.grown hg a0,(h.pp p hp).1.word_grown hg,(h.pp p hp).2.2⟩,Nat.le_trans h.sz hg.size⟩
 rcases a0 with q|q
 ·exact h.ne k (q▸e) e'
 ·rw[q]at e;injection e with e;have:=(h.ow.lt k e').2;omega
theorem Ff.pushW {w X:World}{B np:Nat}{vp vw vw':Value}{ps:List Part}{q:Part}(h:Ff w B vp vw np ps)(hq:D7 vp w q/\D7 vw w q)(hown:X.ownsRow B 32 1 vw' (ps.length+1) (ps.map Part.val++[q.val]))(hg:w.grownBy X vw.ownBlock)
  (a0:vw'.ownBlock=vw.ownBlock\/vw'.ownBlock=some w.heap.size):Ff X B vp vw' np (ps++[q])/\D7 vp X q/\D7 vw' X q:=by
 obtain⟨xs,ho⟩:=h.op;refine⟨⟨⟨xs,B0 ho fun k e=>hg.block k (ho.lt k e).2 (fun e'=>h.ne k e e'.symm)⟩,by simpa using hown,fun k e e'=> ?_,fun p hp=> ?_,Nat.le_trans h.sz hg.size⟩,⟨hq.2.word_grown hg,hq.1.2⟩,hq.2.grown hg a0⟩
 ·rcases a0 with u|u
  ·exact h.ne k e (u▸e')
  ·rw[u]at e';injection e' with e';have:=(ho.lt k e).2;omega
 ·rcases List.mem_append.1 hp with hp|hp
  ·exact⟨⟨(h.pp p hp).2.word_grown hg,(h.pp p hp).1.2⟩,(h.pp p hp).2.grown hg a0⟩
  ·obtain rfl:p=q:=by simpa using hp
   exact⟨⟨hq.2.word_grown hg,hq.1.2⟩,hq.2.grown hg a0⟩
theorem Ff.fresh {w w':World}{B np:Nat}{vp vw:Value}{ps:List Part}{q:Part}(h:Ff w B vp vw np ps)(hq:Ad w' q.1 q.2.1 q.2.2.1 q.2.2.2)(hf:∀ad,q.1=some ad->w.heap.size<=ad.block):D7 vp w' q/\D7 vw w' q:=
 ⟨⟨hq,fun ad had _ e=>by have:=(h.lts.1 _ e).2;have:=hf ad had;omega⟩,hq,fun ad had _ e=>by have:=(h.lts.2 _ e).2;have:=hf ad had;omega⟩
theorem Ff.words {w:World}{B np n c:Nat}{vp:Value}{A:Option Addr}{ps:List Part}(h:Ff w B vp (.slice A n c) np ps)(hn:n=ps.length):Bx w A n c (ps.map Part.word):=by
 subst hn;exact Bx.mk (Bd.of_own h.ow (by decide)) (fun p hp=>(h.pp p hp).1.1)
def trM (l:Bg)(ws:List Snd):Int×List (List Snd):=if(Ep l ws 80 (Ch l ws)).2 then(11,[])else(0,(Ep l ws 80 (Ch l ws)).1.map (·.2))
def Afc (w:World)(r:Int×List (List Snd))(e:Ending)(w':World):Prop:=
 ∃vp A n c,e= .returned (.tuple #[vp, .slice A n c, .int .i64 r.1])/\Bx w' A n c r.2/\Below w.heap.size w w'
def Aef:Value->Nat
 | .slice _ n _=>n
 |_=>0
theorem Agy (l:Bg)(a:Dn)(A:Option Addr)(n c:Nat)(ws:List Snd)(w:World)(hl:Cv w l a)(hw:Ad w A n c ws)(hu:Lb l)(hwu:Bq ws)(hv:Ci l=0)(hck:Bs ws=0)(hmode:l.mode=2):
  Calls Tryz.prog 209 #[C8 l a, .slice A n c] w (Afc w (trM l ws)):=by
 obtain⟨m3,m4,j1,f1⟩:=Sz hv;obtain⟨f3,k0⟩:=E0.1 hck;have j6:ws.length=n:=hw.len;rw[j6]at f3;have H2:Hid (l.mode≠1):=by show _≠_;rw[hmode];decide
 have H3:Hid (l.mode=2):=hmode;have g8:=hI j1;have k3:=hI (Db.start l ws (by omega));have k2:Hid (Ch l ws=⟨0,0,0,ws⟩):=by show _=_;unfold Ch;rw[if_neg (by rw[hmode];decide)]
 have i7:=hI f1;clear f1;have HL:=hI hl;clear hl;have HU:=hI hu;clear hu;have HV:=hI hv;clear hv j1 hck hmode j6;obtain⟨Wb,k7,i2,j5,b3,m2⟩:=De w l a;obtain⟨d0,d1,d2,d3⟩:=B3 i2;have i4:=hI i2;clear i2;have g9:=hI j5;clear j5;have k4:Hid (Cv Wb l a):=HL.out.below b3 rr;have HW:Hid (Ad Wb A n c ws):=hw.below b3 rr;clear hw HL;have k5:Hid (Bq ws/\OkW ws):=⟨hwu,k0⟩;clear hwu k0;go_enter Tryz.func209,Tryz.ntmps209;go_wp2_with fail;clear k7 d0 d1 d2 d3
 go_loopw [1,7,8,10] (fun u1 vp vw i wr=>∃(p:Nat) (nx sh:Int) (now:List Snd) (done:List (Int×List Snd)) (ps:List Part) (A1:Option Addr) (n1 c1:Nat),u1= .slice A1 n1 c1/\i= .int .i64 p/\Hid (Ff wr Wb.heap.size vp vw done.length ps)/\Hid (ps.map Part.word=done.map (·.2))∧
  Hid (Db l ws ⟨p,nx,sh,now⟩ done)/\Hid (D7 vp wr (A1,n1,c1,now)/\D7 vw wr (A1,n1,c1,now))/\n1<=32/\p<=33/\Hid (Bq now/\OkW now)/\Below Wb.heap.size Wb wr) (fun u1 _ _ i _=>Aef u1+1-(intOf i).toNat)
 case atStart=>exact⟨0,0,0,ws,[],[],A,n,c,rfl,rfl,Ff.nil _,rfl,(by show Db _ _ _ _;have:=k3.out;rwa[k2.out]at this),⟨⟨HW.out,fun ad _ _ h=>by cases h⟩,HW.out,fun ad _ _ h=>by cases h⟩,f3,by omega,k5,Below.refl _ _⟩
 case round=>
  obtain⟨p,nx,sh,now,done,ps,A1,n1,c1,rfl,rfl,f9,g2,d5,b9,m1,hp,b2,hB⟩:=hrel;have k8:=hB.size;have j3:=(hB.block _ g9.out).trans i4.out;have g4:Hid (now.length=n1):=b9.out.1.1.len;have j2:=(k4.out.below hB rr);have i0:=hI j2;clear j2;have H1:=hI j3;clear j3;by_cases hfin:p+l.ifs.length<=n1
  ·have d4:Ey l ws ⟨p,nx,sh,now⟩=false:=by unfold Ey;rw[if_neg H2.out,if_pos H3.out];have:=g4.out;simp;omega
   have g5:=hI d4;clear d4;have f6:(p:Int)+(l.ifs.length:Int)<=(n1:Int):=by omega
   go_wp2_with(refine Cn rfl (.tmp 2) rfl w.heap.size l a rfl H1.out ?_);refine(Zy l a A1 n1 c1 now p wr i0.out b9.out.1.1 HU.out b2.out.1 (by omega) (by omega) (by omega)).mono ?_;rintro e w2 ⟨rfl,a9⟩;have i6:=hB.trans (a9.mono k8);have f8:Hid (w2.heap[w.heap.size]? =some (.cells (Bv l a) 34 (0,0))):=(a9.block _ (lt_of_block H1.out)).trans H1.out;have j0:Hid (Cv w2 l a):=i0.out.below a9 rr;have a3:Hid (Ff w2 Wb.heap.size u7 u8 done.length ps):=f9.out.below a9;have b1:Hid (D7 u7 w2 (A1,n1,c1,now)/\D7 u8 w2 (A1,n1,c1,now)):=⟨b9.out.1.below a9,b9.out.2.below a9⟩;clear a9 i0 H1 f9 b9
   cases hh:Eo l now p with
   |false=>
    have m0:Hid (Db l ws ⟨(p+1:Nat),nx,sh,now⟩ done):=by
     refine d5.out.skip g8.out g5.out ?_;unfold Dg;rw[if_neg H2.out,if_pos H3.out,if_neg (by rw[Int.toNat_natCast,hh];decide)];simp
    clear hh;go_wp2
    go_roundw
    case rel=>exact⟨p+1,nx,sh,now,done,ps,A1,n1,c1,rfl,by go_num,a3,g2,m0,b1,m1,by omega,b2,i6⟩
    case measure=>simp[intOf,Aef];omega
   |true=>
    have j7:Dg l ws ⟨p,nx,sh,now⟩=(some ((p:Int),Bf l now p),⟨(p:Int)+l.outs.length+(if l.ifs.length=0 then 1 else 0),nx,sh,Bf l now p⟩):=by
     unfold Dg;rw[if_neg H2.out,if_pos H3.out,if_pos (by rw[Int.toNat_natCast,hh])];rfl
    have b8:=hI j7;clear j7;have i5:=Mj hh;have HH:=hI hh;clear hh;go_wp2_with(refine Cn rfl (.tmp 2) rfl w.heap.size l a rfl f8.out ?_);refine(Tq l a A1 n1 c1 now p w2 j0.out b1.out.1.1 i7.out (by omega) hfin (by omega) HU.out b2.out.1 b2.out.2).mono ?_;rintro e w3 ⟨A3,n3,c3,rfl,g0,g1,i8⟩;have f0:=i6.trans (g1.mono i6.size);have k6:Hid (w3.heap[w.heap.size]? =some (.cells (Bv l a) 34 (0,0))):=(g1.block _ (lt_of_block f8.out)).trans f8.out;have a5:Hid (Ff w3 Wb.heap.size u7 u8 done.length ps):=a3.out.below g1;have a4:Hid (D7 u7 w3 (A3,n3,c3,Bf l now p)/\D7 u8 w3 (A3,n3,c3,Bf l now p)):=a3.out.fresh g0 i8;have d7:Hid (Bq (Bf l now p)/\OkW (Bf l now p)):=⟨Hu b2.out.1,Gi HV.out b2.out.2⟩;have m8:n3+l.ifs.length=n1+l.outs.length:=by have h1:=g0.len;have h2:=g4.out;omega
    have f5:Hid ((Bf l now p).length=n3):=g0.len;clear g1 i8 g0 a3 b1 j0 f8 i5;by_cases h32:32<n3
    ·have a2:trM l ws=(11,[]):=by unfold trM;rw[if_pos (d5.out.long g8.out g5.out b8.out (by rw[f5.out];exact h32))]
     have a1:=hI a2;clear a2;go_wp2
     go_ret3
     refine⟨.slice none 0 0,none,0,0, ?_, ?_,b3.trans (f0.mono b3.size)⟩
     ·rw[a1.out];rfl
     ·rw[a1.out];exact Bx.nil _
    ·have j8:Hid (Db l ws ⟨(p:Int)+l.outs.length+(if l.ifs.length=0 then 1 else 0),nx,sh,Bf l now p⟩ (done++[((p:Int),Bf l now p)])):=d5.out.step g8.out g5.out b8.out (by rw[f5.out];omega);have m6:done.length<=80:=done_len d5.out;have j9:ps.length=done.length:=by have:=congrArg List.length g2.out;simpa using this
     have m5:=hI j9;have m7:ps.length<=80:=by omega
     clear j9;obtain⟨xs,i9⟩:=a5.out.op;have j4:=hI i9;clear i9;go_wp2_with(at_builtin;refine Hg rfl (.tmp 34) (.tmp 36) rfl Wb.heap.size u7 done.length xs rfl (j4.out.alloc _) ⟨w3.heap.size,0,none⟩ 1 (.int .i64 p) rfl (cell_one_new _ _ _) rfl (by omega) ?hz1 ?hc1)
     case hz1=>have:=f0.size;simp;omega
     case hc1=>
      intro v4 w4 a7 b4 d6;have f4:v4.ownBlock=u7.ownBlock\/v4.ownBlock=some (w3.alloc (.cells #[.int .i64 p] 3)).heap.size:=d6.imp id (fun e=>e.trans (by simp));have a0:Below w3.heap.size w3 (w3.alloc (.cells #[.int .i64 p] 3)):=(Below.refl _ _).alloc rr _;have a6:Hid (Ff w4 Wb.heap.size v4 u8 (done.length+1) ps):=(a5.out.below a0).pushP a7 b4 f4;have b0:Hid (D7 v4 w4 (A3,n3,c3,Bf l now p)/\D7 u8 w4 (A3,n3,c3,Bf l now p)):=⟨(a4.out.1.below a0).grown b4 f4,(a4.out.1.below a0).word_grown b4,a4.out.2.2⟩;have b7:=(a5.out.below a0).lts.1;have f7:Below Wb.heap.size Wb w4:=(f0.trans (a0.mono f0.size)).grown b4 (by have:=f0.size;simp;omega) (fun k hk=>(b7 k hk).1);have k9:Hid (w4.heap[w.heap.size]? =some (.cells (Bv l a) 34 (0,0))):=(f7.block _ g9.out).trans i4.out;clear a7 b4 d6 b7 a0 a5 a4 j4 k6;go_wp2_with(at_builtin;refine Jo rfl (.tmp 38) (.tmp 40) rfl Wb.heap.size u8 ps.length _ rfl (a6.out.ow.alloc _) ⟨w4.heap.size,0,none⟩ 1 (.slice A3 n3 c3) rfl (cell_one_new _ _ _) rfl (by omega) ?hz2 ?hc2)
      case hz2=>have:=f7.size;simp;omega
      case hc2=>
       intro v5 w5 a8 g6 d8;have i3:v5.ownBlock=u8.ownBlock\/v5.ownBlock=some (w4.alloc (.cells #[.slice A3 n3 c3] 32)).heap.size:=d8.imp id (fun e=>e.trans (by simp));have a0:Below w4.heap.size w4 (w4.alloc (.cells #[.slice A3 n3 c3] 32)):=(Below.refl _ _).alloc rr _;have h5:=(a6.out.below a0).pushW (q:=(A3,n3,c3,Bf l now p)) ⟨b0.out.1.below a0,b0.out.2.below a0⟩ a8 g6 i3;have H5:=hI h5;clear h5;have f2:=(a6.out.below a0).lts.2;have i1:Below Wb.heap.size Wb w5:=(f7.trans (a0.mono f7.size)).grown g6 (by have:=f7.size;simp;omega) (fun k hk=>(f2 k hk).1);have k1:Hid (w5.heap[w.heap.size]? =some (.cells (Bv l a) 34 (0,0))):=(i1.block _ g9.out).trans i4.out;have d9:Hid ((ps++[((A3,n3,c3,Bf l now p):Part)]).map Part.word=(done++[((p:Int),Bf l now p)]).map (·.2)):=by show _=_;rw[List.map_append,List.map_append,g2.out];rfl
       have b5:Hid (Ff w5 Wb.heap.size v4 v5 (done++[((p:Int),Bf l now p)]).length (ps++[((A3,n3,c3,Bf l now p):Part)])):=by show Ff _ _ _ _ _ _;rw[List.length_append];exact H5.out.1
       clear a8 g6 d8 f2 a0 a6 b0 k9;obtain⟨d0,d1,d2,d3⟩:=B3 k1.out;by_cases hk0:l.ifs.length=0
       ·have g3:Hid (Db l ws ⟨(p+l.outs.length+1:Nat),nx,sh,Bf l now p⟩ (done++[((p:Int),Bf l now p)])):=by
         have:=j8.out
         rw[if_pos hk0]at this;show Db _ _ _ _;rw[show((p+l.outs.length+1:Nat):Int)=(p:Int)+l.outs.length+1 by omega];exact this
        have g7:((l.ifs.length:Int)==0)=true:=by rw[hk0];rfl
        have b6:l.ifs.length<=0:=by omega
        clear hk0;go_wp2
        go_roundw
        case rel=>exact⟨p+l.outs.length+1,nx,sh,Bf l now p,_,_,A3,n3,c3,rfl,by go_num,b5,d9,g3,⟨H5.out.2.1,H5.out.2.2⟩,by omega,by omega,d7,i1⟩
        case measure=>simp[intOf,Aef];omega
       ·have g3:Hid (Db l ws ⟨(p+l.outs.length:Nat),nx,sh,Bf l now p⟩ (done++[((p:Int),Bf l now p)])):=by
         have:=j8.out
         rw[if_neg hk0]at this;show Db _ _ _ _;rw[show((p+l.outs.length:Nat):Int)=(p:Int)+l.outs.length+0 by omega];exact this
        have g7:((l.ifs.length:Int)==0)=false:=by simpa using hk0
        have b6:1<=l.ifs.length:=by omega
        clear hk0;go_wp2
        go_roundw
        case rel=>exact⟨p+l.outs.length,nx,sh,Bf l now p,_,_,A3,n3,c3,rfl,by go_num,b5,d9,g3,⟨H5.out.2.1,H5.out.2.2⟩,by omega,by omega,d7,i1⟩
        case measure=>simp[intOf,Aef];omega
  ·have d4:Ey l ws ⟨p,nx,sh,now⟩=true:=by unfold Ey;rw[if_neg H2.out,if_pos H3.out];have:=g4.out;simp;omega
   have a2:trM l ws=(0,done.map (·.2)):=by unfold trM;rw[d5.out.fin d4];rfl
   have a1:=hI a2;clear a2 d4;have f6:¬((p:Int)+(l.ifs.length:Int)<=(n1:Int)):=by omega
   obtain⟨A8,c8,rfl⟩:=Bh f9.out.ow;go_wp2
   go_ret3
   refine⟨u7,A8,ps.length,c8, ?_, ?_,b3.trans (hB.mono b3.size)⟩
   ·rw[a1.out];rfl
   ·rw[a1.out];show Bx _ _ _ _ (done.map (·.2));rw[←g2.out];exact f9.out.words rfl
theorem Aj4 (l:Bg)(a:Dn)(A:Option Addr)(n c:Nat)(ws:List Snd)(w:World)(hl:Cv w l a)(hw:Ad w A n c ws)(hu:Lb l)(hwu:Bq ws)(hv:Ci l=0)(hck:Bs ws=0)(hmode:l.mode=3):
  Calls Tryz.prog 210 #[C8 l a, .slice A n c] w (Afc w (trM l ws)):=by
 obtain⟨m5,m6,j2,f2⟩:=Sz hv;obtain⟨f4,k2⟩:=E0.1 hck;have i3:ws.length=n:=hw.len;rw[i3]at f4;have H2:Hid (l.mode≠1):=by show _≠_;rw[hmode];decide
 have f8:Hid (l.mode≠2):=by show _≠_;rw[hmode];decide
 have H3:Hid (l.mode=3):=hmode;have g8:=hI j2;have k5:=hI (Db.start l ws (by omega));have k4:Hid (Ch l ws=⟨(n:Int)-l.ifs.length,0,0,ws⟩):=by show _=_;unfold Ch;rw[if_pos hmode,i3]
 have i8:=hI f2;clear f2;have HL:=hI hl;clear hl;have HU:=hI hu;clear hu;have HV:=hI hv;clear hv j2 hck hmode i3;obtain⟨Wb,k9,i2,j7,b4,m4⟩:=De w l a;obtain⟨d0,d1,d2,d3⟩:=B3 i2;have i5:=hI i2;clear i2;have g9:=hI j7;clear j7;have k6:Hid (Cv Wb l a):=HL.out.below b4 rr;have HW:Hid (Ad Wb A n c ws):=hw.below b4 rr;clear hw HL;have k7:Hid (Bq ws/\OkW ws):=⟨hwu,k2⟩;clear hwu k2;go_enter Tryz.func210,Tryz.ntmps210;go_wp2_with fail;clear k9 d0 d1 d2 d3
 go_loopw [1,7,8,10] (fun u1 vp vw i wr=>∃(q:Int) (nx sh:Int) (now:List Snd) (done:List (Int×List Snd)) (ps:List Part) (A1:Option Addr) (n1 c1:Nat),u1= .slice A1 n1 c1/\i= .int .i64 q/\Hid (Ff wr Wb.heap.size vp vw done.length ps)/\Hid (ps.map Part.word=done.map (·.2))∧
  Hid (Db l ws ⟨q,nx,sh,now⟩ done)/\Hid (D7 vp wr (A1,n1,c1,now)/\D7 vw wr (A1,n1,c1,now))/\n1<=32/\q<=33∧ -40<=q/\Hid (Bq now/\OkW now)/\Below Wb.heap.size Wb wr) (fun _ _ _ i _=>(intOf i+1).toNat)
 case atStart=>exact⟨(n:Int)-l.ifs.length,0,0,ws,[],[],A,n,c,rfl,rfl,Ff.nil _,rfl,(by show Db _ _ _ _;have:=k5.out;rwa[k4.out]at this),⟨⟨HW.out,fun ad _ _ h=>by cases h⟩,HW.out,fun ad _ _ h=>by cases h⟩,f4,by omega,by omega,k7,Below.refl _ _⟩
 case round=>
  obtain⟨q,nx,sh,now,done,ps,A1,n1,c1,rfl,rfl,g0,g3,d6,d4,m3,hp,o1,b3,hB⟩:=hrel;have m0:=hB.size;have j5:=(hB.block _ g9.out).trans i5.out;have j4:Hid (now.length=n1):=d4.out.1.1.len;have j3:=(k6.out.below hB rr);have i0:=hI j3;clear j3;have H1:=hI j5;clear j5;by_cases a7:0<=q
  ·obtain⟨p,rfl⟩:∃p:Nat,q=p:=⟨q.toNat,by omega⟩;clear a7;have d5:Ey l ws ⟨p,nx,sh,now⟩=false:=by unfold Ey;rw[if_neg H2.out,if_neg f8.out,if_pos H3.out];simp
   have g5:=hI d5;clear d5;go_wp2_with(refine Cn rfl (.tmp 2) rfl w.heap.size l a rfl H1.out ?_);refine(Zy l a A1 n1 c1 now p wr i0.out d4.out.1.1 HU.out b3.out.1 (by omega) (by omega) (by omega)).mono ?_;rintro e w2 ⟨rfl,b0⟩;have i7:=hB.trans (b0.mono m0);have f9:Hid (w2.heap[w.heap.size]? =some (.cells (Bv l a) 34 (0,0))):=(b0.block _ (lt_of_block H1.out)).trans H1.out;have j1:Hid (Cv w2 l a):=i0.out.below b0 rr;have a3:Hid (Ff w2 Wb.heap.size u7 u8 done.length ps):=g0.out.below b0;have b2:Hid (D7 u7 w2 (A1,n1,c1,now)/\D7 u8 w2 (A1,n1,c1,now)):=⟨d4.out.1.below b0,d4.out.2.below b0⟩;clear b0 i0 H1 g0 d4
   cases hh:Eo l now p with
   |false=>
    have m2:Hid (Db l ws ⟨(p:Int)-1,nx,sh,now⟩ done):=by
     refine d6.out.skip g8.out g5.out ?_;unfold Dg;rw[if_neg H2.out,if_neg f8.out,if_neg (by rw[Int.toNat_natCast,hh];decide)]
    clear hh;go_wp2
    go_roundw
    case rel=>exact⟨(p:Int)-1,nx,sh,now,done,ps,A1,n1,c1,rfl,by go_num,a3,g3,m2,b2,m3,by omega,by omega,b3,i7⟩
    case measure=>simp[intOf,Aef]<;>omega
   |true=>
    have j8:Dg l ws ⟨p,nx,sh,now⟩=(some ((p:Int),Bf l now p),⟨(p:Int)-max (l.ifs.length:Int) 1,nx,sh,Bf l now p⟩):=by
     unfold Dg;rw[if_neg H2.out,if_neg f8.out,if_pos (by rw[Int.toNat_natCast,hh])];rfl
    have b9:=hI j8;clear j8;have i6:=Mj hh;have a7:p+l.ifs.length<=n1:=by have:=Nb hh;have:=j4.out;omega
    have HH:=hI hh;clear hh;go_wp2_with(refine Cn rfl (.tmp 2) rfl w.heap.size l a rfl f9.out ?_);refine(Tq l a A1 n1 c1 now p w2 j1.out b2.out.1.1 i8.out (by omega) a7 (by omega) HU.out b3.out.1 b3.out.2).mono ?_;rintro e w3 ⟨A3,n3,c3,rfl,g1,g2,i9⟩;have f1:=i7.trans (g2.mono i7.size);have k8:Hid (w3.heap[w.heap.size]? =some (.cells (Bv l a) 34 (0,0))):=(g2.block _ (lt_of_block f9.out)).trans f9.out;have a5:Hid (Ff w3 Wb.heap.size u7 u8 done.length ps):=a3.out.below g2;have a4:Hid (D7 u7 w3 (A3,n3,c3,Bf l now p)/\D7 u8 w3 (A3,n3,c3,Bf l now p)):=a3.out.fresh g1 i9;have d8:Hid (Bq (Bf l now p)/\OkW (Bf l now p)):=⟨Hu b3.out.1,Gi HV.out b3.out.2⟩;have o0:n3+l.ifs.length=n1+l.outs.length:=by have h1:=g1.len;have h2:=j4.out;omega
    have f6:Hid ((Bf l now p).length=n3):=g1.len;clear g2 i9 g1 a3 b2 j1 f9 i6;by_cases h32:32<n3
    ·have a2:trM l ws=(11,[]):=by unfold trM;rw[if_pos (d6.out.long g8.out g5.out b9.out (by rw[f6.out];exact h32))]
     have a1:=hI a2;clear a2;go_wp2
     go_ret3
     refine⟨.slice none 0 0,none,0,0, ?_, ?_,b4.trans (f1.mono b4.size)⟩
     ·rw[a1.out];rfl
     ·rw[a1.out];exact Bx.nil _
    ·have k0:Hid (Db l ws ⟨(p:Int)-max (l.ifs.length:Int) 1,nx,sh,Bf l now p⟩ (done++[((p:Int),Bf l now p)])):=d6.out.step g8.out g5.out b9.out (by rw[f6.out];omega);have m8:done.length<=80:=done_len d6.out;have k1:ps.length=done.length:=by have:=congrArg List.length g3.out;simpa using this
     have m7:=hI k1;have m9:ps.length<=80:=by omega
     clear k1;obtain⟨xs,j0⟩:=a5.out.op;have j6:=hI j0;clear j0;go_wp2_with(at_builtin;refine Hg rfl (.tmp 34) (.tmp 36) rfl Wb.heap.size u7 done.length xs rfl (j6.out.alloc _) ⟨w3.heap.size,0,none⟩ 1 (.int .i64 p) rfl (cell_one_new _ _ _) rfl (by omega) ?hz1 ?hc1)
     case hz1=>have:=f1.size;simp;omega
     case hc1=>
      intro v4 w4 a8 b5 d7;have f5:v4.ownBlock=u7.ownBlock\/v4.ownBlock=some (w3.alloc (.cells #[.int .i64 p] 3)).heap.size:=d7.imp id (fun e=>e.trans (by simp));have a0:Below w3.heap.size w3 (w3.alloc (.cells #[.int .i64 p] 3)):=(Below.refl _ _).alloc rr _;have a6:Hid (Ff w4 Wb.heap.size v4 u8 (done.length+1) ps):=(a5.out.below a0).pushP a8 b5 f5;have b1:Hid (D7 v4 w4 (A3,n3,c3,Bf l now p)/\D7 u8 w4 (A3,n3,c3,Bf l now p)):=⟨(a4.out.1.below a0).grown b5 f5,(a4.out.1.below a0).word_grown b5,a4.out.2.2⟩;have b8:=(a5.out.below a0).lts.1;have f7:Below Wb.heap.size Wb w4:=(f1.trans (a0.mono f1.size)).grown b5 (by have:=f1.size;simp;omega) (fun k hk=>(b8 k hk).1);have m1:Hid (w4.heap[w.heap.size]? =some (.cells (Bv l a) 34 (0,0))):=(f7.block _ g9.out).trans i5.out;clear a8 b5 d7 b8 a0 a5 a4 j6 k8;go_wp2_with(at_builtin;refine Jo rfl (.tmp 38) (.tmp 40) rfl Wb.heap.size u8 ps.length _ rfl (a6.out.ow.alloc _) ⟨w4.heap.size,0,none⟩ 1 (.slice A3 n3 c3) rfl (cell_one_new _ _ _) rfl (by omega) ?hz2 ?hc2)
      case hz2=>have:=f7.size;simp;omega
      case hc2=>
       intro v5 w5 a9 g6 d9;have i4:v5.ownBlock=u8.ownBlock\/v5.ownBlock=some (w4.alloc (.cells #[.slice A3 n3 c3] 32)).heap.size:=d9.imp id (fun e=>e.trans (by simp));have a0:Below w4.heap.size w4 (w4.alloc (.cells #[.slice A3 n3 c3] 32)):=(Below.refl _ _).alloc rr _;have h5:=(a6.out.below a0).pushW (q:=(A3,n3,c3,Bf l now p)) ⟨b1.out.1.below a0,b1.out.2.below a0⟩ a9 g6 i4;have H5:=hI h5;clear h5;have f3:=(a6.out.below a0).lts.2;have i1:Below Wb.heap.size Wb w5:=(f7.trans (a0.mono f7.size)).grown g6 (by have:=f7.size;simp;omega) (fun k hk=>(f3 k hk).1);have k3:Hid (w5.heap[w.heap.size]? =some (.cells (Bv l a) 34 (0,0))):=(i1.block _ g9.out).trans i5.out;have f0:Hid ((ps++[((A3,n3,c3,Bf l now p):Part)]).map Part.word=(done++[((p:Int),Bf l now p)]).map (·.2)):=by show _=_;rw[List.map_append,List.map_append,g3.out];rfl
       have b6:Hid (Ff w5 Wb.heap.size v4 v5 (done++[((p:Int),Bf l now p)]).length (ps++[((A3,n3,c3,Bf l now p):Part)])):=by show Ff _ _ _ _ _ _;rw[List.length_append];exact H5.out.1
       clear a9 g6 d9 f3 a0 a6 b1 m1;obtain⟨d0,d1,d2,d3⟩:=B3 k3.out;by_cases hk0:l.ifs.length=0
       ·have g4:Hid (Db l ws ⟨(p:Int)-l.ifs.length-1,nx,sh,Bf l now p⟩ (done++[((p:Int),Bf l now p)])):=by
         have:=k0.out
         show Db _ _ _ _;rw[show(p:Int)-l.ifs.length-1=(p:Int)-max (l.ifs.length:Int) 1 by omega];exact this
        have g7:((l.ifs.length:Int)==0)=true:=by rw[hk0];rfl
        have b7:l.ifs.length<=0:=by omega
        clear hk0;go_wp2
        go_roundw
        case rel=>exact⟨(p:Int)-l.ifs.length-1,nx,sh,Bf l now p,_,_,A3,n3,c3,rfl,by go_num,b6,f0,g4,⟨H5.out.2.1,H5.out.2.2⟩,by omega,by omega,by omega,d8,i1⟩
        case measure=>simp[intOf,Aef];omega
       ·have g4:Hid (Db l ws ⟨(p:Int)-l.ifs.length,nx,sh,Bf l now p⟩ (done++[((p:Int),Bf l now p)])):=by
         have:=k0.out
         show Db _ _ _ _;rw[show(p:Int)-l.ifs.length=(p:Int)-max (l.ifs.length:Int) 1 by omega];exact this
        have g7:((l.ifs.length:Int)==0)=false:=by simpa using hk0
        have b7:1<=l.ifs.length:=by omega
        clear hk0;go_wp2
        go_roundw
        case rel=>exact⟨(p:Int)-l.ifs.length,nx,sh,Bf l now p,_,_,A3,n3,c3,rfl,by go_num,b6,f0,g4,⟨H5.out.2.1,H5.out.2.2⟩,by omega,by omega,by omega,d8,i1⟩
        case measure=>simp[intOf,Aef];omega
  ·have d5:Ey l ws ⟨q,nx,sh,now⟩=true:=by unfold Ey;rw[if_neg H2.out,if_neg f8.out,if_pos H3.out];simp;omega
   have a2:trM l ws=(0,done.map (·.2)):=by unfold trM;rw[d6.out.fin d5];rfl
   have a1:=hI a2;clear a2 d5;have j9:¬(0<=q):=a7;obtain⟨A8,c8,rfl⟩:=Bh g0.out.ow;go_wp2
   go_ret3
   refine⟨u7,A8,ps.length,c8, ?_, ?_,b4.trans (hB.mono b4.size)⟩
   ·rw[a1.out];rfl
   ·rw[a1.out];show Bx _ _ _ _ (done.map (·.2));rw[←g3.out];exact g0.out.words rfl
section at_
variable {P:Program}(w:World)
theorem Jk (base:Nat)(t ty e:TypeId)(i:TypeInfo)(z:Value)(sz bytes:Nat)(ht:P.underlying t=some (.slice e))(hi:P.info? e=some i)(hz:i.zero=some z)
  (hsize:i.size=sz) (hby:i.bytes=bytes) (hzs:z.cells.size=sz) (hsz:0<sz)
  (v:Value) (n:Nat) (xs:List Value) (hown:w.ownsRow base e sz v n xs)
  (A:Option Addr) (m c:Nat) (news:List Value) (hr:Bd w A m c sz news) (h1:∀u∈news,u.oneCell'=true)
  (h63:n+m<=maxLen) (hbytes:(n+m)*bytes<=140737488355328) (hbase:base<=w.heap.size):
  ∃v' w',(Builtin.append_ #[t,t] ty #[v, .slice A m c]).run P w= .ok v' w'/\w'.ownsRow base e sz v' (n+m) (xs++news)/\w.grownBy w' v.ownBlock∧
   (v'.ownBlock=v.ownBlock\/v'.ownBlock=some w.heap.size):=by
 obtain⟨a0,h2,h3,h4,h5⟩:=hr;rcases Nat.eq_zero_or_pos m with hm|hm
 ·subst hm;have hn:news=[]:=List.eq_nil_of_length_eq_zero (by simpa using a0);subst hn
  cases A with
  |none=>exact⟨v,w,Kh w base t ty e i sz ht hi v n xs hown c,by simpa using hown,⟨rfl,rfl,rfl,rr,fun _ _ _=>rfl⟩, .inl rfl⟩
  |some ad=>
   obtain⟨v',w',q1,q2,q3,_,q4⟩:=run_append_own_at w base t ty e i z sz bytes ht hi hz hsize hby hzs hsz v n xs hown ad 0 c [] (by simp) (by simp) (by simp) h63 hbytes hbase;exact⟨v',w',q1,q2,q3,q4⟩
 ·obtain⟨b,off,rfl,_,hc⟩:=h5 hm;obtain⟨v',w',q1,q2,q3,_,q4⟩:=run_append_own_at w base t ty e i z sz bytes ht hi hz hsize hby hzs hsz v n xs hown ⟨b,off,none⟩ m c news a0 (fun j u hu=>by rw[Gm];exact hc j u hu) h1 h63 hbytes hbase;exact⟨v',w',q1,q2,q3,q4⟩
end at_
theorem Ex {o:Oper}{a:Act}{K:Act->World->Prop}{Q:Exit->Act->World->Prop}(w:World)(s x:Operand)
  (ho:o.op= .call {callee:= .builtin .append,args:= #[s,x],argTypes:= #[32,32]})
  (base:Nat) (v:Value) (n:Nat) (xs:List Snd) (hs:a.eval s=v) (hown:w.ownsRow base 24 2 v n (Bl xs))
  (A:Option Addr) (m c:Nat) (ys:List Snd) (hx:a.eval x= .slice A m c) (hr:Ad w A m c ys) (hl:n+m<=4096) (hbase:base<=w.heap.size)
  (h:∀v' w',w'.ownsRow base 24 2 v' (n+m) (Bl (xs++ys))->w.grownBy w' v.ownBlock->(v'.ownBlock=v.ownBlock\/v'.ownBlock=some w.heap.size)→
   K (a.put o.dst v') w'):o.wp Tryz.prog a w K Q:=by
 obtain⟨i0,hi,a3,a2,a1⟩:=info_parts Lh
 obtain⟨v',w',a0,h2,h3,h4⟩:=Jk (P:=Tryz.prog) w base 32 o.type 24 i0 _ 2 8 Tryz.underlying32 hi a3 a2 a1 rfl (by decide) v n (Bl xs) hown A m c (Bl ys) hr
  (Lz ys) (by unfold maxLen;omega) (by omega) hbase
 unfold Oper.wp execOp;simp only[ho,resolve,invoke,builtin,Sem.run_bind,Sem.run_pure,Result.andThen_ok,List.map_toArray,List.map_cons,List.map_nil,hs,hx,a0];rw[←Fx]at h2;exact h v' w' h2 h3 h4
theorem N6 {ops:Array Oper}{rest:List Oper}{o:Oper}{a:Act}{w:World}{Q:Exit->Act->World->Prop}(hgd:o.guard=none)(s x:Operand)
  (ho:o.op= .call {callee:= .builtin .append,args:= #[s,x],argTypes:= #[32,32]})
  (base:Nat) (v:Value) (n:Nat) (xs:List Snd) (hs:a.eval s=v) (hown:w.ownsRow base 24 2 v n (Bl xs))
  (A:Option Addr) (m c:Nat) (ys:List Snd) (hx:a.eval x= .slice A m c) (hr:Ad w A m c ys) (hl:n+m<=4096) (hbase:base<=w.heap.size)
  (h:∀v' w',w'.ownsRow base 24 2 v' (n+m) (Bl (xs++ys))->w.grownBy w' v.ownBlock->(v'.ownBlock=v.ownBlock\/v'.ownBlock=some w.heap.size)→
   wpList Tryz.prog ops Q rest (a.put o.dst v') w'):wpList Tryz.prog ops Q (o::rest) a w:=
 wpList_plain hgd fun _ hK=>Ex w s x ho base v n xs hs hown A m c ys hx hr hl hbase fun v' w' h1 h2 h3=>hK _ _ (h v' w' h1 h2 h3)
structure Jc (w:World)(B:Nat)(vp vw vo:Value)(np:Nat)(ps:List Part)(no:Nat)(out:List Snd):Prop where
 tr:Ff w B vp vw np ps
 oo:w.ownsRow B 24 2 vo no (Bl out)
 on:∀k,vo.ownBlock=some k→¬vp.ownBlock=some k∧¬vw.ownBlock=some k
 fr:∀p∈ps,D7 vo w p
theorem Jc.nil (w:World):Jc w w.heap.size (.slice none 0 0) (.slice none 0 0) (.slice none 0 0) 0 [] 0 []:=
 ⟨Ff.nil w,World.ownsRow_nil _ _ _ _,fun k h=>(by cases h),fun p hp=>by simp at hp⟩
section al
variable {w w' X:World}{B np no:Nat}{vp vw vo vp' vw' vo':Value}{ps:List Part}{out out':List Snd}
theorem Jc.below (h:Jc w B vp vw vo np ps no out)(hb:Below w.heap.size w w'):Jc w' B vp vw vo np ps no out:=
 ⟨h.tr.below hb,B0 h.oo fun k e=>hb.block k (h.oo.lt k e).2,h.on,fun p hp=>(h.fr p hp).below hb⟩
theorem Jc.pushP {xs:List Value}(h:Jc w B vp vw vo np ps no out)(hown:X.ownsRow B 3 1 vp' (np+1) xs)(hg:w.grownBy X vp.ownBlock)
  (a0:vp'.ownBlock=vp.ownBlock\/vp'.ownBlock=some w.heap.size):Jc X B vp' vw vo (np+1) ps no out:=by
 refine⟨h.tr.pushP hown hg a0,B0 h.oo fun k e=>hg.block k (h.oo.lt k e).2 (fun e'=>(h.on k e).1 e'.symm),fun k e=>⟨fun e'=> ?_,(h.on k e).2⟩,fun p hp=>⟨(h.tr.pp p hp).1.word_grown hg,(h.fr p hp).2⟩⟩
 rcases a0 with q|q
 ·exact(h.on k e).1 (q▸e')
 ·rw[q]at e';injection e' with e';have:=(h.oo.lt k e).2;omega
theorem Jc.pushW {q:Part}(h:Jc w B vp vw vo np ps no out)(hq:D7 vp w q/\D7 vw w q)(hqo:D7 vo w q)(hown:X.ownsRow B 32 1 vw' (ps.length+1) (ps.map Part.val++[q.val]))(hg:w.grownBy X vw.ownBlock)
  (a0:vw'.ownBlock=vw.ownBlock\/vw'.ownBlock=some w.heap.size):Jc X B vp vw' vo np (ps++[q]) no out:=by
 refine⟨(h.tr.pushW hq hown hg a0).1,B0 h.oo fun k e=>hg.block k (h.oo.lt k e).2 (fun e'=>(h.on k e).2 e'.symm),fun k e=>⟨(h.on k e).1,fun e'=> ?_⟩,fun p hp=> ?_⟩
 ·rcases a0 with u|u
  ·exact(h.on k e).2 (u▸e')
  ·rw[u]at e';injection e' with e';have:=(h.oo.lt k e).2;omega
 ·rcases List.mem_append.1 hp with hp|hp
  ·exact⟨(h.tr.pp p hp).2.word_grown hg,(h.fr p hp).2⟩
  ·obtain rfl:p=q:=by simpa using hp
   exact⟨hq.2.word_grown hg,hqo.2⟩
theorem Jc.growO (h:Jc w B vp vw vo np ps no out){no':Nat}(hown:X.ownsRow B 24 2 vo' no' (Bl out'))(hg:w.grownBy X vo.ownBlock)
  (a0:vo'.ownBlock=vo.ownBlock\/vo'.ownBlock=some w.heap.size):Jc X B vp vw vo' np ps no' out':=by
 have hb:∀k,k<w.heap.size→¬vo.ownBlock=some k->X.heap[k]? =w.heap[k]? :=fun k h1 h2=>hg.block k h1 (fun e=>h2 e.symm)
 obtain⟨xs,ho⟩:=h.tr.op;refine⟨⟨⟨xs,B0 ho fun k e=>hb k (ho.lt k e).2 (fun e'=>(h.on k e').1 e)⟩,B0 h.tr.ow fun k e=>hb k (h.tr.ow.lt k e).2 (fun e'=>(h.on k e').2 e),h.tr.ne,fun p hp=>⟨⟨(h.fr p hp).word_grown hg,(h.tr.pp p hp).1.2⟩,(h.fr p hp).word_grown hg,(h.tr.pp p hp).2.2⟩,Nat.le_trans h.tr.sz hg.size⟩,hown,fun k e=> ?_,fun p hp=>(h.fr p hp).grown hg a0⟩
 rcases a0 with u|u
 ·exact h.on k (u▸e)
 ·rw[u]at e;injection e with e
  exact⟨fun e'=>by have:=(ho.lt k e').2;omega,fun e'=>by have:=(h.tr.ow.lt k e').2;omega⟩
theorem Jc.fresh {q:Part}(h:Jc w B vp vw vo np ps no out)(hq:Ad w' q.1 q.2.1 q.2.2.1 q.2.2.2)(hf:∀ad,q.1=some ad->w.heap.size<=ad.block):(D7 vp w' q/\D7 vw w' q)/\D7 vo w' q:=
 ⟨h.tr.fresh hq hf,hq,fun ad had _ e=>by have:=(h.oo.lt _ e).2;have:=hf ad had;omega⟩
end al
def Dw (l:Bg)(ws:List Snd)(p:Nat)(out:List Snd)(done:List (Int×List Snd)):Prop:=
 (Ep l ws 80 (Ch l ws)=(done,false)/\ws.length<p+l.ifs.length)∨
 ∃nx sh,Db l ws ⟨p,nx,sh,out++ws.drop p⟩ done/\nx<=p/\(out.length:Int)=p+sh/\p+l.ifs.length<=ws.length
section allat
variable {l:Bg}{ws out:List Snd}{done:List (Int×List Snd)}{p:Nat}
theorem Aj5 (hm:l.mode=1)(p:Nat)(nx sh:Int)(now:List Snd):Ey l ws ⟨p,nx,sh,now⟩=decide (ws.length<p+l.ifs.length):=by
 unfold Ey;rw[if_pos hm];simp only;exact decide_eq_decide.2 (by omega)
theorem Dw.of (hm:l.mode=1){nx sh:Int}(h:Db l ws ⟨p,nx,sh,out++ws.drop p⟩ done)(hn:nx<=p)(ho:p+l.ifs.length<=ws.length->(out.length:Int)=p+sh):Dw l ws p out done:=by
 by_cases hf:ws.length<p+l.ifs.length
 ·exact .inl ⟨h.fin (by rw[Aj5 hm];simpa using hf),hf⟩
 ·exact .inr ⟨nx,sh,h,hn,ho (by omega),by omega⟩
theorem Dw.start (hm:l.mode=1)(hw:ws.length<=32):Dw l ws 0 [] []:=by
 have h:=Db.start l ws hw;have e:Ch l ws=⟨0,0,0,ws⟩:=by unfold Ch;rw[if_neg (by rw[hm];decide)]
 refine Dw.of hm (nx:=0) (sh:=0) ?_ (by omega) (fun _=>rfl);rw[e]at h;exact h
theorem Db.jump (hm:l.mode=1){nx sh:Int}{now:List Snd}:∀(d p:Nat),Db l ws ⟨p,nx,sh,now⟩ done->(p:Int)+d<=nx->(Ep l ws 80 (Ch l ws)=(done,false)/\ws.length<p+d+l.ifs.length)\/Db l ws ⟨(p+d:Nat),nx,sh,now⟩ done
 |0,p,h,_=> .inr h
 |d+1,p,h,hn=>by
  by_cases hf:ws.length<p+l.ifs.length
  ·exact .inl ⟨h.fin (by rw[Aj5 hm];simpa using hf),by omega⟩
  ·have hs:Db l ws ⟨(p+1:Nat),nx,sh,now⟩ done:=by
    refine h.skip (.inl hm) (by rw[Aj5 hm];simpa using hf) ?_;unfold Dg;rw[if_pos hm,show decide (nx<=(p:Int))=false by simp;omega,Bool.and_false,if_neg (by decide)];simp
   have:=Db.jump hm d (p+1) hs (by omega)
   rwa[show p+(d+1)=p+1+d by omega]
theorem Dw.skip (hm:l.mode=1)(h:Dw l ws p out done)(hh:Eo l ws p=false):Dw l ws (p+1) (out++(ws.drop p).take 1) done:=by
 rcases h with⟨h1,h2⟩|⟨nx,sh,h1,h2,h3,h4⟩
 ·exact .inl ⟨h1,by omega⟩
 ·have hs:Db l ws ⟨(p+1:Nat),nx,sh,out++ws.drop p⟩ done:=by
   refine h1.skip (.inl hm) (by rw[Aj5 hm];simpa using h4) ?_;unfold Dg;rw[if_pos hm,show Eo l ws ((⟨p,nx,sh,out++ws.drop p⟩:RS).at_.toNat)=false by rw[show(⟨p,nx,sh,out++ws.drop p⟩:RS).at_=p from rfl,Int.toNat_natCast,hh],Bool.false_and,if_neg (by decide)];simp
  refine Dw.of hm (nx:=nx) (sh:=sh) ?_ (by omega) (fun h5=> ?_)
  ·rw[List.append_assoc,show(ws.drop p).take 1++ws.drop (p+1)=ws.drop p by rw[←List.drop_drop];exact List.take_append_drop 1 _];exact hs
  ·rw[List.length_append,List.length_take,List.length_drop];omega
def Fs (l:Bg)(ws out:List Snd)(p:Nat):List Snd:=out++Hc l ((ws.drop p).take l.ifs.length)++ws.drop (p+l.ifs.length)
theorem Dw.hit_step (hm:l.mode=1)(h:Dw l ws p out done)(hh:Eo l ws p=true):∃nx sh,Db l ws ⟨p,nx,sh,out++ws.drop p⟩ done/\(out.length:Int)=p+sh/\Ey l ws ⟨p,nx,sh,out++ws.drop p⟩=false∧
  Dg l ws ⟨p,nx,sh,out++ws.drop p⟩=(some ((p:Int),Fs l ws out p),⟨(p:Int)+1,(p:Int)+max (l.ifs.length:Int) 1,sh+l.outs.length-l.ifs.length,Fs l ws out p⟩):=by
 have hf:=Nb hh;rcases h with⟨h1,h2⟩|⟨nx,sh,h1,h2,h3,h4⟩
 ·omega
 ·refine⟨nx,sh,h1,h3,by rw[Aj5 hm];simpa using h4, ?_⟩;unfold Dg
  have e:(out++ws.drop p).take ((p:Int)+sh).toNat=out:=by
   rw[←h3,Int.toNat_natCast];exact List.take_left
  simp only[if_pos hm,Int.toNat_natCast,hh,Bool.true_and,decide_eq_true h2,if_true,e];rfl
theorem Dw.long (hm:l.mode=1)(h:Dw l ws p out done)(hh:Eo l ws p=true)(hn:32<(Fs l ws out p).length):(Ep l ws 80 (Ch l ws)).2=true:=by
 obtain⟨nx,sh,h1,_,h2,h3⟩:=h.hit_step hm hh;exact h1.long (.inl hm) h2 h3 hn
theorem Dw.hit (hm:l.mode=1)(h:Dw l ws p out done)(hh:Eo l ws p=true)(hn:(Fs l ws out p).length<=32):
  Dw l ws (p+max l.ifs.length 1) (out++Hc l ((ws.drop p).take l.ifs.length)++if l.ifs.length=0 then(ws.drop p).take 1 else []) (done++[((p:Int),Fs l ws out p)]):=by
 obtain⟨nx,sh,h1,h5,h2,h3⟩:=h.hit_step hm hh;have hs:=h1.step (.inl hm) h2 h3 hn;have hf:=Nb hh;have a0:=Acj l ((ws.drop p).take l.ifs.length);have hj:=Db.jump hm (max l.ifs.length 1-1) (p+1) (nx:=(p:Int)+max (l.ifs.length:Int) 1) (sh:=sh+l.outs.length-l.ifs.length) (now:=Fs l ws out p) (by simpa using hs) (by omega);rw[show p+1+(max l.ifs.length 1-1)=p+max l.ifs.length 1 by omega]at hj;rcases hj with⟨j1,j2⟩|hj
 ·exact .inl ⟨j1,by omega⟩
 ·refine Dw.of hm (nx:=(p:Int)+max (l.ifs.length:Int) 1) (sh:=sh+l.outs.length-l.ifs.length) ?_ (by omega) (fun h6=> ?_)
  ·by_cases hk:l.ifs.length=0
   ·rw[if_pos hk,List.append_assoc,show max l.ifs.length 1=1 by omega,show(ws.drop p).take 1++ws.drop (p+1)=ws.drop p by rw[←List.drop_drop];exact List.take_append_drop 1 _];rw[show max l.ifs.length 1=1 by omega]at hj;unfold Fs at hj ⊢;rw[show ws.drop (p+l.ifs.length)=ws.drop p by rw[hk];rfl]at hj ⊢;exact hj
   ·rw[if_neg hk,List.append_nil,show max l.ifs.length 1=l.ifs.length by omega];rw[show max l.ifs.length 1=l.ifs.length by omega]at hj;exact hj
  ·by_cases hk:l.ifs.length=0
   ·rw[if_pos hk,List.length_append,List.length_append,List.length_take,List.length_drop,a0];omega
   ·rw[if_neg hk,List.append_nil,List.length_append,a0];omega
theorem Dw.fin (h:Dw l ws p out done)(hp:ws.length<p):Ep l ws 80 (Ch l ws)=(done,false):=by
 rcases h with⟨h1,_⟩|⟨_,_,_,_,_,h4⟩
 ·exact h1
 ·omega
theorem Dw.done_len (h:Dw l ws p out done):done.length<=80:=by
 rcases h with⟨h1,_⟩|⟨_,_,h1,_⟩
 ·have:=Lu l ws 80 (Ch l ws)
  rw[h1]at this;exact this
 ·exact Proofs.YtlgliddhideflaaGreatDoor.done_len h1
end allat
end Go.Proofs.YtlgliddhideflaaGreatDoor
namespace Go.Proofs.YtlgliddhideflaaGreatDoor
open Go.RowKit Go.Shelf
attribute [local go_sem] Oper.semAt_some
theorem Ab6 {α:Type}{l:List α}{p:Nat}{x:α}(h:l[p]? =some x):(l.drop p).take 1=[x]:=by
 obtain⟨hp,rfl⟩:=List.getElem?_eq_some_iff.1 h;rw[List.drop_eq_getElem_cons hp];rfl
theorem Al3 (l:Bg)(a:Dn)(A:Option Addr)(n c:Nat)(ws:List Snd)(w:World)(hl:Cv w l a)(hw:Ad w A n c ws)(hu:Lb l)(hwu:Bq ws)(hv:Ci l=0)(hck:Bs ws=0)(hmode:l.mode=1):
  Calls Tryz.prog 208 #[C8 l a, .slice A n c] w (Afc w (trM l ws)):=by
 obtain⟨q8,r1,p7,g2⟩:=Sz hv;obtain⟨m2,p5⟩:=E0.1 hck;have m1:ws.length=n:=hw.len;rw[m1]at m2;have s2:n<=c:=hw.2.1;have p9:c<=9223372036854775807:=by have:=hw.2.2.1;unfold maxLen at this;omega
 have k1:Hid (l.mode=1):=hmode;have p8:Hid (Dw l ws 0 [] []):=Dw.start hmode (by omega);have i8:Hid (ws.length=n):=m1;have m5:=hI g2;clear g2;have HL:=hI hl;clear hl;have HU:=hI hu;clear hu;have HV:=hI hv;clear hv p7 hck hmode m1;obtain⟨Wb,q2,k9,o8,f0,q7⟩:=De w l a;obtain⟨d0,d1,d2,d3⟩:=B3 k9;have p2:=hI k9;clear k9;have o5:=hI o8;clear o8;have q1:Hid (Cv Wb l a):=HL.out.below f0 rr;have HW:Hid (Ad Wb A n c ws):=hw.below f0 rr;clear hw HL;have k7:Hid (Bq ws/\OkW ws):=⟨hwu,p5⟩;clear hwu p5;go_enter Tryz.func208,Tryz.ntmps208;go_wp2_with fail;clear q2 d0 d1 d2 d3
 go_loopw [7,8,9,10] (fun vp vw vo i wr=>∃(p:Nat) (done:List (Int×List Snd)) (ps:List Part) (no:Nat) (out:List Snd),i= .int .i64 p/\Hid (Jc wr Wb.heap.size vp vw vo done.length ps no out)/\Hid (ps.map Part.word=done.map (·.2))∧
  Hid (Dw l ws p out done)/\no<=7*p/\p<=40/\Below Wb.heap.size Wb wr) (fun _ _ _ i _=>41-(intOf i).toNat)
 case atStart=>exact⟨0,[],[],0,[],rfl,Jc.nil _,rfl,p8,by omega,by omega,Below.refl _ _⟩
 case round=>
  obtain⟨p,done,ps,no,out,rfl,i6,i1,f5,r5,hp,hB⟩:=hrel;have q3:=hB.size;have o6:=(hB.block _ o5.out).trans p2.out;have o1:=(q1.out.below hB rr);have k3:=hI o1;clear o1;have H1:=hI o6;clear o6;by_cases hfin:p<=n
  ·have i0:(p:Int)<=(n:Int):=by omega
   go_wp2_with(refine Cn rfl (.tmp 2) rfl w.heap.size l a rfl H1.out ?_);refine(Zy l a A n c ws p wr k3.out (HW.out.below hB rr) HU.out k7.out.1 (by omega) (by omega) (by omega)).mono ?_;rintro e w2 ⟨rfl,f1⟩;have d8:=hB.trans (f1.mono q3);have i5:Hid (w2.heap[w.heap.size]? =some (.cells (Bv l a) 34 (0,0))):=(f1.block _ (lt_of_block H1.out)).trans H1.out;have o0:Hid (Cv w2 l a):=k3.out.below f1 rr;have a2:Hid (Jc w2 Wb.heap.size u7 u8 u9 done.length ps no out):=i6.out.below f1;clear f1 k3 H1 i6
   cases hh:Eo l ws p with
   |false=>
    have i9:Hid (Dw l ws (p+1) (out++(ws.drop p).take 1) done):=f5.out.skip k1.out hh;clear hh;by_cases hlt:p<n
    ·obtain⟨bw,ow,x,y,rfl,m6,f2,j7,m4⟩:=(HW.out.below d8 rr).at_ hlt;have d5:(p:Int)<(n:Int):=by omega
     have d4:Hid (Dw l ws (p+1) (out++[(x,y)]) done):=by show Dw _ _ _ _ _;rw[←Ab6 f2];exact i9.out
     clear f2 i9;have b3:=d8.size;go_wp2_with(at_builtin;refine N6 rfl (.tmp 26) (.tmp 31) rfl Wb.heap.size u9 no out rfl (a2.out.oo.alloc _) (some ⟨w2.heap.size,0,none⟩) 1 1 [(x,y)] rfl (E3 w2 x y 24) (by omega) ?hz1 ?hc1)
     case hz1=>simp;omega
     case hc1=>
      intro v3 w3 b6 j1 g6;have i3:v3.ownBlock=u9.ownBlock\/v3.ownBlock=some (w2.alloc (.cells #[.int .u32 x, .int .u32 y] 24)).heap.size:=g6.imp id (fun e=>e.trans (by simp));have a0:Below w2.heap.size w2 (w2.alloc (.cells #[.int .u32 x, .int .u32 y] 24)):=(Below.refl _ _).alloc rr _;have a5:Hid (Jc w3 Wb.heap.size u7 u8 v3 done.length ps (no+1) (out++[(x,y)])):=(a2.out.below a0).growO b6 j1 i3;have g1:Below Wb.heap.size Wb w3:=(d8.trans (a0.mono b3)).grown j1 (by simp;omega) (fun k hk=>(a2.out.oo.lt k hk).1);clear b6 j1 g6 i3 a0 a2 j7 m4;go_wp2
      go_roundw
      case rel=>exact⟨p+1,done,ps,no+1,_,by go_num,a5,i1,d4,by omega,by omega,g1⟩
      case measure=>simp[intOf];omega
    ·have d5:¬((p:Int)<(n:Int)):=by omega
     have d4:Hid (Dw l ws (p+1) out done):=by
      have:=i9.out
      rwa[List.drop_eq_nil_of_le (by rw[i8.out];omega),List.take_nil,List.append_nil]at this
     clear i9;go_wp2
     go_roundw
     case rel=>exact⟨p+1,done,ps,no,out,by go_num,a2,i1,d4,by omega,by omega,d8⟩
     case measure=>simp[intOf];omega
   |true=>
    have k5:p+l.ifs.length<=n:=by have:=Nb hh;have:=i8.out;omega
    have HH:=hI hh;clear hh;have g9:=lt_of_block i5.out;have b3:=d8.size;obtain⟨d0,d1,d2,d3⟩:=B3 i5.out;go_wp2;clear d0 d1 d2 d3;have r3:(0:Int)<=(p:Int):=by omega
    have r7:(p:Int)<=(c:Int):=by omega
    have s1:(p:Int)<=(p:Int)+(l.ifs.length:Int):=by omega
    have q9:(p:Int)+(l.ifs.length:Int)<=(c:Int):=by omega
    have r6:(p:Int)+(l.ifs.length:Int)<=(n:Int):=by omega
    have r0:((p:Int)+(l.ifs.length:Int)).toNat=p+l.ifs.length:=by omega
    have r2:(0:Int)<=(p:Int)+(l.ifs.length:Int):=by omega
    have r4:IntKind.i64.wrap ((p:Int)+(l.ifs.length:Int))=(p:Int)+(l.ifs.length:Int):=IntWalk.i64_in _ (by omega);refine Bj (fun W'=>W'.heap[w.heap.size]? =some (.cells (Bv l a) 34 (0,0))) (by kernel_rfl) i5.out (fun hHeld=> ?_)
    (refine' Aa 0 rfl ?_;(try simp only[Act.put,nY,nX]))
    (refine' Ct (i:=1) (v:=C8 l a) rfl (by kernel_rfl) (by kernel_rfl) (by kernel_rfl) (by kernel_rfl) (fun _ _ _ h=>h) (Ga (by rfl) (.tmp 2) rfl (w.heap.size) l a (by rfl) (fun w' hSw=>by(try dsimp only at hSw);first|exact hSw|exact hSw.1)) (by assumption) ?_;(try simp only[Act.put,nY,nX]))
    (refine' Aa 2 rfl ?_;(try simp only[Act.put,nY,nX]));(refine' Aa 3 rfl ?_;(try simp only[Act.put,nY,nX]));(refine' Aa 4 rfl ?_;(try simp only[Act.put,nY,nX]));(refine' Aa 5 rfl ?_;(try simp only[Act.put,nY,nX]));(refine' Aa 6 rfl ?_;(try simp only[Act.put,nY,nX]));(refine' Aa 7 rfl ?_;(try simp only[Act.put,nY,nX]))
    (refine Aqq 8 rfl (fun K' hK'=> ?_);simp only[nY];go_simp)
    have i7:Below w2.heap.size w2 w2.drew:=(Below.refl w2.heap.size w2).drew;have hcut:Ad w2.drew (if c=p then A else A.map (·.add (p*2))) l.ifs.length (c-p) ((ws.drop p).take l.ifs.length):=Ad.take ((HW.out.below (B:=Wb.heap.size) (d8.trans (i7.mono b3)) rr).drop (by omega)) (by omega);refine(Afb l a _ _ _ _ (o0.out.below (B:=w2.heap.size) i7 rr) hcut m5.out (by omega) HU.out ((k7.out.1.drop _).take _) ((k7.out.2.drop _).take _)).mono ?_;rintro e w3 ⟨A3,n3,c3,rfl,o9,d6,_⟩;have m3:Below w2.heap.size w2 w3:=i7.trans d6;have g1:Below Wb.heap.size Wb w3:=d8.trans (m3.mono b3);have m9:=(d6.block w.heap.size g9).trans hHeld;have a5:Hid (Jc w3 Wb.heap.size u7 u8 u9 done.length ps no out):=a2.out.below m3;have j4:=hI o9;clear o9;have p4:n3=l.outs.length:=by rw[←j4.out.len];simp[Hc]
    have s0:=hI p4;have p6:n3<=6:=by omega
    clear p4 hcut m3 d6 i7 a2 o0;refine hK' _ _ ⟨.inr m9,fun _=> ?_⟩
    clear hK' K' hHeld
    (try simp only[Act.put,nY,nX])
    refine Aqq 9 rfl (fun K' hK'=> ?_);rw[if_pos (by rfl)];refine Ex w3 (.tmp 38) (.tmp 46) rfl Wb.heap.size u9 no out (by rfl) a5.out.oo A3 n3 c3 _ (by rfl) j4.out (by omega) (by have:=g1.size;omega) ?_;intro v4 w4 b4 j5 f4;have b2:Hid (Jc w4 Wb.heap.size u7 u8 v4 done.length ps (no+n3) (out++Hc l ((ws.drop p).take l.ifs.length))):=a5.out.growO b4 j5 f4;have i2:Below Wb.heap.size Wb w4:=g1.grown j5 g1.size (fun k hk=>(a5.out.oo.lt k hk).1);have p3:=(i2.block _ o5.out).trans p2.out;refine hK' _ _ ⟨.inr p3,fun _=> ?_⟩
    clear hK' K' j5 b4 f4 a5 m9 j4
    (try simp only[Act.put,nY,nX])
    (refine Aqq 10 rfl (fun K' hK'=> ?_);simp only[nY];go_simp)
    refine hK' _ _ ⟨.inl (by kernel_rfl),fun _=>Be (by kernel_rfl) ?_ _⟩
    clear hK' K' p3 i5 g9;generalize(if c=p then A else A.map (·.add (p*2)))=A5;have r8:done.length<=80:=f5.out.done_len;have q5:ps.length=done.length:=by have:=congrArg List.length i1.out;simpa using this
    have r9:ps.length<=80:=by omega
    clear q5;obtain⟨xs,m8⟩:=b2.out.tr.op;have o7:=hI m8;clear m8;go_wp2_with(at_builtin;refine Hg rfl (.tmp 48) (.tmp 50) rfl Wb.heap.size u7 done.length xs rfl (o7.out.alloc _) ⟨w4.heap.size,0,none⟩ 1 (.int .i64 p) rfl (cell_one_new _ _ _) rfl (by omega) ?hz1 ?hc1)
    case hz1=>have:=i2.size;simp;omega
    case hc1=>
     intro v5 w5 b9 j8 f9;have g7:v5.ownBlock=u7.ownBlock\/v5.ownBlock=some (w4.alloc (.cells #[.int .i64 p] 3)).heap.size:=f9.imp id (fun e=>e.trans (by simp));have a0:Below w4.heap.size w4 (w4.alloc (.cells #[.int .i64 p] 3)):=(Below.refl _ _).alloc rr _;have g3:=(b2.out.below a0).tr.lts.1;have a3:Hid (Jc w5 Wb.heap.size v5 u8 v4 (done.length+1) ps (no+n3) (out++Hc l ((ws.drop p).take l.ifs.length))):=(b2.out.below a0).pushP b9 j8 g7;have k6:Below Wb.heap.size Wb w5:=(i2.trans (a0.mono i2.size)).grown j8 (by have:=i2.size;simp;omega) (fun k hk=>(g3 k hk).1);clear b9 j8 f9 g7 a0 g3 b2 o7;obtain⟨A4,c4,rfl⟩:=Bh a3.out.oo;obtain⟨cutM,a8⟩:∃cutM,cutM=Hc l ((ws.drop p).take l.ifs.length):=⟨_,rfl⟩;rw[←a8]at a3;have o3:=hI a8;clear a8;go_wp2;refine Bj (fun _=>True) (by kernel_rfl) trivial (fun _=> ?_)
     (refine' Aa 1 rfl ?_;(try simp only[Act.put,nY,nX]));(refine' Aa 3 rfl ?_;(try simp only[Act.put,nY,nX]));(refine' Aa 4 rfl ?_;(try simp only[Act.put,nY,nX]));(refine' Aa 5 rfl ?_;(try simp only[Act.put,nY,nX]));(refine' Aa 6 rfl ?_;(try simp only[Act.put,nY,nX]));(refine' Aa 7 rfl ?_;(try simp only[Act.put,nY,nX]))
     (refine Aqq 0 rfl (fun K' hK'=> ?_);simp only[nY];go_simp)
     refine hK' _ _ ⟨.inr trivial,fun _=> ?_⟩
     clear hK' K'
     (try simp only[Act.put,nY,nX])
     refine Aqq 2 rfl (fun K' hK'=> ?_);rw[if_pos (by rfl)];have f3:=k6.size;have j3:Below w5.heap.size w5 (w5.drew.alloc (.cells #[] 24)):=((Below.refl w5.heap.size w5).drew).alloc rr _;have p1:Ad (w5.drew.alloc (.cells #[] 24)) A4 (no+n3) c4 (out++cutM):=Ad.below (Bd.of_own a3.out.oo (by decide)) j3 rr;refine Ex _ (.tmp 52) (.tmp 53) rfl w5.heap.size (.slice (some ⟨w5.heap.size,0,none⟩) 0 0) 0 [] (by rfl) (World.ownsRow_lit w5.drew #[] 0 rr (by unfold maxLen;omega) rfl) A4 (no+n3) c4 _ (by rfl) p1 (by omega) (by simp) ?_;intro v6 w6 a7 m7 _;have g0:Below w5.heap.size w5 w6:=j3.grown m7 (by simp) (fun k hk=>by have h:w5.heap.size=k:=(by simpa[Value.ownBlock]using hk);omega);refine hK' _ _ ⟨.inr trivial,fun _=> ?_⟩
     clear hK' K' p1 j3 m7
     (try simp only[Act.put,nY,nX])
     refine Aqq 8 rfl (fun K' hK'=> ?_);rw[if_pos (by rfl)];refine Ex w6 (.tmp 54) (.tmp 59) rfl w5.heap.size v6 (0+(no+n3)) _ (by rfl) a7 (if c=p+l.ifs.length then A else A.map (·.add ((p+l.ifs.length)*2))) (n-(p+l.ifs.length)) (c-(p+l.ifs.length)) (ws.drop (p+l.ifs.length)) (by rfl) (Ad.drop (HW.out.below (k6.trans (g0.mono f3)) rr) k5) (by omega) g0.size ?_;intro v7 w7 a1 o4 _;have k8:Below w5.heap.size w5 w7:=g0.grown o4 g0.size (fun k hk=>(a7.lt k hk).1);refine hK' _ _ ⟨.inr trivial,fun _=> ?_⟩
     clear hK' K' o4 a7 g0
     (try simp only[Act.put,nY,nX])
     (refine Aqq 9 rfl (fun K' hK'=> ?_);simp only[nY];go_simp)
     refine hK' _ _ ⟨.inl (by kernel_rfl),fun _=>Be (by kernel_rfl) ?_ _⟩
     clear hK' K';generalize(if c=p+l.ifs.length then A else A.map (·.add ((p+l.ifs.length)*2)))=A9;obtain⟨n7,k4⟩:∃n7,n7=0+(no+n3)+(n-(p+l.ifs.length)):=⟨_,rfl⟩;rw[←k4]at a1;obtain⟨A7,c7,rfl⟩:=Bh a1;have p0:Fs l ws out p=(([]++(out++cutM))++ws.drop (p+l.ifs.length)):=by unfold Fs;rw[←o3.out];rfl
     have k0:Ad w7 A7 n7 c7 (Fs l ws out p):=by rw[p0];exact Bd.of_own a1 (by decide)
     have o2:∀ad,A7=some ad->w5.heap.size<=ad.block:=fun ad had=>(a1.lt ad.block (by rw[had];rfl)).1
     have b8:Hid ((Fs l ws out p).length=n7):=k0.len;have b1:=hI (a3.out.fresh (q:=(A7,n7,c7,Fs l ws out p)) k0 o2);have b0:Hid (Jc w7 Wb.heap.size v5 u8 (.slice A4 (no+n3) c4) (done.length+1) ps (no+n3) (out++cutM)):=a3.out.below k8;have g5:Below Wb.heap.size Wb w7:=k6.trans (k8.mono f3);have q6:=hI k4;clear a1 k0 o2 k8 a3 p0 k4;by_cases h32:32<n7
     ·have a9:trM l ws=(11,[]):=by unfold trM;rw[if_pos (f5.out.long k1.out HH.out (by rw[b8.out];exact h32))]
      have a6:=hI a9;clear a9;go_wp2
      go_ret3
      refine⟨.slice none 0 0,none,0,0, ?_, ?_,f0.trans (g5.mono f0.size)⟩
      ·rw[a6.out];rfl
      ·rw[a6.out];exact Bx.nil _
     ·have d4:Hid (Dw l ws (p+max l.ifs.length 1) (out++cutM++if l.ifs.length=0 then(ws.drop p).take 1 else []) (done++[((p:Int),Fs l ws out p)])):=by
       show Dw _ _ _ _ _;rw[o3.out];exact f5.out.hit k1.out HH.out (by rw[b8.out];omega)
      have d7:Hid ((ps++[((A7,n7,c7,Fs l ws out p):Part)]).map Part.word=(done++[((p:Int),Fs l ws out p)]).map (·.2)):=by show _=_;rw[List.map_append,List.map_append,i1.out];rfl
      go_wp2_with(at_builtin;refine Jo rfl (.tmp 64) (.tmp 66) rfl Wb.heap.size u8 ps.length _ rfl (b0.out.tr.ow.alloc _) ⟨w7.heap.size,0,none⟩ 1 (.slice A7 n7 c7) rfl (cell_one_new _ _ _) rfl (by omega) ?hz2 ?hc2)
      case hz2=>have:=g5.size;simp;omega
      case hc2=>
       intro v8 w8 b7 k2 f8;have g8:v8.ownBlock=u8.ownBlock\/v8.ownBlock=some (w7.alloc (.cells #[.slice A7 n7 c7] 32)).heap.size:=f8.imp id (fun e=>e.trans (by simp));have a0:Below w7.heap.size w7 (w7.alloc (.cells #[.slice A7 n7 c7] 32)):=(Below.refl _ _).alloc rr _;have h8:=(b0.out.below a0).pushW (q:=(A7,n7,c7,Fs l ws out p)) ⟨b1.out.1.1.below a0,b1.out.1.2.below a0⟩ (b1.out.2.below a0) b7 k2 g8;have f6:=(b0.out.below a0).tr.lts.2;have i4:Below Wb.heap.size Wb w8:=(g5.trans (a0.mono g5.size)).grown k2 (by have:=g5.size;simp;omega) (fun k hk=>(f6 k hk).1);have a4:Hid (Jc w8 Wb.heap.size v5 v8 (.slice A4 (no+n3) c4) (done++[((p:Int),Fs l ws out p)]).length (ps++[((A7,n7,c7,Fs l ws out p):Part)]) (no+n3) (out++cutM)):=by show Jc _ _ _ _ _ _ _ _ _;rw[List.length_append];exact h8
       clear h8 b7 k2 f8 g8 a0 f6 b0 b1;have m0:=i4.size;by_cases hk0:l.ifs.length=0
       ·have d9:Hid (Dw l ws (p+l.ifs.length+1) (out++cutM++(ws.drop (p+l.ifs.length)).take 1) (done++[((p:Int),Fs l ws out p)])):=by
         have:=d4.out
         rw[if_pos hk0,show p+max l.ifs.length 1=p+l.ifs.length+1 by omega]at this;show Dw _ _ _ _ _;rw[show ws.drop (p+l.ifs.length)=ws.drop p by rw[hk0];rfl];exact this
        have j9:((l.ifs.length:Int)==0)=true:=by rw[hk0];rfl
        have q0:l.ifs.length<=0:=by omega
        clear hk0 d4;by_cases hlt:p+l.ifs.length<n
        ·obtain⟨bw,ow,x,y,rfl,m6,f2,j7,m4⟩:=(HW.out.below i4 rr).at_ hlt;have d5:(p:Int)+(l.ifs.length:Int)<(n:Int):=by omega
         have j2:Hid (Dw l ws (p+l.ifs.length+1) (out++cutM++[(x,y)]) (done++[((p:Int),Fs l ws out p)])):=by show Dw _ _ _ _ _;rw[←Ab6 f2];exact d9.out
         clear f2 d9;go_wp2_with(at_builtin;refine N6 rfl (.tmp 77) (.tmp 82) rfl Wb.heap.size (.slice A4 (no+n3) c4) (no+n3) (out++cutM) rfl (a4.out.oo.alloc _) (some ⟨w8.heap.size,0,none⟩) 1 1 [(x,y)] rfl (E3 w8 x y 24) (by omega) ?hz3 ?hc3)
         case hz3=>simp;omega
         case hc3=>
          intro v9 w9 b5 j6 f7;have g4:v9.ownBlock=(Value.slice A4 (no+n3) c4).ownBlock\/v9.ownBlock=some (w8.alloc (.cells #[.int .u32 x, .int .u32 y] 24)).heap.size:=f7.imp id (fun e=>e.trans (by simp));have a0:Below w8.heap.size w8 (w8.alloc (.cells #[.int .u32 x, .int .u32 y] 24)):=(Below.refl _ _).alloc rr _;have j0:=hI ((a4.out.below a0).growO b5 j6 g4);have q4:Below Wb.heap.size Wb w9:=(i4.trans (a0.mono m0)).grown j6 (by simp;omega) (fun k hk=>(a4.out.oo.lt k hk).1);clear b5 j6 f7 g4 a0 a4 j7 m4;go_wp2
          go_roundw
          case rel=>exact⟨p+l.ifs.length+1,_,_,no+n3+1,_,by go_num,j0,d7,(by have h:=j2.out;rw[List.append_assoc]at h;exact h),by omega,by omega,q4⟩
          case measure=>simp[intOf]<;>omega
        ·have d5:¬((p:Int)+(l.ifs.length:Int)<(n:Int)):=by omega
         have j2:Hid (Dw l ws (p+l.ifs.length+1) (out++cutM) (done++[((p:Int),Fs l ws out p)])):=by
          have:=d9.out
          rwa[List.drop_eq_nil_of_le (by rw[i8.out];omega),List.take_nil,List.append_nil]at this
         clear d9;go_wp2
         go_roundw
         case rel=>exact⟨p+l.ifs.length+1,_,_,no+n3,_,by go_num,a4,d7,j2,by omega,by omega,i4⟩
         case measure=>simp[intOf]<;>omega
       ·have d9:Hid (Dw l ws (p+l.ifs.length) (out++cutM) (done++[((p:Int),Fs l ws out p)])):=by
         have:=d4.out
         rwa[if_neg hk0,List.append_nil,show p+max l.ifs.length 1=p+l.ifs.length by omega]at this
        have j9:((l.ifs.length:Int)==0)=false:=by simpa using hk0
        have q0:1<=l.ifs.length:=by omega
        clear hk0 d4;go_wp2
        go_roundw
        case rel=>exact⟨p+l.ifs.length,_,_,no+n3,_,by go_num,a4,d7,d9,by omega,by omega,i4⟩
        case measure=>simp[intOf]<;>omega
  ·have a9:trM l ws=(0,done.map (·.2)):=by unfold trM;rw[f5.out.fin (by rw[i8.out];omega)];rfl
   have a6:=hI a9;clear a9;have i0:¬((p:Int)<=(n:Int)):=by omega
   obtain⟨A8,c8,rfl⟩:=Bh i6.out.tr.ow;go_wp2
   go_ret3
   refine⟨u7,A8,ps.length,c8, ?_, ?_,f0.trans (hB.mono f0.size)⟩
   ·rw[a6.out];rfl
   ·rw[a6.out];show Bx _ _ _ _ (done.map (·.2));rw[←i1.out];exact i6.out.tr.words rfl
end Go.Proofs.YtlgliddhideflaaGreatDoor
namespace Go.Proofs.YtlgliddhideflaaGreatDoor
open Go.RowKit Go.Shelf
def N7 (l:Bg)(ws:List Snd):Int×List (List Snd):=((Cy l ws).1,(Cy l ws).2.map (·.2))
theorem Agz {l:Bg}{ws:List Snd}(h:Cc l ws≠0):N7 l ws=(Cc l ws,[]):=by unfold N7 Cy;rw[if_pos h];rfl
theorem Aeg {l:Bg}{ws:List Snd}(h:Cc l ws=0):N7 l ws=trM l ws:=by
 unfold N7 Cy trM;rw[if_neg (by simpa using h)];split<;>rfl
theorem Yq {l:Bg}{ws:List Snd}(h:Cc l ws=0):Ci l=0/\Bs ws=0:=by
 unfold Cc at h;by_cases h1:Ci l=0
 ·rw[if_pos h1]at h;exact⟨h1,h⟩
 ·rw[if_neg h1]at h;exact absurd h h1
theorem Ag0 (l:Bg)(a:Dn)(A:Option Addr)(n c:Nat)(ws:List Snd)(w:World)(hl:Cv w l a)(hw:Ad w A n c ws)(hu:Lb l)(hwu:Bq ws):
  Calls Tryz.prog 172 #[C8 l a, .slice A n c] w (Afc w (N7 l ws)):=by
 have HL:=hI hl;clear hl;have HW:=hI hw;clear hw;have HU:=hI hu;clear hu;have a4:=hI hwu;clear hwu;obtain⟨Wb,b4,b0,b3,a5,b5⟩:=De w l a;have a9:=hI b0;clear b0;go_enter Tryz.func172,Tryz.ntmps172;go_wp2_with(refine Cn rfl (.tmp 2) rfl w.heap.size l a rfl a9.out ?_);clear b4;refine(Agx l a A n c ws _ (HL.out.below a5 rr) (HW.out.below a5 rr) HU.out a4.out).mono ?_;rintro e w1 ⟨rfl,a8⟩;have H1:Hid (w1.heap[w.heap.size]? =some (.cells (Bv l a) 34 (0,0))):=(a8.block _ b3).trans a9.out;have a0:Below w.heap.size w w1:=a5.trans (a8.mono a5.size);clear a8 a9;by_cases hE:Cc l ws=0
 ·have b1:(Cc l ws !=0)=false:=by simpa using hE
  have HR:=hI (Aeg hE);obtain⟨h1,h2⟩:=Yq hE;obtain⟨_,_,b2,_⟩:=Sz h1;have a7:=hI h1;clear h1;have a6:=hI h2;clear h2;clear hE;obtain⟨d0,d1,d2,d3⟩:=B3 H1.out;rcases b2 with hm|hm|hm
  ·rw[hm]at d3;have HM:Hid (l.mode=1):=hm;clear d0 d1 d2;go_wp2_with(refine Cn rfl (.tmp 2) rfl w.heap.size l a rfl H1.out ?_);clear hm d3;refine(Al3 l a A n c ws w1 (HL.out.below a0 rr) (HW.out.below a0 rr) HU.out a4.out a7.out a6.out HM.out).mono ?_;rintro e w2 ⟨vp,A2,n2,c2,rfl,a3,a1⟩;have a2:=a0.trans (a1.mono a0.size);clear a1;go_wp2
   go_ret3
   exact⟨vp,A2,n2,c2,by rw[HR.out];rfl,by rw[HR.out];exact a3,a2⟩
  ·rw[hm]at d3;have HM:Hid (l.mode=2):=hm;clear d0 d1 d2;go_wp2_with(refine Cn rfl (.tmp 2) rfl w.heap.size l a rfl H1.out ?_);clear hm d3;refine(Agy l a A n c ws w1 (HL.out.below a0 rr) (HW.out.below a0 rr) HU.out a4.out a7.out a6.out HM.out).mono ?_;rintro e w2 ⟨vp,A2,n2,c2,rfl,a3,a1⟩;have a2:=a0.trans (a1.mono a0.size);clear a1;go_wp2
   go_ret3
   exact⟨vp,A2,n2,c2,by rw[HR.out];rfl,by rw[HR.out];exact a3,a2⟩
  ·rw[hm]at d3;have HM:Hid (l.mode=3):=hm;clear d0 d1 d2;go_wp2_with(refine Cn rfl (.tmp 2) rfl w.heap.size l a rfl H1.out ?_);clear hm d3;refine(Aj4 l a A n c ws w1 (HL.out.below a0 rr) (HW.out.below a0 rr) HU.out a4.out a7.out a6.out HM.out).mono ?_;rintro e w2 ⟨vp,A2,n2,c2,rfl,a3,a1⟩;have a2:=a0.trans (a1.mono a0.size);clear a1;go_wp2
   go_ret3
   exact⟨vp,A2,n2,c2,by rw[HR.out];rfl,by rw[HR.out];exact a3,a2⟩
 ·have b1:(Cc l ws !=0)=true:=by simpa using hE
  have HR:=hI (Agz hE);clear hE;go_wp2
  go_ret3
  exact⟨.slice none 0 0,none,0,0,by rw[HR.out];rfl,by rw[HR.out];exact Bx.nil _,a0⟩
theorem Yr (l:Bg)(a:Dn)(A:Option Addr)(n c:Nat)(ws:List Snd)(w:World)(hl:Cv w l a)(hw:Ad w A n c ws)(hu:Lb l)(hwu:Bq ws):
  Calls Tryz.prog 129 #[C8 l a, .slice A n c] w (Aez w (Bo l ws)):=by
 have HL:=hI hl;clear hl;have HW:=hI hw;clear hw;have HU:=hI hu;clear hu;have d3:=hI hwu;clear hwu;obtain⟨Wb,d4,b8,f4,a8,f0⟩:=De w l a;have d1:=hI b8;clear b8;go_enter Tryz.func129,Tryz.ntmps129;go_wp2_with(refine Cn rfl (.tmp 2) rfl w.heap.size l a rfl d1.out ?_);clear d4;refine(Ag0 l a A n c ws _ (HL.out.below a8 rr) (HW.out.below a8 rr) HU.out d3.out).mono ?_;rintro e w1 ⟨vp,A2,n2,c2,rfl,a7,b5⟩;have b7:Below w.heap.size w w1:=a8.trans (b5.mono a8.size);have d9:=b5.size;clear b5 d1;have a6:=a7.len
 have d8:n2<=80:=by
  rw[←a6];unfold N7 Cy;split
  ·simp
  ·split
   ·simp
   ·simp only[List.length_map];exact Lu _ _ _ _
 have b1:∀x∈(N7 l ws).2,x.length<=32:=by
  unfold N7 Cy;split
  ·simp
  ·split
   ·simp
   ·intro x hx;obtain⟨y,hy,rfl⟩:=List.mem_map.1 hx;exact L5 l ws _ _ y hy
 have a1:=hI b7;obtain⟨er,b2⟩:∃er,er=(N7 l ws).1:=⟨_,rfl⟩;obtain⟨xss,a2⟩:∃xss,xss=(N7 l ws).2:=⟨_,rfl⟩;rw[←a2]at a6 b1 a7;rw[←b2];have d6:=hI a7;clear a7;have d7:=hI b1;clear b1;have b3:Hid (er=(Cy l ws).1):=b2;have d2:Hid (xss=(Cy l ws).2.map (·.2)):=a2;have b6:=hI a6;clear b2 a2 b7 a6;by_cases h0:er=0
 case neg=>
  have h1:(er !=0)=true:=by simpa using h0
  have HM:Hid (Bo l ws=(er,[])):=by show Bo l ws=_;unfold Bo;rw[←b3.out,if_pos h0]
  clear h0;go_wp2
  go_ret2
  exact⟨none,0,0,by rw[HM.out];rfl,by rw[HM.out];exact Bd.nil _ _,a1.out,fun ad h=>by cases h⟩
 have h1:(er !=0)=false:=by simpa using h0
 have HM:Hid (Bo l ws=(0,(xss.getLast?).getD ws)):=by show Bo l ws=_;rw[Ly l ws (by rw[←b3.out];exact h0),d2.out]
 have f5:n<=32:=by
  have h2:Cc l ws=0:=by
   by_cases h2:Cc l ws=0
   ·exact h2
   ·have:=b3.out;unfold Cy at this;rw[if_pos h2,h0]at this;exact absurd this.symm h2
  have:=(E0.1 (Yq h2).2).1
  have h3:=HW.out.len;omega
 clear h0;by_cases hz:0<n2
 ·obtain⟨m,rfl⟩:∃m,n2=m+1:=⟨n2-1,by omega⟩;obtain⟨b,off,A',n',c',xs,rfl,f1,d0,a9,b4⟩:=d6.out.at_ (k:=m) (by omega);have f3:(m:Int)<(m:Int)+1:=by omega
  have f2:((m:Int)).toNat=m:=by omega
  have f6:n'<=32:=by have h:=d7.out xs (List.mem_of_getElem? a9);have h3:=b4.len;omega
  have a3:Hid (Bo l ws=(0,xs)):=by show Bo l ws=_;rw[HM.out,Kg (m:=m) b6.out,a9];rfl
  have d5:=hI b4;clear b4 a9;have a5:Below w1.heap.size w1 (w1.alloc (.cells #[] 24)):=(Below.refl _ _).alloc rr _;have a4:=hI a5;clear a5;go_wp2_with(at_builtin;refine Cs rfl (.tmp 25) (.tmp 31) rfl w1.heap.size (.slice (some ⟨w1.heap.size,0,none⟩) 0 0) 0 [] rfl (World.ownsRow_lit w1 #[] 0 rr (by unfold maxLen;omega) rfl) A' n' c' xs rfl (d5.out.below a4.out rr) (by omega) (by simp) ?_;intro v4 w4 a0 b0 _)
  go_ret2
  obtain⟨A4,c4,rfl⟩:=Bh a0;refine⟨A4,0+n',c4,by rw[a3.out];rfl, ?_, ?_,fun ad had=> ?_⟩
  ·rw[a3.out];exact Bd.of_own a0 (by decide)
  ·exact(a1.out.trans (a4.out.mono a1.out.size)).grown b0 (by have:=a1.out.size;simp;omega) (fun k hk=>by have h:w1.heap.size=k:=(by simpa[Value.ownBlock]using hk);have:=a1.out.size;omega)
  ·have:=(a0.lt ad.block (by rw[had];rfl)).1;have:=a1.out.size;omega
 ·obtain rfl:n2=0:=by omega
  have b9:xss=[]:=List.eq_nil_of_length_eq_zero b6.out;have a3:Hid (Bo l ws=(0,ws)):=by show Bo l ws=_;rw[HM.out,b9];rfl
  clear b9;have a5:Below w1.heap.size w1 (w1.alloc (.cells #[] 24)):=(Below.refl _ _).alloc rr _;have a4:=hI a5;clear a5;go_wp2_with(at_builtin;refine Cs rfl (.tmp 22) (.tmp 23) rfl w1.heap.size (.slice (some ⟨w1.heap.size,0,none⟩) 0 0) 0 [] rfl (World.ownsRow_lit w1 #[] 0 rr (by unfold maxLen;omega) rfl) A n c ws rfl (HW.out.below (a1.out.trans (a4.out.mono a1.out.size)) rr) (by omega) (by simp) ?_;intro v4 w4 a0 b0 _)
  go_ret2
  obtain⟨A4,c4,rfl⟩:=Bh a0;refine⟨A4,0+n,c4,by rw[a3.out];rfl, ?_, ?_,fun ad had=> ?_⟩
  ·rw[a3.out];exact Bd.of_own a0 (by decide)
  ·exact(a1.out.trans (a4.out.mono a1.out.size)).grown b0 (by have:=a1.out.size;simp;omega) (fun k hk=>by have h:w1.heap.size=k:=(by simpa[Value.ownBlock]using hk);have:=a1.out.size;omega)
  ·have:=(a0.lt ad.block (by rw[had];rfl)).1;have:=a1.out.size;omega
end Go.Proofs.YtlgliddhideflaaGreatDoor
