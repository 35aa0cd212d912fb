/-
  ablautlaw38.WaveOrders is true.
-/
import Derived.Test.YtaglfmlgbcmakaaGreatDoorH08
set_option linter.all false
set_option maxRecDepth 100000
set_option maxHeartbeats 4000000
namespace Go.Proofs.YtaglfmlgbcmakaaGreatDoor
open Go.RowKit Go.Shelf
theorem Vg (x:EdR)(w:World)(hx:M5 w x)(hT:B9 w):Calls Tryz.prog 8 #[edV x] w (Ms w):=by
 have HX:=hI hx;have HT:=hI hT;clear hx hT;go_enter Tryz.func8,Tryz.ntmps8;have k0:Below w.heap.size w (w.alloc (.cells #[.slice x.An x.nn x.cn, .slice x.Ar x.nr x.cr, .slice x.Al x.nl x.cl, .slice x.Av x.nv x.cv, .slice x.Aw x.nw x.cw, .int .i64 x.a, .int .i64 x.i, .int .i64 x.j, .int .i64 x.now] 66)):=(Below.refl _ w).alloc rr _;have j5:(w.alloc (.cells #[.slice x.An x.nn x.cn, .slice x.Ar x.nr x.cr, .slice x.Al x.nl x.cl, .slice x.Av x.nv x.cv, .slice x.Aw x.nw x.cw, .int .i64 x.a, .int .i64 x.i, .int .i64 x.j, .int .i64 x.now] 66)).heap[w.heap.size]? =some (.cells #[.slice x.An x.nn x.cn, .slice x.Ar x.nr x.cr, .slice x.Al x.nl x.cl, .slice x.Av x.nv x.cv, .slice x.Aw x.nw x.cw, .int .i64 x.a, .int .i64 x.i, .int .i64 x.j, .int .i64 x.now] 66 (0,0)):=hpt;have f8:=hI k0;have g9:=hI j5;clear k0 j5;go_wp2_with fail;obtain⟨bx,k1⟩:∃bx,bx=w.heap.size:=⟨_,rfl⟩;rw[←k1]at g9 ⊢;generalize w.alloc (.cells #[.slice x.An x.nn x.cn, .slice x.Ar x.nr x.cr, .slice x.Al x.nl x.cl, .slice x.Av x.nv x.cv, .slice x.Aw x.nw x.cw, .int .i64 x.a, .int .i64 x.i, .int .i64 x.j, .int .i64 x.now] 66)=W0 at*;clear k1;refine(J6 x W0 (HX.out.below f8.out) (HT.out.below f8.out rr)).mono ?_;rintro e w1 ⟨h1,i5⟩;have f0:=hI (f8.out.trans (i5.mono f8.out.size));have j7:=hI ((i5.block bx (lt_of_block g9.out)).trans g9.out);clear i5 f8 g9;rcases h1 with rfl|⟨b,rfl,hm,hn⟩
 ·go_wp2_with fail;refine(Dd w1 (HT.out.below f0.out rr)).mono ?_;rintro e wz ⟨rfl,j0⟩;go_wp2;go_ret;exact⟨rfl,f0.out.trans (j0.mono f0.out.size)⟩
 obtain⟨rs,j3⟩:∃rs,rs=x.roads.map B1:=⟨_,rfl⟩;rw[←j3]at hm;have m7:=hI j3;have HN:=hI hn;have HS:Hid (StW w x rs b bx w1):=⟨⟨hm,HX.out.below f0.out,HT.out.below f0.out rr⟩,j7.out,f0.out⟩;have m0:=hn.n;have m6:=hn.v;have o2:=hn.l;clear j3 hm hn f0 j7 HX HT;go_wp2_with fail
 go_loopw [4] (fun s4 wr=>∃i:Nat,s4= .int .i64 (i:Int)/\i<=x.nv/\Hid (StW w x rs b bx wr)) (fun s4 _=>x.nv-(intOf s4).toNat)
 case atStart=>exact⟨0,rfl,Nat.zero_le _,HS.out⟩
 case round=>
  obtain⟨i,rfl,hi,f2⟩:=hrel;clear HS;have c3:=f2.out.c3;by_cases hlt:i<x.nv
  ·have m3:(i:Int)<(x.nv:Int):=by omega
   go_wp2_with fail;clear c3
   go_loopw [5] (fun s5 wr=>∃j:Nat,s5= .int .i64 (j:Int)/\j<=x.nv/\Hid (StW w x rs b bx wr)) (fun s5 _=>x.nv-(intOf s5).toNat)
   case atStart=>exact⟨0,rfl,Nat.zero_le _,f2.out⟩
   case round=>
    obtain⟨j,rfl,hj,d2⟩:=hrel;clear f2;have c3:=d2.out.c3;by_cases hjt:j<x.nv
    ·have m8:(j:Int)<(x.nv:Int):=by omega
     obtain⟨P,hP⟩:∃P,P=Dx x.nn rs (Af x.waves) i j:=⟨_,rfl⟩;obtain⟨Q,hQ⟩:∃Q,Q=Dx x.nn rs (Af x.waves) j i:=⟨_,rfl⟩;have HP:=hI hP;have HQ:=hI hQ;have i7:=hI (fun W (h:GdW x rs b W)=>h.crossed HN.out hlt hjt);have j2:=hI (fun W (h:GdW x rs b W)=>h.crossed HN.out hjt hlt);rw[←hP]at i7;rw[←hQ]at j2;clear hP hQ;have c2:=d2.out.c2;go_wp2_with fail;refine(i7.out _ d2.out.g).mono ?_;rintro e w3 ⟨Aa,ca,rfl,b7,k5⟩;have g3:=hI (d2.out.step k5);have j8:=hI b7;clear d2 k5 b7 c2 c3 i7;have c2:=g3.out.c2;have c3:=g3.out.c3;go_wp2_with fail;refine(j2.out _ g3.out.g).mono ?_;rintro e w4 ⟨Ab,cb,rfl,j4,i4⟩;have i3:=hI (g3.out.step i4);have f7:=hI (j8.out.below i4 rr);have k2:=hI j4;clear g3 i4 j4 c2 c3 j2 j8;obtain⟨y,yb,yo,hy,j1,c3,l0,l1,l2,l3,l4⟩:=i3.out.wave hlt;have HY:=hI hy;clear hy;go_wp2_with fail;refine(i3.out.g.arrive HN.out HY.out).mono ?_;rintro e w5 ⟨As,cs,rfl,i1,i2⟩;have i0:=hI (i3.out.step i2);have g7:=hI (f7.out.below i2 rr);have g6:=hI (k2.out.below i2 rr);have j6:=hI i1;clear i3 i2 i1 c3 l0 l1 l2 l3 l4 f7 k2 HY j1;obtain⟨y',yb',yo',hy,j1,c3,l0,l1,l2,l3,l4⟩:=i0.out.wave hjt;have HY:=hI hy;clear hy;go_wp2_with fail;refine(i0.out.g.arrive HN.out HY.out).mono ?_;rintro e w6 ⟨At,ct,rfl,g8,f6⟩;obtain⟨F,hF⟩:∃F:World->Prop,F=fun W=>StW w x rs b bx W/\Ba W Aa (Bl P x.nn) ca (Hx P x.nn)/\Ba W Ab (Bl Q x.nn) cb (Hx Q x.nn)/\Ba W As x.nn cs ((List.range x.nn).map fun a=>Bj (tAt x.nn rs (Af x.waves) a i))/\Ba W At x.nn ct ((List.range x.nn).map fun a=>Bj (tAt x.nn rs (Af x.waves) a j)):=⟨_,rfl⟩
     have f4:Hid (F w6):=by
      show F w6;rw[hF];exact⟨i0.out.step f6,g7.out.below f6 rr,g6.out.below f6 rr,j6.out.below f6 rr,g8⟩
     have a4:Hid (∀W W',F W->Below W.heap.size W W'->F W'):=fun W W' h hb=>by
      rw[hF]at h ⊢;obtain⟨h1,h2,h3,h4,h5⟩:=h;exact⟨h1.step hb,h2.below hb rr,h3.below hb rr,h4.below hb rr,h5.below hb rr⟩
     have b6:Hid (∀W,F W->StW w x rs b bx W):=fun W h=>by rw[hF]at h;exact h.1
     have HF:=hI hF;clear hF f6 g8 j6 g7 g6 i0 HY c3 l0 l1 l2 l3 l4 j1;by_cases hij:i=j
     ·subst hij
      have hz:Bl P x.nn=0:=by
       have h1:=HP.out;rw[h1,←Mv,Aey];rfl
      rw[hz];have o1:((i:Int)==(i:Int))=true:=by simp
      clear hz;go_wp2_with fail;refine((b6.out _ f4.out).g.length).mono ?_;rintro e w7 ⟨rfl,g0⟩;have d6:=hI (a4.out _ _ f4.out g0);clear f4 g0;go_wp2_with fail;refine((b6.out _ d6.out).g.length).mono ?_;rintro e w8 ⟨rfl,f9⟩;have j9:=hI (b6.out _ (a4.out _ _ d6.out f9));clear d6 f9;go_wp2_with fail
      go_roundw
      case rel=>first|exact⟨i+1,by go_num,by omega,j9.out⟩|((repeat apply Exists.intro);exact⟨⟨i+1,by go_num,by omega,j9.out⟩,rfl⟩)
      case measure=>simp[intOf];omega
     ·have o4:((i:Int)==(j:Int))=false:=by simp;omega
      go_wp2_with fail;refine((b6.out _ f4.out).g.length).mono ?_;rintro e w7 ⟨rfl,g0⟩;have d6:=hI (a4.out _ _ f4.out g0);clear f4 g0;go_wp2_with fail;refine((b6.out _ d6.out).g.length).mono ?_;rintro e w8 ⟨rfl,f9⟩;have k4:=hI (a4.out _ _ d6.out f9);clear d6 f9;go_wp2_with fail
      go_loopw [14,15,16] (fun s14 s15 s16 wr=>∃c:Nat,s14= .int .i64 ((Bl P c:Nat):Int)/\s15= .int .i64 ((Bl Q c:Nat):Int)/\s16= .int .i64 (c:Int)/\c<=x.nn/\Hid (F wr)) (fun _ _ s16 _=>x.nn-(intOf s16).toNat)
      case atStart=>exact⟨0,rfl,rfl,rfl,Nat.zero_le _,k4.out⟩
      case round=>
       obtain⟨c,rfl,rfl,rfl,hc,i6⟩:=hrel;clear k4;go_wp2_with fail;refine((b6.out _ i6.out).g.length).mono ?_;rintro e w9 ⟨rfl,k3⟩;have a3:=hI (a4.out _ _ i6.out k3);clear i6 k3;by_cases hlc:c<x.nn
       ·have m2:(c:Int)<(x.nn:Int):=by omega
        have m4:((c:Int)==(c:Int))=true:=by simp
        have o3:((j:Int)==(i:Int))=false:=by simp;omega
        have k8:((-1:Int)==0)=false:=by decide
        obtain⟨ti,b1⟩:∃o,o=tAt x.nn rs (Af x.waves) c i:=⟨_,rfl⟩;obtain⟨tj,a9⟩:∃o,o=tAt x.nn rs (Af x.waves) c j:=⟨_,rfl⟩
        have d4:Hid ((P c=true/\Bl P c<Bl P x.nn/\Bl P (c+1)=Bl P c+1∧∃pb po,Aa=some ⟨pb,po,none⟩/\pb<w9.heap.size/\w9.cell? ⟨pb,po+Bl P c,none⟩=some (.int .i64 (c:Int)))\/(P c=false/\Bl P (c+1)=Bl P c/\(¬Bl P c<Bl P x.nn\/Bl P c<Bl P x.nn∧∃(pb po:Nat) (v:Int),v≠(c:Int)/\Aa=some ⟨pb,po,none⟩/\pb<w9.heap.size/\w9.cell? ⟨pb,po+Bl P c,none⟩=some (.int .i64 v)))):=by
         have hf:=a3.out;rw[HF.out]at hf;obtain⟨-,b7, -⟩:=hf;rcases Km (P:=P) hlc with⟨h1,h2,h3⟩|⟨h1,h2⟩|⟨h1,h2,v,h3,h4⟩
         ·obtain⟨pb,po,v,e1,e2,e3,e4⟩:=b7.at_ h2;rw[h3]at e4;obtain rfl:=Option.some.inj e4;exact .inl ⟨h1,h2,Kt h1,pb,po,e1,e2,e3⟩
         ·exact .inr ⟨h1,Hz h1, .inl h2⟩
         ·obtain⟨pb,po,v',e1,e2,e3,e4⟩:=b7.at_ h2;rw[h3]at e4;obtain rfl:=Option.some.inj e4;exact .inr ⟨h1,Hz h1, .inr ⟨h2,pb,po,v,h4,e1,e2,e3⟩⟩
        have b8:Hid ((Q c=true/\Bl Q c<Bl Q x.nn/\Bl Q (c+1)=Bl Q c+1∧∃pb po,Ab=some ⟨pb,po,none⟩/\pb<w9.heap.size/\w9.cell? ⟨pb,po+Bl Q c,none⟩=some (.int .i64 (c:Int)))\/(Q c=false/\Bl Q (c+1)=Bl Q c/\(¬Bl Q c<Bl Q x.nn\/Bl Q c<Bl Q x.nn∧∃(pb po:Nat) (v:Int),v≠(c:Int)/\Ab=some ⟨pb,po,none⟩/\pb<w9.heap.size/\w9.cell? ⟨pb,po+Bl Q c,none⟩=some (.int .i64 v)))):=by
         have hf:=a3.out;rw[HF.out]at hf;obtain⟨-, -,b7, -⟩:=hf;rcases Km (P:=Q) hlc with⟨h1,h2,h3⟩|⟨h1,h2⟩|⟨h1,h2,v,h3,h4⟩
         ·obtain⟨pb,po,v,e1,e2,e3,e4⟩:=b7.at_ h2;rw[h3]at e4;obtain rfl:=Option.some.inj e4;exact .inl ⟨h1,h2,Kt h1,pb,po,e1,e2,e3⟩
         ·exact .inr ⟨h1,Hz h1, .inl h2⟩
         ·obtain⟨pb,po,v',e1,e2,e3,e4⟩:=b7.at_ h2;rw[h3]at e4;obtain rfl:=Option.some.inj e4;exact .inr ⟨h1,Hz h1, .inr ⟨h2,pb,po,v,h4,e1,e2,e3⟩⟩
        obtain⟨sb,so,eS,m5,f1⟩:∃sb so,As=some ⟨sb,so,none⟩/\sb<w9.heap.size/\w9.cell? ⟨sb,so+c,none⟩=some (.int .i64 (Bj ti)):=by
         have hf:=a3.out;rw[HF.out]at hf;obtain⟨-, -, -,i1, -⟩:=hf;obtain⟨pb,po,v,e1,e2,e3,e4⟩:=i1.at_ hlc;rw[List.getElem?_map,List.getElem?_range hlc,Option.map_some]at e4;obtain rfl:=Option.some.inj e4;rw[b1];exact⟨pb,po,e1,e2,e3⟩
        obtain⟨tb,tt,eT,o0,d5⟩:∃sb so,At=some ⟨sb,so,none⟩/\sb<w9.heap.size/\w9.cell? ⟨sb,so+c,none⟩=some (.int .i64 (Bj tj)):=by
         have hf:=a3.out;rw[HF.out]at hf;obtain⟨-, -, -, -,g8⟩:=hf;obtain⟨pb,po,v,e1,e2,e3,e4⟩:=g8.at_ hlc;rw[List.getElem?_map,List.getElem?_range hlc,Option.map_some]at e4;obtain rfl:=Option.some.inj e4;rw[a9];exact⟨pb,po,e1,e2,e3⟩
        subst eS eT;have g2:Hid (P c=Dx x.nn rs (Af x.waves) i j c):=by show _=_;rw[HP.out]
        have g1:Hid (Q c=Dx x.nn rs (Af x.waves) j i c):=by show _=_;rw[HQ.out]
        have d9:=hI b1.symm;have d3:=hI a9.symm;clear b1 a9
        -- who comes first
        have HW:Hid ((P c=false/\Q c=false/\ti=none/\tj=none)\/(P c=true/\Q c=false∧∃s:Nat,ti=some s/\(tj=none∨∃t:Nat,tj=some t/\(s<t\/s=t/\i<j)))\/(P c=false/\Q c=true∧∃t:Nat,tj=some t/\(ti=none∨∃s:Nat,ti=some s/\(t<s\/s=t/\j<i)))):=by
         cases b1:ti with
         |none=>
          cases a9:tj with
          |none=>exact .inl ⟨by rw[g2.out,Jo (by rw[d9.out,b1])],by rw[g1.out,Jo (by rw[d3.out,a9])],rfl,rfl⟩
          |some t=>exact .inr (.inr ⟨by rw[g2.out,Jo (by rw[d9.out,b1])],by rw[g1.out,N4 (by rw[d3.out,a9]) (by rw[d9.out,b1])],t,rfl, .inl rfl⟩)
         |some s=>
          cases a9:tj with
          |none=>exact .inr (.inl ⟨by rw[g2.out,N4 (by rw[d9.out,b1]) (by rw[d3.out,a9])],by rw[g1.out,Jo (by rw[d3.out,a9])],s,rfl, .inl rfl⟩)
          |some t=>
           have h1:P c=(decide (s<t)||(decide (s=t) && decide (i<j))):=by rw[g2.out,Rv (by rw[d9.out,b1]) (by rw[d3.out,a9])]
           have h2:Q c=(decide (t<s)||(decide (t=s) && decide (j<i))):=by rw[g1.out,Rv (by rw[d3.out,a9]) (by rw[d9.out,b1])]
           by_cases b9:s<t\/s=t/\i<j
           ·exact .inr (.inl ⟨by rw[h1];simpa using b9,by rw[h2];simp;omega,s,rfl, .inr ⟨t,rfl,b9⟩⟩)
           ·exact .inr (.inr ⟨by rw[h1];simpa using b9,by rw[h2];simp;omega,t,rfl, .inr ⟨s,rfl,by omega⟩⟩)
        clear g2 g1 d9 d3;have k7:Bl P c<=c:=Vn;have k6:Bl Q c<=c:=Vn;rcases HW.out with⟨a7,a6,rfl,rfl⟩|⟨a7,a6,s,rfl,rfl|⟨t,rfl,b9|⟨rfl,b9⟩⟩⟩|⟨a7,a6,t,rfl,rfl|⟨s,rfl,b9|⟨rfl,b9⟩⟩⟩
        ·clear HW;simp only[Bj]at f1 d5;rcases d4.out with⟨h1, -⟩|⟨-,a1,b0|⟨b0,pb,po,v,d1,rfl,f5,f3⟩⟩
         ·rw[h1]at a7;cases a7
         ·rcases b8.out with⟨h2, -⟩|⟨-,a0,a8|⟨a8,qb,qo,u,b4,rfl,d0,d7⟩⟩
          ·rw[h2]at a6;cases a6
          ·as_aux_lemma=>
            go_wp2_with fail
            go_big_quiet (fail)
            go_wp2_with fail;refine wp_region_quiet_lit (by kernel_rfl) (Dw (by kernel_rfl) (by kernel_rfl)) ?_;simp only[List.append_eq,List.cons_append,List.nil_append]
            repeat(go_big_quiet_step (fail))
            refine wpQuiet_nil ?_;intro _ a5;obtain⟨nq2,a2⟩:=a5;subst a2;go_wp2_with fail
            go_roundw
            case rel=>first|exact⟨c+1,by first|(rw[a1];done)|(rw[a1];rfl),by first|(rw[a0];done)|(rw[a0];rfl),by go_num,by omega,a4.out _ _ a3.out ((Below.refl _ w9).drewN _)⟩|((repeat apply Exists.intro);exact⟨⟨c+1,by first|(rw[a1];done)|(rw[a1];rfl),by first|(rw[a0];done)|(rw[a0];rfl),by go_num,by omega,a4.out _ _ a3.out ((Below.refl _ w9).drewN _)⟩,rfl⟩)
            case measure=>simp[intOf];omega
          ·have b3:((u:Int)==(c:Int))=false:=by simp[b4]
           as_aux_lemma=>
            go_wp2_with fail
            go_big_quiet (fail)
            go_wp2_with fail;refine wp_region_quiet_lit (by kernel_rfl) (Dw (by kernel_rfl) (by kernel_rfl)) ?_;simp only[List.append_eq,List.cons_append,List.nil_append]
            repeat(go_big_quiet_step (fail))
            refine wpQuiet_nil ?_;intro _ a5;obtain⟨nq2,a2⟩:=a5;subst a2;go_wp2_with fail
            go_roundw
            case rel=>first|exact⟨c+1,by first|(rw[a1];done)|(rw[a1];rfl),by first|(rw[a0];done)|(rw[a0];rfl),by go_num,by omega,a4.out _ _ a3.out ((Below.refl _ w9).drewN _)⟩|((repeat apply Exists.intro);exact⟨⟨c+1,by first|(rw[a1];done)|(rw[a1];rfl),by first|(rw[a0];done)|(rw[a0];rfl),by go_num,by omega,a4.out _ _ a3.out ((Below.refl _ w9).drewN _)⟩,rfl⟩)
            case measure=>simp[intOf];omega
         ·have d8:((v:Int)==(c:Int))=false:=by simp[d1]
          rcases b8.out with⟨h2, -⟩|⟨-,a0,a8|⟨a8,qb,qo,u,b4,rfl,d0,d7⟩⟩
          ·rw[h2]at a6;cases a6
          ·as_aux_lemma=>
            go_wp2_with fail
            go_big_quiet (fail)
            go_wp2_with fail;refine wp_region_quiet_lit (by kernel_rfl) (Dw (by kernel_rfl) (by kernel_rfl)) ?_;simp only[List.append_eq,List.cons_append,List.nil_append]
            repeat(go_big_quiet_step (fail))
            refine wpQuiet_nil ?_;intro _ a5;obtain⟨nq2,a2⟩:=a5;subst a2;go_wp2_with fail
            go_roundw
            case rel=>first|exact⟨c+1,by first|(rw[a1];done)|(rw[a1];rfl),by first|(rw[a0];done)|(rw[a0];rfl),by go_num,by omega,a4.out _ _ a3.out ((Below.refl _ w9).drewN _)⟩|((repeat apply Exists.intro);exact⟨⟨c+1,by first|(rw[a1];done)|(rw[a1];rfl),by first|(rw[a0];done)|(rw[a0];rfl),by go_num,by omega,a4.out _ _ a3.out ((Below.refl _ w9).drewN _)⟩,rfl⟩)
            case measure=>simp[intOf];omega
          ·have b3:((u:Int)==(c:Int))=false:=by simp[b4]
           as_aux_lemma=>
            go_wp2_with fail
            go_big_quiet (fail)
            go_wp2_with fail;refine wp_region_quiet_lit (by kernel_rfl) (Dw (by kernel_rfl) (by kernel_rfl)) ?_;simp only[List.append_eq,List.cons_append,List.nil_append]
            repeat(go_big_quiet_step (fail))
            refine wpQuiet_nil ?_;intro _ a5;obtain⟨nq2,a2⟩:=a5;subst a2;go_wp2_with fail
            go_roundw
            case rel=>first|exact⟨c+1,by first|(rw[a1];done)|(rw[a1];rfl),by first|(rw[a0];done)|(rw[a0];rfl),by go_num,by omega,a4.out _ _ a3.out ((Below.refl _ w9).drewN _)⟩|((repeat apply Exists.intro);exact⟨⟨c+1,by first|(rw[a1];done)|(rw[a1];rfl),by first|(rw[a0];done)|(rw[a0];rfl),by go_num,by omega,a4.out _ _ a3.out ((Below.refl _ w9).drewN _)⟩,rfl⟩)
            case measure=>simp[intOf];omega
        ·have b2:decide ((s:Int)<0)=false:=decide_eq_false (by omega);have b5:decide ((0:Int)<=(s:Int))=true:=decide_eq_true (by omega);clear HW;simp only[Bj]at f1 d5;rcases d4.out with⟨-,b0,a1,pb,po,rfl,f5,f3⟩|⟨h1, -⟩
         ·rcases b8.out with⟨h2, -⟩|⟨-,a0,a8|⟨a8,qb,qo,u,b4,rfl,d0,d7⟩⟩
          ·rw[h2]at a6;cases a6
          ·as_aux_lemma=>
            go_wp2_with fail
            go_big_quiet (fail)
            go_wp2_with fail;refine wp_region_quiet_lit (by kernel_rfl) (Dw (by kernel_rfl) (by kernel_rfl)) ?_;simp only[List.append_eq,List.cons_append,List.nil_append]
            repeat(go_big_quiet_step (fail))
            refine wpQuiet_nil ?_;intro _ a5;obtain⟨nq2,a2⟩:=a5;subst a2;go_wp2_with fail
            go_roundw
            case rel=>first|exact⟨c+1,by first|(rw[a1];done)|(rw[a1];rfl),by first|(rw[a0];done)|(rw[a0];rfl),by go_num,by omega,a4.out _ _ a3.out ((Below.refl _ w9).drewN _)⟩|((repeat apply Exists.intro);exact⟨⟨c+1,by first|(rw[a1];done)|(rw[a1];rfl),by first|(rw[a0];done)|(rw[a0];rfl),by go_num,by omega,a4.out _ _ a3.out ((Below.refl _ w9).drewN _)⟩,rfl⟩)
            case measure=>simp[intOf];omega
          ·have b3:((u:Int)==(c:Int))=false:=by simp[b4]
           as_aux_lemma=>
            go_wp2_with fail
            go_big_quiet (fail)
            go_wp2_with fail;refine wp_region_quiet_lit (by kernel_rfl) (Dw (by kernel_rfl) (by kernel_rfl)) ?_;simp only[List.append_eq,List.cons_append,List.nil_append]
            repeat(go_big_quiet_step (fail))
            refine wpQuiet_nil ?_;intro _ a5;obtain⟨nq2,a2⟩:=a5;subst a2;go_wp2_with fail
            go_roundw
            case rel=>first|exact⟨c+1,by first|(rw[a1];done)|(rw[a1];rfl),by first|(rw[a0];done)|(rw[a0];rfl),by go_num,by omega,a4.out _ _ a3.out ((Below.refl _ w9).drewN _)⟩|((repeat apply Exists.intro);exact⟨⟨c+1,by first|(rw[a1];done)|(rw[a1];rfl),by first|(rw[a0];done)|(rw[a0];rfl),by go_num,by omega,a4.out _ _ a3.out ((Below.refl _ w9).drewN _)⟩,rfl⟩)
            case measure=>simp[intOf];omega
         ·rw[h1]at a7;cases a7
        ·have b2:decide ((s:Int)<0)=false:=decide_eq_false (by omega);have b5:decide ((0:Int)<=(s:Int))=true:=decide_eq_true (by omega);have g4:decide ((t:Int)<0)=false:=decide_eq_false (by omega);have g5:decide ((0:Int)<=(t:Int))=true:=decide_eq_true (by omega);have i9:decide ((t:Int)<(s:Int))=false:=decide_eq_false (by omega);have i8:decide (t<s)=false:=decide_eq_false (by omega);have k9:((t:Int)==(s:Int))=false:=by simp;omega
         have m1:(t==s)=false:=by simp;omega
         clear HW;simp only[Bj]at f1 d5;rcases d4.out with⟨-,b0,a1,pb,po,rfl,f5,f3⟩|⟨h1, -⟩
         ·rcases b8.out with⟨h2, -⟩|⟨-,a0,a8|⟨a8,qb,qo,u,b4,rfl,d0,d7⟩⟩
          ·rw[h2]at a6;cases a6
          ·as_aux_lemma=>
            go_wp2_with fail
            go_big_quiet (fail)
            go_wp2_with fail;refine wp_region_quiet_lit (by kernel_rfl) (Dw (by kernel_rfl) (by kernel_rfl)) ?_;simp only[List.append_eq,List.cons_append,List.nil_append]
            repeat(go_big_quiet_step (fail))
            refine wpQuiet_nil ?_;intro _ a5;obtain⟨nq2,a2⟩:=a5;subst a2;go_wp2_with fail
            go_roundw
            case rel=>first|exact⟨c+1,by first|(rw[a1];done)|(rw[a1];rfl),by first|(rw[a0];done)|(rw[a0];rfl),by go_num,by omega,a4.out _ _ a3.out ((Below.refl _ w9).drewN _)⟩|((repeat apply Exists.intro);exact⟨⟨c+1,by first|(rw[a1];done)|(rw[a1];rfl),by first|(rw[a0];done)|(rw[a0];rfl),by go_num,by omega,a4.out _ _ a3.out ((Below.refl _ w9).drewN _)⟩,rfl⟩)
            case measure=>simp[intOf];omega
          ·have b3:((u:Int)==(c:Int))=false:=by simp[b4]
           as_aux_lemma=>
            go_wp2_with fail
            go_big_quiet (fail)
            go_wp2_with fail;refine wp_region_quiet_lit (by kernel_rfl) (Dw (by kernel_rfl) (by kernel_rfl)) ?_;simp only[List.append_eq,List.cons_append,List.nil_append]
            repeat(go_big_quiet_step (fail))
            refine wpQuiet_nil ?_;intro _ a5;obtain⟨nq2,a2⟩:=a5;subst a2;go_wp2_with fail
            go_roundw
            case rel=>first|exact⟨c+1,by first|(rw[a1];done)|(rw[a1];rfl),by first|(rw[a0];done)|(rw[a0];rfl),by go_num,by omega,a4.out _ _ a3.out ((Below.refl _ w9).drewN _)⟩|((repeat apply Exists.intro);exact⟨⟨c+1,by first|(rw[a1];done)|(rw[a1];rfl),by first|(rw[a0];done)|(rw[a0];rfl),by go_num,by omega,a4.out _ _ a3.out ((Below.refl _ w9).drewN _)⟩,rfl⟩)
            case measure=>simp[intOf];omega
         ·rw[h1]at a7;cases a7
        ·have b2:decide ((s:Int)<0)=false:=decide_eq_false (by omega);have b5:decide ((0:Int)<=(s:Int))=true:=decide_eq_true (by omega);have m9:decide ((s:Int)<(s:Int))=false:=decide_eq_false (by omega);have k9:((s:Int)==(s:Int))=true:=by simp
         have i9:decide ((j:Int)<(i:Int))=false:=decide_eq_false (by omega);have i8:decide (j<i)=false:=decide_eq_false (by omega);clear HW;simp only[Bj]at f1 d5;rcases d4.out with⟨-,b0,a1,pb,po,rfl,f5,f3⟩|⟨h1, -⟩
         ·rcases b8.out with⟨h2, -⟩|⟨-,a0,a8|⟨a8,qb,qo,u,b4,rfl,d0,d7⟩⟩
          ·rw[h2]at a6;cases a6
          ·as_aux_lemma=>
            go_wp2_with fail
            go_big_quiet (fail)
            go_wp2_with fail;refine wp_region_quiet_lit (by kernel_rfl) (Dw (by kernel_rfl) (by kernel_rfl)) ?_;simp only[List.append_eq,List.cons_append,List.nil_append]
            repeat(go_big_quiet_step (fail))
            refine wpQuiet_nil ?_;intro _ a5;obtain⟨nq2,a2⟩:=a5;subst a2;go_wp2_with fail
            go_roundw
            case rel=>first|exact⟨c+1,by first|(rw[a1];done)|(rw[a1];rfl),by first|(rw[a0];done)|(rw[a0];rfl),by go_num,by omega,a4.out _ _ a3.out ((Below.refl _ w9).drewN _)⟩|((repeat apply Exists.intro);exact⟨⟨c+1,by first|(rw[a1];done)|(rw[a1];rfl),by first|(rw[a0];done)|(rw[a0];rfl),by go_num,by omega,a4.out _ _ a3.out ((Below.refl _ w9).drewN _)⟩,rfl⟩)
            case measure=>simp[intOf];omega
          ·have b3:((u:Int)==(c:Int))=false:=by simp[b4]
           as_aux_lemma=>
            go_wp2_with fail
            go_big_quiet (fail)
            go_wp2_with fail;refine wp_region_quiet_lit (by kernel_rfl) (Dw (by kernel_rfl) (by kernel_rfl)) ?_;simp only[List.append_eq,List.cons_append,List.nil_append]
            repeat(go_big_quiet_step (fail))
            refine wpQuiet_nil ?_;intro _ a5;obtain⟨nq2,a2⟩:=a5;subst a2;go_wp2_with fail
            go_roundw
            case rel=>first|exact⟨c+1,by first|(rw[a1];done)|(rw[a1];rfl),by first|(rw[a0];done)|(rw[a0];rfl),by go_num,by omega,a4.out _ _ a3.out ((Below.refl _ w9).drewN _)⟩|((repeat apply Exists.intro);exact⟨⟨c+1,by first|(rw[a1];done)|(rw[a1];rfl),by first|(rw[a0];done)|(rw[a0];rfl),by go_num,by omega,a4.out _ _ a3.out ((Below.refl _ w9).drewN _)⟩,rfl⟩)
            case measure=>simp[intOf];omega
         ·rw[h1]at a7;cases a7
        ·have g4:decide ((t:Int)<0)=false:=decide_eq_false (by omega);have g5:decide ((0:Int)<=(t:Int))=true:=decide_eq_true (by omega);clear HW;simp only[Bj]at f1 d5;rcases b8.out with⟨-,a8,a0,qb,qo,rfl,d0,d7⟩|⟨h1, -⟩
         ·rcases d4.out with⟨h2, -⟩|⟨-,a1,b0|⟨b0,pb,po,v,d1,rfl,f5,f3⟩⟩
          ·rw[h2]at a7;cases a7
          ·as_aux_lemma=>
            go_wp2_with fail
            go_big_quiet (fail)
            go_wp2_with fail;refine wp_region_quiet_lit (by kernel_rfl) (Dw (by kernel_rfl) (by kernel_rfl)) ?_;simp only[List.append_eq,List.cons_append,List.nil_append]
            repeat(go_big_quiet_step (fail))
            refine wpQuiet_nil ?_;intro _ a5;obtain⟨nq2,a2⟩:=a5;subst a2;go_wp2_with fail
            go_roundw
            case rel=>first|exact⟨c+1,by first|(rw[a1];done)|(rw[a1];rfl),by first|(rw[a0];done)|(rw[a0];rfl),by go_num,by omega,a4.out _ _ a3.out ((Below.refl _ w9).drewN _)⟩|((repeat apply Exists.intro);exact⟨⟨c+1,by first|(rw[a1];done)|(rw[a1];rfl),by first|(rw[a0];done)|(rw[a0];rfl),by go_num,by omega,a4.out _ _ a3.out ((Below.refl _ w9).drewN _)⟩,rfl⟩)
            case measure=>simp[intOf];omega
          ·have d8:((v:Int)==(c:Int))=false:=by simp[d1]
           as_aux_lemma=>
            go_wp2_with fail
            go_big_quiet (fail)
            go_wp2_with fail;refine wp_region_quiet_lit (by kernel_rfl) (Dw (by kernel_rfl) (by kernel_rfl)) ?_;simp only[List.append_eq,List.cons_append,List.nil_append]
            repeat(go_big_quiet_step (fail))
            refine wpQuiet_nil ?_;intro _ a5;obtain⟨nq2,a2⟩:=a5;subst a2;go_wp2_with fail
            go_roundw
            case rel=>first|exact⟨c+1,by first|(rw[a1];done)|(rw[a1];rfl),by first|(rw[a0];done)|(rw[a0];rfl),by go_num,by omega,a4.out _ _ a3.out ((Below.refl _ w9).drewN _)⟩|((repeat apply Exists.intro);exact⟨⟨c+1,by first|(rw[a1];done)|(rw[a1];rfl),by first|(rw[a0];done)|(rw[a0];rfl),by go_num,by omega,a4.out _ _ a3.out ((Below.refl _ w9).drewN _)⟩,rfl⟩)
            case measure=>simp[intOf];omega
         ·rw[h1]at a6;cases a6
        ·have b2:decide ((s:Int)<0)=false:=decide_eq_false (by omega);have b5:decide ((0:Int)<=(s:Int))=true:=decide_eq_true (by omega);have g4:decide ((t:Int)<0)=false:=decide_eq_false (by omega);have g5:decide ((0:Int)<=(t:Int))=true:=decide_eq_true (by omega);clear HW;simp only[Bj]at f1 d5;rcases b8.out with⟨-,a8,a0,qb,qo,rfl,d0,d7⟩|⟨h1, -⟩
         ·rcases d4.out with⟨h2, -⟩|⟨-,a1,b0|⟨b0,pb,po,v,d1,rfl,f5,f3⟩⟩
          ·rw[h2]at a7;cases a7
          ·as_aux_lemma=>
            go_wp2_with fail
            go_big_quiet (fail)
            go_wp2_with fail;refine wp_region_quiet_lit (by kernel_rfl) (Dw (by kernel_rfl) (by kernel_rfl)) ?_;simp only[List.append_eq,List.cons_append,List.nil_append]
            repeat(go_big_quiet_step (fail))
            refine wpQuiet_nil ?_;intro _ a5;obtain⟨nq2,a2⟩:=a5;subst a2;go_wp2_with fail
            go_roundw
            case rel=>first|exact⟨c+1,by first|(rw[a1];done)|(rw[a1];rfl),by first|(rw[a0];done)|(rw[a0];rfl),by go_num,by omega,a4.out _ _ a3.out ((Below.refl _ w9).drewN _)⟩|((repeat apply Exists.intro);exact⟨⟨c+1,by first|(rw[a1];done)|(rw[a1];rfl),by first|(rw[a0];done)|(rw[a0];rfl),by go_num,by omega,a4.out _ _ a3.out ((Below.refl _ w9).drewN _)⟩,rfl⟩)
            case measure=>simp[intOf];omega
          ·have d8:((v:Int)==(c:Int))=false:=by simp[d1]
           as_aux_lemma=>
            go_wp2_with fail
            go_big_quiet (fail)
            go_wp2_with fail;refine wp_region_quiet_lit (by kernel_rfl) (Dw (by kernel_rfl) (by kernel_rfl)) ?_;simp only[List.append_eq,List.cons_append,List.nil_append]
            repeat(go_big_quiet_step (fail))
            refine wpQuiet_nil ?_;intro _ a5;obtain⟨nq2,a2⟩:=a5;subst a2;go_wp2_with fail
            go_roundw
            case rel=>first|exact⟨c+1,by first|(rw[a1];done)|(rw[a1];rfl),by first|(rw[a0];done)|(rw[a0];rfl),by go_num,by omega,a4.out _ _ a3.out ((Below.refl _ w9).drewN _)⟩|((repeat apply Exists.intro);exact⟨⟨c+1,by first|(rw[a1];done)|(rw[a1];rfl),by first|(rw[a0];done)|(rw[a0];rfl),by go_num,by omega,a4.out _ _ a3.out ((Below.refl _ w9).drewN _)⟩,rfl⟩)
            case measure=>simp[intOf];omega
         ·rw[h1]at a6;cases a6
        ·have b2:decide ((s:Int)<0)=false:=decide_eq_false (by omega);have b5:decide ((0:Int)<=(s:Int))=true:=decide_eq_true (by omega);clear HW;simp only[Bj]at f1 d5;rcases b8.out with⟨-,a8,a0,qb,qo,rfl,d0,d7⟩|⟨h1, -⟩
         ·rcases d4.out with⟨h2, -⟩|⟨-,a1,b0|⟨b0,pb,po,v,d1,rfl,f5,f3⟩⟩
          ·rw[h2]at a7;cases a7
          ·as_aux_lemma=>
            go_wp2_with fail
            go_big_quiet (fail)
            go_wp2_with fail;refine wp_region_quiet_lit (by kernel_rfl) (Dw (by kernel_rfl) (by kernel_rfl)) ?_;simp only[List.append_eq,List.cons_append,List.nil_append]
            repeat(go_big_quiet_step (fail))
            refine wpQuiet_nil ?_;intro _ a5;obtain⟨nq2,a2⟩:=a5;subst a2;go_wp2_with fail
            go_roundw
            case rel=>first|exact⟨c+1,by first|(rw[a1];done)|(rw[a1];rfl),by first|(rw[a0];done)|(rw[a0];rfl),by go_num,by omega,a4.out _ _ a3.out ((Below.refl _ w9).drewN _)⟩|((repeat apply Exists.intro);exact⟨⟨c+1,by first|(rw[a1];done)|(rw[a1];rfl),by first|(rw[a0];done)|(rw[a0];rfl),by go_num,by omega,a4.out _ _ a3.out ((Below.refl _ w9).drewN _)⟩,rfl⟩)
            case measure=>simp[intOf];omega
          ·have d8:((v:Int)==(c:Int))=false:=by simp[d1]
           as_aux_lemma=>
            go_wp2_with fail
            go_big_quiet (fail)
            go_wp2_with fail;refine wp_region_quiet_lit (by kernel_rfl) (Dw (by kernel_rfl) (by kernel_rfl)) ?_;simp only[List.append_eq,List.cons_append,List.nil_append]
            repeat(go_big_quiet_step (fail))
            refine wpQuiet_nil ?_;intro _ a5;obtain⟨nq2,a2⟩:=a5;subst a2;go_wp2_with fail
            go_roundw
            case rel=>first|exact⟨c+1,by first|(rw[a1];done)|(rw[a1];rfl),by first|(rw[a0];done)|(rw[a0];rfl),by go_num,by omega,a4.out _ _ a3.out ((Below.refl _ w9).drewN _)⟩|((repeat apply Exists.intro);exact⟨⟨c+1,by first|(rw[a1];done)|(rw[a1];rfl),by first|(rw[a0];done)|(rw[a0];rfl),by go_num,by omega,a4.out _ _ a3.out ((Below.refl _ w9).drewN _)⟩,rfl⟩)
            case measure=>simp[intOf];omega
         ·rw[h1]at a6;cases a6
       ·obtain rfl:c=x.nn:=by omega
        go_wp2_with fail
        go_roundw
        case rel=>first|exact⟨j+1,by go_num,by omega,(b6.out _ a3.out)⟩|((repeat apply Exists.intro);exact⟨⟨j+1,by go_num,by omega,(b6.out _ a3.out)⟩,rfl⟩)
        case measure=>simp[intOf];omega
    ·obtain rfl:j=x.nv:=by omega
     go_wp2_with fail
     go_roundw
     case rel=>first|exact⟨i+1,by go_num,by omega,d2.out⟩|((repeat apply Exists.intro);exact⟨⟨i+1,by go_num,by omega,d2.out⟩,rfl⟩)
     case measure=>simp[intOf];omega
  ·obtain rfl:i=x.nv:=by omega
   go_wp2_with fail;refine(Dd wr (f2.out).g.t).mono ?_;rintro e wz ⟨rfl,j0⟩;go_wp2;go_ret;exact⟨rfl,(f2.out).bl.trans (j0.mono (f2.out).bl.size)⟩
end Go.Proofs.YtaglfmlgbcmakaaGreatDoor
