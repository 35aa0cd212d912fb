/-
  ablautlaw11.InverseRefuses is true.
-/
import Derived.Deep.CutRange
import Derived.Deep.CutBlock
import Derived.Test.YtlgliddhideflaaGreatDoorH08
set_option linter.all false
set_option maxRecDepth 100000
set_option maxHeartbeats 4000000
namespace Go.Proofs.YtlgliddhideflaaGreatDoor
open Go.RowKit Go.Shelf
theorem Yx (a:Int)(h0:0<=a)(h1:a<=255)(n most:Int)(w:World)(hT:B7 w):
  Calls Tryz.prog 14 #[.int .u8 a, .int .i64 n, .int .i64 most] w (Ac0 w):=by
 have HT:=hI hT;clear hT;obtain⟨p,rfl⟩:∃p:Nat,a=p:=⟨a.toNat,by omega⟩;obtain⟨q,hq⟩:∃q,q=p%6:=⟨_,rfl⟩;have r1:q<6:=by omega
 have i7:((p:Int)%6)=(q:Int):=by omega
 have q9:Int.tmod (p:Int) 6=(q:Int):=by rw[Int.tmod_eq_emod_of_nonneg (by omega)];exact i7
 clear hq;go_enter Tryz.func14,Tryz.ntmps14;go_wp2_with fail;refine(Wq w).mono ?_;rintro e w1 ⟨Al,cl,av,af,rfl,hl,hv,hf,a8⟩;have HL:=hI hl;have HV:=hI hv;have HF:=hI hf;have j5:=hI a8;clear hl hv hf a8;go_wp2_with(first|(refine G7 rfl (.tmp 8) (.tmp 28) rfl w1.heap.size vD av rfl rfl (t:=34) (by repeat(first|exact Ak sd|rw[Ah sd])) rfl ?hs2))
 case hs2=>
  intro W2 g1 g2 g3;have q6:W2.heap.size=w1.heap.size+2:=by first|exact g3|(rw[g3];simp;done)
  have o3:∃old:Array Value,W2.heap[w1.heap.size+1]? =some (.cells old 34 (0,0))/\old.size=18:=⟨_,(g2.block _ sd (by omega)).trans (Ak (by simp)),rfl⟩;obtain⟨old3,o3,z3⟩:=o3;have p3:Below w1.heap.size w1 W2:=Below.trans bel (g2.to_below (B:=w1.heap.size) (fun k hk=>by omega) sd);have G1:=hI g1;have Z3:=hI z3;have d2:=hI p3;clear g1 g2 g3 z3 p3;go_wp2_with(first|(refine G7 rfl (.tmp 9) (.tmp 29) rfl (w1.heap.size+1) fD af rfl rfl (t:=34) o3 Z3.out ?hs3))
  case hs3=>
   intro W3 g4 g5 g6;have d6:Below w1.heap.size w1 W3:=d2.out.trans (g5.to_below (B:=w1.heap.size) (fun k hk=>by omega) d2.out.size);have K2:Hid (W3.heap[w1.heap.size]? =some (.cells (Bh vD av) 34 (0,0))):=(g5.block _ (by omega) (by omega)).trans G1.out;have K3:=hI g4;have j4:=hI (j5.out.trans (d6.mono j5.out.size));have k9:=hI (HL.out.below d6 rr);have j3:=hI (HV.out.below d6 rr);have o9:=hI (HF.out.below d6 rr);clear g4 g5 g6 q6 d6 o3 G1 Z3 d2 j5 HL HV HF;obtain⟨b8,d1⟩:∃b8,b8=w1.heap.size:=⟨_,rfl⟩;obtain⟨b9,b2⟩:∃b9,b9=w1.heap.size+1:=⟨_,rfl⟩;rw[←d1]at K2;rw[←b2]at K3;rw[←b2,←d1];clear d1 b2
   go_upto_block 0 with(first|(refine Dn rfl (.tmp 8) rfl b8 vD av rfl K2.out ?_)|(refine Dn rfl (.tmp 9) rfl b9 fD af rfl K3.out ?_)|(refine Kh rfl (.tmp 30) (.tmp 31) rfl ⟨vD,av⟩ ⟨fD,af⟩ rfl rfl ?_))
   have p9:=Jg W3 ⟨vD,av⟩ ⟨fD,af⟩ 34 j3.out o9.out;have f9:Below W3.heap.size W3 (W3.alloc (.cells ((Bu.mk vD av).cells++(Bu.mk fD af).cells).toArray 34)):=bel;have a5:=hI (k9.out.below f9 rr);have o1:=hI (j3.out.below f9 rr);have a6:=hI (j4.out.trans (f9.mono j4.out.size));have b0:=hI p9;have m6:Hid ((W3.alloc (.cells ((Bu.mk vD av).cells++(Bu.mk fD af).cells).toArray 34)).heap[b8]? =some (.cells (Bh vD av) 34 (0,0))):=(Ah (lt_of_block K2.out)).trans K2.out;clear p9 f9 k9 j3 o9 j4 K2 K3;obtain⟨g4,m4⟩:∃g4,g4=W3.heap.size:=⟨_,rfl⟩;rw[←m4]at b0 ⊢;generalize W3.alloc (.cells ((Bu.mk vD av).cells++(Bu.mk fD af).cells).toArray 34)=W4 at*;clear m4;have a0:=a6.out.size
   go_cut [10,11,12]from 25 to 72 (fun s10 s11 s12 wx=>∃(Ax:Option Addr) (nx cx:Nat) (As:Option Addr) (ns cs:Nat) (er:Int) (ys:List Bu) (ss:List Snd),s10= .slice Ax nx cx/\s11= .slice As ns cs/\s12= .int .i64 er/\Hid (Ac2 wx q Ax nx cx As ns cs er ys ss)/\Hid (Below w.heap.size w wx))
   case first=>
    rcases(by omega:q=0\/q=1\/q=2\/q=3\/q=4\/q=5)with rfl|rfl|rfl|rfl|rfl|rfl
    ·go_wp2_with fail;refine(Uq 5 (by omega) W4).mono ?_;rintro e w5 ⟨rfl,d9,a1⟩;have o4:=hI d9;have g7:=hI (b0.out.below a1 rr);have b1:=hI (a6.out.trans (a1.mono a0));have g9:=hI a1;have r2:=a1.size;clear d9 a1;go_wp2_with(at_builtin;refine Fs rfl (.tmp 38) (.tmp 40) rfl _ _ _ _ rfl (o4.out.alloc _) (some ⟨w5.heap.size,0,none⟩) 1 1 [(8,0)] rfl (Pd w5 8 0 24) (by omega) (by simp only[World.size_alloc];omega) ?h7)
     case h7=>
      intro v9 w9 a4 m5 _;obtain⟨A9,c9,rfl⟩:=B1 a4;have p6:Below W4.heap.size W4 w9:=(g9.out.alloc g9.out.size _).grown m5 (by have:=g9.out.size;simp only[World.size_alloc];omega) (fun z hz=>(o4.out.lt z hz).1);have q3:Hid (Ab w9 A9 6 c9 (Jl.take 5++[(8,0)])):=Bb.of_own a4 (by decide);clear a4 m5;go_wp2;go_meet
      case rel=>exact⟨_,_,_,_,_,_,_,[⟨vD,av⟩,⟨fD,af⟩],_,rfl,rfl,rfl,⟨b0.out.below p6 rr,q3.out,Mm (by decide),rf0,fun _=>⟨_,rfl,Ag1⟩⟩,a6.out.trans (p6.mono a0)⟩
    ·obtain⟨bl,ol,p0,m0,hA,a2,e0,c00,c01⟩:=a5.out.at_ (k:=0) (by omega);obtain⟨bl',ol',p1,m1,b4, -,e1,c10,c11⟩:=a5.out.at_ (k:=1) (by omega);obtain⟨bl2,ol2,p2,m2,b5, -,e2,c20,c21⟩:=a5.out.at_ (k:=2) (by omega);obtain⟨rfl,rfl⟩:bl'=bl/\ol'=ol:=by rw[hA]at b4;injection b4 with h;injection h with h1 h2;exact⟨h1.symm,h2.symm⟩
     obtain⟨rfl,rfl⟩:bl2=bl'/\ol2=ol':=by rw[hA]at b5;injection b5 with h;injection h with h1 h2;exact⟨h1.symm,h2.symm⟩
     obtain⟨rfl,rfl⟩:p0=2/\m0=5:=by simpa[sP,eq_comm]using e0
     obtain⟨rfl,rfl⟩:p1=3/\m1=4:=by simpa[sB,eq_comm]using e1
     obtain⟨rfl,rfl⟩:p2=5/\m2=2:=by simpa[sA,eq_comm]using e2
     subst hA;clear b4 b5 e0 e1 e2;simp only[Nat.zero_mul,Nat.one_mul,Nat.add_zero]at c00 c01 c10 c11 c20 c21;have i4:Hid (∀W':World,Below W4.heap.size W4 W'->W'.cell? ⟨bl2,ol2,none⟩=some (.int .u32 2)/\W'.cell? ⟨bl2,ol2+1,none⟩=some (.int .u32 5)/\W'.cell? ⟨bl2,ol2+2,none⟩=some (.int .u32 3)/\W'.cell? ⟨bl2,ol2+2+1,none⟩=some (.int .u32 4)/\W'.cell? ⟨bl2,ol2+2*2,none⟩=some (.int .u32 5)/\W'.cell? ⟨bl2,ol2+2*2+1,none⟩=some (.int .u32 2)):=fun W' hb=>⟨(hb.cell (p:=⟨_,_,none⟩) a2).trans c00,(hb.cell (p:=⟨_,_,none⟩) a2).trans c01,(hb.cell (p:=⟨_,_,none⟩) a2).trans c10,(hb.cell (p:=⟨_,_,none⟩) a2).trans c11,(hb.cell (p:=⟨_,_,none⟩) a2).trans c20,(hb.cell (p:=⟨_,_,none⟩) a2).trans c21⟩
     go_wp2_with fail;refine Bs (fun W'=>W'.cell? ⟨bl2,ol2,none⟩=some (.int .u32 2)/\W'.cell? ⟨bl2,ol2+1,none⟩=some (.int .u32 5)/\W'.cell? ⟨bl2,ol2+2,none⟩=some (.int .u32 3)/\W'.cell? ⟨bl2,ol2+2+1,none⟩=some (.int .u32 4)/\W'.cell? ⟨bl2,ol2+2*2,none⟩=some (.int .u32 5)/\W'.cell? ⟨bl2,ol2+2*2+1,none⟩=some (.int .u32 2)) (by kernel_rfl) ⟨c00,c01,c10,c11,c20,c21⟩ (fun hS=> ?_);clear c00 c01 c10 c11 c20 c21
     (refine' Aa 0 rfl ?_;(try simp only[Act.put,nY,nX]));(refine' Aa 1 rfl ?_;(try simp only[Act.put,nY,nX]));(refine' Aa 2 rfl ?_;(try simp only[Act.put,nY,nX]));(refine' Aa 3 rfl ?_;(try simp only[Act.put,nY,nX]));(refine' Aa 4 rfl ?_;(try simp only[Act.put,nY,nX]));(refine' Aa 5 rfl ?_;(try simp only[Act.put,nY,nX]));(refine' Aa 6 rfl ?_;(try simp only[Act.put,nY,nX]))
     clear hS
     (refine Agz 7 rfl (fun K' hK'=> ?_);simp only[nY];go_simp)
     have j1:Ab ((W4.alloc (.cells #[.int .u32 2, .int .u32 5, .int .u32 2, .int .u32 5, .int .u32 1, .int .u32 1] 24)).drew) (some ⟨W4.heap.size,0,none⟩) 3 3 [sP,sP,(1,1)]:=C5 W4 [sP,sP,(1,1)] 24 (by simp);have d0:Below W4.heap.size W4 ((W4.alloc (.cells #[.int .u32 2, .int .u32 5, .int .u32 2, .int .u32 5, .int .u32 1, .int .u32 1] 24)).drew):=((Below.refl _ W4).alloc rr _).drew;have hS:=i4.out _ d0;refine hK' _ _ ⟨.inr hS,fun _=> ?_⟩
     clear hK' K'
     (try simp only[Act.put,nY,nX])
     (refine' Aa 8 rfl ?_;(try simp only[Act.put,nY,nX]))
     (refine Agz 9 rfl (fun K' hK'=> ?_);simp only[nY];go_simp)
     refine hK' _ _ ⟨.inl (by kernel_rfl),fun _=>Be (by kernel_rfl) ?_ _⟩
     clear hK' K' hS;go_wp2;go_meet
     case rel=>exact⟨_,_,_,_,_,_,_,[⟨vD,av⟩,⟨fD,af⟩],_,rfl,rfl,rfl,⟨b0.out.below d0 rr,j1,Mm (by decide),rf1,fun _=>⟨_,rfl,Ag2⟩⟩,a6.out.trans (d0.mono a0)⟩
    ·obtain⟨bl,ol,p0,m0,hA,a2,e0,c00,c01⟩:=a5.out.at_ (k:=0) (by omega);obtain⟨bl',ol',p1,m1,b4, -,e1,c10,c11⟩:=a5.out.at_ (k:=1) (by omega);obtain⟨bl2,ol2,p2,m2,b5, -,e2,c20,c21⟩:=a5.out.at_ (k:=2) (by omega);obtain⟨rfl,rfl⟩:bl'=bl/\ol'=ol:=by rw[hA]at b4;injection b4 with h;injection h with h1 h2;exact⟨h1.symm,h2.symm⟩
     obtain⟨rfl,rfl⟩:bl2=bl'/\ol2=ol':=by rw[hA]at b5;injection b5 with h;injection h with h1 h2;exact⟨h1.symm,h2.symm⟩
     obtain⟨rfl,rfl⟩:p0=2/\m0=5:=by simpa[sP,eq_comm]using e0
     obtain⟨rfl,rfl⟩:p1=3/\m1=4:=by simpa[sB,eq_comm]using e1
     obtain⟨rfl,rfl⟩:p2=5/\m2=2:=by simpa[sA,eq_comm]using e2
     subst hA;clear b4 b5 e0 e1 e2;simp only[Nat.zero_mul,Nat.one_mul,Nat.add_zero]at c00 c01 c10 c11 c20 c21;have i4:Hid (∀W':World,Below W4.heap.size W4 W'->W'.cell? ⟨bl2,ol2,none⟩=some (.int .u32 2)/\W'.cell? ⟨bl2,ol2+1,none⟩=some (.int .u32 5)/\W'.cell? ⟨bl2,ol2+2,none⟩=some (.int .u32 3)/\W'.cell? ⟨bl2,ol2+2+1,none⟩=some (.int .u32 4)/\W'.cell? ⟨bl2,ol2+2*2,none⟩=some (.int .u32 5)/\W'.cell? ⟨bl2,ol2+2*2+1,none⟩=some (.int .u32 2)):=fun W' hb=>⟨(hb.cell (p:=⟨_,_,none⟩) a2).trans c00,(hb.cell (p:=⟨_,_,none⟩) a2).trans c01,(hb.cell (p:=⟨_,_,none⟩) a2).trans c10,(hb.cell (p:=⟨_,_,none⟩) a2).trans c11,(hb.cell (p:=⟨_,_,none⟩) a2).trans c20,(hb.cell (p:=⟨_,_,none⟩) a2).trans c21⟩
     go_wp2_with fail;refine Bs (fun W'=>W'.cell? ⟨bl2,ol2,none⟩=some (.int .u32 2)/\W'.cell? ⟨bl2,ol2+1,none⟩=some (.int .u32 5)/\W'.cell? ⟨bl2,ol2+2,none⟩=some (.int .u32 3)/\W'.cell? ⟨bl2,ol2+2+1,none⟩=some (.int .u32 4)/\W'.cell? ⟨bl2,ol2+2*2,none⟩=some (.int .u32 5)/\W'.cell? ⟨bl2,ol2+2*2+1,none⟩=some (.int .u32 2)) (by kernel_rfl) ⟨c00,c01,c10,c11,c20,c21⟩ (fun hS=> ?_);clear c00 c01 c10 c11 c20 c21
     (refine' Aa 0 rfl ?_;(try simp only[Act.put,nY,nX]));(refine' Aa 1 rfl ?_;(try simp only[Act.put,nY,nX]));(refine' Aa 2 rfl ?_;(try simp only[Act.put,nY,nX]));(refine' Aa 3 rfl ?_;(try simp only[Act.put,nY,nX]));(refine' Aa 4 rfl ?_;(try simp only[Act.put,nY,nX]));(refine' Aa 5 rfl ?_;(try simp only[Act.put,nY,nX]));(refine' Aa 6 rfl ?_;(try simp only[Act.put,nY,nX]));(refine' Aa 7 rfl ?_;(try simp only[Act.put,nY,nX]));(refine' Aa 8 rfl ?_;(try simp only[Act.put,nY,nX]))
     clear hS
     (refine Agz 9 rfl (fun K' hK'=> ?_);simp only[nY];go_simp)
     have j1:Ab ((W4.alloc (.cells #[.int .u32 5, .int .u32 2, .int .u32 3, .int .u32 4, .int .u32 5, .int .u32 2] 24)).drew) (some ⟨W4.heap.size,0,none⟩) 3 3 [sA,sB,sA]:=C5 W4 [sA,sB,sA] 24 (by simp);have d0:Below W4.heap.size W4 ((W4.alloc (.cells #[.int .u32 5, .int .u32 2, .int .u32 3, .int .u32 4, .int .u32 5, .int .u32 2] 24)).drew):=((Below.refl _ W4).alloc rr _).drew;have hS:=i4.out _ d0;refine hK' _ _ ⟨.inr hS,fun _=> ?_⟩
     clear hK' K'
     (try simp only[Act.put,nY,nX])
     (refine' Aa 10 rfl ?_;(try simp only[Act.put,nY,nX]))
     (refine Agz 11 rfl (fun K' hK'=> ?_);simp only[nY];go_simp)
     refine hK' _ _ ⟨.inl (by kernel_rfl),fun _=>Be (by kernel_rfl) ?_ _⟩
     clear hK' K' hS;go_wp2;go_meet
     case rel=>exact⟨_,_,_,_,_,_,_,[⟨vD,av⟩,⟨fD,af⟩],_,rfl,rfl,rfl,⟨b0.out.below d0 rr,j1,Mm (by decide),rf2,fun _=>⟨_,rfl,Ag3⟩⟩,a6.out.trans (d0.mono a0)⟩
    ·go_wp2_with fail;refine(Yl (some ⟨g4,0,none⟩) 2 _ W4 b0.out).mono ?_;rintro e w5 ⟨A5,ys,rfl,q0,_,a1⟩;have g7:=hI q0;have b1:=hI a1;clear q0 a1;go_wp2;go_meet
     case rel=>exact⟨_,_,_,_,_,_,_,ys,_,rfl,rfl,rfl,⟨g7.out,a5.out.below b1.out rr,Mm (by decide),rf3 _ (by rw[List.length_map,g7.out.len];decide),fun h=>absurd rfl h⟩,a6.out.trans (b1.out.mono a0)⟩
    ·go_wp2_with(first|(refine Dn rfl (.tmp 8) rfl b8 vD av rfl m6.out ?_)|(refine Kh rfl (.tmp 70) (.tmp 71) rfl ⟨vD,av⟩ Yp rfl rfl ?_));have q1:=Jg W4 ⟨vD,av⟩ Yp 34 o1.out (Aeb _);have a1:Below W4.heap.size W4 (W4.alloc (.cells ((Bu.mk vD av).cells++Yp.cells).toArray 34)):=bel;go_meet
     case rel=>exact⟨_,_,_,_,_,_,_,[⟨vD,av⟩,Yp],_,rfl,rfl,rfl,⟨q1,a5.out.below a1 rr,Mm (by decide),rf4,fun _=>⟨_,rfl,Ag4⟩⟩,a6.out.trans (a1.mono a0)⟩
    ·go_wp2;go_meet
     case rel=>exact⟨_,_,_,_,_,_,_,[⟨vD,av⟩,⟨fD,af⟩],_,rfl,rfl,rfl,⟨b0.out,a5.out,Mm (by decide),rf5,fun _=>⟨_,rfl,Ag5⟩⟩,a6.out⟩
   case rest=>
    clear b0 a5 o1 m6 a6 a0;obtain⟨Ax,nx,cx,As,ns,cs,er,ys,ss,rfl,rfl,rfl,HR,HB⟩:=hcut;have hx:=HR.out.y.max;have j6:=Ys HR.out.e;go_wp2_with fail;refine(Uw Ax nx cx ys none 0 0 [] As ns cs ss wc HR.out.y (Bb.nil _ _) HR.out.s (HT.out.below HB.out rr) (by omega)).mono ?_;rw[j6.1];rintro e w5 ⟨rfl,a1⟩;have f1:=hI (HR.out.below a1);have b1:=hI (HB.out.trans (a1.mono HB.out.size));clear a1 HR HB;go_wp2_with fail;refine(Xp Ax nx cx ys none 0 0 [] As ns cs ss w5 f1.out.y (Bb.nil _ _) f1.out.s (HT.out.below b1.out rr) (by omega)).mono ?_;rw[j6.2];rintro e w6 ⟨rfl,k0⟩;have d3:=hI (f1.out.below k0);have f7:=hI (b1.out.trans (k0.mono b1.out.size));clear k0 f1 b1 j6;have q8:(er !=er)=false:=by simp
    go_upto_region 20 with fail
    go_cut [104]from 95 to 103 (fun s104 wx=>s104= .bool (decide (Fi er n≠er))/\wx=w6)
    case first=>
     by_cases h0:er=0
     ·subst h0;by_cases g1:n<0
      ·go_wp2;go_meet
       case rel=>exact⟨by simp[Fi,g1],rfl⟩
      ·by_cases g2:4<n
       ·go_wp2;go_meet
        case rel=>exact⟨by simp[Fi,g2],rfl⟩
       ·go_wp2;go_meet
        case rel=>exact⟨by simp[Fi,g1,g2],rfl⟩
     ·have h1:(er==0)=false:=by simpa using h0
      go_wp2;go_meet
      case rel=>exact⟨by simp[Fi,h0],rfl⟩
    case rest=>
     obtain⟨rfl,a7⟩:=hcut;obtain rfl:w6=wc:=a7.symm
     go_upto_if 104 with fail
     go_cut [17]from 95 to 104 (fun s17 wx=>s17= .int .i64 (Fi er n)/\wx=w6)
     case first=>
      by_cases g:Fi er n=er
      ·rw[g,show decide (er≠er)=false by simp];go_wp2;go_meet
       case rel=>exact⟨by rw[g],rfl⟩
      ·have h0:er=0/\Fi er n=3:=by
        unfold Fi at g ⊢;by_cases h:er=0
        ·subst h;simp at g ⊢;exact g
        ·rw[if_pos h]at g;exact absurd rfl g
       rw[decide_eq_true g];have H0:=hI h0;clear h0 g;go_wp2;go_meet
       case rel=>exact⟨by rw[H0.out.2],rfl⟩
     case rest=>
      obtain⟨rfl,a7⟩:=hcut;obtain rfl:w6=wc:=a7.symm
      go_upto_region 22 with fail
      go_cut [110]from 105 to 109 (fun s110 wx=>s110= .bool (decide (Jb er most≠er))/\wx=w6)
      case first=>
       by_cases h0:er=0
       ·subst h0;by_cases g1:most<0
        ·go_wp2;go_meet
         case rel=>exact⟨by simp[Jb,g1],rfl⟩
        ·go_wp2;go_meet
         case rel=>exact⟨by simp[Jb,g1],rfl⟩
       ·have h1:(er==0)=false:=by simpa using h0
        go_wp2;go_meet
        case rel=>exact⟨by simp[Jb,h0],rfl⟩
      case rest=>
       obtain⟨rfl,a7⟩:=hcut;obtain rfl:w6=wc:=a7.symm
       go_upto_if 110 with fail
       go_cut [18]from 105 to 110 (fun s18 wx=>s18= .int .i64 (Jb er most)/\wx=w6)
       case first=>
        by_cases g:Jb er most=er
        ·rw[g,show decide (er≠er)=false by simp];go_wp2;go_meet
         case rel=>exact⟨by rw[g],rfl⟩
        ·have h0:er=0/\Jb er most=3:=by
          unfold Jb at g ⊢;by_cases h:er=0
          ·subst h;simp at g ⊢;exact g
          ·rw[if_pos h]at g;exact absurd rfl g
         rw[decide_eq_true g];have H0:=hI h0;clear h0 g;go_wp2;go_meet
         case rel=>exact⟨by rw[H0.out.2],rfl⟩
       case rest=>
        obtain⟨rfl,a7⟩:=hcut;obtain rfl:w6=wc:=a7.symm;clear q8;have k4:=L1 n d3.out.e;obtain⟨g0,f5⟩:=Yq (Am ys) ss n;obtain⟨b6,f3⟩:=Abg (Am ys) ss n;obtain⟨a8,g8⟩:=Ub most d3.out.e;rw[k4]at g0 f5 b6 f3;obtain⟨r4,j7⟩:∃r4,r4=Fi er n:=⟨_,rfl⟩;obtain⟨mb,i1⟩:∃mb,mb=Jb er most:=⟨_,rfl⟩;rw[←j7]at g0 f5 b6 f3 ⊢;rw[←i1]at a8 g8 ⊢;have q5:=hI j7;have q4:=hI i1;have o8:=hI f5;have p4:=hI f3;have d2:=hI g8;have k2:=hI b6;have d5:=hI a8;clear j7 i1 f5 f3 g8 k4 b6 a8;go_wp2_with fail;refine(Wt Ax nx cx ys As ns cs ss n w6 d3.out.y d3.out.s (HT.out.below f7.out rr)).mono ?_;rintro e w7 ⟨A7,n7,c7,rfl,k3,i5⟩;rw[g0];have o7:r4≠0->n7=0:=fun h=>by have:=k3.len;rw[o8.out h]at this;simpa using this.symm
        have k1:=hI o7;have d4:=hI (d3.out.below i5);have f4:=hI (f7.out.trans (i5.mono f7.out.size));clear i5 k3 o7 g0 d3 f7 o8;have b6:=k2.out;go_wp2_with fail;refine(Aam Ax nx cx ys As ns cs ss n w7 d4.out.y d4.out.s (HT.out.below f4.out rr) d4.out.u).mono ?_;rintro e w8 ⟨A8,n8,c8,ps8,rfl,m9,p8,d1⟩;rw[b6]
        have k5:r4≠0->n8=0:=fun h=>by
         have h1:=p8.1.2;have h2:=congrArg List.length m9;rw[p4.out h,List.length_map]at h2;simp at h2;rw[←h1,h2];rfl
        have m3:=hI k5;have f2:=hI (d4.out.below d1);have f6:=hI (f4.out.trans (d1.mono f4.out.size));clear d1 m9 p8 k5 b6 k2 d4 f4 p4;have a8:=d5.out;go_wp2_with fail;refine(Qo Ax nx cx ys none 0 0 [] As ns cs ss most w8 f2.out.y (Bb.nil _ _) f2.out.s (HT.out.below f6.out rr) (by omega)).mono ?_;rintro e w9 ⟨A9,n9,c9,rfl,o5,b2⟩;rw[a8];have k7:mb≠0->n9=0:=fun h=>by have:=o5.len;rw[d2.out h]at this;simpa using this.symm
        have i8:=hI k7;have b3:=hI (f2.out.below b2);have b7:=hI (f6.out.trans (b2.mono f6.out.size));clear b2 o5 k7 a8 d5 f2 f6 d2
        go_upto_region 27 with fail
        go_cut [165]from 132 to 164 (fun s wx=>s= .bool false/\wx=w9)
        case first=>
         by_cases hr0:r4=0
         ·by_cases hm0:mb=0
          ·subst hr0;subst hm0;go_wp2;go_meet
           case rel=>exact⟨rfl,rfl⟩
          ·have h9:=i8.out hm0;subst h9;subst hr0;have h1:(mb !=0)=true:=by simpa using hm0
           go_wp2;go_meet
           case rel=>exact⟨rfl,rfl⟩
         ·have h7:=k1.out hr0;have h8:=m3.out hr0;subst h7;subst h8;have h1:(r4 !=0)=true:=by simpa using hr0
          by_cases hm0:mb=0
          ·subst hm0;go_wp2;go_meet
           case rel=>exact⟨rfl,rfl⟩
          ·have h9:=i8.out hm0;subst h9;have h2:(mb !=0)=true:=by simpa using hm0
           go_wp2;go_meet
           case rel=>exact⟨rfl,rfl⟩
        case rest=>
         obtain⟨rfl,a7⟩:=hcut;obtain rfl:w9=wc:=a7.symm;clear k1 m3 i8;by_cases hq3:q=3
         ·subst hq3;go_wp2_with fail;refine(Hh _ (HT.out.below b7.out rr)).mono ?_;rintro e wz ⟨rfl,a9⟩;go_wp2;go_ret;exact⟨rfl,Below.trans b7.out (a9.mono (Below.size b7.out))⟩
         ·have q2:((q:Int)==3)=false:=by simpa using(by omega:¬(q:Int)=3)
          obtain⟨y,hy,p7⟩:=b3.out.o hq3;obtain⟨gy,oy,hA,m7,i3⟩:=b3.out.y.at_ hy;subst hA;have i6:=(List.getElem?_eq_some_iff.1 hy).1;have i2:=b3.out.y.len;have r0:(1:Int)<(nx:Int):=by omega
          have j8:=hI (b3.out.y.2 y (List.mem_of_getElem? hy));rw[Nat.one_mul]at i3;have i9:=hI i3;have o2:=hI p7;clear i3 p7 hy i6 i2;go_wp2_with(refine Qu rfl (.tmp 172) rfl gy (oy+18) y rfl i9.out ?_);refine(Wr y As ns cs ss n w9 j8.out b3.out.s (HT.out.below b7.out rr)).mono ?_;rintro e wf ⟨rfl,d8⟩;obtain⟨j9,f0⟩:=Yr y.l ss n;rw[L1 n o2.out,←q5.out]at j9 f0;obtain⟨fx,j2⟩:∃fx,fx=(Fg y.l ss n).2:=⟨_,rfl⟩;rw[j9,←j2];rw[←j2]at f0;have q7:=hI f0;clear f0 j2 j9;have d7:=hI (T3 i9.out d8 m7);have o0:=hI (j8.out.below d8 rr);have o6:=hI (b3.out.below d8);have f8:=hI (b7.out.trans (d8.mono b7.out.size));clear d8 i9 j8 b3 b7 m7;go_wp2_with(refine Qu rfl (.tmp 181) rfl gy (oy+18) y rfl d7.out ?_);refine(Zq y none 0 0 [] As ns cs ss most wf o0.out (Bb.nil _ _) o6.out.s (HT.out.below f8.out rr) (by omega)).mono ?_;rintro e wg ⟨Ag,ng,cg,rfl,m8,p5⟩;obtain⟨i0,j0⟩:=Ub most o2.out;rw[←q4.out]at i0 j0;have k8:mb≠0->ng=0:=fun h=>by have:=m8.len;rw[j0 h]at this;simpa using this.symm
          have k6:=hI k8;rw[i0];have a3:=hI (f8.out.trans (p5.mono f8.out.size));clear p5 m8 k8 i0 j0 d7 o0 o6 f8;by_cases hr0:r4=0
          ·by_cases hm0:mb=0
           ·subst hr0;subst hm0;go_wp2_with fail;refine(Hh _ (HT.out.below a3.out rr)).mono ?_;rintro e wz ⟨rfl,a9⟩;go_wp2;go_ret;exact⟨rfl,Below.trans a3.out (a9.mono (Below.size a3.out))⟩
           ·have h9:=k6.out hm0;subst h9;subst hr0;have h2:(mb==0)=false:=by simpa using hm0
            go_wp2_with fail;refine(Hh _ (HT.out.below a3.out rr)).mono ?_;rintro e wz ⟨rfl,a9⟩;go_wp2;go_ret;exact⟨rfl,Below.trans a3.out (a9.mono (Below.size a3.out))⟩
          ·have h7:=q7.out hr0;subst h7;have h1:(r4==0)=false:=by simpa using hr0
           by_cases hm0:mb=0
           ·subst hm0;go_wp2_with fail;refine(Hh _ (HT.out.below a3.out rr)).mono ?_;rintro e wz ⟨rfl,a9⟩;go_wp2;go_ret;exact⟨rfl,Below.trans a3.out (a9.mono (Below.size a3.out))⟩
           ·have h9:=k6.out hm0;subst h9;have h2:(mb==0)=false:=by simpa using hm0
            go_wp2_with fail;refine(Hh _ (HT.out.below a3.out rr)).mono ?_;rintro e wz ⟨rfl,a9⟩;go_wp2;go_ret;exact⟨rfl,Below.trans a3.out (a9.mono (Below.size a3.out))⟩
end Go.Proofs.YtlgliddhideflaaGreatDoor
