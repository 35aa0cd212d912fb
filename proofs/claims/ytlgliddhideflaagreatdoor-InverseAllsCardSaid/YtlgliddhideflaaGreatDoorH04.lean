/-
  inverse.BackAll.
  A law that lies apart; a law is laid into a row of one's own, the others stay.
  inverse.Back.
  inverse.became: each word of an alphabet with so many sounds that does not become too long, with what it becomes, is handed to a function.
  inverse.Fixed: how many words a law leaves as they are.
  inverse.Image: its closures.
  word.Order; how inverse.Image compares words.
-/
import Derived.BigFrame
import Derived.Sort.Statements
import Derived.Test.YtlgliddhideflaaGreatDoorH03
import Derived.Test.YtlgliddhideflaaGreatDoorG35
import Derived.Test.YtlgliddhideflaaGreatDoorG38
set_option linter.all false
set_option maxRecDepth 100000
set_option maxHeartbeats 4000000
namespace Go.Proofs.YtlgliddhideflaaGreatDoor
open Go.RowKit Go.Shelf
attribute [local go_sem] Oper.semAt_some
theorem Ah2 {ls:List Bg}{w ss:List Snd}{most:Int}(h:B7 ls w ss≠0):Et ls w ss most=(B7 ls w ss,[]):=by unfold Et;rw[if_pos h]
theorem Acx {ls:List Bg}{w ss:List Snd}{most:Int}(h:B7 ls w ss=0)(hm:most<0):Et ls w ss most=(3,[]):=by unfold Et;rw[if_neg (by simpa using h),if_pos hm]
theorem Ala {ls:List Bg}{w ss:List Snd}{most:Int}(h:B7 ls w ss=0)(hm:¬most<0):Et ls w ss most=(0,(Cl ls w ss).take most.toNat):=by unfold Et;rw[if_neg (by simpa using h),if_neg hm]
theorem Xv (A:Option Addr)(n c:Nat)(xs:List Co)(Aw:Option Addr)(nw cw:Nat)(ws:List Snd)(As:Option Addr)(ns cs:Nat)(ss:List Snd)(most:Int)(w:World)(hx:B4 w A n c xs)(hw:Ad w Aw nw cw ws)(hs:Ad w As ns cs ss)(hT:Cq w)(hnw:nw<=4096):
  Calls Tryz.prog 62 #[.slice A n c, .slice Aw nw cw, .slice As ns cs, .int .i64 most] w (Pc w (Et (Ah xs) ws ss most)):=by
 have HX:=hI hx;have HW:=hI hw;have HS:=hI hs;have HT:=hI hT;clear hx hw hs hT;refine(callsIn_wide (n:=9)).1 (callsIn_of_wp_marks Tryz.func62 rfl trivial ?_ rfl);simp only[Tryz.ntmps62,List.size_toArray,List.length_cons,List.length_nil,Nat.reduceAdd,Nat.reduceSub,Array.replicate_succ,Array.replicate_zero,List.push_toArray,List.append_toArray,List.nil_append,List.cons_append];gi_wp2;have k5:(w.alloc (.cells #[.int .i64 most] 3)).heap[w.heap.size]? =some (.cells #[.int .i64 most] 3 (0,0)):=hpt;have kB:Below w.heap.size w (w.alloc (.cells #[.int .i64 most] 3)):=bel;generalize(w.alloc (.cells #[.int .i64 most] 3))=V0 at*;refine⟨trivial, ?_⟩;refine(callsIn_wide.2 (Uw A n c xs Aw nw cw ws As ns cs ss V0 (HX.out.below kB rr) (HW.out.below kB rr) (HS.out.below kB rr))).mono ?_;rintro e w1 ⟨rfl,d3⟩;have K5:=hI ((d3.block _ (lt_of_block k5)).trans k5);have a1:=hI (kB.trans (d3.mono kB.size));clear k5 kB d3;obtain⟨b5,d6⟩:∃b5,b5=w.heap.size:=⟨_,rfl⟩;rw[←d6]at K5 ⊢;have l5:=lt_of_block K5.out;have j9:w.heap.size<=b5:=Nat.le_of_eq d6.symm;clear d6;obtain⟨er,d2⟩:∃er,er=B7 (Ah xs) ws ss:=⟨_,rfl⟩;rw[←d2];have d5:=hI d2;clear d2;by_cases h0:er=0
 case neg=>
  have h1:(er !=0)=true:=by simpa using h0
  have HM:Hid (Et (Ah xs) ws ss most=(er,[])):=by show Et _ _ _ _=_;rw[Ah2 (by rw[←d5.out];exact h0),d5.out]
  clear h0;gi_wp2;exact Hq (B:=w.heap.size) Tryz.results62 _ _ rfl rfl trivial fun w' hw'=>⟨none,0,0,by rw[HM.out];rfl,by rw[HM.out];exact Bx.nil _,a1.out.trans hw'.below⟩
 have h1:(er !=0)=false:=by simpa using h0
 have a9:Hid (B7 (Ah xs) ws ss=0):=by show _=_;rw[←d5.out];exact h0
 clear h0;have c5:=cell_of_one K5.out;by_cases hm0:most<0
 ·have HM:Hid (Et (Ah xs) ws ss most=(3,[])):=Acx a9.out hm0;gi_wp2;exact Hq (B:=w.heap.size) Tryz.results62 _ _ rfl rfl trivial fun w' hw'=>⟨none,0,0,by rw[HM.out];rfl,by rw[HM.out];exact Bx.nil _,a1.out.trans hw'.below⟩
 have HM:Hid (Et (Ah xs) ws ss most=(0,(Cl (Ah xs) ws ss).take most.toNat)):=Ala a9.out hm0;by_cases hm1:most=0
 ·subst hm1;have i1:Hid (Et (Ah xs) ws ss 0=(0,[])):=by show _=_;rw[HM.out];rfl
  clear hm0;gi_wp2;exact Hq (B:=w.heap.size) Tryz.results62 _ _ rfl rfl trivial fun w' hw'=>⟨none,0,0,by rw[i1.out];rfl,by rw[i1.out];exact Bx.nil _,(a1.out.alloc a1.out.size _).trans hw'.below⟩
 have k4:(most==0)=false:=by simpa using hm1
 have k8:decide (most<0)=false:=by simpa using hm0
 gi_wp2;refine⟨trivial, ?_⟩;have gA:(w1.alloc (.cells #[.slice none 0 0] 46)).heap[w1.heap.size]? =some (.cells #[.slice none 0 0] 46 (0,0)):=hpt;have g5:(w1.alloc (.cells #[.slice none 0 0] 46)).heap[b5]? =some (.cells #[.int .i64 most] 3 (0,0)):=(Am l5).trans K5.out;have gB:Below w.heap.size w (w1.alloc (.cells #[.slice none 0 0] 46)):=a1.out.alloc a1.out.size _;have m2:=a1.out.size;generalize(w1.alloc (.cells #[.slice none 0 0] 46))=WA at*;have i9:=lt_of_block gA;have GA:=hI gA;have G5:=hI g5;have GB:=hI gB;clear gA g5 gB c5;refine(callsIn_wide.2 (S0 A n c Aw nw cw As ns cs WA)).mono ?_;rintro e w2 ⟨bs,bl,bw,rfl,k1,k2,k3,j0,j6,j7,d9⟩;have K1:=hI k1;have K2:=hI k2;have K3:=hI k3;have b2:=hI d9;clear k1 k2 k3 d9;gi_wp2;refine Dt (gf:=180) (lb:= #[.pointer (some ⟨bs,0,none⟩), .pointer (some ⟨bl,0,none⟩), .pointer (some ⟨bw,0,none⟩)]) rfl (enters_of Tryz.func180 (by kernel_rfl) rfl) fun fn D l rc W1 hrc hD hl hK2 hD1 hl1 hs2=> ?_
 have j4:=hI hrc;clear hrc;have k7:w2.heap.size<=D:=by omega
 have m6:D<l:=by omega
 clear hs2 hD hl;have a4:=hI hK2;have g0:=hI hD1;have f3:=hI hl1;clear hK2 hD1 hl1;have m5:=b2.out.size;have q1:=(a4.out.block _ (lt_of_block K1.out) (by simp)).trans K1.out;have q2:=(a4.out.block _ (lt_of_block K2.out) (by simp)).trans K2.out;have q3:=(a4.out.block _ (lt_of_block K3.out) (by simp)).trans K3.out;have q4:=(a4.out.block w1.heap.size (by omega) (by simp)).trans ((b2.out.block _ i9).trans GA.out);have q5:=(a4.out.block b5 (by omega) (by simp)).trans ((b2.out.block b5 (by omega)).trans G5.out);have b8:=lt_of_block q1;have d8:=lt_of_block q2;have d7:=lt_of_block q3;have k6:=lt_of_block K1.out;have k0:=lt_of_block K2.out;have m0:=lt_of_block K3.out;have m4:=lt_of_block f3.out;have Q1:=hI q1;have Q2:=hI q2;have Q3:=hI q3;have Q4:=hI q4;have Q5:=hI q5;clear q1 q2 q3 q4 q5;have a6:Hid (Below w.heap.size w W1):=(GB.out.trans (b2.out.mono GB.out.size)).trans ((a4.out.to_below (B:=w.heap.size) (fun b hb=>hb.elim) (by have:=GB.out.size;omega)));obtain⟨E,hE⟩:∃E:Nat->Prop,E=fun b=>b=l:=⟨_,rfl⟩
 have f4:∀b,E b↔b=l:=fun b=>by rw[hE]
 clear hE;have HE:=hI f4;clear f4;obtain⟨J,hJ⟩:∃J:Nat->(Nat->Prop)->World->Prop,J=fun i T X=>∃vw ps,T=Lg w1.heap.size E vw ps/\ps.map Part.word=(Cl (Ah xs) ws ss).take i/\ps.length=i/\(i:Int)<most/\Ja w1.heap.size E W1 vw ps X/\X.heap[l]? =some (.loop (rc .ready none)):=⟨_,rfl⟩
 have HJ:=hI hJ;clear hJ;obtain⟨Jx,g3⟩:∃Jx:(Nat->Prop)->World->Prop,Jx=fun T X=>∃vw ps,T=Lg w1.heap.size E vw ps/\ps.map Part.word=(Cl (Ah xs) ws ss).take most.toNat/\(ps.length:Int)=most/\Ja w1.heap.size E W1 vw ps X/\X.heap[l]? =some (.loop (rc .done (some (.exit 0)))):=⟨_,rfl⟩
 have b4:=hI g3;clear g3;have i7:0<most:=by omega
 refine(Ld (9-1) l bs bl bw (by omega) A n c xs Aw nw cw ws As ns cs ss W1 J Jx (Lg w1.heap.size E (.slice none 0 0) []) W1.heap.size ?hu ?h0 (Dk a9.out).2.2 hnw).mono ?_
 case h0=>
  rw[HJ.out];exact⟨_,[],rfl,by simp,rfl,by simpa using i7,Ja.start (by omega) (fun k hk=>by have:=(HE.out k).1 hk;omega) Q4.out,f3.out⟩
 case hu=>
  have d0:Hid (∀vw ps X,Ja w1.heap.size E W1 vw ps X->X.heap[b5]? =some (.cells #[.int .i64 most] 3 (0,0))/\X.heap[bs]? =some (.cells #[.slice As ns cs] 32 (0,0))/\X.heap[bl]? =some (.cells #[.slice A n c] 35 (0,0))/\X.heap[bw]? =some (.cells #[.slice Aw nw cw] 32 (0,0))∧
    B4 X A n c xs/\Ad X Aw nw cw ws/\Ad X As ns cs ss/\Cq X):=by
   intro vw ps X h;have hX:Below w.heap.size w X:=a6.out.trans (h.kp.to_below (B:=w.heap.size) (fun b hb=>hb.elim (fun hb=>by omega) (fun hb=>by have:=(HE.out b).1 hb;omega)) a6.out.size)
   have b3:∀b,b≠w1.heap.size->b<l→¬(b=w1.heap.size\/E b):=fun b h1 h2 h3=>by
    rcases h3 with h3|h3
    ·exact h1 h3
    ·have:=(HE.out b).1 h3;omega
   exact⟨(h.kp.block b5 (by omega) (b3 _ (by omega) (by omega))).trans Q5.out,(h.kp.block bs b8 (b3 _ (by omega) (by omega))).trans Q1.out,(h.kp.block bl d8 (b3 _ (by omega) (by omega))).trans Q2.out,(h.kp.block bw d7 (b3 _ (by omega) (by omega))).trans Q3.out,
    HX.out.below hX rr,HW.out.below hX rr,HS.out.below hX rr,HT.out.below hX rr⟩
  refine⟨?hB, ?hlt, ?hst, ?hsx, ?hrd, ?hnd, ?hnx, ?hy⟩
  case hB=>
   intro i T X hx;rw[HJ.out]at hx;obtain⟨vw,ps,rfl,h1,h2,h3,h4,h5⟩:=hx;exact h4.kp.size
  case hlt=>
   intro i T X hx;rw[HJ.out]at hx;obtain⟨vw,ps,rfl,h1,h2,h3,h4,h5⟩:=hx;exact h4.lts
  case hst=>
   intro i T X X' hx hk;rw[HJ.out]at hx ⊢;obtain⟨vw,ps,rfl,h1,h2,h3,h4,h5⟩:=hx;exact⟨vw,ps,rfl,h1,h2,h3,h4.keep hk,(hk.block l (lt_of_block h5) (fun e=>e.2 (.inr (.inl ((HE.out l).2 rfl))))).trans h5⟩
  case hsx=>
   intro T X X' hx hk;rw[b4.out]at hx ⊢;obtain⟨vw,ps,rfl,h1,h2,h4,h5⟩:=hx;exact⟨vw,ps,rfl,h1,h2,h4.keep hk,(hk.block l (lt_of_block h5) (fun e=>e.2 (.inr (.inl ((HE.out l).2 rfl))))).trans h5⟩
  case hrd=>
   intro i T X hx;rw[HJ.out]at hx;obtain⟨vw,ps,rfl,h1,h2,h3,h4,h5⟩:=hx;exact(d0.out _ _ _ h4).2
  case hnd=>
   intro i T X hx;rw[HJ.out]at hx;obtain⟨vw,ps,rfl,h1,h2,h3,h4,h5⟩:=hx
   exact h4.nds fun k hk x e=>by
    rw[(HE.out k).1 hk,h5]at e;cases e
  case hnx=>
   intro T X hx;rw[b4.out]at hx;obtain⟨vw,ps,rfl,h1,h2,h4,h5⟩:=hx
   exact h4.nds fun k hk x e=>by
    rw[(HE.out k).1 hk,h5]at e;cases e
  case hy=>
   intro i T X A' k' c' x b6 d4 f0 hx;rw[HJ.out]at hx;obtain⟨vw,ps,rfl,h1,h2,h3,h4,h5⟩:=hx;refine Du j4.out h5 rfl ?_
   have i8:k'<=4096:=by
    have hm:=((Adf _ _ _ _).1 (List.mem_of_getElem? b6)).1.1
    have:=d4.len
    omega
   have d1:=L6 (ls:=Ah xs) (w:=ws) (Cg (Dk a9.out).2.2).2.2 (Cg (Dk a9.out).2.2).1;have m3:i<20000:=by have:=(List.getElem?_eq_some_iff.1 b6).1;omega
   clear d1;have i5:=hI b6;have j5:=hI d4;have i4:=hI f0;have j2:=hI h1;have b1:=hI h2;have H3:=hI h3;have HC:=hI h4;have H5:=hI h5;clear b6 d4 f0 h1 h2 h3 h4 h5;gi_wp2;refine⟨H5.out, ?_⟩;have b7:Aj E X (X.putObj l (.loop (rc .busy none))):=(Aj.refl E X).putObj ((HE.out l).2 rfl) _;have b0:Ja w1.heap.size E W1 vw ps (X.putObj l (.loop (rc .busy none))):=HC.out.beside b7;have f5:Ad (X.putObj l (.loop (rc .busy none))) A' k' c' x:=j5.out.keep b7 fun _ ad a5 e=>(i4.out ad a5).2 (.inr (.inl e))
   have i0:(X.putObj l (.loop (rc .busy none))).heap[l]? =some (.loop (rc .busy none)):=World.putObj_heap_same (lt_of_block H5.out);have g9:(X.putObj l (.loop (rc .busy none))).heap.size=X.heap.size:=by simp
   generalize X.putObj l (.loop (rc .busy none))=V at*;obtain⟨r5, -⟩:=d0.out _ _ _ b0;have c7:=cell_of_one b0.c7;have a2:=hI b0;have i6:=hI f5;have i2:=hI b7;have f1:=hI i0;have g8:=hI g9;have R5:=hI r5;clear b0 f5 b7 i0 g9 r5;gi_wp2;refine Gr (fun W'=>W'.cell? ⟨w1.heap.size,0,none⟩=some vw) (by kernel_rfl) (by kernel_rfl) (fun _ _ h=>by exact h) c7 (fun hHeld=> ?_)
   (refine' Aa 0 rfl ?_;(try simp only[Act.put,nY,nX]));(refine' Aa 1 rfl ?_;(try simp only[Act.put,nY,nX]))
   (refine Aqq 2 rfl (fun K' hK'=> ?_);simp only[nY];go_simp)
   refine(Ml A' k' c' x _ (i6.out.below (B:=V.heap.size) ((Below.refl V.heap.size V).drew) rr) i8).mono ?_;rintro e w3 ⟨A3,n3,c3,rfl,g1,g4,a7⟩;have a0:Below V.heap.size V w3:=(Below.refl V.heap.size V).drew.trans g4;have g7:=(a0.block _ (lt_of_block a2.out.c7)).trans a2.out.c7;refine hK' _ _ ⟨.inr (cell_of_one g7),fun _=> ?_⟩
   clear hK' K'
   (try simp only[Act.put,nY,nX])
   (refine Aqq 3 rfl (fun K' hK'=> ?_);simp only[nY];go_simp)
   have z1:(w3.alloc (.cells #[.slice A3 n3 c3] 32)).heap[w3.heap.size]? =some (.cells #[.slice A3 n3 c3] 32 (0,0)):=Ak rfl;have g7':=(Am (o:= .cells #[.slice A3 n3 c3] 32) (lt_of_block g7)).trans g7;have o7:=(Gn a2.out.o7 a0 rr).alloc (.cells #[.slice A3 n3 c3] 32);refine hK' _ _ ⟨.inr (cell_of_one g7'),fun _=> ?_⟩
   clear hK' K' c7 hHeld
   (try simp only[Act.put,nY,nX])
   have j8:W1.heap.size<=V.heap.size:=a2.out.kp.size;have m1:=a0.size;have j1:ps.length<20000:=by have:=b1.out;omega
   refine Aqq 4 rfl (fun K' hK'=> ?_);rw[if_pos (by rfl)];refine C1 (.tmp 29) (.tmp 32) 46 rfl W1.heap.size 32 (.slice none 0 0) 1 24 Tryz.underlying46 Hw rfl (by decide) vw ps.length (ps.map Part.val) (by rfl) o7 ⟨w3.heap.size,0,none⟩ 1 1 [.slice A3 n3 c3] (by rfl) rfl (Hx z1) (by intro u hu;simp at hu;subst hu;rfl) (by unfold maxLen;omega) (by omega) (by simp;omega) ?_;intro vw' X2 a3 hg _ f2;obtain⟨A9,k9,rfl⟩:=Bh a3;have f6:some w1.heap.size≠vw.ownBlock:=fun e=>by have:=(a2.out.o7.lt w1.heap.size e.symm).1;omega
   have x7:=(hg.block w1.heap.size (lt_of_block g7') f6).trans g7';have c7:=cell_of_one x7;have f7:=free_of_one x7;have gl:=(a0.block _ (lt_of_block f1.out)).trans f1.out;have gl':=(Am (o:= .cells #[.slice A3 n3 c3] 32) (lt_of_block gl)).trans gl;have a8:some l≠vw.ownBlock:=fun e=>by have:=(a2.out.o7.lt l e.symm).1;omega
   have xl:=(hg.block l (lt_of_block gl') a8).trans gl';have YL:=hI ((Below.heap_setCell X2 ⟨w1.heap.size,0,none⟩ (.slice A9 (ps.length+1) k9) l (by simp;omega)).trans xl);clear gl gl' a8 xl;refine hK' _ _ ⟨.inr c7,fun _=> ?_⟩
   clear hK' K';have g6:V.drew.heap.size=V.heap.size:=rfl;rw[g6]at a7;clear g6;obtain⟨p1,p2,p3⟩:=a2.out.push a0 g1 (fun ad a5=>⟨by have:=a7 ad a5;omega,fun h=>by have:=a2.out.lts _ h;have:=a7 ad a5;omega⟩) a3 hg f2;have P1:=hI p1;clear p1;have P2:=hI p2;clear p2
   have f9:∀b,Lg w1.heap.size E (.slice A9 (ps.length+1) k9) (ps++[(A3,n3,c3,x)]) b->Lg w1.heap.size E vw ps b\/X.heap.size<=b:=fun b hb=>by
    rcases p3 b hb with h|h|⟨_,ad,a5,h⟩
    ·exact .inl h
    ·exact .inr (by rw[←g8.out];exact h)
    ·exact .inr (by rw[←g8.out,←h];exact a7 ad a5)
   have P3:=hI f9;clear p3 f9;clear a3 hg f2 g7 g7' z1 o7 x7 f6 g1 a7 g4 a0
   (try simp only[Act.put,nY,nX])
   (refine Aqq 5 rfl (fun K' hK'=> ?_);simp only[nY];go_simp)
   refine hK' _ _ ⟨.inl (by kernel_rfl),fun _=>Be (by kernel_rfl) ?_ _⟩
   clear hK' K' c7 f7;generalize X2.setCell ⟨w1.heap.size,0,none⟩ (.slice A9 (ps.length+1) k9)=Y at*;have y7:=cell_of_one P1.out.c7;have y5:=cell_of_one (d0.out _ _ _ P1.out).1;have f8:Hid (Aj (Lg w1.heap.size E vw ps) X Y):=(i2.out.mono fun b hb=> .inr (.inl hb)).trans P2.out
   have g2:Hid ((ps++[(A3,n3,c3,x)]).map Part.word=(Cl (Ah xs) ws ss).take (i+1)):=by
    show _=_;rw[List.map_append,j2.out,Bb _ i x i5.out];rfl
   by_cases he:(ps.length:Int)+1=most
   ·have j3:((ps.length:Int)+1==most)=true:=by simpa using he
    gi_wp2;refine⟨YL.out,f8.out.putObj (.inr (.inl ((HE.out l).2 rfl))) _, .inr ⟨rfl,_, ?_,P3.out⟩⟩;rw[b4.out];have i3:most.toNat=i+1:=by have:=b1.out;omega
    exact⟨_,_,rfl,by rw[i3];exact g2.out,by rw[List.length_append];simp;omega,P1.out.beside ((Aj.refl E Y).putObj ((HE.out l).2 rfl) _),World.putObj_heap_same (lt_of_block YL.out)⟩
   ·have j3:((ps.length:Int)+1==most)=false:=by simpa using he
    gi_wp2;refine⟨YL.out,f8.out.putObj (.inr (.inl ((HE.out l).2 rfl))) _, .inl ⟨rfl,_, ?_,P3.out⟩⟩;rw[HJ.out];exact⟨_,_,rfl,g2.out,by rw[List.length_append,b1.out];rfl,by have:=b1.out;have:=H3.out;omega,P1.out.beside ((Aj.refl E Y).putObj ((HE.out l).2 rfl) _),World.putObj_heap_same (lt_of_block YL.out)⟩
 rintro e W' ⟨⟨v,rfl⟩,⟨T,hj⟩|⟨T,hx⟩⟩
 ·rw[HJ.out]at hj;obtain⟨vw,ps,rfl,h1,h2,h3,h4,h5⟩:=hj;refine .inl ⟨h5, ?_⟩;have xC:=h4.beside ((Aj.refl E W').putObj ((HE.out l).2 rfl) (.loop (rc .exhausted none)));generalize W'.putObj l (.loop (rc .exhausted none))=X at*;obtain⟨A9,k9,rfl⟩:=Bh xC.o7;have c7:=cell_of_one xC.c7;have XC:=hI xC
  have b9:Hid (ps.map Part.word=(Cl (Ah xs) ws ss).take most.toNat):=by
   show _=_;rw[h1,List.take_of_length_le rr,List.take_of_length_le (by omega)]
  clear h1 h2 h4 h5 xC;gi_wp2;have hM:Dd w.heap.size X [Ft D]:=⟨D,rfl,by have:=a1.out.size;omega,(XC.out.kp.block D (by omega) (fun h=>h.elim (fun h=>by omega) (fun h=>by have:=(HE.out D).1 h;omega))).trans g0.out,by simp,trivial⟩;have hX:Below w.heap.size w X:=a6.out.trans (XC.out.kp.to_below (B:=w.heap.size) (fun b hb=>hb.elim (fun hb=>by omega) (fun hb=>by have:=(HE.out b).1 hb;omega)) a6.out.size);exact Hq (B:=w.heap.size) Tryz.results62 _ _ rfl rfl hM fun w' hw'=>⟨A9,ps.length,k9,by rw[HM.out];rfl,by rw[HM.out];exact⟨ps,b9.out,Bd.of_own (Lr XC.out.o7 hw') (by decide),fun p hp=>(XC.out.pp p hp).shut hw'⟩,hX.trans hw'.below⟩
 ·rw[b4.out]at hx;obtain⟨vw,ps,rfl,h1,h2,h4,h5⟩:=hx;refine .inr ⟨.exit 0,h5, ?_⟩;have xC:=h4.beside ((Aj.refl E W').putObj ((HE.out l).2 rfl) (.loop (rc .exhausted (some (.exit 0)))));generalize W'.putObj l (.loop (rc .exhausted (some (.exit 0))))=X at*;obtain⟨A9,k9,rfl⟩:=Bh xC.o7;have c7:=cell_of_one xC.c7;have XC:=hI xC
  have b9:Hid (ps.map Part.word=(Cl (Ah xs) ws ss).take most.toNat):=by
   show _=_;exact h1
  clear h1 h2 h4 h5 xC;gi_wp2;have hM:Dd w.heap.size X [Ft D]:=⟨D,rfl,by have:=a1.out.size;omega,(XC.out.kp.block D (by omega) (fun h=>h.elim (fun h=>by omega) (fun h=>by have:=(HE.out D).1 h;omega))).trans g0.out,by simp,trivial⟩;have hX:Below w.heap.size w X:=a6.out.trans (XC.out.kp.to_below (B:=w.heap.size) (fun b hb=>hb.elim (fun hb=>by omega) (fun hb=>by have:=(HE.out b).1 hb;omega)) a6.out.size);exact Hq (B:=w.heap.size) Tryz.results62 _ _ rfl rfl hM fun w' hw'=>⟨A9,ps.length,k9,by rw[HM.out];rfl,by rw[HM.out];exact⟨ps,b9.out,Bd.of_own (Lr XC.out.o7 hw') (by decide),fun p hp=>(XC.out.pp p hp).shut hw'⟩,hX.trans hw'.below⟩
end Go.Proofs.YtlgliddhideflaaGreatDoor
namespace Go.Proofs.YtlgliddhideflaaGreatDoor
open Go.RowKit Go.Shelf
section
variable {ops:Array Oper}{rest:List Oper}{op:Oper}{ac:Act}{w:World}{Q:Exit->Act->World->Prop}
theorem Vp (hgd:op.guard=none)(p:Operand)(ho:op.op= .buildSlice 35 1 #[(0,p)])(x:Co)(hp:ac.eval p=C8 x.l x.a)(hx:Cv w x.l x.a)
  (h:∀W,B4 W (some ⟨w.heap.size,0,none⟩) 1 1 [x]->Below w.heap.size w W->W.heap.size=w.heap.size+1->(∀{B e sz v n xs},w.ownsRow B e sz v n xs->W.ownsRow B e sz v n xs)->wpList Tryz.prog ops Q rest (ac.put op.dst (.slice (some ⟨w.heap.size,0,none⟩) 1 1)) W):wpList Tryz.prog ops Q (op::rest) ac w:=
 Ac1 hgd p ho x hp (h _ (Aan w x 34 hx) bel (by simp) (fun h=>h.alloc _))
theorem Apw (hgd:op.guard=none)(p q:Operand)(ho:op.op= .buildSlice 35 2 #[(0,p),(1,q)])(x y:Co)(hp:ac.eval p=C8 x.l x.a)(hq:ac.eval q=C8 y.l y.a)(hx:Cv w x.l x.a)(hy:Cv w y.l y.a)
  (h:∀W,B4 W (some ⟨w.heap.size,0,none⟩) 2 2 [x,y]->Below w.heap.size w W->W.heap.size=w.heap.size+1->wpList Tryz.prog ops Q rest (ac.put op.dst (.slice (some ⟨w.heap.size,0,none⟩) 2 2)) W):wpList Tryz.prog ops Q (op::rest) ac w:=
 Ac0 hgd p q ho x y hp hq (h _ (Aam w x y 34 hx hy) bel (by simp))
end
theorem Ah3 (x:Co)(Aw:Option Addr)(nw cw:Nat)(ws:List Snd)(As:Option Addr)(ns cs:Nat)(ss:List Snd)(most:Int)(w:World)(hx:Cv w x.l x.a)(hw:Ad w Aw nw cw ws)(hs:Ad w As ns cs ss)(hT:Cq w)(hnw:nw<=4096):
  Calls Tryz.prog 43 #[C8 x.l x.a, .slice Aw nw cw, .slice As ns cs, .int .i64 most] w (Pc w (Et [x.l] ws ss most)):=by
 have HX:=hI hx;have HW:=hI hw;have HS:=hI hs;have HT:=hI hT;clear hx hw hs hT;obtain⟨Wb,a9,a3,a7,a0,a8⟩:=De w x.l x.a;have HL:=hI (HX.out.below a0 rr);go_enter Tryz.func43,Tryz.ntmps43;go_wp2_with(first|(refine Cn rfl (.tmp 4) rfl w.heap.size x.l x.a rfl a3 ?_)|(refine Vp rfl (.tmp 10) rfl x rfl HL.out ?hk))
 case hk=>
  intro X a1 hb a6 _;clear a6;have hB:Below w.heap.size w X:=a0.trans (hb.mono a0.size);have HB:=hI hB;have a5:=hI a1;clear a1 hb hB;go_wp2_with fail;refine(Xv _ 1 1 [x] Aw nw cw ws As ns cs ss most X a5.out (HW.out.below HB.out rr) (HS.out.below HB.out rr) (HT.out.below HB.out rr) hnw).mono ?_;rintro e X2 ⟨A9,n9,c9,rfl,a4,a2⟩;go_wp2;exact bodyPost_ret (v:= .tuple #[.slice A9 n9 c9, .int .i64 (Et [x.l] ws ss most).1]) (results_tmp2 Tryz.results43 _ _ _) rfl ⟨A9,n9,c9,rfl,a4,HB.out.trans (a2.mono HB.out.size)⟩
end Go.Proofs.YtlgliddhideflaaGreatDoor
namespace Go.Proofs.YtlgliddhideflaaGreatDoor
open Go.RowKit Go.Shelf
attribute [local go_sem] Oper.semAt_some
structure Amv (F:Nat)(lb:Array Value)(A:Option Addr)(n c:Nat)(xs:List Co)(As:Option Addr)(ns cs:Nat)(ss:List Snd)(k:Nat)(B:Nat)(J:Nat->(Nat->Prop)->World->Prop):Prop where
 hB:∀i T W,J i T W->B<=W.heap.size
 hlt:∀i T W,J i T W→∀b,T b->b<W.heap.size
 hst:∀i T W W',J i T W->Aj (fun b=>B<=b∧¬T b) W W'->J i T W'
 hnd:∀i T W,J i T W→∀b,T b→∀x,W.heap[b]? ≠some (.deferred x)
 hrd:∀i T W,J i T W->B4 W A n c xs/\Ad W As ns cs ss/\Cq W
 hy:∀i T W Af nf cf x At nt ct y,B7 (Ah xs) [] ss=0->k<=4->(Cr (Ah xs) ss k)[i]? =some (x,y)->Ad W Af nf cf x->Ad W At nt ct y->(∀ad,Af=some ad->B<=ad.block∧¬T ad.block)->(∀ad,At=some ad->B<=ad.block∧¬T ad.block)->J i T W→
  Calls Tryz.prog F (#[.slice Af nf cf, .slice At nt ct]++lb) W (fun e W''=>(∃v,e= .returned v)/\Aj T W W''∧∃T',J (i+1) T' W''∧∀b,T' b->T b\/W.heap.size<=b\/(0<nf∧∃ad,Af=some ad/\ad.block=b)\/(0<nt∧∃ad,At=some ad/\ad.block=b))
theorem Xu {ls:List Bg}{ss:List Snd}{n:Int}(h:B7 ls [] ss≠0):C3 ls ss n=B7 ls [] ss:=by unfold C3;rw[if_pos h]
theorem Td {ls:List Bg}{ss:List Snd}{n:Int}(h:B7 ls [] ss=0)(hn:n<0\/4<n):C3 ls ss n=3:=by unfold C3;rw[if_neg (by simpa using h),if_pos hn]
theorem Ah0 {ls:List Bg}{ss:List Snd}{n:Int}(h:B7 ls [] ss=0)(hn:¬(n<0\/4<n)):C3 ls ss n=0:=by unfold C3;rw[if_neg (by simpa using h),if_neg hn]
theorem U8 (A:Option Addr)(n c:Nat)(xs:List Co)(As:Option Addr)(ns cs:Nat)(ss:List Snd)(k:Int)(F:Nat)(lb:Array Value)(w:World)(J:Nat->(Nat->Prop)->World->Prop)(T0:Nat->Prop)
  (H:Amv F lb A n c xs As ns cs ss k.toNat w.heap.size J) (h0:J 0 T0 w) (hE:Enters Tryz.prog F):
  Calls Tryz.prog 112 #[.slice A n c, .slice As ns cs, .int .i64 k, .func (.func F) #[] lb] w fun e w'=>e= .returned (.int .i64 (C3 (Ah xs) ss k))∧∃i T,J i T w'/\(C3 (Ah xs) ss k=0->i=(Cr (Ah xs) ss k.toNat).length):=by
 obtain⟨q1,q2,q3⟩:=H.hrd _ _ _ h0;have f7:=H.hlt _ _ _ h0;have HX:=hI q1;have HS:=hI q2;have HT:=hI q3;have HU:=hI H;clear H;have H0:=hI h0;clear h0;have k3:=hI f7;clear f7;clear q1 q2 q3;unfold Enters at hE;refine(callsIn_wide (n:=9)).1 (callsIn_of_wp_marks Tryz.func112 rfl trivial ?_ rfl);simp only[Tryz.ntmps112,List.size_toArray,List.length_cons,List.length_nil,Nat.reduceAdd,Nat.reduceSub,Array.replicate_succ,Array.replicate_zero,List.push_toArray,List.append_toArray,List.nil_append,List.cons_append];gi_wp2;have k0:((w.alloc (.cells #[.slice A n c] 35)).alloc (.cells #[.func (.func F) #[] lb] 148)).heap[w.heap.size]? =some (.cells #[.slice A n c] 35 (0,0)):=hpt;have k1:((w.alloc (.cells #[.slice A n c] 35)).alloc (.cells #[.func (.func F) #[] lb] 148)).heap[w.heap.size+1]? =some (.cells #[.func (.func F) #[] lb] 148 (0,0)):=hpt;have kB:Below w.heap.size w ((w.alloc (.cells #[.slice A n c] 35)).alloc (.cells #[.func (.func F) #[] lb] 148)):=bel;generalize((w.alloc (.cells #[.slice A n c] 35)).alloc (.cells #[.func (.func F) #[] lb] 148))=V0 at*;refine⟨trivial, ?_⟩;refine(callsIn_wide.2 (Uw A n c xs none 0 0 [] As ns cs ss V0 (HX.out.below kB rr) (Bd.nil _ _) (HS.out.below kB rr))).mono ?_;rintro e w1 ⟨rfl,b4⟩;have K0:=hI ((b4.block _ (lt_of_block k0)).trans k0);have K1:=hI ((b4.block _ (lt_of_block k1)).trans k1);have d8:=hI (kB.trans (b4.mono kB.size));have m5:=lt_of_block K1.out;have a3:=hI (HU.out.hst _ _ _ _ H0.out (Bc d8.out));clear k0 k1 kB b4;obtain⟨er,d0⟩:∃er,er=B7 (Ah xs) [] ss:=⟨_,rfl⟩;rw[←d0];have b6:=hI d0;clear d0;by_cases h0:er=0
 case neg=>
  have h1:(er !=0)=true:=by simpa using h0
  have HM:Hid (C3 (Ah xs) ss k=er):=by show C3 _ _ _=_;rw[b6.out];exact Xu (by rw[←b6.out];exact h0)
  have g8:=hI h0;clear h0;gi_wp2;exact Gv (B:=w.heap.size) Tryz.results112 _ rfl trivial fun w' hw'=>⟨by rw[HM.out];rfl,0,T0,HU.out.hst _ _ _ _ a3.out (Eh hw' (HU.out.hnd _ _ _ a3.out)),fun h=>absurd (HM.out.symm.trans h) g8.out⟩
 have h1:(er !=0)=false:=by simpa using h0
 have k4:Hid (B1 ss=0):=(Dk (by rw[←b6.out];exact h0)).2.2;have d3:Hid (B7 (Ah xs) [] ss=0):=by show _=_;rw[←b6.out];exact h0
 clear h0;by_cases hr:k<0\/4<k
 case pos=>
  have HM:Hid (C3 (Ah xs) ss k=3):=Td d3.out hr;rcases hr with hr|hr
  ·gi_wp2;exact Gv (B:=w.heap.size) Tryz.results112 _ rfl trivial fun w' hw'=>⟨by rw[HM.out];rfl,0,T0,HU.out.hst _ _ _ _ a3.out (Eh hw' (HU.out.hnd _ _ _ a3.out)),fun h=>absurd (HM.out.symm.trans h) (by decide)⟩
  ·have i9:¬k<0:=by omega
   gi_wp2;exact Gv (B:=w.heap.size) Tryz.results112 _ rfl trivial fun w' hw'=>⟨by rw[HM.out];rfl,0,T0,HU.out.hst _ _ _ _ a3.out (Eh hw' (HU.out.hnd _ _ _ a3.out)),fun h=>absurd (HM.out.symm.trans h) (by decide)⟩
 have HM:Hid (C3 (Ah xs) ss k=0):=Ah0 d3.out hr;obtain⟨kn,b9⟩:∃kn:Nat,k=kn:=⟨k.toNat,by omega⟩;subst b9;have i9:¬(kn:Int)<0:=by omega
 have m6:¬(4:Int)<(kn:Int):=by omega
 simp only[Int.toNat_natCast]at HU a3 ⊢;gi_wp2;refine⟨trivial, ?_⟩;refine(callsIn_wide.2 (Afm As ns cs kn w1)).mono ?_;rintro e w2 ⟨rfl,k2,k1,b2,d5⟩;have KA:=hI k1;have KN:=hI k2;have a0:=hI b2;clear k1 k2 b2;gi_wp2;refine Dt (gf:=189) (lb:= #[.pointer (some ⟨w1.heap.size+1,0,none⟩), .pointer (some ⟨w1.heap.size,0,none⟩)]) rfl (enters_of Tryz.func189 (by kernel_rfl) rfl) fun fn D l rc W1 hrc hD hl hK2 hD1 hl1 hs2=> ?_
 have j2:=hI hrc;clear hrc;have m8:D<l:=by omega
 have g1:l<W1.heap.size:=by omega
 have m3:w1.heap.size+1<D:=by omega
 clear hs2 hD hl d5;have m1:=d8.out.size;have b0:Aj (fun _=>False) w1 W1:=(Bc a0.out).trans hK2;have m2:=b0.size;have k9:=hI b0;have k11:=(hK2.block _ (lt_of_block KN.out) (by simp)).trans KN.out;have k21:=(hK2.block _ (lt_of_block KA.out) (by simp)).trans KA.out;have k00:=(b0.block _ (lt_of_block K0.out) (by simp)).trans K0.out;have k01:=(b0.block _ (lt_of_block K1.out) (by simp)).trans K1.out;have i0:=hI (HU.out.hst _ _ _ _ a3.out (b0.mono fun _ h=>h.elim));have d6:Hid (∀b,T0 b->b<w.heap.size):=k3;have g9:=hI k11;have j6:=hI k21;have i6:=hI k00;have k5:=hI k01;have j1:=hI hD1;have i7:=hI hl1;clear b0 hK2 k11 k21 k00 k01 hD1 hl1;obtain⟨Mine,a6⟩:∃Mine:Nat->Prop,Mine=fun b=>w.heap.size<=b/\b<W1.heap.size:=⟨_,rfl⟩
 have a4:∀b,Mine b↔w.heap.size<=b/\b<W1.heap.size:=fun b=>by rw[a6]
 clear a6;have b7:=(a4 l).2 ⟨by omega,g1⟩;have g7:=(a4 D).2 ⟨by omega,by omega⟩;have j5:=(a4 w1.heap.size).2 ⟨by omega,by omega⟩;have i5:=(a4 (w1.heap.size+1)).2 ⟨by omega,by omega⟩;have i8:=(a4 w.heap.size).2 ⟨by omega,by omega⟩;have k6:=(a4 (w.heap.size+1)).2 ⟨by omega,by omega⟩;have b3:=hI a4;clear a4
 obtain⟨JJ,d9⟩:∃JJ:Nat->(Nat->Prop)->World->Prop,JJ=fun i T' X=>∃T1:Nat->Prop,T'=(fun b=>T1 b\/b=l)/\J (Cu (Ah xs) ((Bp (Ba ss) kn).take i)).length T1 X/\(∀b,Mine b→¬T1 b)/\(∀b,Mine b->b≠l->X.heap[b]? =W1.heap[b]?)∧
   X.heap[l]? =some (.loop (rc .ready none))/\W1.heap.size<=X.heap.size:=⟨_,rfl⟩
 have a5:=hI d9;clear d9;have d1:=Cg k4.out;have i1:Hid ss.Nodup:=d1.2.2;have g4:ns<=5:=by rw[←HS.out.len];exact d1.1
 clear d1;refine(Ts (9-1) l (w1.heap.size+1) w1.heap.size (by omega) As ns cs ss kn W1.heap.size W1 JJ (fun _=>False) (fun b=>T0 b\/b=l) ?hu ?h0 g4 (by omega) i1.out).mono ?_
 case h0=>
  rw[a5.out];exact⟨T0,rfl,i0.out,fun b hb h=>by have:=(b3.out b).1 hb;have:=d6.out b h;omega,fun b _ _=>rfl,i7.out,rr⟩
 case hu=>
  refine⟨?hB, ?hlt, ?hst, ?hrd, ?hy⟩
  case hB=>
   intro i T' X hx;rw[a5.out]at hx;obtain⟨T1,rfl,h1,h2,h3,h4,h5⟩:=hx;exact h5
  case hlt=>
   intro i T' X hx b hb;rw[a5.out]at hx;obtain⟨T1,rfl,h1,h2,h3,h4,h5⟩:=hx;rcases hb with hb|rfl
   ·exact HU.out.hlt _ _ _ h1 b hb
   ·exact lt_of_block h4
  case hst=>
   intro i T' X X' hx d2;rw[a5.out]at hx ⊢;obtain⟨T1,rfl,h1,h2,h3,h4,h5⟩:=hx;have ho:∀b,b<W1.heap.size->X'.heap[b]? =X.heap[b]? :=fun b hb=>d2.block b (by omega) (fun h=>by have:=h.1;omega)
   exact⟨T1,rfl,HU.out.hst _ _ _ _ h1 (d2.mono fun b hb=>⟨by have:=hb.1;omega,fun h=>hb.2 (.inl h)⟩),h2,fun b hb hne=>(ho b ((b3.out b).1 hb).2).trans (h3 b hb hne),(ho l g1).trans h4,Nat.le_trans h5 d2.size⟩
  case hrd=>
   intro i T' X hx;rw[a5.out]at hx;obtain⟨T1,rfl,h1,h2,h3,h4,h5⟩:=hx;exact⟨(h3 _ j5 (by omega)).trans j6.out,(h3 _ i5 (by omega)).trans g9.out,(HU.out.hrd _ _ _ h1).2.1⟩
  case hy=>
   intro i T' X A' c' x f5 f3 f0 hx;rw[a5.out]at hx;obtain⟨T1,rfl,h1,h2,h3,h4,h5⟩:=hx;refine Du j2.out h4 rfl ?_;have b8:=hI f5;clear f5;have j3:=hI f3;clear f3;have g6:=hI f0;clear f0;have j8:=hI h1;have b5:=hI h2;have g5:=hI h3;have g2:=hI h4;clear h1 h2 h3 h4;gi_wp2;refine⟨g2.out, ?_⟩;have p4:(X.putObj l (.loop (rc .busy none))).heap[l]? =some (.loop (rc .busy none)):=World.putObj_heap_same (lt_of_block g2.out);have pK:Aj (fun b=>b=l) X (X.putObj l (.loop (rc .busy none))):=(Aj.refl (fun b=>b=l) X).putObj rfl _;have pJ:J (Cu (Ah xs) ((Bp (Ba ss) kn).take i)).length T1 (X.putObj l (.loop (rc .busy none))):=HU.out.hst _ _ _ _ j8.out (pK.mono (fun b hb=>by subst hb;exact⟨by omega,b5.out _ b7⟩));have p3:∀b,Mine b->b≠l->(X.putObj l (.loop (rc .busy none))).heap[b]? =W1.heap[b]? :=fun b hb hne=>(World.putObj_heap_other hne).trans (g5.out b hb hne)
   have pw:Ad (X.putObj l (.loop (rc .busy none))) A' kn c' x:=j3.out.keep pK fun _ ad a2 e=>(g6.out ad a2).2 (.inr e)
   have ps:(X.putObj l (.loop (rc .busy none))).heap.size=X.heap.size:=by simp
   generalize X.putObj l (.loop (rc .busy none))=V at*;have k7:W1.heap.size<=V.heap.size:=by omega
   obtain⟨q1,q2,q3⟩:=HU.out.hrd _ _ _ pJ;have v0:=(p3 _ i8 (by omega)).trans i6.out;have v1:=(p3 _ k6 (by omega)).trans k5.out;have e0:=cell_of_one v0;have P4:=hI p4;have PK:=hI pK;have PJ:=hI pJ;have P3:=hI p3;have PW:=hI pw;have PS:=hI ps;have Q1:=hI q1;have Q3:=hI q3;have V1:=hI v1;clear p4 pK pJ p3 pw ps q1 q2 q3 v0 v1;gi_wp2;refine⟨trivial,rfl,(CallsIn.inRound l (callsIn_wide.2 (Aau A n c xs A' kn c' x V Q1.out PW.out Q3.out))).mono ?_⟩;rintro e V2 ⟨A2,n2,c2,rfl,g0,b2,a7⟩;have j0:=hI g0;have a0:=hI b2;have i3:=hI a7;clear g0 b2 a7
   have f4:Hid (∀(Y:World) (T2:Nat->Prop),J (Cu (Ah xs) ((Bp (Ba ss) kn).take (i+1))).length T2 Y->Aj T1 V Y->(∀b,T2 b->T1 b\/V.heap.size<=b)→
     Y.heap[l]? =some (.loop (rc .busy none))∧∃T'',JJ (i+1) T'' (Y.putObj l (.loop (rc .ready none)))/\Aj (fun b=>T1 b\/b=l) X (Y.putObj l (.loop (rc .ready none)))∧∀b,T'' b->(fun b=>T1 b\/b=l) b\/X.heap.size<=b):=by
    intro Y T2 y1 y2 y3;have m4:=y2.size;have m7:=PS.out
    have d7:∀b,Mine b→¬T2 b:=fun b hb h=>by
     rcases y3 b h with h|h
     ·exact b5.out b hb h
     ·have:=((b3.out b).1 hb).2;omega
    have j7:l<Y.heap.size:=by omega
    refine⟨(y2.block l (by omega) (b5.out _ b7)).trans P4.out,fun b=>T2 b\/b=l, ?_, ?_,fun b h=> ?_⟩
    ·rw[a5.out];refine⟨T2,rfl,HU.out.hst _ _ _ _ y1 (((Aj.refl (fun b=>b=l) Y).putObj rfl _).mono fun b hb=>by subst hb;exact⟨by omega,d7 _ b7⟩),d7,fun b hb hne=> ?_,World.putObj_heap_same j7,by simp;omega⟩
     have m0:=((b3.out b).1 hb).2;exact(World.putObj_heap_other hne).trans ((y2.block b (by omega) (b5.out b hb)).trans (P3.out b hb hne))
    ·exact((PK.out.mono fun _ h=> .inr h).trans (y2.mono fun _ h=> .inl h)).putObj (.inr rfl) _
    ·rcases h with h|h
     ·rcases y3 b h with h|h
      ·exact .inl (.inl h)
      ·exact .inr (by omega)
     ·exact .inl (.inr h)
   have c1:=cell_of_one ((a0.out.block _ (lt_of_block V1.out)).trans V1.out);have b9:kn<=4096:=by omega
   by_cases hd0:(Bm (Ah xs) x).1=0
   ·have j4:=hI (Kr b8.out hd0)
    have j9:Hid ((Cr (Ah xs) ss kn)[(Cu (Ah xs) ((Bp (Ba ss) kn).take i)).length]? =some (x,(Bm (Ah xs) x).2)):=by
     show _=_;rw[Ab7];exact Aeh b8.out hd0
    gi_wp2;refine Gr (fun W'=>W'.cell? ⟨w.heap.size+1,0,none⟩=some (.func (.func F) #[] lb)) (by kernel_rfl) (by kernel_rfl) (fun _ _ h=>by exact h) c1 (fun hHeld=> ?_)
    (refine' Aa 0 rfl ?_;(try simp only[Act.put,nY,nX]));(refine' Aa 1 rfl ?_;(try simp only[Act.put,nY,nX]));(refine' Aa 3 rfl ?_;(try simp only[Act.put,nY,nX]))
    (refine Aqq 2 rfl (fun K' hK'=> ?_);simp only[nY];go_simp)
    refine(Ml A' kn c' x _ (PW.out.below (B:=V.heap.size) (a0.out.trans ((Below.refl V2.heap.size V2).drew.mono a0.out.size)) rr) b9).mono ?_;rintro e w3 ⟨A3,n3,c3,rfl,f6,f8,b1⟩;have a1:Below V2.heap.size V2 w3:=(Below.refl V2.heap.size V2).drew.trans f8;refine hK' _ _ ⟨.inr (cell_of_one ((a1.block _ (lt_of_block ((a0.out.block _ (lt_of_block V1.out)).trans V1.out))).trans ((a0.out.block _ (lt_of_block V1.out)).trans V1.out))),fun _=> ?_⟩
    clear hK' K'
    (try simp only[Act.put,nY,nX])
    (refine Aqq 4 rfl (fun K' hK'=> ?_);simp only[nY];go_simp)
    have f9:V2.drew.heap.size=V2.heap.size:=rfl;rw[f9]at b1;have d5:=a0.out.size;have k8:=a1.size;have a9:=HU.out.hlt _ _ _ PJ.out;have a8:=a0.out.trans (a1.mono d5);have a7:=i3.out
    refine(HU.out.hy _ T1 w3 A3 n3 c3 x A2 n2 c2 (Bm (Ah xs) x).2 d3.out (by omega) j9.out f6 (j0.out.below a1 rr) (fun ad a2=>⟨by have:=b1 ad a2;omega,fun h=>by have:=b1 ad a2;have:=a9 _ h;omega⟩)
     (fun ad a2=>⟨by have:=a7 ad a2;omega,fun h=>by have:=a7 ad a2;have:=a9 _ h;omega⟩) (HU.out.hst _ _ _ _ PJ.out (Bc a8))).mono ?_
    rintro e W6 ⟨⟨v,rfl⟩,g3,T6,f2,f1⟩
    obtain⟨z0,T7,z1,z2,z3⟩:=f4.out W6 T6 (by rw[j4.out,List.length_append];exact f2) (Aj.trans (Bc a8) g3) (fun b h=>by
     rcases f1 b h with h|h|⟨_,ad,a2,h⟩|⟨_,ad,a2,h⟩
     ·exact .inl h
     ·exact .inr (by omega)
     ·exact .inr (by have:=b1 ad a2;omega)
     ·exact .inr (by have:=a7 ad a2;omega))
    have Z:=hI (And.intro z0 (And.intro z1 (And.intro z2 z3)));clear z0 z1 z2 z3 g3 f2 f1 a7 b1 f6 f8 a1 a8 a9 f9;refine hK' _ _ ⟨.inl (by kernel_rfl),fun _=>Be (by kernel_rfl) ?_ _⟩
    clear hK' K' hHeld;gi_wp2;exact⟨Z.out.1,rfl,T7,Z.out.2.1,Z.out.2.2.1,Z.out.2.2.2⟩
   ·have i4:((Bm (Ah xs) x).1==0)=false:=by simpa using hd0
    have i2:=hI (Pn b8.out hd0);clear hd0;gi_wp2;obtain⟨z0,T7,z1,z2,z3⟩:=f4.out V2 T1 (by rw[i2.out];exact HU.out.hst _ _ _ _ PJ.out (Bc a0.out)) (Bc a0.out) (fun b h=> .inl h);exact⟨z0,rfl,T7,z1,z2,z3⟩
 rintro e W' ⟨⟨v,rfl⟩,⟨T9,hj⟩|hx⟩
 ·rw[a5.out]at hj;obtain⟨T1,rfl,h1,h2,h3,h4,h5⟩:=hj;refine .inl ⟨h4, ?_⟩
  have d4:Hid ((Cu (Ah xs) ((Bp (Ba ss) kn).take (Bp (Ba ss) kn).length)).length=(Cr (Ah xs) ss kn).length):=by
   show _=_;rw[Ab8,Ab7]
  have x1:J (Cr (Ah xs) ss kn).length T1 (W'.putObj l (.loop (rc .exhausted none))):=by
   rw[←d4.out];exact HU.out.hst _ _ _ _ h1 (((Aj.refl (fun b=>b=l) W').putObj rfl _).mono fun b hb=>by subst hb;exact⟨by omega,h2 _ b7⟩)
  have xD:=((World.putObj_heap_other (w:=W') (r:=l) (o:= .loop (rc .exhausted none)) (show D≠l by omega)).trans (h3 D g7 (by omega))).trans j1.out;generalize W'.putObj l (.loop (rc .exhausted none))=X at*;have X1:=hI x1;have XD:=hI xD;clear x1 xD h1 h2 h3 h4 h5;gi_wp2;have hM:Dd w.heap.size X [Ft D]:=⟨D,rfl,by omega,XD.out,by simp,trivial⟩;exact Gv (B:=w.heap.size) Tryz.results112 _ rfl hM fun w' hw'=>⟨by rw[HM.out];rfl,_,⟨T1,HU.out.hst _ _ _ _ X1.out (Eh hw' (HU.out.hnd _ _ _ X1.out))⟩,fun _=>rfl⟩
 ·exact hx.elim
end Go.Proofs.YtlgliddhideflaaGreatDoor
namespace Go.Proofs.YtlgliddhideflaaGreatDoor
open Go.RowKit Go.Shelf
theorem Aay {S:Nat->Prop}{w w':World}{A:Option Addr}{n c sz:Nat}{vs:List Value}(h:Bd w A n c sz vs)(hk:Aj S w w')(hS:0<n→∀ad,A=some ad→¬S ad.block):Bd w' A n c sz vs:=by
 obtain⟨h1,h2,h3,h4,h5⟩:=h;refine⟨h1,h2,h3,h4,fun hn=> ?_⟩
 obtain⟨b,off,rfl,a0,hc⟩:=h5 hn;have hb:=hk.block b a0 (hS hn _ rfl);exact⟨b,off,rfl,Nat.lt_of_lt_of_le a0 hk.size,fun j v hv=>(World.cell?_of_block hb).trans (hc j v hv)⟩
def Nz (L:List (List Snd×List Snd)):Nat:=(L.filter fun p=>decide (p.1=p.2)).length
theorem Aif {L:List (List Snd×List Snd)}{i:Nat}{x y:List Snd}(h:L[i]? =some (x,y))(e:x=y):Nz (L.take (i+1))=Nz (L.take i)+1:=by
 unfold Nz;rw[Bb L i _ h,List.filter_append,List.filter_cons_of_pos (by simpa using e)];simp
theorem Ali {L:List (List Snd×List Snd)}{i:Nat}{x y:List Snd}(h:L[i]? =some (x,y))(e:¬x=y):Nz (L.take (i+1))=Nz (L.take i):=by
 unfold Nz;rw[Bb L i _ h,List.filter_append,List.filter_cons_of_neg (by simpa using e)];simp
theorem Alj (L:List (List Snd×List Snd)):Nz L<=L.length:=List.length_filter_le _ _
theorem Qb {ls:List Bg}{ss:List Snd}{n:Nat}(hd:ss.Nodup)(h5:ss.length<=5)(hn:n<=4):(Cr ls ss n).length<=625:=by
 have h1:(Cr ls ss n).length<=(Bp (Ba ss) n).length:=by
  unfold Cr;rw[List.length_map];exact List.length_filter_le _ _
 rw[Hk,Fk hd]at h1;have h2:ss.length^n<=5^4:=Nat.le_trans (Nat.pow_le_pow_left h5 n) (Nat.pow_le_pow_right (by omega) hn);omega
theorem Aig (Af:Option Addr)(nf cf:Nat)(x:List Snd)(At:Option Addr)(nt ct:Nat)(y:List Snd)(bc m:Nat)(w:World)(hx:Ad w Af nf cf x)(hy:Ad w At nt ct y)
  (hc:w.heap[bc]? =some (.cells #[.int .i64 m] 3 (0,0))) (hm:m<1000000):
  Calls Tryz.prog 128 (#[.slice Af nf cf, .slice At nt ct]++ #[.pointer (some ⟨bc,0,none⟩)]) w fun e w'=>(∃v,e= .returned v)/\Aj (fun b=>b=bc) w w'∧
   w'.heap[bc]? =some (.cells #[.int .i64 (if x=y then m+1 else m:Nat)] 3 (0,0)):=by
 have a3:=lt_of_block hc;have HX:=hI hx;have HY:=hI hy;have HC:=hI hc;clear hx hy hc;go_enter Tryz.func128,Tryz.ntmps128;go_wp2_with fail;refine(Pu Af At nf nt cf ct x y w HX.out HY.out).mono ?_;rintro e w1 ⟨rfl,a1⟩;have k1:=(a1.block _ a3).trans HC.out;have c1:=cell_of_one k1;have f1:=free_of_one k1;have K1:=hI k1;have a2:=hI a1;clear k1 a1;by_cases e:x=y
 ·rw[decide_eq_true e];have HE:=hI e;clear e;go_wp2;refine bodyPost_end (results_none rfl _ _ _) rfl ?_;have a0:((m:Int)+1)=((m+1:Nat):Int):=by omega
  rw[a0];exact⟨⟨_,rfl⟩,Aj.setCell (S:=fun b=>b=bc) (Bc a2.out) (p:=⟨bc,0,none⟩) rfl _,one_setCell K1.out⟩
 ·rw[decide_eq_false e];have HE:=hI e;clear e;go_wp2;refine bodyPost_end (results_none rfl _ _ _) rfl ?_;exact⟨⟨_,rfl⟩,Bc a2.out,K1.out⟩
structure FxW (bc:Nat)(W1:World)(m:Nat)(T:Nat->Prop)(W:World):Prop where
 tw:T=fun b=>b=bc
 lt:bc<W1.heap.size
 cn:W.heap[bc]? =some (.cells #[.int .i64 m] 3 (0,0))
 kp:Aj (fun b=>b=bc) W1 W
theorem FxW.keep {bc:Nat}{W1:World}{m:Nat}{T:Nat->Prop}{W W':World}(h:FxW bc W1 m T W)(hk:Aj (fun b=>W1.heap.size<=b∧¬T b) W W'):FxW bc W1 m T W':=by
 obtain⟨h1,h2,h3,h4⟩:=h;have ho:∀b,b<W1.heap.size->W'.heap[b]? =W.heap[b]? :=fun b hb=>hk.block b (by have:=h4.size;omega) (fun h=>by omega)
 exact⟨h1,h2,(ho _ h2).trans h3,((h4.mono (S':=fun b=>b=bc\/W1.heap.size<=b) fun _ e=> .inl e).trans (hk.mono fun _ e=> .inr e.1)).old fun b hb e=>e.resolve_right (by omega)⟩
theorem Ae1 (x:Co)(As:Option Addr)(ns cs:Nat)(ss:List Snd)(k:Int)(w:World)(hx:Cv w x.l x.a)(hs:Ad w As ns cs ss)(hT:Cq w):
  Calls Tryz.prog 51 #[C8 x.l x.a, .slice As ns cs, .int .i64 k] w fun e w'=>e= .returned (.tuple #[.int .i64 (Fg x.l ss k).2, .int .i64 (Fg x.l ss k).1])/\Below w.heap.size w w':=by
 have HX:=hI hx;have HS:=hI hs;have HT:=hI hT;clear hx hs hT;obtain⟨Wb,d2,b0,b1,a1,b7⟩:=De w x.l x.a;have a8:Below w.heap.size w (Wb.alloc (.cells #[.int .i64 0] 3)):=a1.alloc a1.size _;have HL:=hI (HX.out.below a8 rr);go_enter Tryz.func51,Tryz.ntmps51;go_wp2_with(first|(refine Cn rfl (.tmp 3) rfl w.heap.size x.l x.a rfl ((Am b1).trans b0) ?_)|(refine Vp rfl (.tmp 10) rfl x rfl HL.out ?hk))
 case hk=>
  intro X a5 hb d3 _;have hB:Below w.heap.size w X:=a8.trans (hb.mono (by have:=a1.size;omega));have a3:X.heap[Wb.heap.size]? =some (.cells #[.int .i64 0] 3 (0,0)):=(hb.block _ (by simp)).trans (Ak rfl);clear hb a8;obtain⟨bc,b2⟩:∃bc,bc=Wb.heap.size:=⟨_,rfl⟩;rw[←b2]at a5 d3 a3 ⊢;have d7:w.heap.size<=bc:=by have:=a1.size;omega
  clear b2 b0 b1 a1 b7 d2;have HB:=hI hB;have a9:=hI a5;have b4:=hI a3;clear hB a5 a3;go_wp2_with fail;refine(U8 (some ⟨bc+1,0,none⟩) 1 1 [x] As ns cs ss k 128 #[.pointer (some ⟨bc,0,none⟩)] X (fun i T W=>FxW bc X (Nz ((Cr [x.l] ss k.toNat).take i)) T W) (fun b=>b=bc) ?hu ?h0 (enters_of Tryz.func128 (by kernel_rfl) rfl)).mono ?_
  case h0=>exact⟨rfl,by omega,b4.out,Aj.refl _ _⟩
  case hu=>
   have b6:∀X',Aj (fun b=>b=bc) X X'->B4 X' (some ⟨bc+1,0,none⟩) 1 1 [x]/\Ad X' As ns cs ss/\Cq X':=by
    intro X' h;have a6:Below w.heap.size w X':=HB.out.trans (h.to_below (B:=w.heap.size) (fun b hb=>by omega) HB.out.size);refine⟨⟨⟨Aay a9.out.1.1 h (fun _ ad e hh=>by injection e with e;subst e;simp at hh),a9.out.1.2⟩,fun y hy=> ?_⟩,HS.out.below a6 rr,HT.out.below a6 rr⟩
    obtain rfl:y=x:=by simpa using hy
    exact HX.out.below a6 rr
   refine⟨fun i T W h=>h.kp.size,fun i T W h b hb=> ?hlt,fun i T W W' h hk=>h.keep hk,fun i T W h b hb v e=> ?hnd,fun i T W h=>b6 W h.kp, ?hy⟩
   case hlt=>
    rw[h.tw]at hb;have h1:=h.lt;have h2:=h.kp.size;have d5:b=bc:=hb;omega
   case hnd=>
    rw[h.tw]at hb;obtain rfl:b=bc:=hb;rw[h.cn]at e;cases e
   case hy=>
    intro i T W Af nf cf u At nt ct y hr b9 a0 d1 d0 d4 d6 h;have a0:(Cr [x.l] ss k.toNat)[i]? =some (u,y):=a0;have hr:=(Dk hr).2.2;have b5:=Qb (ls:=[x.l]) (Cg hr).2.2 (Cg hr).1 b9;have hi:i<(Cr [x.l] ss k.toNat).length:=(List.getElem?_eq_some_iff.1 a0).1;have hm:Nz ((Cr [x.l] ss k.toNat).take i)<=i:=Nat.le_trans (Alj _) (by rw[List.length_take];omega);refine(Aig Af nf cf u At nt ct y bc _ W d1 d0 h.cn (by omega)).mono ?_;rintro e W'' ⟨hv,hK,hc⟩;have hT:=h.tw;refine⟨hv,by rw[hT];exact hK,T,⟨hT,h.lt, ?_,h.kp.trans hK⟩,fun b hb=> .inl hb⟩
    rw[hc];by_cases hu:u=y
    ·rw[if_pos hu,Aif a0 hu]
    ·rw[if_neg hu,Ali a0 hu]
  rintro e w2 ⟨rfl,i,T,hJ,hi⟩;have a2:Below w.heap.size w w2:=HB.out.trans (hJ.kp.to_below (B:=w.heap.size) (fun b hb=>by omega) HB.out.size);have c2:=cell_of_one hJ.cn;obtain⟨er,a4⟩:∃er,er=C3 [x.l] ss k:=⟨_,rfl⟩;have b8:Ah [x]=[x.l]:=rfl;rw[b8]at hi ⊢;rw[←a4]at hi ⊢;have b3:=hI a4;clear a4;by_cases h0:er=0
  ·have h1:(er !=0)=false:=by simpa using h0
   have HM:Hid (Fg x.l ss k=(0,((Nz ((Cr [x.l] ss k.toNat).take i):Nat):Int))):=by
    show _=_;unfold Fg;rw[←b3.out,if_neg (by simpa using h0),hi h0,List.take_length];rfl
   have a7:=hI a2;clear h0 hi hJ a2;go_wp2;exact bodyPost_ret (results_tmp2 Tryz.results51 _ _ _) rfl ⟨by rw[HM.out];rfl,a7.out⟩
  ·have h1:(er !=0)=true:=by simpa using h0
   have HM:Hid (Fg x.l ss k=(er,0)):=by
    show _=_;unfold Fg;rw[←b3.out,if_pos h0]
   have a7:=hI a2;clear h0 hi hJ a2 c2;go_wp2;exact bodyPost_ret (results_tmp2 Tryz.results51 _ _ _) rfl ⟨by rw[HM.out];rfl,a7.out⟩
theorem Aim (b7:Nat)(E:Nat->Prop)(W1:World)(vw:Value)(ps:List Part)(Af:Option Addr)(nf cf:Nat)(At:Option Addr)(nt ct:Nat)(y:List Snd)(w:World)(h:Ja b7 E W1 vw ps w)(hy:Ad w At nt ct y)
  (hf:∀ad,At=some ad->W1.heap.size<=ad.block∧¬Lg b7 E vw ps ad.block) (hl:ps.length<=4000):
  Calls Tryz.prog 113 (#[.slice Af nf cf, .slice At nt ct]++ #[.pointer (some ⟨b7,0,none⟩)]) w fun e X=>(∃v,e= .returned v)∧∃vw',Ja b7 E W1 vw' (ps++[(At,nt,ct,y)]) X/\Aj (Lg b7 E vw ps) w X∧
   ∀k,Lg b7 E vw' (ps++[(At,nt,ct,y)]) k->Lg b7 E vw ps k\/w.heap.size<=k\/(0<nt∧∃ad,At=some ad/\ad.block=k):=by
 have c7:=cell_of_one h.c7;have a3:W1.heap.size<=w.heap.size:=h.kp.size;have h7:=lt_of_block h.c7;have a4:=h.lt.1;obtain⟨A7,k7,rfl⟩:=Bh h.o7;have HC:=hI h;have HY:=hI hy;have HF:=hI hf;clear h hy hf;go_enter Tryz.func113,Tryz.ntmps113;go_wp2_with(at_builtin;refine Jo rfl (.tmp 5) (.tmp 7) rfl W1.heap.size (.slice A7 ps.length k7) ps.length (ps.map Part.val) rfl (HC.out.o7.alloc _) ⟨w.heap.size,0,none⟩ 1 (.slice At nt ct) rfl (cell_one_new _ _ _) rfl (by omega) ?hz2 ?hc2)
 case hz2=>simp;omega
 case hc2=>
  intro vw' X2 a0 hg a1;obtain⟨A9,k9,rfl⟩:=Bh a0;have a2:some b7≠(Value.slice A7 ps.length k7).ownBlock:=fun e=>by have:=(HC.out.o7.lt b7 e.symm).1;omega
  have x7:=(hg.block b7 (by simp;omega) a2).trans ((Am h7).trans HC.out.c7);have c7':=cell_of_one x7;have f7':=free_of_one x7;obtain⟨p1,p2,p3⟩:=HC.out.push (Below.refl _ _) HY.out HF.out a0 hg (by rw[World.size_alloc];exact a1);have P1:=hI p1;have P2:=hI p2;have P3:=hI p3;clear p1 p2 p3 a0 hg a1 x7 c7;go_wp2;refine bodyPost_end (results_none rfl _ _ _) rfl ?_;exact⟨⟨_,rfl⟩,_,P1.out,P2.out,P3.out⟩
theorem Wx (x:Int)(w:World):Calls Tryz.prog 164 #[.int .i64 x] w fun e w'=>e= .returned (.bool false)/\w'=w:=by
 go_enter Tryz.func164,Tryz.ntmps164;go_wp2;go_ret;simp
theorem An3 (x y:Int)(w:World):Calls Tryz.prog 117 #[.int .i64 x, .int .i64 y] w fun e w'=>e= .returned (.int .i64 (F6 x y))/\w'=w:=by
 go_enter Tryz.func117,Tryz.ntmps117;by_cases h1:x<y
 ·have h2:F6 x y= -1:=by unfold F6;rw[if_pos h1]
  rw[h2];go_wp2_with(go_at_call 164;refine(Wx _ _).mono ?_;rintro e w1 ⟨rfl,rfl⟩);go_ret;exact⟨rfl,rfl⟩
 ·by_cases h2:y<x
  ·have h3:F6 x y=1:=by unfold F6;rw[if_neg h1,if_pos h2]
   rw[h3];go_wp2_with(go_at_call 164;refine(Wx _ _).mono ?_;rintro e w1 ⟨rfl,rfl⟩);go_ret;exact⟨rfl,rfl⟩
  ·have h3:F6 x y=0:=by unfold F6;rw[if_neg h1,if_neg h2]
   rw[h3];go_wp2_with(go_at_call 164;refine(Wx _ _).mono ?_;rintro e w1 ⟨rfl,rfl⟩);go_ret;exact⟨rfl,rfl⟩
theorem Amh (p m p' m':Int)(w:World):Calls Tryz.prog 166 #[C6 p m,C6 p' m'] w fun e w'=>e= .returned (.int .i64 (Js (p,m) (p',m')))/\Fb w w':=by
 go_enter Tryz.func166,Tryz.ntmps166;go_wp2_with fail;obtain⟨W,hW⟩:∃W,W=(w.alloc (.cells #[.int .u32 p, .int .u32 m] 24)).alloc (.cells #[.int .u32 p', .int .u32 m'] 24):=⟨_,rfl⟩;have hG:Fb w W:=by rw[hW];exact((Fb.refl w).alloc _).alloc _
 have k0:W.heap[w.heap.size]? =some (.cells #[.int .u32 p, .int .u32 m] 24 (0,0)):=by rw[hW];exact hpt
 have k1:W.heap[w.heap.size+1]? =some (.cells #[.int .u32 p', .int .u32 m'] 24 (0,0)):=by rw[hW];exact hpt
 rw[←hW];clear hW
 have hS:W.drew.cell? ⟨w.heap.size,0,none⟩=some (.int .u32 p)/\W.drew.cell? ⟨w.heap.size,1,none⟩=some (.int .u32 m)/\W.drew.cell? ⟨w.heap.size+1,0,none⟩=some (.int .u32 p')/\W.drew.cell? ⟨w.heap.size+1,1,none⟩=some (.int .u32 m'):=
  ⟨Ab k0 rfl,Ab k0 rfl,Ab k1 rfl,Ab k1 rfl⟩
 have a0:w.heap.size<W.heap.size/\w.heap.size+1<W.heap.size:=⟨lt_of_block k0,lt_of_block k1⟩;generalize w.heap.size=b0 at*;refine Bj (fun W'=>W'.cell? ⟨b0,0,none⟩=some (.int .u32 p)/\W'.cell? ⟨b0,1,none⟩=some (.int .u32 m)/\W'.cell? ⟨b0+1,0,none⟩=some (.int .u32 p')/\W'.cell? ⟨b0+1,1,none⟩=some (.int .u32 m')) (by kernel_rfl) hS (fun hHeld=> ?_)
 (refine' Aa 0 rfl ?_;(try simp only[Act.put,nY,nX]));(refine' Aa 1 rfl ?_;(try simp only[Act.put,nY,nX]));(refine' Aa 2 rfl ?_;(try simp only[Act.put,nY,nX]));(refine' Aa 3 rfl ?_;(try simp only[Act.put,nY,nX]));(refine' Aa 5 rfl ?_;(try simp only[Act.put,nY,nX]));(refine' Aa 6 rfl ?_;(try simp only[Act.put,nY,nX]));(refine' Aa 7 rfl ?_;(try simp only[Act.put,nY,nX]));(refine' Aa 8 rfl ?_;(try simp only[Act.put,nY,nX]))
 (refine Aqq 4 rfl (fun K' hK'=> ?_);simp only[nY];go_simp)
 refine(Zc p p' W.drew).mono ?_;rintro e w1 ⟨rfl,rfl⟩;refine hK' _ _ ⟨.inr hS,fun _=> ?_⟩
 clear hK' K'
 (try simp only[Act.put,nY,nX])
 (refine Aqq 9 rfl (fun K' hK'=> ?_);simp only[nY];go_simp)
 refine(Zc m m' W.drew).mono ?_;rintro e w1 ⟨rfl,rfl⟩;refine hK' _ _ ⟨.inr hS,fun _=> ?_⟩
 clear hK' K'
 (try simp only[Act.put,nY,nX])
 (refine Aqq 10 rfl (fun K' hK'=> ?_);simp only[nY];go_simp)
 refine hK' _ _ ⟨.inr ⟨(Bn (by simpa using a0.1)).trans hS.1,(Bn (by simpa using a0.1)).trans hS.2.1,(Bn (by simpa using a0.2)).trans hS.2.2.1,(Bn (by simpa using a0.2)).trans hS.2.2.2⟩,fun _=> ?_⟩
 clear hK' K'
 (try simp only[Act.put,nY,nX])
 (refine Aqq 11 rfl (fun K' hK'=> ?_);simp only[nY];go_simp)
 refine(Aht (F6 p p') (F6 m m') W.heap.size (W.drew.alloc (.cells #[.int .i64 (F6 p p'), .int .i64 (F6 m m')] 3)) (Cd (w:=W.drew) rfl) (Cd (w:=W.drew) rfl)).mono ?_;rintro e w1 ⟨rfl,rfl⟩;refine hK' _ _ ⟨.inr ⟨(Bn (by simpa using a0.1)).trans hS.1,(Bn (by simpa using a0.1)).trans hS.2.1,(Bn (by simpa using a0.2)).trans hS.2.2.1,(Bn (by simpa using a0.2)).trans hS.2.2.2⟩,fun _=> ?_⟩
 clear hK' K'
 (try simp only[Act.put,nY,nX])
 (refine Aqq 12 rfl (fun K' hK'=> ?_);simp only[nY];go_simp)
 refine hK' _ _ ⟨.inl (by kernel_rfl),fun _=>Be (by kernel_rfl) ?_ _⟩
 clear hK' K';go_wp2;go_ret;exact⟨rfl,(hG.drew).alloc _⟩
def Lw:List Snd->List Snd->Int
 |[],[]=>0
 |[],_::_=> -1
 |_::_,[]=>1
 |x::a,y::b=>if Js x y≠0 then Js x y else Lw a b
theorem U3 {α:Type}{l:List α}{j:Nat}{x:α}(h:l[j]? =some x):l.drop j=x::l.drop (j+1):=by
 obtain⟨hj,rfl⟩:=List.getElem?_eq_some_iff.1 h;exact List.drop_eq_getElem_cons hj
theorem An4 (A:Option Addr)(n c:Nat)(xs:List Snd)(A':Option Addr)(n' c':Nat)(ys:List Snd)(w:World)(hx:Ad w A n c xs)(hy:Ad w A' n' c' ys):
  Calls Tryz.prog 165 #[.slice A n c, .slice A' n' c', .func (.func 166) #[] #[]] w fun e w'=>e= .returned (.int .i64 (Lw xs ys))/\Fb w w':=by
 have a9:Hid (xs.length=n):=hx.len;have a5:Hid (ys.length=n'):=hy.len;have HX:=hI hx;have HY:=hI hy;have b9:=hx.max;have d0:=hy.max;clear hx hy;go_enter Tryz.func165,Tryz.ntmps165;go_wp2
 go_loopw [13] (fun vi wr=>∃j:Nat,vi= .int .i64 j/\j<=n/\j<=n'/\Hid (Lw xs ys=Lw (xs.drop j) (ys.drop j))/\Hid (Fb w wr)) (fun vi _=>n-(intOf vi).toNat)
 case atStart=>exact⟨0,rfl,Nat.zero_le _,Nat.zero_le _,rfl,Fb.refl _⟩
 case round=>
  obtain⟨j,rfl,hj,b8,HO,HG⟩:=hrel;by_cases hlt:(j:Int)<(n:Int)
  ·have a8:j<n:=by omega
   obtain⟨b,off,p,m,rfl,b3,hs,b6,b4⟩:=(HX.out.below HG.out.b rr).at_ a8;have HS:=hI hs;clear hs;by_cases hge:(n':Int)<=(j:Int)
   ·go_wp2;go_ret
    have HV:Hid (Lw xs ys=1):=by
     show _=_;rw[HO.out,U3 HS.out,List.drop_of_length_le (l:=ys) (by rw[a5.out];omega)];rfl
    exact⟨by rw[HV.out];rfl,HG.out.alloc _⟩
   ·have a2:j<n':=by omega
    have b2:Hid (Fb w (wr.alloc (.cells #[.int .u32 p, .int .u32 m] 24))):=HG.out.alloc _;obtain⟨b',off',p',m',rfl,a3,b1,a6,a4⟩:=(HY.out.below b2.out.b rr).at_ a2;have b5:=hI b1;clear b1;go_wp2_with fail;refine(Amh p m p' m' _).mono ?_;rintro e w2 ⟨rfl,b0⟩;have a1:Hid (Fb w w2):=(b2.out.alloc _).trans b0;clear b0 b6 b4 a6 a4 b3 a3;obtain⟨q,hq⟩:∃q,q=Js (p,m) (p',m'):=⟨_,rfl⟩;rw[←hq]
    have a0:Hid (Lw xs ys=if q≠0 then q else Lw (xs.drop (j+1)) (ys.drop (j+1))):=by
     show _=_;rw[HO.out,U3 HS.out,U3 b5.out,hq];rfl
    clear hq;by_cases hq0:q=0
    ·subst hq0
     have a7:Hid (Lw xs ys=Lw (xs.drop (j+1)) (ys.drop (j+1))):=by
      show _=_;rw[a0.out];rfl
     clear a0;go_wp2
     go_roundw
     case rel=>first|exact⟨j+1,by go_num,by omega,by omega,a7,a1⟩|((repeat apply Exists.intro);exact⟨⟨j+1,by go_num,by omega,by omega,a7,a1⟩,rfl⟩)
     case measure=>simp[intOf];omega
    ·have b7:(q !=0)=true:=by simpa using hq0
     have HV:Hid (Lw xs ys=q):=by show _=_;rw[a0.out,if_pos hq0]
     clear hq0 a0;go_wp2;go_ret;exact⟨by rw[HV.out];rfl,a1.out⟩
  ·have a8:j=n:=by omega
   by_cases hnn:(n:Int)<(n':Int)
   ·have HV:Hid (Lw xs ys= -1):=by
     show _=_;obtain⟨y,hy⟩:∃y,ys[j]? =some y:=⟨ys[j]'(by rw[a5.out];omega),List.getElem?_eq_getElem _⟩;rw[HO.out,U3 hy,List.drop_of_length_le (l:=xs) (by rw[a9.out];omega)];rfl
    go_wp2;go_ret;exact⟨by rw[HV.out];rfl,HG.out⟩
   ·have HV:Hid (Lw xs ys=0):=by
     show _=_;rw[HO.out,List.drop_of_length_le (l:=xs) (by rw[a9.out];omega),List.drop_of_length_le (l:=ys) (by rw[a5.out];omega)];rfl
    go_wp2;go_ret;exact⟨by rw[HV.out];rfl,HG.out⟩
theorem An5 (A:Option Addr)(n c:Nat)(xs:List Snd)(A':Option Addr)(n' c':Nat)(ys:List Snd)(w:World)(hx:Ad w A n c xs)(hy:Ad w A' n' c' ys):
  Calls Tryz.prog 118 #[.slice A n c, .slice A' n' c'] w fun e w'=>e= .returned (.int .i64 (Lw xs ys))/\Fb w w':=by
 have HX:=hI hx;have HY:=hI hy;clear hx hy;go_enter Tryz.func118,Tryz.ntmps118;go_wp2_with fail;refine(An4 A n c xs A' n' c' ys w HX.out HY.out).mono ?_;rintro e w1 ⟨rfl,hg⟩;go_wp2;go_ret;exact⟨rfl,hg⟩
def Wy (xs ys:List Snd):Int:=orI (F6 xs.length ys.length) (Lw xs ys)
theorem Ak0 (A:Option Addr)(n c:Nat)(xs:List Snd)(A':Option Addr)(n' c':Nat)(ys:List Snd)(w:World)(hx:Ad w A n c xs)(hy:Ad w A' n' c' ys):
  Calls Tryz.prog 115 #[.slice A n c, .slice A' n' c'] w fun e w'=>e= .returned (.int .i64 (Wy xs ys))/\Fb w w':=by
 have hm:F6 (n:Int) (n':Int)=F6 xs.length ys.length:=by rw[hx.len,hy.len]
 have a0:=hx.max;have a1:=hy.max;have HX:=hI hx;have HY:=hI hy;clear hx hy;go_enter Tryz.func115,Tryz.ntmps115;go_wp2_with fail;refine(An3 n n' w).mono ?_;rintro e w1 ⟨rfl,rfl⟩;rw[hm];have HM:=hI hm;clear hm;go_wp2_with fail;refine(An5 A n c xs A' n' c' ys w1 HX.out HY.out).mono ?_;rintro e w2 ⟨rfl,hg⟩;have HG:=hI hg;clear hg;go_wp2_with fail;refine(Aht _ _ w2.heap.size _ (Cd rfl) (Cd rfl)).mono ?_;rintro e w3 ⟨rfl,rfl⟩;go_wp2;go_ret;exact⟨rfl,HG.out.alloc _⟩
theorem Aco (A:Option Addr)(n c:Nat)(xs:List Snd)(A':Option Addr)(n' c':Nat)(ys:List Snd)(w:World)(h:Calls Tryz.prog 22 #[.slice A n c, .slice A' n' c'] w fun e w'=>e= .returned (.bool (decide (xs=ys)))/\Below w.heap.size w w'):
  Calls Tryz.prog 120 #[.slice A n c, .slice A' n' c'] w fun e w'=>e= .returned (.bool (decide (xs=ys)))/\Below w.heap.size w w':=by
 go_enter Tryz.func120,Tryz.ntmps120;go_wp2_with fail;refine h.mono ?_;rintro e w1 ⟨rfl,hb⟩;go_wp2;go_ret;exact⟨rfl,hb⟩
end Go.Proofs.YtlgliddhideflaaGreatDoor
