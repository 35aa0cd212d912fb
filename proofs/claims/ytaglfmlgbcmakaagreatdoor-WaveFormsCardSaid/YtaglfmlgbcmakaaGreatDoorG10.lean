/-
  law.run: what it returns; the replacements as they are reckoned.
  The iterator of law.run: what is asked of who uses it; laws that go from left to right.
  The iterator of law.run: laws that go from right to left.
-/
import Derived.Test.YtaglfmlgbcmakaaGreatDoorG09
set_option linter.all false
set_option maxRecDepth 100000
set_option maxHeartbeats 4000000
namespace Go.Proofs.YtaglfmlgbcmakaaGreatDoor
open Go.RowKit Go.Shelf
def Amx (w:World)(l:Bi)(a:Dq)(A:Option Addr)(n c:Nat)(e:Ending)(w':World):Prop:=
 ∃bw bl bk bm:Nat,e= .returned (.func (.func 204) #[] #[.pointer (some ⟨bw,0,none⟩), .pointer (some ⟨bl,0,none⟩), .pointer (some ⟨bk,0,none⟩), .pointer (some ⟨bm,0,none⟩)])∧
  w'.heap[bl]? =some (.cells (Bw l a) 55 (0,0))/\w'.heap[bw]? =some (.cells #[.slice A n c] 28 (0,0))∧
  w'.heap[bk]? =some (.cells #[.int .i64 l.ifs.length] 3 (0,0))/\w'.heap[bm]? =some (.cells #[.int .i64 l.outs.length] 3 (0,0))∧
  w.heap.size<=bw/\w.heap.size<=bl/\w.heap.size<=bk/\w.heap.size<=bm/\Below w.heap.size w w'
theorem Ans (l:Bi)(a:Dq)(A:Option Addr)(n c:Nat)(w:World):Calls Tryz.prog 198 #[Eg l a, .slice A n c] w (Amx w l a A n c):=by
 obtain⟨Wb,a3,a1,a2,a0,a6⟩:=D6 w l a;obtain⟨d0,d1,d2,d3⟩:=Bu a1;go_enter Tryz.func198,Tryz.ntmps198;go_wp2;clear a3 d0 d3;have u1:(Wb.alloc (.cells #[.slice A n c] 28)).cell? ⟨w.heap.size,15,none⟩=some (.slice a.Ai l.ifs.length a.ci):=(Cz a2).trans d1;have u2:(Wb.alloc (.cells #[.slice A n c] 28)).cell? ⟨w.heap.size,16,none⟩=some (.slice a.Ao l.outs.length a.co):=(Cz a2).trans d2;have ul:(Wb.alloc (.cells #[.slice A n c] 28)).heap[w.heap.size]? =some (.cells (Bw l a) 55 (0,0)):=(Bc a2).trans a1;have uw:(Wb.alloc (.cells #[.slice A n c] 28)).heap[Wb.heap.size]? =some (.cells #[.slice A n c] 28 (0,0)):=Am rfl;have uB:Below w.heap.size w (Wb.alloc (.cells #[.slice A n c] 28)):=a0.alloc a0.size _;generalize(Wb.alloc (.cells #[.slice A n c] 28))=U at*;have a4:=lt_of_block ul;have a7:=lt_of_block uw;have UL:=hI ul;clear ul;have UW:=hI uw;clear uw;have UB:=hI uB;clear uB d1 d2;have a5:=a0.size;clear a1 a0
 go_region_held3 (fun w'=>w'.cell? ⟨w.heap.size,15,none⟩=some (.slice a.Ai l.ifs.length a.ci)/\w'.cell? ⟨w.heap.size,16,none⟩=some (.slice a.Ao l.outs.length a.co)) (first|(go_keep;done)|((try dsimp only);((repeat' apply And.intro)<;>(try simp(disch:=omega) only[B5,Cz,World.cell?_drew])<;>first|assumption|(simp[*,go_sem];done)))) (fail)
 all_goals go_wp2
 all_goals
  go_ret;refine⟨Wb.heap.size,w.heap.size,_,_,rfl,(by repeat(first|exact UL.out|exact Am sd|rw[Ks]|rw[Bc sd])),(by repeat(first|exact UW.out|exact Am sd|rw[Ks]|rw[Bc sd])),(by repeat(first|exact UL.out|exact Am sd|rw[Ks]|rw[Bc sd])),(by repeat(first|exact UL.out|exact Am sd|rw[Ks]|rw[Bc sd])),by omega,rr,by omega,by omega,((UB.out.alloc (by omega) _).alloc (by simp;omega) _).drew⟩
/-! The replacements, as they are reckoned. -/
structure RS where
 at_:Int
 next:Int
 shift:Int
 now:List Snd
def E7 (l:Bi)(ws:List Snd)(r:RS):Bool:=
 if l.mode=1 then decide ((ws.length:Int)<r.at_+l.ifs.length)else if l.mode=2 then decide ((r.now.length:Int)<r.at_+l.ifs.length)else if l.mode=3 then decide (r.at_<0)else true
def C6 (l:Bi)(ws:List Snd)(r:RS):Option (Int×List Snd)×RS:=
 if l.mode=1 then
  if Ez l ws r.at_.toNat && decide (r.next<=r.at_)then
   let now:=r.now.take (r.at_+r.shift).toNat++Hb l ((ws.drop r.at_.toNat).take l.ifs.length)++ws.drop (r.at_.toNat+l.ifs.length)
   (some (r.at_,now),⟨r.at_+1,r.at_+max (l.ifs.length:Int) 1,r.shift+l.outs.length-l.ifs.length,now⟩)
  else(none,{r with at_:=r.at_+1})
 else if l.mode=2 then
  if Ez l r.now r.at_.toNat then(some (r.at_,Bb l r.now r.at_.toNat),⟨r.at_+l.outs.length+(if l.ifs.length=0 then 1 else 0),r.next,r.shift,Bb l r.now r.at_.toNat⟩)
  else(none,{r with at_:=r.at_+1})
 else
  if Ez l r.now r.at_.toNat then(some (r.at_,Bb l r.now r.at_.toNat),⟨r.at_-max (l.ifs.length:Int) 1,r.next,r.shift,Bb l r.now r.at_.toNat⟩)
  else(none,{r with at_:=r.at_-1})
def Ca (l:Bi)(ws:List Snd):RS:=if l.mode=3 then⟨(ws.length:Int)-l.ifs.length,0,0,ws⟩else⟨0,0,0,ws⟩
end Go.Proofs.YtaglfmlgbcmakaaGreatDoor
namespace Go.Proofs.YtaglfmlgbcmakaaGreatDoor
open Go.RowKit Go.Shelf
attribute [local go_sem] Oper.semAt_some
theorem Kz {P:Program}{m m' l:Nat}{args:Array Value}{W:World}{R:Ending->World->Prop}(h:YieldAt Fence.wide m P l args W R):YieldAt Fence.wide m' P l args W R:=by
 obtain⟨fn,tmps,assign,body,hy,h1,h2⟩:=h;exact⟨fn,tmps,assign,body,hy,h1,fun c cs _=>h2 c cs (room_wide _)⟩
structure TU where
 w:Nat->Prop
 u:Nat->Prop
def TU.all (T:TU)(k:Nat):Prop:=T.w k\/T.u k
structure Tp (lr bw bl bk bm:Nat)(l:Bi)(a:Dq)(A:Option Addr)(n c:Nat)(ws:List Snd)(B:Nat)(J Jx:RS->TU->World->Prop):Prop where
 hlt:∀r T W',J r T W'→∀k,T.all k->k<W'.heap.size
 hst:∀r T W' W'',J r T W'->Ba (fun k=>B<=k∧¬T.all k) W' W''->J r T W''
 hsx:∀r T W' W'',Jx r T W'->Ba (fun k=>B<=k∧¬T.all k) W' W''->Jx r T W''
 hrd:∀r T W',J r T W'->W'.heap[bl]? =some (.cells (Bw l a) 55 (0,0))/\W'.heap[bw]? =some (.cells #[.slice A n c] 28 (0,0))∧
  W'.heap[bk]? =some (.cells #[.int .i64 l.ifs.length] 3 (0,0))/\W'.heap[bm]? =some (.cells #[.int .i64 l.outs.length] 3 (0,0))/\Df W' l a/\Ak W' A n c ws/\Cw W'
 hnd:∀r T W',J r T W'→∀k,T.all k→∀x,W'.heap[k]? ≠some (.deferred x)
 hnx:∀r T W',Jx r T W'→∀k,T.all k→∀x,W'.heap[k]? ≠some (.deferred x)
 hskip:∀r T W' r',E7 l ws r=false->C6 l ws r=(none,r')->J r T W'->J r' T W'
 hy:∀r T W' r' p now A' n' c',E7 l ws r=false->C6 l ws r=(some (p,now),r')->Ak W' A' n' c' now->(∀ad,A'=some ad->B<=ad.block∧¬T.all ad.block)->J r T W'->YieldAt Fence.wide 0 Tryz.prog lr #[.int .i64 p, .slice A' n' c'] W' (fun e W''=>
  (e= .returned (.bool true)/\now.length<=32∧∃T',J r' T' W''/\Ba T.w W' W''/\(∀k,T'.w k->T.w k\/W'.heap.size<=k)∧∀k,T'.all k->T.all k\/W'.heap.size<=k\/(0<n'∧∃ad,A'=some ad/\ad.block=k))\/(e= .returned (.bool false)/\Jx r T W''/\Ba T.w W' W''))
def Nh (B:Nat)(A:Option Addr)(n c:Nat)(ws:List Snd)(T:Nat->Prop)(w:World)(An:Option Addr)(nn cn:Nat)(now:List Snd):Prop:=
 (An=A/\nn=n/\cn=c/\now=ws)\/(Ak w An nn cn now/\(0<nn→∀ad,An=some ad->B+1<ad.block∧¬T ad.block/\ad.block<w.heap.size))
theorem Nh.word {B:Nat}{A:Option Addr}{n c:Nat}{ws:List Snd}{T:Nat->Prop}{w:World}{An:Option Addr}{nn cn:Nat}{now:List Snd}(h:Nh B A n c ws T w An nn cn now)(hw:Ak w A n c ws):Ak w An nn cn now:=by
 rcases h with⟨rfl,rfl,rfl,rfl⟩|⟨h,_⟩
 ·exact hw
 ·exact h
theorem Ak.keep {S:Nat->Prop}{w w':World}{A:Option Addr}{n c:Nat}{xs:List Snd}(h:Ak w A n c xs)(hk:Ba S w w')(hS:0<n→∀ad,A=some ad→¬S ad.block):Ak w' A n c xs:=by
 obtain⟨h1,h2,h3,h4,h5⟩:=h;refine⟨h1,h2,h3,h4,fun hn=> ?_⟩
 obtain⟨b,off,rfl,a0,hc⟩:=h5 hn;exact⟨b,off,rfl,Nat.lt_of_lt_of_le a0 hk.size,fun j v hv=>(World.cell?_of_block (hk.block b a0 (hS hn _ rfl))).trans (hc j v hv)⟩
theorem Nh.keep {B:Nat}{A:Option Addr}{n c:Nat}{ws:List Snd}{T T' S:Nat->Prop}{w w':World}{An:Option Addr}{nn cn:Nat}{now:List Snd}(h:Nh B A n c ws T w An nn cn now)(hk:Ba S w w')
  (hS:∀b,B+1<b->b<w.heap.size→¬T b→¬S b∧¬T' b):Nh B A n c ws T' w' An nn cn now:=by
 rcases h with h|⟨h,hb⟩
 ·exact .inl h
 ·refine .inr ⟨h.keep hk fun hn ad had=>(hS _ (hb hn ad had).1 (hb hn ad had).2.2 (hb hn ad had).2.1).1,fun hn ad had=>⟨(hb hn ad had).1,(hS _ (hb hn ad had).1 (hb hn ad had).2.2 (hb hn ad had).2.1).2,Nat.lt_of_lt_of_le (hb hn ad had).2.2 hk.size⟩⟩
theorem Py {B:Nat}{T:Nat->Prop}{w w':World}(hs:Jg B w w')(hnd:∀k,T k→∀x,w.heap[k]? ≠some (.deferred x)):Ba (fun k=>B<=k∧¬T k) w w':=
 ⟨hs.os,hs.tape,hs.output,by rw[hs.size];exact rr,fun k _ hn=>by
  rcases hs.block k with e|⟨e,x,hx⟩
  ·exact e
  ·exact absurd ⟨e,fun h=>hnd k h x hx⟩ hn⟩
theorem Acf (m lr bw bl bk bm:Nat)(hm:1<=m)(l:Bi)(a:Dq)(A:Option Addr)(n c:Nat)(ws:List Snd)(W:World)(J Jx:RS->TU->World->Prop)(T0:TU)
  (H:Tp lr bw bl bk bm l a A n c ws W.heap.size J Jx) (h0:J (Ca l ws) T0 W) (hmode:l.mode=2) (hn:n<=32) (hfit:∀x∈l.outs,Ei x l.ifs.length=true) (ho:l.outs.length<=64) (hk:l.ifs.length<=64):
  CallsIn Fence.wide m Tryz.prog 204 #[.func (.yield lr) #[] #[], .pointer (some ⟨bw,0,none⟩), .pointer (some ⟨bl,0,none⟩), .pointer (some ⟨bk,0,none⟩), .pointer (some ⟨bm,0,none⟩)] W fun e W'=>
   (∃v,e= .returned v)/\((∃r T,E7 l ws r=true/\J r T W')∨∃r T,Jx r T W'):=by
 have g9:=H.hlt _ _ _ h0;obtain⟨r1,r2,r3,r4,r5,r6,r7⟩:=H.hrd _ _ _ h0;have k7:=lt_of_block r1;have k9:=lt_of_block r2;have m2:=lt_of_block r3;have m1:=lt_of_block r4;obtain⟨d0,d1,d2,d3⟩:=Bu r1;have e2:=cell_of_one r2;have i4:ws.length=n:=r6.len;have k4:=hI i4;clear i4;rw[hmode]at d3;have HM:=hI hmode;clear hmode;have HU:=hI H;clear H;have HF:=hI hfit;clear hfit;have H0:=hI h0;clear h0 r1 r2 r3 r4 r5 r6 r7 d0 d1 d2;refine callsIn_of_wp Tryz.func204 rfl trivial ?_;simp only[Tryz.ntmps204,List.size_toArray,List.length_cons,List.length_nil,Nat.reduceAdd,Nat.reduceSub,Array.replicate_succ,Array.replicate_zero,List.push_toArray,List.append_toArray,List.nil_append,List.cons_append];gi_wp2;have g5:((W.alloc (.cells #[.func (.yield lr) #[] #[]] 216)).alloc (.cells #[.slice A n c] 28)).heap[W.heap.size]? =some (.cells #[.func (.yield lr) #[] #[]] 216 (0,0)):=hpt;have g6:((W.alloc (.cells #[.func (.yield lr) #[] #[]] 216)).alloc (.cells #[.slice A n c] 28)).heap[W.heap.size+1]? =some (.cells #[.slice A n c] 28 (0,0)):=hpt;have g7:Below W.heap.size W ((W.alloc (.cells #[.func (.yield lr) #[] #[]] 216)).alloc (.cells #[.slice A n c] 28)):=bel;generalize((W.alloc (.cells #[.func (.yield lr) #[] #[]] 216)).alloc (.cells #[.slice A n c] 28))=W0 at*;have J0:=hI (HU.out.hst _ T0 W W0 H0.out (Br g7));have m0:=lt_of_block g6;have G5:=hI g5;clear g5;have G6:=hI g6;clear g6;clear g7 e2 d3
 gi_loopw [10] (fun i wr=>∃(s:Nat) (r:RS) (T:TU) (An:Option Addr) (nn cn:Nat),i= .int .i64 s/\Hid (r.at_=(s:Int))/\nn<=32/\s<=nn+1/\Hid (J r T wr)∧
   Hid (wr.heap[W.heap.size]? =some (.cells #[.func (.yield lr) #[] #[]] 216 (0,0)))/\Hid (wr.heap[W.heap.size+1]? =some (.cells #[.slice An nn cn] 28 (0,0)))∧
   Hid (Nh W.heap.size A n c ws T.w wr An nn cn r.now)/\Hid (¬T.all W.heap.size∧¬T.all (W.heap.size+1)))
  (fun i wr=>match wr.cell? ⟨W.heap.size+1,0,none⟩with|some (.slice _ q _)=>q+2-(intOf i).toNat|_=>0)
 case atStart=>
  refine⟨0,Ca l ws,T0,A,n,c,rfl, ?_,hn,by omega,J0,G5,G6, .inl ⟨rfl,rfl,rfl, ?_⟩,fun h=>by have:=g9 _ h;omega,fun h=>by have:=g9 _ h;omega⟩
  ·show(Ca l ws).at_=_;unfold Ca;rw[if_neg (by rw[HM.out];decide)];rfl
  ·unfold Ca;rw[if_neg (by rw[HM.out];decide)]
 case round=>
  obtain⟨s,r,T,An,nn,cn,rfl,a8,k3,k6,HJ,f9,a7,b2,a5⟩:=hrel;obtain⟨r1,r2,r3,r4,r5,r6,r7⟩:=HU.out.hrd _ _ _ HJ.out;have R1:=hI r1;clear r1;have d6:=lt_of_block R1.out;have e3:=cell_of_one r3;have e4:=cell_of_one r4;have e5:=cell_of_one f9.out;have e6:=cell_of_one a7.out;have f6:=free_of_one a7.out;have j5:=lt_of_block a7.out;have R5:=hI r5;clear r5;have R6:=hI r6;clear r6;have R7:=hI r7;clear r7 r2;have R3:=hI r3;have R4:=hI r4;clear r3 r4;have g8:=hI (b2.out.word R6.out);have i6:r.now.length=nn:=g8.out.len;have f7:=hI i6;clear i6;by_cases hin:s+l.ifs.length<=nn
  ·have d9:((s:Int)+(l.ifs.length:Int)<=(nn:Int)):=by omega
   have a2:E7 l ws r=false:=by
    unfold E7;rw[HM.out,a8.out,f7.out];simp;omega
   have a3:=hI a2;clear a2
   gi_wp2_with (refine Ew rfl (.tmp 2) rfl bl l a rfl R1.out ?_)
   refine⟨trivial, ?_⟩;refine(callsIn_wide.2 (Ali l a An nn cn r.now s wr R5.out g8.out R7.out (by omega) (by omega) hk)).mono ?_;rintro e w1 ⟨rfl,a1⟩;have j2:=a1.size;have d5:=hI (HU.out.hst _ _ _ _ HJ.out (Br (S:=fun k=>W.heap.size<=k∧¬T.all k) a1));have G51:=hI ((a1.block _ (lt_of_block f9.out)).trans f9.out);have G61:=hI ((a1.block _ j5).trans a7.out);have a4:=hI (b2.out.keep (S:=fun _=>False) (T':=T.w) (Br a1) (fun b _ _ h=>⟨fun h=>h,h⟩));have R31:=hI ((a1.block _ (lt_of_block R3.out)).trans R3.out);have R41:=hI ((a1.block _ (lt_of_block R4.out)).trans R4.out);have R11:=hI ((a1.block _ d6).trans R1.out);have R51:=hI (R5.out.below a1 rr);have R61:=hI (R6.out.below a1 rr);have R71:=hI (R7.out.below a1 rr);clear a1 e3 e4 e5 e6 f6
   cases hh:Ez l r.now s with
   |false=>
    have b3:C6 l ws r=(none,{r with at_:=r.at_+1}):=by
     unfold C6;rw[HM.out,a8.out];simp[hh]
    have g0:=hI b3;clear b3 hh;have f4:=cell_of_one G61.out;have b9:=cell_of_one a7.out;gi_wp2
    go_roundw
    case rel=>
     exact⟨s+1,{r with at_:=r.at_+1},T,An,nn,cn,by go_num,by show r.at_+1=_;rw[a8.out];omega,k3,by omega,HU.out.hskip _ _ _ _ a3.out g0.out d5.out,G51,G61,a4,a5⟩
    case measure=>rw[f4,b9];simp[intOf];omega
   |true=>
    have HH:=hI hh;clear hh;have d7:=hI (a4.out.word R61.out);have f4:=cell_of_one G61.out;have j6:=cell_of_one R31.out;have j0:=cell_of_one R41.out
    gi_wp2_with (refine Ew rfl (.tmp 2) rfl bl l a rfl R11.out ?_)
    refine⟨trivial, ?_⟩;refine(callsIn_wide.2 (V4 l a An nn cn r.now s w1 R51.out d7.out HF.out ho hin (by omega))).mono ?_;rintro e w2 ⟨A2,n2,c2,rfl,g3,b4,f8⟩;have j8:=b4.size;have g52:=(b4.block _ (lt_of_block G51.out)).trans G51.out;have g62:=(b4.block _ (lt_of_block G61.out)).trans G61.out;have i5:Ba (fun k=>W.heap.size<=k∧¬T.all k) w1 (w2.setCell ⟨W.heap.size+1,0,none⟩ (.slice A2 n2 c2)):=(Br b4).setCell (p:=⟨W.heap.size+1,0,none⟩) ⟨by simp,a5.out.2⟩ _;have k2:=hI (HU.out.hst _ _ _ _ d5.out i5);have f0:Ak (w2.setCell ⟨W.heap.size+1,0,none⟩ (.slice A2 n2 c2)) A2 n2 c2 (Bb l r.now s):=g3.keep (S:=fun k=>k=W.heap.size+1) ((Ba.refl (fun k=>k=W.heap.size+1) _).setCell (p:=⟨W.heap.size+1,0,none⟩) rfl _) (fun _ ad a0 h=>by have:=f8 ad a0;omega);have d8:∀ad,A2=some ad->w1.heap.size<=ad.block:=f8;have G53:=hI ((Below.heap_setCell w2 ⟨W.heap.size+1,0,none⟩ (.slice A2 n2 c2) W.heap.size (by simp)).trans g52);have G63:=hI (one_setCell (u:= .slice A2 n2 c2) g62);have f62:=free_of_one g62;have j7:=cell_of_one g62;have j9:=cell_of_one g52
    have b3:C6 l ws r=(some ((s:Int),Bb l r.now s),⟨(s:Int)+l.outs.length+(if l.ifs.length=0 then 1 else 0),r.next,r.shift,Bb l r.now s⟩):=by
     unfold C6;rw[HM.out,a8.out];simp[HH.out]
    have g0:=hI b3;clear b3;obtain⟨fn,tmps,assign,body,i9,hR⟩:=Kz (m':=m-1) (HU.out.hy r T _ _ _ _ A2 n2 c2 a3.out g0.out f0 (fun ad a0=>by have h1:=d8 ad a0;exact⟨by omega,fun h=>by have:=HU.out.hlt _ _ _ d5.out _ h;omega⟩) k2.out);have HR:=hI hR;clear hR;have f5:=hI f0;clear f0;have j3:=hI d8;clear d8 f8 b4 g3 g52 g62 i5 f4 j6 j0;gi_wp2;refine HR.out.mono ?_;rintro e W4 (⟨rfl,b0,T',f2,b1,i3,f1⟩|⟨rfl,hx,_⟩)
    ·obtain⟨q1,q2,q3,q4,q5,q6,q7⟩:=HU.out.hrd _ _ _ f2;have k5:=cell_of_one q3;have k8:=cell_of_one q4;have i8:=hI f2;have f3:=f5.out.len
     have i7:n2=nn-l.ifs.length+l.outs.length:=by
      rw[←f3];unfold Bb Hb
      have:=f7.out
      simp;omega
     have j4:=b1.size;have g54:=hI ((b1.block _ (lt_of_block G53.out) (fun h=>a5.out.1 (.inl h))).trans G53.out);have g64:=hI ((b1.block _ (lt_of_block G63.out) (fun h=>a5.out.2 (.inl h))).trans G63.out);have g2:=HU.out.hlt _ _ _ d5.out;have k1:=lt_of_block G61.out
     have a6:0<n2→∀ad,A2=some ad->W.heap.size+1<ad.block∧¬T.w ad.block/\ad.block<(w2.setCell ⟨W.heap.size+1,0,none⟩ (.slice A2 n2 c2)).heap.size:=by
      intro hn ad a0;obtain⟨b,off,hb,j1,_⟩:=f5.out.2.2.2.2 hn;have h1:=j3.out ad a0;rw[a0]at hb;injection hb with hb
      subst hb;exact⟨by omega,fun h=>by have:=g2 _ (.inl h);omega,j1⟩
     have d4:0<n2→∀ad,A2=some ad->W.heap.size+1<ad.block∧¬T'.w ad.block/\ad.block<W4.heap.size:=fun hn ad a0=>
      ⟨(a6 hn ad a0).1,fun h=>(i3 _ h).elim (a6 hn ad a0).2.1 (fun h2=>by have:=(a6 hn ad a0).2.2;omega),Nat.lt_of_lt_of_le (a6 hn ad a0).2.2 j4⟩
     have g1:Ak W4 A2 n2 c2 (Bb l r.now s):=f5.out.keep b1 (fun hn ad a0=>(a6 hn ad a0).2.1);clear a6 g2 k1
     have b5:¬T'.all W.heap.size∧¬T'.all (W.heap.size+1):=by
      have h1:=lt_of_block G63.out;exact⟨fun h=>(f1 _ h).elim a5.out.1 (fun h2=>h2.elim (fun h2=>by omega) (fun⟨hn,ad,a0,hb⟩=>by have:=(d4 hn ad a0).1;omega)),fun h=>(f1 _ h).elim a5.out.2 (fun h2=>h2.elim (fun h2=>by omega) (fun⟨hn,ad,a0,hb⟩=>by have:=(d4 hn ad a0).1;omega))⟩
     have a9:=hI b5;have i0:=hI g1;have g4:=hI d4;have b6:=hI b0;have b8:=hI i7;have i2:=hI f3;have i1:=cell_of_one g64.out;have b9:=cell_of_one a7.out;clear q1 q2 q3 q4 q5 q6 q7 f2 b1 i3 f1 b5 g1 d4 b0 i7 f3 j7 j9 f62 i9;by_cases hk0:l.ifs.length=0
     ·have k0:((l.ifs.length:Int)==0)=true:=by rw[hk0];rfl
      have b7:=hI hk0;clear hk0;gi_wp2
      go_roundw
      case rel=>
       refine⟨s+l.outs.length+1,_,T',A2,n2,c2,by go_num, ?_,by have:=i2.out;have:=b6.out;omega,by have:=b8.out;omega,i8,g54,g64, .inr ⟨i0.out,g4.out⟩,a9⟩;show _=_;simp only[b7.out];simp
      case measure=>rw[i1,b9];simp only[intOf];have:=b8.out;have:=b7.out;omega
     ·have k0:((l.ifs.length:Int)==0)=false:=by simpa using hk0
      have b7:=hI hk0;clear hk0;gi_wp2
      go_roundw
      case rel=>
       refine⟨s+l.outs.length,_,T',A2,n2,c2,by go_num, ?_,by have:=i2.out;have:=b6.out;omega,by have:=b8.out;omega,i8,g54,g64, .inr ⟨i0.out,g4.out⟩,a9⟩;show _=_;simp only[b7.out];simp
      case measure=>rw[i1,b9];simp only[intOf];have:=b8.out;have:=b7.out;omega
    ·have HX:=hI hx;clear hx;gi_wp2;refine bodyPost_ret (results_none rfl _ _ _) rfl ?_;exact⟨⟨_,rfl⟩, .inr ⟨r,T,HX.out⟩⟩
  ·have d9:decide ((s:Int)+(l.ifs.length:Int)<=(nn:Int))=false:=by simp;omega
   have a2:E7 l ws r=true:=by
    unfold E7;rw[HM.out,a8.out,f7.out];simp;omega
   have a3:=hI a2;clear a2;gi_wp2
   go_end0
   exact⟨⟨_,rfl⟩, .inl ⟨r,T,a3.out,HJ.out⟩⟩
end Go.Proofs.YtaglfmlgbcmakaaGreatDoor
namespace Go.Proofs.YtaglfmlgbcmakaaGreatDoor
open Go.RowKit Go.Shelf
attribute [local go_sem] Oper.semAt_some
theorem Aez (m lr bw bl bk bm:Nat)(hm:1<=m)(l:Bi)(a:Dq)(A:Option Addr)(n c:Nat)(ws:List Snd)(W:World)(J Jx:RS->TU->World->Prop)(T0:TU)
  (H:Tp lr bw bl bk bm l a A n c ws W.heap.size J Jx) (h0:J (Ca l ws) T0 W) (hmode:l.mode=3) (hn:n<=32) (hfit:∀x∈l.outs,Ei x l.ifs.length=true) (ho:l.outs.length<=64) (hk:l.ifs.length<=64):
  CallsIn Fence.wide m Tryz.prog 204 #[.func (.yield lr) #[] #[], .pointer (some ⟨bw,0,none⟩), .pointer (some ⟨bl,0,none⟩), .pointer (some ⟨bk,0,none⟩), .pointer (some ⟨bm,0,none⟩)] W fun e W'=>
   (∃v,e= .returned v)/\((∃r T,E7 l ws r=true/\J r T W')∨∃r T,Jx r T W'):=by
 have g1:=H.hlt _ _ _ h0;obtain⟨r1,r2,r3,r4,r5,r6,r7⟩:=H.hrd _ _ _ h0;have k9:=lt_of_block r1;have m1:=lt_of_block r2;have m4:=lt_of_block r3;have m3:=lt_of_block r4;obtain⟨d0,d1,d2,d3⟩:=Bu r1;have e2:=cell_of_one r2;have e3:=cell_of_one r3;have i0:ws.length=n:=r6.len;have i5:=hI i0;clear i0;rw[hmode]at d3;have HM:=hI hmode;clear hmode;have HU:=hI H;clear H;have HF:=hI hfit;clear hfit;have H0:=hI h0;clear h0 r1 r2 r3 r4 r5 r6 r7 d0 d1 d2;refine callsIn_of_wp Tryz.func204 rfl trivial ?_;simp only[Tryz.ntmps204,List.size_toArray,List.length_cons,List.length_nil,Nat.reduceAdd,Nat.reduceSub,Array.replicate_succ,Array.replicate_zero,List.push_toArray,List.append_toArray,List.nil_append,List.cons_append];gi_wp2;have g5:((W.alloc (.cells #[.func (.yield lr) #[] #[]] 216)).alloc (.cells #[.slice A n c] 28)).heap[W.heap.size]? =some (.cells #[.func (.yield lr) #[] #[]] 216 (0,0)):=hpt;have g6:((W.alloc (.cells #[.func (.yield lr) #[] #[]] 216)).alloc (.cells #[.slice A n c] 28)).heap[W.heap.size+1]? =some (.cells #[.slice A n c] 28 (0,0)):=hpt;have g7:Below W.heap.size W ((W.alloc (.cells #[.func (.yield lr) #[] #[]] 216)).alloc (.cells #[.slice A n c] 28)):=bel;generalize((W.alloc (.cells #[.func (.yield lr) #[] #[]] 216)).alloc (.cells #[.slice A n c] 28))=W0 at*;have J0:=hI (HU.out.hst _ T0 W W0 H0.out (Br g7));have m2:=lt_of_block g6;have G5:=hI g5;clear g5;have G6:=hI g6;clear g6;clear g7 e2 d3 e3
 gi_loopw [11] (fun i wr=>∃(x:Int) (r:RS) (T:TU) (An:Option Addr) (nn cn:Nat),i= .int .i64 x/\Hid (r.at_=x)/\nn<=32/\x<=4000∧ -100<=x/\Hid (J r T wr)∧
   Hid (wr.heap[W.heap.size]? =some (.cells #[.func (.yield lr) #[] #[]] 216 (0,0)))/\Hid (wr.heap[W.heap.size+1]? =some (.cells #[.slice An nn cn] 28 (0,0)))∧
   Hid (Nh W.heap.size A n c ws T.w wr An nn cn r.now)/\Hid (¬T.all W.heap.size∧¬T.all (W.heap.size+1)))
  (fun i wr=>(intOf i+1).toNat)
 case atStart=>
  refine⟨(n:Int)-(l.ifs.length:Int),Ca l ws,T0,A,n,c,rfl, ?_,hn,by omega,by omega,J0,G5,G6, .inl ⟨rfl,rfl,rfl, ?_⟩,fun h=>by have:=g1 _ h;omega,fun h=>by have:=g1 _ h;omega⟩
  ·show(Ca l ws).at_=_;unfold Ca;rw[if_pos HM.out,i5.out]
  ·unfold Ca;rw[if_pos HM.out]
 case round=>
  obtain⟨x,r,T,An,nn,cn,rfl,a8,k3,k7,k5,HJ,f3,a7,b2,a5⟩:=hrel;obtain⟨r1,r2,r3,r4,r5,r6,r7⟩:=HU.out.hrd _ _ _ HJ.out;have R1:=hI r1;clear r1;have d4:=lt_of_block R1.out;have e3:=cell_of_one r3;have e4:=cell_of_one r4;have e5:=cell_of_one f3.out;have e6:=cell_of_one a7.out;have f6:=free_of_one a7.out;have j2:=lt_of_block a7.out;have R5:=hI r5;clear r5;have R6:=hI r6;clear r6;have R7:=hI r7;clear r7 r2;have R3:=hI r3;have R4:=hI r4;clear r3 r4;have g0:=hI (b2.out.word R6.out);have i2:r.now.length=nn:=g0.out.len;have g8:=hI i2;clear i2;by_cases hin0:0<=x
  ·obtain⟨s,rfl⟩:∃s:Nat,x=s:=⟨x.toNat,by omega⟩
   have a2:E7 l ws r=false:=by
    unfold E7;rw[HM.out,a8.out];simp
   have a3:=hI a2;clear a2
   gi_wp2_with (refine Ew rfl (.tmp 2) rfl bl l a rfl R1.out ?_)
   refine⟨trivial, ?_⟩;refine(callsIn_wide.2 (Ali l a An nn cn r.now s wr R5.out g0.out R7.out (by omega) (by omega) hk)).mono ?_;rintro e w1 ⟨rfl,a1⟩;have i9:=a1.size;have b9:=hI (HU.out.hst _ _ _ _ HJ.out (Br (S:=fun k=>W.heap.size<=k∧¬T.all k) a1));have G51:=hI ((a1.block _ (lt_of_block f3.out)).trans f3.out);have G61:=hI ((a1.block _ j2).trans a7.out);have a4:=hI (b2.out.keep (S:=fun _=>False) (T':=T.w) (Br a1) (fun b _ _ h=>⟨fun h=>h,h⟩));have R31:=hI ((a1.block _ (lt_of_block R3.out)).trans R3.out);have R41:=hI ((a1.block _ (lt_of_block R4.out)).trans R4.out);have R11:=hI ((a1.block _ d4).trans R1.out);have R51:=hI (R5.out.below a1 rr);have R61:=hI (R6.out.below a1 rr);have R71:=hI (R7.out.below a1 rr);clear a1 e3 e4 e5 e6 f6
   cases hh:Ez l r.now s with
   |false=>
    have b3:C6 l ws r=(none,{r with at_:=r.at_-1}):=by
     unfold C6;rw[HM.out,a8.out];simp[hh]
    have f4:=hI b3;clear b3 hh;have g4:=cell_of_one G61.out;have j5:=cell_of_one a7.out;gi_wp2
    go_roundw
    case rel=>
     exact⟨(s:Int)-1,{r with at_:=r.at_-1},T,An,nn,cn,rfl,by show r.at_-1=_;rw[a8.out],k3,by omega,by omega,HU.out.hskip _ _ _ _ a3.out f4.out b9.out,G51,G61,a4,a5⟩
    case measure=>simp[intOf]
   |true=>
    have HH:=hI hh
    have k2:s+l.ifs.length<=nn:=by
     unfold Ez at hh;simp only[Bool.and_eq_true,decide_eq_true_eq]at hh;rw[g8.out]at hh;exact hh.1.1
    clear hh;have d5:=hI (a4.out.word R61.out);have g4:=cell_of_one G61.out;have j3:=cell_of_one R31.out;have i7:=cell_of_one R41.out
    gi_wp2_with (refine Ew rfl (.tmp 2) rfl bl l a rfl R11.out ?_)
    refine⟨trivial, ?_⟩;refine(callsIn_wide.2 (V4 l a An nn cn r.now s w1 R51.out d5.out HF.out ho k2 (by omega))).mono ?_;rintro e w2 ⟨A2,n2,c2,rfl,f8,b4,f2⟩;have j6:=b4.size;have g52:=(b4.block _ (lt_of_block G51.out)).trans G51.out;have g62:=(b4.block _ (lt_of_block G61.out)).trans G61.out;have i1:Ba (fun k=>W.heap.size<=k∧¬T.all k) w1 (w2.setCell ⟨W.heap.size+1,0,none⟩ (.slice A2 n2 c2)):=(Br b4).setCell (p:=⟨W.heap.size+1,0,none⟩) ⟨by simp,a5.out.2⟩ _;have k1:=hI (HU.out.hst _ _ _ _ b9.out i1);have d7:Ak (w2.setCell ⟨W.heap.size+1,0,none⟩ (.slice A2 n2 c2)) A2 n2 c2 (Bb l r.now s):=f8.keep (S:=fun k=>k=W.heap.size+1) ((Ba.refl (fun k=>k=W.heap.size+1) _).setCell (p:=⟨W.heap.size+1,0,none⟩) rfl _) (fun _ ad a0 h=>by have:=f2 ad a0;omega);have d6:∀ad,A2=some ad->w1.heap.size<=ad.block:=f2;have G53:=hI ((Below.heap_setCell w2 ⟨W.heap.size+1,0,none⟩ (.slice A2 n2 c2) W.heap.size (by simp)).trans g52);have G63:=hI (one_setCell (u:= .slice A2 n2 c2) g62);have f62:=free_of_one g62;have j4:=cell_of_one g62;have j7:=cell_of_one g52
    have b3:C6 l ws r=(some ((s:Int),Bb l r.now s),⟨(s:Int)-max (l.ifs.length:Int) 1,r.next,r.shift,Bb l r.now s⟩):=by
     unfold C6;rw[HM.out,a8.out];simp[HH.out]
    have f4:=hI b3;clear b3;obtain⟨fn,tmps,assign,body,i6,hR⟩:=Kz (m':=m-1) (HU.out.hy r T _ _ _ _ A2 n2 c2 a3.out f4.out d7 (fun ad a0=>by have h1:=d6 ad a0;exact⟨by omega,fun h=>by have:=HU.out.hlt _ _ _ b9.out _ h;omega⟩) k1.out);have HR:=hI hR;clear hR;have f1:=hI d7;clear d7;have j0:=hI d6;clear d6 f2 b4 f8 g52 g62 i1 g4 j3 i7;gi_wp2;refine HR.out.mono ?_;rintro e W4 (⟨rfl,b0,T',d9,b1,g9,d8⟩|⟨rfl,hx,_⟩)
    ·obtain⟨q1,q2,q3,q4,q5,q6,q7⟩:=HU.out.hrd _ _ _ d9;have k4:=cell_of_one q3;have m0:=cell_of_one q4;have i4:=hI d9;have f0:=f1.out.len
     have i3:n2=nn-l.ifs.length+l.outs.length:=by
      rw[←f0];unfold Bb Hb
      have:=g8.out
      simp;omega
     have j1:=b1.size;have g54:=hI ((b1.block _ (lt_of_block G53.out) (fun h=>a5.out.1 (.inl h))).trans G53.out);have g64:=hI ((b1.block _ (lt_of_block G63.out) (fun h=>a5.out.2 (.inl h))).trans G63.out);have f7:=HU.out.hlt _ _ _ b9.out;have j9:=lt_of_block G61.out
     have a6:0<n2→∀ad,A2=some ad->W.heap.size+1<ad.block∧¬T.w ad.block/\ad.block<(w2.setCell ⟨W.heap.size+1,0,none⟩ (.slice A2 n2 c2)).heap.size:=by
      intro hn ad a0;obtain⟨b,off,hb,i8,_⟩:=f1.out.2.2.2.2 hn;have h1:=j0.out ad a0;rw[a0]at hb;injection hb with hb
      subst hb;exact⟨by omega,fun h=>by have:=f7 _ (.inl h);omega,i8⟩
     have b8:0<n2→∀ad,A2=some ad->W.heap.size+1<ad.block∧¬T'.w ad.block/\ad.block<W4.heap.size:=fun hn ad a0=>
      ⟨(a6 hn ad a0).1,fun h=>(g9 _ h).elim (a6 hn ad a0).2.1 (fun h2=>by have:=(a6 hn ad a0).2.2;omega),Nat.lt_of_lt_of_le (a6 hn ad a0).2.2 j1⟩
     have f5:Ak W4 A2 n2 c2 (Bb l r.now s):=f1.out.keep b1 (fun hn ad a0=>(a6 hn ad a0).2.1);clear a6 f7 j9
     have b5:¬T'.all W.heap.size∧¬T'.all (W.heap.size+1):=by
      have h1:=lt_of_block G63.out;exact⟨fun h=>(d8 _ h).elim a5.out.1 (fun h2=>h2.elim (fun h2=>by omega) (fun⟨hn,ad,a0,hb⟩=>by have:=(b8 hn ad a0).1;omega)),fun h=>(d8 _ h).elim a5.out.2 (fun h2=>h2.elim (fun h2=>by omega) (fun⟨hn,ad,a0,hb⟩=>by have:=(b8 hn ad a0).1;omega))⟩
     have a9:=hI b5;have g2:=hI f5;have f9:=hI b8;have b6:=hI b0;have k6:=hI i3;have g3:=hI f0;have k8:=cell_of_one g64.out;have j5:=cell_of_one a7.out;clear q1 q2 q3 q4 q5 q6 q7 d9 b1 g9 d8 b5 f5 b8 b0 i3 f0 j4 j7 f62 i6;by_cases hk0:1<=l.ifs.length
     ·have b7:max (l.ifs.length:Int) 1=l.ifs.length:=by omega
      have j8:(1:Int)<=(l.ifs.length:Int):=by omega
      have k0:=hI b7;clear b7;gi_wp2
      go_roundw
      case rel=>
       refine⟨(s:Int)-max (l.ifs.length:Int) 1,_,T',A2,n2,c2,rfl, ?_,by have:=g3.out;have:=b6.out;omega,by omega,by omega,i4,g54,g64, .inr ⟨g2.out,f9.out⟩,a9⟩;show _=_;rfl
      case measure=>simp only[intOf];omega
     ·have b7:max (l.ifs.length:Int) 1=1:=by omega
      have j8:(l.ifs.length:Int)<1:=by omega
      have k0:=hI b7;clear b7;gi_wp2
      go_roundw
      case rel=>
       refine⟨(s:Int)-max (l.ifs.length:Int) 1,_,T',A2,n2,c2,rfl, ?_,by have:=g3.out;have:=b6.out;omega,by omega,by omega,i4,g54,g64, .inr ⟨g2.out,f9.out⟩,a9⟩;show _=_;rfl
      case measure=>simp only[intOf];omega
    ·have HX:=hI hx;clear hx;gi_wp2;refine bodyPost_ret (results_none rfl _ _ _) rfl ?_;exact⟨⟨_,rfl⟩, .inr ⟨r,T,HX.out⟩⟩
  ·have a2:E7 l ws r=true:=by
    unfold E7;rw[HM.out,a8.out];simp;omega
   have a3:=hI a2;clear a2;gi_wp2
   go_end0
   exact⟨⟨_,rfl⟩, .inl ⟨r,a3.out,T,HJ.out⟩⟩
end Go.Proofs.YtaglfmlgbcmakaaGreatDoor
