/-
  law.run: what it returns; the replacements as they are reckoned.
  The iterator of law.run: what is asked of who uses it; laws that go from left to right.
  The iterator of law.run: laws that go from right to left.
-/
import Derived.Test.YtaglfmlgbcmakaaGreatDoorG09
set_option linter.all false
set_option maxRecDepth 100000
set_option maxHeartbeats 4000000
namespace Go.Proofs.YtaglfmlgbcmakaaGreatDoor
open Go.RowKit Go.Shelf
def Ad3 (w:World)(l:Bb)(a:Dl)(A:Option Addr)(n c:Nat)(e:Ending)(w':World):Prop:=
 ∃bw bl bk bm:Nat,e= .returned (.func (.func 204) #[] #[.pointer (some ⟨bw,0,none⟩), .pointer (some ⟨bl,0,none⟩), .pointer (some ⟨bk,0,none⟩), .pointer (some ⟨bm,0,none⟩)])∧
  w'.heap[bl]? =some (.cells (Bq l a) 55 (0,0))/\w'.heap[bw]? =some (.cells #[.slice A n c] 28 (0,0))∧
  w'.heap[bk]? =some (.cells #[.int .i64 l.ifs.length] 3 (0,0))/\w'.heap[bm]? =some (.cells #[.int .i64 l.outs.length] 3 (0,0))∧
  w.heap.size<=bw/\w.heap.size<=bl/\w.heap.size<=bk/\w.heap.size<=bm/\Below w.heap.size w w'
theorem Aer (l:Bb)(a:Dl)(A:Option Addr)(n c:Nat)(w:World):Calls Tryz.prog 198 #[Fj l a, .slice A n c] w (Ad3 w l a A n c):=by
 obtain⟨Wb,a3,a2,a1,a0,a5⟩:=Fe w l a;obtain⟨d0,d1,d2,d3⟩:=Cf a2;go_enter Tryz.func198,Tryz.ntmps198;go_wp2;clear a3 d0 d3;have u1:(Wb.alloc (.cells #[.slice A n c] 28)).cell? ⟨w.heap.size,15,none⟩=some (.slice a.Ai l.ifs.length a.ci):=(Cq a1).trans d1;have u2:(Wb.alloc (.cells #[.slice A n c] 28)).cell? ⟨w.heap.size,16,none⟩=some (.slice a.Ao l.outs.length a.co):=(Cq a1).trans d2;have ul:(Wb.alloc (.cells #[.slice A n c] 28)).heap[w.heap.size]? =some (.cells (Bq l a) 55 (0,0)):=(Aj a1).trans a2;have uw:(Wb.alloc (.cells #[.slice A n c] 28)).heap[Wb.heap.size]? =some (.cells #[.slice A n c] 28 (0,0)):=Ah rfl;have uB:Below w.heap.size w (Wb.alloc (.cells #[.slice A n c] 28)):=a0.alloc a0.size _;generalize(Wb.alloc (.cells #[.slice A n c] 28))=U at*;have a6:=lt_of_block ul;have a7:=lt_of_block uw;have UL:=hI ul;clear ul;have UW:=hI uw;clear uw;have UB:=hI uB;clear uB d1 d2;have a4:=a0.size;clear a2 a0
 go_region_held3 (fun w'=>w'.cell? ⟨w.heap.size,15,none⟩=some (.slice a.Ai l.ifs.length a.ci)/\w'.cell? ⟨w.heap.size,16,none⟩=some (.slice a.Ao l.outs.length a.co)) (first|(go_keep;done)|((try dsimp only);((repeat' apply And.intro)<;>(try simp(disch:=omega) only[Bv,Cq,World.cell?_drew])<;>first|assumption|(simp[*,go_sem];done)))) (fail)
 all_goals go_wp2
 all_goals
  go_ret;refine⟨Wb.heap.size,w.heap.size,_,_,rfl,(by repeat(first|exact UL.out|exact Ah sd|rw[Gl]|rw[Aj sd])),(by repeat(first|exact UW.out|exact Ah sd|rw[Gl]|rw[Aj sd])),(by repeat(first|exact UL.out|exact Ah sd|rw[Gl]|rw[Aj sd])),(by repeat(first|exact UL.out|exact Ah sd|rw[Gl]|rw[Aj sd])),by omega,rr,by omega,by omega,((UB.out.alloc (by omega) _).alloc (by simp;omega) _).drew⟩
/-! The replacements, as they are reckoned. -/
structure RS where
 at_:Int
 next:Int
 shift:Int
 now:List Snd
def Eu (l:Bb)(ws:List Snd)(r:RS):Bool:=
 if l.mode=1 then decide ((ws.length:Int)<r.at_+l.ifs.length)else if l.mode=2 then decide ((r.now.length:Int)<r.at_+l.ifs.length)else if l.mode=3 then decide (r.at_<0)else true
def Dd (l:Bb)(ws:List Snd)(r:RS):Option (Int×List Snd)×RS:=
 if l.mode=1 then
  if Fq l ws r.at_.toNat && decide (r.next<=r.at_)then
   let now:=r.now.take (r.at_+r.shift).toNat++H8 l ((ws.drop r.at_.toNat).take l.ifs.length)++ws.drop (r.at_.toNat+l.ifs.length)
   (some (r.at_,now),⟨r.at_+1,r.at_+max (l.ifs.length:Int) 1,r.shift+l.outs.length-l.ifs.length,now⟩)
  else(none,{r with at_:=r.at_+1})
 else if l.mode=2 then
  if Fq l r.now r.at_.toNat then(some (r.at_,Cg l r.now r.at_.toNat),⟨r.at_+l.outs.length+(if l.ifs.length=0 then 1 else 0),r.next,r.shift,Cg l r.now r.at_.toNat⟩)
  else(none,{r with at_:=r.at_+1})
 else
  if Fq l r.now r.at_.toNat then(some (r.at_,Cg l r.now r.at_.toNat),⟨r.at_-max (l.ifs.length:Int) 1,r.next,r.shift,Cg l r.now r.at_.toNat⟩)
  else(none,{r with at_:=r.at_-1})
def Ce (l:Bb)(ws:List Snd):RS:=if l.mode=3 then⟨(ws.length:Int)-l.ifs.length,0,0,ws⟩else⟨0,0,0,ws⟩
end Go.Proofs.YtaglfmlgbcmakaaGreatDoor
namespace Go.Proofs.YtaglfmlgbcmakaaGreatDoor
open Go.RowKit Go.Shelf
attribute [local go_sem] Oper.semAt_some
theorem Gy {P:Program}{m m' l:Nat}{args:Array Value}{W:World}{R:Ending->World->Prop}(h:YieldAt Fence.wide m P l args W R):YieldAt Fence.wide m' P l args W R:=by
 obtain⟨fn,tmps,assign,body,hy,h1,h2⟩:=h;exact⟨fn,tmps,assign,body,hy,h1,fun c cs _=>h2 c cs (room_wide _)⟩
structure TU where
 w:Nat->Prop
 u:Nat->Prop
def TU.all (T:TU)(k:Nat):Prop:=T.w k\/T.u k
structure N4 (lr bw bl bk bm:Nat)(l:Bb)(a:Dl)(A:Option Addr)(n c:Nat)(ws:List Snd)(B:Nat)(J Jx:RS->TU->World->Prop):Prop where
 hlt:∀r T W',J r T W'→∀k,T.all k->k<W'.heap.size
 hst:∀r T W' W'',J r T W'->Ag (fun k=>B<=k∧¬T.all k) W' W''->J r T W''
 hsx:∀r T W' W'',Jx r T W'->Ag (fun k=>B<=k∧¬T.all k) W' W''->Jx r T W''
 hrd:∀r T W',J r T W'->W'.heap[bl]? =some (.cells (Bq l a) 55 (0,0))/\W'.heap[bw]? =some (.cells #[.slice A n c] 28 (0,0))∧
  W'.heap[bk]? =some (.cells #[.int .i64 l.ifs.length] 3 (0,0))/\W'.heap[bm]? =some (.cells #[.int .i64 l.outs.length] 3 (0,0))/\E9 W' l a/\Ae W' A n c ws/\Cc W'
 hnd:∀r T W',J r T W'→∀k,T.all k→∀x,W'.heap[k]? ≠some (.deferred x)
 hnx:∀r T W',Jx r T W'→∀k,T.all k→∀x,W'.heap[k]? ≠some (.deferred x)
 hskip:∀r T W' r',Eu l ws r=false->Dd l ws r=(none,r')->J r T W'->J r' T W'
 hy:∀r T W' r' p now A' n' c',Eu l ws r=false->Dd l ws r=(some (p,now),r')->Ae W' A' n' c' now->(∀ad,A'=some ad->B<=ad.block∧¬T.all ad.block)->J r T W'->YieldAt Fence.wide 0 Tryz.prog lr #[.int .i64 p, .slice A' n' c'] W' (fun e W''=>
  (e= .returned (.bool true)/\now.length<=32∧∃T',J r' T' W''/\Ag T.w W' W''/\(∀k,T'.w k->T.w k\/W'.heap.size<=k)∧∀k,T'.all k->T.all k\/W'.heap.size<=k\/(0<n'∧∃ad,A'=some ad/\ad.block=k))\/(e= .returned (.bool false)/\Jx r T W''/\Ag T.w W' W''))
def Jq (B:Nat)(A:Option Addr)(n c:Nat)(ws:List Snd)(T:Nat->Prop)(w:World)(An:Option Addr)(nn cn:Nat)(now:List Snd):Prop:=
 (An=A/\nn=n/\cn=c/\now=ws)\/(Ae w An nn cn now/\(0<nn→∀ad,An=some ad->B+1<ad.block∧¬T ad.block/\ad.block<w.heap.size))
theorem Jq.word {B:Nat}{A:Option Addr}{n c:Nat}{ws:List Snd}{T:Nat->Prop}{w:World}{An:Option Addr}{nn cn:Nat}{now:List Snd}(h:Jq B A n c ws T w An nn cn now)(hw:Ae w A n c ws):Ae w An nn cn now:=by
 rcases h with⟨rfl,rfl,rfl,rfl⟩|⟨h,_⟩
 ·exact hw
 ·exact h
theorem Ae.keep {S:Nat->Prop}{w w':World}{A:Option Addr}{n c:Nat}{xs:List Snd}(h:Ae w A n c xs)(hk:Ag S w w')(hS:0<n→∀ad,A=some ad→¬S ad.block):Ae w' A n c xs:=by
 obtain⟨h1,h2,h3,h4,h5⟩:=h;refine⟨h1,h2,h3,h4,fun hn=> ?_⟩
 obtain⟨b,off,rfl,a0,hc⟩:=h5 hn;exact⟨b,off,rfl,Nat.lt_of_lt_of_le a0 hk.size,fun j v hv=>(World.cell?_of_block (hk.block b a0 (hS hn _ rfl))).trans (hc j v hv)⟩
theorem Jq.keep {B:Nat}{A:Option Addr}{n c:Nat}{ws:List Snd}{T T' S:Nat->Prop}{w w':World}{An:Option Addr}{nn cn:Nat}{now:List Snd}(h:Jq B A n c ws T w An nn cn now)(hk:Ag S w w')
  (hS:∀b,B+1<b->b<w.heap.size→¬T b→¬S b∧¬T' b):Jq B A n c ws T' w' An nn cn now:=by
 rcases h with h|⟨h,hb⟩
 ·exact .inl h
 ·refine .inr ⟨h.keep hk fun hn ad had=>(hS _ (hb hn ad had).1 (hb hn ad had).2.2 (hb hn ad had).2.1).1,fun hn ad had=>⟨(hb hn ad had).1,(hS _ (hb hn ad had).1 (hb hn ad had).2.2 (hb hn ad had).2.1).2,Nat.lt_of_lt_of_le (hb hn ad had).2.2 hk.size⟩⟩
theorem Le {B:Nat}{T:Nat->Prop}{w w':World}(hs:Fu B w w')(hnd:∀k,T k→∀x,w.heap[k]? ≠some (.deferred x)):Ag (fun k=>B<=k∧¬T k) w w':=
 ⟨hs.os,hs.tape,hs.output,by rw[hs.size];exact rr,fun k _ hn=>by
  rcases hs.block k with e|⟨e,x,hx⟩
  ·exact e
  ·exact absurd ⟨e,fun h=>hnd k h x hx⟩ hn⟩
theorem Uz (m lr bw bl bk bm:Nat)(hm:1<=m)(l:Bb)(a:Dl)(A:Option Addr)(n c:Nat)(ws:List Snd)(W:World)(J Jx:RS->TU->World->Prop)(T0:TU)
  (H:N4 lr bw bl bk bm l a A n c ws W.heap.size J Jx) (h0:J (Ce l ws) T0 W) (hmode:l.mode=2) (hn:n<=32) (hfit:∀x∈l.outs,Ez x l.ifs.length=true) (ho:l.outs.length<=64) (hk:l.ifs.length<=64):
  CallsIn Fence.wide m Tryz.prog 204 #[.func (.yield lr) #[] #[], .pointer (some ⟨bw,0,none⟩), .pointer (some ⟨bl,0,none⟩), .pointer (some ⟨bk,0,none⟩), .pointer (some ⟨bm,0,none⟩)] W fun e W'=>
   (∃v,e= .returned v)/\((∃r T,Eu l ws r=true/\J r T W')∨∃r T,Jx r T W'):=by
 have g8:=H.hlt _ _ _ h0;obtain⟨r1,r2,r3,r4,r5,r6,r7⟩:=H.hrd _ _ _ h0;have k9:=lt_of_block r1;have k7:=lt_of_block r2;have m1:=lt_of_block r3;have k4:=lt_of_block r4;obtain⟨d0,d1,d2,d3⟩:=Cf r1;have e2:=cell_of_one r2;have i4:ws.length=n:=r6.len;have m2:=hI i4;clear i4;rw[hmode]at d3;have HM:=hI hmode;clear hmode;have HU:=hI H;clear H;have HF:=hI hfit;clear hfit;have H0:=hI h0;clear h0 r1 r2 r3 r4 r5 r6 r7 d0 d1 d2;refine callsIn_of_wp Tryz.func204 rfl trivial ?_;simp only[Tryz.ntmps204,List.size_toArray,List.length_cons,List.length_nil,Nat.reduceAdd,Nat.reduceSub,Array.replicate_succ,Array.replicate_zero,List.push_toArray,List.append_toArray,List.nil_append,List.cons_append];gi_wp2;have g5:((W.alloc (.cells #[.func (.yield lr) #[] #[]] 216)).alloc (.cells #[.slice A n c] 28)).heap[W.heap.size]? =some (.cells #[.func (.yield lr) #[] #[]] 216 (0,0)):=hpt;have g6:((W.alloc (.cells #[.func (.yield lr) #[] #[]] 216)).alloc (.cells #[.slice A n c] 28)).heap[W.heap.size+1]? =some (.cells #[.slice A n c] 28 (0,0)):=hpt;have g7:Below W.heap.size W ((W.alloc (.cells #[.func (.yield lr) #[] #[]] 216)).alloc (.cells #[.slice A n c] 28)):=bel;generalize((W.alloc (.cells #[.func (.yield lr) #[] #[]] 216)).alloc (.cells #[.slice A n c] 28))=W0 at*;have J0:=hI (HU.out.hst _ T0 W W0 H0.out (Au g7));have k8:=lt_of_block g6;have G5:=hI g5;clear g5;have G6:=hI g6;clear g6;clear g7 e2 d3
 gi_loopw [10] (fun i wr=>∃(s:Nat) (r:RS) (T:TU) (An:Option Addr) (nn cn:Nat),i= .int .i64 s/\Hid (r.at_=(s:Int))/\nn<=32/\s<=nn+1/\Hid (J r T wr)∧
   Hid (wr.heap[W.heap.size]? =some (.cells #[.func (.yield lr) #[] #[]] 216 (0,0)))/\Hid (wr.heap[W.heap.size+1]? =some (.cells #[.slice An nn cn] 28 (0,0)))∧
   Hid (Jq W.heap.size A n c ws T.w wr An nn cn r.now)/\Hid (¬T.all W.heap.size∧¬T.all (W.heap.size+1)))
  (fun i wr=>match wr.cell? ⟨W.heap.size+1,0,none⟩with|some (.slice _ q _)=>q+2-(intOf i).toNat|_=>0)
 case atStart=>
  refine⟨0,Ce l ws,T0,A,n,c,rfl, ?_,hn,by omega,J0,G5,G6, .inl ⟨rfl,rfl,rfl, ?_⟩,fun h=>by have:=g8 _ h;omega,fun h=>by have:=g8 _ h;omega⟩
  ·show(Ce l ws).at_=_;unfold Ce;rw[if_neg (by rw[HM.out];decide)];rfl
  ·unfold Ce;rw[if_neg (by rw[HM.out];decide)]
 case round=>
  obtain⟨s,r,T,An,nn,cn,rfl,b2,j6,m0,HJ,d8,a7,a9,a5⟩:=hrel;obtain⟨r1,r2,r3,r4,r5,r6,r7⟩:=HU.out.hrd _ _ _ HJ.out;have R1:=hI r1;clear r1;have d9:=lt_of_block R1.out;have e3:=cell_of_one r3;have e4:=cell_of_one r4;have e5:=cell_of_one d8.out;have e6:=cell_of_one a7.out;have f6:=free_of_one a7.out;have j4:=lt_of_block a7.out;have R5:=hI r5;clear r5;have R6:=hI r6;clear r6;have R7:=hI r7;clear r7 r2;have R3:=hI r3;have R4:=hI r4;clear r3 r4;have g3:=hI (a9.out.word R6.out);have i2:r.now.length=nn:=g3.out.len;have d7:=hI i2;clear i2;by_cases hin:s+l.ifs.length<=nn
  ·have f2:((s:Int)+(l.ifs.length:Int)<=(nn:Int)):=by omega
   have a2:Eu l ws r=false:=by
    unfold Eu;rw[HM.out,b2.out,d7.out];simp;omega
   have a3:=hI a2;clear a2
   gi_wp2_with (refine De rfl (.tmp 2) rfl bl l a rfl R1.out ?_)
   refine⟨trivial, ?_⟩;refine(callsIn_wide.2 (Ac3 l a An nn cn r.now s wr R5.out g3.out R7.out (by omega) (by omega) hk)).mono ?_;rintro e w1 ⟨rfl,a1⟩;have j5:=a1.size;have d5:=hI (HU.out.hst _ _ _ _ HJ.out (Au (S:=fun k=>W.heap.size<=k∧¬T.all k) a1));have G51:=hI ((a1.block _ (lt_of_block d8.out)).trans d8.out);have G61:=hI ((a1.block _ j4).trans a7.out);have a4:=hI (a9.out.keep (S:=fun _=>False) (T':=T.w) (Au a1) (fun b _ _ h=>⟨fun h=>h,h⟩));have R31:=hI ((a1.block _ (lt_of_block R3.out)).trans R3.out);have R41:=hI ((a1.block _ (lt_of_block R4.out)).trans R4.out);have R11:=hI ((a1.block _ d9).trans R1.out);have R51:=hI (R5.out.below a1 rr);have R61:=hI (R6.out.below a1 rr);have R71:=hI (R7.out.below a1 rr);clear a1 e3 e4 e5 e6 f6
   cases hh:Fq l r.now s with
   |false=>
    have b6:Dd l ws r=(none,{r with at_:=r.at_+1}):=by
     unfold Dd;rw[HM.out,b2.out];simp[hh]
    have f7:=hI b6;clear b6 hh;have f5:=cell_of_one G61.out;have b9:=cell_of_one a7.out;gi_wp2
    go_roundw
    case rel=>
     exact⟨s+1,{r with at_:=r.at_+1},T,An,nn,cn,by go_num,by show r.at_+1=_;rw[b2.out];omega,j6,by omega,HU.out.hskip _ _ _ _ a3.out f7.out d5.out,G51,G61,a4,a5⟩
    case measure=>rw[f5,b9];simp[intOf];omega
   |true=>
    have HH:=hI hh;clear hh;have f9:=hI (a4.out.word R61.out);have f5:=cell_of_one G61.out;have j0:=cell_of_one R31.out;have k2:=cell_of_one R41.out
    gi_wp2_with (refine De rfl (.tmp 2) rfl bl l a rfl R11.out ?_)
    refine⟨trivial, ?_⟩;refine(callsIn_wide.2 (Qo l a An nn cn r.now s w1 R51.out f9.out HF.out ho hin (by omega))).mono ?_;rintro e w2 ⟨A2,n2,c2,rfl,i6,b5,d6⟩;have j9:=b5.size;have g52:=(b5.block _ (lt_of_block G51.out)).trans G51.out;have g62:=(b5.block _ (lt_of_block G61.out)).trans G61.out;have i3:Ag (fun k=>W.heap.size<=k∧¬T.all k) w1 (w2.setCell ⟨W.heap.size+1,0,none⟩ (.slice A2 n2 c2)):=(Au b5).setCell (p:=⟨W.heap.size+1,0,none⟩) ⟨by simp,a5.out.2⟩ _;have k3:=hI (HU.out.hst _ _ _ _ d5.out i3);have f4:Ae (w2.setCell ⟨W.heap.size+1,0,none⟩ (.slice A2 n2 c2)) A2 n2 c2 (Cg l r.now s):=i6.keep (S:=fun k=>k=W.heap.size+1) ((Ag.refl (fun k=>k=W.heap.size+1) _).setCell (p:=⟨W.heap.size+1,0,none⟩) rfl _) (fun _ ad a0 h=>by have:=d6 ad a0;omega);have f8:∀ad,A2=some ad->w1.heap.size<=ad.block:=d6;have G53:=hI ((Below.heap_setCell w2 ⟨W.heap.size+1,0,none⟩ (.slice A2 n2 c2) W.heap.size (by simp)).trans g52);have G63:=hI (one_setCell (u:= .slice A2 n2 c2) g62);have f62:=free_of_one g62;have j3:=cell_of_one g62;have i9:=cell_of_one g52
    have b6:Dd l ws r=(some ((s:Int),Cg l r.now s),⟨(s:Int)+l.outs.length+(if l.ifs.length=0 then 1 else 0),r.next,r.shift,Cg l r.now s⟩):=by
     unfold Dd;rw[HM.out,b2.out];simp[HH.out]
    have f7:=hI b6;clear b6;obtain⟨fn,tmps,assign,body,j7,hR⟩:=Gy (m':=m-1) (HU.out.hy r T _ _ _ _ A2 n2 c2 a3.out f7.out f4 (fun ad a0=>by have h1:=f8 ad a0;exact⟨by omega,fun h=>by have:=HU.out.hlt _ _ _ d5.out _ h;omega⟩) k3.out);have HR:=hI hR;clear hR;have f3:=hI f4;clear f4;have j1:=hI f8;clear f8 d6 b5 i6 g52 g62 i3 f5 j0 k2;gi_wp2;refine HR.out.mono ?_;rintro e W4 (⟨rfl,a8,T',f1,b1,g4,f0⟩|⟨rfl,hx,_⟩)
    ·obtain⟨q1,q2,q3,q4,q5,q6,q7⟩:=HU.out.hrd _ _ _ f1;have k5:=cell_of_one q3;have k6:=cell_of_one q4;have g9:=hI f1;have g0:=f3.out.len
     have i0:n2=nn-l.ifs.length+l.outs.length:=by
      rw[←g0];unfold Cg H8
      have:=d7.out
      simp;omega
     have j2:=b1.size;have g54:=hI ((b1.block _ (lt_of_block G53.out) (fun h=>a5.out.1 (.inl h))).trans G53.out);have g64:=hI ((b1.block _ (lt_of_block G63.out) (fun h=>a5.out.2 (.inl h))).trans G63.out);have g1:=HU.out.hlt _ _ _ d5.out;have k0:=lt_of_block G61.out
     have a6:0<n2→∀ad,A2=some ad->W.heap.size+1<ad.block∧¬T.w ad.block/\ad.block<(w2.setCell ⟨W.heap.size+1,0,none⟩ (.slice A2 n2 c2)).heap.size:=by
      intro hn ad a0;obtain⟨b,off,hb,k1,_⟩:=f3.out.2.2.2.2 hn;have h1:=j1.out ad a0;rw[a0]at hb;injection hb with hb
      subst hb;exact⟨by omega,fun h=>by have:=g1 _ (.inl h);omega,k1⟩
     have d4:0<n2→∀ad,A2=some ad->W.heap.size+1<ad.block∧¬T'.w ad.block/\ad.block<W4.heap.size:=fun hn ad a0=>
      ⟨(a6 hn ad a0).1,fun h=>(g4 _ h).elim (a6 hn ad a0).2.1 (fun h2=>by have:=(a6 hn ad a0).2.2;omega),Nat.lt_of_lt_of_le (a6 hn ad a0).2.2 j2⟩
     have i1:Ae W4 A2 n2 c2 (Cg l r.now s):=f3.out.keep b1 (fun hn ad a0=>(a6 hn ad a0).2.1);clear a6 g1 k0
     have b3:¬T'.all W.heap.size∧¬T'.all (W.heap.size+1):=by
      have h1:=lt_of_block G63.out;exact⟨fun h=>(f0 _ h).elim a5.out.1 (fun h2=>h2.elim (fun h2=>by omega) (fun⟨hn,ad,a0,hb⟩=>by have:=(d4 hn ad a0).1;omega)),fun h=>(f0 _ h).elim a5.out.2 (fun h2=>h2.elim (fun h2=>by omega) (fun⟨hn,ad,a0,hb⟩=>by have:=(d4 hn ad a0).1;omega))⟩
     have b7:=hI b3;have g2:=hI i1;have i7:=hI d4;have b0:=hI a8;have b8:=hI i0;have i8:=hI g0;have i5:=cell_of_one g64.out;have b9:=cell_of_one a7.out;clear q1 q2 q3 q4 q5 q6 q7 f1 b1 g4 f0 b3 i1 d4 a8 i0 g0 j3 i9 f62 j7;by_cases hk0:l.ifs.length=0
     ·have j8:((l.ifs.length:Int)==0)=true:=by rw[hk0];rfl
      have b4:=hI hk0;clear hk0;gi_wp2
      go_roundw
      case rel=>
       refine⟨s+l.outs.length+1,_,T',A2,n2,c2,by go_num, ?_,by have:=i8.out;have:=b0.out;omega,by have:=b8.out;omega,g9,g54,g64, .inr ⟨g2.out,i7.out⟩,b7⟩;show _=_;simp only[b4.out];simp
      case measure=>rw[i5,b9];simp only[intOf];have:=b8.out;have:=b4.out;omega
     ·have j8:((l.ifs.length:Int)==0)=false:=by simpa using hk0
      have b4:=hI hk0;clear hk0;gi_wp2
      go_roundw
      case rel=>
       refine⟨s+l.outs.length,_,T',A2,n2,c2,by go_num, ?_,by have:=i8.out;have:=b0.out;omega,by have:=b8.out;omega,g9,g54,g64, .inr ⟨g2.out,i7.out⟩,b7⟩;show _=_;simp only[b4.out];simp
      case measure=>rw[i5,b9];simp only[intOf];have:=b8.out;have:=b4.out;omega
    ·have HX:=hI hx;clear hx;gi_wp2;refine bodyPost_ret (results_none rfl _ _ _) rfl ?_;exact⟨⟨_,rfl⟩, .inr ⟨r,T,HX.out⟩⟩
  ·have f2:decide ((s:Int)+(l.ifs.length:Int)<=(nn:Int))=false:=by simp;omega
   have a2:Eu l ws r=true:=by
    unfold Eu;rw[HM.out,b2.out,d7.out];simp;omega
   have a3:=hI a2;clear a2;gi_wp2
   go_end0
   exact⟨⟨_,rfl⟩, .inl ⟨r,T,a3.out,HJ.out⟩⟩
end Go.Proofs.YtaglfmlgbcmakaaGreatDoor
namespace Go.Proofs.YtaglfmlgbcmakaaGreatDoor
open Go.RowKit Go.Shelf
attribute [local go_sem] Oper.semAt_some
theorem Xi (m lr bw bl bk bm:Nat)(hm:1<=m)(l:Bb)(a:Dl)(A:Option Addr)(n c:Nat)(ws:List Snd)(W:World)(J Jx:RS->TU->World->Prop)(T0:TU)
  (H:N4 lr bw bl bk bm l a A n c ws W.heap.size J Jx) (h0:J (Ce l ws) T0 W) (hmode:l.mode=3) (hn:n<=32) (hfit:∀x∈l.outs,Ez x l.ifs.length=true) (ho:l.outs.length<=64) (hk:l.ifs.length<=64):
  CallsIn Fence.wide m Tryz.prog 204 #[.func (.yield lr) #[] #[], .pointer (some ⟨bw,0,none⟩), .pointer (some ⟨bl,0,none⟩), .pointer (some ⟨bk,0,none⟩), .pointer (some ⟨bm,0,none⟩)] W fun e W'=>
   (∃v,e= .returned v)/\((∃r T,Eu l ws r=true/\J r T W')∨∃r T,Jx r T W'):=by
 have g1:=H.hlt _ _ _ h0;obtain⟨r1,r2,r3,r4,r5,r6,r7⟩:=H.hrd _ _ _ h0;have m1:=lt_of_block r1;have k8:=lt_of_block r2;have m3:=lt_of_block r3;have k5:=lt_of_block r4;obtain⟨d0,d1,d2,d3⟩:=Cf r1;have e2:=cell_of_one r2;have e3:=cell_of_one r3;have i1:ws.length=n:=r6.len;have k2:=hI i1;clear i1;rw[hmode]at d3;have HM:=hI hmode;clear hmode;have HU:=hI H;clear H;have HF:=hI hfit;clear hfit;have H0:=hI h0;clear h0 r1 r2 r3 r4 r5 r6 r7 d0 d1 d2;refine callsIn_of_wp Tryz.func204 rfl trivial ?_;simp only[Tryz.ntmps204,List.size_toArray,List.length_cons,List.length_nil,Nat.reduceAdd,Nat.reduceSub,Array.replicate_succ,Array.replicate_zero,List.push_toArray,List.append_toArray,List.nil_append,List.cons_append];gi_wp2;have g5:((W.alloc (.cells #[.func (.yield lr) #[] #[]] 216)).alloc (.cells #[.slice A n c] 28)).heap[W.heap.size]? =some (.cells #[.func (.yield lr) #[] #[]] 216 (0,0)):=hpt;have g6:((W.alloc (.cells #[.func (.yield lr) #[] #[]] 216)).alloc (.cells #[.slice A n c] 28)).heap[W.heap.size+1]? =some (.cells #[.slice A n c] 28 (0,0)):=hpt;have g7:Below W.heap.size W ((W.alloc (.cells #[.func (.yield lr) #[] #[]] 216)).alloc (.cells #[.slice A n c] 28)):=bel;generalize((W.alloc (.cells #[.func (.yield lr) #[] #[]] 216)).alloc (.cells #[.slice A n c] 28))=W0 at*;have J0:=hI (HU.out.hst _ T0 W W0 H0.out (Au g7));have m0:=lt_of_block g6;have G5:=hI g5;clear g5;have G6:=hI g6;clear g6;clear g7 e2 d3 e3
 gi_loopw [11] (fun i wr=>∃(x:Int) (r:RS) (T:TU) (An:Option Addr) (nn cn:Nat),i= .int .i64 x/\Hid (r.at_=x)/\nn<=32/\x<=4000∧ -100<=x/\Hid (J r T wr)∧
   Hid (wr.heap[W.heap.size]? =some (.cells #[.func (.yield lr) #[] #[]] 216 (0,0)))/\Hid (wr.heap[W.heap.size+1]? =some (.cells #[.slice An nn cn] 28 (0,0)))∧
   Hid (Jq W.heap.size A n c ws T.w wr An nn cn r.now)/\Hid (¬T.all W.heap.size∧¬T.all (W.heap.size+1)))
  (fun i wr=>(intOf i+1).toNat)
 case atStart=>
  refine⟨(n:Int)-(l.ifs.length:Int),Ce l ws,T0,A,n,c,rfl, ?_,hn,by omega,by omega,J0,G5,G6, .inl ⟨rfl,rfl,rfl, ?_⟩,fun h=>by have:=g1 _ h;omega,fun h=>by have:=g1 _ h;omega⟩
  ·show(Ce l ws).at_=_;unfold Ce;rw[if_pos HM.out,k2.out]
  ·unfold Ce;rw[if_pos HM.out]
 case round=>
  obtain⟨x,r,T,An,nn,cn,rfl,b2,j2,m2,k4,HJ,d5,a7,a9,a5⟩:=hrel;obtain⟨r1,r2,r3,r4,r5,r6,r7⟩:=HU.out.hrd _ _ _ HJ.out;have R1:=hI r1;clear r1;have d6:=lt_of_block R1.out;have e3:=cell_of_one r3;have e4:=cell_of_one r4;have e5:=cell_of_one d5.out;have e6:=cell_of_one a7.out;have f6:=free_of_one a7.out;have j0:=lt_of_block a7.out;have R5:=hI r5;clear r5;have R6:=hI r6;clear r6;have R7:=hI r7;clear r7 r2;have R3:=hI r3;have R4:=hI r4;clear r3 r4;have f8:=hI (a9.out.word R6.out);have g9:r.now.length=nn:=f8.out.len;have f9:=hI g9;clear g9;by_cases hin0:0<=x
  ·obtain⟨s,rfl⟩:∃s:Nat,x=s:=⟨x.toNat,by omega⟩
   have a2:Eu l ws r=false:=by
    unfold Eu;rw[HM.out,b2.out];simp
   have a3:=hI a2;clear a2
   gi_wp2_with (refine De rfl (.tmp 2) rfl bl l a rfl R1.out ?_)
   refine⟨trivial, ?_⟩;refine(callsIn_wide.2 (Ac3 l a An nn cn r.now s wr R5.out f8.out R7.out (by omega) (by omega) hk)).mono ?_;rintro e w1 ⟨rfl,a1⟩;have j1:=a1.size;have b9:=hI (HU.out.hst _ _ _ _ HJ.out (Au (S:=fun k=>W.heap.size<=k∧¬T.all k) a1));have G51:=hI ((a1.block _ (lt_of_block d5.out)).trans d5.out);have G61:=hI ((a1.block _ j0).trans a7.out);have a4:=hI (a9.out.keep (S:=fun _=>False) (T':=T.w) (Au a1) (fun b _ _ h=>⟨fun h=>h,h⟩));have R31:=hI ((a1.block _ (lt_of_block R3.out)).trans R3.out);have R41:=hI ((a1.block _ (lt_of_block R4.out)).trans R4.out);have R11:=hI ((a1.block _ d6).trans R1.out);have R51:=hI (R5.out.below a1 rr);have R61:=hI (R6.out.below a1 rr);have R71:=hI (R7.out.below a1 rr);clear a1 e3 e4 e5 e6 f6
   cases hh:Fq l r.now s with
   |false=>
    have b5:Dd l ws r=(none,{r with at_:=r.at_-1}):=by
     unfold Dd;rw[HM.out,b2.out];simp[hh]
    have f1:=hI b5;clear b5 hh;have g8:=cell_of_one G61.out;have j9:=cell_of_one a7.out;gi_wp2
    go_roundw
    case rel=>
     exact⟨(s:Int)-1,{r with at_:=r.at_-1},T,An,nn,cn,rfl,by show r.at_-1=_;rw[b2.out],j2,by omega,by omega,HU.out.hskip _ _ _ _ a3.out f1.out b9.out,G51,G61,a4,a5⟩
    case measure=>simp[intOf]
   |true=>
    have HH:=hI hh
    have j3:s+l.ifs.length<=nn:=by
     unfold Fq at hh;simp only[Bool.and_eq_true,decide_eq_true_eq]at hh;rw[f9.out]at hh;exact hh.1.1
    clear hh;have f3:=hI (a4.out.word R61.out);have g8:=cell_of_one G61.out;have i6:=cell_of_one R31.out;have k1:=cell_of_one R41.out
    gi_wp2_with (refine De rfl (.tmp 2) rfl bl l a rfl R11.out ?_)
    refine⟨trivial, ?_⟩;refine(callsIn_wide.2 (Qo l a An nn cn r.now s w1 R51.out f3.out HF.out ho j3 (by omega))).mono ?_;rintro e w2 ⟨A2,n2,c2,rfl,i2,b4,d4⟩;have j6:=b4.size;have g52:=(b4.block _ (lt_of_block G51.out)).trans G51.out;have g62:=(b4.block _ (lt_of_block G61.out)).trans G61.out;have i0:Ag (fun k=>W.heap.size<=k∧¬T.all k) w1 (w2.setCell ⟨W.heap.size+1,0,none⟩ (.slice A2 n2 c2)):=(Au b4).setCell (p:=⟨W.heap.size+1,0,none⟩) ⟨by simp,a5.out.2⟩ _;have k3:=hI (HU.out.hst _ _ _ _ b9.out i0);have f0:Ae (w2.setCell ⟨W.heap.size+1,0,none⟩ (.slice A2 n2 c2)) A2 n2 c2 (Cg l r.now s):=i2.keep (S:=fun k=>k=W.heap.size+1) ((Ag.refl (fun k=>k=W.heap.size+1) _).setCell (p:=⟨W.heap.size+1,0,none⟩) rfl _) (fun _ ad a0 h=>by have:=d4 ad a0;omega);have f2:∀ad,A2=some ad->w1.heap.size<=ad.block:=d4;have G53:=hI ((Below.heap_setCell w2 ⟨W.heap.size+1,0,none⟩ (.slice A2 n2 c2) W.heap.size (by simp)).trans g52);have G63:=hI (one_setCell (u:= .slice A2 n2 c2) g62);have f62:=free_of_one g62;have i9:=cell_of_one g62;have i5:=cell_of_one g52
    have b5:Dd l ws r=(some ((s:Int),Cg l r.now s),⟨(s:Int)-max (l.ifs.length:Int) 1,r.next,r.shift,Cg l r.now s⟩):=by
     unfold Dd;rw[HM.out,b2.out];simp[HH.out]
    have f1:=hI b5;clear b5;obtain⟨fn,tmps,assign,body,j4,hR⟩:=Gy (m':=m-1) (HU.out.hy r T _ _ _ _ A2 n2 c2 a3.out f1.out f0 (fun ad a0=>by have h1:=f2 ad a0;exact⟨by omega,fun h=>by have:=HU.out.hlt _ _ _ b9.out _ h;omega⟩) k3.out);have HR:=hI hR;clear hR;have d9:=hI f0;clear f0;have i7:=hI f2;clear f2 d4 b4 i2 g52 g62 i0 g8 i6 k1;gi_wp2;refine HR.out.mono ?_;rintro e W4 (⟨rfl,a8,T',d8,b1,g0,d7⟩|⟨rfl,hx,_⟩)
    ·obtain⟨q1,q2,q3,q4,q5,q6,q7⟩:=HU.out.hrd _ _ _ d8;have k6:=cell_of_one q3;have k7:=cell_of_one q4;have g2:=hI d8;have f4:=d9.out.len
     have g3:n2=nn-l.ifs.length+l.outs.length:=by
      rw[←f4];unfold Cg H8
      have:=f9.out
      simp;omega
     have i8:=b1.size;have g54:=hI ((b1.block _ (lt_of_block G53.out) (fun h=>a5.out.1 (.inl h))).trans G53.out);have g64:=hI ((b1.block _ (lt_of_block G63.out) (fun h=>a5.out.2 (.inl h))).trans G63.out);have f5:=HU.out.hlt _ _ _ b9.out;have j7:=lt_of_block G61.out
     have a6:0<n2→∀ad,A2=some ad->W.heap.size+1<ad.block∧¬T.w ad.block/\ad.block<(w2.setCell ⟨W.heap.size+1,0,none⟩ (.slice A2 n2 c2)).heap.size:=by
      intro hn ad a0;obtain⟨b,off,hb,k0,_⟩:=d9.out.2.2.2.2 hn;have h1:=i7.out ad a0;rw[a0]at hb;injection hb with hb
      subst hb;exact⟨by omega,fun h=>by have:=f5 _ (.inl h);omega,k0⟩
     have b8:0<n2→∀ad,A2=some ad->W.heap.size+1<ad.block∧¬T'.w ad.block/\ad.block<W4.heap.size:=fun hn ad a0=>
      ⟨(a6 hn ad a0).1,fun h=>(g0 _ h).elim (a6 hn ad a0).2.1 (fun h2=>by have:=(a6 hn ad a0).2.2;omega),Nat.lt_of_lt_of_le (a6 hn ad a0).2.2 i8⟩
     have g4:Ae W4 A2 n2 c2 (Cg l r.now s):=d9.out.keep b1 (fun hn ad a0=>(a6 hn ad a0).2.1);clear a6 f5 j7
     have b3:¬T'.all W.heap.size∧¬T'.all (W.heap.size+1):=by
      have h1:=lt_of_block G63.out;exact⟨fun h=>(d7 _ h).elim a5.out.1 (fun h2=>h2.elim (fun h2=>by omega) (fun⟨hn,ad,a0,hb⟩=>by have:=(b8 hn ad a0).1;omega)),fun h=>(d7 _ h).elim a5.out.2 (fun h2=>h2.elim (fun h2=>by omega) (fun⟨hn,ad,a0,hb⟩=>by have:=(b8 hn ad a0).1;omega))⟩
     have b7:=hI b3;have f7:=hI g4;have i3:=hI b8;have b0:=hI a8;have k9:=hI g3;have i4:=hI f4;have m4:=cell_of_one g64.out;have j9:=cell_of_one a7.out;clear q1 q2 q3 q4 q5 q6 q7 d8 b1 g0 d7 b3 g4 b8 a8 g3 f4 i9 i5 f62 j4;by_cases hk0:1<=l.ifs.length
     ·have b6:max (l.ifs.length:Int) 1=l.ifs.length:=by omega
      have j5:(1:Int)<=(l.ifs.length:Int):=by omega
      have j8:=hI b6;clear b6;gi_wp2
      go_roundw
      case rel=>
       refine⟨(s:Int)-max (l.ifs.length:Int) 1,_,T',A2,n2,c2,rfl, ?_,by have:=i4.out;have:=b0.out;omega,by omega,by omega,g2,g54,g64, .inr ⟨f7.out,i3.out⟩,b7⟩;show _=_;rfl
      case measure=>simp only[intOf];omega
     ·have b6:max (l.ifs.length:Int) 1=1:=by omega
      have j5:(l.ifs.length:Int)<1:=by omega
      have j8:=hI b6;clear b6;gi_wp2
      go_roundw
      case rel=>
       refine⟨(s:Int)-max (l.ifs.length:Int) 1,_,T',A2,n2,c2,rfl, ?_,by have:=i4.out;have:=b0.out;omega,by omega,by omega,g2,g54,g64, .inr ⟨f7.out,i3.out⟩,b7⟩;show _=_;rfl
      case measure=>simp only[intOf];omega
    ·have HX:=hI hx;clear hx;gi_wp2;refine bodyPost_ret (results_none rfl _ _ _) rfl ?_;exact⟨⟨_,rfl⟩, .inr ⟨r,T,HX.out⟩⟩
  ·have a2:Eu l ws r=true:=by
    unfold Eu;rw[HM.out,b2.out];simp;omega
   have a3:=hI a2;clear a2;gi_wp2
   go_end0
   exact⟨⟨_,rfl⟩, .inl ⟨r,a3.out,T,HJ.out⟩⟩
end Go.Proofs.YtaglfmlgbcmakaaGreatDoor
