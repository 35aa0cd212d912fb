/-
  derive.outcome, derive.rescue, derive.attempt.
  derive.rescue, as a deferred call; how a function leaves that defers it.
  derive.Derive, derive.Part.
  Words collected into a captured slice while a function is ranged over.
  Forms of a derivation, in plain words.
  Forms of a derivation that does not fail.
-/
import Derived.RecoverIn
import Derived.Test.YtaglfmlgbcmakaaGreatDoorG13
set_option linter.all false
set_option maxRecDepth 100000
set_option maxHeartbeats 4000000
namespace Go.Proofs.YtaglfmlgbcmakaaGreatDoor
open Go.RowKit Go.Shelf
attribute [local go_sem] Oper.semAt_some
def Al6 (w:World)(r:Int×List (List Snd))(e:Ending)(w':World):Prop:=
 Below w.heap.size w w'/\((r.1=0∧∃A n c x,r.2.getLast? =some x/\e= .returned (.slice A n c)/\Ak w' A n c x∧∀ad,A=some ad->w.heap.size<=ad.block)∨
  (r.1≠0/\e= .panicked [{v:= .iface 196 (.int .i64 r.1),recovered:=false}]))
theorem Pg {fn:Func}{p:Tmp}(h:fn.results= #[.cell p 28])(tmps:Array Value)(w:World)(b:Nat)(A:Option Addr)(n c:Nat)(hp:tmps.getD p undef= .pointer (some ⟨b,0,none⟩))(hr:w.cell? ⟨b,0,none⟩=some (.slice A n c)):
  (results fn tmps).run Tryz.prog w= .ok (.slice A n c) w:=by
 have a0:tmps[p]?.getD undef= .pointer (some ⟨b,0,none⟩):=by simpa using hp
 simp[results,h,a0,asAddr,loadVar,go_sem,hr]
theorem Ad2 (A:Option Addr)(n c:Nat)(xs:List Cb)(Aw:Option Addr)(nw cw:Nat)(ws:List Snd)(w:World)(hx:Cf w A n c xs)(hw:Ak w Aw nw cw ws)(hT:Cw w)(hnw:nw<=4096):
  Calls Tryz.prog 112 #[.slice A n c, .slice Aw nw cw] w (Al6 w (Bq (Au xs) ws)):=by
 have HX:=hI hx;clear hx;have HW:=hI hw;clear hw;have HT:=hI hT;clear hT;refine(callsIn_wide (n:=9)).1 (callsIn_of_wp_marks Tryz.func112 rfl trivial ?_ rfl);simp only[Tryz.ntmps112,List.size_toArray,List.length_cons,List.length_nil,Nat.reduceAdd,Nat.reduceSub,Array.replicate_succ,Array.replicate_zero,List.push_toArray,List.append_toArray,List.nil_append,List.cons_append];gi_wp2;have k4:(w.alloc (.cells #[.slice none 0 0] 28)).heap[w.heap.size]? =some (.cells #[.slice none 0 0] 28 (0,0)):=Am rfl;have kB:Below w.heap.size w (w.alloc (.cells #[.slice none 0 0] 28)):=bel;generalize(w.alloc (.cells #[.slice none 0 0] 28))=V0 at*;refine⟨trivial, ?_⟩;refine(callsIn_wide.2 (Ajx A n c Aw nw cw V0)).mono ?_;rintro e w2 ⟨bw,bl,rfl,r1,r2,s1,s2,a7⟩;have h4:=hI ((a7.block _ (lt_of_block k4)).trans k4);have a2:=hI (kB.trans (a7.mono kB.size));have l4:=lt_of_block k4;have l5:=lt_of_block r1;have l6:=lt_of_block r2;have R1:=hI r1;clear r1;have R2:=hI r2;clear r2;clear a7 k4 kB;gi_wp2;obtain⟨b4,e4⟩:∃b4,b4=w.heap.size:=⟨_,rfl⟩;rw[←e4];rw[←e4]at h4 l4;have d7:=Nat.le_of_eq e4.symm;have d6:=hI e4;clear e4;refine Fl (gf:=172) (lb:= #[.pointer (some ⟨bw,0,none⟩), .pointer (some ⟨bl,0,none⟩)]) rfl (enters_of Tryz.func172 (by kernel_rfl) rfl) fun fn D lr rc W1 hrc hD hlr hK2 hD1 hl1 hs2=> ?_
 have d1:=hI hrc;clear hrc;have d5:D<lr:=by omega
 have d3:lr<W1.heap.size:=by omega
 have d4:w2.heap.size<=D:=by omega
 clear hs2 hD hlr;have b6:=hI hD1;clear hD1;have a0:=hI (a2.out.trans (hK2.to_below (B:=w2.heap.size) (fun k hk=>hk.elim) rr |>.mono a2.out.size));obtain⟨fs,a4⟩:∃fs,fs=Bq (Au xs) ws:=⟨_,rfl⟩
 obtain⟨J,hJ⟩:∃J:Nat->(Nat->Prop)->World->Prop,J=fun i T W=>T=(fun k=>k=b4\/k=lr)/\Ba (fun k=>k=b4\/k=lr) W1 W/\W.heap[lr]? =some (.loop (rc .ready none))∧
   ∃A4 n4 c4,W.heap[b4]? =some (.cells #[.slice A4 n4 c4] 28 (0,0))∧∀j,i=j+1→∃x,fs.2[j]? =some x/\Ak W A4 n4 c4 x∧∀ad,A4=some ad->W1.heap.size<=ad.block:=⟨_,rfl⟩
 have HJ:=hI hJ;clear hJ;have a8:W1.heap[b4]? =some (.cells #[.slice none 0 0] 28 (0,0)):=(hK2.block _ (by omega) (by simp)).trans h4.out;refine(Yh (9-1) lr bw bl (by omega) A n c xs Aw nw cw ws W1 J (fun k=>k=b4\/k=lr) W1.heap.size ?hu ?h0 hnw).mono ?_
 case h0=>
  rw[HJ.out];exact⟨rfl,Ba.refl _ _,hl1,none,0,0,a8,fun j hj=>by omega⟩
 case hu=>
  refine⟨?hB, ?hlt, ?hst, ?hrd, ?hy⟩
  case hB=>
   intro i T W hx;rw[HJ.out]at hx;exact hx.2.1.size
  case hlt=>
   intro i T W hx k hk;rw[HJ.out]at hx;obtain⟨rfl,h2,h3,A4,n4,c4,h4,_⟩:=hx;rcases hk with rfl|rfl
   ·exact lt_of_block h4
   ·exact lt_of_block h3
  case hst=>
   intro i T W W' hx hb;rw[HJ.out]at hx ⊢;obtain⟨rfl,h2,h3,A4,n4,c4,h4,h5⟩:=hx;refine⟨rfl,h2.below hb rr,(hb.block _ (lt_of_block h3)).trans h3,A4,n4,c4,(hb.block _ (lt_of_block h4)).trans h4,fun j hj=> ?_⟩
   obtain⟨x,h6,h7,h8⟩:=h5 j hj;exact⟨x,h6,h7.below hb rr,h8⟩
  case hrd=>
   intro i T W hx;rw[HJ.out]at hx;obtain⟨rfl,h2,h3,A4,n4,c4,h4,h5⟩:=hx;have a6:Below w.heap.size w W:=a0.out.trans (h2.to_below (fun k hk=>by have:=a2.out.size;omega) a0.out.size);exact⟨(h2.block _ (by omega) (by omega)).trans ((hK2.block _ l5 (by simp)).trans R1.out),(h2.block _ (by omega) (by omega)).trans ((hK2.block _ l6 (by simp)).trans R2.out),HX.out.below a6 rr,HW.out.below a6 rr,HT.out.below a6 rr⟩
  case hy=>
   intro i T W A' n' c' x b3 b5 a9 hx;rw[HJ.out]at hx;obtain⟨rfl,h2,h3,A4,n4,c4,a1,_⟩:=hx;refine Fm d1.out h3 rfl ?_;have H2:=hI h2;clear h2;have H3:=hI h3;clear h3;have b9:=hI b3;clear b3;have b8:=hI b5;clear b5;have b1:=hI a9;clear a9;have c4':=cell_of_one a1;have f4':=free_of_one a1;have H4:=hI a1;clear a1;gi_wp2;have x3:(W.setCell ⟨b4,0,none⟩ (.slice A' n' c')).heap[lr]? =some (.loop (rc .ready none)):=(Below.heap_setCell _ _ _ _ (by simp;omega)).trans H3.out;have x4:(W.setCell ⟨b4,0,none⟩ (.slice A' n' c')).heap[b4]? =some (.cells #[.slice A' n' c'] 28 (0,0)):=one_setCell H4.out;have xK:Ba (fun k=>k=b4\/k=lr) W (W.setCell ⟨b4,0,none⟩ (.slice A' n' c')):=(Ba.refl (fun k=>k=b4\/k=lr) W).setCell (p:=⟨b4,0,none⟩) (.inl rfl) _;generalize(W.setCell ⟨b4,0,none⟩ (.slice A' n' c'))=X at*;refine⟨x3, ?_⟩;have y3:(X.putObj lr (.loop (rc .busy none))).heap[lr]? =some (.loop (rc .busy none)):=World.putObj_heap_same (lt_of_block x3);have y4:=(World.putObj_heap_other (w:=X) (o:= .loop (rc .busy none)) (show b4≠lr by omega)).trans x4;have yK:=xK.putObj (l:=lr) (.inr rfl) (.loop (rc .busy none));generalize(X.putObj lr (.loop (rc .busy none)))=Y at*;have Y3:=hI y3;clear y3;gi_wp2;refine⟨Y3.out,rfl,fun k=>k=b4\/k=lr, ?_,yK.putObj (by simp) _,fun k hk=> .inl hk⟩
   rw[HJ.out];have zK:=yK.putObj (l:=lr) (.inr rfl) (.loop (rc .ready none));refine⟨rfl,H2.out.trans zK,World.putObj_heap_same (lt_of_block Y3.out),A',n',c',(World.putObj_heap_other (by omega)).trans y4,fun j hj=> ?_⟩
   obtain rfl:j=i:=by omega
   exact⟨x,by rw[a4];exact b9.out,b8.out.keep zK (fun hn ad had hT=>(b1.out ad had).2 hT),fun ad had=>(b1.out ad had).1⟩
 rintro e W' ⟨⟨T,hx⟩,a3⟩;rw[←a4]at hx a3;rw[HJ.out]at hx;obtain⟨rfl,h2,h3,A4,n4,c4,a1,h5⟩:=hx;rcases a3 with⟨h0,v,rfl⟩|⟨h0,rfl⟩
 ·refine .inl ⟨h3, ?_⟩
  obtain⟨j,hj⟩:∃j,fs.2.length=j+1:=by
   obtain⟨r,hr⟩:=Hh (Au xs) ws;rw[a4,hr];exact⟨_,rfl⟩
  obtain⟨x,h6,h7,h8⟩:=h5 j hj;have b2:=h2.putObj (l:=lr) (by simp) (.loop (rc .exhausted none));have a5:(W'.putObj lr (.loop (rc .exhausted none))).heap[b4]? =some (.cells #[.slice A4 n4 c4] 28 (0,0)):=(World.putObj_heap_other (by omega)).trans a1;have b0:=h7.keep (S:=fun k=>k=lr) ((Ba.refl (fun k=>k=lr) W').putObj rfl (.loop (rc .exhausted none))) (fun hn ad had e=>by have:=h8 ad had;omega);generalize W'.putObj lr (.loop (rc .exhausted none))=X at*;have c4':=cell_of_one a5;have f4':=free_of_one a5;have d2:=hI b2;clear b2 h2 h3 a1 h5;have d0:=hI a5;clear a5;have b7:=hI b0;clear b0 h7;gi_wp2;have s4:=one_setCell (u:= .slice A4 n4 c4) d0.out;have sK:=d2.out.setCell (p:=⟨b4,0,none⟩) (by simp) (.slice A4 n4 c4);have sw:=b7.out.keep (S:=fun k=>k=b4) ((Ba.refl (fun k=>k=b4) X).setCell (p:=⟨b4,0,none⟩) rfl (.slice A4 n4 c4)) (fun hn ad had e=>by have:=h8 ad had;omega);have hM:D4 w.heap.size (X.setCell ⟨b4,0,none⟩ (.slice A4 n4 c4)) [Le D]:=⟨D,rfl,by have:=a2.out.size;omega,(sK.block D (by omega) (by omega)).trans b6.out,by simp,trivial⟩;refine Gx (B:=w.heap.size) hM fun w' hw'=>⟨.slice A4 n4 c4,Pg Tryz.results112 _ _ b4 A4 n4 c4 rfl (cell_of_one (hw'.row s4)), ?_⟩
  rw[←a4];refine⟨(a0.out.trans (sK.to_below (fun k hk=>by have:=a2.out.size;omega) a0.out.size)).trans hw'.below, .inl ⟨h0,A4,n4,c4,x,by rw[Ke hj];exact h6,rfl,sw.shut hw',fun ad had=> ?_⟩⟩
  have:=h8 ad had
  omega
 ·have hM:D4 w.heap.size W' [Le D]:=⟨D,rfl,by have:=a2.out.size;omega,(h2.block D (by omega) (by omega)).trans b6.out,by simp,trivial⟩;simp only[Sx,Exit.inBlock,Exit.then];refine Aa3 (B:=w.heap.size) hM fun w' hw'=> ?_
  rw[←a4];exact⟨(a0.out.trans (h2.to_below (fun k hk=>by have:=a2.out.size;omega) a0.out.size)).trans hw'.below, .inr ⟨h0,rfl⟩⟩
end Go.Proofs.YtaglfmlgbcmakaaGreatDoor
namespace Go.Proofs.YtaglfmlgbcmakaaGreatDoor
open Go.RowKit Go.Shelf
abbrev Ais (er:Int)(r:Bool):PanicEntry:={v:= .iface 196 (.int .i64 er),recovered:=r}
theorem Z3 (er:Int)(w:World):(Instr.typeAssert (.iface 196 (.int .i64 er)) 20 196 true).run Tryz.prog w= .ok (.tuple #[.int .i64 er, .bool true]) w:=by kernel_rfl
theorem Qu (b:Nat)(v:Value)(er:Int)(w:World)(n:Nat)(hb:w.heap[b]? =some (.cells #[v] 30 (0,0))):
  CallsDIn Fence.wide n Tryz.prog 111 #[.pointer (some ⟨b,0,none⟩)] (.panicking [Ais er false]) w fun e u' w'=>
   e= .returned (.tuple #[])/\u'= .panicking [Ais er true]/\w'=w.setCell ⟨b,0,none⟩ (.int .i64 er):=by
 have hc:=cell_of_one hb;have hf:=free_of_one hb;have ha:=fun w=>Z3 er w
 refine callsDIn_of_wpSIn Tryz.func111 rfl trivial fun c₀ cs hu=> ?_
 apply wpSIn_seq;apply wpSIn_region;simp[wpOpsSIn,go_sem,recoverD,hu,Tryz.ntmps111,Exit.thenS];simp only[List.size_toArray,List.length_cons,List.length_nil,Nat.reduceAdd,Nat.reduceSub,Array.replicate_succ,Array.replicate_zero,List.push_toArray,List.append_toArray,List.nil_append,List.cons_append,List.setIfInBounds_toArray,List.set_cons_zero,List.set_cons_succ];refine wpSIn_of_wpIn rfl ?_;gi_wp2;exact⟨rfl,_,rfl, .tuple #[],by simp[results,Tryz.results111],rfl,rfl,rfl⟩
theorem Qv (b:Nat)(w:World)(n:Nat):
  CallsDIn Fence.wide n Tryz.prog 111 #[.pointer (some ⟨b,0,none⟩)] .returning w fun e u' w'=>e= .returned (.tuple #[])/\u'= .returning/\w'=w:=by
 refine callsDIn_of_wpSIn Tryz.func111 rfl trivial fun c₀ cs hu=> ?_
 apply wpSIn_seq;apply wpSIn_region;simp[wpOpsSIn,go_sem,recoverD,hu,Tryz.ntmps111,Exit.thenS];simp only[List.size_toArray,List.length_cons,List.length_nil,Nat.reduceAdd,Nat.reduceSub,Array.replicate_succ,Array.replicate_zero,List.push_toArray,List.append_toArray,List.nil_append,List.cons_append,List.setIfInBounds_toArray,List.set_cons_zero,List.set_cons_succ];refine wpSIn_of_wpIn rfl ?_;gi_wp2;refine⟨rfl, .returning, ?_, .tuple #[],by simp[results,Tryz.results111],rfl,rfl,rfl⟩;cases c₀
 simp_all
abbrev Amu (b:Nat):Deferred:={target:= .fn (.func 111) #[],args:= #[.pointer (some ⟨b,0,none⟩)]}
theorem Mn {n:Nat}{fn:Func}{tmps:Array Value}{R:Ending->World->Prop}{b:Nat}{u:FrameMode}{w:World}(hu:u≠ .run){Q:Ending->FrameMode->World->Prop}
  (h:CallsDIn Fence.wide (n-1) Tryz.prog 111 #[.pointer (some ⟨b,0,none⟩)] u w Q)
  (hq:∀e u' w',Q e u' w'->(∃v,e= .returned v)/\LeavesIn Fence.wide n Tryz.prog fn tmps R [] (settle u') w'):LeavesInM Fence.wide n Tryz.prog fn tmps R [Amu b] u w:=by
 refine⟨hu, .inr ⟨fun hd=>by simp[Fence.wide]at hd, .func 111, #[],111, #[.pointer (some ⟨b,0,none⟩)],rfl, ?_,fun _ _=>trivial,h.mono fun e u' w' hq'=> ?_⟩⟩
 ·simp only[invoke];exact enters_of Tryz.func111 (by kernel_rfl) rfl _ _
 ·obtain⟨⟨v,rfl⟩,h2⟩:=hq e u' w' hq';exact h2
theorem Pw {n:Nat}{fn:Func}{tmps:Array Value}{R:Ending->World->Prop}{b:Nat}{w:World}
  (h:∃v,(results fn tmps).run Tryz.prog w= .ok v w/\R (.returned v) w):LeavesInM Fence.wide n Tryz.prog fn tmps R [Amu b] .returning w:=
 Mn (by simp) (Qv b w _) fun e u' w' ⟨h1,h2,h3⟩=>by
  subst h1 h2 h3;exact⟨⟨_,rfl⟩,h⟩
theorem Nw {n:Nat}{fn:Func}{tmps:Array Value}{R:Ending->World->Prop}{b:Nat}{w:World}{er:Int}{v0:Value}(hb:w.heap[b]? =some (.cells #[v0] 30 (0,0)))
  (h:∃v,(results fn tmps).run Tryz.prog (w.setCell ⟨b,0,none⟩ (.int .i64 er))= .ok v (w.setCell ⟨b,0,none⟩ (.int .i64 er))/\R (.returned v) (w.setCell ⟨b,0,none⟩ (.int .i64 er))):
  LeavesInM Fence.wide n Tryz.prog fn tmps R [Amu b] (.panicking [Ais er false]) w:=
 Mn (by simp) (Qu b v0 er w _ hb) fun e u' w' ⟨h1,h2,h3⟩=>by
  subst h1 h2 h3;exact⟨⟨_,rfl⟩,h⟩
def Anr (w:World)(r:Int×List (List Snd))(be bo:Nat)(e:Ending)(w':World):Prop:=
 e= .returned (.tuple #[])/\Ba (fun k=>k=be\/k=bo) w w'∧
  ((r.1=0/\w'.heap[be]? =w.heap[be]? ∧∃A n c x,r.2.getLast? =some x/\w'.heap[bo]? =some (.cells #[.slice A n c] 28 (0,0))/\Ak w' A n c x∧∀ad,A=some ad->w.heap.size<=ad.block)∨
   (r.1≠0/\w'.heap[be]? =some (.cells #[.int .i64 r.1] 30 (0,0))/\w'.heap[bo]? =w.heap[bo]?))
theorem Acb (A:Option Addr)(n c:Nat)(xs:List Cb)(Aw:Option Addr)(nw cw:Nat)(ws:List Snd)(w:World)(be bl bw bo:Nat)(v0 v1:Value)(hx:Cf w A n c xs)(hw:Ak w Aw nw cw ws)(hT:Cw w)(hnw:nw<=4096)
  (he:w.heap[be]? =some (.cells #[v0] 30 (0,0))) (hl:w.heap[bl]? =some (.cells #[.slice A n c] 26 (0,0))) (hbw:w.heap[bw]? =some (.cells #[.slice Aw nw cw] 28 (0,0))) (ho:w.heap[bo]? =some (.cells #[v1] 28 (0,0))) (hne:be≠bo):
  Calls Tryz.prog 110 #[.pointer (some ⟨be,0,none⟩), .pointer (some ⟨bl,0,none⟩), .pointer (some ⟨bw,0,none⟩), .pointer (some ⟨bo,0,none⟩)] w (Anr w (Bq (Au xs) ws) be bo):=by
 have hc:=cell_of_one hl;have a7:=cell_of_one hbw;have a3:=lt_of_block he;have a2:=lt_of_block ho;have HC:=hI (Ad2 A n c xs Aw nw cw ws w hx hw hT hnw);have HE:=hI he;clear he;have HO:=hI ho;clear ho;clear hx hw hT hl hbw;obtain⟨fs,a4⟩:∃fs,fs=Bq (Au xs) ws:=⟨_,rfl⟩;rw[←a4]at HC ⊢;clear a4;refine(callsIn_wide (n:=9)).1 (callsIn_of_wp_marks Tryz.func110 rfl trivial ?_ rfl);simp only[Tryz.ntmps110,List.size_toArray,List.length_cons,List.length_nil,Nat.reduceAdd,Nat.reduceSub,Array.replicate_succ,Array.replicate_zero,List.push_toArray,List.append_toArray,List.nil_append,List.cons_append];gi_wp2;refine⟨trivial, ?_⟩;refine(callsIn_wide.2 HC.out).mono ?_;rintro e w1 ⟨a0,⟨h0,A1,n1,c1,x,hx,rfl,a5,a1⟩|⟨h0,rfl⟩⟩
 ·have o1:=(a0.block _ a2).trans HO.out;have oc:=cell_of_one o1;have of:=free_of_one o1;have a6:=hI a5;clear a5;gi_wp2;have sK:=(Br (S:=fun k=>k=be\/k=bo) a0).setCell (p:=⟨bo,0,none⟩) (.inr rfl) (.slice A1 n1 c1);refine Pw ⟨.tuple #[],by simp[results,Tryz.results110],rfl,sK, .inl ⟨h0,(Below.heap_setCell _ _ _ _ (by simpa using hne)).trans (a0.block _ a3),A1,n1,c1,x,hx,one_setCell o1, ?_,a1⟩⟩;exact a6.out.keep (S:=fun k=>k=bo) ((Ba.refl (fun k=>k=bo) w1).setCell (p:=⟨bo,0,none⟩) rfl _) (fun _ ad had e=>by have:=a1 ad had;omega)
 ·have o1:=(a0.block _ a3).trans HE.out;have sK:=(Br (S:=fun k=>k=be\/k=bo) a0).setCell (p:=⟨be,0,none⟩) (.inl rfl) (.int .i64 fs.1);exact Nw o1 ⟨.tuple #[],by simp[results,Tryz.results110],rfl,sK, .inr ⟨h0,one_setCell o1,(Below.heap_setCell _ _ _ _ (by simpa using hne.symm)).trans (a0.block _ a2)⟩⟩
def Amv (w:World)(r:Int×List (List Snd))(e:Ending)(w':World):Prop:=
 Below w.heap.size w w'/\((r.1=0∧∃A n c x,r.2.getLast? =some x/\e= .returned (.tuple #[.slice A n c, .bool true])/\Ak w' A n c x∧∀ad,A=some ad->w.heap.size<=ad.block)∨
  (r.1≠0/\e= .returned (.tuple #[.slice none 0 0, .bool false])))
theorem G7 {fn:Func}{p q:Tmp}(h:fn.results= #[.cell p 28, .tmp q])(tmps:Array Value)(w:World)(b:Nat)(A:Option Addr)(n c:Nat)(v:Value)(hp:tmps.getD p undef= .pointer (some ⟨b,0,none⟩))(hq:tmps.getD q undef=v)(hr:w.cell? ⟨b,0,none⟩=some (.slice A n c)):
  (results fn tmps).run Tryz.prog w= .ok (.tuple #[.slice A n c,v]) w:=by
 have a0:tmps[p]?.getD undef= .pointer (some ⟨b,0,none⟩):=by simpa using hp
 have a1:tmps[q]?.getD undef=v:=by simpa using hq
 simp[results,h,a0,a1,asAddr,loadVar,go_sem,hr]
theorem Aex (A:Option Addr)(n c:Nat)(xs:List Cb)(Aw:Option Addr)(nw cw:Nat)(ws:List Snd)(w:World)(hx:Cf w A n c xs)(hw:Ak w Aw nw cw ws)(hT:Cw w)(hnw:nw<=4096):
  Calls Tryz.prog 66 #[.slice A n c, .slice Aw nw cw] w (Amv w (Bq (Au xs) ws)):=by
 have HX:=hI hx;clear hx;have HW:=hI hw;clear hw;have HT:=hI hT;clear hT;have a8:∀(fn:Fn) (first cap:Array Value) (w:World),(Instr.makeFunc fn first cap).run Tryz.prog w= .ok (.func fn first cap) w:=fun _ _ _ _=>rfl
 go_enter Tryz.func66,Tryz.ntmps66;go_wp2_with fail;have k0:((((w.alloc (.cells #[.slice A n c] 26)).alloc (.cells #[.slice Aw nw cw] 28)).alloc (.cells #[.slice none 0 0] 28)).alloc (.cells #[.int .i64 0] 30)).heap[w.heap.size]? =some (.cells #[.slice A n c] 26 (0,0)):=hpt;have k1:((((w.alloc (.cells #[.slice A n c] 26)).alloc (.cells #[.slice Aw nw cw] 28)).alloc (.cells #[.slice none 0 0] 28)).alloc (.cells #[.int .i64 0] 30)).heap[w.heap.size+1]? =some (.cells #[.slice Aw nw cw] 28 (0,0)):=hpt;have k2:((((w.alloc (.cells #[.slice A n c] 26)).alloc (.cells #[.slice Aw nw cw] 28)).alloc (.cells #[.slice none 0 0] 28)).alloc (.cells #[.int .i64 0] 30)).heap[w.heap.size+1+1]? =some (.cells #[.slice none 0 0] 28 (0,0)):=hpt;have k3:((((w.alloc (.cells #[.slice A n c] 26)).alloc (.cells #[.slice Aw nw cw] 28)).alloc (.cells #[.slice none 0 0] 28)).alloc (.cells #[.int .i64 0] 30)).heap[w.heap.size+1+1+1]? =some (.cells #[.int .i64 0] 30 (0,0)):=hpt;have kB:Below w.heap.size w ((((w.alloc (.cells #[.slice A n c] 26)).alloc (.cells #[.slice Aw nw cw] 28)).alloc (.cells #[.slice none 0 0] 28)).alloc (.cells #[.int .i64 0] 30)):=bel;generalize((((w.alloc (.cells #[.slice A n c] 26)).alloc (.cells #[.slice Aw nw cw] 28)).alloc (.cells #[.slice none 0 0] 28)).alloc (.cells #[.int .i64 0] 30))=V at*;clear a8;refine(Acb A n c xs Aw nw cw ws V _ _ _ _ _ _ (HX.out.below kB rr) (HW.out.below kB rr) (HT.out.below kB rr) hnw k3 k0 k1 k2 (by omega)).mono ?_;have hV:=lt_of_block k3;have K2:=hI k2;clear k2;have K3:=hI k3;clear k3;have KB:=hI kB;clear kB;clear k0 k1;obtain⟨fs,a2⟩:∃fs,fs=Bq (Au xs) ws:=⟨_,rfl⟩;rw[←a2];have a3:=hI a2;clear a2;rintro e V1 ⟨rfl,hK,⟨h0,he,A1,n1,c1,x,hx,ho,a6,a7⟩|⟨h0,he,ho⟩⟩
 case inl=>
  have a5:=he.trans K3.out;have a0:Below w.heap.size w V1:=KB.out.trans (hK.to_below (fun k hk=>by omega) KB.out.size);have c1':=cell_of_one a5;have c2':=cell_of_one ho;have f2':=free_of_one ho;have HO:=hI ho;clear ho;have a9:=hI a6;clear a6;have a4:=hI a0;clear a0 hK he a5;go_wp2;refine Bg (fun W'=>W'.cell? ⟨w.heap.size+1+1,0,none⟩=some (.slice A1 n1 c1)/\W'.cell? ⟨w.heap.size+1+1+1,0,none⟩=some (.int .i64 0)) (by kernel_rfl) ⟨c2',c1'⟩ (fun hHeld=> ?_)
  (refine' Ae 0 rfl ?_;(try simp only[Act.put,nY,nX]));(refine' Ae 1 rfl ?_;(try simp only[Act.put,nY,nX]));(refine' Ae 2 rfl ?_;(try simp only[Act.put,nY,nX]))
  (refine Anv 3 rfl (fun K' hK'=> ?_);simp only[nY];go_simp)
  have u2:(V1.setCell ⟨w.heap.size+1+1,0,none⟩ (.slice A1 n1 c1)).drew.heap[w.heap.size+1+1]? =some (.cells #[.slice A1 n1 c1] 28 (0,0)):=one_setCell HO.out;have u1:(V1.setCell ⟨w.heap.size+1+1,0,none⟩ (.slice A1 n1 c1)).drew.cell? ⟨w.heap.size+1+1+1,0,none⟩=some (.int .i64 (0)):=(B5 (by omega)).trans c1';have uB:Below w.heap.size w (V1.setCell ⟨w.heap.size+1+1,0,none⟩ (.slice A1 n1 c1)).drew:=(a4.out.setCell (p:=⟨w.heap.size+1+1,0,none⟩) (by simp;omega) _).drew;have uw:Ak (V1.setCell ⟨w.heap.size+1+1,0,none⟩ (.slice A1 n1 c1)).drew A1 n1 c1 x:=a9.out.keep (S:=fun k=>k=w.heap.size+1+1) ((Ba.refl (fun k=>k=w.heap.size+1+1) V1).setCell (p:=⟨w.heap.size+1+1,0,none⟩) rfl _).drew (fun _ ad had e=>by have:=a7 ad had;omega);generalize(V1.setCell ⟨w.heap.size+1+1,0,none⟩ (.slice A1 n1 c1)).drew=U at*;refine hK' _ _ ⟨.inr ⟨cell_of_one u2,u1⟩,fun _=> ?_⟩
  clear hK' K' c1' c2' f2' hHeld
  (try simp only[Act.put,nY,nX])
  (refine Anv 4 rfl (fun K' hK'=> ?_);simp only[nY];go_simp)
  refine hK' _ _ ⟨.inl (by kernel_rfl),fun _=>Bf (by kernel_rfl) ?_ _⟩
  clear hK' K' u1;have U2:=hI u2;clear u2;go_wp2;refine bodyPost_ret (G7 Tryz.results66 _ _ (w.heap.size+1+1) A1 n1 c1 (.bool true) rfl rfl (cell_of_one U2.out)) rfl ⟨uB, .inl ⟨by rw[←a3.out];exact h0,A1,n1,c1,x,by rw[←a3.out];exact hx,rfl,uw,fun ad had=> ?_⟩⟩
  have:=a7 ad had
  omega
 case inr=>
  have a1:=ho.trans K2.out;have a0:Below w.heap.size w V1:=KB.out.trans (hK.to_below (fun k hk=>by omega) KB.out.size);have c1':=cell_of_one he;have c2':=cell_of_one a1;have f2':=free_of_one a1;have HO:=hI a1;clear ho a1;have a4:=hI a0;clear a0 hK he;have b0:(fs.1==0)=false:=by simpa using h0
  go_wp2;refine Bg (fun W'=>W'.cell? ⟨w.heap.size+1+1,0,none⟩=some (.slice none 0 0)/\W'.cell? ⟨w.heap.size+1+1+1,0,none⟩=some (.int .i64 fs.1)) (by kernel_rfl) ⟨c2',c1'⟩ (fun hHeld=> ?_)
  (refine' Ae 0 rfl ?_;(try simp only[Act.put,nY,nX]));(refine' Ae 1 rfl ?_;(try simp only[Act.put,nY,nX]));(refine' Ae 2 rfl ?_;(try simp only[Act.put,nY,nX]))
  (refine Anv 3 rfl (fun K' hK'=> ?_);simp only[nY];go_simp)
  have u2:(V1.setCell ⟨w.heap.size+1+1,0,none⟩ (.slice none 0 0)).drew.heap[w.heap.size+1+1]? =some (.cells #[.slice none 0 0] 28 (0,0)):=one_setCell HO.out;have u1:(V1.setCell ⟨w.heap.size+1+1,0,none⟩ (.slice none 0 0)).drew.cell? ⟨w.heap.size+1+1+1,0,none⟩=some (.int .i64 (fs.1)):=(B5 (by omega)).trans c1';have uB:Below w.heap.size w (V1.setCell ⟨w.heap.size+1+1,0,none⟩ (.slice none 0 0)).drew:=(a4.out.setCell (p:=⟨w.heap.size+1+1,0,none⟩) (by simp;omega) _).drew;generalize(V1.setCell ⟨w.heap.size+1+1,0,none⟩ (.slice none 0 0)).drew=U at*;refine hK' _ _ ⟨.inr ⟨cell_of_one u2,u1⟩,fun _=> ?_⟩
  clear hK' K' c1' c2' f2' hHeld
  (try simp only[Act.put,nY,nX])
  (refine Anv 4 rfl (fun K' hK'=> ?_);simp only[nY];go_simp)
  refine hK' _ _ ⟨.inl (by kernel_rfl),fun _=>Bf (by kernel_rfl) ?_ _⟩
  clear hK' K' u1;have U2:=hI u2;clear u2;go_wp2;exact bodyPost_ret (G7 Tryz.results66 _ _ (w.heap.size+1+1) none 0 0 (.bool false) rfl rfl (cell_of_one U2.out)) rfl ⟨uB, .inr ⟨by rw[←a3.out];exact h0,rfl⟩⟩
def Bz (ls:List Bi)(ws:List Snd):Int×List Snd:=
 if Hf ls [ws]≠0 then(Hf ls [ws],[])else if(Bq ls ws).1≠0 then(11,[])else(0,((Bq ls ws).2.getLast?).getD [])
theorem Adq {w:World}{A:Option Addr}{n c:Nat}{xs:List Snd}(h:Ak w A n c xs)(t:TypeId):Bs (w.alloc (.cells #[.slice A n c] t)) (some ⟨w.heap.size,0,none⟩) 1 1 [xs]:=
 ⟨[(A,n,c,xs)],rfl,⟨rfl,rr,by unfold maxLen;omega,(fun h=>by cases h),fun _=>⟨w.heap.size,0,rfl,by simp,fun j v hv=>by rw[Nat.zero_add];exact B8 (by simpa[Part.val]using hv)⟩⟩,
  fun p hp=>by
   obtain rfl:p=(A,n,c,xs):=by simpa using hp
   exact h.below ((Below.refl w.heap.size w).alloc rr _) rr⟩
theorem Ajo {ls:List Bi}{ws:List Snd}(h:Hf ls [ws]=0):ws.length<=32:=by
 unfold Hf at h;by_cases h0:C8 ls≠0
 ·rw[if_pos h0]at h;exact absurd h h0
 ·rw[if_neg h0,if_neg (by simp)]at h;by_cases h1:B4 ws=0
  ·unfold B4 at h1;rcases Nat.lt_or_ge 32 ws.length with h2|h2
   ·rw[if_pos h2]at h1;exact absurd h1 (by decide)
   ·exact h2
  ·rw[Rh (k:=0) rfl rfl h1]at h;exact absurd h h1
theorem Afv (A:Option Addr)(n c:Nat)(xs:List Cb)(Aw:Option Addr)(nw cw:Nat)(ws:List Snd)(w:World)(hx:Cf w A n c xs)(hw:Ak w Aw nw cw ws)(hT:Cw w):
  Calls Tryz.prog 22 #[.slice A n c, .slice Aw nw cw] w (Acp w (Bz (Au xs) ws)):=by
 have HX:=hI hx;clear hx;have HW:=hI hw;clear hw;have HT:=hI hT;clear hT;have a8:=hI (Adq HW.out 28);go_enter Tryz.func22,Tryz.ntmps22;go_wp2_with fail;refine(Afu A n c xs _ 1 1 [ws] _ (HX.out.below (B:=w.heap.size) bel rr) a8.out).mono ?_;rintro e w1 ⟨rfl,b1⟩;have a5:Below w.heap.size w w1:=Below.step (by assumption) (by simp) bel;have a1:=hI a5;clear a5 b1;obtain⟨er,a3⟩:∃er,er=Hf (Au xs) [ws]:=⟨_,rfl⟩;rw[←a3];have a4:=hI a3;clear a3;by_cases h0:er=0
 case neg=>
  have h1:(er !=0)=true:=by simpa using h0
  have HM:Hid (Bz (Au xs) ws=(er,[])):=by show Bz _ _=_;unfold Bz;rw[←a4.out,if_pos h0]
  clear h0;go_wp2
  go_ret2
  exact⟨none,0,0,by rw[HM.out];rfl,by rw[HM.out];exact Az.nil _ _,a1.out,fun ad h=>by cases h⟩
 have h1:(er !=0)=false:=by simpa using h0
 have a9:ws.length<=32:=Ajo (by rw[←a4.out];exact h0);have HM:Hid (Bz (Au xs) ws=if(Bq (Au xs) ws).1≠0 then(11,[])else(0,((Bq (Au xs) ws).2.getLast?).getD [])):=by show Bz _ _=_;unfold Bz;rw[←a4.out,if_neg (by simpa using h0)]
 clear h0;go_wp2_with fail;have a0:=a1.out.size;refine(Aex A n c xs Aw nw cw ws w1 (HX.out.below a1.out rr) (HW.out.below a1.out rr) (HT.out.below a1.out rr) (by have:=HW.out.len;omega)).mono ?_;rintro e w2 ⟨a6,⟨h2,A2,n2,c2,x,hx,rfl,a7,b0⟩|⟨h2,rfl⟩⟩
 ·have a2:Hid (Bz (Au xs) ws=(0,x)):=by show Bz _ _=_;rw[HM.out,if_neg (by simpa using h2),hx];rfl
  clear h2 hx;go_wp2
  go_ret2
  exact⟨A2,n2,c2,by rw[a2.out];rfl,by rw[a2.out];exact a7,a1.out.trans (a6.mono a0),fun ad had=>Nat.le_trans a0 (b0 ad had)⟩
 ·have a2:Hid (Bz (Au xs) ws=(11,[])):=by show Bz _ _=_;rw[HM.out,if_pos h2]
  clear h2;go_wp2
  go_ret2
  exact⟨none,0,0,by rw[a2.out];rfl,by rw[a2.out];exact Az.nil _ _,a1.out.trans (a6.mono a0),fun ad h=>by cases h⟩
section fs
variable {B b5 b7 lr:Nat}{rc:LoopState->Option Code->Loop}{W1:World}{vw:Value}{ps:List Part}{T:Nat->Prop}{st:LoopState}{W W':World}
end fs
end Go.Proofs.YtaglfmlgbcmakaaGreatDoor
namespace Go.Proofs.YtaglfmlgbcmakaaGreatDoor
open Go.RowKit Go.Shelf
attribute [local go_sem] Oper.semAt_some
def E4 (ls:List Bi)(ws:List Snd):Int×List (List Snd):=
 if Hf ls [ws]≠0 then(Hf ls [ws],[])else if(Bq ls ws).1≠0 then((Bq ls ws).1,[])else(0,(Bq ls ws).2)
theorem Ld (l:Bi)(ws:List Snd):∀(f:Nat) (r:RS),∀x∈(E0 l ws f r).1,x.2.length<=32
 |0,_,x,h=>by simp[E0]at h
 |f+1,r,x,h=>by
  rw[E0]at h;split at h
  ·simp at h
  ·split at h
   ·exact Ld l ws f _ x h
   ·split at h
    ·simp at h
    ·simp only[List.mem_cons]at h;rcases h with rfl|h
     ·dsimp only;omega
     ·exact Ld l ws f _ x h
theorem N7 {l:Bi}{ws:List Snd}(hw:ws.length<=32):(B3 l ws).2.length<=32:=by
 unfold B3;split
 ·simp
 ·dsimp only
  cases h:(Co l ws).2.getLast? with
  |none=>exact hw
  |some x=>
   have hm:=List.mem_of_getLast? h;unfold Co at hm;split at hm
   ·simp at hm
   ·split at hm
    ·simp at hm
    ·exact Ld l ws _ _ x hm
theorem Qe {ls:List Bi}(h:C8 ls=0):ls.length<=64:=by
 unfold C8 at h;rcases Nat.lt_or_ge 64 ls.length with h1|h1
 ·rw[if_pos h1]at h;exact absurd h (by decide)
 ·exact h1
theorem Af8 {ls:List Bi}{wss:List (List Snd)}(h:Hf ls wss=0):C8 ls=0:=by
 unfold Hf at h;by_cases h0:C8 ls=0
 ·exact h0
 ·rw[if_pos h0]at h;exact absurd h h0
end Go.Proofs.YtaglfmlgbcmakaaGreatDoor
namespace Go.Proofs.YtaglfmlgbcmakaaGreatDoor
open Go.RowKit Go.Shelf
end Go.Proofs.YtaglfmlgbcmakaaGreatDoor
