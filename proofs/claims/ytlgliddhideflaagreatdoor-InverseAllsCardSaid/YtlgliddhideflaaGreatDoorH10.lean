/-
  inverse.Count, inverse.Reached.
  inverse.Reached.
-/
import Derived.Test.YtlgliddhideflaaGreatDoorH03
set_option linter.all false
set_option maxRecDepth 100000
set_option maxHeartbeats 4000000
namespace Go.Proofs.YtlgliddhideflaaGreatDoor
open Go.RowKit Go.Shelf
attribute [local go_sem] Oper.semAt_some
structure Pv (bn lr:Nat)(rc:LoopState->Option Code->Loop)(W1:World)(i:Nat)(T:Nat->Prop)(st:LoopState)(W:World):Prop where
 tw:T=fun b=>b=bn\/b=lr
 lt:bn<W1.heap.size/\lr<W1.heap.size/\bn≠lr
 cn:W.heap[bn]? =some (.cells #[.int .i64 i] 3 (0,0))
 kp:Aj (fun b=>b=bn\/b=lr) W1 W
 lp:W.heap[lr]? =some (.loop (rc st none))
section
variable {bn lr:Nat}{rc:LoopState->Option Code->Loop}{W1:World}{i:Nat}{T:Nat->Prop}{st:LoopState}{W W':World}
theorem Pv.keep (h:Pv bn lr rc W1 i T st W)(hk:Aj (fun b=>W1.heap.size<=b∧¬T b) W W'):Pv bn lr rc W1 i T st W':=by
 obtain⟨h1,h2,h3,h4,h5⟩:=h;have ho:∀b,b<W1.heap.size->W'.heap[b]? =W.heap[b]? :=fun b hb=>hk.block b (by have:=h4.size;omega) (fun h=>by omega)
 exact⟨h1,h2,(ho _ h2.1).trans h3,((h4.mono (S':=fun b=>(b=bn\/b=lr)\/W1.heap.size<=b) fun _ e=> .inl e).trans (hk.mono fun _ e=> .inr e.1)).old fun b hb e=>e.resolve_right (by omega),(ho _ h2.2.1).trans h5⟩
theorem Pv.put (h:Pv bn lr rc W1 i T st W)(st':LoopState):Pv bn lr rc W1 i T st' (W.putObj lr (.loop (rc st' none))):=by
 obtain⟨h1,h2,h3,h4,h5⟩:=h;exact⟨h1,h2,(World.putObj_heap_other h2.2.2).trans h3,h4.putObj (by simp) _,World.putObj_heap_same (lt_of_block h5)⟩
theorem Pv.set (h:Pv bn lr rc W1 i T st W)(j:Nat):Pv bn lr rc W1 j T st (W.setCell ⟨bn,0,none⟩ (.int .i64 j)):=by
 obtain⟨h1,h2,h3,h4,h5⟩:=h;exact⟨h1,h2,one_setCell h3,h4.setCell (p:=⟨bn,0,none⟩) (by simp) _,(Below.heap_setCell _ _ _ _ (by simpa using h2.2.2.symm)).trans h5⟩
theorem Pv.lts (h:Pv bn lr rc W1 i T st W):∀b,T b->b<W.heap.size:=by
 intro b hb;rw[h.tw]at hb;rcases hb with rfl|rfl
 ·exact lt_of_block h.cn
 ·exact lt_of_block h.lp
theorem Pv.nds (h:Pv bn lr rc W1 i T st W):∀b,T b→∀x,W.heap[b]? ≠some (.deferred x):=by
 intro b hb x e;rw[h.tw]at hb;rcases hb with rfl|rfl
 ·rw[h.cn]at e;cases e
 ·rw[h.lp]at e;cases e
end
theorem Acw (A:Option Addr)(n c:Nat)(xs:List Co)(Aw:Option Addr)(nw cw:Nat)(ws:List Snd)(As:Option Addr)(ns cs:Nat)(ss:List Snd)(w:World)(hx:B4 w A n c xs)(hw:Ad w Aw nw cw ws)(hs:Ad w As ns cs ss)(hT:Cq w)(hnw:nw<=4096):
  Calls Tryz.prog 64 #[.slice A n c, .slice Aw nw cw, .slice As ns cs] w fun e w'=>e= .returned (.tuple #[.int .i64 (Fa (Ah xs) ws ss).2, .int .i64 (Fa (Ah xs) ws ss).1])/\Below w.heap.size w w':=by
 have HX:=hI hx;have HW:=hI hw;have HS:=hI hs;have HT:=hI hT;clear hx hw hs hT;refine(callsIn_wide (n:=9)).1 (callsIn_of_wp_marks Tryz.func64 rfl trivial ?_ rfl);simp only[Tryz.ntmps64,List.size_toArray,List.length_cons,List.length_nil,Nat.reduceAdd,Nat.reduceSub,Array.replicate_succ,Array.replicate_zero,List.push_toArray,List.append_toArray,List.nil_append,List.cons_append];gi_wp2;refine⟨trivial, ?_⟩;refine(callsIn_wide.2 (Uw A n c xs Aw nw cw ws As ns cs ss w HX.out HW.out HS.out)).mono ?_;rintro e w1 ⟨rfl,b5⟩;have a0:=hI b5;clear b5;obtain⟨er,a6⟩:∃er,er=B7 (Ah xs) ws ss:=⟨_,rfl⟩;rw[←a6];have b0:=hI a6;clear a6;by_cases h0:er=0
 case neg=>
  have h1:(er !=0)=true:=by simpa using h0
  have HM:Hid (Fa (Ah xs) ws ss=(er,0)):=by show Fa _ _ _=_;unfold Fa;rw[←b0.out,if_pos h0]
  clear h0;gi_wp2;exact Hq (B:=w.heap.size) Tryz.results64 _ _ rfl rfl trivial fun w' hw'=>⟨by rw[HM.out];rfl,a0.out.trans (hw'.below.mono (by have:=a0.out.size;omega))⟩
 have h1:(er !=0)=false:=by simpa using h0
 have a7:Hid (B1 ss=0):=(Dk (by rw[←b0.out];exact h0)).2.2;have HM:Hid (Fa (Ah xs) ws ss=(0,((Cl (Ah xs) ws ss).length:Int))):=by show Fa _ _ _=_;unfold Fa;rw[←b0.out,if_neg (by simpa using h0)]
 clear h0;gi_wp2;refine⟨trivial, ?_⟩;have gA:(w1.alloc (.cells #[.int .i64 0] 3)).heap[w1.heap.size]? =some (.cells #[.int .i64 0] 3 (0,0)):=hpt;have gB:Below w.heap.size w (w1.alloc (.cells #[.int .i64 0] 3)):=a0.out.alloc a0.out.size _;have d9:=a0.out.size;generalize(w1.alloc (.cells #[.int .i64 0] 3))=WA at*;have b9:=lt_of_block gA;have GA:=hI gA;have GB:=hI gB;clear gA gB;refine(callsIn_wide.2 (S0 A n c Aw nw cw As ns cs WA)).mono ?_;rintro e w2 ⟨bs,bl,bw,rfl,k1,k2,k3,d6,d1,d3,b4⟩;have K1:=hI k1;have K2:=hI k2;have K3:=hI k3;have a3:=hI b4;clear k1 k2 k3 b4;gi_wp2;refine Dt (gf:=180) (lb:= #[.pointer (some ⟨bs,0,none⟩), .pointer (some ⟨bl,0,none⟩), .pointer (some ⟨bw,0,none⟩)]) rfl (enters_of Tryz.func180 (by kernel_rfl) rfl) fun fn D l rc W1 hrc hD hl hK2 hD1 hl1 hs2=> ?_
 have d5:=hI hrc;clear hrc;have f3:w2.heap.size<=D:=by omega
 have f0:D<l:=by omega
 clear hs2 hD hl;have a2:=hI hK2;have d2:=hI hD1;have b6:=hI hl1;clear hK2 hD1 hl1;have f4:=a3.out.size;have q1:=(a2.out.block _ (lt_of_block K1.out) (by simp)).trans K1.out;have q2:=(a2.out.block _ (lt_of_block K2.out) (by simp)).trans K2.out;have q3:=(a2.out.block _ (lt_of_block K3.out) (by simp)).trans K3.out;have q4:=(a2.out.block w1.heap.size (by omega) (by simp)).trans ((a3.out.block _ b9).trans GA.out);have b1:=lt_of_block q1;have a9:=lt_of_block q2;have a8:=lt_of_block q3;have d8:=lt_of_block K1.out;have d7:=lt_of_block K2.out;have f2:=lt_of_block K3.out;have b8:=lt_of_block b6.out;have Q1:=hI q1;have Q2:=hI q2;have Q3:=hI q3;have Q4:=hI q4;clear q1 q2 q3 q4;have a5:Hid (Below w.heap.size w W1):=(GB.out.trans (a3.out.mono GB.out.size)).trans ((a2.out.to_below (B:=w.heap.size) (fun b hb=>hb.elim) (by have:=GB.out.size;omega)));refine(Ld (9-1) l bs bl bw (by omega) A n c xs Aw nw cw ws As ns cs ss W1 (fun i T X=>Pv (w1.heap.size) l rc W1 i T .ready X) (fun _ _=>False) (fun b=>b=w1.heap.size\/b=l) W1.heap.size ?hu ⟨rfl,⟨by omega,b8,by omega⟩,Q4.out,Aj.refl _ _,b6.out⟩ a7.out hnw).mono ?_
 case hu=>
  refine⟨fun i T X h=>h.kp.size,fun i T X h=>h.lts,fun i T X X' h hk=>h.keep hk,fun _ _ _ h=>h.elim, ?hrd,fun i T X h=>h.nds,fun _ _ h=>h.elim, ?hy⟩
  case hrd=>
   intro i T X h;have hX:Below w.heap.size w X:=a5.out.trans (h.kp.to_below (fun b hb=>by have:=a0.out.size;have:=a3.out.size;omega) a5.out.size);exact⟨(h.kp.block bs b1 (by omega)).trans Q1.out,(h.kp.block bl a9 (by omega)).trans Q2.out,(h.kp.block bw a8 (by omega)).trans Q3.out,HX.out.below hX rr,HW.out.below hX rr,HS.out.below hX rr,HT.out.below hX rr⟩
  case hy=>
   intro i T X A' k' c' x b3 d0 b7 hx;have d4:i<(Cl (Ah xs) ws ss).length:=(List.getElem?_eq_some_iff.1 b3).1;have a1:=L6 (ls:=Ah xs) (w:=ws) (Cg a7.out).2.2 (Cg a7.out).1;have hi:i<=20000:=by omega
   clear d4 a1 b3 d0 b7;refine Du d5.out hx.lp rfl ?_;have HC:=hI hx;clear hx;gi_wp2;refine⟨HC.out.lp, ?_⟩;have pC:=HC.out.put .busy;have pK:Aj T X (X.putObj l (.loop (rc .busy none))):=(Aj.refl T X).putObj (by rw[HC.out.tw];exact .inr rfl) _;generalize X.putObj l (.loop (rc .busy none))=V at*;have c1:=cell_of_one pC.cn;have f1:=free_of_one pC.cn;have PC:=hI pC;have PK:=hI pK;clear pC pK;gi_wp2;have a4:((i:Int)+1)=((i+1:Nat):Int):=by omega
   rw[a4];have hS:=PC.out.set (i+1);have b2:=PC.out.tw;exact⟨hS.lp,((PK.out.setCell (p:=⟨w1.heap.size,0,none⟩) (by rw[b2];exact .inl rfl) _).putObj (by rw[b2];exact .inr rfl) _),rfl,T,hS.put .ready,fun b h=> .inl h⟩
 rintro e W' ⟨⟨v,rfl⟩,⟨T,hj⟩|⟨_,hf⟩⟩
 ·refine .inl ⟨hj.lp, ?_⟩;have xC:=hj.put .exhausted;generalize W'.putObj l (.loop (rc .exhausted none))=X at*;have c1:=cell_of_one xC.cn;have XC:=hI xC;clear hj xC;gi_wp2;have hM:Dd w.heap.size X [Ft D]:=⟨D,rfl,by have:=a0.out.size;omega,(XC.out.kp.block D (by omega) (by omega)).trans d2.out,by simp,trivial⟩;have hX:Below w.heap.size w X:=a5.out.trans (XC.out.kp.to_below (fun b hb=>by have:=a0.out.size;have:=a3.out.size;omega) a5.out.size);exact Hq (B:=w.heap.size) Tryz.results64 _ _ rfl rfl hM fun w' hw'=>⟨by rw[HM.out];rfl,hX.trans hw'.below⟩
 ·exact hf.elim
end Go.Proofs.YtlgliddhideflaaGreatDoor
namespace Go.Proofs.YtlgliddhideflaaGreatDoor
open Go.RowKit Go.Shelf
attribute [local go_sem] Oper.semAt_some
def Hh (ls:List Bg)(w ss:List Snd):Int×Bool:=if B7 ls w ss≠0 then(B7 ls w ss,false)else(0,(Cl ls w ss).length !=0)
theorem F7 {fn:Func}{p q:Tmp}(h:fn.results= #[.cell p 4, .cell q 37])(tmps:Array Value)(w:World)(b1 b2:Nat)(v:Bool)(x:Int)(hp:tmps.getD p undef= .pointer (some ⟨b1,0,none⟩))(hq:tmps.getD q undef= .pointer (some ⟨b2,0,none⟩))
  (h1:w.cell? ⟨b1,0,none⟩=some (.bool v)) (h2:w.cell? ⟨b2,0,none⟩=some (.int .i64 x)):(results fn tmps).run Tryz.prog w= .ok (.tuple #[.bool v, .int .i64 x]) w:=by
 have a0:tmps[p]?.getD undef= .pointer (some ⟨b1,0,none⟩):=by simpa using hp
 have a1:tmps[q]?.getD undef= .pointer (some ⟨b2,0,none⟩):=by simpa using hq
 simp[results,h,a0,a1,asAddr,loadVar,go_sem,h1,h2]
theorem Afu (A:Option Addr)(n c:Nat)(xs:List Co)(Aw:Option Addr)(nw cw:Nat)(ws:List Snd)(As:Option Addr)(ns cs:Nat)(ss:List Snd)(w:World)(hx:B4 w A n c xs)(hw:Ad w Aw nw cw ws)(hs:Ad w As ns cs ss)(hT:Cq w)(hnw:nw<=4096):
  Calls Tryz.prog 66 #[.slice A n c, .slice Aw nw cw, .slice As ns cs] w fun e w'=>e= .returned (.tuple #[.bool (Hh (Ah xs) ws ss).2, .int .i64 (Hh (Ah xs) ws ss).1])/\Below w.heap.size w w':=by
 have HX:=hI hx;have HW:=hI hw;have HS:=hI hs;have HT:=hI hT;clear hx hw hs hT;refine(callsIn_wide (n:=9)).1 (callsIn_of_wp_marks Tryz.func66 rfl trivial ?_ rfl);simp only[Tryz.ntmps66,List.size_toArray,List.length_cons,List.length_nil,Nat.reduceAdd,Nat.reduceSub,Array.replicate_succ,Array.replicate_zero,List.push_toArray,List.append_toArray,List.nil_append,List.cons_append];gi_wp2;refine⟨trivial, ?_⟩;have k6:((w.alloc (.cells #[.bool false] 4)).alloc (.cells #[.int .i64 0] 37)).heap[w.heap.size]? =some (.cells #[.bool false] 4 (0,0)):=hpt;have k7:((w.alloc (.cells #[.bool false] 4)).alloc (.cells #[.int .i64 0] 37)).heap[w.heap.size+1]? =some (.cells #[.int .i64 0] 37 (0,0)):=hpt;have kB:Below w.heap.size w ((w.alloc (.cells #[.bool false] 4)).alloc (.cells #[.int .i64 0] 37)):=bel;generalize((w.alloc (.cells #[.bool false] 4)).alloc (.cells #[.int .i64 0] 37))=V0 at*;refine(callsIn_wide.2 (Uw A n c xs Aw nw cw ws As ns cs ss V0 (HX.out.below kB rr) (HW.out.below kB rr) (HS.out.below kB rr))).mono ?_;rintro e w1 ⟨rfl,a7⟩;have K6:=hI ((a7.block _ (lt_of_block k6)).trans k6);have K7:=hI ((a7.block _ (lt_of_block k7)).trans k7);have b0:=hI (kB.trans (a7.mono kB.size));clear k6 k7 kB a7;have l6:=lt_of_block K6.out;have l7:=lt_of_block K7.out;have c6:=cell_of_one K6.out;have f6:=free_of_one K6.out;have c7:=cell_of_one K7.out;have f7:=free_of_one K7.out;obtain⟨er,a9⟩:∃er,er=B7 (Ah xs) ws ss:=⟨_,rfl⟩;rw[←a9];have b4:=hI a9;clear a9;by_cases h0:er=0
 case neg=>
  have h1:(er !=0)=true:=by simpa using h0
  have HM:Hid (Hh (Ah xs) ws ss=(er,false)):=by show Hh _ _ _=_;unfold Hh;rw[←b4.out,if_pos h0]
  clear h0;gi_wp2;have s6:((w1.setCell ⟨w.heap.size,0,none⟩ (.bool false)).setCell ⟨w.heap.size+1,0,none⟩ (.int .i64 er)).heap[w.heap.size]? =some (.cells #[.bool false] 4 (0,0)):=(Below.heap_setCell _ _ _ _ (by simp)).trans (one_setCell K6.out);have s7:((w1.setCell ⟨w.heap.size,0,none⟩ (.bool false)).setCell ⟨w.heap.size+1,0,none⟩ (.int .i64 er)).heap[w.heap.size+1]? =some (.cells #[.int .i64 er] 37 (0,0)):=one_setCell ((Below.heap_setCell _ _ _ _ (by simp)).trans K7.out);have sB:Below w.heap.size w ((w1.setCell ⟨w.heap.size,0,none⟩ (.bool false)).setCell ⟨w.heap.size+1,0,none⟩ (.int .i64 er)):=(b0.out.setCell (p:=⟨w.heap.size,0,none⟩) (by simp) _).setCell (p:=⟨w.heap.size+1,0,none⟩) (by simp) _;refine Ee (B:=w.heap.size) (by exact trivial) fun w' hw'=>⟨_,F7 Tryz.results66 _ _ w.heap.size (w.heap.size+1) false er rfl rfl (cell_of_one (hw'.row s6)) (cell_of_one (hw'.row s7)),by rw[HM.out],sB.trans hw'.below⟩
 have h1:(er !=0)=false:=by simpa using h0
 have f1:Hid (B1 ss=0):=(Dk (by rw[←b4.out];exact h0)).2.2;have HM:Hid (Hh (Ah xs) ws ss=(0,(Cl (Ah xs) ws ss).length !=0)):=by show Hh _ _ _=_;unfold Hh;rw[←b4.out,if_neg (by simpa using h0)]
 clear h0 c6 f6 c7 f7;gi_wp2;refine⟨trivial, ?_⟩;have f3:=b0.out.size;refine(callsIn_wide.2 (S0 A n c Aw nw cw As ns cs w1)).mono ?_;rintro e w2 ⟨bs,bl,bw,rfl,k1,k2,k3,f9,f0,f4,d5⟩;have K1:=hI k1;have K2:=hI k2;have K3:=hI k3;have a5:=hI d5;clear k1 k2 k3 d5;gi_wp2;refine Dt (gf:=180) (lb:= #[.pointer (some ⟨bs,0,none⟩), .pointer (some ⟨bl,0,none⟩), .pointer (some ⟨bw,0,none⟩)]) rfl (enters_of Tryz.func180 (by kernel_rfl) rfl) fun fn D l rc W1 hrc hD hl hK2 hD1 hl1 hs2=> ?_
 have f8:=hI hrc;clear hrc;have g7:w2.heap.size<=D:=by omega
 have g5:D<l:=by omega
 clear hs2 hD hl;have a2:=hI hK2;have d7:=hI hD1;have d6:=hI hl1;clear hK2 hD1 hl1;have g8:=a5.out.size;have q1:=(a2.out.block _ (lt_of_block K1.out) (by simp)).trans K1.out;have q2:=(a2.out.block _ (lt_of_block K2.out) (by simp)).trans K2.out;have q3:=(a2.out.block _ (lt_of_block K3.out) (by simp)).trans K3.out;have q6:=(a2.out.block w.heap.size (by omega) (by simp)).trans ((a5.out.block _ l6).trans K6.out);have q7:=(a2.out.block (w.heap.size+1) (by omega) (by simp)).trans ((a5.out.block _ l7).trans K7.out);have b5:=lt_of_block q1;have b3:=lt_of_block q2;have b2:=lt_of_block q3;have g4:=lt_of_block K1.out;have g0:=lt_of_block K2.out;have g6:=lt_of_block K3.out;have g3:=lt_of_block d6.out;have Q1:=hI q1;have Q2:=hI q2;have Q3:=hI q3;have Q6:=hI q6;have Q7:=hI q7;clear q1 q2 q3 q6 q7;have a6:Hid (Below w.heap.size w W1):=(b0.out.trans (a5.out.mono f3)).trans ((a2.out.to_below (B:=w.heap.size) (fun b hb=>hb.elim) (by omega)));obtain⟨TT,d0⟩:∃TT:Nat->Prop,TT=fun b=>b=w.heap.size\/b=w.heap.size+1\/b=l:=⟨_,rfl⟩
 have d3:∀b,TT b↔b=w.heap.size\/b=w.heap.size+1\/b=l:=fun b=>by rw[d0]
 clear d0;have a0:=hI d3;clear d3;obtain⟨J,hJ⟩:∃J:Nat->(Nat->Prop)->World->Prop,J=fun i T X=>i=0/\T=TT/\X.heap[w.heap.size]? =some (.cells #[.bool false] 4 (0,0))/\X.heap[w.heap.size+1]? =some (.cells #[.int .i64 0] 37 (0,0))/\Aj TT W1 X/\X.heap[l]? =some (.loop (rc .ready none)):=⟨_,rfl⟩
 have HJ:=hI hJ;clear hJ;obtain⟨Jx,b9⟩:∃Jx:(Nat->Prop)->World->Prop,Jx=fun T X=>0<(Cl (Ah xs) ws ss).length/\T=TT/\X.heap[w.heap.size]? =some (.cells #[.bool true] 4 (0,0))/\X.heap[w.heap.size+1]? =some (.cells #[.int .i64 0] 37 (0,0))/\Aj TT W1 X/\X.heap[l]? =some (.loop (rc .done (some .ret))):=⟨_,rfl⟩
 have a8:=hI b9;clear b9
 have d1:Hid (∀X X':World,Aj TT W1 X->Aj (fun b=>W1.heap.size<=b∧¬TT b) X X'->Aj TT W1 X'∧∀b,TT b->X'.heap[b]? =X.heap[b]?):=by
  intro X X' h hk;have hs:=h.size;refine⟨((h.mono (S':=fun k=>TT k\/W1.heap.size<=k) fun _ e=> .inl e).trans (hk.mono fun _ e=> .inr e.1)).old fun k hlt e=>e.resolve_right (by omega),fun b hb=>hk.block b ?_ (fun e=>e.2 hb)⟩
  rcases(a0.out b).1 hb with e|e|e<;>omega
 refine(Ld (9-1) l bs bl bw (by omega) A n c xs Aw nw cw ws As ns cs ss W1 J Jx TT W1.heap.size ?hu ?h0 f1.out hnw).mono ?_
 case h0=>
  rw[HJ.out];exact⟨rfl,rfl,Q6.out,Q7.out,Aj.refl _ _,d6.out⟩
 case hu=>
  have f2:Hid (∀X,Aj TT W1 X->X.heap[bs]? =some (.cells #[.slice As ns cs] 32 (0,0))/\X.heap[bl]? =some (.cells #[.slice A n c] 35 (0,0))/\X.heap[bw]? =some (.cells #[.slice Aw nw cw] 32 (0,0))∧
    B4 X A n c xs/\Ad X Aw nw cw ws/\Ad X As ns cs ss/\Cq X):=by
   intro X h;have hX:Below w.heap.size w X:=a6.out.trans (h.to_below (B:=w.heap.size) (fun b hb=>by rcases(a0.out b).1 hb with e|e|e<;>omega) a6.out.size);have b6:∀b,w1.heap.size<=b->b<l→¬TT b:=fun b h1 h2 h3=>by rcases(a0.out b).1 h3 with e|e|e<;>omega
   exact⟨(h.block bs b5 (b6 _ (by omega) (by omega))).trans Q1.out,(h.block bl b3 (b6 _ (by omega) (by omega))).trans Q2.out,(h.block bw b2 (b6 _ (by omega) (by omega))).trans Q3.out,
    HX.out.below hX rr,HW.out.below hX rr,HS.out.below hX rr,HT.out.below hX rr⟩
  have t6:=(a0.out w.heap.size).2 (.inl rfl);have t7:=(a0.out (w.heap.size+1)).2 (.inr (.inl rfl));have tl:=(a0.out l).2 (.inr (.inr rfl));refine⟨?hB, ?hlt, ?hst, ?hsx, ?hrd, ?hnd, ?hnx, ?hy⟩
  case hB=>
   intro i T X hx;rw[HJ.out]at hx;exact hx.2.2.2.2.1.size
  case hlt=>
   intro i T X hx b hb;rw[HJ.out]at hx;obtain⟨rfl,rfl,h1,h2,h3,h4⟩:=hx
   have:=h3.size
   rcases(a0.out b).1 hb with e|e|e<;>omega
  case hst=>
   intro i T X X' hx hk;rw[HJ.out]at hx ⊢;obtain⟨rfl,rfl,h1,h2,h3,h4⟩:=hx;obtain⟨g1,g2⟩:=d1.out X X' h3 hk;exact⟨rfl,rfl,(g2 _ t6).trans h1,(g2 _ t7).trans h2,g1,(g2 _ tl).trans h4⟩
  case hsx=>
   intro T X X' hx hk;rw[a8.out]at hx ⊢;obtain⟨h0,rfl,h1,h2,h3,h4⟩:=hx;obtain⟨g1,g2⟩:=d1.out X X' h3 hk;exact⟨h0,rfl,(g2 _ t6).trans h1,(g2 _ t7).trans h2,g1,(g2 _ tl).trans h4⟩
  case hrd=>
   intro i T X hx;rw[HJ.out]at hx;exact f2.out X hx.2.2.2.2.1
  case hnd=>
   intro i T X hx b hb x e;rw[HJ.out]at hx;obtain⟨rfl,rfl,h1,h2,h3,h4⟩:=hx;rcases(a0.out b).1 hb with rfl|rfl|rfl
   ·rw[h1]at e;cases e
   ·rw[h2]at e;cases e
   ·rw[h4]at e;cases e
  case hnx=>
   intro T X hx b hb x e;rw[a8.out]at hx;obtain⟨h0,rfl,h1,h2,h3,h4⟩:=hx;rcases(a0.out b).1 hb with rfl|rfl|rfl
   ·rw[h1]at e;cases e
   ·rw[h2]at e;cases e
   ·rw[h4]at e;cases e
  case hy=>
   intro i T X A' k' c' x d4 d9 d8 hx;rw[HJ.out]at hx;obtain⟨rfl,a3,h1,h2,h3,h4⟩:=hx;subst a3;have a1:0<(Cl (Ah xs) ws ss).length:=(List.getElem?_eq_some_iff.1 d4).1;refine Du f8.out h4 rfl ?_;have H1:=hI h1;have H2:=hI h2;have H3:=hI h3;have H4:=hI h4;have f5:=hI a1;clear d4 d9 d8 h1 h2 h3 h4 a1;gi_wp2;refine⟨H4.out, ?_⟩;have v1:=(World.putObj_heap_other (w:=X) (r:=l) (o:= .loop (rc .busy none)) (show w.heap.size≠l by omega)).trans H1.out;have v2:=(World.putObj_heap_other (w:=X) (r:=l) (o:= .loop (rc .busy none)) (show w.heap.size+1≠l by omega)).trans H2.out;have vK:Aj T X (X.putObj l (.loop (rc .busy none))):=(Aj.refl T X).putObj tl _;have v4:(X.putObj l (.loop (rc .busy none))).heap[l]? =some (.loop (rc .busy none)):=World.putObj_heap_same (lt_of_block H4.out);generalize X.putObj l (.loop (rc .busy none))=V at*;have c6:=cell_of_one v1;have f6:=free_of_one v1;have c7:=cell_of_one v2;have f7:=free_of_one v2;have V1:=hI v1;have V2:=hI v2;have V4:=hI v4;have VK:=hI vK;clear v1 v2 v4 vK;gi_wp2;have y6:((V.setCell ⟨w.heap.size,0,none⟩ (.bool true)).setCell ⟨w.heap.size+1,0,none⟩ (.int .i64 0)).heap[w.heap.size]? =some (.cells #[.bool true] 4 (0,0)):=(Below.heap_setCell _ _ _ _ (by simp)).trans (one_setCell V1.out);have y7:((V.setCell ⟨w.heap.size,0,none⟩ (.bool true)).setCell ⟨w.heap.size+1,0,none⟩ (.int .i64 0)).heap[w.heap.size+1]? =some (.cells #[.int .i64 0] 37 (0,0)):=one_setCell ((Below.heap_setCell _ _ _ _ (by simp)).trans V2.out);have yl:((V.setCell ⟨w.heap.size,0,none⟩ (.bool true)).setCell ⟨w.heap.size+1,0,none⟩ (.int .i64 0)).heap[l]? =some (.loop (rc .busy none)):=(Below.heap_setCell _ _ _ _ (by simp;omega)).trans ((Below.heap_setCell _ _ _ _ (by simp;omega)).trans V4.out);have yK:=((VK.out.setCell (p:=⟨w.heap.size,0,none⟩) t6 (.bool true)).setCell (p:=⟨w.heap.size+1,0,none⟩) t7 (.int .i64 0));refine⟨yl,yK.putObj tl _, .inr ⟨rfl,_, ?_,fun b h=> .inl h⟩⟩
   rw[a8.out];exact⟨f5.out,rfl,(World.putObj_heap_other (by omega)).trans y6,(World.putObj_heap_other (by omega)).trans y7,(H3.out.trans yK).putObj tl _,World.putObj_heap_same (lt_of_block yl)⟩
 have b8:∀X,Aj TT W1 X->Below w.heap.size w X:=fun X h=>a6.out.trans (h.to_below (B:=w.heap.size) (fun b hb=>by rcases(a0.out b).1 hb with e|e|e<;>omega) a6.out.size)
 have d2:=hI b8;clear b8;have b7:¬TT D:=fun h=>by rcases(a0.out D).1 h with e|e|e<;>omega
 have tl:=(a0.out l).2 (.inr (.inr rfl));rintro e W' ⟨⟨v,rfl⟩,⟨T,hj⟩|⟨T,hx⟩⟩
 ·rw[HJ.out]at hj;obtain⟨a4,a3,h1,h2,h3,h4⟩:=hj;subst a3;refine .inl ⟨h4, ?_⟩;have x1:=(World.putObj_heap_other (w:=W') (r:=l) (o:= .loop (rc .exhausted none)) (show w.heap.size≠l by omega)).trans h1;have x2:=(World.putObj_heap_other (w:=W') (r:=l) (o:= .loop (rc .exhausted none)) (show w.heap.size+1≠l by omega)).trans h2;have xK:=h3.putObj tl (.loop (rc .exhausted none));have b1:Hid (Hh (Ah xs) ws ss=(0,false)):=by show _=_;rw[HM.out,a4];rfl
  generalize W'.putObj l (.loop (rc .exhausted none))=X at*;have c6:=cell_of_one x1;have f6:=free_of_one x1;have c7:=cell_of_one x2;have f7:=free_of_one x2;have X1:=hI x1;have X2:=hI x2;have XK:=hI xK;clear x1 x2 xK h1 h2 h3 h4 a4;gi_wp2;have s6:((X.setCell ⟨w.heap.size,0,none⟩ (.bool false)).setCell ⟨w.heap.size+1,0,none⟩ (.int .i64 0)).heap[w.heap.size]? =some (.cells #[.bool false] 4 (0,0)):=(Below.heap_setCell _ _ _ _ (by simp)).trans (one_setCell X1.out);have s7:((X.setCell ⟨w.heap.size,0,none⟩ (.bool false)).setCell ⟨w.heap.size+1,0,none⟩ (.int .i64 0)).heap[w.heap.size+1]? =some (.cells #[.int .i64 0] 37 (0,0)):=one_setCell ((Below.heap_setCell _ _ _ _ (by simp)).trans X2.out);have sK:=(XK.out.setCell (p:=⟨w.heap.size,0,none⟩) ((a0.out _).2 (.inl rfl)) (.bool false)).setCell (p:=⟨w.heap.size+1,0,none⟩) ((a0.out _).2 (.inr (.inl rfl))) (.int .i64 0);have hM:Dd w.heap.size ((X.setCell ⟨w.heap.size,0,none⟩ (.bool false)).setCell ⟨w.heap.size+1,0,none⟩ (.int .i64 0)) [Ft D]:=⟨D,rfl,by omega,(sK.block D (by omega) b7).trans d7.out,by simp,trivial⟩;exact Ee (B:=w.heap.size) hM fun w' hw'=>⟨_,F7 Tryz.results66 _ _ w.heap.size (w.heap.size+1) false 0 rfl rfl (cell_of_one (hw'.row s6)) (cell_of_one (hw'.row s7)),by rw[b1.out],(d2.out _ sK).trans hw'.below⟩
 ·rw[a8.out]at hx;obtain⟨a1,a3,h1,h2,h3,h4⟩:=hx;subst a3;refine .inr ⟨.ret,h4, ?_⟩;have x1:=(World.putObj_heap_other (w:=W') (r:=l) (o:= .loop (rc .exhausted (some .ret))) (show w.heap.size≠l by omega)).trans h1;have x2:=(World.putObj_heap_other (w:=W') (r:=l) (o:= .loop (rc .exhausted (some .ret))) (show w.heap.size+1≠l by omega)).trans h2;have xK:=h3.putObj tl (.loop (rc .exhausted (some .ret)));have b1:Hid (Hh (Ah xs) ws ss=(0,true)):=by show _=_;rw[HM.out,show((Cl (Ah xs) ws ss).length !=0)=true from bne_iff_ne.2 (by omega)]
  generalize W'.putObj l (.loop (rc .exhausted (some .ret)))=X at*;have X1:=hI x1;have X2:=hI x2;have XK:=hI xK;clear x1 x2 xK h1 h2 h3 h4 a1;gi_wp2;have hM:Dd w.heap.size X [Ft D]:=⟨D,rfl,by omega,(XK.out.block D (by omega) b7).trans d7.out,by simp,trivial⟩;exact Ee (B:=w.heap.size) hM fun w' hw'=>⟨_,F7 Tryz.results66 _ _ w.heap.size (w.heap.size+1) true 0 rfl rfl (cell_of_one (hw'.row X1.out)) (cell_of_one (hw'.row X2.out)),by rw[b1.out],(d2.out _ XK.out).trans hw'.below⟩
end Go.Proofs.YtlgliddhideflaaGreatDoor
