/-
  Closures of ablautlaw11 that compare words; slices.EqualFunc of equal words.
  inverse.Count, inverse.Reached.
  inverse.Reached.
  What ablautlaw11.InverseRefuses looks at: errors of laws and alphabets.
  slices.Repeat of two laws, 33 times.
-/
import Derived.Test.YtlgliddhideflaaGreatDoorXWk11
set_option linter.all false
set_option maxRecDepth 100000
set_option maxHeartbeats 4000000
namespace Go.Proofs.YtlgliddhideflaaGreatDoor
open Go.RowKit Go.Shelf
end Go.Proofs.YtlgliddhideflaaGreatDoor
namespace Go.Proofs.YtlgliddhideflaaGreatDoor
open Go.RowKit Go.Shelf
attribute [local go_sem] Oper.semAt_some
structure Lb (bn lr:Nat)(rc:LoopState->Option Code->Loop)(W1:World)(i:Nat)(T:Nat->Prop)(st:LoopState)(W:World):Prop where
 tw:T=fun b=>b=bn\/b=lr
 lt:bn<W1.heap.size/\lr<W1.heap.size/\bn≠lr
 cn:W.heap[bn]? =some (.cells #[.int .i64 i] 3 (0,0))
 kp:Ae (fun b=>b=bn\/b=lr) W1 W
 lp:W.heap[lr]? =some (.loop (rc st none))
section
variable {bn lr:Nat}{rc:LoopState->Option Code->Loop}{W1:World}{i:Nat}{T:Nat->Prop}{st:LoopState}{W W':World}
theorem Lb.keep (h:Lb bn lr rc W1 i T st W)(hk:Ae (fun b=>W1.heap.size<=b∧¬T b) W W'):Lb bn lr rc W1 i T st W':=by
 obtain⟨h1,h2,h3,h4,h5⟩:=h;have ho:∀b,b<W1.heap.size->W'.heap[b]? =W.heap[b]? :=fun b hb=>hk.block b (by have:=h4.size;omega) (fun h=>by omega)
 exact⟨h1,h2,(ho _ h2.1).trans h3,((h4.mono (S':=fun b=>(b=bn\/b=lr)\/W1.heap.size<=b) fun _ e=> .inl e).trans (hk.mono fun _ e=> .inr e.1)).old fun b hb e=>e.resolve_right (by omega),(ho _ h2.2.1).trans h5⟩
theorem Lb.put (h:Lb bn lr rc W1 i T st W)(st':LoopState):Lb bn lr rc W1 i T st' (W.putObj lr (.loop (rc st' none))):=by
 obtain⟨h1,h2,h3,h4,h5⟩:=h;exact⟨h1,h2,(World.putObj_heap_other h2.2.2).trans h3,h4.putObj (by simp) _,World.putObj_heap_same (lt_of_block h5)⟩
theorem Lb.set (h:Lb bn lr rc W1 i T st W)(j:Nat):Lb bn lr rc W1 j T st (W.setCell ⟨bn,0,none⟩ (.int .i64 j)):=by
 obtain⟨h1,h2,h3,h4,h5⟩:=h;exact⟨h1,h2,one_setCell h3,h4.setCell (p:=⟨bn,0,none⟩) (by simp) _,(Below.heap_setCell _ _ _ _ (by simpa using h2.2.2.symm)).trans h5⟩
theorem Lb.lts (h:Lb bn lr rc W1 i T st W):∀b,T b->b<W.heap.size:=by
 intro b hb;rw[h.tw]at hb;rcases hb with rfl|rfl
 ·exact lt_of_block h.cn
 ·exact lt_of_block h.lp
theorem Lb.nds (h:Lb bn lr rc W1 i T st W):∀b,T b→∀x,W.heap[b]? ≠some (.deferred x):=by
 intro b hb x e;rw[h.tw]at hb;rcases hb with rfl|rfl
 ·rw[h.cn]at e;cases e
 ·rw[h.lp]at e;cases e
end
theorem Uw (A:Option Addr)(n c:Nat)(xs:List Bu)(Aw:Option Addr)(nw cw:Nat)(ws:List Snd)(As:Option Addr)(ns cs:Nat)(ss:List Snd)(w:World)(hx:Bw w A n c xs)(hw:Ab w Aw nw cw ws)(hs:Ab w As ns cs ss)(hT:B7 w)(hnw:nw<=4096):
  Calls Tryz.prog 64 #[.slice A n c, .slice Aw nw cw, .slice As ns cs] w fun e w'=>e= .returned (.tuple #[.int .i64 (Gg (Am xs) ws ss).2, .int .i64 (Gg (Am xs) ws ss).1])/\Below w.heap.size w w':=by
 have HX:=hI hx;have HW:=hI hw;have HS:=hI hs;have HT:=hI hT;clear hx hw hs hT;refine(callsIn_wide (n:=9)).1 (callsIn_of_wp_marks Tryz.func64 rfl trivial ?_ rfl);simp only[Tryz.ntmps64,List.size_toArray,List.length_cons,List.length_nil,Nat.reduceAdd,Nat.reduceSub,Array.replicate_succ,Array.replicate_zero,List.push_toArray,List.append_toArray,List.nil_append,List.cons_append];gi_wp2;refine⟨trivial, ?_⟩;refine(callsIn_wide.2 (Ng A n c xs Aw nw cw ws As ns cs ss w HX.out HW.out HS.out)).mono ?_;rintro e w1 ⟨rfl,b6⟩;have a0:=hI b6;clear b6;obtain⟨er,a7⟩:∃er,er=Bg (Am xs) ws ss:=⟨_,rfl⟩;rw[←a7];have a9:=hI a7;clear a7;by_cases h0:er=0
 case neg=>
  have h1:(er !=0)=true:=by simpa using h0
  have HM:Hid (Gg (Am xs) ws ss=(er,0)):=by show Gg _ _ _=_;unfold Gg;rw[←a9.out,if_pos h0]
  clear h0;gi_wp2;exact E6 (B:=w.heap.size) Tryz.results64 _ _ rfl rfl trivial fun w' hw'=>⟨by rw[HM.out];rfl,a0.out.trans (hw'.below.mono (by have:=a0.out.size;omega))⟩
 have h1:(er !=0)=false:=by simpa using h0
 have b1:Hid (B2 ss=0):=(C4 (by rw[←a9.out];exact h0)).2.2;have HM:Hid (Gg (Am xs) ws ss=(0,((Ca (Am xs) ws ss).length:Int))):=by show Gg _ _ _=_;unfold Gg;rw[←a9.out,if_neg (by simpa using h0)]
 clear h0;gi_wp2;refine⟨trivial, ?_⟩;have gA:(w1.alloc (.cells #[.int .i64 0] 3)).heap[w1.heap.size]? =some (.cells #[.int .i64 0] 3 (0,0)):=hpt;have gB:Below w.heap.size w (w1.alloc (.cells #[.int .i64 0] 3)):=a0.out.alloc a0.out.size _;have d7:=a0.out.size;generalize(w1.alloc (.cells #[.int .i64 0] 3))=WA at*;have d2:=lt_of_block gA;have GA:=hI gA;have GB:=hI gB;clear gA gB;refine(callsIn_wide.2 (Mn A n c Aw nw cw As ns cs WA)).mono ?_;rintro e w2 ⟨bs,bl,bw,rfl,k1,k2,k3,d0,b9,d4,b5⟩;have K1:=hI k1;have K2:=hI k2;have K3:=hI k3;have a2:=hI b5;clear k1 k2 k3 b5;gi_wp2;refine Cv (gf:=180) (lb:= #[.pointer (some ⟨bs,0,none⟩), .pointer (some ⟨bl,0,none⟩), .pointer (some ⟨bw,0,none⟩)]) rfl (enters_of Tryz.func180 (by kernel_rfl) rfl) fun fn D l rc W1 hrc hD hl hK2 hD1 hl1 hs2=> ?_
 have b8:=hI hrc;clear hrc;have f0:w2.heap.size<=D:=by omega
 have f4:D<l:=by omega
 clear hs2 hD hl;have a3:=hI hK2;have d3:=hI hD1;have b4:=hI hl1;clear hK2 hD1 hl1;have f2:=a2.out.size;have q1:=(a3.out.block _ (lt_of_block K1.out) (by simp)).trans K1.out;have q2:=(a3.out.block _ (lt_of_block K2.out) (by simp)).trans K2.out;have q3:=(a3.out.block _ (lt_of_block K3.out) (by simp)).trans K3.out;have q4:=(a3.out.block w1.heap.size (by omega) (by simp)).trans ((a2.out.block _ d2).trans GA.out);have a8:=lt_of_block q1;have a6:=lt_of_block q2;have b0:=lt_of_block q3;have f3:=lt_of_block K1.out;have d9:=lt_of_block K2.out;have d8:=lt_of_block K3.out;have d6:=lt_of_block b4.out;have Q1:=hI q1;have Q2:=hI q2;have Q3:=hI q3;have Q4:=hI q4;clear q1 q2 q3 q4;have a5:Hid (Below w.heap.size w W1):=(GB.out.trans (a2.out.mono GB.out.size)).trans ((a3.out.to_below (B:=w.heap.size) (fun b hb=>hb.elim) (by have:=GB.out.size;omega)));refine(Gn (9-1) l bs bl bw (by omega) A n c xs Aw nw cw ws As ns cs ss W1 (fun i T X=>Lb (w1.heap.size) l rc W1 i T .ready X) (fun _ _=>False) (fun b=>b=w1.heap.size\/b=l) W1.heap.size ?hu ⟨rfl,⟨by omega,d6,by omega⟩,Q4.out,Ae.refl _ _,b4.out⟩ b1.out hnw).mono ?_
 case hu=>
  refine⟨fun i T X h=>h.kp.size,fun i T X h=>h.lts,fun i T X X' h hk=>h.keep hk,fun _ _ _ h=>h.elim, ?hrd,fun i T X h=>h.nds,fun _ _ h=>h.elim, ?hy⟩
  case hrd=>
   intro i T X h;have hX:Below w.heap.size w X:=a5.out.trans (h.kp.to_below (fun b hb=>by have:=a0.out.size;have:=a2.out.size;omega) a5.out.size);exact⟨(h.kp.block bs a8 (by omega)).trans Q1.out,(h.kp.block bl a6 (by omega)).trans Q2.out,(h.kp.block bw b0 (by omega)).trans Q3.out,HX.out.below hX rr,HW.out.below hX rr,HS.out.below hX rr,HT.out.below hX rr⟩
  case hy=>
   intro i T X A' k' c' x b3 b7 d5 hx;have d1:i<(Ca (Am xs) ws ss).length:=(List.getElem?_eq_some_iff.1 b3).1;have a1:=Hn (ls:=Am xs) (w:=ws) (Bz b1.out).2.2 (Bz b1.out).1;have hi:i<=20000:=by omega
   clear d1 a1 b3 b7 d5;refine Cw b8.out hx.lp rfl ?_;have HC:=hI hx;clear hx;gi_wp2;refine⟨HC.out.lp, ?_⟩;have pC:=HC.out.put .busy;have pK:Ae T X (X.putObj l (.loop (rc .busy none))):=(Ae.refl T X).putObj (by rw[HC.out.tw];exact .inr rfl) _;generalize X.putObj l (.loop (rc .busy none))=V at*;have c1:=cell_of_one pC.cn;have f1:=free_of_one pC.cn;have PC:=hI pC;have PK:=hI pK;clear pC pK;gi_wp2;have a4:((i:Int)+1)=((i+1:Nat):Int):=by omega
   rw[a4];have hS:=PC.out.set (i+1);have b2:=PC.out.tw;exact⟨hS.lp,((PK.out.setCell (p:=⟨w1.heap.size,0,none⟩) (by rw[b2];exact .inl rfl) _).putObj (by rw[b2];exact .inr rfl) _),rfl,T,hS.put .ready,fun b h=> .inl h⟩
 rintro e W' ⟨⟨v,rfl⟩,⟨T,hj⟩|⟨_,hf⟩⟩
 ·refine .inl ⟨hj.lp, ?_⟩;have xC:=hj.put .exhausted;generalize W'.putObj l (.loop (rc .exhausted none))=X at*;have c1:=cell_of_one xC.cn;have XC:=hI xC;clear hj xC;gi_wp2;have hM:Cm w.heap.size X [D7 D]:=⟨D,rfl,by have:=a0.out.size;omega,(XC.out.kp.block D (by omega) (by omega)).trans d3.out,by simp,trivial⟩;have hX:Below w.heap.size w X:=a5.out.trans (XC.out.kp.to_below (fun b hb=>by have:=a0.out.size;have:=a2.out.size;omega) a5.out.size);exact E6 (B:=w.heap.size) Tryz.results64 _ _ rfl rfl hM fun w' hw'=>⟨by rw[HM.out];rfl,hX.trans hw'.below⟩
 ·exact hf.elim
end Go.Proofs.YtlgliddhideflaaGreatDoor
namespace Go.Proofs.YtlgliddhideflaaGreatDoor
open Go.RowKit Go.Shelf
attribute [local go_sem] Oper.semAt_some
def Ff (ls:List Av)(w ss:List Snd):Int×Bool:=if Bg ls w ss≠0 then(Bg ls w ss,false)else(0,(Ca ls w ss).length !=0)
theorem Eh {fn:Func}{p q:Tmp}(h:fn.results= #[.cell p 4, .cell q 37])(tmps:Array Value)(w:World)(b1 b2:Nat)(v:Bool)(x:Int)(hp:tmps.getD p undef= .pointer (some ⟨b1,0,none⟩))(hq:tmps.getD q undef= .pointer (some ⟨b2,0,none⟩))
  (h1:w.cell? ⟨b1,0,none⟩=some (.bool v)) (h2:w.cell? ⟨b2,0,none⟩=some (.int .i64 x)):(results fn tmps).run Tryz.prog w= .ok (.tuple #[.bool v, .int .i64 x]) w:=by
 have a0:tmps[p]?.getD undef= .pointer (some ⟨b1,0,none⟩):=by simpa using hp
 have a1:tmps[q]?.getD undef= .pointer (some ⟨b2,0,none⟩):=by simpa using hq
 simp[results,h,a0,a1,asAddr,loadVar,go_sem,h1,h2]
theorem Xp (A:Option Addr)(n c:Nat)(xs:List Bu)(Aw:Option Addr)(nw cw:Nat)(ws:List Snd)(As:Option Addr)(ns cs:Nat)(ss:List Snd)(w:World)(hx:Bw w A n c xs)(hw:Ab w Aw nw cw ws)(hs:Ab w As ns cs ss)(hT:B7 w)(hnw:nw<=4096):
  Calls Tryz.prog 66 #[.slice A n c, .slice Aw nw cw, .slice As ns cs] w fun e w'=>e= .returned (.tuple #[.bool (Ff (Am xs) ws ss).2, .int .i64 (Ff (Am xs) ws ss).1])/\Below w.heap.size w w':=by
 have HX:=hI hx;have HW:=hI hw;have HS:=hI hs;have HT:=hI hT;clear hx hw hs hT;refine(callsIn_wide (n:=9)).1 (callsIn_of_wp_marks Tryz.func66 rfl trivial ?_ rfl);simp only[Tryz.ntmps66,List.size_toArray,List.length_cons,List.length_nil,Nat.reduceAdd,Nat.reduceSub,Array.replicate_succ,Array.replicate_zero,List.push_toArray,List.append_toArray,List.nil_append,List.cons_append];gi_wp2;refine⟨trivial, ?_⟩;have k6:((w.alloc (.cells #[.bool false] 4)).alloc (.cells #[.int .i64 0] 37)).heap[w.heap.size]? =some (.cells #[.bool false] 4 (0,0)):=hpt;have k7:((w.alloc (.cells #[.bool false] 4)).alloc (.cells #[.int .i64 0] 37)).heap[w.heap.size+1]? =some (.cells #[.int .i64 0] 37 (0,0)):=hpt;have kB:Below w.heap.size w ((w.alloc (.cells #[.bool false] 4)).alloc (.cells #[.int .i64 0] 37)):=bel;generalize((w.alloc (.cells #[.bool false] 4)).alloc (.cells #[.int .i64 0] 37))=V0 at*;refine(callsIn_wide.2 (Ng A n c xs Aw nw cw ws As ns cs ss V0 (HX.out.below kB rr) (HW.out.below kB rr) (HS.out.below kB rr))).mono ?_;rintro e w1 ⟨rfl,a7⟩;have K6:=hI ((a7.block _ (lt_of_block k6)).trans k6);have K7:=hI ((a7.block _ (lt_of_block k7)).trans k7);have b6:=hI (kB.trans (a7.mono kB.size));clear k6 k7 kB a7;have l6:=lt_of_block K6.out;have l7:=lt_of_block K7.out;have c6:=cell_of_one K6.out;have f6:=free_of_one K6.out;have c7:=cell_of_one K7.out;have f7:=free_of_one K7.out;obtain⟨er,b2⟩:∃er,er=Bg (Am xs) ws ss:=⟨_,rfl⟩;rw[←b2];have b5:=hI b2;clear b2;by_cases h0:er=0
 case neg=>
  have h1:(er !=0)=true:=by simpa using h0
  have HM:Hid (Ff (Am xs) ws ss=(er,false)):=by show Ff _ _ _=_;unfold Ff;rw[←b5.out,if_pos h0]
  clear h0;gi_wp2;have s6:((w1.setCell ⟨w.heap.size,0,none⟩ (.bool false)).setCell ⟨w.heap.size+1,0,none⟩ (.int .i64 er)).heap[w.heap.size]? =some (.cells #[.bool false] 4 (0,0)):=(Below.heap_setCell _ _ _ _ (by simp)).trans (one_setCell K6.out);have s7:((w1.setCell ⟨w.heap.size,0,none⟩ (.bool false)).setCell ⟨w.heap.size+1,0,none⟩ (.int .i64 er)).heap[w.heap.size+1]? =some (.cells #[.int .i64 er] 37 (0,0)):=one_setCell ((Below.heap_setCell _ _ _ _ (by simp)).trans K7.out);have sB:Below w.heap.size w ((w1.setCell ⟨w.heap.size,0,none⟩ (.bool false)).setCell ⟨w.heap.size+1,0,none⟩ (.int .i64 er)):=(b6.out.setCell (p:=⟨w.heap.size,0,none⟩) (by simp) _).setCell (p:=⟨w.heap.size+1,0,none⟩) (by simp) _;refine Dd (B:=w.heap.size) (by exact trivial) fun w' hw'=>⟨_,Eh Tryz.results66 _ _ w.heap.size (w.heap.size+1) false er rfl rfl (cell_of_one (hw'.row s6)) (cell_of_one (hw'.row s7)),by rw[HM.out],sB.trans hw'.below⟩
 have h1:(er !=0)=false:=by simpa using h0
 have f9:Hid (B2 ss=0):=(C4 (by rw[←b5.out];exact h0)).2.2;have HM:Hid (Ff (Am xs) ws ss=(0,(Ca (Am xs) ws ss).length !=0)):=by show Ff _ _ _=_;unfold Ff;rw[←b5.out,if_neg (by simpa using h0)]
 clear h0 c6 f6 c7 f7;gi_wp2;refine⟨trivial, ?_⟩;have d8:=b6.out.size;refine(callsIn_wide.2 (Mn A n c Aw nw cw As ns cs w1)).mono ?_;rintro e w2 ⟨bs,bl,bw,rfl,k1,k2,k3,f3,f2,f5,d2⟩;have K1:=hI k1;have K2:=hI k2;have K3:=hI k3;have a5:=hI d2;clear k1 k2 k3 d2;gi_wp2;refine Cv (gf:=180) (lb:= #[.pointer (some ⟨bs,0,none⟩), .pointer (some ⟨bl,0,none⟩), .pointer (some ⟨bw,0,none⟩)]) rfl (enters_of Tryz.func180 (by kernel_rfl) rfl) fun fn D l rc W1 hrc hD hl hK2 hD1 hl1 hs2=> ?_
 have f1:=hI hrc;clear hrc;have g4:w2.heap.size<=D:=by omega
 have g7:D<l:=by omega
 clear hs2 hD hl;have a2:=hI hK2;have d5:=hI hD1;have d1:=hI hl1;clear hK2 hD1 hl1;have g5:=a5.out.size;have q1:=(a2.out.block _ (lt_of_block K1.out) (by simp)).trans K1.out;have q2:=(a2.out.block _ (lt_of_block K2.out) (by simp)).trans K2.out;have q3:=(a2.out.block _ (lt_of_block K3.out) (by simp)).trans K3.out;have q6:=(a2.out.block w.heap.size (by omega) (by simp)).trans ((a5.out.block _ l6).trans K6.out);have q7:=(a2.out.block (w.heap.size+1) (by omega) (by simp)).trans ((a5.out.block _ l7).trans K7.out);have b3:=lt_of_block q1;have a9:=lt_of_block q2;have b4:=lt_of_block q3;have g6:=lt_of_block K1.out;have g3:=lt_of_block K2.out;have g0:=lt_of_block K3.out;have g8:=lt_of_block d1.out;have Q1:=hI q1;have Q2:=hI q2;have Q3:=hI q3;have Q6:=hI q6;have Q7:=hI q7;clear q1 q2 q3 q6 q7;have a6:Hid (Below w.heap.size w W1):=(b6.out.trans (a5.out.mono d8)).trans ((a2.out.to_below (B:=w.heap.size) (fun b hb=>hb.elim) (by omega)));obtain⟨TT,b8⟩:∃TT:Nat->Prop,TT=fun b=>b=w.heap.size\/b=w.heap.size+1\/b=l:=⟨_,rfl⟩
 have b9:∀b,TT b↔b=w.heap.size\/b=w.heap.size+1\/b=l:=fun b=>by rw[b8]
 clear b8;have a0:=hI b9;clear b9;obtain⟨J,hJ⟩:∃J:Nat->(Nat->Prop)->World->Prop,J=fun i T X=>i=0/\T=TT/\X.heap[w.heap.size]? =some (.cells #[.bool false] 4 (0,0))/\X.heap[w.heap.size+1]? =some (.cells #[.int .i64 0] 37 (0,0))/\Ae TT W1 X/\X.heap[l]? =some (.loop (rc .ready none)):=⟨_,rfl⟩
 have HJ:=hI hJ;clear hJ;obtain⟨Jx,d3⟩:∃Jx:(Nat->Prop)->World->Prop,Jx=fun T X=>0<(Ca (Am xs) ws ss).length/\T=TT/\X.heap[w.heap.size]? =some (.cells #[.bool true] 4 (0,0))/\X.heap[w.heap.size+1]? =some (.cells #[.int .i64 0] 37 (0,0))/\Ae TT W1 X/\X.heap[l]? =some (.loop (rc .done (some .ret))):=⟨_,rfl⟩
 have a8:=hI d3;clear d3
 have d7:Hid (∀X X':World,Ae TT W1 X->Ae (fun b=>W1.heap.size<=b∧¬TT b) X X'->Ae TT W1 X'∧∀b,TT b->X'.heap[b]? =X.heap[b]?):=by
  intro X X' h hk;have hs:=h.size;refine⟨((h.mono (S':=fun k=>TT k\/W1.heap.size<=k) fun _ e=> .inl e).trans (hk.mono fun _ e=> .inr e.1)).old fun k hlt e=>e.resolve_right (by omega),fun b hb=>hk.block b ?_ (fun e=>e.2 hb)⟩
  rcases(a0.out b).1 hb with e|e|e<;>omega
 refine(Gn (9-1) l bs bl bw (by omega) A n c xs Aw nw cw ws As ns cs ss W1 J Jx TT W1.heap.size ?hu ?h0 f9.out hnw).mono ?_
 case h0=>
  rw[HJ.out];exact⟨rfl,rfl,Q6.out,Q7.out,Ae.refl _ _,d1.out⟩
 case hu=>
  have f4:Hid (∀X,Ae TT W1 X->X.heap[bs]? =some (.cells #[.slice As ns cs] 32 (0,0))/\X.heap[bl]? =some (.cells #[.slice A n c] 35 (0,0))/\X.heap[bw]? =some (.cells #[.slice Aw nw cw] 32 (0,0))∧
    Bw X A n c xs/\Ab X Aw nw cw ws/\Ab X As ns cs ss/\B7 X):=by
   intro X h;have hX:Below w.heap.size w X:=a6.out.trans (h.to_below (B:=w.heap.size) (fun b hb=>by rcases(a0.out b).1 hb with e|e|e<;>omega) a6.out.size);have b1:∀b,w1.heap.size<=b->b<l→¬TT b:=fun b h1 h2 h3=>by rcases(a0.out b).1 h3 with e|e|e<;>omega
   exact⟨(h.block bs b3 (b1 _ (by omega) (by omega))).trans Q1.out,(h.block bl a9 (b1 _ (by omega) (by omega))).trans Q2.out,(h.block bw b4 (b1 _ (by omega) (by omega))).trans Q3.out,
    HX.out.below hX rr,HW.out.below hX rr,HS.out.below hX rr,HT.out.below hX rr⟩
  have t6:=(a0.out w.heap.size).2 (.inl rfl);have t7:=(a0.out (w.heap.size+1)).2 (.inr (.inl rfl));have tl:=(a0.out l).2 (.inr (.inr rfl));refine⟨?hB, ?hlt, ?hst, ?hsx, ?hrd, ?hnd, ?hnx, ?hy⟩
  case hB=>
   intro i T X hx;rw[HJ.out]at hx;exact hx.2.2.2.2.1.size
  case hlt=>
   intro i T X hx b hb;rw[HJ.out]at hx;obtain⟨rfl,rfl,h1,h2,h3,h4⟩:=hx
   have:=h3.size
   rcases(a0.out b).1 hb with e|e|e<;>omega
  case hst=>
   intro i T X X' hx hk;rw[HJ.out]at hx ⊢;obtain⟨rfl,rfl,h1,h2,h3,h4⟩:=hx;obtain⟨g1,g2⟩:=d7.out X X' h3 hk;exact⟨rfl,rfl,(g2 _ t6).trans h1,(g2 _ t7).trans h2,g1,(g2 _ tl).trans h4⟩
  case hsx=>
   intro T X X' hx hk;rw[a8.out]at hx ⊢;obtain⟨h0,rfl,h1,h2,h3,h4⟩:=hx;obtain⟨g1,g2⟩:=d7.out X X' h3 hk;exact⟨h0,rfl,(g2 _ t6).trans h1,(g2 _ t7).trans h2,g1,(g2 _ tl).trans h4⟩
  case hrd=>
   intro i T X hx;rw[HJ.out]at hx;exact f4.out X hx.2.2.2.2.1
  case hnd=>
   intro i T X hx b hb x e;rw[HJ.out]at hx;obtain⟨rfl,rfl,h1,h2,h3,h4⟩:=hx;rcases(a0.out b).1 hb with rfl|rfl|rfl
   ·rw[h1]at e;cases e
   ·rw[h2]at e;cases e
   ·rw[h4]at e;cases e
  case hnx=>
   intro T X hx b hb x e;rw[a8.out]at hx;obtain⟨h0,rfl,h1,h2,h3,h4⟩:=hx;rcases(a0.out b).1 hb with rfl|rfl|rfl
   ·rw[h1]at e;cases e
   ·rw[h2]at e;cases e
   ·rw[h4]at e;cases e
  case hy=>
   intro i T X A' k' c' x d0 f0 f8 hx;rw[HJ.out]at hx;obtain⟨rfl,a3,h1,h2,h3,h4⟩:=hx;subst a3;have a1:0<(Ca (Am xs) ws ss).length:=(List.getElem?_eq_some_iff.1 d0).1;refine Cw f1.out h4 rfl ?_;have H1:=hI h1;have H2:=hI h2;have H3:=hI h3;have H4:=hI h4;have d9:=hI a1;clear d0 f0 f8 h1 h2 h3 h4 a1;gi_wp2;refine⟨H4.out, ?_⟩;have v1:=(World.putObj_heap_other (w:=X) (r:=l) (o:= .loop (rc .busy none)) (show w.heap.size≠l by omega)).trans H1.out;have v2:=(World.putObj_heap_other (w:=X) (r:=l) (o:= .loop (rc .busy none)) (show w.heap.size+1≠l by omega)).trans H2.out;have vK:Ae T X (X.putObj l (.loop (rc .busy none))):=(Ae.refl T X).putObj tl _;have v4:(X.putObj l (.loop (rc .busy none))).heap[l]? =some (.loop (rc .busy none)):=World.putObj_heap_same (lt_of_block H4.out);generalize X.putObj l (.loop (rc .busy none))=V at*;have c6:=cell_of_one v1;have f6:=free_of_one v1;have c7:=cell_of_one v2;have f7:=free_of_one v2;have V1:=hI v1;have V2:=hI v2;have V4:=hI v4;have VK:=hI vK;clear v1 v2 v4 vK;gi_wp2;have y6:((V.setCell ⟨w.heap.size,0,none⟩ (.bool true)).setCell ⟨w.heap.size+1,0,none⟩ (.int .i64 0)).heap[w.heap.size]? =some (.cells #[.bool true] 4 (0,0)):=(Below.heap_setCell _ _ _ _ (by simp)).trans (one_setCell V1.out);have y7:((V.setCell ⟨w.heap.size,0,none⟩ (.bool true)).setCell ⟨w.heap.size+1,0,none⟩ (.int .i64 0)).heap[w.heap.size+1]? =some (.cells #[.int .i64 0] 37 (0,0)):=one_setCell ((Below.heap_setCell _ _ _ _ (by simp)).trans V2.out);have yl:((V.setCell ⟨w.heap.size,0,none⟩ (.bool true)).setCell ⟨w.heap.size+1,0,none⟩ (.int .i64 0)).heap[l]? =some (.loop (rc .busy none)):=(Below.heap_setCell _ _ _ _ (by simp;omega)).trans ((Below.heap_setCell _ _ _ _ (by simp;omega)).trans V4.out);have yK:=((VK.out.setCell (p:=⟨w.heap.size,0,none⟩) t6 (.bool true)).setCell (p:=⟨w.heap.size+1,0,none⟩) t7 (.int .i64 0));refine⟨yl,yK.putObj tl _, .inr ⟨rfl,_, ?_,fun b h=> .inl h⟩⟩
   rw[a8.out];exact⟨d9.out,rfl,(World.putObj_heap_other (by omega)).trans y6,(World.putObj_heap_other (by omega)).trans y7,(H3.out.trans yK).putObj tl _,World.putObj_heap_same (lt_of_block yl)⟩
 have d6:∀X,Ae TT W1 X->Below w.heap.size w X:=fun X h=>a6.out.trans (h.to_below (B:=w.heap.size) (fun b hb=>by rcases(a0.out b).1 hb with e|e|e<;>omega) a6.out.size)
 have b7:=hI d6;clear d6;have d4:¬TT D:=fun h=>by rcases(a0.out D).1 h with e|e|e<;>omega
 have tl:=(a0.out l).2 (.inr (.inr rfl));rintro e W' ⟨⟨v,rfl⟩,⟨T,hj⟩|⟨T,hx⟩⟩
 ·rw[HJ.out]at hj;obtain⟨a4,a3,h1,h2,h3,h4⟩:=hj;subst a3;refine .inl ⟨h4, ?_⟩;have x1:=(World.putObj_heap_other (w:=W') (r:=l) (o:= .loop (rc .exhausted none)) (show w.heap.size≠l by omega)).trans h1;have x2:=(World.putObj_heap_other (w:=W') (r:=l) (o:= .loop (rc .exhausted none)) (show w.heap.size+1≠l by omega)).trans h2;have xK:=h3.putObj tl (.loop (rc .exhausted none));have b0:Hid (Ff (Am xs) ws ss=(0,false)):=by show _=_;rw[HM.out,a4];rfl
  generalize W'.putObj l (.loop (rc .exhausted none))=X at*;have c6:=cell_of_one x1;have f6:=free_of_one x1;have c7:=cell_of_one x2;have f7:=free_of_one x2;have X1:=hI x1;have X2:=hI x2;have XK:=hI xK;clear x1 x2 xK h1 h2 h3 h4 a4;gi_wp2;have s6:((X.setCell ⟨w.heap.size,0,none⟩ (.bool false)).setCell ⟨w.heap.size+1,0,none⟩ (.int .i64 0)).heap[w.heap.size]? =some (.cells #[.bool false] 4 (0,0)):=(Below.heap_setCell _ _ _ _ (by simp)).trans (one_setCell X1.out);have s7:((X.setCell ⟨w.heap.size,0,none⟩ (.bool false)).setCell ⟨w.heap.size+1,0,none⟩ (.int .i64 0)).heap[w.heap.size+1]? =some (.cells #[.int .i64 0] 37 (0,0)):=one_setCell ((Below.heap_setCell _ _ _ _ (by simp)).trans X2.out);have sK:=(XK.out.setCell (p:=⟨w.heap.size,0,none⟩) ((a0.out _).2 (.inl rfl)) (.bool false)).setCell (p:=⟨w.heap.size+1,0,none⟩) ((a0.out _).2 (.inr (.inl rfl))) (.int .i64 0);have hM:Cm w.heap.size ((X.setCell ⟨w.heap.size,0,none⟩ (.bool false)).setCell ⟨w.heap.size+1,0,none⟩ (.int .i64 0)) [D7 D]:=⟨D,rfl,by omega,(sK.block D (by omega) d4).trans d5.out,by simp,trivial⟩;exact Dd (B:=w.heap.size) hM fun w' hw'=>⟨_,Eh Tryz.results66 _ _ w.heap.size (w.heap.size+1) false 0 rfl rfl (cell_of_one (hw'.row s6)) (cell_of_one (hw'.row s7)),by rw[b0.out],(b7.out _ sK).trans hw'.below⟩
 ·rw[a8.out]at hx;obtain⟨a1,a3,h1,h2,h3,h4⟩:=hx;subst a3;refine .inr ⟨.ret,h4, ?_⟩;have x1:=(World.putObj_heap_other (w:=W') (r:=l) (o:= .loop (rc .exhausted (some .ret))) (show w.heap.size≠l by omega)).trans h1;have x2:=(World.putObj_heap_other (w:=W') (r:=l) (o:= .loop (rc .exhausted (some .ret))) (show w.heap.size+1≠l by omega)).trans h2;have xK:=h3.putObj tl (.loop (rc .exhausted (some .ret)));have b0:Hid (Ff (Am xs) ws ss=(0,true)):=by show _=_;rw[HM.out,show((Ca (Am xs) ws ss).length !=0)=true from bne_iff_ne.2 (by omega)]
  generalize W'.putObj l (.loop (rc .exhausted (some .ret)))=X at*;have X1:=hI x1;have X2:=hI x2;have XK:=hI xK;clear x1 x2 xK h1 h2 h3 h4 a1;gi_wp2;have hM:Cm w.heap.size X [D7 D]:=⟨D,rfl,by omega,(XK.out.block D (by omega) d4).trans d5.out,by simp,trivial⟩;exact Dd (B:=w.heap.size) hM fun w' hw'=>⟨_,Eh Tryz.results66 _ _ w.heap.size (w.heap.size+1) true 0 rfl rfl (cell_of_one (hw'.row X1.out)) (cell_of_one (hw'.row X2.out)),by rw[b0.out],(b7.out _ XK.out).trans hw'.below⟩
end Go.Proofs.YtlgliddhideflaaGreatDoor
namespace Go.Proofs.YtlgliddhideflaaGreatDoor
open Go.RowKit Go.Shelf
def Adk:Nd:=⟨0,0,0,false,0,0⟩
def Aea:Av:=⟨⟨#[]⟩,(Adk, .nil),(Adk, .nil),[],[],0⟩
def Yp:Bu:=⟨Aea,⟨none,0,none,0,none,0,none,0⟩⟩
theorem Aeb (w:World):Df w Yp.l Yp.a:=⟨⟨⟨rfl,rr,by decide,fun _=>rfl⟩,trivial⟩,⟨⟨rfl,rr,by decide,fun _=>rfl⟩,trivial⟩,Bb.nil _ _,⟨Bb.nil _ _,rfl⟩,by decide⟩
theorem rf0:Bg [vD,fD] [] (Jl.take 5++[(8,0)])=12:=by kernel_rfl
theorem Ag1:Bg [fD] [] (Jl.take 5++[(8,0)])=12:=by kernel_rfl
theorem rf1:Bg [vD,fD] [] [sP,sP,(1,1)]=14:=by kernel_rfl
theorem Ag2:Bg [fD] [] [sP,sP,(1,1)]=14:=by kernel_rfl
theorem rf2:Bg [vD,fD] [] [sA,sB,sA]=6:=by kernel_rfl
theorem Ag3:Bg [fD] [] [sA,sB,sA]=6:=by kernel_rfl
theorem rf3 {ls:List Av}(ss:List Snd)(h:64<ls.length):Bg ls [] ss=12:=by
 have h1:D5 ls=12:=by unfold D5;rw[if_pos h]
 unfold Bg;rw[h1];rfl
theorem rf4:Bg [vD,Aea] [] [sP,sB,sA]=17:=by kernel_rfl
theorem Ag4:Bg [Aea] [] [sP,sB,sA]=17:=by kernel_rfl
theorem rf5:Bg [vD,fD] [] [sP,sB,sA]=0:=by kernel_rfl
theorem Ag5:Bg [fD] [] [sP,sB,sA]=0:=by kernel_rfl
theorem Yq (ls:List Av)(ss:List Snd)(n:Int):(Fu ls ss n).1=Cb ls ss n/\(Cb ls ss n≠0->(Fu ls ss n).2=[]):=by
 unfold Fu;by_cases h:Cb ls ss n=0
 ·rw[if_neg (by simpa using h),h];exact⟨rfl,fun e=>absurd rfl e⟩
 ·rw[if_pos h];exact⟨rfl,fun _=>rfl⟩
theorem Abg (ls:List Av)(ss:List Snd)(n:Int):(J8 ls ss n).1=Cb ls ss n/\(Cb ls ss n≠0->(J8 ls ss n).2=[]):=by
 unfold J8;by_cases h:Cb ls ss n=0
 ·rw[if_neg (by simpa using h),h];exact⟨rfl,fun e=>absurd rfl e⟩
 ·rw[if_pos h];exact⟨rfl,fun _=>rfl⟩
theorem Yr (l:Av)(ss:List Snd)(n:Int):(Fg l ss n).1=Cb [l] ss n/\(Cb [l] ss n≠0->(Fg l ss n).2=0):=by
 unfold Fg;by_cases h:Cb [l] ss n=0
 ·rw[if_neg (by simpa using h),h];exact⟨rfl,fun e=>absurd rfl e⟩
 ·rw[if_pos h];exact⟨rfl,fun _=>rfl⟩
def Jb (er most:Int):Int:=if er≠0 then er else if most<0 then 3 else 0
def Fi (er n:Int):Int:=if er≠0 then er else if n<0\/4<n then 3 else 0
theorem L1 {ls:List Av}{ss:List Snd}{er:Int}(n:Int)(h:Bg ls [] ss=er):Cb ls ss n=Fi er n:=by unfold Cb Fi;rw[h]
theorem Ub {ls:List Av}{ss:List Snd}{er:Int}(most:Int)(h:Bg ls [] ss=er):(Eo ls [] ss most).1=Jb er most/\(Jb er most≠0->(Eo ls [] ss most).2=[]):=by
 unfold Eo Jb;rw[h];by_cases h0:er=0
 ·subst h0;by_cases h1:most<0
  ·simp[h1]
  ·simp[h1]
 ·rw[if_pos h0,if_pos h0];exact⟨rfl,fun _=>rfl⟩
theorem Ys {ls:List Av}{ss:List Snd}{er:Int}(h:Bg ls [] ss=er):(Gg ls [] ss).1=er/\(Ff ls [] ss).1=er:=by
 unfold Gg Ff;rw[h];by_cases h0:er=0
 ·subst h0;exact⟨rfl,rfl⟩
 ·rw[if_pos h0,if_pos h0];exact⟨rfl,rfl⟩
theorem Mm {ss:List Snd}(h:ss.all (fun s=>decide (0<=s.1/\s.1<=4294967295) && decide (0<=s.2/\s.2<=4294967295))=true):Cc ss:=fun s hs=>by
 have:=List.all_eq_true.1 h s hs
 simp only[Bool.and_eq_true,decide_eq_true_eq]at this;exact this
structure Ac2 (W:World)(q:Nat)(Ax:Option Addr)(nx cx:Nat)(As:Option Addr)(ns cs:Nat)(er:Int)(ys:List Bu)(ss:List Snd):Prop where
 y:Bw W Ax nx cx ys
 s:Ab W As ns cs ss
 u:Cc ss
 e:Bg (Am ys) [] ss=er
 o:q≠3→∃y,ys[1]? =some y/\Bg [y.l] [] ss=er
theorem Ac2.below {W W':World}{q:Nat}{Ax:Option Addr}{nx cx:Nat}{As:Option Addr}{ns cs:Nat}{er:Int}{ys:List Bu}{ss:List Snd}(h:Ac2 W q Ax nx cx As ns cs er ys ss)(hb:Below W.heap.size W W'):Ac2 W' q Ax nx cx As ns cs er ys ss:=
 ⟨h.y.below hb rr,h.s.below hb rr,h.u,h.e,h.o⟩
theorem Qi {P:Program}(w:World)(dT sT ty elem:TypeId)(g o dLen dCap:Nat)(a:Addr)(sLen sCap sz m:Nat)(cur:Array Value)(t:TypeId)(cs:List Value)
  (hu:P.underlying dT=some (.slice elem)) (hs:(P.info? elem).map (·.size)=some sz)
  (hg:w.heap[g]? =some (.cells cur t (0,0))) (hm:m=Nat.min sLen dLen) (hn:cs.length=m*sz)
  (hsrc:∀j v,cs[j]? =some v->w.cell? (a.add j)=some v) (hfit:o+cs.length<=cur.size) (h1:∀v∈cs,v.oneCell'=true):
  (Builtin.copy_ #[dT,sT] ty #[.slice (some ⟨g,o,none⟩) dLen dCap, .slice (some a) sLen sCap]).run P w=
   .ok (goInt m) (w.setRow g (cur.toList.take o++cs++cur.toList.drop (o+cs.length)).toArray):=by
 have hl:=run_loadCells_list (P:=P) w a cs hsrc;have a0:=run_storeCells_at P g o t cs 0 cur w hg (by simpa using hfit) h1
 cases hq:P.info? elem with
 |none=>simp[hq]at hs
 |some i=>
  have hi:i.size=sz:=by simpa[hq]using hs
  subst hm;simp[Builtin.copy_,run_underlying hu,Builtin.lenOf,Builtin.firstCells,sizeOf,typeInfo,hq,hi,←hn,hl,a0]
theorem Ly {o:Oper}{a:Act}{w:World}{K:Act->World->Prop}{Q:Exit->Act->World->Prop}(d s:Operand)
  (ho:o.op= .call {callee:= .builtin .copy,args:= #[d,s],argTypes:= #[35,35]})
  (g off dLen dCap:Nat) (ad:Addr) (sLen sCap m:Nat) (hd:a.eval d= .slice (some ⟨g,off,none⟩) dLen dCap) (hs:a.eval s= .slice (some ad) sLen sCap)
  (cur:List Value) (hg:w.heap[g]? =some (.cells cur.toArray 34 (0,0))) (cs:List Value) (hm:m=Nat.min sLen dLen) (hn:cs.length=m*18)
  (hsrc:∀j v,cs[j]? =some v->w.cell? (ad.add j)=some v) (hfit:off+cs.length<=cur.length) (h1:∀v∈cs,v.oneCell'=true)
  (h:K (a.put o.dst (.int .i64 m)) (w.setRow g (splice cur off cs).toArray)):Oper.wp Tryz.prog o a w K Q:=by
 have a0:=Qi (P:=Tryz.prog) w 35 35 o.type 34 g off dLen dCap ad sLen sCap 18 m cur.toArray 34 cs Tryz.underlying35 (by kernel_rfl) hg hm hn hsrc (by simpa using hfit) h1;unfold Oper.wp;simp[execOp,ho,resolve,invoke,builtin,hd,hs,a0,Result.andThen];have h':K (a.put o.dst (.int .i64 m)) (w.setRow g (cur.take off++(cs++cur.drop (off+cs.length))).toArray):=h;exact h'
theorem Mj {ops:Array Oper}{rest:List Oper}{o:Oper}{a:Act}{w:World}{Q:Exit->Act->World->Prop}(hgd:o.guard=none)(d s:Operand)
  (ho:o.op= .call {callee:= .builtin .copy,args:= #[d,s],argTypes:= #[35,35]})
  (g off dLen dCap:Nat) (ad:Addr) (sLen sCap m:Nat) (hd:a.eval d= .slice (some ⟨g,off,none⟩) dLen dCap) (hs:a.eval s= .slice (some ad) sLen sCap)
  (cur:List Value) (hg:w.heap[g]? =some (.cells cur.toArray 34 (0,0))) (cs:List Value) (hm:m=Nat.min sLen dLen) (hn:cs.length=m*18)
  (hsrc:∀j v,cs[j]? =some v->w.cell? (ad.add j)=some v) (hfit:off+cs.length<=cur.length) (h1:∀v∈cs,v.oneCell'=true)
  (h:wpList Tryz.prog ops Q rest (a.put o.dst (.int .i64 m)) (w.setRow g (splice cur off cs).toArray)):wpList Tryz.prog ops Q (o::rest) a w:=
 wpList_plain hgd fun _ hK=>Ly d s ho g off dLen dCap ad sLen sCap m hd hs cur hg cs hm hn hsrc hfit h1 (hK _ _ h)
theorem Qj (w:World):∃cur:List Value,cur.length=1188/\(Instr.makeSlice 35 (.int .i64 66) (.int .i64 66)).run Tryz.prog w= .ok (.slice (some ⟨w.heap.size,0,none⟩) 66 66) (w.alloc (.cells cur.toArray 34)):=by
 obtain⟨i,hi,hz,hs,hb⟩:=info_parts Zj;have hr:=run_make (P:=Tryz.prog) w 35 34 i _ Tryz.underlying35 hi hz .i64 .i64 66 66 (by omega) (Int.le_refl _) (by rw[hb];decide) (by omega);rw[hs]at hr;refine⟨(madeCells Af9.cells ((66:Int).toNat*18)).toList,by simp[size_madeCells], ?_⟩;exact hr
structure He (w0:World)(g:Nat)(xs:List Bu)(m:Nat)(W:World):Prop where
 row:∃cur:List Value,∃ys:List Bu,W.heap[g]? =some (.cells cur.toArray 34 (0,0))/\cur.length=1188/\ys.length=m/\cur.take (m*18)=ys.flatMap Bu.cells∧∀y∈ys,y∈xs
 kept:Below w0.heap.size w0 W
 low:w0.heap.size<=g
theorem He.step {w0 W:World}{g:Nat}{xs ys:List Bu}{m q:Nat}{cur cs:List Value}(hk:Below w0.heap.size w0 W)(hl:w0.heap.size<=g)(hg:W.heap[g]? =some (.cells cur.toArray 34 (0,0)))(hc:cur.length=1188)(hy:ys.length=m)(he:cur.take (m*18)=ys.flatMap Bu.cells)(hx:∀y∈ys,y∈xs)
  (zs:List Bu) (hz:zs.length=q) (hcs:cs=zs.flatMap Bu.cells) (hzx:∀y∈zs,y∈xs) (hmq:m+q<=66):He w0 g xs (m+q) (W.setRow g (splice cur (m*18) cs).toArray):=by
 have a0:cs.length=q*18:=by rw[hcs,Ew Bu.cells 18 Bu.len,hz]
 refine⟨⟨splice cur (m*18) cs,ys++zs,setRow_heap W g _ _ 34 _ hg,by rw[length_splice _ _ _ (by omega)];exact hc,by simp[hy,hz], ?_,fun y h=>(List.mem_append.1 h).elim (hx y) (hzx y)⟩,below_setRow hk hl _,hl⟩
 rw[List.flatMap_append,←he,←hcs];unfold splice;rw[←List.append_assoc,List.take_append_of_le_length (by simp;omega)];exact List.take_of_length_le (by simp;omega)
theorem Tz {ys:List Bu}:∀v∈ys.flatMap Bu.cells,v.oneCell'=true:=by
 intro v hv;obtain⟨y,_,h⟩:=List.mem_flatMap.1 hv;exact Array.all_eq_true_iff_forall_mem.1 (Nc y.l y.a) v (by simpa[Bu.cells]using h)
theorem He.laws {w0 W:World}{g:Nat}{xs:List Bu}(h:He w0 g xs 66 W)(hx:∀x∈xs,Df w0 x.l x.a):∃ys:List Bu,Bw W (some ⟨g,0,none⟩) 66 66 ys∧∀y∈ys,y∈xs:=by
 obtain⟨⟨cur,ys,hg,hc,hy,he,hm⟩,hk,hl⟩:=h;rw[List.take_of_length_le (by omega)]at he;subst he;refine⟨ys,⟨⟨⟨hc,rr,by decide,(fun h=>by cases h),fun _=>⟨g,0,rfl,lt_of_block hg,fun j v hv=> ?_⟩⟩,hy⟩,fun y h=>(hx y (hm y h)).below hk rr⟩,hm⟩
 rw[Nat.zero_add];exact Ac hg (by simpa using hv)
theorem Acz (w:World):Calls Tryz.prog 186 #[.int .u64 2, .int .u64 33] w fun e w'=>e= .returned (.tuple #[.int .u64 0, .int .u64 66])/\w=w':=by
 go_enter Tryz.func186,Tryz.ntmps186;go_wp2
 go_ret2
 exact⟨by kernel_rfl,rfl⟩
theorem Agk (w:World):Calls Tryz.prog 145 #[.int .u64 2, .int .u64 33] w fun e w'=>e= .returned (.tuple #[.int .u64 0, .int .u64 66])/\w=w':=by
 go_enter Tryz.func145,Tryz.ntmps145;go_wp2_with fail;refine(Acz w).mono ?_;rintro e w1 ⟨rfl,rfl⟩;go_wp2
 go_ret2
 exact⟨rfl,rfl⟩
theorem Yl (A:Option Addr)(c:Nat)(xs:List Bu)(w:World)(hx:Bw w A 2 c xs):
  Calls Tryz.prog 74 #[.slice A 2 c, .int .i64 33] w fun e w'=>∃(A':Option Addr) (ys:List Bu),e= .returned (.slice A' 66 66)/\Bw w' A' 66 66 ys/\(∀y∈ys,y∈xs)/\Below w.heap.size w w':=by
 obtain⟨cur,a6,b4⟩:=Qj w;have HX:=hI hx;obtain⟨b,off,rfl,hb,a0⟩:=hx.1.1.2.2.2.2 (by omega);have b2:=hI a0;clear hx a0;have HG:Hid ((w.alloc (.cells cur.toArray 34)).heap[w.heap.size]? =some (.cells cur.toArray 34 (0,0))):=Ak rfl;have b5:Below w.heap.size w (w.alloc (.cells cur.toArray 34)):=bel;have a7:=hI b5;clear b5;go_enter Tryz.func74,Tryz.ntmps74;go_wp2_with fail;refine(Agk w).mono ?_;rintro e w1 ⟨rfl,rfl⟩;obtain⟨wa,b1⟩:∃wa,wa=w.alloc (.cells cur.toArray 34):=⟨_,rfl⟩;rw[←b1]at HG a7;have a2:(Instr.makeSlice 35 (.int .i64 66) (.int .i64 66)).run Tryz.prog w= .ok (.slice (some ⟨w.heap.size,0,none⟩) 66 66) wa:=by rw[b1];exact b4
 clear b4 b1;obtain⟨g,hg⟩:∃g,g=w.heap.size:=⟨_,rfl⟩;rw[←hg]at HG a2;have b9:Hid (w.heap.size<=g):=Nat.le_of_eq hg.symm;clear hg;obtain⟨cs,a0⟩:∃cs,cs=xs.flatMap Bu.cells:=⟨_,rfl⟩;have b6:=hI a0;have a5:cs.length=36:=by rw[a0,Ew Bu.cells 18 Bu.len,HX.out.len]
 have a4:Hid (∀v∈cs,v.oneCell'=true):=by rw[a0];exact Tz
 rw[←a0]at b2;clear a0
 have a1:Hid (∀j v,cs[j]? =some v->wa.cell? ((⟨b,off,none⟩:Addr).add j)=some v):=fun j v hj=>by
  rw[Gr];exact(a7.out.cell (p:=⟨b,off+j,none⟩) hb).trans (b2.out j v hj)
 have H0:Hid (He w g xs (0+2) (wa.setRow g (splice cur (0*18) cs).toArray)):=He.step (ys:=[]) a7.out b9.out HG.out a6 rfl (by simp) (fun _ h=>by cases h) xs HX.out.len b6.out (fun y h=>h) (by omega);go_wp2_with((refine Mj rfl (.tmp 31) (.tmp 32) rfl g 0 66 66 ⟨b,off,none⟩ 2 c 2 rfl rfl cur HG.out cs rfl a5 a1.out (by omega) a4.out ?_));obtain⟨w2,b3⟩:∃w2,w2=wa.setRow g (splice cur 0 cs).toArray:=⟨_,rfl⟩;rw[←b3];have H2:Hid (He w g xs 2 w2):=by show He _ _ _ _ _;rw[b3];simpa using H0.out
 clear b3 H0 a1 a4 b2 b6 a5 HG a7 a2 a6
 go_loopw [8] (fun v8 wr=>∃m:Nat,v8= .int .i64 m/\2<=m/\m<=66/\Hid (He w g xs m wr)) (fun v8 _=>66-(intOf v8).toNat)
 case atStart=>exact⟨2,rfl,rr,by omega,H2⟩
 case round=>
  clear H2;obtain⟨m,rfl,d4,hm,HR⟩:=hrel;by_cases hlt:m<66
  ·have d2:(m:Int)<66:=by omega
   have d0:(m:Int)<=66:=by omega
   have b8:¬66=m:=by omega
   obtain⟨q,hq⟩:∃q,q=Nat.min m (66-m):=⟨_,rfl⟩;have d1:q<=m:=by rw[hq];exact Nat.min_le_left _ _
   have b7:q<=66-m:=by rw[hq];exact Nat.min_le_right _ _
   have d5:1<=q:=by rw[hq];exact Nat.le_min.2 ⟨by omega,by omega⟩
   have HQ:=hI hq;clear hq;obtain⟨⟨cu,ys,hg,hc,hy,he,hx⟩,hk,hl⟩:=HR.out;have a8:Hid (wr.drew.heap[g]? =some (.cells cu.toArray 34 (0,0))):=hg;obtain⟨cs,a0⟩:∃cs,cs=(ys.take q).flatMap Bu.cells:=⟨_,rfl⟩
   have b0:cs=cu.take (q*18):=by
    rw[a0,←Jw Bu.cells 18 Bu.len,←he,List.take_take,Nat.min_eq_left (by omega)]
   have a5:cs.length=q*18:=by rw[b0,List.length_take];omega
   have a4:Hid (∀v∈cs,v.oneCell'=true):=by rw[a0];exact Tz
   have HN:Hid (He w g xs (m+q) (wr.drew.setRow g (splice cu (m*18) cs).toArray)):=He.step hk.drew hl a8.out hc hy he hx (ys.take q) (by rw[List.length_take];omega) a0 (fun y h=>hx y (List.mem_of_mem_take h)) (by omega)
   have a1:Hid (∀j v,cs[j]? =some v->wr.drew.cell? ((⟨g,0,none⟩:Addr).add j)=some v):=fun j v hj=>by
    rw[Gr,Nat.zero_add];refine Ac a8.out ?_;rw[b0,List.getElem?_take]at hj;split at hj
    ·simpa using hj
    ·cases hj
   clear a0 b0 HR hg he hx hk hl hy;go_wp2_with fail;refine Bs (fun _=>True) (by kernel_rfl) trivial (fun hHeld=> ?_)
   (refine' Aa 0 rfl ?_;(try simp only[Act.put,nY,nX]));(refine' Aa 1 rfl ?_;(try simp only[Act.put,nY,nX]));(refine' Aa 2 rfl ?_;(try simp only[Act.put,nY,nX]));(refine' Aa 3 rfl ?_;(try simp only[Act.put,nY,nX]));(refine' Aa 4 rfl ?_;(try simp only[Act.put,nY,nX]));(refine' Aa 5 rfl ?_;(try simp only[Act.put,nY,nX]));(refine' Aa 6 rfl ?_;(try simp only[Act.put,nY,nX]))
   refine Agz 7 rfl (fun K' hK'=> ?_);rw[if_pos (by rfl)];refine Ly (.tmp 41) (.tmp 44) rfl g (m*18) (66-m) (66-m) ⟨g,0,none⟩ m 66 q rfl rfl cu a8.out cs HQ.out a5 a1.out (by omega) a4.out ?_;refine hK' _ _ ⟨.inr trivial,fun _=> ?_⟩
   clear hK' K' hHeld;obtain⟨w3,a9⟩:∃w3,w3=wr.drew.setRow g (splice cu (m*18) cs).toArray:=⟨_,rfl⟩;have H3:Hid (He w g xs (m+q) w3):=by show He _ _ _ _ _;rw[a9];exact HN.out
   have d3:IntKind.i64.wrap ((m:Int)+(q:Int))=((m+q:Nat):Int):=by rw[IntWalk.i64_in _ (by omega)];omega
   have a3:m+q<=66:=by omega
   rw[←a9];clear a9 HN a1 a4 a5 a8 hc HQ d1 b7
   (try simp only[Act.put,nY,nX])
   have hS:True:=trivial
   (refine' Aa 8 rfl ?_;(try simp only[Act.put,nY,nX]))
   (refine Agz 9 rfl (fun K' hK'=> ?_);simp only[nY];go_simp)
   refine hK' _ _ ⟨.inl (by kernel_rfl),fun _=>Be (by kernel_rfl) ?_ _⟩
   clear hK' K';go_wp2
   go_roundw
   case rel=>exact⟨m+q,by go_num,by omega,a3,H3⟩
   case measure=>simp[intOf];omega
  ·obtain rfl:m=66:=by omega
   obtain⟨ys,hl,hy⟩:=HR.out.laws HX.out.2;have HL:=hI hl;have HY:=hI hy;have HK:=hI HR.out.kept;clear hl hy HR;go_wp2;go_ret;exact⟨_,ys,rfl,HL.out,HY.out,HK.out⟩
end Go.Proofs.YtlgliddhideflaaGreatDoor
