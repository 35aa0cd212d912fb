/-
  slices.Values, slices.AppendSeq and slices.Collect over sounds.
  slices.SortFunc at this program: tables of numbers, and facts of the program (written by the kit's lay-plain).
  A word that make lays.
  slices.SortedFunc over the sounds of an alphabet: they come in order.
  Words collected into a captured slice, where the words are kept as they were handed over.
  slices.SortFunc over words, as inverse.Image calls it.
  ablautlaw11.Light, light: how heavy a case is: what is reckoned does not matter but for the numbers of laws and sounds.
  A law that lies apart; a law is laid into a row of one's own, the others stay.
-/
import Derived.Shelf.SlGeneric
import Derived.Lib.OwnBridge
import Derived.BigFrame
import Derived.Test.YtlgliddhideflaaGreatDoorH01
import Derived.Test.YtlgliddhideflaaGreatDoorG40
import Derived.Test.YtlgliddhideflaaGreatDoorG18
import Derived.Test.YtlgliddhideflaaGreatDoorG35
set_option linter.all false
set_option maxRecDepth 100000
set_option maxHeartbeats 4000000
namespace Go.Proofs.YtlgliddhideflaaGreatDoor
open Go.RowKit Go.Shelf
attribute [local go_sem] Oper.semAt_some
theorem Ro (m lr bs:Nat)(hm:1<=m)(A:Option Addr)(n c:Nat)(ss:List Snd)(J:Nat->World->Prop)(W:World)
  (hst:∀i W' W'',J i W'->Below W'.heap.size W' W''->J i W'')
  (hrd:∀i W',J i W'->W'.heap[bs]? =some (.cells #[.slice A n c] 32 (0,0))/\Ab W' A n c ss)
  (hy:∀i W' s,ss[i]? =some s->J i W'->YieldAt Fence.wide 0 Tryz.prog lr #[C8 s.1 s.2] W' (fun e W''=>e= .returned (.bool true)/\J (i+1) W''))
  (h0:J 0 W) (hn:n<=4096):
  CallsIn Fence.wide m Tryz.prog 228 #[.func (.yield lr) #[] #[], .pointer (some ⟨bs,0,none⟩)] W fun e W'=>(∃v,e= .returned v)/\J n W':=by
 have a7:=hI hst;clear hst;have a1:=hI hrd;clear hrd;have HY:=hI hy;clear hy;obtain⟨r1,r2⟩:=a1.out _ _ h0;have H0:=hI h0;clear h0;have e1:=cell_of_one r1;have a2:=r2.len;have b0:=hI a2;clear a2 r1 r2;refine callsIn_of_wp Tryz.func228 rfl trivial ?_;simp only[Tryz.ntmps228,List.size_toArray,List.length_cons,List.length_nil,Nat.reduceAdd,Nat.reduceSub,Array.replicate_succ,Array.replicate_zero,List.push_toArray,List.append_toArray,List.nil_append,List.cons_append];gi_wp2;clear e1
 gi_loopw [7] (fun i wr=>∃k:Nat,i= .int .i64 k/\k<=n/\Hid (J k wr)) (fun i _=>n-(intOf i).toNat)
 case atStart=>exact⟨0,rfl,Nat.zero_le _,H0⟩
 case round=>
  obtain⟨k,rfl,hk,HJ⟩:=hrel;by_cases hlt:k<n
  ·obtain⟨r1,r2⟩:=a1.out _ _ HJ.out;obtain⟨b,off,p,q,rfl,hb,a3,b1,a9⟩:=r2.at_ hlt;have a6:=hI a3;clear a3 r1 r2;have a4:=a7.out _ _ _ HJ.out (show Below wr.heap.size wr (wr.alloc (.cells #[.int .u32 p, .int .u32 q] 24))from bel);obtain⟨fn,tmps,assign,body,a5,hR⟩:=D3 (m':=m-1) (HY.out k _ (p,q) a6.out a4);have HR:=hI hR;clear hR a4;gi_wp2;refine HR.out.mono ?_;rintro e W2 ⟨rfl,a0⟩;have a8:=hI a0;clear a5 a0;gi_wp2
   go_roundw
   case rel=>exact⟨k+1,by go_num,by omega,a8⟩
   case measure=>simp[intOf];omega
  ·obtain rfl:k=n:=by omega
   gi_wp2
   go_end0
   exact⟨⟨_,rfl⟩,HJ.out⟩
theorem Sq (A:Option Addr)(n c:Nat)(w:World):Calls Tryz.prog 191 #[.slice A n c] w fun e w'=>
  e= .returned (.func (.func 228) #[] #[.pointer (some ⟨w.heap.size,0,none⟩)])/\w'=w.alloc (.cells #[.slice A n c] 32):=by
 go_enter Tryz.func191,Tryz.ntmps191;go_wp2;go_ret;exact⟨rfl,rfl⟩
theorem Ab8 {w:World}{b b':Nat}{e:TypeId}{sz n:Nat}{v:Value}{xs:List Value}(h:w.ownsRow b e sz v n xs)(hb:b'<=b):w.ownsRow b' e sz v n xs:=by
 obtain⟨h1,h2|⟨g,cap,cur,h2,h3,h4⟩⟩:=h
 ·exact⟨h1, .inl h2⟩
 ·exact⟨h1, .inr ⟨g,cap,cur,h2,by omega,h4⟩⟩
theorem Zg (bs:Nat)(A:Option Addr)(n c:Nat)(ss:List Snd)(w:World)(hb:w.heap[bs]? =some (.cells #[.slice A n c] 32 (0,0)))(hs:Ab w A n c ss)(hn:n<=4000):
  Calls Tryz.prog 252 #[.slice none 0 0, .func (.func 228) #[] #[.pointer (some ⟨bs,0,none⟩)]] w fun e w'=>
   ∃v,e= .returned v/\w'.ownsRow w.heap.size 24 2 v n (Bc ss)/\Below w.heap.size w w':=by
 have b5:=lt_of_block hb;have HB:=hI hb;clear hb;have a7:=hs.len;have b1:=hI a7;clear a7;have HS:=hI hs;clear hs;refine(callsIn_wide (n:=9)).1 (callsIn_of_wp_marks Tryz.func252 rfl trivial ?_ rfl);simp only[Tryz.ntmps252,List.size_toArray,List.length_cons,List.length_nil,Nat.reduceAdd,Nat.reduceSub,Array.replicate_succ,Array.replicate_zero,List.push_toArray,List.append_toArray,List.nil_append,List.cons_append];gi_wp2;have d3:(w.alloc (.cells #[.slice none 0 0] 32)).heap[w.heap.size]? =some (.cells #[.slice none 0 0] 32 (0,0)):=Ak rfl;have d0:(w.alloc (.cells #[.slice none 0 0] 32)).heap.size=w.heap.size+1:=by simp
 have d2:Ae (fun _=>False) w (w.alloc (.cells #[.slice none 0 0] 32)):=(Ae.refl _ _).alloc _;generalize(w.alloc (.cells #[.slice none 0 0] 32))=W0 at*;refine Cv (gf:=228) (lb:= #[.pointer (some ⟨bs,0,none⟩)]) rfl (enters_of Tryz.func228 (by kernel_rfl) rfl) fun fn D l rc W1 hrc hD hl hK1 hD1 hl1 hs1=> ?_
 have f0:w.heap.size<D:=by omega
 have f3:D<l:=by omega
 have f5:l<W1.heap.size:=by omega
 have b7:=hI hrc;clear hrc;have d8:Ae (fun _=>False) w W1:=d2.trans hK1;have b6:W1.heap[w.heap.size]? =some (.cells #[.slice none 0 0] 32 (0,0)):=(hK1.block _ (by omega) (by simp)).trans d3;have a5:=hI d8;clear hD hl hs1 d0 hK1
 obtain⟨J,hJ⟩:∃J:Nat->World->Prop,J=fun i W=>∃v,W.heap[w.heap.size]? =some (.cells #[v] 32 (0,0))∧
   W.ownsRow W1.heap.size 24 2 v i (Bc (ss.take i))/\Ae (fun j=>j=w.heap.size\/j=l) W1 W/\W.heap[l]? =some (.loop (rc .ready none)):=⟨_,rfl⟩
 have HJ:=hI hJ;clear hJ;refine(Ro (9-1) l bs (by omega) A n c ss J W1 ?st ?rd ?yield ?zero (by omega)).mono ?_
 case st=>
  intro i W W' hx hb;rw[HJ.out]at hx ⊢;obtain⟨v,h2,h3,h4,h5⟩:=hx;exact⟨v,(hb.block _ (lt_of_block h2)).trans h2,Bo h3 fun k e=>hb.block k (h3.lt k e).2,h4.below hb rr,(hb.block _ (lt_of_block h5)).trans h5⟩
 case rd=>
  intro i W hx;rw[HJ.out]at hx;obtain⟨v,h2,h3,h4,h5⟩:=hx;have hk:Ae (fun j=>j=w.heap.size\/j=l) w W:=(a5.out.mono (fun k hk=>hk.elim)).trans h4
  exact⟨(hk.block _ b5 (by omega)).trans HB.out,HS.out.keep hk fun hn ad had e=>by
   obtain⟨b,off,hb,f1,_⟩:=HS.out.2.2.2.2 hn;rw[had]at hb;injection hb with hb;subst hb
   simp only at e;omega⟩
 case zero=>
  rw[HJ.out];exact⟨_,b6,World.ownsRow_nil _ _ _ _,Ae.refl _ _,hl1⟩
 case yield=>
  intro i W s a4 hx;rw[HJ.out]at hx;obtain⟨v,h2,h3,h4,h5⟩:=hx;refine Cw b7.out h5 rfl ?_;have H5:=hI h5;clear h5;have H2:=hI h2;clear h2;have H3:=hI h3;clear h3;have H4:=hI h4;clear h4;have hi:i<n:=by have:=(List.getElem?_eq_some_iff.1 a4).1;rw[b1.out]at this;exact this
  have d5:=hI a4;clear a4;gi_wp2;have a8:l<W.heap.size:=lt_of_block H5.out;have x2:(W.alloc (.cells #[.int .u32 s.1, .int .u32 s.2] 24)).heap[W.heap.size]? =some (.cells #[.int .u32 s.1, .int .u32 s.2] 24 (0,0)):=Ak rfl;have x3:(W.alloc (.cells #[.int .u32 s.1, .int .u32 s.2] 24)).heap[l]? =some (.loop (rc .ready none)):=(Ah a8).trans H5.out;have x4:(W.alloc (.cells #[.int .u32 s.1, .int .u32 s.2] 24)).heap[w.heap.size]? =some (.cells #[v] 32 (0,0)):=(Ah (lt_of_block H2.out)).trans H2.out;have x5:(W.alloc (.cells #[.int .u32 s.1, .int .u32 s.2] 24)).ownsRow W1.heap.size 24 2 v i (Bc (ss.take i)):=H3.out.alloc _;have x6:Ae (fun j=>j=w.heap.size\/j=l) W1 (W.alloc (.cells #[.int .u32 s.1, .int .u32 s.2] 24)):=H4.out.alloc _;have d6:=H4.out.size;obtain⟨g,hg⟩:∃g,g=W.heap.size:=⟨_,rfl⟩;rw[←hg]at x2 a8 d6 ⊢;generalize(W.alloc (.cells #[.int .u32 s.1, .int .u32 s.2] 24))=U at*;clear hg;refine⟨x3, ?_⟩;have d9:=lt_of_block x2;have y1:(U.putObj l (.loop (rc .busy none))).heap[l]? =some (.loop (rc .busy none)):=World.putObj_heap_same (lt_of_block x3);have y2:(U.putObj l (.loop (rc .busy none))).heap[g]? =some (.cells #[.int .u32 s.1, .int .u32 s.2] 24 (0,0)):=(World.putObj_heap_other (by omega)).trans x2;have y4:(U.putObj l (.loop (rc .busy none))).heap[w.heap.size]? =some (.cells #[v] 32 (0,0)):=(World.putObj_heap_other (by omega)).trans x4;have y5:(U.putObj l (.loop (rc .busy none))).ownsRow W1.heap.size 24 2 v i (Bc (ss.take i)):=ownsRow_putObj x5 _ x3 rfl;have y6:Ae (fun j=>j=w.heap.size\/j=l) W1 (U.putObj l (.loop (rc .busy none))):=x6.putObj (by simp) _;clear x2 x3 x4 x5 x6;generalize U.putObj l (.loop (rc .busy none))=V at*;have c0:=Ac (j:=0) y2 rfl;have c1:=Ac (j:=1) y2 rfl;have c2:=cell_of_one y4;have f2:=free_of_one y4;have Y1:=hI y1;clear y1;have Y2:=hI y2;clear y2;have Y4:=hI y4;clear y4;have Y5:=hI y5;clear y5;have Y6:=hI y6;clear y6
  gi_wp2_with (gi_at_builtin;refine F0 rfl (.tmp 8) (.tmp 10) 32 rfl W1.heap.size 24 (.agg #[.int .u32 0, .int .u32 0]) 2 8 Tryz.underlying32 Lg rfl (by decide) v i (Bc (ss.take i)) rfl (Y5.out.alloc _) ⟨V.heap.size,0,none⟩ 1 1 [.int .u32 s.1, .int .u32 s.2] rfl rfl ?hcells (by intro u hu;simp at hu;rcases hu with rfl|rfl<;>rfl) (by unfold maxLen;omega) (by omega) (by have:=Y6.out.size;simp;omega) ?hk)
  case hcells=>exact Ja V [.int .u32 s.1, .int .u32 s.2] 24
  case hk=>
   intro v' w4 a0 a2 _;obtain⟨g4,cap4,rfl⟩:=ownsRow_succ a0;obtain⟨v',a3⟩:∃v',v'=Value.slice (some ⟨g4,0,none⟩) (i+1) cap4:=⟨_,rfl⟩;rw[←a3]at a0;have d1:=hI a3;clear a3;have a1:∀k,some k=v.ownBlock->W1.heap.size<=k/\k<V.heap.size:=fun k hk=>⟨(Y5.out.lt k hk.symm).1,(Y5.out.lt k hk.symm).2⟩
   have d4:=lt_of_block Y1.out;have d7:=lt_of_block Y4.out;have p2:w4.heap[w.heap.size]? =some (.cells #[v] 32 (0,0)):=(a2.block _ (by simp;omega) (fun e=>by have:=a1 _ e;omega)).trans ((Ah d7).trans Y4.out);have pl:w4.heap[l]? =some (.loop (rc .busy none)):=(a2.block _ (by simp;omega) (fun e=>by have:=a1 _ e;omega)).trans ((Ah d4).trans Y1.out);have pK:Ae (fun j=>j=w.heap.size\/j=l) W1 w4:=(Y6.out.alloc _).grown a2 (fun k hk=> .inr (a1 k hk.symm).1);have c4:=cell_of_one p2;have f4:=free_of_one p2;have a9:v'.ownBlock≠some w.heap.size:=fun e=>by have:=(a0.lt _ e).1;omega
   have s2:=one_setCell (u:=v') p2;have s3:=ownsRow_setCell_other a0 (a:=⟨w.heap.size,0,none⟩) a9 v';have sl:=(Below.heap_setCell w4 ⟨w.heap.size,0,none⟩ v' l (by simp;omega)).trans pl;have sK:=pK.setCell (p:=⟨w.heap.size,0,none⟩) (by simp) v';rw[d1.out]at s2 s3 sl sK;have P2:=hI p2;clear p2;have S2:=hI s2;clear s2;have S3:=hI s3;clear s3;have SL:=hI sl;clear sl;have SK:=hI sK;clear sK;clear a0 a2 a1 c2 f2 a9 pl pK;have b4:ss.take (i+1)=ss.take i++[s]:=Ba ss i _ d5.out;have b8:=hI b4;clear b4;gi_wp2;refine⟨SL.out,rfl, ?_⟩;rw[HJ.out];refine⟨_,(World.putObj_heap_other (by omega)).trans S2.out, ?_,SK.out.putObj (by simp) _,World.putObj_heap_same (lt_of_block SL.out)⟩;have h:=ownsRow_putObj S3.out (.loop (rc .ready none)) SL.out rfl;rw[b8.out,Ge];exact h
 ·rintro e W' ⟨⟨v,rfl⟩,hx⟩;rw[HJ.out]at hx;obtain⟨v',h2,h3,h4,h5⟩:=hx;rw[List.take_of_length_le (by rw[b1.out];exact rr)]at h3;refine .inl ⟨h5, ?_⟩;have b0:Ae (fun j=>j=w.heap.size\/j=l) W1 (W'.putObj l (.loop (rc .exhausted none))):=h4.putObj (by simp) _;have b3:(W'.putObj l (.loop (rc .exhausted none))).heap[w.heap.size]? =some (.cells #[v'] 32 (0,0)):=(World.putObj_heap_other (by omega)).trans h2;have b2:=ownsRow_putObj h3 (.loop (rc .exhausted none)) h5 rfl;generalize W'.putObj l (.loop (rc .exhausted none))=X at*;have c2:=cell_of_one b3;have a6:=hI b0;clear b0;have b9:=hI b2;clear b2 h2 h3 h4 h5 b3;gi_wp2;have hM:Cm w.heap.size X [D7 D]:=⟨D,rfl,by omega,(a6.out.block D (by omega) (by omega)).trans hD1,by simp,trivial⟩;refine Ev (B:=w.heap.size) Tryz.results252 v' rfl hM fun w' hw'=>⟨v',rfl, ?_, ?_⟩
  ·exact Ab8 (Hb b9.out hw') (by have:=a5.out.size;omega)
  ·exact(Qz ((a5.out.mono (fun k hk=>hk.elim)).trans a6.out) hw' rr).to_below (fun k hk=>by omega) rr
theorem Xj (bs:Nat)(A:Option Addr)(n c:Nat)(ss:List Snd)(w:World)(hb:w.heap[bs]? =some (.cells #[.slice A n c] 32 (0,0)))(hs:Ab w A n c ss)(hn:n<=4000):
  Calls Tryz.prog 226 #[.func (.func 228) #[] #[.pointer (some ⟨bs,0,none⟩)]] w fun e w'=>
   ∃v,e= .returned v/\w'.ownsRow w.heap.size 24 2 v n (Bc ss)/\Below w.heap.size w w':=by
 have h:=Zg bs A n c ss w hb hs hn;clear hb hs;go_enter Tryz.func226,Tryz.ntmps226;go_wp2_with fail;refine h.mono ?_;rintro e w1 ⟨v,rfl,hC,hK⟩;have HC:=hI hC;clear hC;go_wp2;go_ret;exact⟨_,rfl,HC.out,hK⟩
end Go.Proofs.YtlgliddhideflaaGreatDoor
namespace Go.Proofs
open Go.Shelf
def Tryz.sortSnd_ren:Go.Shelf.Ren:=⟨fun|6=>227|15=>163|14=>253|28=>201|29=>202|20=>268|21=>269|22=>270|23=>271|24=>272|25=>273|26=>274|27=>275|46=>290|47=>230|48=>231|49=>291|50=>292|57=>304|n=>n,fun|22=>32|24=>24|25=>199|3=>3|39=>175|0=>0|53=>22|55=>217|4=>4|46=>229|45=>228|50=>158|5=>5|9=>9|66=>250|70=>254|76=>270|77=>183|n=>n,fun|n=>n⟩
theorem Tryz.sortSnd:Go.Proofs.SlLaysF0.n6 Tryz.prog Tryz.sortSnd_ren:={
 mixed:=by kernel_rfl
 f6:=⟨Tryz.f227.name,by decide,Tryz.func227.trans (congrArg some (by kernel_rfl))⟩
 f14:=⟨Tryz.f253.name,by decide,Tryz.func253.trans (congrArg some (by kernel_rfl))⟩
 f15:=Tryz.func163.trans (congrArg some (by kernel_rfl))
 f20:=⟨Tryz.f268.name,by decide,Tryz.func268.trans (congrArg some (by kernel_rfl))⟩
 f21:=⟨Tryz.f269.name,by decide,Tryz.func269.trans (congrArg some (by kernel_rfl))⟩
 f22:=⟨Tryz.f270.name,by decide,Tryz.func270.trans (congrArg some (by kernel_rfl))⟩
 f23:=⟨Tryz.f271.name,by decide,Tryz.func271.trans (congrArg some (by kernel_rfl))⟩
 f24:=⟨Tryz.f272.name,by decide,Tryz.func272.trans (congrArg some (by kernel_rfl))⟩
 f25:=⟨Tryz.f273.name,by decide,Tryz.func273.trans (congrArg some (by kernel_rfl))⟩
 f26:=⟨Tryz.f274.name,by decide,Tryz.func274.trans (congrArg some (by kernel_rfl))⟩
 f27:=⟨Tryz.f275.name,by decide,Tryz.func275.trans (congrArg some (by kernel_rfl))⟩
 f28:=Tryz.func201.trans (congrArg some (by kernel_rfl))
 f29:=Tryz.func202.trans (congrArg some (by kernel_rfl))
 f46:=⟨Tryz.f290.name,by decide,Tryz.func290.trans (congrArg some (by kernel_rfl))⟩
 f47:=Tryz.func230.trans (congrArg some (by kernel_rfl))
 f48:=Tryz.func231.trans (congrArg some (by kernel_rfl))
 f49:=⟨Tryz.f291.name,by decide,Tryz.func291.trans (congrArg some (by kernel_rfl))⟩
 f50:=⟨Tryz.f292.name,by decide,Tryz.func292.trans (congrArg some (by kernel_rfl))⟩
 f57:=⟨Tryz.f304.name,by decide,Tryz.func304.trans (congrArg some (by kernel_rfl))⟩
 t0:=Tryz.underlying0
 a0:=Tryz.isAgg0
 z0:=Tryz.sizeOf0
 v0:=Tryz.zeroValue0
 t3:=Tryz.underlying3
 a3:=Tryz.isAgg3
 z3:=Tryz.sizeOf3
 v3:=Tryz.zeroValue3
 t4:=Tryz.underlying4
 a4:=Tryz.isAgg4
 z4:=Tryz.sizeOf4
 v4:=Tryz.zeroValue4
 t5:=Tryz.underlying5
 a5:=Tryz.isAgg5
 z5:=Tryz.sizeOf5
 v5:=Tryz.zeroValue5
 t9:=Tryz.underlying9
 a9:=Tryz.isAgg9
 z9:=Tryz.sizeOf9
 v9:=Tryz.zeroValue9
 t22:=Tryz.underlying32
 a22:=Tryz.isAgg32
 z22:=Tryz.sizeOf32
 v22:=Tryz.zeroValue32
 t25:=Tryz.underlying199
 a25:=Tryz.isAgg199
 z25:=Tryz.sizeOf199
 v25:=Tryz.zeroValue199
 t39:=Tryz.underlying175
 a39:=Tryz.isAgg175
 z39:=Tryz.sizeOf175
 v39:=Tryz.zeroValue175
 t45:=Tryz.underlying228
 a45:=Tryz.isAgg228
 z45:=Tryz.sizeOf228
 v45:=Tryz.zeroValue228
 t46:=Tryz.underlying229
 a46:=Tryz.isAgg229
 z46:=Tryz.sizeOf229
 v46:=Tryz.zeroValue229
 t50:=Tryz.underlying158
 a50:=Tryz.isAgg158
 z50:=Tryz.sizeOf158
 v50:=Tryz.zeroValue158
 t53:=Tryz.underlying22
 a53:=Tryz.isAgg22
 z53:=Tryz.sizeOf22
 v53:=Tryz.zeroValue22
 t55:=Tryz.underlying217
 a55:=Tryz.isAgg217
 z55:=Tryz.sizeOf217
 v55:=Tryz.zeroValue217
 t66:=Tryz.underlying250
 a66:=Tryz.isAgg250
 z66:=Tryz.sizeOf250
 v66:=Tryz.zeroValue250
 t70:=Tryz.underlying254
 a70:=Tryz.isAgg254
 z70:=Tryz.sizeOf254
 v70:=Tryz.zeroValue254
 t76:=Tryz.underlying270
 a76:=Tryz.isAgg270
 z76:=Tryz.sizeOf270
 v76:=Tryz.zeroValue270
 t77:=Tryz.underlying183
 a77:=Tryz.isAgg183
 z77:=Tryz.sizeOf183
 v77:=Tryz.zeroValue183}
def Tryz.sortWord_ren:Go.Shelf.Ren:=⟨fun|6=>114|15=>163|14=>162|28=>201|29=>202|20=>193|21=>194|22=>195|23=>196|24=>197|25=>198|26=>199|27=>200|46=>229|47=>230|48=>231|49=>232|50=>233|57=>254|n=>n,fun|22=>46|24=>32|25=>152|3=>3|39=>175|0=>0|53=>22|55=>217|4=>4|46=>229|45=>228|50=>158|5=>5|9=>9|66=>250|70=>254|76=>270|77=>183|n=>n,fun|n=>n⟩
theorem Tryz.sortWord:Go.Proofs.SlLaysF.n6 Tryz.prog Tryz.sortWord_ren:={
 mixed:=by kernel_rfl
 f6:=⟨Tryz.f114.name,by decide,Tryz.func114.trans (congrArg some (by kernel_rfl))⟩
 f14:=⟨Tryz.f162.name,by decide,Tryz.func162.trans (congrArg some (by kernel_rfl))⟩
 f15:=Tryz.func163.trans (congrArg some (by kernel_rfl))
 f20:=⟨Tryz.f193.name,by decide,Tryz.func193.trans (congrArg some (by kernel_rfl))⟩
 f21:=⟨Tryz.f194.name,by decide,Tryz.func194.trans (congrArg some (by kernel_rfl))⟩
 f22:=⟨Tryz.f195.name,by decide,Tryz.func195.trans (congrArg some (by kernel_rfl))⟩
 f23:=⟨Tryz.f196.name,by decide,Tryz.func196.trans (congrArg some (by kernel_rfl))⟩
 f24:=⟨Tryz.f197.name,by decide,Tryz.func197.trans (congrArg some (by kernel_rfl))⟩
 f25:=⟨Tryz.f198.name,by decide,Tryz.func198.trans (congrArg some (by kernel_rfl))⟩
 f26:=⟨Tryz.f199.name,by decide,Tryz.func199.trans (congrArg some (by kernel_rfl))⟩
 f27:=⟨Tryz.f200.name,by decide,Tryz.func200.trans (congrArg some (by kernel_rfl))⟩
 f28:=Tryz.func201.trans (congrArg some (by kernel_rfl))
 f29:=Tryz.func202.trans (congrArg some (by kernel_rfl))
 f46:=⟨Tryz.f229.name,by decide,Tryz.func229.trans (congrArg some (by kernel_rfl))⟩
 f47:=Tryz.func230.trans (congrArg some (by kernel_rfl))
 f48:=Tryz.func231.trans (congrArg some (by kernel_rfl))
 f49:=⟨Tryz.f232.name,by decide,Tryz.func232.trans (congrArg some (by kernel_rfl))⟩
 f50:=⟨Tryz.f233.name,by decide,Tryz.func233.trans (congrArg some (by kernel_rfl))⟩
 f57:=⟨Tryz.f254.name,by decide,Tryz.func254.trans (congrArg some (by kernel_rfl))⟩
 t0:=Tryz.underlying0
 a0:=Tryz.isAgg0
 z0:=Tryz.sizeOf0
 v0:=Tryz.zeroValue0
 t3:=Tryz.underlying3
 a3:=Tryz.isAgg3
 z3:=Tryz.sizeOf3
 v3:=Tryz.zeroValue3
 t4:=Tryz.underlying4
 a4:=Tryz.isAgg4
 z4:=Tryz.sizeOf4
 v4:=Tryz.zeroValue4
 t5:=Tryz.underlying5
 a5:=Tryz.isAgg5
 z5:=Tryz.sizeOf5
 v5:=Tryz.zeroValue5
 t9:=Tryz.underlying9
 a9:=Tryz.isAgg9
 z9:=Tryz.sizeOf9
 v9:=Tryz.zeroValue9
 t22:=Tryz.underlying46
 a22:=Tryz.isAgg46
 z22:=Tryz.sizeOf46
 v22:=Tryz.zeroValue46
 a24:=Tryz.isAgg32
 z24:=Tryz.sizeOf32
 t25:=Tryz.underlying152
 a25:=Tryz.isAgg152
 z25:=Tryz.sizeOf152
 v25:=Tryz.zeroValue152
 t39:=Tryz.underlying175
 a39:=Tryz.isAgg175
 z39:=Tryz.sizeOf175
 v39:=Tryz.zeroValue175
 t45:=Tryz.underlying228
 a45:=Tryz.isAgg228
 z45:=Tryz.sizeOf228
 v45:=Tryz.zeroValue228
 t46:=Tryz.underlying229
 a46:=Tryz.isAgg229
 z46:=Tryz.sizeOf229
 v46:=Tryz.zeroValue229
 t50:=Tryz.underlying158
 a50:=Tryz.isAgg158
 z50:=Tryz.sizeOf158
 v50:=Tryz.zeroValue158
 t53:=Tryz.underlying22
 a53:=Tryz.isAgg22
 z53:=Tryz.sizeOf22
 v53:=Tryz.zeroValue22
 t55:=Tryz.underlying217
 a55:=Tryz.isAgg217
 z55:=Tryz.sizeOf217
 v55:=Tryz.zeroValue217
 t66:=Tryz.underlying250
 a66:=Tryz.isAgg250
 z66:=Tryz.sizeOf250
 v66:=Tryz.zeroValue250
 t70:=Tryz.underlying254
 a70:=Tryz.isAgg254
 z70:=Tryz.sizeOf254
 v70:=Tryz.zeroValue254
 t76:=Tryz.underlying270
 a76:=Tryz.isAgg270
 z76:=Tryz.sizeOf270
 v76:=Tryz.zeroValue270
 t77:=Tryz.underlying183
 a77:=Tryz.isAgg183
 z77:=Tryz.sizeOf183
 v77:=Tryz.zeroValue183}
end Go.Proofs
namespace Go.Proofs.YtlgliddhideflaaGreatDoor
open Go.RowKit Go.Shelf
def J5 (s:Snd):List Value:=[.int .u32 s.1, .int .u32 s.2]
theorem Et (s:Snd):(J5 s).length=2:=rfl
theorem Ei:∀xs:List Snd,xs.flatMap J5=Bc xs
 |[]=>rfl
 |x::xs=>by rw[List.flatMap_cons,Ei xs];rfl
theorem Tn (n:Nat):madeCells #[Value.int .u32 0, .int .u32 0] (n*2)=(Bc (List.replicate n (0,0))).toArray:=by
 rw[←Ei];apply Array.ext
 ·simp[size_madeCells,Ew J5 2 Et]
 ·intro i h1 h2;have hi:i<n*2:=by simpa[size_madeCells]using h1
  have hz:(List.replicate n ((0,0):Snd))[i/2]? =some (0,0):=by rw[List.getElem?_replicate,if_pos (by omega)]
  rcases Nat.mod_two_eq_zero_or_one i with h|h
  ·have h3:=Hw J5 2 Et _ (i/2) (0,0) hz 0 (.int .u32 0) rfl;rw[show i/2*2+0=i by omega]at h3;exact Eq.trans (by simp[madeCells,h]) ((List.getElem?_eq_some_iff.1 h3).2.symm.trans rfl)
  ·have h3:=Hw J5 2 Et _ (i/2) (0,0) hz 1 (.int .u32 0) rfl;rw[show i/2*2+1=i by omega]at h3;exact Eq.trans (by simp[madeCells,h]) ((List.getElem?_eq_some_iff.1 h3).2.symm.trans rfl)
theorem Py (n:Nat)(hn:n<=4096)(w:World):(Instr.makeSlice 32 (.int .i64 (n:Int)) (.int .i64 (n:Int))).run Tryz.prog w= .ok (.slice (some ⟨w.heap.size,0,none⟩) n n) (w.alloc (.cells (Bc (List.replicate n (0,0))).toArray 24)):=by
 obtain⟨i,hi,a0⟩:=Option.map_eq_some_iff.1 Lg;simp only[Prod.mk.injEq]at a0;obtain⟨hz,hs,hb⟩:=a0;have hr:=run_make (P:=Tryz.prog) w 32 24 i _ Tryz.underlying32 hi hz .i64 .i64 n n (by omega) (Int.le_refl _) (by rw[hb];omega) (by omega);rw[Int.toNat_natCast,hs]at hr;rw[←Tn];exact hr
theorem To {w:World}{b n:Nat}{t:TypeId}{xs:List Snd}(h:w.heap[b]? =some (.cells (Bc xs).toArray t (0,0)))(hl:xs.length=n)(hn:n<=maxLen):Ab w (some ⟨b,0,none⟩) n n xs:=by
 subst hl;exact⟨by rw[←Ei];exact Ew J5 2 Et xs,rr,hn,(fun h=>by cases h),fun _=>⟨b,0,rfl,lt_of_block h,fun j v hv=>by rw[Nat.zero_add];exact Ac h (by simpa using hv)⟩⟩
theorem Vo (xs:List Snd)(j:Nat)(p q:Int)(hj:j<xs.length):((Bc xs).toArray.setIfInBounds (j*2) (.int .u32 p)).setIfInBounds (j*2+1) (.int .u32 q)=(Bc (xs.set j (p,q))).toArray:=by
 simp only[List.setIfInBounds_toArray];congr 1
 induction xs generalizing j with
 |nil=>simp at hj
 |cons x xs ih=>
  cases j with
  |zero=>rfl
  |succ j=>
   have:=ih j (by simpa using hj)
   simp only[Bc,List.set_cons_succ];rw[show(j+1)*2=j*2+1+1 by omega,List.set_cons_succ,List.set_cons_succ,List.set_cons_succ,List.set_cons_succ,this]
end Go.Proofs.YtlgliddhideflaaGreatDoor
namespace Go.Proofs.YtlgliddhideflaaGreatDoor
open Go.RowKit Go.Shelf Go.Sort
-- a row of records, as the sort sees it
theorem Sr {α:Type} [Inhabited α](enc:α->List Value)(k:Nat)(hk:∀x,(enc x).length=k)(h0:0<k)(l:List α):flatK enc k l.toArray=(l.flatMap enc).toArray:=by
 apply ext_get!
 ·simp[Ew enc k hk]
 ·intro t ht;have a0:t<l.length*k:=by simpa using ht
  rw[get_flatK _ _ _ _ (by simpa using a0)];have hq:t/k<l.length:=Nat.div_lt_of_lt_mul (by rw[Nat.mul_comm];exact a0);have hm:t%k<k:=Nat.mod_lt _ h0;have hx:l[t/k]? =some l[t/k]:=List.getElem?_eq_getElem hq;have hl:t%k<(enc l[t/k]).length:=by rw[hk];exact hm
  have h3:=Hw enc k hk l (t/k) _ hx (t%k) _ (List.getElem?_eq_getElem hl);rw[show t/k*k+t%k=t by rw[Nat.mul_comm];exact Nat.div_add_mod t k]at h3;have e1:(l.toArray)[t/k]! =l[t/k]:=by simp[getElem!_pos,hq]
  rw[e1]
  have e2:((l.flatMap enc).toArray)[t]! =(enc l[t/k])[t%k]:=by
   have a1:=(List.getElem?_eq_some_iff.1 h3).1;rw[getElem!_pos ((l.flatMap enc).toArray) t (by simpa using a1)];simpa using(List.getElem?_eq_some_iff.1 h3).2
  rw[e2,getElem!_pos (enc l[t/k]) (t%k) hl]
theorem Xk {α:Type} [Inhabited α]{enc:α->List Value}{k:Nat}(hk:∀x,(enc x).length=k)(h0:0<k){w:World}{base g n c:Nat}{e:TypeId}{l:List α}(h:w.ownsRow base e k (.slice (some ⟨g,0,none⟩) n c) n (l.flatMap enc)):
  HoldsK enc k w g 0 l.toArray:=by
 unfold HoldsK Holds;rw[Sr enc k hk h0];intro j hj;obtain⟨h1,⟨e0,_⟩|⟨g',cap',cur,e0,hb,hg,hn,hm,hs,ht⟩⟩:=h
 ·cases e0
 injection e0 with e1 _ e3
 injection e1 with e1
 injection e1 with e1
 subst e1;have a0:j<(l.flatMap enc).length:=by simpa using hj
 have a1:j<cur.size:=by rw[hs];rw[h1]at a0;exact Nat.lt_of_lt_of_le a0 (Nat.mul_le_mul_right k hn)
 have e5:cur[j]? =some (l.flatMap enc)[j]:=by
  have h5:=congrArg (fun x:List Value=>x[j]?) ht;simp only[List.getElem?_take]at h5;rw[if_pos (by rw[←h1];exact a0),Array.getElem?_toList,List.getElem?_eq_getElem a0]at h5;exact h5
 refine⟨?_, ?_⟩
 ·rw[getElem!_pos ((l.flatMap enc).toArray) j hj];simp[World.cell?,hg,e5]
 ·simp[World.frozen?,hg]
theorem Ss {α:Type} [Inhabited α]{enc:α->List Value}{k:Nat}(hk:∀x,(enc x).length=k)(h0:0<k){w:World}{g c:Nat}{l:List α}(h:HoldsK enc k w g 0 l.toArray)(hg:g<w.heap.size)(hc:l.length<=c)(hm:c<=maxLen):
  Bb w (some ⟨g,0,none⟩) l.length c k (l.flatMap enc):=by
 refine⟨Ew enc k hk l,hc,hm,(fun h=>by cases h),fun _=>⟨g,0,rfl,hg,fun j v hv=> ?_⟩⟩
 unfold HoldsK Holds at h;rw[Sr enc k hk h0]at h;have hj:=(List.getElem?_eq_some_iff.1 hv).1;have h1:=(h j (by simpa using hj)).1;rw[getElem!_pos ((l.flatMap enc).toArray) j (by simpa using hj)]at h1;rw[h1];simpa using(List.getElem?_eq_some_iff.1 hv).2
theorem Ur {α:Type} [Inhabited α]{enc:α->List Value}{k:Nat}{B:Nat}{w0 w:World}{g m:Nat}{d:Array α}{os:Array Obj}(h:Below B w0 w)(hg:B<=g)(hB:B<=w.heap.size):Below B w0 (sortWorldK enc k w g 0 m d os):=by
 have h1:Below B w0 (putRowK enc k (Sort.ahead w m) g 0 d):=Lib.below_putRow h hg;have hs:(putRowK enc k (Sort.ahead w m) g 0 d).heap.size=w.heap.size:=by simp[putRowK,putRow,mapBlock,Sort.ahead]
 unfold sortWorldK;refine⟨h1.os,h1.tape,h1.output, ?_,fun i hi=> ?_⟩
 ·have:=h1.size;simp only[Sort.grow,Array.size_append];omega
 ·rw[←h1.block i hi];simp only[Sort.grow];rw[Array.getElem?_append_left (by omega)]
-- the order of sounds
theorem Wk (a b:Snd):decide (Fr a b<0)=Fa a b:=by
 obtain⟨a1,a2⟩:=a;obtain⟨b1,b2⟩:=b;unfold Fr orI Eg Fa;by_cases h1:a1<b1
 ·simp[h1]
 ·by_cases h2:b1<a1
  ·simp[h1,h2];omega
  ·obtain rfl:a1=b1:=by omega
   by_cases h3:a2<b2
   ·simp[h3]
   ·by_cases h4:b2<a2<;>simp[h3,h4]
theorem El (a b:Snd):ltOf Fr a b=Fa a b:=Wk a b
theorem Wl:SWO (ltOf Fr) where
 irrefl x:=by rw[El];exact Cq.irr x
 trans x y z h1 h2:=by rw[El]at*;exact Cq.tr x y z h1 h2
 ntrans x y z h1 h2:=by
  rw[El]at*
  cases h:Fa x z with
  |false=>rfl
  |true=>
   cases h3:Fa y x with
   |false=>have:=Cq.tot x y h1 h3;subst this;rw[h]at h2;cases h2
   |true=>have:=Cq.tr y x z h3 h;rw[this]at h2;cases h2
theorem Us (ss:List Snd)(hd:ss.Nodup):(ss.mergeSort fun x y=> !(ltOf Fr) y x)=B3 ss:=by
 have hp:=List.mergeSort_perm ss fun x y=> !(ltOf Fr) y x
 refine Aaf Cq ?_ (hp.nodup_iff.2 hd) fun a=>hp.mem_iff
 have h:=List.pairwise_mergeSort (le:=fun x y=> !(ltOf Fr) y x) (fun a b c h1 h2=>by
  simp only[El,Bool.not_eq_true']at*;have h3:=Wl.ntrans c b a;simp only[El]at h3;exact h3 h2 h1) (fun a b=>by
  simp only[El]
  cases h1:Fa b a with
  |false=>rfl
  |true=>
   cases h2:Fa a b with
   |false=>rfl
   |true=>have:=Cq.tr a b a h2 h1;rw[Cq.irr]at this;cases this) ss
 exact h.imp fun h=>by simpa[El]using h
theorem Xl (v:Value)(base:Nat)(n:Nat)(ss:List Snd)(w:World)(h:w.ownsRow base 24 2 v n (Bc ss))(hl:ss.length=n)(hn:n<=4000)(hd:ss.Nodup)(hB:base<=w.heap.size):
  Calls Tryz.prog 227 #[v, .func (.func 192) #[] #[]] w fun e w'=>
   e= .returned (.tuple #[])/\(∃A' c',v= .slice A' n c'/\Ab w' A' n c' (B3 ss)∧∀ad,A'=some ad->base<=ad.block)/\Below base w w':=by
 subst hl;rcases Nat.eq_zero_or_pos ss.length with h0|h0
 ·have hs:ss=[]:=List.eq_nil_of_length_eq_zero h0;subst hs;rcases h.2 with⟨rfl,_⟩|⟨g,cap,cur,rfl,hb,hg,a3,a4,a5,ht⟩
  ·exact(AnyF.slices_SortFunc_none Tryz.sortSnd none 0 _ w).mono fun e w' ⟨h1,h2⟩=>by
    subst h2;exact⟨h1,⟨none,0,rfl,Bb.nil _ _,fun ad had=>by cases had⟩,Below.refl _ _⟩
  ·exact(AnyF.slices_SortFunc_none Tryz.sortSnd (some ⟨g,0,none⟩) cap _ w).mono fun e w' ⟨h1,h2⟩=>by
    subst h2;exact⟨h1,⟨some ⟨g,0,none⟩,cap,rfl,Bb.of_own h (by decide),fun ad had=>by cases had;exact hb⟩,Below.refl _ _⟩
 ·obtain⟨g,cap,rfl,hb,hg⟩:=Yu h h0
  have hm:ss.length<=cap/\cap<=maxLen:=by
   have h3:=Bb.of_own h (by decide);exact⟨h3.2.1,h3.2.2.1⟩
  have hH:HoldsK J5 2 w g 0 ss.toArray:=Xk Et (by decide) (by rw[Ei];exact h)
  have a1:=AnyQ.slices_SortFunc_total Tryz.sortSnd 2 Tryz.isAgg24 Tryz.sizeOf24 J5 Et (fun x v hv=>by simp[J5]at hv;rcases hv with rfl|rfl<;>rfl) Fr Wl 192 #[] g 0 cap ss.toArray w
   (enters_of Tryz.func192 (by kernel_rfl) rfl) (fun m os dk _ x y=>(Zf x.1 x.2 y.1 y.2 _).mono fun e w' ⟨h1,h2⟩=>⟨h1,h2.eq⟩) hH hg (by simp;omega)
   (fun x y h1 h2=>Cq.tot x y (by rw[←El];exact h1) (by rw[←El];exact h2))
  refine Calls.mono a1 ?_;rintro e w' ⟨rfl,m,os,rfl⟩;rw[show ss.toArray.toList=ss from rfl,Us ss hd];have a0:=Jv hd;have a2:Below base w (sortWorldK J5 2 w g 0 m (B3 ss).toArray os):=Ur (Below.refl _ _) hb hB;refine⟨rfl,⟨some ⟨g,0,none⟩,cap,rfl, ?_,fun ad had=>by cases had;exact hb⟩,a2⟩
  have h5:HoldsK J5 2 (sortWorldK J5 2 w g 0 m (B3 ss).toArray os) g 0 (B3 ss).toArray:=by
   unfold sortWorldK;refine holdsK_grow J5 2 _ os g 0 _ (by simpa[putRowK,putRow,mapBlock,Sort.ahead]using hg) ?_;exact holdsK_putRowK J5 2 (Sort.ahead w m) g 0 ss.toArray _ hH (by simp[a0])
  have h6:=Ss Et (by decide) h5 (Nat.lt_of_lt_of_le hg (by unfold sortWorldK Sort.grow;simp[putRowK,putRow,mapBlock,Sort.ahead])) (by rw[a0];exact hm.1) hm.2;rw[a0,Ei]at h6;exact h6
theorem St (bs:Nat)(A:Option Addr)(n c:Nat)(ss:List Snd)(w:World)(hb:w.heap[bs]? =some (.cells #[.slice A n c] 32 (0,0)))(hs:Ab w A n c ss)(hn:n<=5)(hd:ss.Nodup):
  Calls Tryz.prog 190 #[.func (.func 228) #[] #[.pointer (some ⟨bs,0,none⟩)], .func (.func 192) #[] #[]] w fun e w'=>
   ∃A' c',e= .returned (.slice A' n c')/\Ab w' A' n c' (B3 ss)/\Below w.heap.size w w'∧∀ad,A'=some ad->w.heap.size<=ad.block:=by
 have hl:=hs.len;have h1:=Xj bs A n c ss w hb hs (by omega);clear hb hs;go_enter Tryz.func190,Tryz.ntmps190;go_wp2_with fail;refine h1.mono ?_;rintro e w1 ⟨v,rfl,ho,a0⟩;have h2:=Xl v w.heap.size n ss w1 ho hl (by omega) hd a0.size;clear ho h1;go_wp2_with fail;refine h2.mono ?_;rintro e w2 ⟨rfl,⟨A',c',rfl,a1,a2⟩,a3⟩;have HW:=hI a1;have HF:=hI a2;have hB:=a0.trans a3;clear a1 a2 a0 a3 h2 hl;go_wp2;go_ret;exact⟨_,_,rfl,HW.out,hB,HF.out⟩
end Go.Proofs.YtlgliddhideflaaGreatDoor
namespace Go.Proofs.YtlgliddhideflaaGreatDoor
open Go.RowKit Go.Shelf
def Gs (b7:Nat)(E:Nat->Prop)(vw:Value)(ps:List Part):Nat->Prop:=fun k=>k=b7\/E k\/vw.ownBlock=some k∨∃p∈ps,0<p.2.1∧∃ad,p.1=some ad/\ad.block=k
structure E9 (b7:Nat)(E:Nat->Prop)(W1:World)(vw:Value)(ps:List Part)(W:World):Prop where
 lt:b7<W1.heap.size∧∀k,E k->k<W1.heap.size/\k≠b7
 c7:W.heap[b7]? =some (.cells #[vw] 46 (0,0))
 o7:W.ownsRow W1.heap.size 32 1 vw ps.length (ps.map Part.val)
 pp:Je W ps
 pd:∀p∈ps,∀ad,p.1=some ad->W1.heap.size<=ad.block/\(0<p.2.1→¬vw.ownBlock=some ad.block)
 kp:Ae (fun k=>k=b7\/E k) W1 W
section
variable {b7:Nat}{E:Nat->Prop}{W1:World}{vw vw':Value}{ps:List Part}{W W':World}
theorem E9.wlt (h:E9 b7 E W1 vw ps W){p:Part}(hp:p∈ps)(hn:0<p.2.1){ad:Addr}(had:p.1=some ad):ad.block<W.heap.size:=by
 obtain⟨b,off,hb,a0,_⟩:=(h.pp p hp).2.2.2.2 hn;rw[had]at hb;injection hb with hb;subst hb
 exact a0
theorem E9.lts (h:E9 b7 E W1 vw ps W):∀k,Gs b7 E vw ps k->k<W.heap.size:=by
 have hs:=h.kp.size;rintro k (rfl|hk|hk|⟨p,hp,hn,ad,a0,rfl⟩)
 ·exact lt_of_block h.c7
 ·have:=(h.lt.2 k hk).1;omega
 ·exact(h.o7.lt k hk).2
 ·exact h.wlt hp hn a0
theorem E9.nds (h:E9 b7 E W1 vw ps W)(hE:∀k,E k→∀x,W.heap[k]? ≠some (.deferred x)):∀k,Gs b7 E vw ps k→∀x,W.heap[k]? ≠some (.deferred x):=by
 rintro k (rfl|hk|hk|⟨p,hp,hn,ad,a0,rfl⟩) x hx
 ·rw[h.c7]at hx;cases hx
 ·exact hE k hk x hx
 ·obtain⟨cur,hc⟩:=Hf h.o7 hk;rw[hc]at hx;cases hx
 ·obtain⟨v,hv⟩:=Kw (h.pp p hp) hn a0;simp[World.cell?,hx]at hv
theorem E9.keep (h:E9 b7 E W1 vw ps W)(hk:Ae (fun b=>W1.heap.size<=b∧¬Gs b7 E vw ps b) W W'):E9 b7 E W1 vw ps W':=by
 have hs:=h.kp.size;have a0:∀k,Gs b7 E vw ps k->W'.heap[k]? =W.heap[k]? :=fun k hT=>hk.block k (h.lts k hT) (fun e=>e.2 hT)
 refine⟨h.lt,(a0 _ (.inl rfl)).trans h.c7,Bo h.o7 fun k e=>a0 k (.inr (.inr (.inl e))),fun p hp=>(h.pp p hp).keep hk fun hn ad had e=>e.2 (.inr (.inr (.inr ⟨p,hp,hn,ad,had,rfl⟩))),h.pd, ?_⟩
 exact((h.kp.mono (S':=fun k=>(k=b7\/E k)\/W1.heap.size<=k) fun _ e=> .inl e).trans (hk.mono fun _ e=> .inr e.1)).old fun k hlt e=>e.resolve_right (by omega)
theorem E9.beside (h:E9 b7 E W1 vw ps W)(hk:Ae E W W'):E9 b7 E W1 vw ps W':=by
 have hs:=h.kp.size;have a0:∀k,W1.heap.size<=k→¬E k:=fun k hl e=>by have:=(h.lt.2 k e).1;omega
 refine⟨h.lt,(hk.block _ (lt_of_block h.c7) (fun e=>(h.lt.2 _ e).2 rfl)).trans h.c7,Bo h.o7 fun k e=>hk.block k (h.o7.lt k e).2 (a0 k (h.o7.lt k e).1),fun p hp=>(h.pp p hp).keep hk fun hn ad had e=>a0 _ (h.pd p hp ad had).1 e,h.pd, ?_⟩
 exact h.kp.trans (hk.mono fun _ e=> .inr e)
theorem E9.start (hb:b7<W1.heap.size)(hE:∀k,E k->k<W1.heap.size/\k≠b7)(hc:W1.heap[b7]? =some (.cells #[.slice none 0 0] 46 (0,0))):E9 b7 E W1 (.slice none 0 0) [] W1:=
 ⟨⟨hb,hE⟩,hc,World.ownsRow_nil _ _ _ _,fun p hp=>by simp at hp,fun p hp=>by simp at hp,Ae.refl _ _⟩
theorem E9.push (h:E9 b7 E W1 vw ps W){w1 X2:World}{A':Option Addr}{n' c':Nat}{x:List Snd}{t:TypeId}(hb1:Below W.heap.size W w1)(hw1:Ab w1 A' n' c' x)
  (hf:∀ad,A'=some ad->W1.heap.size<=ad.block∧¬Gs b7 E vw ps ad.block)
  (hown:X2.ownsRow W1.heap.size 32 1 vw' (ps.length+1) (ps.map Part.val++[.slice A' n' c'])) (hg:(w1.alloc (.cells #[.slice A' n' c'] t)).grownBy X2 vw.ownBlock)
  (b1:vw'.ownBlock=vw.ownBlock\/vw'.ownBlock=some (w1.alloc (.cells #[.slice A' n' c'] t)).heap.size):
  E9 b7 E W1 vw' (ps++[(A',n',c',x)]) (X2.setCell ⟨b7,0,none⟩ vw')/\Ae (Gs b7 E vw ps) W (X2.setCell ⟨b7,0,none⟩ vw')∧
   ∀k,Gs b7 E vw' (ps++[(A',n',c',x)]) k->Gs b7 E vw ps k\/W.heap.size<=k\/(0<n'∧∃ad,A'=some ad/\ad.block=k):=by
 have b6:=h.kp.size;have b2:=hb1.size;have b4:=hg.size;simp only[World.size_alloc]at b4;have l7:=h.lt.1;have a3:∀k,some k=vw.ownBlock->W1.heap.size<=k/\k<W.heap.size:=fun k hk=>h.o7.lt k hk.symm
 have a9:∀k,k<w1.heap.size→¬vw.ownBlock=some k->X2.heap[k]? =w1.heap[k]? :=fun k hk hn=>(hg.block k (by simp;omega) (fun e=>hn e.symm)).trans (Below.heap_alloc _ _ _ hk)
 have b0:∀k,k≠b7->(X2.setCell ⟨b7,0,none⟩ vw').heap[k]? =X2.heap[k]? :=fun k hk=>Below.heap_setCell _ _ _ _ (by simpa using hk)
 have b5:Ae (fun k=>vw.ownBlock=some k) w1 X2:=((Ae.refl (fun k=>vw.ownBlock=some k) w1).alloc _).grown hg (fun k e=> .inl e);have a7:Ae (fun k=>vw.ownBlock=some k\/k=b7) w1 (X2.setCell ⟨b7,0,none⟩ vw'):=(b5.mono fun k e=> .inl e).setCell (p:=⟨b7,0,none⟩) (.inr rfl) _;have a8:Ae (fun k=>vw.ownBlock=some k\/k=b7) W (X2.setCell ⟨b7,0,none⟩ vw'):=(Aj hb1).trans a7;have b3:vw.ownBlock≠some b7:=fun e=>by have:=a3 b7 e.symm;omega
 have a5:∀k,vw'.ownBlock=some k->vw.ownBlock=some k\/w1.heap.size<k:=by
  intro k hk;rcases b1 with e|e
  ·exact .inl (e▸hk)
  ·rw[e]at hk;injection hk with hk;simp at hk;exact .inr (by omega)
 have a1:∀p∈ps++[(A',n',c',x)],Ab w1 p.1 p.2.1 p.2.2.1 p.2.2.2∧∀ad,p.1=some ad->W1.heap.size<=ad.block/\(0<p.2.1->ad.block<w1.heap.size∧¬vw.ownBlock=some ad.block):=by
  intro p hp
  have a4:Ab w1 p.1 p.2.1 p.2.2.1 p.2.2.2∧∀ad,p.1=some ad->W1.heap.size<=ad.block/\(0<p.2.1→¬vw.ownBlock=some ad.block):=by
   rcases List.mem_append.1 hp with hp|hp
   ·exact⟨(h.pp p hp).below hb1 rr,h.pd p hp⟩
   ·obtain rfl:p=(A',n',c',x):=by simpa using hp
    exact⟨hw1,fun ad a0=>⟨(hf ad a0).1,fun _ e=>(hf ad a0).2 (.inr (.inr (.inl e)))⟩⟩
  refine⟨a4.1,fun ad a0=>⟨(a4.2 ad a0).1,fun hn=>⟨?_,(a4.2 ad a0).2 hn⟩⟩⟩
  obtain⟨b,off,hb,a6,_⟩:=a4.1.2.2.2.2 hn;rw[a0]at hb;injection hb with hb
  subst hb;exact a6
 have a2:w1.heap[b7]? =some (.cells #[vw] 46 (0,0)):=(hb1.block _ (lt_of_block h.c7)).trans h.c7;refine⟨⟨h.lt,one_setCell ((a9 _ (lt_of_block a2) b3).trans a2),Bo (w:=X2) ?_ fun k e=>b0 k ?_,fun p hp=> ?_,fun p hp ad a0=> ?_, ?_⟩,a8.mono fun k e=> ?_,fun k hk=> ?_⟩
 ·rw[List.length_append,List.length_singleton,List.map_append,List.map_singleton];exact hown
 ·have:=(hown.lt k e).1;omega
 ·refine(a1 p hp).1.keep a7 fun hn ad a0 e=> ?_
  have h1:=(a1 p hp).2 ad a0;rcases e with e|e
  ·exact(h1.2 hn).2 e
  ·omega
 ·have h1:=(a1 p hp).2 ad a0;refine⟨h1.1,fun hn e=> ?_⟩
  rcases a5 _ e with e|e
  ·exact(h1.2 hn).2 e
  ·have:=(h1.2 hn).1;omega
 ·refine((h.kp.mono (S':=fun k=>(k=b7\/E k)\/W1.heap.size<=k) (fun _ e=> .inl e)).trans (a8.mono (S':=fun k=>(k=b7\/E k)\/W1.heap.size<=k) fun k e=> ?_)).old fun k a6 e=>e.resolve_right (by omega)
  rcases e with e|e
  ·exact .inr (a3 k e.symm).1
  ·exact .inl (.inl e)
 ·rcases e with e|e
  ·exact .inr (.inr (.inl e))
  ·exact .inl e
 ·rcases hk with e|e|e|⟨p,hp,hn,ad,a0,e⟩
  ·exact .inl (.inl e)
  ·exact .inl (.inr (.inl e))
  ·rcases a5 k e with e|e
   ·exact .inl (.inr (.inr (.inl e)))
   ·exact .inr (.inl (by omega))
  ·rcases List.mem_append.1 hp with hp|hp
   ·exact .inl (.inr (.inr (.inr ⟨p,hp,hn,ad,a0,e⟩)))
   ·obtain rfl:p=(A',n',c',x):=by simpa using hp
    exact .inr (.inr ⟨hn,ad,a0,e⟩)
end
end Go.Proofs.YtlgliddhideflaaGreatDoor
namespace Go.Proofs.YtlgliddhideflaaGreatDoor
open Go.RowKit Go.Shelf Go.Sort
-- the order of words
theorem Yv {x y:Snd}(h:Fr x y=0):x=y:=by
 obtain⟨x1,x2⟩:=x;obtain⟨y1,y2⟩:=y;unfold Fr orI Eg at h;by_cases h1:x1<y1
 ·simp[h1]at h
 ·by_cases h2:y1<x1
  ·simp[h1,h2]at h
  ·obtain rfl:x1=y1:=by omega
   by_cases h3:x2<y2
   ·simp[h3]at h
   ·by_cases h4:y2<x2
    ·simp[h3,h4]at h
    ·obtain rfl:x2=y2:=by omega
     rfl
theorem Xb:∀a b:List Snd,decide (Hi a b<0)=Dz a b
 |[],[]=>rfl
 |[],_::_=>rfl
 |_::_,[]=>rfl
 |x::a,y::b=>by
  have h:=Wk x y;by_cases e:x=y
  ·subst e;have h0:Fr x x=0:=by simp[Fr,orI,Eg]
   have hv:Hi (x::a) (x::b)=Hi a b:=by
    show(if Fr x x≠0 then Fr x x else Hi a b)=_;rw[if_neg (by simp[h0])]
   have hw:Dz (x::a) (x::b)=Dz a b:=by
    show(if x=x then Dz a b else Fa x x)=_;rw[if_pos rfl]
   rw[hw,←Xb a b];simp only[hv]
  ·have h0:Fr x y≠0:=fun h0=>e (Yv h0)
   have hv:Hi (x::a) (y::b)=Fr x y:=by
    show(if Fr x y≠0 then Fr x y else Hi a b)=_;rw[if_pos h0]
   have hw:Dz (x::a) (y::b)=Fa x y:=by
    show(if x=y then Dz a b else Fa x y)=_;rw[if_neg e]
   rw[hw,←h];simp only[hv]
theorem Jz (a b:List Snd):ltOf Pq a b=Ee a b:=by
 show decide (Pq a b<0)=_;unfold Pq orI Eg Ee;by_cases h1:a.length<b.length
 ·simp[h1]
 ·by_cases h2:b.length<a.length
  ·simp[h1,h2];omega
  ·have h3:a.length=b.length:=by omega
   have:=Xb a b
   simp[h3,this]
theorem Pl:SWO (ltOf Pq) where
 irrefl x:=by rw[Jz];exact Eb.irr x
 trans x y z h1 h2:=by rw[Jz]at*;exact Eb.tr x y z h1 h2
 ntrans x y z h1 h2:=by
  rw[Jz]at*
  cases h:Ee x z with
  |false=>rfl
  |true=>
   cases h3:Ee y x with
   |false=>have:=Eb.tot x y h1 h3;subst this;rw[h]at h2;cases h2
   |true=>have:=Eb.tr y x z h3 h;rw[this]at h2;cases h2
-- the world of the sort
theorem Aee {α:Type} [Inhabited α]{enc:α->Value}{w:World}{g m:Nat}{d:Array α}{os:Array Obj}{cur:Array Value}{t:TypeId}{fz:Nat×Nat}(h:w.heap[g]? =some (.cells cur t fz)):
  (sortWorld enc w g 0 m d os).heap[g]? =some (.cells (putCells enc 0 d cur) t fz):=by
 have hl:g<w.heap.size:=(Array.getElem?_eq_some_iff.1 h).1;unfold sortWorld putRow mapBlock Sort.grow Sort.ahead;simp only;rw[Array.getElem?_append_left (by simpa using hl),Array.getElem?_modify,if_pos rfl,h];rfl
theorem Rh {α:Type} [Inhabited α]{enc:α->Value}(w:World)(g m:Nat)(d:Array α)(os:Array Obj):Ae (fun k=>k=g) w (sortWorld enc w g 0 m d os):=by
 unfold sortWorld putRow mapBlock Sort.grow Sort.ahead;refine⟨rfl,rfl,rfl,by simp,fun k hk hs=> ?_⟩
 simp only;rw[Array.getElem?_append_left (by simpa using hk),Array.getElem?_modify,if_neg (fun e=>hs e.symm)]
theorem Ac5 {α:Type} [Inhabited α]{enc:α->Value}{d:Array α}{cur:Array Value}{j:Nat}{x:α}(hx:d[j]? =some x)(hc:j<cur.size):(putCells enc 0 d cur)[j]? =some (enc x):=by
 have hj:j<d.size:=(Array.getElem?_eq_some_iff.1 hx).1;unfold putCells;rw[Array.getElem?_mapIdx,Array.getElem?_eq_getElem hc,Option.map_some,if_pos ⟨Nat.zero_le _,by omega⟩,Nat.sub_zero,getElem!_pos d j hj];rw[(Array.getElem?_eq_some_iff.1 hx).2]
instance goodPart (w:World) (g:Nat):Inhabited {p:Part//Ab w p.1 p.2.1 p.2.2.1 p.2.2.2/\(0<p.2.1→∀ad,p.1=some ad->ad.block≠g)}:=⟨⟨(none,0,0,[]),Bb.nil _ _,fun h=>absurd h (by decide)⟩⟩
theorem Yw (g cap:Nat)(ps:List Part)(w:World)(cur:Array Value)(hg:w.heap[g]? =some (.cells cur 32 (0,0)))(hc:∀(j:Nat) (p:Part),ps[j]? =some p->cur[j]? =some p.val)
  (hp:∀p∈ps,Ab w p.1 p.2.1 p.2.2.1 p.2.2.2/\(0<p.2.1→∀ad,p.1=some ad->ad.block≠g)) (hn:ps.length<=4000):
  Calls Tryz.prog 114 #[.slice (some ⟨g,0,none⟩) ps.length cap, .func (.func 115) #[] #[]] w fun e w'=>e= .returned (.tuple #[])/\Ae (fun k=>k=g) w w'∧∃(ps':List Part) (cur':Array Value),
   ps'.Perm ps/\(ps'.map Part.word).Pairwise (fun a b=>Ee b a=false)/\w'.heap[g]? =some (.cells cur' 32 (0,0))/\cur'.size=cur.size∧∀(j:Nat) (p:Part),ps'[j]? =some p->cur'[j]? =some p.val:=by
 obtain⟨d,hd⟩:∃d:Array {p:Part//Ab w p.1 p.2.1 p.2.2.1 p.2.2.2/\(0<p.2.1→∀ad,p.1=some ad->ad.block≠g)},d.toList.map (·.1)=ps:=
  ⟨(ps.attach.map fun p=>⟨p.1,hp p.1 p.2⟩).toArray,by simp only[List.map_map,Function.comp_def];exact List.attach_map_subtype_val ps⟩
 have a2:d.size=ps.length:=by rw[←hd];simp
 have a6:=lt_of_block hg
 have b0:∀j (x:{p:Part//Ab w p.1 p.2.1 p.2.2.1 p.2.2.2/\(0<p.2.1→∀ad,p.1=some ad->ad.block≠g)}),d[j]? =some x->ps[j]? =some x.1:=fun j x hx=>by
  rw[←hd,List.getElem?_map,Array.getElem?_toList,hx];rfl
 have hH:Holds (fun x:{p:Part//Ab w p.1 p.2.1 p.2.2.1 p.2.2.2/\(0<p.2.1→∀ad,p.1=some ad->ad.block≠g)}=>x.1.val) w g 0 d:=by
  intro j hj;have hx:d[j]? =some d[j]! :=by rw[getElem!_pos d j hj];exact Array.getElem?_eq_getElem hj
  have h1:=hc j _ (b0 j _ hx);refine⟨?_, ?_⟩
  ·simp[World.cell?,hg,h1]
  ·simp[World.frozen?,hg]
 have a0:=Any.slices_SortFunc Tryz.sortWord (fun x:{p:Part//Ab w p.1 p.2.1 p.2.2.1 p.2.2.2/\(0<p.2.1→∀ad,p.1=some ad->ad.block≠g)}=>x.1.val) (fun x=>rfl) (fun x y=>Pq x.1.word y.1.word)
  ⟨fun x=>Pl.irrefl x.1.word,fun x y z=>Pl.trans x.1.word y.1.word z.1.word,fun x y z=>Pl.ntrans x.1.word y.1.word z.1.word⟩ 115 #[] g 0 cap d w
  (enters_of Tryz.func115 (by kernel_rfl) rfl) (fun m os dk _ x y=> ?hcmp) hH a6 (by omega)
 case hcmp=>
  have hK:=Rh (enc:=fun x:{p:Part//Ab w p.1 p.2.1 p.2.2.1 p.2.2.2/\(0<p.2.1→∀ad,p.1=some ad->ad.block≠g)}=>x.1.val) w g m dk os;refine(Ab0 x.1.1 x.1.2.1 x.1.2.2.1 x.1.2.2.2 y.1.1 y.1.2.1 y.1.2.2.1 y.1.2.2.2 _ (x.2.1.keep hK x.2.2) (y.2.1.keep hK y.2.2)).mono ?_;rintro e w' ⟨h1,h2⟩;exact⟨h1,h2.eq⟩
 rw[a2]at a0;refine Calls.mono a0 ?_;rintro e w' ⟨rfl,d',n,os,a3,a4,rfl⟩;have a1:d'.size=ps.length:=a3.1.trans a2;refine⟨rfl,Rh _ _ _ _ _,d'.toList.map (·.1),putCells _ 0 d' cur, ?_, ?_,Aee hg,by unfold putCells;simp,fun j p hj=> ?_⟩
 ·have h3:=a3.2.2;rw[←a2]at h3;rw[Array.extract_eq_self_of_le (by omega),Array.extract_eq_self_of_le (by omega)]at h3;rw[←hd];exact h3.map _
 ·rw[List.map_map,List.pairwise_map,List.pairwise_iff_getElem];intro i j hi hj a8;have a7:i<d'.size:=by simpa using hi
  have a5:j<d'.size:=by simpa using hj
  have h4:=a4 i j (Nat.zero_le _) a8 (by omega);rw[getElem!_pos d' j a5,getElem!_pos d' i a7]at h4;have h5:ltOf Pq d'[j].1.word d'[i].1.word=false:=h4;rw[Jz]at h5;simpa using h5
 ·rw[List.getElem?_map,Array.getElem?_toList]at hj;obtain⟨x,hx,rfl⟩:=Option.map_eq_some_iff.1 hj;have a9:j<ps.length:=by rw[←a1];exact(Array.getElem?_eq_some_iff.1 hx).1
  have b1:j<cur.size:=(Array.getElem?_eq_some_iff.1 (hc j _ (List.getElem?_eq_getElem a9))).1;exact Ac5 hx b1
end Go.Proofs.YtlgliddhideflaaGreatDoor
namespace Go.Proofs.YtlgliddhideflaaGreatDoor
open Go.RowKit Go.Shelf
end Go.Proofs.YtlgliddhideflaaGreatDoor
namespace Go.Proofs.YtlgliddhideflaaGreatDoor
open Go.RowKit Go.Shelf
section
variable {ops:Array Oper}{rest:List Oper}{op:Oper}{ac:Act}{w:World}{Q:Exit->Act->World->Prop}
theorem Aak (hgd:op.guard=none)(p:Operand)(ho:op.op= .buildSlice 35 1 #[(0,p)])(x:Bu)(hp:ac.eval p=C3 x.l x.a)(hx:Df w x.l x.a)
  (h:∀W,Bw W (some ⟨w.heap.size,0,none⟩) 1 1 [x]->Below w.heap.size w W->W.heap.size=w.heap.size+1->(∀{B e sz v n xs},w.ownsRow B e sz v n xs->W.ownsRow B e sz v n xs)->wpList Tryz.prog ops Q rest (ac.put op.dst (.slice (some ⟨w.heap.size,0,none⟩) 1 1)) W):wpList Tryz.prog ops Q (op::rest) ac w:=
 U0 hgd p ho x hp (h _ (Sy w x 34 hx) bel (by simp) (fun h=>h.alloc _))
theorem Agb (hgd:op.guard=none)(p q:Operand)(ho:op.op= .buildSlice 35 2 #[(0,p),(1,q)])(x y:Bu)(hp:ac.eval p=C3 x.l x.a)(hq:ac.eval q=C3 y.l y.a)(hx:Df w x.l x.a)(hy:Df w y.l y.a)
  (h:∀W,Bw W (some ⟨w.heap.size,0,none⟩) 2 2 [x,y]->Below w.heap.size w W->W.heap.size=w.heap.size+1->wpList Tryz.prog ops Q rest (ac.put op.dst (.slice (some ⟨w.heap.size,0,none⟩) 2 2)) W):wpList Tryz.prog ops Q (op::rest) ac w:=
 Kh hgd p q ho x y hp hq (h _ (Jg w x y 34 hx hy) bel (by simp))
end
end Go.Proofs.YtlgliddhideflaaGreatDoor
