/-
  slices.Collect over a set of places.
  Laws: how they are thought of, and how they lie in memory; law.fits.
  The contract of strings.Trim at this program: a table of numbers, and facts of the program (written by the kit's lay-plain).
  law.named.
-/
import Derived.Shelf.Strings.SlTrimAscii
import Derived.Test.YtaglfmlgbcmakaaGreatDoorG07
set_option linter.all false
set_option maxRecDepth 100000
set_option maxHeartbeats 4000000
namespace Go.Proofs.YtaglfmlgbcmakaaGreatDoor
open Go.RowKit Go.Shelf
attribute [local go_sem] Oper.semAt_some
def Hc (s:Nat):List Nat:=(List.range 33).filter s.testBit
theorem N3 (p q:Nat->Bool)(j:Nat)(hp:∀i,p i=(decide (i=j)||q i))(hq:∀i,i<=j->q i=false):∀n,j<n->(List.range n).filter p=j::(List.range n).filter q
 |0,h=>absurd h (Nat.not_lt_zero _)
 |k+1,h=>by
  rw[List.range_succ,List.filter_append,List.filter_append];by_cases e:j=k
  ·subst e
   have h1:(List.range j).filter p=[]:=by
    apply List.filter_eq_nil_iff.2;intro i hi;have hi:=List.mem_range.1 hi;rw[hp,hq i (by omega)];simp;omega
   have h2:(List.range j).filter q=[]:=by
    apply List.filter_eq_nil_iff.2;intro i hi;have hi:=List.mem_range.1 hi;rw[hq i (by omega)];simp
   have h3:[j].filter p=[j]:=by simp[hp]
   have h4:[j].filter q=[]:=by simp[hq j rr]
   rw[h1,h2,h3,h4];rfl
  ·rw[N3 p q j hp hq k (by omega)]
   have h3:[k].filter p=[k].filter q:=by
    have:p k=q k:=by rw[hp];simp;omega
    simp only[List.filter_cons,List.filter_nil,this]
   rw[h3];rfl
theorem Aft (s:Nat)(h0:s≠0)(hs:Cu s):ctz s<33/\(∀i,s.testBit i=(decide (i=ctz s)||(clr s).testBit i))∧∀i,i<=ctz s->(clr s).testBit i=false:=by
 obtain⟨m,hm,hk⟩:=Pt s h0 hs;generalize hj:ctz s=j at*
 have a0:clr s=2^(j+1)*m:=by
  unfold clr;rw[hj];conv=>lhs;rw[hm]
  rw[Nat.pow_succ,Nat.mul_add,Nat.mul_one,Nat.add_sub_cancel,Nat.mul_assoc]
 refine⟨hk,fun i=> ?_,fun i hi=> ?_⟩
 ·rw[a0,Nat.testBit_two_pow_mul]
  conv=>lhs;rw[hm,Nat.testBit_two_pow_mul]
  by_cases h1:i<j
  ·have:¬j<=i:=by omega
   have h2:¬j+1<=i:=by omega
   have h3:¬i=j:=by omega
   simp[this,h2,h3]
  ·by_cases h2:i=j
   ·subst h2;simp
   ·have e:i-j=(i-(j+1))+1:=by omega
    have h3:j<=i:=by omega
    have h4:j+1<=i:=by omega
    rw[e,Nat.testBit_succ,show(2*m+1)/2=m by omega];simp[h2,h3,h4]
 ·rw[a0,Nat.testBit_two_pow_mul]
  have:¬j+1<=i:=by omega
  simp[this]
theorem Aaz (s:Nat)(h0:s≠0)(hs:Cu s):Hc s=ctz s::Hc (clr s):=by
 obtain⟨h1,h2,h3⟩:=Aft s h0 hs;exact N3 _ _ _ h2 h3 33 h1
theorem Aa0:Hc 0=[]:=by unfold Hc;apply List.filter_eq_nil_iff.2;intro i _;simp
theorem Adl (s:Nat):(Hc s).length<=33:=by have:=List.length_filter_le s.testBit (List.range 33);simpa[Hc]using this
theorem X8 (s bs:Nat)(w:World)(hs:Cu s)(hb:w.heap[bs]? =some (.cells #[.int .u64 (s:Int)] 264 (0,0)))(hT:Cw w)(hbT:3≠bs):
  Calls Tryz.prog 242 #[.slice none 0 0, .func (.func 243) #[] #[.pointer (some ⟨bs,0,none⟩)]] w fun e w'=>
   ∃A c,e= .returned (.slice A (Hc s).length c)/\Az w' A (Hc s).length c 1 (Ly (Hc s))/\Ba (fun j=>j=bs) w w':=by
 have b8:=lt_of_block hb;have HB:=hI hb;clear hb;have HT:=hI hT;clear hT;refine(callsIn_wide (n:=9)).1 (callsIn_of_wp_marks Tryz.func242 rfl trivial ?_ rfl);simp only[Tryz.ntmps242,List.size_toArray,List.length_cons,List.length_nil,Nat.reduceAdd,Nat.reduceSub,Array.replicate_succ,Array.replicate_zero,List.push_toArray,List.append_toArray,List.nil_append,List.cons_append];gi_wp2;have d4:(w.alloc (.cells #[.slice none 0 0] 36)).heap[w.heap.size]? =some (.cells #[.slice none 0 0] 36 (0,0)):=Am rfl;have d2:(w.alloc (.cells #[.slice none 0 0] 36)).heap[bs]? =some (.cells #[.int .u64 (s:Int)] 264 (0,0)):=(Bc b8).trans HB.out;have a6:(w.alloc (.cells #[.slice none 0 0] 36)).heap.size=w.heap.size+1:=by simp
 have b4:Ba (fun _=>False) w (w.alloc (.cells #[.slice none 0 0] 36)):=(Ba.refl _ _).alloc _;generalize(w.alloc (.cells #[.slice none 0 0] 36))=W0 at*;refine Fl (gf:=243) (lb:= #[.pointer (some ⟨bs,0,none⟩)]) rfl (enters_of Tryz.func243 (by kernel_rfl) rfl) fun fn D l rc W1 hrc hD hl hK1 hD1 hl1 b1=> ?_
 have g1:w.heap.size<D:=by omega
 have g2:D<l:=by omega
 have g0:l<W1.heap.size:=by omega
 have f0:=hI hrc;clear hrc;have f7:Ba (fun _=>False) w W1:=b4.trans hK1;have f1:W1.heap[w.heap.size]? =some (.cells #[.slice none 0 0] 36 (0,0)):=(hK1.block _ (by omega) (by simp)).trans d4;have f6:W1.heap[bs]? =some (.cells #[.int .u64 (s:Int)] 264 (0,0)):=(hK1.block _ (by omega) (by simp)).trans d2;have HE:=hI (And.intro hD (And.intro hl (And.intro b1 a6)));clear hD hl b1 a6
 obtain⟨J,hJ⟩:∃J:Nat->World->Prop,J=fun s' W=>∃(L:List Nat) (A:Option Addr) (c:Nat),L++Hc s'=Hc s/\W.heap[w.heap.size]? =some (.cells #[.slice A L.length c] 36 (0,0))∧
   W.ownsRow W1.heap.size 3 1 (.slice A L.length c) L.length (Ly L)/\Ba (fun j=>j=w.heap.size\/j=bs\/j=l) W1 W/\W.heap[l]? =some (.loop (rc .ready none)):=⟨_,rfl⟩
 have HJ:=hI hJ;clear hJ;have f9:=HT.out.1;refine(Vz (9-1) l bs s (by omega) J (fun _ _=>False) W1 ?st ?dr ?tab ?yield ?zero f6 hs).mono ?_
 case st=>
  intro s' v W hx;rw[HJ.out]at hx ⊢;obtain⟨L,A,c,h1,h2,h3,h4,h5⟩:=hx;refine⟨L,A,c,h1,(Below.heap_setCell _ _ _ _ (by simp;omega)).trans h2, ?_,h4.setCell (by simp) _,(Below.heap_setCell _ _ _ _ (by simp;omega)).trans h5⟩;exact ownsRow_setCell_other h3 (fun e=>by have:=(h3.lt _ e).1;simp at this;omega) _
 case dr=>
  intro s' W hx;rw[HJ.out]at hx ⊢;obtain⟨L,A,c,h1,h2,h3,h4,h5⟩:=hx;exact⟨L,A,c,h1,h2,h3,h4.drew,h5⟩
 case tab=>
  intro s' W hx;rw[HJ.out]at hx;obtain⟨L,A,c,h1,h2,h3,h4,h5⟩:=hx;exact((HT.out.keep b4 (by simp)).keep hK1 (by simp)).keep h4 (by omega)
 case zero=>
  rw[HJ.out];exact⟨[],none,0,rfl,f1,World.ownsRow_nil _ _ _ _,Ba.refl _ _,hl1⟩
 case yield=>
  intro s' W d1 f3 hx;rw[HJ.out]at hx;obtain⟨L,A,c,h1,h2,h3,h4,h5⟩:=hx;refine Fm f0.out h5 rfl ?_;have H5:=hI h5;clear h5;have H1:=hI h1;clear h1;have H2:=hI h2;clear h2;have H3:=hI h3;clear h3;have H4:=hI h4;clear h4;gi_wp2;refine⟨H5.out, ?_⟩;have d0:l<W.heap.size:=(Array.getElem?_eq_some_iff.1 H5.out).1;have a7:(W.putObj l (.loop (rc .busy none))).heap[l]? =some (.loop (rc .busy none)):=World.putObj_heap_same d0;have a5:Ba (fun j=>j=w.heap.size\/j=bs\/j=l) W1 (W.putObj l (.loop (rc .busy none))):=H4.out.putObj (by simp) _;have a2:(W.putObj l (.loop (rc .busy none))).heap[w.heap.size]? =some (.cells #[.slice A L.length c] 36 (0,0)):=(World.putObj_heap_other (by omega)).trans H2.out;have a9:(W.putObj l (.loop (rc .busy none))).ownsRow W1.heap.size 3 1 (.slice A L.length c) L.length (Ly L):=ownsRow_putObj H3.out _ H5.out rfl;have b6:(W.putObj l (.loop (rc .busy none))).heap[bs]? =W.heap[bs]? :=World.putObj_heap_other (by omega);generalize W.putObj l (.loop (rc .busy none))=V at*;have d8:L.length<=33:=by have:=congrArg List.length H1.out;rw[List.length_append]at this;have:=Adl s;omega
  have f5:w.heap.size<V.heap.size:=lt_of_block a2;have f8:=a5.size;have c2:=cell_of_one a2;have f2:=free_of_one a2;have d6:=hI a5;clear a5;have d3:=hI a2;clear a2;have b2:=hI a9;clear a9;have b9:=hI a7;clear a7;have d9:=hI b6;clear b6
  gi_wp2_with (gi_at_builtin;refine Jy rfl (.tmp 8) (.tmp 10) 36 rfl W1.heap.size 3 (.int .i64 0) 1 8 Tryz.underlying36 Hv rfl (by decide) (.slice A L.length c) L.length (Ly L) rfl (b2.out.alloc _) ⟨V.heap.size,0,none⟩ 1 1 [.int .i64 (ctz s')] rfl rfl (cell_one_new _ _ _) (by simp[Value.oneCell']) (by unfold maxLen;omega) (by omega) (by simp;omega) ?hk)
  case hk=>
   intro v' w4 a0 a1 _;obtain⟨g4,cap4,rfl⟩:=ownsRow_succ a0;have a3:∀k,some k=(Value.slice A L.length c).ownBlock->W1.heap.size<=k:=fun k hk=>(b2.out.lt k hk.symm).1
   have d7:=a1.size;simp only[World.size_alloc]at d7;have p2:w4.heap[w.heap.size]? =some (.cells #[.slice A L.length c] 36 (0,0)):=(a1.block _ (by simp;omega) (fun e=>by have:=a3 _ e;omega)).trans ((Bc f5).trans d3.out);have pl:w4.heap[l]? =some (.loop (rc .busy none)):=(a1.block _ (by simp;omega) (fun e=>by have:=a3 _ e;omega)).trans ((Bc (by omega)).trans b9.out);have pb:w4.heap[bs]? =W.heap[bs]? :=(a1.block _ (by simp;omega) (fun e=>by have:=a3 _ e;omega)).trans ((Bc (by omega)).trans d9.out);have pK:Ba (fun j=>j=w.heap.size\/j=bs\/j=l) W1 w4:=(d6.out.alloc _).grown a1 (fun k hk=> .inr (a3 k hk.symm));have b7:=(a0.lt g4 rfl).1;have c4:=cell_of_one p2;have f4:=free_of_one p2;have P2:=hI p2;clear p2;have PL:=hI pl;clear pl;have PB:=hI pb;clear pb;have PK:=hI pK;clear pK;have a4:=hI a0;clear a0 a1 a3 c2 f2;gi_wp2;have s2:=one_setCell (u:= .slice (some ⟨g4,0,none⟩) (L.length+1) cap4) P2.out;have s3:=ownsRow_setCell_other a4.out (a:=⟨w.heap.size,0,none⟩) (by simp[Value.ownBlock];omega) (.slice (some ⟨g4,0,none⟩) (L.length+1) cap4);have sl:=(Below.heap_setCell w4 ⟨w.heap.size,0,none⟩ (.slice (some ⟨g4,0,none⟩) (L.length+1) cap4) l (by simp;omega)).trans PL.out;have sb:=(Below.heap_setCell w4 ⟨w.heap.size,0,none⟩ (.slice (some ⟨g4,0,none⟩) (L.length+1) cap4) bs (by simp;omega)).trans PB.out;have sK:=PK.out.setCell (p:=⟨w.heap.size,0,none⟩) (by simp) (.slice (some ⟨g4,0,none⟩) (L.length+1) cap4);refine⟨sl,rfl, ?_, ?_⟩
   ·rw[HJ.out];refine⟨L++[ctz s'],some ⟨g4,0,none⟩,cap4, ?_, ?_, ?_,sK.putObj (by simp) _,World.putObj_heap_same (lt_of_block sl)⟩
    ·rw[←H1.out,Aaz s' d1 f3,List.append_assoc];rfl
    ·rw[World.putObj_heap_other (by omega),List.length_append];exact s2
    ·rw[List.length_append];have h:=ownsRow_putObj s3 (.loop (rc .ready none)) sl rfl;simp only[Ly,List.map_append]at h ⊢;exact h
   ·rw[World.putObj_heap_other (by omega)];exact sb
 ·rintro e W' ⟨⟨v,rfl⟩,hx|⟨s',hf⟩⟩
  ·rw[HJ.out]at hx;obtain⟨L,A,c,h1,h2,h3,h4,h5⟩:=hx;rw[Aa0,List.append_nil]at h1;subst h1;refine .inl ⟨h5, ?_⟩;have a8:Ba (fun j=>j=w.heap.size\/j=bs\/j=l) W1 (W'.putObj l (.loop (rc .exhausted none))):=h4.putObj (by simp) _;have b0:(W'.putObj l (.loop (rc .exhausted none))).heap[w.heap.size]? =some (.cells #[.slice A (Hc s).length c] 36 (0,0)):=(World.putObj_heap_other (by omega)).trans h2;have b3:=ownsRow_putObj h3 (.loop (rc .exhausted none)) h5 rfl;generalize W'.putObj l (.loop (rc .exhausted none))=X at*;have c2:=cell_of_one b0;have b5:=hI a8;clear a8;have d5:=hI b3;clear b3 h2 h3 h4 h5 b0;gi_wp2;have hM:D4 w.heap.size X [Le D]:=⟨D,rfl,by omega,(b5.out.block D (by omega) (by omega)).trans hD1,by simp,trivial⟩;refine Mi (B:=w.heap.size) Tryz.results242 (.slice A (Hc s).length c) rfl hM fun w' hw'=>⟨A,c,rfl, ?_, ?_⟩
   ·exact Az.of_own (Pl d5.out hw') (by decide)
   ·exact(Ad5 ((f7.mono (fun k hk=>hk.elim)).trans b5.out) hw' rr).old (fun k hk hs=>by omega)
  ·exact hf.elim
theorem Adm (s bs:Nat)(w:World)(hs:Cu s)(hb:w.heap[bs]? =some (.cells #[.int .u64 (s:Int)] 264 (0,0)))(hT:Cw w)(hbT:3≠bs):
  Calls Tryz.prog 238 #[.func (.func 243) #[] #[.pointer (some ⟨bs,0,none⟩)]] w fun e w'=>
   ∃A c,e= .returned (.slice A (Hc s).length c)/\Az w' A (Hc s).length c 1 (Ly (Hc s))/\Ba (fun j=>j=bs) w w':=by
 have h:=X8 s bs w hs hb hT hbT;clear hb hT;go_enter Tryz.func238,Tryz.ntmps238;go_wp2_with fail;refine h.mono ?_;rintro e w1 ⟨A,c,rfl,hC,hK⟩;have HC:=hI hC;clear hC;go_wp2;go_ret;exact⟨A,c,rfl,HC.out,hK⟩
def Hd (x:Nd×Fo)(ws:List Snd)(at_:Int):List Nat:=
 if atE x ws at_=0 then Hc ((F5 x ws).getD at_.toNat 0)else []
theorem Als (k:Nd)(ch:Fo)(A0:Option Addr)(c0:Nat)(A:Option Addr)(n c:Nat)(ws:List Snd)(at_:Int)(w:World)(hf:FSl w A0 ch.len c0 ch)(hw:Ak w A n c ws)(hT:Cw w):
  Calls Tryz.prog 227 #[Fc k A0 ch.len c0, .slice A n c, .int .i64 at_] w (Sd w (Hd (k,ch) ws at_) (atE (k,ch) ws at_)):=by
 have b8:=hw.max;have HF:=hI hf;clear hf;have HW:=hI hw;clear hw;have d8:=hT.1;have HT:=hI hT;clear hT;go_enter Tryz.func227,Tryz.ntmps227;go_wp2_with fail;refine(Z2 k ch A0 c0 A n c ws _ (HF.out.below (B:=w.heap.size) bel rr) (HW.out.below (B:=w.heap.size) bel rr) (HT.out.below (B:=w.heap.size) bel rr)).mono ?_;rintro e w1 ⟨rfl,b5⟩;have d1:=b5.size;simp only[World.size_alloc]at d1;have a8:Below w.heap.size w w1:=bel;clear b5;have a5:=hI (Sm (k,ch) ws).1;have b7:=hI (Sm (k,ch) ws).2;by_cases hE:F4 (k,ch) ws=0
 ·have b0:n<=32:=by have:=(Dl hE).2.1;rw[HW.out.len]at this;exact this
  have b9:(F4 (k,ch) ws==0)=true:=by rw[hE];rfl
  have d6:(F4 (k,ch) ws !=0)=false:=by rw[hE];rfl
  have HE:=hI hE;clear hE;go_wp2_with(refine B2 rfl (.tmp 8) (.tmp 14) rfl w1.heap.size B1 (F5 (k,ch) ws) rfl rfl ?hr a5.out ?hc)
  case hr=>exact⟨hpt,rfl⟩
  case hc=>
   intro w2 a9 a3 a7;have a6:Below w.heap.size w w2:=Bo (a8.alloc a8.size _) a3 (by omega) sd;have b3:=Nat.le_of_eq a7.symm;clear a7 a3;go_wp2_with fail;refine(Z1 A n c at_ _ b0).mono ?_;rintro e w3 ⟨rfl,rfl⟩;have b1:=hI a9;clear a9;have b6:w1.heap.size<w2.heap.size:=b1.out.lt;by_cases hx:Cp n at_=0
   ·have a4:atE (k,ch) ws at_=0:=by unfold atE;rw[if_pos HE.out,HW.out.len,hx]
    have d0:(Cp n at_ !=0)=false:=by rw[hx];rfl
    have h0:0<=at_/\at_<=n:=by unfold Cp at hx;split at hx<;>simp at*;omega
    obtain⟨m,rfl⟩:∃m:Nat,at_=m:=⟨at_.toNat,by omega⟩;have d5:m<=32:=by omega
    have b4:=hI a4;clear a4 hx h0;obtain⟨s,hs⟩:∃s,(F5 (k,ch) ws)[m]? =some s:=⟨(F5 (k,ch) ws)[m]'(by have:=b1.out.2;omega),List.getElem?_eq_getElem _⟩;have a2:Hd (k,ch) ws m=Hc s:=by unfold Hd;rw[if_pos b4.out,List.getD_eq_getElem?_getD];simp[hs]
    have a1:=hI a2;clear a2;have hc:=b1.out.get hs;have d3:=hI (b7.out s (List.mem_of_getElem? hs));clear hs;have b2:=hI a6;clear a6;have d2:=b2.out.size;have d9:(m:Int)<33:=by omega
    go_wp2_with fail;refine(Alo _ _).mono ?_;rintro e w3 ⟨rfl,rfl⟩;have d4:=hI (HT.out.below (B:=w.heap.size) (b2.out.alloc (by omega) (.cells #[.int .u64 (s:Int)] 264)) rr);go_wp2_with fail;refine(Adm s w2.heap.size _ d3.out (Am rfl) d4.out (by omega)).mono ?_;rintro e w3 ⟨A1,c1,rfl,hC,hK⟩;have HC:=hI hC;have d7:=hI hK;clear hC hK;go_wp2
    go_ret2
    refine⟨A1,c1,by rw[a1.out,b4.out];rfl,by rw[a1.out];exact HC.out,(b2.out.alloc (by omega) _).trans (d7.out.to_below (fun k hk=>by subst hk;omega) (by simp;omega))⟩
   ·have a4:atE (k,ch) ws at_≠0:=by unfold atE;rw[if_pos HE.out,HW.out.len];exact hx
    have a0:atE (k,ch) ws at_=Cp n at_:=by unfold atE;rw[if_pos HE.out,HW.out.len]
    have a2:Hd (k,ch) ws at_=[]:=by unfold Hd;rw[if_neg a4]
    have d0:(Cp n at_ !=0)=true:=by simpa using hx
    have HX:=hI a0;have a1:=hI a2;clear a4 a0 a2 hx;go_wp2
    go_ret2
    exact⟨none,0,by rw[HX.out,a1.out];rfl,by rw[a1.out];exact Az.nil _ _,a6⟩
 ·have a0:atE (k,ch) ws at_=F4 (k,ch) ws:=by unfold atE;rw[if_neg hE]
  have a2:Hd (k,ch) ws at_=[]:=by unfold Hd;rw[a0,if_neg hE]
  have b9:(F4 (k,ch) ws==0)=false:=by simpa using hE
  have d6:(F4 (k,ch) ws !=0)=true:=by simpa using hE
  have HX:=hI a0;have a1:=hI a2;clear a0 a2 hE;go_wp2_with(refine B2 rfl (.tmp 8) (.tmp 14) rfl w1.heap.size B1 (F5 (k,ch) ws) rfl rfl ?hr a5.out ?hc)
  case hr=>exact⟨hpt,rfl⟩
  case hc=>
   intro w2 a9 a3 a7;have a6:Below w.heap.size w w2:=Bo (a8.alloc a8.size _) a3 (by omega) sd;have b3:=Nat.le_of_eq a7.symm;clear a7 a3;go_wp2
   go_ret2
   exact⟨none,0,by rw[HX.out,a1.out];rfl,by rw[a1.out];exact Az.nil _ _,a6⟩
end Go.Proofs.YtaglfmlgbcmakaaGreatDoor
namespace Go.Proofs.YtaglfmlgbcmakaaGreatDoor
open Go.RowKit Go.Shelf
theorem D5 {α:Type}{l:List α}{k:Nat}{x d:α}(h:l[k]? =some x):l.getD k d=x:=by rw[List.getD_eq_getElem?_getD,h];rfl
structure Fj where
 frm:Int
 clear:Int
 sp:Int
 sm:Int
 take:Int
 of_:Int
def Fj.cells (x:Fj):List Value:=[.int .i64 x.frm, .int .u32 x.clear, .int .u32 x.sp, .int .u32 x.sm, .int .u32 x.take, .int .i64 x.of_]
theorem Fj.len (x:Fj):x.cells.length=6:=rfl
abbrev Agq (x:Fj):Value:= .agg #[.int .i64 x.frm, .int .u32 x.clear, .int .u32 x.sp, .int .u32 x.sm, .int .u32 x.take, .int .i64 x.of_]
structure Bi where
 name:ByteArray
 left:Nd×Fo
 right:Nd×Fo
 ifs:List Snd
 outs:List Fj
 mode:Int
structure Dq where
 Al:Option Addr
 cl:Nat
 Ar:Option Addr
 cr:Nat
 Ai:Option Addr
 ci:Nat
 Ao:Option Addr
 co:Nat
def Bw (l:Bi)(a:Dq):Array Value:= #[.string l.name, .int .i64 l.left.1.kind, .int .u32 l.left.1.isp, .int .u32 l.left.1.ism, .bool l.left.1.neg, .int .i64 l.left.1.lo, .int .i64 l.left.1.hi, .slice a.Al l.left.2.len a.cl, .int .i64 l.right.1.kind, .int .u32 l.right.1.isp, .int .u32 l.right.1.ism, .bool l.right.1.neg, .int .i64 l.right.1.lo, .int .i64 l.right.1.hi, .slice a.Ar l.right.2.len a.cr, .slice a.Ai l.ifs.length a.ci, .slice a.Ao l.outs.length a.co, .int .i64 l.mode]
abbrev Eg (l:Bi)(a:Dq):Value:= .agg (Bw l a)
theorem Nm (l:Bi)(a:Dq):(Bw l a).size=18:=rfl
def Df (w:World)(l:Bi)(a:Dq):Prop:=
 FSl w a.Al l.left.2.len a.cl l.left.2/\FSl w a.Ar l.right.2.len a.cr l.right.2/\Ak w a.Ai l.ifs.length a.ci l.ifs/\Eb Fj.cells 6 w a.Ao l.outs.length a.co l.outs/\l.name.size<=9223372036854775807
theorem Df.below {w w':World}{l:Bi}{a:Dq}(h:Df w l a){B:Nat}(hb:Below B w w')(hB:w.heap.size<=B):Df w' l a:=
 ⟨h.1.below hb hB,h.2.1.below hb hB,h.2.2.1.below hb hB,h.2.2.2.1.below hb hB,h.2.2.2.2⟩
theorem Kt {w:World}{b:Nat}{l:Bi}{a:Dq}{t:TypeId}{fr:Nat×Nat}(h:w.heap[b]? =some (.cells (Bw l a) t fr)):
  w.cell? ⟨b,0,none⟩=some (.string l.name)/\w.cell? ⟨b,1,none⟩=some (.int .i64 l.left.1.kind)/\w.cell? ⟨b,2,none⟩=some (.int .u32 l.left.1.isp)/\w.cell? ⟨b,3,none⟩=some (.int .u32 l.left.1.ism)/\w.cell? ⟨b,4,none⟩=some (.bool l.left.1.neg)/\w.cell? ⟨b,5,none⟩=some (.int .i64 l.left.1.lo)/\w.cell? ⟨b,6,none⟩=some (.int .i64 l.left.1.hi)/\w.cell? ⟨b,7,none⟩=some (.slice a.Al l.left.2.len a.cl)/\w.cell? ⟨b,8,none⟩=some (.int .i64 l.right.1.kind)/\w.cell? ⟨b,9,none⟩=some (.int .u32 l.right.1.isp)/\w.cell? ⟨b,10,none⟩=some (.int .u32 l.right.1.ism)/\w.cell? ⟨b,11,none⟩=some (.bool l.right.1.neg)/\w.cell? ⟨b,12,none⟩=some (.int .i64 l.right.1.lo)/\w.cell? ⟨b,13,none⟩=some (.int .i64 l.right.1.hi)/\w.cell? ⟨b,14,none⟩=some (.slice a.Ar l.right.2.len a.cr)/\w.cell? ⟨b,15,none⟩=some (.slice a.Ai l.ifs.length a.ci)/\w.cell? ⟨b,16,none⟩=some (.slice a.Ao l.outs.length a.co)/\w.cell? ⟨b,17,none⟩=some (.int .i64 l.mode):=
 ⟨Ad h rfl,Ad h rfl,Ad h rfl,Ad h rfl,Ad h rfl,Ad h rfl,Ad h rfl,Ad h rfl,Ad h rfl,Ad h rfl,Ad h rfl,Ad h rfl,Ad h rfl,Ad h rfl,Ad h rfl,Ad h rfl,Ad h rfl,Ad h rfl⟩
theorem L9 (l:Bi)(a:Dq):(Tryz.prog.info? 55).map (·.size)=some (Bw l a).size:=by rw[Nm];kernel_rfl
theorem Lg {w:World}{b:Nat}{l:Bi}{a:Dq}{t:TypeId}{fr:Nat×Nat}(h:w.heap[b]? =some (.cells (Bw l a) t fr)):(loadVar 55 ⟨b,0,none⟩).run Tryz.prog w= .ok (Eg l a) w:=
 run_loadVar_row w b t 55 (Bw l a) fr _ h Tryz.underlying55 rfl (L9 l a)
theorem Eo {ops:Array Oper}{rest:List Oper}{o:Oper}{ac:Act}{w:World}{Q:Exit->Act->World->Prop}(hgd:o.guard=none)(x:Operand)(ho:o.op= .load 55 x)
  (b:Nat) (l:Bi) (a:Dq) (hx:ac.eval x= .pointer (some ⟨b,0,none⟩)) {t:TypeId} {fr:Nat×Nat} (hr:w.heap[b]? =some (.cells (Bw l a) t fr)) (h:wpList Tryz.prog ops Q rest (ac.put o.dst (Eg l a)) w):wpList Tryz.prog ops Q (o::rest) ac w:=
 wpList_load_row hgd 55 x ho b hx t (Bw l a) fr _ hr Tryz.underlying55 rfl (L9 l a) h
theorem Ew {F:Fence}{n:Nat}{ops:Array Oper}{rest:List Oper}{o:Oper}{ac:Act}{w:World}{Q:Exit->Act->World->Prop}(hgd:o.guard=none)(x:Operand)(ho:o.op= .load 55 x)
  (b:Nat) (l:Bi) (a:Dq) (hx:ac.eval x= .pointer (some ⟨b,0,none⟩)) {t:TypeId} {fr:Nat×Nat} (hr:w.heap[b]? =some (.cells (Bw l a) t fr)) (h:wpListIn F n Tryz.prog ops Q rest (ac.put o.dst (Eg l a)) w):wpListIn F n Tryz.prog ops Q (o::rest) ac w:=by
 refine wpListIn_plain hgd fun K hK=> ?_
 unfold Oper.wpIn;refine⟨by simp[Oper.about,ho], ?_⟩;rw[Oper.semAt_plain F _ _ (by rw[ho];intro c a0;cases a0)];unfold execOp;simp only[ho,hx,Instr.loadAt,Instr.sureAddr,Sem.run_bind,Sem.run_pure,Result.andThen_ok,Lg hr];exact hK _ _ h
theorem Lh {ops:Array Oper}{S:World->Prop}{op:Oper}{ac:Act}(hw:Region.wanted op (yielded ops ac.tmps)=true)(x:Operand)(ho:op.op= .load 55 x)
  (b:Nat) (l:Bi) (a:Dq) (hx:ac.eval x= .pointer (some ⟨b,0,none⟩)) (hS:∀w,S w->w.heap[b]? =some (.cells (Bw l a) 55 (0,0))):YieldsIf Tryz.prog ops S op (Eg l a) ac:=
 .inl ⟨hw,fun w hw'=>by
  unfold execOp;simp only[ho,hx,Instr.loadAt,Instr.sureAddr,Sem.run_bind,Sem.run_pure,Result.andThen_ok,Lg (hS w hw')]⟩
def Cx (k:Nd)(A:Option Addr)(n c:Nat):List Value:=[.int .i64 k.kind, .int .u32 k.isp, .int .u32 k.ism, .bool k.neg, .int .i64 k.lo, .int .i64 k.hi, .slice A n c]
theorem Ws {w:World}{b o:Nat}{k:Nd}{A:Option Addr}{n c:Nat}(hr:w.rangeAt b o (Cx k A n c)):(loadVar 52 ⟨b,o,none⟩).run Tryz.prog w= .ok (Fc k A n c) w:=
 run_loadVar_mid w b o 52 (Cx k A n c) _ hr Tryz.underlying52 rfl N2
theorem Pb {ops:Array Oper}{rest:List Oper}{op:Oper}{ac:Act}{w:World}{Q:Exit->Act->World->Prop}(hgd:op.guard=none)(x:Operand)(ho:op.op= .load 52 x)
  (b o:Nat) (k:Nd) (A:Option Addr) (n c:Nat) (hx:ac.eval x= .pointer (some ⟨b,o,none⟩)) (hr:w.rangeAt b o (Cx k A n c)) (h:wpList Tryz.prog ops Q rest (ac.put op.dst (Fc k A n c)) w):wpList Tryz.prog ops Q (op::rest) ac w:=
 wpList_load_mid hgd 52 x ho b o hx (Cx k A n c) _ hr Tryz.underlying52 rfl N2 h
theorem Wt (l:Bi)(a:Dq):(Bw l a).all (·.oneCell')=true:=by simp[Bw,Value.oneCell']
theorem Bu {w:World}{b:Nat}{l:Bi}{a:Dq}{t:TypeId}{fr:Nat×Nat}(h:w.heap[b]? =some (.cells (Bw l a) t fr)):
  w.cell? ⟨b,0,none⟩=some (.string l.name)/\w.cell? ⟨b,15,none⟩=some (.slice a.Ai l.ifs.length a.ci)/\w.cell? ⟨b,16,none⟩=some (.slice a.Ao l.outs.length a.co)/\w.cell? ⟨b,17,none⟩=some (.int .i64 l.mode):=by
 obtain⟨d0,d1,d2,d3,d4,d5,d6,d7,d8,d9,d10,d11,d12,d13,d14,d15,d16,d17⟩:=Kt h;exact⟨d0,d15,d16,d17⟩
theorem Sz {w:World}{b:Nat}{l:Bi}{a:Dq}{t:TypeId}{fr:Nat×Nat}(h:w.heap[b]? =some (.cells (Bw l a) t fr)):w.rangeAt b 1 (Cx l.left.1 a.Al l.left.2.len a.cl):=
 World.rangeAt_of_block h 1 7
theorem Vd {w:World}{b:Nat}{l:Bi}{a:Dq}{t:TypeId}{fr:Nat×Nat}(h:w.heap[b]? =some (.cells (Bw l a) t fr)):w.rangeAt b 8 (Cx l.right.1 a.Ar l.right.2.len a.cr):=
 World.rangeAt_of_block h 8 7
theorem D6 (w:World)(l:Bi)(a:Dq):∃W,w.alloc (.cells (Bw l a) 55)=W/\W.heap[w.heap.size]? =some (.cells (Bw l a) 55 (0,0))/\w.heap.size<W.heap.size/\Below w.heap.size w W/\W.heap.size<=w.heap.size+1:=
 ⟨_,rfl,heap_alloc_new w _,by simp,(Below.refl _ _).alloc rr _,by simp⟩
def Ei (x:Fj)(k:Int):Bool:=
 if decide (x.frm< -1)||decide (k<=x.frm)|| !Bx x.sp x.sm then false
 else if bits .andNot .u32 (bits .or .u32 x.clear x.take) 16777215 !=0||bits .and .u32 x.clear (bits .or .u32 x.sp x.sm) !=0||bits .and .u32 x.take (bits .or .u32 (bits .or .u32 x.sp x.sm) x.clear) !=0 then false
 else if x.take==0 then x.of_==0
 else decide (0<=x.of_) && decide (x.of_<k)
theorem Aly (x:Fj)(k:Int)(w:World):
  Calls Tryz.prog 150 #[Agq x, .int .i64 k] w fun e w'=>e= .returned (.bool (Ei x k))/\Below w.heap.size w w':=by
 go_enter Tryz.func150,Tryz.ntmps150;go_wp2_with(go_at_call 152;refine(Ec _ _ _).mono ?_;rintro e w1 ⟨rfl,a0⟩;have a1:=Db a0;(try simp only[World.size_alloc,World.size_drew,World.size_setCell]at a1);have c0:=fun o=>a0.cell (p:=⟨w.heap.size,o,none⟩) sd;have f0:=fun o=>a0.frozen (p:=⟨w.heap.size,o,none⟩) sd;have a2:Below w.heap.size w w1:=bel;clear a0)
 all_goals(go_ret;refine⟨?_,by first|exact a2|exact bel⟩;simp[Ei, *];try(first|omega|(intro hv;rename_i h;simp[hv]at h;omega)))
end Go.Proofs.YtaglfmlgbcmakaaGreatDoor
namespace Go.Proofs
open Go.Shelf
def Tryz.lays160_ren:Go.Shelf.Ren:=⟨fun|160=>52|232=>92|231=>91|227=>93|234=>95|233=>94|236=>97|235=>96|228=>126|271=>129|151=>128|197=>127|120=>165|152=>164|260=>163|137=>180|119=>181|224=>182|225=>183|217=>195|266=>202|n=>n,fun|9=>9|4=>4|3=>3|5=>5|117=>149|116=>148|0=>0|124=>152|21=>21|105=>180|46=>156|119=>226|139=>229|138=>228|n=>n,fun|3=>0|4=>1|n=>n⟩
theorem Tryz.lays160:Go.Proofs.Lays.n160 Tryz.prog Tryz.lays160_ren:={
 mixed:=by kernel_rfl
 f119:=Tryz.func181.trans (congrArg some (by kernel_rfl))
 f120:=Tryz.func165.trans (congrArg some (by kernel_rfl))
 f137:=Tryz.func180.trans (congrArg some (by kernel_rfl))
 f151:=Tryz.func128.trans (congrArg some (by kernel_rfl))
 f152:=Tryz.func164.trans (congrArg some (by kernel_rfl))
 f160:=Tryz.func52.trans (congrArg some (by kernel_rfl))
 f197:=Tryz.func127.trans (congrArg some (by kernel_rfl))
 f217:=Tryz.func195.trans (congrArg some (by kernel_rfl))
 f224:=Tryz.func182.trans (congrArg some (by kernel_rfl))
 f225:=Tryz.func183.trans (congrArg some (by kernel_rfl))
 f227:=Tryz.func93.trans (congrArg some (by kernel_rfl))
 f228:=Tryz.func126.trans (congrArg some (by kernel_rfl))
 f231:=Tryz.func91.trans (congrArg some (by kernel_rfl))
 f232:=Tryz.func92.trans (congrArg some (by kernel_rfl))
 f233:=Tryz.func94.trans (congrArg some (by kernel_rfl))
 f234:=Tryz.func95.trans (congrArg some (by kernel_rfl))
 f235:=Tryz.func96.trans (congrArg some (by kernel_rfl))
 f236:=Tryz.func97.trans (congrArg some (by kernel_rfl))
 f260:=Tryz.func163.trans (congrArg some (by kernel_rfl))
 f266:=Tryz.func202.trans (congrArg some (by kernel_rfl))
 f271:=Tryz.func129.trans (congrArg some (by kernel_rfl))
 t0:=Tryz.underlying0
 a0:=Tryz.isAgg0
 z0:=Tryz.sizeOf0
 v0:=Tryz.zeroValue0
 t3:=Tryz.underlying3
 a3:=Tryz.isAgg3
 z3:=Tryz.sizeOf3
 v3:=Tryz.zeroValue3
 t4:=Tryz.underlying4
 a4:=Tryz.isAgg4
 z4:=Tryz.sizeOf4
 v4:=Tryz.zeroValue4
 t5:=Tryz.underlying5
 a5:=Tryz.isAgg5
 z5:=Tryz.sizeOf5
 v5:=Tryz.zeroValue5
 t9:=Tryz.underlying9
 a9:=Tryz.isAgg9
 z9:=Tryz.sizeOf9
 v9:=Tryz.zeroValue9
 t21:=Tryz.underlying21
 a21:=Tryz.isAgg21
 z21:=Tryz.sizeOf21
 v21:=Tryz.zeroValue21
 t46:=Tryz.underlying156
 a46:=Tryz.isAgg156
 z46:=Tryz.sizeOf156
 v46:=Tryz.zeroValue156
 t105:=Tryz.underlying180
 a105:=Tryz.isAgg180
 z105:=Tryz.sizeOf180
 v105:=Tryz.zeroValue180
 t116:=Tryz.underlying148
 a116:=Tryz.isAgg148
 z116:=Tryz.sizeOf148
 t117:=Tryz.underlying149
 a117:=Tryz.isAgg149
 z117:=Tryz.sizeOf149
 v117:=Tryz.zeroValue149
 t119:=Tryz.underlying226
 a119:=Tryz.isAgg226
 z119:=Tryz.sizeOf226
 t124:=Tryz.underlying152
 a124:=Tryz.isAgg152
 z124:=Tryz.sizeOf152
 v124:=Tryz.zeroValue152
 t138:=Tryz.underlying228
 a138:=Tryz.isAgg228
 z138:=Tryz.sizeOf228
 v138:=Tryz.zeroValue228
 t139:=Tryz.underlying229
 a139:=Tryz.isAgg229
 z139:=Tryz.sizeOf229
 v139:=Tryz.zeroValue229
 g3:=by kernel_rfl
 g4:=by kernel_rfl}
end Go.Proofs
namespace Go.Proofs.YtaglfmlgbcmakaaGreatDoor
open Go.RowKit Go.Shelf
def letters:List UInt8:=[97,98,99,100,101,102,103,104,105,106,107,108,109,110,111,112,113,114,115,116,117,118,119,120,121,122,65,66,67,68,69,70,71,72,73,74,75,76,77,78,79,80,81,82,83,84,85,86,87,88,89,90,48,49,50,51,52,53,54,55,56,57,45]
def Dg (s:ByteArray):Bool:= !s.toList.isEmpty && decide (s.size<=24) && (Lib.trimS s.data.toList letters).isEmpty
theorem Agr (s:ByteArray)(w:World)(hs:s.size<=9223372036854775807):
  Calls Tryz.prog 52 #[.string s, .string ⟨#[97,98,99,100,101,102,103,104,105,106,107,108,109,110,111,112,113,114,115,116,117,118,119,120,121,122,65,66,67,68,69,70,71,72,73,74,75,76,77,78,79,80,81,82,83,84,85,86,87,88,89,90,48,49,50,51,52,53,54,55,56,57,45]⟩] w fun e w'=>
   e= .returned (.string ⟨(Lib.trimS s.data.toList letters).toArray⟩)/\Below w.heap.size w w':=by
 have a0:=Any.strings_Trim_laid Tryz.lays160 (by kernel_rfl) s ⟨#[97,98,99,100,101,102,103,104,105,106,107,108,109,110,111,112,113,114,115,116,117,118,119,120,121,122,65,66,67,68,69,70,71,72,73,74,75,76,77,78,79,80,81,82,83,84,85,86,87,88,89,90,48,49,50,51,52,53,54,55,56,57,45]⟩ w hs (by decide) (ascii_of_all (by decide));exact a0
theorem Aj5 (s:ByteArray)(w:World)(hs:s.size<=9223372036854775807):
  Calls Tryz.prog 153 #[.string s] w fun e w'=>e= .returned (.bool (Dg s))/\Below w.heap.size w w':=by
 have a0:=Agr s w hs;obtain⟨r,hr⟩:∃r:ByteArray,r=⟨(Lib.trimS s.data.toList letters).toArray⟩:=⟨_,rfl⟩;rw[←hr]at a0;have HR:=hI hr;clear hr;have HC:=hI a0;clear a0
 cases h0:s.toList.isEmpty with
 |true=>
  have hv:Dg s=false:=by simp[Dg,h0]
  have H:=hI hv;clear hv;have a3:s.toList=[]:=by simpa using h0
  go_enter Tryz.func153,Tryz.ntmps153;go_wp2;go_ret;exact⟨by rw[H.out];rfl,Below.refl _ _⟩
 |false=>
  have a3:(!s.toList.isEmpty)=true:=by simp[h0]
  by_cases h24:s.size<=24
  ·have hv:Dg s=r.toList.isEmpty:=by
    rw[HR.out,Lib.toList_data ⟨(Lib.trimS s.data.toList letters).toArray⟩];simp[Dg,h0,h24]
   have H:=hI hv;clear hv;go_enter Tryz.func153,Tryz.ntmps153;go_wp2_with(go_at_call 52;refine HC.out.mono ?_;rintro e w1 ⟨rfl,a2⟩);go_ret;exact⟨by rw[H.out];rfl,a2⟩
  ·have hv:Dg s=false:=by simp[Dg,h24]
   have H:=hI hv;clear hv;have a1:((s.size:Int)<=24)=False:=by simp;omega
   go_enter Tryz.func153,Tryz.ntmps153;go_wp2;go_ret;exact⟨by rw[H.out];rfl,Below.refl _ _⟩
end Go.Proofs.YtaglfmlgbcmakaaGreatDoor
