/-
  inverse.text: a text for a word.
  derive.Pairs.
  The function that inverse.Lost hands to became.
  inverse.Lost.
  A region whose operations come in any order, many of them laying memory: what each operation's value is, said of each alone, whatever has come before.
-/
import Derived.Maps.OwnOps
import Derived.Test.YtlgliddhideflaaGreatDoorH05
import Derived.Test.YtlgliddhideflaaGreatDoorG16
set_option linter.all false
set_option maxRecDepth 100000
set_option maxHeartbeats 4000000
namespace Go.Proofs.YtlgliddhideflaaGreatDoor
open Go.RowKit Go.Shelf
theorem U0:Builder.Extra Tryz.prog Tryz.lays169_ren where
 sizeBuilder:=by kernel_rfl
 liesBuilder:=by kernel_rfl
 t5:=Tryz.underlying5
 a5:=Tryz.isAgg5
 z5:=Tryz.sizeOf5
 v5:=Tryz.zeroValue5
 infoByte:=by kernel_rfl
 cellsByte:=by kernel_rfl
 sizeByte:=by kernel_rfl
 neB5:=by decide
theorem Ahl:(Tryz.prog.info? 5).map (fun i=>(i.zero,i.size,i.bytes))=some (some (.int .u8 0),1,1):=by kernel_rfl
theorem Ahm (b:Nat)(w:World)(h:w.cell? ⟨b,0,none⟩=some (.pointer (some ⟨b,0,none⟩))):
  Calls Tryz.prog 206 #[.pointer (some ⟨b,0,none⟩)] w fun e w'=>e= .returned (.tuple #[])/\w'=w:=by
 obtain⟨i,hi, -⟩:=Option.map_eq_some_iff.1 U0.sizeBuilder;go_enter Tryz.func206,Tryz.ntmps206;go_wp2;rw[Lib.run_neq_ptr_same w _ Tryz.underlying200 hi];go_wp2
 go_end0
 exact⟨rfl,rfl⟩
theorem Aep (b:Nat)(w:World)(h:w.cell? ⟨b,0,none⟩=some (.pointer none))(hs:w.shape? b=some (202,2))(hf:w.frozen? ⟨b,0,none⟩=false):
  Calls Tryz.prog 206 #[.pointer (some ⟨b,0,none⟩)] w fun e w'=>e= .returned (.tuple #[])/\w'=w.setCell ⟨b,0,none⟩ (.pointer (some ⟨b,0,none⟩)):=by
 obtain⟨i,hi,hz⟩:=Option.map_eq_some_iff.1 U0.sizeBuilder;go_enter Tryz.func206,Tryz.ntmps206;go_wp2;rw[Lib.run_to_unsafe w ⟨b,0,none⟩ Tryz.underlying200 Tryz.underlying257 hi (by rw[hz];decide) hs (Nat.zero_lt_succ 1)];simp only[Result.andThen];rw[Oper.upon_value];go_wp2;rw[run_callFunc_extern Tryz.func236 (by kernel_rfl) (by kernel_rfl) (by kernel_rfl) (e:=Extern.AbiNoEscape.same) (by kernel_rfl),Lib.run_noEscape];simp only[Result.andThen];rw[Oper.upon_value];go_wp2;rw[Lib.run_from_unsafe w ⟨b,0,none⟩ Tryz.underlying257 Tryz.underlying200 hi hs U0.liesBuilder];simp only[Result.andThen];rw[Oper.upon_value];go_wp2
 go_end0
 exact⟨rfl,rfl⟩
theorem Aqe (B b:Nat)(bs:List Value)(w:World)(h:Lib.IsBuilderF 202 5 B b bs w):
  Calls Tryz.prog 206 #[.pointer (some ⟨b,0,none⟩)] w fun e w'=>e= .returned (.tuple #[])/\(Lib.BuilderAtF 202 5 B b (.pointer (some ⟨b,0,none⟩)) bs w'/\Below B w w'/\Lib.OthersKept 5 (some b) w w'):=by
 cases h with
 |inl h=>
  refine(Aep b w h.cell0 h.shape h.frozen0).mono ?_;rintro e w' ⟨he,hw⟩;subst he hw;exact⟨rfl,h.used _,(Below.refl B w).setCell (p:=⟨b,0,none⟩) h.1 _,(Lib.OthersKept.refl _ _ w).setCell ⟨b,0,none⟩ rfl _⟩
 |inr h=>
  refine(Ahm b w h.cell0).mono ?_;rintro e w' ⟨he,hw⟩;subst he hw;exact⟨rfl,h,Below.refl B _,Lib.OthersKept.refl _ _ _⟩
theorem Acl (B b:Nat)(bs:List Value)(c:Int)(w:World)(h:Lib.IsBuilderF 202 5 B b bs w)(hlen:bs.length+1<=4096)(hBw:B<=w.heap.size):
  Calls Tryz.prog 170 #[.pointer (some ⟨b,0,none⟩), .int .u8 c] w fun e w'=>e= .returned .nilIface/\(Lib.IsBuilderF 202 5 B b (bs++[.int .u8 c]) w'/\Below B w w'/\Lib.OthersKept 5 (some b) w w'):=by
 obtain⟨i0,hi,a8,a7,a5⟩:=info_parts Ahl;go_enter Tryz.func170,Tryz.ntmps170;go_wp2_with fail;refine(Aqe B b bs _ h).mono ?_;rintro e w1 ⟨he,⟨hB,v,hk,ho,a6⟩,a2,a4⟩;subst he;have a9:=a2.size;have a3:=lt_of_block hk;have c0:w1.cell? ⟨b,0,none⟩=some (.pointer (some ⟨b,0,none⟩)):=by rw[Lib.cell_of_heap hk];rfl
 have c1:w1.cell? ⟨b,1,none⟩=some v:=by rw[Lib.cell_of_heap hk];rfl
 go_wp2_with(at_builtin;refine wpList_append_ownF _ rfl _ _ 101 rfl B 5 i0 (.int .u8 0) 1 1 Tryz.underlying101 hi a8 a7 a5 rfl (by decide) _ _ _ rfl (ho.alloc _) ⟨w1.heap.size,0,none⟩ 1 1 [.int .u8 c] rfl rfl ?d1 ?d2 ?d3 ?d4 ?d5 ?_)
 case d1=>exact cell_one_new _ _ _
 case d2=>intro u hu;simp at hu;subst hu;rfl
 case d3=>unfold maxLen;omega
 case d4=>omega
 case d5=>simp;omega
 intro v' w2 a1 hg _
 obtain⟨g,cap,rfl⟩:∃g cap,v'= .slice (some ⟨g,0,none⟩) (bs.length+1) cap:=by
  rcases a1.2 with⟨_,h0⟩|⟨g,cap,cur,fz,hv,_⟩
  ·omega
  ·exact⟨g,cap,hv⟩
 have a0:w2.heap[b]? =some (.cells #[.pointer (some ⟨b,0,none⟩),v] 202 (0,0)):=
  (hg.block b (by simp;omega) (fun e=>a6 e.symm)).trans ((Am a3).trans hk)
 have d0:w2.cell? ⟨b,0,none⟩=some (.pointer (some ⟨b,0,none⟩)):=by rw[Lib.cell_of_heap a0];rfl
 have d1:w2.cell? ⟨b,1,none⟩=some v:=by rw[Lib.cell_of_heap a0];rfl
 have f1:w2.frozen? ⟨b,1,none⟩=false:=Lib.frozen_of_heap a0 1;go_wp2;go_ret;refine⟨rfl, .inr (Lib.BuilderAtF.put hB a0 (by simpa using a1) (by decide)), ?_,((a4.alloc _).grown hg (Lib.ownsRowF_kind (ho.alloc _))).setCell ⟨b,1,none⟩ rfl _⟩;exact((a2.alloc (by omega) _).grown hg (by simp;omega) (fun k hk=>(ho.lt k hk).1)).setCell (p:=⟨b,1,none⟩) hB _
theorem Aks (B b:Nat)(l:List UInt8)(w:World)(h:Lib.IsBuilderF 202 5 B b (Lib.byteCells l) w)(hBw:B<=w.heap.size):
  Calls Tryz.prog 171 #[.pointer (some ⟨b,0,none⟩)] w fun e w'=>e= .returned (.string ⟨l.toArray⟩)/\(Lib.IsBuilderF 202 5 B b (Lib.byteCells l) w'/\Below B w w'/\Lib.OthersKept 5 (some b) w w'):=Any.Builder_String_any_k Tryz.lays169 U0 B b l w h hBw
theorem Akt (p m:Int):∀i:Nat,i<4->(Pr (p,m)).take (2*(i+1))=(Pr (p,m)).take (2*i)++[Ke p i,Ke m i]
 |0,_=>rfl
 |1,_=>rfl
 |2,_=>rfl
 |3,_=>rfl
 |_+4,h=>by omega
theorem Ahn (T:List UInt8)(p m:Int)(i:Nat)(hi:i<4):
  Lib.byteCells (T++(Pr (p,m)).take (2*i))++[.int .u8 (p/2^(8*i)%256)]++[.int .u8 (m/2^(8*i)%256)]=Lib.byteCells (T++(Pr (p,m)).take (2*(i+1))):=by
 rw[Akt p m i hi,←List.append_assoc,Lib.byteCells_append (T++(Pr (p,m)).take (2*i)),←Rk p i,←Rk m i,List.append_assoc];rfl
theorem Aho {xs:List Snd}{j:Nat}{s:Snd}(h:xs[j]? =some s):Fd (xs.take j)++(Pr s).take (2*4)=Fd (xs.take (j+1)):=by
 unfold Fd;rw[Bb xs j s h,List.flatMap_append,List.flatMap_cons,List.flatMap_nil,List.append_nil];rfl
theorem Aku (A:Option Addr)(n c:Nat)(xs:List Snd)(w:World)(hx:Ad w A n c xs)(hn:n<=40):
  Calls Tryz.prog 126 #[.slice A n c] w fun e w'=>e= .returned (.string ⟨(Fd xs).toArray⟩)/\Below w.heap.size w w':=by
 have HL:Hid (xs.length=n):=hx.len;have HX:=hI hx;clear hx;go_enter Tryz.func126,Tryz.ntmps126;go_wp2;have b8:Lib.IsBuilderF 202 5 w.heap.size w.heap.size (Lib.byteCells []) (w.alloc (.cells #[.pointer none, .slice none 0 0] 202)):=Lib.IsBuilderF.of (Lib.fresh_isBuilder 202 5 w);have b7:Below w.heap.size w (w.alloc (.cells #[.pointer none, .slice none 0 0] 202)):=bel
 go_loopw [9] (fun vi wr=>∃j:Nat,vi= .int .i64 j/\j<=n/\Lib.IsBuilderF 202 5 w.heap.size w.heap.size (Lib.byteCells (Fd (xs.take j))) wr/\Below w.heap.size w wr) (fun vi _=>n-(intOf vi).toNat)
 case atStart=>exact⟨0,rfl,Nat.zero_le _,b8,b7⟩
 case round=>
  clear b8 b7;obtain⟨j,rfl,hj,a0,hB⟩:=hrel;have a4:=hB.size;have a6:w.heap.size<wr.heap.size:=by rcases a0 with h|h<;>exact h.lt
  by_cases hlt:(j:Int)<(n:Int)
  ·have b1:j<n:=by omega
   obtain⟨b,off,p,m,rfl,d0,hs,d5,d2⟩:=(HX.out.below hB rr).at_ b1;go_wp2_with fail;have a2:=a0.alloc (.cells #[.int .u32 p, .int .u32 m] 24);have a1:(wr.alloc (.cells #[.int .u32 p, .int .u32 m] 24)).heap[wr.heap.size]? =some (.cells #[.int .u32 p, .int .u32 m] 24 (0,0)):=Ak rfl;have a3:Below w.heap.size w (wr.alloc (.cells #[.int .u32 p, .int .u32 m] 24)):=hB.alloc a4 _;generalize(wr.alloc (.cells #[.int .u32 p, .int .u32 m] 24))=wa at*;obtain⟨bs,b3⟩:∃bs,bs=wr.heap.size:=⟨_,rfl⟩;rw[←b3]at a1 a6 ⊢;clear b3 a0 d5 d2 d0 hB a4;have HS:=hI hs;clear hs
   go_loopw [13] (fun vi wr2=>∃i:Nat,vi= .int .i64 i/\i<=4/\Lib.IsBuilderF 202 5 w.heap.size w.heap.size (Lib.byteCells (Fd (xs.take j)++(Pr (p,m)).take (2*i))) wr2/\Below w.heap.size w wr2∧
    wr2.heap[bs]? =some (.cells #[.int .u32 p, .int .u32 m] 24 (0,0))) (fun vi _=>4-(intOf vi).toNat)
   case atStart=>exact⟨0,rfl,Nat.zero_le _,by simpa using a2,a3,a1⟩
   case round=>
    clear a2 a3 a1;obtain⟨i,rfl,hi,a0,hB,hg⟩:=hrel;have a4:=hB.size;have g0:wr.cell? ⟨bs,0,none⟩=some (.int .u32 p):=by rw[Lib.cell_of_heap hg];rfl
    have g1:wr.cell? ⟨bs,1,none⟩=some (.int .u32 m):=by rw[Lib.cell_of_heap hg];rfl
    have d3:(Lib.byteCells (Fd (xs.take j)++(Pr (p,m)).take (2*i))).length<=2000:=by
     rw[Lib.byteCells_length,List.length_append,Y8,List.length_take,List.length_take]
     have:(Pr (p,m)).length=8:=rfl
     omega
    by_cases hi4:(i:Int)<4
    ·have a7:=Ahn (Fd (xs.take j)) p m i (by omega);obtain⟨L0,b0⟩:∃L0,L0=Lib.byteCells (Fd (xs.take j)++(Pr (p,m)).take (2*i)):=⟨_,rfl⟩;rw[←b0]at a0 d3 a7;have d1:=hI a7;clear a7 b0;go_wp2_with fail;refine(Acl w.heap.size w.heap.size L0 _ wr a0 (by omega) a4).mono ?_;rintro e w2 ⟨rfl,a2,a5,b6⟩;have a1:=b6 bs _ hg (fun e=>by have:=Option.some.inj e;omega) (fun _ _ e=>by injection e with _ e _;cases e);have a3:=hB.trans a5;have a9:=a3.size;have g2:w2.cell? ⟨bs,1,none⟩=some (.int .u32 m):=by rw[Lib.cell_of_heap a1];rfl
     clear a0 a5 b6 hg hB g0 g1;go_wp2_with fail;refine(Acl w.heap.size w.heap.size _ _ w2 a2 (by simp;omega) a9).mono ?_;rintro e w3 ⟨rfl,a8,b9,b4⟩;have b2:=b4 bs _ a1 (fun e=>by have:=Option.some.inj e;omega) (fun _ _ e=>by injection e with _ e _;cases e);have b5:=a3.trans b9;rw[d1.out]at a8;clear a2 b9 b4 a1 a3 g2;go_wp2
     go_roundw
     case rel=>first|exact⟨i+1,by go_num,by omega,a8,b5,b2⟩|((repeat apply Exists.intro);exact⟨⟨i+1,by go_num,by omega,a8,b5,b2⟩,rfl⟩)
     case measure=>simp[intOf];omega
    ·obtain rfl:i=4:=by omega
     have d6:=hI (Aho HS.out);rw[d6.out]at a0;go_wp2_with fail;refine⟨⟨j+1,by go_num,by omega,a0,hB⟩, ?_⟩;simp[intOf];omega
  ·have b1:j=n:=by omega
   have HM:Hid (Fd (xs.take j)=Fd xs):=by show _=_;rw[List.take_of_length_le (by rw[HL.out];omega)]
   rw[HM.out]at a0;go_wp2_with fail;refine(Aks w.heap.size w.heap.size (Fd xs) wr a0 a4).mono ?_;rintro e w2 ⟨rfl,a2,a5, -⟩;have d4:=hI (hB.trans a5);clear a0 a2 a5 hB;go_wp2;go_ret;exact⟨rfl,d4.out⟩
end Go.Proofs.YtlgliddhideflaaGreatDoor
namespace Go.Proofs.YtlgliddhideflaaGreatDoor
open Go.RowKit Go.Shelf
attribute [local go_sem] Oper.semAt_some
theorem Yd:(Tryz.prog.info? 52).map (fun i=>(i.zero,i.size,i.bytes))=some (some (.agg #[.slice none 0 0, .slice none 0 0]),2,48):=by kernel_rfl
theorem Bd.shut {B:Nat}{w w':World}{A:Option Addr}{n c sz:Nat}{vs:List Value}(h:Bd w A n c sz vs)(hs:Hn B w w'):Bd w' A n c sz vs:=by
 obtain⟨h1,h2,h3,h4,h5⟩:=h;refine⟨h1,h2,h3,h4,fun hn=> ?_⟩
 obtain⟨b,off,rfl,a0,hc⟩:=h5 hn;refine⟨b,off,rfl,by rw[hs.size];exact a0,fun j v hv=> ?_⟩
 rcases hs.block b with e|⟨_,x,e⟩
 ·exact(World.cell?_of_block e).trans (hc j v hv)
 ·have:=hc j v hv
  unfold World.cell? at this
  simp_all
theorem D5.shut {B:Nat}{w w':World}{A:Option Addr}{n c:Nat}{ss:List Cf}(h:D5 w A n c ss)(hs:Hn B w w'):D5 w' A n c ss:=
 ⟨⟨h.1.1.shut hs,h.1.2⟩,fun s hs'=>⟨(h.2 s hs').1.shut hs,(h.2 s hs').2.shut hs⟩⟩
theorem Fl.low {w:World}{B b:Nat}{v u:Value}{ss:List Cf}(h:Fl w B v ss)(hb:b<B):Fl (w.setCell ⟨b,0,none⟩ u) B v ss:=by
 have hk:Aj (fun k=>k=b) w (w.setCell ⟨b,0,none⟩ u):=(Aj.refl (fun k=>k=b) w).setCell (p:=⟨b,0,none⟩) rfl _;have ha:∀p,Mm B v w p->Mm B v (w.setCell ⟨b,0,none⟩ u) p:=fun p hp=>⟨hp.1.keep hk fun hn ad had e=>by have:=(hp.2 ad had).1;omega,hp.2⟩
 exact⟨B0 h.own fun k e=>hk.block k (h.own.lt k e).2 (by have:=(h.own.lt k e).1;omega),fun s hs=>⟨ha _ (h.pq s hs).1,ha _ (h.pq s hs).2⟩,Nat.le_trans h.sz hk.size⟩
end Go.Proofs.YtlgliddhideflaaGreatDoor
namespace Go.Proofs.YtlgliddhideflaaGreatDoor
open Go.RowKit Go.Shelf Go.Maps Go.WideMaps
theorem Ef.mono {bp bm bf bo:Nat}{W1:World}{i j:Nat}{vf vo:Value}{fs:List Part}{qs:List Cf}{D:DataW Unit}{X:World}(h:Ef bp bm bf bo W1 i vf vo fs qs D X)(hj:i<=j):Ef bp bm bf bo W1 j vf vo fs qs D X:=
 ⟨h.lt,h.cp,h.cf,h.co,h.om.mono hj,h.of,h.oo,h.pw,h.pd,h.fo,h.kp⟩
theorem Aa8 (y:List Snd)(hl:y.length<=32):keyOf Tryz.prog 9 (.string ⟨(Fd y).toArray⟩)=some (Rl y):=by
 have h:=keyOf_string_mk (P:=Tryz.prog) (k:=9) (s:=⟨(Fd y).toArray⟩) Tryz.underlying9 (by
  show((Fd y).toArray).size<=maxLen;rw[List.size_toArray,Y8];unfold maxLen;omega)
 rw[h];rfl
theorem Af9 {bm i:Nat}{D:DataW Unit}{w:World}(h:w.ownsMap Tryz.prog 9 (plainElem (H:=Unit) Tryz.prog 3) bm i D)(y:List Snd)(hl:y.length<=32):
  ∃c:Int,(Instr.lookup 157 (.map (some bm)) (.string ⟨(Fd y).toArray⟩) true).run Tryz.prog w= .ok (.tuple #[.int .i64 c, .bool (Go.Maps.has D (Rl y))]) w/\D.atKey (Rl y) (.lit (.int .i64 0))= .lit (.int .i64 c):=by
 obtain⟨v,ps,a0,hv⟩:=h.look_ok (string_keyed Tryz.underlying9) Tryz.underlying157 (Tryz.zeroValue3 w) (plainElem_int Tryz.underlying3 (by decide)) (Aa8 y hl);obtain⟨c,rfl,hc, -⟩:=plainElem_int_inv Tryz.underlying3 hv;simp only[Prod.mk.injEq]at hc;exact⟨c,a0,hc.1⟩
theorem Alm (bp bm bf bo:Nat)(W1:World)(i:Nat)(vf vo:Value)(fs:List Part)(qs:List Cf)(D:DataW Unit)(ds:List (List Snd×List Snd))(Af:Option Addr)(nf cf:Nat)(x:List Snd)(At:Option Addr)(nt ct:Nat)(y:List Snd)(X:World)
  (h:Ef bp bm bf bo W1 i vf vo fs qs D X) (hP:Ku D ds) (hfd:fs.map Part.word=ds.map (·.1)) (hx:Ad X Af nf cf x) (hy:Ad X At nt ct y) (hyu:Bq y) (hyl:y.length<=32) (hdu:∀p∈ds,Bq p.2) (hdl:∀p∈ds,p.1.length<=4)
  (hfa:∀ad,Af=some ad->W1.heap.size<=ad.block∧¬Fc bm bf bo vf vo fs qs ad.block) (hi:i<=4000) (hfi:fs.length<=i) (hqi:qs.length<=i):
  Calls Tryz.prog 125 (#[.slice Af nf cf, .slice At nt ct]++ #[.pointer (some ⟨bp,0,none⟩), .pointer (some ⟨bo,0,none⟩), .pointer (some ⟨bf,0,none⟩)]) X fun e X'=>(∃v,e= .returned v)/\Aj (Fc bm bf bo vf vo fs qs) X X'∧
   ((∃p vo' s,ds.find? (fun p=>decide (p.2=y))=some p/\Cf.data s=(p.1,x)/\Ef bp bm bf bo W1 (i+1) vf vo' fs (qs++[s]) D X'∧
    ∀k,Fc bm bf bo vf vo' fs (qs++[s]) k->Fc bm bf bo vf vo fs qs k\/X.heap.size<=k\/(0<nf∧∃ad,Af=some ad/\ad.block=k))∨
    (∃vf' D',ds.find? (fun p=>decide (p.2=y))=none/\Ku D' (ds++[(x,y)])/\Ef bp bm bf bo W1 (i+1) vf' vo (fs++[(Af,nf,cf,x)]) qs D' X'∧
     ∀k,Fc bm bf bo vf' vo (fs++[(Af,nf,cf,x)]) qs k->Fc bm bf bo vf vo fs qs k\/X.heap.size<=k\/(0<nf∧∃ad,Af=some ad/\ad.block=k))):=by
 obtain⟨Ao,ko,rfl⟩:=Bh h.oo;obtain⟨A8,k8,rfl⟩:=Bh h.of;have cp:=cell_of_one h.cp;have f6:nt<=40:=by have:=hy.len;omega
 have HH:=hI h;have HP:=hI hP;have f4:=hI hfd;have HX:=hI hx;have HY:=hI hy;have g5:=hI hyu;have j0:=hI hdu;have i1:=hI hdl;have d6:=hI hfa;clear h hP hfd hx hy hyu hdu hdl hfa;go_enter Tryz.func125,Tryz.ntmps125;go_wp2_with fail;refine Bj (fun W'=>W'.cell? ⟨bp,0,none⟩=some (.map (some bm))) (by kernel_rfl) cp (fun a0=> ?_)
 (refine' Aa 0 rfl ?_;(try simp only[Act.put,nY,nX]));(refine' Aa 1 rfl ?_;(try simp only[Act.put,nY,nX]))
 (refine Aqq 2 rfl (fun K' hK'=> ?_);simp only[nY];go_simp)
 refine(Aku At nt ct y _ (HY.out.below (B:=X.heap.size) ((Below.refl X.heap.size X).drew) rr) f6).mono ?_;rintro e w1 ⟨rfl,g2⟩;have a1:Below X.heap.size X w1:=(Below.refl X.heap.size X).drew.trans g2;have a9:=hI (HH.out.below a1);have cp1:=cell_of_one a9.out.cp;obtain⟨cc,b3,a5⟩:=Af9 a9.out.om y hyl;refine hK' _ _ ⟨.inr cp1,fun _=> ?_⟩
 clear hK' K' cp
 (try simp only[Act.put,nY,nX])
 (refine Aqq 3 rfl (fun K' hK'=> ?_);simp only[nY];go_simp)
 refine hK' _ _ ⟨.inr cp1,fun _=> ?_⟩
 clear hK' K' a0 b3
 (try simp only[Act.put,nY,nX])
 (refine' Aa 4 rfl ?_;(try simp only[Act.put,nY,nX]));(refine' Aa 5 rfl ?_;(try simp only[Act.put,nY,nX]));(refine' Aa 6 rfl ?_;(try simp only[Act.put,nY,nX]))
 (refine Aqq 7 rfl (fun K' hK'=> ?_);simp only[nY];go_simp)
 refine hK' _ _ ⟨.inr cp1,fun _=> ?_⟩
 clear hK' K'
 (try simp only[Act.put,nY,nX])
 (refine Aqq 8 rfl (fun K' hK'=> ?_);simp only[nY];go_simp)
 refine hK' _ _ ⟨.inl (by kernel_rfl),fun _=>Be (by kernel_rfl) ?_ _⟩
 clear hK' K';rcases Aeo HP.out g5.out with⟨hh,j,p,hj,a3,b9⟩|⟨hh,a3,b8⟩
 ·rw[hh]
  have i3:cc=(j:Int):=by
   rw[b9]at a5;injection a5 with a5;injection a5 with _ a5
   exact a5.symm
  subst i3;clear a5 b9;have j2:j<ds.length:=(List.getElem?_eq_some_iff.1 hj).1;have d1:fs.length=ds.length:=by have:=congrArg List.length f4.out;simpa using this
  obtain⟨⟨Ap,np,cq,wp⟩,d2⟩:∃q,fs[j]? =some q:=⟨fs[j]'(by omega),List.getElem?_eq_getElem _⟩
  have f1:wp=p.1:=by
   have h5:=congrArg (fun l:List (List Snd)=>l[j]?) f4.out;simp only[List.getElem?_map,d2,hj,Option.map_some,Option.some.injEq]at h5;exact h5
  have f2:Ad w1 Ap np cq wp:=a9.out.pw _ (List.mem_append.2 (.inl (List.mem_of_getElem? d2)))
  have g8:np<=4096:=by
   have h5:=i1.out p (List.mem_of_getElem? hj);have h6:=f2.len;rw[f1]at h6;omega
  obtain⟨gf,of,vv,i0,d0,d4,f8⟩:=(Bd.of_own a9.out.of (by decide)).at1 (k:=j) (by omega);rw[List.getElem?_map,d2]at d4;have b2:w1.cell? ⟨gf,of+j,none⟩=some (.slice Ap np cq):=by rw[f8,←d4];rfl
  clear d4;subst i0;have co1:=cell_of_one a9.out.co;have cf1:=cell_of_one a9.out.cf;have i8:=hI f2;have i5:=hI f1;have a8:=hI a3;have j6:j<fs.length:=by omega
  clear f2 f1 a3 d2 hj f8 hh cp1 j2 d1;go_wp2_with fail;refine Bj (fun W'=>W'.cell? ⟨bo,0,none⟩=some (.slice Ao qs.length ko)/\W'.cell? ⟨bf,0,none⟩=some (.slice (some ⟨gf,of,none⟩) fs.length k8)/\W'.cell? ⟨gf,of+j,none⟩=some (.slice Ap np cq)) (by kernel_rfl) ⟨co1,cf1,b2⟩ (fun a0=> ?_)
  (refine' Aa 0 rfl ?_;(try simp only[Act.put,nY,nX]));(refine' Aa 1 rfl ?_;(try simp only[Act.put,nY,nX]));(refine' Aa 2 rfl ?_;(try simp only[Act.put,nY,nX]));(refine' Aa 3 rfl ?_;(try simp only[Act.put,nY,nX]));(refine' Aa 4 rfl ?_;(try simp only[Act.put,nY,nX]));(refine' Aa 6 rfl ?_;(try simp only[Act.put,nY,nX]))
  (refine Aqq 5 rfl (fun K' hK'=> ?_);simp only[nY];go_simp)
  refine(Ml Ap np cq wp _ (i8.out.below (B:=w1.heap.size) ((Below.refl w1.heap.size w1).drew) rr) g8).mono ?_;rintro e w2 ⟨A3,n3,c3,rfl,g4,g6,b5⟩;have a4:Below w1.heap.size w1 w2:=(Below.refl w1.heap.size w1).drew.trans g6;have b1:=hI (a9.out.below a4);have co2:=cell_of_one b1.out.co;have cf2:=cell_of_one b1.out.cf;have cr2:w2.cell? ⟨gf,of+j,none⟩=some (.slice Ap np cq):=(World.cell?_of_block (a4.block gf d0)).trans b2;refine hK' _ _ ⟨.inr ⟨co2,cf2,cr2⟩,fun _=> ?_⟩
  clear hK' K' a0 co1 cf1 b2
  (try simp only[Act.put,nY,nX])
  have a0:w2.cell? ⟨bo,0,none⟩=some (.slice Ao qs.length ko)/\w2.cell? ⟨bf,0,none⟩=some (.slice (some ⟨gf,of,none⟩) fs.length k8)/\w2.cell? ⟨gf,of+j,none⟩=some (.slice Ap np cq):=⟨co2,cf2,cr2⟩
  (refine' Aa 7 rfl ?_;(try simp only[Act.put,nY,nX]))
  (refine Aqq 8 rfl (fun K' hK'=> ?_);simp only[nY];go_simp)
  have a6:=hI (b1.out.below (X':=w2.alloc (.cells #[.slice A3 n3 c3, .slice Af nf cf] 52)) ((Below.refl _ _).alloc rr _));have d8:∀u:Nat,u<2→∀v,[Value.slice A3 n3 c3,Value.slice Af nf cf][u]? =some v->(w2.alloc (.cells #[.slice A3 n3 c3, .slice Af nf cf] 52)).cell? ⟨w2.heap.size,u,none⟩=some v:=fun u _ v hv=>Cd (by simpa using hv)
  have co3:=cell_of_one a6.out.co;have cf3:=cell_of_one a6.out.cf;have d7:gf<w2.heap.size:=Nat.lt_of_lt_of_le d0 a4.size;have cr3:(w2.alloc (.cells #[.slice A3 n3 c3, .slice Af nf cf] 52)).cell? ⟨gf,of+j,none⟩=some (.slice Ap np cq):=(Bn (by simpa using d7)).trans cr2;have j5:(w2.alloc (.cells #[.slice A3 n3 c3, .slice Af nf cf] 52)).heap.size=w2.heap.size+1:=by simp
  have d9:Below w2.heap.size w2 (w2.alloc (.cells #[.slice A3 n3 c3, .slice Af nf cf] 52)):=(Below.refl _ _).alloc rr _;refine hK' _ _ ⟨.inr ⟨co3,cf3,cr3⟩,fun _=> ?_⟩
  clear hK' K' a0 co2 cf2 cr2
  (try simp only[Act.put,nY,nX])
  generalize(w2.alloc (.cells #[.slice A3 n3 c3, .slice Af nf cf] 52))=w3 at*;refine Aqq 9 rfl (fun K' hK'=> ?_);rw[if_pos (by rfl)];have j3:=a6.out.kp.size
  refine C1 (.tmp 17) (.tmp 25) 47 rfl W1.heap.size 52 (.agg #[.slice none 0 0, .slice none 0 0]) 2 48 Tryz.underlying47 Yd rfl (by decide) (.slice Ao qs.length ko) qs.length (qs.flatMap Cf.cells) (by rfl) a6.out.oo ⟨w2.heap.size,0,none⟩ 1 1 [.slice A3 n3 c3, .slice Af nf cf] (by rfl) rfl
   (fun u v hv=>by
    match u,hv with
    |0,hv=>simpa[Addr.add]using d8 0 (by omega) v hv
    |1,hv=>simpa[Addr.add]using d8 1 (by omega) v hv
    |u+2,hv=>simp at hv) (by intro u hu;simp at hu;rcases hu with rfl|rfl<;>rfl) (by unfold maxLen;omega) (by omega) j3 ?_
  intro vo' X2 a2 hg _ a5;obtain⟨A9,k9,rfl⟩:=Bh a2;have hl:=a6.out.lt;have a7:∀k,(Value.slice Ao qs.length ko).ownBlock=some k->W1.heap.size<=k:=fun k e=>(a6.out.oo.lt k e).1
  have x2:∀k,k<w3.heap.size->(Value.slice Ao qs.length ko).ownBlock≠some k->X2.heap[k]? =w3.heap[k]? :=fun k hk hn=>hg.block k hk (fun e=>hn e.symm)
  have xo:=(x2 bo (lt_of_block a6.out.co) (fun e=>by have:=a7 _ e;omega)).trans a6.out.co;have xf:=(x2 bf (lt_of_block a6.out.cf) (fun e=>by have:=a7 _ e;omega)).trans a6.out.cf;have xr:X2.cell? ⟨gf,of+j,none⟩=some (.slice Ap np cq):=(World.cell?_of_block (x2 gf (by omega) (fun e=>a6.out.fo gf rfl e))).trans cr3;have co4:=cell_of_one xo;have fo4:=free_of_one xo;have cf4:=cell_of_one xf;have b4:Aj (fun k=>(Value.slice Ao qs.length ko).ownBlock=some k\/k=bo) w3 (X2.setCell ⟨bo,0,none⟩ (.slice A9 (qs.length+1) k9)):=(((Aj.refl (fun k=>(Value.slice Ao qs.length ko).ownBlock=some k) w3).grown hg (fun k e=> .inl e)).mono fun k e=> .inl e).setCell (p:=⟨bo,0,none⟩) (.inr rfl) _
  have d5:Below X.heap.size X w3:=(a1.trans (a4.mono a1.size)).trans (d9.mono (by have:=a1.size;have:=a4.size;omega));have g7:w1.drew.heap.size=w1.heap.size:=rfl;rw[g7]at b5;have g1:=a1.size;have j1:=a4.size;have b7:=a9.out.lts;have i7:=a9.out.kp.size
  obtain⟨p1,p2⟩:=a6.out.pair (s:=⟨(A3,n3,c3,wp),(Af,nf,cf,x)⟩) b4 (one_setCell xo) (by
    rw[List.length_append,List.length_singleton,List.flatMap_append,List.flatMap_singleton];exact B0 (w:=X2) a2 fun k e=>Below.heap_setCell _ _ _ _ (by have:=(a2.lt k e).1;simp;omega)) (fun k e=>by
    rcases a5 with h|h
    ·exact .inl (by rw[←h];exact e)
    ·rw[h]at e;injection e with e;exact .inr (by omega)) (fun q hq=>by
    rcases hq with rfl|rfl
    ·exact⟨g4.below d9 rr,fun ad b6=>by
      have h5:=b5 ad b6;exact⟨by omega,fun e=>by have:=b7 _ e;omega⟩⟩
    ·exact⟨HX.out.below d5 rr,d6.out⟩)
  have P1:=hI p1
  have P2:Hid (∀k,Fc bm bf bo (.slice (some ⟨gf,of,none⟩) fs.length k8) (.slice A9 (qs.length+1) k9) fs (qs++[⟨(A3,n3,c3,wp),(Af,nf,cf,x)⟩]) k->Fc bm bf bo (.slice (some ⟨gf,of,none⟩) fs.length k8) (.slice Ao qs.length ko) fs qs k\/X.heap.size<=k\/(0<nf∧∃ad,Af=some ad/\ad.block=k)):=fun k hk=>by
   rcases p2 k hk with h|h|⟨q,rfl|rfl,hn,ad,b6,h⟩
   ·exact .inl h
   ·exact .inr (.inl (by omega))
   ·exact .inr (.inl (by have:=b5 ad b6;omega))
   ·exact .inr (.inr ⟨hn,ad,b6,h⟩)
  have P3:Hid (Aj (Fc bm bf bo (.slice (some ⟨gf,of,none⟩) fs.length k8) (.slice Ao qs.length ko) fs qs) X (X2.setCell ⟨bo,0,none⟩ (.slice A9 (qs.length+1) k9))):=(Bc d5).trans (b4.mono fun k e=>e.elim (fun e=> .inr (.inr (.inr (.inr (.inl e))))) (fun e=> .inr (.inr (.inl e))))
  clear p1 p2 b4 a2 hg a5 x2 xo xf a7 g4 g6 a4 b5 d9 d5 d8 g7 b7;refine hK' _ _ ⟨.inr ⟨co4,cf4,xr⟩,fun _=> ?_⟩
  clear hK' K' co3 cf3 cr3
  (try simp only[Act.put,nY,nX])
  (refine Aqq 10 rfl (fun K' hK'=> ?_);simp only[nY];go_simp)
  refine hK' _ _ ⟨.inl (by kernel_rfl),fun _=>Be (by kernel_rfl) ?_ _⟩
  clear hK' K' co4 fo4 cf4 xr;go_wp2;refine bodyPost_ret (results_none rfl _ _ _) rfl ?_;exact⟨⟨_,rfl⟩,P3.out, .inl ⟨p,_,_,a8.out,by show(wp,x)=_;rw[i5.out],P1.out.mono (Nat.le_succ _),P2.out⟩⟩
 ·rw[hh];have d1:fs.length=ds.length:=by have:=congrArg List.length f4.out;simpa using this
  have a8:=hI a3;have f3:=hI b8;have cf1:=cell_of_one a9.out.cf;clear a3 b8 a5 hh;have j4:=hI d1;clear d1;go_wp2_with fail;refine Bj (fun W'=>W'.cell? ⟨bp,0,none⟩=some (.map (some bm))/\W'.cell? ⟨bf,0,none⟩=some (.slice A8 fs.length k8)) (by kernel_rfl) ⟨cp1,cf1⟩ (fun a0=> ?_)
  (refine' Aa 0 rfl ?_;(try simp only[Act.put,nY,nX]));(refine' Aa 1 rfl ?_;(try simp only[Act.put,nY,nX]));(refine' Aa 3 rfl ?_;(try simp only[Act.put,nY,nX]));(refine' Aa 4 rfl ?_;(try simp only[Act.put,nY,nX]))
  (refine Aqq 2 rfl (fun K' hK'=> ?_);simp only[nY];go_simp)
  refine(Aku At nt ct y _ (HY.out.below (B:=X.heap.size) (a1.trans ((Below.refl w1.heap.size w1).drew.mono a1.size)) rr) f6).mono ?_;rintro e w2 ⟨rfl,f7⟩;have b0:Below w1.heap.size w1 w2:=(Below.refl w1.heap.size w1).drew.trans f7;have b1:=hI (a9.out.below b0);have cp2:=cell_of_one b1.out.cp;have cf2:=cell_of_one b1.out.cf;refine hK' _ _ ⟨.inr ⟨cp2,cf2⟩,fun _=> ?_⟩
  clear hK' K' a0 cp1 cf1
  (try simp only[Act.put,nY,nX])
  obtain⟨w3,b3,g3,f5⟩:=b1.out.om.update (string_keyed Tryz.underlying9) Tryz.underlying157 (show i<maxLen by unfold maxLen;omega) (Aa8 y hyl) (plainElem_int (a:=(fs.length:Int)) Tryz.underlying3 (WalkArith.wf_i64 (by omega)))
  (refine Aqq 5 rfl (fun K' hK'=> ?_);simp only[nY];go_simp)
  have d3:=b1.out.upd f5 g3;have HU:=hI d3.1;have g0:=hI d3.2
  have i9:Hid (Ku (D.put (Rl y) (.lit (.int .i64 (fs.length:Int)))) (ds++[(x,y)])):=by
   have h5:=Ahk (x:=(x,y)) HP.out j0.out g5.out f3.out;rw[←j4.out]at h5;exact h5
  refine hK' _ _ ⟨.inl (by kernel_rfl),fun _=>Be (by kernel_rfl) ?_ _⟩
  clear hK' K' cp2 cf2 b3 g3 f5 d3;have cf3:=cell_of_one HU.out.cf;have g1:=a1.size;have j8:=b0.size;have j1:=g0.out.size;have i7:=HU.out.kp.size;have b5:=lt_of_block HU.out.cf;have j7:=HU.out.lt.2.1;have f0:Aj (fun k=>k=bm) X w3:=(Bc (a1.trans (b0.mono g1))).trans g0.out;have g9:=HH.out.kp.size;have f9:Ad w3 Af nf cf x:=HX.out.keep f0 fun _ ad b6 e=>by have:=(d6.out ad b6).1;omega
  have i6:=hI f9;have i2:=hI f0;clear g2 a1 f7 b0 f9 f0;go_wp2_with(at_builtin;refine Jo rfl (.tmp 32) (.tmp 34) rfl W1.heap.size (.slice A8 fs.length k8) fs.length (fs.map Part.val) rfl (HU.out.of.alloc _) ⟨w3.heap.size,0,none⟩ 1 (.slice Af nf cf) rfl (cell_one_new _ _ _) rfl (by omega) ?hz2 ?hc2)
  case hz2=>simp;omega
  case hc2=>
   intro vf' X2 a2 hg a5;obtain⟨A9,k9,rfl⟩:=Bh a2;have a7:∀k,(Value.slice A8 fs.length k8).ownBlock=some k->W1.heap.size<=k:=fun k e=>(HU.out.of.lt k e).1
   have hl:=HU.out.lt;have i4:some bf≠(Value.slice A8 fs.length k8).ownBlock:=fun e=>by have:=a7 bf e.symm;omega
   have x7:=(hg.block bf (by simp;omega) i4).trans ((Am b5).trans HU.out.cf);have c7':=cell_of_one x7;have f7':=free_of_one x7;have b4:Aj (fun k=>(Value.slice A8 fs.length k8).ownBlock=some k\/k=bf) w3 (X2.setCell ⟨bf,0,none⟩ (.slice A9 (fs.length+1) k9)):=((((Aj.refl (fun k=>(Value.slice A8 fs.length k8).ownBlock=some k) w3).alloc _).grown hg (fun k e=> .inl e)).mono fun k e=> .inl e).setCell (p:=⟨bf,0,none⟩) (.inr rfl) _
   obtain⟨p1,p2⟩:=HU.out.first (p:=(Af,nf,cf,x)) b4 (one_setCell x7) (by
     rw[List.length_append,List.length_singleton,List.map_append,List.map_singleton];exact B0 (w:=X2) a2 fun k e=>Below.heap_setCell _ _ _ _ (by have:=(a2.lt k e).1;simp;omega)) (fun k e=>by
     rcases a5 with h|h
     ·exact .inl (by rw[←h];exact e)
     ·rw[h]at e;injection e with e;exact .inr (by omega)) i6.out d6.out
   have P1:=hI p1
   have P2:Hid (∀k,Fc bm bf bo (.slice A9 (fs.length+1) k9) (.slice Ao qs.length ko) (fs++[(Af,nf,cf,x)]) qs k->Fc bm bf bo (.slice A8 fs.length k8) (.slice Ao qs.length ko) fs qs k\/X.heap.size<=k\/(0<nf∧∃ad,Af=some ad/\ad.block=k)):=fun k hk=>by
    rcases p2 k hk with h|h|h
    ·exact .inl h
    ·exact .inr (.inl (by omega))
    ·exact .inr (.inr h)
   have P3:Hid (Aj (Fc bm bf bo (.slice A8 fs.length k8) (.slice Ao qs.length ko) fs qs) X (X2.setCell ⟨bf,0,none⟩ (.slice A9 (fs.length+1) k9))):=(i2.out.mono fun k e=> .inl e).trans (b4.mono fun k e=>e.elim (fun e=> .inr (.inr (.inr (.inl e)))) (fun e=> .inr (.inl e)))
   clear p1 p2 b4 a2 hg a5 x7 cf3;go_wp2;refine bodyPost_end (results_none rfl _ _ _) rfl ?_;exact⟨⟨_,rfl⟩,P3.out, .inr ⟨_,_,a8.out,i9.out,P1.out,P2.out⟩⟩
theorem Zn:∀(xs fs:List (List Snd×List Snd)),∀p∈Dl xs fs,p∈xs\/p∈fs
 |[],fs,p,h=> .inr h
 |x::r,fs,p,h=>by
  unfold Dl at h;split at h
  ·exact(Zn r fs p h).imp (fun h=>List.mem_cons_of_mem _ h) id
  ·rcases Zn r (fs++[x]) p h with h|h
   ·exact .inl (List.mem_cons_of_mem _ h)
   ·rcases List.mem_append.1 h with h|h
    ·exact .inr h
    ·obtain rfl:p=x:=by simpa using h
     exact .inl List.mem_cons_self
def Apy (bp bm bf bo:Nat)(W1:World)(L:List (List Snd×List Snd))(i:Nat)(T:Nat->Prop)(X:World):Prop:=
 ∃vf vo fs qs D,T=Fc bm bf bo vf vo fs qs/\fs.map Part.word=(Dl (L.take i) []).map (·.1)/\qs.map Cf.data=Ds (L.take i) []/\Ku D (Dl (L.take i) [])/\fs.length<=i/\qs.length<=i/\Ef bp bm bf bo W1 i vf vo fs qs D X
theorem Aix (A:Option Addr)(n c:Nat)(xs:List Co)(As:Option Addr)(ns cs:Nat)(ss:List Snd)(k:Int)(w:World)(hx:B4 w A n c xs)(hs:Ad w As ns cs ss)(hT:Cq w)(hu:Bq ss):
  Calls Tryz.prog 48 #[.slice A n c, .slice As ns cs, .int .i64 k] w (Abj w (Kl (Ah xs) ss k)):=by
 have HX:=hI hx;have HS:=hI hs;have HT:=hI hT;have a8:=hI hu;clear hx hs hT hu;have d1:= @run_makeMap Tryz.prog;go_enter Tryz.func48,Tryz.ntmps48;go_wp2_with fail;clear d1;have hB:Below w.heap.size w ((((w.alloc (.map #[] 0)).alloc (.cells #[.map (some w.heap.size)] 157)).alloc (.cells #[.slice none 0 0] 46)).alloc (.cells #[.slice none 0 0] 47)):=bel;have hsz:((((w.alloc (.map #[] 0)).alloc (.cells #[.map (some w.heap.size)] 157)).alloc (.cells #[.slice none 0 0] 46)).alloc (.cells #[.slice none 0 0] 47)).heap.size=w.heap.size+4:=by simp
 have h0:Ef (w.heap.size+1) w.heap.size (w.heap.size+1+1) (w.heap.size+1+1+1) ((((w.alloc (.map #[] 0)).alloc (.cells #[.map (some w.heap.size)] 157)).alloc (.cells #[.slice none 0 0] 46)).alloc (.cells #[.slice none 0 0] 47)) 0 (.slice none 0 0) (.slice none 0 0) [] [] (.map [])
   ((((w.alloc (.map #[] 0)).alloc (.cells #[.map (some w.heap.size)] 157)).alloc (.cells #[.slice none 0 0] 46)).alloc (.cells #[.slice none 0 0] 47)):=
  ⟨by rw[hsz];omega,hpt,hpt,hpt,(((World.ownsMap_made w _ _ _).alloc _).alloc _).alloc _,World.ownsRow_nil _ _ _ _,World.ownsRow_nil _ _ _ _,fun p hp=>by simp[Kn]at hp,fun p hp=>by simp[Kn]at hp,fun k e=>(by cases e),Aj.refl _ _⟩
 generalize((((w.alloc (.map #[] 0)).alloc (.cells #[.map (some w.heap.size)] 157)).alloc (.cells #[.slice none 0 0] 46)).alloc (.cells #[.slice none 0 0] 47))=W1 at*;obtain⟨bp,b5⟩:∃b,b=w.heap.size+1:=⟨_,rfl⟩;obtain⟨bf,a9⟩:∃b,b=w.heap.size+1+1:=⟨_,rfl⟩;obtain⟨bo,a7⟩:∃b,b=w.heap.size+1+1+1:=⟨_,rfl⟩;rw[←a7,←a9,←b5]at h0 ⊢;obtain⟨bm,b0⟩:∃b,b=w.heap.size:=⟨_,rfl⟩;rw[←b0]at h0 ⊢;have d7:w.heap.size<=bm/\w.heap.size<=bf/\w.heap.size<=bo:=by omega
 clear b5 a9 a7 b0 hsz;have HB:=hI hB;have H0:=hI h0;clear hB h0;have b1:Hid (∀X,Aj (fun b=>b=bm\/b=bf\/b=bo) W1 X->Below w.heap.size w X):=fun X h=>HB.out.trans (h.to_below (B:=w.heap.size) (fun b hb=>by rcases hb with rfl|rfl|rfl<;>omega) HB.out.size)
 refine(U8 A n c xs As ns cs ss k 125 #[.pointer (some ⟨bp,0,none⟩), .pointer (some ⟨bo,0,none⟩), .pointer (some ⟨bf,0,none⟩)] W1 (fun i T X=>Apy bp bm bf bo W1 (Cr (Ah xs) ss k.toNat) i T X)
  (Fc bm bf bo (.slice none 0 0) (.slice none 0 0) [] []) ?hu ?h0 (enters_of Tryz.func125 (by kernel_rfl) rfl)).mono ?_
 case h0=>exact⟨_,_,[],[],_,rfl,rfl,rfl,Aen,rr,rr,H0.out⟩
 case hu=>
  refine⟨?hB, ?hlt, ?hst, ?hnd, ?hrd, ?hy⟩
  case hB=>rintro i T X ⟨vf,vo,fs,qs,D,rfl, -, -, -, -, -,h⟩;exact h.kp.size
  case hlt=>rintro i T X ⟨vf,vo,fs,qs,D,rfl, -, -, -, -, -,h⟩;exact h.lts
  case hst=>rintro i T X X' ⟨vf,vo,fs,qs,D,rfl,h1,h2,h3,h4,h5,h⟩ hk;exact⟨vf,vo,fs,qs,D,rfl,h1,h2,h3,h4,h5,h.keep hk⟩
  case hnd=>rintro i T X ⟨vf,vo,fs,qs,D,rfl, -, -, -, -, -,h⟩;exact h.nds
  case hrd=>
   rintro i T X ⟨vf,vo,fs,qs,D, -, -, -, -, -, -,h⟩;have hX:=b1.out X h.kp;exact⟨HX.out.below hX rr,HS.out.below hX rr,HT.out.below hX rr⟩
  case hy=>
   rintro i T X Af nf cf u At nt ct y hr a5 a1 d3 d2 b7 d6 ⟨vf,vo,fs,qs,D,rfl,h1,h2,h3,h4,h5,h⟩;obtain⟨d5,b3⟩:=(show True/\B1 ss=0 from⟨trivial,(Dk hr).2.2⟩);have b8:=Qb (ls:=Ah xs) (Cg b3).2.2 (Cg b3).1 a5;have hi:i<(Cr (Ah xs) ss k.toNat).length:=(List.getElem?_eq_some_iff.1 a1).1;have b4:=Vq hr a5 a8.out (List.mem_of_getElem? a1)
   have b6:∀p∈Dl ((Cr (Ah xs) ss k.toNat).take i) [],p.1.length<=4/\p.2.length<=32/\Bq p.1/\Bq p.2:=fun p hp=>by
    rcases Zn _ _ p hp with h|h
    ·exact Vq hr a5 a8.out (x:=p.1) (y:=p.2) (List.mem_of_mem_take h)
    ·simp at h
   refine(Alm bp bm bf bo W1 i vf vo fs qs D _ Af nf cf u At nt ct y X h h3 h1 d3 d2 b4.2.2.2 b4.2.1 (fun p hp=>(b6 p hp).2.2.2) (fun p hp=>(b6 p hp).1) b7 (by omega) h4 h5).mono ?_;rintro e W'' ⟨hv,hK,⟨p,vo',s,hf,d4,hW,hb⟩|⟨vf',D',hf,d0,hW,hb⟩⟩
   ·have a0:=M6 (x:=(u,y)) (P:=(Cr (Ah xs) ss k.toNat).take i) hf;have a2:=Bb _ i _ a1;rw[←a2]at a0
    exact⟨hv,hK,_,⟨vf,vo',fs,qs++[s],D,rfl,by rw[a0.2];exact h1,by rw[a0.1,List.map_append,h2,List.map_singleton,d4],by rw[a0.2];exact h3,by omega,by rw[List.length_append];simp;omega,hW⟩,
     fun b hb'=>(hb b hb').imp id fun h=>h.imp id .inl⟩
   ·have a0:=M7 (x:=(u,y)) (P:=(Cr (Ah xs) ss k.toNat).take i) hf;have a2:=Bb _ i _ a1;rw[←a2]at a0
    exact⟨hv,hK,_,⟨vf',vo,fs++[(Af,nf,cf,u)],qs,D',rfl,by rw[a0.2,List.map_append,List.map_append,h1];rfl,by rw[a0.1];exact h2,by rw[a0.2];exact d0,by rw[List.length_append];simp;omega,by omega,hW⟩,
     fun b hb'=>(hb b hb').imp id fun h=>h.imp id .inl⟩
 rintro e X ⟨rfl,i,T,⟨vf,vo,fs,qs,D, -, -,a3, -, -, -,hL⟩,hi⟩;obtain⟨Ao,ko,rfl⟩:=Bh hL.oo;have a6:=hI (b1.out X hL.kp);have co:=cell_of_one hL.co;have b9:Hid (D5 X Ao qs.length ko qs):=⟨Gz.of_own hL.oo Cf.len (by decide),fun s hs=>⟨hL.pw _ (List.mem_append.2 (.inr (List.mem_flatMap.2 ⟨s,hs,by simp⟩))),hL.pw _ (List.mem_append.2 (.inr (List.mem_flatMap.2 ⟨s,hs,by simp⟩)))⟩⟩
 obtain⟨er,a4⟩:∃er,er=C3 (Ah xs) ss k:=⟨_,rfl⟩;rw[←a4]at hi ⊢;have b2:=hI a4;clear a4;by_cases h0:er=0
 ·have h1:(er !=0)=false:=by simpa using h0
  have HM:Hid (Kl (Ah xs) ss k=(0,qs.map Cf.data)):=by
   show _=_;unfold Kl;rw[←b2.out,if_neg (by simpa using h0),a3,hi h0,List.take_length]
  clear h0 hi a3 hL;go_wp2;exact bodyPost_ret (results_tmp2 Tryz.results48 _ _ _) rfl ⟨Ao,qs.length,ko,qs,by rw[HM.out];rfl,by rw[HM.out],b9.out,a6.out⟩
 ·have h1:(er !=0)=true:=by simpa using h0
  have HM:Hid (Kl (Ah xs) ss k=(er,[])):=by show _=_;unfold Kl;rw[←b2.out,if_pos h0]
  clear h0 hi a3 hL co;go_wp2;exact bodyPost_ret (results_tmp2 Tryz.results48 _ _ _) rfl ⟨none,0,0,[],by rw[HM.out];rfl,by rw[HM.out];rfl,⟨⟨Bd.nil _ _,rfl⟩,fun s hs=>by simp at hs⟩,a6.out⟩
end Go.Proofs.YtlgliddhideflaaGreatDoor
namespace Go.Proofs.YtlgliddhideflaaGreatDoor
open Go.RowKit Go.Shelf
def Pb (p:Nat->Bool):Nat->Nat
 |0=>0
 |n+1=>Pb p n+(if p n=true then 1 else 0)
theorem Xs {p q:Nat->Bool}:∀n,(∀j,j<n->q j=p j)->Pb q n=Pb p n
 |0,_=>rfl
 |n+1,h=>by unfold Pb;rw[Xs n fun j hj=>h j (by omega),h n (by omega)]
theorem Aaj {p q:Nat->Bool}{i:Nat}(hp:p i=false)(hq:q i=true)(h:∀j,j≠i->q j=p j):∀n,i<n->Pb q n=Pb p n+1
 |0,hi=>by omega
 |n+1,hi=>by
  unfold Pb;by_cases e:i=n
  ·subst e;rw[Xs (p:=p) i fun j hj=>h j (by omega),hp,hq];simp
  ·rw[Aaj hp hq h n (by omega),h n (Ne.symm e)];omega
theorem Aex (p:Nat->Bool):∀n,Pb p n<=n
 |0=>rr
 |n+1=>by unfold Pb;have:=Aex p n;split<;>omega
theorem Aak {p:Nat->Bool}:∀n,Pb p n=n→∀i,i<n->p i=true
 |0,_,i,hi=>by omega
 |n+1,h,i,hi=>by
  unfold Pb at h;have h1:=Aex p n;by_cases hn:p n=true
  ·rw[if_pos hn]at h;rcases Nat.lt_or_ge i n with h2|h2
   ·exact Aak n (by omega) i h2
   ·obtain rfl:i=n:=by omega
    exact hn
  ·rw[if_neg hn]at h;omega
section
variable {P:Program}{ops:Array Oper}{Q:Exit->Act->World->Prop}{md:Region.Mode}
def Ec (ops:Array Oper)(i:Nat):Option Tmp:=(ops[i]?).bind (·.dst)
def Gl (ops:Array Oper)(vs:Nat->Value):Nat->Array Value->Array Value
 |0,t=>t
 |n+1,t=>match Ec ops n with|some d=>(Gl ops vs n t).setIfInBounds d (vs n)|none=>Gl ops vs n t
theorem Kf (vs:Nat->Value):∀(n:Nat) (t:Array Value),(Gl ops vs n t).size=t.size
 |0,_=>rfl
 |n+1,t=>by
  unfold Gl;split
  ·rw[Array.size_setIfInBounds,Kf vs n t]
  ·exact Kf vs n t
theorem Pt (vs:Nat->Value){s:Nat}:∀(n:Nat) (t:Array Value),(∀i,i<n->Ec ops i≠some s)->(Gl ops vs n t)[s]? =t[s]?
 |0,_,_=>rfl
 |n+1,t,h=>by
  unfold Gl;have ih:=Pt vs n t fun i hi=>h i (by omega)
  split
  ·rename_i d hd
   have a0:d≠s:=fun e=>h n (by omega) (by rw[hd,e])
   rw[Array.getElem?_setIfInBounds_ne a0];exact ih
  ·exact ih
theorem Rq (hd:∀i j s,Ec ops i=some s->Ec ops j=some s->i=j)(vs:Nat->Value){i s:Nat}(hi:Ec ops i=some s):∀(n:Nat) (t:Array Value),i<n->s<t.size->(Gl ops vs n t)[s]? =some (vs i)
 |0,_,h,_=>by omega
 |n+1,t,h,hs=>by
  unfold Gl;by_cases e:i=n
  ·subst e;rw[hi];show((Gl ops vs i t).setIfInBounds s (vs i))[s]? =_;rw[Array.getElem?_setIfInBounds_self_of_lt (by rw[Kf];exact hs)]
  ·have ih:=Rq hd vs hi n t (by omega) hs;split
   ·rename_i d hdn
    have a0:d≠s:=fun e'=>e (hd i n s hi (by rw[hdn,e']))
    rw[Array.getElem?_setIfInBounds_ne a0];exact ih
   ·exact ih
structure Ahx (ops:Array Oper)(Φ:Nat->Value->World->Prop)(a0:Act)(w0:World)(vs:Nat->Value)(listed:Array Bool)(a:Act)(w:World):Prop where
 df:a.defers=a0.defers
 sz:a.tmps.size=a0.tmps.size
 ls:listed.size=ops.size
 other:∀s,(∀i,listed.getD i false=true->Ec ops i≠some s)->a.tmps[s]? =a0.tmps[s]?
 at_:∀i s,listed.getD i false=true->Ec ops i=some s->s<a0.tmps.size->a.tmps[s]? =some (vs i)
 is:∀i,listed.getD i false=true->Φ i (vs i) w
 bw:Below w0.heap.size w0 w
def Ek (md:Region.Mode)(ops:Array Oper)(Φ:Nat->Value->World->Prop)(a0:Act)(o:Oper)(a:Act)(w:World):Prop:=
 (∀j,(∃e∈o.after,Region.binds md e=true/\e.on=j)→∃v,Φ j v w∧∀s,Ec ops j=some s->s<a0.tmps.size->a.tmps[s]? =some v)∧
 (∀s,(∀j,Ec ops j≠some s)->a.tmps[s]? =a0.tmps[s]?)/\a.tmps.size=a0.tmps.size
theorem Ny {listed:Array Bool}{i:Nat}(h:i<listed.size)(d:Bool):(listed.setIfInBounds i true).getD i d=true:=by
 simp[Array.getD_eq_getD_getElem?,h]
theorem Afr (n m:Nat):Pb (fun i=>(Array.replicate m false).getD i false) n=0:=by
 induction n with
 |zero=>rfl
 |succ n ih=>
  unfold Pb;rw[ih]
  have:(Array.replicate m false).getD n false=false:=by
   simp only[Array.getD_eq_getD_getElem?,Array.getElem?_replicate];split<;>rfl
  rw[this];rfl
end
end Go.Proofs.YtlgliddhideflaaGreatDoor
