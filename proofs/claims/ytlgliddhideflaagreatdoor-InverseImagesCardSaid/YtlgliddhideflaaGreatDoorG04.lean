/-
  The parts of compiled patterns that have nothing below them: sounds and edges.
  The parts of compiled patterns that have others below them.
  An alternative of compiled patterns.
  A repetition of compiled patterns.
  Compiled patterns in memory, and what their method returns.
-/
import Derived.Test.YtlgliddhideflaaGreatDoorG03
set_option linter.all false
set_option maxRecDepth 100000
set_option maxHeartbeats 4000000
namespace Go.Proofs.YtlgliddhideflaaGreatDoor
open Go.RowKit
def K8 (w:World)(r:List Nat)(e:Ending)(w':World):Prop:=e= .returned (.agg (En r))/\Below w.heap.size w w'
def Nv (p m:Int)(neg:Bool)(s:Snd):Bool:=(bits .or .u32 (bits .andNot .u32 p s.1) (bits .andNot .u32 m s.2)==0) !=neg
def Jw (p m:Int)(neg:Bool)(ws:List Snd)(j:Nat):List Nat:=
 (List.range 33).map fun k=>if k<j then(match ws[k]? with|some s=>if Nv p m neg s then 2^(k+1)else 0|none=>0)else 0
def Tx (p m:Int)(neg:Bool)(ws:List Snd):List Nat:=Jw p m neg ws 33
theorem Adk (p m:Int)(neg:Bool)(ws:List Snd):Jw p m neg ws 0=B8:=by
 have h:Jw p m neg ws 0=(List.range 33).map fun _=>0:=List.map_congr_left fun j _=>by rw[if_neg (by omega)]
 rw[h];rfl
theorem Agc (p m:Int)(neg:Bool)(ws:List Snd):Jw p m neg ws ws.length=Tx p m neg ws:=by
 unfold Tx Jw;refine List.map_congr_left fun j hj=> ?_
 have hj:=List.mem_range.1 hj;by_cases h:j<ws.length
 ·rw[if_pos h,if_pos hj]
 ·rw[if_neg h,if_pos hj,List.getElem?_eq_none (by omega)]
theorem Vt (p m:Int)(neg:Bool)(ws:List Snd)(k:Nat)(s:Snd)(hs:ws[k]? =some s)(hk:k<33):
  Jw p m neg ws (k+1)=if Nv p m neg s then(Jw p m neg ws k).set k (2^(k+1))else Jw p m neg ws k:=by
 split
 ·rename_i h
  refine(Jr _ _ _ _ _ ?_ ?_).symm
  ·rw[if_pos (by omega),hs];simp[h]
  ·intro j hj;by_cases h3:j<k
   ·rw[if_pos h3,if_pos (by omega)]
   ·rw[if_neg h3,if_neg (by omega)]
 ·rename_i h
  unfold Jw;refine List.map_congr_left fun j _=> ?_
  by_cases e:j=k
  ·subst e;rw[if_pos (by omega),if_neg (by omega),hs];simp[h]
  ·by_cases h3:j<k
   ·rw[if_pos h3,if_pos (by omega)]
   ·rw[if_neg h3,if_neg (by omega)]
theorem Aln (p m:Int)(neg:Bool)(A:Option Addr)(n c:Nat)(ws:List Snd)(w:World)(hw:Ad w A n c ws)(hn:n<=32):
  Calls Tryz.prog 328 #[.agg #[.int .u32 p, .int .u32 m, .bool neg], .slice A n c] w (K8 w (Tx p m neg ws)):=by
 have HW:=hI hw;clear hw;go_enter Tryz.func328,Tryz.ntmps328;go_wp2
 go_loopw [5,6,9] (fun _ _ i wr=>∃k:Nat,k<=n/\i= .int .i64 k/\Hid (wr.heap[w.heap.size]? =some (.cells #[.int .u32 p, .int .u32 m, .bool neg] 320 (0,0)))∧
  Hid (Ce wr (w.heap.size+1) (Jw p m neg ws k))/\Below w.heap.size w wr) (fun _ _ i _=>n-(intOf i).toNat)
 case atStart=>exact⟨0,Nat.zero_le _,rfl,hpt,by rw[Adk];exact⟨hpt,rfl⟩,bel⟩
 case round=>
  obtain⟨k,hk,rfl,hb,hr,hB⟩:=hrel;have b2:=hB.size;have a8:=hr.out.lt;by_cases hlt:k<n
  ·obtain⟨b,off,sp,sm,rfl,b3,a3,b4,b5⟩:=(HW.out.below hB rr).at_ hlt;have HK:=hI a3;clear a3;have d0:=cell_of_row wr w.heap.size 0 _ _ _ hb.out;have d1:=cell_of_row wr w.heap.size 1 _ _ _ hb.out;have d2:=cell_of_row wr w.heap.size 2 _ _ _ hb.out;simp only[List.getElem?_toArray,List.getElem?_cons_zero,List.getElem?_cons_succ]at d0 d1 d2;have b1:((k:Nat):Int)<33:=by omega
   have hf:=hr.out.frozen k;have hc:=hr.out.get (k:=k) (s:=0) (by unfold Jw;rw[List.getElem?_map,List.getElem?_range (by omega)];simp);have b7:w.heap.size<wr.heap.size:=by omega
   have a5:w.heap.size+1<wr.heap.size:=a8;by_cases hh:((bits .or .u32 (bits .andNot .u32 p sp) (bits .andNot .u32 m sm)==0) !=neg)=true
   ·have a0:=Vt p m neg ws k (sp,sm) HK.out (by omega);rw[if_pos (show Nv p m neg (sp,sm)=true from hh)]at a0;have a2:=hI a0;clear a0;have b0:=hI (J8 (k+1) (by omega));have a7:(!(bits .or .u32 (bits .andNot .u32 p sp) (bits .andNot .u32 m sm)==0)==neg)=true:=by cases neg<;>simpa using hh
    clear hh;go_wp2
    go_roundw
    case rel=>
     refine⟨k+1,by omega,by go_num, ?_, ?_,bel⟩
     ·exact(Below.heap_alloc _ _ _ (by simp;omega)).trans ((Below.heap_setCell _ _ _ _ (by simp)).trans hb.out)
     ·have h1:=(hr.out.set (k:=k) (s:=2^(k+1))).alloc (.cells #[.int .u32 sp, .int .u32 sm] 24);rw[a2.out,b0.out];exact h1
    case measure=>simp[intOf];omega
   ·have a4:((bits .or .u32 (bits .andNot .u32 p sp) (bits .andNot .u32 m sm)==0) !=neg)=false:=by simpa using hh
    have a0:=Vt p m neg ws k (sp,sm) HK.out (by omega);rw[if_neg (show¬Nv p m neg (sp,sm)=true from hh)]at a0;have a2:=hI a0;clear a0 hh;have a7:(!(bits .or .u32 (bits .andNot .u32 p sp) (bits .andNot .u32 m sm)==0)==neg)=false:=by cases neg<;>simpa using a4
    clear a4;go_wp2
    go_roundw
    case rel=>
     refine⟨k+1,by omega,by go_num, ?_, ?_,bel⟩
     ·exact(Below.heap_alloc _ _ _ (by omega)).trans hb.out
     ·have h1:=hr.out.alloc (.cells #[.int .u32 sp, .int .u32 sm] 24);rw[a2.out];exact h1
    case measure=>simp[intOf];omega
  ·obtain rfl:k=n:=by omega
   have a1:Jw p m neg ws k=Tx p m neg ws:=by rw[←HW.out.len];exact Agc p m neg ws
   have HA:=hI a1;clear a1
   go_wp2_with(first
    |(refine Fh rfl (.tmp 4) rfl (w.heap.size+1) _ rfl hr.out ?_)
    |(refine B9 rfl (.tmp 4) (.tmp 37) rfl (w.heap.size+1) _ _ rfl rfl hr.out hr.out.2 ?_;intro w1 a9 a6 b6))
   exact bodyPost_ret (Eg Tryz.results328 _ _ (w.heap.size+1) _ rfl a9) rfl ⟨by rw[HA.out],Bz hB a6 (by omega) hB.size⟩
def F0 (a:Nat):List Nat:=B8.set a (2^a)
theorem Hp (a:Nat):(F0 a).length=33:=by unfold F0;rw[List.length_set];rfl
theorem Ye (a:Nat)(ha:a<=32):En (F0 a)=((B8.map fun(s:Nat)=>Value.int .u64 (s:Int)).set a (.int .u64 (IntKind.u64.wrap (2^a)))).toArray:=by
 unfold En F0;rw[List.map_set,J8 a (by omega)]
theorem Ai5 (e:Bool)(A:Option Addr)(n c:Nat)(w:World)(hn:n<=32):
  Calls Tryz.prog 329 #[.agg #[.bool e], .slice A n c] w (K8 w (F0 (if e then n else 0))):=by
 cases e
 ·go_enter Tryz.func329,Tryz.ntmps329
  go_wp2_with(first
    |(refine Fh rfl (.tmp 4) rfl _ (F0 0) rfl ?hr ?_)
    |(refine B9 rfl (.tmp 4) (.tmp 14) rfl _ (F0 0) (F0 0) rfl rfl ?hs rfl ?hc))
  case hr=>exact⟨hpt,rfl⟩
  case hs=>exact⟨hpt,rfl⟩
  case hc=>
   intro w1 a1 a0 a3;go_wp2;exact bodyPost_ret (Eg Tryz.results329 _ _ (w.heap.size+1) _ rfl a1) rfl ⟨rfl,Bz bel a0 (by omega) (by simp;omega)⟩
 ·go_enter Tryz.func329,Tryz.ntmps329;have a2:((n:Nat):Int)<33:=by omega
  have hz:([.int .u64 0, .int .u64 0, .int .u64 0, .int .u64 0, .int .u64 0, .int .u64 0, .int .u64 0, .int .u64 0, .int .u64 0, .int .u64 0, .int .u64 0, .int .u64 0, .int .u64 0, .int .u64 0, .int .u64 0, .int .u64 0, .int .u64 0, .int .u64 0, .int .u64 0, .int .u64 0, .int .u64 0, .int .u64 0, .int .u64 0, .int .u64 0, .int .u64 0, .int .u64 0, .int .u64 0, .int .u64 0, .int .u64 0, .int .u64 0, .int .u64 0, .int .u64 0, .int .u64 0]:List Value)[n]? =some (.int .u64 0):=by
   rw[show([.int .u64 0, .int .u64 0, .int .u64 0, .int .u64 0, .int .u64 0, .int .u64 0, .int .u64 0, .int .u64 0, .int .u64 0, .int .u64 0, .int .u64 0, .int .u64 0, .int .u64 0, .int .u64 0, .int .u64 0, .int .u64 0, .int .u64 0, .int .u64 0, .int .u64 0, .int .u64 0, .int .u64 0, .int .u64 0, .int .u64 0, .int .u64 0, .int .u64 0, .int .u64 0, .int .u64 0, .int .u64 0, .int .u64 0, .int .u64 0, .int .u64 0, .int .u64 0, .int .u64 0]:List Value)=List.replicate 33 (.int .u64 0)from rfl,List.getElem?_replicate,if_pos (by omega)]
  go_wp2_with(first
    |(refine Fh rfl (.tmp 4) rfl _ (F0 n) rfl ?hr ?_)
    |(refine B9 rfl (.tmp 4) (.tmp 14) rfl _ (F0 n) (F0 n) rfl rfl ?hs (Hp n) ?hc))
  case hr=>exact⟨by rw[Ye n hn];exact Ak (by simp),Hp n⟩
  case hs=>exact⟨by rw[Ye n hn];exact Ak (by simp),Hp n⟩
  case hc=>
   intro w1 a1 a0 a3;go_wp2;exact bodyPost_ret (Eg Tryz.results329 _ _ (w.heap.size+1) _ rfl a1) rfl ⟨rfl,Bz bel a0 (by omega) (by simp;omega)⟩
def Ai6 (v:Value)(w:World)(A:Option Addr)(n c:Nat)(r:List Nat):Prop:=
 (∃x,v= .iface 320 (.agg x)/\Calls Tryz.prog 328 #[.agg x, .slice A n c] w (K8 w r))∨
 (∃x,v= .iface 322 (.agg x)/\Calls Tryz.prog 329 #[.agg x, .slice A n c] w (K8 w r))∨
 (∃x,v= .iface 324 (.agg x)/\Calls Tryz.prog 330 #[.agg x, .slice A n c] w (K8 w r))∨
 (∃x,v= .iface 326 (.agg x)/\Calls Tryz.prog 332 #[.agg x, .slice A n c] w (K8 w r))∨
 (∃x,v= .iface 327 (.agg x)/\Calls Tryz.prog 335 #[.agg x, .slice A n c] w (K8 w r))
theorem Qm (rs:List (List Nat))(hs:∀r∈rs,Bw r)(a:List Nat)(ha:Bw a):Bw (rs.foldl Cx a):=by
 induction rs generalizing a with
 |nil=>exact ha
 |cons r rs ih=>exact ih (fun x hx=>hs x (List.mem_cons_of_mem _ hx)) _ (Dz _ _ (hs r (List.mem_cons_self ..)))
theorem Abk (n:Nat)(rs:List (List Nat))(k:Nat)(hs:∀r∈rs,Bw r):Bw ((rs.take k).foldl Cx (idR n)):=
 Qm _ (fun r hr=>hs r (List.mem_of_mem_take hr)) _ (E7 n)
theorem Apz (A':Option Addr)(n' c':Nat)(cvs:List Value)(rs:List (List Nat))(A:Option Addr)(n c:Nat)(w:World)(hcv:Bd w A' n' c' 1 cvs)(hlen:rs.length=cvs.length)
  (a7:∀W,Below w.heap.size w W→∀(i:Nat) v r,cvs[i]? =some v->rs[i]? =some r->Ai6 v W A n c r) (hrl:∀r∈rs,r.length=33/\Bw r) (hn:n<=32) (hT:Cq w):
  Calls Tryz.prog 335 #[.agg #[.slice A' n' c'], .slice A n c] w (K8 w (rs.foldl Cx (idR n))):=by
 have hm:n'<=9223372036854775807:=by have h1:=hcv.2.1;have h2:=hcv.2.2.1;unfold maxLen at h2;omega
 have HC:=hI hcv;clear hcv;have HL:=hI hlen;clear hlen;have HI:=hI a7;clear a7;have HR:=hI hrl;clear hrl;have HT:=hI hT;clear hT;go_enter Tryz.func335,Tryz.ntmps335
 go_wp2_with(first
  |(go_at_call 333;refine(Po n _ hn).mono ?_;rintro e w1 ⟨rfl,a9⟩;have g0:=Df a9;(try simp only[World.size_alloc,World.size_drew,World.size_setCell]at g0)
    have d4:w1.heap[w.heap.size]? =some (.cells #[.slice A' n' c'] 327 (0,0)):=(a9.block _ sd).trans hpt;have d8:Ce w1 (w.heap.size+1) B8:=⟨(a9.block _ sd).trans hpt,rfl⟩;have b4:Below w.heap.size w w1:=bel;clear a9)
  |(refine B9 rfl (.tmp 5) (.tmp 11) rfl _ B8 (idR n) rfl rfl ?hr (H8 n) ?hc))
 case hr=>exact⟨hpt,rfl⟩
 case hc=>
  intro w2 d1 a8 g7;have b1:w2.heap[w.heap.size]? =some (.cells #[.slice A' n' c'] 327 (0,0)):=(a8.block _ sd (by omega)).trans ((Below.heap_alloc _ _ _ (by omega)).trans d4);have b3:Hid (Ce w2 (w.heap.size+1) B8):=(d8.alloc _).keep1 a8 (by omega);have f2:Below w.heap.size w w2:=Bz (b4.alloc b4.size _) a8 (by omega) sd;have f3:Hid (Ce w2 w1.heap.size (idR n)):=d1;have i4:w1.heap.size<w2.heap.size:=by omega
  have i7:=cell_of_one b1;have f1:=hI b1;clear d4 d8 a8 g7 d1 b4 b1;go_wp2
  go_loopw [15] (fun i wr=>∃(k:Nat),k<=n'/\i= .int .i64 k/\Hid (wr.heap[w.heap.size]? =some (.cells #[.slice A' n' c'] 327 (0,0)))∧
   Hid (Ce wr (w.heap.size+1) B8)/\Hid (Ce wr w1.heap.size ((rs.take k).foldl Cx (idR n)))/\Below w.heap.size w wr) (fun i _=>n'-(intOf i).toNat)
  case atStart=>exact⟨0,Nat.zero_le _,rfl,f1,b3,f3,f2⟩
  case round=>
   obtain⟨k,hk,rfl,hb,hz,ho,hB⟩:=hrel;have g8:=hB.size;have i6:=ho.out.lt;have g5:=hI (HT.out.below hB rr);by_cases hlt:k<n'
   ·obtain⟨b,off,v,rfl,g9,d6,i1⟩:=(HC.out.below hB rr).at1 hlt;have b0:k<rs.length:=by rw[HL.out,HC.out.1];omega
    have d7:rs[k]? =some rs[k]:=List.getElem?_eq_getElem b0;have a7:=HI.out wr hB k v rs[k] d6 d7
    have d2:(rs.take (k+1)).foldl Cx (idR n)=Cx ((rs.take k).foldl Cx (idR n)) rs[k]:=by
     rw[List.take_succ_eq_append_getElem b0,List.foldl_append];rfl
    have a5:=HR.out rs[k] (List.getElem_mem b0);have d3:=hI d2;have b7:=hI a5;generalize rs[k]=r at a7 d3 b7;clear d6 d7 d2 a5;rcases a7 with⟨x,rfl,a0⟩|⟨x,rfl,a0⟩|⟨x,rfl,a0⟩|⟨x,rfl,a0⟩|⟨x,rfl,a0⟩
    all_goals
     have a1:=hI a0;clear a0;go_wp2_with fail;refine a1.out.mono ?_;rintro e w3 ⟨rfl,a2⟩;have f6:=a2.size;have b8:=hI ((a2.block _ (by omega)).trans hb.out);have f8:=hI (ho.out.below a2 rr);have g2:=hI (hz.out.below a2 rr);have i2:=hI (g5.out.below a2 rr);have d5:Below w.heap.size w w3:=bel;clear a2 a1;go_wp2_with(refine B9 rfl (.tmp 8) (.tmp 21) rfl _ B8 r rfl rfl ?hr b7.out.1 ?hc)
     case hr=>exact⟨hpt,rfl⟩
     case hc=>
      intro w4 b5 a6 g6;have b9:=hI ((a6.block _ sd (by omega)).trans ((Below.heap_alloc _ _ _ (by omega)).trans b8.out));have f0:=hI ((f8.out.alloc (.cells ((B8.map fun(s:Nat)=>Value.int .u64 (s:Int)).toArray) 306)).keep1 a6 (by omega));have f5:=hI ((g2.out.alloc (.cells ((B8.map fun(s:Nat)=>Value.int .u64 (s:Int)).toArray) 306)).keep1 a6 (by omega));have f7:=hI b5;have g4:Below w.heap.size w w4:=Bz (d5.alloc d5.size _) a6 (by omega) sd;have f9:Hid (Cq w4):=HT.out.below g4 rr;have i0:w3.heap.size<w4.heap.size:=b5.lt;clear b5 a6 g6;go_wp2_with fail;refine(Sv w1.heap.size w3.heap.size ((rs.take k).foldl Cx (idR n)) r _ f0.out f7.out f9.out (Abk n rs k fun r hr=>(HR.out r hr).2) b7.out.2).mono ?_;rintro e w5 ⟨rfl,a3⟩;have i5:=a3.size;have b6:=hI ((a3.block _ (by omega)).trans b9.out);have d9:=hI (f0.out.below a3 rr);have g1:=hI (f5.out.below a3 rr);have d0:Below w.heap.size w w5:=bel;clear a3;go_wp2_with(refine B9 rfl (.tmp 5) (.tmp 22) rfl _ _ _ rfl rfl d9.out (by rw[Dj];exact d9.out.2) ?hd)
      case hd=>
       intro w6 g3 b2 i3;go_wp2
       go_roundw
       case rel=>
        refine⟨k+1,by omega,by go_num,(b2.block _ (by omega) (by omega)).trans b6.out,g1.out.keep1 b2 (by omega), ?_,Bz d0 b2 (by omega) d0.size⟩;rw[d3.out];exact g3
       case measure=>simp[intOf];omega
   ·obtain rfl:k=n':=by omega
    have a4:rs.take k=rs:=List.take_of_length_le (by rw[HL.out,HC.out.1];omega);have HA:=hI a4;clear a4
    go_wp2_with(first
     |(refine Fh rfl (.tmp 5) rfl w1.heap.size _ rfl ho.out ?_)
     |(refine B9 rfl (.tmp 4) (.tmp 24) rfl (w.heap.size+1) B8 _ rfl rfl hz.out ho.out.2 ?hd))
    case hd=>
     intro w3 b3 f4 f6;go_wp2;exact bodyPost_ret (Eg Tryz.results335 _ _ (w.heap.size+1) _ rfl b3) rfl ⟨by rw[HA.out],Bz hB f4 (by omega) hB.size⟩
theorem Uq (x y:List Nat)(hx:x.length=33)(hy:y.length=33):(orR x y).length=33:=by
 unfold orR;rw[List.length_zipWith];omega
theorem Gg (x y:List Nat)(hx:Bw x)(hy:Bw y):Bw (orR x y):=by
 intro s hs;obtain⟨i,hi,rfl⟩:=List.getElem_of_mem hs;unfold orR at hi ⊢;rw[List.getElem_zipWith];exact Wk (hx _ (List.getElem_mem _)) (hy _ (List.getElem_mem _))
theorem Kq:Bw B8:=by
 intro s hs;rw[show s=0 from List.eq_of_mem_replicate (by rw[show B8=List.replicate 33 0 from rfl]at hs;exact hs)];unfold C7;omega
theorem Mo (rs:List (List Nat))(hs:∀r∈rs,Bw r)(a:List Nat)(ha:Bw a):Bw (rs.foldl orR a):=by
 induction rs generalizing a with
 |nil=>exact ha
 |cons r rs ih=>exact ih (fun x hx=>hs x (List.mem_cons_of_mem _ hx)) _ (Gg _ _ ha (hs r (List.mem_cons_self ..)))
theorem Vu (rs:List (List Nat))(k:Nat)(hs:∀r∈rs,Bw r):Bw ((rs.take k).foldl orR B8):=
 Mo _ (fun r hr=>hs r (List.mem_of_mem_take hr)) _ Kq
theorem Ap0 (A':Option Addr)(n' c':Nat)(cvs:List Value)(rs:List (List Nat))(A:Option Addr)(n c:Nat)(w:World)(hcv:Bd w A' n' c' 1 cvs)(hlen:rs.length=cvs.length)
  (a4:∀W,Below w.heap.size w W→∀(i:Nat) v r,cvs[i]? =some v->rs[i]? =some r->Ai6 v W A n c r) (hrl:∀r∈rs,r.length=33/\Bw r):
  Calls Tryz.prog 330 #[.agg #[.slice A' n' c'], .slice A n c] w (K8 w (rs.foldl orR B8)):=by
 have hm:n'<=9223372036854775807:=by have h1:=hcv.2.1;have h2:=hcv.2.2.1;unfold maxLen at h2;omega
 have HC:=hI hcv;clear hcv;have HL:=hI hlen;clear hlen;have HI:=hI a4;clear a4;have HR:=hI hrl;clear hrl;go_enter Tryz.func330,Tryz.ntmps330;go_wp2
 go_loopw [11] (fun i wr=>∃(k:Nat),k<=n'/\i= .int .i64 k/\Hid (Ce wr (w.heap.size+1) ((rs.take k).foldl orR B8))/\Below w.heap.size w wr) (fun i _=>n'-(intOf i).toNat)
 case atStart=>exact⟨0,Nat.zero_le _,rfl,⟨hpt,rfl⟩,bel⟩
 case round=>
  obtain⟨k,hk,rfl,hz,hB⟩:=hrel;have d7:=hB.size;have f2:=hz.out.lt;by_cases hlt:k<n'
  ·obtain⟨b,off,v,rfl,d8,b4,f0⟩:=(HC.out.below hB rr).at1 hlt;have a5:k<rs.length:=by rw[HL.out,HC.out.1];omega
   have b5:rs[k]? =some rs[k]:=List.getElem?_eq_getElem a5;have a4:=HI.out wr hB k v rs[k] b4 b5
   have b1:(rs.take (k+1)).foldl orR B8=orR ((rs.take k).foldl orR B8) rs[k]:=by
    rw[List.take_succ_eq_append_getElem a5,List.foldl_append];rfl
   have a3:=HR.out rs[k] (List.getElem_mem a5);have b2:=hI b1;have a7:=hI a3;generalize rs[k]=r at a4 b2 a7;clear b4 b5 b1 a3;rcases a4 with⟨x,rfl,a0⟩|⟨x,rfl,a0⟩|⟨x,rfl,a0⟩|⟨x,rfl,a0⟩|⟨x,rfl,a0⟩
   all_goals
    have a1:=hI a0;clear a0;go_wp2_with fail;refine a1.out.mono ?_;rintro e w3 ⟨rfl,a9⟩;have d3:=a9.size;have d5:=hI (hz.out.below a9 rr);have b3:Below w.heap.size w w3:=bel;clear a9 a1;go_wp2_with(refine B9 rfl (.tmp 7) (.tmp 17) rfl _ B8 r rfl rfl ?hr a7.out.1 ?hc)
    case hr=>exact⟨hpt,rfl⟩
    case hc=>
     intro w4 a6 a8 d6;have d2:=hI ((d5.out.alloc (.cells ((B8.map fun(s:Nat)=>Value.int .u64 (s:Int)).toArray) 306)).keep1 a8 (by omega));have d4:=hI a6;have b6:Below w.heap.size w w4:=Bz (b3.alloc b3.size _) a8 (by omega) sd;have d9:w3.heap.size<w4.heap.size:=a6.lt;clear a6 a8 d6;go_wp2_with fail;refine(Aqb (w.heap.size+1) w3.heap.size ((rs.take k).foldl orR B8) r _ d2.out d4.out (by omega) (Vu rs k fun r hr=>(HR.out r hr).2) a7.out.2).mono ?_;rintro e w5 ⟨rfl,b7,b0,f1⟩;have b9:=hI b7;have b8:Below w.heap.size w w5:=Bz b6 b0 (by omega) b6.size;clear b7 b0;go_wp2
     go_roundw
     case rel=>
      refine⟨k+1,by omega,by go_num, ?_,b8⟩;rw[b2.out];exact b9.out
     case measure=>simp[intOf];omega
  ·obtain rfl:k=n':=by omega
   have a2:rs.take k=rs:=List.take_of_length_le (by rw[HL.out,HC.out.1];omega);have HA:=hI a2;clear a2
   go_wp2_with(first
    |(refine Fh rfl (.tmp 4) rfl (w.heap.size+1) _ rfl hz.out ?_)
    |(refine B9 rfl (.tmp 4) (.tmp 20) rfl (w.heap.size+1) _ _ rfl rfl hz.out hz.out.2 ?hd))
   case hd=>
    intro w3 d0 d1 d3;go_wp2;exact bodyPost_ret (Eg Tryz.results330 _ _ (w.heap.size+1) _ rfl d0) rfl ⟨by rw[HA.out],Bz hB d1 (by omega) hB.size⟩
theorem Ai7 (f:Nat)(x:List Nat)(k:Nat)(out:List Nat)(ho:out.length=33):(M8 f x k out).length=33:=by
 induction f generalizing x k out with
 |zero=>exact ho
 |succ f ih=>
  simp only[M8];split
  ·exact ho
  ·refine ih _ _ _ ?_;split
   ·rw[Dj];exact ho
   ·exact ho
theorem Lq (x:List Nat)(k n:Nat):(J9 x k n).length=33:=Ai7 _ _ _ _ (H8 n)
theorem Adl (f:Nat)(x:List Nat)(k:Nat)(out:List Nat)(hx:Bw x)(ho:Bw out):Bw (M8 f x k out):=by
 induction f generalizing x k out with
 |zero=>exact ho
 |succ f ih=>
  simp only[M8];split
  ·exact ho
  ·refine ih _ _ _ (Dz _ _ hx) ?_;split
   ·exact Dz _ _ hx
   ·exact ho
theorem Jy (x:List Nat)(k n:Nat)(hx:Bw x):Bw (J9 x k n):=Adl _ _ _ _ hx (E7 n)
def Fu (lo:Nat)(hi:Int)(n:Nat):Nat:=if hi<0 then n else(hi-lo).toNat
def Pf (r:List Nat)(lo:Nat)(hi:Int)(n:Nat):List Nat:=Cx (J9 r lo n) (J9 (orR r (idR n)) (Fu lo hi n) n)
theorem Ap1 (v:Value)(lo:Nat)(hi:Int)(r:List Nat)(A:Option Addr)(n c:Nat)(w:World)
  (g2:∀W,Below w.heap.size w W->Ai6 v W A n c r) (hrl:r.length=33/\Bw r) (hlo:lo<=64) (hhi:hi<0\/(lo:Int)<=hi/\hi<=64) (hn:n<=32) (hT:Cq w):
  Calls Tryz.prog 332 #[.agg #[v, .int .i64 (lo:Int), .int .i64 hi], .slice A n c] w (K8 w (Pf r lo hi n)):=by
 have HI:=hI g2;clear g2;have HR:=hI hrl;clear hrl;have HT:=hI hT;clear hT;have j9:Below w.heap.size w ((w.alloc (.cells #[v, .int .i64 (lo:Int), .int .i64 hi] 326)).alloc (.cells ((B8.map fun(s:Nat)=>Value.int .u64 (s:Int)).toArray) 306)):=bel;have g2:=HI.out _ j9;clear j9;rcases g2 with⟨x,rfl,a0⟩|⟨x,rfl,a0⟩|⟨x,rfl,a0⟩|⟨x,rfl,a0⟩|⟨x,rfl,a0⟩
 all_goals
  have b4:=hI a0;clear a0;go_enter Tryz.func332,Tryz.ntmps332;go_wp2_with fail;refine b4.out.mono ?_;rintro e w1 ⟨rfl,g4⟩;have m4:=g4.size;simp only[World.size_alloc]at m4;have k9:=hI ((g4.block w.heap.size sd).trans (show _=some (.cells #[_, .int .i64 (lo:Int), .int .i64 hi] 326 (0,0))from hpt));have g9:Hid (Ce w1 (w.heap.size+1) B8):=⟨(g4.block _ sd).trans hpt,rfl⟩;have j0:Below w.heap.size w w1:=bel;clear g4 b4;go_wp2_with(refine B9 rfl (.tmp 5) (.tmp 13) rfl _ B8 r rfl rfl ?hr HR.out.1 ?hc)
  case hr=>exact⟨hpt,rfl⟩
  case hc=>
   intro w2 g6 g1 m6;have b5:=hI g6;have i0:=hI ((g1.block w.heap.size sd (by omega)).trans ((Below.heap_alloc _ _ _ (by omega)).trans k9.out));have g5:=hI ((g9.out.alloc (.cells ((B8.map fun(s:Nat)=>Value.int .u64 (s:Int)).toArray) 306)).keep1 g1 (by omega));have m1:Below w.heap.size w w2:=Bz (j0.alloc j0.size _) g1 (by omega) sd;have m9:w1.heap.size<w2.heap.size:=g6.lt;clear g6 g1 m6;have d1:=cell_of_row w2 w.heap.size 1 _ _ _ i0.out;have d2:=cell_of_row w2 w.heap.size 2 _ _ _ i0.out;simp only[List.getElem?_toArray,List.getElem?_cons_zero,List.getElem?_cons_succ]at d1 d2;have k5:Hid (Cq w2):=HT.out.below m1 rr;go_wp2_with(refine Fh rfl (.tmp 5) rfl w1.heap.size r rfl b5.out ?_);refine(Z5 r lo n _ HR.out.1 HR.out.2 hlo hn k5.out).mono ?_;rintro e w3 ⟨rfl,f0⟩;clear d1 d2;have o5:=f0.size;have m8:=hI ((f0.block w.heap.size (by omega)).trans i0.out);have i5:=hI (g5.out.below f0 rr);have d9:=hI (b5.out.below f0 rr);have j1:Below w.heap.size w w3:=bel;clear f0;go_wp2_with(refine B9 rfl (.tmp 6) (.tmp 19) rfl _ B8 (J9 r lo n) rfl rfl ?hr (Lq r lo n) ?hd)
   case hr=>exact⟨hpt,rfl⟩
   case hd=>
    intro w4 i4 d6 k6;have f6:=hI i4;have m0:=hI ((d6.block w.heap.size sd (by omega)).trans ((Below.heap_alloc _ _ _ (by omega)).trans m8.out));have i6:=hI ((i5.out.alloc (.cells ((B8.map fun(s:Nat)=>Value.int .u64 (s:Int)).toArray) 306)).keep1 d6 (by omega));have d7:=hI ((d9.out.alloc (.cells ((B8.map fun(s:Nat)=>Value.int .u64 (s:Int)).toArray) 306)).keep1 d6 (by omega));have j8:Below w.heap.size w w4:=Bz (j1.alloc j1.size _) d6 (by omega) sd;have o4:w3.heap.size<w4.heap.size:=i4.lt;clear i4 d6 k6;go_wp2_with(first|(refine Fh rfl (.tmp 5) rfl w1.heap.size r rfl d7.out ?_)|(refine B9 rfl (.tmp 7) (.tmp 20) rfl _ B8 r rfl rfl ?hr HR.out.1 ?he))
    case hr=>exact⟨hpt,rfl⟩
    case he=>
     intro w5 i8 f1 k1;have g0:=hI i8;have m3:=hI ((f1.block w.heap.size sd (by omega)).trans ((Below.heap_alloc _ _ _ (by omega)).trans m0.out));have i1:=hI ((i6.out.alloc (.cells ((B8.map fun(s:Nat)=>Value.int .u64 (s:Int)).toArray) 306)).keep1 f1 (by omega));have d8:=hI ((f6.out.alloc (.cells ((B8.map fun(s:Nat)=>Value.int .u64 (s:Int)).toArray) 306)).keep1 f1 (by omega));have o0:Below w.heap.size w w5:=Bz (j8.alloc j8.size _) f1 (by omega) sd;have o6:w4.heap.size<w5.heap.size:=i8.lt;clear i8 f1 k1;go_wp2_with fail;refine(Po n _ hn).mono ?_;rintro e w6 ⟨rfl,d3⟩;have o2:=d3.size;have k8:=hI ((d3.block w.heap.size (by omega)).trans m3.out);have i7:=hI (i1.out.below d3 rr);have d5:=hI (d8.out.below d3 rr);have f8:=hI (g0.out.below d3 rr);have j2:Below w.heap.size w w6:=bel;clear d3;go_wp2_with(refine B9 rfl (.tmp 8) (.tmp 23) rfl _ B8 (idR n) rfl rfl ?hr (H8 n) ?hf)
     case hr=>exact⟨hpt,rfl⟩
     case hf=>
      intro w7 i3 d4 k3;have f7:=hI i3;have m2:=hI ((d4.block w.heap.size sd (by omega)).trans ((Below.heap_alloc _ _ _ (by omega)).trans k8.out));have g8:=hI ((i7.out.alloc (.cells ((B8.map fun(s:Nat)=>Value.int .u64 (s:Int)).toArray) 306)).keep1 d4 (by omega));have f3:=hI ((d5.out.alloc (.cells ((B8.map fun(s:Nat)=>Value.int .u64 (s:Int)).toArray) 306)).keep1 d4 (by omega));have f4:=hI ((f8.out.alloc (.cells ((B8.map fun(s:Nat)=>Value.int .u64 (s:Int)).toArray) 306)).keep1 d4 (by omega));have j3:Below w.heap.size w w7:=Bz (j2.alloc j2.size _) d4 (by omega) sd;have o1:w6.heap.size<w7.heap.size:=i3.lt;clear i3 d4 k3;go_wp2_with fail;refine(Aqb w4.heap.size w6.heap.size r (idR n) _ f4.out f7.out (by omega) HR.out.2 (E7 n)).mono ?_;rintro e w8 ⟨rfl,j7,f5,j4⟩
      skip
      have a4:=hI j7;have g3:=hI ((f5.block w.heap.size sd (by omega)).trans m2.out);have f2:=hI (g8.out.keep1 f5 (by omega));have b3:=hI (f3.out.keep1 f5 (by omega));have m7:Below w.heap.size w w8:=Bz j3 f5 (by omega) j3.size;have o3:w8.heap.size=w7.heap.size:=j4;clear j7 f5 j4;have d1:=cell_of_row w8 w.heap.size 1 _ _ _ g3.out;have d2:=cell_of_row w8 w.heap.size 2 _ _ _ g3.out;simp only[List.getElem?_toArray,List.getElem?_cons_zero,List.getElem?_cons_succ]at d1 d2;have j6:Hid (Cq w8):=HT.out.below m7 rr
      have ex:∃ex:Nat,ex<=64/\ex=Fu lo hi n/\(hi<0->ex=n)/\(¬hi<0->(ex:Int)=hi-lo):=by
       refine⟨Fu lo hi n, ?_,rfl, ?_, ?_⟩<;>unfold Fu<;>split<;>omega
      obtain⟨ex,j5,HE,m5,k4⟩:=ex
      replace HE:=hI HE
      by_cases hneg:hi<0
      ·obtain rfl:=(m5 hneg).symm;go_wp2_with(refine Fh rfl (.tmp 7) rfl w4.heap.size (orR r (idR n)) rfl a4.out ?_);refine(Z5 (orR r (idR n)) n n _ (Uq _ _ HR.out.1 (H8 n)) (Gg _ _ HR.out.2 (E7 n)) j5 hn j6.out).mono ?_;rintro e w9 ⟨rfl,a5⟩;have k0:=a5.size;have k7:=hI ((a5.block w.heap.size (by omega)).trans g3.out);have b8:=hI (f2.out.below a5 rr);have b1:=hI (b3.out.below a5 rr);have b2:=hI (a4.out.below a5 rr);have f9:Below w.heap.size w w9:=bel;clear a5;go_wp2_with(refine B9 rfl (.tmp 7) (.tmp 39) rfl _ _ (J9 (orR r (idR n)) n n) rfl rfl b2.out (Lq _ _ _) ?hg)
       case hg=>
        intro w10 a9 a1 g7;have b6:Below w.heap.size w w10:=Bz f9 a1 (by omega) f9.size;have a8:=hI (b8.out.keep1 a1 (by omega));have a3:=hI (b1.out.keep1 a1 (by omega));have a6:=hI a9;have b9:Hid (Cq w10):=HT.out.below b6 rr;clear a9 a1;go_wp2_with fail;refine(Sv w3.heap.size w4.heap.size (J9 r lo n) (J9 (orR r (idR n)) n n) _ a3.out a6.out b9.out (Jy _ _ _ HR.out.2) (Jy _ _ _ (Gg _ _ HR.out.2 (E7 n)))).mono ?_;rintro e w11 ⟨rfl,a2⟩;have b0:=hI (a8.out.below a2 rr);have i9:=a2.size;have a7:Below w.heap.size w w11:=bel;clear a2;go_wp2_with(refine B9 rfl (.tmp 4) (.tmp 40) rfl _ B8 (Cx (J9 r lo n) (J9 (orR r (idR n)) n n)) rfl rfl b0.out (by rw[Dj];exact Lq _ _ _) ?hh)
        case hh=>
         intro w12 b7 d0 i2;go_wp2;exact bodyPost_ret (Eg Tryz.results332 _ _ (w.heap.size+1) _ rfl b7) rfl ⟨by unfold Pf;rw[←HE.out],Bz a7 d0 (by omega) a7.size⟩
      ·have k2:=k4 hneg;go_wp2_with(refine Fh rfl (.tmp 7) rfl w4.heap.size (orR r (idR n)) rfl a4.out ?_);rw[←k2];refine(Z5 (orR r (idR n)) ex n _ (Uq _ _ HR.out.1 (H8 n)) (Gg _ _ HR.out.2 (E7 n)) j5 hn j6.out).mono ?_;rintro e w9 ⟨rfl,a5⟩;have k0:=a5.size;have k7:=hI ((a5.block w.heap.size (by omega)).trans g3.out);have b8:=hI (f2.out.below a5 rr);have b1:=hI (b3.out.below a5 rr);have b2:=hI (a4.out.below a5 rr);have f9:Below w.heap.size w w9:=bel;clear a5;go_wp2_with(refine B9 rfl (.tmp 7) (.tmp 39) rfl _ _ (J9 (orR r (idR n)) ex n) rfl rfl b2.out (Lq _ _ _) ?hg)
       case hg=>
        intro w10 a9 a1 g7;have b6:Below w.heap.size w w10:=Bz f9 a1 (by omega) f9.size;have a8:=hI (b8.out.keep1 a1 (by omega));have a3:=hI (b1.out.keep1 a1 (by omega));have a6:=hI a9;have b9:Hid (Cq w10):=HT.out.below b6 rr;clear a9 a1;go_wp2_with fail;refine(Sv w3.heap.size w4.heap.size (J9 r lo n) (J9 (orR r (idR n)) ex n) _ a3.out a6.out b9.out (Jy _ _ _ HR.out.2) (Jy _ _ _ (Gg _ _ HR.out.2 (E7 n)))).mono ?_;rintro e w11 ⟨rfl,a2⟩;have b0:=hI (a8.out.below a2 rr);have i9:=a2.size;have a7:Below w.heap.size w w11:=bel;clear a2;go_wp2_with(refine B9 rfl (.tmp 4) (.tmp 40) rfl _ B8 (Cx (J9 r lo n) (J9 (orR r (idR n)) ex n)) rfl rfl b0.out (by rw[Dj];exact Lq _ _ _) ?hh)
        case hh=>
         intro w12 b7 d0 i2;go_wp2;exact bodyPost_ret (Eg Tryz.results332 _ _ (w.heap.size+1) _ rfl b7) rfl ⟨by unfold Pf;rw[←HE.out],Bz a7 d0 (by omega) a7.size⟩
def Tl (k:Nd)(A:Option Addr)(n c:Nat)(cvs:List Value):Value:=
 if k.kind=1 then .iface 320 (.agg #[.int .u32 k.isp, .int .u32 k.ism, .bool k.neg])
 else if k.kind=2 then .iface 322 (.agg #[.bool false])
 else if k.kind=6 then .iface 322 (.agg #[.bool true])
 else if k.kind=4 then .iface 324 (.agg #[.slice A n c])
 else if k.kind=5 then .iface 326 (.agg #[cvs.headD undef, .int .i64 k.lo, .int .i64 k.hi])
 else .iface 327 (.agg #[.slice A n c])
def Gu (w:World):Fo->List Value->Prop
 | .nil,vs=>vs=[]
 | .node k ch nx,vs=>∃A n c cvs v vs',vs=v::vs'/\Bd w A n c 1 cvs/\Gu w ch cvs/\v=Tl k A n c cvs/\Gu w nx vs'
theorem Gu.below {w w':World}{B:Nat}(hb:Below B w w')(hB:w.heap.size<=B):∀(f:Fo) (vs:List Value),Gu w f vs->Gu w' f vs
 | .nil,_,h=>h
 | .node _ ch nx,_,⟨A,n,c,cvs,v,vs',h1,h2,h3,h4,h5⟩=>⟨A,n,c,cvs,v,vs',h1,h2.below hb hB,below hb hB ch _ h3,h4,below hb hB nx _ h5⟩
theorem Gu.len {w:World}:∀(f:Fo) (vs:List Value),Gu w f vs->vs.length=f.len
 | .nil,_,h=>by rw[show _=[]from h];rfl
 | .node _ ch nx,_,⟨A,n,c,cvs,v,vs',h1,h2,h3,h4,h5⟩=>by rw[h1,List.length_cons,len nx _ h5];rfl
def okF:Fo->Prop
 | .nil=>True
 | .node k ch nx=>Ag k ch.len=0/\okF ch/\okF nx
def Ev (k:Nd)(ws:List Snd)(rs:List (List Nat)):List Nat:=
 if k.kind=1 then Tx k.isp k.ism k.neg ws
 else if k.kind=2 then F0 0
 else if k.kind=6 then F0 ws.length
 else if k.kind=4 then rs.foldl orR B8
 else if k.kind=5 then Pf (rs.headD []) k.lo.toNat k.hi ws.length
 else rs.foldl Cx (idR ws.length)
def D1 (ws:List Snd):Fo->List (List Nat)
 | .nil=>[]
 | .node k ch nx=>Ev k ws (D1 ws ch)::D1 ws nx
theorem Ew (ws:List Snd):∀f:Fo,(D1 ws f).length=f.len
 | .nil=>rfl
 | .node _ ch nx=>by simp[D1,Fo.len,Ew ws nx]
theorem Jb {k:Nd}{n:Nat}(hk:k.kind=5)(h:Ag k n=0):n=1/\0<=k.lo/\k.lo<=32/\(k.hi= -1\/k.lo<=k.hi/\k.hi<=32):=by
 simp only[Ag,hk]at h;simp at h;split at h<;>simp at h;omega
theorem N3 (rs:List (List Nat))(a:List Nat)(ha:a.length=33):(rs.foldl Cx a).length=33:=by
 induction rs generalizing a with
 |nil=>exact ha
 |cons r rs ih=>exact ih _ (by rw[Dj];exact ha)
theorem Mz (rs:List (List Nat))(hr:∀r∈rs,r.length=33)(a:List Nat)(ha:a.length=33):(rs.foldl orR a).length=33:=by
 induction rs generalizing a with
 |nil=>exact ha
 |cons r rs ih=>exact ih (fun x hx=>hr x (List.mem_cons_of_mem _ hx)) _ (Uq _ _ ha (hr r (List.mem_cons_self ..)))
theorem Jz (k:Nat)(hk:k<33):C7 (2^k):=by
 have hp:2^k<=2^32:=Nat.pow_le_pow_right (by decide) (by omega);have a0:(2:Nat)^32=4294967296:=by decide
 unfold C7;omega
theorem Tm (a:Nat)(ha:a<=32):Bw (F0 a):=by
 intro s hs;unfold F0 at hs;rcases List.mem_or_eq_of_mem_set hs with h|h
 ·exact Kq s h
 ·subst h;exact Jz _ (by omega)
theorem Adm (p m:Int)(neg:Bool)(ws:List Snd)(hn:ws.length<=32):Bw (Tx p m neg ws):=by
 intro s hs;obtain⟨k,hk,rfl⟩:=List.mem_map.1 hs;have hk:=List.mem_range.1 hk;rw[if_pos hk]
 cases hx:ws[k]? with
 |none=>exact D2
 |some x=>
  have:=(List.getElem?_eq_some_iff.1 hx).1
  show C7 (if Nv p m neg x=true then 2^(k+1)else 0);split
  ·exact Jz _ (by omega)
  ·exact D2
theorem Ai8 (r:List Nat)(lo:Nat)(hi:Int)(n:Nat):(Pf r lo hi n).length=33:=by unfold Pf;rw[Dj];exact Lq _ _ _
theorem Adn (r:List Nat)(lo:Nat)(hi:Int)(n:Nat)(hr:Bw r):Bw (Pf r lo hi n):=
 Dz _ _ (Jy _ _ _ (Gg _ _ hr (E7 n)))
theorem Qn (ws:List Snd)(hn:ws.length<=32):∀f:Fo,okF f→∀r∈D1 ws f,r.length=33/\Bw r
 | .nil,_=>by simp[D1]
 | .node k ch nx,⟨h1,h2,h3⟩=>by
  intro r hr;rcases List.mem_cons.1 hr with h|h
  ·subst h;have hc:=Qn ws hn ch h2;unfold Ev;split
   ·exact⟨by simp[Tx,Jw],Adm _ _ _ _ hn⟩
   ·split
    ·exact⟨Hp _,Tm _ (by omega)⟩
    ·split
     ·exact⟨Hp _,Tm _ hn⟩
     ·split
      ·exact⟨Mz _ (fun r hr=>(hc r hr).1) _ rfl,Mo _ (fun r hr=>(hc r hr).2) _ Kq⟩
      ·split
       ·rename_i h5
        obtain⟨e1,_⟩:=Jb h5 h1;refine⟨Ai8 _ _ _ _,Adn _ _ _ _ ?_⟩;have hl:=Ew ws ch
        cases hx:D1 ws ch with
        |nil=>rw[hx]at hl;simp at hl;omega
        |cons a l=>exact(hc a (by rw[hx];exact List.mem_cons_self ..)).2
       ·exact⟨N3 _ _ (H8 _),Qm _ (fun r hr=>(hc r hr).2) _ (E7 _)⟩
  ·exact Qn ws hn nx h3 r h
theorem Am9 (ws:List Snd)(A:Option Addr)(n c:Nat)(hn:n<=32):∀(f:Fo) (w:World) (vs:List Value),okF f->Gu w f vs->Ad w A n c ws->Cq w→
  ∀W,Below w.heap.size w W→∀(i:Nat) v r,vs[i]? =some v->(D1 ws f)[i]? =some r->Ai6 v W A n c r
 | .nil,w,vs,_,hp,_,_=>by
  intro W _ i v r hv _;rw[show vs=[]from hp]at hv;simp at hv
 | .node k ch nx,w,vs,⟨h1,h2,h3⟩,⟨A',n',c',cvs,v0,vs',e0,hC,hch,hv0,hnx⟩,hw,hT=>by
  intro W hB i v r hv hr;subst e0
  cases i with
  |succ i=>
   exact Am9 ws A n c hn nx w vs' h3 hnx hw hT W hB i v r (by simpa using hv) (by simpa[D1]using hr)
  |zero=>
   obtain rfl:v0=v:=by simpa using hv
   obtain rfl:Ev k ws (D1 ws ch)=r:=by simpa[D1]using hr
   have a1:ws.length=n:=hw.len;have a5:=hC.below hB rr;have a6:=hw.below hB rr;have a4:=hT.below hB rr;have a0:(D1 ws ch).length=cvs.length:=by rw[Ew,Gu.len _ _ hch]
   have a2:∀W',Below W.heap.size W W'→∀(i:Nat) v r,cvs[i]? =some v->(D1 ws ch)[i]? =some r->Ai6 v W' A n c r:=fun W' hB'=>by
    refine Am9 ws A n c hn ch w cvs h2 hch hw hT W' ?_
    have:=hB.size
    exact Below.trans hB (hB'.mono this)
   have a3:=Qn ws (by omega) ch h2;subst hv0;unfold Tl Ev;split
   ·exact Or.inl ⟨_,rfl,Aln _ _ _ _ _ _ _ _ a6 hn⟩
   ·split
    ·exact Or.inr (Or.inl ⟨_,rfl,Ai5 false _ _ _ _ hn⟩)
    ·split
     ·refine Or.inr (Or.inl ⟨_,rfl, ?_⟩);rw[a1];exact Ai5 true _ _ _ _ hn
     ·split
      ·exact Or.inr (Or.inr (Or.inl ⟨_,rfl,Ap0 _ _ _ _ _ _ _ _ _ a5 a0 a2 a3⟩))
      ·split
       ·rename_i h5
        obtain⟨e1,e2,e3,e4⟩:=Jb h5 h1;refine Or.inr (Or.inr (Or.inr (Or.inl ⟨_,rfl, ?_⟩)));have hl:=Ew ws ch
        cases hx:D1 ws ch with
        |nil=>rw[hx]at hl;simp at hl;omega
        |cons a l=>
         cases hy:cvs with
         |nil=>rw[hx,hy]at a0;simp at a0
         |cons b m=>
          have h:=Ap1 b k.lo.toNat k.hi a A n c W (fun W' hB'=>a2 W' hB' 0 b a (by rw[hy];rfl) (by rw[hx];rfl)) (a3 a (by rw[hx];exact List.mem_cons_self ..)) (by omega) (by omega) hn a4;rw[a1];rw[show((k.lo.toNat:Nat):Int)=k.lo by omega]at h;exact h
       ·refine Or.inr (Or.inr (Or.inr (Or.inr ⟨_,rfl, ?_⟩)));rw[a1];exact Apz _ _ _ _ _ _ _ _ _ a5 a0 a2 a3 hn a4
end Go.Proofs.YtlgliddhideflaaGreatDoor
