/-
  The parts of compiled patterns that have nothing below them: sounds and edges.
  The parts of compiled patterns that have others below them.
  An alternative of compiled patterns.
  A repetition of compiled patterns.
  Compiled patterns in memory, and what their method returns.
-/
import Derived.Test.YtlgliddhideflaaGreatDoorG03
set_option linter.all false
set_option maxRecDepth 100000
set_option maxHeartbeats 4000000
namespace Go.Proofs.YtlgliddhideflaaGreatDoor
open Go.RowKit
def Gj (w:World)(r:List Nat)(e:Ending)(w':World):Prop:=e= .returned (.agg (Dm r))/\Below w.heap.size w w'
def Aao (p m:Int)(neg:Bool)(s:Snd):Bool:=(bits .or .u32 (bits .andNot .u32 p s.1) (bits .andNot .u32 m s.2)==0) !=neg
def G8 (p m:Int)(neg:Bool)(ws:List Snd)(j:Nat):List Nat:=
 (List.range 33).map fun k=>if k<j then(match ws[k]? with|some s=>if Aao p m neg s then 2^(k+1)else 0|none=>0)else 0
def Vp (p m:Int)(neg:Bool)(ws:List Snd):List Nat:=G8 p m neg ws 33
theorem Vq (p m:Int)(neg:Bool)(ws:List Snd):G8 p m neg ws 0=Bn:=by
 have h:G8 p m neg ws 0=(List.range 33).map fun _=>0:=List.map_congr_left fun j _=>by rw[if_neg (by omega)]
 rw[h];rfl
theorem Yc (p m:Int)(neg:Bool)(ws:List Snd):G8 p m neg ws ws.length=Vp p m neg ws:=by
 unfold Vp G8;refine List.map_congr_left fun j hj=> ?_
 have hj:=List.mem_range.1 hj;by_cases h:j<ws.length
 ·rw[if_pos h,if_pos hj]
 ·rw[if_neg h,if_pos hj,List.getElem?_eq_none (by omega)]
theorem N8 (p m:Int)(neg:Bool)(ws:List Snd)(k:Nat)(s:Snd)(hs:ws[k]? =some s)(hk:k<33):
  G8 p m neg ws (k+1)=if Aao p m neg s then(G8 p m neg ws k).set k (2^(k+1))else G8 p m neg ws k:=by
 split
 ·rename_i h
  refine(Rf _ _ _ _ _ ?_ ?_).symm
  ·rw[if_pos (by omega),hs];simp[h]
  ·intro j hj;by_cases h3:j<k
   ·rw[if_pos h3,if_pos (by omega)]
   ·rw[if_neg h3,if_neg (by omega)]
 ·rename_i h
  unfold G8;refine List.map_congr_left fun j _=> ?_
  by_cases e:j=k
  ·subst e;rw[if_pos (by omega),if_neg (by omega),hs];simp[h]
  ·by_cases h3:j<k
   ·rw[if_pos h3,if_pos (by omega)]
   ·rw[if_neg h3,if_neg (by omega)]
theorem Acp (p m:Int)(neg:Bool)(A:Option Addr)(n c:Nat)(ws:List Snd)(w:World)(hw:Ab w A n c ws)(hn:n<=32):
  Calls Tryz.prog 328 #[.agg #[.int .u32 p, .int .u32 m, .bool neg], .slice A n c] w (Gj w (Vp p m neg ws)):=by
 have HW:=hI hw;clear hw;go_enter Tryz.func328,Tryz.ntmps328;go_wp2
 go_loopw [5,6,9] (fun _ _ i wr=>∃k:Nat,k<=n/\i= .int .i64 k/\Hid (wr.heap[w.heap.size]? =some (.cells #[.int .u32 p, .int .u32 m, .bool neg] 320 (0,0)))∧
  Hid (Bm wr (w.heap.size+1) (G8 p m neg ws k))/\Below w.heap.size w wr) (fun _ _ i _=>n-(intOf i).toNat)
 case atStart=>exact⟨0,Nat.zero_le _,rfl,hpt,by rw[Vq];exact⟨hpt,rfl⟩,bel⟩
 case round=>
  obtain⟨k,hk,rfl,hb,hr,hB⟩:=hrel;have b6:=hB.size;have b1:=hr.out.lt;by_cases hlt:k<n
  ·obtain⟨b,off,sp,sm,rfl,b2,a4,b7,b4⟩:=(HW.out.below hB rr).at_ hlt;have HK:=hI a4;clear a4;have d0:=cell_of_row wr w.heap.size 0 _ _ _ hb.out;have d1:=cell_of_row wr w.heap.size 1 _ _ _ hb.out;have d2:=cell_of_row wr w.heap.size 2 _ _ _ hb.out;simp only[List.getElem?_toArray,List.getElem?_cons_zero,List.getElem?_cons_succ]at d0 d1 d2;have a7:((k:Nat):Int)<33:=by omega
   have hf:=hr.out.frozen k;have hc:=hr.out.get (k:=k) (s:=0) (by unfold G8;rw[List.getElem?_map,List.getElem?_range (by omega)];simp);have b3:w.heap.size<wr.heap.size:=by omega
   have a8:w.heap.size+1<wr.heap.size:=b1;by_cases hh:((bits .or .u32 (bits .andNot .u32 p sp) (bits .andNot .u32 m sm)==0) !=neg)=true
   ·have a0:=N8 p m neg ws k (sp,sm) HK.out (by omega);rw[if_pos (show Aao p m neg (sp,sm)=true from hh)]at a0;have a2:=hI a0;clear a0;have b0:=hI (Pj (k+1) (by omega));have a6:(!(bits .or .u32 (bits .andNot .u32 p sp) (bits .andNot .u32 m sm)==0)==neg)=true:=by cases neg<;>simpa using hh
    clear hh;go_wp2
    go_roundw
    case rel=>
     refine⟨k+1,by omega,by go_num, ?_, ?_,bel⟩
     ·exact(Below.heap_alloc _ _ _ (by simp;omega)).trans ((Below.heap_setCell _ _ _ _ (by simp)).trans hb.out)
     ·have h1:=(hr.out.set (k:=k) (s:=2^(k+1))).alloc (.cells #[.int .u32 sp, .int .u32 sm] 24);rw[a2.out,b0.out];exact h1
    case measure=>simp[intOf];omega
   ·have a3:((bits .or .u32 (bits .andNot .u32 p sp) (bits .andNot .u32 m sm)==0) !=neg)=false:=by simpa using hh
    have a0:=N8 p m neg ws k (sp,sm) HK.out (by omega);rw[if_neg (show¬Aao p m neg (sp,sm)=true from hh)]at a0;have a2:=hI a0;clear a0 hh;have a6:(!(bits .or .u32 (bits .andNot .u32 p sp) (bits .andNot .u32 m sm)==0)==neg)=false:=by cases neg<;>simpa using a3
    clear a3;go_wp2
    go_roundw
    case rel=>
     refine⟨k+1,by omega,by go_num, ?_, ?_,bel⟩
     ·exact(Below.heap_alloc _ _ _ (by omega)).trans hb.out
     ·have h1:=hr.out.alloc (.cells #[.int .u32 sp, .int .u32 sm] 24);rw[a2.out];exact h1
    case measure=>simp[intOf];omega
  ·obtain rfl:k=n:=by omega
   have a1:G8 p m neg ws k=Vp p m neg ws:=by rw[←HW.out.len];exact Yc p m neg ws
   have HA:=hI a1;clear a1
   go_wp2_with(first
    |(refine D1 rfl (.tmp 4) rfl (w.heap.size+1) _ rfl hr.out ?_)
    |(refine Bi rfl (.tmp 4) (.tmp 37) rfl (w.heap.size+1) _ _ rfl rfl hr.out hr.out.2 ?_;intro w1 a5 a9 b5))
   exact bodyPost_ret (Dh Tryz.results328 _ _ (w.heap.size+1) _ rfl a5) rfl ⟨by rw[HA.out],Bd hB a9 (by omega) hB.size⟩
def Fx (a:Nat):List Nat:=Bn.set a (2^a)
theorem G9 (a:Nat):(Fx a).length=33:=by unfold Fx;rw[List.length_set];rfl
theorem Qy (a:Nat)(ha:a<=32):Dm (Fx a)=((Bn.map fun(s:Nat)=>Value.int .u64 (s:Int)).set a (.int .u64 (IntKind.u64.wrap (2^a)))).toArray:=by
 unfold Dm Fx;rw[List.map_set,Pj a (by omega)]
theorem Aap (e:Bool)(A:Option Addr)(n c:Nat)(w:World)(hn:n<=32):
  Calls Tryz.prog 329 #[.agg #[.bool e], .slice A n c] w (Gj w (Fx (if e then n else 0))):=by
 cases e
 ·go_enter Tryz.func329,Tryz.ntmps329
  go_wp2_with(first
    |(refine D1 rfl (.tmp 4) rfl _ (Fx 0) rfl ?hr ?_)
    |(refine Bi rfl (.tmp 4) (.tmp 14) rfl _ (Fx 0) (Fx 0) rfl rfl ?hs rfl ?hc))
  case hr=>exact⟨hpt,rfl⟩
  case hs=>exact⟨hpt,rfl⟩
  case hc=>
   intro w1 a1 a0 a2;go_wp2;exact bodyPost_ret (Dh Tryz.results329 _ _ (w.heap.size+1) _ rfl a1) rfl ⟨rfl,Bd bel a0 (by omega) (by simp;omega)⟩
 ·go_enter Tryz.func329,Tryz.ntmps329;have a3:((n:Nat):Int)<33:=by omega
  have hz:([.int .u64 0, .int .u64 0, .int .u64 0, .int .u64 0, .int .u64 0, .int .u64 0, .int .u64 0, .int .u64 0, .int .u64 0, .int .u64 0, .int .u64 0, .int .u64 0, .int .u64 0, .int .u64 0, .int .u64 0, .int .u64 0, .int .u64 0, .int .u64 0, .int .u64 0, .int .u64 0, .int .u64 0, .int .u64 0, .int .u64 0, .int .u64 0, .int .u64 0, .int .u64 0, .int .u64 0, .int .u64 0, .int .u64 0, .int .u64 0, .int .u64 0, .int .u64 0, .int .u64 0]:List Value)[n]? =some (.int .u64 0):=by
   rw[show([.int .u64 0, .int .u64 0, .int .u64 0, .int .u64 0, .int .u64 0, .int .u64 0, .int .u64 0, .int .u64 0, .int .u64 0, .int .u64 0, .int .u64 0, .int .u64 0, .int .u64 0, .int .u64 0, .int .u64 0, .int .u64 0, .int .u64 0, .int .u64 0, .int .u64 0, .int .u64 0, .int .u64 0, .int .u64 0, .int .u64 0, .int .u64 0, .int .u64 0, .int .u64 0, .int .u64 0, .int .u64 0, .int .u64 0, .int .u64 0, .int .u64 0, .int .u64 0, .int .u64 0]:List Value)=List.replicate 33 (.int .u64 0)from rfl,List.getElem?_replicate,if_pos (by omega)]
  go_wp2_with(first
    |(refine D1 rfl (.tmp 4) rfl _ (Fx n) rfl ?hr ?_)
    |(refine Bi rfl (.tmp 4) (.tmp 14) rfl _ (Fx n) (Fx n) rfl rfl ?hs (G9 n) ?hc))
  case hr=>exact⟨by rw[Qy n hn];exact Ak (by simp),G9 n⟩
  case hs=>exact⟨by rw[Qy n hn];exact Ak (by simp),G9 n⟩
  case hc=>
   intro w1 a1 a0 a2;go_wp2;exact bodyPost_ret (Dh Tryz.results329 _ _ (w.heap.size+1) _ rfl a1) rfl ⟨rfl,Bd bel a0 (by omega) (by simp;omega)⟩
def Aaq (v:Value)(w:World)(A:Option Addr)(n c:Nat)(r:List Nat):Prop:=
 (∃x,v= .iface 320 (.agg x)/\Calls Tryz.prog 328 #[.agg x, .slice A n c] w (Gj w r))∨
 (∃x,v= .iface 322 (.agg x)/\Calls Tryz.prog 329 #[.agg x, .slice A n c] w (Gj w r))∨
 (∃x,v= .iface 324 (.agg x)/\Calls Tryz.prog 330 #[.agg x, .slice A n c] w (Gj w r))∨
 (∃x,v= .iface 326 (.agg x)/\Calls Tryz.prog 332 #[.agg x, .slice A n c] w (Gj w r))∨
 (∃x,v= .iface 327 (.agg x)/\Calls Tryz.prog 335 #[.agg x, .slice A n c] w (Gj w r))
theorem Lm (rs:List (List Nat))(hs:∀r∈rs,Bj r)(a:List Nat)(ha:Bj a):Bj (rs.foldl Cz a):=by
 induction rs generalizing a with
 |nil=>exact ha
 |cons r rs ih=>exact ih (fun x hx=>hs x (List.mem_cons_of_mem _ hx)) _ (Dq _ _ (hs r (List.mem_cons_self ..)))
theorem Tp (n:Nat)(rs:List (List Nat))(k:Nat)(hs:∀r∈rs,Bj r):Bj ((rs.take k).foldl Cz (idR n)):=
 Lm _ (fun r hr=>hs r (List.mem_of_mem_take hr)) _ (Du n)
theorem Agf (A':Option Addr)(n' c':Nat)(cvs:List Value)(rs:List (List Nat))(A:Option Addr)(n c:Nat)(w:World)(hcv:Bb w A' n' c' 1 cvs)(hlen:rs.length=cvs.length)
  (a5:∀W,Below w.heap.size w W→∀(i:Nat) v r,cvs[i]? =some v->rs[i]? =some r->Aaq v W A n c r) (hrl:∀r∈rs,r.length=33/\Bj r) (hn:n<=32) (hT:B7 w):
  Calls Tryz.prog 335 #[.agg #[.slice A' n' c'], .slice A n c] w (Gj w (rs.foldl Cz (idR n))):=by
 have hm:n'<=9223372036854775807:=by have h1:=hcv.2.1;have h2:=hcv.2.2.1;unfold maxLen at h2;omega
 have HC:=hI hcv;clear hcv;have HL:=hI hlen;clear hlen;have HI:=hI a5;clear a5;have HR:=hI hrl;clear hrl;have HT:=hI hT;clear hT;go_enter Tryz.func335,Tryz.ntmps335
 go_wp2_with(first
  |(go_at_call 333;refine(Kt n _ hn).mono ?_;rintro e w1 ⟨rfl,a9⟩;have g5:=Cn a9;(try simp only[World.size_alloc,World.size_drew,World.size_setCell]at g5)
    have d4:w1.heap[w.heap.size]? =some (.cells #[.slice A' n' c'] 327 (0,0)):=(a9.block _ sd).trans hpt;have d6:Bm w1 (w.heap.size+1) Bn:=⟨(a9.block _ sd).trans hpt,rfl⟩;have b9:Below w.heap.size w w1:=bel;clear a9)
  |(refine Bi rfl (.tmp 5) (.tmp 11) rfl _ Bn (idR n) rfl rfl ?hr (Hx n) ?hc))
 case hr=>exact⟨hpt,rfl⟩
 case hc=>
  intro w2 d8 a8 g4;have b4:w2.heap[w.heap.size]? =some (.cells #[.slice A' n' c'] 327 (0,0)):=(a8.block _ sd (by omega)).trans ((Below.heap_alloc _ _ _ (by omega)).trans d4);have b1:Hid (Bm w2 (w.heap.size+1) Bn):=(d6.alloc _).keep1 a8 (by omega);have f8:Below w.heap.size w w2:=Bd (b9.alloc b9.size _) a8 (by omega) sd;have g1:Hid (Bm w2 w1.heap.size (idR n)):=d8;have i0:w1.heap.size<w2.heap.size:=by omega
  have i3:=cell_of_one b4;have g0:=hI b4;clear d4 d6 a8 g4 d8 b9 b4;go_wp2
  go_loopw [15] (fun i wr=>∃(k:Nat),k<=n'/\i= .int .i64 k/\Hid (wr.heap[w.heap.size]? =some (.cells #[.slice A' n' c'] 327 (0,0)))∧
   Hid (Bm wr (w.heap.size+1) Bn)/\Hid (Bm wr w1.heap.size ((rs.take k).foldl Cz (idR n)))/\Below w.heap.size w wr) (fun i _=>n'-(intOf i).toNat)
  case atStart=>exact⟨0,Nat.zero_le _,rfl,g0,b1,g1,f8⟩
  case round=>
   obtain⟨k,hk,rfl,hb,hz,ho,hB⟩:=hrel;have i5:=hB.size;have i6:=ho.out.lt;have f6:=hI (HT.out.below hB rr);by_cases hlt:k<n'
   ·obtain⟨b,off,v,rfl,g9,d9,i7⟩:=(HC.out.below hB rr).at1 hlt;have b0:k<rs.length:=by rw[HL.out,HC.out.1];omega
    have d5:rs[k]? =some rs[k]:=List.getElem?_eq_getElem b0;have a5:=HI.out wr hB k v rs[k] d9 d5
    have d3:(rs.take (k+1)).foldl Cz (idR n)=Cz ((rs.take k).foldl Cz (idR n)) rs[k]:=by
     rw[List.take_succ_eq_append_getElem b0,List.foldl_append];rfl
    have a6:=HR.out rs[k] (List.getElem_mem b0);have d7:=hI d3;have b5:=hI a6;generalize rs[k]=r at a5 d7 b5;clear d9 d5 d3 a6;rcases a5 with⟨x,rfl,a0⟩|⟨x,rfl,a0⟩|⟨x,rfl,a0⟩|⟨x,rfl,a0⟩|⟨x,rfl,a0⟩
    all_goals
     have a1:=hI a0;clear a0;go_wp2_with fail;refine a1.out.mono ?_;rintro e w3 ⟨rfl,a2⟩;have f4:=a2.size;have b8:=hI ((a2.block _ (by omega)).trans hb.out);have g3:=hI (ho.out.below a2 rr);have f5:=hI (hz.out.below a2 rr);have i4:=hI (f6.out.below a2 rr);have d1:Below w.heap.size w w3:=bel;clear a2 a1;go_wp2_with(refine Bi rfl (.tmp 8) (.tmp 21) rfl _ Bn r rfl rfl ?hr b5.out.1 ?hc)
     case hr=>exact⟨hpt,rfl⟩
     case hc=>
      intro w4 b7 a4 f7;have b2:=hI ((a4.block _ sd (by omega)).trans ((Below.heap_alloc _ _ _ (by omega)).trans b8.out));have d0:=hI ((g3.out.alloc (.cells ((Bn.map fun(s:Nat)=>Value.int .u64 (s:Int)).toArray) 306)).keep1 a4 (by omega));have g2:=hI ((f5.out.alloc (.cells ((Bn.map fun(s:Nat)=>Value.int .u64 (s:Int)).toArray) 306)).keep1 a4 (by omega));have g6:=hI b7;have g7:Below w.heap.size w w4:=Bd (d1.alloc d1.size _) a4 (by omega) sd;have f1:Hid (B7 w4):=HT.out.below g7 rr;have i1:w3.heap.size<w4.heap.size:=b7.lt;clear b7 a4 f7;go_wp2_with fail;refine(Mh w1.heap.size w3.heap.size ((rs.take k).foldl Cz (idR n)) r _ d0.out g6.out f1.out (Tp n rs k fun r hr=>(HR.out r hr).2) b5.out.2).mono ?_;rintro e w5 ⟨rfl,a7⟩;have g8:=a7.size;have b6:=hI ((a7.block _ (by omega)).trans b2.out);have f0:=hI (d0.out.below a7 rr);have f9:=hI (g2.out.below a7 rr);have d2:Below w.heap.size w w5:=bel;clear a7;go_wp2_with(refine Bi rfl (.tmp 5) (.tmp 22) rfl _ _ _ rfl rfl f0.out (by rw[Dt];exact f0.out.2) ?hd)
      case hd=>
       intro w6 f3 b3 i2;go_wp2
       go_roundw
       case rel=>
        refine⟨k+1,by omega,by go_num,(b3.block _ (by omega) (by omega)).trans b6.out,f9.out.keep1 b3 (by omega), ?_,Bd d2 b3 (by omega) d2.size⟩;rw[d7.out];exact f3
       case measure=>simp[intOf];omega
   ·obtain rfl:k=n':=by omega
    have a3:rs.take k=rs:=List.take_of_length_le (by rw[HL.out,HC.out.1];omega);have HA:=hI a3;clear a3
    go_wp2_with(first
     |(refine D1 rfl (.tmp 5) rfl w1.heap.size _ rfl ho.out ?_)
     |(refine Bi rfl (.tmp 4) (.tmp 24) rfl (w.heap.size+1) Bn _ rfl rfl hz.out ho.out.2 ?hd))
    case hd=>
     intro w3 b1 f2 f4;go_wp2;exact bodyPost_ret (Dh Tryz.results335 _ _ (w.heap.size+1) _ rfl b1) rfl ⟨by rw[HA.out],Bd hB f2 (by omega) hB.size⟩
theorem Sb (x y:List Nat)(hx:x.length=33)(hy:y.length=33):(orR x y).length=33:=by
 unfold orR;rw[List.length_zipWith];omega
theorem E5 (x y:List Nat)(hx:Bj x)(hy:Bj y):Bj (orR x y):=by
 intro s hs;obtain⟨i,hi,rfl⟩:=List.getElem_of_mem hs;unfold orR at hi ⊢;rw[List.getElem_zipWith];exact Pi (hx _ (List.getElem_mem _)) (hy _ (List.getElem_mem _))
theorem F9:Bj Bn:=by
 intro s hs;rw[show s=0 from List.eq_of_mem_replicate (by rw[show Bn=List.replicate 33 0 from rfl]at hs;exact hs)];unfold Cl;omega
theorem H8 (rs:List (List Nat))(hs:∀r∈rs,Bj r)(a:List Nat)(ha:Bj a):Bj (rs.foldl orR a):=by
 induction rs generalizing a with
 |nil=>exact ha
 |cons r rs ih=>exact ih (fun x hx=>hs x (List.mem_cons_of_mem _ hx)) _ (E5 _ _ ha (hs r (List.mem_cons_self ..)))
theorem N9 (rs:List (List Nat))(k:Nat)(hs:∀r∈rs,Bj r):Bj ((rs.take k).foldl orR Bn):=
 H8 _ (fun r hr=>hs r (List.mem_of_mem_take hr)) _ F9
theorem Agg (A':Option Addr)(n' c':Nat)(cvs:List Value)(rs:List (List Nat))(A:Option Addr)(n c:Nat)(w:World)(hcv:Bb w A' n' c' 1 cvs)(hlen:rs.length=cvs.length)
  (a3:∀W,Below w.heap.size w W→∀(i:Nat) v r,cvs[i]? =some v->rs[i]? =some r->Aaq v W A n c r) (hrl:∀r∈rs,r.length=33/\Bj r):
  Calls Tryz.prog 330 #[.agg #[.slice A' n' c'], .slice A n c] w (Gj w (rs.foldl orR Bn)):=by
 have hm:n'<=9223372036854775807:=by have h1:=hcv.2.1;have h2:=hcv.2.2.1;unfold maxLen at h2;omega
 have HC:=hI hcv;clear hcv;have HL:=hI hlen;clear hlen;have HI:=hI a3;clear a3;have HR:=hI hrl;clear hrl;go_enter Tryz.func330,Tryz.ntmps330;go_wp2
 go_loopw [11] (fun i wr=>∃(k:Nat),k<=n'/\i= .int .i64 k/\Hid (Bm wr (w.heap.size+1) ((rs.take k).foldl orR Bn))/\Below w.heap.size w wr) (fun i _=>n'-(intOf i).toNat)
 case atStart=>exact⟨0,Nat.zero_le _,rfl,⟨hpt,rfl⟩,bel⟩
 case round=>
  obtain⟨k,hk,rfl,hz,hB⟩:=hrel;have f0:=hB.size;have f1:=hz.out.lt;by_cases hlt:k<n'
  ·obtain⟨b,off,v,rfl,d8,b6,f2⟩:=(HC.out.below hB rr).at1 hlt;have a5:k<rs.length:=by rw[HL.out,HC.out.1];omega
   have b3:rs[k]? =some rs[k]:=List.getElem?_eq_getElem a5;have a3:=HI.out wr hB k v rs[k] b6 b3
   have b2:(rs.take (k+1)).foldl orR Bn=orR ((rs.take k).foldl orR Bn) rs[k]:=by
    rw[List.take_succ_eq_append_getElem a5,List.foldl_append];rfl
   have a4:=HR.out rs[k] (List.getElem_mem a5);have b5:=hI b2;have a8:=hI a4;generalize rs[k]=r at a3 b5 a8;clear b6 b3 b2 a4;rcases a3 with⟨x,rfl,a0⟩|⟨x,rfl,a0⟩|⟨x,rfl,a0⟩|⟨x,rfl,a0⟩|⟨x,rfl,a0⟩
   all_goals
    have a1:=hI a0;clear a0;go_wp2_with fail;refine a1.out.mono ?_;rintro e w3 ⟨rfl,a7⟩;have d1:=a7.size;have d2:=hI (hz.out.below a7 rr);have b0:Below w.heap.size w w3:=bel;clear a7 a1;go_wp2_with(refine Bi rfl (.tmp 7) (.tmp 17) rfl _ Bn r rfl rfl ?hr a8.out.1 ?hc)
    case hr=>exact⟨hpt,rfl⟩
    case hc=>
     intro w4 a9 a6 d3;have d5:=hI ((d2.out.alloc (.cells ((Bn.map fun(s:Nat)=>Value.int .u64 (s:Int)).toArray) 306)).keep1 a6 (by omega));have d6:=hI a9;have b7:Below w.heap.size w w4:=Bd (b0.alloc b0.size _) a6 (by omega) sd;have d9:w3.heap.size<w4.heap.size:=a9.lt;clear a9 a6 d3;go_wp2_with fail;refine(Agj (w.heap.size+1) w3.heap.size ((rs.take k).foldl orR Bn) r _ d5.out d6.out (by omega) (N9 rs k fun r hr=>(HR.out r hr).2) a8.out.2).mono ?_;rintro e w5 ⟨rfl,b4,b1,d7⟩;have d4:=hI b4;have b8:Below w.heap.size w w5:=Bd b7 b1 (by omega) b7.size;clear b4 b1;go_wp2
     go_roundw
     case rel=>
      refine⟨k+1,by omega,by go_num, ?_,b8⟩;rw[b5.out];exact d4.out
     case measure=>simp[intOf];omega
  ·obtain rfl:k=n':=by omega
   have a2:rs.take k=rs:=List.take_of_length_le (by rw[HL.out,HC.out.1];omega);have HA:=hI a2;clear a2
   go_wp2_with(first
    |(refine D1 rfl (.tmp 4) rfl (w.heap.size+1) _ rfl hz.out ?_)
    |(refine Bi rfl (.tmp 4) (.tmp 20) rfl (w.heap.size+1) _ _ rfl rfl hz.out hz.out.2 ?hd))
   case hd=>
    intro w3 b9 d0 d1;go_wp2;exact bodyPost_ret (Dh Tryz.results330 _ _ (w.heap.size+1) _ rfl b9) rfl ⟨by rw[HA.out],Bd hB d0 (by omega) hB.size⟩
theorem Aar (f:Nat)(x:List Nat)(k:Nat)(out:List Nat)(ho:out.length=33):(M8 f x k out).length=33:=by
 induction f generalizing x k out with
 |zero=>exact ho
 |succ f ih=>
  simp only[M8];split
  ·exact ho
  ·refine ih _ _ _ ?_;split
   ·rw[Dt];exact ho
   ·exact ho
theorem Ha (x:List Nat)(k n:Nat):(Hd x k n).length=33:=Aar _ _ _ _ (Hx n)
theorem Vr (f:Nat)(x:List Nat)(k:Nat)(out:List Nat)(hx:Bj x)(ho:Bj out):Bj (M8 f x k out):=by
 induction f generalizing x k out with
 |zero=>exact ho
 |succ f ih=>
  simp only[M8];split
  ·exact ho
  ·refine ih _ _ _ (Dq _ _ hx) ?_;split
   ·exact Dq _ _ hx
   ·exact ho
theorem Fy (x:List Nat)(k n:Nat)(hx:Bj x):Bj (Hd x k n):=Vr _ _ _ _ hx (Du n)
def Sc (lo:Nat)(hi:Int)(n:Nat):Nat:=if hi<0 then n else(hi-lo).toNat
def Vs (r:List Nat)(lo:Nat)(hi:Int)(n:Nat):List Nat:=Cz (Hd r lo n) (Hd (orR r (idR n)) (Sc lo hi n) n)
theorem Agh (v:Value)(lo:Nat)(hi:Int)(r:List Nat)(A:Option Addr)(n c:Nat)(w:World)
  (g2:∀W,Below w.heap.size w W->Aaq v W A n c r) (hrl:r.length=33/\Bj r) (hlo:lo<=64) (hhi:hi<0\/(lo:Int)<=hi/\hi<=64) (hn:n<=32) (hT:B7 w):
  Calls Tryz.prog 332 #[.agg #[v, .int .i64 (lo:Int), .int .i64 hi], .slice A n c] w (Gj w (Vs r lo hi n)):=by
 have HI:=hI g2;clear g2;have HR:=hI hrl;clear hrl;have HT:=hI hT;clear hT;have j1:Below w.heap.size w ((w.alloc (.cells #[v, .int .i64 (lo:Int), .int .i64 hi] 326)).alloc (.cells ((Bn.map fun(s:Nat)=>Value.int .u64 (s:Int)).toArray) 306)):=bel;have g2:=HI.out _ j1;clear j1;rcases g2 with⟨x,rfl,a0⟩|⟨x,rfl,a0⟩|⟨x,rfl,a0⟩|⟨x,rfl,a0⟩|⟨x,rfl,a0⟩
 all_goals
  have b4:=hI a0;clear a0;go_enter Tryz.func332,Tryz.ntmps332;go_wp2_with fail;refine b4.out.mono ?_;rintro e w1 ⟨rfl,g3⟩;have k3:=g3.size;simp only[World.size_alloc]at k3;have m0:=hI ((g3.block w.heap.size sd).trans (show _=some (.cells #[_, .int .i64 (lo:Int), .int .i64 hi] 326 (0,0))from hpt));have g6:Hid (Bm w1 (w.heap.size+1) Bn):=⟨(g3.block _ sd).trans hpt,rfl⟩;have j9:Below w.heap.size w w1:=bel;clear g3 b4;go_wp2_with(refine Bi rfl (.tmp 5) (.tmp 13) rfl _ Bn r rfl rfl ?hr HR.out.1 ?hc)
  case hr=>exact⟨hpt,rfl⟩
  case hc=>
   intro w2 i8 g4 k6;have b5:=hI i8;have i0:=hI ((g4.block w.heap.size sd (by omega)).trans ((Below.heap_alloc _ _ _ (by omega)).trans m0.out));have g5:=hI ((g6.out.alloc (.cells ((Bn.map fun(s:Nat)=>Value.int .u64 (s:Int)).toArray) 306)).keep1 g4 (by omega));have m4:Below w.heap.size w w2:=Bd (j9.alloc j9.size _) g4 (by omega) sd;have o4:w1.heap.size<w2.heap.size:=i8.lt;clear i8 g4 k6;have d1:=cell_of_row w2 w.heap.size 1 _ _ _ i0.out;have d2:=cell_of_row w2 w.heap.size 2 _ _ _ i0.out;simp only[List.getElem?_toArray,List.getElem?_cons_zero,List.getElem?_cons_succ]at d1 d2;have m8:Hid (B7 w2):=HT.out.below m4 rr;go_wp2_with(refine D1 rfl (.tmp 5) rfl w1.heap.size r rfl b5.out ?_);refine(Sh r lo n _ HR.out.1 HR.out.2 hlo hn m8.out).mono ?_;rintro e w3 ⟨rfl,f6⟩;clear d1 d2;have o0:=f6.size;have k2:=hI ((f6.block w.heap.size (by omega)).trans i0.out);have g7:=hI (g5.out.below f6 rr);have f0:=hI (b5.out.below f6 rr);have j0:Below w.heap.size w w3:=bel;clear f6;go_wp2_with(refine Bi rfl (.tmp 6) (.tmp 19) rfl _ Bn (Hd r lo n) rfl rfl ?hr (Ha r lo n) ?hd)
   case hr=>exact⟨hpt,rfl⟩
   case hd=>
    intro w4 i2 d6 k0;have f9:=hI i2;have k5:=hI ((d6.block w.heap.size sd (by omega)).trans ((Below.heap_alloc _ _ _ (by omega)).trans k2.out));have g9:=hI ((g7.out.alloc (.cells ((Bn.map fun(s:Nat)=>Value.int .u64 (s:Int)).toArray) 306)).keep1 d6 (by omega));have d5:=hI ((f0.out.alloc (.cells ((Bn.map fun(s:Nat)=>Value.int .u64 (s:Int)).toArray) 306)).keep1 d6 (by omega));have j7:Below w.heap.size w w4:=Bd (j0.alloc j0.size _) d6 (by omega) sd;have o1:w3.heap.size<w4.heap.size:=i2.lt;clear i2 d6 k0;go_wp2_with(first|(refine D1 rfl (.tmp 5) rfl w1.heap.size r rfl d5.out ?_)|(refine Bi rfl (.tmp 7) (.tmp 20) rfl _ Bn r rfl rfl ?hr HR.out.1 ?he))
    case hr=>exact⟨hpt,rfl⟩
    case he=>
     intro w5 i3 d7 m6;have d9:=hI i3;have k7:=hI ((d7.block w.heap.size sd (by omega)).trans ((Below.heap_alloc _ _ _ (by omega)).trans k5.out));have i5:=hI ((g9.out.alloc (.cells ((Bn.map fun(s:Nat)=>Value.int .u64 (s:Int)).toArray) 306)).keep1 d7 (by omega));have g0:=hI ((f9.out.alloc (.cells ((Bn.map fun(s:Nat)=>Value.int .u64 (s:Int)).toArray) 306)).keep1 d7 (by omega));have o3:Below w.heap.size w w5:=Bd (j7.alloc j7.size _) d7 (by omega) sd;have o2:w4.heap.size<w5.heap.size:=i3.lt;clear i3 d7 m6;go_wp2_with fail;refine(Kt n _ hn).mono ?_;rintro e w6 ⟨rfl,d4⟩;have m9:=d4.size;have k8:=hI ((d4.block w.heap.size (by omega)).trans k7.out);have i6:=hI (i5.out.below d4 rr);have f7:=hI (g0.out.below d4 rr);have d8:=hI (d9.out.below d4 rr);have j8:Below w.heap.size w w6:=bel;clear d4;go_wp2_with(refine Bi rfl (.tmp 8) (.tmp 23) rfl _ Bn (idR n) rfl rfl ?hr (Hx n) ?hf)
     case hr=>exact⟨hpt,rfl⟩
     case hf=>
      intro w7 i4 d3 m7;have f3:=hI i4;have k1:=hI ((d3.block w.heap.size sd (by omega)).trans ((Below.heap_alloc _ _ _ (by omega)).trans k8.out));have g8:=hI ((i6.out.alloc (.cells ((Bn.map fun(s:Nat)=>Value.int .u64 (s:Int)).toArray) 306)).keep1 d3 (by omega));have f5:=hI ((f7.out.alloc (.cells ((Bn.map fun(s:Nat)=>Value.int .u64 (s:Int)).toArray) 306)).keep1 d3 (by omega));have f4:=hI ((d8.out.alloc (.cells ((Bn.map fun(s:Nat)=>Value.int .u64 (s:Int)).toArray) 306)).keep1 d3 (by omega));have j3:Below w.heap.size w w7:=Bd (j8.alloc j8.size _) d3 (by omega) sd;have o6:w6.heap.size<w7.heap.size:=i4.lt;clear i4 d3 m7;go_wp2_with fail;refine(Agj w4.heap.size w6.heap.size r (idR n) _ f4.out f3.out (by omega) HR.out.2 (Du n)).mono ?_;rintro e w8 ⟨rfl,j4,f2,j6⟩
      skip
      have a4:=hI j4;have g1:=hI ((f2.block w.heap.size sd (by omega)).trans k1.out);have f1:=hI (g8.out.keep1 f2 (by omega));have b3:=hI (f5.out.keep1 f2 (by omega));have m2:Below w.heap.size w w8:=Bd j3 f2 (by omega) j3.size;have o5:w8.heap.size=w7.heap.size:=j6;clear j4 f2 j6;have d1:=cell_of_row w8 w.heap.size 1 _ _ _ g1.out;have d2:=cell_of_row w8 w.heap.size 2 _ _ _ g1.out;simp only[List.getElem?_toArray,List.getElem?_cons_zero,List.getElem?_cons_succ]at d1 d2;have j2:Hid (B7 w8):=HT.out.below m2 rr
      have ex:∃ex:Nat,ex<=64/\ex=Sc lo hi n/\(hi<0->ex=n)/\(¬hi<0->(ex:Int)=hi-lo):=by
       refine⟨Sc lo hi n, ?_,rfl, ?_, ?_⟩<;>unfold Sc<;>split<;>omega
      obtain⟨ex,j5,HE,m1,m5⟩:=ex
      replace HE:=hI HE
      by_cases hneg:hi<0
      ·obtain rfl:=(m1 hneg).symm;go_wp2_with(refine D1 rfl (.tmp 7) rfl w4.heap.size (orR r (idR n)) rfl a4.out ?_);refine(Sh (orR r (idR n)) n n _ (Sb _ _ HR.out.1 (Hx n)) (E5 _ _ HR.out.2 (Du n)) j5 hn j2.out).mono ?_;rintro e w9 ⟨rfl,a5⟩;have m3:=a5.size;have k4:=hI ((a5.block w.heap.size (by omega)).trans g1.out);have b8:=hI (f1.out.below a5 rr);have b0:=hI (b3.out.below a5 rr);have a7:=hI (a4.out.below a5 rr);have f8:Below w.heap.size w w9:=bel;clear a5;go_wp2_with(refine Bi rfl (.tmp 7) (.tmp 39) rfl _ _ (Hd (orR r (idR n)) n n) rfl rfl a7.out (Ha _ _ _) ?hg)
       case hg=>
        intro w10 a8 a1 i1;have b7:Below w.heap.size w w10:=Bd f8 a1 (by omega) f8.size;have b1:=hI (b8.out.keep1 a1 (by omega));have a3:=hI (b0.out.keep1 a1 (by omega));have a9:=hI a8;have d0:Hid (B7 w10):=HT.out.below b7 rr;clear a8 a1;go_wp2_with fail;refine(Mh w3.heap.size w4.heap.size (Hd r lo n) (Hd (orR r (idR n)) n n) _ a3.out a9.out d0.out (Fy _ _ _ HR.out.2) (Fy _ _ _ (E5 _ _ HR.out.2 (Du n)))).mono ?_;rintro e w11 ⟨rfl,a2⟩;have b2:=hI (b1.out.below a2 rr);have i9:=a2.size;have a6:Below w.heap.size w w11:=bel;clear a2;go_wp2_with(refine Bi rfl (.tmp 4) (.tmp 40) rfl _ Bn (Cz (Hd r lo n) (Hd (orR r (idR n)) n n)) rfl rfl b2.out (by rw[Dt];exact Ha _ _ _) ?hh)
        case hh=>
         intro w12 b9 b6 i7;go_wp2;exact bodyPost_ret (Dh Tryz.results332 _ _ (w.heap.size+1) _ rfl b9) rfl ⟨by unfold Vs;rw[←HE.out],Bd a6 b6 (by omega) a6.size⟩
      ·have k9:=m5 hneg;go_wp2_with(refine D1 rfl (.tmp 7) rfl w4.heap.size (orR r (idR n)) rfl a4.out ?_);rw[←k9];refine(Sh (orR r (idR n)) ex n _ (Sb _ _ HR.out.1 (Hx n)) (E5 _ _ HR.out.2 (Du n)) j5 hn j2.out).mono ?_;rintro e w9 ⟨rfl,a5⟩;have m3:=a5.size;have k4:=hI ((a5.block w.heap.size (by omega)).trans g1.out);have b8:=hI (f1.out.below a5 rr);have b0:=hI (b3.out.below a5 rr);have a7:=hI (a4.out.below a5 rr);have f8:Below w.heap.size w w9:=bel;clear a5;go_wp2_with(refine Bi rfl (.tmp 7) (.tmp 39) rfl _ _ (Hd (orR r (idR n)) ex n) rfl rfl a7.out (Ha _ _ _) ?hg)
       case hg=>
        intro w10 a8 a1 i1;have b7:Below w.heap.size w w10:=Bd f8 a1 (by omega) f8.size;have b1:=hI (b8.out.keep1 a1 (by omega));have a3:=hI (b0.out.keep1 a1 (by omega));have a9:=hI a8;have d0:Hid (B7 w10):=HT.out.below b7 rr;clear a8 a1;go_wp2_with fail;refine(Mh w3.heap.size w4.heap.size (Hd r lo n) (Hd (orR r (idR n)) ex n) _ a3.out a9.out d0.out (Fy _ _ _ HR.out.2) (Fy _ _ _ (E5 _ _ HR.out.2 (Du n)))).mono ?_;rintro e w11 ⟨rfl,a2⟩;have b2:=hI (b1.out.below a2 rr);have i9:=a2.size;have a6:Below w.heap.size w w11:=bel;clear a2;go_wp2_with(refine Bi rfl (.tmp 4) (.tmp 40) rfl _ Bn (Cz (Hd r lo n) (Hd (orR r (idR n)) ex n)) rfl rfl b2.out (by rw[Dt];exact Ha _ _ _) ?hh)
        case hh=>
         intro w12 b9 b6 i7;go_wp2;exact bodyPost_ret (Dh Tryz.results332 _ _ (w.heap.size+1) _ rfl b9) rfl ⟨by unfold Vs;rw[←HE.out],Bd a6 b6 (by omega) a6.size⟩
def Mx (k:Nd)(A:Option Addr)(n c:Nat)(cvs:List Value):Value:=
 if k.kind=1 then .iface 320 (.agg #[.int .u32 k.isp, .int .u32 k.ism, .bool k.neg])
 else if k.kind=2 then .iface 322 (.agg #[.bool false])
 else if k.kind=6 then .iface 322 (.agg #[.bool true])
 else if k.kind=4 then .iface 324 (.agg #[.slice A n c])
 else if k.kind=5 then .iface 326 (.agg #[cvs.headD undef, .int .i64 k.lo, .int .i64 k.hi])
 else .iface 327 (.agg #[.slice A n c])
def Eu (w:World):Fo->List Value->Prop
 | .nil,vs=>vs=[]
 | .node k ch nx,vs=>∃A n c cvs v vs',vs=v::vs'/\Bb w A n c 1 cvs/\Eu w ch cvs/\v=Mx k A n c cvs/\Eu w nx vs'
theorem Eu.below {w w':World}{B:Nat}(hb:Below B w w')(hB:w.heap.size<=B):∀(f:Fo) (vs:List Value),Eu w f vs->Eu w' f vs
 | .nil,_,h=>h
 | .node _ ch nx,_,⟨A,n,c,cvs,v,vs',h1,h2,h3,h4,h5⟩=>⟨A,n,c,cvs,v,vs',h1,h2.below hb hB,below hb hB ch _ h3,h4,below hb hB nx _ h5⟩
theorem Eu.len {w:World}:∀(f:Fo) (vs:List Value),Eu w f vs->vs.length=f.len
 | .nil,_,h=>by rw[show _=[]from h];rfl
 | .node _ ch nx,_,⟨A,n,c,cvs,v,vs',h1,h2,h3,h4,h5⟩=>by rw[h1,List.length_cons,len nx _ h5];rfl
def okF:Fo->Prop
 | .nil=>True
 | .node k ch nx=>Bk k ch.len=0/\okF ch/\okF nx
def Ln (k:Nd)(ws:List Snd)(rs:List (List Nat)):List Nat:=
 if k.kind=1 then Vp k.isp k.ism k.neg ws
 else if k.kind=2 then Fx 0
 else if k.kind=6 then Fx ws.length
 else if k.kind=4 then rs.foldl orR Bn
 else if k.kind=5 then Vs (rs.headD []) k.lo.toNat k.hi ws.length
 else rs.foldl Cz (idR ws.length)
def Hu (ws:List Snd):Fo->List (List Nat)
 | .nil=>[]
 | .node k ch nx=>Ln k ws (Hu ws ch)::Hu ws nx
theorem Lo (ws:List Snd):∀f:Fo,(Hu ws f).length=f.len
 | .nil=>rfl
 | .node _ ch nx=>by simp[Hu,Fo.len,Lo ws nx]
theorem Jo {k:Nd}{n:Nat}(hk:k.kind=5)(h:Bk k n=0):n=1/\0<=k.lo/\k.lo<=32/\(k.hi= -1\/k.lo<=k.hi/\k.hi<=32):=by
 simp only[Bk,hk]at h;simp at h;split at h<;>simp at h;omega
theorem Pz (rs:List (List Nat))(a:List Nat)(ha:a.length=33):(rs.foldl Cz a).length=33:=by
 induction rs generalizing a with
 |nil=>exact ha
 |cons r rs ih=>exact ih _ (by rw[Dt];exact ha)
theorem Tq (rs:List (List Nat))(hr:∀r∈rs,r.length=33)(a:List Nat)(ha:a.length=33):(rs.foldl orR a).length=33:=by
 induction rs generalizing a with
 |nil=>exact ha
 |cons r rs ih=>exact ih (fun x hx=>hr x (List.mem_cons_of_mem _ hx)) _ (Sb _ _ ha (hr r (List.mem_cons_self ..)))
theorem Pa (k:Nat)(hk:k<33):Cl (2^k):=by
 have hp:2^k<=2^32:=Nat.pow_le_pow_right (by decide) (by omega);have a0:(2:Nat)^32=4294967296:=by decide
 unfold Cl;omega
theorem My (a:Nat)(ha:a<=32):Bj (Fx a):=by
 intro s hs;unfold Fx at hs;rcases List.mem_or_eq_of_mem_set hs with h|h
 ·exact F9 s h
 ·subst h;exact Pa _ (by omega)
theorem Vt (p m:Int)(neg:Bool)(ws:List Snd)(hn:ws.length<=32):Bj (Vp p m neg ws):=by
 intro s hs;obtain⟨k,hk,rfl⟩:=List.mem_map.1 hs;have hk:=List.mem_range.1 hk;rw[if_pos hk]
 cases hx:ws[k]? with
 |none=>exact E7
 |some x=>
  have:=(List.getElem?_eq_some_iff.1 hx).1
  show Cl (if Aao p m neg x=true then 2^(k+1)else 0);split
  ·exact Pa _ (by omega)
  ·exact E7
theorem Aas (r:List Nat)(lo:Nat)(hi:Int)(n:Nat):(Vs r lo hi n).length=33:=by unfold Vs;rw[Dt];exact Ha _ _ _
theorem Vu (r:List Nat)(lo:Nat)(hi:Int)(n:Nat)(hr:Bj r):Bj (Vs r lo hi n):=
 Dq _ _ (Fy _ _ _ (E5 _ _ hr (Du n)))
theorem Lp (ws:List Snd)(hn:ws.length<=32):∀f:Fo,okF f→∀r∈Hu ws f,r.length=33/\Bj r
 | .nil,_=>by simp[Hu]
 | .node k ch nx,⟨h1,h2,h3⟩=>by
  intro r hr;rcases List.mem_cons.1 hr with h|h
  ·subst h;have hc:=Lp ws hn ch h2;unfold Ln;split
   ·exact⟨by simp[Vp,G8],Vt _ _ _ _ hn⟩
   ·split
    ·exact⟨G9 _,My _ (by omega)⟩
    ·split
     ·exact⟨G9 _,My _ hn⟩
     ·split
      ·exact⟨Tq _ (fun r hr=>(hc r hr).1) _ rfl,H8 _ (fun r hr=>(hc r hr).2) _ F9⟩
      ·split
       ·rename_i h5
        obtain⟨e1,_⟩:=Jo h5 h1;refine⟨Aas _ _ _ _,Vu _ _ _ _ ?_⟩;have hl:=Lo ws ch
        cases hx:Hu ws ch with
        |nil=>rw[hx]at hl;simp at hl;omega
        |cons a l=>exact(hc a (by rw[hx];exact List.mem_cons_self ..)).2
       ·exact⟨Pz _ _ (Hx _),Lm _ (fun r hr=>(hc r hr).2) _ (Du _)⟩
  ·exact Lp ws hn nx h3 r h
theorem Ad1 (ws:List Snd)(A:Option Addr)(n c:Nat)(hn:n<=32):∀(f:Fo) (w:World) (vs:List Value),okF f->Eu w f vs->Ab w A n c ws->B7 w→
  ∀W,Below w.heap.size w W→∀(i:Nat) v r,vs[i]? =some v->(Hu ws f)[i]? =some r->Aaq v W A n c r
 | .nil,w,vs,_,hp,_,_=>by
  intro W _ i v r hv _;rw[show vs=[]from hp]at hv;simp at hv
 | .node k ch nx,w,vs,⟨h1,h2,h3⟩,⟨A',n',c',cvs,v0,vs',e0,hC,hch,hv0,hnx⟩,hw,hT=>by
  intro W hB i v r hv hr;subst e0
  cases i with
  |succ i=>
   exact Ad1 ws A n c hn nx w vs' h3 hnx hw hT W hB i v r (by simpa using hv) (by simpa[Hu]using hr)
  |zero=>
   obtain rfl:v0=v:=by simpa using hv
   obtain rfl:Ln k ws (Hu ws ch)=r:=by simpa[Hu]using hr
   have a1:ws.length=n:=hw.len;have a5:=hC.below hB rr;have a6:=hw.below hB rr;have a4:=hT.below hB rr;have a0:(Hu ws ch).length=cvs.length:=by rw[Lo,Eu.len _ _ hch]
   have a3:∀W',Below W.heap.size W W'→∀(i:Nat) v r,cvs[i]? =some v->(Hu ws ch)[i]? =some r->Aaq v W' A n c r:=fun W' hB'=>by
    refine Ad1 ws A n c hn ch w cvs h2 hch hw hT W' ?_
    have:=hB.size
    exact Below.trans hB (hB'.mono this)
   have a2:=Lp ws (by omega) ch h2;subst hv0;unfold Mx Ln;split
   ·exact Or.inl ⟨_,rfl,Acp _ _ _ _ _ _ _ _ a6 hn⟩
   ·split
    ·exact Or.inr (Or.inl ⟨_,rfl,Aap false _ _ _ _ hn⟩)
    ·split
     ·refine Or.inr (Or.inl ⟨_,rfl, ?_⟩);rw[a1];exact Aap true _ _ _ _ hn
     ·split
      ·exact Or.inr (Or.inr (Or.inl ⟨_,rfl,Agg _ _ _ _ _ _ _ _ _ a5 a0 a3 a2⟩))
      ·split
       ·rename_i h5
        obtain⟨e1,e2,e3,e4⟩:=Jo h5 h1;refine Or.inr (Or.inr (Or.inr (Or.inl ⟨_,rfl, ?_⟩)));have hl:=Lo ws ch
        cases hx:Hu ws ch with
        |nil=>rw[hx]at hl;simp at hl;omega
        |cons a l=>
         cases hy:cvs with
         |nil=>rw[hx,hy]at a0;simp at a0
         |cons b m=>
          have h:=Agh b k.lo.toNat k.hi a A n c W (fun W' hB'=>a3 W' hB' 0 b a (by rw[hy];rfl) (by rw[hx];rfl)) (a2 a (by rw[hx];exact List.mem_cons_self ..)) (by omega) (by omega) hn a4;rw[a1];rw[show((k.lo.toNat:Nat):Int)=k.lo by omega]at h;exact h
       ·refine Or.inr (Or.inr (Or.inr (Or.inr ⟨_,rfl, ?_⟩)));rw[a1];exact Agf _ _ _ _ _ _ _ _ _ a5 a0 a3 a2 hn a4
end Go.Proofs.YtlgliddhideflaaGreatDoor
