/-
  The parts of compiled patterns that have nothing below them: sounds and edges.
  The parts of compiled patterns that have others below them.
  An alternative of compiled patterns.
  A repetition of compiled patterns.
  Compiled patterns in memory, and what their method returns.
-/
import Derived.Test.YtaglfmlgbcmakaaGreatDoorG03
set_option linter.all false
set_option maxRecDepth 100000
set_option maxHeartbeats 4000000
namespace Go.Proofs.YtaglfmlgbcmakaaGreatDoor
open Go.RowKit
def Gi (w:World)(r:List Nat)(e:Ending)(w':World):Prop:=e= .returned (.agg (Dh r))/\Below w.heap.size w w'
def Zx (p m:Int)(neg:Bool)(s:Snd):Bool:=(bits .or .u32 (bits .andNot .u32 p s.1) (bits .andNot .u32 m s.2)==0) !=neg
def Gs (p m:Int)(neg:Bool)(ws:List Snd)(j:Nat):List Nat:=
 (List.range 33).map fun k=>if k<j then(match ws[k]? with|some s=>if Zx p m neg s then 2^(k+1)else 0|none=>0)else 0
def Up (p m:Int)(neg:Bool)(ws:List Snd):List Nat:=Gs p m neg ws 33
theorem Uq (p m:Int)(neg:Bool)(ws:List Snd):Gs p m neg ws 0=Bl:=by
 have h:Gs p m neg ws 0=(List.range 33).map fun _=>0:=List.map_congr_left fun j _=>by rw[if_neg (by omega)]
 rw[h];rfl
theorem W8 (p m:Int)(neg:Bool)(ws:List Snd):Gs p m neg ws ws.length=Up p m neg ws:=by
 unfold Up Gs;refine List.map_congr_left fun j hj=> ?_
 have hj:=List.mem_range.1 hj;by_cases h:j<ws.length
 ·rw[if_pos h,if_pos hj]
 ·rw[if_neg h,if_pos hj,List.getElem?_eq_none (by omega)]
theorem Nw (p m:Int)(neg:Bool)(ws:List Snd)(k:Nat)(s:Snd)(hs:ws[k]? =some s)(hk:k<33):
  Gs p m neg ws (k+1)=if Zx p m neg s then(Gs p m neg ws k).set k (2^(k+1))else Gs p m neg ws k:=by
 split
 ·rename_i h
  refine(Qn _ _ _ _ _ ?_ ?_).symm
  ·rw[if_pos (by omega),hs];simp[h]
  ·intro j hj;by_cases h3:j<k
   ·rw[if_pos h3,if_pos (by omega)]
   ·rw[if_neg h3,if_neg (by omega)]
 ·rename_i h
  unfold Gs;refine List.map_congr_left fun j _=> ?_
  by_cases e:j=k
  ·subst e;rw[if_pos (by omega),if_neg (by omega),hs];simp[h]
  ·by_cases h3:j<k
   ·rw[if_pos h3,if_pos (by omega)]
   ·rw[if_neg h3,if_neg (by omega)]
theorem Ab9 (p m:Int)(neg:Bool)(A:Option Addr)(n c:Nat)(ws:List Snd)(w:World)(hw:Ae w A n c ws)(hn:n<=32):
  Calls Tryz.prog 261 #[.agg #[.int .u32 p, .int .u32 m, .bool neg], .slice A n c] w (Gi w (Up p m neg ws)):=by
 have HW:=hI hw;clear hw;go_enter Tryz.func261,Tryz.ntmps261;go_wp2
 go_loopw [5,6,9] (fun _ _ i wr=>∃k:Nat,k<=n/\i= .int .i64 k/\Hid (wr.heap[w.heap.size]? =some (.cells #[.int .u32 p, .int .u32 m, .bool neg] 279 (0,0)))∧
  Hid (Bk wr (w.heap.size+1) (Gs p m neg ws k))/\Below w.heap.size w wr) (fun _ _ i _=>n-(intOf i).toNat)
 case atStart=>exact⟨0,Nat.zero_le _,rfl,hpt,by rw[Uq];exact⟨hpt,rfl⟩,bel⟩
 case round=>
  obtain⟨k,hk,rfl,hb,hr,hB⟩:=hrel;have b5:=hB.size;have a7:=hr.out.lt;by_cases hlt:k<n
  ·obtain⟨b,off,sp,sm,rfl,b6,a3,b3,b7⟩:=(HW.out.below hB rr).at_ hlt;have HK:=hI a3;clear a3;have d0:=cell_of_row wr w.heap.size 0 _ _ _ hb.out;have d1:=cell_of_row wr w.heap.size 1 _ _ _ hb.out;have d2:=cell_of_row wr w.heap.size 2 _ _ _ hb.out;simp only[List.getElem?_toArray,List.getElem?_cons_zero,List.getElem?_cons_succ]at d0 d1 d2;have a8:((k:Nat):Int)<33:=by omega
   have hf:=hr.out.frozen k;have hc:=hr.out.get (k:=k) (s:=0) (by unfold Gs;rw[List.getElem?_map,List.getElem?_range (by omega)];simp);have b2:w.heap.size<wr.heap.size:=by omega
   have b0:w.heap.size+1<wr.heap.size:=a7;by_cases hh:((bits .or .u32 (bits .andNot .u32 p sp) (bits .andNot .u32 m sm)==0) !=neg)=true
   ·have a0:=Nw p m neg ws k (sp,sm) HK.out (by omega);rw[if_pos (show Zx p m neg (sp,sm)=true from hh)]at a0;have a2:=hI a0;clear a0;have b1:=hI (N3 (k+1) (by omega));have a9:(!(bits .or .u32 (bits .andNot .u32 p sp) (bits .andNot .u32 m sm)==0)==neg)=true:=by cases neg<;>simpa using hh
    clear hh;go_wp2
    go_roundw
    case rel=>
     refine⟨k+1,by omega,by go_num, ?_, ?_,bel⟩
     ·exact(Below.heap_alloc _ _ _ (by simp;omega)).trans ((Below.heap_setCell _ _ _ _ (by simp)).trans hb.out)
     ·have h1:=(hr.out.set (k:=k) (s:=2^(k+1))).alloc (.cells #[.int .u32 sp, .int .u32 sm] 49);rw[a2.out,b1.out];exact h1
    case measure=>simp[intOf];omega
   ·have a4:((bits .or .u32 (bits .andNot .u32 p sp) (bits .andNot .u32 m sm)==0) !=neg)=false:=by simpa using hh
    have a0:=Nw p m neg ws k (sp,sm) HK.out (by omega);rw[if_neg (show¬Zx p m neg (sp,sm)=true from hh)]at a0;have a2:=hI a0;clear a0 hh;have a9:(!(bits .or .u32 (bits .andNot .u32 p sp) (bits .andNot .u32 m sm)==0)==neg)=false:=by cases neg<;>simpa using a4
    clear a4;go_wp2
    go_roundw
    case rel=>
     refine⟨k+1,by omega,by go_num, ?_, ?_,bel⟩
     ·exact(Below.heap_alloc _ _ _ (by omega)).trans hb.out
     ·have h1:=hr.out.alloc (.cells #[.int .u32 sp, .int .u32 sm] 49);rw[a2.out];exact h1
    case measure=>simp[intOf];omega
  ·obtain rfl:k=n:=by omega
   have a1:Gs p m neg ws k=Up p m neg ws:=by rw[←HW.out.len];exact W8 p m neg ws
   have HA:=hI a1;clear a1
   go_wp2_with(first
    |(refine D2 rfl (.tmp 4) rfl (w.heap.size+1) _ rfl hr.out ?_)
    |(refine Bd rfl (.tmp 4) (.tmp 37) rfl (w.heap.size+1) _ _ rfl rfl hr.out hr.out.2 ?_;intro w1 a6 a5 b4))
   exact bodyPost_ret (Dc Tryz.results261 _ _ (w.heap.size+1) _ rfl a6) rfl ⟨by rw[HA.out],Ba hB a5 (by omega) hB.size⟩
def Fz (a:Nat):List Nat:=Bl.set a (2^a)
theorem Gt (a:Nat):(Fz a).length=33:=by unfold Fz;rw[List.length_set];rfl
theorem Qf (a:Nat)(ha:a<=32):Dh (Fz a)=((Bl.map fun(s:Nat)=>Value.int .u64 (s:Int)).set a (.int .u64 (IntKind.u64.wrap (2^a)))).toArray:=by
 unfold Dh Fz;rw[List.map_set,N3 a (by omega)]
theorem Zy (e:Bool)(A:Option Addr)(n c:Nat)(w:World)(hn:n<=32):
  Calls Tryz.prog 262 #[.agg #[.bool e], .slice A n c] w (Gi w (Fz (if e then n else 0))):=by
 cases e
 ·go_enter Tryz.func262,Tryz.ntmps262
  go_wp2_with(first
    |(refine D2 rfl (.tmp 4) rfl _ (Fz 0) rfl ?hr ?_)
    |(refine Bd rfl (.tmp 4) (.tmp 14) rfl _ (Fz 0) (Fz 0) rfl rfl ?hs rfl ?hc))
  case hr=>exact⟨hpt,rfl⟩
  case hs=>exact⟨hpt,rfl⟩
  case hc=>
   intro w1 a1 a0 a3;go_wp2;exact bodyPost_ret (Dc Tryz.results262 _ _ (w.heap.size+1) _ rfl a1) rfl ⟨rfl,Ba bel a0 (by omega) (by simp;omega)⟩
 ·go_enter Tryz.func262,Tryz.ntmps262;have a2:((n:Nat):Int)<33:=by omega
  have hz:([.int .u64 0, .int .u64 0, .int .u64 0, .int .u64 0, .int .u64 0, .int .u64 0, .int .u64 0, .int .u64 0, .int .u64 0, .int .u64 0, .int .u64 0, .int .u64 0, .int .u64 0, .int .u64 0, .int .u64 0, .int .u64 0, .int .u64 0, .int .u64 0, .int .u64 0, .int .u64 0, .int .u64 0, .int .u64 0, .int .u64 0, .int .u64 0, .int .u64 0, .int .u64 0, .int .u64 0, .int .u64 0, .int .u64 0, .int .u64 0, .int .u64 0, .int .u64 0, .int .u64 0]:List Value)[n]? =some (.int .u64 0):=by
   rw[show([.int .u64 0, .int .u64 0, .int .u64 0, .int .u64 0, .int .u64 0, .int .u64 0, .int .u64 0, .int .u64 0, .int .u64 0, .int .u64 0, .int .u64 0, .int .u64 0, .int .u64 0, .int .u64 0, .int .u64 0, .int .u64 0, .int .u64 0, .int .u64 0, .int .u64 0, .int .u64 0, .int .u64 0, .int .u64 0, .int .u64 0, .int .u64 0, .int .u64 0, .int .u64 0, .int .u64 0, .int .u64 0, .int .u64 0, .int .u64 0, .int .u64 0, .int .u64 0, .int .u64 0]:List Value)=List.replicate 33 (.int .u64 0)from rfl,List.getElem?_replicate,if_pos (by omega)]
  go_wp2_with(first
    |(refine D2 rfl (.tmp 4) rfl _ (Fz n) rfl ?hr ?_)
    |(refine Bd rfl (.tmp 4) (.tmp 14) rfl _ (Fz n) (Fz n) rfl rfl ?hs (Gt n) ?hc))
  case hr=>exact⟨by rw[Qf n hn];exact Ah (by simp),Gt n⟩
  case hs=>exact⟨by rw[Qf n hn];exact Ah (by simp),Gt n⟩
  case hc=>
   intro w1 a1 a0 a3;go_wp2;exact bodyPost_ret (Dc Tryz.results262 _ _ (w.heap.size+1) _ rfl a1) rfl ⟨rfl,Ba bel a0 (by omega) (by simp;omega)⟩
def Zz (v:Value)(w:World)(A:Option Addr)(n c:Nat)(r:List Nat):Prop:=
 (∃x,v= .iface 279 (.agg x)/\Calls Tryz.prog 261 #[.agg x, .slice A n c] w (Gi w r))∨
 (∃x,v= .iface 281 (.agg x)/\Calls Tryz.prog 262 #[.agg x, .slice A n c] w (Gi w r))∨
 (∃x,v= .iface 283 (.agg x)/\Calls Tryz.prog 263 #[.agg x, .slice A n c] w (Gi w r))∨
 (∃x,v= .iface 285 (.agg x)/\Calls Tryz.prog 265 #[.agg x, .slice A n c] w (Gi w r))∨
 (∃x,v= .iface 286 (.agg x)/\Calls Tryz.prog 268 #[.agg x, .slice A n c] w (Gi w r))
theorem Kr (rs:List (List Nat))(hs:∀r∈rs,Bj r)(a:List Nat)(ha:Bj a):Bj (rs.foldl C9 a):=by
 induction rs generalizing a with
 |nil=>exact ha
 |cons r rs ih=>exact ih (fun x hx=>hs x (List.mem_cons_of_mem _ hx)) _ (D3 _ _ (hs r (List.mem_cons_self ..)))
theorem Ss (n:Nat)(rs:List (List Nat))(k:Nat)(hs:∀r∈rs,Bj r):Bj ((rs.take k).foldl C9 (idR n)):=
 Kr _ (fun r hr=>hs r (List.mem_of_mem_take hr)) _ (Ds n)
theorem Aej (A':Option Addr)(n' c':Nat)(cvs:List Value)(rs:List (List Nat))(A:Option Addr)(n c:Nat)(w:World)(hcv:Am w A' n' c' 1 cvs)(hlen:rs.length=cvs.length)
  (a6:∀W,Below w.heap.size w W→∀(i:Nat) v r,cvs[i]? =some v->rs[i]? =some r->Zz v W A n c r) (hrl:∀r∈rs,r.length=33/\Bj r) (hn:n<=32) (hT:Cc w):
  Calls Tryz.prog 268 #[.agg #[.slice A' n' c'], .slice A n c] w (Gi w (rs.foldl C9 (idR n))):=by
 have hm:n'<=9223372036854775807:=by have h1:=hcv.2.1;have h2:=hcv.2.2.1;unfold maxLen at h2;omega
 have HC:=hI hcv;clear hcv;have HL:=hI hlen;clear hlen;have HI:=hI a6;clear a6;have HR:=hI hrl;clear hrl;have HT:=hI hT;clear hT;go_enter Tryz.func268,Tryz.ntmps268
 go_wp2_with(first
  |(go_at_call 266;refine(J5 n _ hn).mono ?_;rintro e w1 ⟨rfl,a8⟩;have g4:=Ck a8;(try simp only[World.size_alloc,World.size_drew,World.size_setCell]at g4)
    have d9:w1.heap[w.heap.size]? =some (.cells #[.slice A' n' c'] 286 (0,0)):=(a8.block _ sd).trans hpt;have d1:Bk w1 (w.heap.size+1) Bl:=⟨(a8.block _ sd).trans hpt,rfl⟩;have b8:Below w.heap.size w w1:=bel;clear a8)
  |(refine Bd rfl (.tmp 5) (.tmp 11) rfl _ Bl (idR n) rfl rfl ?hr (Hf n) ?hc))
 case hr=>exact⟨hpt,rfl⟩
 case hc=>
  intro w2 d6 a9 f4;have b7:w2.heap[w.heap.size]? =some (.cells #[.slice A' n' c'] 286 (0,0)):=(a9.block _ sd (by omega)).trans ((Below.heap_alloc _ _ _ (by omega)).trans d9);have b4:Hid (Bk w2 (w.heap.size+1) Bl):=(d1.alloc _).keep1 a9 (by omega);have g2:Below w.heap.size w w2:=Ba (b8.alloc b8.size _) a9 (by omega) sd;have g3:Hid (Bk w2 w1.heap.size (idR n)):=d6;have i0:w1.heap.size<w2.heap.size:=by omega
  have i2:=cell_of_one b7;have f6:=hI b7;clear d9 d1 a9 f4 d6 b8 b7;go_wp2
  go_loopw [15] (fun i wr=>∃(k:Nat),k<=n'/\i= .int .i64 k/\Hid (wr.heap[w.heap.size]? =some (.cells #[.slice A' n' c'] 286 (0,0)))∧
   Hid (Bk wr (w.heap.size+1) Bl)/\Hid (Bk wr w1.heap.size ((rs.take k).foldl C9 (idR n)))/\Below w.heap.size w wr) (fun i _=>n'-(intOf i).toNat)
  case atStart=>exact⟨0,Nat.zero_le _,rfl,f6,b4,g3,g2⟩
  case round=>
   obtain⟨k,hk,rfl,hb,hz,ho,hB⟩:=hrel;have g9:=hB.size;have i1:=ho.out.lt;have g5:=hI (HT.out.below hB rr);by_cases hlt:k<n'
   ·obtain⟨b,off,v,rfl,i6,d2,g8⟩:=(HC.out.below hB rr).at1 hlt;have b9:k<rs.length:=by rw[HL.out,HC.out.1];omega
    have d5:rs[k]? =some rs[k]:=List.getElem?_eq_getElem b9;have a6:=HI.out wr hB k v rs[k] d2 d5
    have d3:(rs.take (k+1)).foldl C9 (idR n)=C9 ((rs.take k).foldl C9 (idR n)) rs[k]:=by
     rw[List.take_succ_eq_append_getElem b9,List.foldl_append];rfl
    have a4:=HR.out rs[k] (List.getElem_mem b9);have d4:=hI d3;have b2:=hI a4;generalize rs[k]=r at a6 d4 b2;clear d2 d5 d3 a4;rcases a6 with⟨x,rfl,a0⟩|⟨x,rfl,a0⟩|⟨x,rfl,a0⟩|⟨x,rfl,a0⟩|⟨x,rfl,a0⟩
    all_goals
     have a1:=hI a0;clear a0;go_wp2_with fail;refine a1.out.mono ?_;rintro e w3 ⟨rfl,a2⟩;have f9:=a2.size;have b5:=hI ((a2.block _ (by omega)).trans hb.out);have f5:=hI (ho.out.below a2 rr);have g1:=hI (hz.out.below a2 rr);have i4:=hI (g5.out.below a2 rr);have d0:Below w.heap.size w w3:=bel;clear a2 a1;go_wp2_with(refine Bd rfl (.tmp 8) (.tmp 21) rfl _ Bl r rfl rfl ?hr b2.out.1 ?hc)
     case hr=>exact⟨hpt,rfl⟩
     case hc=>
      intro w4 b1 a7 g6;have b3:=hI ((a7.block _ sd (by omega)).trans ((Below.heap_alloc _ _ _ (by omega)).trans b5.out));have d8:=hI ((f5.out.alloc (.cells ((Bl.map fun(s:Nat)=>Value.int .u64 (s:Int)).toArray) 266)).keep1 a7 (by omega));have f3:=hI ((g1.out.alloc (.cells ((Bl.map fun(s:Nat)=>Value.int .u64 (s:Int)).toArray) 266)).keep1 a7 (by omega));have f7:=hI b1;have f8:Below w.heap.size w w4:=Ba (d0.alloc d0.size _) a7 (by omega) sd;have f2:Hid (Cc w4):=HT.out.below f8 rr;have i5:w3.heap.size<w4.heap.size:=b1.lt;clear b1 a7 g6;go_wp2_with fail;refine(L4 w1.heap.size w3.heap.size ((rs.take k).foldl C9 (idR n)) r _ d8.out f7.out f2.out (Ss n rs k fun r hr=>(HR.out r hr).2) b2.out.2).mono ?_;rintro e w5 ⟨rfl,a5⟩;have i3:=a5.size;have b0:=hI ((a5.block _ (by omega)).trans b3.out);have d7:=hI (d8.out.below a5 rr);have g0:=hI (f3.out.below a5 rr);have f0:Below w.heap.size w w5:=bel;clear a5;go_wp2_with(refine Bd rfl (.tmp 5) (.tmp 22) rfl _ _ _ rfl rfl d7.out (by rw[D6];exact d7.out.2) ?hd)
      case hd=>
       intro w6 f1 b6 i7;go_wp2
       go_roundw
       case rel=>
        refine⟨k+1,by omega,by go_num,(b6.block _ (by omega) (by omega)).trans b0.out,g0.out.keep1 b6 (by omega), ?_,Ba f0 b6 (by omega) f0.size⟩;rw[d4.out];exact f1
       case measure=>simp[intOf];omega
   ·obtain rfl:k=n':=by omega
    have a3:rs.take k=rs:=List.take_of_length_le (by rw[HL.out,HC.out.1];omega);have HA:=hI a3;clear a3
    go_wp2_with(first
     |(refine D2 rfl (.tmp 5) rfl w1.heap.size _ rfl ho.out ?_)
     |(refine Bd rfl (.tmp 4) (.tmp 24) rfl (w.heap.size+1) Bl _ rfl rfl hz.out ho.out.2 ?hd))
    case hd=>
     intro w3 b4 g7 f9;go_wp2;exact bodyPost_ret (Dc Tryz.results268 _ _ (w.heap.size+1) _ rfl b4) rfl ⟨by rw[HA.out],Ba hB g7 (by omega) hB.size⟩
theorem Rd (x y:List Nat)(hx:x.length=33)(hy:y.length=33):(orR x y).length=33:=by
 unfold orR;rw[List.length_zipWith];omega
theorem Fy (x y:List Nat)(hx:Bj x)(hy:Bj y):Bj (orR x y):=by
 intro s hs;obtain⟨i,hi,rfl⟩:=List.getElem_of_mem hs;unfold orR at hi ⊢;rw[List.getElem_zipWith];exact N2 (hx _ (List.getElem_mem _)) (hy _ (List.getElem_mem _))
theorem Ge:Bj Bl:=by
 intro s hs;rw[show s=0 from List.eq_of_mem_replicate (by rw[show Bl=List.replicate 33 0 from rfl]at hs;exact hs)];unfold Cd;omega
theorem Hk (rs:List (List Nat))(hs:∀r∈rs,Bj r)(a:List Nat)(ha:Bj a):Bj (rs.foldl orR a):=by
 induction rs generalizing a with
 |nil=>exact ha
 |cons r rs ih=>exact ih (fun x hx=>hs x (List.mem_cons_of_mem _ hx)) _ (Fy _ _ ha (hs r (List.mem_cons_self ..)))
theorem Nx (rs:List (List Nat))(k:Nat)(hs:∀r∈rs,Bj r):Bj ((rs.take k).foldl orR Bl):=
 Hk _ (fun r hr=>hs r (List.mem_of_mem_take hr)) _ Ge
theorem Aek (A':Option Addr)(n' c':Nat)(cvs:List Value)(rs:List (List Nat))(A:Option Addr)(n c:Nat)(w:World)(hcv:Am w A' n' c' 1 cvs)(hlen:rs.length=cvs.length)
  (a4:∀W,Below w.heap.size w W→∀(i:Nat) v r,cvs[i]? =some v->rs[i]? =some r->Zz v W A n c r) (hrl:∀r∈rs,r.length=33/\Bj r):
  Calls Tryz.prog 263 #[.agg #[.slice A' n' c'], .slice A n c] w (Gi w (rs.foldl orR Bl)):=by
 have hm:n'<=9223372036854775807:=by have h1:=hcv.2.1;have h2:=hcv.2.2.1;unfold maxLen at h2;omega
 have HC:=hI hcv;clear hcv;have HL:=hI hlen;clear hlen;have HI:=hI a4;clear a4;have HR:=hI hrl;clear hrl;go_enter Tryz.func263,Tryz.ntmps263;go_wp2
 go_loopw [11] (fun i wr=>∃(k:Nat),k<=n'/\i= .int .i64 k/\Hid (Bk wr (w.heap.size+1) ((rs.take k).foldl orR Bl))/\Below w.heap.size w wr) (fun i _=>n'-(intOf i).toNat)
 case atStart=>exact⟨0,Nat.zero_le _,rfl,⟨hpt,rfl⟩,bel⟩
 case round=>
  obtain⟨k,hk,rfl,hz,hB⟩:=hrel;have d8:=hB.size;have d9:=hz.out.lt;by_cases hlt:k<n'
  ·obtain⟨b,off,v,rfl,f2,b2,d7⟩:=(HC.out.below hB rr).at1 hlt;have a9:k<rs.length:=by rw[HL.out,HC.out.1];omega
   have b5:rs[k]? =some rs[k]:=List.getElem?_eq_getElem a9;have a4:=HI.out wr hB k v rs[k] b2 b5
   have b3:(rs.take (k+1)).foldl orR Bl=orR ((rs.take k).foldl orR Bl) rs[k]:=by
    rw[List.take_succ_eq_append_getElem a9,List.foldl_append];rfl
   have a3:=HR.out rs[k] (List.getElem_mem a9);have b4:=hI b3;have a7:=hI a3;generalize rs[k]=r at a4 b4 a7;clear b2 b5 b3 a3;rcases a4 with⟨x,rfl,a0⟩|⟨x,rfl,a0⟩|⟨x,rfl,a0⟩|⟨x,rfl,a0⟩|⟨x,rfl,a0⟩
   all_goals
    have a1:=hI a0;clear a0;go_wp2_with fail;refine a1.out.mono ?_;rintro e w3 ⟨rfl,a5⟩;have d1:=a5.size;have d3:=hI (hz.out.below a5 rr);have b1:Below w.heap.size w w3:=bel;clear a5 a1;go_wp2_with(refine Bd rfl (.tmp 7) (.tmp 17) rfl _ Bl r rfl rfl ?hr a7.out.1 ?hc)
    case hr=>exact⟨hpt,rfl⟩
    case hc=>
     intro w4 a6 a8 d4;have b8:=hI ((d3.out.alloc (.cells ((Bl.map fun(s:Nat)=>Value.int .u64 (s:Int)).toArray) 266)).keep1 a8 (by omega));have d0:=hI a6;have b6:Below w.heap.size w w4:=Ba (b1.alloc b1.size _) a8 (by omega) sd;have f1:w3.heap.size<w4.heap.size:=a6.lt;clear a6 a8 d4;go_wp2_with fail;refine(Aep (w.heap.size+1) w3.heap.size ((rs.take k).foldl orR Bl) r _ b8.out d0.out (by omega) (Nx rs k fun r hr=>(HR.out r hr).2) a7.out.2).mono ?_;rintro e w5 ⟨rfl,b0,b7,f0⟩;have b9:=hI b0;have d6:Below w.heap.size w w5:=Ba b6 b7 (by omega) b6.size;clear b0 b7;go_wp2
     go_roundw
     case rel=>
      refine⟨k+1,by omega,by go_num, ?_,d6⟩;rw[b4.out];exact b9.out
     case measure=>simp[intOf];omega
  ·obtain rfl:k=n':=by omega
   have a2:rs.take k=rs:=List.take_of_length_le (by rw[HL.out,HC.out.1];omega);have HA:=hI a2;clear a2
   go_wp2_with(first
    |(refine D2 rfl (.tmp 4) rfl (w.heap.size+1) _ rfl hz.out ?_)
    |(refine Bd rfl (.tmp 4) (.tmp 20) rfl (w.heap.size+1) _ _ rfl rfl hz.out hz.out.2 ?hd))
   case hd=>
    intro w3 d2 d5 d1;go_wp2;exact bodyPost_ret (Dc Tryz.results263 _ _ (w.heap.size+1) _ rfl d2) rfl ⟨by rw[HA.out],Ba hB d5 (by omega) hB.size⟩
theorem Z0 (f:Nat)(x:List Nat)(k:Nat)(out:List Nat)(ho:out.length=33):(Mz f x k out).length=33:=by
 induction f generalizing x k out with
 |zero=>exact ho
 |succ f ih=>
  simp only[Mz];split
  ·exact ho
  ·refine ih _ _ _ ?_;split
   ·rw[D6];exact ho
   ·exact ho
theorem Gu (x:List Nat)(k n:Nat):(Gx x k n).length=33:=Z0 _ _ _ _ (Hf n)
theorem Ur (f:Nat)(x:List Nat)(k:Nat)(out:List Nat)(hx:Bj x)(ho:Bj out):Bj (Mz f x k out):=by
 induction f generalizing x k out with
 |zero=>exact ho
 |succ f ih=>
  simp only[Mz];split
  ·exact ho
  ·refine ih _ _ _ (D3 _ _ hx) ?_;split
   ·exact D3 _ _ hx
   ·exact ho
theorem F0 (x:List Nat)(k n:Nat)(hx:Bj x):Bj (Gx x k n):=Ur _ _ _ _ hx (Ds n)
def Re (lo:Nat)(hi:Int)(n:Nat):Nat:=if hi<0 then n else(hi-lo).toNat
def Us (r:List Nat)(lo:Nat)(hi:Int)(n:Nat):List Nat:=C9 (Gx r lo n) (Gx (orR r (idR n)) (Re lo hi n) n)
theorem Ael (v:Value)(lo:Nat)(hi:Int)(r:List Nat)(A:Option Addr)(n c:Nat)(w:World)
  (g3:∀W,Below w.heap.size w W->Zz v W A n c r) (hrl:r.length=33/\Bj r) (hlo:lo<=64) (hhi:hi<0\/(lo:Int)<=hi/\hi<=64) (hn:n<=32) (hT:Cc w):
  Calls Tryz.prog 265 #[.agg #[v, .int .i64 (lo:Int), .int .i64 hi], .slice A n c] w (Gi w (Us r lo hi n)):=by
 have HI:=hI g3;clear g3;have HR:=hI hrl;clear hrl;have HT:=hI hT;clear hT;have j1:Below w.heap.size w ((w.alloc (.cells #[v, .int .i64 (lo:Int), .int .i64 hi] 285)).alloc (.cells ((Bl.map fun(s:Nat)=>Value.int .u64 (s:Int)).toArray) 266)):=bel;have g3:=HI.out _ j1;clear j1;rcases g3 with⟨x,rfl,a0⟩|⟨x,rfl,a0⟩|⟨x,rfl,a0⟩|⟨x,rfl,a0⟩|⟨x,rfl,a0⟩
 all_goals
  have b5:=hI a0;clear a0;go_enter Tryz.func265,Tryz.ntmps265;go_wp2_with fail;refine b5.out.mono ?_;rintro e w1 ⟨rfl,g4⟩;have k1:=g4.size;simp only[World.size_alloc]at k1;have k8:=hI ((g4.block w.heap.size sd).trans (show _=some (.cells #[_, .int .i64 (lo:Int), .int .i64 hi] 285 (0,0))from hpt));have i0:Hid (Bk w1 (w.heap.size+1) Bl):=⟨(g4.block _ sd).trans hpt,rfl⟩;have j5:Below w.heap.size w w1:=bel;clear g4 b5;go_wp2_with(refine Bd rfl (.tmp 5) (.tmp 13) rfl _ Bl r rfl rfl ?hr HR.out.1 ?hc)
  case hr=>exact⟨hpt,rfl⟩
  case hc=>
   intro w2 i2 g1 m0;have b3:=hI i2;have g7:=hI ((g1.block w.heap.size sd (by omega)).trans ((Below.heap_alloc _ _ _ (by omega)).trans k8.out));have g8:=hI ((i0.out.alloc (.cells ((Bl.map fun(s:Nat)=>Value.int .u64 (s:Int)).toArray) 266)).keep1 g1 (by omega));have k4:Below w.heap.size w w2:=Ba (j5.alloc j5.size _) g1 (by omega) sd;have o0:w1.heap.size<w2.heap.size:=i2.lt;clear i2 g1 m0;have d1:=cell_of_row w2 w.heap.size 1 _ _ _ g7.out;have d2:=cell_of_row w2 w.heap.size 2 _ _ _ g7.out;simp only[List.getElem?_toArray,List.getElem?_cons_zero,List.getElem?_cons_succ]at d1 d2;have m7:Hid (Cc w2):=HT.out.below k4 rr;go_wp2_with(refine D2 rfl (.tmp 5) rfl w1.heap.size r rfl b3.out ?_);refine(Rh r lo n _ HR.out.1 HR.out.2 hlo hn m7.out).mono ?_;rintro e w3 ⟨rfl,f3⟩;clear d1 d2;have o5:=f3.size;have k0:=hI ((f3.block w.heap.size (by omega)).trans g7.out);have g9:=hI (g8.out.below f3 rr);have f5:=hI (b3.out.below f3 rr);have j6:Below w.heap.size w w3:=bel;clear f3;go_wp2_with(refine Bd rfl (.tmp 6) (.tmp 19) rfl _ Bl (Gx r lo n) rfl rfl ?hr (Gu r lo n) ?hd)
   case hr=>exact⟨hpt,rfl⟩
   case hd=>
    intro w4 i1 f6 k6;have d5:=hI i1;have m5:=hI ((f6.block w.heap.size sd (by omega)).trans ((Below.heap_alloc _ _ _ (by omega)).trans k0.out));have i6:=hI ((g9.out.alloc (.cells ((Bl.map fun(s:Nat)=>Value.int .u64 (s:Int)).toArray) 266)).keep1 f6 (by omega));have d7:=hI ((f5.out.alloc (.cells ((Bl.map fun(s:Nat)=>Value.int .u64 (s:Int)).toArray) 266)).keep1 f6 (by omega));have j2:Below w.heap.size w w4:=Ba (j6.alloc j6.size _) f6 (by omega) sd;have m9:w3.heap.size<w4.heap.size:=i1.lt;clear i1 f6 k6;go_wp2_with(first|(refine D2 rfl (.tmp 5) rfl w1.heap.size r rfl d7.out ?_)|(refine Bd rfl (.tmp 7) (.tmp 20) rfl _ Bl r rfl rfl ?hr HR.out.1 ?he))
    case hr=>exact⟨hpt,rfl⟩
    case he=>
     intro w5 i8 d8 m4;have f9:=hI i8;have k7:=hI ((d8.block w.heap.size sd (by omega)).trans ((Below.heap_alloc _ _ _ (by omega)).trans m5.out));have g6:=hI ((i6.out.alloc (.cells ((Bl.map fun(s:Nat)=>Value.int .u64 (s:Int)).toArray) 266)).keep1 d8 (by omega));have d6:=hI ((d5.out.alloc (.cells ((Bl.map fun(s:Nat)=>Value.int .u64 (s:Int)).toArray) 266)).keep1 d8 (by omega));have o2:Below w.heap.size w w5:=Ba (j2.alloc j2.size _) d8 (by omega) sd;have o3:w4.heap.size<w5.heap.size:=i8.lt;clear i8 d8 m4;go_wp2_with fail;refine(J5 n _ hn).mono ?_;rintro e w6 ⟨rfl,d3⟩;have o1:=d3.size;have m8:=hI ((d3.block w.heap.size (by omega)).trans k7.out);have i7:=hI (g6.out.below d3 rr);have f8:=hI (d6.out.below d3 rr);have f2:=hI (f9.out.below d3 rr);have j3:Below w.heap.size w w6:=bel;clear d3;go_wp2_with(refine Bd rfl (.tmp 8) (.tmp 23) rfl _ Bl (idR n) rfl rfl ?hr (Hf n) ?hf)
     case hr=>exact⟨hpt,rfl⟩
     case hf=>
      intro w7 i5 d4 m6;have f4:=hI i5;have k3:=hI ((d4.block w.heap.size sd (by omega)).trans ((Below.heap_alloc _ _ _ (by omega)).trans m8.out));have g5:=hI ((i7.out.alloc (.cells ((Bl.map fun(s:Nat)=>Value.int .u64 (s:Int)).toArray) 266)).keep1 d4 (by omega));have f1:=hI ((f8.out.alloc (.cells ((Bl.map fun(s:Nat)=>Value.int .u64 (s:Int)).toArray) 266)).keep1 d4 (by omega));have d9:=hI ((f2.out.alloc (.cells ((Bl.map fun(s:Nat)=>Value.int .u64 (s:Int)).toArray) 266)).keep1 d4 (by omega));have j7:Below w.heap.size w w7:=Ba (j3.alloc j3.size _) d4 (by omega) sd;have o6:w6.heap.size<w7.heap.size:=i5.lt;clear i5 d4 m6;go_wp2_with fail;refine(Aep w4.heap.size w6.heap.size r (idR n) _ d9.out f4.out (by omega) HR.out.2 (Ds n)).mono ?_;rintro e w8 ⟨rfl,j8,f7,j9⟩
      skip
      have a4:=hI j8;have g2:=hI ((f7.block w.heap.size sd (by omega)).trans k3.out);have f0:=hI (g5.out.keep1 f7 (by omega));have b4:=hI (f1.out.keep1 f7 (by omega));have m2:Below w.heap.size w w8:=Ba j7 f7 (by omega) j7.size;have o4:w8.heap.size=w7.heap.size:=j9;clear j8 f7 j9;have d1:=cell_of_row w8 w.heap.size 1 _ _ _ g2.out;have d2:=cell_of_row w8 w.heap.size 2 _ _ _ g2.out;simp only[List.getElem?_toArray,List.getElem?_cons_zero,List.getElem?_cons_succ]at d1 d2;have j0:Hid (Cc w8):=HT.out.below m2 rr
      have ex:∃ex:Nat,ex<=64/\ex=Re lo hi n/\(hi<0->ex=n)/\(¬hi<0->(ex:Int)=hi-lo):=by
       refine⟨Re lo hi n, ?_,rfl, ?_, ?_⟩<;>unfold Re<;>split<;>omega
      obtain⟨ex,j4,HE,k2,m3⟩:=ex
      replace HE:=hI HE
      by_cases hneg:hi<0
      ·obtain rfl:=(k2 hneg).symm;go_wp2_with(refine D2 rfl (.tmp 7) rfl w4.heap.size (orR r (idR n)) rfl a4.out ?_);refine(Rh (orR r (idR n)) n n _ (Rd _ _ HR.out.1 (Hf n)) (Fy _ _ HR.out.2 (Ds n)) j4 hn j0.out).mono ?_;rintro e w9 ⟨rfl,a5⟩;have k5:=a5.size;have k9:=hI ((a5.block w.heap.size (by omega)).trans g2.out);have b7:=hI (f0.out.below a5 rr);have a6:=hI (b4.out.below a5 rr);have a9:=hI (a4.out.below a5 rr);have g0:Below w.heap.size w w9:=bel;clear a5;go_wp2_with(refine Bd rfl (.tmp 7) (.tmp 39) rfl _ _ (Gx (orR r (idR n)) n n) rfl rfl a9.out (Gu _ _ _) ?hg)
       case hg=>
        intro w10 b2 a1 i3;have b9:Below w.heap.size w w10:=Ba g0 a1 (by omega) g0.size;have a8:=hI (b7.out.keep1 a1 (by omega));have a3:=hI (a6.out.keep1 a1 (by omega));have b0:=hI b2;have b6:Hid (Cc w10):=HT.out.below b9 rr;clear b2 a1;go_wp2_with fail;refine(L4 w3.heap.size w4.heap.size (Gx r lo n) (Gx (orR r (idR n)) n n) _ a3.out b0.out b6.out (F0 _ _ _ HR.out.2) (F0 _ _ _ (Fy _ _ HR.out.2 (Ds n)))).mono ?_;rintro e w11 ⟨rfl,a2⟩;have b1:=hI (a8.out.below a2 rr);have i4:=a2.size;have a7:Below w.heap.size w w11:=bel;clear a2;go_wp2_with(refine Bd rfl (.tmp 4) (.tmp 40) rfl _ Bl (C9 (Gx r lo n) (Gx (orR r (idR n)) n n)) rfl rfl b1.out (by rw[D6];exact Gu _ _ _) ?hh)
        case hh=>
         intro w12 b8 d0 i9;go_wp2;exact bodyPost_ret (Dc Tryz.results265 _ _ (w.heap.size+1) _ rfl b8) rfl ⟨by unfold Us;rw[←HE.out],Ba a7 d0 (by omega) a7.size⟩
      ·have m1:=m3 hneg;go_wp2_with(refine D2 rfl (.tmp 7) rfl w4.heap.size (orR r (idR n)) rfl a4.out ?_);rw[←m1];refine(Rh (orR r (idR n)) ex n _ (Rd _ _ HR.out.1 (Hf n)) (Fy _ _ HR.out.2 (Ds n)) j4 hn j0.out).mono ?_;rintro e w9 ⟨rfl,a5⟩;have k5:=a5.size;have k9:=hI ((a5.block w.heap.size (by omega)).trans g2.out);have b7:=hI (f0.out.below a5 rr);have a6:=hI (b4.out.below a5 rr);have a9:=hI (a4.out.below a5 rr);have g0:Below w.heap.size w w9:=bel;clear a5;go_wp2_with(refine Bd rfl (.tmp 7) (.tmp 39) rfl _ _ (Gx (orR r (idR n)) ex n) rfl rfl a9.out (Gu _ _ _) ?hg)
       case hg=>
        intro w10 b2 a1 i3;have b9:Below w.heap.size w w10:=Ba g0 a1 (by omega) g0.size;have a8:=hI (b7.out.keep1 a1 (by omega));have a3:=hI (a6.out.keep1 a1 (by omega));have b0:=hI b2;have b6:Hid (Cc w10):=HT.out.below b9 rr;clear b2 a1;go_wp2_with fail;refine(L4 w3.heap.size w4.heap.size (Gx r lo n) (Gx (orR r (idR n)) ex n) _ a3.out b0.out b6.out (F0 _ _ _ HR.out.2) (F0 _ _ _ (Fy _ _ HR.out.2 (Ds n)))).mono ?_;rintro e w11 ⟨rfl,a2⟩;have b1:=hI (a8.out.below a2 rr);have i4:=a2.size;have a7:Below w.heap.size w w11:=bel;clear a2;go_wp2_with(refine Bd rfl (.tmp 4) (.tmp 40) rfl _ Bl (C9 (Gx r lo n) (Gx (orR r (idR n)) ex n)) rfl rfl b1.out (by rw[D6];exact Gu _ _ _) ?hh)
        case hh=>
         intro w12 b8 d0 i9;go_wp2;exact bodyPost_ret (Dc Tryz.results265 _ _ (w.heap.size+1) _ rfl b8) rfl ⟨by unfold Us;rw[←HE.out],Ba a7 d0 (by omega) a7.size⟩
def Mm (k:Nd)(A:Option Addr)(n c:Nat)(cvs:List Value):Value:=
 if k.kind=1 then .iface 279 (.agg #[.int .u32 k.isp, .int .u32 k.ism, .bool k.neg])
 else if k.kind=2 then .iface 281 (.agg #[.bool false])
 else if k.kind=6 then .iface 281 (.agg #[.bool true])
 else if k.kind=4 then .iface 283 (.agg #[.slice A n c])
 else if k.kind=5 then .iface 285 (.agg #[cvs.headD undef, .int .i64 k.lo, .int .i64 k.hi])
 else .iface 286 (.agg #[.slice A n c])
def E2 (w:World):Fo->List Value->Prop
 | .nil,vs=>vs=[]
 | .node k ch nx,vs=>∃A n c cvs v vs',vs=v::vs'/\Am w A n c 1 cvs/\E2 w ch cvs/\v=Mm k A n c cvs/\E2 w nx vs'
theorem E2.below {w w':World}{B:Nat}(hb:Below B w w')(hB:w.heap.size<=B):∀(f:Fo) (vs:List Value),E2 w f vs->E2 w' f vs
 | .nil,_,h=>h
 | .node _ ch nx,_,⟨A,n,c,cvs,v,vs',h1,h2,h3,h4,h5⟩=>⟨A,n,c,cvs,v,vs',h1,h2.below hb hB,below hb hB ch _ h3,h4,below hb hB nx _ h5⟩
theorem E2.len {w:World}:∀(f:Fo) (vs:List Value),E2 w f vs->vs.length=f.len
 | .nil,_,h=>by rw[show _=[]from h];rfl
 | .node _ ch nx,_,⟨A,n,c,cvs,v,vs',h1,h2,h3,h4,h5⟩=>by rw[h1,List.length_cons,len nx _ h5];rfl
def okF:Fo->Prop
 | .nil=>True
 | .node k ch nx=>Bi k ch.len=0/\okF ch/\okF nx
def Ks (k:Nd)(ws:List Snd)(rs:List (List Nat)):List Nat:=
 if k.kind=1 then Up k.isp k.ism k.neg ws
 else if k.kind=2 then Fz 0
 else if k.kind=6 then Fz ws.length
 else if k.kind=4 then rs.foldl orR Bl
 else if k.kind=5 then Us (rs.headD []) k.lo.toNat k.hi ws.length
 else rs.foldl C9 (idR ws.length)
def He (ws:List Snd):Fo->List (List Nat)
 | .nil=>[]
 | .node k ch nx=>Ks k ws (He ws ch)::He ws nx
theorem Kt (ws:List Snd):∀f:Fo,(He ws f).length=f.len
 | .nil=>rfl
 | .node _ ch nx=>by simp[He,Fo.len,Kt ws nx]
theorem Hv {k:Nd}{n:Nat}(hk:k.kind=5)(h:Bi k n=0):n=1/\0<=k.lo/\k.lo<=32/\(k.hi= -1\/k.lo<=k.hi/\k.hi<=32):=by
 simp only[Bi,hk]at h;simp at h;split at h<;>simp at h;omega
theorem Pn (rs:List (List Nat))(a:List Nat)(ha:a.length=33):(rs.foldl C9 a).length=33:=by
 induction rs generalizing a with
 |nil=>exact ha
 |cons r rs ih=>exact ih _ (by rw[D6];exact ha)
theorem St (rs:List (List Nat))(hr:∀r∈rs,r.length=33)(a:List Nat)(ha:a.length=33):(rs.foldl orR a).length=33:=by
 induction rs generalizing a with
 |nil=>exact ha
 |cons r rs ih=>exact ih (fun x hx=>hr x (List.mem_cons_of_mem _ hx)) _ (Rd _ _ ha (hr r (List.mem_cons_self ..)))
theorem Ny (k:Nat)(hk:k<33):Cd (2^k):=by
 have hp:2^k<=2^32:=Nat.pow_le_pow_right (by decide) (by omega);have a0:(2:Nat)^32=4294967296:=by decide
 unfold Cd;omega
theorem Mn (a:Nat)(ha:a<=32):Bj (Fz a):=by
 intro s hs;unfold Fz at hs;rcases List.mem_or_eq_of_mem_set hs with h|h
 ·exact Ge s h
 ·subst h;exact Ny _ (by omega)
theorem Ut (p m:Int)(neg:Bool)(ws:List Snd)(hn:ws.length<=32):Bj (Up p m neg ws):=by
 intro s hs;obtain⟨k,hk,rfl⟩:=List.mem_map.1 hs;have hk:=List.mem_range.1 hk;rw[if_pos hk]
 cases hx:ws[k]? with
 |none=>exact Fd
 |some x=>
  have:=(List.getElem?_eq_some_iff.1 hx).1
  show Cd (if Zx p m neg x=true then 2^(k+1)else 0);split
  ·exact Ny _ (by omega)
  ·exact Fd
theorem Z1 (r:List Nat)(lo:Nat)(hi:Int)(n:Nat):(Us r lo hi n).length=33:=by unfold Us;rw[D6];exact Gu _ _ _
theorem Uu (r:List Nat)(lo:Nat)(hi:Int)(n:Nat)(hr:Bj r):Bj (Us r lo hi n):=
 D3 _ _ (F0 _ _ _ (Fy _ _ hr (Ds n)))
theorem Ku (ws:List Snd)(hn:ws.length<=32):∀f:Fo,okF f→∀r∈He ws f,r.length=33/\Bj r
 | .nil,_=>by simp[He]
 | .node k ch nx,⟨h1,h2,h3⟩=>by
  intro r hr;rcases List.mem_cons.1 hr with h|h
  ·subst h;have hc:=Ku ws hn ch h2;unfold Ks;split
   ·exact⟨by simp[Up,Gs],Ut _ _ _ _ hn⟩
   ·split
    ·exact⟨Gt _,Mn _ (by omega)⟩
    ·split
     ·exact⟨Gt _,Mn _ hn⟩
     ·split
      ·exact⟨St _ (fun r hr=>(hc r hr).1) _ rfl,Hk _ (fun r hr=>(hc r hr).2) _ Ge⟩
      ·split
       ·rename_i h5
        obtain⟨e1,_⟩:=Hv h5 h1;refine⟨Z1 _ _ _ _,Uu _ _ _ _ ?_⟩;have hl:=Kt ws ch
        cases hx:He ws ch with
        |nil=>rw[hx]at hl;simp at hl;omega
        |cons a l=>exact(hc a (by rw[hx];exact List.mem_cons_self ..)).2
       ·exact⟨Pn _ _ (Hf _),Kr _ (fun r hr=>(hc r hr).2) _ (Ds _)⟩
  ·exact Ku ws hn nx h3 r h
theorem Adw (ws:List Snd)(A:Option Addr)(n c:Nat)(hn:n<=32):∀(f:Fo) (w:World) (vs:List Value),okF f->E2 w f vs->Ae w A n c ws->Cc w→
  ∀W,Below w.heap.size w W→∀(i:Nat) v r,vs[i]? =some v->(He ws f)[i]? =some r->Zz v W A n c r
 | .nil,w,vs,_,hp,_,_=>by
  intro W _ i v r hv _;rw[show vs=[]from hp]at hv;simp at hv
 | .node k ch nx,w,vs,⟨h1,h2,h3⟩,⟨A',n',c',cvs,v0,vs',e0,hC,hch,hv0,hnx⟩,hw,hT=>by
  intro W hB i v r hv hr;subst e0
  cases i with
  |succ i=>
   exact Adw ws A n c hn nx w vs' h3 hnx hw hT W hB i v r (by simpa using hv) (by simpa[He]using hr)
  |zero=>
   obtain rfl:v0=v:=by simpa using hv
   obtain rfl:Ks k ws (He ws ch)=r:=by simpa[He]using hr
   have a3:ws.length=n:=hw.len;have a4:=hC.below hB rr;have a6:=hw.below hB rr;have a5:=hT.below hB rr;have a0:(He ws ch).length=cvs.length:=by rw[Kt,E2.len _ _ hch]
   have a1:∀W',Below W.heap.size W W'→∀(i:Nat) v r,cvs[i]? =some v->(He ws ch)[i]? =some r->Zz v W' A n c r:=fun W' hB'=>by
    refine Adw ws A n c hn ch w cvs h2 hch hw hT W' ?_
    have:=hB.size
    exact Below.trans hB (hB'.mono this)
   have a2:=Ku ws (by omega) ch h2;subst hv0;unfold Mm Ks;split
   ·exact Or.inl ⟨_,rfl,Ab9 _ _ _ _ _ _ _ _ a6 hn⟩
   ·split
    ·exact Or.inr (Or.inl ⟨_,rfl,Zy false _ _ _ _ hn⟩)
    ·split
     ·refine Or.inr (Or.inl ⟨_,rfl, ?_⟩);rw[a3];exact Zy true _ _ _ _ hn
     ·split
      ·exact Or.inr (Or.inr (Or.inl ⟨_,rfl,Aek _ _ _ _ _ _ _ _ _ a4 a0 a1 a2⟩))
      ·split
       ·rename_i h5
        obtain⟨e1,e2,e3,e4⟩:=Hv h5 h1;refine Or.inr (Or.inr (Or.inr (Or.inl ⟨_,rfl, ?_⟩)));have hl:=Kt ws ch
        cases hx:He ws ch with
        |nil=>rw[hx]at hl;simp at hl;omega
        |cons a l=>
         cases hy:cvs with
         |nil=>rw[hx,hy]at a0;simp at a0
         |cons b m=>
          have h:=Ael b k.lo.toNat k.hi a A n c W (fun W' hB'=>a1 W' hB' 0 b a (by rw[hy];rfl) (by rw[hx];rfl)) (a2 a (by rw[hx];exact List.mem_cons_self ..)) (by omega) (by omega) hn a5;rw[a3];rw[show((k.lo.toNat:Nat):Int)=k.lo by omega]at h;exact h
       ·refine Or.inr (Or.inr (Or.inr (Or.inr ⟨_,rfl, ?_⟩)));rw[a3];exact Aej _ _ _ _ _ _ _ _ _ a4 a0 a1 a2 hn a5
end Go.Proofs.YtaglfmlgbcmakaaGreatDoor
