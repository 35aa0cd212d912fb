/-
  The parts of compiled patterns that have nothing below them: sounds and edges.
  The parts of compiled patterns that have others below them.
  An alternative of compiled patterns.
  A repetition of compiled patterns.
  Compiled patterns in memory, and what their method returns.
-/
import Derived.Test.YtaglfmlgbcmakaaGreatDoorG03
set_option linter.all false
set_option maxRecDepth 100000
set_option maxHeartbeats 4000000
namespace Go.Proofs.YtaglfmlgbcmakaaGreatDoor
open Go.RowKit
def Ko (w:World)(r:List Nat)(e:Ending)(w':World):Prop:=e= .returned (.agg (Ex r))/\Below w.heap.size w w'
def M2 (p m:Int)(neg:Bool)(s:Snd):Bool:=(bits .or .u32 (bits .andNot .u32 p s.1) (bits .andNot .u32 m s.2)==0) !=neg
def Jt (p m:Int)(neg:Bool)(ws:List Snd)(j:Nat):List Nat:=
 (List.range 33).map fun k=>if k<j then(match ws[k]? with|some s=>if M2 p m neg s then 2^(k+1)else 0|none=>0)else 0
def Sa (p m:Int)(neg:Bool)(ws:List Snd):List Nat:=Jt p m neg ws 33
theorem Abg (p m:Int)(neg:Bool)(ws:List Snd):Jt p m neg ws 0=B1:=by
 have h:Jt p m neg ws 0=(List.range 33).map fun _=>0:=List.map_congr_left fun j _=>by rw[if_neg (by omega)]
 rw[h];rfl
theorem Ad3 (p m:Int)(neg:Bool)(ws:List Snd):Jt p m neg ws ws.length=Sa p m neg ws:=by
 unfold Sa Jt;refine List.map_congr_left fun j hj=> ?_
 have hj:=List.mem_range.1 hj;by_cases h:j<ws.length
 ·rw[if_pos h,if_pos hj]
 ·rw[if_neg h,if_pos hj,List.getElem?_eq_none (by omega)]
theorem S4 (p m:Int)(neg:Bool)(ws:List Snd)(k:Nat)(s:Snd)(hs:ws[k]? =some s)(hk:k<33):
  Jt p m neg ws (k+1)=if M2 p m neg s then(Jt p m neg ws k).set k (2^(k+1))else Jt p m neg ws k:=by
 split
 ·rename_i h
  refine(Jp _ _ _ _ _ ?_ ?_).symm
  ·rw[if_pos (by omega),hs];simp[h]
  ·intro j hj;by_cases h3:j<k
   ·rw[if_pos h3,if_pos (by omega)]
   ·rw[if_neg h3,if_neg (by omega)]
 ·rename_i h
  unfold Jt;refine List.map_congr_left fun j _=> ?_
  by_cases e:j=k
  ·subst e;rw[if_pos (by omega),if_neg (by omega),hs];simp[h]
  ·by_cases h3:j<k
   ·rw[if_pos h3,if_pos (by omega)]
   ·rw[if_neg h3,if_neg (by omega)]
theorem Akh (p m:Int)(neg:Bool)(A:Option Addr)(n c:Nat)(ws:List Snd)(w:World)(hw:Ak w A n c ws)(hn:n<=32):
  Calls Tryz.prog 261 #[.agg #[.int .u32 p, .int .u32 m, .bool neg], .slice A n c] w (Ko w (Sa p m neg ws)):=by
 have HW:=hI hw;clear hw;go_enter Tryz.func261,Tryz.ntmps261;go_wp2
 go_loopw [5,6,9] (fun _ _ i wr=>∃k:Nat,k<=n/\i= .int .i64 k/\Hid (wr.heap[w.heap.size]? =some (.cells #[.int .u32 p, .int .u32 m, .bool neg] 279 (0,0)))∧
  Hid (B9 wr (w.heap.size+1) (Jt p m neg ws k))/\Below w.heap.size w wr) (fun _ _ i _=>n-(intOf i).toNat)
 case atStart=>exact⟨0,Nat.zero_le _,rfl,hpt,by rw[Abg];exact⟨hpt,rfl⟩,bel⟩
 case round=>
  obtain⟨k,hk,rfl,hb,hr,hB⟩:=hrel;have b6:=hB.size;have b0:=hr.out.lt;by_cases hlt:k<n
  ·obtain⟨b,off,sp,sm,rfl,b2,a3,b3,b7⟩:=(HW.out.below hB rr).at_ hlt;have HK:=hI a3;clear a3;have d0:=cell_of_row wr w.heap.size 0 _ _ _ hb.out;have d1:=cell_of_row wr w.heap.size 1 _ _ _ hb.out;have d2:=cell_of_row wr w.heap.size 2 _ _ _ hb.out;simp only[List.getElem?_toArray,List.getElem?_cons_zero,List.getElem?_cons_succ]at d0 d1 d2;have a9:((k:Nat):Int)<33:=by omega
   have hf:=hr.out.frozen k;have hc:=hr.out.get (k:=k) (s:=0) (by unfold Jt;rw[List.getElem?_map,List.getElem?_range (by omega)];simp);have b4:w.heap.size<wr.heap.size:=by omega
   have a6:w.heap.size+1<wr.heap.size:=b0;by_cases hh:((bits .or .u32 (bits .andNot .u32 p sp) (bits .andNot .u32 m sm)==0) !=neg)=true
   ·have a0:=S4 p m neg ws k (sp,sm) HK.out (by omega);rw[if_pos (show M2 p m neg (sp,sm)=true from hh)]at a0;have a2:=hI a0;clear a0;have a7:=hI (J5 (k+1) (by omega));have a8:(!(bits .or .u32 (bits .andNot .u32 p sp) (bits .andNot .u32 m sm)==0)==neg)=true:=by cases neg<;>simpa using hh
    clear hh;go_wp2
    go_roundw
    case rel=>
     refine⟨k+1,by omega,by go_num, ?_, ?_,bel⟩
     ·exact(Below.heap_alloc _ _ _ (by simp;omega)).trans ((Below.heap_setCell _ _ _ _ (by simp)).trans hb.out)
     ·have h1:=(hr.out.set (k:=k) (s:=2^(k+1))).alloc (.cells #[.int .u32 sp, .int .u32 sm] 49);rw[a2.out,a7.out];exact h1
    case measure=>simp[intOf];omega
   ·have a4:((bits .or .u32 (bits .andNot .u32 p sp) (bits .andNot .u32 m sm)==0) !=neg)=false:=by simpa using hh
    have a0:=S4 p m neg ws k (sp,sm) HK.out (by omega);rw[if_neg (show¬M2 p m neg (sp,sm)=true from hh)]at a0;have a2:=hI a0;clear a0 hh;have a8:(!(bits .or .u32 (bits .andNot .u32 p sp) (bits .andNot .u32 m sm)==0)==neg)=false:=by cases neg<;>simpa using a4
    clear a4;go_wp2
    go_roundw
    case rel=>
     refine⟨k+1,by omega,by go_num, ?_, ?_,bel⟩
     ·exact(Below.heap_alloc _ _ _ (by omega)).trans hb.out
     ·have h1:=hr.out.alloc (.cells #[.int .u32 sp, .int .u32 sm] 49);rw[a2.out];exact h1
    case measure=>simp[intOf];omega
  ·obtain rfl:k=n:=by omega
   have a1:Jt p m neg ws k=Sa p m neg ws:=by rw[←HW.out.len];exact Ad3 p m neg ws
   have HA:=hI a1;clear a1
   go_wp2_with(first
    |(refine Ft rfl (.tmp 4) rfl (w.heap.size+1) _ rfl hr.out ?_)
    |(refine B2 rfl (.tmp 4) (.tmp 37) rfl (w.heap.size+1) _ _ rfl rfl hr.out hr.out.2 ?_;intro w1 b1 a5 b5))
   exact bodyPost_ret (Er Tryz.results261 _ _ (w.heap.size+1) _ rfl b1) rfl ⟨by rw[HA.out],Bo hB a5 (by omega) hB.size⟩
def F9 (a:Nat):List Nat:=B1.set a (2^a)
theorem Hj (a:Nat):(F9 a).length=33:=by unfold F9;rw[List.length_set];rfl
theorem Vj (a:Nat)(ha:a<=32):Ex (F9 a)=((B1.map fun(s:Nat)=>Value.int .u64 (s:Int)).set a (.int .u64 (IntKind.u64.wrap (2^a)))).toArray:=by
 unfold Ex F9;rw[List.map_set,J5 a (by omega)]
theorem Ahh (e:Bool)(A:Option Addr)(n c:Nat)(w:World)(hn:n<=32):
  Calls Tryz.prog 262 #[.agg #[.bool e], .slice A n c] w (Ko w (F9 (if e then n else 0))):=by
 cases e
 ·go_enter Tryz.func262,Tryz.ntmps262
  go_wp2_with(first
    |(refine Ft rfl (.tmp 4) rfl _ (F9 0) rfl ?hr ?_)
    |(refine B2 rfl (.tmp 4) (.tmp 14) rfl _ (F9 0) (F9 0) rfl rfl ?hs rfl ?hc))
  case hr=>exact⟨hpt,rfl⟩
  case hs=>exact⟨hpt,rfl⟩
  case hc=>
   intro w1 a1 a0 a2;go_wp2;exact bodyPost_ret (Er Tryz.results262 _ _ (w.heap.size+1) _ rfl a1) rfl ⟨rfl,Bo bel a0 (by omega) (by simp;omega)⟩
 ·go_enter Tryz.func262,Tryz.ntmps262;have a3:((n:Nat):Int)<33:=by omega
  have hz:([.int .u64 0, .int .u64 0, .int .u64 0, .int .u64 0, .int .u64 0, .int .u64 0, .int .u64 0, .int .u64 0, .int .u64 0, .int .u64 0, .int .u64 0, .int .u64 0, .int .u64 0, .int .u64 0, .int .u64 0, .int .u64 0, .int .u64 0, .int .u64 0, .int .u64 0, .int .u64 0, .int .u64 0, .int .u64 0, .int .u64 0, .int .u64 0, .int .u64 0, .int .u64 0, .int .u64 0, .int .u64 0, .int .u64 0, .int .u64 0, .int .u64 0, .int .u64 0, .int .u64 0]:List Value)[n]? =some (.int .u64 0):=by
   rw[show([.int .u64 0, .int .u64 0, .int .u64 0, .int .u64 0, .int .u64 0, .int .u64 0, .int .u64 0, .int .u64 0, .int .u64 0, .int .u64 0, .int .u64 0, .int .u64 0, .int .u64 0, .int .u64 0, .int .u64 0, .int .u64 0, .int .u64 0, .int .u64 0, .int .u64 0, .int .u64 0, .int .u64 0, .int .u64 0, .int .u64 0, .int .u64 0, .int .u64 0, .int .u64 0, .int .u64 0, .int .u64 0, .int .u64 0, .int .u64 0, .int .u64 0, .int .u64 0, .int .u64 0]:List Value)=List.replicate 33 (.int .u64 0)from rfl,List.getElem?_replicate,if_pos (by omega)]
  go_wp2_with(first
    |(refine Ft rfl (.tmp 4) rfl _ (F9 n) rfl ?hr ?_)
    |(refine B2 rfl (.tmp 4) (.tmp 14) rfl _ (F9 n) (F9 n) rfl rfl ?hs (Hj n) ?hc))
  case hr=>exact⟨by rw[Vj n hn];exact Am (by simp),Hj n⟩
  case hs=>exact⟨by rw[Vj n hn];exact Am (by simp),Hj n⟩
  case hc=>
   intro w1 a1 a0 a2;go_wp2;exact bodyPost_ret (Er Tryz.results262 _ _ (w.heap.size+1) _ rfl a1) rfl ⟨rfl,Bo bel a0 (by omega) (by simp;omega)⟩
def Ahi (v:Value)(w:World)(A:Option Addr)(n c:Nat)(r:List Nat):Prop:=
 (∃x,v= .iface 279 (.agg x)/\Calls Tryz.prog 261 #[.agg x, .slice A n c] w (Ko w r))∨
 (∃x,v= .iface 281 (.agg x)/\Calls Tryz.prog 262 #[.agg x, .slice A n c] w (Ko w r))∨
 (∃x,v= .iface 283 (.agg x)/\Calls Tryz.prog 263 #[.agg x, .slice A n c] w (Ko w r))∨
 (∃x,v= .iface 285 (.agg x)/\Calls Tryz.prog 265 #[.agg x, .slice A n c] w (Ko w r))∨
 (∃x,v= .iface 286 (.agg x)/\Calls Tryz.prog 268 #[.agg x, .slice A n c] w (Ko w r))
theorem Ph (rs:List (List Nat))(hs:∀r∈rs,Bl r)(a:List Nat)(ha:Bl a):Bl (rs.foldl Cn a):=by
 induction rs generalizing a with
 |nil=>exact ha
 |cons r rs ih=>exact ih (fun x hx=>hs x (List.mem_cons_of_mem _ hx)) _ (Dt _ _ (hs r (List.mem_cons_self ..)))
theorem Zb (n:Nat)(rs:List (List Nat))(k:Nat)(hs:∀r∈rs,Bl r):Bl ((rs.take k).foldl Cn (idR n)):=
 Ph _ (fun r hr=>hs r (List.mem_of_mem_take hr)) _ (Fe n)
theorem Anb (A':Option Addr)(n' c':Nat)(cvs:List Value)(rs:List (List Nat))(A:Option Addr)(n c:Nat)(w:World)(hcv:Az w A' n' c' 1 cvs)(hlen:rs.length=cvs.length)
  (a5:∀W,Below w.heap.size w W→∀(i:Nat) v r,cvs[i]? =some v->rs[i]? =some r->Ahi v W A n c r) (hrl:∀r∈rs,r.length=33/\Bl r) (hn:n<=32) (hT:Cw w):
  Calls Tryz.prog 268 #[.agg #[.slice A' n' c'], .slice A n c] w (Ko w (rs.foldl Cn (idR n))):=by
 have hm:n'<=9223372036854775807:=by have h1:=hcv.2.1;have h2:=hcv.2.2.1;unfold maxLen at h2;omega
 have HC:=hI hcv;clear hcv;have HL:=hI hlen;clear hlen;have HI:=hI a5;clear a5;have HR:=hI hrl;clear hrl;have HT:=hI hT;clear hT;go_enter Tryz.func268,Tryz.ntmps268
 go_wp2_with(first
  |(go_at_call 266;refine(Nv n _ hn).mono ?_;rintro e w1 ⟨rfl,a9⟩;have f4:=Db a9;(try simp only[World.size_alloc,World.size_drew,World.size_setCell]at f4)
    have f0:w1.heap[w.heap.size]? =some (.cells #[.slice A' n' c'] 286 (0,0)):=(a9.block _ sd).trans hpt;have d7:B9 w1 (w.heap.size+1) B1:=⟨(a9.block _ sd).trans hpt,rfl⟩;have b2:Below w.heap.size w w1:=bel;clear a9)
  |(refine B2 rfl (.tmp 5) (.tmp 11) rfl _ B1 (idR n) rfl rfl ?hr (Hr n) ?hc))
 case hr=>exact⟨hpt,rfl⟩
 case hc=>
  intro w2 d0 a8 g3;have b7:w2.heap[w.heap.size]? =some (.cells #[.slice A' n' c'] 286 (0,0)):=(a8.block _ sd (by omega)).trans ((Below.heap_alloc _ _ _ (by omega)).trans f0);have b8:Hid (B9 w2 (w.heap.size+1) B1):=(d7.alloc _).keep1 a8 (by omega);have g0:Below w.heap.size w w2:=Bo (b2.alloc b2.size _) a8 (by omega) sd;have g7:Hid (B9 w2 w1.heap.size (idR n)):=d0;have i3:w1.heap.size<w2.heap.size:=by omega
  have g8:=cell_of_one b7;have g2:=hI b7;clear f0 d7 a8 g3 d0 b2 b7;go_wp2
  go_loopw [15] (fun i wr=>∃(k:Nat),k<=n'/\i= .int .i64 k/\Hid (wr.heap[w.heap.size]? =some (.cells #[.slice A' n' c'] 286 (0,0)))∧
   Hid (B9 wr (w.heap.size+1) B1)/\Hid (B9 wr w1.heap.size ((rs.take k).foldl Cn (idR n)))/\Below w.heap.size w wr) (fun i _=>n'-(intOf i).toNat)
  case atStart=>exact⟨0,Nat.zero_le _,rfl,g2,b8,g7,g0⟩
  case round=>
   obtain⟨k,hk,rfl,hb,hz,ho,hB⟩:=hrel;have i5:=hB.size;have i1:=ho.out.lt;have g6:=hI (HT.out.below hB rr);by_cases hlt:k<n'
   ·obtain⟨b,off,v,rfl,g9,d6,i0⟩:=(HC.out.below hB rr).at1 hlt;have b9:k<rs.length:=by rw[HL.out,HC.out.1];omega
    have d1:rs[k]? =some rs[k]:=List.getElem?_eq_getElem b9;have a5:=HI.out wr hB k v rs[k] d6 d1
    have d2:(rs.take (k+1)).foldl Cn (idR n)=Cn ((rs.take k).foldl Cn (idR n)) rs[k]:=by
     rw[List.take_succ_eq_append_getElem b9,List.foldl_append];rfl
    have a3:=HR.out rs[k] (List.getElem_mem b9);have d9:=hI d2;have b1:=hI a3;generalize rs[k]=r at a5 d9 b1;clear d6 d1 d2 a3;rcases a5 with⟨x,rfl,a0⟩|⟨x,rfl,a0⟩|⟨x,rfl,a0⟩|⟨x,rfl,a0⟩|⟨x,rfl,a0⟩
    all_goals
     have a1:=hI a0;clear a0;go_wp2_with fail;refine a1.out.mono ?_;rintro e w3 ⟨rfl,a2⟩;have f1:=a2.size;have b5:=hI ((a2.block _ (by omega)).trans hb.out);have f2:=hI (ho.out.below a2 rr);have g4:=hI (hz.out.below a2 rr);have i6:=hI (g6.out.below a2 rr);have d8:Below w.heap.size w w3:=bel;clear a2 a1;go_wp2_with(refine B2 rfl (.tmp 8) (.tmp 21) rfl _ B1 r rfl rfl ?hr b1.out.1 ?hc)
     case hr=>exact⟨hpt,rfl⟩
     case hc=>
      intro w4 b0 a6 f7;have b3:=hI ((a6.block _ sd (by omega)).trans ((Below.heap_alloc _ _ _ (by omega)).trans b5.out));have d4:=hI ((f2.out.alloc (.cells ((B1.map fun(s:Nat)=>Value.int .u64 (s:Int)).toArray) 266)).keep1 a6 (by omega));have f9:=hI ((g4.out.alloc (.cells ((B1.map fun(s:Nat)=>Value.int .u64 (s:Int)).toArray) 266)).keep1 a6 (by omega));have f8:=hI b0;have f5:Below w.heap.size w w4:=Bo (d8.alloc d8.size _) a6 (by omega) sd;have g1:Hid (Cw w4):=HT.out.below f5 rr;have i2:w3.heap.size<w4.heap.size:=b0.lt;clear b0 a6 f7;go_wp2_with fail;refine(Qt w1.heap.size w3.heap.size ((rs.take k).foldl Cn (idR n)) r _ d4.out f8.out g1.out (Zb n rs k fun r hr=>(HR.out r hr).2) b1.out.2).mono ?_;rintro e w5 ⟨rfl,a4⟩;have i4:=a4.size;have b4:=hI ((a4.block _ (by omega)).trans b3.out);have d3:=hI (d4.out.below a4 rr);have f6:=hI (f9.out.below a4 rr);have d5:Below w.heap.size w w5:=bel;clear a4;go_wp2_with(refine B2 rfl (.tmp 5) (.tmp 22) rfl _ _ _ rfl rfl d3.out (by rw[C9];exact d3.out.2) ?hd)
      case hd=>
       intro w6 f3 b6 i7;go_wp2
       go_roundw
       case rel=>
        refine⟨k+1,by omega,by go_num,(b6.block _ (by omega) (by omega)).trans b4.out,f6.out.keep1 b6 (by omega), ?_,Bo d5 b6 (by omega) d5.size⟩;rw[d9.out];exact f3
       case measure=>simp[intOf];omega
   ·obtain rfl:k=n':=by omega
    have a7:rs.take k=rs:=List.take_of_length_le (by rw[HL.out,HC.out.1];omega);have HA:=hI a7;clear a7
    go_wp2_with(first
     |(refine Ft rfl (.tmp 5) rfl w1.heap.size _ rfl ho.out ?_)
     |(refine B2 rfl (.tmp 4) (.tmp 24) rfl (w.heap.size+1) B1 _ rfl rfl hz.out ho.out.2 ?hd))
    case hd=>
     intro w3 b8 g5 f1;go_wp2;exact bodyPost_ret (Er Tryz.results268 _ _ (w.heap.size+1) _ rfl b8) rfl ⟨by rw[HA.out],Bo hB g5 (by omega) hB.size⟩
theorem Si (x y:List Nat)(hx:x.length=33)(hy:y.length=33):(orR x y).length=33:=by
 unfold orR;rw[List.length_zipWith];omega
theorem Gn (x y:List Nat)(hx:Bl x)(hy:Bl y):Bl (orR x y):=by
 intro s hs;obtain⟨i,hi,rfl⟩:=List.getElem_of_mem hs;unfold orR at hi ⊢;rw[List.getElem_zipWith];exact Tm (hx _ (List.getElem_mem _)) (hy _ (List.getElem_mem _))
theorem Kk:Bl B1:=by
 intro s hs;rw[show s=0 from List.eq_of_mem_replicate (by rw[show B1=List.replicate 33 0 from rfl]at hs;exact hs)];unfold Cu;omega
theorem Lv (rs:List (List Nat))(hs:∀r∈rs,Bl r)(a:List Nat)(ha:Bl a):Bl (rs.foldl orR a):=by
 induction rs generalizing a with
 |nil=>exact ha
 |cons r rs ih=>exact ih (fun x hx=>hs x (List.mem_cons_of_mem _ hx)) _ (Gn _ _ ha (hs r (List.mem_cons_self ..)))
theorem S5 (rs:List (List Nat))(k:Nat)(hs:∀r∈rs,Bl r):Bl ((rs.take k).foldl orR B1):=
 Lv _ (fun r hr=>hs r (List.mem_of_mem_take hr)) _ Kk
theorem Anc (A':Option Addr)(n' c':Nat)(cvs:List Value)(rs:List (List Nat))(A:Option Addr)(n c:Nat)(w:World)(hcv:Az w A' n' c' 1 cvs)(hlen:rs.length=cvs.length)
  (a3:∀W,Below w.heap.size w W→∀(i:Nat) v r,cvs[i]? =some v->rs[i]? =some r->Ahi v W A n c r) (hrl:∀r∈rs,r.length=33/\Bl r):
  Calls Tryz.prog 263 #[.agg #[.slice A' n' c'], .slice A n c] w (Ko w (rs.foldl orR B1)):=by
 have hm:n'<=9223372036854775807:=by have h1:=hcv.2.1;have h2:=hcv.2.2.1;unfold maxLen at h2;omega
 have HC:=hI hcv;clear hcv;have HL:=hI hlen;clear hlen;have HI:=hI a3;clear a3;have HR:=hI hrl;clear hrl;go_enter Tryz.func263,Tryz.ntmps263;go_wp2
 go_loopw [11] (fun i wr=>∃(k:Nat),k<=n'/\i= .int .i64 k/\Hid (B9 wr (w.heap.size+1) ((rs.take k).foldl orR B1))/\Below w.heap.size w wr) (fun i _=>n'-(intOf i).toNat)
 case atStart=>exact⟨0,Nat.zero_le _,rfl,⟨hpt,rfl⟩,bel⟩
 case round=>
  obtain⟨k,hk,rfl,hz,hB⟩:=hrel;have f1:=hB.size;have d9:=hz.out.lt;by_cases hlt:k<n'
  ·obtain⟨b,off,v,rfl,d7,b5,d8⟩:=(HC.out.below hB rr).at1 hlt;have a8:k<rs.length:=by rw[HL.out,HC.out.1];omega
   have b1:rs[k]? =some rs[k]:=List.getElem?_eq_getElem a8;have a3:=HI.out wr hB k v rs[k] b5 b1
   have b2:(rs.take (k+1)).foldl orR B1=orR ((rs.take k).foldl orR B1) rs[k]:=by
    rw[List.take_succ_eq_append_getElem a8,List.foldl_append];rfl
   have a2:=HR.out rs[k] (List.getElem_mem a8);have b7:=hI b2;have a6:=hI a2;generalize rs[k]=r at a3 b7 a6;clear b5 b1 b2 a2;rcases a3 with⟨x,rfl,a0⟩|⟨x,rfl,a0⟩|⟨x,rfl,a0⟩|⟨x,rfl,a0⟩|⟨x,rfl,a0⟩
   all_goals
    have a1:=hI a0;clear a0;go_wp2_with fail;refine a1.out.mono ?_;rintro e w3 ⟨rfl,a9⟩;have b9:=a9.size;have d4:=hI (hz.out.below a9 rr);have b6:Below w.heap.size w w3:=bel;clear a9 a1;go_wp2_with(refine B2 rfl (.tmp 7) (.tmp 17) rfl _ B1 r rfl rfl ?hr a6.out.1 ?hc)
    case hr=>exact⟨hpt,rfl⟩
    case hc=>
     intro w4 a5 a7 d1;have d2:=hI ((d4.out.alloc (.cells ((B1.map fun(s:Nat)=>Value.int .u64 (s:Int)).toArray) 266)).keep1 a7 (by omega));have d0:=hI a5;have b4:Below w.heap.size w w4:=Bo (b6.alloc b6.size _) a7 (by omega) sd;have f0:w3.heap.size<w4.heap.size:=a5.lt;clear a5 a7 d1;go_wp2_with fail;refine(Anq (w.heap.size+1) w3.heap.size ((rs.take k).foldl orR B1) r _ d2.out d0.out (by omega) (S5 rs k fun r hr=>(HR.out r hr).2) a6.out.2).mono ?_;rintro e w5 ⟨rfl,b0,b3,f2⟩;have b8:=hI b0;have d3:Below w.heap.size w w5:=Bo b4 b3 (by omega) b4.size;clear b0 b3;go_wp2
     go_roundw
     case rel=>
      refine⟨k+1,by omega,by go_num, ?_,d3⟩;rw[b7.out];exact b8.out
     case measure=>simp[intOf];omega
  ·obtain rfl:k=n':=by omega
   have a4:rs.take k=rs:=List.take_of_length_le (by rw[HL.out,HC.out.1];omega);have HA:=hI a4;clear a4
   go_wp2_with(first
    |(refine Ft rfl (.tmp 4) rfl (w.heap.size+1) _ rfl hz.out ?_)
    |(refine B2 rfl (.tmp 4) (.tmp 20) rfl (w.heap.size+1) _ _ rfl rfl hz.out hz.out.2 ?hd))
   case hd=>
    intro w3 d6 d5 b9;go_wp2;exact bodyPost_ret (Er Tryz.results263 _ _ (w.heap.size+1) _ rfl d6) rfl ⟨by rw[HA.out],Bo hB d5 (by omega) hB.size⟩
theorem Ahj (f:Nat)(x:List Nat)(k:Nat)(out:List Nat)(ho:out.length=33):(Mm f x k out).length=33:=by
 induction f generalizing x k out with
 |zero=>exact ho
 |succ f ih=>
  simp only[Mm];split
  ·exact ho
  ·refine ih _ _ _ ?_;split
   ·rw[C9];exact ho
   ·exact ho
theorem Kw (x:List Nat)(k n:Nat):(J6 x k n).length=33:=Ahj _ _ _ _ (Hr n)
theorem Abh (f:Nat)(x:List Nat)(k:Nat)(out:List Nat)(hx:Bl x)(ho:Bl out):Bl (Mm f x k out):=by
 induction f generalizing x k out with
 |zero=>exact ho
 |succ f ih=>
  simp only[Mm];split
  ·exact ho
  ·refine ih _ _ _ (Dt _ _ hx) ?_;split
   ·exact Dt _ _ hx
   ·exact ho
theorem Ju (x:List Nat)(k n:Nat)(hx:Bl x):Bl (J6 x k n):=Abh _ _ _ _ hx (Fe n)
def F3 (lo:Nat)(hi:Int)(n:Nat):Nat:=if hi<0 then n else(hi-lo).toNat
def Nr (r:List Nat)(lo:Nat)(hi:Int)(n:Nat):List Nat:=Cn (J6 r lo n) (J6 (orR r (idR n)) (F3 lo hi n) n)
theorem Ane (v:Value)(lo:Nat)(hi:Int)(r:List Nat)(A:Option Addr)(n c:Nat)(w:World)
  (g3:∀W,Below w.heap.size w W->Ahi v W A n c r) (hrl:r.length=33/\Bl r) (hlo:lo<=64) (hhi:hi<0\/(lo:Int)<=hi/\hi<=64) (hn:n<=32) (hT:Cw w):
  Calls Tryz.prog 265 #[.agg #[v, .int .i64 (lo:Int), .int .i64 hi], .slice A n c] w (Ko w (Nr r lo hi n)):=by
 have HI:=hI g3;clear g3;have HR:=hI hrl;clear hrl;have HT:=hI hT;clear hT;have j7:Below w.heap.size w ((w.alloc (.cells #[v, .int .i64 (lo:Int), .int .i64 hi] 285)).alloc (.cells ((B1.map fun(s:Nat)=>Value.int .u64 (s:Int)).toArray) 266)):=bel;have g3:=HI.out _ j7;clear j7;rcases g3 with⟨x,rfl,a0⟩|⟨x,rfl,a0⟩|⟨x,rfl,a0⟩|⟨x,rfl,a0⟩|⟨x,rfl,a0⟩
 all_goals
  have b5:=hI a0;clear a0;go_enter Tryz.func265,Tryz.ntmps265;go_wp2_with fail;refine b5.out.mono ?_;rintro e w1 ⟨rfl,g4⟩;have k6:=g4.size;simp only[World.size_alloc]at k6;have m6:=hI ((g4.block w.heap.size sd).trans (show _=some (.cells #[_, .int .i64 (lo:Int), .int .i64 hi] 285 (0,0))from hpt));have i3:Hid (B9 w1 (w.heap.size+1) B1):=⟨(g4.block _ sd).trans hpt,rfl⟩;have j0:Below w.heap.size w w1:=bel;clear g4 b5;go_wp2_with(refine B2 rfl (.tmp 5) (.tmp 13) rfl _ B1 r rfl rfl ?hr HR.out.1 ?hc)
  case hr=>exact⟨hpt,rfl⟩
  case hc=>
   intro w2 g7 g2 k7;have b4:=hI g7;have g6:=hI ((g2.block w.heap.size sd (by omega)).trans ((Below.heap_alloc _ _ _ (by omega)).trans m6.out));have i7:=hI ((i3.out.alloc (.cells ((B1.map fun(s:Nat)=>Value.int .u64 (s:Int)).toArray) 266)).keep1 g2 (by omega));have m7:Below w.heap.size w w2:=Bo (j0.alloc j0.size _) g2 (by omega) sd;have o4:w1.heap.size<w2.heap.size:=g7.lt;clear g7 g2 k7;have d1:=cell_of_row w2 w.heap.size 1 _ _ _ g6.out;have d2:=cell_of_row w2 w.heap.size 2 _ _ _ g6.out;simp only[List.getElem?_toArray,List.getElem?_cons_zero,List.getElem?_cons_succ]at d1 d2;have k0:Hid (Cw w2):=HT.out.below m7 rr;go_wp2_with(refine Ft rfl (.tmp 5) rfl w1.heap.size r rfl b4.out ?_);refine(Xm r lo n _ HR.out.1 HR.out.2 hlo hn k0.out).mono ?_;rintro e w3 ⟨rfl,g0⟩;clear d1 d2;have m9:=g0.size;have m2:=hI ((g0.block w.heap.size (by omega)).trans g6.out);have i8:=hI (i7.out.below g0 rr);have d9:=hI (b4.out.below g0 rr);have j1:Below w.heap.size w w3:=bel;clear g0;go_wp2_with(refine B2 rfl (.tmp 6) (.tmp 19) rfl _ B1 (J6 r lo n) rfl rfl ?hr (Kw r lo n) ?hd)
   case hr=>exact⟨hpt,rfl⟩
   case hd=>
    intro w4 i4 f7 k4;have f8:=hI i4;have k3:=hI ((f7.block w.heap.size sd (by omega)).trans ((Below.heap_alloc _ _ _ (by omega)).trans m2.out));have i1:=hI ((i8.out.alloc (.cells ((B1.map fun(s:Nat)=>Value.int .u64 (s:Int)).toArray) 266)).keep1 f7 (by omega));have f4:=hI ((d9.out.alloc (.cells ((B1.map fun(s:Nat)=>Value.int .u64 (s:Int)).toArray) 266)).keep1 f7 (by omega));have j2:Below w.heap.size w w4:=Bo (j1.alloc j1.size _) f7 (by omega) sd;have o6:w3.heap.size<w4.heap.size:=i4.lt;clear i4 f7 k4;go_wp2_with(first|(refine Ft rfl (.tmp 5) rfl w1.heap.size r rfl f4.out ?_)|(refine B2 rfl (.tmp 7) (.tmp 20) rfl _ B1 r rfl rfl ?hr HR.out.1 ?he))
    case hr=>exact⟨hpt,rfl⟩
    case he=>
     intro w5 g5 d6 m4;have f1:=hI g5;have k5:=hI ((d6.block w.heap.size sd (by omega)).trans ((Below.heap_alloc _ _ _ (by omega)).trans k3.out));have i6:=hI ((i1.out.alloc (.cells ((B1.map fun(s:Nat)=>Value.int .u64 (s:Int)).toArray) 266)).keep1 d6 (by omega));have d8:=hI ((f8.out.alloc (.cells ((B1.map fun(s:Nat)=>Value.int .u64 (s:Int)).toArray) 266)).keep1 d6 (by omega));have o1:Below w.heap.size w w5:=Bo (j2.alloc j2.size _) d6 (by omega) sd;have o0:w4.heap.size<w5.heap.size:=g5.lt;clear g5 d6 m4;go_wp2_with fail;refine(Nv n _ hn).mono ?_;rintro e w6 ⟨rfl,d4⟩;have o3:=d4.size;have k2:=hI ((d4.block w.heap.size (by omega)).trans k5.out);have i0:=hI (i6.out.below d4 rr);have f5:=hI (d8.out.below d4 rr);have f3:=hI (f1.out.below d4 rr);have j9:Below w.heap.size w w6:=bel;clear d4;go_wp2_with(refine B2 rfl (.tmp 8) (.tmp 23) rfl _ B1 (idR n) rfl rfl ?hr (Hr n) ?hf)
     case hr=>exact⟨hpt,rfl⟩
     case hf=>
      intro w7 i2 d3 m1;have f0:=hI i2;have k9:=hI ((d3.block w.heap.size sd (by omega)).trans ((Below.heap_alloc _ _ _ (by omega)).trans k2.out));have i9:=hI ((i0.out.alloc (.cells ((B1.map fun(s:Nat)=>Value.int .u64 (s:Int)).toArray) 266)).keep1 d3 (by omega));have f6:=hI ((f5.out.alloc (.cells ((B1.map fun(s:Nat)=>Value.int .u64 (s:Int)).toArray) 266)).keep1 d3 (by omega));have d5:=hI ((f3.out.alloc (.cells ((B1.map fun(s:Nat)=>Value.int .u64 (s:Int)).toArray) 266)).keep1 d3 (by omega));have j5:Below w.heap.size w w7:=Bo (j9.alloc j9.size _) d3 (by omega) sd;have o5:w6.heap.size<w7.heap.size:=i2.lt;clear i2 d3 m1;go_wp2_with fail;refine(Anq w4.heap.size w6.heap.size r (idR n) _ d5.out f0.out (by omega) HR.out.2 (Fe n)).mono ?_;rintro e w8 ⟨rfl,j4,d7,j6⟩
      skip
      have a4:=hI j4;have g1:=hI ((d7.block w.heap.size sd (by omega)).trans k9.out);have f2:=hI (i9.out.keep1 d7 (by omega));have b3:=hI (f6.out.keep1 d7 (by omega));have m3:Below w.heap.size w w8:=Bo j5 d7 (by omega) j5.size;have o2:w8.heap.size=w7.heap.size:=j6;clear j4 d7 j6;have d1:=cell_of_row w8 w.heap.size 1 _ _ _ g1.out;have d2:=cell_of_row w8 w.heap.size 2 _ _ _ g1.out;simp only[List.getElem?_toArray,List.getElem?_cons_zero,List.getElem?_cons_succ]at d1 d2;have j3:Hid (Cw w8):=HT.out.below m3 rr
      have ex:∃ex:Nat,ex<=64/\ex=F3 lo hi n/\(hi<0->ex=n)/\(¬hi<0->(ex:Int)=hi-lo):=by
       refine⟨F3 lo hi n, ?_,rfl, ?_, ?_⟩<;>unfold F3<;>split<;>omega
      obtain⟨ex,j8,HE,k8,m8⟩:=ex
      replace HE:=hI HE
      by_cases hneg:hi<0
      ·obtain rfl:=(k8 hneg).symm;go_wp2_with(refine Ft rfl (.tmp 7) rfl w4.heap.size (orR r (idR n)) rfl a4.out ?_);refine(Xm (orR r (idR n)) n n _ (Si _ _ HR.out.1 (Hr n)) (Gn _ _ HR.out.2 (Fe n)) j8 hn j3.out).mono ?_;rintro e w9 ⟨rfl,a5⟩;have m5:=a5.size;have m0:=hI ((a5.block w.heap.size (by omega)).trans g1.out);have b8:=hI (f2.out.below a5 rr);have a8:=hI (b3.out.below a5 rr);have a9:=hI (a4.out.below a5 rr);have f9:Below w.heap.size w w9:=bel;clear a5;go_wp2_with(refine B2 rfl (.tmp 7) (.tmp 39) rfl _ _ (J6 (orR r (idR n)) n n) rfl rfl a9.out (Kw _ _ _) ?hg)
       case hg=>
        intro w10 b0 a1 g8;have b7:Below w.heap.size w w10:=Bo f9 a1 (by omega) f9.size;have b2:=hI (b8.out.keep1 a1 (by omega));have a3:=hI (a8.out.keep1 a1 (by omega));have b1:=hI b0;have b6:Hid (Cw w10):=HT.out.below b7 rr;clear b0 a1;go_wp2_with fail;refine(Qt w3.heap.size w4.heap.size (J6 r lo n) (J6 (orR r (idR n)) n n) _ a3.out b1.out b6.out (Ju _ _ _ HR.out.2) (Ju _ _ _ (Gn _ _ HR.out.2 (Fe n)))).mono ?_;rintro e w11 ⟨rfl,a2⟩;have a6:=hI (b2.out.below a2 rr);have g9:=a2.size;have a7:Below w.heap.size w w11:=bel;clear a2;go_wp2_with(refine B2 rfl (.tmp 4) (.tmp 40) rfl _ B1 (Cn (J6 r lo n) (J6 (orR r (idR n)) n n)) rfl rfl a6.out (by rw[C9];exact Kw _ _ _) ?hh)
        case hh=>
         intro w12 d0 b9 i5;go_wp2;exact bodyPost_ret (Er Tryz.results265 _ _ (w.heap.size+1) _ rfl d0) rfl ⟨by unfold Nr;rw[←HE.out],Bo a7 b9 (by omega) a7.size⟩
      ·have k1:=m8 hneg;go_wp2_with(refine Ft rfl (.tmp 7) rfl w4.heap.size (orR r (idR n)) rfl a4.out ?_);rw[←k1];refine(Xm (orR r (idR n)) ex n _ (Si _ _ HR.out.1 (Hr n)) (Gn _ _ HR.out.2 (Fe n)) j8 hn j3.out).mono ?_;rintro e w9 ⟨rfl,a5⟩;have m5:=a5.size;have m0:=hI ((a5.block w.heap.size (by omega)).trans g1.out);have b8:=hI (f2.out.below a5 rr);have a8:=hI (b3.out.below a5 rr);have a9:=hI (a4.out.below a5 rr);have f9:Below w.heap.size w w9:=bel;clear a5;go_wp2_with(refine B2 rfl (.tmp 7) (.tmp 39) rfl _ _ (J6 (orR r (idR n)) ex n) rfl rfl a9.out (Kw _ _ _) ?hg)
       case hg=>
        intro w10 b0 a1 g8;have b7:Below w.heap.size w w10:=Bo f9 a1 (by omega) f9.size;have b2:=hI (b8.out.keep1 a1 (by omega));have a3:=hI (a8.out.keep1 a1 (by omega));have b1:=hI b0;have b6:Hid (Cw w10):=HT.out.below b7 rr;clear b0 a1;go_wp2_with fail;refine(Qt w3.heap.size w4.heap.size (J6 r lo n) (J6 (orR r (idR n)) ex n) _ a3.out b1.out b6.out (Ju _ _ _ HR.out.2) (Ju _ _ _ (Gn _ _ HR.out.2 (Fe n)))).mono ?_;rintro e w11 ⟨rfl,a2⟩;have a6:=hI (b2.out.below a2 rr);have g9:=a2.size;have a7:Below w.heap.size w w11:=bel;clear a2;go_wp2_with(refine B2 rfl (.tmp 4) (.tmp 40) rfl _ B1 (Cn (J6 r lo n) (J6 (orR r (idR n)) ex n)) rfl rfl a6.out (by rw[C9];exact Kw _ _ _) ?hh)
        case hh=>
         intro w12 d0 b9 i5;go_wp2;exact bodyPost_ret (Er Tryz.results265 _ _ (w.heap.size+1) _ rfl d0) rfl ⟨by unfold Nr;rw[←HE.out],Bo a7 b9 (by omega) a7.size⟩
def Rq (k:Nd)(A:Option Addr)(n c:Nat)(cvs:List Value):Value:=
 if k.kind=1 then .iface 279 (.agg #[.int .u32 k.isp, .int .u32 k.ism, .bool k.neg])
 else if k.kind=2 then .iface 281 (.agg #[.bool false])
 else if k.kind=6 then .iface 281 (.agg #[.bool true])
 else if k.kind=4 then .iface 283 (.agg #[.slice A n c])
 else if k.kind=5 then .iface 285 (.agg #[cvs.headD undef, .int .i64 k.lo, .int .i64 k.hi])
 else .iface 286 (.agg #[.slice A n c])
def Gz (w:World):Fo->List Value->Prop
 | .nil,vs=>vs=[]
 | .node k ch nx,vs=>∃A n c cvs v vs',vs=v::vs'/\Az w A n c 1 cvs/\Gz w ch cvs/\v=Rq k A n c cvs/\Gz w nx vs'
theorem Gz.below {w w':World}{B:Nat}(hb:Below B w w')(hB:w.heap.size<=B):∀(f:Fo) (vs:List Value),Gz w f vs->Gz w' f vs
 | .nil,_,h=>h
 | .node _ ch nx,_,⟨A,n,c,cvs,v,vs',h1,h2,h3,h4,h5⟩=>⟨A,n,c,cvs,v,vs',h1,h2.below hb hB,below hb hB ch _ h3,h4,below hb hB nx _ h5⟩
theorem Gz.len {w:World}:∀(f:Fo) (vs:List Value),Gz w f vs->vs.length=f.len
 | .nil,_,h=>by rw[show _=[]from h];rfl
 | .node _ ch nx,_,⟨A,n,c,cvs,v,vs',h1,h2,h3,h4,h5⟩=>by rw[h1,List.length_cons,len nx _ h5];rfl
def okF:Fo->Prop
 | .nil=>True
 | .node k ch nx=>Af k ch.len=0/\okF ch/\okF nx
def E5 (k:Nd)(ws:List Snd)(rs:List (List Nat)):List Nat:=
 if k.kind=1 then Sa k.isp k.ism k.neg ws
 else if k.kind=2 then F9 0
 else if k.kind=6 then F9 ws.length
 else if k.kind=4 then rs.foldl orR B1
 else if k.kind=5 then Nr (rs.headD []) k.lo.toNat k.hi ws.length
 else rs.foldl Cn (idR ws.length)
def D2 (ws:List Snd):Fo->List (List Nat)
 | .nil=>[]
 | .node k ch nx=>E5 k ws (D2 ws ch)::D2 ws nx
theorem E6 (ws:List Snd):∀f:Fo,(D2 ws f).length=f.len
 | .nil=>rfl
 | .node _ ch nx=>by simp[D2,Fo.len,E6 ws nx]
theorem Hz {k:Nd}{n:Nat}(hk:k.kind=5)(h:Af k n=0):n=1/\0<=k.lo/\k.lo<=32/\(k.hi= -1\/k.lo<=k.hi/\k.hi<=32):=by
 simp only[Af,hk]at h;simp at h;split at h<;>simp at h;omega
theorem M8 (rs:List (List Nat))(a:List Nat)(ha:a.length=33):(rs.foldl Cn a).length=33:=by
 induction rs generalizing a with
 |nil=>exact ha
 |cons r rs ih=>exact ih _ (by rw[C9];exact ha)
theorem Me (rs:List (List Nat))(hr:∀r∈rs,r.length=33)(a:List Nat)(ha:a.length=33):(rs.foldl orR a).length=33:=by
 induction rs generalizing a with
 |nil=>exact ha
 |cons r rs ih=>exact ih (fun x hx=>hr x (List.mem_cons_of_mem _ hx)) _ (Si _ _ ha (hr r (List.mem_cons_self ..)))
theorem Jv (k:Nat)(hk:k<33):Cu (2^k):=by
 have hp:2^k<=2^32:=Nat.pow_le_pow_right (by decide) (by omega);have a0:(2:Nat)^32=4294967296:=by decide
 unfold Cu;omega
theorem Rr (a:Nat)(ha:a<=32):Bl (F9 a):=by
 intro s hs;unfold F9 at hs;rcases List.mem_or_eq_of_mem_set hs with h|h
 ·exact Kk s h
 ·subst h;exact Jv _ (by omega)
theorem Abi (p m:Int)(neg:Bool)(ws:List Snd)(hn:ws.length<=32):Bl (Sa p m neg ws):=by
 intro s hs;obtain⟨k,hk,rfl⟩:=List.mem_map.1 hs;have hk:=List.mem_range.1 hk;rw[if_pos hk]
 cases hx:ws[k]? with
 |none=>exact D3
 |some x=>
  have:=(List.getElem?_eq_some_iff.1 hx).1
  show Cu (if M2 p m neg x=true then 2^(k+1)else 0);split
  ·exact Jv _ (by omega)
  ·exact D3
theorem Ahk (r:List Nat)(lo:Nat)(hi:Int)(n:Nat):(Nr r lo hi n).length=33:=by unfold Nr;rw[C9];exact Kw _ _ _
theorem Abj (r:List Nat)(lo:Nat)(hi:Int)(n:Nat)(hr:Bl r):Bl (Nr r lo hi n):=
 Dt _ _ (Ju _ _ _ (Gn _ _ hr (Fe n)))
theorem Pi (ws:List Snd)(hn:ws.length<=32):∀f:Fo,okF f→∀r∈D2 ws f,r.length=33/\Bl r
 | .nil,_=>by simp[D2]
 | .node k ch nx,⟨h1,h2,h3⟩=>by
  intro r hr;rcases List.mem_cons.1 hr with h|h
  ·subst h;have hc:=Pi ws hn ch h2;unfold E5;split
   ·exact⟨by simp[Sa,Jt],Abi _ _ _ _ hn⟩
   ·split
    ·exact⟨Hj _,Rr _ (by omega)⟩
    ·split
     ·exact⟨Hj _,Rr _ hn⟩
     ·split
      ·exact⟨Me _ (fun r hr=>(hc r hr).1) _ rfl,Lv _ (fun r hr=>(hc r hr).2) _ Kk⟩
      ·split
       ·rename_i h5
        obtain⟨e1,_⟩:=Hz h5 h1;refine⟨Ahk _ _ _ _,Abj _ _ _ _ ?_⟩;have hl:=E6 ws ch
        cases hx:D2 ws ch with
        |nil=>rw[hx]at hl;simp at hl;omega
        |cons a l=>exact(hc a (by rw[hx];exact List.mem_cons_self ..)).2
       ·exact⟨M8 _ _ (Hr _),Ph _ (fun r hr=>(hc r hr).2) _ (Fe _)⟩
  ·exact Pi ws hn nx h3 r h
theorem Al7 (ws:List Snd)(A:Option Addr)(n c:Nat)(hn:n<=32):∀(f:Fo) (w:World) (vs:List Value),okF f->Gz w f vs->Ak w A n c ws->Cw w→
  ∀W,Below w.heap.size w W→∀(i:Nat) v r,vs[i]? =some v->(D2 ws f)[i]? =some r->Ahi v W A n c r
 | .nil,w,vs,_,hp,_,_=>by
  intro W _ i v r hv _;rw[show vs=[]from hp]at hv;simp at hv
 | .node k ch nx,w,vs,⟨h1,h2,h3⟩,⟨A',n',c',cvs,v0,vs',e0,hC,hch,hv0,hnx⟩,hw,hT=>by
  intro W hB i v r hv hr;subst e0
  cases i with
  |succ i=>
   exact Al7 ws A n c hn nx w vs' h3 hnx hw hT W hB i v r (by simpa using hv) (by simpa[D2]using hr)
  |zero=>
   obtain rfl:v0=v:=by simpa using hv
   obtain rfl:E5 k ws (D2 ws ch)=r:=by simpa[D2]using hr
   have a3:ws.length=n:=hw.len;have a4:=hC.below hB rr;have a6:=hw.below hB rr;have a5:=hT.below hB rr;have a0:(D2 ws ch).length=cvs.length:=by rw[E6,Gz.len _ _ hch]
   have a2:∀W',Below W.heap.size W W'→∀(i:Nat) v r,cvs[i]? =some v->(D2 ws ch)[i]? =some r->Ahi v W' A n c r:=fun W' hB'=>by
    refine Al7 ws A n c hn ch w cvs h2 hch hw hT W' ?_
    have:=hB.size
    exact Below.trans hB (hB'.mono this)
   have a1:=Pi ws (by omega) ch h2;subst hv0;unfold Rq E5;split
   ·exact Or.inl ⟨_,rfl,Akh _ _ _ _ _ _ _ _ a6 hn⟩
   ·split
    ·exact Or.inr (Or.inl ⟨_,rfl,Ahh false _ _ _ _ hn⟩)
    ·split
     ·refine Or.inr (Or.inl ⟨_,rfl, ?_⟩);rw[a3];exact Ahh true _ _ _ _ hn
     ·split
      ·exact Or.inr (Or.inr (Or.inl ⟨_,rfl,Anc _ _ _ _ _ _ _ _ _ a4 a0 a2 a1⟩))
      ·split
       ·rename_i h5
        obtain⟨e1,e2,e3,e4⟩:=Hz h5 h1;refine Or.inr (Or.inr (Or.inr (Or.inl ⟨_,rfl, ?_⟩)));have hl:=E6 ws ch
        cases hx:D2 ws ch with
        |nil=>rw[hx]at hl;simp at hl;omega
        |cons a l=>
         cases hy:cvs with
         |nil=>rw[hx,hy]at a0;simp at a0
         |cons b m=>
          have h:=Ane b k.lo.toNat k.hi a A n c W (fun W' hB'=>a2 W' hB' 0 b a (by rw[hy];rfl) (by rw[hx];rfl)) (a1 a (by rw[hx];exact List.mem_cons_self ..)) (by omega) (by omega) hn a5;rw[a3];rw[show((k.lo.toNat:Nat):Int)=k.lo by omega]at h;exact h
       ·refine Or.inr (Or.inr (Or.inr (Or.inr ⟨_,rfl, ?_⟩)));rw[a3];exact Anb _ _ _ _ _ _ _ _ _ a4 a0 a2 a1 hn a5
end Go.Proofs.YtaglfmlgbcmakaaGreatDoor
