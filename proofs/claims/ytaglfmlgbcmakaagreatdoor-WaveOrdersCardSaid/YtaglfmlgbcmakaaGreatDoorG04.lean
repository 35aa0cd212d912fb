/-
  The parts of compiled patterns that have nothing below them: sounds and edges.
  The parts of compiled patterns that have others below them.
  An alternative of compiled patterns.
  A repetition of compiled patterns.
  Compiled patterns in memory, and what their method returns.
-/
import Derived.Test.YtaglfmlgbcmakaaGreatDoorG03
set_option linter.all false
set_option maxRecDepth 100000
set_option maxHeartbeats 4000000
namespace Go.Proofs.YtaglfmlgbcmakaaGreatDoor
open Go.RowKit
def Hg (w:World)(r:List Nat)(e:Ending)(w':World):Prop:=e= .returned (.agg (Ds r))/\Below w.heap.size w w'
def Ads (p m:Int)(neg:Bool)(s:Snd):Bool:=(bits .or .u32 (bits .andNot .u32 p s.1) (bits .andNot .u32 m s.2)==0) !=neg
def Hq (p m:Int)(neg:Bool)(ws:List Snd)(j:Nat):List Nat:=
 (List.range 33).map fun k=>if k<j then(match ws[k]? with|some s=>if Ads p m neg s then 2^(k+1)else 0|none=>0)else 0
def Y5 (p m:Int)(neg:Bool)(ws:List Snd):List Nat:=Hq p m neg ws 33
theorem Y6 (p m:Int)(neg:Bool)(ws:List Snd):Hq p m neg ws 0=Br:=by
 have h:Hq p m neg ws 0=(List.range 33).map fun _=>0:=List.map_congr_left fun j _=>by rw[if_neg (by omega)]
 rw[h];rfl
theorem Aa4 (p m:Int)(neg:Bool)(ws:List Snd):Hq p m neg ws ws.length=Y5 p m neg ws:=by
 unfold Y5 Hq;refine List.map_congr_left fun j hj=> ?_
 have hj:=List.mem_range.1 hj;by_cases h:j<ws.length
 ·rw[if_pos h,if_pos hj]
 ·rw[if_neg h,if_pos hj,List.getElem?_eq_none (by omega)]
theorem Qn (p m:Int)(neg:Bool)(ws:List Snd)(k:Nat)(s:Snd)(hs:ws[k]? =some s)(hk:k<33):
  Hq p m neg ws (k+1)=if Ads p m neg s then(Hq p m neg ws k).set k (2^(k+1))else Hq p m neg ws k:=by
 split
 ·rename_i h
  refine(Tv _ _ _ _ _ ?_ ?_).symm
  ·rw[if_pos (by omega),hs];simp[h]
  ·intro j hj;by_cases h3:j<k
   ·rw[if_pos h3,if_pos (by omega)]
   ·rw[if_neg h3,if_neg (by omega)]
 ·rename_i h
  unfold Hq;refine List.map_congr_left fun j _=> ?_
  by_cases e:j=k
  ·subst e;rw[if_pos (by omega),if_neg (by omega),hs];simp[h]
  ·by_cases h3:j<k
   ·rw[if_pos h3,if_pos (by omega)]
   ·rw[if_neg h3,if_neg (by omega)]
theorem Af6 (p m:Int)(neg:Bool)(A:Option Addr)(n c:Nat)(ws:List Snd)(w:World)(hw:Ah w A n c ws)(hn:n<=32):
  Calls Tryz.prog 261 #[.agg #[.int .u32 p, .int .u32 m, .bool neg], .slice A n c] w (Hg w (Y5 p m neg ws)):=by
 have HW:=hI hw;clear hw;go_enter Tryz.func261,Tryz.ntmps261;go_wp2
 go_loopw [5,6,9] (fun _ _ i wr=>∃k:Nat,k<=n/\i= .int .i64 k/\Hid (wr.heap[w.heap.size]? =some (.cells #[.int .u32 p, .int .u32 m, .bool neg] 279 (0,0)))∧
  Hid (Bq wr (w.heap.size+1) (Hq p m neg ws k))/\Below w.heap.size w wr) (fun _ _ i _=>n-(intOf i).toNat)
 case atStart=>exact⟨0,Nat.zero_le _,rfl,hpt,by rw[Y6];exact⟨hpt,rfl⟩,bel⟩
 case round=>
  obtain⟨k,hk,rfl,hb,hr,hB⟩:=hrel;have b4:=hB.size;have a6:=hr.out.lt;by_cases hlt:k<n
  ·obtain⟨b,off,sp,sm,rfl,b3,a4,b7,b6⟩:=(HW.out.below hB rr).at_ hlt;have HK:=hI a4;clear a4;have d0:=cell_of_row wr w.heap.size 0 _ _ _ hb.out;have d1:=cell_of_row wr w.heap.size 1 _ _ _ hb.out;have d2:=cell_of_row wr w.heap.size 2 _ _ _ hb.out;simp only[List.getElem?_toArray,List.getElem?_cons_zero,List.getElem?_cons_succ]at d0 d1 d2;have b0:((k:Nat):Int)<33:=by omega
   have hf:=hr.out.frozen k;have hc:=hr.out.get (k:=k) (s:=0) (by unfold Hq;rw[List.getElem?_map,List.getElem?_range (by omega)];simp);have b5:w.heap.size<wr.heap.size:=by omega
   have a9:w.heap.size+1<wr.heap.size:=a6;by_cases hh:((bits .or .u32 (bits .andNot .u32 p sp) (bits .andNot .u32 m sm)==0) !=neg)=true
   ·have a0:=Qn p m neg ws k (sp,sm) HK.out (by omega);rw[if_pos (show Ads p m neg (sp,sm)=true from hh)]at a0;have a2:=hI a0;clear a0;have a8:=hI (Rn (k+1) (by omega));have b1:(!(bits .or .u32 (bits .andNot .u32 p sp) (bits .andNot .u32 m sm)==0)==neg)=true:=by cases neg<;>simpa using hh
    clear hh;go_wp2
    go_roundw
    case rel=>
     refine⟨k+1,by omega,by go_num, ?_, ?_,bel⟩
     ·exact(Below.heap_alloc _ _ _ (by simp;omega)).trans ((Below.heap_setCell _ _ _ _ (by simp)).trans hb.out)
     ·have h1:=(hr.out.set (k:=k) (s:=2^(k+1))).alloc (.cells #[.int .u32 sp, .int .u32 sm] 49);rw[a2.out,a8.out];exact h1
    case measure=>simp[intOf];omega
   ·have a3:((bits .or .u32 (bits .andNot .u32 p sp) (bits .andNot .u32 m sm)==0) !=neg)=false:=by simpa using hh
    have a0:=Qn p m neg ws k (sp,sm) HK.out (by omega);rw[if_neg (show¬Ads p m neg (sp,sm)=true from hh)]at a0;have a2:=hI a0;clear a0 hh;have b1:(!(bits .or .u32 (bits .andNot .u32 p sp) (bits .andNot .u32 m sm)==0)==neg)=false:=by cases neg<;>simpa using a3
    clear a3;go_wp2
    go_roundw
    case rel=>
     refine⟨k+1,by omega,by go_num, ?_, ?_,bel⟩
     ·exact(Below.heap_alloc _ _ _ (by omega)).trans hb.out
     ·have h1:=hr.out.alloc (.cells #[.int .u32 sp, .int .u32 sm] 49);rw[a2.out];exact h1
    case measure=>simp[intOf];omega
  ·obtain rfl:k=n:=by omega
   have a1:Hq p m neg ws k=Y5 p m neg ws:=by rw[←HW.out.len];exact Aa4 p m neg ws
   have HA:=hI a1;clear a1
   go_wp2_with(first
    |(refine Ef rfl (.tmp 4) rfl (w.heap.size+1) _ rfl hr.out ?_)
    |(refine Bk rfl (.tmp 4) (.tmp 37) rfl (w.heap.size+1) _ _ rfl rfl hr.out hr.out.2 ?_;intro w1 a5 a7 b2))
   exact bodyPost_ret (Dm Tryz.results261 _ _ (w.heap.size+1) _ rfl a5) rfl ⟨by rw[HA.out],Bc hB a7 (by omega) hB.size⟩
def Gl (a:Nat):List Nat:=Br.set a (2^a)
theorem Hr (a:Nat):(Gl a).length=33:=by unfold Gl;rw[List.length_set];rfl
theorem Tn (a:Nat)(ha:a<=32):Ds (Gl a)=((Br.map fun(s:Nat)=>Value.int .u64 (s:Int)).set a (.int .u64 (IntKind.u64.wrap (2^a)))).toArray:=by
 unfold Ds Gl;rw[List.map_set,Rn a (by omega)]
theorem Adt (e:Bool)(A:Option Addr)(n c:Nat)(w:World)(hn:n<=32):
  Calls Tryz.prog 262 #[.agg #[.bool e], .slice A n c] w (Hg w (Gl (if e then n else 0))):=by
 cases e
 ·go_enter Tryz.func262,Tryz.ntmps262
  go_wp2_with(first
    |(refine Ef rfl (.tmp 4) rfl _ (Gl 0) rfl ?hr ?_)
    |(refine Bk rfl (.tmp 4) (.tmp 14) rfl _ (Gl 0) (Gl 0) rfl rfl ?hs rfl ?hc))
  case hr=>exact⟨hpt,rfl⟩
  case hs=>exact⟨hpt,rfl⟩
  case hc=>
   intro w1 a0 a1 a3;go_wp2;exact bodyPost_ret (Dm Tryz.results262 _ _ (w.heap.size+1) _ rfl a0) rfl ⟨rfl,Bc bel a1 (by omega) (by simp;omega)⟩
 ·go_enter Tryz.func262,Tryz.ntmps262;have a2:((n:Nat):Int)<33:=by omega
  have hz:([.int .u64 0, .int .u64 0, .int .u64 0, .int .u64 0, .int .u64 0, .int .u64 0, .int .u64 0, .int .u64 0, .int .u64 0, .int .u64 0, .int .u64 0, .int .u64 0, .int .u64 0, .int .u64 0, .int .u64 0, .int .u64 0, .int .u64 0, .int .u64 0, .int .u64 0, .int .u64 0, .int .u64 0, .int .u64 0, .int .u64 0, .int .u64 0, .int .u64 0, .int .u64 0, .int .u64 0, .int .u64 0, .int .u64 0, .int .u64 0, .int .u64 0, .int .u64 0, .int .u64 0]:List Value)[n]? =some (.int .u64 0):=by
   rw[show([.int .u64 0, .int .u64 0, .int .u64 0, .int .u64 0, .int .u64 0, .int .u64 0, .int .u64 0, .int .u64 0, .int .u64 0, .int .u64 0, .int .u64 0, .int .u64 0, .int .u64 0, .int .u64 0, .int .u64 0, .int .u64 0, .int .u64 0, .int .u64 0, .int .u64 0, .int .u64 0, .int .u64 0, .int .u64 0, .int .u64 0, .int .u64 0, .int .u64 0, .int .u64 0, .int .u64 0, .int .u64 0, .int .u64 0, .int .u64 0, .int .u64 0, .int .u64 0, .int .u64 0]:List Value)=List.replicate 33 (.int .u64 0)from rfl,List.getElem?_replicate,if_pos (by omega)]
  go_wp2_with(first
    |(refine Ef rfl (.tmp 4) rfl _ (Gl n) rfl ?hr ?_)
    |(refine Bk rfl (.tmp 4) (.tmp 14) rfl _ (Gl n) (Gl n) rfl rfl ?hs (Hr n) ?hc))
  case hr=>exact⟨by rw[Tn n hn];exact Aj (by simp),Hr n⟩
  case hs=>exact⟨by rw[Tn n hn];exact Aj (by simp),Hr n⟩
  case hc=>
   intro w1 a0 a1 a3;go_wp2;exact bodyPost_ret (Dm Tryz.results262 _ _ (w.heap.size+1) _ rfl a0) rfl ⟨rfl,Bc bel a1 (by omega) (by simp;omega)⟩
def Adu (v:Value)(w:World)(A:Option Addr)(n c:Nat)(r:List Nat):Prop:=
 (∃x,v= .iface 279 (.agg x)/\Calls Tryz.prog 261 #[.agg x, .slice A n c] w (Hg w r))∨
 (∃x,v= .iface 281 (.agg x)/\Calls Tryz.prog 262 #[.agg x, .slice A n c] w (Hg w r))∨
 (∃x,v= .iface 283 (.agg x)/\Calls Tryz.prog 263 #[.agg x, .slice A n c] w (Hg w r))∨
 (∃x,v= .iface 285 (.agg x)/\Calls Tryz.prog 265 #[.agg x, .slice A n c] w (Hg w r))∨
 (∃x,v= .iface 286 (.agg x)/\Calls Tryz.prog 268 #[.agg x, .slice A n c] w (Hg w r))
theorem Mc (rs:List (List Nat))(hs:∀r∈rs,Bp r)(a:List Nat)(ha:Bp a):Bp (rs.foldl Dh a):=by
 induction rs generalizing a with
 |nil=>exact ha
 |cons r rs ih=>exact ih (fun x hx=>hs x (List.mem_cons_of_mem _ hx)) _ (Eg _ _ (hs r (List.mem_cons_self ..)))
theorem Ww (n:Nat)(rs:List (List Nat))(k:Nat)(hs:∀r∈rs,Bp r):Bp ((rs.take k).foldl Dh (idR n)):=
 Mc _ (fun r hr=>hs r (List.mem_of_mem_take hr)) _ (D3 n)
theorem Aib (A':Option Addr)(n' c':Nat)(cvs:List Value)(rs:List (List Nat))(A:Option Addr)(n c:Nat)(w:World)(hcv:Az w A' n' c' 1 cvs)(hlen:rs.length=cvs.length)
  (a4:∀W,Below w.heap.size w W→∀(i:Nat) v r,cvs[i]? =some v->rs[i]? =some r->Adu v W A n c r) (hrl:∀r∈rs,r.length=33/\Bp r) (hn:n<=32) (hT:B9 w):
  Calls Tryz.prog 268 #[.agg #[.slice A' n' c'], .slice A n c] w (Hg w (rs.foldl Dh (idR n))):=by
 have hm:n'<=9223372036854775807:=by have h1:=hcv.2.1;have h2:=hcv.2.2.1;unfold maxLen at h2;omega
 have HC:=hI hcv;clear hcv;have HL:=hI hlen;clear hlen;have HI:=hI a4;clear a4;have HR:=hI hrl;clear hrl;have HT:=hI hT;clear hT;go_enter Tryz.func268,Tryz.ntmps268
 go_wp2_with(first
  |(go_at_call 266;refine(Lm n _ hn).mono ?_;rintro e w1 ⟨rfl,a8⟩;have f6:=Cp a8;(try simp only[World.size_alloc,World.size_drew,World.size_setCell]at f6)
    have f0:w1.heap[w.heap.size]? =some (.cells #[.slice A' n' c'] 286 (0,0)):=(a8.block _ sd).trans hpt;have d0:Bq w1 (w.heap.size+1) Br:=⟨(a8.block _ sd).trans hpt,rfl⟩;have b1:Below w.heap.size w w1:=bel;clear a8)
  |(refine Bk rfl (.tmp 5) (.tmp 11) rfl _ Br (idR n) rfl rfl ?hr (Jm n) ?hc))
 case hr=>exact⟨hpt,rfl⟩
 case hc=>
  intro w2 d5 a9 g6;have b2:w2.heap[w.heap.size]? =some (.cells #[.slice A' n' c'] 286 (0,0)):=(a9.block _ sd (by omega)).trans ((Below.heap_alloc _ _ _ (by omega)).trans f0);have b4:Hid (Bq w2 (w.heap.size+1) Br):=(d0.alloc _).keep1 a9 (by omega);have g2:Below w.heap.size w w2:=Bc (b1.alloc b1.size _) a9 (by omega) sd;have g3:Hid (Bq w2 w1.heap.size (idR n)):=d5;have i2:w1.heap.size<w2.heap.size:=by omega
  have g8:=cell_of_one b2;have g0:=hI b2;clear f0 d0 a9 g6 d5 b1 b2;go_wp2
  go_loopw [15] (fun i wr=>∃(k:Nat),k<=n'/\i= .int .i64 k/\Hid (wr.heap[w.heap.size]? =some (.cells #[.slice A' n' c'] 286 (0,0)))∧
   Hid (Bq wr (w.heap.size+1) Br)/\Hid (Bq wr w1.heap.size ((rs.take k).foldl Dh (idR n)))/\Below w.heap.size w wr) (fun i _=>n'-(intOf i).toNat)
  case atStart=>exact⟨0,Nat.zero_le _,rfl,g0,b4,g3,g2⟩
  case round=>
   obtain⟨k,hk,rfl,hb,hz,ho,hB⟩:=hrel;have i5:=hB.size;have i3:=ho.out.lt;have f2:=hI (HT.out.below hB rr);by_cases hlt:k<n'
   ·obtain⟨b,off,v,rfl,i0,d9,i7⟩:=(HC.out.below hB rr).at1 hlt;have b3:k<rs.length:=by rw[HL.out,HC.out.1];omega
    have d4:rs[k]? =some rs[k]:=List.getElem?_eq_getElem b3;have a4:=HI.out wr hB k v rs[k] d9 d4
    have d1:(rs.take (k+1)).foldl Dh (idR n)=Dh ((rs.take k).foldl Dh (idR n)) rs[k]:=by
     rw[List.take_succ_eq_append_getElem b3,List.foldl_append];rfl
    have a3:=HR.out rs[k] (List.getElem_mem b3);have d8:=hI d1;have b7:=hI a3;generalize rs[k]=r at a4 d8 b7;clear d9 d4 d1 a3;rcases a4 with⟨x,rfl,a0⟩|⟨x,rfl,a0⟩|⟨x,rfl,a0⟩|⟨x,rfl,a0⟩|⟨x,rfl,a0⟩
    all_goals
     have a1:=hI a0;clear a0;go_wp2_with fail;refine a1.out.mono ?_;rintro e w3 ⟨rfl,a2⟩;have f1:=a2.size;have b0:=hI ((a2.block _ (by omega)).trans hb.out);have g4:=hI (ho.out.below a2 rr);have f8:=hI (hz.out.below a2 rr);have i6:=hI (f2.out.below a2 rr);have d2:Below w.heap.size w w3:=bel;clear a2 a1;go_wp2_with(refine Bk rfl (.tmp 8) (.tmp 21) rfl _ Br r rfl rfl ?hr b7.out.1 ?hc)
     case hr=>exact⟨hpt,rfl⟩
     case hc=>
      intro w4 b8 a7 f4;have b6:=hI ((a7.block _ sd (by omega)).trans ((Below.heap_alloc _ _ _ (by omega)).trans b0.out));have d6:=hI ((g4.out.alloc (.cells ((Br.map fun(s:Nat)=>Value.int .u64 (s:Int)).toArray) 266)).keep1 a7 (by omega));have g5:=hI ((f8.out.alloc (.cells ((Br.map fun(s:Nat)=>Value.int .u64 (s:Int)).toArray) 266)).keep1 a7 (by omega));have f9:=hI b8;have f3:Below w.heap.size w w4:=Bc (d2.alloc d2.size _) a7 (by omega) sd;have g7:Hid (B9 w4):=HT.out.below f3 rr;have g9:w3.heap.size<w4.heap.size:=b8.lt;clear b8 a7 f4;go_wp2_with fail;refine(Nh w1.heap.size w3.heap.size ((rs.take k).foldl Dh (idR n)) r _ d6.out f9.out g7.out (Ww n rs k fun r hr=>(HR.out r hr).2) b7.out.2).mono ?_;rintro e w5 ⟨rfl,a6⟩;have i4:=a6.size;have b5:=hI ((a6.block _ (by omega)).trans b6.out);have d3:=hI (d6.out.below a6 rr);have f5:=hI (g5.out.below a6 rr);have d7:Below w.heap.size w w5:=bel;clear a6;go_wp2_with(refine Bk rfl (.tmp 5) (.tmp 22) rfl _ _ _ rfl rfl d3.out (by rw[Em];exact d3.out.2) ?hd)
      case hd=>
       intro w6 g1 b9 i1;go_wp2
       go_roundw
       case rel=>
        refine⟨k+1,by omega,by go_num,(b9.block _ (by omega) (by omega)).trans b5.out,f5.out.keep1 b9 (by omega), ?_,Bc d7 b9 (by omega) d7.size⟩;rw[d8.out];exact g1
       case measure=>simp[intOf];omega
   ·obtain rfl:k=n':=by omega
    have a5:rs.take k=rs:=List.take_of_length_le (by rw[HL.out,HC.out.1];omega);have HA:=hI a5;clear a5
    go_wp2_with(first
     |(refine Ef rfl (.tmp 5) rfl w1.heap.size _ rfl ho.out ?_)
     |(refine Bk rfl (.tmp 4) (.tmp 24) rfl (w.heap.size+1) Br _ rfl rfl hz.out ho.out.2 ?hd))
    case hd=>
     intro w3 b4 f7 f1;go_wp2;exact bodyPost_ret (Dm Tryz.results268 _ _ (w.heap.size+1) _ rfl b4) rfl ⟨by rw[HA.out],Bc hB f7 (by omega) hB.size⟩
theorem Ux (x y:List Nat)(hx:x.length=33)(hy:y.length=33):(orR x y).length=33:=by
 unfold orR;rw[List.length_zipWith];omega
theorem Gj (x y:List Nat)(hx:Bp x)(hy:Bp y):Bp (orR x y):=by
 intro s hs;obtain⟨i,hi,rfl⟩:=List.getElem_of_mem hs;unfold orR at hi ⊢;rw[List.getElem_zipWith];exact Rm (hx _ (List.getElem_mem _)) (hy _ (List.getElem_mem _))
theorem G8:Bp Br:=by
 intro s hs;rw[show s=0 from List.eq_of_mem_replicate (by rw[show Br=List.replicate 33 0 from rfl]at hs;exact hs)];unfold Ch;omega
theorem Jt (rs:List (List Nat))(hs:∀r∈rs,Bp r)(a:List Nat)(ha:Bp a):Bp (rs.foldl orR a):=by
 induction rs generalizing a with
 |nil=>exact ha
 |cons r rs ih=>exact ih (fun x hx=>hs x (List.mem_cons_of_mem _ hx)) _ (Gj _ _ ha (hs r (List.mem_cons_self ..)))
theorem Qo (rs:List (List Nat))(k:Nat)(hs:∀r∈rs,Bp r):Bp ((rs.take k).foldl orR Br):=
 Jt _ (fun r hr=>hs r (List.mem_of_mem_take hr)) _ G8
theorem Aic (A':Option Addr)(n' c':Nat)(cvs:List Value)(rs:List (List Nat))(A:Option Addr)(n c:Nat)(w:World)(hcv:Az w A' n' c' 1 cvs)(hlen:rs.length=cvs.length)
  (a3:∀W,Below w.heap.size w W→∀(i:Nat) v r,cvs[i]? =some v->rs[i]? =some r->Adu v W A n c r) (hrl:∀r∈rs,r.length=33/\Bp r):
  Calls Tryz.prog 263 #[.agg #[.slice A' n' c'], .slice A n c] w (Hg w (rs.foldl orR Br)):=by
 have hm:n'<=9223372036854775807:=by have h1:=hcv.2.1;have h2:=hcv.2.2.1;unfold maxLen at h2;omega
 have HC:=hI hcv;clear hcv;have HL:=hI hlen;clear hlen;have HI:=hI a3;clear a3;have HR:=hI hrl;clear hrl;go_enter Tryz.func263,Tryz.ntmps263;go_wp2
 go_loopw [11] (fun i wr=>∃(k:Nat),k<=n'/\i= .int .i64 k/\Hid (Bq wr (w.heap.size+1) ((rs.take k).foldl orR Br))/\Below w.heap.size w wr) (fun i _=>n'-(intOf i).toNat)
 case atStart=>exact⟨0,Nat.zero_le _,rfl,⟨hpt,rfl⟩,bel⟩
 case round=>
  obtain⟨k,hk,rfl,hz,hB⟩:=hrel;have f1:=hB.size;have d9:=hz.out.lt;by_cases hlt:k<n'
  ·obtain⟨b,off,v,rfl,d8,b7,f2⟩:=(HC.out.below hB rr).at1 hlt;have a5:k<rs.length:=by rw[HL.out,HC.out.1];omega
   have b5:rs[k]? =some rs[k]:=List.getElem?_eq_getElem a5;have a3:=HI.out wr hB k v rs[k] b7 b5
   have b2:(rs.take (k+1)).foldl orR Br=orR ((rs.take k).foldl orR Br) rs[k]:=by
    rw[List.take_succ_eq_append_getElem a5,List.foldl_append];rfl
   have a2:=HR.out rs[k] (List.getElem_mem a5);have b6:=hI b2;have a7:=hI a2;generalize rs[k]=r at a3 b6 a7;clear b7 b5 b2 a2;rcases a3 with⟨x,rfl,a0⟩|⟨x,rfl,a0⟩|⟨x,rfl,a0⟩|⟨x,rfl,a0⟩|⟨x,rfl,a0⟩
   all_goals
    have a1:=hI a0;clear a0;go_wp2_with fail;refine a1.out.mono ?_;rintro e w3 ⟨rfl,a8⟩;have b8:=a8.size;have d1:=hI (hz.out.below a8 rr);have b4:Below w.heap.size w w3:=bel;clear a8 a1;go_wp2_with(refine Bk rfl (.tmp 7) (.tmp 17) rfl _ Br r rfl rfl ?hr a7.out.1 ?hc)
    case hr=>exact⟨hpt,rfl⟩
    case hc=>
     intro w4 a9 a6 b9;have d5:=hI ((d1.out.alloc (.cells ((Br.map fun(s:Nat)=>Value.int .u64 (s:Int)).toArray) 266)).keep1 a6 (by omega));have d0:=hI a9;have b3:Below w.heap.size w w4:=Bc (b4.alloc b4.size _) a6 (by omega) sd;have d7:w3.heap.size<w4.heap.size:=a9.lt;clear a9 a6 b9;go_wp2_with fail;refine(Aih (w.heap.size+1) w3.heap.size ((rs.take k).foldl orR Br) r _ d5.out d0.out (by omega) (Qo rs k fun r hr=>(HR.out r hr).2) a7.out.2).mono ?_;rintro e w5 ⟨rfl,b1,b0,f0⟩;have d6:=hI b1;have d4:Below w.heap.size w w5:=Bc b3 b0 (by omega) b3.size;clear b1 b0;go_wp2
     go_roundw
     case rel=>
      refine⟨k+1,by omega,by go_num, ?_,d4⟩;rw[b6.out];exact d6.out
     case measure=>simp[intOf];omega
  ·obtain rfl:k=n':=by omega
   have a4:rs.take k=rs:=List.take_of_length_le (by rw[HL.out,HC.out.1];omega);have HA:=hI a4;clear a4
   go_wp2_with(first
    |(refine Ef rfl (.tmp 4) rfl (w.heap.size+1) _ rfl hz.out ?_)
    |(refine Bk rfl (.tmp 4) (.tmp 20) rfl (w.heap.size+1) _ _ rfl rfl hz.out hz.out.2 ?hd))
   case hd=>
    intro w3 d2 d3 b8;go_wp2;exact bodyPost_ret (Dm Tryz.results263 _ _ (w.heap.size+1) _ rfl d2) rfl ⟨by rw[HA.out],Bc hB d3 (by omega) hB.size⟩
theorem Adv (f:Nat)(x:List Nat)(k:Nat)(out:List Nat)(ho:out.length=33):(Pr f x k out).length=33:=by
 induction f generalizing x k out with
 |zero=>exact ho
 |succ f ih=>
  simp only[Pr];split
  ·exact ho
  ·refine ih _ _ _ ?_;split
   ·rw[Em];exact ho
   ·exact ho
theorem Hs (x:List Nat)(k n:Nat):(Hv x k n).length=33:=Adv _ _ _ _ (Jm n)
theorem Y7 (f:Nat)(x:List Nat)(k:Nat)(out:List Nat)(hx:Bp x)(ho:Bp out):Bp (Pr f x k out):=by
 induction f generalizing x k out with
 |zero=>exact ho
 |succ f ih=>
  simp only[Pr];split
  ·exact ho
  ·refine ih _ _ _ (Eg _ _ hx) ?_;split
   ·exact Eg _ _ hx
   ·exact ho
theorem Gm (x:List Nat)(k n:Nat)(hx:Bp x):Bp (Hv x k n):=Y7 _ _ _ _ hx (D3 n)
def Uy (lo:Nat)(hi:Int)(n:Nat):Nat:=if hi<0 then n else(hi-lo).toNat
def Y8 (r:List Nat)(lo:Nat)(hi:Int)(n:Nat):List Nat:=Dh (Hv r lo n) (Hv (orR r (idR n)) (Uy lo hi n) n)
theorem Aid (v:Value)(lo:Nat)(hi:Int)(r:List Nat)(A:Option Addr)(n c:Nat)(w:World)
  (g2:∀W,Below w.heap.size w W->Adu v W A n c r) (hrl:r.length=33/\Bp r) (hlo:lo<=64) (hhi:hi<0\/(lo:Int)<=hi/\hi<=64) (hn:n<=32) (hT:B9 w):
  Calls Tryz.prog 265 #[.agg #[v, .int .i64 (lo:Int), .int .i64 hi], .slice A n c] w (Hg w (Y8 r lo hi n)):=by
 have HI:=hI g2;clear g2;have HR:=hI hrl;clear hrl;have HT:=hI hT;clear hT;have j6:Below w.heap.size w ((w.alloc (.cells #[v, .int .i64 (lo:Int), .int .i64 hi] 285)).alloc (.cells ((Br.map fun(s:Nat)=>Value.int .u64 (s:Int)).toArray) 266)):=bel;have g2:=HI.out _ j6;clear j6;rcases g2 with⟨x,rfl,a0⟩|⟨x,rfl,a0⟩|⟨x,rfl,a0⟩|⟨x,rfl,a0⟩|⟨x,rfl,a0⟩
 all_goals
  have b3:=hI a0;clear a0;go_enter Tryz.func265,Tryz.ntmps265;go_wp2_with fail;refine b3.out.mono ?_;rintro e w1 ⟨rfl,g1⟩;have m1:=g1.size;simp only[World.size_alloc]at m1;have k9:=hI ((g1.block w.heap.size sd).trans (show _=some (.cells #[_, .int .i64 (lo:Int), .int .i64 hi] 285 (0,0))from hpt));have i7:Hid (Bq w1 (w.heap.size+1) Br):=⟨(g1.block _ sd).trans hpt,rfl⟩;have j1:Below w.heap.size w w1:=bel;clear g1 b3;go_wp2_with(refine Bk rfl (.tmp 5) (.tmp 13) rfl _ Br r rfl rfl ?hr HR.out.1 ?hc)
  case hr=>exact⟨hpt,rfl⟩
  case hc=>
   intro w2 i5 g3 m0;have b4:=hI i5;have g8:=hI ((g3.block w.heap.size sd (by omega)).trans ((Below.heap_alloc _ _ _ (by omega)).trans k9.out));have i9:=hI ((i7.out.alloc (.cells ((Br.map fun(s:Nat)=>Value.int .u64 (s:Int)).toArray) 266)).keep1 g3 (by omega));have k4:Below w.heap.size w w2:=Bc (j1.alloc j1.size _) g3 (by omega) sd;have o2:w1.heap.size<w2.heap.size:=i5.lt;clear i5 g3 m0;have d1:=cell_of_row w2 w.heap.size 1 _ _ _ g8.out;have d2:=cell_of_row w2 w.heap.size 2 _ _ _ g8.out;simp only[List.getElem?_toArray,List.getElem?_cons_zero,List.getElem?_cons_succ]at d1 d2;have m6:Hid (B9 w2):=HT.out.below k4 rr;go_wp2_with(refine Ef rfl (.tmp 5) rfl w1.heap.size r rfl b4.out ?_);refine(Vf r lo n _ HR.out.1 HR.out.2 hlo hn m6.out).mono ?_;rintro e w3 ⟨rfl,f9⟩;clear d1 d2;have m9:=f9.size;have m5:=hI ((f9.block w.heap.size (by omega)).trans g8.out);have g5:=hI (i9.out.below f9 rr);have d6:=hI (b4.out.below f9 rr);have j2:Below w.heap.size w w3:=bel;clear f9;go_wp2_with(refine Bk rfl (.tmp 6) (.tmp 19) rfl _ Br (Hv r lo n) rfl rfl ?hr (Hs r lo n) ?hd)
   case hr=>exact⟨hpt,rfl⟩
   case hd=>
    intro w4 i8 f2 m2;have f0:=hI i8;have m7:=hI ((f2.block w.heap.size sd (by omega)).trans ((Below.heap_alloc _ _ _ (by omega)).trans m5.out));have i4:=hI ((g5.out.alloc (.cells ((Br.map fun(s:Nat)=>Value.int .u64 (s:Int)).toArray) 266)).keep1 f2 (by omega));have f4:=hI ((d6.out.alloc (.cells ((Br.map fun(s:Nat)=>Value.int .u64 (s:Int)).toArray) 266)).keep1 f2 (by omega));have j0:Below w.heap.size w w4:=Bc (j2.alloc j2.size _) f2 (by omega) sd;have o3:w3.heap.size<w4.heap.size:=i8.lt;clear i8 f2 m2;go_wp2_with(first|(refine Ef rfl (.tmp 5) rfl w1.heap.size r rfl f4.out ?_)|(refine Bk rfl (.tmp 7) (.tmp 20) rfl _ Br r rfl rfl ?hr HR.out.1 ?he))
    case hr=>exact⟨hpt,rfl⟩
    case he=>
     intro w5 i3 f6 k1;have g0:=hI i3;have k5:=hI ((f6.block w.heap.size sd (by omega)).trans ((Below.heap_alloc _ _ _ (by omega)).trans m7.out));have g7:=hI ((i4.out.alloc (.cells ((Br.map fun(s:Nat)=>Value.int .u64 (s:Int)).toArray) 266)).keep1 f6 (by omega));have f3:=hI ((f0.out.alloc (.cells ((Br.map fun(s:Nat)=>Value.int .u64 (s:Int)).toArray) 266)).keep1 f6 (by omega));have o6:Below w.heap.size w w5:=Bc (j0.alloc j0.size _) f6 (by omega) sd;have o4:w4.heap.size<w5.heap.size:=i3.lt;clear i3 f6 k1;go_wp2_with fail;refine(Lm n _ hn).mono ?_;rintro e w6 ⟨rfl,d3⟩;have o1:=d3.size;have k7:=hI ((d3.block w.heap.size (by omega)).trans k5.out);have i6:=hI (g7.out.below d3 rr);have f7:=hI (f3.out.below d3 rr);have d7:=hI (g0.out.below d3 rr);have j3:Below w.heap.size w w6:=bel;clear d3;go_wp2_with(refine Bk rfl (.tmp 8) (.tmp 23) rfl _ Br (idR n) rfl rfl ?hr (Jm n) ?hf)
     case hr=>exact⟨hpt,rfl⟩
     case hf=>
      intro w7 i1 d4 k3;have f1:=hI i1;have k2:=hI ((d4.block w.heap.size sd (by omega)).trans ((Below.heap_alloc _ _ _ (by omega)).trans k7.out));have g6:=hI ((i6.out.alloc (.cells ((Br.map fun(s:Nat)=>Value.int .u64 (s:Int)).toArray) 266)).keep1 d4 (by omega));have d5:=hI ((f7.out.alloc (.cells ((Br.map fun(s:Nat)=>Value.int .u64 (s:Int)).toArray) 266)).keep1 d4 (by omega));have f8:=hI ((d7.out.alloc (.cells ((Br.map fun(s:Nat)=>Value.int .u64 (s:Int)).toArray) 266)).keep1 d4 (by omega));have j7:Below w.heap.size w w7:=Bc (j3.alloc j3.size _) d4 (by omega) sd;have o0:w6.heap.size<w7.heap.size:=i1.lt;clear i1 d4 k3;go_wp2_with fail;refine(Aih w4.heap.size w6.heap.size r (idR n) _ f8.out f1.out (by omega) HR.out.2 (D3 n)).mono ?_;rintro e w8 ⟨rfl,j8,f5,j4⟩
      skip
      have a4:=hI j8;have g4:=hI ((f5.block w.heap.size sd (by omega)).trans k2.out);have d9:=hI (g6.out.keep1 f5 (by omega));have b5:=hI (d5.out.keep1 f5 (by omega));have m3:Below w.heap.size w w8:=Bc j7 f5 (by omega) j7.size;have o5:w8.heap.size=w7.heap.size:=j4;clear j8 f5 j4;have d1:=cell_of_row w8 w.heap.size 1 _ _ _ g4.out;have d2:=cell_of_row w8 w.heap.size 2 _ _ _ g4.out;simp only[List.getElem?_toArray,List.getElem?_cons_zero,List.getElem?_cons_succ]at d1 d2;have j9:Hid (B9 w8):=HT.out.below m3 rr
      have ex:∃ex:Nat,ex<=64/\ex=Uy lo hi n/\(hi<0->ex=n)/\(¬hi<0->(ex:Int)=hi-lo):=by
       refine⟨Uy lo hi n, ?_,rfl, ?_, ?_⟩<;>unfold Uy<;>split<;>omega
      obtain⟨ex,j5,HE,k6,m8⟩:=ex
      replace HE:=hI HE
      by_cases hneg:hi<0
      ·obtain rfl:=(k6 hneg).symm;go_wp2_with(refine Ef rfl (.tmp 7) rfl w4.heap.size (orR r (idR n)) rfl a4.out ?_);refine(Vf (orR r (idR n)) n n _ (Ux _ _ HR.out.1 (Jm n)) (Gj _ _ HR.out.2 (D3 n)) j5 hn j9.out).mono ?_;rintro e w9 ⟨rfl,a5⟩;have k0:=a5.size;have m4:=hI ((a5.block w.heap.size (by omega)).trans g4.out);have b9:=hI (d9.out.below a5 rr);have b1:=hI (b5.out.below a5 rr);have a9:=hI (a4.out.below a5 rr);have d8:Below w.heap.size w w9:=bel;clear a5;go_wp2_with(refine Bk rfl (.tmp 7) (.tmp 39) rfl _ _ (Hv (orR r (idR n)) n n) rfl rfl a9.out (Hs _ _ _) ?hg)
       case hg=>
        intro w10 b0 a1 i0;have b8:Below w.heap.size w w10:=Bc d8 a1 (by omega) d8.size;have a8:=hI (b9.out.keep1 a1 (by omega));have a3:=hI (b1.out.keep1 a1 (by omega));have a6:=hI b0;have b6:Hid (B9 w10):=HT.out.below b8 rr;clear b0 a1;go_wp2_with fail;refine(Nh w3.heap.size w4.heap.size (Hv r lo n) (Hv (orR r (idR n)) n n) _ a3.out a6.out b6.out (Gm _ _ _ HR.out.2) (Gm _ _ _ (Gj _ _ HR.out.2 (D3 n)))).mono ?_;rintro e w11 ⟨rfl,a2⟩;have b2:=hI (a8.out.below a2 rr);have i2:=a2.size;have a7:Below w.heap.size w w11:=bel;clear a2;go_wp2_with(refine Bk rfl (.tmp 4) (.tmp 40) rfl _ Br (Dh (Hv r lo n) (Hv (orR r (idR n)) n n)) rfl rfl b2.out (by rw[Em];exact Hs _ _ _) ?hh)
        case hh=>
         intro w12 b7 d0 g9;go_wp2;exact bodyPost_ret (Dm Tryz.results265 _ _ (w.heap.size+1) _ rfl b7) rfl ⟨by unfold Y8;rw[←HE.out],Bc a7 d0 (by omega) a7.size⟩
      ·have k8:=m8 hneg;go_wp2_with(refine Ef rfl (.tmp 7) rfl w4.heap.size (orR r (idR n)) rfl a4.out ?_);rw[←k8];refine(Vf (orR r (idR n)) ex n _ (Ux _ _ HR.out.1 (Jm n)) (Gj _ _ HR.out.2 (D3 n)) j5 hn j9.out).mono ?_;rintro e w9 ⟨rfl,a5⟩;have k0:=a5.size;have m4:=hI ((a5.block w.heap.size (by omega)).trans g4.out);have b9:=hI (d9.out.below a5 rr);have b1:=hI (b5.out.below a5 rr);have a9:=hI (a4.out.below a5 rr);have d8:Below w.heap.size w w9:=bel;clear a5;go_wp2_with(refine Bk rfl (.tmp 7) (.tmp 39) rfl _ _ (Hv (orR r (idR n)) ex n) rfl rfl a9.out (Hs _ _ _) ?hg)
       case hg=>
        intro w10 b0 a1 i0;have b8:Below w.heap.size w w10:=Bc d8 a1 (by omega) d8.size;have a8:=hI (b9.out.keep1 a1 (by omega));have a3:=hI (b1.out.keep1 a1 (by omega));have a6:=hI b0;have b6:Hid (B9 w10):=HT.out.below b8 rr;clear b0 a1;go_wp2_with fail;refine(Nh w3.heap.size w4.heap.size (Hv r lo n) (Hv (orR r (idR n)) ex n) _ a3.out a6.out b6.out (Gm _ _ _ HR.out.2) (Gm _ _ _ (Gj _ _ HR.out.2 (D3 n)))).mono ?_;rintro e w11 ⟨rfl,a2⟩;have b2:=hI (a8.out.below a2 rr);have i2:=a2.size;have a7:Below w.heap.size w w11:=bel;clear a2;go_wp2_with(refine Bk rfl (.tmp 4) (.tmp 40) rfl _ Br (Dh (Hv r lo n) (Hv (orR r (idR n)) ex n)) rfl rfl b2.out (by rw[Em];exact Hs _ _ _) ?hh)
        case hh=>
         intro w12 b7 d0 g9;go_wp2;exact bodyPost_ret (Dm Tryz.results265 _ _ (w.heap.size+1) _ rfl b7) rfl ⟨by unfold Y8;rw[←HE.out],Bc a7 d0 (by omega) a7.size⟩
def N1 (k:Nd)(A:Option Addr)(n c:Nat)(cvs:List Value):Value:=
 if k.kind=1 then .iface 279 (.agg #[.int .u32 k.isp, .int .u32 k.ism, .bool k.neg])
 else if k.kind=2 then .iface 281 (.agg #[.bool false])
 else if k.kind=6 then .iface 281 (.agg #[.bool true])
 else if k.kind=4 then .iface 283 (.agg #[.slice A n c])
 else if k.kind=5 then .iface 285 (.agg #[cvs.headD undef, .int .i64 k.lo, .int .i64 k.hi])
 else .iface 286 (.agg #[.slice A n c])
def Fh (w:World):Fo->List Value->Prop
 | .nil,vs=>vs=[]
 | .node k ch nx,vs=>∃A n c cvs v vs',vs=v::vs'/\Az w A n c 1 cvs/\Fh w ch cvs/\v=N1 k A n c cvs/\Fh w nx vs'
theorem Fh.below {w w':World}{B:Nat}(hb:Below B w w')(hB:w.heap.size<=B):∀(f:Fo) (vs:List Value),Fh w f vs->Fh w' f vs
 | .nil,_,h=>h
 | .node _ ch nx,_,⟨A,n,c,cvs,v,vs',h1,h2,h3,h4,h5⟩=>⟨A,n,c,cvs,v,vs',h1,h2.below hb hB,below hb hB ch _ h3,h4,below hb hB nx _ h5⟩
theorem Fh.len {w:World}:∀(f:Fo) (vs:List Value),Fh w f vs->vs.length=f.len
 | .nil,_,h=>by rw[show _=[]from h];rfl
 | .node _ ch nx,_,⟨A,n,c,cvs,v,vs',h1,h2,h3,h4,h5⟩=>by rw[h1,List.length_cons,len nx _ h5];rfl
def okF:Fo->Prop
 | .nil=>True
 | .node k ch nx=>Bo k ch.len=0/\okF ch/\okF nx
def Md (k:Nd)(ws:List Snd)(rs:List (List Nat)):List Nat:=
 if k.kind=1 then Y5 k.isp k.ism k.neg ws
 else if k.kind=2 then Gl 0
 else if k.kind=6 then Gl ws.length
 else if k.kind=4 then rs.foldl orR Br
 else if k.kind=5 then Y8 (rs.headD []) k.lo.toNat k.hi ws.length
 else rs.foldl Dh (idR ws.length)
def Jl (ws:List Snd):Fo->List (List Nat)
 | .nil=>[]
 | .node k ch nx=>Md k ws (Jl ws ch)::Jl ws nx
theorem Me (ws:List Snd):∀f:Fo,(Jl ws f).length=f.len
 | .nil=>rfl
 | .node _ ch nx=>by simp[Jl,Fo.len,Me ws nx]
theorem Kb {k:Nd}{n:Nat}(hk:k.kind=5)(h:Bo k n=0):n=1/\0<=k.lo/\k.lo<=32/\(k.hi= -1\/k.lo<=k.hi/\k.hi<=32):=by
 simp only[Bo,hk]at h;simp at h;split at h<;>simp at h;omega
theorem Si (rs:List (List Nat))(a:List Nat)(ha:a.length=33):(rs.foldl Dh a).length=33:=by
 induction rs generalizing a with
 |nil=>exact ha
 |cons r rs ih=>exact ih _ (by rw[Em];exact ha)
theorem Wx (rs:List (List Nat))(hr:∀r∈rs,r.length=33)(a:List Nat)(ha:a.length=33):(rs.foldl orR a).length=33:=by
 induction rs generalizing a with
 |nil=>exact ha
 |cons r rs ih=>exact ih (fun x hx=>hr x (List.mem_cons_of_mem _ hx)) _ (Ux _ _ ha (hr r (List.mem_cons_self ..)))
theorem Qp (k:Nat)(hk:k<33):Ch (2^k):=by
 have hp:2^k<=2^32:=Nat.pow_le_pow_right (by decide) (by omega);have a0:(2:Nat)^32=4294967296:=by decide
 unfold Ch;omega
theorem N2 (a:Nat)(ha:a<=32):Bp (Gl a):=by
 intro s hs;unfold Gl at hs;rcases List.mem_or_eq_of_mem_set hs with h|h
 ·exact G8 s h
 ·subst h;exact Qp _ (by omega)
theorem Y9 (p m:Int)(neg:Bool)(ws:List Snd)(hn:ws.length<=32):Bp (Y5 p m neg ws):=by
 intro s hs;obtain⟨k,hk,rfl⟩:=List.mem_map.1 hs;have hk:=List.mem_range.1 hk;rw[if_pos hk]
 cases hx:ws[k]? with
 |none=>exact Fs
 |some x=>
  have:=(List.getElem?_eq_some_iff.1 hx).1
  show Ch (if Ads p m neg x=true then 2^(k+1)else 0);split
  ·exact Qp _ (by omega)
  ·exact Fs
theorem Adw (r:List Nat)(lo:Nat)(hi:Int)(n:Nat):(Y8 r lo hi n).length=33:=by unfold Y8;rw[Em];exact Hs _ _ _
theorem Za (r:List Nat)(lo:Nat)(hi:Int)(n:Nat)(hr:Bp r):Bp (Y8 r lo hi n):=
 Eg _ _ (Gm _ _ _ (Gj _ _ hr (D3 n)))
theorem Mf (ws:List Snd)(hn:ws.length<=32):∀f:Fo,okF f→∀r∈Jl ws f,r.length=33/\Bp r
 | .nil,_=>by simp[Jl]
 | .node k ch nx,⟨h1,h2,h3⟩=>by
  intro r hr;rcases List.mem_cons.1 hr with h|h
  ·subst h;have hc:=Mf ws hn ch h2;unfold Md;split
   ·exact⟨by simp[Y5,Hq],Y9 _ _ _ _ hn⟩
   ·split
    ·exact⟨Hr _,N2 _ (by omega)⟩
    ·split
     ·exact⟨Hr _,N2 _ hn⟩
     ·split
      ·exact⟨Wx _ (fun r hr=>(hc r hr).1) _ rfl,Jt _ (fun r hr=>(hc r hr).2) _ G8⟩
      ·split
       ·rename_i h5
        obtain⟨e1,_⟩:=Kb h5 h1;refine⟨Adw _ _ _ _,Za _ _ _ _ ?_⟩;have hl:=Me ws ch
        cases hx:Jl ws ch with
        |nil=>rw[hx]at hl;simp at hl;omega
        |cons a l=>exact(hc a (by rw[hx];exact List.mem_cons_self ..)).2
       ·exact⟨Si _ _ (Jm _),Mc _ (fun r hr=>(hc r hr).2) _ (D3 _)⟩
  ·exact Mf ws hn nx h3 r h
theorem Ahr (ws:List Snd)(A:Option Addr)(n c:Nat)(hn:n<=32):∀(f:Fo) (w:World) (vs:List Value),okF f->Fh w f vs->Ah w A n c ws->B9 w→
  ∀W,Below w.heap.size w W→∀(i:Nat) v r,vs[i]? =some v->(Jl ws f)[i]? =some r->Adu v W A n c r
 | .nil,w,vs,_,hp,_,_=>by
  intro W _ i v r hv _;rw[show vs=[]from hp]at hv;simp at hv
 | .node k ch nx,w,vs,⟨h1,h2,h3⟩,⟨A',n',c',cvs,v0,vs',e0,hC,hch,hv0,hnx⟩,hw,hT=>by
  intro W hB i v r hv hr;subst e0
  cases i with
  |succ i=>
   exact Ahr ws A n c hn nx w vs' h3 hnx hw hT W hB i v r (by simpa using hv) (by simpa[Jl]using hr)
  |zero=>
   obtain rfl:v0=v:=by simpa using hv
   obtain rfl:Md k ws (Jl ws ch)=r:=by simpa[Jl]using hr
   have a2:ws.length=n:=hw.len;have a5:=hC.below hB rr;have a6:=hw.below hB rr;have a4:=hT.below hB rr;have a0:(Jl ws ch).length=cvs.length:=by rw[Me,Fh.len _ _ hch]
   have a1:∀W',Below W.heap.size W W'→∀(i:Nat) v r,cvs[i]? =some v->(Jl ws ch)[i]? =some r->Adu v W' A n c r:=fun W' hB'=>by
    refine Ahr ws A n c hn ch w cvs h2 hch hw hT W' ?_
    have:=hB.size
    exact Below.trans hB (hB'.mono this)
   have a3:=Mf ws (by omega) ch h2;subst hv0;unfold N1 Md;split
   ·exact Or.inl ⟨_,rfl,Af6 _ _ _ _ _ _ _ _ a6 hn⟩
   ·split
    ·exact Or.inr (Or.inl ⟨_,rfl,Adt false _ _ _ _ hn⟩)
    ·split
     ·refine Or.inr (Or.inl ⟨_,rfl, ?_⟩);rw[a2];exact Adt true _ _ _ _ hn
     ·split
      ·exact Or.inr (Or.inr (Or.inl ⟨_,rfl,Aic _ _ _ _ _ _ _ _ _ a5 a0 a1 a3⟩))
      ·split
       ·rename_i h5
        obtain⟨e1,e2,e3,e4⟩:=Kb h5 h1;refine Or.inr (Or.inr (Or.inr (Or.inl ⟨_,rfl, ?_⟩)));have hl:=Me ws ch
        cases hx:Jl ws ch with
        |nil=>rw[hx]at hl;simp at hl;omega
        |cons a l=>
         cases hy:cvs with
         |nil=>rw[hx,hy]at a0;simp at a0
         |cons b m=>
          have h:=Aid b k.lo.toNat k.hi a A n c W (fun W' hB'=>a1 W' hB' 0 b a (by rw[hy];rfl) (by rw[hx];rfl)) (a3 a (by rw[hx];exact List.mem_cons_self ..)) (by omega) (by omega) hn a4;rw[a2];rw[show((k.lo.toNat:Nat):Int)=k.lo by omega]at h;exact h
       ·refine Or.inr (Or.inr (Or.inr (Or.inr ⟨_,rfl, ?_⟩)));rw[a2];exact Aib _ _ _ _ _ _ _ _ _ a5 a0 a1 a3 hn a4
end Go.Proofs.YtaglfmlgbcmakaaGreatDoor
