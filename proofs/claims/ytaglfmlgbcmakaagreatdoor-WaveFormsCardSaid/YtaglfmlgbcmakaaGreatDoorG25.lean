/-
  ablautref06.Table.
  ablautref06.Table, at nodes with others below them.
  ablautref06: Table at any node; both, Begins, Ends.
-/
import Derived.Test.YtaglfmlgbcmakaaGreatDoorG24
set_option linter.all false
set_option maxRecDepth 100000
set_option maxHeartbeats 4000000
namespace Go.Proofs.YtaglfmlgbcmakaaGreatDoor
open Go.RowKit Go.Shelf
def Tab (T:List Nat)(n:Nat)(r:List Nat):Prop:=T.length=n+1/\Bl T∧∀a b,Bt T a b↔Bt r a b
def Akr (w:World)(n:Nat)(r:List Nat)(e:Ending)(w':World):Prop:=∃A c T,e= .returned (.slice A (n+1) c)/\Fd w' A (n+1) c T/\Tab T n r/\Below w.heap.size w w'
def J2 (f:Nat->Nat)(m j:Nat):List Nat:=(List.range m).map fun k=>if k<j then f k else 0
theorem Hn (f:Nat->Nat)(m:Nat):J2 f m 0=List.replicate m 0:=by
 apply List.ext_getElem?;intro i;unfold J2;rw[List.getElem?_map,List.getElem?_replicate];by_cases h:i<m
 ·rw[List.getElem?_range h,if_pos h,Option.map_some,if_neg (by omega)]
 ·rw[List.getElem?_eq_none (by simpa using h),if_neg h];rfl
theorem My (f:Nat->Nat)(m j:Nat):(J2 f m j).set j (f j)=J2 f m (j+1):=by
 unfold J2;refine Jp _ _ _ _ _ (by rw[if_pos (by omega)]) fun k hk=> ?_
 by_cases h:k<j
 ·rw[if_pos h,if_pos (by omega)]
 ·rw[if_neg h,if_neg (by omega)]
theorem Ho {f:Nat->Nat}{m j:Nat}(h:f j=0):J2 f m (j+1)=J2 f m j:=by
 unfold J2;refine List.map_congr_left fun k _=> ?_
 by_cases h1:k=j
 ·subst h1;rw[if_pos (by omega),if_neg (by omega),h]
 ·by_cases h2:k<j
  ·rw[if_pos h2,if_pos (by omega)]
  ·rw[if_neg h2,if_neg (by omega)]
theorem Kx (f:Nat->Nat)(m:Nat):J2 f m m=(List.range m).map f:=List.map_congr_left fun k hk=>by rw[if_pos (List.mem_range.1 hk)]
theorem Sj {f:Nat->Nat}{m j:Nat}(h:j<m):(J2 f m j)[j]? =some 0:=by unfold J2;rw[List.getElem?_map,List.getElem?_range h,Option.map_some,if_neg (by omega)]
theorem Ti {f:Nat->Nat}{n:Nat}{r:List Nat}(hs:∀k,k<=n->Cu (f k))(h:∀a b,a<=n->((f a).testBit b=true↔Bt r a b))(hr:∀a b,Bt r a b->a<=n):Tab ((List.range (n+1)).map f) n r:=by
 refine⟨by simp,fun s hs'=> ?_,fun a b=> ?_⟩
 ·obtain⟨k,hk,rfl⟩:=List.mem_map.1 hs';exact hs k (by have:=List.mem_range.1 hk;omega)
 ·rw[P0];constructor
  ·rintro⟨h1,h2⟩;exact(h a b (by omega)).1 h2
  ·intro h1
   have:=hr a b h1
   exact⟨by omega,(h a b this).2 h1⟩
theorem Tab.follow {T T':List Nat}{n:Nat}{r r':List Nat}(h:Tab T n r)(h':Tab T' n r'):Tab (Cn T T') n (Cn r r'):=by
 refine⟨by rw[C9];exact h.1,Dt _ _ h'.2.1,fun a b=> ?_⟩
 rw[Jb,Jb];exact⟨fun⟨m,h1,h2⟩=>⟨m,(h.2.2 a m).1 h1,(h'.2.2 m b).1 h2⟩,fun⟨m,h1,h2⟩=>⟨m,(h.2.2 a m).2 h1,(h'.2.2 m b).2 h2⟩⟩
theorem Tab.join {T T':List Nat}{n:Nat}{r r':List Nat}(h:Tab T n r)(h':Tab T' n r')(hl:r.length=r'.length):Tab (orR T T') n (orR r r'):=by
 refine⟨by unfold orR;rw[List.length_zipWith,h.1,h'.1];omega,Gn _ _ h.2.1 h'.2.1,fun a b=> ?_⟩
 rw[Tt (by rw[h.1,h'.1]),Tt hl,h.2.2,h'.2.2]
theorem Sk {n:Nat}(hn:n<=32):Tab (idT n) n (idR n):=
 Ti (fun k hk=>Jv k (by omega)) (fun a b ha=>by
  rw[Nat.testBit_two_pow,decide_eq_true_eq,Nx hn];exact⟨fun h=>⟨h,ha⟩,fun h=>h.1⟩) (fun a b h=>((Nx hn a b).1 h).2)
theorem Po (ws:List Snd):∀(f:Fo) (j:Nat) (k:Nd) (ch:Fo),f.get j=some (k,ch)->(D2 ws f)[j]? =some (E5 k ws (D2 ws ch))
 | .nil,j,k,ch,h=>by simp[Fo.get]at h
 | .node k0 ch0 nx,0,k,ch,h=>by
  obtain⟨rfl,rfl⟩:k0=k/\ch0=ch:=by simpa[Fo.get]using h
  rfl
 | .node k0 ch0 nx,j+1,k,ch,h=>by simpa[D2]using Po ws nx j k ch (by simpa[Fo.get]using h)
theorem Tj {α β:Type}(f:α->β->α)(a:α)(l:List β)(k:Nat)(x:β)(h:l[k]? =some x):(l.take (k+1)).foldl f a=f ((l.take k).foldl f a) x:=by
 rw[Bd l k x h,List.foldl_append];rfl
def Pp (k:Nd)(ch:Fo):Prop:=∀(w:World) (A:Option Addr) (c:Nat) (Aw:Option Addr) (nw cw:Nat) (ws:List Snd),FSl w A ch.len c ch->Ak w Aw nw cw ws->nw<=32->Af k ch.len=0->okF ch->NdU k->FoU ch→
 Calls Tryz.prog 223 #[Fc k A ch.len c, .slice Aw nw cw] w (Akr w nw (E5 k ws (D2 ws ch)))
theorem Amg (isp ism:Int)(neg:Bool)(lo hi:Int)(ch:Fo):Pp ⟨0,isp,ism,neg,lo,hi⟩ ch:=by
 intro w A c Aw nw cw ws hs hw hn a0 a8 hk hu
 have a3:ch.len=0:=by
  rcases Nat.eq_zero_or_pos ch.len with h|h
  ·exact h
  ·unfold Af at a0;rw[if_pos (by simp),if_pos (by simp[h])]at a0;exact absurd a0 (by decide)
 have a1:=hw.len
 have hrel:E5 ⟨0,isp,ism,neg,lo,hi⟩ ws (D2 ws ch)=idR nw:=by
  have h1:D2 ws ch=[]:=List.eq_nil_of_length_eq_zero (by rw[E6];exact a3);rw[h1,←a1];rfl
 rw[hrel];clear hs a0 a8 hk hu hrel a3 hw;obtain⟨f,hf⟩:∃f:Nat->Nat,f=fun k=>2^k:=⟨_,rfl⟩
 have a4:Hid (Tab ((List.range (nw+1)).map f) nw (idR nw)):=by rw[hf];exact Sk hn
 have a9:=hI hf;clear hf a1
 have a7:∀w:World,(Instr.makeSlice 256 (.int .i64 ((nw:Int)+1)) (.int .i64 ((nw:Int)+1))).run Tryz.prog w= .ok (.slice (some ⟨w.heap.size,0,none⟩) (nw+1) (nw+1)) (w.alloc (.cells (madeCells #[.int .u64 0] (nw+1)) 81)):=
  fun w=>run_make_row' (P:=Tryz.prog) 256 81 (.int .u64 0) 8 Tryz.underlying256 Gb rfl .i64 .i64 (nw+1) (by omega) (by omega) w
 go_enter Tryz.func223,Tryz.ntmps223;go_wp2;clear a7;rw[Gc];have kp:((w.alloc (.cells #[.int .i64 0, .int .u32 isp, .int .u32 ism, .bool neg, .int .i64 lo, .int .i64 hi, .slice A ch.len c] 52)).alloc (.cells (Cq (List.replicate (nw+1) 0)) 81)).heap[w.heap.size]? =some (.cells #[.int .i64 0, .int .u32 isp, .int .u32 ism, .bool neg, .int .i64 lo, .int .i64 hi, .slice A ch.len c] 52 (0,0)):=hpt;have kg:((w.alloc (.cells #[.int .i64 0, .int .u32 isp, .int .u32 ism, .bool neg, .int .i64 lo, .int .i64 hi, .slice A ch.len c] 52)).alloc (.cells (Cq (List.replicate (nw+1) 0)) 81)).heap[w.heap.size+1]? =some (.cells (Cq (List.replicate (nw+1) 0)) 81 (0,0)):=hpt;have kB:Below w.heap.size w ((w.alloc (.cells #[.int .i64 0, .int .u32 isp, .int .u32 ism, .bool neg, .int .i64 lo, .int .i64 hi, .slice A ch.len c] 52)).alloc (.cells (Cq (List.replicate (nw+1) 0)) 81)):=bel;generalize((w.alloc (.cells #[.int .i64 0, .int .u32 isp, .int .u32 ism, .bool neg, .int .i64 lo, .int .i64 hi, .slice A ch.len c] 52)).alloc (.cells (Cq (List.replicate (nw+1) 0)) 81))=V0 at*
 go_loopw [7] (fun i wr=>∃a:Nat,i= .int .i64 a/\a<=nw+1/\Hid (wr.heap[w.heap.size]? =some (.cells #[.int .i64 0, .int .u32 isp, .int .u32 ism, .bool neg, .int .i64 lo, .int .i64 hi, .slice A ch.len c] 52 (0,0)))/\Hid (wr.heap[w.heap.size+1]? =some (.cells (Cq (J2 f (nw+1) a)) 81 (0,0)))/\Below w.heap.size w wr) (fun i _=>nw+1-(intOf i).toNat)
 case atStart=>exact⟨0,rfl,Nat.zero_le _,kp,by rw[Hn];exact kg,kB⟩
 case round=>
  obtain⟨a,rfl,ha,hp,hg,hB⟩:=hrel;have a5:=Ad (j:=0) (v:= .int .i64 0) hp.out rfl;by_cases hlt:a<nw+1
  ·have h1:(a:Int)<(nw:Int)+1:=by omega
   have h2:(a:Int)<=(nw:Int):=by omega
   have b1:=J4 hg.out (Sj hlt);have b0:=frozen_of_row wr (w.heap.size+1) a _ _ hg.out;have b3:=J5 a (by omega);have a6:=Pv a (by omega);have HF:Hid (((f a:Nat):Int)=2^a):=by show _=_;rw[a9.out];simp
   go_wp2
   have t1:(wr.setCell ⟨w.heap.size+1,a,none⟩ (.int .u64 (2^a))).heap[w.heap.size+1]? =some (.cells (Cq (J2 f (nw+1) (a+1))) 81 (0,0)):=by
    rw[←My,←J3,HF.out];exact Be hg.out
   have t2:(wr.setCell ⟨w.heap.size+1,a,none⟩ (.int .u64 (2^a))).heap[w.heap.size]? =some (.cells #[.int .i64 0, .int .u32 isp, .int .u32 ism, .bool neg, .int .i64 lo, .int .i64 hi, .slice A ch.len c] 52 (0,0)):=(Below.heap_setCell wr ⟨w.heap.size+1,a,none⟩ (.int .u64 (2^a)) w.heap.size (by simp)).trans hp.out;have tB:Below w.heap.size w (wr.setCell ⟨w.heap.size+1,a,none⟩ (.int .u64 (2^a))):=hB.setCell (p:=⟨w.heap.size+1,a,none⟩) (by simp) _
   go_roundw
   case rel=>exact⟨a+1,by go_num,by omega,t2,t1,tB⟩
   case measure=>simp[intOf]<;>omega
  ·obtain rfl:a=nw+1:=by omega
   have h2:¬((nw:Int)+1<=(nw:Int)):=by omega
   have a2:=hg.out;rw[Kx]at a2;clear a5;have b2:=Ad (j:=0) (v:= .int .i64 0) hp.out rfl;go_wp2;go_ret;exact⟨_,_,_,rfl,Ji a2 (by simp) (by unfold maxLen;omega),a4.out,hB⟩
theorem Amh (isp ism:Int)(neg:Bool)(lo hi:Int)(ch:Fo):Pp ⟨2,isp,ism,neg,lo,hi⟩ ch:=by
 intro w A c Aw nw cw ws hs hw hn b1 b0 hk hu;have a5:=hw.len;have hrel:E5 ⟨2,isp,ism,neg,lo,hi⟩ ws (D2 ws ch)=F9 0:=rfl;rw[hrel];clear hs b1 b0 hk hu hrel hw a5;obtain⟨f,hf⟩:∃f:Nat->Nat,f=fun k=>if k=0 then 1 else 0:=⟨_,rfl⟩
 have a3:Hid (Tab ((List.range (nw+1)).map f) nw (F9 0)):=by
  rw[hf];refine Ti (fun k _=> ?_) (fun a b ha=> ?_) (fun a b h=>by have:=(K4 (by omega) a b).1 h;omega)
  ·split
   ·unfold Cu;omega
   ·exact D3
  ·rw[K4 (by omega)];by_cases h:a=0
   ·rw[if_pos h,show(1:Nat)=2^0 from rfl,Nat.testBit_two_pow,decide_eq_true_eq];exact⟨fun e=>⟨h,e.symm⟩,fun e=>e.2.symm⟩
   ·rw[if_neg h];simp[h]
 have a2:=hI hf;clear hf
 have a9:∀w:World,(Instr.makeSlice 256 (.int .i64 ((nw:Int)+1)) (.int .i64 ((nw:Int)+1))).run Tryz.prog w= .ok (.slice (some ⟨w.heap.size,0,none⟩) (nw+1) (nw+1)) (w.alloc (.cells (madeCells #[.int .u64 0] (nw+1)) 81)):=
  fun w=>run_make_row' (P:=Tryz.prog) 256 81 (.int .u64 0) 8 Tryz.underlying256 Gb rfl .i64 .i64 (nw+1) (by omega) (by omega) w
 go_enter Tryz.func223,Tryz.ntmps223;go_wp2;clear a9;rw[Gc];have kp:((w.alloc (.cells #[.int .i64 2, .int .u32 isp, .int .u32 ism, .bool neg, .int .i64 lo, .int .i64 hi, .slice A ch.len c] 52)).alloc (.cells (Cq (List.replicate (nw+1) 0)) 81)).heap[w.heap.size]? =some (.cells #[.int .i64 2, .int .u32 isp, .int .u32 ism, .bool neg, .int .i64 lo, .int .i64 hi, .slice A ch.len c] 52 (0,0)):=hpt;have kg:((w.alloc (.cells #[.int .i64 2, .int .u32 isp, .int .u32 ism, .bool neg, .int .i64 lo, .int .i64 hi, .slice A ch.len c] 52)).alloc (.cells (Cq (List.replicate (nw+1) 0)) 81)).heap[w.heap.size+1]? =some (.cells (Cq (List.replicate (nw+1) 0)) 81 (0,0)):=hpt;have kB:Below w.heap.size w ((w.alloc (.cells #[.int .i64 2, .int .u32 isp, .int .u32 ism, .bool neg, .int .i64 lo, .int .i64 hi, .slice A ch.len c] 52)).alloc (.cells (Cq (List.replicate (nw+1) 0)) 81)):=bel;generalize((w.alloc (.cells #[.int .i64 2, .int .u32 isp, .int .u32 ism, .bool neg, .int .i64 lo, .int .i64 hi, .slice A ch.len c] 52)).alloc (.cells (Cq (List.replicate (nw+1) 0)) 81))=V0 at*
 go_loopw [7] (fun i wr=>∃a:Nat,i= .int .i64 a/\a<=nw+1/\Hid (wr.heap[w.heap.size]? =some (.cells #[.int .i64 2, .int .u32 isp, .int .u32 ism, .bool neg, .int .i64 lo, .int .i64 hi, .slice A ch.len c] 52 (0,0)))/\Hid (wr.heap[w.heap.size+1]? =some (.cells (Cq (J2 f (nw+1) a)) 81 (0,0)))/\Below w.heap.size w wr) (fun i _=>nw+1-(intOf i).toNat)
 case atStart=>exact⟨0,rfl,Nat.zero_le _,kp,by rw[Hn];exact kg,kB⟩
 case round=>
  obtain⟨a,rfl,ha,hp,hg,hB⟩:=hrel;have a4:=Ad (j:=0) (v:= .int .i64 2) hp.out rfl;by_cases hlt:a<nw+1
  ·have h1:(a:Int)<(nw:Int)+1:=by omega
   have h2:(a:Int)<=(nw:Int):=by omega
   have a8:=J4 hg.out (Sj hlt);have a7:=frozen_of_row wr (w.heap.size+1) a _ _ hg.out;by_cases ha0:a=0
   ·have h3:((a:Int)==0)=true:=by simp;omega
    have HF:Hid (((f a:Nat):Int)=1):=by show _=_;rw[a2.out];simp[ha0]
    clear ha0;go_wp2
    have t1:(wr.setCell ⟨w.heap.size+1,a,none⟩ (.int .u64 1)).heap[w.heap.size+1]? =some (.cells (Cq (J2 f (nw+1) (a+1))) 81 (0,0)):=by
     rw[←My,←J3,HF.out];exact Be hg.out
    have t2:(wr.setCell ⟨w.heap.size+1,a,none⟩ (.int .u64 1)).heap[w.heap.size]? =some (.cells #[.int .i64 2, .int .u32 isp, .int .u32 ism, .bool neg, .int .i64 lo, .int .i64 hi, .slice A ch.len c] 52 (0,0)):=(Below.heap_setCell wr ⟨w.heap.size+1,a,none⟩ (.int .u64 1) w.heap.size (by simp)).trans hp.out;have tB:Below w.heap.size w (wr.setCell ⟨w.heap.size+1,a,none⟩ (.int .u64 1)):=hB.setCell (p:=⟨w.heap.size+1,a,none⟩) (by simp) _
    go_roundw
    case rel=>exact⟨a+1,by go_num,by omega,t2,t1,tB⟩
    case measure=>simp[intOf]<;>omega
   ·have h3:((a:Int)==0)=false:=by simp;omega
    have a6:Hid (f a=0):=by show _=_;rw[a2.out];simp[ha0]
    clear ha0 a8 a7;go_wp2;have a1:=hg.out;rw[←Ho (f:=f) (m:=nw+1) (j:=a) a6.out]at a1
    go_roundw
    case rel=>exact⟨a+1,by go_num,by omega,hp,a1,hB⟩
    case measure=>simp[intOf]<;>omega
  ·obtain rfl:a=nw+1:=by omega
   have h2:¬((nw:Int)+1<=(nw:Int)):=by omega
   have a0:=hg.out;rw[Kx]at a0;clear a4;have b2:=Ad (j:=0) (v:= .int .i64 2) hp.out rfl;go_wp2;go_ret;exact⟨_,_,_,rfl,Ji a0 (by simp) (by unfold maxLen;omega),a3.out,hB⟩
theorem Ami (isp ism:Int)(neg:Bool)(lo hi:Int)(ch:Fo):Pp ⟨6,isp,ism,neg,lo,hi⟩ ch:=by
 intro w A c Aw nw cw ws hs hw hn b4 b2 hk hu;have a1:=hw.len;have hrel:E5 ⟨6,isp,ism,neg,lo,hi⟩ ws (D2 ws ch)=F9 nw:=by rw[←a1];rfl
 rw[hrel];clear hs b4 b2 hk hu hrel hw a1;obtain⟨f,hf⟩:∃f:Nat->Nat,f=fun k=>if k=nw then 2^k else 0:=⟨_,rfl⟩
 have a5:Hid (Tab ((List.range (nw+1)).map f) nw (F9 nw)):=by
  rw[hf];refine Ti (fun k hk=> ?_) (fun a b ha=> ?_) (fun a b h=>by have:=(K4 hn a b).1 h;omega)
  ·split
   ·exact Jv k (by omega)
   ·exact D3
  ·rw[K4 hn];by_cases h:a=nw
   ·rw[if_pos h,Nat.testBit_two_pow,decide_eq_true_eq];exact⟨fun e=>⟨h,by omega⟩,fun e=>by omega⟩
   ·rw[if_neg h];simp[h]
 have a4:=hI hf;clear hf
 have b0:∀w:World,(Instr.makeSlice 256 (.int .i64 ((nw:Int)+1)) (.int .i64 ((nw:Int)+1))).run Tryz.prog w= .ok (.slice (some ⟨w.heap.size,0,none⟩) (nw+1) (nw+1)) (w.alloc (.cells (madeCells #[.int .u64 0] (nw+1)) 81)):=
  fun w=>run_make_row' (P:=Tryz.prog) 256 81 (.int .u64 0) 8 Tryz.underlying256 Gb rfl .i64 .i64 (nw+1) (by omega) (by omega) w
 go_enter Tryz.func223,Tryz.ntmps223;go_wp2;clear b0;rw[Gc];have kp:((w.alloc (.cells #[.int .i64 6, .int .u32 isp, .int .u32 ism, .bool neg, .int .i64 lo, .int .i64 hi, .slice A ch.len c] 52)).alloc (.cells (Cq (List.replicate (nw+1) 0)) 81)).heap[w.heap.size]? =some (.cells #[.int .i64 6, .int .u32 isp, .int .u32 ism, .bool neg, .int .i64 lo, .int .i64 hi, .slice A ch.len c] 52 (0,0)):=hpt;have kg:((w.alloc (.cells #[.int .i64 6, .int .u32 isp, .int .u32 ism, .bool neg, .int .i64 lo, .int .i64 hi, .slice A ch.len c] 52)).alloc (.cells (Cq (List.replicate (nw+1) 0)) 81)).heap[w.heap.size+1]? =some (.cells (Cq (List.replicate (nw+1) 0)) 81 (0,0)):=hpt;have kB:Below w.heap.size w ((w.alloc (.cells #[.int .i64 6, .int .u32 isp, .int .u32 ism, .bool neg, .int .i64 lo, .int .i64 hi, .slice A ch.len c] 52)).alloc (.cells (Cq (List.replicate (nw+1) 0)) 81)):=bel;generalize((w.alloc (.cells #[.int .i64 6, .int .u32 isp, .int .u32 ism, .bool neg, .int .i64 lo, .int .i64 hi, .slice A ch.len c] 52)).alloc (.cells (Cq (List.replicate (nw+1) 0)) 81))=V0 at*
 go_loopw [7] (fun i wr=>∃a:Nat,i= .int .i64 a/\a<=nw+1/\Hid (wr.heap[w.heap.size]? =some (.cells #[.int .i64 6, .int .u32 isp, .int .u32 ism, .bool neg, .int .i64 lo, .int .i64 hi, .slice A ch.len c] 52 (0,0)))/\Hid (wr.heap[w.heap.size+1]? =some (.cells (Cq (J2 f (nw+1) a)) 81 (0,0)))/\Below w.heap.size w wr) (fun i _=>nw+1-(intOf i).toNat)
 case atStart=>exact⟨0,rfl,Nat.zero_le _,kp,by rw[Hn];exact kg,kB⟩
 case round=>
  obtain⟨a,rfl,ha,hp,hg,hB⟩:=hrel;have a6:=Ad (j:=0) (v:= .int .i64 6) hp.out rfl;by_cases hlt:a<nw+1
  ·have h1:(a:Int)<(nw:Int)+1:=by omega
   have h2:(a:Int)<=(nw:Int):=by omega
   have a9:=J4 hg.out (Sj hlt);have a8:=frozen_of_row wr (w.heap.size+1) a _ _ hg.out;have b3:=J5 a (by omega);have a0:=Pv a (by omega);by_cases ha0:a=nw
   ·have h3:((a:Int)==(nw:Int))=true:=by simp;omega
    have b1:(a==nw)=true:=by simpa using ha0
    have HF:Hid (((f a:Nat):Int)=2^a):=by show _=_;rw[a4.out];simp[ha0]
    clear ha0;go_wp2
    have t1:(wr.setCell ⟨w.heap.size+1,a,none⟩ (.int .u64 (2^a))).heap[w.heap.size+1]? =some (.cells (Cq (J2 f (nw+1) (a+1))) 81 (0,0)):=by
     rw[←My,←J3,HF.out];exact Be hg.out
    have t2:(wr.setCell ⟨w.heap.size+1,a,none⟩ (.int .u64 (2^a))).heap[w.heap.size]? =some (.cells #[.int .i64 6, .int .u32 isp, .int .u32 ism, .bool neg, .int .i64 lo, .int .i64 hi, .slice A ch.len c] 52 (0,0)):=(Below.heap_setCell wr ⟨w.heap.size+1,a,none⟩ (.int .u64 (2^a)) w.heap.size (by simp)).trans hp.out;have tB:Below w.heap.size w (wr.setCell ⟨w.heap.size+1,a,none⟩ (.int .u64 (2^a))):=hB.setCell (p:=⟨w.heap.size+1,a,none⟩) (by simp) _
    go_roundw
    case rel=>exact⟨a+1,by go_num,by omega,t2,t1,tB⟩
    case measure=>simp[intOf]<;>omega
   ·have h3:((a:Int)==(nw:Int))=false:=by simp;omega
    have b1:(a==nw)=false:=by simpa using ha0
    have a7:Hid (f a=0):=by show _=_;rw[a4.out];simp[ha0]
    clear ha0 a9 a8 b3 a0;go_wp2;have a3:=hg.out;rw[←Ho (f:=f) (m:=nw+1) (j:=a) a7.out]at a3
    go_roundw
    case rel=>exact⟨a+1,by go_num,by omega,hp,a3,hB⟩
    case measure=>simp[intOf]<;>omega
  ·obtain rfl:a=nw+1:=by omega
   have h2:¬((nw:Int)+1<=(nw:Int)):=by omega
   have a2:=hg.out;rw[Kx]at a2;clear a6;have b5:=Ad (j:=0) (v:= .int .i64 6) hp.out rfl;go_wp2;go_ret;exact⟨_,_,_,rfl,Ji a2 (by simp) (by unfold maxLen;omega),a5.out,hB⟩
theorem Amj (isp ism:Int)(neg:Bool)(lo hi:Int)(ch:Fo):Pp ⟨1,isp,ism,neg,lo,hi⟩ ch:=by
 intro w A c Aw nw cw ws hs hw hn f1 f0 hk hu;have d3:=hw.len;have hrel:E5 ⟨1,isp,ism,neg,lo,hi⟩ ws (D2 ws ch)=Sa isp ism neg ws:=rfl;rw[hrel];clear hs f1 f0 hu hrel;obtain⟨f,hf⟩:∃f:Nat->Nat,f=fun k=>match ws[k]? with|some s=>if M2 isp ism neg s then 2^(k+1)else 0|none=>0:=⟨_,rfl⟩
 have d2:Hid (Tab ((List.range (nw+1)).map f) nw (Sa isp ism neg ws)):=by
  rw[hf];refine Ti (fun k hk=> ?_) (fun a b ha=> ?_) (fun a b h=> ?_)
  ·cases hs:ws[k]? with
   |none=>exact D3
   |some s=>
    have:=(List.getElem?_eq_some_iff.1 hs).1
    dsimp only;split
    ·exact Jv _ (by omega)
    ·exact D3
  ·rw[Xo _ _ _ (by omega)]
   cases hs:ws[a]? with
   |none=>simp
   |some s=>
    dsimp only;by_cases hh:M2 isp ism neg s=true
    ·rw[if_pos hh,Nat.testBit_two_pow,decide_eq_true_eq];exact⟨fun e=>⟨s,rfl,hh,e.symm⟩,fun⟨_,_,_,e⟩=>e.symm⟩
    ·rw[if_neg hh];constructor
     ·intro h;simp at h
     ·rintro⟨s',e,h,_⟩;obtain rfl:s=s':=Option.some.inj e;exact absurd h hh
  ·obtain⟨s,hs,_,_⟩:=(Xo _ _ _ (by omega) a b).1 h
   have:=(List.getElem?_eq_some_iff.1 hs).1
   omega
 have d0:=hI hf;clear hf;have HW:=hI hw;clear hw d3;have HK:=hI hk;clear hk
 have d9:∀w:World,(Instr.makeSlice 256 (.int .i64 ((nw:Int)+1)) (.int .i64 ((nw:Int)+1))).run Tryz.prog w= .ok (.slice (some ⟨w.heap.size,0,none⟩) (nw+1) (nw+1)) (w.alloc (.cells (madeCells #[.int .u64 0] (nw+1)) 81)):=
  fun w=>run_make_row' (P:=Tryz.prog) 256 81 (.int .u64 0) 8 Tryz.underlying256 Gb rfl .i64 .i64 (nw+1) (by omega) (by omega) w
 go_enter Tryz.func223,Tryz.ntmps223;go_wp2;clear d9;rw[Gc];have kp:((w.alloc (.cells #[.int .i64 1, .int .u32 isp, .int .u32 ism, .bool neg, .int .i64 lo, .int .i64 hi, .slice A ch.len c] 52)).alloc (.cells (Cq (List.replicate (nw+1) 0)) 81)).heap[w.heap.size]? =some (.cells #[.int .i64 1, .int .u32 isp, .int .u32 ism, .bool neg, .int .i64 lo, .int .i64 hi, .slice A ch.len c] 52 (0,0)):=hpt;have kg:((w.alloc (.cells #[.int .i64 1, .int .u32 isp, .int .u32 ism, .bool neg, .int .i64 lo, .int .i64 hi, .slice A ch.len c] 52)).alloc (.cells (Cq (List.replicate (nw+1) 0)) 81)).heap[w.heap.size+1]? =some (.cells (Cq (List.replicate (nw+1) 0)) 81 (0,0)):=hpt;have kB:Below w.heap.size w ((w.alloc (.cells #[.int .i64 1, .int .u32 isp, .int .u32 ism, .bool neg, .int .i64 lo, .int .i64 hi, .slice A ch.len c] 52)).alloc (.cells (Cq (List.replicate (nw+1) 0)) 81)):=bel;generalize((w.alloc (.cells #[.int .i64 1, .int .u32 isp, .int .u32 ism, .bool neg, .int .i64 lo, .int .i64 hi, .slice A ch.len c] 52)).alloc (.cells (Cq (List.replicate (nw+1) 0)) 81))=V0 at*
 go_loopw [7] (fun i wr=>∃a:Nat,i= .int .i64 a/\a<=nw+1/\Hid (wr.heap[w.heap.size]? =some (.cells #[.int .i64 1, .int .u32 isp, .int .u32 ism, .bool neg, .int .i64 lo, .int .i64 hi, .slice A ch.len c] 52 (0,0)))/\Hid (wr.heap[w.heap.size+1]? =some (.cells (Cq (J2 f (nw+1) a)) 81 (0,0)))/\Below w.heap.size w wr) (fun i _=>nw+1-(intOf i).toNat)
 case atStart=>exact⟨0,rfl,Nat.zero_le _,kp,by rw[Hn];exact kg,kB⟩
 case round=>
  obtain⟨a,rfl,ha,hp,hg,hB⟩:=hrel;have b8:=hB.size;have b0:=Ad (j:=0) (v:= .int .i64 1) hp.out rfl;by_cases hlt:a<nw+1
  ·have h1:(a:Int)<(nw:Int)+1:=by omega
   have h2:(a:Int)<=(nw:Int):=by omega
   by_cases hlt':a<nw
   ·obtain⟨b,off,p,m,rfl,hb,b9,a7,a6⟩:=(HW.out.below hB rr).at_ hlt';have b5:decide (a<nw)=true:=decide_eq_true hlt';have f2:(a:Int)<(nw:Int):=by omega
    have a9:=Ad (j:=1) (v:= .int .u32 isp) hp.out rfl;have a5:=Ad (j:=2) (v:= .int .u32 ism) hp.out rfl;have a8:=Ad (j:=3) (v:= .bool neg) hp.out rfl;have lp:=lt_of_block hp.out
    have a3:Hid (f a=if(M2 isp ism false (p,m) !=neg)then 2^(a+1)else 0):=by
     show _=_;rw[d0.out];dsimp only;rw[b9];unfold M2;simp
    clear b9;go_wp2;refine Bg (fun W'=>W'.cell? ⟨b,off+a*2,none⟩=some (.int .u32 p)/\W'.cell? ⟨b,off+a*2+1,none⟩=some (.int .u32 m)/\W'.cell? ⟨w.heap.size,1,none⟩=some (.int .u32 isp)/\W'.cell? ⟨w.heap.size,2,none⟩=some (.int .u32 ism)/\W'.cell? ⟨w.heap.size,3,none⟩=some (.bool neg)) (by kernel_rfl) ⟨a7,a6,a9,a5,a8⟩ (fun hHeld=> ?_)
    (refine' Ae 0 rfl ?_;(try simp only[Act.put,nY,nX]));(refine' Ae 1 rfl ?_;(try simp only[Act.put,nY,nX]));(refine' Ae 2 rfl ?_;(try simp only[Act.put,nY,nX]))
    try rw[b5]
    (refine' Ae 3 rfl ?_;(try simp only[Act.put,nY,nX]));(refine' Ae 4 rfl ?_;(try simp only[Act.put,nY,nX]));(refine' Ae 5 rfl ?_;(try simp only[Act.put,nY,nX]));(refine' Ae 6 rfl ?_;(try simp only[Act.put,nY,nX]));(refine' Ae 7 rfl ?_;(try simp only[Act.put,nY,nX]));(refine' Ae 8 rfl ?_;(try simp only[Act.put,nY,nX]));(refine' Ae 9 rfl ?_;(try simp only[Act.put,nY,nX]));(refine' Ae 11 rfl ?_;(try simp only[Act.put,nY,nX]));(refine' Ae 12 rfl ?_;(try simp only[Act.put,nY,nX]))
    (refine Anv 10 rfl (fun K' hK'=> ?_);simp only[nY];go_simp)
    refine(Aku (p,m) isp ism _ HK.out.1 HK.out.2).mono ?_;rintro e w2 ⟨rfl,a2⟩;obtain⟨hv,d1⟩:∃hv,hv=M2 isp ism false (p,m):=⟨_,rfl⟩;rw[←d1]at a3 ⊢;clear d1;have a0:Below wr.heap.size wr w2:=(Below.refl wr.heap.size wr).drew.trans a2
    have b6:w2.cell? ⟨b,off+a*2,none⟩=some (.int .u32 p)/\w2.cell? ⟨b,off+a*2+1,none⟩=some (.int .u32 m)/\w2.cell? ⟨w.heap.size,1,none⟩=some (.int .u32 isp)/\w2.cell? ⟨w.heap.size,2,none⟩=some (.int .u32 ism)/\w2.cell? ⟨w.heap.size,3,none⟩=some (.bool neg):=
     ⟨(a0.cell (p:=⟨b,off+a*2,none⟩) hb).trans a7,(a0.cell (p:=⟨b,off+a*2+1,none⟩) hb).trans a6,(a0.cell (p:=⟨w.heap.size,1,none⟩) lp).trans a9,(a0.cell (p:=⟨w.heap.size,2,none⟩) lp).trans a5,(a0.cell (p:=⟨w.heap.size,3,none⟩) lp).trans a8⟩
    refine hK' _ _ ⟨.inr b6,fun _=> ?_⟩
    clear hK' K' a2 hHeld a9 a5 a8 a7 a6;have b4:Hid (w2.heap[w.heap.size]? =some (.cells #[.int .i64 1, .int .u32 isp, .int .u32 ism, .bool neg, .int .i64 lo, .int .i64 hi, .slice A ch.len c] 52 (0,0))):=(a0.block _ lp).trans hp.out;have a1:Hid (w2.heap[w.heap.size+1]? =some (.cells (Cq (J2 f (nw+1) a)) 81 (0,0))):=(a0.block _ (lt_of_block hg.out)).trans hg.out;have b7:Below w.heap.size w w2:=hB.trans (a0.mono b8);clear hp hg hB a0 b0 b8 hb lp
    (try simp only[Act.put,nY,nX])
    (refine' Ae 13 rfl ?_;(try simp only[Act.put,nY,nX]))
    (refine Anv 14 rfl (fun K' hK'=> ?_);simp only[nY];go_simp)
    refine hK' _ _ ⟨.inl (by kernel_rfl),fun _=>Bf (by kernel_rfl) ?_ _⟩
    clear hK' K' b6;obtain⟨d,hd⟩:∃d,d=(!(hv==neg)):=⟨_,rfl⟩;have b1:Hid (f a=if d then 2^(a+1)else 0):=by show _=_;rw[a3.out,hd];rfl
    rw[←hd];clear hd a3;have d7:=J4 a1.out (Sj hlt);have d5:=frozen_of_row w2 (w.heap.size+1) a _ _ a1.out;cases d
    ·have a4:Hid (f a=0):=by show _=_;rw[b1.out];simp
     have b3:=a1.out;rw[←Ho (f:=f) (m:=nw+1) (j:=a) a4.out]at b3;clear d7 d5;go_wp2
     go_roundw
     case rel=>exact⟨a+1,by go_num,by omega,b4,b3,b7⟩
     case measure=>simp[intOf]<;>omega
    ·have HF:Hid (((f a:Nat):Int)=2^(a+1)):=by show _=_;rw[b1.out];simp
     have f4:=J5 (a+1) (by omega);have d4:=Pv (a+1) (by omega);have d6:((a:Int)+1).toNat=a+1:=by omega
     go_wp2
     have t1:(w2.setCell ⟨w.heap.size+1,a,none⟩ (.int .u64 (2^(a+1)))).heap[w.heap.size+1]? =some (.cells (Cq (J2 f (nw+1) (a+1))) 81 (0,0)):=by
      rw[←My,←J3,HF.out];exact Be a1.out
     have t2:(w2.setCell ⟨w.heap.size+1,a,none⟩ (.int .u64 (2^(a+1)))).heap[w.heap.size]? =some (.cells #[.int .i64 1, .int .u32 isp, .int .u32 ism, .bool neg, .int .i64 lo, .int .i64 hi, .slice A ch.len c] 52 (0,0)):=(Below.heap_setCell w2 ⟨w.heap.size+1,a,none⟩ (.int .u64 (2^(a+1))) w.heap.size (by simp)).trans b4.out;have tB:Below w.heap.size w (w2.setCell ⟨w.heap.size+1,a,none⟩ (.int .u64 (2^(a+1)))):=b7.setCell (p:=⟨w.heap.size+1,a,none⟩) (by simp) _
     go_roundw
     case rel=>exact⟨a+1,by go_num,by omega,t2,t1,tB⟩
     case measure=>simp[intOf]<;>omega
   ·obtain rfl:a=nw:=by omega
    have b5:decide (a<a)=false:=decide_eq_false (by omega)
    have a4:Hid (f a=0):=by
     show _=_;rw[d0.out];dsimp only;rw[List.getElem?_eq_none (by rw[HW.out.len];exact rr)]
    go_wp2
    go_quiet (fail)
    have a1:=hg.out;rw[←Ho (f:=f) (m:=a+1) (j:=a) a4.out]at a1;have d8:=hB.drewN nq;go_wp2
    go_roundw
    case rel=>exact⟨a+1,by go_num,by omega,hp,a1,d8⟩
    case measure=>simp[intOf]<;>omega
  ·obtain rfl:a=nw+1:=by omega
   have h2:¬((nw:Int)+1<=(nw:Int)):=by omega
   have b2:=hg.out;rw[Kx]at b2;clear b0;have f3:=Ad (j:=0) (v:= .int .i64 1) hp.out rfl;go_wp2;go_ret;exact⟨_,_,_,rfl,Ji b2 (by simp) (by unfold maxLen;omega),d2.out,hB⟩
theorem Amk (isp ism:Int)(neg:Bool)(lo hi:Int)(ch:Fo)(ih:∀j k' ch',ch.get j=some (k',ch')->Pp k' ch'):Pp ⟨3,isp,ism,neg,lo,hi⟩ ch:=by
 intro w A c Aw nw cw ws hs hw hn f2 b9 hk hu;have d9:ch.len<=9223372036854775807:=by have h1:=hs.1.2.1;have h2:=hs.1.2.2.1;unfold maxLen at h2;omega
 have d5:=hw.len;have hrel:E5 ⟨3,isp,ism,neg,lo,hi⟩ ws (D2 ws ch)=(D2 ws ch).foldl Cn (idR nw):=by rw[←d5];rfl
 rw[hrel];have HI:=hI ih;clear ih;have HS:=hI hs;clear hs;have HW:=hI hw;clear hw;have g1:=hI b9;clear b9;have HU:=hI hu;clear hu;clear hrel d5 f2 hk;obtain⟨f,hf⟩:∃f:Nat->Nat,f=fun _=>0:=⟨_,rfl⟩
 have f1:=hI hf;clear hf
 have f7:∀w:World,(Instr.makeSlice 256 (.int .i64 ((nw:Int)+1)) (.int .i64 ((nw:Int)+1))).run Tryz.prog w= .ok (.slice (some ⟨w.heap.size,0,none⟩) (nw+1) (nw+1)) (w.alloc (.cells (madeCells #[.int .u64 0] (nw+1)) 81)):=
  fun w=>run_make_row' (P:=Tryz.prog) 256 81 (.int .u64 0) 8 Tryz.underlying256 Gb rfl .i64 .i64 (nw+1) (by omega) (by omega) w
 go_enter Tryz.func223,Tryz.ntmps223;go_wp2;clear f7;rw[Gc];have kp:((w.alloc (.cells #[.int .i64 3, .int .u32 isp, .int .u32 ism, .bool neg, .int .i64 lo, .int .i64 hi, .slice A ch.len c] 52)).alloc (.cells (Cq (List.replicate (nw+1) 0)) 81)).heap[w.heap.size]? =some (.cells #[.int .i64 3, .int .u32 isp, .int .u32 ism, .bool neg, .int .i64 lo, .int .i64 hi, .slice A ch.len c] 52 (0,0)):=hpt;have kg:((w.alloc (.cells #[.int .i64 3, .int .u32 isp, .int .u32 ism, .bool neg, .int .i64 lo, .int .i64 hi, .slice A ch.len c] 52)).alloc (.cells (Cq (List.replicate (nw+1) 0)) 81)).heap[w.heap.size+1]? =some (.cells (Cq (List.replicate (nw+1) 0)) 81 (0,0)):=hpt;have kB:Below w.heap.size w ((w.alloc (.cells #[.int .i64 3, .int .u32 isp, .int .u32 ism, .bool neg, .int .i64 lo, .int .i64 hi, .slice A ch.len c] 52)).alloc (.cells (Cq (List.replicate (nw+1) 0)) 81)):=bel;generalize((w.alloc (.cells #[.int .i64 3, .int .u32 isp, .int .u32 ism, .bool neg, .int .i64 lo, .int .i64 hi, .slice A ch.len c] 52)).alloc (.cells (Cq (List.replicate (nw+1) 0)) 81))=V0 at*
 go_loopw [7] (fun i wr=>∃a:Nat,i= .int .i64 a/\a<=nw+1/\Hid (wr.heap[w.heap.size]? =some (.cells #[.int .i64 3, .int .u32 isp, .int .u32 ism, .bool neg, .int .i64 lo, .int .i64 hi, .slice A ch.len c] 52 (0,0)))/\Hid (wr.heap[w.heap.size+1]? =some (.cells (Cq (J2 f (nw+1) a)) 81 (0,0)))/\Below w.heap.size w wr) (fun i _=>nw+1-(intOf i).toNat)
 case atStart=>exact⟨0,rfl,Nat.zero_le _,kp,by rw[Hn];exact kg,kB⟩
 case round=>
  obtain⟨a,rfl,ha,hp,hg,hB⟩:=hrel;have g0:=Ad (j:=0) (v:= .int .i64 3) hp.out rfl;by_cases hlt:a<nw+1
  ·have h1:(a:Int)<(nw:Int)+1:=by omega
   have h2:(a:Int)<=(nw:Int):=by omega
   have g6:Hid (f a=0):=by show _=_;rw[f1.out]
   go_wp2;have d7:=hg.out;rw[←Ho (f:=f) (m:=nw+1) (j:=a) g6.out]at d7
   go_roundw
   case rel=>exact⟨a+1,by go_num,by omega,hp,d7,hB⟩
   case measure=>simp[intOf]<;>omega
  obtain rfl:a=nw+1:=by omega
  have h2:¬((nw:Int)+1<=(nw:Int)):=by omega
  go_wp2_with fail;refine(Aib nw wr hn).mono ?_;rintro e w1 ⟨A1,n1,c1,rfl,b3,b7⟩;obtain rfl:n1=nw+1:=by rw[←b3.len,Xg]
  have g9:=hI ((b7.block w.heap.size (lt_of_block hp.out)).trans hp.out);have d8:=hB.trans (b7.mono hB.size);have g8:=hI b3;clear b3;clear b7 g0 hp hg hB ha hlt;go_wp2
  go_loopw [6,8] (fun v i wr=>∃(j:Nat) (A6:Option Addr) (c6:Nat) (T:List Nat),v= .slice A6 (nw+1) c6/\i= .int .i64 j/\j<=ch.len/\Hid (wr.heap[w.heap.size]? =some (.cells #[.int .i64 3, .int .u32 isp, .int .u32 ism, .bool neg, .int .i64 lo, .int .i64 hi, .slice A ch.len c] 52 (0,0)))/\Hid (Fd wr A6 (nw+1) c6 T)/\Hid (Tab T nw (((D2 ws ch).take j).foldl Cn (idR nw)))/\Below w.heap.size w wr) (fun _ i _=>ch.len-(intOf i).toNat)
  case atStart=>exact⟨0,A1,c1,idT nw,rfl,rfl,Nat.zero_le _,g9.out,g8.out,Sk hn,d8⟩
  case round=>
   obtain⟨j,A6,c6,T,rfl,rfl,hj,b0,b8,a1,hC⟩:=hrel;have f8:=hC.size;have g5:=Ad (j:=6) (v:= .slice A ch.len c) b0.out rfl;by_cases hjl:j<ch.len
   ·obtain⟨⟨k',ch'⟩,a0⟩:=ch.get_lt j hjl;obtain⟨b,off,A',n',c',hA,i2,⟨h0,h1,h2,h3,h4,h5,h6⟩,⟨rfl,f6⟩,a6,_⟩:=(HS.out.below hC rr).2.at_ ch _ 0 j k' ch' a0;obtain⟨d0,d1⟩:=FoU.get ch j k' ch' HU.out a0;obtain⟨a3,a4⟩:=okF.at_ ch j k' ch' g1.out a0;have d6:=Po ws ch j k' ch' a0;have a2:(E5 k' ws (D2 ws ch')).length=33:=Qz a3 (E6 ws ch') fun r hr=>(Jc (by rw[HW.out.len];exact hn) ch' a4 r hr).2
    have g3:=hI a2;clear a2;have HG:=hI a0;clear a0;have f4:=hI a6;clear a6;have f9:=hI d0;clear d0;have i1:=hI d1;clear d1;have a9:=hI a3;clear a3;have b5:=hI a4;clear a4;have g2:=hI d6;clear d6;subst hA;simp only[Nat.zero_add]at h0 h1 h2 h3 h4 h5 h6;go_wp2_with fail;refine(HI.out j k' ch' HG.out wr A' c' Aw nw cw ws ⟨⟨rfl,f6⟩,f4.out⟩ (HW.out.below hC rr) hn a9.out b5.out f9.out i1.out).mono ?_;rintro e w7 ⟨A7,c7,T7,rfl,d4,a5,a8⟩;have g7:=hI d4;clear d4;have a7:=hI a5;clear a5;have d2:=hI ((a8.block w.heap.size (lt_of_block b0.out)).trans b0.out);have i0:=hI (b8.out.below a8 rr);have d3:=hC.trans (a8.mono f8);clear a8 h0 h1 h2 h3 h4 h5 h6 g5;go_wp2_with fail;refine(Pr A6 A7 (nw+1) c6 (nw+1) c7 T T7 w7 i0.out g7.out (by omega) (by omega) a1.out.2.1 a7.out.2.1).mono ?_;rintro e w8 ⟨A8,n8,c8,rfl,b4,b1⟩;obtain rfl:n8=nw+1:=by rw[←b4.len,C9,a1.out.1]
    have f5:=hI b4;clear b4;have g4:=hI ((b1.block w.heap.size (lt_of_block d2.out)).trans d2.out);have f0:=d3.trans (b1.mono d3.size)
    have b6:Hid (Tab (Cn T T7) nw (((D2 ws ch).take (j+1)).foldl Cn (idR nw))):=by
     show Tab _ _ _;rw[Tj _ _ _ _ _ g2.out];exact a1.out.follow a7.out
    clear b1;go_wp2
    go_roundw
    case rel=>exact⟨j+1,A8,c8,Cn T T7,rfl,by go_num,by omega,g4,f5,b6,f0⟩
    case measure=>simp[intOf]<;>omega
   ·obtain rfl:j=ch.len:=by omega
    have b2:=a1.out;rw[List.take_of_length_le (by rw[E6];exact rr)]at b2;have f3:=hI b2;clear b2;go_wp2;go_ret;exact⟨A6,c6,T,rfl,b8.out,f3.out,hC⟩
theorem Aml (isp ism:Int)(neg:Bool)(lo hi:Int)(ch:Fo)(ih:∀j k' ch',ch.get j=some (k',ch')->Pp k' ch'):Pp ⟨4,isp,ism,neg,lo,hi⟩ ch:=by
 intro w A c Aw nw cw ws hs hw hn f2 b4 hk hu;have f0:ch.len<=9223372036854775807:=by have h1:=hs.1.2.1;have h2:=hs.1.2.2.1;unfold maxLen at h2;omega
 have hrel:E5 ⟨4,isp,ism,neg,lo,hi⟩ ws (D2 ws ch)=(D2 ws ch).foldl orR B1:=rfl;rw[hrel]
 have f9:Hid (∀q,(((D2 ws ch).take q).foldl orR B1).length=33):=by
  intro q;exact Me _ (fun r hr=>(Jc (by rw[hw.len];exact hn) ch b4 r (List.mem_of_mem_take hr)).2) _ rfl
 have HI:=hI ih;clear ih;have HS:=hI hs;clear hs;have HW:=hI hw;clear hw;have g2:=hI b4;clear b4;have HU:=hI hu;clear hu;clear hrel f2 hk;obtain⟨f,hf⟩:∃f:Nat->Nat,f=fun _=>0:=⟨_,rfl⟩
 have b6:=hI hf;clear hf
 have f8:∀w:World,(Instr.makeSlice 256 (.int .i64 ((nw:Int)+1)) (.int .i64 ((nw:Int)+1))).run Tryz.prog w= .ok (.slice (some ⟨w.heap.size,0,none⟩) (nw+1) (nw+1)) (w.alloc (.cells (madeCells #[.int .u64 0] (nw+1)) 81)):=
  fun w=>run_make_row' (P:=Tryz.prog) 256 81 (.int .u64 0) 8 Tryz.underlying256 Gb rfl .i64 .i64 (nw+1) (by omega) (by omega) w
 go_enter Tryz.func223,Tryz.ntmps223;go_wp2;clear f8;rw[Gc];have kp:((w.alloc (.cells #[.int .i64 4, .int .u32 isp, .int .u32 ism, .bool neg, .int .i64 lo, .int .i64 hi, .slice A ch.len c] 52)).alloc (.cells (Cq (List.replicate (nw+1) 0)) 81)).heap[w.heap.size]? =some (.cells #[.int .i64 4, .int .u32 isp, .int .u32 ism, .bool neg, .int .i64 lo, .int .i64 hi, .slice A ch.len c] 52 (0,0)):=hpt;have kg:((w.alloc (.cells #[.int .i64 4, .int .u32 isp, .int .u32 ism, .bool neg, .int .i64 lo, .int .i64 hi, .slice A ch.len c] 52)).alloc (.cells (Cq (List.replicate (nw+1) 0)) 81)).heap[w.heap.size+1]? =some (.cells (Cq (List.replicate (nw+1) 0)) 81 (0,0)):=hpt;have kB:Below w.heap.size w ((w.alloc (.cells #[.int .i64 4, .int .u32 isp, .int .u32 ism, .bool neg, .int .i64 lo, .int .i64 hi, .slice A ch.len c] 52)).alloc (.cells (Cq (List.replicate (nw+1) 0)) 81)):=bel;generalize((w.alloc (.cells #[.int .i64 4, .int .u32 isp, .int .u32 ism, .bool neg, .int .i64 lo, .int .i64 hi, .slice A ch.len c] 52)).alloc (.cells (Cq (List.replicate (nw+1) 0)) 81))=V0 at*
 go_loopw [7] (fun i wr=>∃a:Nat,i= .int .i64 a/\a<=nw+1/\Hid (wr.heap[w.heap.size]? =some (.cells #[.int .i64 4, .int .u32 isp, .int .u32 ism, .bool neg, .int .i64 lo, .int .i64 hi, .slice A ch.len c] 52 (0,0)))/\Hid (wr.heap[w.heap.size+1]? =some (.cells (Cq (J2 f (nw+1) a)) 81 (0,0)))/\Below w.heap.size w wr) (fun i _=>nw+1-(intOf i).toNat)
 case atStart=>exact⟨0,rfl,Nat.zero_le _,kp,by rw[Hn];exact kg,kB⟩
 case round=>
  obtain⟨a,rfl,ha,hp,hg,hB⟩:=hrel;have i1:=Ad (j:=0) (v:= .int .i64 4) hp.out rfl;by_cases hlt:a<nw+1
  ·have h1:(a:Int)<(nw:Int)+1:=by omega
   have h2:(a:Int)<=(nw:Int):=by omega
   have g6:Hid (f a=0):=by show _=_;rw[b6.out]
   go_wp2;have d9:=hg.out;rw[←Ho (f:=f) (m:=nw+1) (j:=a) g6.out]at d9
   go_roundw
   case rel=>exact⟨a+1,by go_num,by omega,hp,d9,hB⟩
   case measure=>simp[intOf]<;>omega
  obtain rfl:a=nw+1:=by omega
  have h2:¬((nw:Int)+1<=(nw:Int)):=by omega
  have a1:Tab ((List.range (nw+1)).map f) nw B1:=by
   refine Ti (fun k _=>by rw[b6.out];exact D3) (fun a b _=> ?_) (fun a b h=>absurd h (P1 a b));rw[b6.out];exact⟨fun h=>by simp at h,fun h=>absurd h (P1 a b)⟩
  have b8:=hg.out;rw[Kx]at b8;have f6:=hI (Ji b8 (n:=nw+1) (by simp) (by unfold maxLen;omega));have a6:=hI a1;clear a1 b8 hg ha hlt;go_wp2
  go_loopw [6,9] (fun v i wr=>∃(j:Nat) (A6:Option Addr) (c6:Nat) (T:List Nat),v= .slice A6 (nw+1) c6/\i= .int .i64 j/\j<=ch.len/\Hid (wr.heap[w.heap.size]? =some (.cells #[.int .i64 4, .int .u32 isp, .int .u32 ism, .bool neg, .int .i64 lo, .int .i64 hi, .slice A ch.len c] 52 (0,0)))/\Hid (Fd wr A6 (nw+1) c6 T)/\Hid (Tab T nw (((D2 ws ch).take j).foldl orR B1))/\Below w.heap.size w wr) (fun _ i _=>ch.len-(intOf i).toNat)
  case atStart=>exact⟨0,some ⟨w.heap.size+1,0,none⟩,nw+1,_,rfl,rfl,Nat.zero_le _,hp,f6.out,a6.out,hB⟩
  case round=>
   obtain⟨j,A6,c6,T,rfl,rfl,hj,b3,d2,a5,hC⟩:=hrel;have g0:=hC.size;have g5:=Ad (j:=6) (v:= .slice A ch.len c) b3.out rfl;by_cases hjl:j<ch.len
   ·obtain⟨⟨k',ch'⟩,a0⟩:=ch.get_lt j hjl;obtain⟨b,off,A',n',c',hA,i0,⟨h0,h1,h2,h3,h4,h5,h6⟩,⟨rfl,f7⟩,a8,_⟩:=(HS.out.below hC rr).2.at_ ch _ 0 j k' ch' a0;obtain⟨d3,d4⟩:=FoU.get ch j k' ch' HU.out a0;obtain⟨a3,a4⟩:=okF.at_ ch j k' ch' g2.out a0;have d8:=Po ws ch j k' ch' a0;have a2:(E5 k' ws (D2 ws ch')).length=33:=Qz a3 (E6 ws ch') fun r hr=>(Jc (by rw[HW.out.len];exact hn) ch' a4 r hr).2
    have b9:=hI a2;clear a2;have HG:=hI a0;clear a0;have f4:=hI a8;clear a8;have g1:=hI d3;clear d3;have g9:=hI d4;clear d4;have b2:=hI a3;clear a3;have d1:=hI a4;clear a4;have g3:=hI d8;clear d8;subst hA;simp only[Nat.zero_add]at h0 h1 h2 h3 h4 h5 h6;go_wp2_with fail;refine(HI.out j k' ch' HG.out wr A' c' Aw nw cw ws ⟨⟨rfl,f7⟩,f4.out⟩ (HW.out.below hC rr) hn b2.out d1.out g1.out g9.out).mono ?_;rintro e w7 ⟨A7,c7,T7,rfl,d7,a7,b1⟩;have g7:=hI d7;clear d7;have a9:=hI a7;clear a7;have d5:=hI ((b1.block w.heap.size (lt_of_block b3.out)).trans b3.out);have g8:=hI (d2.out.below b1 rr);have d6:=hC.trans (b1.mono g0);clear b1 h0 h1 h2 h3 h4 h5 h6 g5;go_wp2_with fail;refine(Aic A6 A7 (nw+1) c6 c7 T T7 w7 g8.out g7.out (by omega) a5.out.2.1 a9.out.2.1).mono ?_;rintro e w8 ⟨A8,n8,c8,rfl,d0,b5⟩
    have b0:Hid (Tab (orR T T7) nw (((D2 ws ch).take (j+1)).foldl orR B1)):=by
     show Tab _ _ _;rw[Tj _ _ _ _ _ g3.out];exact a5.out.join a9.out (by rw[f9.out,b9.out])
    obtain rfl:n8=nw+1:=by rw[←d0.len,b0.out.1]
    have f5:=hI d0;clear d0;have g4:=hI ((b5.block w.heap.size (lt_of_block d5.out)).trans d5.out);have f1:=d6.trans (b5.mono d6.size);clear b5;go_wp2
    go_roundw
    case rel=>exact⟨j+1,A8,c8,orR T T7,rfl,by go_num,by omega,g4,f5,b0,f1⟩
    case measure=>simp[intOf]<;>omega
   ·obtain rfl:j=ch.len:=by omega
    have b7:=a5.out;rw[List.take_of_length_le (by rw[E6];exact rr)]at b7;have f3:=hI b7;clear b7;go_wp2;go_ret;exact⟨A6,c6,T,rfl,d2.out,f3.out,hC⟩
theorem Amm {x y:List Nat}(hl:x.length=y.length)(h:∀a b,Bt x a b↔Bt y a b):x=y:=by
 apply List.ext_getElem hl;intro a h1 h2;apply Nat.eq_of_testBit_eq;intro b;have h3:=h a b;unfold Bt at h3;rw[D5 (List.getElem?_eq_getElem h1),D5 (List.getElem?_eq_getElem h2)]at h3;rw[Bool.eq_iff_iff];exact h3
def M3 (R:Nat->Nat->Prop)(n lo k a b:Nat):Prop:=a<=n∧∃j,lo<=j/\j<k/\It R j a b
theorem Mz {R:Nat->Nat->Prop}{n lo k a b:Nat}(hk:lo<=k):M3 R n lo (k+1) a b↔M3 R n lo k a b\/(a<=n/\It R k a b):=by
 unfold M3;constructor
 ·rintro⟨ha,j,h1,h2,h3⟩;by_cases h:j<k
  ·exact .inl ⟨ha,j,h1,h,h3⟩
  ·obtain rfl:j=k:=by omega
   exact .inr ⟨ha,h3⟩
 ·rintro(⟨ha,j,h1,h2,h3⟩|⟨ha,h⟩)
  ·exact⟨ha,j,h1,by omega,h3⟩
  ·exact⟨ha,k,hk,by omega,h⟩
theorem Aef {R:Nat->Nat->Prop}{n lo k a b:Nat}(hk:k<lo):M3 R n lo (k+1) a b↔M3 R n lo k a b:=by
 unfold M3;exact⟨fun⟨_,j,_,_,_⟩=>by omega,fun⟨_,j,_,_,_⟩=>by omega⟩
theorem Ah8 {R:Nat->Nat->Prop}{n lo k:Nat}{hi:Int}(hk:lo<=k)(hh:(k:Int)=hi)(a b:Nat):M3 R n lo (k+1) a b↔a<=n∧∃j,j<=F3 lo hi n/\It R (lo+j) a b:=by
 have e:F3 lo hi n=k-lo:=by unfold F3;rw[if_neg (by omega)];omega
 rw[e];unfold M3;constructor
 ·rintro⟨ha,j,h1,h2,h3⟩;exact⟨ha,j-lo,by omega,by rw[show lo+(j-lo)=j by omega];exact h3⟩
 ·rintro⟨ha,j,h1,h2⟩;exact⟨ha,lo+j,by omega,by omega,h2⟩
theorem Abu {R:Nat->Nat->Prop}{n lo k:Nat}{hi:Int}(hR:Inn R n)(hk:lo<k)(hh:hi= -1\/(k:Int)<hi)(hst:∀a b,a<=n->It R k a b->M3 R n lo k a b)(a b:Nat):
  M3 R n lo (k+1) a b↔a<=n∧∃j,j<=F3 lo hi n/\It R (lo+j) a b:=by
 rw[Mz (by omega)];constructor
 ·intro h
  obtain⟨ha,j,h1,h2,h3⟩:M3 R n lo k a b:=by
   rcases h with h|⟨ha,h⟩
   ·exact h
   ·exact hst a b ha h
  refine⟨ha, ?_⟩;rcases hh with rfl|hh
  ·have e:F3 lo (-1) n=n:=rfl;rw[e];rw[show j=lo+(j-lo)by omega,G8]at h3;obtain⟨m,h4,h5⟩:=h3;obtain⟨i,h6,_,h7⟩:=Ai0 hR _ m b h5 (Qy hR _ _ _ h4 ha).2;exact⟨i,h6,(G8 lo i a b).2 ⟨m,h4,h7⟩⟩
  ·have e:F3 lo hi n=(hi-lo).toNat:=by unfold F3;rw[if_neg (by omega)]
   rw[e];exact⟨j-lo,by omega,by rw[show lo+(j-lo)=j by omega];exact h3⟩
 ·rintro⟨ha,j,_,h2⟩;by_cases h:lo+j<k
  ·exact .inl ⟨ha,lo+j,by omega,h,h2⟩
  ·rw[show lo+j=k+(lo+j-k)by omega]at h2;obtain⟨i,h3,h4,h5⟩:=Aac hk (fun b hb=>(hst a b ha hb).2) _ b h2;exact .inl ⟨ha,i,h3,h4,h5⟩
theorem Aeg {R:Nat->Nat->Prop}{n lo k:Nat}(hR:Inn R n)(hk:lo+n<k)(a b:Nat)(ha:a<=n)(h:It R k a b):M3 R n lo k a b:=by
 rw[show k=lo+(k-lo)by omega,G8]at h;obtain⟨m,h1,h2⟩:=h;obtain⟨i,h3,_,h4⟩:=Ai0 hR _ m b h2 (Qy hR _ _ _ h1 ha).2;exact⟨ha,lo+i,by omega,by omega,(G8 lo i a b).2 ⟨m,h1,h4⟩⟩
theorem Amn (isp ism:Int)(neg:Bool)(lo hi:Int)(ch:Fo)(ih:∀j k' ch',ch.get j=some (k',ch')->Pp k' ch'):Pp ⟨5,isp,ism,neg,lo,hi⟩ ch:=by
 intro w A c Aw nw cw ws hs hw hn k0 i4 hk hu;obtain⟨f0,g2,j1,k3⟩:=Hz rfl k0;obtain⟨L,hL⟩:∃L:Nat,lo=L:=⟨lo.toNat,by have:(0:Int)<=lo:=g2;omega⟩;dsimp only at g2 j1 k3;have m7:L<=32:=by omega
 obtain⟨⟨k',ch'⟩,a6⟩:=ch.get_lt 0 (by omega);obtain⟨k1,k6⟩:=FoU.get ch 0 k' ch' hu a6;obtain⟨f8,g1⟩:=okF.at_ ch 0 k' ch' i4 a6;obtain⟨r,hr⟩:∃r,r=E5 k' ws (D2 ws ch'):=⟨_,rfl⟩;have d9:(D2 ws ch)[0]? =some r:=by rw[hr];exact Po ws ch 0 k' ch' a6
 have g5:=Jc (by rw[hw.len];exact hn) ch i4 r (List.mem_of_getElem? d9)
 have hrel:E5 ⟨5,isp,ism,neg,lo,hi⟩ ws (D2 ws ch)=Nr r L hi nw:=by
  have h1:(D2 ws ch).headD []=r:=by
   cases hz:D2 ws ch with
   |nil=>rw[hz]at d9;cases d9
   |cons x y=>rw[hz]at d9;simpa using d9
  rw[←hw.len];show Nr ((D2 ws ch).headD []) lo.toNat hi ws.length=_;rw[h1,hL];rfl
 rw[hrel];have f2:Hid (∀a b,Bt (Nr r L hi nw) a b↔a<=nw∧∃j,j<=F3 L hi nw/\It (Bt r) (L+j) a b):=fun a b=>Adb hn g5.2 (by rw[←hw.len];exact g5.1) (by omega) (V8 hn (by omega)) a b
 have g0:Hid (Inn (Bt r) nw):=by show Inn _ _;rw[←hw.len];exact g5.1
 have HI:=hI (ih 0 k' ch' a6);clear ih;have HS:=hI hs;clear hs;have HW:=hI hw;clear hw;have HR:=hI hr;clear hr;have o0:=hI k1;clear k1;have o9:=hI k6;clear k6;have i1:=hI f8;clear f8;have j4:=hI g1;clear g1;have HG:=hI a6;clear a6;clear hrel k0 hk d9 g5 i4 hu;have b8:=hI hL;clear hL;have m2:0<ch.len:=by omega
 have m0:=hI f0;clear f0;obtain⟨f,hf⟩:∃f:Nat->Nat,f=fun _=>0:=⟨_,rfl⟩
 have i5:=hI hf;clear hf
 have m9:∀w:World,(Instr.makeSlice 256 (.int .i64 ((nw:Int)+1)) (.int .i64 ((nw:Int)+1))).run Tryz.prog w= .ok (.slice (some ⟨w.heap.size,0,none⟩) (nw+1) (nw+1)) (w.alloc (.cells (madeCells #[.int .u64 0] (nw+1)) 81)):=
  fun w=>run_make_row' (P:=Tryz.prog) 256 81 (.int .u64 0) 8 Tryz.underlying256 Gb rfl .i64 .i64 (nw+1) (by omega) (by omega) w
 go_enter Tryz.func223,Tryz.ntmps223;go_wp2;clear m9;rw[Gc];have kp:((w.alloc (.cells #[.int .i64 5, .int .u32 isp, .int .u32 ism, .bool neg, .int .i64 lo, .int .i64 hi, .slice A ch.len c] 52)).alloc (.cells (Cq (List.replicate (nw+1) 0)) 81)).heap[w.heap.size]? =some (.cells #[.int .i64 5, .int .u32 isp, .int .u32 ism, .bool neg, .int .i64 lo, .int .i64 hi, .slice A ch.len c] 52 (0,0)):=hpt;have kg:((w.alloc (.cells #[.int .i64 5, .int .u32 isp, .int .u32 ism, .bool neg, .int .i64 lo, .int .i64 hi, .slice A ch.len c] 52)).alloc (.cells (Cq (List.replicate (nw+1) 0)) 81)).heap[w.heap.size+1]? =some (.cells (Cq (List.replicate (nw+1) 0)) 81 (0,0)):=hpt;have kB:Below w.heap.size w ((w.alloc (.cells #[.int .i64 5, .int .u32 isp, .int .u32 ism, .bool neg, .int .i64 lo, .int .i64 hi, .slice A ch.len c] 52)).alloc (.cells (Cq (List.replicate (nw+1) 0)) 81)):=bel;generalize((w.alloc (.cells #[.int .i64 5, .int .u32 isp, .int .u32 ism, .bool neg, .int .i64 lo, .int .i64 hi, .slice A ch.len c] 52)).alloc (.cells (Cq (List.replicate (nw+1) 0)) 81))=V0 at*
 go_loopw [7] (fun i wr=>∃a:Nat,i= .int .i64 a/\a<=nw+1/\Hid (wr.heap[w.heap.size]? =some (.cells #[.int .i64 5, .int .u32 isp, .int .u32 ism, .bool neg, .int .i64 lo, .int .i64 hi, .slice A ch.len c] 52 (0,0)))/\Hid (wr.heap[w.heap.size+1]? =some (.cells (Cq (J2 f (nw+1) a)) 81 (0,0)))/\Below w.heap.size w wr) (fun i _=>nw+1-(intOf i).toNat)
 case atStart=>exact⟨0,rfl,Nat.zero_le _,kp,by rw[Hn];exact kg,kB⟩
 case round=>
  obtain⟨a,rfl,ha,hp,hg,hB⟩:=hrel;have o2:=Ad (j:=0) (v:= .int .i64 5) hp.out rfl;by_cases hlt:a<nw+1
  ·have h1:(a:Int)<(nw:Int)+1:=by omega
   have h2:(a:Int)<=(nw:Int):=by omega
   have o5:Hid (f a=0):=by show _=_;rw[i5.out]
   go_wp2;have m3:=hg.out;rw[←Ho (f:=f) (m:=nw+1) (j:=a) o5.out]at m3
   go_roundw
   case rel=>exact⟨a+1,by go_num,by omega,hp,m3,hB⟩
   case measure=>simp[intOf]<;>omega
  obtain rfl:a=nw+1:=by omega
  have h2:¬((nw:Int)+1<=(nw:Int)):=by omega
  have b4:(∀a b,Bt ((List.range (nw+1)).map f) a b↔M3 (Bt r) nw L 0 a b)/\Bl ((List.range (nw+1)).map f):=by
   constructor
   ·intro a b;rw[P0,i5.out];exact⟨fun h=>by simp at h,fun⟨_,j,_,h,_⟩=>by omega⟩
   ·intro s hs;obtain⟨q,_,rfl⟩:=List.mem_map.1 hs;rw[i5.out];exact D3
  have i6:=hg.out;rw[Kx]at i6;have k2:=hI (Ji i6 (n:=nw+1) (by simp) (by unfold maxLen;omega));have f1:=hI b4;have o4:=Ad (j:=6) (v:= .slice A ch.len c) hp.out rfl;have k4:=hB.size;obtain⟨b,off,A',n',c',hA,o1,⟨h0,h1,k8,h3,h4,h5,h6⟩,⟨rfl,m8⟩,f4,_⟩:=(HS.out.below hB rr).2.at_ ch _ 0 0 k' ch' HG.out;have m5:=hI f4;clear f4;subst hA;have j9:(0:Int)<(ch.len:Int):=by omega
  simp only[Nat.zero_add,Nat.zero_mul,Nat.add_zero]at h0 h1 k8 h3 h4 h5 h6;clear b4 i6 hg ha hlt;go_wp2_with fail;refine(HI.out wr A' c' Aw nw cw ws ⟨⟨rfl,m8⟩,m5.out⟩ (HW.out.below hB rr) hn i1.out j4.out o0.out o9.out).mono ?_;rw[←HR.out];rintro e w7 ⟨A7,c7,T7,rfl,d8,f3,i0⟩;have k9:=hI d8;clear d8;have a2:=hI f3;clear f3;have i9:=hI ((i0.block w.heap.size (lt_of_block hp.out)).trans hp.out);have g3:=hI (k2.out.below i0 rr);have m1:=hB.trans (i0.mono k4);clear i0 h0 h1 k8 h3 h4 h5 h6 o4 o2 hp hB k4 k2 o1 h2;go_wp2_with fail;refine(Aib nw w7 hn).mono ?_;rintro e w8 ⟨A8,n8,c8,rfl,b5,a7⟩;obtain rfl:n8=nw+1:=by rw[←b5.len,Xg]
  have b7:=hI b5;clear b5;have o3:=hI ((a7.block w.heap.size (lt_of_block i9.out)).trans i9.out);have j2:=hI (g3.out.below a7 rr);have j7:=hI (k9.out.below a7 rr);have b6:=m1.trans (a7.mono m1.size)
  have o8:Hid (∀a b,Bt (idT nw) a b↔a<=nw/\It (Bt r) 0 a b):=by
   intro a b;rw[(Sk hn).2.2,Nx hn];exact⟨fun h=>⟨h.2,h.1⟩,fun h=>⟨h.2,h.1⟩⟩
  clear a7 g3 k9 i9;go_wp2
  go_loopw [6,11,12] (fun v6 v11 v12 wr=>∃(k:Nat) (A6:Option Addr) (c6:Nat) (T:List Nat) (A11:Option Addr) (c11:Nat) (M:List Nat),v6= .slice A6 (nw+1) c6/\v11= .slice A11 (nw+1) c11/\v12= .int .i64 k∧
    k<=66/\Hid ((hi= -1/\k<=L+nw+1)\/(k:Int)<=hi)/\Hid (wr.heap[w.heap.size]? =some (.cells #[.int .i64 5, .int .u32 isp, .int .u32 ism, .bool neg, .int .i64 lo, .int .i64 hi, .slice (some ⟨b,off,none⟩) ch.len c] 52 (0,0)))∧
    Hid (Fd wr A6 (nw+1) c6 T)/\Hid (Fd wr A11 (nw+1) c11 M)/\Hid (Fd wr A7 (nw+1) c7 T7)∧
    Hid ((∀a b,Bt T a b↔M3 (Bt r) nw L k a b)/\Bl T)/\Hid ((∀a b,Bt M a b↔a<=nw/\It (Bt r) k a b)/\Bl M)/\Below w.heap.size w wr) (fun _ _ v12 _=>70-(intOf v12).toNat)
  case atStart=>
   refine⟨0,_,_,_,_,_,_,rfl,rfl,rfl,by omega, ?_,o3.out,j2.out,b7.out,j7.out,f1.out,⟨o8.out,(Sk hn).2.1⟩,b6⟩;rcases k3 with h|h
   ·exact .inl ⟨h,by omega⟩
   ·exact .inr (by omega)
  case round=>
   obtain⟨k,A6,c6,T,A11,c11,M,rfl,rfl,rfl,hk,g7,d5,g6,a4,d8,a5,a0,hC⟩:=hrel;have k7:=hC.size;have k5:=Ad (j:=4) (v:= .int .i64 lo) d5.out rfl;have m4:=Ad (j:=5) (v:= .int .i64 hi) d5.out rfl
   have b1:Hid (∀a b,Bt (Cn M T7) a b↔a<=nw/\It (Bt r) (k+1) a b):=by
    intro a b;rw[Jb];constructor
    ·rintro⟨m,h1,h2⟩;obtain⟨h3,h4⟩:=(a0.out.1 a m).1 h1;exact⟨h3,(G8 k 1 a b).2 ⟨m,h4,Xp.2 ((a2.out.2.2 m b).1 h2)⟩⟩
    ·rintro⟨h3,h4⟩;obtain⟨m,h5,h6⟩:=(G8 k 1 a b).1 h4;exact⟨m,(a0.out.1 a m).2 ⟨h3,h5⟩,(a2.out.2.2 m b).2 (Xp.1 h6)⟩
   by_cases hkl:lo<=(k:Int)
   case neg=>
    have o7:decide (lo<=(k:Int))=false:=decide_eq_false hkl
    have HN:Hid (∀a b,Bt T a b↔M3 (Bt r) nw L (k+1) a b):=by
     intro a b;rw[a5.out.1,Aef (by have:=b8.out;omega)]
    have d7:Hid ((hi= -1/\k+1<=L+nw+1)\/((k+1:Nat):Int)<=hi):=by
     have:=b8.out
     rcases g7.out with h|h
     ·exact .inl ⟨h.1,by omega⟩
     ·exact .inr (by omega)
    have i2:k+1<=66:=by have:=b8.out;omega
    clear hkl;go_wp2_with fail;refine(Pr A11 A7 (nw+1) c11 (nw+1) c7 M T7 wr a4.out d8.out (by omega) (by omega) a0.out.2 a2.out.2.1).mono ?_;rintro e w9 ⟨A9,n9,c9,rfl,j8,a8⟩;obtain rfl:n9=nw+1:=by rw[←j8.len,C9,a4.out.len]
    have o6:=hI j8;clear j8;have g4:=hI ((a8.block w.heap.size (lt_of_block d5.out)).trans d5.out);have j6:=hI (g6.out.below a8 rr);have b2:=hI (d8.out.below a8 rr);have f6:=hC.trans (a8.mono k7);clear a8 k5 m4;go_wp2
    go_roundw
    case rel=>exact⟨k+1,A6,c6,T,A9,c9,Cn M T7,rfl,rfl,by go_num,i2,d7,g4,j6,o6,b2,⟨HN.out,a5.out.2⟩,⟨b1.out,Dt _ _ a2.out.2.1⟩,f6⟩
    case measure=>simp[intOf]<;>omega
   have g8:L<=k:=by have:=b8.out;omega
   have o7:decide (lo<=(k:Int))=true:=decide_eq_true hkl;go_wp2_with fail;refine(Aic A6 A11 (nw+1) c6 c11 T M wr g6.out a4.out (by omega) a5.out.2 a0.out.2).mono ?_;rintro e w8 ⟨A8,n8,c8,rfl,b5,a7⟩;have g9:=g6.out.len;have j5:=a4.out.len;obtain rfl:n8=nw+1:=by rw[←b5.len];unfold orR;rw[List.length_zipWith,g9,j5];omega
   have HJ:Hid ((∀a b,Bt (orR T M) a b↔M3 (Bt r) nw L (k+1) a b)/\Bl (orR T M)):=by
    refine⟨fun a b=> ?_,Gn _ _ a5.out.2 a0.out.2⟩
    rw[Tt (by rw[g9,j5]),Mz g8,a5.out.1,a0.out.1]
   have i8:Hid ((orR T M).length=nw+1):=b5.len;have m6:=hI g9;clear g9 j5;have b7:=hI b5;clear b5;have d6:=hI ((a7.block w.heap.size (lt_of_block d5.out)).trans d5.out);have j0:=hI (g6.out.below a7 rr);have d1:=hI (d8.out.below a7 rr);have b3:=hI (a4.out.below a7 rr);have b6:=hC.trans (a7.mono k7);have f7:=Ad (j:=4) (v:= .int .i64 lo) d6.out rfl;have f5:=Ad (j:=5) (v:= .int .i64 hi) d6.out rfl;clear a7 k5 m4;by_cases hkm:(k:Int)=hi
   ·have HF:Hid (Tab (orR T M) nw (Nr r L hi nw)):=by
     refine⟨i8.out,HJ.out.2,fun a b=> ?_⟩
     rw[HJ.out.1,f2.out];exact Ah8 g8 hkm a b
    have i3:((k:Int)==hi)=true:=by simpa using hkm
    clear hkm;go_wp2;go_ret;exact⟨A8,c8,orR T M,rfl,b7.out,HF.out,b6⟩
   have i3:((k:Int)==hi)=false:=by simpa using hkm
   by_cases hkl2:lo<(k:Int)
   ·have j3:decide (lo<(k:Int))=true:=decide_eq_true hkl2;have i7:L<k:=by have:=b8.out;omega
    go_wp2_with fail;refine(Aid A6 A8 (nw+1) c6 c8 T (orR T M) w8 j0.out b7.out).mono ?_;rintro e w9 ⟨rfl,a8⟩;have g4:=hI ((a8.block w.heap.size (lt_of_block d6.out)).trans d6.out);have d2:=hI (b7.out.below a8 rr);have b2:=hI (d1.out.below a8 rr);have f9:=hI (b3.out.below a8 rr);have f6:=b6.trans (a8.mono b6.size);obtain⟨d,hd⟩:∃d,d=decide (T=orR T M):=⟨_,rfl⟩;rw[←hd];clear a8 f7 f5;cases d
    case true=>
     have he:T=orR T M:=of_decide_eq_true hd.symm
     have HF:Hid (Tab (orR T M) nw (Nr r L hi nw)):=by
      refine⟨i8.out,HJ.out.2,fun a b=> ?_⟩
      rw[HJ.out.1,f2.out];refine Abu g0.out i7 ?_ (fun a b ha hb=> ?_) a b
      ·rcases g7.out with h|h
       ·exact .inl h.1
       ·exact .inr (by omega)
      ·have h1:Bt (orR T M) a b:=(HJ.out.1 a b).2 ((Mz g8).2 (.inr ⟨ha,hb⟩));rw[←he]at h1;exact(a5.out.1 a b).1 h1
     clear he hd hkm;go_wp2;go_ret;exact⟨A8,c8,orR T M,rfl,d2.out,HF.out,f6⟩
    case false=>
     have he:¬T=orR T M:=of_decide_eq_false hd.symm
     have d7:Hid ((hi= -1/\k+1<=L+nw+1)\/((k+1:Nat):Int)<=hi):=by
      rcases g7.out with h|h
      ·refine .inl ⟨h.1, ?_⟩;rcases Nat.lt_or_ge (L+nw) k with h2|h2
       ·refine absurd (Amm (by rw[m6.out,i8.out]) fun a b=> ?_) he;rw[HJ.out.1,Mz g8,a5.out.1];exact⟨.inl,fun h3=>h3.elim id fun h4=>Aeg g0.out h2 a b h4.1 h4.2⟩
       ·omega
      ·exact .inr (by omega)
     have d3:k+1<=66:=by
      rcases d7.out with h|h
      ·omega
      ·have:hi<=32:=by omega
       omega
     clear he hd hkm;go_wp2_with fail;refine(Pr A11 A7 (nw+1) c11 (nw+1) c7 M T7 w9 f9.out b2.out (by omega) (by omega) a0.out.2 a2.out.2.1).mono ?_;rintro e w10 ⟨A10,n10,c10,rfl,a3,a1⟩;obtain rfl:n10=nw+1:=by rw[←a3.len,C9,a4.out.len]
     have b9:=hI a3;clear a3;have d4:=hI ((a1.block w.heap.size (lt_of_block g4.out)).trans g4.out);have a9:=hI (Fd.below (A:=A8) (n:=nw+1) (c:=c8) (l:=orR T M) (by first|exact d2.out|exact b7.out) a1 rr);have b0:=hI (b2.out.below a1 rr);have d0:=f6.trans (a1.mono f6.size);clear a1;go_wp2
     go_roundw
     case rel=>exact⟨k+1,A8,c8,orR T M,A10,c10,Cn M T7,rfl,rfl,by go_num,d3,d7,d4,a9,b9,b0,HJ,⟨b1.out,Dt _ _ a2.out.2.1⟩,d0⟩
     case measure=>simp[intOf]<;>omega
   ·have j3:decide (lo<(k:Int))=false:=decide_eq_false hkl2
    have d7:Hid ((hi= -1/\k+1<=L+nw+1)\/((k+1:Nat):Int)<=hi):=by
     have:=b8.out
     rcases g7.out with h|h
     ·exact .inl ⟨h.1,by omega⟩
     ·exact .inr (by omega)
    have d3:k+1<=66:=by have:=b8.out;omega
    clear hkm hkl2;go_wp2_with fail;refine(Pr A11 A7 (nw+1) c11 (nw+1) c7 M T7 w8 b3.out d1.out (by omega) (by omega) a0.out.2 a2.out.2.1).mono ?_;clear f7 f5;rintro e w10 ⟨A10,n10,c10,rfl,a3,a1⟩;obtain rfl:n10=nw+1:=by rw[←a3.len,C9,a4.out.len]
    have b9:=hI a3;clear a3;have d4:=hI ((a1.block w.heap.size (lt_of_block d6.out)).trans d6.out);have a9:=hI (Fd.below (A:=A8) (n:=nw+1) (c:=c8) (l:=orR T M) (by first|exact d2.out|exact b7.out) a1 rr);have b0:=hI (d1.out.below a1 rr);have d0:=b6.trans (a1.mono b6.size);clear a1;go_wp2
    go_roundw
    case rel=>exact⟨k+1,A8,c8,orR T M,A10,c10,Cn M T7,rfl,rfl,by go_num,d3,d7,d4,a9,b9,b0,HJ,⟨b1.out,Dt _ _ a2.out.2.1⟩,d0⟩
    case measure=>simp[intOf]<;>omega
theorem Tk (k:Nd)(ch:Fo)(ih:∀j k' ch',ch.get j=some (k',ch')->Pp k' ch'):Pp k ch:=by
 obtain⟨kind,isp,ism,neg,lo,hi⟩:=k;by_cases h:kind<0\/6<kind
 ·intro w A c Aw nw cw ws hs hw hn a0;exfalso;unfold Af at a0;dsimp only at a0;rw[if_neg (by omega),if_neg (by omega),if_neg (by omega),if_neg (by omega)]at a0;exact absurd a0 (by decide)
 ·rcases(by omega:kind=0\/kind=1\/kind=2\/kind=3\/kind=4\/kind=5\/kind=6)with rfl|rfl|rfl|rfl|rfl|rfl|rfl
  ·exact Amg isp ism neg lo hi ch
  ·exact Amj isp ism neg lo hi ch
  ·exact Amh isp ism neg lo hi ch
  ·exact Amk isp ism neg lo hi ch ih
  ·exact Aml isp ism neg lo hi ch ih
  ·exact Amn isp ism neg lo hi ch ih
  ·exact Ami isp ism neg lo hi ch
theorem Qp:∀(f:Fo) (j:Nat) (k:Nd) (ch:Fo),f.get j=some (k,ch)->Pp k ch
 | .node k0 ch0 nx,0,k,ch,hg=>by
  obtain⟨rfl,rfl⟩:k0=k/\ch0=ch:=by simpa[Fo.get]using hg
  exact Tk _ _ (Qp ch0)
 | .node k0 ch0 nx,j+1,k,ch,hg=>Qp nx j k ch (by simpa[Fo.get]using hg)
theorem Ac4 (k:Nd)(ch:Fo):Pp k ch:=Tk k ch (Qp ch)
theorem Aeh (x:Nd×Fo)(ws:List Snd):F4 x ws=if Bv 40 [x]≠0 then Bv 40 [x]else B4 ws:=by
 unfold F4 B4
 have:ws.any (fun s=> !Cg s.1 s.2)= !ws.all (fun s=>Cg s.1 s.2):=by rw[List.not_all_eq_any_not]
 rw[this];by_cases h:Bv 40 [x]=0
 ·simp only[h,ne_eq,not_true_eq_false,if_false];by_cases h2:32<ws.length
  ·rw[if_pos h2,if_pos h2]
  ·rw[if_neg h2,if_neg h2];cases ws.all (fun s=>Cg s.1 s.2)<;>rfl
 ·simp only[h,ne_eq,not_false_eq_true,if_true]
theorem Ah9 (k:Nd)(ch:Fo)(A0:Option Addr)(c0:Nat)(A:Option Addr)(n c:Nat)(ws:List Snd)(w:World)(hf:FSl w A0 ch.len c0 ch)(hw:Ak w A n c ws)(hk:NdU k)(hu:FoU ch)(hwu:Ck ws):
  Calls Tryz.prog 222 #[Fc k A0 ch.len c0, .slice A n c] w fun e w'=>e= .returned (.int .i64 (F4 (k,ch) ws))/\Below w.heap.size w w':=by
 have HR:=hI (Aeh (k,ch) ws);have a2:=hI (Qq k ch);have HF:=hI hf;clear hf;have HW:=hI hw;clear hw;have HK:=hI hk;clear hk;have HU:=hI hu;clear hu;have a5:=hI hwu;clear hwu;obtain⟨er,a4⟩:∃er,er=Bv 40 [(k,ch)]:=⟨_,rfl⟩;rw[←a4]at HR a2;clear a4;obtain⟨kind,isp,ism,neg,lo,hi⟩:=k;go_enter Tryz.func222,Tryz.ntmps222;go_wp2_with fail;refine(a2.out _ A0 ch.len c0 (HF.out.below (B:=w.heap.size) bel rr) HK.out HU.out).mono ?_;rintro e w1 ⟨rfl,a7⟩;have a0:Below w.heap.size w w1:=Below.step (by assumption) (by simp) bel;clear a7 a2;by_cases h0:er=0
 ·have a1:Hid (F4 (⟨kind,isp,ism,neg,lo,hi⟩,ch) ws=B4 ws):=by show _=_;rw[HR.out,if_neg (by simpa using h0)]
  clear HR;subst h0;go_wp2_with fail;refine(Mx A n c ws w1 (HW.out.below a0 rr) a5.out).mono ?_;rintro e w2 ⟨rfl,a3⟩;have a6:=a0.trans (a3.mono a0.size);clear a3;go_wp2;go_ret;exact⟨by rw[a1.out];rfl,a6⟩
 ·have a1:Hid (F4 (⟨kind,isp,ism,neg,lo,hi⟩,ch) ws=er):=by show _=_;rw[HR.out,if_pos h0]
  have h1:(er==0)=false:=by simpa using h0
  clear HR h0;go_wp2;go_ret;exact⟨by rw[a1.out];rfl,a0⟩
theorem Abv (k:Nd)(ch:Fo)(A0:Option Addr)(c0:Nat)(A:Option Addr)(n c:Nat)(ws:List Snd)(at_:Int)(w:World)(hf:FSl w A0 ch.len c0 ch)(hw:Ak w A n c ws)(hk:NdU k)(hu:FoU ch)(hwu:Ck ws):
  Calls Tryz.prog 211 #[Fc k A0 ch.len c0, .slice A n c, .int .i64 at_] w (Sd w (Di (k,ch) ws at_) (atE (k,ch) ws at_)):=by
 have g4:=hw.max;have b7:=hI (fun h=>Q0 (k:=k) (ws:=ws) (rs:=D2 ws ch) (c:=ch.len) (Dl h).2.1 ((Fv 40 [(k,ch)] rr (Dl h).1).2 (k,ch) (by simp)).1 (E6 ws ch) (Jc (Dl h).2.1 ch ((Fv 40 [(k,ch)] rr (Dl h).1).2 (k,ch) (by simp)).2))
 have b4:=hI (fun h=>(Fv 40 [(k,ch)] rr (Dl (x:=(k,ch)) (ws:=ws) h).1).2 (k,ch) (by simp))
 have b3:=hI (Ah9 k ch A0 c0 A n c ws);have f9:=hI (Ac4 k ch);have HF:=hI hf;clear hf;have HW:=hI hw;clear hw;have HK:=hI hk;clear hk;have HU:=hI hu;clear hu;have g9:=hI hwu;clear hwu;obtain⟨x,hx⟩:∃x,x=(k,ch):=⟨_,rfl⟩;rw[←hx]at b7 b3 b4 ⊢;have HX:=hI hx;clear hx;obtain⟨kind,isp,ism,neg,lo,hi⟩:=k;go_enter Tryz.func211,Tryz.ntmps211;go_wp2_with fail;have kp:(w.alloc (.cells #[.int .i64 kind, .int .u32 isp, .int .u32 ism, .bool neg, .int .i64 lo, .int .i64 hi, .slice A0 ch.len c0] 52)).heap[w.heap.size]? =some (.cells #[.int .i64 kind, .int .u32 isp, .int .u32 ism, .bool neg, .int .i64 lo, .int .i64 hi, .slice A0 ch.len c0] 52 (0,0)):=Am rfl;have kB:Below w.heap.size w (w.alloc (.cells #[.int .i64 kind, .int .u32 isp, .int .u32 ism, .bool neg, .int .i64 lo, .int .i64 hi, .slice A0 ch.len c0] 52)):=bel;generalize(w.alloc (.cells #[.int .i64 kind, .int .u32 isp, .int .u32 ism, .bool neg, .int .i64 lo, .int .i64 hi, .slice A0 ch.len c0] 52))=V0 at*;refine(b3.out V0 (HF.out.below kB rr) (HW.out.below kB rr) HK.out HU.out g9.out).mono ?_;rintro e w1 ⟨rfl,d7⟩;have a4:=(d7.block _ (lt_of_block kp)).trans kp;have a5:=kB.trans (d7.mono kB.size);clear d7 kp kB b3;obtain⟨er,a3⟩:∃er,er=F4 x ws:=⟨_,rfl⟩;rw[←a3];by_cases hE:er=0
 case neg=>
  have a6:atE x ws at_=er:=by unfold atE;rw[if_neg (by rw[←a3];exact hE),←a3]
  have a8:Di x ws at_=[]:=by unfold Di;rw[a6,if_neg hE]
  have j0:(er !=0)=true:=by simpa using hE
  have g6:=hI a6;have a2:=hI a8;clear a6 a8 hE a3;go_wp2
  go_ret2
  exact⟨none,0,by rw[g6.out,a2.out];rfl,by rw[a2.out];exact Az.nil _ _,a5⟩
 subst hE;have hz:=Dl a3.symm;have b1:n<=32:=by have:=hz.2.1;rw[HW.out.len]at this;exact this
 have i7:=hI (b7.out a3.symm);have a7:Hid (Af ⟨kind,isp,ism,neg,lo,hi⟩ ch.len=0/\okF ch):=by have h:=b4.out a3.symm;rw[HX.out]at h;exact h
 have i4:Hid (F5 x ws=E5 ⟨kind,isp,ism,neg,lo,hi⟩ ws (D2 ws ch)):=by show _=_;unfold F5;rw[if_pos a3.symm,HX.out]
 have a1:Hid (atE x ws at_=Cp n at_):=by show _=_;unfold atE;rw[if_pos a3.symm,HW.out.len]
 clear hz b7 b4 a3;by_cases hx0:Cp n at_=0
 case neg=>
  have a8:Di x ws at_=[]:=by unfold Di;rw[a1.out,if_neg hx0]
  have f8:Cp n at_=3:=by unfold Cp at hx0 ⊢;split at hx0<;>simp_all
  have a2:=hI a8;have f3:=hI f8;have d9:at_<0\/(n:Int)<at_:=by unfold Cp at hx0;split at hx0<;>simp_all
  clear a8 f8 hx0 a4;by_cases h1:at_<0
  ·have i3:decide (at_<0)=true:=decide_eq_true h1;go_wp2
   go_ret2
   exact⟨none,0,by rw[a1.out,a2.out,f3.out];rfl,by rw[a2.out];exact Az.nil _ _,a5⟩
  ·have i3:decide (at_<0)=false:=decide_eq_false h1;have h2:(n:Int)<at_:=by omega
   go_wp2
   go_ret2
   exact⟨none,0,by rw[a1.out,a2.out,f3.out];rfl,by rw[a2.out];exact Az.nil _ _,a5⟩
 have h0:0<=at_/\at_<=n:=by unfold Cp at hx0;split at hx0<;>simp at*;omega
 obtain⟨m,rfl⟩:∃m:Nat,at_=m:=⟨at_.toNat,by omega⟩;have i9:m<=n:=by omega
 have g8:¬(m:Int)<0:=by omega
 have i2:decide ((m:Int)<0)=false:=decide_eq_false g8;have i6:¬(n:Int)<(m:Int):=by omega
 have g7:decide (n<m)=false:=decide_eq_false (by omega);have b0:Hid (atE x ws m=0):=by show _=_;rw[a1.out];exact hx0
 clear hx0 h0 a1;have d0:=Ad (j:=0) (v:= .int .i64 kind) a4 rfl;have d1:=Ad (j:=1) (v:= .int .u32 isp) a4 rfl;have d2:=Ad (j:=2) (v:= .int .u32 ism) a4 rfl;have d3:=Ad (j:=3) (v:= .bool neg) a4 rfl;have d4:=Ad (j:=4) (v:= .int .i64 lo) a4 rfl;have d5:=Ad (j:=5) (v:= .int .i64 hi) a4 rfl;have d6:=Ad (j:=6) (v:= .slice A0 ch.len c0) a4 rfl;clear a4;go_wp2_with fail;refine(f9.out w1 A0 c0 A n c ws (HF.out.below a5 rr) (HW.out.below a5 rr) b1 a7.out.1 a7.out.2 HK.out HU.out).mono ?_;rintro e w2 ⟨A2,c2,T,rfl,f7,g2,g1⟩;have i5:=hI f7;clear f7;have f0:=hI g2;clear g2;have f4:=a5.trans (g1.mono a5.size);have g0:=hI f4;clear f4 a5 g1 d0 d1 d2 d3 d4 d5 d6 a7 f9;obtain⟨f,hf⟩:∃f:Nat->Bool,f=fun a=>((F5 x ws).getD a 0).testBit m:=⟨_,rfl⟩
 have f1:=hI hf;clear hf
 have a2:Hid (Di x ws m=(List.range (n+1)).filter f):=by
  show _=_;unfold Di;rw[if_pos b0.out,HW.out.len,f1.out];rfl
 have b9:Hid (∀j,f j=(T.getD j 0).testBit m):=by
  intro j;rw[f1.out,i4.out,Bool.eq_iff_iff];exact(f0.out.2.2 j m).symm
 go_wp2
 go_loopw [10,11] (fun l i wr=>∃(j q:Nat),j<=n+1/\i= .int .i64 j/\q<=j/\Hid (wr.ownsRow w2.heap.size 3 1 l q (Ly ((List.range j).filter f)))/\Below w2.heap.size w2 wr) (fun _ i _=>n+1-(intOf i).toNat)
 case atStart=>exact⟨0,0,by omega,rfl,by omega,World.ownsRow_nil _ _ _ _,Below.refl _ _⟩
 case round=>
  obtain⟨j,q,hj,rfl,hq,a0,hB⟩:=hrel;have i8:=hB.size;by_cases hlt:j<n+1
  ·obtain⟨b,off,s,i1,hb,hc,hs⟩:=(i5.out.below hB rr).at_ (k:=j) (by omega);have f6:=f0.out.2.1 s (List.mem_of_getElem? hs);have f2:f j=s.testBit m:=by rw[b9.out,D5 hs]
   have i0:=hI f2;clear f2 hs;have b2:=hI f6;clear f6;have b6:=Wj s m b2.out;rw[←i0.out]at b6;have g3:(j:Int)<=(n:Int):=by omega
   have j1:(j:Int)<(n:Int)+1:=by omega
   have j2:(m:Int)<(n:Int)+1:=by omega
   obtain⟨A1,c1,rfl⟩:=Bh a0.out;subst i1;by_cases hf:f j=true
   ·rw[hf]at b6;have d8:=hI hf;clear hf;go_wp2_with(at_builtin;refine Eu rfl (.tmp 43) (.tmp 45) rfl w2.heap.size (.slice A1 q c1) q (Ly ((List.range j).filter f)) rfl ?hoBegins ⟨wr.heap.size,0,none⟩ 1 (.int .i64 j) rfl ?haBegins rfl ?hlBegins ?hzBegins ?hcBegins)
    case hoBegins=>exact a0.out.alloc _
    case haBegins=>exact cell_one_new _ _ _
    case hlBegins=>omega
    case hzBegins=>simp;omega
    case hcBegins=>
     intro v' w4 a9 g5 _;go_wp2
     go_roundw
     case rel=>
      refine⟨j+1,q+1,by omega,by go_num,by omega, ?_,E3 (hB.alloc hB.size _) (a0.out.alloc _) g5 rr (by simp;omega)⟩;show w4.ownsRow _ _ _ _ _ _;rw[List.range_succ,List.filter_append]
      have:([j].filter f)=[j]:=by simp[d8.out]
      rw[this];simpa[Ly]using a9
     case measure=>simp[intOf]<;>omega
   ·have b5:f j=false:=by simpa using hf
    rw[b5]at b6;have d8:=hI b5;clear hf b5;go_wp2
    go_roundw
    case rel=>
     refine⟨j+1,q,by omega,by go_num,by omega, ?_,hB⟩;show wr.ownsRow _ _ _ _ _ _;rw[List.range_succ,List.filter_append]
     have:([j].filter f)=[]:=by simp[d8.out]
     rw[this,List.append_nil];exact a0.out
    case measure=>simp[intOf]<;>omega
  ·obtain rfl:j=n+1:=by omega
   have g3:¬((n:Int)+1<=(n:Int)):=by omega
   obtain⟨A1,c1,rfl⟩:=Bh a0.out;have b8:=a0.out.1;rw[Sr,Nat.mul_one]at b8;have f5:=hI b8;clear b8;go_wp2
   go_ret2
   refine⟨A1,c1, ?_, ?_,g0.out.trans (hB.mono g0.out.size)⟩
   ·rw[b0.out,a2.out,f5.out];rfl
   ·rw[a2.out,f5.out];exact Az.of_own a0.out (by decide)
theorem Abw {n:Nat}(hn:n<=32)(p:Nat->Bool)(h:∀b,p b=true->b<=n):(List.range 33).filter p=(List.range (n+1)).filter p:=by
 rw[show(33:Nat)=(n+1)+(32-n)by omega,List.range_add,List.filter_append]
 have:((List.range (32-n)).map (fun x=>n+1+x)).filter p=[]:=by
  rw[List.filter_eq_nil_iff];intro x hx hp;obtain⟨y,_,rfl⟩:=List.mem_map.1 hx
  have:=h _ hp
  omega
 rw[this,List.append_nil]
theorem Aia (k:Nd)(ch:Fo)(A0:Option Addr)(c0:Nat)(A:Option Addr)(n c:Nat)(ws:List Snd)(at_:Int)(w:World)(hf:FSl w A0 ch.len c0 ch)(hw:Ak w A n c ws)(hk:NdU k)(hu:FoU ch)(hwu:Ck ws):
  Calls Tryz.prog 212 #[Fc k A0 ch.len c0, .slice A n c, .int .i64 at_] w (Sd w (Hd (k,ch) ws at_) (atE (k,ch) ws at_)):=by
 have g5:=hw.max;have b7:=hI (fun h=>Q0 (k:=k) (ws:=ws) (rs:=D2 ws ch) (c:=ch.len) (Dl h).2.1 ((Fv 40 [(k,ch)] rr (Dl h).1).2 (k,ch) (by simp)).1 (E6 ws ch) (Jc (Dl h).2.1 ch ((Fv 40 [(k,ch)] rr (Dl h).1).2 (k,ch) (by simp)).2))
 have b4:=hI (fun h=>(Fv 40 [(k,ch)] rr (Dl (x:=(k,ch)) (ws:=ws) h).1).2 (k,ch) (by simp))
 have b3:=hI (Ah9 k ch A0 c0 A n c ws);have f9:=hI (Ac4 k ch);have HF:=hI hf;clear hf;have HW:=hI hw;clear hw;have HK:=hI hk;clear hk;have HU:=hI hu;clear hu;have i1:=hI hwu;clear hwu;obtain⟨x,hx⟩:∃x,x=(k,ch):=⟨_,rfl⟩;rw[←hx]at b7 b3 b4 ⊢;have HX:=hI hx;clear hx;obtain⟨kind,isp,ism,neg,lo,hi⟩:=k;go_enter Tryz.func212,Tryz.ntmps212;go_wp2_with fail;have kp:(w.alloc (.cells #[.int .i64 kind, .int .u32 isp, .int .u32 ism, .bool neg, .int .i64 lo, .int .i64 hi, .slice A0 ch.len c0] 52)).heap[w.heap.size]? =some (.cells #[.int .i64 kind, .int .u32 isp, .int .u32 ism, .bool neg, .int .i64 lo, .int .i64 hi, .slice A0 ch.len c0] 52 (0,0)):=Am rfl;have kB:Below w.heap.size w (w.alloc (.cells #[.int .i64 kind, .int .u32 isp, .int .u32 ism, .bool neg, .int .i64 lo, .int .i64 hi, .slice A0 ch.len c0] 52)):=bel;generalize(w.alloc (.cells #[.int .i64 kind, .int .u32 isp, .int .u32 ism, .bool neg, .int .i64 lo, .int .i64 hi, .slice A0 ch.len c0] 52))=V0 at*;refine(b3.out V0 (HF.out.below kB rr) (HW.out.below kB rr) HK.out HU.out i1.out).mono ?_;rintro e w1 ⟨rfl,d8⟩;have a4:=(d8.block _ (lt_of_block kp)).trans kp;have a5:=kB.trans (d8.mono kB.size);clear d8 kp kB b3;obtain⟨er,a3⟩:∃er,er=F4 x ws:=⟨_,rfl⟩;rw[←a3];by_cases hE:er=0
 case neg=>
  have a6:atE x ws at_=er:=by unfold atE;rw[if_neg (by rw[←a3];exact hE),←a3]
  have a9:Hd x ws at_=[]:=by unfold Hd;rw[a6,if_neg hE]
  have j0:(er !=0)=true:=by simpa using hE
  have g7:=hI a6;have a2:=hI a9;clear a6 a9 hE a3;go_wp2
  go_ret2
  exact⟨none,0,by rw[g7.out,a2.out];rfl,by rw[a2.out];exact Az.nil _ _,a5⟩
 subst hE;have hz:=Dl a3.symm;have a8:n<=32:=by have:=hz.2.1;rw[HW.out.len]at this;exact this
 have i0:=hI (b7.out a3.symm);have a7:Hid (Af ⟨kind,isp,ism,neg,lo,hi⟩ ch.len=0/\okF ch):=by have h:=b4.out a3.symm;rw[HX.out]at h;exact h
 have g2:Hid (F5 x ws=E5 ⟨kind,isp,ism,neg,lo,hi⟩ ws (D2 ws ch)):=by show _=_;unfold F5;rw[if_pos a3.symm,HX.out]
 have a1:Hid (atE x ws at_=Cp n at_):=by show _=_;unfold atE;rw[if_pos a3.symm,HW.out.len]
 clear hz b7 b4 a3;by_cases hx0:Cp n at_=0
 case neg=>
  have a9:Hd x ws at_=[]:=by unfold Hd;rw[a1.out,if_neg hx0]
  have f8:Cp n at_=3:=by unfold Cp at hx0 ⊢;split at hx0<;>simp_all
  have a2:=hI a9;have f3:=hI f8;have d9:at_<0\/(n:Int)<at_:=by unfold Cp at hx0;split at hx0<;>simp_all
  clear a9 f8 hx0 a4;by_cases h1:at_<0
  ·have i5:decide (at_<0)=true:=decide_eq_true h1;go_wp2
   go_ret2
   exact⟨none,0,by rw[a1.out,a2.out,f3.out];rfl,by rw[a2.out];exact Az.nil _ _,a5⟩
  ·have i5:decide (at_<0)=false:=decide_eq_false h1;have h2:(n:Int)<at_:=by omega
   go_wp2
   go_ret2
   exact⟨none,0,by rw[a1.out,a2.out,f3.out];rfl,by rw[a2.out];exact Az.nil _ _,a5⟩
 have h0:0<=at_/\at_<=n:=by unfold Cp at hx0;split at hx0<;>simp at*;omega
 obtain⟨m,rfl⟩:∃m:Nat,at_=m:=⟨at_.toNat,by omega⟩;have i9:m<=n:=by omega
 have g9:¬(m:Int)<0:=by omega
 have i4:decide ((m:Int)<0)=false:=decide_eq_false g9;have i7:¬(n:Int)<(m:Int):=by omega
 have g8:decide (n<m)=false:=decide_eq_false (by omega);have b1:Hid (atE x ws m=0):=by show _=_;rw[a1.out];exact hx0
 clear hx0 h0 a1;have d0:=Ad (j:=0) (v:= .int .i64 kind) a4 rfl;have d1:=Ad (j:=1) (v:= .int .u32 isp) a4 rfl;have d2:=Ad (j:=2) (v:= .int .u32 ism) a4 rfl;have d3:=Ad (j:=3) (v:= .bool neg) a4 rfl;have d4:=Ad (j:=4) (v:= .int .i64 lo) a4 rfl;have d5:=Ad (j:=5) (v:= .int .i64 hi) a4 rfl;have d6:=Ad (j:=6) (v:= .slice A0 ch.len c0) a4 rfl;clear a4;go_wp2_with fail;refine(f9.out w1 A0 c0 A n c ws (HF.out.below a5 rr) (HW.out.below a5 rr) a8 a7.out.1 a7.out.2 HK.out HU.out).mono ?_;rintro e w2 ⟨A2,c2,T,rfl,f7,g3,g1⟩;have i6:=hI f7;clear f7;have f0:=hI g3;clear g3;have f4:=a5.trans (g1.mono a5.size);have g0:=hI f4;clear f4 a5 g1 d0 d1 d2 d3 d4 d5 d6 a7 f9;obtain⟨f,hf⟩:∃f:Nat->Bool,f=fun b=>((F5 x ws).getD m 0).testBit b:=⟨_,rfl⟩
 have f1:=hI hf;clear hf
 have a2:Hid (Hd x ws m=(List.range (n+1)).filter f):=by
  show _=_;unfold Hd;rw[if_pos b1.out,f1.out];exact Abw a8 _ (fun b hb=>by have h1:Bt (F5 x ws) m b:=hb;rw[g2.out]at h1;have h2:=i0.out m b h1;have h3:=HW.out.len;omega)
 have b9:Hid (∀j,f j=(T.getD m 0).testBit j):=by
  intro j;rw[f1.out,g2.out,Bool.eq_iff_iff];exact(f0.out.2.2 m j).symm
 go_wp2
 go_loopw [10,11] (fun l i wr=>∃(j q:Nat),j<=n+1/\i= .int .i64 j/\q<=j/\Hid (wr.ownsRow w2.heap.size 3 1 l q (Ly ((List.range j).filter f)))/\Below w2.heap.size w2 wr) (fun _ i _=>n+1-(intOf i).toNat)
 case atStart=>exact⟨0,0,by omega,rfl,by omega,World.ownsRow_nil _ _ _ _,Below.refl _ _⟩
 case round=>
  obtain⟨j,q,hj,rfl,hq,a0,hB⟩:=hrel;have i8:=hB.size;by_cases hlt:j<n+1
  ·obtain⟨b,off,s,i3,hb,hc,hs⟩:=(i6.out.below hB rr).at_ (k:=m) (by omega);have f6:=f0.out.2.1 s (List.mem_of_getElem? hs);have f2:f j=s.testBit j:=by rw[b9.out,D5 hs]
   have i2:=hI f2;clear f2 hs;have b2:=hI f6;clear f6;have b6:=Wj s j b2.out;rw[←i2.out]at b6;have g4:(j:Int)<=(n:Int):=by omega
   have j2:(j:Int)<(n:Int)+1:=by omega
   have j1:(m:Int)<(n:Int)+1:=by omega
   obtain⟨A1,c1,rfl⟩:=Bh a0.out;subst i3;by_cases hf:f j=true
   ·rw[hf]at b6;have d7:=hI hf;clear hf;go_wp2_with(at_builtin;refine Eu rfl (.tmp 43) (.tmp 45) rfl w2.heap.size (.slice A1 q c1) q (Ly ((List.range j).filter f)) rfl ?hoEnds ⟨wr.heap.size,0,none⟩ 1 (.int .i64 j) rfl ?haEnds rfl ?hlEnds ?hzEnds ?hcEnds)
    case hoEnds=>exact a0.out.alloc _
    case haEnds=>exact cell_one_new _ _ _
    case hlEnds=>omega
    case hzEnds=>simp;omega
    case hcEnds=>
     intro v' w4 b0 g6 _;go_wp2
     go_roundw
     case rel=>
      refine⟨j+1,q+1,by omega,by go_num,by omega, ?_,E3 (hB.alloc hB.size _) (a0.out.alloc _) g6 rr (by simp;omega)⟩;show w4.ownsRow _ _ _ _ _ _;rw[List.range_succ,List.filter_append]
      have:([j].filter f)=[j]:=by simp[d7.out]
      rw[this];simpa[Ly]using b0
     case measure=>simp[intOf]<;>omega
   ·have b5:f j=false:=by simpa using hf
    rw[b5]at b6;have d7:=hI b5;clear hf b5;go_wp2
    go_roundw
    case rel=>
     refine⟨j+1,q,by omega,by go_num,by omega, ?_,hB⟩;show wr.ownsRow _ _ _ _ _ _;rw[List.range_succ,List.filter_append]
     have:([j].filter f)=[]:=by simp[d7.out]
     rw[this,List.append_nil];exact a0.out
    case measure=>simp[intOf]<;>omega
  ·obtain rfl:j=n+1:=by omega
   have g4:¬((n:Int)+1<=(n:Int)):=by omega
   obtain⟨A1,c1,rfl⟩:=Bh a0.out;have b8:=a0.out.1;rw[Sr,Nat.mul_one]at b8;have f5:=hI b8;clear b8;go_wp2
   go_ret2
   refine⟨A1,c1, ?_, ?_,g0.out.trans (hB.mono g0.out.size)⟩
   ·rw[b1.out,a2.out,f5.out];rfl
   ·rw[a2.out,f5.out];exact Az.of_own a0.out (by decide)
end Go.Proofs.YtaglfmlgbcmakaaGreatDoor
