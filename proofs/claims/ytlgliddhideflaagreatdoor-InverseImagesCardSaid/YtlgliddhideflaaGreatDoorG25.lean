/-
  ablautref06.Table.
  ablautref06.Table, at nodes with others below them.
  ablautref06: Table at any node; both, Begins, Ends.
-/
import Derived.Test.YtlgliddhideflaaGreatDoorG24
set_option linter.all false
set_option maxRecDepth 100000
set_option maxHeartbeats 4000000
namespace Go.Proofs.YtlgliddhideflaaGreatDoor
open Go.RowKit Go.Shelf
def Tab (T:List Nat)(n:Nat)(r:List Nat):Prop:=T.length=n+1/\Bw T∧∀a b,Bt T a b↔Bt r a b
def Alw (w:World)(n:Nat)(r:List Nat)(e:Ending)(w':World):Prop:=∃A c T,e= .returned (.slice A (n+1) c)/\E4 w' A (n+1) c T/\Tab T n r/\Below w.heap.size w w'
def J4 (f:Nat->Nat)(m j:Nat):List Nat:=(List.range m).map fun k=>if k<j then f k else 0
theorem Hs (f:Nat->Nat)(m:Nat):J4 f m 0=List.replicate m 0:=by
 apply List.ext_getElem?;intro i;unfold J4;rw[List.getElem?_map,List.getElem?_replicate];by_cases h:i<m
 ·rw[List.getElem?_range h,if_pos h,Option.map_some,if_neg (by omega)]
 ·rw[List.getElem?_eq_none (by simpa using h),if_neg h];rfl
theorem Nm (f:Nat->Nat)(m j:Nat):(J4 f m j).set j (f j)=J4 f m (j+1):=by
 unfold J4;refine Jr _ _ _ _ _ (by rw[if_pos (by omega)]) fun k hk=> ?_
 by_cases h:k<j
 ·rw[if_pos h,if_pos (by omega)]
 ·rw[if_neg h,if_neg (by omega)]
theorem Ht {f:Nat->Nat}{m j:Nat}(h:f j=0):J4 f m (j+1)=J4 f m j:=by
 unfold J4;refine List.map_congr_left fun k _=> ?_
 by_cases h1:k=j
 ·subst h1;rw[if_pos (by omega),if_neg (by omega),h]
 ·by_cases h2:k<j
  ·rw[if_pos h2,if_pos (by omega)]
  ·rw[if_neg h2,if_neg (by omega)]
theorem Ls (f:Nat->Nat)(m:Nat):J4 f m m=(List.range m).map f:=List.map_congr_left fun k hk=>by rw[if_pos (List.mem_range.1 hk)]
theorem Ur {f:Nat->Nat}{m j:Nat}(h:j<m):(J4 f m j)[j]? =some 0:=by unfold J4;rw[List.getElem?_map,List.getElem?_range h,Option.map_some,if_neg (by omega)]
theorem We {f:Nat->Nat}{n:Nat}{r:List Nat}(hs:∀k,k<=n->C7 (f k))(h:∀a b,a<=n->((f a).testBit b=true↔Bt r a b))(hr:∀a b,Bt r a b->a<=n):Tab ((List.range (n+1)).map f) n r:=by
 refine⟨by simp,fun s hs'=> ?_,fun a b=> ?_⟩
 ·obtain⟨k,hk,rfl⟩:=List.mem_map.1 hs';exact hs k (by have:=List.mem_range.1 hk;omega)
 ·rw[Ri];constructor
  ·rintro⟨h1,h2⟩;exact(h a b (by omega)).1 h2
  ·intro h1
   have:=hr a b h1
   exact⟨by omega,(h a b this).2 h1⟩
theorem Tab.follow {T T':List Nat}{n:Nat}{r r':List Nat}(h:Tab T n r)(h':Tab T' n r'):Tab (Cx T T') n (Cx r r'):=by
 refine⟨by rw[Dj];exact h.1,Dz _ _ h'.2.1,fun a b=> ?_⟩
 rw[Je,Je];exact⟨fun⟨m,h1,h2⟩=>⟨m,(h.2.2 a m).1 h1,(h'.2.2 m b).1 h2⟩,fun⟨m,h1,h2⟩=>⟨m,(h.2.2 a m).2 h1,(h'.2.2 m b).2 h2⟩⟩
theorem Tab.join {T T':List Nat}{n:Nat}{r r':List Nat}(h:Tab T n r)(h':Tab T' n r')(hl:r.length=r'.length):Tab (orR T T') n (orR r r'):=by
 refine⟨by unfold orR;rw[List.length_zipWith,h.1,h'.1];omega,Gg _ _ h.2.1 h'.2.1,fun a b=> ?_⟩
 rw[Wr (by rw[h.1,h'.1]),Wr hl,h.2.2,h'.2.2]
theorem Us {n:Nat}(hn:n<=32):Tab (idT n) n (idR n):=
 We (fun k hk=>Jz k (by omega)) (fun a b ha=>by
  rw[Nat.testBit_two_pow,decide_eq_true_eq,Pq hn];exact⟨fun h=>⟨h,ha⟩,fun h=>h.1⟩) (fun a b h=>((Pq hn a b).1 h).2)
theorem Qx (ws:List Snd):∀(f:Fo) (j:Nat) (k:Nd) (ch:Fo),f.get j=some (k,ch)->(D1 ws f)[j]? =some (Ev k ws (D1 ws ch))
 | .nil,j,k,ch,h=>by simp[Fo.get]at h
 | .node k0 ch0 nx,0,k,ch,h=>by
  obtain⟨rfl,rfl⟩:k0=k/\ch0=ch:=by simpa[Fo.get]using h
  rfl
 | .node k0 ch0 nx,j+1,k,ch,h=>by simpa[D1]using Qx ws nx j k ch (by simpa[Fo.get]using h)
theorem Wf {α β:Type}(f:α->β->α)(a:α)(l:List β)(k:Nat)(x:β)(h:l[k]? =some x):(l.take (k+1)).foldl f a=f ((l.take k).foldl f a) x:=by
 rw[Bb l k x h,List.foldl_append];rfl
def Qy (k:Nd)(ch:Fo):Prop:=∀(w:World) (A:Option Addr) (c:Nat) (Aw:Option Addr) (nw cw:Nat) (ws:List Snd),FSl w A ch.len c ch->Ad w Aw nw cw ws->nw<=32->Ag k ch.len=0->okF ch->NdU k->FoU ch→
 Calls Tryz.prog 278 #[Em k A ch.len c, .slice Aw nw cw] w (Alw w nw (Ev k ws (D1 ws ch)))
theorem Ane (isp ism:Int)(neg:Bool)(lo hi:Int)(ch:Fo):Qy ⟨0,isp,ism,neg,lo,hi⟩ ch:=by
 intro w A c Aw nw cw ws hs hw hn a0 a7 hk hu
 have a3:ch.len=0:=by
  rcases Nat.eq_zero_or_pos ch.len with h|h
  ·exact h
  ·unfold Ag at a0;rw[if_pos (by simp),if_pos (by simp[h])]at a0;exact absurd a0 (by decide)
 have a2:=hw.len
 have hrel:Ev ⟨0,isp,ism,neg,lo,hi⟩ ws (D1 ws ch)=idR nw:=by
  have h1:D1 ws ch=[]:=List.eq_nil_of_length_eq_zero (by rw[Ew];exact a3);rw[h1,←a2];rfl
 rw[hrel];clear hs a0 a7 hk hu hrel a3 hw;obtain⟨f,hf⟩:∃f:Nat->Nat,f=fun k=>2^k:=⟨_,rfl⟩
 have a5:Hid (Tab ((List.range (nw+1)).map f) nw (idR nw)):=by rw[hf];exact Us hn
 have a9:=hI hf;clear hf a2
 have a8:∀w:World,(Instr.makeSlice 286 (.int .i64 ((nw:Int)+1)) (.int .i64 ((nw:Int)+1))).run Tryz.prog w= .ok (.slice (some ⟨w.heap.size,0,none⟩) (nw+1) (nw+1)) (w.alloc (.cells (madeCells #[.int .u64 0] (nw+1)) 217)):=
  fun w=>run_make_row' (P:=Tryz.prog) 286 217 (.int .u64 0) 8 Tryz.underlying286 F3 rfl .i64 .i64 (nw+1) (by omega) (by omega) w
 go_enter Tryz.func278,Tryz.ntmps278;go_wp2;clear a8;rw[F4];have kp:((w.alloc (.cells #[.int .i64 0, .int .u32 isp, .int .u32 ism, .bool neg, .int .i64 lo, .int .i64 hi, .slice A ch.len c] 27)).alloc (.cells (C2 (List.replicate (nw+1) 0)) 217)).heap[w.heap.size]? =some (.cells #[.int .i64 0, .int .u32 isp, .int .u32 ism, .bool neg, .int .i64 lo, .int .i64 hi, .slice A ch.len c] 27 (0,0)):=hpt;have kg:((w.alloc (.cells #[.int .i64 0, .int .u32 isp, .int .u32 ism, .bool neg, .int .i64 lo, .int .i64 hi, .slice A ch.len c] 27)).alloc (.cells (C2 (List.replicate (nw+1) 0)) 217)).heap[w.heap.size+1]? =some (.cells (C2 (List.replicate (nw+1) 0)) 217 (0,0)):=hpt;have kB:Below w.heap.size w ((w.alloc (.cells #[.int .i64 0, .int .u32 isp, .int .u32 ism, .bool neg, .int .i64 lo, .int .i64 hi, .slice A ch.len c] 27)).alloc (.cells (C2 (List.replicate (nw+1) 0)) 217)):=bel;generalize((w.alloc (.cells #[.int .i64 0, .int .u32 isp, .int .u32 ism, .bool neg, .int .i64 lo, .int .i64 hi, .slice A ch.len c] 27)).alloc (.cells (C2 (List.replicate (nw+1) 0)) 217))=V0 at*
 go_loopw [7] (fun i wr=>∃a:Nat,i= .int .i64 a/\a<=nw+1/\Hid (wr.heap[w.heap.size]? =some (.cells #[.int .i64 0, .int .u32 isp, .int .u32 ism, .bool neg, .int .i64 lo, .int .i64 hi, .slice A ch.len c] 27 (0,0)))/\Hid (wr.heap[w.heap.size+1]? =some (.cells (C2 (J4 f (nw+1) a)) 217 (0,0)))/\Below w.heap.size w wr) (fun i _=>nw+1-(intOf i).toNat)
 case atStart=>exact⟨0,rfl,Nat.zero_le _,kp,by rw[Hs];exact kg,kB⟩
 case round=>
  obtain⟨a,rfl,ha,hp,hg,hB⟩:=hrel;have a4:=Ab (j:=0) (v:= .int .i64 0) hp.out rfl;by_cases hlt:a<nw+1
  ·have h1:(a:Int)<(nw:Int)+1:=by omega
   have h2:(a:Int)<=(nw:Int):=by omega
   have b3:=J6 hg.out (Ur hlt);have b2:=frozen_of_row wr (w.heap.size+1) a _ _ hg.out;have b0:=J8 a (by omega);have a6:=Rb a (by omega);have HF:Hid (((f a:Nat):Int)=2^a):=by show _=_;rw[a9.out];simp
   go_wp2
   have t1:(wr.setCell ⟨w.heap.size+1,a,none⟩ (.int .u64 (2^a))).heap[w.heap.size+1]? =some (.cells (C2 (J4 f (nw+1) (a+1))) 217 (0,0)):=by
    rw[←Nm,←J5,HF.out];exact Bk hg.out
   have t2:(wr.setCell ⟨w.heap.size+1,a,none⟩ (.int .u64 (2^a))).heap[w.heap.size]? =some (.cells #[.int .i64 0, .int .u32 isp, .int .u32 ism, .bool neg, .int .i64 lo, .int .i64 hi, .slice A ch.len c] 27 (0,0)):=(Below.heap_setCell wr ⟨w.heap.size+1,a,none⟩ (.int .u64 (2^a)) w.heap.size (by simp)).trans hp.out;have tB:Below w.heap.size w (wr.setCell ⟨w.heap.size+1,a,none⟩ (.int .u64 (2^a))):=hB.setCell (p:=⟨w.heap.size+1,a,none⟩) (by simp) _
   go_roundw
   case rel=>exact⟨a+1,by go_num,by omega,t2,t1,tB⟩
   case measure=>simp[intOf]<;>omega
  ·obtain rfl:a=nw+1:=by omega
   have h2:¬((nw:Int)+1<=(nw:Int)):=by omega
   have a1:=hg.out;rw[Ls]at a1;clear a4;have b1:=Ab (j:=0) (v:= .int .i64 0) hp.out rfl;go_wp2;go_ret;exact⟨_,_,_,rfl,Jn a1 (by simp) (by unfold maxLen;omega),a5.out,hB⟩
theorem Anf (isp ism:Int)(neg:Bool)(lo hi:Int)(ch:Fo):Qy ⟨2,isp,ism,neg,lo,hi⟩ ch:=by
 intro w A c Aw nw cw ws hs hw hn a3 a7 hk hu;have a8:=hw.len;have hrel:Ev ⟨2,isp,ism,neg,lo,hi⟩ ws (D1 ws ch)=F0 0:=rfl;rw[hrel];clear hs a3 a7 hk hu hrel hw a8;obtain⟨f,hf⟩:∃f:Nat->Nat,f=fun k=>if k=0 then 1 else 0:=⟨_,rfl⟩
 have a5:Hid (Tab ((List.range (nw+1)).map f) nw (F0 0)):=by
  rw[hf];refine We (fun k _=> ?_) (fun a b ha=> ?_) (fun a b h=>by have:=(Lt (by omega) a b).1 h;omega)
  ·split
   ·unfold C7;omega
   ·exact D2
  ·rw[Lt (by omega)];by_cases h:a=0
   ·rw[if_pos h,show(1:Nat)=2^0 from rfl,Nat.testBit_two_pow,decide_eq_true_eq];exact⟨fun e=>⟨h,e.symm⟩,fun e=>e.2.symm⟩
   ·rw[if_neg h];simp[h]
 have a2:=hI hf;clear hf
 have a9:∀w:World,(Instr.makeSlice 286 (.int .i64 ((nw:Int)+1)) (.int .i64 ((nw:Int)+1))).run Tryz.prog w= .ok (.slice (some ⟨w.heap.size,0,none⟩) (nw+1) (nw+1)) (w.alloc (.cells (madeCells #[.int .u64 0] (nw+1)) 217)):=
  fun w=>run_make_row' (P:=Tryz.prog) 286 217 (.int .u64 0) 8 Tryz.underlying286 F3 rfl .i64 .i64 (nw+1) (by omega) (by omega) w
 go_enter Tryz.func278,Tryz.ntmps278;go_wp2;clear a9;rw[F4];have kp:((w.alloc (.cells #[.int .i64 2, .int .u32 isp, .int .u32 ism, .bool neg, .int .i64 lo, .int .i64 hi, .slice A ch.len c] 27)).alloc (.cells (C2 (List.replicate (nw+1) 0)) 217)).heap[w.heap.size]? =some (.cells #[.int .i64 2, .int .u32 isp, .int .u32 ism, .bool neg, .int .i64 lo, .int .i64 hi, .slice A ch.len c] 27 (0,0)):=hpt;have kg:((w.alloc (.cells #[.int .i64 2, .int .u32 isp, .int .u32 ism, .bool neg, .int .i64 lo, .int .i64 hi, .slice A ch.len c] 27)).alloc (.cells (C2 (List.replicate (nw+1) 0)) 217)).heap[w.heap.size+1]? =some (.cells (C2 (List.replicate (nw+1) 0)) 217 (0,0)):=hpt;have kB:Below w.heap.size w ((w.alloc (.cells #[.int .i64 2, .int .u32 isp, .int .u32 ism, .bool neg, .int .i64 lo, .int .i64 hi, .slice A ch.len c] 27)).alloc (.cells (C2 (List.replicate (nw+1) 0)) 217)):=bel;generalize((w.alloc (.cells #[.int .i64 2, .int .u32 isp, .int .u32 ism, .bool neg, .int .i64 lo, .int .i64 hi, .slice A ch.len c] 27)).alloc (.cells (C2 (List.replicate (nw+1) 0)) 217))=V0 at*
 go_loopw [7] (fun i wr=>∃a:Nat,i= .int .i64 a/\a<=nw+1/\Hid (wr.heap[w.heap.size]? =some (.cells #[.int .i64 2, .int .u32 isp, .int .u32 ism, .bool neg, .int .i64 lo, .int .i64 hi, .slice A ch.len c] 27 (0,0)))/\Hid (wr.heap[w.heap.size+1]? =some (.cells (C2 (J4 f (nw+1) a)) 217 (0,0)))/\Below w.heap.size w wr) (fun i _=>nw+1-(intOf i).toNat)
 case atStart=>exact⟨0,rfl,Nat.zero_le _,kp,by rw[Hs];exact kg,kB⟩
 case round=>
  obtain⟨a,rfl,ha,hp,hg,hB⟩:=hrel;have a4:=Ab (j:=0) (v:= .int .i64 2) hp.out rfl;by_cases hlt:a<nw+1
  ·have h1:(a:Int)<(nw:Int)+1:=by omega
   have h2:(a:Int)<=(nw:Int):=by omega
   have b0:=J6 hg.out (Ur hlt);have a6:=frozen_of_row wr (w.heap.size+1) a _ _ hg.out;by_cases ha0:a=0
   ·have h3:((a:Int)==0)=true:=by simp;omega
    have HF:Hid (((f a:Nat):Int)=1):=by show _=_;rw[a2.out];simp[ha0]
    clear ha0;go_wp2
    have t1:(wr.setCell ⟨w.heap.size+1,a,none⟩ (.int .u64 1)).heap[w.heap.size+1]? =some (.cells (C2 (J4 f (nw+1) (a+1))) 217 (0,0)):=by
     rw[←Nm,←J5,HF.out];exact Bk hg.out
    have t2:(wr.setCell ⟨w.heap.size+1,a,none⟩ (.int .u64 1)).heap[w.heap.size]? =some (.cells #[.int .i64 2, .int .u32 isp, .int .u32 ism, .bool neg, .int .i64 lo, .int .i64 hi, .slice A ch.len c] 27 (0,0)):=(Below.heap_setCell wr ⟨w.heap.size+1,a,none⟩ (.int .u64 1) w.heap.size (by simp)).trans hp.out;have tB:Below w.heap.size w (wr.setCell ⟨w.heap.size+1,a,none⟩ (.int .u64 1)):=hB.setCell (p:=⟨w.heap.size+1,a,none⟩) (by simp) _
    go_roundw
    case rel=>exact⟨a+1,by go_num,by omega,t2,t1,tB⟩
    case measure=>simp[intOf]<;>omega
   ·have h3:((a:Int)==0)=false:=by simp;omega
    have b1:Hid (f a=0):=by show _=_;rw[a2.out];simp[ha0]
    clear ha0 b0 a6;go_wp2;have a0:=hg.out;rw[←Ht (f:=f) (m:=nw+1) (j:=a) b1.out]at a0
    go_roundw
    case rel=>exact⟨a+1,by go_num,by omega,hp,a0,hB⟩
    case measure=>simp[intOf]<;>omega
  ·obtain rfl:a=nw+1:=by omega
   have h2:¬((nw:Int)+1<=(nw:Int)):=by omega
   have a1:=hg.out;rw[Ls]at a1;clear a4;have b2:=Ab (j:=0) (v:= .int .i64 2) hp.out rfl;go_wp2;go_ret;exact⟨_,_,_,rfl,Jn a1 (by simp) (by unfold maxLen;omega),a5.out,hB⟩
theorem Ang (isp ism:Int)(neg:Bool)(lo hi:Int)(ch:Fo):Qy ⟨6,isp,ism,neg,lo,hi⟩ ch:=by
 intro w A c Aw nw cw ws hs hw hn a5 b0 hk hu;have a3:=hw.len;have hrel:Ev ⟨6,isp,ism,neg,lo,hi⟩ ws (D1 ws ch)=F0 nw:=by rw[←a3];rfl
 rw[hrel];clear hs a5 b0 hk hu hrel hw a3;obtain⟨f,hf⟩:∃f:Nat->Nat,f=fun k=>if k=nw then 2^k else 0:=⟨_,rfl⟩
 have a8:Hid (Tab ((List.range (nw+1)).map f) nw (F0 nw)):=by
  rw[hf];refine We (fun k hk=> ?_) (fun a b ha=> ?_) (fun a b h=>by have:=(Lt hn a b).1 h;omega)
  ·split
   ·exact Jz k (by omega)
   ·exact D2
  ·rw[Lt hn];by_cases h:a=nw
   ·rw[if_pos h,Nat.testBit_two_pow,decide_eq_true_eq];exact⟨fun e=>⟨h,by omega⟩,fun e=>by omega⟩
   ·rw[if_neg h];simp[h]
 have a4:=hI hf;clear hf
 have b1:∀w:World,(Instr.makeSlice 286 (.int .i64 ((nw:Int)+1)) (.int .i64 ((nw:Int)+1))).run Tryz.prog w= .ok (.slice (some ⟨w.heap.size,0,none⟩) (nw+1) (nw+1)) (w.alloc (.cells (madeCells #[.int .u64 0] (nw+1)) 217)):=
  fun w=>run_make_row' (P:=Tryz.prog) 286 217 (.int .u64 0) 8 Tryz.underlying286 F3 rfl .i64 .i64 (nw+1) (by omega) (by omega) w
 go_enter Tryz.func278,Tryz.ntmps278;go_wp2;clear b1;rw[F4];have kp:((w.alloc (.cells #[.int .i64 6, .int .u32 isp, .int .u32 ism, .bool neg, .int .i64 lo, .int .i64 hi, .slice A ch.len c] 27)).alloc (.cells (C2 (List.replicate (nw+1) 0)) 217)).heap[w.heap.size]? =some (.cells #[.int .i64 6, .int .u32 isp, .int .u32 ism, .bool neg, .int .i64 lo, .int .i64 hi, .slice A ch.len c] 27 (0,0)):=hpt;have kg:((w.alloc (.cells #[.int .i64 6, .int .u32 isp, .int .u32 ism, .bool neg, .int .i64 lo, .int .i64 hi, .slice A ch.len c] 27)).alloc (.cells (C2 (List.replicate (nw+1) 0)) 217)).heap[w.heap.size+1]? =some (.cells (C2 (List.replicate (nw+1) 0)) 217 (0,0)):=hpt;have kB:Below w.heap.size w ((w.alloc (.cells #[.int .i64 6, .int .u32 isp, .int .u32 ism, .bool neg, .int .i64 lo, .int .i64 hi, .slice A ch.len c] 27)).alloc (.cells (C2 (List.replicate (nw+1) 0)) 217)):=bel;generalize((w.alloc (.cells #[.int .i64 6, .int .u32 isp, .int .u32 ism, .bool neg, .int .i64 lo, .int .i64 hi, .slice A ch.len c] 27)).alloc (.cells (C2 (List.replicate (nw+1) 0)) 217))=V0 at*
 go_loopw [7] (fun i wr=>∃a:Nat,i= .int .i64 a/\a<=nw+1/\Hid (wr.heap[w.heap.size]? =some (.cells #[.int .i64 6, .int .u32 isp, .int .u32 ism, .bool neg, .int .i64 lo, .int .i64 hi, .slice A ch.len c] 27 (0,0)))/\Hid (wr.heap[w.heap.size+1]? =some (.cells (C2 (J4 f (nw+1) a)) 217 (0,0)))/\Below w.heap.size w wr) (fun i _=>nw+1-(intOf i).toNat)
 case atStart=>exact⟨0,rfl,Nat.zero_le _,kp,by rw[Hs];exact kg,kB⟩
 case round=>
  obtain⟨a,rfl,ha,hp,hg,hB⟩:=hrel;have a7:=Ab (j:=0) (v:= .int .i64 6) hp.out rfl;by_cases hlt:a<nw+1
  ·have h1:(a:Int)<(nw:Int)+1:=by omega
   have h2:(a:Int)<=(nw:Int):=by omega
   have b2:=J6 hg.out (Ur hlt);have a9:=frozen_of_row wr (w.heap.size+1) a _ _ hg.out;have a6:=J8 a (by omega);have a0:=Rb a (by omega);by_cases ha0:a=nw
   ·have h3:((a:Int)==(nw:Int))=true:=by simp;omega
    have b4:(a==nw)=true:=by simpa using ha0
    have HF:Hid (((f a:Nat):Int)=2^a):=by show _=_;rw[a4.out];simp[ha0]
    clear ha0;go_wp2
    have t1:(wr.setCell ⟨w.heap.size+1,a,none⟩ (.int .u64 (2^a))).heap[w.heap.size+1]? =some (.cells (C2 (J4 f (nw+1) (a+1))) 217 (0,0)):=by
     rw[←Nm,←J5,HF.out];exact Bk hg.out
    have t2:(wr.setCell ⟨w.heap.size+1,a,none⟩ (.int .u64 (2^a))).heap[w.heap.size]? =some (.cells #[.int .i64 6, .int .u32 isp, .int .u32 ism, .bool neg, .int .i64 lo, .int .i64 hi, .slice A ch.len c] 27 (0,0)):=(Below.heap_setCell wr ⟨w.heap.size+1,a,none⟩ (.int .u64 (2^a)) w.heap.size (by simp)).trans hp.out;have tB:Below w.heap.size w (wr.setCell ⟨w.heap.size+1,a,none⟩ (.int .u64 (2^a))):=hB.setCell (p:=⟨w.heap.size+1,a,none⟩) (by simp) _
    go_roundw
    case rel=>exact⟨a+1,by go_num,by omega,t2,t1,tB⟩
    case measure=>simp[intOf]<;>omega
   ·have h3:((a:Int)==(nw:Int))=false:=by simp;omega
    have b4:(a==nw)=false:=by simpa using ha0
    have b3:Hid (f a=0):=by show _=_;rw[a4.out];simp[ha0]
    clear ha0 b2 a9 a6 a0;go_wp2;have a1:=hg.out;rw[←Ht (f:=f) (m:=nw+1) (j:=a) b3.out]at a1
    go_roundw
    case rel=>exact⟨a+1,by go_num,by omega,hp,a1,hB⟩
    case measure=>simp[intOf]<;>omega
  ·obtain rfl:a=nw+1:=by omega
   have h2:¬((nw:Int)+1<=(nw:Int)):=by omega
   have a2:=hg.out;rw[Ls]at a2;clear a7;have b5:=Ab (j:=0) (v:= .int .i64 6) hp.out rfl;go_wp2;go_ret;exact⟨_,_,_,rfl,Jn a2 (by simp) (by unfold maxLen;omega),a8.out,hB⟩
theorem Anh (isp ism:Int)(neg:Bool)(lo hi:Int)(ch:Fo):Qy ⟨1,isp,ism,neg,lo,hi⟩ ch:=by
 intro w A c Aw nw cw ws hs hw hn d2 d7 hk hu;have d8:=hw.len;have hrel:Ev ⟨1,isp,ism,neg,lo,hi⟩ ws (D1 ws ch)=Tx isp ism neg ws:=rfl;rw[hrel];clear hs d2 d7 hu hrel;obtain⟨f,hf⟩:∃f:Nat->Nat,f=fun k=>match ws[k]? with|some s=>if Nv isp ism neg s then 2^(k+1)else 0|none=>0:=⟨_,rfl⟩
 have d3:Hid (Tab ((List.range (nw+1)).map f) nw (Tx isp ism neg ws)):=by
  rw[hf];refine We (fun k hk=> ?_) (fun a b ha=> ?_) (fun a b h=> ?_)
  ·cases hs:ws[k]? with
   |none=>exact D2
   |some s=>
    have:=(List.getElem?_eq_some_iff.1 hs).1
    dsimp only;split
    ·exact Jz _ (by omega)
    ·exact D2
  ·rw[Z6 _ _ _ (by omega)]
   cases hs:ws[a]? with
   |none=>simp
   |some s=>
    dsimp only;by_cases hh:Nv isp ism neg s=true
    ·rw[if_pos hh,Nat.testBit_two_pow,decide_eq_true_eq];exact⟨fun e=>⟨s,rfl,hh,e.symm⟩,fun⟨_,_,_,e⟩=>e.symm⟩
    ·rw[if_neg hh];constructor
     ·intro h;simp at h
     ·rintro⟨s',e,h,_⟩;obtain rfl:s=s':=Option.some.inj e;exact absurd h hh
  ·obtain⟨s,hs,_,_⟩:=(Z6 _ _ _ (by omega) a b).1 h
   have:=(List.getElem?_eq_some_iff.1 hs).1
   omega
 have d1:=hI hf;clear hf;have HW:=hI hw;clear hw d8;have HK:=hI hk;clear hk
 have d9:∀w:World,(Instr.makeSlice 286 (.int .i64 ((nw:Int)+1)) (.int .i64 ((nw:Int)+1))).run Tryz.prog w= .ok (.slice (some ⟨w.heap.size,0,none⟩) (nw+1) (nw+1)) (w.alloc (.cells (madeCells #[.int .u64 0] (nw+1)) 217)):=
  fun w=>run_make_row' (P:=Tryz.prog) 286 217 (.int .u64 0) 8 Tryz.underlying286 F3 rfl .i64 .i64 (nw+1) (by omega) (by omega) w
 go_enter Tryz.func278,Tryz.ntmps278;go_wp2;clear d9;rw[F4];have kp:((w.alloc (.cells #[.int .i64 1, .int .u32 isp, .int .u32 ism, .bool neg, .int .i64 lo, .int .i64 hi, .slice A ch.len c] 27)).alloc (.cells (C2 (List.replicate (nw+1) 0)) 217)).heap[w.heap.size]? =some (.cells #[.int .i64 1, .int .u32 isp, .int .u32 ism, .bool neg, .int .i64 lo, .int .i64 hi, .slice A ch.len c] 27 (0,0)):=hpt;have kg:((w.alloc (.cells #[.int .i64 1, .int .u32 isp, .int .u32 ism, .bool neg, .int .i64 lo, .int .i64 hi, .slice A ch.len c] 27)).alloc (.cells (C2 (List.replicate (nw+1) 0)) 217)).heap[w.heap.size+1]? =some (.cells (C2 (List.replicate (nw+1) 0)) 217 (0,0)):=hpt;have kB:Below w.heap.size w ((w.alloc (.cells #[.int .i64 1, .int .u32 isp, .int .u32 ism, .bool neg, .int .i64 lo, .int .i64 hi, .slice A ch.len c] 27)).alloc (.cells (C2 (List.replicate (nw+1) 0)) 217)):=bel;generalize((w.alloc (.cells #[.int .i64 1, .int .u32 isp, .int .u32 ism, .bool neg, .int .i64 lo, .int .i64 hi, .slice A ch.len c] 27)).alloc (.cells (C2 (List.replicate (nw+1) 0)) 217))=V0 at*
 go_loopw [7] (fun i wr=>∃a:Nat,i= .int .i64 a/\a<=nw+1/\Hid (wr.heap[w.heap.size]? =some (.cells #[.int .i64 1, .int .u32 isp, .int .u32 ism, .bool neg, .int .i64 lo, .int .i64 hi, .slice A ch.len c] 27 (0,0)))/\Hid (wr.heap[w.heap.size+1]? =some (.cells (C2 (J4 f (nw+1) a)) 217 (0,0)))/\Below w.heap.size w wr) (fun i _=>nw+1-(intOf i).toNat)
 case atStart=>exact⟨0,rfl,Nat.zero_le _,kp,by rw[Hs];exact kg,kB⟩
 case round=>
  obtain⟨a,rfl,ha,hp,hg,hB⟩:=hrel;have b0:=hB.size;have b3:=Ab (j:=0) (v:= .int .i64 1) hp.out rfl;by_cases hlt:a<nw+1
  ·have h1:(a:Int)<(nw:Int)+1:=by omega
   have h2:(a:Int)<=(nw:Int):=by omega
   by_cases hlt':a<nw
   ·obtain⟨b,off,p,m,rfl,hb,b5,a6,a3⟩:=(HW.out.below hB rr).at_ hlt';have b9:decide (a<nw)=true:=decide_eq_true hlt';have f4:(a:Int)<(nw:Int):=by omega
    have a5:=Ab (j:=1) (v:= .int .u32 isp) hp.out rfl;have a4:=Ab (j:=2) (v:= .int .u32 ism) hp.out rfl;have a9:=Ab (j:=3) (v:= .bool neg) hp.out rfl;have lp:=lt_of_block hp.out
    have a8:Hid (f a=if(Nv isp ism false (p,m) !=neg)then 2^(a+1)else 0):=by
     show _=_;rw[d1.out];dsimp only;rw[b5];unfold Nv;simp
    clear b5;go_wp2;refine Bj (fun W'=>W'.cell? ⟨b,off+a*2,none⟩=some (.int .u32 p)/\W'.cell? ⟨b,off+a*2+1,none⟩=some (.int .u32 m)/\W'.cell? ⟨w.heap.size,1,none⟩=some (.int .u32 isp)/\W'.cell? ⟨w.heap.size,2,none⟩=some (.int .u32 ism)/\W'.cell? ⟨w.heap.size,3,none⟩=some (.bool neg)) (by kernel_rfl) ⟨a6,a3,a5,a4,a9⟩ (fun hHeld=> ?_)
    (refine' Aa 0 rfl ?_;(try simp only[Act.put,nY,nX]));(refine' Aa 1 rfl ?_;(try simp only[Act.put,nY,nX]));(refine' Aa 2 rfl ?_;(try simp only[Act.put,nY,nX]))
    try rw[b9]
    (refine' Aa 3 rfl ?_;(try simp only[Act.put,nY,nX]));(refine' Aa 4 rfl ?_;(try simp only[Act.put,nY,nX]));(refine' Aa 5 rfl ?_;(try simp only[Act.put,nY,nX]));(refine' Aa 6 rfl ?_;(try simp only[Act.put,nY,nX]));(refine' Aa 7 rfl ?_;(try simp only[Act.put,nY,nX]));(refine' Aa 8 rfl ?_;(try simp only[Act.put,nY,nX]));(refine' Aa 9 rfl ?_;(try simp only[Act.put,nY,nX]));(refine' Aa 11 rfl ?_;(try simp only[Act.put,nY,nX]));(refine' Aa 12 rfl ?_;(try simp only[Act.put,nY,nX]))
    (refine Aqq 10 rfl (fun K' hK'=> ?_);simp only[nY];go_simp)
    refine(Alz (p,m) isp ism _ HK.out.1 HK.out.2).mono ?_;rintro e w2 ⟨rfl,a2⟩;obtain⟨hv,b4⟩:∃hv,hv=Nv isp ism false (p,m):=⟨_,rfl⟩;rw[←b4]at a8 ⊢;clear b4;have a0:Below wr.heap.size wr w2:=(Below.refl wr.heap.size wr).drew.trans a2
    have b6:w2.cell? ⟨b,off+a*2,none⟩=some (.int .u32 p)/\w2.cell? ⟨b,off+a*2+1,none⟩=some (.int .u32 m)/\w2.cell? ⟨w.heap.size,1,none⟩=some (.int .u32 isp)/\w2.cell? ⟨w.heap.size,2,none⟩=some (.int .u32 ism)/\w2.cell? ⟨w.heap.size,3,none⟩=some (.bool neg):=
     ⟨(a0.cell (p:=⟨b,off+a*2,none⟩) hb).trans a6,(a0.cell (p:=⟨b,off+a*2+1,none⟩) hb).trans a3,(a0.cell (p:=⟨w.heap.size,1,none⟩) lp).trans a5,(a0.cell (p:=⟨w.heap.size,2,none⟩) lp).trans a4,(a0.cell (p:=⟨w.heap.size,3,none⟩) lp).trans a9⟩
    refine hK' _ _ ⟨.inr b6,fun _=> ?_⟩
    clear hK' K' a2 hHeld a5 a4 a9 a6 a3;have d0:Hid (w2.heap[w.heap.size]? =some (.cells #[.int .i64 1, .int .u32 isp, .int .u32 ism, .bool neg, .int .i64 lo, .int .i64 hi, .slice A ch.len c] 27 (0,0))):=(a0.block _ lp).trans hp.out;have a1:Hid (w2.heap[w.heap.size+1]? =some (.cells (C2 (J4 f (nw+1) a)) 217 (0,0))):=(a0.block _ (lt_of_block hg.out)).trans hg.out;have b2:Below w.heap.size w w2:=hB.trans (a0.mono b0);clear hp hg hB a0 b3 b0 hb lp
    (try simp only[Act.put,nY,nX])
    (refine' Aa 13 rfl ?_;(try simp only[Act.put,nY,nX]))
    (refine Aqq 14 rfl (fun K' hK'=> ?_);simp only[nY];go_simp)
    refine hK' _ _ ⟨.inl (by kernel_rfl),fun _=>Be (by kernel_rfl) ?_ _⟩
    clear hK' K' b6;obtain⟨d,hd⟩:∃d,d=(!(hv==neg)):=⟨_,rfl⟩;have b8:Hid (f a=if d then 2^(a+1)else 0):=by show _=_;rw[a8.out,hd];rfl
    rw[←hd];clear hd a8;have f0:=J6 a1.out (Ur hlt);have d4:=frozen_of_row w2 (w.heap.size+1) a _ _ a1.out;cases d
    ·have a7:Hid (f a=0):=by show _=_;rw[b8.out];simp
     have b1:=a1.out;rw[←Ht (f:=f) (m:=nw+1) (j:=a) a7.out]at b1;clear f0 d4;go_wp2
     go_roundw
     case rel=>exact⟨a+1,by go_num,by omega,d0,b1,b2⟩
     case measure=>simp[intOf]<;>omega
    ·have HF:Hid (((f a:Nat):Int)=2^(a+1)):=by show _=_;rw[b8.out];simp
     have f2:=J8 (a+1) (by omega);have d5:=Rb (a+1) (by omega);have f1:((a:Int)+1).toNat=a+1:=by omega
     go_wp2
     have t1:(w2.setCell ⟨w.heap.size+1,a,none⟩ (.int .u64 (2^(a+1)))).heap[w.heap.size+1]? =some (.cells (C2 (J4 f (nw+1) (a+1))) 217 (0,0)):=by
      rw[←Nm,←J5,HF.out];exact Bk a1.out
     have t2:(w2.setCell ⟨w.heap.size+1,a,none⟩ (.int .u64 (2^(a+1)))).heap[w.heap.size]? =some (.cells #[.int .i64 1, .int .u32 isp, .int .u32 ism, .bool neg, .int .i64 lo, .int .i64 hi, .slice A ch.len c] 27 (0,0)):=(Below.heap_setCell w2 ⟨w.heap.size+1,a,none⟩ (.int .u64 (2^(a+1))) w.heap.size (by simp)).trans d0.out;have tB:Below w.heap.size w (w2.setCell ⟨w.heap.size+1,a,none⟩ (.int .u64 (2^(a+1)))):=b2.setCell (p:=⟨w.heap.size+1,a,none⟩) (by simp) _
     go_roundw
     case rel=>exact⟨a+1,by go_num,by omega,t2,t1,tB⟩
     case measure=>simp[intOf]<;>omega
   ·obtain rfl:a=nw:=by omega
    have b9:decide (a<a)=false:=decide_eq_false (by omega)
    have a7:Hid (f a=0):=by
     show _=_;rw[d1.out];dsimp only;rw[List.getElem?_eq_none (by rw[HW.out.len];exact rr)]
    go_wp2
    go_quiet (fail)
    have a1:=hg.out;rw[←Ht (f:=f) (m:=a+1) (j:=a) a7.out]at a1;have d6:=hB.drewN nq;go_wp2
    go_roundw
    case rel=>exact⟨a+1,by go_num,by omega,hp,a1,d6⟩
    case measure=>simp[intOf]<;>omega
  ·obtain rfl:a=nw+1:=by omega
   have h2:¬((nw:Int)+1<=(nw:Int)):=by omega
   have b7:=hg.out;rw[Ls]at b7;clear b3;have f3:=Ab (j:=0) (v:= .int .i64 1) hp.out rfl;go_wp2;go_ret;exact⟨_,_,_,rfl,Jn b7 (by simp) (by unfold maxLen;omega),d3.out,hB⟩
theorem Ani (isp ism:Int)(neg:Bool)(lo hi:Int)(ch:Fo)(ih:∀j k' ch',ch.get j=some (k',ch')->Qy k' ch'):Qy ⟨3,isp,ism,neg,lo,hi⟩ ch:=by
 intro w A c Aw nw cw ws hs hw hn d9 d7 hk hu;have f6:ch.len<=9223372036854775807:=by have h1:=hs.1.2.1;have h2:=hs.1.2.2.1;unfold maxLen at h2;omega
 have d3:=hw.len;have hrel:Ev ⟨3,isp,ism,neg,lo,hi⟩ ws (D1 ws ch)=(D1 ws ch).foldl Cx (idR nw):=by rw[←d3];rfl
 rw[hrel];have HI:=hI ih;clear ih;have HS:=hI hs;clear hs;have HW:=hI hw;clear hw;have f9:=hI d7;clear d7;have HU:=hI hu;clear hu;clear hrel d3 d9 hk;obtain⟨f,hf⟩:∃f:Nat->Nat,f=fun _=>0:=⟨_,rfl⟩
 have g4:=hI hf;clear hf
 have f3:∀w:World,(Instr.makeSlice 286 (.int .i64 ((nw:Int)+1)) (.int .i64 ((nw:Int)+1))).run Tryz.prog w= .ok (.slice (some ⟨w.heap.size,0,none⟩) (nw+1) (nw+1)) (w.alloc (.cells (madeCells #[.int .u64 0] (nw+1)) 217)):=
  fun w=>run_make_row' (P:=Tryz.prog) 286 217 (.int .u64 0) 8 Tryz.underlying286 F3 rfl .i64 .i64 (nw+1) (by omega) (by omega) w
 go_enter Tryz.func278,Tryz.ntmps278;go_wp2;clear f3;rw[F4];have kp:((w.alloc (.cells #[.int .i64 3, .int .u32 isp, .int .u32 ism, .bool neg, .int .i64 lo, .int .i64 hi, .slice A ch.len c] 27)).alloc (.cells (C2 (List.replicate (nw+1) 0)) 217)).heap[w.heap.size]? =some (.cells #[.int .i64 3, .int .u32 isp, .int .u32 ism, .bool neg, .int .i64 lo, .int .i64 hi, .slice A ch.len c] 27 (0,0)):=hpt;have kg:((w.alloc (.cells #[.int .i64 3, .int .u32 isp, .int .u32 ism, .bool neg, .int .i64 lo, .int .i64 hi, .slice A ch.len c] 27)).alloc (.cells (C2 (List.replicate (nw+1) 0)) 217)).heap[w.heap.size+1]? =some (.cells (C2 (List.replicate (nw+1) 0)) 217 (0,0)):=hpt;have kB:Below w.heap.size w ((w.alloc (.cells #[.int .i64 3, .int .u32 isp, .int .u32 ism, .bool neg, .int .i64 lo, .int .i64 hi, .slice A ch.len c] 27)).alloc (.cells (C2 (List.replicate (nw+1) 0)) 217)):=bel;generalize((w.alloc (.cells #[.int .i64 3, .int .u32 isp, .int .u32 ism, .bool neg, .int .i64 lo, .int .i64 hi, .slice A ch.len c] 27)).alloc (.cells (C2 (List.replicate (nw+1) 0)) 217))=V0 at*
 go_loopw [7] (fun i wr=>∃a:Nat,i= .int .i64 a/\a<=nw+1/\Hid (wr.heap[w.heap.size]? =some (.cells #[.int .i64 3, .int .u32 isp, .int .u32 ism, .bool neg, .int .i64 lo, .int .i64 hi, .slice A ch.len c] 27 (0,0)))/\Hid (wr.heap[w.heap.size+1]? =some (.cells (C2 (J4 f (nw+1) a)) 217 (0,0)))/\Below w.heap.size w wr) (fun i _=>nw+1-(intOf i).toNat)
 case atStart=>exact⟨0,rfl,Nat.zero_le _,kp,by rw[Hs];exact kg,kB⟩
 case round=>
  obtain⟨a,rfl,ha,hp,hg,hB⟩:=hrel;have g7:=Ab (j:=0) (v:= .int .i64 3) hp.out rfl;by_cases hlt:a<nw+1
  ·have h1:(a:Int)<(nw:Int)+1:=by omega
   have h2:(a:Int)<=(nw:Int):=by omega
   have f4:Hid (f a=0):=by show _=_;rw[g4.out]
   go_wp2;have d1:=hg.out;rw[←Ht (f:=f) (m:=nw+1) (j:=a) f4.out]at d1
   go_roundw
   case rel=>exact⟨a+1,by go_num,by omega,hp,d1,hB⟩
   case measure=>simp[intOf]<;>omega
  obtain rfl:a=nw+1:=by omega
  have h2:¬((nw:Int)+1<=(nw:Int)):=by omega
  go_wp2_with fail;refine(Aju nw wr hn).mono ?_;rintro e w1 ⟨A1,n1,c1,rfl,a9,b0⟩;obtain rfl:n1=nw+1:=by rw[←a9.len,Zw]
  have d8:=hI ((b0.block w.heap.size (lt_of_block hp.out)).trans hp.out);have g1:=hB.trans (b0.mono hB.size);have f7:=hI a9;clear a9;clear b0 g7 hp hg hB ha hlt;go_wp2
  go_loopw [6,8] (fun v i wr=>∃(j:Nat) (A6:Option Addr) (c6:Nat) (T:List Nat),v= .slice A6 (nw+1) c6/\i= .int .i64 j/\j<=ch.len/\Hid (wr.heap[w.heap.size]? =some (.cells #[.int .i64 3, .int .u32 isp, .int .u32 ism, .bool neg, .int .i64 lo, .int .i64 hi, .slice A ch.len c] 27 (0,0)))/\Hid (E4 wr A6 (nw+1) c6 T)/\Hid (Tab T nw (((D1 ws ch).take j).foldl Cx (idR nw)))/\Below w.heap.size w wr) (fun _ i _=>ch.len-(intOf i).toNat)
  case atStart=>exact⟨0,A1,c1,idT nw,rfl,rfl,Nat.zero_le _,d8.out,f7.out,Us hn,g1⟩
  case round=>
   obtain⟨j,A6,c6,T,rfl,rfl,hj,b6,d6,a1,hC⟩:=hrel;have i0:=hC.size;have g0:=Ab (j:=6) (v:= .slice A ch.len c) b6.out rfl;by_cases hjl:j<ch.len
   ·obtain⟨⟨k',ch'⟩,a0⟩:=ch.get_lt j hjl;obtain⟨b,off,A',n',c',hA,i2,⟨h0,h1,h2,h3,h4,h5,h6⟩,⟨rfl,g3⟩,a5,_⟩:=(HS.out.below hC rr).2.at_ ch _ 0 j k' ch' a0;obtain⟨b9,d0⟩:=FoU.get ch j k' ch' HU.out a0;obtain⟨a3,a4⟩:=okF.at_ ch j k' ch' f9.out a0;have d4:=Qx ws ch j k' ch' a0;have a2:(Ev k' ws (D1 ws ch')).length=33:=S5 a3 (Ew ws ch') fun r hr=>(Jf (by rw[HW.out.len];exact hn) ch' a4 r hr).2
    have g5:=hI a2;clear a2;have HG:=hI a0;clear a0;have g8:=hI a5;clear a5;have f5:=hI b9;clear b9;have g2:=hI d0;clear d0;have b2:=hI a3;clear a3;have b4:=hI a4;clear a4;have g9:=hI d4;clear d4;subst hA;simp only[Nat.zero_add]at h0 h1 h2 h3 h4 h5 h6;go_wp2_with fail;refine(HI.out j k' ch' HG.out wr A' c' Aw nw cw ws ⟨⟨rfl,g3⟩,g8.out⟩ (HW.out.below hC rr) hn b2.out b4.out f5.out g2.out).mono ?_;rintro e w7 ⟨A7,c7,T7,rfl,b8,a6,a8⟩;have i1:=hI b8;clear b8;have a7:=hI a6;clear a6;have d5:=hI ((a8.block w.heap.size (lt_of_block b6.out)).trans b6.out);have g6:=hI (d6.out.below a8 rr);have d2:=hC.trans (a8.mono i0);clear a8 h0 h1 h2 h3 h4 h5 h6 g0;go_wp2_with fail;refine(Q0 A6 A7 (nw+1) c6 (nw+1) c7 T T7 w7 g6.out i1.out (by omega) (by omega) a1.out.2.1 a7.out.2.1).mono ?_;rintro e w8 ⟨A8,n8,c8,rfl,b3,b1⟩;obtain rfl:n8=nw+1:=by rw[←b3.len,Dj,a1.out.1]
    have f8:=hI b3;clear b3;have f2:=hI ((b1.block w.heap.size (lt_of_block d5.out)).trans d5.out);have f0:=d2.trans (b1.mono d2.size)
    have b7:Hid (Tab (Cx T T7) nw (((D1 ws ch).take (j+1)).foldl Cx (idR nw))):=by
     show Tab _ _ _;rw[Wf _ _ _ _ _ g9.out];exact a1.out.follow a7.out
    clear b1;go_wp2
    go_roundw
    case rel=>exact⟨j+1,A8,c8,Cx T T7,rfl,by go_num,by omega,f2,f8,b7,f0⟩
    case measure=>simp[intOf]<;>omega
   ·obtain rfl:j=ch.len:=by omega
    have b5:=a1.out;rw[List.take_of_length_le (by rw[Ew];exact rr)]at b5;have f1:=hI b5;clear b5;go_wp2;go_ret;exact⟨A6,c6,T,rfl,d6.out,f1.out,hC⟩
theorem Anj (isp ism:Int)(neg:Bool)(lo hi:Int)(ch:Fo)(ih:∀j k' ch',ch.get j=some (k',ch')->Qy k' ch'):Qy ⟨4,isp,ism,neg,lo,hi⟩ ch:=by
 intro w A c Aw nw cw ws hs hw hn f0 d1 hk hu;have f7:ch.len<=9223372036854775807:=by have h1:=hs.1.2.1;have h2:=hs.1.2.2.1;unfold maxLen at h2;omega
 have hrel:Ev ⟨4,isp,ism,neg,lo,hi⟩ ws (D1 ws ch)=(D1 ws ch).foldl orR B8:=rfl;rw[hrel]
 have g3:Hid (∀q,(((D1 ws ch).take q).foldl orR B8).length=33):=by
  intro q;exact Mz _ (fun r hr=>(Jf (by rw[hw.len];exact hn) ch d1 r (List.mem_of_mem_take hr)).2) _ rfl
 have HI:=hI ih;clear ih;have HS:=hI hs;clear hs;have HW:=hI hw;clear hw;have f9:=hI d1;clear d1;have HU:=hI hu;clear hu;clear hrel f0 hk;obtain⟨f,hf⟩:∃f:Nat->Nat,f=fun _=>0:=⟨_,rfl⟩
 have b4:=hI hf;clear hf
 have f4:∀w:World,(Instr.makeSlice 286 (.int .i64 ((nw:Int)+1)) (.int .i64 ((nw:Int)+1))).run Tryz.prog w= .ok (.slice (some ⟨w.heap.size,0,none⟩) (nw+1) (nw+1)) (w.alloc (.cells (madeCells #[.int .u64 0] (nw+1)) 217)):=
  fun w=>run_make_row' (P:=Tryz.prog) 286 217 (.int .u64 0) 8 Tryz.underlying286 F3 rfl .i64 .i64 (nw+1) (by omega) (by omega) w
 go_enter Tryz.func278,Tryz.ntmps278;go_wp2;clear f4;rw[F4];have kp:((w.alloc (.cells #[.int .i64 4, .int .u32 isp, .int .u32 ism, .bool neg, .int .i64 lo, .int .i64 hi, .slice A ch.len c] 27)).alloc (.cells (C2 (List.replicate (nw+1) 0)) 217)).heap[w.heap.size]? =some (.cells #[.int .i64 4, .int .u32 isp, .int .u32 ism, .bool neg, .int .i64 lo, .int .i64 hi, .slice A ch.len c] 27 (0,0)):=hpt;have kg:((w.alloc (.cells #[.int .i64 4, .int .u32 isp, .int .u32 ism, .bool neg, .int .i64 lo, .int .i64 hi, .slice A ch.len c] 27)).alloc (.cells (C2 (List.replicate (nw+1) 0)) 217)).heap[w.heap.size+1]? =some (.cells (C2 (List.replicate (nw+1) 0)) 217 (0,0)):=hpt;have kB:Below w.heap.size w ((w.alloc (.cells #[.int .i64 4, .int .u32 isp, .int .u32 ism, .bool neg, .int .i64 lo, .int .i64 hi, .slice A ch.len c] 27)).alloc (.cells (C2 (List.replicate (nw+1) 0)) 217)):=bel;generalize((w.alloc (.cells #[.int .i64 4, .int .u32 isp, .int .u32 ism, .bool neg, .int .i64 lo, .int .i64 hi, .slice A ch.len c] 27)).alloc (.cells (C2 (List.replicate (nw+1) 0)) 217))=V0 at*
 go_loopw [7] (fun i wr=>∃a:Nat,i= .int .i64 a/\a<=nw+1/\Hid (wr.heap[w.heap.size]? =some (.cells #[.int .i64 4, .int .u32 isp, .int .u32 ism, .bool neg, .int .i64 lo, .int .i64 hi, .slice A ch.len c] 27 (0,0)))/\Hid (wr.heap[w.heap.size+1]? =some (.cells (C2 (J4 f (nw+1) a)) 217 (0,0)))/\Below w.heap.size w wr) (fun i _=>nw+1-(intOf i).toNat)
 case atStart=>exact⟨0,rfl,Nat.zero_le _,kp,by rw[Hs];exact kg,kB⟩
 case round=>
  obtain⟨a,rfl,ha,hp,hg,hB⟩:=hrel;have i1:=Ab (j:=0) (v:= .int .i64 4) hp.out rfl;by_cases hlt:a<nw+1
  ·have h1:(a:Int)<(nw:Int)+1:=by omega
   have h2:(a:Int)<=(nw:Int):=by omega
   have f5:Hid (f a=0):=by show _=_;rw[b4.out]
   go_wp2;have d5:=hg.out;rw[←Ht (f:=f) (m:=nw+1) (j:=a) f5.out]at d5
   go_roundw
   case rel=>exact⟨a+1,by go_num,by omega,hp,d5,hB⟩
   case measure=>simp[intOf]<;>omega
  obtain rfl:a=nw+1:=by omega
  have h2:¬((nw:Int)+1<=(nw:Int)):=by omega
  have a2:Tab ((List.range (nw+1)).map f) nw B8:=by
   refine We (fun k _=>by rw[b4.out];exact D2) (fun a b _=> ?_) (fun a b h=>absurd h (Rj a b));rw[b4.out];exact⟨fun h=>by simp at h,fun h=>absurd h (Rj a b)⟩
  have d0:=hg.out;rw[Ls]at d0;have g7:=hI (Jn d0 (n:=nw+1) (by simp) (by unfold maxLen;omega));have a6:=hI a2;clear a2 d0 hg ha hlt;go_wp2
  go_loopw [6,9] (fun v i wr=>∃(j:Nat) (A6:Option Addr) (c6:Nat) (T:List Nat),v= .slice A6 (nw+1) c6/\i= .int .i64 j/\j<=ch.len/\Hid (wr.heap[w.heap.size]? =some (.cells #[.int .i64 4, .int .u32 isp, .int .u32 ism, .bool neg, .int .i64 lo, .int .i64 hi, .slice A ch.len c] 27 (0,0)))/\Hid (E4 wr A6 (nw+1) c6 T)/\Hid (Tab T nw (((D1 ws ch).take j).foldl orR B8))/\Below w.heap.size w wr) (fun _ i _=>ch.len-(intOf i).toNat)
  case atStart=>exact⟨0,some ⟨w.heap.size+1,0,none⟩,nw+1,_,rfl,rfl,Nat.zero_le _,hp,g7.out,a6.out,hB⟩
  case round=>
   obtain⟨j,A6,c6,T,rfl,rfl,hj,b9,d9,a3,hC⟩:=hrel;have g8:=hC.size;have g0:=Ab (j:=6) (v:= .slice A ch.len c) b9.out rfl;by_cases hjl:j<ch.len
   ·obtain⟨⟨k',ch'⟩,a0⟩:=ch.get_lt j hjl;obtain⟨b,off,A',n',c',hA,i0,⟨h0,h1,h2,h3,h4,h5,h6⟩,⟨rfl,g2⟩,a7,_⟩:=(HS.out.below hC rr).2.at_ ch _ 0 j k' ch' a0;obtain⟨d3,d4⟩:=FoU.get ch j k' ch' HU.out a0;obtain⟨a4,a5⟩:=okF.at_ ch j k' ch' f9.out a0;have d7:=Qx ws ch j k' ch' a0;have a1:(Ev k' ws (D1 ws ch')).length=33:=S5 a4 (Ew ws ch') fun r hr=>(Jf (by rw[HW.out.len];exact hn) ch' a5 r hr).2
    have b5:=hI a1;clear a1;have HG:=hI a0;clear a0;have g5:=hI a7;clear a7;have f6:=hI d3;clear d3;have g1:=hI d4;clear d4;have b3:=hI a4;clear a4;have b7:=hI a5;clear a5;have g6:=hI d7;clear d7;subst hA;simp only[Nat.zero_add]at h0 h1 h2 h3 h4 h5 h6;go_wp2_with fail;refine(HI.out j k' ch' HG.out wr A' c' Aw nw cw ws ⟨⟨rfl,g2⟩,g5.out⟩ (HW.out.below hC rr) hn b3.out b7.out f6.out g1.out).mono ?_;rintro e w7 ⟨A7,c7,T7,rfl,d2,a8,b1⟩;have g9:=hI d2;clear d2;have a9:=hI a8;clear a8;have d8:=hI ((b1.block w.heap.size (lt_of_block b9.out)).trans b9.out);have g4:=hI (d9.out.below b1 rr);have d6:=hC.trans (b1.mono g8);clear b1 h0 h1 h2 h3 h4 h5 h6 g0;go_wp2_with fail;refine(Ajv A6 A7 (nw+1) c6 c7 T T7 w7 g4.out g9.out (by omega) a3.out.2.1 a9.out.2.1).mono ?_;rintro e w8 ⟨A8,n8,c8,rfl,b6,b2⟩
    have b0:Hid (Tab (orR T T7) nw (((D1 ws ch).take (j+1)).foldl orR B8)):=by
     show Tab _ _ _;rw[Wf _ _ _ _ _ g6.out];exact a3.out.join a9.out (by rw[g3.out,b5.out])
    obtain rfl:n8=nw+1:=by rw[←b6.len,b0.out.1]
    have f8:=hI b6;clear b6;have f3:=hI ((b2.block w.heap.size (lt_of_block d8.out)).trans d8.out);have f1:=d6.trans (b2.mono d6.size);clear b2;go_wp2
    go_roundw
    case rel=>exact⟨j+1,A8,c8,orR T T7,rfl,by go_num,by omega,f3,f8,b0,f1⟩
    case measure=>simp[intOf]<;>omega
   ·obtain rfl:j=ch.len:=by omega
    have b8:=a3.out;rw[List.take_of_length_le (by rw[Ew];exact rr)]at b8;have f2:=hI b8;clear b8;go_wp2;go_ret;exact⟨A6,c6,T,rfl,d9.out,f2.out,hC⟩
theorem Ank {x y:List Nat}(hl:x.length=y.length)(h:∀a b,Bt x a b↔Bt y a b):x=y:=by
 apply List.ext_getElem hl;intro a h1 h2;apply Nat.eq_of_testBit_eq;intro b;have h3:=h a b;unfold Bt at h3;rw[D4 (List.getElem?_eq_getElem h1),D4 (List.getElem?_eq_getElem h2)]at h3;rw[Bool.eq_iff_iff];exact h3
def Reps (R:Nat->Nat->Prop)(n lo k a b:Nat):Prop:=a<=n∧∃j,lo<=j/\j<k/\It R j a b
theorem Nn {R:Nat->Nat->Prop}{n lo k a b:Nat}(hk:lo<=k):Reps R n lo (k+1) a b↔Reps R n lo k a b\/(a<=n/\It R k a b):=by
 unfold Reps;constructor
 ·rintro⟨ha,j,h1,h2,h3⟩;by_cases h:j<k
  ·exact .inl ⟨ha,j,h1,h,h3⟩
  ·obtain rfl:j=k:=by omega
   exact .inr ⟨ha,h3⟩
 ·rintro(⟨ha,j,h1,h2,h3⟩|⟨ha,h⟩)
  ·exact⟨ha,j,h1,by omega,h3⟩
  ·exact⟨ha,k,hk,by omega,h⟩
theorem Agm {R:Nat->Nat->Prop}{n lo k a b:Nat}(hk:k<lo):Reps R n lo (k+1) a b↔Reps R n lo k a b:=by
 unfold Reps;exact⟨fun⟨_,j,_,_,_⟩=>by omega,fun⟨_,j,_,_,_⟩=>by omega⟩
theorem Ajr {R:Nat->Nat->Prop}{n lo k:Nat}{hi:Int}(hk:lo<=k)(hh:(k:Int)=hi)(a b:Nat):Reps R n lo (k+1) a b↔a<=n∧∃j,j<=Fu lo hi n/\It R (lo+j) a b:=by
 have e:Fu lo hi n=k-lo:=by unfold Fu;rw[if_neg (by omega)];omega
 rw[e];unfold Reps;constructor
 ·rintro⟨ha,j,h1,h2,h3⟩;exact⟨ha,j-lo,by omega,by rw[show lo+(j-lo)=j by omega];exact h3⟩
 ·rintro⟨ha,j,h1,h2⟩;exact⟨ha,lo+j,by omega,by omega,h2⟩
theorem Ad1 {R:Nat->Nat->Prop}{n lo k:Nat}{hi:Int}(hR:Inn R n)(hk:lo<k)(hh:hi= -1\/(k:Int)<hi)(hst:∀a b,a<=n->It R k a b->Reps R n lo k a b)(a b:Nat):
  Reps R n lo (k+1) a b↔a<=n∧∃j,j<=Fu lo hi n/\It R (lo+j) a b:=by
 rw[Nn (by omega)];constructor
 ·intro h
  obtain⟨ha,j,h1,h2,h3⟩:Reps R n lo k a b:=by
   rcases h with h|⟨ha,h⟩
   ·exact h
   ·exact hst a b ha h
  refine⟨ha, ?_⟩;rcases hh with rfl|hh
  ·have e:Fu lo (-1) n=n:=rfl;rw[e];rw[show j=lo+(j-lo)by omega,G8]at h3;obtain⟨m,h4,h5⟩:=h3;obtain⟨i,h6,_,h7⟩:=Akp hR _ m b h5 (S4 hR _ _ _ h4 ha).2;exact⟨i,h6,(G8 lo i a b).2 ⟨m,h4,h7⟩⟩
  ·have e:Fu lo hi n=(hi-lo).toNat:=by unfold Fu;rw[if_neg (by omega)]
   rw[e];exact⟨j-lo,by omega,by rw[show lo+(j-lo)=j by omega];exact h3⟩
 ·rintro⟨ha,j,_,h2⟩;by_cases h:lo+j<k
  ·exact .inl ⟨ha,lo+j,by omega,h,h2⟩
  ·rw[show lo+j=k+(lo+j-k)by omega]at h2;obtain⟨i,h3,h4,h5⟩:=Acf hk (fun b hb=>(hst a b ha hb).2) _ b h2;exact .inl ⟨ha,i,h3,h4,h5⟩
theorem Agn {R:Nat->Nat->Prop}{n lo k:Nat}(hR:Inn R n)(hk:lo+n<k)(a b:Nat)(ha:a<=n)(h:It R k a b):Reps R n lo k a b:=by
 rw[show k=lo+(k-lo)by omega,G8]at h;obtain⟨m,h1,h2⟩:=h;obtain⟨i,h3,_,h4⟩:=Akp hR _ m b h2 (S4 hR _ _ _ h1 ha).2;exact⟨ha,lo+i,by omega,by omega,(G8 lo i a b).2 ⟨m,h1,h4⟩⟩
theorem Anl (isp ism:Int)(neg:Bool)(lo hi:Int)(ch:Fo)(ih:∀j k' ch',ch.get j=some (k',ch')->Qy k' ch'):Qy ⟨5,isp,ism,neg,lo,hi⟩ ch:=by
 intro w A c Aw nw cw ws hs hw hn j9 j6 hk hu;obtain⟨g1,f5,i2,k5⟩:=Jb rfl j9;obtain⟨L,hL⟩:∃L:Nat,lo=L:=⟨lo.toNat,by have:(0:Int)<=lo:=f5;omega⟩;dsimp only at f5 i2 k5;have o1:L<=32:=by omega
 obtain⟨⟨k',ch'⟩,a6⟩:=ch.get_lt 0 (by omega);obtain⟨k0,k1⟩:=FoU.get ch 0 k' ch' hu a6;obtain⟨f8,g0⟩:=okF.at_ ch 0 k' ch' j6 a6;obtain⟨r,hr⟩:∃r,r=Ev k' ws (D1 ws ch'):=⟨_,rfl⟩;have d7:(D1 ws ch)[0]? =some r:=by rw[hr];exact Qx ws ch 0 k' ch' a6
 have g6:=Jf (by rw[hw.len];exact hn) ch j6 r (List.mem_of_getElem? d7)
 have hrel:Ev ⟨5,isp,ism,neg,lo,hi⟩ ws (D1 ws ch)=Pf r L hi nw:=by
  have h1:(D1 ws ch).headD []=r:=by
   cases hz:D1 ws ch with
   |nil=>rw[hz]at d7;cases d7
   |cons x y=>rw[hz]at d7;simpa using d7
  rw[←hw.len];show Pf ((D1 ws ch).headD []) lo.toNat hi ws.length=_;rw[h1,hL];rfl
 rw[hrel];have f3:Hid (∀a b,Bt (Pf r L hi nw) a b↔a<=nw∧∃j,j<=Fu L hi nw/\It (Bt r) (L+j) a b):=fun a b=>Afj hn g6.2 (by rw[←hw.len];exact g6.1) (by omega) (Y0 hn (by omega)) a b
 have f4:Hid (Inn (Bt r) nw):=by show Inn _ _;rw[←hw.len];exact g6.1
 have HI:=hI (ih 0 k' ch' a6);clear ih;have HS:=hI hs;clear hs;have HW:=hI hw;clear hw;have HR:=hI hr;clear hr;have o0:=hI k0;clear k0;have o5:=hI k1;clear k1;have i8:=hI f8;clear f8;have j1:=hI g0;clear g0;have HG:=hI a6;clear a6;clear hrel j9 hk d7 g6 j6 hu;have d2:=hI hL;clear hL;have k8:0<ch.len:=by omega
 have m3:=hI g1;clear g1;obtain⟨f,hf⟩:∃f:Nat->Nat,f=fun _=>0:=⟨_,rfl⟩
 have i9:=hI hf;clear hf
 have m6:∀w:World,(Instr.makeSlice 286 (.int .i64 ((nw:Int)+1)) (.int .i64 ((nw:Int)+1))).run Tryz.prog w= .ok (.slice (some ⟨w.heap.size,0,none⟩) (nw+1) (nw+1)) (w.alloc (.cells (madeCells #[.int .u64 0] (nw+1)) 217)):=
  fun w=>run_make_row' (P:=Tryz.prog) 286 217 (.int .u64 0) 8 Tryz.underlying286 F3 rfl .i64 .i64 (nw+1) (by omega) (by omega) w
 go_enter Tryz.func278,Tryz.ntmps278;go_wp2;clear m6;rw[F4];have kp:((w.alloc (.cells #[.int .i64 5, .int .u32 isp, .int .u32 ism, .bool neg, .int .i64 lo, .int .i64 hi, .slice A ch.len c] 27)).alloc (.cells (C2 (List.replicate (nw+1) 0)) 217)).heap[w.heap.size]? =some (.cells #[.int .i64 5, .int .u32 isp, .int .u32 ism, .bool neg, .int .i64 lo, .int .i64 hi, .slice A ch.len c] 27 (0,0)):=hpt;have kg:((w.alloc (.cells #[.int .i64 5, .int .u32 isp, .int .u32 ism, .bool neg, .int .i64 lo, .int .i64 hi, .slice A ch.len c] 27)).alloc (.cells (C2 (List.replicate (nw+1) 0)) 217)).heap[w.heap.size+1]? =some (.cells (C2 (List.replicate (nw+1) 0)) 217 (0,0)):=hpt;have kB:Below w.heap.size w ((w.alloc (.cells #[.int .i64 5, .int .u32 isp, .int .u32 ism, .bool neg, .int .i64 lo, .int .i64 hi, .slice A ch.len c] 27)).alloc (.cells (C2 (List.replicate (nw+1) 0)) 217)):=bel;generalize((w.alloc (.cells #[.int .i64 5, .int .u32 isp, .int .u32 ism, .bool neg, .int .i64 lo, .int .i64 hi, .slice A ch.len c] 27)).alloc (.cells (C2 (List.replicate (nw+1) 0)) 217))=V0 at*
 go_loopw [7] (fun i wr=>∃a:Nat,i= .int .i64 a/\a<=nw+1/\Hid (wr.heap[w.heap.size]? =some (.cells #[.int .i64 5, .int .u32 isp, .int .u32 ism, .bool neg, .int .i64 lo, .int .i64 hi, .slice A ch.len c] 27 (0,0)))/\Hid (wr.heap[w.heap.size+1]? =some (.cells (C2 (J4 f (nw+1) a)) 217 (0,0)))/\Below w.heap.size w wr) (fun i _=>nw+1-(intOf i).toNat)
 case atStart=>exact⟨0,rfl,Nat.zero_le _,kp,by rw[Hs];exact kg,kB⟩
 case round=>
  obtain⟨a,rfl,ha,hp,hg,hB⟩:=hrel;have o8:=Ab (j:=0) (v:= .int .i64 5) hp.out rfl;by_cases hlt:a<nw+1
  ·have h1:(a:Int)<(nw:Int)+1:=by omega
   have h2:(a:Int)<=(nw:Int):=by omega
   have m7:Hid (f a=0):=by show _=_;rw[i9.out]
   go_wp2;have k3:=hg.out;rw[←Ht (f:=f) (m:=nw+1) (j:=a) m7.out]at k3
   go_roundw
   case rel=>exact⟨a+1,by go_num,by omega,hp,k3,hB⟩
   case measure=>simp[intOf]<;>omega
  obtain rfl:a=nw+1:=by omega
  have h2:¬((nw:Int)+1<=(nw:Int)):=by omega
  have b5:(∀a b,Bt ((List.range (nw+1)).map f) a b↔Reps (Bt r) nw L 0 a b)/\Bw ((List.range (nw+1)).map f):=by
   constructor
   ·intro a b;rw[Ri,i9.out];exact⟨fun h=>by simp at h,fun⟨_,j,_,h,_⟩=>by omega⟩
   ·intro s hs;obtain⟨q,_,rfl⟩:=List.mem_map.1 hs;rw[i9.out];exact D2
  have j5:=hg.out;rw[Ls]at j5;have m0:=hI (Jn j5 (n:=nw+1) (by simp) (by unfold maxLen;omega));have f0:=hI b5;have o2:=Ab (j:=6) (v:= .slice A ch.len c) hp.out rfl;have k7:=hB.size;obtain⟨b,off,A',n',c',hA,m9,⟨h0,h1,k2,h3,h4,h5,h6⟩,⟨rfl,o6⟩,f1,_⟩:=(HS.out.below hB rr).2.at_ ch _ 0 0 k' ch' HG.out;have o9:=hI f1;clear f1;subst hA;have k9:(0:Int)<(ch.len:Int):=by omega
  simp only[Nat.zero_add,Nat.zero_mul,Nat.add_zero]at h0 h1 k2 h3 h4 h5 h6;clear b5 j5 hg ha hlt;go_wp2_with fail;refine(HI.out wr A' c' Aw nw cw ws ⟨⟨rfl,o6⟩,o9.out⟩ (HW.out.below hB rr) hn i8.out j1.out o0.out o5.out).mono ?_;rw[←HR.out];rintro e w7 ⟨A7,c7,T7,rfl,d5,f2,g8⟩;have m4:=hI d5;clear d5;have a2:=hI f2;clear f2;have j3:=hI ((g8.block w.heap.size (lt_of_block hp.out)).trans hp.out);have g3:=hI (m0.out.below g8 rr);have k4:=hB.trans (g8.mono k7);clear g8 h0 h1 k2 h3 h4 h5 h6 o2 o8 hp hB k7 m0 m9 h2;go_wp2_with fail;refine(Aju nw w7 hn).mono ?_;rintro e w8 ⟨A8,n8,c8,rfl,b4,a8⟩;obtain rfl:n8=nw+1:=by rw[←b4.len,Zw]
  have d0:=hI b4;clear b4;have m5:=hI ((a8.block w.heap.size (lt_of_block j3.out)).trans j3.out);have j0:=hI (g3.out.below a8 rr);have i4:=hI (m4.out.below a8 rr);have b6:=k4.trans (a8.mono k4.size)
  have o3:Hid (∀a b,Bt (idT nw) a b↔a<=nw/\It (Bt r) 0 a b):=by
   intro a b;rw[(Us hn).2.2,Pq hn];exact⟨fun h=>⟨h.2,h.1⟩,fun h=>⟨h.2,h.1⟩⟩
  clear a8 g3 m4 j3;go_wp2
  go_loopw [6,11,12] (fun v6 v11 v12 wr=>∃(k:Nat) (A6:Option Addr) (c6:Nat) (T:List Nat) (A11:Option Addr) (c11:Nat) (M:List Nat),v6= .slice A6 (nw+1) c6/\v11= .slice A11 (nw+1) c11/\v12= .int .i64 k∧
    k<=66/\Hid ((hi= -1/\k<=L+nw+1)\/(k:Int)<=hi)/\Hid (wr.heap[w.heap.size]? =some (.cells #[.int .i64 5, .int .u32 isp, .int .u32 ism, .bool neg, .int .i64 lo, .int .i64 hi, .slice (some ⟨b,off,none⟩) ch.len c] 27 (0,0)))∧
    Hid (E4 wr A6 (nw+1) c6 T)/\Hid (E4 wr A11 (nw+1) c11 M)/\Hid (E4 wr A7 (nw+1) c7 T7)∧
    Hid ((∀a b,Bt T a b↔Reps (Bt r) nw L k a b)/\Bw T)/\Hid ((∀a b,Bt M a b↔a<=nw/\It (Bt r) k a b)/\Bw M)/\Below w.heap.size w wr) (fun _ _ v12 _=>70-(intOf v12).toNat)
  case atStart=>
   refine⟨0,_,_,_,_,_,_,rfl,rfl,rfl,by omega, ?_,m5.out,j0.out,d0.out,i4.out,f0.out,⟨o3.out,(Us hn).2.1⟩,b6⟩;rcases k5 with h|h
   ·exact .inl ⟨h,by omega⟩
   ·exact .inr (by omega)
  case round=>
   obtain⟨k,A6,c6,T,A11,c11,M,rfl,rfl,rfl,hk,g5,d9,i0,a5,d5,a4,a0,hC⟩:=hrel;have m2:=hC.size;have k6:=Ab (j:=4) (v:= .int .i64 lo) d9.out rfl;have m1:=Ab (j:=5) (v:= .int .i64 hi) d9.out rfl
   have b1:Hid (∀a b,Bt (Cx M T7) a b↔a<=nw/\It (Bt r) (k+1) a b):=by
    intro a b;rw[Je];constructor
    ·rintro⟨m,h1,h2⟩;obtain⟨h3,h4⟩:=(a0.out.1 a m).1 h1;exact⟨h3,(G8 k 1 a b).2 ⟨m,h4,Z7.2 ((a2.out.2.2 m b).1 h2)⟩⟩
    ·rintro⟨h3,h4⟩;obtain⟨m,h5,h6⟩:=(G8 k 1 a b).1 h4;exact⟨m,(a0.out.1 a m).2 ⟨h3,h5⟩,(a2.out.2.2 m b).2 (Z7.1 h6)⟩
   by_cases hkl:lo<=(k:Int)
   case neg=>
    have o7:decide (lo<=(k:Int))=false:=decide_eq_false hkl
    have HN:Hid (∀a b,Bt T a b↔Reps (Bt r) nw L (k+1) a b):=by
     intro a b;rw[a4.out.1,Agm (by have:=d2.out;omega)]
    have d8:Hid ((hi= -1/\k+1<=L+nw+1)\/((k+1:Nat):Int)<=hi):=by
     have:=d2.out
     rcases g5.out with h|h
     ·exact .inl ⟨h.1,by omega⟩
     ·exact .inr (by omega)
    have j7:k+1<=66:=by have:=d2.out;omega
    clear hkl;go_wp2_with fail;refine(Q0 A11 A7 (nw+1) c11 (nw+1) c7 M T7 wr a5.out d5.out (by omega) (by omega) a0.out.2 a2.out.2.1).mono ?_;rintro e w9 ⟨A9,n9,c9,rfl,i7,a7⟩;obtain rfl:n9=nw+1:=by rw[←i7.len,Dj,a5.out.len]
    have m8:=hI i7;clear i7;have g7:=hI ((a7.block w.heap.size (lt_of_block d9.out)).trans d9.out);have j2:=hI (i0.out.below a7 rr);have b2:=hI (d5.out.below a7 rr);have f7:=hC.trans (a7.mono m2);clear a7 k6 m1;go_wp2
    go_roundw
    case rel=>exact⟨k+1,A6,c6,T,A9,c9,Cx M T7,rfl,rfl,by go_num,j7,d8,g7,j2,m8,b2,⟨HN.out,a4.out.2⟩,⟨b1.out,Dz _ _ a2.out.2.1⟩,f7⟩
    case measure=>simp[intOf]<;>omega
   have g4:L<=k:=by have:=d2.out;omega
   have o7:decide (lo<=(k:Int))=true:=decide_eq_true hkl;go_wp2_with fail;refine(Ajv A6 A11 (nw+1) c6 c11 T M wr i0.out a5.out (by omega) a4.out.2 a0.out.2).mono ?_;rintro e w8 ⟨A8,n8,c8,rfl,b4,a8⟩;have g9:=i0.out.len;have i5:=a5.out.len;obtain rfl:n8=nw+1:=by rw[←b4.len];unfold orR;rw[List.length_zipWith,g9,i5];omega
   have HJ:Hid ((∀a b,Bt (orR T M) a b↔Reps (Bt r) nw L (k+1) a b)/\Bw (orR T M)):=by
    refine⟨fun a b=> ?_,Gg _ _ a4.out.2 a0.out.2⟩
    rw[Wr (by rw[g9,i5]),Nn g4,a4.out.1,a0.out.1]
   have j8:Hid ((orR T M).length=nw+1):=b4.len;have o4:=hI g9;clear g9 i5;have d0:=hI b4;clear b4;have d6:=hI ((a8.block w.heap.size (lt_of_block d9.out)).trans d9.out);have j4:=hI (i0.out.below a8 rr);have d4:=hI (d5.out.below a8 rr);have b3:=hI (a5.out.below a8 rr);have b6:=hC.trans (a8.mono m2);have f6:=Ab (j:=4) (v:= .int .i64 lo) d6.out rfl;have f9:=Ab (j:=5) (v:= .int .i64 hi) d6.out rfl;clear a8 k6 m1;by_cases hkm:(k:Int)=hi
   ·have HF:Hid (Tab (orR T M) nw (Pf r L hi nw)):=by
     refine⟨j8.out,HJ.out.2,fun a b=> ?_⟩
     rw[HJ.out.1,f3.out];exact Ajr g4 hkm a b
    have i1:((k:Int)==hi)=true:=by simpa using hkm
    clear hkm;go_wp2;go_ret;exact⟨A8,c8,orR T M,rfl,d0.out,HF.out,b6⟩
   have i1:((k:Int)==hi)=false:=by simpa using hkm
   by_cases hkl2:lo<(k:Int)
   ·have i6:decide (lo<(k:Int))=true:=decide_eq_true hkl2;have i3:L<k:=by have:=d2.out;omega
    go_wp2_with fail;refine(Ajw A6 A8 (nw+1) c6 c8 T (orR T M) w8 j4.out d0.out).mono ?_;rintro e w9 ⟨rfl,a7⟩;have g7:=hI ((a7.block w.heap.size (lt_of_block d6.out)).trans d6.out);have b9:=hI (d0.out.below a7 rr);have b2:=hI (d4.out.below a7 rr);have g2:=hI (b3.out.below a7 rr);have f7:=b6.trans (a7.mono b6.size);obtain⟨d,hd⟩:∃d,d=decide (T=orR T M):=⟨_,rfl⟩;rw[←hd];clear a7 f6 f9;cases d
    case true=>
     have he:T=orR T M:=of_decide_eq_true hd.symm
     have HF:Hid (Tab (orR T M) nw (Pf r L hi nw)):=by
      refine⟨j8.out,HJ.out.2,fun a b=> ?_⟩
      rw[HJ.out.1,f3.out];refine Ad1 f4.out i3 ?_ (fun a b ha hb=> ?_) a b
      ·rcases g5.out with h|h
       ·exact .inl h.1
       ·exact .inr (by omega)
      ·have h1:Bt (orR T M) a b:=(HJ.out.1 a b).2 ((Nn g4).2 (.inr ⟨ha,hb⟩));rw[←he]at h1;exact(a4.out.1 a b).1 h1
     clear he hd hkm;go_wp2;go_ret;exact⟨A8,c8,orR T M,rfl,b9.out,HF.out,f7⟩
    case false=>
     have he:¬T=orR T M:=of_decide_eq_false hd.symm
     have d8:Hid ((hi= -1/\k+1<=L+nw+1)\/((k+1:Nat):Int)<=hi):=by
      rcases g5.out with h|h
      ·refine .inl ⟨h.1, ?_⟩;rcases Nat.lt_or_ge (L+nw) k with h2|h2
       ·refine absurd (Ank (by rw[o4.out,j8.out]) fun a b=> ?_) he;rw[HJ.out.1,Nn g4,a4.out.1];exact⟨.inl,fun h3=>h3.elim id fun h4=>Agn f4.out h2 a b h4.1 h4.2⟩
       ·omega
      ·exact .inr (by omega)
     have b7:k+1<=66:=by
      rcases d8.out with h|h
      ·omega
      ·have:hi<=32:=by omega
       omega
     clear he hd hkm;go_wp2_with fail;refine(Q0 A11 A7 (nw+1) c11 (nw+1) c7 M T7 w9 g2.out b2.out (by omega) (by omega) a0.out.2 a2.out.2.1).mono ?_;rintro e w10 ⟨A10,n10,c10,rfl,a3,a1⟩;obtain rfl:n10=nw+1:=by rw[←a3.len,Dj,a5.out.len]
     have d1:=hI a3;clear a3;have b8:=hI ((a1.block w.heap.size (lt_of_block g7.out)).trans g7.out);have a9:=hI (E4.below (A:=A8) (n:=nw+1) (c:=c8) (l:=orR T M) (by first|exact b9.out|exact d0.out) a1 rr);have b0:=hI (b2.out.below a1 rr);have d3:=f7.trans (a1.mono f7.size);clear a1;go_wp2
     go_roundw
     case rel=>exact⟨k+1,A8,c8,orR T M,A10,c10,Cx M T7,rfl,rfl,by go_num,b7,d8,b8,a9,d1,b0,HJ,⟨b1.out,Dz _ _ a2.out.2.1⟩,d3⟩
     case measure=>simp[intOf]<;>omega
   ·have i6:decide (lo<(k:Int))=false:=decide_eq_false hkl2
    have d8:Hid ((hi= -1/\k+1<=L+nw+1)\/((k+1:Nat):Int)<=hi):=by
     have:=d2.out
     rcases g5.out with h|h
     ·exact .inl ⟨h.1,by omega⟩
     ·exact .inr (by omega)
    have b7:k+1<=66:=by have:=d2.out;omega
    clear hkm hkl2;go_wp2_with fail;refine(Q0 A11 A7 (nw+1) c11 (nw+1) c7 M T7 w8 b3.out d4.out (by omega) (by omega) a0.out.2 a2.out.2.1).mono ?_;clear f6 f9;rintro e w10 ⟨A10,n10,c10,rfl,a3,a1⟩;obtain rfl:n10=nw+1:=by rw[←a3.len,Dj,a5.out.len]
    have d1:=hI a3;clear a3;have b8:=hI ((a1.block w.heap.size (lt_of_block d6.out)).trans d6.out);have a9:=hI (E4.below (A:=A8) (n:=nw+1) (c:=c8) (l:=orR T M) (by first|exact b9.out|exact d0.out) a1 rr);have b0:=hI (d4.out.below a1 rr);have d3:=b6.trans (a1.mono b6.size);clear a1;go_wp2
    go_roundw
    case rel=>exact⟨k+1,A8,c8,orR T M,A10,c10,Cx M T7,rfl,rfl,by go_num,b7,d8,b8,a9,d1,b0,HJ,⟨b1.out,Dz _ _ a2.out.2.1⟩,d3⟩
    case measure=>simp[intOf]<;>omega
theorem Wg (k:Nd)(ch:Fo)(ih:∀j k' ch',ch.get j=some (k',ch')->Qy k' ch'):Qy k ch:=by
 obtain⟨kind,isp,ism,neg,lo,hi⟩:=k;by_cases h:kind<0\/6<kind
 ·intro w A c Aw nw cw ws hs hw hn a0;exfalso;unfold Ag at a0;dsimp only at a0;rw[if_neg (by omega),if_neg (by omega),if_neg (by omega),if_neg (by omega)]at a0;exact absurd a0 (by decide)
 ·rcases(by omega:kind=0\/kind=1\/kind=2\/kind=3\/kind=4\/kind=5\/kind=6)with rfl|rfl|rfl|rfl|rfl|rfl|rfl
  ·exact Ane isp ism neg lo hi ch
  ·exact Anh isp ism neg lo hi ch
  ·exact Anf isp ism neg lo hi ch
  ·exact Ani isp ism neg lo hi ch ih
  ·exact Anj isp ism neg lo hi ch ih
  ·exact Anl isp ism neg lo hi ch ih
  ·exact Ang isp ism neg lo hi ch
theorem Ss:∀(f:Fo) (j:Nat) (k:Nd) (ch:Fo),f.get j=some (k,ch)->Qy k ch
 | .node k0 ch0 nx,0,k,ch,hg=>by
  obtain⟨rfl,rfl⟩:k0=k/\ch0=ch:=by simpa[Fo.get]using hg
  exact Wg _ _ (Ss ch0)
 | .node k0 ch0 nx,j+1,k,ch,hg=>Ss nx j k ch (by simpa[Fo.get]using hg)
theorem Afa (k:Nd)(ch:Fo):Qy k ch:=Wg k ch (Ss ch)
theorem Ago (x:Nd×Fo)(ws:List Snd):Fv x ws=if B5 40 [x]≠0 then B5 40 [x]else Bs ws:=by
 unfold Fv Bs
 have:ws.any (fun s=> !Ck s.1 s.2)= !ws.all (fun s=>Ck s.1 s.2):=by rw[List.not_all_eq_any_not]
 rw[this];by_cases h:B5 40 [x]=0
 ·simp only[h,ne_eq,not_true_eq_false,if_false];by_cases h2:32<ws.length
  ·rw[if_pos h2,if_pos h2]
  ·rw[if_neg h2,if_neg h2];cases ws.all (fun s=>Ck s.1 s.2)<;>rfl
 ·simp only[h,ne_eq,not_false_eq_true,if_true]
theorem Ajs (k:Nd)(ch:Fo)(A0:Option Addr)(c0:Nat)(A:Option Addr)(n c:Nat)(ws:List Snd)(w:World)(hf:FSl w A0 ch.len c0 ch)(hw:Ad w A n c ws)(hk:NdU k)(hu:FoU ch)(hwu:Bq ws):
  Calls Tryz.prog 277 #[Em k A0 ch.len c0, .slice A n c] w fun e w'=>e= .returned (.int .i64 (Fv (k,ch) ws))/\Below w.heap.size w w':=by
 have HR:=hI (Ago (k,ch) ws);have a1:=hI (St k ch);have HF:=hI hf;clear hf;have HW:=hI hw;clear hw;have HK:=hI hk;clear hk;have HU:=hI hu;clear hu;have a5:=hI hwu;clear hwu;obtain⟨er,a3⟩:∃er,er=B5 40 [(k,ch)]:=⟨_,rfl⟩;rw[←a3]at HR a1;clear a3;obtain⟨kind,isp,ism,neg,lo,hi⟩:=k;go_enter Tryz.func277,Tryz.ntmps277;go_wp2_with fail;refine(a1.out _ A0 ch.len c0 (HF.out.below (B:=w.heap.size) bel rr) HK.out HU.out).mono ?_;rintro e w1 ⟨rfl,a6⟩;have a0:Below w.heap.size w w1:=Below.step (by assumption) (by simp) bel;clear a6 a1;by_cases h0:er=0
 ·have a2:Hid (Fv (⟨kind,isp,ism,neg,lo,hi⟩,ch) ws=Bs ws):=by show _=_;rw[HR.out,if_neg (by simpa using h0)]
  clear HR;subst h0;go_wp2_with fail;refine(Nl A n c ws w1 (HW.out.below a0 rr) a5.out).mono ?_;rintro e w2 ⟨rfl,a4⟩;have a7:=a0.trans (a4.mono a0.size);clear a4;go_wp2;go_ret;exact⟨by rw[a2.out];rfl,a7⟩
 ·have a2:Hid (Fv (⟨kind,isp,ism,neg,lo,hi⟩,ch) ws=er):=by show _=_;rw[HR.out,if_pos h0]
  have h1:(er==0)=false:=by simpa using h0
  clear HR h0;go_wp2;go_ret;exact⟨by rw[a2.out];rfl,a0⟩
theorem Ad2 (k:Nd)(ch:Fo)(A0:Option Addr)(c0:Nat)(A:Option Addr)(n c:Nat)(ws:List Snd)(at_:Int)(w:World)(hf:FSl w A0 ch.len c0 ch)(hw:Ad w A n c ws)(hk:NdU k)(hu:FoU ch)(hwu:Bq ws):
  Calls Tryz.prog 256 #[Em k A0 ch.len c0, .slice A n c, .int .i64 at_] w (Un w (Dq (k,ch) ws at_) (atE (k,ch) ws at_)):=by
 have g7:=hw.max;have b8:=hI (fun h=>S6 (k:=k) (ws:=ws) (rs:=D1 ws ch) (c:=ch.len) (Dv h).2.1 ((Fj 40 [(k,ch)] rr (Dv h).1).2 (k,ch) (by simp)).1 (Ew ws ch) (Jf (Dv h).2.1 ch ((Fj 40 [(k,ch)] rr (Dv h).1).2 (k,ch) (by simp)).2))
 have b1:=hI (fun h=>(Fj 40 [(k,ch)] rr (Dv (x:=(k,ch)) (ws:=ws) h).1).2 (k,ch) (by simp))
 have b5:=hI (Ajs k ch A0 c0 A n c ws);have f2:=hI (Afa k ch);have HF:=hI hf;clear hf;have HW:=hI hw;clear hw;have HK:=hI hk;clear hk;have HU:=hI hu;clear hu;have i2:=hI hwu;clear hwu;obtain⟨x,hx⟩:∃x,x=(k,ch):=⟨_,rfl⟩;rw[←hx]at b8 b5 b1 ⊢;have HX:=hI hx;clear hx;obtain⟨kind,isp,ism,neg,lo,hi⟩:=k;go_enter Tryz.func256,Tryz.ntmps256;go_wp2_with fail;have kp:(w.alloc (.cells #[.int .i64 kind, .int .u32 isp, .int .u32 ism, .bool neg, .int .i64 lo, .int .i64 hi, .slice A0 ch.len c0] 27)).heap[w.heap.size]? =some (.cells #[.int .i64 kind, .int .u32 isp, .int .u32 ism, .bool neg, .int .i64 lo, .int .i64 hi, .slice A0 ch.len c0] 27 (0,0)):=Ak rfl;have kB:Below w.heap.size w (w.alloc (.cells #[.int .i64 kind, .int .u32 isp, .int .u32 ism, .bool neg, .int .i64 lo, .int .i64 hi, .slice A0 ch.len c0] 27)):=bel;generalize(w.alloc (.cells #[.int .i64 kind, .int .u32 isp, .int .u32 ism, .bool neg, .int .i64 lo, .int .i64 hi, .slice A0 ch.len c0] 27))=V0 at*;refine(b5.out V0 (HF.out.below kB rr) (HW.out.below kB rr) HK.out HU.out i2.out).mono ?_;rintro e w1 ⟨rfl,d7⟩;have a4:=(d7.block _ (lt_of_block kp)).trans kp;have a5:=kB.trans (d7.mono kB.size);clear d7 kp kB b5;obtain⟨er,a2⟩:∃er,er=Fv x ws:=⟨_,rfl⟩;rw[←a2];by_cases hE:er=0
 case neg=>
  have a6:atE x ws at_=er:=by unfold atE;rw[if_neg (by rw[←a2];exact hE),←a2]
  have a8:Dq x ws at_=[]:=by unfold Dq;rw[a6,if_neg hE]
  have j0:(er !=0)=true:=by simpa using hE
  have g5:=hI a6;have a3:=hI a8;clear a6 a8 hE a2;go_wp2
  go_ret2
  exact⟨none,0,by rw[g5.out,a3.out];rfl,by rw[a3.out];exact Bd.nil _ _,a5⟩
 subst hE;have hz:=Dv a2.symm;have b7:n<=32:=by have:=hz.2.1;rw[HW.out.len]at this;exact this
 have j2:=hI (b8.out a2.symm);have a7:Hid (Ag ⟨kind,isp,ism,neg,lo,hi⟩ ch.len=0/\okF ch):=by have h:=b1.out a2.symm;rw[HX.out]at h;exact h
 have g4:Hid (Fw x ws=Ev ⟨kind,isp,ism,neg,lo,hi⟩ ws (D1 ws ch)):=by show _=_;unfold Fw;rw[if_pos a2.symm,HX.out]
 have a1:Hid (atE x ws at_=Cz n at_):=by show _=_;unfold atE;rw[if_pos a2.symm,HW.out.len]
 clear hz b8 b1 a2;by_cases hx0:Cz n at_=0
 case neg=>
  have a8:Dq x ws at_=[]:=by unfold Dq;rw[a1.out,if_neg hx0]
  have g2:Cz n at_=3:=by unfold Cz at hx0 ⊢;split at hx0<;>simp_all
  have a3:=hI a8;have g0:=hI g2;have f0:at_<0\/(n:Int)<at_:=by unfold Cz at hx0;split at hx0<;>simp_all
  clear a8 g2 hx0 a4;by_cases h1:at_<0
  ·have i0:decide (at_<0)=true:=decide_eq_true h1;go_wp2
   go_ret2
   exact⟨none,0,by rw[a1.out,a3.out,g0.out];rfl,by rw[a3.out];exact Bd.nil _ _,a5⟩
  ·have i0:decide (at_<0)=false:=decide_eq_false h1;have h2:(n:Int)<at_:=by omega
   go_wp2
   go_ret2
   exact⟨none,0,by rw[a1.out,a3.out,g0.out];rfl,by rw[a3.out];exact Bd.nil _ _,a5⟩
 have h0:0<=at_/\at_<=n:=by unfold Cz at hx0;split at hx0<;>simp at*;omega
 obtain⟨m,rfl⟩:∃m:Nat,at_=m:=⟨at_.toNat,by omega⟩;have i7:m<=n:=by omega
 have g8:¬(m:Int)<0:=by omega
 have g6:decide ((m:Int)<0)=false:=decide_eq_false g8;have i9:¬(n:Int)<(m:Int):=by omega
 have i3:decide (n<m)=false:=decide_eq_false (by omega);have b0:Hid (atE x ws m=0):=by show _=_;rw[a1.out];exact hx0
 clear hx0 h0 a1;have d0:=Ab (j:=0) (v:= .int .i64 kind) a4 rfl;have d1:=Ab (j:=1) (v:= .int .u32 isp) a4 rfl;have d2:=Ab (j:=2) (v:= .int .u32 ism) a4 rfl;have d3:=Ab (j:=3) (v:= .bool neg) a4 rfl;have d4:=Ab (j:=4) (v:= .int .i64 lo) a4 rfl;have d5:=Ab (j:=5) (v:= .int .i64 hi) a4 rfl;have d6:=Ab (j:=6) (v:= .slice A0 ch.len c0) a4 rfl;clear a4;go_wp2_with fail;refine(f2.out w1 A0 c0 A n c ws (HF.out.below a5 rr) (HW.out.below a5 rr) b7 a7.out.1 a7.out.2 HK.out HU.out).mono ?_;rintro e w2 ⟨A2,c2,T,rfl,d9,f4,f7⟩;have i1:=hI d9;clear d9;have f5:=hI f4;clear f4;have f3:=a5.trans (f7.mono a5.size);have f9:=hI f3;clear f3 a5 f7 d0 d1 d2 d3 d4 d5 d6 a7 f2;obtain⟨f,hf⟩:∃f:Nat->Bool,f=fun a=>((Fw x ws).getD a 0).testBit m:=⟨_,rfl⟩
 have f8:=hI hf;clear hf
 have a3:Hid (Dq x ws m=(List.range (n+1)).filter f):=by
  show _=_;unfold Dq;rw[if_pos b0.out,HW.out.len,f8.out];rfl
 have b4:Hid (∀j,f j=(T.getD j 0).testBit m):=by
  intro j;rw[f8.out,g4.out,Bool.eq_iff_iff];exact(f5.out.2.2 j m).symm
 go_wp2
 go_loopw [10,11] (fun l i wr=>∃(j q:Nat),j<=n+1/\i= .int .i64 j/\q<=j/\Hid (wr.ownsRow w2.heap.size 3 1 l q (Mq ((List.range j).filter f)))/\Below w2.heap.size w2 wr) (fun _ i _=>n+1-(intOf i).toNat)
 case atStart=>exact⟨0,0,by omega,rfl,by omega,World.ownsRow_nil _ _ _ _,Below.refl _ _⟩
 case round=>
  obtain⟨j,q,hj,rfl,hq,a0,hB⟩:=hrel;have i6:=hB.size;by_cases hlt:j<n+1
  ·obtain⟨b,off,s,i5,hb,hc,hs⟩:=(i1.out.below hB rr).at_ (k:=j) (by omega);have f6:=f5.out.2.1 s (List.mem_of_getElem? hs);have f1:f j=s.testBit m:=by rw[b4.out,D4 hs]
   have g3:=hI f1;clear f1 hs;have b6:=hI f6;clear f6;have d8:=Ze s m b6.out;rw[←g3.out]at d8;have i4:(j:Int)<=(n:Int):=by omega
   have j1:(j:Int)<(n:Int)+1:=by omega
   have i8:(m:Int)<(n:Int)+1:=by omega
   obtain⟨A1,c1,rfl⟩:=Bh a0.out;subst i5;by_cases hf:f j=true
   ·rw[hf]at d8;have b2:=hI hf;clear hf;go_wp2_with(at_builtin;refine Hg rfl (.tmp 43) (.tmp 45) rfl w2.heap.size (.slice A1 q c1) q (Mq ((List.range j).filter f)) rfl ?hoBegins ⟨wr.heap.size,0,none⟩ 1 (.int .i64 j) rfl ?haBegins rfl ?hlBegins ?hzBegins ?hcBegins)
    case hoBegins=>exact a0.out.alloc _
    case haBegins=>exact cell_one_new _ _ _
    case hlBegins=>omega
    case hzBegins=>simp;omega
    case hcBegins=>
     intro v' w4 a9 g9 _;go_wp2
     go_roundw
     case rel=>
      refine⟨j+1,q+1,by omega,by go_num,by omega, ?_,Jp (hB.alloc hB.size _) (a0.out.alloc _) g9 rr (by simp;omega)⟩;show w4.ownsRow _ _ _ _ _ _;rw[List.range_succ,List.filter_append]
      have:([j].filter f)=[j]:=by simp[b2.out]
      rw[this];simpa[Mq]using a9
     case measure=>simp[intOf]<;>omega
   ·have b3:f j=false:=by simpa using hf
    rw[b3]at d8;have b2:=hI b3;clear hf b3;go_wp2
    go_roundw
    case rel=>
     refine⟨j+1,q,by omega,by go_num,by omega, ?_,hB⟩;show wr.ownsRow _ _ _ _ _ _;rw[List.range_succ,List.filter_append]
     have:([j].filter f)=[]:=by simp[b2.out]
     rw[this,List.append_nil];exact a0.out
    case measure=>simp[intOf]<;>omega
  ·obtain rfl:j=n+1:=by omega
   have i4:¬((n:Int)+1<=(n:Int)):=by omega
   obtain⟨A1,c1,rfl⟩:=Bh a0.out;have b9:=a0.out.1;rw[U9,Nat.mul_one]at b9;have g1:=hI b9;clear b9;go_wp2
   go_ret2
   refine⟨A1,c1, ?_, ?_,f9.out.trans (hB.mono f9.out.size)⟩
   ·rw[b0.out,a3.out,g1.out];rfl
   ·rw[a3.out,g1.out];exact Bd.of_own a0.out (by decide)
theorem Ad3 {n:Nat}(hn:n<=32)(p:Nat->Bool)(h:∀b,p b=true->b<=n):(List.range 33).filter p=(List.range (n+1)).filter p:=by
 rw[show(33:Nat)=(n+1)+(32-n)by omega,List.range_add,List.filter_append]
 have:((List.range (32-n)).map (fun x=>n+1+x)).filter p=[]:=by
  rw[List.filter_eq_nil_iff];intro x hx hp;obtain⟨y,_,rfl⟩:=List.mem_map.1 hx
  have:=h _ hp
  omega
 rw[this,List.append_nil]
theorem Ajt (k:Nd)(ch:Fo)(A0:Option Addr)(c0:Nat)(A:Option Addr)(n c:Nat)(ws:List Snd)(at_:Int)(w:World)(hf:FSl w A0 ch.len c0 ch)(hw:Ad w A n c ws)(hk:NdU k)(hu:FoU ch)(hwu:Bq ws):
  Calls Tryz.prog 257 #[Em k A0 ch.len c0, .slice A n c, .int .i64 at_] w (Un w (He (k,ch) ws at_) (atE (k,ch) ws at_)):=by
 have g7:=hw.max;have b8:=hI (fun h=>S6 (k:=k) (ws:=ws) (rs:=D1 ws ch) (c:=ch.len) (Dv h).2.1 ((Fj 40 [(k,ch)] rr (Dv h).1).2 (k,ch) (by simp)).1 (Ew ws ch) (Jf (Dv h).2.1 ch ((Fj 40 [(k,ch)] rr (Dv h).1).2 (k,ch) (by simp)).2))
 have b2:=hI (fun h=>(Fj 40 [(k,ch)] rr (Dv (x:=(k,ch)) (ws:=ws) h).1).2 (k,ch) (by simp))
 have b6:=hI (Ajs k ch A0 c0 A n c ws);have f2:=hI (Afa k ch);have HF:=hI hf;clear hf;have HW:=hI hw;clear hw;have HK:=hI hk;clear hk;have HU:=hI hu;clear hu;have i2:=hI hwu;clear hwu;obtain⟨x,hx⟩:∃x,x=(k,ch):=⟨_,rfl⟩;rw[←hx]at b8 b6 b2 ⊢;have HX:=hI hx;clear hx;obtain⟨kind,isp,ism,neg,lo,hi⟩:=k;go_enter Tryz.func257,Tryz.ntmps257;go_wp2_with fail;have kp:(w.alloc (.cells #[.int .i64 kind, .int .u32 isp, .int .u32 ism, .bool neg, .int .i64 lo, .int .i64 hi, .slice A0 ch.len c0] 27)).heap[w.heap.size]? =some (.cells #[.int .i64 kind, .int .u32 isp, .int .u32 ism, .bool neg, .int .i64 lo, .int .i64 hi, .slice A0 ch.len c0] 27 (0,0)):=Ak rfl;have kB:Below w.heap.size w (w.alloc (.cells #[.int .i64 kind, .int .u32 isp, .int .u32 ism, .bool neg, .int .i64 lo, .int .i64 hi, .slice A0 ch.len c0] 27)):=bel;generalize(w.alloc (.cells #[.int .i64 kind, .int .u32 isp, .int .u32 ism, .bool neg, .int .i64 lo, .int .i64 hi, .slice A0 ch.len c0] 27))=V0 at*;refine(b6.out V0 (HF.out.below kB rr) (HW.out.below kB rr) HK.out HU.out i2.out).mono ?_;rintro e w1 ⟨rfl,d7⟩;have a4:=(d7.block _ (lt_of_block kp)).trans kp;have a5:=kB.trans (d7.mono kB.size);clear d7 kp kB b6;obtain⟨er,a2⟩:∃er,er=Fv x ws:=⟨_,rfl⟩;rw[←a2];by_cases hE:er=0
 case neg=>
  have a6:atE x ws at_=er:=by unfold atE;rw[if_neg (by rw[←a2];exact hE),←a2]
  have a8:He x ws at_=[]:=by unfold He;rw[a6,if_neg hE]
  have j1:(er !=0)=true:=by simpa using hE
  have g5:=hI a6;have a3:=hI a8;clear a6 a8 hE a2;go_wp2
  go_ret2
  exact⟨none,0,by rw[g5.out,a3.out];rfl,by rw[a3.out];exact Bd.nil _ _,a5⟩
 subst hE;have hz:=Dv a2.symm;have b1:n<=32:=by have:=hz.2.1;rw[HW.out.len]at this;exact this
 have i6:=hI (b8.out a2.symm);have a7:Hid (Ag ⟨kind,isp,ism,neg,lo,hi⟩ ch.len=0/\okF ch):=by have h:=b2.out a2.symm;rw[HX.out]at h;exact h
 have f3:Hid (Fw x ws=Ev ⟨kind,isp,ism,neg,lo,hi⟩ ws (D1 ws ch)):=by show _=_;unfold Fw;rw[if_pos a2.symm,HX.out]
 have a1:Hid (atE x ws at_=Cz n at_):=by show _=_;unfold atE;rw[if_pos a2.symm,HW.out.len]
 clear hz b8 b2 a2;by_cases hx0:Cz n at_=0
 case neg=>
  have a8:He x ws at_=[]:=by unfold He;rw[a1.out,if_neg hx0]
  have g3:Cz n at_=3:=by unfold Cz at hx0 ⊢;split at hx0<;>simp_all
  have a3:=hI a8;have g1:=hI g3;have f0:at_<0\/(n:Int)<at_:=by unfold Cz at hx0;split at hx0<;>simp_all
  clear a8 g3 hx0 a4;by_cases h1:at_<0
  ·have i0:decide (at_<0)=true:=decide_eq_true h1;go_wp2
   go_ret2
   exact⟨none,0,by rw[a1.out,a3.out,g1.out];rfl,by rw[a3.out];exact Bd.nil _ _,a5⟩
  ·have i0:decide (at_<0)=false:=decide_eq_false h1;have h2:(n:Int)<at_:=by omega
   go_wp2
   go_ret2
   exact⟨none,0,by rw[a1.out,a3.out,g1.out];rfl,by rw[a3.out];exact Bd.nil _ _,a5⟩
 have h0:0<=at_/\at_<=n:=by unfold Cz at hx0;split at hx0<;>simp at*;omega
 obtain⟨m,rfl⟩:∃m:Nat,at_=m:=⟨at_.toNat,by omega⟩;have i8:m<=n:=by omega
 have g8:¬(m:Int)<0:=by omega
 have g6:decide ((m:Int)<0)=false:=decide_eq_false g8;have j0:¬(n:Int)<(m:Int):=by omega
 have i3:decide (n<m)=false:=decide_eq_false (by omega);have b0:Hid (atE x ws m=0):=by show _=_;rw[a1.out];exact hx0
 clear hx0 h0 a1;have d0:=Ab (j:=0) (v:= .int .i64 kind) a4 rfl;have d1:=Ab (j:=1) (v:= .int .u32 isp) a4 rfl;have d2:=Ab (j:=2) (v:= .int .u32 ism) a4 rfl;have d3:=Ab (j:=3) (v:= .bool neg) a4 rfl;have d4:=Ab (j:=4) (v:= .int .i64 lo) a4 rfl;have d5:=Ab (j:=5) (v:= .int .i64 hi) a4 rfl;have d6:=Ab (j:=6) (v:= .slice A0 ch.len c0) a4 rfl;clear a4;go_wp2_with fail;refine(f2.out w1 A0 c0 A n c ws (HF.out.below a5 rr) (HW.out.below a5 rr) b1 a7.out.1 a7.out.2 HK.out HU.out).mono ?_;rintro e w2 ⟨A2,c2,T,rfl,d9,f5,f8⟩;have i1:=hI d9;clear d9;have f6:=hI f5;clear f5;have f4:=a5.trans (f8.mono a5.size);have g0:=hI f4;clear f4 a5 f8 d0 d1 d2 d3 d4 d5 d6 a7 f2;obtain⟨f,hf⟩:∃f:Nat->Bool,f=fun b=>((Fw x ws).getD m 0).testBit b:=⟨_,rfl⟩
 have f9:=hI hf;clear hf
 have a3:Hid (He x ws m=(List.range (n+1)).filter f):=by
  show _=_;unfold He;rw[if_pos b0.out,f9.out];exact Ad3 b1 _ (fun b hb=>by have h1:Bt (Fw x ws) m b:=hb;rw[f3.out]at h1;have h2:=i6.out m b h1;have h3:=HW.out.len;omega)
 have b5:Hid (∀j,f j=(T.getD m 0).testBit j):=by
  intro j;rw[f9.out,f3.out,Bool.eq_iff_iff];exact(f6.out.2.2 m j).symm
 go_wp2
 go_loopw [10,11] (fun l i wr=>∃(j q:Nat),j<=n+1/\i= .int .i64 j/\q<=j/\Hid (wr.ownsRow w2.heap.size 3 1 l q (Mq ((List.range j).filter f)))/\Below w2.heap.size w2 wr) (fun _ i _=>n+1-(intOf i).toNat)
 case atStart=>exact⟨0,0,by omega,rfl,by omega,World.ownsRow_nil _ _ _ _,Below.refl _ _⟩
 case round=>
  obtain⟨j,q,hj,rfl,hq,a0,hB⟩:=hrel;have i7:=hB.size;by_cases hlt:j<n+1
  ·obtain⟨b,off,s,i5,hb,hc,hs⟩:=(i1.out.below hB rr).at_ (k:=m) (by omega);have f7:=f6.out.2.1 s (List.mem_of_getElem? hs);have f1:f j=s.testBit j:=by rw[b5.out,D4 hs]
   have g4:=hI f1;clear f1 hs;have b7:=hI f7;clear f7;have d8:=Ze s j b7.out;rw[←g4.out]at d8;have i4:(j:Int)<=(n:Int):=by omega
   have j2:(j:Int)<(n:Int)+1:=by omega
   have i9:(m:Int)<(n:Int)+1:=by omega
   obtain⟨A1,c1,rfl⟩:=Bh a0.out;subst i5;by_cases hf:f j=true
   ·rw[hf]at d8;have b3:=hI hf;clear hf;go_wp2_with(at_builtin;refine Hg rfl (.tmp 43) (.tmp 45) rfl w2.heap.size (.slice A1 q c1) q (Mq ((List.range j).filter f)) rfl ?hoEnds ⟨wr.heap.size,0,none⟩ 1 (.int .i64 j) rfl ?haEnds rfl ?hlEnds ?hzEnds ?hcEnds)
    case hoEnds=>exact a0.out.alloc _
    case haEnds=>exact cell_one_new _ _ _
    case hlEnds=>omega
    case hzEnds=>simp;omega
    case hcEnds=>
     intro v' w4 a9 g9 _;go_wp2
     go_roundw
     case rel=>
      refine⟨j+1,q+1,by omega,by go_num,by omega, ?_,Jp (hB.alloc hB.size _) (a0.out.alloc _) g9 rr (by simp;omega)⟩;show w4.ownsRow _ _ _ _ _ _;rw[List.range_succ,List.filter_append]
      have:([j].filter f)=[j]:=by simp[b3.out]
      rw[this];simpa[Mq]using a9
     case measure=>simp[intOf]<;>omega
   ·have b4:f j=false:=by simpa using hf
    rw[b4]at d8;have b3:=hI b4;clear hf b4;go_wp2
    go_roundw
    case rel=>
     refine⟨j+1,q,by omega,by go_num,by omega, ?_,hB⟩;show wr.ownsRow _ _ _ _ _ _;rw[List.range_succ,List.filter_append]
     have:([j].filter f)=[]:=by simp[b3.out]
     rw[this,List.append_nil];exact a0.out
    case measure=>simp[intOf]<;>omega
  ·obtain rfl:j=n+1:=by omega
   have i4:¬((n:Int)+1<=(n:Int)):=by omega
   obtain⟨A1,c1,rfl⟩:=Bh a0.out;have b9:=a0.out.1;rw[U9,Nat.mul_one]at b9;have g2:=hI b9;clear b9;go_wp2
   go_ret2
   refine⟨A1,c1, ?_, ?_,g0.out.trans (hB.mono g0.out.size)⟩
   ·rw[b0.out,a3.out,g2.out];rfl
   ·rw[a3.out,g2.out];exact Bd.of_own a0.out (by decide)
end Go.Proofs.YtlgliddhideflaaGreatDoor
