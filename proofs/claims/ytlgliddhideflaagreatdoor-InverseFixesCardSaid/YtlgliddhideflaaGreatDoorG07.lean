/-
  pats.Check: the iterator over a list of patterns, backwards.
  pats.Check.
  slices.IndexFunc and slices.ContainsFunc over sounds.
  pats.relate, pats.exists.
  pats.Begins.
-/
import Derived.Laws.ResultCell
import Derived.Test.YtlgliddhideflaaGreatDoorG05
import Derived.Test.YtlgliddhideflaaGreatDoorG06
set_option linter.all false
set_option maxRecDepth 100000
set_option maxHeartbeats 4000000
namespace Go.Proofs.YtlgliddhideflaaGreatDoor
open Go.RowKit Go.Shelf
attribute [local go_sem] Oper.semAt_some
theorem Ac2 (A:Option Addr)(n c:Nat)(w:World):
  Calls Tryz.prog 176 #[.slice A n c] w fun e w'=>e= .returned (.func (.func 219) #[] #[.pointer (some ⟨w.heap.size,0,none⟩)])/\w.alloc (.cells #[.slice A n c] 25)=w':=by
 go_enter Tryz.func176,Tryz.ntmps176;go_wp2;go_ret;exact⟨rfl,rfl⟩
theorem Ac3 (m l bs:Nat)(hm:1<=m)(A:Option Addr)(n c:Nat)(f:Fo)(hlen:n<=f.len)(hn63:n<=9223372036854775807)(W0:World)(hF:FAt W0 A 0 f)(J:Nat->World->Prop)(W:World)
  (hJ:∀j W,J j W->W.cell? ⟨bs,0,none⟩=some (.slice A n c)∧∀b o,b<W0.heap.size->W.cell? ⟨b,o,none⟩=W0.cell? ⟨b,o,none⟩)
  (hy:∀i k ch A' c' W,i<n->f.get i=some (k,ch)->FSl W0 A' ch.len c' ch->J (i+1) W->YieldAt Fence.wide (m-1) Tryz.prog l #[.int .i64 i,Em k A' ch.len c'] W (fun e W'=>e= .returned (.bool true)/\J i W'))
  (h0:J n W):
  CallsIn Fence.wide m Tryz.prog 219 #[.func (.yield l) #[] #[], .pointer (some ⟨bs,0,none⟩)] W fun e W'=>(∃v,e= .returned v)/\J 0 W':=by
 have HJ:=hI hJ;clear hJ;have HF:=hI hF;clear hF;have HY:=hI hy;clear hy;have H0:=hI h0;clear h0;have hc:=(HJ.out _ _ H0.out).1;refine callsIn_of_wp Tryz.func219 rfl trivial ?_;simp only[Tryz.ntmps219,List.size_toArray,List.length_cons,List.length_nil,Nat.reduceAdd,Nat.reduceSub,Array.replicate_succ,Array.replicate_zero,List.push_toArray,List.append_toArray,List.nil_append,List.cons_append];gi_wp2;clear hc
 gi_loopw [3] (fun i wr=>∃j:Nat,j<=n/\i= .int .i64 ((j:Int)-1)/\Hid (J j wr))
  (fun i wr=>(intOf i+1).toNat)
 case atStart=>exact⟨n,rr,rfl,H0⟩
 case round=>
  obtain⟨j,hj,rfl,hJ⟩:=hrel;by_cases h0:j=0
  ·subst h0;gi_wp2
   go_end0
   exact⟨⟨_,rfl⟩,hJ.out⟩
  ·obtain⟨i,rfl⟩:∃i,j=i+1:=⟨j-1,by omega⟩;obtain⟨⟨k,ch⟩,hg⟩:=f.get_lt i (by omega);obtain⟨hc,a1⟩:=HJ.out _ _ hJ.out;obtain⟨b,off,A',n',c',rfl,a4,⟨g0,g1,g2,g3,g4,g5,g6⟩,⟨rfl,a5⟩,a0,_⟩:=HF.out.at_ f _ 0 i k ch hg;rw[←a1 b _ a4]at g0 g1 g2 g3 g4 g5 g6;clear a1;obtain⟨fn,tmps,assign,body,a6,hR⟩:=HY.out i k ch A' c' wr (by omega) hg ⟨⟨rfl,a5⟩,a0⟩ hJ.out;simp only[Nat.zero_add]at g0 g1 g2 g3 g4 g5 g6;have HR:=hI hR;clear hR;have HG:=hI hg;clear hg;clear a0;have e1:((i+1:Nat):Int)-1=(i:Int):=by omega
   rw[e1];clear e1;gi_wp2;refine HR.out.mono ?_;rintro e W3 ⟨rfl,a2⟩;have a3:=hI a2;clear a2;gi_wp2
   go_roundw
   case rel=>exact⟨i,by omega,by go_num,a3⟩
   case measure=>simp[intOf]
end Go.Proofs.YtlgliddhideflaaGreatDoor
namespace Go.Proofs.YtlgliddhideflaaGreatDoor
open Go.RowKit Go.Shelf
attribute [local go_sem] Oper.semAt_some
structure SE where
 k:Nd
 A:Option Addr
 c:Nat
 ch:Fo
def SE.cells (e:SE):List Value:=[.int .i64 e.k.kind, .int .u32 e.k.isp, .int .u32 e.k.ism, .bool e.k.neg, .int .i64 e.k.lo, .int .i64 e.k.hi, .slice e.A e.ch.len e.c]
def SE.pat (e:SE):Nd×Fo:=(e.k,e.ch)
theorem SE.len (e:SE):e.cells.length=7:=rfl
def SE.ok (w:World)(e:SE):Prop:=FSl w e.A e.ch.len e.c e.ch
theorem Ah5:(Tryz.prog.info? 27).map (fun i=>(i.zero,i.size,i.bytes))=some (some (.agg #[.int .i64 0, .int .u32 0, .int .u32 0, .bool false, .int .i64 0, .int .i64 0, .slice none 0 0]),7,64):=by kernel_rfl
theorem Pw:(Tryz.prog.info? 27).map (·.size)=some 7:=by kernel_rfl
theorem Ae0 (a b c d e f:_)(A:Option Addr)(n m:Nat):(#[Value.int .i64 a, .int .u32 b, .int .u32 c, .bool d, .int .i64 e, .int .i64 f, .slice A n m].all (·.oneCell'))=true:=by simp[Value.oneCell']
theorem Zg (k:Nd)(A:Option Addr)(c:Nat)(ch:Fo)(w:World)(hf:FSl w A ch.len c ch):
  Calls Tryz.prog 136 #[Em k A ch.len c] w fun e w'=>e= .returned (.int .i64 (B5 40 [(k,ch)]))/\Below w.heap.size w w':=by
 have HF:=hI hf;clear hf;refine(callsIn_wide (n:=9)).1 (callsIn_of_wp_marks Tryz.func136 rfl trivial ?_ rfl);simp only[Tryz.ntmps136,List.size_toArray,List.length_cons,List.length_nil,Nat.reduceAdd,Nat.reduceSub,Array.replicate_succ,Array.replicate_zero,List.push_toArray,List.append_toArray,List.nil_append,List.cons_append];gi_wp2
 refine wpIn_loop (fun a' wr=>∃(cnt:Nat) (ms:List SE) (A1:Option Addr) (c1:Nat) (ds:List Deferred) (u2 u5 u6 u7 u8 u9 u10 u11 u12 u13 u14 u15 u16 u17 u18 u19 u20 u21 u22 u23 u24 u25 u26 u27 u28 u29 u30 u31 u32 u33 u34 u35 u36 u37 u38 u39 u40 u41 u42 u43 u44 u45 u46 u47 u48 u49 u50 u51:Value),
   a'={tmps:= #[Em k A ch.len c, .pointer (some ⟨w.heap.size,0,none⟩),u2, .pointer (some ⟨w.heap.size+1+1,0,none⟩), .int .i64 cnt,u5,u6,u7,u8,u9,u10,u11,u12,u13,u14,u15,u16,u17,u18,u19,u20,u21,u22,u23,u24,u25,u26,u27,u28,u29,u30,u31,u32,u33,u34,u35,u36,u37,u38,u39,u40,u41,u42,u43,u44,u45,u46,u47,u48,u49,u50,u51],defers:=ds}∧
   cnt<=40/\Dd w.heap.size wr ds/\wr.heap[w.heap.size+1+1]? =some (.cells #[.slice A1 ms.length c1] 25 (0,0))∧
   wr.ownsRow (w.heap.size+1) 27 7 (.slice A1 ms.length c1) ms.length (ms.flatMap SE.cells)/\(∀e∈ms,e.ok w)/\ms.length<=41*cnt+1∧
   B5 (40-cnt) (ms.reverse.map SE.pat)=B5 40 [(k,ch)]/\Below w.heap.size w wr)
  (fun a' _=>40-(intOf (a'.tmps.getD 4 undef)).toNat) ?start ?round
 case start=>
  refine⟨0,[⟨k,A,c,ch⟩],_,1,[],_,_,_,_,_,_,_,_,_,_,_,_,_,_,_,_,_,_,_,_,_,_,_,_,_,_,_,_,_,_,_,_,_,_,_,_,_,_,_,_,_,_,_,_,_,_,_,_,rfl,by omega,trivial,hpt, ?_, ?_,by simp,rfl,bel⟩
  ·refine⟨rfl,Or.inr ⟨w.heap.size+1,1,_,rfl,rr,hpt,rr,by unfold maxLen;omega,rfl,rfl⟩⟩
  ·intro e he;obtain rfl:e=⟨k,A,c,ch⟩:=by simpa using he
   exact HF.out
 case round=>
  rintro _ wr ⟨cnt,ms,A1,c1,ds,u2,u5,u6,u7,u8,u9,u10,u11,u12,u13,u14,u15,u16,u17,u18,u19,u20,u21,u22,u23,u24,u25,u26,u27,u28,u29,u30,u31,u32,u33,u34,u35,u36,u37,u38,u39,u40,u41,u42,u43,u44,u45,u46,u47,u48,u49,u50,u51,rfl,r2,hM,hb,a1,i2,i0,f2,hB⟩;have HM:=hI hM;clear hM;rcases List.eq_nil_or_concat ms with hm|⟨ms,e,hm⟩
  ·subst hm;have hr:B5 40 [(k,ch)]=0:=by rw[←f2];unfold B5;cases(40-cnt)<;>rfl
   have HR:=hI hr;have f5:=cell_of_one hb;simp only[List.length_nil]at f5;clear hr f2 i2 a1 hb;gi_wp2;exact Gv (B:=w.heap.size) Tryz.results136 (.int .i64 0) rfl HM.out fun w' hw'=>⟨by rw[HR.out],hB.trans hw'.below⟩
  ·rw[List.concat_eq_append]at hm;subst hm;rw[List.length_append,List.length_singleton]at hb a1 i0;rw[List.reverse_append,List.reverse_singleton,List.singleton_append,List.map_cons]at f2;have f5:=cell_of_one hb;have m4:=free_of_one hb;obtain⟨g,cap,m3⟩:=ownsRow_succ a1;obtain⟨rfl,rfl⟩:A1=some ⟨g,0,none⟩/\c1=cap:=by simpa using m3
   clear m3;obtain⟨b0,off0,j2, -,a9⟩:=(Gz.of_own a1 SE.len (by decide)).at_ SE.len (by decide) (k:=ms.length) (x:=e) (by simp);obtain⟨rfl,rfl⟩:g=b0/\0=off0:=by simpa using j2
   clear j2;have q0:=a9 0 _ rfl;have q1:=a9 1 _ rfl;have q2:=a9 2 _ rfl;have q3:=a9 3 _ rfl;have q4:=a9 4 _ rfl;have q5:=a9 5 _ rfl;have q6:=a9 6 _ rfl;simp only[Nat.zero_add,Nat.add_zero,←Nat.add_assoc]at q0 q1 q2 q3 q4 q5 q6;obtain⟨t6,o3⟩:=a1.lt g rfl;have t7:w.heap.size+1+1<wr.heap.size:=lt_of_block hb;have g1:some (w.heap.size+1+1)≠some g:=Boxed.not_row (B:=w.heap.size+1+1) hb (by decide) a1;have s8:ms.length+1<=c1:=by have:=(Bd.of_own a1 (by decide)).2.1;exact this
   have o8:ms.length+1<=9223372036854775807:=by have:=(Bd.of_own a1 (by decide)).2.2.1;unfold maxLen at this;omega
   have i4:=hI a1;clear a1;have d8:=hI i2;clear i2;have j7:=hI hb;clear hb;have g9:=hI f2;clear f2;clear a9;by_cases h40:cnt=40
   ·subst h40;have hr:B5 40 [(k,ch)]=12:=by rw[←g9.out];rfl
    have HR:=hI hr;clear hr;gi_wp2;exact Gv (B:=w.heap.size) Tryz.results136 (.int .i64 12) rfl HM.out fun w' hw'=>⟨by rw[HR.out],hB.trans hw'.below⟩
   ·have m6:((cnt:Int)==40)=false:=by simp;omega
    have b5:e.ch.len<=9223372036854775807:=by have:=(d8.out e (by simp)).1;have h2:=this.2.1;have h3:=this.2.2.1;unfold maxLen at h3;omega
    gi_wp2_with (refine⟨trivial, ?_⟩;gi_at_call 175;refine(callsIn_wide.2 (Agd _ _ _ _ _ b5)).mono ?_)
    rintro e1 w1 ⟨rfl,b2⟩;clear q0 q1 q2 q3 q4 q5 q6 f5 m4;have o6:=b2.size;simp only[World.size_alloc,World.size_setCell]at o6;have k2:Aj (fun j=>j=w.heap.size+1+1) wr w1:=(((Aj.refl (fun j=>j=w.heap.size+1+1) wr).setCell (p:=⟨w.heap.size+1+1,0,none⟩) rfl _).alloc _).below b2 rr;have h5:w1.heap[wr.heap.size]? =some (.cells #[.int .i64 e.k.kind, .int .u32 e.k.isp, .int .u32 e.k.ism, .bool e.k.neg, .int .i64 e.k.lo, .int .i64 e.k.hi, .slice e.A e.ch.len e.c] 27 (0,0)):=(b2.block _ (by simp)).trans (Ak (by simp));have h3:w1.heap[w.heap.size+1+1]? =some (.cells #[.slice (some ⟨g,0,none⟩) ms.length c1] 25 (0,0)):=(b2.block _ (by simp;omega)).trans ((Am (by simp;omega)).trans (one_setCell j7.out));have a3:=Alo i4.out;rw[Su _ _ SE.len,List.take_left']at a3
    rotate_left
    ·rfl
    have a7:w1.ownsRow (w.heap.size+1) 27 7 (.slice (some ⟨g,0,none⟩) ms.length c1) ms.length (ms.flatMap SE.cells):=
     Gn ((ownsRow_setCell_other a3 (fun h=>g1 h.symm) _).alloc _) b2 rr
    have g7:Hid (Dd w.heap.size w1 ds):=HM.out.keep k2 (fun k hk o ho hd=>by subst hk;rw[j7.out]at ho;subst hd;cases ho);have f4:Below w.heap.size w w1:=hB.trans (k2.to_below (fun k hk=>by omega) (by omega));have H5:=hI h5;have c50:=Ab (j:=6) h5 rfl;clear b2 a3 h5;have a6:=hI a7;clear a7;have H3:=hI h3;have f5:=cell_of_one h3;clear h3;by_cases hal:Ag e.k e.ch.len=0
    ·have g8:(Ag e.k e.ch.len==0)=true:=by rw[hal];rfl
     have s1:=hI hal;clear hal;have t0:e.ch.len<=e.c:=(d8.out e (by simp)).1.2.1;have t1:e.c<=9223372036854775807:=by have:=(d8.out e (by simp)).1.2.2.1;unfold maxLen at this;omega
     have q8:wr.heap.size<w1.heap.size:=lt_of_block H5.out;obtain⟨q,hq⟩:∃q,q=min e.ch.len 41:=⟨_,rfl⟩;have p8:q<=e.ch.len:=by omega
     have m9:q<=41:=by omega
     have r9:Hid (e.ch.list.take q=e.ch.list.take 41):=by
      show e.ch.list.take q=e.ch.list.take 41;rcases Nat.le_total e.ch.len 41 with h|h
      ·rw[List.take_of_length_le (by rw[Fo.list_len];omega),List.take_of_length_le (by rw[Fo.list_len];omega)]
      ·rw[show q=41 by omega]
     obtain⟨W0,b7⟩:∃W0,w1.alloc (.cells #[.slice e.A q e.c] 25)=W0:=⟨_,rfl⟩;have j5:W0.heap[w1.heap.size]? =some (.cells #[.slice e.A q e.c] 25 (0,0)):=by rw[←b7];exact hpt
     have q9:Aj (fun _=>False) w1 W0:=by rw[←b7];exact(Aj.refl _ _).alloc _
     have a5:W0.heap.size=w1.heap.size+1:=by rw[←b7];simp
     have HQ:=hI hq;clear hq;have p7:=hI b7;clear b7;have o4:=hI j5;clear j5;by_cases h41:e.ch.len<=41
     all_goals
      have HZ:=hI a5;clear a5;gi_wp2;refine⟨trivial, ?_⟩
      gi_at_call 176
      refine(callsIn_wide.2 (Ac2 _ _ _ _)).mono ?_;rintro e2 w2 ⟨rfl,rfl⟩;gi_wp2;have hE:=p7.out;rw[HQ.out]at hE
      first|rw[Nat.min_eq_left h41]at hE|rw[Nat.min_eq_right (by omega)]at hE
      rw[hE];clear hE;refine Dt (gf:=219) (lb:= #[.pointer (some ⟨w1.heap.size,0,none⟩)]) rfl (enters_of Tryz.func219 (by kernel_rfl) rfl) fun fn D l rc W1 hrc hD hl hK2 hD1 hl1 m2=> ?_
      have a5:=HZ.out;have t4:w1.heap.size+1<l:=by omega
      have u1:l<W1.heap.size:=by omega
      have u4:D<l:=by omega
      have t5:w1.heap.size<D:=by omega
      have p4:=hI hrc;clear hrc;have s3:=hI (And.intro hD (And.intro hl m2));clear hD hl m2 a5;have b9:Aj (fun _=>False) w1 W1:=q9.trans hK2;have b1:Below w.heap.size w W1:=f4.trans (b9.to_below (fun k hk=>hk.elim) (by have:=f4.size;omega))
      obtain⟨J,hJ⟩:∃J:Nat->World->Prop,J=fun j W=>∃(L:List SE) (A2:Option Addr) (c2:Nat),j<=q/\L.length+j=q/\L.reverse.map SE.pat=(e.ch.list.take q).drop j/\(∀x∈L,x.ok w)∧
        W.heap[w.heap.size+1+1]? =some (.cells #[.slice A2 (ms.length+L.length) c2] 25 (0,0))∧
        W.ownsRow (w.heap.size+1) 27 7 (.slice A2 (ms.length+L.length) c2) (ms.length+L.length) ((ms++L).flatMap SE.cells)∧
        (∃g2,A2=some ⟨g2,0,none⟩/\(g2=g\/W1.heap.size<=g2))∧
        Aj (fun b=>b=w.heap.size+1+1\/b=l\/b=g) W1 W/\W.heap[l]? =some (.loop (rc .ready none)):=⟨_,rfl⟩
      have HJ:=hI hJ;clear hJ
      refine(Ac3 (9-1) l w1.heap.size (by omega) e.A q e.c e.ch p8 (by omega) w (d8.out e (by simp)).2
       J
       W1 ?hj ?hy ?h0).mono ?_
      case h0=>
       rw[HJ.out];refine⟨[],some ⟨g,0,none⟩,c1,rr,by simp, ?_,by simp,(b9.block _ (by omega) (by simp)).trans H3.out, ?_,⟨g,rfl,Or.inl rfl⟩,Aj.refl _ _,hl1⟩
       ·rw[List.drop_eq_nil_of_le (by rw[List.length_take];omega)];rfl
       ·simp only[List.length_nil,Nat.add_zero,List.append_nil];exact Gn a6.out (Below.trans (Below.refl w1.heap.size w1) (b9.to_below (fun k hk=>hk.elim) rr)) rr
      case hj=>
       intro j W hx;rw[HJ.out]at hx;obtain⟨L,A2,c2,h1,h2,h3,h4,h5,h6,h7,h8,h9⟩:=hx;have f8:W.heap[w1.heap.size]? =some (.cells #[.slice e.A q e.c] 25 (0,0)):=(h8.block _ (by omega) (by omega)).trans ((hK2.block _ (by have:=hK2.size;have:=HZ.out;omega) (by simp)).trans o4.out);refine⟨cell_of_one f8,fun b o hb=> ?_⟩
       exact World.cell?_of_block ((h8.block b (by have:=b1.size;omega) (by omega)).trans (b1.block b hb))
      case hy=>
       intro i k' ch' A' c' W hi hg i8 hx;rw[HJ.out]at hx;obtain⟨L,A2,c2,h1,h2,h3,h4,h5,h6,⟨g2,rfl,o3⟩,h8,h9⟩:=hx;obtain⟨N,hN⟩:∃N,ms.length+L.length=N:=⟨_,rfl⟩;rw[hN]at h5 h6;have u0:N<=2000:=by omega
       have HN:=hI hN;clear hN;refine Du p4.out h9 rfl ?_;have H9:=hI h9;clear h9;have g6:=hI h3;clear h3;have f6:=hI h4;clear h4;have i9:=hI h5;clear h5;have k5:=hI h6;clear h6;have k6:=hI h8;clear h8;have HG:=hI hg;clear hg;have o2:=hI i8;clear i8;have g0:=hI h2;clear h2;gi_wp2;have r4:l<W.heap.size:=(Array.getElem?_eq_some_iff.1 H9.out).1;have u3:=k6.out.size;have i1:(W.alloc (.cells #[.int .i64 k'.kind, .int .u32 k'.isp, .int .u32 k'.ism, .bool k'.neg, .int .i64 k'.lo, .int .i64 k'.hi, .slice A' ch'.len c'] 27)).heap[l]? =some (.loop (rc .ready none)):=(Am r4).trans H9.out;have i6:(W.alloc (.cells #[.int .i64 k'.kind, .int .u32 k'.isp, .int .u32 k'.ism, .bool k'.neg, .int .i64 k'.lo, .int .i64 k'.hi, .slice A' ch'.len c'] 27)).heap[W.heap.size]? =some (.cells #[.int .i64 k'.kind, .int .u32 k'.isp, .int .u32 k'.ism, .bool k'.neg, .int .i64 k'.lo, .int .i64 k'.hi, .slice A' ch'.len c'] 27 (0,0)):=Ak rfl;have j8:Aj (fun b=>b=w.heap.size+1+1\/b=l\/b=g) W1 (W.alloc (.cells #[.int .i64 k'.kind, .int .u32 k'.isp, .int .u32 k'.ism, .bool k'.neg, .int .i64 k'.lo, .int .i64 k'.hi, .slice A' ch'.len c'] 27)):=k6.out.alloc _;have k8:(W.alloc (.cells #[.int .i64 k'.kind, .int .u32 k'.isp, .int .u32 k'.ism, .bool k'.neg, .int .i64 k'.lo, .int .i64 k'.hi, .slice A' ch'.len c'] 27)).heap[w.heap.size+1+1]? =some (.cells #[.slice (some ⟨g2,0,none⟩) N c2] 25 (0,0)):=(Am (lt_of_block i9.out)).trans i9.out;have j0:=k5.out.alloc (.cells #[.int .i64 k'.kind, .int .u32 k'.isp, .int .u32 k'.ism, .bool k'.neg, .int .i64 k'.lo, .int .i64 k'.hi, .slice A' ch'.len c'] 27);have o0:W.heap.size<(W.alloc (.cells #[.int .i64 k'.kind, .int .u32 k'.isp, .int .u32 k'.ism, .bool k'.neg, .int .i64 k'.lo, .int .i64 k'.hi, .slice A' ch'.len c'] 27)).heap.size:=by simp
       generalize(W.alloc (.cells #[.int .i64 k'.kind, .int .u32 k'.isp, .int .u32 k'.ism, .bool k'.neg, .int .i64 k'.lo, .int .i64 k'.hi, .slice A' ch'.len c'] 27))=U at*;refine⟨i1, ?_⟩;have m0:(U.putObj l (.loop (rc .busy none))).heap[l]? =some (.loop (rc .busy none)):=World.putObj_heap_same (by omega);have f9:Aj (fun b=>b=w.heap.size+1+1\/b=l\/b=g) W1 (U.putObj l (.loop (rc .busy none))):=j8.putObj (by simp) _;have b3:(U.putObj l (.loop (rc .busy none))).heap[w.heap.size+1+1]? =some (.cells #[.slice (some ⟨g2,0,none⟩) N c2] 25 (0,0)):=(World.putObj_heap_other (by omega)).trans k8;have a4:(U.putObj l (.loop (rc .busy none))).heap[W.heap.size]? =some (.cells #[.int .i64 k'.kind, .int .u32 k'.isp, .int .u32 k'.ism, .bool k'.neg, .int .i64 k'.lo, .int .i64 k'.hi, .slice A' ch'.len c'] 27 (0,0)):=(World.putObj_heap_other (by omega)).trans i6;have d9:(U.putObj l (.loop (rc .busy none))).ownsRow (w.heap.size+1) 27 7 (.slice (some ⟨g2,0,none⟩) N c2) N ((ms++L).flatMap SE.cells):=ownsRow_putObj j0 _ i1 rfl;have t9:W1.heap.size<=(U.putObj l (.loop (rc .busy none))).heap.size:=f9.size;have m7:g2<W.heap.size:=(k5.out.lt g2 rfl).2;clear i1 i6 j8 k8 j0 o0;generalize U.putObj l (.loop (rc .busy none))=V at*;have c3:=cell_of_one b3;have f3:=free_of_one b3;have d0:=Ab (j:=0) a4 rfl;have d1:=Ab (j:=1) a4 rfl;have d2:=Ab (j:=2) a4 rfl;have d3:=Ab (j:=3) a4 rfl;have d4:=Ab (j:=4) a4 rfl;have d5:=Ab (j:=5) a4 rfl;have d6:=Ab (j:=6) a4 rfl;obtain⟨o9,r1⟩:=d9.lt g2 rfl;have b8:some (w.heap.size+1+1)≠some g2:=Boxed.not_row (B:=w.heap.size+1+1) b3 (by decide) d9;have t2:N<=c2:=(Bd.of_own d9 (by decide)).2.1;have t8:w.heap.size+1+1<V.heap.size:=lt_of_block b3;have s4:W.heap.size<V.heap.size:=lt_of_block a4;have k7:=hI m0;clear m0;have m5:=hI f9;clear f9;have i7:=hI b3;clear b3;have g3:=hI d9;clear d9;have j1:=hI a4;clear a4;gi_wp2
       refine Xj 4 (fun W'=>W'.cell? ⟨w.heap.size+1+1,0,none⟩=some (.slice (some ⟨g2,0,none⟩) N c2)/\W'.cell? ⟨W.heap.size,0,none⟩=some (.int .i64 k'.kind)/\W'.cell? ⟨W.heap.size,1,none⟩=some (.int .u32 k'.isp)/\W'.cell? ⟨W.heap.size,2,none⟩=some (.int .u32 k'.ism)∧
        W'.cell? ⟨W.heap.size,3,none⟩=some (.bool k'.neg)/\W'.cell? ⟨W.heap.size,4,none⟩=some (.int .i64 k'.lo)/\W'.cell? ⟨W.heap.size,5,none⟩=some (.int .i64 k'.hi)/\W'.cell? ⟨W.heap.size,6,none⟩=some (.slice A' ch'.len c')) (by kernel_rfl) (by kernel_rfl) (fun _ _ h=>by exact h) ⟨c3,d0,d1,d2,d3,d4,d5,d6⟩ (fun hHeld=> ?_)
       (refine' Rx (i:=0) (v:=_) rfl (by kernel_rfl) (by kernel_rfl) (by kernel_rfl) (by kernel_rfl) (fun _ _ _ h=>h) (Or.inl ⟨by rfl,fun w' hSw=>by(try dsimp only at hSw);go_split_ands;go_simp;(try with_reducible rfl)⟩) (by assumption) ?_;(try simp only[Act.put,nY,nX]));(refine' Rx (i:=1) (v:=_) rfl (by kernel_rfl) (by kernel_rfl) (by kernel_rfl) (by kernel_rfl) (fun _ _ _ h=>h) (Or.inl ⟨by rfl,fun w' hSw=>by(try dsimp only at hSw);go_split_ands;go_simp;(try with_reducible rfl)⟩) (by assumption) ?_;(try simp only[Act.put,nY,nX]));(refine' Rx (i:=2) (v:=_) rfl (by kernel_rfl) (by kernel_rfl) (by kernel_rfl) (by kernel_rfl) (fun _ _ _ h=>h) (Or.inl ⟨by rfl,fun w' hSw=>by(try dsimp only at hSw);go_split_ands;go_simp;(try with_reducible rfl)⟩) (by assumption) ?_;(try simp only[Act.put,nY,nX]))
       (refine Yj (i:=3) (by kernel_rfl) rfl (fun K' hK'=> ?_);simp only[nY];go_simp)
       refine hK' _ _ ⟨.inr (by first|(go_keep;done)|((try dsimp only);((repeat' apply And.intro)<;>(try simp(disch:=omega) only[Cb,Bn,World.cell?_drew])<;>first|assumption|(simp[*,go_sem];done)))),fun hS3=> ?_⟩
       (try simp only[Act.put,nY,nX])
       have p5:(V.alloc (.cells #[.int .i64 0, .int .u32 0, .int .u32 0, .bool false, .int .i64 0, .int .i64 0, .slice none 0 0] 27)).drew.heap[w.heap.size+1+1]? =some (.cells #[.slice (some ⟨g2,0,none⟩) N c2] 25 (0,0)):=(Am (lt_of_block i7.out)).trans i7.out;have pq:(V.alloc (.cells #[.int .i64 0, .int .u32 0, .int .u32 0, .bool false, .int .i64 0, .int .i64 0, .slice none 0 0] 27)).drew.heap[W.heap.size]? =some (.cells #[.int .i64 k'.kind, .int .u32 k'.isp, .int .u32 k'.ism, .bool k'.neg, .int .i64 k'.lo, .int .i64 k'.hi, .slice A' ch'.len c'] 27 (0,0)):=(Am (lt_of_block j1.out)).trans j1.out;have pl:(V.alloc (.cells #[.int .i64 0, .int .u32 0, .int .u32 0, .bool false, .int .i64 0, .int .i64 0, .slice none 0 0] 27)).drew.heap[l]? =some (.loop (rc .busy none)):=(Am (lt_of_block k7.out)).trans k7.out;have pK:Aj (fun b=>b=w.heap.size+1+1\/b=l\/b=g) W1 (V.alloc (.cells #[.int .i64 0, .int .u32 0, .int .u32 0, .bool false, .int .i64 0, .int .i64 0, .slice none 0 0] 27)).drew:=(m5.out.alloc _).drew;have p6:(V.alloc (.cells #[.int .i64 0, .int .u32 0, .int .u32 0, .bool false, .int .i64 0, .int .i64 0, .slice none 0 0] 27)).drew.ownsRow (w.heap.size+1) 27 7 (.slice (some ⟨g2,0,none⟩) N c2) N ((ms++L).flatMap SE.cells):=g3.out.alloc _;have pz:∀j u,[Value.int .i64 0, .int .u32 0, .int .u32 0, .bool false, .int .i64 0, .int .i64 0, .slice none 0 0][j]? =some u->(V.alloc (.cells #[.int .i64 0, .int .u32 0, .int .u32 0, .bool false, .int .i64 0, .int .i64 0, .slice none 0 0] 27)).drew.cell? ((⟨V.heap.size,0,none⟩:Addr).add j)=some u:=Jh V _ _;have ps:(V.alloc (.cells #[.int .i64 0, .int .u32 0, .int .u32 0, .bool false, .int .i64 0, .int .i64 0, .slice none 0 0] 27)).drew.heap.size=V.heap.size+1:=by simp
       generalize(V.alloc (.cells #[.int .i64 0, .int .u32 0, .int .u32 0, .bool false, .int .i64 0, .int .i64 0, .slice none 0 0] 27)).drew=w3 at*;refine Yj (i:=4) (by kernel_rfl) rfl (fun K' hK'=> ?_);rw[if_pos (by rfl)];refine C1 (.tmp 46) (.tmp 49) 25 rfl (w.heap.size+1) 27 (.agg #[.int .i64 0, .int .u32 0, .int .u32 0, .bool false, .int .i64 0, .int .i64 0, .slice none 0 0]) 7 64 Tryz.underlying25 Ah5 rfl (by decide) (.slice (some ⟨g2,0,none⟩) N c2) N _ (by rfl) p6 ⟨V.heap.size,0,none⟩ 1 1 _ (by rfl) rfl pz (by intro u hu;simp at hu;rcases hu with rfl|rfl|rfl|rfl|rfl|rfl|rfl<;>rfl) (by unfold maxLen;omega) (by omega) (by omega) ?_;intro v' w4 a0 a2 _ j3;obtain⟨g4,cap4,rfl⟩:=ownsRow_succ a0;have p0:g4=g2\/g4=w3.heap.size:=by simpa[Value.ownBlock]using j3
       have s7:=a2.size;have m8:(Value.slice (some ⟨g2,0,none⟩) N c2).ownBlock=some g2:=rfl;rw[m8]at a2;have q5:=(a2.block _ (lt_of_block p5) b8).trans p5;have qq:=(a2.block _ (lt_of_block pq) (by simp;omega)).trans pq;have ql:=(a2.block _ (lt_of_block pl) (by simp;omega)).trans pl;have qK:Aj (fun b=>b=w.heap.size+1+1\/b=l\/b=g) W1 w4:=⟨a2.os.trans pK.os,a2.tape.trans pK.tape,a2.output.trans pK.output,Nat.le_trans pK.size a2.size,fun k hk hs=>(a2.block k (by have:=pK.size;omega) (by simp;omega)).trans (pK.block k hk hs)⟩
       have e0:=Ab (j:=0) qq rfl;have e1:=Ab (j:=1) qq rfl;have e2:=Ab (j:=2) qq rfl;have e3:=Ab (j:=3) qq rfl;have e4:=Ab (j:=4) qq rfl;have e5:=Ab (j:=5) qq rfl;have e6:=Ab (j:=6) qq rfl;have e7:=cell_of_one q5;have k1:=Yg a0;have i5:N+1<=cap4:=(Bd.of_own a0 (by decide)).2.1;have g5:cap4<=9223372036854775807:=by have:=(Bd.of_own a0 (by decide)).2.2.1;unfold maxLen at this;omega
       have a8:(w4.setCells g4 (N*7) [.int .i64 k'.kind, .int .u32 k'.isp, .int .u32 k'.ism, .bool k'.neg, .int .i64 k'.lo, .int .i64 k'.hi, .slice A' ch'.len c']).ownsRow (w.heap.size+1) 27 7 (.slice (some ⟨g4,0,none⟩) (N+1) cap4) (N+1) ((ms++L).flatMap SE.cells++[.int .i64 k'.kind, .int .u32 k'.isp, .int .u32 k'.ism, .bool k'.neg, .int .i64 k'.lo, .int .i64 k'.hi, .slice A' ch'.len c']):=Abl a0 g3.out.1 rfl;have f1:w.heap.size+1+1≠g4:=by have:=lt_of_block p5;simp at b8;omega
       have b4:l≠g4:=by have:=lt_of_block pl;omega
       have i3:g4=g\/W1.heap.size<=g4:=by have:=pK.size;omega
       have o7:W.heap.size≠g4:=by have:=lt_of_block pq;omega
       have d7:=hI a0;have b6:=hI a8;have p3:=hI k1;have Q5:=hI q5;have QL:=hI ql;have QK:=hI qK;clear p5 pq pl pK p6 pz ps a0 a2 j3 q5 qq ql qK a8 k1 c3 d0 d1 d2 d3 d4 d5 d6 f3 hHeld hS3;refine hK' _ _ ⟨.inl (by kernel_rfl),fun _=>Yh _ _ _ _ (by kernel_rfl) ?_⟩
       clear hK' K';have s9:=trivial;have t3:((N:Nat):Int)<(N:Int)+1:=by omega
       (try simp only[Act.put,nY,nX])
       (refine' Aa 5 rfl ?_;(try simp only[Act.put,nY,nX]))
       have f0:Hid (∀X:World,X.heap[w.heap.size+1+1]? =some (.cells #[.slice (some ⟨g4,0,none⟩) (N+1) cap4] 25 (0,0))→
         X.ownsRow (w.heap.size+1) 27 7 (.slice (some ⟨g4,0,none⟩) (N+1) cap4) (N+1) ((ms++L).flatMap SE.cells++[.int .i64 k'.kind, .int .u32 k'.isp, .int .u32 k'.ism, .bool k'.neg, .int .i64 k'.lo, .int .i64 k'.hi, .slice A' ch'.len c'])→
         Aj (fun b=>b=w.heap.size+1+1\/b=l\/b=g) W1 X->X.heap[l]? =some (.loop (rc .busy none))->J i (X.putObj l (.loop (rc .ready none)))):=by
        intro X x1 x2 x3 x4;rw[HJ.out];have j4:ms.length+(L++[(⟨k',A',c',ch'⟩:SE)]).length=N+1:=by rw[List.length_append];have:=HN.out;simp;omega
        have f7:(ms++(L++[(⟨k',A',c',ch'⟩:SE)])).flatMap SE.cells=(ms++L).flatMap SE.cells++[.int .i64 k'.kind, .int .u32 k'.isp, .int .u32 k'.ism, .bool k'.neg, .int .i64 k'.lo, .int .i64 k'.hi, .slice A' ch'.len c']:=by rw[←List.append_assoc,List.flatMap_append (xs:=ms++L)];rfl
        refine⟨L++[(⟨k',A',c',ch'⟩:SE)],some ⟨g4,0,none⟩,cap4,by omega,by rw[List.length_append];have:=g0.out;simp;omega, ?_, ?_, ?_, ?_,⟨g4,rfl,i3⟩,x3.putObj (by simp) _,World.putObj_heap_same (lt_of_block x4)⟩
        ·have h3:=g6.out;have k0:=HG.out;rw[Fo.get_list]at k0;have r3:i<(e.ch.list.take q).length:=by rw[List.length_take,Fo.list_len];omega
         have o1:(e.ch.list.take q)[i]=(k',ch'):=by
          have:(e.ch.list.take q)[i]? =some (k',ch'):=by rw[List.getElem?_take,if_pos hi];exact k0
          exact(List.getElem?_eq_some_iff.1 this).2
         rw[List.reverse_append,List.map_append,h3,List.drop_eq_getElem_cons r3,o1];rfl
        ·intro x hx;rcases List.mem_append.1 hx with h|h
         ·exact f6.out x h
         ·obtain rfl:x=⟨k',A',c',ch'⟩:=by simpa using h
          exact o2.out
        ·rw[j4,World.putObj_heap_other (by omega)];exact x1
        ·rw[j4,f7];exact ownsRow_putObj x2 _ x4 rfl
       refine M0 (i:=6) (j:=7) (by kernel_rfl) rfl rfl (fun K' hK'=> ?_) (fun K' hK'=> ?_)
       all_goals rw[if_pos (by rfl)]
       ·refine wp_store_mid 27 (.tmp 51) (.tmp 47) rfl g4 (N*7) #[.int .i64 k'.kind, .int .u32 k'.isp, .int .u32 k'.ism, .bool k'.neg, .int .i64 k'.lo, .int .i64 k'.hi, .slice A' ch'.len c'] (by rfl) (by rfl) p3.out Pw (Ae0 _ _ _ _ _ _ _ _ _) ?_;have r5:=(Dm g4 _ f1 [.int .i64 k'.kind, .int .u32 k'.isp, .int .u32 k'.ism, .bool k'.neg, .int .i64 k'.lo, .int .i64 k'.hi, .slice A' ch'.len c'] (N*7) w4).trans Q5.out;have rl:=(Dm g4 _ b4 [.int .i64 k'.kind, .int .u32 k'.isp, .int .u32 k'.ism, .bool k'.neg, .int .i64 k'.lo, .int .i64 k'.hi, .slice A' ch'.len c'] (N*7) w4).trans QL.out;have rq:∀o,(w4.setCells g4 (N*7) [.int .i64 k'.kind, .int .u32 k'.isp, .int .u32 k'.ism, .bool k'.neg, .int .i64 k'.lo, .int .i64 k'.hi, .slice A' ch'.len c']).cell? ⟨W.heap.size,o,none⟩=w4.cell? ⟨W.heap.size,o,none⟩:=fun o=>World.cell?_of_block (Dm g4 _ o7 _ _ _)
        have rK:Aj (fun b=>b=w.heap.size+1+1\/b=l\/b=g) W1 (w4.setCells g4 (N*7) [.int .i64 k'.kind, .int .u32 k'.isp, .int .u32 k'.ism, .bool k'.neg, .int .i64 k'.lo, .int .i64 k'.hi, .slice A' ch'.len c']):=Aj.setCells g4 (by omega) _ _ _ QK.out;have r6:=b6.out;have rs:=N4 g4 [.int .i64 k'.kind, .int .u32 k'.isp, .int .u32 k'.ism, .bool k'.neg, .int .i64 k'.lo, .int .i64 k'.hi, .slice A' ch'.len c'] (N*7) w4;generalize w4.setCells g4 (N*7) [.int .i64 k'.kind, .int .u32 k'.isp, .int .u32 k'.ism, .bool k'.neg, .int .i64 k'.lo, .int .i64 k'.hi, .slice A' ch'.len c']=w5 at*;have r7:=cell_of_one r5;have r8:=free_of_one r5;refine hK' _ _ ⟨.inr trivial,fun _=> ?_⟩
        clear hK' K' rq;have R5:=hI r5;clear r5;have R6:=hI r6;clear r6;have RK:=hI rK;clear rK;have RL:=hI rl;clear rl
        (try simp only[Act.put,nY,nX])
        (refine Aqq 7 rfl (fun K' hK'=> ?_);simp only[nY];go_simp)
        refine hK' _ _ ⟨.inl (by kernel_rfl),fun _=>Be (by kernel_rfl) ?_ _⟩
        simp only[Exit.inBlock];have s5:=one_setCell (u:= .slice (some ⟨g4,0,none⟩) (N+1) cap4) R5.out;have s6:=ownsRow_setCell_other R6.out (a:=⟨w.heap.size+1+1,0,none⟩) (by simp[Value.ownBlock];omega) (.slice (some ⟨g4,0,none⟩) (N+1) cap4);have sK:=RK.out.setCell' (p:=⟨w.heap.size+1+1,0,none⟩) (by simp) (.slice (some ⟨g4,0,none⟩) (N+1) cap4);have sl:=(Below.heap_setCell w5 ⟨w.heap.size+1+1,0,none⟩ (.slice (some ⟨g4,0,none⟩) (N+1) cap4) l (by simp;omega)).trans RL.out;exact⟨sl,rfl,f0.out _ s5 s6 sK sl⟩
       ·have r7:=e7;have r8:=free_of_one Q5.out;go_simp;have r5:=one_setCell (u:= .slice (some ⟨g4,0,none⟩) (N+1) cap4) Q5.out;have r6:=ownsRow_setCell_other d7.out (a:=⟨w.heap.size+1+1,0,none⟩) (by simp[Value.ownBlock];omega) (.slice (some ⟨g4,0,none⟩) (N+1) cap4);have rt:(w4.setCell ⟨w.heap.size+1+1,0,none⟩ (.slice (some ⟨g4,0,none⟩) (N+1) cap4)).there g4 (N*7) 7:=Yg r6;have rK:=QK.out.setCell' (p:=⟨w.heap.size+1+1,0,none⟩) (by simp) (.slice (some ⟨g4,0,none⟩) (N+1) cap4);have rl:=(Below.heap_setCell w4 ⟨w.heap.size+1+1,0,none⟩ (.slice (some ⟨g4,0,none⟩) (N+1) cap4) l (by simp;omega)).trans QL.out;generalize w4.setCell ⟨w.heap.size+1+1,0,none⟩ (.slice (some ⟨g4,0,none⟩) (N+1) cap4)=w5 at*;refine hK' _ _ ⟨.inr trivial,fun _=> ?_⟩
        clear hK' K'
        (try simp only[Act.put,nY,nX])
        refine Aqq 6 rfl (fun K' hK'=> ?_);rw[if_pos (by rfl)];refine wp_store_mid 27 (.tmp 51) (.tmp 47) rfl g4 (N*7) #[.int .i64 k'.kind, .int .u32 k'.isp, .int .u32 k'.ism, .bool k'.neg, .int .i64 k'.lo, .int .i64 k'.hi, .slice A' ch'.len c'] (by rfl) (by rfl) rt Pw (Ae0 _ _ _ _ _ _ _ _ _) ?_;refine hK' _ _ ⟨.inl (by kernel_rfl),fun _=>Be (by kernel_rfl) ?_ _⟩
        simp only[Exit.inBlock];have s5:=(Dm g4 _ f1 [.int .i64 k'.kind, .int .u32 k'.isp, .int .u32 k'.ism, .bool k'.neg, .int .i64 k'.lo, .int .i64 k'.hi, .slice A' ch'.len c'] (N*7) w5).trans r5;have sl:=(Dm g4 _ b4 [.int .i64 k'.kind, .int .u32 k'.isp, .int .u32 k'.ism, .bool k'.neg, .int .i64 k'.lo, .int .i64 k'.hi, .slice A' ch'.len c'] (N*7) w5).trans rl;exact⟨sl,rfl,f0.out _ s5 (Abl r6 g3.out.1 rfl) (Aj.setCells g4 (by omega) _ _ _ rK) sl⟩
      rintro e3 W' ⟨⟨v,rfl⟩,m1⟩;rw[HJ.out]at m1;obtain⟨L,A2,c2, -,h2,h3,h4,h5,h6, -,h8,h9⟩:=m1;refine .inl ⟨h9, ?_⟩;have j9:Aj (fun b=>b=w.heap.size+1+1\/b=l\/b=g) W1 (W'.putObj l (.loop (rc .exhausted none))):=h8.putObj (by simp) _;have k4:(W'.putObj l (.loop (rc .exhausted none))).heap[w.heap.size+1+1]? =some (.cells #[.slice A2 (ms.length+L.length) c2] 25 (0,0)):=(World.putObj_heap_other (by omega)).trans h5;have k9:(W'.putObj l (.loop (rc .exhausted none))).ownsRow (w.heap.size+1) 27 7 (.slice A2 (ms.length+L.length) c2) (ms.length+L.length) ((ms++L).flatMap SE.cells):=ownsRow_putObj h6 _ h9 rfl;generalize W'.putObj l (.loop (rc .exhausted none))=X at*;have g0:=hI h2;clear h2;have g6:=hI h3;clear h3;have f6:=hI h4;clear h4;have o5:=hI k4;clear k4;have p1:=hI k9;clear k9 h5 h6 h9 h8;gi_wp2;have k3:∀j,j<W1.heap.size->j≠w.heap.size+1+1->j≠l->j≠g->X.heap[j]? =W1.heap[j]? :=fun j hj h1 h2 h3=>j9.block j hj (by omega)
      have q7:Below w.heap.size w X:=b1.trans (j9.to_below (fun k hk=>by have:=f4.size;omega) (by omega));refine⟨⟨cnt+1,ms++L,A2,c2,Ft D::ds,⟨by omega,rfl⟩,by omega,⟨D,rfl,by omega,(k3 D (by omega) (by omega) (by omega) (by omega)).trans hD1,fun D' hm=> ?_,g7.out.mono fun D' hm hd=> ?_⟩, ?_, ?_, ?_, ?_, ?_,q7⟩, ?_⟩
      ·have:=(Array.getElem?_eq_some_iff.1 (g7.out.at_ D' hm).1).1;omega
      ·have p9:=(Array.getElem?_eq_some_iff.1 hd).1;have r0:W1.heap[D']? =some (.deferred (some [])):=(b9.block D' p9 (by simp)).trans hd
       have s2:D'≠w.heap.size+1+1:=by
        rintro rfl
        have:=H3.out
        rw[hd]at this;cases this
       have s0:D'≠g:=by
        rintro rfl;rcases a6.out.2 with⟨hx,_⟩|⟨g',cap',cur,hx,_,j6,_⟩
        ·cases hx
        ·injection hx with hx
         injection hx with hx
         injection hx with hx
         subst hx;rw[hd]at j6;cases j6
       exact(k3 D' (by have:=b9.size;omega) s2 (by omega) s0).trans r0
      ·rw[List.length_append];exact o5.out
      ·rw[List.length_append];exact p1.out
      ·intro x hx;rcases List.mem_append.1 hx with h|h
       ·exact d8.out x (by simp[h])
       ·exact f6.out x h
      ·have:=g0.out;rw[List.length_append];omega
      ·rw[←List.map_reverse,←g9.out,show 40-cnt=(39-cnt)+1 by omega,SE.pat,B5,if_pos s1.out,show 40-(cnt+1)=39-cnt by omega,List.reverse_append,List.map_append,g6.out,List.drop_zero,r9.out]
      ·simp[intOf];omega
    ·have g8:(Ag e.k e.ch.len==0)=false:=by simpa using hal
     have p2:(Ag e.k e.ch.len !=0)=true:=by simpa using hal
     have hr:B5 40 [(k,ch)]=Ag e.k e.ch.len:=by
      rw[←g9.out,show 40-cnt=(39-cnt)+1 by omega,SE.pat,B5,if_neg hal]
     have HR:=hI hr;clear hal hr;gi_wp2;exact Gv (B:=w.heap.size) Tryz.results136 (.int .i64 (Ag e.k e.ch.len)) rfl g7.out fun w' hw'=>⟨by rw[HR.out],f4.trans hw'.below⟩
end Go.Proofs.YtlgliddhideflaaGreatDoor
namespace Go.Proofs.YtlgliddhideflaaGreatDoor
open Go.RowKit Go.Shelf
def Kw {α:Type}(p:α->Bool):List α->Int
 |[]=> -1
 |x::l=>if p x then 0 else if Kw p l<0 then-1 else Kw p l+1
theorem Li {α:Type}(p:α->Bool):∀l:List α,l.any p=false->Kw p l= -1
 |[],_=>rfl
 |x::l,h=>by
  simp only[List.any_cons,Bool.or_eq_false_iff]at h;simp[Kw,h.1,Li p l h.2]
theorem Lj {α:Type}(p:α->Bool):∀(l:List α) (k:Nat) (x:α),l[k]? =some x->(l.take k).any p=false->p x=true->Kw p l=k
 |[],k,x,h,_,_=>by simp at h
 |y::l,0,x,h,_,hp=>by
  obtain rfl:y=x:=by simpa using h
  simp[Kw,hp]
 |y::l,k+1,x,h,hn,hp=>by
  simp only[List.take_succ_cons,List.any_cons,Bool.or_eq_false_iff]at hn
  have:=Lj p l k x (by simpa using h) hn.2 hp
  simp only[Kw,hn.1,this];rw[if_neg (by simp),if_neg (by omega)];omega
theorem Mv {α:Type}(p:α->Bool):∀l:List α,decide (0<=Kw p l)=l.any p
 |[]=>rfl
 |x::l=>by
  have ih:=Mv p l;simp only[Kw,List.any_cons];by_cases h:p x=true
  ·simp[h]
  ·have h':p x=false:=by simpa using h
   simp only[h',Bool.false_or,←ih];rw[if_neg (by simp)];split
   ·rename_i hl;simp;omega
   ·rename_i hl;simp;omega
theorem Ail (A:Option Addr)(n c:Nat)(xs:List Snd)(F:Nat)(lb:Array Value)(p:Snd->Bool)(w:World)(hx:Ad w A n c xs)(hE:Enters Tryz.prog F)
  (a0:∀W,Below w.heap.size w W→∀s∈xs,Calls Tryz.prog F (#[C6 s.1 s.2]++lb) W fun e W'=>e= .returned (.bool (p s))/\Below W.heap.size W W'):
  Calls Tryz.prog 152 #[.slice A n c, .func (.func F) #[] lb] w fun e w'=>e= .returned (.int .i64 (Kw p xs))/\Below w.heap.size w w':=by
 have hm:=hx.max;have HX:=hI hx;clear hx;have HC:=hI a0;clear a0;unfold Enters at hE;go_enter Tryz.func152,Tryz.ntmps152;go_wp2
 go_loopw [5,8] (fun _ i wr=>∃k:Nat,k<=n/\i= .int .i64 k/\Hid ((xs.take k).any p=false)/\Below w.heap.size w wr) (fun _ i _=>n-(intOf i).toNat)
 case atStart=>exact⟨0,Nat.zero_le _,rfl,by simp[Hid],Below.refl _ _⟩
 case round=>
  obtain⟨k,hk,rfl,HA,hB⟩:=hrel;by_cases hlt:k<n
  ·obtain⟨b,off,p',m',rfl,hb,a4,a6,a7⟩:=(HX.out.below hB rr).at_ hlt;have a0:=HC.out wr hB (p',m') (List.mem_of_getElem? a4);have a1:=hI a0;clear a0;have HK:=hI a4;clear a4;by_cases hp:p (p',m')=true
   ·have hr:=Lj p xs k (p',m') HK.out HA.out hp;have HR:=hI hr;clear hr;have HP:=hI hp;clear hp;go_wp2_with fail;refine a1.out.mono ?_;rintro e w1 ⟨rfl,a2⟩;rw[HP.out];have a3:=hB.trans (a2.mono hB.size);clear a2;go_wp2;go_ret;exact⟨by rw[HR.out];rfl,a3⟩
   ·have a5:p (p',m')=false:=by simpa using hp
    have HP:=hI a5;clear hp a5;go_wp2_with fail;refine a1.out.mono ?_;rintro e w1 ⟨rfl,a2⟩;rw[HP.out];have a3:=hB.trans (a2.mono hB.size);clear a2;go_wp2
    go_roundw
    case rel=>exact⟨k+1,by omega,by go_num,by rw[Bb xs k _ HK.out,List.any_append,HA.out];simp[HP.out,Hid],a3⟩
    case measure=>simp[intOf];omega
  ·obtain rfl:k=n:=by omega
   have hr:Kw p xs= -1:=by
    have:=HA.out
    rw[List.take_of_length_le (by rw[HX.out.len];exact rr)]at this;exact Li p xs this
   have HR:=hI hr;clear hr;go_wp2;go_ret;exact⟨by rw[HR.out];rfl,hB⟩
theorem Vg (A:Option Addr)(n c:Nat)(xs:List Snd)(F:Nat)(lb:Array Value)(p:Snd->Bool)(w:World)(hx:Ad w A n c xs)(hE:Enters Tryz.prog F)
  (hcall:∀W,Below w.heap.size w W→∀s∈xs,Calls Tryz.prog F (#[C6 s.1 s.2]++lb) W fun e W'=>e= .returned (.bool (p s))/\Below W.heap.size W W'):
  Calls Tryz.prog 137 #[.slice A n c, .func (.func F) #[] lb] w fun e w'=>e= .returned (.bool (xs.any p))/\Below w.heap.size w w':=by
 have a0:=Ail A n c xs F lb p w hx hE hcall;have H:=hI (Mv p xs);clear hx hcall hE;go_enter Tryz.func137,Tryz.ntmps137;go_wp2_with(go_at_call 152;refine a0.mono ?_;rintro e w1 ⟨rfl,a1⟩);go_ret;refine⟨?_,a1⟩;show Ending.returned (.bool (decide (0<=Kw p xs)))=_;rw[H.out]
theorem Ag7 (p m:Int)(w:World):
  Calls Tryz.prog 306 #[C6 p m] w fun e w'=>e= .returned (.bool (!Ck p m))/\Below w.heap.size w w':=by
 go_enter Tryz.func306,Tryz.ntmps306;go_wp2_with(go_at_call 218;refine(Fy _ _ _).mono ?_;rintro e w1 ⟨rfl,a0⟩;have a1:=Df a0;(try simp only[World.size_alloc,World.size_drew,World.size_setCell]at a1);have c0:=fun o=>a0.cell (p:=⟨w.heap.size,o,none⟩) sd;have f0:=fun o=>a0.frozen (p:=⟨w.heap.size,o,none⟩) sd;have a2:Below w.heap.size w w1:=bel;clear a0);go_ret;exact⟨rfl,bel⟩
def Cz (n:Nat)(at_:Int):Int:=if at_<0\/(n:Int)<at_ then 3 else 0
theorem Acb (A:Option Addr)(n c:Nat)(at_:Int)(w:World)(hn:n<=32):
  Calls Tryz.prog 301 #[.slice A n c, .int .i64 at_] w fun e w'=>e= .returned (.int .i64 (Cz n at_))/\w=w':=by
 by_cases h1:at_<0
 ·have hv:Cz n at_=3:=by simp[Cz,h1]
  have H:=hI hv;clear hv;go_enter Tryz.func301,Tryz.ntmps301;go_wp2;go_ret;exact⟨by rw[H.out];rfl,rfl⟩
 ·by_cases h2:(n:Int)<at_
  ·have hv:Cz n at_=3:=by simp[Cz,h2]
   have H:=hI hv;clear hv;go_enter Tryz.func301,Tryz.ntmps301;go_wp2;go_ret;exact⟨by rw[H.out];rfl,rfl⟩
  ·have hv:Cz n at_=0:=by simp[Cz,h1,h2]
   have H:=hI hv;clear hv;go_enter Tryz.func301,Tryz.ntmps301;go_wp2;go_ret;exact⟨by rw[H.out];rfl,rfl⟩
def Fv (x:Nd×Fo)(ws:List Snd):Int:=
 if B5 40 [x]≠0 then B5 40 [x]else if 32<ws.length then 11 else if ws.any (fun s=> !Ck s.1 s.2)then 14 else 0
def Fw (x:Nd×Fo)(ws:List Snd):List Nat:=if Fv x ws=0 then Ev x.1 ws (D1 ws x.2)else B8
theorem Dv {x:Nd×Fo}{ws:List Snd}(h:Fv x ws=0):B5 40 [x]=0/\ws.length<=32/\ws.any (fun s=> !Ck s.1 s.2)=false:=by
 unfold Fv at h;by_cases h1:B5 40 [x]=0
 ·rw[if_neg (by simp[h1])]at h;by_cases h2:32<ws.length
  ·rw[if_pos h2]at h;exact absurd h (by decide)
  ·rw[if_neg h2]at h;cases h3:ws.any (fun s=> !Ck s.1 s.2)
   ·exact⟨h1,by omega,rfl⟩
   ·rw[h3,if_pos rfl]at h;exact absurd h (by decide)
 ·rw[if_pos h1]at h;exact absurd h h1
theorem Uu (x:Nd×Fo)(ws:List Snd):(Fw x ws).length=33/\Bw (Fw x ws):=by
 unfold Fw;split
 ·rename_i h
  obtain⟨h1,h2,_⟩:=Dv h;have a0:=(Fj 40 _ rr h1).2 x (List.mem_cons_self ..);exact Qn ws h2 (.node x.1 x.2 .nil) ⟨a0.1,a0.2,trivial⟩ _ (List.mem_cons_self ..)
 ·exact⟨rfl,Kq⟩
theorem F5 {fn:Func}{p u:Tmp}(h:fn.results= #[.cell p 306, .tmp u])(tmps:Array Value)(w:World)(b:Nat)(r:List Nat)(v:Value)(hp:tmps.getD p undef= .pointer (some ⟨b,0,none⟩))(hv:tmps.getD u undef=v)(hr:Ce w b r):
  (results fn tmps).run Tryz.prog w= .ok (.tuple #[.agg (En r),v]) w:=by
 have h1:=run_loadVar_row (P:=Tryz.prog) w b 306 306 (En r) (0,0) _ hr.1 Tryz.underlying306 rfl (Ra hr.2);rw[results_cell_tmp h,hp,hv];simp only[asAddr,Sem.run_pure,Result.andThen_ok,h1]
theorem Acc (k:Nd)(ch:Fo)(A0:Option Addr)(c0:Nat)(A:Option Addr)(n c:Nat)(ws:List Snd)(w:World)(hf:FSl w A0 ch.len c0 ch)(hw:Ad w A n c ws)(hT:Cq w):
  Calls Tryz.prog 300 #[Em k A0 ch.len c0, .slice A n c] w fun e w'=>e= .returned (.tuple #[.agg (En (Fw (k,ch) ws)), .int .i64 (Fv (k,ch) ws)])/\Below w.heap.size w w':=by
 have f6:=hw.max;have HF:=hI hf;clear hf;have HW:=hI hw;clear hw;have HT:=hI hT;clear hT;go_enter Tryz.func300,Tryz.ntmps300;go_wp2_with fail;refine(Zg k A0 c0 ch _ (HF.out.below (B:=w.heap.size) bel rr)).mono ?_;rintro e w1 ⟨rfl,b2⟩;have g2:=b2.size;simp only[World.size_alloc]at g2;have a3:Below w.heap.size w w1:=bel;have h0:w1.heap[w.heap.size]? =some (.cells #[.int .i64 k.kind, .int .u32 k.isp, .int .u32 k.ism, .bool k.neg, .int .i64 k.lo, .int .i64 k.hi, .slice A0 ch.len c0] 27 (0,0)):=(b2.block _ sd).trans hpt;have d8:Ce w1 (w.heap.size+1) B8:=⟨(b2.block _ sd).trans hpt,rfl⟩;clear b2;have b5:=hI d8;clear d8;have H0:=hI h0;clear h0;by_cases hck:B5 40 [(k,ch)]=0
 ·have b8:(B5 40 [(k,ch)] !=0)=false:=by rw[hck];rfl
  have a7:=hI hck;clear hck;have f4:=hI (HW.out.below a3 rr);by_cases h32:32<n
  ·have hE:Fv (k,ch) ws=11:=by unfold Fv;rw[if_neg (by simp[a7.out]),if_pos (by rw[HW.out.len];exact h32)]
   have hR:Fw (k,ch) ws=B8:=by unfold Fw;rw[hE];rfl
   have HE:=hI hE;have HR:=hI hR;clear hE hR;go_wp2_with(refine B9 rfl (.tmp 4) (.tmp 18) rfl (w.heap.size+1) B8 B8 rfl rfl b5.out rfl ?_;intro w2 b4 b6 f0);refine bodyPost_ret (F5 Tryz.results300 _ _ (w.heap.size+1) _ (.int .i64 11) rfl rfl b4) rfl ⟨by rw[HR.out,HE.out],Bz a3 b6 (by omega) (by omega)⟩
  ·have d9:n<=32:=by omega
   have f1:decide ((32:Int)<(n:Int))=false:=by simp;omega
   go_wp2_with fail;refine(Vg A n c ws 306 #[] (fun s=> !Ck s.1 s.2) w1 f4.out (enters_of Tryz.func306 (by kernel_rfl) rfl) (fun W _ s _=>Ag7 s.1 s.2 W)).mono ?_;rintro e w2 ⟨rfl,a6⟩;have a8:Below w.heap.size w w2:=a3.trans (a6.mono a3.size);have f0:=a6.size;have d7:=hI (b5.out.below a6 rr);have a1:=hI ((a6.block _ (by omega)).trans H0.out);clear a6;by_cases hva:ws.any (fun s=> !Ck s.1 s.2)=true
   ·have hE:Fv (k,ch) ws=14:=by unfold Fv;rw[if_neg (by simp[a7.out]),if_neg (by rw[HW.out.len];exact h32),if_pos hva]
    have hR:Fw (k,ch) ws=B8:=by unfold Fw;rw[hE];rfl
    have HE:=hI hE;have HR:=hI hR;clear hE hR;rw[hva];go_wp2_with(refine B9 rfl (.tmp 4) (.tmp 22) rfl (w.heap.size+1) B8 B8 rfl rfl d7.out rfl ?_;intro w3 f3 f7 g0);refine bodyPost_ret (F5 Tryz.results300 _ _ (w.heap.size+1) _ (.int .i64 14) rfl rfl f3) rfl ⟨by rw[HR.out,HE.out],Bz a8 f7 (by omega) (by omega)⟩
   ·have a5:ws.any (fun s=> !Ck s.1 s.2)=false:=by simpa using hva
    have hE:Fv (k,ch) ws=0:=by unfold Fv;rw[if_neg (by simp[a7.out]),if_neg (by rw[HW.out.len];exact h32),if_neg hva]
    have hR:Fw (k,ch) ws=Ev k ws (D1 ws ch):=by unfold Fw;rw[if_pos hE]
    have HE:=hI hE;have HR:=hI hR;clear hE hR hva;rw[a5];clear a5;obtain⟨f8,b1⟩:=Fj 40 _ rr a7.out;have b1:=b1 (k,ch) (List.mem_cons_self ..);simp only[Zf,List.map_cons,List.map_nil,List.sum_cons,List.sum_nil]at f8;obtain⟨d0,d1,d2,d3,d4,d5,d6⟩:=(⟨Ab (j:=0) a1.out rfl,Ab (j:=1) a1.out rfl,Ab (j:=2) a1.out rfl,Ab (j:=3) a1.out rfl,Ab (j:=4) a1.out rfl,Ab (j:=5) a1.out rfl,Ab (j:=6) a1.out rfl⟩:_/\_/\_/\_/\_/\_/\_);have a2:=hI b1;clear b1;have b7:=hI (Qn ws (by rw[HW.out.len];exact d9) (.node k ch .nil) ⟨a2.out.1,a2.out.2,trivial⟩ (Ev k ws (D1 ws ch)) (List.mem_cons_self ..)).1;go_wp2_with fail;refine(Afy k ch _ A0 _ c0 (HF.out.below a8 rr) a2.out.1 a2.out.2 (by omega)).mono ?_;rintro e w3 ⟨v,rfl,b3,b9⟩;have a9:Below w.heap.size w w3:=a8.trans (b3.mono a8.size);have g0:=b3.size;have g1:=hI (d7.out.below b3 rr);have g5:=Am9 ws A n c d9 (.node k ch .nil) w3 [v] ⟨a2.out.1,a2.out.2,trivial⟩ b9.to_at (HW.out.below a9 rr) (HT.out.below a9 rr) w3 (Below.refl _ _) 0 v (Ev k ws (D1 ws ch)) rfl rfl;clear b3 b9 d0 d1 d2 d3 d4 d5 d6;rcases g5 with⟨x,rfl,a0⟩|⟨x,rfl,a0⟩|⟨x,rfl,a0⟩|⟨x,rfl,a0⟩|⟨x,rfl,a0⟩
    all_goals
     have a4:=hI a0;clear a0;go_wp2_with fail;refine a4.out.mono ?_;rintro e w4 ⟨rfl,b0⟩;have g3:Below w.heap.size w w4:=a9.trans (b0.mono a9.size);have f9:=hI (g1.out.below b0 rr);have g7:=b0.size;clear b0;go_wp2_with(refine B9 rfl (.tmp 4) (.tmp 26) rfl (w.heap.size+1) B8 (Ev k ws (D1 ws ch)) rfl rfl f9.out b7.out ?_;intro w5 g4 f2 g6);exact bodyPost_ret (F5 Tryz.results300 _ _ (w.heap.size+1) _ (.int .i64 0) rfl rfl g4) rfl ⟨by rw[HR.out,HE.out],Bz g3 f2 (by omega) (by omega)⟩
 ·have b8:(B5 40 [(k,ch)] !=0)=true:=by simpa using hck
  have f5:(B5 40 [(k,ch)]==0)=false:=by simpa using hck
  have hE:Fv (k,ch) ws=B5 40 [(k,ch)]:=by unfold Fv;rw[if_pos hck]
  have hR:Fw (k,ch) ws=B8:=by unfold Fw;rw[hE,if_neg hck]
  have HE:=hI hE;have HR:=hI hR;clear hE hR hck;go_wp2_with(refine B9 rfl (.tmp 4) (.tmp 12) rfl (w.heap.size+1) B8 B8 rfl rfl b5.out rfl ?_;intro w2 b4 b6 f0);refine bodyPost_ret (F5 Tryz.results300 _ _ (w.heap.size+1) _ (.int .i64 (B5 40 [(k,ch)])) rfl rfl b4) rfl ⟨by rw[HR.out,HE.out],Bz a3 b6 (by omega) (by omega)⟩
theorem Ms:(Tryz.prog.info? 3).map (fun i=>(i.zero,i.size,i.bytes))=some (some (.int .i64 0),1,8):=by kernel_rfl
def Mq (l:List Nat):List Value:=l.map fun(a:Nat)=>Value.int .i64 (a:Int)
theorem U9 (l:List Nat):(Mq l).length=l.length:=by simp[Mq]
theorem Hg {ops:Array Oper}{rest:List Oper}{o:Oper}{a:Act}{w:World}{Q:Exit->Act->World->Prop}(hgd:o.guard=none)(s x:Operand)
  (ho:o.op= .call {callee:= .builtin .append,args:= #[s,x],argTypes:= #[43,43]})
  (base:Nat) (v:Value) (n:Nat) (xs:List Value) (hs:a.eval s=v) (hown:w.ownsRow base 3 1 v n xs)
  (ad:Addr) (c:Nat) (y:Value) (hx:a.eval x= .slice (some ad) 1 c) (hr:∀j u,[y][j]? =some u->w.cell? (ad.add j)=some u) (hy:y.oneCell'=true) (hl:n+1<=4096) (hbase:base<=w.heap.size)
  (h:∀v' w',w'.ownsRow base 3 1 v' (n+1) (xs++[y])->w.grownBy w' v.ownBlock->(v'.ownBlock=v.ownBlock\/v'.ownBlock=some w.heap.size)→
   wpList Tryz.prog ops Q rest (a.put o.dst v') w'):wpList Tryz.prog ops Q (o::rest) a w:=by
 obtain⟨i0,hi,a2,a1,a0⟩:=info_parts Ms
 exact wpList_append_own_at w hgd s x 43 ho base 3 i0 _ 1 8 Tryz.underlying43 hi a2 a1 a0 rfl (by decide) v n xs hs hown ad 1 c [y] hx rfl hr
  (by intro u hu;simp at hu;subst hu;exact hy) (by unfold maxLen;omega) (by omega) hbase fun v' w' h1 h2 _ h4=>h v' w' h1 h2 h4
theorem Ze (s m:Nat)(h:C7 s):(bits BinOp.and IntKind.u64 ((s:Int)/2^m) 1==1)=s.testBit m:=by
 have e:((s:Int)/2^m)=((s/2^m:Nat):Int):=by simp
 unfold C7 at h;rw[e];have h2:s/2^m<8589934592:=Nat.lt_of_le_of_lt (Nat.div_le_self _ _) h;rw[Nat.testBit_eq_decide_div_mod_eq];generalize s/2^m=t at*;have h3:=u64_and_nat t 1 (by omega) (by omega);rw[show((1:Nat):Int)=1 from rfl]at h3;rw[h3,Nat.and_one_is_mod];have h4:t%2=0\/t%2=1:=by omega
 rcases h4 with h4|h4<;>rw[h4]<;>rfl
def Un (w:World)(l:List Nat)(er:Int)(e:Ending)(w':World):Prop:=
 ∃A c,e= .returned (.tuple #[.slice A l.length c, .int .i64 er])/\Bd w' A l.length c 1 (Mq l)/\Below w.heap.size w w'
def atE (x:Nd×Fo)(ws:List Snd)(at_:Int):Int:=if Fv x ws=0 then Cz ws.length at_ else Fv x ws
def Dq (x:Nd×Fo)(ws:List Snd)(at_:Int):List Nat:=
 if atE x ws at_=0 then(List.range (ws.length+1)).filter fun a=>((Fw x ws).getD a 0).testBit at_.toNat else []
theorem Ah1 (k:Nd)(ch:Fo)(A0:Option Addr)(c0:Nat)(A:Option Addr)(n c:Nat)(ws:List Snd)(at_:Int)(w:World)(hf:FSl w A0 ch.len c0 ch)(hw:Ad w A n c ws)(hT:Cq w):
  Calls Tryz.prog 285 #[Em k A0 ch.len c0, .slice A n c, .int .i64 at_] w (Un w (Dq (k,ch) ws at_) (atE (k,ch) ws at_)):=by
 have f0:=hw.max;have HF:=hI hf;clear hf;have HW:=hI hw;clear hw;have HT:=hI hT;clear hT;go_enter Tryz.func285,Tryz.ntmps285;go_wp2_with fail;refine(Acc k ch A0 c0 A n c ws _ (HF.out.below (B:=w.heap.size) bel rr) (HW.out.below (B:=w.heap.size) bel rr) (HT.out.below (B:=w.heap.size) bel rr)).mono ?_;rintro e w1 ⟨rfl,d6⟩;have f3:=d6.size;simp only[World.size_alloc]at f3;have b0:Below w.heap.size w w1:=bel;clear d6;have a8:=hI (Uu (k,ch) ws).1;have f4:=hI (Uu (k,ch) ws).2;by_cases hE:Fv (k,ch) ws=0
 ·have b7:n<=32:=by have:=(Dv hE).2.1;rw[HW.out.len]at this;exact this
  have d8:(Fv (k,ch) ws==0)=true:=by rw[hE];rfl
  have f5:(Fv (k,ch) ws !=0)=false:=by rw[hE];rfl
  have HE:=hI hE;clear hE;go_wp2_with(refine B9 rfl (.tmp 8) (.tmp 16) rfl w1.heap.size B8 (Fw (k,ch) ws) rfl rfl ?hr a8.out ?hc)
  case hr=>exact⟨hpt,rfl⟩
  case hc=>
   intro w2 b1 a7 a9;have a4:Below w.heap.size w w2:=Bz (b0.alloc b0.size _) a7 (by omega) sd;have b3:=Nat.le_of_eq a9.symm;clear a9 a7;go_wp2_with fail;refine(Acb A n c at_ _ b7).mono ?_;rintro e w3 ⟨rfl,rfl⟩;have d4:=hI b1;clear b1;by_cases hx:Cz n at_=0
   ·have a6:atE (k,ch) ws at_=0:=by unfold atE;rw[if_pos HE.out,HW.out.len,hx]
    have d7:(Cz n at_ !=0)=false:=by rw[hx];rfl
    have h0:0<=at_/\at_<=n:=by unfold Cz at hx;split at hx<;>simp at*;omega
    obtain⟨m,rfl⟩:∃m:Nat,at_=m:=⟨at_.toNat,by omega⟩;have f2:m<=32:=by omega
    have d2:=hI a6;clear a6 hx h0;have a2:Dq (k,ch) ws m=(List.range (n+1)).filter fun a=>((Fw (k,ch) ws).getD a 0).testBit m:=by unfold Dq;rw[if_pos d2.out,HW.out.len];rfl
    have a3:=hI a2;clear a2;obtain⟨f,hf⟩:∃f:Nat->Bool,f=fun a=>((Fw (k,ch) ws).getD a 0).testBit m:=⟨_,rfl⟩
    have b4:=hI hf;clear hf;have d5:=hI a4;clear a4;have f1:w1.heap.size<w2.heap.size:=d4.out.lt;go_wp2
    go_loopw [10,11,29] (fun l _ i wr=>∃(j q:Nat),j<=n+1/\i= .int .i64 j/\q<=j/\Hid (wr.ownsRow w2.heap.size 3 1 l q (Mq ((List.range j).filter f)))/\Hid (Ce wr w1.heap.size (Fw (k,ch) ws))∧
     Below w2.heap.size w2 wr) (fun _ _ i _=>n+1-(intOf i).toNat)
    case atStart=>exact⟨0,0,by omega,rfl,by omega,World.ownsRow_nil _ _ _ _,d4,Below.refl _ _⟩
    case round=>
     obtain⟨j,q,hj,rfl,hq,a0,hr,hB⟩:=hrel;have f7:=hB.size;by_cases hlt:j<n+1
     ·obtain⟨s,hs⟩:∃s,(Fw (k,ch) ws)[j]? =some s:=⟨(Fw (k,ch) ws)[j]'(by have:=hr.out.2;omega),List.getElem?_eq_getElem _⟩;have hc:=hr.out.get hs;have d3:=f4.out s (List.mem_of_getElem? hs);have d0:f j=s.testBit m:=by rw[b4.out];show((Fw (k,ch) ws).getD j 0).testBit m=_;rw[List.getD_eq_getElem?_getD,hs];rfl
      have d9:=hI d0;clear d0 hs;have b6:=hI d3;clear d3;obtain⟨A1,c1,rfl⟩:=Bh a0.out;have f6:(j:Int)<33:=by omega
      have b9:=Ze s m b6.out;rw[←d9.out]at b9;by_cases hf:f j=true
      ·rw[hf]at b9;have b2:=hI hf;clear hf;go_wp2_with(at_builtin;refine Hg rfl (.tmp 39) (.tmp 41) rfl w2.heap.size (.slice A1 q c1) q (Mq ((List.range j).filter f)) rfl ?ho ⟨wr.heap.size,0,none⟩ 1 (.int .i64 j) rfl ?ha rfl ?hl ?hz ?hc)
       case ho=>exact a0.out.alloc _
       case ha=>exact cell_one_new _ _ _
       case hl=>omega
       case hz=>simp;omega
       case hc=>
        intro v' w4 a5 d1 _;go_wp2
        go_roundw
        case rel=>
         refine⟨j+1,q+1,by omega,by go_num,by omega, ?_, ?_,Jp (hB.alloc hB.size _) (a0.out.alloc _) d1 rr (by simp;omega)⟩
         ·show w4.ownsRow _ _ _ _ _ _;rw[List.range_succ,List.filter_append]
          have:([j].filter f)=[j]:=by simp[b2.out]
          rw[this];simpa[Mq]using a5
         ·have hl:=hr.out.alloc (.cells #[.int .i64 j] 3);refine⟨(d1.block _ hl.lt (fun e=> ?_)).trans hl.1,hl.2⟩
          have:=(a0.out.lt _ e.symm).1;omega
        case measure=>simp[intOf];omega
      ·have b5:f j=false:=by simpa using hf
       rw[b5]at b9;have b2:=hI b5;clear hf b5;go_wp2
       go_roundw
       case rel=>
        refine⟨j+1,q,by omega,by go_num,by omega, ?_,hr,hB⟩;show wr.ownsRow _ _ _ _ _ _;rw[List.range_succ,List.filter_append]
        have:([j].filter f)=[]:=by simp[b2.out]
        rw[this,List.append_nil];exact a0.out
       case measure=>simp[intOf];omega
     ·obtain rfl:j=n+1:=by omega
      obtain⟨A1,c1,rfl⟩:=Bh a0.out;have b8:=a0.out.1;rw[U9,Nat.mul_one]at b8;go_wp2
      go_ret2
      refine⟨A1,c1, ?_, ?_,d5.out.trans (hB.mono d5.out.size)⟩
      ·rw[d2.out,a3.out,←b4.out,b8];rfl
      ·rw[a3.out,←b4.out,b8];exact Bd.of_own a0.out (by decide)
   ·have a6:atE (k,ch) ws at_≠0:=by unfold atE;rw[if_pos HE.out,HW.out.len];exact hx
    have a1:atE (k,ch) ws at_=Cz n at_:=by unfold atE;rw[if_pos HE.out,HW.out.len]
    have a2:Dq (k,ch) ws at_=[]:=by unfold Dq;rw[if_neg a6]
    have d7:(Cz n at_ !=0)=true:=by simpa using hx
    have HX:=hI a1;have a3:=hI a2;clear a6 a1 a2 hx;go_wp2
    go_ret2
    exact⟨none,0,by rw[HX.out,a3.out];rfl,by rw[a3.out];exact Bd.nil _ _,a4⟩
 ·have a1:atE (k,ch) ws at_=Fv (k,ch) ws:=by unfold atE;rw[if_neg hE]
  have a2:Dq (k,ch) ws at_=[]:=by unfold Dq;rw[a1,if_neg hE]
  have d8:(Fv (k,ch) ws==0)=false:=by simpa using hE
  have f5:(Fv (k,ch) ws !=0)=true:=by simpa using hE
  have HX:=hI a1;have a3:=hI a2;clear a1 a2 hE;go_wp2_with(refine B9 rfl (.tmp 8) (.tmp 16) rfl w1.heap.size B8 (Fw (k,ch) ws) rfl rfl ?hr a8.out ?hc)
  case hr=>exact⟨hpt,rfl⟩
  case hc=>
   intro w2 b1 a7 a9;have a4:Below w.heap.size w w2:=Bz (b0.alloc b0.size _) a7 (by omega) sd;have b3:=Nat.le_of_eq a9.symm;clear a9 a7;go_wp2
   go_ret2
   exact⟨none,0,by rw[HX.out,a3.out];rfl,by rw[a3.out];exact Bd.nil _ _,a4⟩
end Go.Proofs.YtlgliddhideflaaGreatDoor
