/-
  pats.Check: the iterator over a list of patterns, backwards.
  pats.Check.
  slices.IndexFunc and slices.ContainsFunc over sounds.
  pats.relate, pats.exists.
  pats.Begins.
-/
import Derived.Laws.ResultCell
import Derived.Test.YtaglfmlgbcmakaaGreatDoorG05
import Derived.Test.YtaglfmlgbcmakaaGreatDoorG06
set_option linter.all false
set_option maxRecDepth 100000
set_option maxHeartbeats 4000000
namespace Go.Proofs.YtaglfmlgbcmakaaGreatDoor
open Go.RowKit Go.Shelf
attribute [local go_sem] Oper.semAt_some
theorem Aax (A:Option Addr)(n c:Nat)(w:World):
  Calls Tryz.prog 175 #[.slice A n c] w fun e w'=>e= .returned (.func (.func 189) #[] #[.pointer (some ⟨w.heap.size,0,none⟩)])/\w.alloc (.cells #[.slice A n c] 50)=w':=by
 go_enter Tryz.func175,Tryz.ntmps175;go_wp2;go_ret;exact⟨rfl,rfl⟩
theorem Aay (m l bs:Nat)(hm:1<=m)(A:Option Addr)(n c:Nat)(f:Fo)(hlen:n<=f.len)(hn63:n<=9223372036854775807)(W0:World)(hF:FAt W0 A 0 f)(J:Nat->World->Prop)(W:World)
  (hJ:∀j W,J j W->W.cell? ⟨bs,0,none⟩=some (.slice A n c)∧∀b o,b<W0.heap.size->W.cell? ⟨b,o,none⟩=W0.cell? ⟨b,o,none⟩)
  (hy:∀i k ch A' c' W,i<n->f.get i=some (k,ch)->FSl W0 A' ch.len c' ch->J (i+1) W->YieldAt Fence.wide (m-1) Tryz.prog l #[.int .i64 i,Fc k A' ch.len c'] W (fun e W'=>e= .returned (.bool true)/\J i W'))
  (h0:J n W):
  CallsIn Fence.wide m Tryz.prog 189 #[.func (.yield l) #[] #[], .pointer (some ⟨bs,0,none⟩)] W fun e W'=>(∃v,e= .returned v)/\J 0 W':=by
 have HJ:=hI hJ;clear hJ;have HF:=hI hF;clear hF;have HY:=hI hy;clear hy;have H0:=hI h0;clear h0;have hc:=(HJ.out _ _ H0.out).1;refine callsIn_of_wp Tryz.func189 rfl trivial ?_;simp only[Tryz.ntmps189,List.size_toArray,List.length_cons,List.length_nil,Nat.reduceAdd,Nat.reduceSub,Array.replicate_succ,Array.replicate_zero,List.push_toArray,List.append_toArray,List.nil_append,List.cons_append];gi_wp2;clear hc
 gi_loopw [3] (fun i wr=>∃j:Nat,j<=n/\i= .int .i64 ((j:Int)-1)/\Hid (J j wr))
  (fun i wr=>(intOf i+1).toNat)
 case atStart=>exact⟨n,rr,rfl,H0⟩
 case round=>
  obtain⟨j,hj,rfl,hJ⟩:=hrel;by_cases h0:j=0
  ·subst h0;gi_wp2
   go_end0
   exact⟨⟨_,rfl⟩,hJ.out⟩
  ·obtain⟨i,rfl⟩:∃i,j=i+1:=⟨j-1,by omega⟩;obtain⟨⟨k,ch⟩,hg⟩:=f.get_lt i (by omega);obtain⟨hc,a1⟩:=HJ.out _ _ hJ.out;obtain⟨b,off,A',n',c',rfl,a3,⟨g0,g1,g2,g3,g4,g5,g6⟩,⟨rfl,a5⟩,a0,_⟩:=HF.out.at_ f _ 0 i k ch hg;rw[←a1 b _ a3]at g0 g1 g2 g3 g4 g5 g6;clear a1;obtain⟨fn,tmps,assign,body,a6,hR⟩:=HY.out i k ch A' c' wr (by omega) hg ⟨⟨rfl,a5⟩,a0⟩ hJ.out;simp only[Nat.zero_add]at g0 g1 g2 g3 g4 g5 g6;have HR:=hI hR;clear hR;have HG:=hI hg;clear hg;clear a0;have e1:((i+1:Nat):Int)-1=(i:Int):=by omega
   rw[e1];clear e1;gi_wp2;refine HR.out.mono ?_;rintro e W3 ⟨rfl,a2⟩;have a4:=hI a2;clear a2;gi_wp2
   go_roundw
   case rel=>exact⟨i,by omega,by go_num,a4⟩
   case measure=>simp[intOf]
end Go.Proofs.YtaglfmlgbcmakaaGreatDoor
namespace Go.Proofs.YtaglfmlgbcmakaaGreatDoor
open Go.RowKit Go.Shelf
attribute [local go_sem] Oper.semAt_some
structure SE where
 k:Nd
 A:Option Addr
 c:Nat
 ch:Fo
def SE.cells (e:SE):List Value:=[.int .i64 e.k.kind, .int .u32 e.k.isp, .int .u32 e.k.ism, .bool e.k.neg, .int .i64 e.k.lo, .int .i64 e.k.hi, .slice e.A e.ch.len e.c]
def SE.pat (e:SE):Nd×Fo:=(e.k,e.ch)
theorem SE.len (e:SE):e.cells.length=7:=rfl
def SE.ok (w:World)(e:SE):Prop:=FSl w e.A e.ch.len e.c e.ch
theorem Afr:(Tryz.prog.info? 52).map (fun i=>(i.zero,i.size,i.bytes))=some (some (.agg #[.int .i64 0, .int .u32 0, .int .u32 0, .bool false, .int .i64 0, .int .i64 0, .slice none 0 0]),7,64):=by kernel_rfl
theorem N2:(Tryz.prog.info? 52).map (·.size)=some 7:=by kernel_rfl
theorem Acq (a b c d e f:_)(A:Option Addr)(n m:Nat):(#[Value.int .i64 a, .int .u32 b, .int .u32 c, .bool d, .int .i64 e, .int .i64 f, .slice A n m].all (·.oneCell'))=true:=by simp[Value.oneCell']
theorem Wl (k:Nd)(A:Option Addr)(c:Nat)(ch:Fo)(w:World)(hf:FSl w A ch.len c ch):
  Calls Tryz.prog 154 #[Fc k A ch.len c] w fun e w'=>e= .returned (.int .i64 (Bv 40 [(k,ch)]))/\Below w.heap.size w w':=by
 have HF:=hI hf;clear hf;refine(callsIn_wide (n:=9)).1 (callsIn_of_wp_marks Tryz.func154 rfl trivial ?_ rfl);simp only[Tryz.ntmps154,List.size_toArray,List.length_cons,List.length_nil,Nat.reduceAdd,Nat.reduceSub,Array.replicate_succ,Array.replicate_zero,List.push_toArray,List.append_toArray,List.nil_append,List.cons_append];gi_wp2
 refine wpIn_loop (fun a' wr=>∃(cnt:Nat) (ms:List SE) (A1:Option Addr) (c1:Nat) (ds:List Deferred) (u2 u5 u6 u7 u8 u9 u10 u11 u12 u13 u14 u15 u16 u17 u18 u19 u20 u21 u22 u23 u24 u25 u26 u27 u28 u29 u30 u31 u32 u33 u34 u35 u36 u37 u38 u39 u40 u41 u42 u43 u44 u45 u46 u47 u48 u49 u50 u51:Value),
   a'={tmps:= #[Fc k A ch.len c, .pointer (some ⟨w.heap.size,0,none⟩),u2, .pointer (some ⟨w.heap.size+1+1,0,none⟩), .int .i64 cnt,u5,u6,u7,u8,u9,u10,u11,u12,u13,u14,u15,u16,u17,u18,u19,u20,u21,u22,u23,u24,u25,u26,u27,u28,u29,u30,u31,u32,u33,u34,u35,u36,u37,u38,u39,u40,u41,u42,u43,u44,u45,u46,u47,u48,u49,u50,u51],defers:=ds}∧
   cnt<=40/\D4 w.heap.size wr ds/\wr.heap[w.heap.size+1+1]? =some (.cells #[.slice A1 ms.length c1] 50 (0,0))∧
   wr.ownsRow (w.heap.size+1) 52 7 (.slice A1 ms.length c1) ms.length (ms.flatMap SE.cells)/\(∀e∈ms,e.ok w)/\ms.length<=41*cnt+1∧
   Bv (40-cnt) (ms.reverse.map SE.pat)=Bv 40 [(k,ch)]/\Below w.heap.size w wr)
  (fun a' _=>40-(intOf (a'.tmps.getD 4 undef)).toNat) ?start ?round
 case start=>
  refine⟨0,[⟨k,A,c,ch⟩],_,1,[],_,_,_,_,_,_,_,_,_,_,_,_,_,_,_,_,_,_,_,_,_,_,_,_,_,_,_,_,_,_,_,_,_,_,_,_,_,_,_,_,_,_,_,_,_,_,_,_,rfl,by omega,trivial,hpt, ?_, ?_,by simp,rfl,bel⟩
  ·refine⟨rfl,Or.inr ⟨w.heap.size+1,1,_,rfl,rr,hpt,rr,by unfold maxLen;omega,rfl,rfl⟩⟩
  ·intro e he;obtain rfl:e=⟨k,A,c,ch⟩:=by simpa using he
   exact HF.out
 case round=>
  rintro _ wr ⟨cnt,ms,A1,c1,ds,u2,u5,u6,u7,u8,u9,u10,u11,u12,u13,u14,u15,u16,u17,u18,u19,u20,u21,u22,u23,u24,u25,u26,u27,u28,u29,u30,u31,u32,u33,u34,u35,u36,u37,u38,u39,u40,u41,u42,u43,u44,u45,u46,u47,u48,u49,u50,u51,rfl,m4,hM,hb,a1,f9,f7,b6,hB⟩;have HM:=hI hM;clear hM;rcases List.eq_nil_or_concat ms with hm|⟨ms,e,hm⟩
  ·subst hm;have hr:Bv 40 [(k,ch)]=0:=by rw[←b6];unfold Bv;cases(40-cnt)<;>rfl
   have HR:=hI hr;have f5:=cell_of_one hb;simp only[List.length_nil]at f5;clear hr b6 f9 a1 hb;gi_wp2;exact Mi (B:=w.heap.size) Tryz.results154 (.int .i64 0) rfl HM.out fun w' hw'=>⟨by rw[HR.out],hB.trans hw'.below⟩
  ·rw[List.concat_eq_append]at hm;subst hm;rw[List.length_append,List.length_singleton]at hb a1 f7;rw[List.reverse_append,List.reverse_singleton,List.singleton_append,List.map_cons]at b6;have f5:=cell_of_one hb;have o3:=free_of_one hb;obtain⟨g,cap,j3⟩:=ownsRow_succ a1;obtain⟨rfl,rfl⟩:A1=some ⟨g,0,none⟩/\c1=cap:=by simpa using j3
   clear j3;obtain⟨b0,off0,j4, -,a7⟩:=(Eb.of_own a1 SE.len (by decide)).at_ SE.len (by decide) (k:=ms.length) (x:=e) (by simp);obtain⟨rfl,rfl⟩:g=b0/\0=off0:=by simpa using j4
   clear j4;have q0:=a7 0 _ rfl;have q1:=a7 1 _ rfl;have q2:=a7 2 _ rfl;have q3:=a7 3 _ rfl;have q4:=a7 4 _ rfl;have q5:=a7 5 _ rfl;have q6:=a7 6 _ rfl;simp only[Nat.zero_add,Nat.add_zero,←Nat.add_assoc]at q0 q1 q2 q3 q4 q5 q6;obtain⟨t1,r2⟩:=a1.lt g rfl;have t5:w.heap.size+1+1<wr.heap.size:=lt_of_block hb;have g8:some (w.heap.size+1+1)≠some g:=Boxed.not_row (B:=w.heap.size+1+1) hb (by decide) a1;have t0:ms.length+1<=c1:=by have:=(Az.of_own a1 (by decide)).2.1;exact this
   have s1:ms.length+1<=9223372036854775807:=by have:=(Az.of_own a1 (by decide)).2.2.1;unfold maxLen at this;omega
   have g7:=hI a1;clear a1;have b9:=hI f9;clear f9;have k1:=hI hb;clear hb;have f6:=hI b6;clear b6;clear a7;by_cases h40:cnt=40
   ·subst h40;have hr:Bv 40 [(k,ch)]=12:=by rw[←f6.out];rfl
    have HR:=hI hr;clear hr;gi_wp2;exact Mi (B:=w.heap.size) Tryz.results154 (.int .i64 12) rfl HM.out fun w' hw'=>⟨by rw[HR.out],hB.trans hw'.below⟩
   ·have s2:((cnt:Int)==40)=false:=by simp;omega
    have d9:e.ch.len<=9223372036854775807:=by have:=(b9.out e (by simp)).1;have h2:=this.2.1;have h3:=this.2.2.1;unfold maxLen at h3;omega
    gi_wp2_with (refine⟨trivial, ?_⟩;gi_at_call 174;refine(callsIn_wide.2 (Ad4 _ _ _ _ _ d9)).mono ?_)
    rintro e1 w1 ⟨rfl,b3⟩;clear q0 q1 q2 q3 q4 q5 q6 f5 o3;have q7:=b3.size;simp only[World.size_alloc,World.size_setCell]at q7;have i9:Ba (fun j=>j=w.heap.size+1+1) wr w1:=(((Ba.refl (fun j=>j=w.heap.size+1+1) wr).setCell (p:=⟨w.heap.size+1+1,0,none⟩) rfl _).alloc _).below b3 rr;have h5:w1.heap[wr.heap.size]? =some (.cells #[.int .i64 e.k.kind, .int .u32 e.k.isp, .int .u32 e.k.ism, .bool e.k.neg, .int .i64 e.k.lo, .int .i64 e.k.hi, .slice e.A e.ch.len e.c] 52 (0,0)):=(b3.block _ (by simp)).trans (Am (by simp));have h3:w1.heap[w.heap.size+1+1]? =some (.cells #[.slice (some ⟨g,0,none⟩) ms.length c1] 50 (0,0)):=(b3.block _ (by simp;omega)).trans ((Bc (by simp;omega)).trans (one_setCell k1.out));have a3:=Akk g7.out;rw[Qs _ _ SE.len,List.take_left']at a3
    rotate_left
    ·rfl
    have a6:w1.ownsRow (w.heap.size+1) 52 7 (.slice (some ⟨g,0,none⟩) ms.length c1) ms.length (ms.flatMap SE.cells):=
     Hw ((ownsRow_setCell_other a3 (fun h=>g8 h.symm) _).alloc _) b3 rr
    have i4:Hid (D4 w.heap.size w1 ds):=HM.out.keep i9 (fun k hk o ho hd=>by subst hk;rw[k1.out]at ho;subst hd;cases ho);have f4:Below w.heap.size w w1:=hB.trans (i9.to_below (fun k hk=>by omega) (by omega));have H5:=hI h5;have c50:=Ad (j:=6) h5 rfl;clear b3 a3 h5;have a8:=hI a6;clear a6;have H3:=hI h3;have f5:=cell_of_one h3;clear h3;by_cases hal:Af e.k e.ch.len=0
    ·have g5:(Af e.k e.ch.len==0)=true:=by rw[hal];rfl
     have q9:=hI hal;clear hal;have u4:e.ch.len<=e.c:=(b9.out e (by simp)).1.2.1;have t7:e.c<=9223372036854775807:=by have:=(b9.out e (by simp)).1.2.2.1;unfold maxLen at this;omega
     have m5:wr.heap.size<w1.heap.size:=lt_of_block H5.out;obtain⟨q,hq⟩:∃q,q=min e.ch.len 41:=⟨_,rfl⟩;have o0:q<=e.ch.len:=by omega
     have p9:q<=41:=by omega
     have p4:Hid (e.ch.list.take q=e.ch.list.take 41):=by
      show e.ch.list.take q=e.ch.list.take 41;rcases Nat.le_total e.ch.len 41 with h|h
      ·rw[List.take_of_length_le (by rw[Fo.list_len];omega),List.take_of_length_le (by rw[Fo.list_len];omega)]
      ·rw[show q=41 by omega]
     obtain⟨W0,d7⟩:∃W0,w1.alloc (.cells #[.slice e.A q e.c] 50)=W0:=⟨_,rfl⟩;have i5:W0.heap[w1.heap.size]? =some (.cells #[.slice e.A q e.c] 50 (0,0)):=by rw[←d7];exact hpt
     have o2:Ba (fun _=>False) w1 W0:=by rw[←d7];exact(Ba.refl _ _).alloc _
     have a5:W0.heap.size=w1.heap.size+1:=by rw[←d7];simp
     have HQ:=hI hq;clear hq;have r1:=hI d7;clear d7;have s0:=hI i5;clear i5;by_cases h41:e.ch.len<=41
     all_goals
      have HZ:=hI a5;clear a5;gi_wp2;refine⟨trivial, ?_⟩
      gi_at_call 175
      refine(callsIn_wide.2 (Aax _ _ _ _)).mono ?_;rintro e2 w2 ⟨rfl,rfl⟩;gi_wp2;have hE:=r1.out;rw[HQ.out]at hE
      first|rw[Nat.min_eq_left h41]at hE|rw[Nat.min_eq_right (by omega)]at hE
      rw[hE];clear hE;refine Fl (gf:=189) (lb:= #[.pointer (some ⟨w1.heap.size,0,none⟩)]) rfl (enters_of Tryz.func189 (by kernel_rfl) rfl) fun fn D l rc W1 hrc hD hl hK2 hD1 hl1 i6=> ?_
      have a5:=HZ.out;have t2:w1.heap.size+1<l:=by omega
      have s7:l<W1.heap.size:=by omega
      have t3:D<l:=by omega
      have s9:w1.heap.size<D:=by omega
      have o7:=hI hrc;clear hrc;have s8:=hI (And.intro hD (And.intro hl i6));clear hD hl i6 a5;have f1:Ba (fun _=>False) w1 W1:=o2.trans hK2;have b1:Below w.heap.size w W1:=f4.trans (f1.to_below (fun k hk=>hk.elim) (by have:=f4.size;omega))
      obtain⟨J,hJ⟩:∃J:Nat->World->Prop,J=fun j W=>∃(L:List SE) (A2:Option Addr) (c2:Nat),j<=q/\L.length+j=q/\L.reverse.map SE.pat=(e.ch.list.take q).drop j/\(∀x∈L,x.ok w)∧
        W.heap[w.heap.size+1+1]? =some (.cells #[.slice A2 (ms.length+L.length) c2] 50 (0,0))∧
        W.ownsRow (w.heap.size+1) 52 7 (.slice A2 (ms.length+L.length) c2) (ms.length+L.length) ((ms++L).flatMap SE.cells)∧
        (∃g2,A2=some ⟨g2,0,none⟩/\(g2=g\/W1.heap.size<=g2))∧
        Ba (fun b=>b=w.heap.size+1+1\/b=l\/b=g) W1 W/\W.heap[l]? =some (.loop (rc .ready none)):=⟨_,rfl⟩
      have HJ:=hI hJ;clear hJ
      refine(Aay (9-1) l w1.heap.size (by omega) e.A q e.c e.ch o0 (by omega) w (b9.out e (by simp)).2
       J
       W1 ?hj ?hy ?h0).mono ?_
      case h0=>
       rw[HJ.out];refine⟨[],some ⟨g,0,none⟩,c1,rr,by simp, ?_,by simp,(f1.block _ (by omega) (by simp)).trans H3.out, ?_,⟨g,rfl,Or.inl rfl⟩,Ba.refl _ _,hl1⟩
       ·rw[List.drop_eq_nil_of_le (by rw[List.length_take];omega)];rfl
       ·simp only[List.length_nil,Nat.add_zero,List.append_nil];exact Hw a8.out (Below.trans (Below.refl w1.heap.size w1) (f1.to_below (fun k hk=>hk.elim) rr)) rr
      case hj=>
       intro j W hx;rw[HJ.out]at hx;obtain⟨L,A2,c2,h1,h2,h3,h4,h5,h6,h7,h8,h9⟩:=hx;have i2:W.heap[w1.heap.size]? =some (.cells #[.slice e.A q e.c] 50 (0,0)):=(h8.block _ (by omega) (by omega)).trans ((hK2.block _ (by have:=hK2.size;have:=HZ.out;omega) (by simp)).trans s0.out);refine⟨cell_of_one i2,fun b o hb=> ?_⟩
       exact World.cell?_of_block ((h8.block b (by have:=b1.size;omega) (by omega)).trans (b1.block b hb))
      case hy=>
       intro i k' ch' A' c' W hi hg j5 hx;rw[HJ.out]at hx;obtain⟨L,A2,c2,h1,h2,h3,h4,h5,h6,⟨g2,rfl,r2⟩,h8,h9⟩:=hx;obtain⟨N,hN⟩:∃N,ms.length+L.length=N:=⟨_,rfl⟩;rw[hN]at h5 h6;have t4:N<=2000:=by omega
       have HN:=hI hN;clear hN;refine Fm o7.out h9 rfl ?_;have H9:=hI h9;clear h9;have g3:=hI h3;clear h3;have g9:=hI h4;clear h4;have k9:=hI h5;clear h5;have m3:=hI h6;clear h6;have k8:=hI h8;clear h8;have HG:=hI hg;clear hg;have r4:=hI j5;clear j5;have f8:=hI h2;clear h2;gi_wp2;have r0:l<W.heap.size:=(Array.getElem?_eq_some_iff.1 H9.out).1;have u3:=k8.out.size;have g0:(W.alloc (.cells #[.int .i64 k'.kind, .int .u32 k'.isp, .int .u32 k'.ism, .bool k'.neg, .int .i64 k'.lo, .int .i64 k'.hi, .slice A' ch'.len c'] 52)).heap[l]? =some (.loop (rc .ready none)):=(Bc r0).trans H9.out;have j9:(W.alloc (.cells #[.int .i64 k'.kind, .int .u32 k'.isp, .int .u32 k'.ism, .bool k'.neg, .int .i64 k'.lo, .int .i64 k'.hi, .slice A' ch'.len c'] 52)).heap[W.heap.size]? =some (.cells #[.int .i64 k'.kind, .int .u32 k'.isp, .int .u32 k'.ism, .bool k'.neg, .int .i64 k'.lo, .int .i64 k'.hi, .slice A' ch'.len c'] 52 (0,0)):=Am rfl;have k0:Ba (fun b=>b=w.heap.size+1+1\/b=l\/b=g) W1 (W.alloc (.cells #[.int .i64 k'.kind, .int .u32 k'.isp, .int .u32 k'.ism, .bool k'.neg, .int .i64 k'.lo, .int .i64 k'.hi, .slice A' ch'.len c'] 52)):=k8.out.alloc _;have k7:(W.alloc (.cells #[.int .i64 k'.kind, .int .u32 k'.isp, .int .u32 k'.ism, .bool k'.neg, .int .i64 k'.lo, .int .i64 k'.hi, .slice A' ch'.len c'] 52)).heap[w.heap.size+1+1]? =some (.cells #[.slice (some ⟨g2,0,none⟩) N c2] 50 (0,0)):=(Bc (lt_of_block k9.out)).trans k9.out;have j1:=m3.out.alloc (.cells #[.int .i64 k'.kind, .int .u32 k'.isp, .int .u32 k'.ism, .bool k'.neg, .int .i64 k'.lo, .int .i64 k'.hi, .slice A' ch'.len c'] 52);have p2:W.heap.size<(W.alloc (.cells #[.int .i64 k'.kind, .int .u32 k'.isp, .int .u32 k'.ism, .bool k'.neg, .int .i64 k'.lo, .int .i64 k'.hi, .slice A' ch'.len c'] 52)).heap.size:=by simp
       generalize(W.alloc (.cells #[.int .i64 k'.kind, .int .u32 k'.isp, .int .u32 k'.ism, .bool k'.neg, .int .i64 k'.lo, .int .i64 k'.hi, .slice A' ch'.len c'] 52))=U at*;refine⟨g0, ?_⟩;have k3:(U.putObj l (.loop (rc .busy none))).heap[l]? =some (.loop (rc .busy none)):=World.putObj_heap_same (by omega);have g6:Ba (fun b=>b=w.heap.size+1+1\/b=l\/b=g) W1 (U.putObj l (.loop (rc .busy none))):=k0.putObj (by simp) _;have b2:(U.putObj l (.loop (rc .busy none))).heap[w.heap.size+1+1]? =some (.cells #[.slice (some ⟨g2,0,none⟩) N c2] 50 (0,0)):=(World.putObj_heap_other (by omega)).trans k7;have a4:(U.putObj l (.loop (rc .busy none))).heap[W.heap.size]? =some (.cells #[.int .i64 k'.kind, .int .u32 k'.isp, .int .u32 k'.ism, .bool k'.neg, .int .i64 k'.lo, .int .i64 k'.hi, .slice A' ch'.len c'] 52 (0,0)):=(World.putObj_heap_other (by omega)).trans j9;have b5:(U.putObj l (.loop (rc .busy none))).ownsRow (w.heap.size+1) 52 7 (.slice (some ⟨g2,0,none⟩) N c2) N ((ms++L).flatMap SE.cells):=ownsRow_putObj j1 _ g0 rfl;have t8:W1.heap.size<=(U.putObj l (.loop (rc .busy none))).heap.size:=g6.size;have m9:g2<W.heap.size:=(m3.out.lt g2 rfl).2;clear g0 j9 k0 k7 j1 p2;generalize U.putObj l (.loop (rc .busy none))=V at*;have c3:=cell_of_one b2;have f3:=free_of_one b2;have d0:=Ad (j:=0) a4 rfl;have d1:=Ad (j:=1) a4 rfl;have d2:=Ad (j:=2) a4 rfl;have d3:=Ad (j:=3) a4 rfl;have d4:=Ad (j:=4) a4 rfl;have d5:=Ad (j:=5) a4 rfl;have d6:=Ad (j:=6) a4 rfl;obtain⟨p8,m8⟩:=b5.lt g2 rfl;have f0:some (w.heap.size+1+1)≠some g2:=Boxed.not_row (B:=w.heap.size+1+1) b2 (by decide) b5;have t6:N<=c2:=(Az.of_own b5 (by decide)).2.1;have t9:w.heap.size+1+1<V.heap.size:=lt_of_block b2;have u1:W.heap.size<V.heap.size:=lt_of_block a4;have k2:=hI k3;clear k3;have o5:=hI g6;clear g6;have m2:=hI b2;clear b2;have i3:=hI b5;clear b5;have j8:=hI a4;clear a4;gi_wp2
       refine Uh 4 (fun W'=>W'.cell? ⟨w.heap.size+1+1,0,none⟩=some (.slice (some ⟨g2,0,none⟩) N c2)/\W'.cell? ⟨W.heap.size,0,none⟩=some (.int .i64 k'.kind)/\W'.cell? ⟨W.heap.size,1,none⟩=some (.int .u32 k'.isp)/\W'.cell? ⟨W.heap.size,2,none⟩=some (.int .u32 k'.ism)∧
        W'.cell? ⟨W.heap.size,3,none⟩=some (.bool k'.neg)/\W'.cell? ⟨W.heap.size,4,none⟩=some (.int .i64 k'.lo)/\W'.cell? ⟨W.heap.size,5,none⟩=some (.int .i64 k'.hi)/\W'.cell? ⟨W.heap.size,6,none⟩=some (.slice A' ch'.len c')) (by kernel_rfl) (by kernel_rfl) (fun _ _ h=>by exact h) ⟨c3,d0,d1,d2,d3,d4,d5,d6⟩ (fun hHeld=> ?_)
       (refine' Qk (i:=0) (v:=_) rfl (by kernel_rfl) (by kernel_rfl) (by kernel_rfl) (by kernel_rfl) (fun _ _ _ h=>h) (Or.inl ⟨by rfl,fun w' hSw=>by(try dsimp only at hSw);go_split_ands;go_simp;(try with_reducible rfl)⟩) (by assumption) ?_;(try simp only[Act.put,nY,nX]));(refine' Qk (i:=1) (v:=_) rfl (by kernel_rfl) (by kernel_rfl) (by kernel_rfl) (by kernel_rfl) (fun _ _ _ h=>h) (Or.inl ⟨by rfl,fun w' hSw=>by(try dsimp only at hSw);go_split_ands;go_simp;(try with_reducible rfl)⟩) (by assumption) ?_;(try simp only[Act.put,nY,nX]));(refine' Qk (i:=2) (v:=_) rfl (by kernel_rfl) (by kernel_rfl) (by kernel_rfl) (by kernel_rfl) (fun _ _ _ h=>h) (Or.inl ⟨by rfl,fun w' hSw=>by(try dsimp only at hSw);go_split_ands;go_simp;(try with_reducible rfl)⟩) (by assumption) ?_;(try simp only[Act.put,nY,nX]))
       (refine Vn (i:=3) (by kernel_rfl) rfl (fun K' hK'=> ?_);simp only[nY];go_simp)
       refine hK' _ _ ⟨.inr (by first|(go_keep;done)|((try dsimp only);((repeat' apply And.intro)<;>(try simp(disch:=omega) only[B5,Cz,World.cell?_drew])<;>first|assumption|(simp[*,go_sem];done)))),fun hS3=> ?_⟩
       (try simp only[Act.put,nY,nX])
       have p5:(V.alloc (.cells #[.int .i64 0, .int .u32 0, .int .u32 0, .bool false, .int .i64 0, .int .i64 0, .slice none 0 0] 52)).drew.heap[w.heap.size+1+1]? =some (.cells #[.slice (some ⟨g2,0,none⟩) N c2] 50 (0,0)):=(Bc (lt_of_block m2.out)).trans m2.out;have pq:(V.alloc (.cells #[.int .i64 0, .int .u32 0, .int .u32 0, .bool false, .int .i64 0, .int .i64 0, .slice none 0 0] 52)).drew.heap[W.heap.size]? =some (.cells #[.int .i64 k'.kind, .int .u32 k'.isp, .int .u32 k'.ism, .bool k'.neg, .int .i64 k'.lo, .int .i64 k'.hi, .slice A' ch'.len c'] 52 (0,0)):=(Bc (lt_of_block j8.out)).trans j8.out;have pl:(V.alloc (.cells #[.int .i64 0, .int .u32 0, .int .u32 0, .bool false, .int .i64 0, .int .i64 0, .slice none 0 0] 52)).drew.heap[l]? =some (.loop (rc .busy none)):=(Bc (lt_of_block k2.out)).trans k2.out;have pK:Ba (fun b=>b=w.heap.size+1+1\/b=l\/b=g) W1 (V.alloc (.cells #[.int .i64 0, .int .u32 0, .int .u32 0, .bool false, .int .i64 0, .int .i64 0, .slice none 0 0] 52)).drew:=(o5.out.alloc _).drew;have p6:(V.alloc (.cells #[.int .i64 0, .int .u32 0, .int .u32 0, .bool false, .int .i64 0, .int .i64 0, .slice none 0 0] 52)).drew.ownsRow (w.heap.size+1) 52 7 (.slice (some ⟨g2,0,none⟩) N c2) N ((ms++L).flatMap SE.cells):=i3.out.alloc _;have pz:∀j u,[Value.int .i64 0, .int .u32 0, .int .u32 0, .bool false, .int .i64 0, .int .i64 0, .slice none 0 0][j]? =some u->(V.alloc (.cells #[.int .i64 0, .int .u32 0, .int .u32 0, .bool false, .int .i64 0, .int .i64 0, .slice none 0 0] 52)).drew.cell? ((⟨V.heap.size,0,none⟩:Addr).add j)=some u:=Sb V _ _;have ps:(V.alloc (.cells #[.int .i64 0, .int .u32 0, .int .u32 0, .bool false, .int .i64 0, .int .i64 0, .slice none 0 0] 52)).drew.heap.size=V.heap.size+1:=by simp
       generalize(V.alloc (.cells #[.int .i64 0, .int .u32 0, .int .u32 0, .bool false, .int .i64 0, .int .i64 0, .slice none 0 0] 52)).drew=w3 at*;refine Vn (i:=4) (by kernel_rfl) rfl (fun K' hK'=> ?_);rw[if_pos (by rfl)];refine Ce (.tmp 46) (.tmp 49) 50 rfl (w.heap.size+1) 52 (.agg #[.int .i64 0, .int .u32 0, .int .u32 0, .bool false, .int .i64 0, .int .i64 0, .slice none 0 0]) 7 64 Tryz.underlying50 Afr rfl (by decide) (.slice (some ⟨g2,0,none⟩) N c2) N _ (by rfl) p6 ⟨V.heap.size,0,none⟩ 1 1 _ (by rfl) rfl pz (by intro u hu;simp at hu;rcases hu with rfl|rfl|rfl|rfl|rfl|rfl|rfl<;>rfl) (by unfold maxLen;omega) (by omega) (by omega) ?_;intro v' w4 a0 a2 _ k6;obtain⟨g4,cap4,rfl⟩:=ownsRow_succ a0;have q8:g4=g2\/g4=w3.heap.size:=by simpa[Value.ownBlock]using k6
       have u0:=a2.size;have o8:(Value.slice (some ⟨g2,0,none⟩) N c2).ownBlock=some g2:=rfl;rw[o8]at a2;have q5:=(a2.block _ (lt_of_block p5) f0).trans p5;have qq:=(a2.block _ (lt_of_block pq) (by simp;omega)).trans pq;have ql:=(a2.block _ (lt_of_block pl) (by simp;omega)).trans pl;have qK:Ba (fun b=>b=w.heap.size+1+1\/b=l\/b=g) W1 w4:=⟨a2.os.trans pK.os,a2.tape.trans pK.tape,a2.output.trans pK.output,Nat.le_trans pK.size a2.size,fun k hk hs=>(a2.block k (by have:=pK.size;omega) (by simp;omega)).trans (pK.block k hk hs)⟩
       have e0:=Ad (j:=0) qq rfl;have e1:=Ad (j:=1) qq rfl;have e2:=Ad (j:=2) qq rfl;have e3:=Ad (j:=3) qq rfl;have e4:=Ad (j:=4) qq rfl;have e5:=Ad (j:=5) qq rfl;have e6:=Ad (j:=6) qq rfl;have e7:=cell_of_one q5;have k5:=Vk a0;have i8:N+1<=cap4:=(Az.of_own a0 (by decide)).2.1;have g1:cap4<=9223372036854775807:=by have:=(Az.of_own a0 (by decide)).2.2.1;unfold maxLen at this;omega
       have a9:(w4.setCells g4 (N*7) [.int .i64 k'.kind, .int .u32 k'.isp, .int .u32 k'.ism, .bool k'.neg, .int .i64 k'.lo, .int .i64 k'.hi, .slice A' ch'.len c']).ownsRow (w.heap.size+1) 52 7 (.slice (some ⟨g4,0,none⟩) (N+1) cap4) (N+1) ((ms++L).flatMap SE.cells++[.int .i64 k'.kind, .int .u32 k'.isp, .int .u32 k'.ism, .bool k'.neg, .int .i64 k'.lo, .int .i64 k'.hi, .slice A' ch'.len c']):=Zd a0 i3.out.1 rfl;have b7:w.heap.size+1+1≠g4:=by have:=lt_of_block p5;simp at f0;omega
       have b4:l≠g4:=by have:=lt_of_block pl;omega
       have i0:g4=g\/W1.heap.size<=g4:=by have:=pK.size;omega
       have p3:W.heap.size≠g4:=by have:=lt_of_block pq;omega
       have f2:=hI a0;have b8:=hI a9;have r3:=hI k5;have Q5:=hI q5;have QL:=hI ql;have QK:=hI qK;clear p5 pq pl pK p6 pz ps a0 a2 k6 q5 qq ql qK a9 k5 c3 d0 d1 d2 d3 d4 d5 d6 f3 hHeld hS3;refine hK' _ _ ⟨.inl (by kernel_rfl),fun _=>Vl _ _ _ _ (by kernel_rfl) ?_⟩
       clear hK' K';have s3:=trivial;have s4:((N:Nat):Int)<(N:Int)+1:=by omega
       (try simp only[Act.put,nY,nX])
       (refine' Ae 5 rfl ?_;(try simp only[Act.put,nY,nX]))
       have d8:Hid (∀X:World,X.heap[w.heap.size+1+1]? =some (.cells #[.slice (some ⟨g4,0,none⟩) (N+1) cap4] 50 (0,0))→
         X.ownsRow (w.heap.size+1) 52 7 (.slice (some ⟨g4,0,none⟩) (N+1) cap4) (N+1) ((ms++L).flatMap SE.cells++[.int .i64 k'.kind, .int .u32 k'.isp, .int .u32 k'.ism, .bool k'.neg, .int .i64 k'.lo, .int .i64 k'.hi, .slice A' ch'.len c'])→
         Ba (fun b=>b=w.heap.size+1+1\/b=l\/b=g) W1 X->X.heap[l]? =some (.loop (rc .busy none))->J i (X.putObj l (.loop (rc .ready none)))):=by
        intro X x1 x2 x3 x4;rw[HJ.out];have j6:ms.length+(L++[(⟨k',A',c',ch'⟩:SE)]).length=N+1:=by rw[List.length_append];have:=HN.out;simp;omega
        have i1:(ms++(L++[(⟨k',A',c',ch'⟩:SE)])).flatMap SE.cells=(ms++L).flatMap SE.cells++[.int .i64 k'.kind, .int .u32 k'.isp, .int .u32 k'.ism, .bool k'.neg, .int .i64 k'.lo, .int .i64 k'.hi, .slice A' ch'.len c']:=by rw[←List.append_assoc,List.flatMap_append (xs:=ms++L)];rfl
        refine⟨L++[(⟨k',A',c',ch'⟩:SE)],some ⟨g4,0,none⟩,cap4,by omega,by rw[List.length_append];have:=f8.out;simp;omega, ?_, ?_, ?_, ?_,⟨g4,rfl,i0⟩,x3.putObj (by simp) _,World.putObj_heap_same (lt_of_block x4)⟩
        ·have h3:=g3.out;have j0:=HG.out;rw[Fo.get_list]at j0;have r9:i<(e.ch.list.take q).length:=by rw[List.length_take,Fo.list_len];omega
         have o1:(e.ch.list.take q)[i]=(k',ch'):=by
          have:(e.ch.list.take q)[i]? =some (k',ch'):=by rw[List.getElem?_take,if_pos hi];exact j0
          exact(List.getElem?_eq_some_iff.1 this).2
         rw[List.reverse_append,List.map_append,h3,List.drop_eq_getElem_cons r9,o1];rfl
        ·intro x hx;rcases List.mem_append.1 hx with h|h
         ·exact g9.out x h
         ·obtain rfl:x=⟨k',A',c',ch'⟩:=by simpa using h
          exact r4.out
        ·rw[j6,World.putObj_heap_other (by omega)];exact x1
        ·rw[j6,i1];exact ownsRow_putObj x2 _ x4 rfl
       refine Ze (i:=6) (j:=7) (by kernel_rfl) rfl rfl (fun K' hK'=> ?_) (fun K' hK'=> ?_)
       all_goals rw[if_pos (by rfl)]
       ·refine wp_store_mid 52 (.tmp 51) (.tmp 47) rfl g4 (N*7) #[.int .i64 k'.kind, .int .u32 k'.isp, .int .u32 k'.ism, .bool k'.neg, .int .i64 k'.lo, .int .i64 k'.hi, .slice A' ch'.len c'] (by rfl) (by rfl) r3.out N2 (Acq _ _ _ _ _ _ _ _ _) ?_;have r5:=(De g4 _ b7 [.int .i64 k'.kind, .int .u32 k'.isp, .int .u32 k'.ism, .bool k'.neg, .int .i64 k'.lo, .int .i64 k'.hi, .slice A' ch'.len c'] (N*7) w4).trans Q5.out;have rl:=(De g4 _ b4 [.int .i64 k'.kind, .int .u32 k'.isp, .int .u32 k'.ism, .bool k'.neg, .int .i64 k'.lo, .int .i64 k'.hi, .slice A' ch'.len c'] (N*7) w4).trans QL.out;have rq:∀o,(w4.setCells g4 (N*7) [.int .i64 k'.kind, .int .u32 k'.isp, .int .u32 k'.ism, .bool k'.neg, .int .i64 k'.lo, .int .i64 k'.hi, .slice A' ch'.len c']).cell? ⟨W.heap.size,o,none⟩=w4.cell? ⟨W.heap.size,o,none⟩:=fun o=>World.cell?_of_block (De g4 _ p3 _ _ _)
        have rK:Ba (fun b=>b=w.heap.size+1+1\/b=l\/b=g) W1 (w4.setCells g4 (N*7) [.int .i64 k'.kind, .int .u32 k'.isp, .int .u32 k'.ism, .bool k'.neg, .int .i64 k'.lo, .int .i64 k'.hi, .slice A' ch'.len c']):=Ba.setCells g4 (by omega) _ _ _ QK.out;have r6:=b8.out;have rs:=M9 g4 [.int .i64 k'.kind, .int .u32 k'.isp, .int .u32 k'.ism, .bool k'.neg, .int .i64 k'.lo, .int .i64 k'.hi, .slice A' ch'.len c'] (N*7) w4;generalize w4.setCells g4 (N*7) [.int .i64 k'.kind, .int .u32 k'.isp, .int .u32 k'.ism, .bool k'.neg, .int .i64 k'.lo, .int .i64 k'.hi, .slice A' ch'.len c']=w5 at*;have r7:=cell_of_one r5;have r8:=free_of_one r5;refine hK' _ _ ⟨.inr trivial,fun _=> ?_⟩
        clear hK' K' rq;have R5:=hI r5;clear r5;have R6:=hI r6;clear r6;have RK:=hI rK;clear rK;have RL:=hI rl;clear rl
        (try simp only[Act.put,nY,nX])
        (refine Anv 7 rfl (fun K' hK'=> ?_);simp only[nY];go_simp)
        refine hK' _ _ ⟨.inl (by kernel_rfl),fun _=>Bf (by kernel_rfl) ?_ _⟩
        simp only[Exit.inBlock];have s5:=one_setCell (u:= .slice (some ⟨g4,0,none⟩) (N+1) cap4) R5.out;have s6:=ownsRow_setCell_other R6.out (a:=⟨w.heap.size+1+1,0,none⟩) (by simp[Value.ownBlock];omega) (.slice (some ⟨g4,0,none⟩) (N+1) cap4);have sK:=RK.out.setCell' (p:=⟨w.heap.size+1+1,0,none⟩) (by simp) (.slice (some ⟨g4,0,none⟩) (N+1) cap4);have sl:=(Below.heap_setCell w5 ⟨w.heap.size+1+1,0,none⟩ (.slice (some ⟨g4,0,none⟩) (N+1) cap4) l (by simp;omega)).trans RL.out;exact⟨sl,rfl,d8.out _ s5 s6 sK sl⟩
       ·have r7:=e7;have r8:=free_of_one Q5.out;go_simp;have r5:=one_setCell (u:= .slice (some ⟨g4,0,none⟩) (N+1) cap4) Q5.out;have r6:=ownsRow_setCell_other f2.out (a:=⟨w.heap.size+1+1,0,none⟩) (by simp[Value.ownBlock];omega) (.slice (some ⟨g4,0,none⟩) (N+1) cap4);have rt:(w4.setCell ⟨w.heap.size+1+1,0,none⟩ (.slice (some ⟨g4,0,none⟩) (N+1) cap4)).there g4 (N*7) 7:=Vk r6;have rK:=QK.out.setCell' (p:=⟨w.heap.size+1+1,0,none⟩) (by simp) (.slice (some ⟨g4,0,none⟩) (N+1) cap4);have rl:=(Below.heap_setCell w4 ⟨w.heap.size+1+1,0,none⟩ (.slice (some ⟨g4,0,none⟩) (N+1) cap4) l (by simp;omega)).trans QL.out;generalize w4.setCell ⟨w.heap.size+1+1,0,none⟩ (.slice (some ⟨g4,0,none⟩) (N+1) cap4)=w5 at*;refine hK' _ _ ⟨.inr trivial,fun _=> ?_⟩
        clear hK' K'
        (try simp only[Act.put,nY,nX])
        refine Anv 6 rfl (fun K' hK'=> ?_);rw[if_pos (by rfl)];refine wp_store_mid 52 (.tmp 51) (.tmp 47) rfl g4 (N*7) #[.int .i64 k'.kind, .int .u32 k'.isp, .int .u32 k'.ism, .bool k'.neg, .int .i64 k'.lo, .int .i64 k'.hi, .slice A' ch'.len c'] (by rfl) (by rfl) rt N2 (Acq _ _ _ _ _ _ _ _ _) ?_;refine hK' _ _ ⟨.inl (by kernel_rfl),fun _=>Bf (by kernel_rfl) ?_ _⟩
        simp only[Exit.inBlock];have s5:=(De g4 _ b7 [.int .i64 k'.kind, .int .u32 k'.isp, .int .u32 k'.ism, .bool k'.neg, .int .i64 k'.lo, .int .i64 k'.hi, .slice A' ch'.len c'] (N*7) w5).trans r5;have sl:=(De g4 _ b4 [.int .i64 k'.kind, .int .u32 k'.isp, .int .u32 k'.ism, .bool k'.neg, .int .i64 k'.lo, .int .i64 k'.hi, .slice A' ch'.len c'] (N*7) w5).trans rl;exact⟨sl,rfl,d8.out _ s5 (Zd r6 i3.out.1 rfl) (Ba.setCells g4 (by omega) _ _ _ rK) sl⟩
      rintro e3 W' ⟨⟨v,rfl⟩,i7⟩;rw[HJ.out]at i7;obtain⟨L,A2,c2, -,h2,h3,h4,h5,h6, -,h8,h9⟩:=i7;refine .inl ⟨h9, ?_⟩;have m0:Ba (fun b=>b=w.heap.size+1+1\/b=l\/b=g) W1 (W'.putObj l (.loop (rc .exhausted none))):=h8.putObj (by simp) _;have m1:(W'.putObj l (.loop (rc .exhausted none))).heap[w.heap.size+1+1]? =some (.cells #[.slice A2 (ms.length+L.length) c2] 50 (0,0)):=(World.putObj_heap_other (by omega)).trans h5;have j7:(W'.putObj l (.loop (rc .exhausted none))).ownsRow (w.heap.size+1) 52 7 (.slice A2 (ms.length+L.length) c2) (ms.length+L.length) ((ms++L).flatMap SE.cells):=ownsRow_putObj h6 _ h9 rfl;generalize W'.putObj l (.loop (rc .exhausted none))=X at*;have f8:=hI h2;clear h2;have g3:=hI h3;clear h3;have g9:=hI h4;clear h4;have m7:=hI m1;clear m1;have o4:=hI j7;clear j7 h5 h6 h9 h8;gi_wp2;have k4:∀j,j<W1.heap.size->j≠w.heap.size+1+1->j≠l->j≠g->X.heap[j]? =W1.heap[j]? :=fun j hj h1 h2 h3=>m0.block j hj (by omega)
      have o9:Below w.heap.size w X:=b1.trans (m0.to_below (fun k hk=>by have:=f4.size;omega) (by omega));refine⟨⟨cnt+1,ms++L,A2,c2,Le D::ds,⟨by omega,rfl⟩,by omega,⟨D,rfl,by omega,(k4 D (by omega) (by omega) (by omega) (by omega)).trans hD1,fun D' hm=> ?_,i4.out.mono fun D' hm hd=> ?_⟩, ?_, ?_, ?_, ?_, ?_,o9⟩, ?_⟩
      ·have:=(Array.getElem?_eq_some_iff.1 (i4.out.at_ D' hm).1).1;omega
      ·have p0:=(Array.getElem?_eq_some_iff.1 hd).1;have p1:W1.heap[D']? =some (.deferred (some [])):=(f1.block D' p0 (by simp)).trans hd
       have m6:D'≠w.heap.size+1+1:=by
        rintro rfl
        have:=H3.out
        rw[hd]at this;cases this
       have o6:D'≠g:=by
        rintro rfl;rcases a8.out.2 with⟨hx,_⟩|⟨g',cap',cur,hx,_,j2,_⟩
        ·cases hx
        ·injection hx with hx
         injection hx with hx
         injection hx with hx
         subst hx;rw[hd]at j2;cases j2
       exact(k4 D' (by have:=f1.size;omega) m6 (by omega) o6).trans p1
      ·rw[List.length_append];exact m7.out
      ·rw[List.length_append];exact o4.out
      ·intro x hx;rcases List.mem_append.1 hx with h|h
       ·exact b9.out x (by simp[h])
       ·exact g9.out x h
      ·have:=f8.out;rw[List.length_append];omega
      ·rw[←List.map_reverse,←f6.out,show 40-cnt=(39-cnt)+1 by omega,SE.pat,Bv,if_pos q9.out,show 40-(cnt+1)=39-cnt by omega,List.reverse_append,List.map_append,g3.out,List.drop_zero,p4.out]
      ·simp[intOf];omega
    ·have g5:(Af e.k e.ch.len==0)=false:=by simpa using hal
     have p7:(Af e.k e.ch.len !=0)=true:=by simpa using hal
     have hr:Bv 40 [(k,ch)]=Af e.k e.ch.len:=by
      rw[←f6.out,show 40-cnt=(39-cnt)+1 by omega,SE.pat,Bv,if_neg hal]
     have HR:=hI hr;clear hal hr;gi_wp2;exact Mi (B:=w.heap.size) Tryz.results154 (.int .i64 (Af e.k e.ch.len)) rfl i4.out fun w' hw'=>⟨by rw[HR.out],f4.trans hw'.below⟩
end Go.Proofs.YtaglfmlgbcmakaaGreatDoor
namespace Go.Proofs.YtaglfmlgbcmakaaGreatDoor
open Go.RowKit Go.Shelf
def Hx {α:Type}(p:α->Bool):List α->Int
 |[]=> -1
 |x::l=>if p x then 0 else if Hx p l<0 then-1 else Hx p l+1
theorem Jl {α:Type}(p:α->Bool):∀l:List α,l.any p=false->Hx p l= -1
 |[],_=>rfl
 |x::l,h=>by
  simp only[List.any_cons,Bool.or_eq_false_iff]at h;simp[Hx,h.1,Jl p l h.2]
theorem Jm {α:Type}(p:α->Bool):∀(l:List α) (k:Nat) (x:α),l[k]? =some x->(l.take k).any p=false->p x=true->Hx p l=k
 |[],k,x,h,_,_=>by simp at h
 |y::l,0,x,h,_,hp=>by
  obtain rfl:y=x:=by simpa using h
  simp[Hx,hp]
 |y::l,k+1,x,h,hn,hp=>by
  simp only[List.take_succ_cons,List.any_cons,Bool.or_eq_false_iff]at hn
  have:=Jm p l k x (by simpa using h) hn.2 hp
  simp only[Hx,hn.1,this];rw[if_neg (by simp),if_neg (by omega)];omega
theorem L8 {α:Type}(p:α->Bool):∀l:List α,decide (0<=Hx p l)=l.any p
 |[]=>rfl
 |x::l=>by
  have ih:=L8 p l;simp only[Hx,List.any_cons];by_cases h:p x=true
  ·simp[h]
  ·have h':p x=false:=by simpa using h
   simp only[h',Bool.false_or,←ih];rw[if_neg (by simp)];split
   ·rename_i hl;simp;omega
   ·rename_i hl;simp;omega
theorem Agk (A:Option Addr)(n c:Nat)(xs:List Snd)(F:Nat)(lb:Array Value)(p:Snd->Bool)(w:World)(hx:Ak w A n c xs)(hE:Enters Tryz.prog F)
  (a0:∀W,Below w.heap.size w W→∀s∈xs,Calls Tryz.prog F (#[C7 s.1 s.2]++lb) W fun e W'=>e= .returned (.bool (p s))/\Below W.heap.size W W'):
  Calls Tryz.prog 176 #[.slice A n c, .func (.func F) #[] lb] w fun e w'=>e= .returned (.int .i64 (Hx p xs))/\Below w.heap.size w w':=by
 have hm:=hx.max;have HX:=hI hx;clear hx;have HC:=hI a0;clear a0;unfold Enters at hE;go_enter Tryz.func176,Tryz.ntmps176;go_wp2
 go_loopw [5,8] (fun _ i wr=>∃k:Nat,k<=n/\i= .int .i64 k/\Hid ((xs.take k).any p=false)/\Below w.heap.size w wr) (fun _ i _=>n-(intOf i).toNat)
 case atStart=>exact⟨0,Nat.zero_le _,rfl,by simp[Hid],Below.refl _ _⟩
 case round=>
  obtain⟨k,hk,rfl,HA,hB⟩:=hrel;by_cases hlt:k<n
  ·obtain⟨b,off,p',m',rfl,hb,a4,a6,a7⟩:=(HX.out.below hB rr).at_ hlt;have a0:=HC.out wr hB (p',m') (List.mem_of_getElem? a4);have a1:=hI a0;clear a0;have HK:=hI a4;clear a4;by_cases hp:p (p',m')=true
   ·have hr:=Jm p xs k (p',m') HK.out HA.out hp;have HR:=hI hr;clear hr;have HP:=hI hp;clear hp;go_wp2_with fail;refine a1.out.mono ?_;rintro e w1 ⟨rfl,a2⟩;rw[HP.out];have a3:=hB.trans (a2.mono hB.size);clear a2;go_wp2;go_ret;exact⟨by rw[HR.out];rfl,a3⟩
   ·have a5:p (p',m')=false:=by simpa using hp
    have HP:=hI a5;clear hp a5;go_wp2_with fail;refine a1.out.mono ?_;rintro e w1 ⟨rfl,a2⟩;rw[HP.out];have a3:=hB.trans (a2.mono hB.size);clear a2;go_wp2
    go_roundw
    case rel=>exact⟨k+1,by omega,by go_num,by rw[Bd xs k _ HK.out,List.any_append,HA.out];simp[HP.out,Hid],a3⟩
    case measure=>simp[intOf];omega
  ·obtain rfl:k=n:=by omega
   have hr:Hx p xs= -1:=by
    have:=HA.out
    rw[List.take_of_length_le (by rw[HX.out.len];exact rr)]at this;exact Jl p xs this
   have HR:=hI hr;clear hr;go_wp2;go_ret;exact⟨by rw[HR.out];rfl,hB⟩
theorem Yp (A:Option Addr)(n c:Nat)(xs:List Snd)(F:Nat)(lb:Array Value)(p:Snd->Bool)(w:World)(hx:Ak w A n c xs)(hE:Enters Tryz.prog F)
  (hcall:∀W,Below w.heap.size w W→∀s∈xs,Calls Tryz.prog F (#[C7 s.1 s.2]++lb) W fun e W'=>e= .returned (.bool (p s))/\Below W.heap.size W W'):
  Calls Tryz.prog 155 #[.slice A n c, .func (.func F) #[] lb] w fun e w'=>e= .returned (.bool (xs.any p))/\Below w.heap.size w w':=by
 have a0:=Agk A n c xs F lb p w hx hE hcall;have H:=hI (L8 p xs);clear hx hcall hE;go_enter Tryz.func155,Tryz.ntmps155;go_wp2_with(go_at_call 176;refine a0.mono ?_;rintro e w1 ⟨rfl,a1⟩);go_ret;refine⟨?_,a1⟩;show Ending.returned (.bool (decide (0<=Hx p xs)))=_;rw[H.out]
theorem Aew (p m:Int)(w:World):
  Calls Tryz.prog 240 #[C7 p m] w fun e w'=>e= .returned (.bool (!Cg p m))/\Below w.heap.size w w':=by
 go_enter Tryz.func240,Tryz.ntmps240;go_wp2_with(go_at_call 188;refine(F7 _ _ _).mono ?_;rintro e w1 ⟨rfl,a0⟩;have a1:=Db a0;(try simp only[World.size_alloc,World.size_drew,World.size_setCell]at a1);have c0:=fun o=>a0.cell (p:=⟨w.heap.size,o,none⟩) sd;have f0:=fun o=>a0.frozen (p:=⟨w.heap.size,o,none⟩) sd;have a2:Below w.heap.size w w1:=bel;clear a0);go_ret;exact⟨rfl,bel⟩
def Cp (n:Nat)(at_:Int):Int:=if at_<0\/(n:Int)<at_ then 3 else 0
theorem Z1 (A:Option Addr)(n c:Nat)(at_:Int)(w:World)(hn:n<=32):
  Calls Tryz.prog 237 #[.slice A n c, .int .i64 at_] w fun e w'=>e= .returned (.int .i64 (Cp n at_))/\w=w':=by
 by_cases h1:at_<0
 ·have hv:Cp n at_=3:=by simp[Cp,h1]
  have H:=hI hv;clear hv;go_enter Tryz.func237,Tryz.ntmps237;go_wp2;go_ret;exact⟨by rw[H.out];rfl,rfl⟩
 ·by_cases h2:(n:Int)<at_
  ·have hv:Cp n at_=3:=by simp[Cp,h2]
   have H:=hI hv;clear hv;go_enter Tryz.func237,Tryz.ntmps237;go_wp2;go_ret;exact⟨by rw[H.out];rfl,rfl⟩
  ·have hv:Cp n at_=0:=by simp[Cp,h1,h2]
   have H:=hI hv;clear hv;go_enter Tryz.func237,Tryz.ntmps237;go_wp2;go_ret;exact⟨by rw[H.out];rfl,rfl⟩
def F4 (x:Nd×Fo)(ws:List Snd):Int:=
 if Bv 40 [x]≠0 then Bv 40 [x]else if 32<ws.length then 11 else if ws.any (fun s=> !Cg s.1 s.2)then 14 else 0
def F5 (x:Nd×Fo)(ws:List Snd):List Nat:=if F4 x ws=0 then E5 x.1 ws (D2 ws x.2)else B1
theorem Dl {x:Nd×Fo}{ws:List Snd}(h:F4 x ws=0):Bv 40 [x]=0/\ws.length<=32/\ws.any (fun s=> !Cg s.1 s.2)=false:=by
 unfold F4 at h;by_cases h1:Bv 40 [x]=0
 ·rw[if_neg (by simp[h1])]at h;by_cases h2:32<ws.length
  ·rw[if_pos h2]at h;exact absurd h (by decide)
  ·rw[if_neg h2]at h;cases h3:ws.any (fun s=> !Cg s.1 s.2)
   ·exact⟨h1,by omega,rfl⟩
   ·rw[h3,if_pos rfl]at h;exact absurd h (by decide)
 ·rw[if_pos h1]at h;exact absurd h h1
theorem Sm (x:Nd×Fo)(ws:List Snd):(F5 x ws).length=33/\Bl (F5 x ws):=by
 unfold F5;split
 ·rename_i h
  obtain⟨h1,h2,_⟩:=Dl h;have a0:=(Fv 40 _ rr h1).2 x (List.mem_cons_self ..);exact Pi ws h2 (.node x.1 x.2 .nil) ⟨a0.1,a0.2,trivial⟩ _ (List.mem_cons_self ..)
 ·exact⟨rfl,Kk⟩
theorem Ge {fn:Func}{p u:Tmp}(h:fn.results= #[.cell p 266, .tmp u])(tmps:Array Value)(w:World)(b:Nat)(r:List Nat)(v:Value)(hp:tmps.getD p undef= .pointer (some ⟨b,0,none⟩))(hv:tmps.getD u undef=v)(hr:B9 w b r):
  (results fn tmps).run Tryz.prog w= .ok (.tuple #[.agg (Ex r),v]) w:=by
 have h1:=run_loadVar_row (P:=Tryz.prog) w b 266 266 (Ex r) (0,0) _ hr.1 Tryz.underlying266 rfl (Pu hr.2);rw[results_cell_tmp h,hp,hv];simp only[asAddr,Sem.run_pure,Result.andThen_ok,h1]
theorem Z2 (k:Nd)(ch:Fo)(A0:Option Addr)(c0:Nat)(A:Option Addr)(n c:Nat)(ws:List Snd)(w:World)(hf:FSl w A0 ch.len c0 ch)(hw:Ak w A n c ws)(hT:Cw w):
  Calls Tryz.prog 236 #[Fc k A0 ch.len c0, .slice A n c] w fun e w'=>e= .returned (.tuple #[.agg (Ex (F5 (k,ch) ws)), .int .i64 (F4 (k,ch) ws)])/\Below w.heap.size w w':=by
 have f3:=hw.max;have HF:=hI hf;clear hf;have HW:=hI hw;clear hw;have HT:=hI hT;clear hT;go_enter Tryz.func236,Tryz.ntmps236;go_wp2_with fail;refine(Wl k A0 c0 ch _ (HF.out.below (B:=w.heap.size) bel rr)).mono ?_;rintro e w1 ⟨rfl,b1⟩;have f8:=b1.size;simp only[World.size_alloc]at f8;have a3:Below w.heap.size w w1:=bel;have h0:w1.heap[w.heap.size]? =some (.cells #[.int .i64 k.kind, .int .u32 k.isp, .int .u32 k.ism, .bool k.neg, .int .i64 k.lo, .int .i64 k.hi, .slice A0 ch.len c0] 52 (0,0)):=(b1.block _ sd).trans hpt;have d9:B9 w1 (w.heap.size+1) B1:=⟨(b1.block _ sd).trans hpt,rfl⟩;clear b1;have b8:=hI d9;clear d9;have H0:=hI h0;clear h0;by_cases hck:Bv 40 [(k,ch)]=0
 ·have b6:(Bv 40 [(k,ch)] !=0)=false:=by rw[hck];rfl
  have a7:=hI hck;clear hck;have g1:=hI (HW.out.below a3 rr);by_cases h32:32<n
  ·have hE:F4 (k,ch) ws=11:=by unfold F4;rw[if_neg (by simp[a7.out]),if_pos (by rw[HW.out.len];exact h32)]
   have hR:F5 (k,ch) ws=B1:=by unfold F5;rw[hE];rfl
   have HE:=hI hE;have HR:=hI hR;clear hE hR;go_wp2_with(refine B2 rfl (.tmp 4) (.tmp 18) rfl (w.heap.size+1) B1 B1 rfl rfl b8.out rfl ?_;intro w2 b5 b4 d8);refine bodyPost_ret (Ge Tryz.results236 _ _ (w.heap.size+1) _ (.int .i64 11) rfl rfl b5) rfl ⟨by rw[HR.out,HE.out],Bo a3 b4 (by omega) (by omega)⟩
  ·have f0:n<=32:=by omega
   have g0:decide ((32:Int)<(n:Int))=false:=by simp;omega
   go_wp2_with fail;refine(Yp A n c ws 240 #[] (fun s=> !Cg s.1 s.2) w1 g1.out (enters_of Tryz.func240 (by kernel_rfl) rfl) (fun W _ s _=>Aew s.1 s.2 W)).mono ?_;rintro e w2 ⟨rfl,a5⟩;have a8:Below w.heap.size w w2:=a3.trans (a5.mono a3.size);have d8:=a5.size;have b9:=hI (b8.out.below a5 rr);have a1:=hI ((a5.block _ (by omega)).trans H0.out);clear a5;by_cases hva:ws.any (fun s=> !Cg s.1 s.2)=true
   ·have hE:F4 (k,ch) ws=14:=by unfold F4;rw[if_neg (by simp[a7.out]),if_neg (by rw[HW.out.len];exact h32),if_pos hva]
    have hR:F5 (k,ch) ws=B1:=by unfold F5;rw[hE];rfl
    have HE:=hI hE;have HR:=hI hR;clear hE hR;rw[hva];go_wp2_with(refine B2 rfl (.tmp 4) (.tmp 22) rfl (w.heap.size+1) B1 B1 rfl rfl b9.out rfl ?_;intro w3 g4 g3 f2);refine bodyPost_ret (Ge Tryz.results236 _ _ (w.heap.size+1) _ (.int .i64 14) rfl rfl g4) rfl ⟨by rw[HR.out,HE.out],Bo a8 g3 (by omega) (by omega)⟩
   ·have a6:ws.any (fun s=> !Cg s.1 s.2)=false:=by simpa using hva
    have hE:F4 (k,ch) ws=0:=by unfold F4;rw[if_neg (by simp[a7.out]),if_neg (by rw[HW.out.len];exact h32),if_neg hva]
    have hR:F5 (k,ch) ws=E5 k ws (D2 ws ch):=by unfold F5;rw[if_pos hE]
    have HE:=hI hE;have HR:=hI hR;clear hE hR hva;rw[a6];clear a6;obtain⟨f4,a9⟩:=Fv 40 _ rr a7.out;have a9:=a9 (k,ch) (List.mem_cons_self ..);simp only[Wk,List.map_cons,List.map_nil,List.sum_cons,List.sum_nil]at f4;obtain⟨d0,d1,d2,d3,d4,d5,d6⟩:=(⟨Ad (j:=0) a1.out rfl,Ad (j:=1) a1.out rfl,Ad (j:=2) a1.out rfl,Ad (j:=3) a1.out rfl,Ad (j:=4) a1.out rfl,Ad (j:=5) a1.out rfl,Ad (j:=6) a1.out rfl⟩:_/\_/\_/\_/\_/\_/\_);have a2:=hI a9;clear a9;have b7:=hI (Pi ws (by rw[HW.out.len];exact f0) (.node k ch .nil) ⟨a2.out.1,a2.out.2,trivial⟩ (E5 k ws (D2 ws ch)) (List.mem_cons_self ..)).1;go_wp2_with fail;refine(Ado k ch _ A0 _ c0 (HF.out.below a8 rr) a2.out.1 a2.out.2 (by omega)).mono ?_;rintro e w3 ⟨v,rfl,b2,d7⟩;have b3:Below w.heap.size w w3:=a8.trans (b2.mono a8.size);have f2:=b2.size;have f6:=hI (b9.out.below b2 rr);have f9:=Al7 ws A n c f0 (.node k ch .nil) w3 [v] ⟨a2.out.1,a2.out.2,trivial⟩ d7.to_at (HW.out.below b3 rr) (HT.out.below b3 rr) w3 (Below.refl _ _) 0 v (E5 k ws (D2 ws ch)) rfl rfl;clear b2 d7 d0 d1 d2 d3 d4 d5 d6;rcases f9 with⟨x,rfl,a0⟩|⟨x,rfl,a0⟩|⟨x,rfl,a0⟩|⟨x,rfl,a0⟩|⟨x,rfl,a0⟩
    all_goals
     have a4:=hI a0;clear a0;go_wp2_with fail;refine a4.out.mono ?_;rintro e w4 ⟨rfl,b0⟩;have f7:Below w.heap.size w w4:=b3.trans (b0.mono b3.size);have g2:=hI (f6.out.below b0 rr);have g7:=b0.size;clear b0;go_wp2_with(refine B2 rfl (.tmp 4) (.tmp 26) rfl (w.heap.size+1) B1 (E5 k ws (D2 ws ch)) rfl rfl g2.out b7.out ?_;intro w5 f1 f5 g6);exact bodyPost_ret (Ge Tryz.results236 _ _ (w.heap.size+1) _ (.int .i64 0) rfl rfl f1) rfl ⟨by rw[HR.out,HE.out],Bo f7 f5 (by omega) (by omega)⟩
 ·have b6:(Bv 40 [(k,ch)] !=0)=true:=by simpa using hck
  have g5:(Bv 40 [(k,ch)]==0)=false:=by simpa using hck
  have hE:F4 (k,ch) ws=Bv 40 [(k,ch)]:=by unfold F4;rw[if_pos hck]
  have hR:F5 (k,ch) ws=B1:=by unfold F5;rw[hE,if_neg hck]
  have HE:=hI hE;have HR:=hI hR;clear hE hR hck;go_wp2_with(refine B2 rfl (.tmp 4) (.tmp 12) rfl (w.heap.size+1) B1 B1 rfl rfl b8.out rfl ?_;intro w2 b5 b4 d8);refine bodyPost_ret (Ge Tryz.results236 _ _ (w.heap.size+1) _ (.int .i64 (Bv 40 [(k,ch)])) rfl rfl b5) rfl ⟨by rw[HR.out,HE.out],Bo a3 b4 (by omega) (by omega)⟩
theorem Hv:(Tryz.prog.info? 3).map (fun i=>(i.zero,i.size,i.bytes))=some (some (.int .i64 0),1,8):=by kernel_rfl
def Ly (l:List Nat):List Value:=l.map fun(a:Nat)=>Value.int .i64 (a:Int)
theorem Sr (l:List Nat):(Ly l).length=l.length:=by simp[Ly]
theorem Eu {ops:Array Oper}{rest:List Oper}{o:Oper}{a:Act}{w:World}{Q:Exit->Act->World->Prop}(hgd:o.guard=none)(s x:Operand)
  (ho:o.op= .call {callee:= .builtin .append,args:= #[s,x],argTypes:= #[36,36]})
  (base:Nat) (v:Value) (n:Nat) (xs:List Value) (hs:a.eval s=v) (hown:w.ownsRow base 3 1 v n xs)
  (ad:Addr) (c:Nat) (y:Value) (hx:a.eval x= .slice (some ad) 1 c) (hr:∀j u,[y][j]? =some u->w.cell? (ad.add j)=some u) (hy:y.oneCell'=true) (hl:n+1<=4096) (hbase:base<=w.heap.size)
  (h:∀v' w',w'.ownsRow base 3 1 v' (n+1) (xs++[y])->w.grownBy w' v.ownBlock->(v'.ownBlock=v.ownBlock\/v'.ownBlock=some w.heap.size)→
   wpList Tryz.prog ops Q rest (a.put o.dst v') w'):wpList Tryz.prog ops Q (o::rest) a w:=by
 obtain⟨i0,hi,a1,a2,a0⟩:=info_parts Hv
 exact wpList_append_own_at w hgd s x 36 ho base 3 i0 _ 1 8 Tryz.underlying36 hi a1 a2 a0 rfl (by decide) v n xs hs hown ad 1 c [y] hx rfl hr
  (by intro u hu;simp at hu;subst hu;exact hy) (by unfold maxLen;omega) (by omega) hbase fun v' w' h1 h2 _ h4=>h v' w' h1 h2 h4
theorem Wj (s m:Nat)(h:Cu s):(bits BinOp.and IntKind.u64 ((s:Int)/2^m) 1==1)=s.testBit m:=by
 have e:((s:Int)/2^m)=((s/2^m:Nat):Int):=by simp
 unfold Cu at h;rw[e];have h2:s/2^m<8589934592:=Nat.lt_of_le_of_lt (Nat.div_le_self _ _) h;rw[Nat.testBit_eq_decide_div_mod_eq];generalize s/2^m=t at*;have h3:=u64_and_nat t 1 (by omega) (by omega);rw[show((1:Nat):Int)=1 from rfl]at h3;rw[h3,Nat.and_one_is_mod];have h4:t%2=0\/t%2=1:=by omega
 rcases h4 with h4|h4<;>rw[h4]<;>rfl
def Sd (w:World)(l:List Nat)(er:Int)(e:Ending)(w':World):Prop:=
 ∃A c,e= .returned (.tuple #[.slice A l.length c, .int .i64 er])/\Az w' A l.length c 1 (Ly l)/\Below w.heap.size w w'
def atE (x:Nd×Fo)(ws:List Snd)(at_:Int):Int:=if F4 x ws=0 then Cp ws.length at_ else F4 x ws
def Di (x:Nd×Fo)(ws:List Snd)(at_:Int):List Nat:=
 if atE x ws at_=0 then(List.range (ws.length+1)).filter fun a=>((F5 x ws).getD a 0).testBit at_.toNat else []
theorem Afp (k:Nd)(ch:Fo)(A0:Option Addr)(c0:Nat)(A:Option Addr)(n c:Nat)(ws:List Snd)(at_:Int)(w:World)(hf:FSl w A0 ch.len c0 ch)(hw:Ak w A n c ws)(hT:Cw w):
  Calls Tryz.prog 226 #[Fc k A0 ch.len c0, .slice A n c, .int .i64 at_] w (Sd w (Di (k,ch) ws at_) (atE (k,ch) ws at_)):=by
 have d9:=hw.max;have HF:=hI hf;clear hf;have HW:=hI hw;clear hw;have HT:=hI hT;clear hT;go_enter Tryz.func226,Tryz.ntmps226;go_wp2_with fail;refine(Z2 k ch A0 c0 A n c ws _ (HF.out.below (B:=w.heap.size) bel rr) (HW.out.below (B:=w.heap.size) bel rr) (HT.out.below (B:=w.heap.size) bel rr)).mono ?_;rintro e w1 ⟨rfl,d6⟩;have f2:=d6.size;simp only[World.size_alloc]at f2;have b0:Below w.heap.size w w1:=bel;clear d6;have a6:=hI (Sm (k,ch) ws).1;have d8:=hI (Sm (k,ch) ws).2;by_cases hE:F4 (k,ch) ws=0
 ·have b3:n<=32:=by have:=(Dl hE).2.1;rw[HW.out.len]at this;exact this
  have f0:(F4 (k,ch) ws==0)=true:=by rw[hE];rfl
  have f5:(F4 (k,ch) ws !=0)=false:=by rw[hE];rfl
  have HE:=hI hE;clear hE;go_wp2_with(refine B2 rfl (.tmp 8) (.tmp 16) rfl w1.heap.size B1 (F5 (k,ch) ws) rfl rfl ?hr a6.out ?hc)
  case hr=>exact⟨hpt,rfl⟩
  case hc=>
   intro w2 b1 a4 a8;have a7:Below w.heap.size w w2:=Bo (b0.alloc b0.size _) a4 (by omega) sd;have b7:=Nat.le_of_eq a8.symm;clear a8 a4;go_wp2_with fail;refine(Z1 A n c at_ _ b3).mono ?_;rintro e w3 ⟨rfl,rfl⟩;have d2:=hI b1;clear b1;by_cases hx:Cp n at_=0
   ·have a5:atE (k,ch) ws at_=0:=by unfold atE;rw[if_pos HE.out,HW.out.len,hx]
    have f1:(Cp n at_ !=0)=false:=by rw[hx];rfl
    have h0:0<=at_/\at_<=n:=by unfold Cp at hx;split at hx<;>simp at*;omega
    obtain⟨m,rfl⟩:∃m:Nat,at_=m:=⟨at_.toNat,by omega⟩;have f4:m<=32:=by omega
    have d0:=hI a5;clear a5 hx h0;have a3:Di (k,ch) ws m=(List.range (n+1)).filter fun a=>((F5 (k,ch) ws).getD a 0).testBit m:=by unfold Di;rw[if_pos d0.out,HW.out.len];rfl
    have a2:=hI a3;clear a3;obtain⟨f,hf⟩:∃f:Nat->Bool,f=fun a=>((F5 (k,ch) ws).getD a 0).testBit m:=⟨_,rfl⟩
    have b2:=hI hf;clear hf;have d5:=hI a7;clear a7;have d7:w1.heap.size<w2.heap.size:=d2.out.lt;go_wp2
    go_loopw [10,11,29] (fun l _ i wr=>∃(j q:Nat),j<=n+1/\i= .int .i64 j/\q<=j/\Hid (wr.ownsRow w2.heap.size 3 1 l q (Ly ((List.range j).filter f)))/\Hid (B9 wr w1.heap.size (F5 (k,ch) ws))∧
     Below w2.heap.size w2 wr) (fun _ _ i _=>n+1-(intOf i).toNat)
    case atStart=>exact⟨0,0,by omega,rfl,by omega,World.ownsRow_nil _ _ _ _,d2,Below.refl _ _⟩
    case round=>
     obtain⟨j,q,hj,rfl,hq,a0,hr,hB⟩:=hrel;have f7:=hB.size;by_cases hlt:j<n+1
     ·obtain⟨s,hs⟩:∃s,(F5 (k,ch) ws)[j]? =some s:=⟨(F5 (k,ch) ws)[j]'(by have:=hr.out.2;omega),List.getElem?_eq_getElem _⟩;have hc:=hr.out.get hs;have d4:=d8.out s (List.mem_of_getElem? hs);have d3:f j=s.testBit m:=by rw[b2.out];show((F5 (k,ch) ws).getD j 0).testBit m=_;rw[List.getD_eq_getElem?_getD,hs];rfl
      have f3:=hI d3;clear d3 hs;have b4:=hI d4;clear d4;obtain⟨A1,c1,rfl⟩:=Bh a0.out;have f6:(j:Int)<33:=by omega
      have b6:=Wj s m b4.out;rw[←f3.out]at b6;by_cases hf:f j=true
      ·rw[hf]at b6;have b8:=hI hf;clear hf;go_wp2_with(at_builtin;refine Eu rfl (.tmp 39) (.tmp 41) rfl w2.heap.size (.slice A1 q c1) q (Ly ((List.range j).filter f)) rfl ?ho ⟨wr.heap.size,0,none⟩ 1 (.int .i64 j) rfl ?ha rfl ?hl ?hz ?hc)
       case ho=>exact a0.out.alloc _
       case ha=>exact cell_one_new _ _ _
       case hl=>omega
       case hz=>simp;omega
       case hc=>
        intro v' w4 a9 d1 _;go_wp2
        go_roundw
        case rel=>
         refine⟨j+1,q+1,by omega,by go_num,by omega, ?_, ?_,E3 (hB.alloc hB.size _) (a0.out.alloc _) d1 rr (by simp;omega)⟩
         ·show w4.ownsRow _ _ _ _ _ _;rw[List.range_succ,List.filter_append]
          have:([j].filter f)=[j]:=by simp[b8.out]
          rw[this];simpa[Ly]using a9
         ·have hl:=hr.out.alloc (.cells #[.int .i64 j] 3);refine⟨(d1.block _ hl.lt (fun e=> ?_)).trans hl.1,hl.2⟩
          have:=(a0.out.lt _ e.symm).1;omega
        case measure=>simp[intOf];omega
      ·have b5:f j=false:=by simpa using hf
       rw[b5]at b6;have b8:=hI b5;clear hf b5;go_wp2
       go_roundw
       case rel=>
        refine⟨j+1,q,by omega,by go_num,by omega, ?_,hr,hB⟩;show wr.ownsRow _ _ _ _ _ _;rw[List.range_succ,List.filter_append]
        have:([j].filter f)=[]:=by simp[b8.out]
        rw[this,List.append_nil];exact a0.out
       case measure=>simp[intOf];omega
     ·obtain rfl:j=n+1:=by omega
      obtain⟨A1,c1,rfl⟩:=Bh a0.out;have b9:=a0.out.1;rw[Sr,Nat.mul_one]at b9;go_wp2
      go_ret2
      refine⟨A1,c1, ?_, ?_,d5.out.trans (hB.mono d5.out.size)⟩
      ·rw[d0.out,a2.out,←b2.out,b9];rfl
      ·rw[a2.out,←b2.out,b9];exact Az.of_own a0.out (by decide)
   ·have a5:atE (k,ch) ws at_≠0:=by unfold atE;rw[if_pos HE.out,HW.out.len];exact hx
    have a1:atE (k,ch) ws at_=Cp n at_:=by unfold atE;rw[if_pos HE.out,HW.out.len]
    have a3:Di (k,ch) ws at_=[]:=by unfold Di;rw[if_neg a5]
    have f1:(Cp n at_ !=0)=true:=by simpa using hx
    have HX:=hI a1;have a2:=hI a3;clear a5 a1 a3 hx;go_wp2
    go_ret2
    exact⟨none,0,by rw[HX.out,a2.out];rfl,by rw[a2.out];exact Az.nil _ _,a7⟩
 ·have a1:atE (k,ch) ws at_=F4 (k,ch) ws:=by unfold atE;rw[if_neg hE]
  have a3:Di (k,ch) ws at_=[]:=by unfold Di;rw[a1,if_neg hE]
  have f0:(F4 (k,ch) ws==0)=false:=by simpa using hE
  have f5:(F4 (k,ch) ws !=0)=true:=by simpa using hE
  have HX:=hI a1;have a2:=hI a3;clear a1 a3 hE;go_wp2_with(refine B2 rfl (.tmp 8) (.tmp 16) rfl w1.heap.size B1 (F5 (k,ch) ws) rfl rfl ?hr a6.out ?hc)
  case hr=>exact⟨hpt,rfl⟩
  case hc=>
   intro w2 b1 a4 a8;have a7:Below w.heap.size w w2:=Bo (b0.alloc b0.size _) a4 (by omega) sd;have b7:=Nat.le_of_eq a8.symm;clear a8 a4;go_wp2
   go_ret2
   exact⟨none,0,by rw[HX.out,a2.out];rfl,by rw[a2.out];exact Az.nil _ _,a7⟩
end Go.Proofs.YtaglfmlgbcmakaaGreatDoor
