/-
  ablautref06.Size and ablautlaw10.Reps return; nothing old is written.
-/
import Derived.Test.YtlgliddhideflaaGreatDoorG13
set_option linter.all false
set_option maxRecDepth 100000
set_option maxHeartbeats 4000000
namespace Go.Proofs.YtlgliddhideflaaGreatDoor
open Go.RowKit Go.Shelf
def Uv (w:World)(e:Ending)(w':World):Prop:=(∃m:Int,e= .returned (.int .i64 m))/\Below w.heap.size w w'
def Ks (w:World)(e:Ending)(w':World):Prop:=e= .returned (.bool true)/\Below w.heap.size w w'
def Afe (k:Nd)(ch:Fo):Prop:=∀(w:World) (A:Option Addr) (n c:Nat) (m:Int),FSl w A n c ch->Calls Tryz.prog 160 #[Em k A n c, .int .i64 m] w (Uv w)
theorem Wm (k:Nd)(ch:Fo)(ih:∀j k' ch',ch.get j=some (k',ch')->Afe k' ch'):Afe k ch:=by
 intro w A n c m0 hs;have hn:n<=9223372036854775807:=by have h1:=hs.1.2.1;have h2:=hs.1.2.2.1;unfold maxLen at h2;omega
 have HI:=hI ih;clear ih;have HS:=hI hs;clear hs;obtain⟨kind,isp,ism,neg,lo,hi⟩:=k;go_enter Tryz.func160,Tryz.ntmps160;go_wp2
 go_loopw [5,6] (fun nv i wr=>∃(j:Nat) (m:Int),i= .int .i64 j/\nv= .int .i64 m/\j<=n/\Hid (wr.heap[w.heap.size]? =some (.cells #[.int .i64 kind, .int .u32 isp, .int .u32 ism, .bool neg, .int .i64 lo, .int .i64 hi, .slice A n c] 27 (0,0)))/\Below w.heap.size w wr) (fun _ i _=>n-(intOf i).toNat)
 case atStart=>exact⟨0,_,rfl,rfl,Nat.zero_le _,hpt,bel⟩
 case round=>
  obtain⟨j,m,rfl,rfl,hj,hb,hB⟩:=hrel;have a2:=hB.size;have a3:=Ab (j:=6) hb.out rfl;by_cases hlt:j<n
  ·by_cases hm:m<=40
   ·obtain⟨⟨k',ch'⟩,hg⟩:=ch.get_lt j (by have:=HS.out.1.1;omega);obtain⟨b,off,A',n',c',rfl,a8,⟨h0,h1,h2,h3,h4,h5,h6⟩,⟨rfl,a6⟩,a0,_⟩:=(HS.out.below hB rr).2.at_ ch _ 0 j k' ch' hg;have HG:=hI hg;clear hg;have a5:=hI a0;clear a0;simp only[Nat.zero_add]at h0 h1 h2 h3 h4 h5 h6;go_wp2_with fail;refine(HI.out j k' ch' HG.out wr A' _ c' m ⟨⟨rfl,a6⟩,a5.out⟩).mono ?_;rintro e w1 ⟨⟨m1,rfl⟩,a1⟩;have a7:=hI ((a1.block w.heap.size (lt_of_block hb.out)).trans hb.out);have a4:=hB.trans (a1.mono a2);clear a1 h0 h1 h2 h3 h4 h5 h6 a3;go_wp2
    go_roundw
    case rel=>exact⟨j+1,m1,by go_num,rfl,by omega,a7,a4⟩
    case measure=>simp[intOf];omega
   ·go_wp2;go_ret;exact⟨⟨_,rfl⟩,hB⟩
  ·obtain rfl:j=n:=by omega
   go_wp2;go_ret;exact⟨⟨_,rfl⟩,hB⟩
theorem Sw:∀(f:Fo) (j:Nat) (k:Nd) (ch:Fo),f.get j=some (k,ch)->Afe k ch
 | .node k0 ch0 nx,0,k,ch,hg=>by
  obtain⟨rfl,rfl⟩:k0=k/\ch0=ch:=by simpa[Fo.get]using hg
  exact Wm _ _ (Sw ch0)
 | .node k0 ch0 nx,j+1,k,ch,hg=>Sw nx j k ch (by simpa[Fo.get]using hg)
theorem Al5 (k:Nd)(ch:Fo):Afe k ch:=Wm k ch (Sw ch)
theorem Wn (k:Nd)(ch:Fo)(w:World)(A:Option Addr)(n c:Nat)(hs:FSl w A n c ch):Calls Tryz.prog 111 #[Em k A n c] w (Uv w):=by
 obtain⟨kind,isp,ism,neg,lo,hi⟩:=k;have HS:=hI hs;clear hs;go_enter Tryz.func111,Tryz.ntmps111;go_wp2_with fail;refine(Al5 ⟨kind,isp,ism,neg,lo,hi⟩ ch _ A n c 0 (HS.out.below (B:=w.heap.size) bel rr)).mono ?_;rintro e w1 ⟨⟨m1,rfl⟩,a0⟩;go_wp2;go_ret;exact⟨⟨_,rfl⟩,Below.step (by assumption) (by simp) bel⟩
def Al6 (k:Nd)(ch:Fo):Prop:=∀(w:World) (A:Option Addr) (n c:Nat),FSl w A n c ch->Calls Tryz.prog 173 #[Em k A n c] w (Uv w)
theorem Rc (k:Nd)(ch:Fo)(ih:∀j k' ch',ch.get j=some (k',ch')->Al6 k' ch'):Al6 k ch:=by
 intro w A n c hs;have hn:n<=9223372036854775807:=by have h1:=hs.1.2.1;have h2:=hs.1.2.2.1;unfold maxLen at h2;omega
 have HI:=hI ih;clear ih;have HS:=hI hs;clear hs;obtain⟨kind,isp,ism,neg,lo,hi⟩:=k;cases hk5:(kind==5)
 all_goals
  go_enter Tryz.func173,Tryz.ntmps173;go_wp2
  go_loopw [3,4] (fun nv i wr=>∃(j:Nat) (m:Int),i= .int .i64 j/\nv= .int .i64 m/\j<=n/\Hid (wr.heap[w.heap.size]? =some (.cells #[.int .i64 kind, .int .u32 isp, .int .u32 ism, .bool neg, .int .i64 lo, .int .i64 hi, .slice A n c] 27 (0,0)))/\Below w.heap.size w wr) (fun _ i _=>n-(intOf i).toNat)
  case atStart=>exact⟨0,_,rfl,rfl,Nat.zero_le _,hpt,bel⟩
  case round=>
   obtain⟨j,m,rfl,rfl,hj,hb,hB⟩:=hrel;have a4:=hB.size;have a5:=Ab (j:=6) hb.out rfl;by_cases hlt:j<n
   ·obtain⟨⟨k',ch'⟩,hg⟩:=ch.get_lt j (by have:=HS.out.1.1;omega);obtain⟨b,off,A',n',c',rfl,a8,⟨h0,h1,h2,h3,h4,h5,h6⟩,⟨rfl,a7⟩,a0,_⟩:=(HS.out.below hB rr).2.at_ ch _ 0 j k' ch' hg;have HG:=hI hg;clear hg;have a6:=hI a0;clear a0;simp only[Nat.zero_add]at h0 h1 h2 h3 h4 h5 h6;go_wp2_with fail;refine(HI.out j k' ch' HG.out wr A' _ c' ⟨⟨rfl,a7⟩,a6.out⟩).mono ?_;rintro e w1 ⟨⟨m1,rfl⟩,a1⟩;have a3:=hI ((a1.block w.heap.size (lt_of_block hb.out)).trans hb.out);have a2:=hB.trans (a1.mono a4);clear a1 h0 h1 h2 h3 h4 h5 h6 a5;go_wp2
    go_roundw
    case rel=>first|exact⟨j+1,_,by go_num,rfl,by omega,a3,a2⟩|((repeat apply Exists.intro);exact⟨⟨j+1,_,by go_num,rfl,by omega,a3,a2⟩,rfl⟩)
    case measure=>simp[intOf];omega
   ·obtain rfl:j=n:=by omega
    go_wp2;go_ret;exact⟨⟨_,rfl⟩,hB⟩
theorem M9:∀(f:Fo) (j:Nat) (k:Nd) (ch:Fo),f.get j=some (k,ch)->Al6 k ch
 | .node k0 ch0 nx,0,k,ch,hg=>by
  obtain⟨rfl,rfl⟩:k0=k/\ch0=ch:=by simpa[Fo.get]using hg
  exact Rc _ _ (M9 ch0)
 | .node k0 ch0 nx,j+1,k,ch,hg=>M9 nx j k ch (by simpa[Fo.get]using hg)
theorem Ag8 (k:Nd)(ch:Fo):Al6 k ch:=Rc k ch (M9 ch)
theorem Ag9 {w:World}{b o:Nat}{x:Co}(h:w.rangeAt b o x.cells):w.rangeAt b (o+1) (B6 x.l.left.1 x.a.Al x.l.left.2.len x.a.cl):=fun j v hv=>by
 have:=h (1+j) v (by
  have e:x.cells= .string x.l.name::(B6 x.l.left.1 x.a.Al x.l.left.2.len x.a.cl++(B6 x.l.right.1 x.a.Ar x.l.right.2.len x.a.cr++[.slice x.a.Ai x.l.ifs.length x.a.ci, .slice x.a.Ao x.l.outs.length x.a.co, .int .i64 x.l.mode])):=rfl;rw[e,Nat.add_comm,List.getElem?_cons_succ,List.getElem?_append_left (List.getElem?_eq_some_iff.1 hv).1];exact hv)
 rwa[show o+1+j=o+(1+j)by omega]
theorem Aej {w:World}{b o:Nat}{x:Co}(h:w.rangeAt b o x.cells):w.rangeAt b (o+8) (B6 x.l.right.1 x.a.Ar x.l.right.2.len x.a.cr):=fun j v hv=>by
 have:=h (8+j) v (by
  have e:x.cells=(.string x.l.name::B6 x.l.left.1 x.a.Al x.l.left.2.len x.a.cl)++(B6 x.l.right.1 x.a.Ar x.l.right.2.len x.a.cr++[.slice x.a.Ai x.l.ifs.length x.a.ci, .slice x.a.Ao x.l.outs.length x.a.co, .int .i64 x.l.mode]):=rfl;rw[e,List.getElem?_append_right (by simp[B6]),show 8+j-(Value.string x.l.name::B6 x.l.left.1 x.a.Al x.l.left.2.len x.a.cl).length=j by simp[B6],List.getElem?_append_left (List.getElem?_eq_some_iff.1 hv).1];exact hv)
 rwa[show o+8+j=o+(8+j)by omega]
theorem Hv {ops:Array Oper}{S:World->Prop}{op:Oper}{ac:Act}(hw:Region.wanted op (yielded ops ac.tmps)=true)(x:Operand)(ho:op.op= .load 27 x)
  (b o:Nat) (k:Nd) (A:Option Addr) (n c:Nat) (hx:ac.eval x= .pointer (some ⟨b,o,none⟩)) (hS:∀w,S w->w.rangeAt b o (B6 k A n c)):YieldsIf Tryz.prog ops S op (Em k A n c) ac:=
 .inl ⟨hw,fun w hw'=>by
  unfold execOp;simp only[ho,hx,Instr.loadAt,Instr.sureAddr,Sem.run_bind,Sem.run_pure,Result.andThen_ok,Zl (hS w hw')]⟩
theorem Ans (A:Option Addr)(n c:Nat)(xs:List Co)(w:World)(hx:B4 w A n c xs):Calls Tryz.prog 131 #[.slice A n c] w (Uv w):=by
 have hm:=hx.max;have HX:=hI hx;clear hx;go_enter Tryz.func131,Tryz.ntmps131;go_wp2
 go_loopw [3,4] (fun nv i wr=>∃(j:Nat) (m:Int),i= .int .i64 j/\nv= .int .i64 m/\j<=n/\Below w.heap.size w wr) (fun _ i _=>n-(intOf i).toNat)
 case atStart=>exact⟨0,0,rfl,rfl,Nat.zero_le _,Below.refl _ _⟩
 case round=>
  obtain⟨j,m,rfl,rfl,hj,hB⟩:=hrel;obtain⟨wo,rfl⟩:∃wo:World,wo=wr:=⟨_,rfl⟩;have d3:=hB.size;by_cases hlt:j<n
  ·by_cases hm60:j<=300
   ·obtain⟨s,hs⟩:=HX.out.get hlt;obtain⟨b,off,rfl,d9,d1⟩:=(HX.out.below hB rr).at_ hs;have d2:=(HX.out.below hB rr).2 s (List.mem_of_getElem? hs);have b7:=hI d1;clear d1;have b6:=hI d2;clear d2 hs;have hL:=Ag9 b7.out;have hR:=Aej b7.out;have d7:(j:Int)<(n:Int):=by omega
    go_wp2;refine La 10 (fun W'=>W'.rangeAt b (off+j*18+1) (B6 s.l.left.1 s.a.Al s.l.left.2.len s.a.cl)/\W'.rangeAt b (off+j*18+8) (B6 s.l.right.1 s.a.Ar s.l.right.2.len s.a.cr)) (by kernel_rfl) ⟨hL,hR⟩ (fun hHeld=> ?_)
    (refine' Ca (i:=0) 2 (v:=_) rfl (by kernel_rfl) (by kernel_rfl) (by kernel_rfl) (by kernel_rfl) (fun _ _ _ h=>h) (Or.inl ⟨by rfl,fun w' hSw=>by(try dsimp only at hSw);go_split_ands;go_simp;(try with_reducible rfl)⟩) (by assumption) ?_;(try simp only[Act.put,nY,nX]));(refine' Ca (i:=1) 2 (v:=_) rfl (by kernel_rfl) (by kernel_rfl) (by kernel_rfl) (by kernel_rfl) (fun _ _ _ h=>h) (Or.inl ⟨by rfl,fun w' hSw=>by(try dsimp only at hSw);go_split_ands;go_simp;(try with_reducible rfl)⟩) (by assumption) ?_;(try simp only[Act.put,nY,nX]));(refine' Ca (i:=2) 3 (v:=_) rfl (by kernel_rfl) (by kernel_rfl) (by kernel_rfl) (by kernel_rfl) (fun _ _ _ h=>h) (Or.inl ⟨by rfl,fun w' hSw=>by(try dsimp only at hSw);go_split_ands;go_simp;(try with_reducible rfl)⟩) (by assumption) ?_;(try simp only[Act.put,nY,nX]));(refine' Ca (i:=3) 4 (v:=_) rfl (by kernel_rfl) (by kernel_rfl) (by kernel_rfl) (by kernel_rfl) (fun _ _ _ h=>h) (Or.inl ⟨by rfl,fun w' hSw=>by(try dsimp only at hSw);go_split_ands;go_simp;(try with_reducible rfl)⟩) (by assumption) ?_;(try simp only[Act.put,nY,nX]))
    (refine' Ca (i:=4) 10 (v:=Em s.l.left.1 s.a.Al s.l.left.2.len s.a.cl) rfl (by kernel_rfl) (by kernel_rfl) (by kernel_rfl) (by kernel_rfl) (fun _ _ _ h=>h) (Hv (by rfl) (.tmp 21) rfl b (off+j*18+1) _ _ _ _ (by rfl) (fun _ h=>h.1)) (by assumption) ?_;(try simp only[Act.put,nY,nX]))
    (refine' Ca (i:=5) 7 (v:=_) rfl (by kernel_rfl) (by kernel_rfl) (by kernel_rfl) (by kernel_rfl) (fun _ _ _ h=>h) (Or.inl ⟨by rfl,fun w' hSw=>by(try dsimp only at hSw);go_split_ands;go_simp;(try with_reducible rfl)⟩) (by assumption) ?_;(try simp only[Act.put,nY,nX]));(refine' Ca (i:=6) 7 (v:=_) rfl (by kernel_rfl) (by kernel_rfl) (by kernel_rfl) (by kernel_rfl) (fun _ _ _ h=>h) (Or.inl ⟨by rfl,fun w' hSw=>by(try dsimp only at hSw);go_split_ands;go_simp;(try with_reducible rfl)⟩) (by assumption) ?_;(try simp only[Act.put,nY,nX]));(refine' Ca (i:=7) 8 (v:=_) rfl (by kernel_rfl) (by kernel_rfl) (by kernel_rfl) (by kernel_rfl) (fun _ _ _ h=>h) (Or.inl ⟨by rfl,fun w' hSw=>by(try dsimp only at hSw);go_split_ands;go_simp;(try with_reducible rfl)⟩) (by assumption) ?_;(try simp only[Act.put,nY,nX]));(refine' Ca (i:=8) 9 (v:=_) rfl (by kernel_rfl) (by kernel_rfl) (by kernel_rfl) (by kernel_rfl) (fun _ _ _ h=>h) (Or.inl ⟨by rfl,fun w' hSw=>by(try dsimp only at hSw);go_split_ands;go_simp;(try with_reducible rfl)⟩) (by assumption) ?_;(try simp only[Act.put,nY,nX]))
    (refine' Ca (i:=9) 10 (v:=Em s.l.right.1 s.a.Ar s.l.right.2.len s.a.cr) rfl (by kernel_rfl) (by kernel_rfl) (by kernel_rfl) (by kernel_rfl) (fun _ _ _ h=>h) (Hv (by rfl) (.tmp 26) rfl b (off+j*18+8) _ _ _ _ (by rfl) (fun _ h=>h.2)) (by assumption) ?_;(try simp only[Act.put,nY,nX]))
    clear hL hR;refine Wu (i:=10) (j:=12) (by kernel_rfl) rfl rfl (fun K' hK'=> ?_) (fun K' hK'=> ?_)
    case' refine_1=>
     rw[if_pos (by rfl)];go_simp;refine hK' _ _ ⟨.inl (by kernel_rfl),fun _=>Gh _ _ _ _ (by kernel_rfl) ?_⟩
     clear hK' K'
     (try simp only[Act.put,nY,nX])
     (refine' Gc (i:=12) (v:=_) rfl (by kernel_rfl) (by kernel_rfl) (by kernel_rfl) (fun _ _ _ h=>h) (Or.inl ⟨by rfl,fun w' hSw=>by go_simp;(try with_reducible rfl)⟩) ?_;(try simp only[Act.put,nY,nX]))
     (refine Aqq 11 rfl (fun K' hK'=> ?_);simp only[nY];go_simp)
     refine hK' _ _ ⟨.inl (by kernel_rfl),fun _=>Be (by kernel_rfl) ?_ _⟩
     clear hK' K' hHeld
    case' refine_2=>
     rw[if_pos (by rfl)];go_simp;refine hK' _ _ ⟨.inr hHeld,fun _=> ?_⟩
     clear hK' K'
     (try simp only[Act.put,nY,nX])
     (refine E5 (i:=10) (by kernel_rfl) rfl (fun K' hK'=> ?_);simp only[nY];go_simp)
     refine hK' _ _ ⟨.inl (by kernel_rfl),fun _=>Gh _ _ _ _ (by kernel_rfl) ?_⟩
     clear hK' K'
     (try simp only[Act.put,nY,nX])
     (refine Aqq 11 rfl (fun K' hK'=> ?_);simp only[nY];go_simp)
     refine hK' _ _ ⟨.inl (by kernel_rfl),fun _=>Be (by kernel_rfl) ?_ _⟩
     clear hK' K' hHeld
    all_goals
     have g0:(wo.alloc (.cells (B6 s.l.left.1 s.a.Al s.l.left.2.len s.a.cl++B6 s.l.right.1 s.a.Ar s.l.right.2.len s.a.cr).toArray 27)).drew.heap[wo.heap.size]? =some (.cells (B6 s.l.left.1 s.a.Al s.l.left.2.len s.a.cl++B6 s.l.right.1 s.a.Ar s.l.right.2.len s.a.cr).toArray 27 (0,0)):=Ak rfl;have gB:Below wo.heap.size wo (wo.alloc (.cells (B6 s.l.left.1 s.a.Al s.l.left.2.len s.a.cl++B6 s.l.right.1 s.a.Ar s.l.right.2.len s.a.cr).toArray 27)).drew:=bel;obtain⟨W0,a1⟩:∃W0,(wo.alloc (.cells (B6 s.l.left.1 s.a.Al s.l.left.2.len s.a.cl++B6 s.l.right.1 s.a.Ar s.l.right.2.len s.a.cr).toArray 27)).drew=W0:=⟨_,rfl⟩;rw[a1]at g0 gB;have a4:=a1;simp only[B6,List.cons_append,List.nil_append]at a1;rw[a1];clear a1 a4;have b8:=b6.out.1.below gB rr;have d0:=b6.out.2.1.below gB rr;have H1:=hI (And.intro b8 d0);clear b8 d0;have b2:=hB.trans (gB.mono d3);have b5:=hI b2;clear b2;have g0l:=lt_of_block g0;have G0:=hI g0;clear g0 gB;go_wp2;obtain⟨gb,a6⟩:∃gb,gb=wo.heap.size:=⟨_,rfl⟩;rw[←a6];rw[←a6]at G0 g0l;clear a6
     go_loopw [5,30] (fun nv i wr=>∃(q:Nat) (m:Int),i= .int .i64 q/\nv= .int .i64 m/\q<=2/\Below W0.heap.size W0 wr) (fun _ i _=>2-(intOf i).toNat)
     case atStart=>exact⟨0,0,rfl,rfl,by omega,Below.refl _ _⟩
     case round=>
      obtain⟨q,m1,rfl,rfl,hq,a0⟩:=hrel;have a7:=a0.size;have gi:=(a0.block _ g0l).trans G0.out;by_cases hq2:q<2
      ·have a5:∃(k:Nd) (A:Option Addr) (ch:Fo) (c:Nat),wr.rangeAt gb (q*7) (B6 k A ch.len c)/\FSl wr A ch.len c ch:=by
        rcases(by omega:q=0\/q=1)with rfl|rfl
        ·exact⟨_,_,_,_,World.rangeAt_of_block gi 0 7,H1.out.1.below a0 rr⟩
        ·exact⟨_,_,_,_,World.rangeAt_of_block gi 7 7,H1.out.2.below a0 rr⟩
       obtain⟨k,Ap,ch,cp,b3,b0⟩:=a5;have d6:=hI b3;clear b3;have b1:=hI b0;clear b0 gi;have d8:(q:Int)<2:=by omega
       go_wp2_with(refine Lo rfl (.tmp 32) rfl gb (q*7) k Ap ch.len cp (by first|rfl|simp) d6.out ?_);have k0:(wr.alloc (.cells #[.int .i64 k.kind, .int .u32 k.isp, .int .u32 k.ism, .bool k.neg, .int .i64 k.lo, .int .i64 k.hi, .slice Ap ch.len cp] 27)).heap[wr.heap.size]? =some (.cells #[.int .i64 k.kind, .int .u32 k.isp, .int .u32 k.ism, .bool k.neg, .int .i64 k.lo, .int .i64 k.hi, .slice Ap ch.len cp] 27 (0,0)):=Ak rfl;have kB:Below wr.heap.size wr (wr.alloc (.cells #[.int .i64 k.kind, .int .u32 k.isp, .int .u32 k.ism, .bool k.neg, .int .i64 k.lo, .int .i64 k.hi, .slice Ap ch.len cp] 27)):=bel;generalize(wr.alloc (.cells #[.int .i64 k.kind, .int .u32 k.isp, .int .u32 k.ism, .bool k.neg, .int .i64 k.lo, .int .i64 k.hi, .slice Ap ch.len cp] 27))=V at*;refine(Wn k ch V Ap ch.len cp (b1.out.below kB rr)).mono ?_;rintro e V1 ⟨⟨m2,rfl⟩,a3⟩;have k1:=(a3.block _ (lt_of_block k0)).trans k0;have a2:Below W0.heap.size W0 V1:=a0.trans ((kB.trans (a3.mono kB.size)).mono a7);have kB1:=kB.trans (a3.mono kB.size);clear a3 kB k0;by_cases hm2:m2<=40
       ·have d4:=hI kB1;have a9:=hI a2;have b9:V1.rangeAt wr.heap.size 0 (B6 k Ap ch.len cp):=World.rangeAt_of_block k1 0 7;have d5:=hI b9;clear kB1 a2 b9 k1;go_wp2_with(refine Lo rfl (.tmp 7) rfl wr.heap.size 0 k Ap ch.len cp rfl d5.out ?_);refine(Ag8 k ch V1 Ap ch.len cp (b1.out.below d4.out rr)).mono ?_;rintro e V2 ⟨⟨m3,rfl⟩,b4⟩;have a8:=a9.out.trans (b4.mono a9.out.size);clear b4;go_wp2
        go_roundw
        case rel=>first|exact⟨q+1,_,by go_num,rfl,by omega,a8⟩|((repeat apply Exists.intro);exact⟨⟨q+1,_,by go_num,rfl,by omega,a8⟩,rfl⟩)
        case measure=>simp[intOf];omega
       ·go_wp2
        go_roundw
        case rel=>first|exact⟨q+1,_,by go_num,rfl,by omega,a2⟩|((repeat apply Exists.intro);exact⟨⟨q+1,_,by go_num,rfl,by omega,a2⟩,rfl⟩)
        case measure=>simp[intOf];omega
      ·obtain rfl:q=2:=by omega
       go_wp2;exact⟨⟨j+1,_,by go_num,rfl,by omega,b5.out.trans (a0.mono b5.out.size)⟩,by simp[intOf];omega⟩
   ·go_wp2;go_ret;exact⟨⟨_,rfl⟩,hB⟩
  ·obtain rfl:j=n:=by omega
   go_wp2;go_ret;exact⟨⟨_,rfl⟩,hB⟩
end Go.Proofs.YtlgliddhideflaaGreatDoor
