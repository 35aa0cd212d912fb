/-
  ablautref06.Size returns; nothing old is written; parts of laws.
  few and good of ablautlaw38.
-/
import Derived.Test.YtaglfmlgbcmakaaGreatDoorXWk38
set_option linter.all false
set_option maxRecDepth 100000
set_option maxHeartbeats 4000000
namespace Go.Proofs.YtaglfmlgbcmakaaGreatDoor
open Go.RowKit Go.Shelf
def Aab (w:World)(e:Ending)(w':World):Prop:=(∃m:Int,e= .returned (.int .i64 m))/\Below w.heap.size w w'
def Ms (w:World)(e:Ending)(w':World):Prop:=e= .returned (.bool true)/\Below w.heap.size w w'
def Aac (k:Nd)(ch:Fo):Prop:=∀(w:World) (A:Option Addr) (n c:Nat) (m:Int),FSl w A n c ch->Calls Tryz.prog 115 #[Gn k A n c, .int .i64 m] w (Aab w)
theorem Rp (k:Nd)(ch:Fo)(ih:∀j k' ch',ch.get j=some (k',ch')->Aac k' ch'):Aac k ch:=by
 intro w A n c m0 hs;have hn:n<=9223372036854775807:=by have h1:=hs.1.2.1;have h2:=hs.1.2.2.1;unfold maxLen at h2;omega
 have HI:=hI ih;clear ih;have HS:=hI hs;clear hs;obtain⟨kind,isp,ism,neg,lo,hi⟩:=k;go_enter Tryz.func115,Tryz.ntmps115;go_wp2
 go_loopw [5,6] (fun nv i wr=>∃(j:Nat) (m:Int),i= .int .i64 j/\nv= .int .i64 m/\j<=n/\Hid (wr.heap[w.heap.size]? =some (.cells #[.int .i64 kind, .int .u32 isp, .int .u32 ism, .bool neg, .int .i64 lo, .int .i64 hi, .slice A n c] 52 (0,0)))/\Below w.heap.size w wr) (fun _ i _=>n-(intOf i).toNat)
 case atStart=>exact⟨0,_,rfl,rfl,Nat.zero_le _,hpt,bel⟩
 case round=>
  obtain⟨j,m,rfl,rfl,hj,hb,hB⟩:=hrel;have a5:=hB.size;have a4:=Ad (j:=6) hb.out rfl;by_cases hlt:j<n
  ·by_cases hm:m<=40
   ·obtain⟨⟨k',ch'⟩,hg⟩:=ch.get_lt j (by have:=HS.out.1.1;omega);obtain⟨b,off,A',n',c',rfl,a8,⟨h0,h1,h2,h3,h4,h5,h6⟩,⟨rfl,a6⟩,a0,_⟩:=(HS.out.below hB rr).2.at_ ch _ 0 j k' ch' hg;have HG:=hI hg;clear hg;have a7:=hI a0;clear a0;simp only[Nat.zero_add]at h0 h1 h2 h3 h4 h5 h6;go_wp2_with fail;refine(HI.out j k' ch' HG.out wr A' _ c' m ⟨⟨rfl,a6⟩,a7.out⟩).mono ?_;rintro e w1 ⟨⟨m1,rfl⟩,a1⟩;have a2:=hI ((a1.block w.heap.size (lt_of_block hb.out)).trans hb.out);have a3:=hB.trans (a1.mono a5);clear a1 h0 h1 h2 h3 h4 h5 h6 a4;go_wp2
    go_roundw
    case rel=>exact⟨j+1,m1,by go_num,rfl,by omega,a2,a3⟩
    case measure=>simp[intOf];omega
   ·go_wp2;go_ret;exact⟨⟨_,rfl⟩,hB⟩
  ·obtain rfl:j=n:=by omega
   go_wp2;go_ret;exact⟨⟨_,rfl⟩,hB⟩
theorem Nl:∀(f:Fo) (j:Nat) (k:Nd) (ch:Fo),f.get j=some (k,ch)->Aac k ch
 | .node k0 ch0 nx,0,k,ch,hg=>by
  obtain⟨rfl,rfl⟩:k0=k/\ch0=ch:=by simpa[Fo.get]using hg
  exact Rp _ _ (Nl ch0)
 | .node k0 ch0 nx,j+1,k,ch,hg=>Nl nx j k ch (by simpa[Fo.get]using hg)
theorem Agd (k:Nd)(ch:Fo):Aac k ch:=Rp k ch (Nl ch)
theorem Aeh (k:Nd)(ch:Fo)(w:World)(A:Option Addr)(n c:Nat)(hs:FSl w A n c ch):Calls Tryz.prog 72 #[Gn k A n c] w (Aab w):=by
 obtain⟨kind,isp,ism,neg,lo,hi⟩:=k;have HS:=hI hs;clear hs;go_enter Tryz.func72,Tryz.ntmps72;go_wp2_with fail;refine(Agd ⟨kind,isp,ism,neg,lo,hi⟩ ch _ A n c 0 (HS.out.below (B:=w.heap.size) bel rr)).mono ?_;rintro e w1 ⟨⟨m1,rfl⟩,a0⟩;go_wp2;go_ret;exact⟨⟨_,rfl⟩,Below.step (by assumption) (by simp) bel⟩
theorem Abf {w:World}{b o:Nat}{x:Bn}(h:w.rangeAt b o x.cells):w.rangeAt b (o+1) (Ce x.l.left.1 x.a.Al x.l.left.2.len x.a.cl):=fun j v hv=>by
 have:=h (1+j) v (by
  have e:x.cells= .string x.l.name::(Ce x.l.left.1 x.a.Al x.l.left.2.len x.a.cl++(Ce x.l.right.1 x.a.Ar x.l.right.2.len x.a.cr++[.slice x.a.Ai x.l.ifs.length x.a.ci, .slice x.a.Ao x.l.outs.length x.a.co, .int .i64 x.l.mode])):=rfl;rw[e,Nat.add_comm,List.getElem?_cons_succ,List.getElem?_append_left (List.getElem?_eq_some_iff.1 hv).1];exact hv)
 rwa[show o+1+j=o+(1+j)by omega]
theorem Zg {w:World}{b o:Nat}{x:Bn}(h:w.rangeAt b o x.cells):w.rangeAt b (o+8) (Ce x.l.right.1 x.a.Ar x.l.right.2.len x.a.cr):=fun j v hv=>by
 have:=h (8+j) v (by
  have e:x.cells=(.string x.l.name::Ce x.l.left.1 x.a.Al x.l.left.2.len x.a.cl)++(Ce x.l.right.1 x.a.Ar x.l.right.2.len x.a.cr++[.slice x.a.Ai x.l.ifs.length x.a.ci, .slice x.a.Ao x.l.outs.length x.a.co, .int .i64 x.l.mode]):=rfl;rw[e,List.getElem?_append_right (by simp[Ce]),show 8+j-(Value.string x.l.name::Ce x.l.left.1 x.a.Al x.l.left.2.len x.a.cl).length=j by simp[Ce],List.getElem?_append_left (List.getElem?_eq_some_iff.1 hv).1];exact hv)
 rwa[show o+8+j=o+(8+j)by omega]
theorem Rq {ops:Array Oper}{S:World->Prop}{op:Oper}{ac:Act}(hw:Region.wanted op (yielded ops ac.tmps)=true)(x:Operand)(ho:op.op= .load 52 x)
  (b o:Nat) (k:Nd) (A:Option Addr) (n c:Nat) (hx:ac.eval x= .pointer (some ⟨b,o,none⟩)) (hS:∀w,S w->w.rangeAt b o (Ce k A n c)):YieldsIf Tryz.prog ops S op (Gn k A n c) ac:=
 .inl ⟨hw,fun w hw'=>by
  unfold execOp;simp only[ho,hx,Instr.loadAt,Instr.sureAddr,Sem.run_bind,Sem.run_pure,Result.andThen_ok,Ut (hS w hw')]⟩
theorem G9 {w w':World}{b o:Nat}{cs:List Value}(h:w.rangeAt b o cs){B:Nat}(hb:Below B w w')(hB:b<B):w'.rangeAt b o cs:=fun j v hv=>(hb.cell (p:=⟨b,_,none⟩) hB).trans (h j v hv)
structure EdR where
 An:Option Addr
 nn:Nat
 cn:Nat
 names:List ByteArray
 Ar:Option Addr
 nr:Nat
 cr:Nat
 roads:List D2
 Al:Option Addr
 nl:Nat
 cl:Nat
 laws:List Bn
 Av:Option Addr
 nv:Nat
 cv:Nat
 waves:List Cr
 Aw:Option Addr
 nw:Nat
 cw:Nat
 word:List Snd
 a:Int
 i:Int
 j:Int
 now:Int
def EdR.cells (x:EdR):List Value:=[.slice x.An x.nn x.cn, .slice x.Ar x.nr x.cr, .slice x.Al x.nl x.cl, .slice x.Av x.nv x.cv, .slice x.Aw x.nw x.cw, .int .i64 x.a, .int .i64 x.i, .int .i64 x.j, .int .i64 x.now]
abbrev edV (x:EdR):Value:= .agg #[.slice x.An x.nn x.cn, .slice x.Ar x.nr x.cr, .slice x.Al x.nl x.cl, .slice x.Av x.nv x.cv, .slice x.Aw x.nw x.cw, .int .i64 x.a, .int .i64 x.i, .int .i64 x.j, .int .i64 x.now]
structure M5 (w:World)(x:EdR):Prop where
 names:Gk w x.An x.nn x.cn x.names
 roads:Dl w x.Ar x.nr x.cr x.roads
 laws:B2 w x.Al x.nl x.cl x.laws
 waves:Ct w x.Av x.nv x.cv x.waves
 word:Ah w x.Aw x.nw x.cw x.word
 now: -9223372036854775808<=x.now/\x.now<=9223372036854775807
 nsz:∀s∈x.names,s.size<=9223372036854775807
theorem M5.below {w w':World}{x:EdR}(h:M5 w x)(hb:Below w.heap.size w w'):M5 w' x:=
 ⟨h.names.below hb rr,h.roads.below hb rr,h.laws.below hb rr,h.waves.below hb,h.word.below hb rr,h.now,h.nsz⟩
def Agz (x:EdR):Prop:=(x.nn<=12\/128<x.nn)/\(x.nr<=40\/512<x.nr)/\(x.nv<=6\/64<x.nv)/\x.nw<=100/\(x.nl<=6\/64<x.nl)
end Go.Proofs.YtaglfmlgbcmakaaGreatDoor
