/-
  ablautref06.Size returns; nothing old is written; parts of laws.
  A map that bears the names that have been seen, in plain words.
  slices.Clone of strings and of roads; (*points.Map).Roads.
  slices.IndexFunc and slices.ContainsFunc over records of type points.end.
  A row of records, as the library's sort sees it.
  The closures of points.New; slices.SortFunc over the ends of roads.
  The roads at each point, under way (points.New).
  The roads at each point, while they are sorted (points.New).
  A region whose operations come in any order, many of them laying memory: what each operation's value is, said of each alone, whatever has come before.
-/
import Derived.Maps.Own
import Derived.Lib.OwnBridge
import Derived.Test.YtaglfmlgbcmakaaGreatDoorH04
set_option linter.all false
set_option maxRecDepth 100000
set_option maxHeartbeats 4000000
namespace Go.Proofs.YtaglfmlgbcmakaaGreatDoor
open Go.RowKit Go.Shelf
def Ac7 (w:World)(e:Ending)(w':World):Prop:=(∃m:Int,e= .returned (.int .i64 m))/\Below w.heap.size w w'
def Ak2 (w:World)(e:Ending)(w':World):Prop:=e= .returned (.bool true)/\Below w.heap.size w w'
def Ac8 (k:Nd)(ch:Fo):Prop:=∀(w:World) (A:Option Addr) (n c:Nat) (m:Int),FSl w A n c ch->Calls Tryz.prog 115 #[Fc k A n c, .int .i64 m] w (Ac7 w)
theorem Tq (k:Nd)(ch:Fo)(ih:∀j k' ch',ch.get j=some (k',ch')->Ac8 k' ch'):Ac8 k ch:=by
 intro w A n c m0 hs;have hn:n<=9223372036854775807:=by have h1:=hs.1.2.1;have h2:=hs.1.2.2.1;unfold maxLen at h2;omega
 have HI:=hI ih;clear ih;have HS:=hI hs;clear hs;obtain⟨kind,isp,ism,neg,lo,hi⟩:=k;go_enter Tryz.func115,Tryz.ntmps115;go_wp2
 go_loopw [5,6] (fun nv i wr=>∃(j:Nat) (m:Int),i= .int .i64 j/\nv= .int .i64 m/\j<=n/\Hid (wr.heap[w.heap.size]? =some (.cells #[.int .i64 kind, .int .u32 isp, .int .u32 ism, .bool neg, .int .i64 lo, .int .i64 hi, .slice A n c] 52 (0,0)))/\Below w.heap.size w wr) (fun _ i _=>n-(intOf i).toNat)
 case atStart=>exact⟨0,_,rfl,rfl,Nat.zero_le _,hpt,bel⟩
 case round=>
  obtain⟨j,m,rfl,rfl,hj,hb,hB⟩:=hrel;have a7:=hB.size;have a5:=Ad (j:=6) hb.out rfl;by_cases hlt:j<n
  ·by_cases hm:m<=40
   ·obtain⟨⟨k',ch'⟩,hg⟩:=ch.get_lt j (by have:=HS.out.1.1;omega);obtain⟨b,off,A',n',c',rfl,a8,⟨h0,h1,h2,h3,h4,h5,h6⟩,⟨rfl,a6⟩,a0,_⟩:=(HS.out.below hB rr).2.at_ ch _ 0 j k' ch' hg;have HG:=hI hg;clear hg;have a2:=hI a0;clear a0;simp only[Nat.zero_add]at h0 h1 h2 h3 h4 h5 h6;go_wp2_with fail;refine(HI.out j k' ch' HG.out wr A' _ c' m ⟨⟨rfl,a6⟩,a2.out⟩).mono ?_;rintro e w1 ⟨⟨m1,rfl⟩,a1⟩;have a4:=hI ((a1.block w.heap.size (lt_of_block hb.out)).trans hb.out);have a3:=hB.trans (a1.mono a7);clear a1 h0 h1 h2 h3 h4 h5 h6 a5;go_wp2
    go_roundw
    case rel=>exact⟨j+1,m1,by go_num,rfl,by omega,a4,a3⟩
    case measure=>simp[intOf];omega
   ·go_wp2;go_ret;exact⟨⟨_,rfl⟩,hB⟩
  ·obtain rfl:j=n:=by omega
   go_wp2;go_ret;exact⟨⟨_,rfl⟩,hB⟩
theorem Qx:∀(f:Fo) (j:Nat) (k:Nd) (ch:Fo),f.get j=some (k,ch)->Ac8 k ch
 | .node k0 ch0 nx,0,k,ch,hg=>by
  obtain⟨rfl,rfl⟩:k0=k/\ch0=ch:=by simpa[Fo.get]using hg
  exact Tq _ _ (Qx ch0)
 | .node k0 ch0 nx,j+1,k,ch,hg=>Qx nx j k ch (by simpa[Fo.get]using hg)
theorem Ak3 (k:Nd)(ch:Fo):Ac8 k ch:=Tq k ch (Qx ch)
theorem Aiy (k:Nd)(ch:Fo)(w:World)(A:Option Addr)(n c:Nat)(hs:FSl w A n c ch):Calls Tryz.prog 72 #[Fc k A n c] w (Ac7 w):=by
 obtain⟨kind,isp,ism,neg,lo,hi⟩:=k;have HS:=hI hs;clear hs;go_enter Tryz.func72,Tryz.ntmps72;go_wp2_with fail;refine(Ak3 ⟨kind,isp,ism,neg,lo,hi⟩ ch _ A n c 0 (HS.out.below (B:=w.heap.size) bel rr)).mono ?_;rintro e w1 ⟨⟨m1,rfl⟩,a0⟩;go_wp2;go_ret;exact⟨⟨_,rfl⟩,Below.step (by assumption) (by simp) bel⟩
theorem Ae0 {w:World}{b o:Nat}{x:Cb}(h:w.rangeAt b o x.cells):w.rangeAt b (o+1) (Cx x.l.left.1 x.a.Al x.l.left.2.len x.a.cl):=fun j v hv=>by
 have:=h (1+j) v (by
  have e:x.cells= .string x.l.name::(Cx x.l.left.1 x.a.Al x.l.left.2.len x.a.cl++(Cx x.l.right.1 x.a.Ar x.l.right.2.len x.a.cr++[.slice x.a.Ai x.l.ifs.length x.a.ci, .slice x.a.Ao x.l.outs.length x.a.co, .int .i64 x.l.mode])):=rfl;rw[e,Nat.add_comm,List.getElem?_cons_succ,List.getElem?_append_left (List.getElem?_eq_some_iff.1 hv).1];exact hv)
 rwa[show o+1+j=o+(1+j)by omega]
theorem Acg {w:World}{b o:Nat}{x:Cb}(h:w.rangeAt b o x.cells):w.rangeAt b (o+8) (Cx x.l.right.1 x.a.Ar x.l.right.2.len x.a.cr):=fun j v hv=>by
 have:=h (8+j) v (by
  have e:x.cells=(.string x.l.name::Cx x.l.left.1 x.a.Al x.l.left.2.len x.a.cl)++(Cx x.l.right.1 x.a.Ar x.l.right.2.len x.a.cr++[.slice x.a.Ai x.l.ifs.length x.a.ci, .slice x.a.Ao x.l.outs.length x.a.co, .int .i64 x.l.mode]):=rfl;rw[e,List.getElem?_append_right (by simp[Cx]),show 8+j-(Value.string x.l.name::Cx x.l.left.1 x.a.Al x.l.left.2.len x.a.cl).length=j by simp[Cx],List.getElem?_append_left (List.getElem?_eq_some_iff.1 hv).1];exact hv)
 rwa[show o+8+j=o+(8+j)by omega]
theorem Tr {ops:Array Oper}{S:World->Prop}{op:Oper}{ac:Act}(hw:Region.wanted op (yielded ops ac.tmps)=true)(x:Operand)(ho:op.op= .load 52 x)
  (b o:Nat) (k:Nd) (A:Option Addr) (n c:Nat) (hx:ac.eval x= .pointer (some ⟨b,o,none⟩)) (hS:∀w,S w->w.rangeAt b o (Cx k A n c)):YieldsIf Tryz.prog ops S op (Fc k A n c) ac:=
 .inl ⟨hw,fun w hw'=>by
  unfold execOp;simp only[ho,hx,Instr.loadAt,Instr.sureAddr,Sem.run_bind,Sem.run_pure,Result.andThen_ok,Ws (hS w hw')]⟩
theorem Rv {w w':World}{b o:Nat}{cs:List Value}(h:w.rangeAt b o cs){B:Nat}(hb:Below B w w')(hB:b<B):w'.rangeAt b o cs:=fun j v hv=>(hb.cell (p:=⟨b,_,none⟩) hB).trans (h j v hv)
end Go.Proofs.YtaglfmlgbcmakaaGreatDoor
namespace Go.Proofs.YtaglfmlgbcmakaaGreatDoor
open Go.RowKit
def Aa8 (s:ByteArray):Lit:= .string s.data.toList
theorem Agx {s t:ByteArray}(h:Aa8 s=Aa8 t):s=t:=by
 injection h with h
 cases s;cases t;congr 1;exact Array.toList_inj.1 h
def Nn (D:DataW Unit)(done:List ByteArray):Prop:=Go.Maps.IsMap D∧∀s,Go.Maps.has D (Aa8 s)=done.any fun x=>decide (x=s)
theorem Adw:Nn (.map []) []:=⟨Go.Maps.isMap_empty,fun _=>rfl⟩
theorem Agy {D:DataW Unit}{done:List ByteArray}{s:ByteArray}{v:DataW Unit}(h:Nn D done):Nn (D.put (Aa8 s) v) (done++[s]):=by
 obtain⟨h1,h2⟩:=h;refine⟨h1.put _ _,fun t=> ?_⟩
 rw[List.any_append];by_cases e:t=s
 ·subst e;rw[Go.Maps.has_put_same h1 (show WideAt.IsKeyLit (Aa8 t)from trivial)];simp
 ·rw[Go.Maps.has_put_other (fun e'=>e (Agx e')),h2 t];have e2:¬s=t:=fun e'=>e e'.symm
  simp[e2]
end Go.Proofs.YtaglfmlgbcmakaaGreatDoor
namespace Go.Proofs.YtaglfmlgbcmakaaGreatDoor
open Go.RowKit Go.Shelf
theorem Ag1 (A:Option Addr)(n c:Nat)(w:World):(binOp .eql 22 (.slice A n c) (.slice none 0 0)).run Tryz.prog w= .ok (.bool A.isNone) w:=
 Lib.run_eql_slice_nil w _ _ A n c 0 0 Tryz.underlying22
theorem Ag2 (A:Option Addr)(n c:Nat)(w:World):(binOp .eql 23 (.slice A n c) (.slice none 0 0)).run Tryz.prog w= .ok (.bool A.isNone) w:=
 Lib.run_eql_slice_nil w _ _ A n c 0 0 Tryz.underlying23
attribute [local go_sem] Ag1 Ag2
theorem Ag3:(Tryz.prog.info? 9).map (fun i=>(i.zero,i.size,i.bytes))=some (some (.string ⟨#[]⟩),1,16):=by kernel_rfl
theorem Ady:(Tryz.prog.info? 64).map (fun i=>(i.zero,i.size,i.bytes))=some (some (.agg #[.int .i64 0, .int .i64 0, .int .i64 0]),3,24):=by kernel_rfl
theorem Rm {ops:Array Oper}{rest:List Oper}{o:Oper}{a:Act}{w:World}{Q:Exit->Act->World->Prop}(hgd:o.guard=none)(s x:Operand)
  (ho:o.op= .call {callee:= .builtin .append,args:= #[s,x],argTypes:= #[22,22]})
  (base:Nat) (v:Value) (n:Nat) (xs:List Value) (hs:a.eval s=v) (hown:w.ownsRow base 9 1 v n xs)
  (A:Option Addr) (m c:Nat) (ss:List ByteArray) (hx:a.eval x= .slice A m c) (hr:Hi w A m c ss) (hl:n+m<=4096) (hbase:base<=w.heap.size)
  (h:∀v' w',w'.ownsRow base 9 1 v' (n+m) (xs++ss.map Value.string)->w.grownBy w' v.ownBlock->wpList Tryz.prog ops Q rest (a.put o.dst v') w'):wpList Tryz.prog ops Q (o::rest) a w:=by
 obtain⟨i0,hi,a1,a2,a0⟩:=info_parts Ag3
 exact E1 w hgd s x 22 ho base 9 i0 _ 1 16 Tryz.underlying22 hi a1 a2 a0 rfl (by decide) v n _ hs hown A m c _ hx hr
  (by intro u hu;obtain⟨s,_,rfl⟩:=List.mem_map.1 hu;rfl) (by unfold maxLen;omega) (by omega) hbase fun v' w' h1 h2 _=>h v' w' h1 h2
theorem Pc {ops:Array Oper}{rest:List Oper}{o:Oper}{a:Act}{w:World}{Q:Exit->Act->World->Prop}(hgd:o.guard=none)(s x:Operand)
  (ho:o.op= .call {callee:= .builtin .append,args:= #[s,x],argTypes:= #[23,23]})
  (base:Nat) (v:Value) (n:Nat) (xs:List Value) (hs:a.eval s=v) (hown:w.ownsRow base 64 3 v n xs)
  (A:Option Addr) (m c:Nat) (ss:List Ep) (hx:a.eval x= .slice A m c) (hr:D7 w A m c ss) (hl:n+m<=4096) (hbase:base<=w.heap.size)
  (h:∀v' w',w'.ownsRow base 64 3 v' (n+m) (xs++ss.flatMap Ma)->w.grownBy w' v.ownBlock->wpList Tryz.prog ops Q rest (a.put o.dst v') w'):wpList Tryz.prog ops Q (o::rest) a w:=by
 obtain⟨i0,hi,a1,a2,a0⟩:=info_parts Ady
 exact E1 w hgd s x 23 ho base 64 i0 _ 3 24 Tryz.underlying23 hi a1 a2 a0 rfl (by decide) v n _ hs hown A m c _ hx hr.1
  (by intro u hu;obtain⟨s,_,hs⟩:=List.mem_flatMap.1 hu;simp only[Ma,List.mem_cons,List.not_mem_nil,or_false]at hs;rcases hs with rfl|rfl|rfl<;>rfl) (by unfold maxLen;omega) (by omega) hbase fun v' w' h1 h2 _=>h v' w' h1 h2
theorem Aa9 (A:Option Addr)(n c:Nat)(ss:List ByteArray)(w:World)(hx:Hi w A n c ss)(hb:n<=4096):
  Calls Tryz.prog 50 #[.slice A n c] w fun e w'=>∃v,e= .returned v/\w'.ownsRow w.heap.size 9 1 v n (ss.map Value.string)/\Below w.heap.size w w':=by
 have HX:=hI hx;clear hx
 cases A with
 |none=>
  have a1:c=0:=HX.out.2.2.2.1 rfl;have a2:n=0:=by have:=HX.out.2.1;omega
  subst a1 a2;go_enter Tryz.func50,Tryz.ntmps50;go_wp2;go_ret;obtain rfl:ss=[]:=List.eq_nil_of_length_eq_zero HX.out.len;exact⟨_,rfl,World.ownsRow_nil _ _ _ _,Below.refl _ _⟩
 |some ad=>
  go_enter Tryz.func50,Tryz.ntmps50;go_wp2_with(at_builtin;refine Rm rfl (.tmp 5) (.tmp 6) rfl w.heap.size _ 0 [] rfl (World.ownsRow_made w #[] 0 rr (by simp[maxLen]) rfl) (some ad) n c ss rfl (HX.out.below (B:=w.heap.size) bel rr) (by omega) (by simp) ?_;intro v1 w1 a0 a3);go_ret;exact⟨v1,rfl,(by simpa using a0),E3 (B:=w.heap.size) bel (World.ownsRow_made (e:=9) (size:=1) w #[] 0 rr (by simp[maxLen]) rfl) a3 rr (by simp)⟩
theorem Yy (A:Option Addr)(n c:Nat)(ss:List Ep)(w:World)(hx:D7 w A n c ss)(hb:n<=4000):
  Calls Tryz.prog 51 #[.slice A n c] w fun e w'=>∃v,e= .returned v/\w'.ownsRow w.heap.size 64 3 v n (ss.flatMap Ma)/\Below w.heap.size w w':=by
 have HX:=hI hx;clear hx
 cases A with
 |none=>
  have a1:c=0:=HX.out.1.2.2.2.1 rfl;have a2:n=0:=by have:=HX.out.1.2.1;omega
  subst a1 a2;go_enter Tryz.func51,Tryz.ntmps51;go_wp2;go_ret;obtain rfl:ss=[]:=List.eq_nil_of_length_eq_zero HX.out.2;exact⟨_,rfl,World.ownsRow_nil _ _ _ _,Below.refl _ _⟩
 |some ad=>
  go_enter Tryz.func51,Tryz.ntmps51;go_wp2_with(at_builtin;refine Pc rfl (.tmp 5) (.tmp 6) rfl w.heap.size _ 0 [] rfl (World.ownsRow_made w #[] 0 rr (by simp[maxLen]) rfl) (some ad) n c ss rfl (HX.out.below (B:=w.heap.size) bel rr) (by omega) (by simp) ?_;intro v1 w1 a0 a3);go_ret;exact⟨v1,rfl,(by simpa using a0),E3 (B:=w.heap.size) bel (World.ownsRow_made (e:=64) (size:=3) w #[] 0 rr (by simp[maxLen]) rfl) a3 rr (by simp)⟩
end Go.Proofs.YtaglfmlgbcmakaaGreatDoor
namespace Go.Proofs.YtaglfmlgbcmakaaGreatDoor
open Go.RowKit Go.Shelf
theorem Age (A:Option Addr)(n c:Nat)(xs:List (Nat×Nat))(F:Nat)(lb:Array Value)(p:(Nat×Nat)->Bool)(w:World)(hx:Eb Lz 2 w A n c xs)(hE:Enters Tryz.prog F)
  (hcall:∀W,Below w.heap.size w W→∀s∈xs,Calls Tryz.prog F (#[.agg #[.int .i64 (s.1:Int), .int .i64 (s.2:Int)]]++lb) W fun e W'=>e= .returned (.bool (p s))/\Below W.heap.size W W'):
  Calls Tryz.prog 98 #[.slice A n c, .func (.func F) #[] lb] w fun e w'=>e= .returned (.int .i64 (Hx p xs))/\Below w.heap.size w w':=by
 have hm:n<=9223372036854775807:=by have h1:=hx.1.2.1;have h2:=hx.1.2.2.1;unfold maxLen at h2;omega
 have HX:=hI hx;clear hx;have HC:=hI hcall;clear hcall;unfold Enters at hE;go_enter Tryz.func98,Tryz.ntmps98;go_wp2
 go_loopw [5,8] (fun _ i wr=>∃k:Nat,k<=n/\i= .int .i64 k/\Hid ((xs.take k).any p=false)/\Below w.heap.size w wr) (fun _ i _=>n-(intOf i).toNat)
 case atStart=>exact⟨0,Nat.zero_le _,rfl,by simp[Hid],Below.refl _ _⟩
 case round=>
  obtain⟨k,hk,rfl,HA,hB⟩:=hrel;by_cases hlt:k<n
  ·obtain⟨s,a2⟩:∃s,xs[k]? =some s:=⟨xs[k]'(by rw[HX.out.2];exact hlt),List.getElem?_eq_getElem _⟩;obtain⟨b,off,rfl,hb,a4⟩:=(HX.out.below hB rr).at_ Mb (by decide) a2;have a6:=a4 0 _ rfl;have a7:=a4 1 _ rfl;simp only[Nat.add_zero,←Nat.add_assoc]at a6 a7;clear a4;have a0:=hI (HC.out wr hB s (List.mem_of_getElem? a2));have HK:=hI a2;clear a2;by_cases hp:p s=true
   ·have hr:=Jm p xs k s HK.out HA.out hp;have HR:=hI hr;clear hr;have HP:=hI hp;clear hp;go_wp2_with fail;refine a0.out.mono ?_;rintro e w1 ⟨rfl,a1⟩;rw[HP.out];have a3:=hB.trans (a1.mono hB.size);clear a1;go_wp2;go_ret;exact⟨by rw[HR.out];rfl,a3⟩
   ·have a5:p s=false:=by simpa using hp
    have HP:=hI a5;clear hp a5;go_wp2_with fail;refine a0.out.mono ?_;rintro e w1 ⟨rfl,a1⟩;rw[HP.out];have a3:=hB.trans (a1.mono hB.size);clear a1;go_wp2
    go_roundw
    case rel=>exact⟨k+1,by omega,by go_num,by rw[Bd xs k _ HK.out,List.any_append,HA.out];simp[HP.out,Hid],a3⟩
    case measure=>simp[intOf];omega
  ·obtain rfl:k=n:=by omega
   have hr:Hx p xs= -1:=by
    have:=HA.out
    rw[List.take_of_length_le (by rw[HX.out.2];exact rr)]at this;exact Jl p xs this
   have HR:=hI hr;clear hr;go_wp2;go_ret;exact⟨by rw[HR.out];rfl,hB⟩
theorem Agf (A:Option Addr)(n c:Nat)(xs:List (Nat×Nat))(F:Nat)(lb:Array Value)(p:(Nat×Nat)->Bool)(w:World)(hx:Eb Lz 2 w A n c xs)(hE:Enters Tryz.prog F)
  (hcall:∀W,Below w.heap.size w W→∀s∈xs,Calls Tryz.prog F (#[.agg #[.int .i64 (s.1:Int), .int .i64 (s.2:Int)]]++lb) W fun e W'=>e= .returned (.bool (p s))/\Below W.heap.size W W'):
  Calls Tryz.prog 53 #[.slice A n c, .func (.func F) #[] lb] w fun e w'=>e= .returned (.bool (xs.any p))/\Below w.heap.size w w':=by
 have a0:=Age A n c xs F lb p w hx hE hcall;have H:=hI (L8 p xs);clear hx hcall hE;go_enter Tryz.func53,Tryz.ntmps53;go_wp2_with(go_at_call 98;refine a0.mono ?_;rintro e w1 ⟨rfl,a1⟩);go_ret;refine⟨?_,a1⟩;show Ending.returned (.bool (decide (0<=Hx p xs)))=_;rw[H.out]
end Go.Proofs.YtaglfmlgbcmakaaGreatDoor
namespace Go.Proofs.YtaglfmlgbcmakaaGreatDoor
open Go.RowKit Go.Shelf Go.Sort
-- a row of records, as the sort sees it
theorem Z4 {α:Type} [Inhabited α](enc:α->List Value)(k:Nat)(hk:∀x,(enc x).length=k)(h0:0<k)(l:List α):flatK enc k l.toArray=(l.flatMap enc).toArray:=by
 apply ext_get!
 ·simp[Ml enc k hk]
 ·intro t ht;have a0:t<l.length*k:=by simpa using ht
  rw[get_flatK _ _ _ _ (by simpa using a0)];have hq:t/k<l.length:=Nat.div_lt_of_lt_mul (by rw[Nat.mul_comm];exact a0);have hm:t%k<k:=Nat.mod_lt _ h0;have hx:l[t/k]? =some l[t/k]:=List.getElem?_eq_getElem hq;have hl:t%k<(enc l[t/k]).length:=by rw[hk];exact hm
  have h3:=Xj enc k hk l (t/k) _ hx (t%k) _ (List.getElem?_eq_getElem hl);rw[show t/k*k+t%k=t by rw[Nat.mul_comm];exact Nat.div_add_mod t k]at h3;have e1:(l.toArray)[t/k]! =l[t/k]:=by simp[getElem!_pos,hq]
  rw[e1]
  have e2:((l.flatMap enc).toArray)[t]! =(enc l[t/k])[t%k]:=by
   have a1:=(List.getElem?_eq_some_iff.1 h3).1;rw[getElem!_pos ((l.flatMap enc).toArray) t (by simpa using a1)];simpa using(List.getElem?_eq_some_iff.1 h3).2
  rw[e2,getElem!_pos (enc l[t/k]) (t%k) hl]
theorem Ae1 {α:Type} [Inhabited α]{enc:α->List Value}{k:Nat}(hk:∀x,(enc x).length=k)(h0:0<k){w:World}{base g n c:Nat}{e:TypeId}{l:List α}(h:w.ownsRow base e k (.slice (some ⟨g,0,none⟩) n c) n (l.flatMap enc)):
  HoldsK enc k w g 0 l.toArray:=by
 unfold HoldsK Holds;rw[Z4 enc k hk h0];intro j hj;obtain⟨h1,⟨e0,_⟩|⟨g',cap',cur,e0,hb,hg,hn,hm,hs,ht⟩⟩:=h
 ·cases e0
 injection e0 with e1 _ e3
 injection e1 with e1
 injection e1 with e1
 subst e1;have a0:j<(l.flatMap enc).length:=by simpa using hj
 have a1:j<cur.size:=by rw[hs];rw[h1]at a0;exact Nat.lt_of_lt_of_le a0 (Nat.mul_le_mul_right k hn)
 have e5:cur[j]? =some (l.flatMap enc)[j]:=by
  have h5:=congrArg (fun x:List Value=>x[j]?) ht;simp only[List.getElem?_take]at h5;rw[if_pos (by rw[←h1];exact a0),Array.getElem?_toList,List.getElem?_eq_getElem a0]at h5;exact h5
 refine⟨?_, ?_⟩
 ·rw[getElem!_pos ((l.flatMap enc).toArray) j hj];simp[World.cell?,hg,e5]
 ·simp[World.frozen?,hg]
theorem Z5 {α:Type} [Inhabited α]{enc:α->List Value}{k:Nat}(hk:∀x,(enc x).length=k)(h0:0<k){w:World}{g c:Nat}{l:List α}(h:HoldsK enc k w g 0 l.toArray)(hg:g<w.heap.size)(hc:l.length<=c)(hm:c<=maxLen):
  Az w (some ⟨g,0,none⟩) l.length c k (l.flatMap enc):=by
 refine⟨Ml enc k hk l,hc,hm,(fun h=>by cases h),fun _=>⟨g,0,rfl,hg,fun j v hv=> ?_⟩⟩
 unfold HoldsK Holds at h;rw[Z4 enc k hk h0]at h;have hj:=(List.getElem?_eq_some_iff.1 hv).1;have h1:=(h j (by simpa using hj)).1;rw[getElem!_pos ((l.flatMap enc).toArray) j (by simpa using hj)]at h1;rw[h1];simpa using(List.getElem?_eq_some_iff.1 hv).2
end Go.Proofs.YtaglfmlgbcmakaaGreatDoor
namespace Go.Proofs.YtaglfmlgbcmakaaGreatDoor
open Go.RowKit Go.Shelf Go.Sort Go.Lib
theorem Alz (s:Nat×Nat)(r:Ep)(bx:Nat)(w:World)(h:w.heap[bx]? =some (.cells #[.int .i64 r.1, .int .i64 r.2.1, .int .i64 r.2.2] 64 (0,0))):
  Calls Tryz.prog 54 #[.agg #[.int .i64 (s.1:Int), .int .i64 (s.2:Int)], .pointer (some ⟨bx,0,none⟩)] w fun e w'=>e= .returned (.bool (decide ((s.1:Int)=r.2.1)))/\Below w.heap.size w w':=by
 obtain⟨x,l⟩:=s;obtain⟨p,q,z⟩:=r;have c1:=Ad (j:=1) h rfl;have hb:=lt_of_block h;clear h;simp only at c1 ⊢;go_enter Tryz.func54,Tryz.ntmps54;go_wp2;go_ret;refine⟨?_,bel⟩;congr 2
theorem Ag4 (s t:Nat×Nat)(w:World):
  Calls Tryz.prog 56 #[.agg #[.int .i64 (s.1:Int), .int .i64 (s.2:Int)], .agg #[.int .i64 (t.1:Int), .int .i64 (t.2:Int)]] w fun e w'=>e= .returned (.int .i64 (Eh (s.1:Int) (t.1:Int)))∧∃q os,w'=grow (w.drewN q) os:=by
 obtain⟨x,l⟩:=s;obtain⟨y,z⟩:=t;simp only;go_enter Tryz.func56,Tryz.ntmps56;go_wp2_with fail;refine(Aje (x:Int) (y:Int) _).mono ?_;rintro e w1 ⟨rfl,rfl⟩;go_wp2;go_ret;refine⟨rfl,0, #[.cells #[.int .i64 (x:Int), .int .i64 (l:Int)] 112, .cells #[.int .i64 (y:Int), .int .i64 (z:Int)] 112], ?_⟩;rw[alloc_eq_grow,alloc_eq_grow,grow_grow];rfl
def Akb (s t:Nat×Nat):Int:=Eh (s.1:Int) (t.1:Int)
theorem Qi (s t:Nat×Nat):ltOf Akb s t=decide (s.1<t.1):=by
 unfold ltOf Akb Eh;by_cases h1:s.1<t.1<;>by_cases h2:t.1<s.1<;>simp[h1,h2]
theorem Ag5:SWO (ltOf Akb) where
 irrefl x:=by rw[Qi];simp
 trans x y z h1 h2:=by rw[Qi]at*;simp at*;omega
 ntrans x y z h1 h2:=by rw[Qi]at*;simp at*;omega
theorem Aba {α:Type} [Inhabited α]{enc:α->List Value}{k:Nat}(w:World)(g m:Nat)(d:Array α)(os:Array Obj):Ba (fun i=>i=g) w (sortWorldK enc k w g 0 m d os):=by
 unfold sortWorldK putRowK putRow mapBlock Sort.grow Sort.ahead;refine⟨rfl,rfl,rfl,by simp,fun i hi hs=> ?_⟩
 simp only;rw[Array.getElem?_append_left (by simpa using hi),Array.getElem?_modify,if_neg (fun e=>hs e.symm)]
theorem Adz (v:Value)(base:Nat)(es:List (Nat×Nat))(w:World)(h:w.ownsRow base 112 2 v es.length (es.flatMap Lz))(hn:es.length<=4000):
  Calls Tryz.prog 55 #[v, .func (.func 56) #[] #[]] w fun e w'=>
   e= .returned (.tuple #[])/\(∃A c es',v= .slice A es.length c/\Gj w' A es.length c es'/\es'.Perm es)/\Ba (fun k=>v.ownBlock=some k) w w':=by
 rcases Nat.eq_zero_or_pos es.length with h0|h0
 ·have hs:es=[]:=List.eq_nil_of_length_eq_zero h0;subst hs;rcases h.2 with⟨rfl,_⟩|⟨g,cap,cur,rfl,hb,hg,a4,a3,a5,ht⟩
  ·exact(AnyF.slices_SortFunc_none Tryz.sortEnd none 0 _ w).mono fun e w' ⟨h1,h2⟩=>by
    subst h2;exact⟨h1,⟨none,0,[],rfl,⟨Az.nil _ _,rfl⟩,List.Perm.refl _⟩,Ba.refl _ _⟩
  ·exact(AnyF.slices_SortFunc_none Tryz.sortEnd (some ⟨g,0,none⟩) cap _ w).mono fun e w' ⟨h1,h2⟩=>by
    subst h2;exact⟨h1,⟨some ⟨g,0,none⟩,cap,[],rfl,⟨Az.of_own h (by decide),rfl⟩,List.Perm.refl _⟩,Ba.refl _ _⟩
 ·obtain⟨g,cap,rfl,hb,hg⟩:=V6 h h0
  have hm:es.length<=cap/\cap<=maxLen:=by
   have h3:=Az.of_own h (by decide);exact⟨h3.2.1,h3.2.2.1⟩
  have hH:HoldsK Lz 2 w g 0 es.toArray:=Ae1 Mb (by decide) h
  have a2:=AnyQ.slices_SortFunc Tryz.sortEnd 2 Tryz.isAgg112 Tryz.sizeOf112 Lz Mb (fun x v hv=>by simp[Lz]at hv;rcases hv with rfl|rfl<;>rfl) Akb Ag5 56 #[] g 0 cap es.toArray w
   (enters_of Tryz.func56 (by kernel_rfl) rfl) (fun m os dk _ x y=>(Ag4 x y _).mono fun e w' ⟨h1,h2⟩=>⟨h1,h2⟩) hH hg (by simp;omega)
  refine Calls.mono a2 ?_;rintro e w' ⟨rfl,d',m,os,hp,hs,rfl⟩;have a1:d'.size=es.length:=by have:=hp.1;simpa using this
  have a0:d'.toList.Perm es:=by
   have h3:=hp.2.2;rw[show es.toArray.size=es.length from by simp]at h3;have e1:(d'.extract 0 es.length).toList=d'.toList:=by rw[←a1];simp
   have e2:(es.toArray.extract 0 es.length).toList=es:=by simp
   rwa[e1,e2]at h3
  refine⟨rfl,⟨some ⟨g,0,none⟩,cap,d'.toList,rfl, ?_,a0⟩,(Aba w g m d' os).mono fun k e=>by show some g=some k;rw[e]⟩
  have h5:HoldsK Lz 2 (sortWorldK Lz 2 w g 0 m d' os) g 0 d'.toList.toArray:=by
   unfold sortWorldK;refine holdsK_grow Lz 2 _ os g 0 _ (by simpa[putRowK,putRow,mapBlock,Sort.ahead]using hg) ?_;exact holdsK_putRowK Lz 2 (Sort.ahead w m) g 0 es.toArray _ hH (by simpa using a1)
  have hl:d'.toList.length=es.length:=by simpa using a1
  have h6:=Z5 Mb (by decide) h5 (Nat.lt_of_lt_of_le hg (by unfold sortWorldK Sort.grow;simp[putRowK,putRow,mapBlock,Sort.ahead])) (by rw[hl];exact hm.1) hm.2;rw[hl]at h6;exact⟨h6,hl⟩
end Go.Proofs.YtaglfmlgbcmakaaGreatDoor
namespace Go.Proofs.YtaglfmlgbcmakaaGreatDoor
open Go.RowKit Go.Shelf
def Li (n:Nat)(f:Nat->Value):Array Value:=((List.range n).map f).toArray
theorem Aka {n v:Nat}(f:Nat->Value)(h:v<n):(Li n f)[v]? =some (f v):=by unfold Li;simp[h]
theorem Agz {n k:Nat}{f g:Nat->Value}{x:Value}(hk:g k=x)(h:∀v,v<n->v≠k->g v=f v):(Li n f).setIfInBounds k x=Li n g:=by
 unfold Li;apply Array.ext
 ·simp
 ·intro i h1 h2;have hi:i<n:=by simpa using h2
  by_cases e:i=k
  ·subst e;simp[hi,hk]
  ·simp[Array.getElem_setIfInBounds,Ne.symm e,h i hi e]
theorem Adx (n:Nat):madeCells #[.slice none 0 0] n=Li n fun _=> .slice none 0 0:=by
 unfold madeCells Li;apply Array.ext
 ·simp
 ·intro i h1 h2;simp[Nat.mod_one]
theorem Mr {n v g:Nat}{f:Nat->Value}{t:TypeId}{w:World}(hg:w.heap[g]? =some (.cells (Li n f) t (0,0)))(h:v<n):w.cell? ⟨g,v,none⟩=some (f v):=Ad hg (Aka f h)
structure Kj (B q n:Nat)(val:Nat->Value)(ls:Nat->List (Nat×Nat))(W:World):Prop where
 qB:q<B
 blk:W.heap[q]? =some (.cells (Li n val) 110 (0,0))
 own:∀v,v<n->W.ownsRow B 112 2 (val v) (ls v).length ((ls v).flatMap Lz)
 apart:∀u v,u<n->v<n->u≠v→∀k,(val u).ownBlock=some k->(val v).ownBlock≠some k
 sz:B<=W.heap.size
section
variable {B q n:Nat}{val:Nat->Value}{ls:Nat->List (Nat×Nat)}{W W':World}
theorem Kj.below (h:Kj B q n val ls W)(hb:Below W.heap.size W W'):Kj B q n val ls W':=
 ⟨h.qB,(hb.block q (lt_of_block h.blk)).trans h.blk,fun v hv=>Bj (h.own v hv) fun k e=>hb.block k ((h.own v hv).lt k e).2,h.apart,Nat.le_trans h.sz hb.size⟩
theorem Kj.eq (h:Kj B q n val ls W){ls':Nat->List (Nat×Nat)}(e:∀v,v<n->ls' v=ls v):Kj B q n val ls' W:=⟨h.qB,h.blk,fun v hv=>by rw[e v hv];exact h.own v hv,h.apart,h.sz⟩
theorem Kj.push (h:Kj B q n val ls W){v:Nat}(hv:v<n){v':Value}{p:Nat×Nat}(hown:W'.ownsRow B 112 2 v' ((ls v).length+1) ((ls v).flatMap Lz++Lz p))(hg:W.grownBy W' (val v).ownBlock)
  (a2:v'.ownBlock=(val v).ownBlock\/v'.ownBlock=some W.heap.size):
  Kj B q n (fun u=>if u=v then v' else val u) (fun u=>if u=v then ls v++[p]else ls u) (W'.setCell ⟨q,v,none⟩ v'):=by
 have a1:=lt_of_block h.blk;have a0:∀u,u<n→∀k,(val u).ownBlock=some k->B<=k/\k<W.heap.size:=fun u hu k e=>(h.own u hu).lt k e
 have a3:W'.heap[q]? =some (.cells (Li n val) 110 (0,0)):=(hg.block q a1 (fun e=>by have:=(a0 v hv q e.symm).1;have:=h.qB;omega)).trans h.blk;refine⟨h.qB, ?_,fun u hu=> ?_,fun u u' hu hu' hne k e e'=> ?_,by have:=hg.size;have:=h.sz;simp;omega⟩
 ·rw[Be a3,Agz (g:=fun u=>if u=v then v' else val u) (by simp) fun u _ hne=>by simp[hne]]
 ·by_cases e:u=v
  ·subst e;simp only[if_true];rw[List.length_append,List.length_singleton,List.flatMap_append,List.flatMap_singleton];exact Bj hown fun k e=>Below.heap_setCell _ _ _ _ (by have:=(hown.lt k e).1;have:=h.qB;show k≠q;omega)
  ·simp only[if_neg e];exact Bj (h.own u hu) fun k e'=>(Below.heap_setCell _ _ _ _ (by have:=(a0 u hu k e').1;have:=h.qB;show k≠q;omega)).trans (hg.block k (a0 u hu k e').2 (fun e2=>h.apart u v hu hv e k e' e2.symm))
 ·have key:∀u,u<n->u≠v→∀k,(val u).ownBlock=some k->v'.ownBlock≠some k:=fun u hu hne k e e'=>by
   rcases a2 with h'|h'
   ·exact h.apart u v hu hv hne k e (h'▸e')
   ·rw[h']at e';injection e' with e';have:=(a0 u hu k e).2;omega
  by_cases e1:u=v
  ·by_cases e2:u'=v
   ·exact hne (e1.trans e2.symm)
   ·simp only[if_pos e1]at e;simp only[if_neg e2]at e';exact key u' hu' e2 k e' e
  ·simp only[if_neg e1]at e;by_cases e2:u'=v
   ·simp only[if_pos e2]at e';exact key u hu e1 k e e'
   ·simp only[if_neg e2]at e';exact h.apart u u' hu hu' hne k e e'
end
theorem Ag0 (done:List Bk){a b l:Nat}(hab:a≠b)(v:Nat):Dm (done++[(a,b,l)]) v=(if v=b then(if b=a then Dm done a++[(b,l)]else Dm done b)++[(a,l)]else if v=a then Dm done a++[(b,l)]else Dm done v):=by
 rw[Adv];have a0:¬b=a:=fun e=>hab e.symm
 by_cases h1:v=b
 ·subst h1;simp[hab,a0]
 ·by_cases h2:v=a
  ·subst h2;simp[h1]
  ·have h3:¬a=v:=fun e=>h2 e.symm
   have h4:¬b=v:=fun e=>h1 e.symm
   simp[h1,h2,h3,h4]
theorem Yw {n:Nat}{rs:List Ep}{done:List Bk}{j:Nat}{r:Ep}(h:rs[j]? =some r):Da n done (rs.drop j)=if min r.1 r.2.1<0\/(n:Int)<=max r.1 r.2.1 then 3 else if r.1=r.2.1 then 9 else if r.2.2<1\/1073741824<r.2.2 then 2
  else if done.any (fun s=>Cj s r.1.toNat r.2.1.toNat)then 6 else Da n (done++[Bm r]) (rs.drop (j+1)):=by
 have hk:=(List.getElem?_eq_some_iff.1 h).1;rw[List.drop_eq_getElem_cons hk,(List.getElem?_eq_some_iff.1 h).2];rfl
theorem Yx:(Tryz.prog.info? 112).map (fun i=>(i.zero,i.size,i.bytes))=some (some (.agg #[.int .i64 0, .int .i64 0]),2,16):=by kernel_rfl
theorem Ts {S:Nat->Prop}{w w':World}{A:Option Addr}{n c sz:Nat}{vs:List Value}(h:Az w A n c sz vs)(hk:Ba S w w')(hS:0<n→∀ad,A=some ad→¬S ad.block):Az w' A n c sz vs:=by
 refine⟨h.1,h.2.1,h.2.2.1,h.2.2.2.1,fun hn=> ?_⟩
 obtain⟨b,off,hA,hb,hc⟩:=h.2.2.2.2 hn;have a0:=hk.block b hb (hS hn _ hA);exact⟨b,off,hA,Nat.lt_of_lt_of_le hb hk.size,fun j v hv=>(World.cell?_of_block a0).trans (hc j v hv)⟩
def Ak4:Value->Option Addr
 | .slice A _ _=>A
 |_=>none
def Ak5:Value->Nat
 | .slice _ _ c=>c
 |_=>0
structure Pz (B n i:Nat)(val:Nat->Value)(ls es:Nat->List (Nat×Nat))(W0 W:World):Prop where
 lo:∀v,v<n->i<=v->W.ownsRow B 112 2 (val v) (ls v).length ((ls v).flatMap Lz)
 hi:∀v,v<n->v<i->Gj W (Ak4 (val v)) (ls v).length (Ak5 (val v)) (es v)/\(es v).Perm (ls v)
 kp:Ba (fun k=>B<=k) W0 W
 ap:∀u v,u<n->v<n->u≠v→∀k,(val u).ownBlock=some k->(val v).ownBlock≠some k
 vl:∀v,v<n→∃A c,val v= .slice A (ls v).length c
 bl:∀v,v<n→∀k,(val v).ownBlock=some k->B<=k
theorem Pz.start {B q n:Nat}{val:Nat->Value}{ls:Nat->List (Nat×Nat)}{W:World}(h:Kj B q n val ls W):Pz B n 0 val ls ls W W:=
 ⟨fun v hv _=>h.own v hv,fun v _ hv=>absurd hv (Nat.not_lt_zero _),Ba.refl _ _,h.apart,fun v hv=>Bh (h.own v hv),fun v hv k e=>((h.own v hv).lt k e).1⟩
theorem Pz.step {B n i:Nat}{val:Nat->Value}{ls es:Nat->List (Nat×Nat)}{W0 W W':World}(h:Pz B n i val ls es W0 W)(hi:i<n){A:Option Addr}{c:Nat}{es':List (Nat×Nat)}(hv:val i= .slice A (ls i).length c)(he:Gj W' A (ls i).length c es')(hp:es'.Perm (ls i))
  (hk:Ba (fun k=>(val i).ownBlock=some k) W W'):Pz B n (i+1) val ls (fun v=>if v=i then es' else es v) W0 W':=by
 refine⟨fun v hv' hlt=>Bj (h.lo v hv' (by omega)) fun k e=>hk.block k ((h.lo v hv' (by omega)).lt k e).2 (fun e'=>h.ap i v hi hv' (by omega) k e' e),fun v hv' hlt=> ?_,h.kp.trans (hk.mono fun k e=>h.bl i hi k e),h.ap,h.vl,h.bl⟩
 by_cases e:v=i
 ·subst e;simp only[if_true];rw[hv];exact⟨he,hp⟩
 ·simp only[if_neg e];obtain⟨h1,h2⟩:=h.hi v hv' (by omega);refine⟨⟨Ts h1.1 hk fun hn ad had e'=> ?_,h1.2⟩,h2⟩
  obtain⟨A2,c2,a1⟩:=h.vl v hv';refine h.ap i v hi hv' (Ne.symm e) ad.block e' ?_;rw[a1]at had ⊢;have a0:A2=some ad:=had;rw[a0];rfl
theorem Pz.map {B q n b:Nat}{val:Nat->Value}{rs:List Bk}{es:Nat->List (Nat×Nat)}{W0 W:World}(h:Pz B n n val (Dm rs) es W0 W){An:Option Addr}{cn mb:Nat}{Ar:Option Addr}{cr:Nat}
  (hb:W.heap[b]? =some (.cells #[.slice An n cn, .map (some mb), .slice Ar rs.length cr, .slice (some ⟨q,0,none⟩) n n] 99 (0,0))) (hr:D7 W Ar rs.length cr (rs.map Jr)) (hq:W.heap[q]? =some (.cells (Li n val) 110 (0,0)))
  (hok:Cv n rs) (hn:n<=128) (hrs:rs.length<=512):Dr W b n rs:=by
 refine⟨An,cn,mb,Ar,cr,some ⟨q,0,none⟩,n,(List.range n).map fun v=>(Ak4 (val v),(Dm rs v).length,Ak5 (val v),es v),hb,hr, ?_,fun v p hp=> ?_,hok,hn,hrs⟩
 ·have a0:((List.range n).map fun v=>(Ak4 (val v),(Dm rs v).length,Ak5 (val v),es v)).map Aa7.val=(List.range n).map val:=by
   rw[List.map_map];refine List.map_congr_left fun v hv=> ?_
   obtain⟨A2,c2,a1⟩:=h.vl v (List.mem_range.1 hv);show Value.slice (Ak4 (val v)) _ (Ak5 (val v))=val v;rw[a1];rfl
  rw[a0];refine⟨by simp,rr,by unfold maxLen;omega,(fun h=>by cases h),fun _=>⟨q,0,rfl,lt_of_block hq,fun j v hv=> ?_⟩⟩
  rw[Nat.zero_add];refine Ad hq ?_;unfold Li;simpa using hv
 ·rw[List.getElem?_map]at hp;by_cases hv:v<n
  ·rw[List.getElem?_range hv]at hp;simp only[Option.map_some,Option.some.injEq]at hp;subst hp;exact h.hi v hv hv
  ·rw[List.getElem?_eq_none (by simpa using hv)]at hp;cases hp
def Nk (p:Nat->Bool):Nat->Nat
 |0=>0
 |n+1=>Nk p n+(if p n=true then 1 else 0)
theorem Uv {p q:Nat->Bool}:∀n,(∀j,j<n->q j=p j)->Nk q n=Nk p n
 |0,_=>rfl
 |n+1,h=>by unfold Nk;rw[Uv n fun j hj=>h j (by omega),h n (by omega)]
theorem Xx {p q:Nat->Bool}{i:Nat}(hp:p i=false)(hq:q i=true)(h:∀j,j≠i->q j=p j):∀n,i<n->Nk q n=Nk p n+1
 |0,hi=>by omega
 |n+1,hi=>by
  unfold Nk;by_cases e:i=n
  ·subst e;rw[Uv (p:=p) i fun j hj=>h j (by omega),hp,hq];simp
  ·rw[Xx hp hq h n (by omega),h n (Ne.symm e)];omega
theorem Aco (p:Nat->Bool):∀n,Nk p n<=n
 |0=>rr
 |n+1=>by unfold Nk;have:=Aco p n;split<;>omega
theorem Xy {p:Nat->Bool}:∀n,Nk p n=n→∀i,i<n->p i=true
 |0,_,i,hi=>by omega
 |n+1,h,i,hi=>by
  unfold Nk at h;have h1:=Aco p n;by_cases hn:p n=true
  ·rw[if_pos hn]at h;rcases Nat.lt_or_ge i n with h2|h2
   ·exact Xy n (by omega) i h2
   ·obtain rfl:i=n:=by omega
    exact hn
  ·rw[if_neg hn]at h;omega
section
variable {P:Program}{ops:Array Oper}{Q:Exit->Act->World->Prop}{md:Region.Mode}
def Fh (ops:Array Oper)(i:Nat):Option Tmp:=(ops[i]?).bind (·.dst)
def Gg (ops:Array Oper)(vs:Nat->Value):Nat->Array Value->Array Value
 |0,t=>t
 |n+1,t=>match Fh ops n with|some d=>(Gg ops vs n t).setIfInBounds d (vs n)|none=>Gg ops vs n t
theorem Kd (vs:Nat->Value):∀(n:Nat) (t:Array Value),(Gg ops vs n t).size=t.size
 |0,_=>rfl
 |n+1,t=>by
  unfold Gg;split
  ·rw[Array.size_setIfInBounds,Kd vs n t]
  ·exact Kd vs n t
theorem N1 (vs:Nat->Value){s:Nat}:∀(n:Nat) (t:Array Value),(∀i,i<n->Fh ops i≠some s)->(Gg ops vs n t)[s]? =t[s]?
 |0,_,_=>rfl
 |n+1,t,h=>by
  unfold Gg;have ih:=N1 vs n t fun i hi=>h i (by omega)
  split
  ·rename_i d hd
   have a0:d≠s:=fun e=>h n (by omega) (by rw[hd,e])
   rw[Array.getElem?_setIfInBounds_ne a0];exact ih
  ·exact ih
theorem Uw (hd:∀i j s,Fh ops i=some s->Fh ops j=some s->i=j)(vs:Nat->Value){i s:Nat}(hi:Fh ops i=some s):∀(n:Nat) (t:Array Value),i<n->s<t.size->(Gg ops vs n t)[s]? =some (vs i)
 |0,_,h,_=>by omega
 |n+1,t,h,hs=>by
  unfold Gg;by_cases e:i=n
  ·subst e;rw[hi];show((Gg ops vs i t).setIfInBounds s (vs i))[s]? =_;rw[Array.getElem?_setIfInBounds_self_of_lt (by rw[Kd];exact hs)]
  ·have ih:=Uw hd vs hi n t (by omega) hs;split
   ·rename_i d hdn
    have a0:d≠s:=fun e'=>e (hd i n s hi (by rw[hdn,e']))
    rw[Array.getElem?_setIfInBounds_ne a0];exact ih
   ·exact ih
structure Afi (ops:Array Oper)(Φ:Nat->Value->World->Prop)(a0:Act)(w0:World)(vs:Nat->Value)(listed:Array Bool)(a:Act)(w:World):Prop where
 df:a.defers=a0.defers
 sz:a.tmps.size=a0.tmps.size
 ls:listed.size=ops.size
 other:∀s,(∀i,listed.getD i false=true->Fh ops i≠some s)->a.tmps[s]? =a0.tmps[s]?
 at_:∀i s,listed.getD i false=true->Fh ops i=some s->s<a0.tmps.size->a.tmps[s]? =some (vs i)
 is:∀i,listed.getD i false=true->Φ i (vs i) w
 bw:Below w0.heap.size w0 w
def Afj (md:Region.Mode)(ops:Array Oper)(Φ:Nat->Value->World->Prop)(a0:Act)(o:Oper)(a:Act)(w:World):Prop:=
 (∀j,(∃e∈o.after,Region.binds md e=true/\e.on=j)→∃v,Φ j v w∧∀s,Fh ops j=some s->s<a0.tmps.size->a.tmps[s]? =some v)∧
 (∀s,(∀j,Fh ops j≠some s)->a.tmps[s]? =a0.tmps[s]?)/\a.tmps.size=a0.tmps.size
theorem M5 {listed:Array Bool}{i:Nat}(h:i<listed.size)(d:Bool):(listed.setIfInBounds i true).getD i d=true:=by
 simp[Array.getD_eq_getD_getElem?,h]
theorem Ajk (Φ:Nat->Value->World->Prop)(a0:Act)(w0:World)
  (hmono:∀j v w w',Φ j v w->Below w.heap.size w w'->Φ j v w')
  (hd:∀i j s,Fh ops i=some s->Fh ops j=some s->i=j)
  (hg:∀(i:Nat) (o:Oper),ops[i]? =some o->o.guard=none)
  (hac:∀(i:Nat) (o:Oper),ops[i]? =some o→∀e∈o.after,Region.binds md e=true->e.on<i)
  (H:∀(i:Nat) (o:Oper),ops[i]? =some o→∀a w,Afj md ops Φ a0 o a w->Below w0.heap.size w0 w->o.wp P a w (fun a' w'=>∃v,a'=a.put o.dst v/\Φ i v w'/\Below w.heap.size w w') Q)
  (hQ:∀vs w',(∀i,i<ops.size->Φ i (vs i) w')->Below w0.heap.size w0 w'->Q .normal {a0 with tmps:=Gg ops vs ops.size a0.tmps} w'):
  ∀fuel vs listed a w,Afi ops Φ a0 w0 vs listed a w->Nk (fun i=>listed.getD i false) ops.size+fuel=ops.size->wpAny P md ops Q fuel listed a w:=by
 -- all are listed: the end
 have a5:∀vs listed a w,Afi ops Φ a0 w0 vs listed a w->(∀i,i<ops.size->listed.getD i false=true)->Q .normal a w:=by
  intro vs listed a w hI a1;have h:=hQ vs w (fun i hi=>hI.is i (a1 i hi)) hI.bw
  have ha:a={a0 with tmps:=Gg ops vs ops.size a0.tmps}:=by
   obtain⟨t,df⟩:=a;have h1:df=a0.defers:=hI.df
   have h2:t=Gg ops vs ops.size a0.tmps:=by
    apply Array.ext_getElem?;intro s;by_cases hs:∃i,i<ops.size/\Fh ops i=some s
    ·obtain⟨i,hi,b0⟩:=hs;rcases Nat.lt_or_ge s a0.tmps.size with a2|a7
     ·rw[Uw hd vs b0 _ _ hi a2];exact hI.at_ i s (a1 i hi) b0 a2
     ·have h3:(Gg ops vs ops.size a0.tmps)[s]? =none:=Array.getElem?_eq_none (by rw[Kd];exact a7);have h4:t.size=a0.tmps.size:=hI.sz;rw[h3,Array.getElem?_eq_none (by omega)]
    ·rw[N1 vs _ _ fun i hi e=>hs ⟨i,hi,e⟩]
     refine hI.other s fun i hl e=>hs ⟨i, ?_,e⟩
     rcases Nat.lt_or_ge i ops.size with a2|a7
     ·exact a2
     ·unfold Fh at e;rw[Array.getElem?_eq_none a7]at e;cases e
   rw[h1,h2]
  rw[ha];exact h
 -- nothing is ready: all are listed
 have a4:∀listed:Array Bool,listed.size=ops.size->Region.ready md ops listed=[]→∀i,i<ops.size->listed.getD i false=true:=by
  intro listed b3 h0 i
  induction i using Nat.strongRecOn with
  |_ i ih=>
   intro hi
   cases hb:listed.getD i false with
   |true=>rfl
   |false=>
    exfalso;have ho:ops[i]? =some ops[i]:=Array.getElem?_eq_getElem hi
    have hm:i∈Region.ready md ops listed:=mem_ready.2 ⟨by
     have a3:i<listed.size:=by omega
     simp only[Array.getD_eq_getD_getElem?,Array.getElem?_eq_getElem a3,Option.getD_some]at hb ⊢
     exact hb,ops[i],ho,fun e he hbnd_=>by
      have h1:=hac i _ ho e he hbnd_;exact ih e.on h1 (by omega)⟩
    rw[h0]at hm;cases hm
 intro fuel
 induction fuel with
 |zero=>
  intro vs listed a w hI hc;have a1:=Xy ops.size (by omega:Nk (fun i=>listed.getD i false) ops.size=ops.size);refine⟨?_,a5 vs listed a w hI a1⟩;apply List.eq_nil_iff_forall_not_mem.2;intro i hi;obtain⟨h1,o,ho,_⟩:=mem_ready.1 hi;have a2:i<ops.size:=(Array.getElem?_eq_some_iff.1 ho).1;have h2:=a1 i a2;have a3:i<listed.size:=by rw[hI.ls];exact a2
  simp only[Array.getD_eq_getD_getElem?,Array.getElem?_eq_getElem a3,Option.getD_some]at h1 h2;rw[h1]at h2;cases h2
 |succ fuel ih=>
  intro vs listed a w hI hc;refine⟨fun h0=>a5 vs listed a w hI (a4 listed hI.ls h0),fun i hi=> ?_⟩
  obtain⟨h1,o,ho,a9⟩:=mem_ready.1 hi;have a2:i<ops.size:=(Array.getElem?_eq_some_iff.1 ho).1;have a3:i<listed.size:=by rw[hI.ls];exact a2
  have b1:listed.getD i false=false:=by
   simp only[Array.getD_eq_getD_getElem?,Array.getElem?_eq_getElem a3,Option.getD_some]at h1 ⊢;exact h1
  have hw:Region.wanted o (yielded ops a.tmps)=true:=by unfold Region.wanted;rw[hg i o ho]
  unfold wpOp;rw[ho];simp only[hw,if_true];left;refine Oper.wp_mono (fun a' w' h=> ?_) (H i o ho a w ⟨fun j ⟨e,he,hb,hej⟩=> ?_,fun s hs=>hI.other s fun j _=>hs j,hI.sz⟩ hI.bw)
  ·obtain⟨v,rfl,hv,hb⟩:=h;have a8:Fh ops i=o.dst:=by unfold Fh;rw[ho];rfl
   have a6:∀j,j≠i->(listed.setIfInBounds i true).getD j false=listed.getD j false:=fun j hj=>getD_set_ne false (Ne.symm hj)
   refine ih (fun j=>if j=i then v else vs j) _ _ _ ⟨?_, ?_,by rw[Array.size_setIfInBounds];exact hI.ls,fun s hs=> ?_,fun j s hj hjs hlt'=> ?_,fun j hj=> ?_,hI.bw.trans (hb.mono hI.bw.size)⟩ ?_
   ·unfold Act.put;split<;>exact hI.df
   ·unfold Act.put;split
    ·show(a.tmps.setIfInBounds _ v).size=_;rw[Array.size_setIfInBounds];exact hI.sz
    ·exact hI.sz
   ·have b2:o.dst≠some s:=by rw[←a8];exact hs i (M5 a3 false)
    have h2:=hI.other s fun j hj=>by
     by_cases e:j=i
     ·subst e;rw[b1]at hj;cases hj
     ·exact hs j (by rw[a6 j e];exact hj)
    unfold Act.put;split
    ·rename_i d hdd
     have:d≠s:=fun e=>b2 (by rw[hdd,e])
     show(a.tmps.setIfInBounds d v)[s]? =_;rw[Array.getElem?_setIfInBounds_ne this];exact h2
    ·exact h2
   ·by_cases e:j=i
    ·subst e;rw[a8]at hjs;simp only[if_true];unfold Act.put;rw[hjs];show(a.tmps.setIfInBounds s v)[s]? =some v;rw[Array.getElem?_setIfInBounds_self_of_lt (by rw[hI.sz];exact hlt')]
    ·rw[a6 j e]at hj;have h2:=hI.at_ j s hj hjs hlt';simp only[if_neg e];unfold Act.put;split
     ·rename_i d hdd
      have:d≠s:=fun e'=>e (hd j i s hjs (by rw[a8,hdd,e']))
      show(a.tmps.setIfInBounds d v)[s]? =_;rw[Array.getElem?_setIfInBounds_ne this];exact h2
     ·exact h2
   ·by_cases e:j=i
    ·subst e;simp only[if_true];exact hv
    ·rw[a6 j e]at hj;simp only[if_neg e];exact hmono j _ _ _ (hI.is j hj) hb
   ·rw[Xx (p:=fun j=>listed.getD j false) b1 (M5 a3 false) (fun j hj=>a6 j hj) ops.size a2];omega
  ·have hl:listed.getD j false=true:=by rw[←hej];exact a9 e he hb
   exact⟨vs j,hI.is j hl,fun s hs hlt'=>hI.at_ j s hl hs hlt'⟩
def Ald (ops:Array Oper):Bool:=(List.range ops.size).all fun i=>match ops[i]? with
 |none=>false
 |some o=>o.guard.isNone && (o.after.all fun e=>(!Region.binds .any e||decide (e.on<i))) && (o.dst.isNone||(List.range i).all fun j=> !(Fh ops j==o.dst))
theorem Aar (h:Ald ops=true):(∀i j s,Fh ops i=some s->Fh ops j=some s->i=j)/\(∀(i:Nat) (o:Oper),ops[i]? =some o->o.guard=none)∧∀(i:Nat) (o:Oper),ops[i]? =some o→∀e∈o.after,Region.binds .any e=true->e.on<i:=by
 have key:∀(i:Nat) (o:Oper),ops[i]? =some o->o.guard=none/\(∀e∈o.after,Region.binds .any e=true->e.on<i)/\(∀s,o.dst=some s→∀j,j<i->Fh ops j≠some s):=fun i o ho=>by
  have hi:i<ops.size:=(Array.getElem?_eq_some_iff.1 ho).1;have h1:=List.all_eq_true.1 h i (List.mem_range.2 hi);rw[ho]at h1;simp only[Bool.and_eq_true,Bool.or_eq_true]at h1;obtain⟨⟨h2,h3⟩,h4⟩:=h1;refine⟨by simpa using h2,fun e he hbd=>by have h:=Array.all_eq_true'.1 h3 e he;rw[hbd]at h;simpa using h,fun s hs j hj e=> ?_⟩
  rcases h4 with h4|h4
  ·rw[hs]at h4;cases h4
  ·have h5:=List.all_eq_true.1 h4 j (List.mem_range.2 hj);rw[e,hs]at h5;simp at h5
 refine⟨fun i j s hi hj=> ?_,fun i o ho=>(key i o ho).1,fun i o ho=>(key i o ho).2.1⟩
 have hw:∀i s,Fh ops i=some s→∃o,ops[i]? =some o/\o.dst=some s:=fun i s h=>by
  unfold Fh at h
  cases ho:ops[i]? with
  |none=>rw[ho]at h;cases h
  |some o=>rw[ho]at h;exact⟨o,rfl,h⟩
 obtain⟨oi,h1,h2⟩:=hw i s hi;obtain⟨oj,h3,h4⟩:=hw j s hj;rcases Nat.lt_trichotomy i j with h5|h5|h5
 ·exact absurd hi ((key j oj h3).2.2 s h4 i h5)
 ·exact h5
 ·exact absurd hj ((key i oi h1).2.2 s h2 j h5)
theorem Adh (n m:Nat):Nk (fun i=>(Array.replicate m false).getD i false) n=0:=by
 induction n with
 |zero=>rfl
 |succ n ih=>
  unfold Nk;rw[ih]
  have:(Array.replicate m false).getD n false=false:=by
   simp only[Array.getD_eq_getD_getElem?,Array.getElem?_replicate];split<;>rfl
  rw[this];rfl
theorem Aas {id:Nat}(hm:P.follows .mixedOrders=true)(hok:Ald ops=true)(Φ:Nat->Value->World->Prop)(a0:Act)(w:World)
  (hmono:∀j v w w',Φ j v w->Below w.heap.size w w'->Φ j v w')
  (H:∀(i:Nat) (o:Oper),ops[i]? =some o→∀a w',Afj .any ops Φ a0 o a w'->Below w.heap.size w w'->o.wp P a w' (fun a' w''=>∃v,a'=a.put o.dst v/\Φ i v w''/\Below w'.heap.size w' w'') Q)
  (hQ:∀vs w',(∀i,i<ops.size->Φ i (vs i) w')->Below w.heap.size w w'->Q .normal {a0 with tmps:=Gg ops vs ops.size a0.tmps} w'):(Code.region id ops true).wp P Q a0 w:=by
 obtain⟨hd,hg,a2⟩:=Aar hok;have a1:Below w.heap.size w w.drew:=(Below.refl _ _).drew;refine wp_region_any hm (Ajk Φ a0 w.drew hmono hd hg a2 (fun i o ho a w' ha hb=>H i o ho a w' ha (a1.trans hb)) (fun vs w' h hb=>hQ vs w' h (a1.trans hb)) ops.size (fun _=>undef) _ a0 w.drew ⟨rfl,rfl,by simp,fun s _=>rfl,fun i s h=> ?_,fun i h=> ?_,Below.refl _ _⟩ (by rw[Adh];omega))
 ·simp only[Array.getD_eq_getD_getElem?,Array.getElem?_replicate]at h;split at h<;>cases h
 ·simp only[Array.getD_eq_getD_getElem?,Array.getElem?_replicate]at h;split at h<;>cases h
end
end Go.Proofs.YtaglfmlgbcmakaaGreatDoor
