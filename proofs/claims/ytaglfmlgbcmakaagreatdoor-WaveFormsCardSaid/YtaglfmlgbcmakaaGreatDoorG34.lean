/-
  The sounds and laws of the examples, in plain words.
  Appends to a list of laws of one's own.
  Slices that are built of laws.
  Slices that are built.
-/
import Derived.Test.YtaglfmlgbcmakaaGreatDoorG15
set_option linter.all false
set_option maxRecDepth 100000
set_option maxHeartbeats 4000000
namespace Go.Proofs.YtaglfmlgbcmakaaGreatDoor
open Go.RowKit Go.Shelf
def sA:Snd:=(5,2)
def sP:Snd:=(2,5)
def sB:Snd:=(3,4)
theorem Hg {fn:Func}{p:Tmp}(h:fn.results= #[.cell p 49])(tmps:Array Value)(w:World)(b:Nat)(x y:Int)(hp:tmps.getD p undef= .pointer (some ⟨b,0,none⟩))(hr:w.heap[b]? =some (.cells #[.int .u32 x, .int .u32 y] 49 (0,0))):
  (results fn tmps).run Tryz.prog w= .ok (C7 x y) w:=by
 have a0:tmps[p]?.getD undef= .pointer (some ⟨b,0,none⟩):=by simpa using hp
 have h0:=Ad (j:=0) hr rfl;have h1:=Ad (j:=1) hr rfl;simp[results,h,a0,asAddr,go_sem,h0,h1]
def Am7:Nd×Fo:=(⟨1,4,0,false,0,0⟩, .nil)
def vD:Bi:={name:=⟨#[86]⟩,left:=Am7,right:=Am7,ifs:=[(2,0)],outs:=[⟨0,0,1,0,0,0⟩],mode:=1}
def fD:Bi:={name:=⟨#[70]⟩,left:=(⟨0,0,0,false,0,0⟩, .nil),right:=(⟨6,0,0,false,0,0⟩, .nil),ifs:=[(4,0)],outs:=[],mode:=1}
def Af1 (w:World)(l:Bi)(e:Ending)(w':World):Prop:=∃a,e= .returned (Eg l a)/\Df w' l a/\Below w.heap.size w w'
theorem Sf (w:World):FSl w none 0 0 .nil:=⟨⟨rfl,rr,by simp[maxLen],fun _=>rfl⟩,trivial⟩
theorem Yf {w:World}{b:Nat}{s:Snd}{t:TypeId}(h:w.heap[b]? =some (.cells #[.int .u32 s.1, .int .u32 s.2] t (0,0))):Ak w (some ⟨b,0,none⟩) 1 1 [s]:=
 ⟨rfl,rr,by unfold maxLen;omega,(fun h=>by cases h),fun _=>⟨b,0,rfl,lt_of_block h,fun j v hv=>by rw[Nat.zero_add];exact Ad h (by simpa[B6]using hv)⟩⟩
def Am2:Value:= .agg #[.string ⟨#[]⟩, .int .i64 0, .int .u32 0, .int .u32 0, .bool false, .int .i64 0, .int .i64 0, .slice none 0 0, .int .i64 0, .int .u32 0, .int .u32 0, .bool false, .int .i64 0, .int .i64 0, .slice none 0 0, .slice none 0 0, .slice none 0 0, .int .i64 0]
theorem Afk:(Tryz.prog.info? 55).map (fun i=>(i.zero,i.size,i.bytes))=some (some Am2,18,200):=by kernel_rfl
theorem Adi:Am2.cells.size=18:=by kernel_rfl
theorem Afl (xs:List Cb):∀u∈xs.flatMap Cb.cells,u.oneCell'=true:=by
 intro u hu;obtain⟨x,_,hx⟩:=List.mem_flatMap.1 hu;have h:=Aj6 x.l x.a;rw[Array.all_eq_true_iff_forall_mem]at h;exact h u (by simpa[Cb.cells]using hx)
theorem Re {ops:Array Oper}{rest:List Oper}{o:Oper}{a:Act}{w:World}{Q:Exit->Act->World->Prop}(hgd:o.guard=none)(s x:Operand)
  (ho:o.op= .call {callee:= .builtin .append,args:= #[s,x],argTypes:= #[26,26]})
  (base:Nat) (v:Value) (n:Nat) (xs:List Cb) (hs:a.eval s=v) (hown:w.ownsRow base 55 18 v n (xs.flatMap Cb.cells))
  (A:Option Addr) (m c:Nat) (ys:List Cb) (hx:a.eval x= .slice A m c) (hr:Eb Cb.cells 18 w A m c ys) (hl:n+m<=4096) (hbase:base<=w.heap.size)
  (h:∀v' w',w'.ownsRow base 55 18 v' (n+m) ((xs++ys).flatMap Cb.cells)->w.grownBy w' v.ownBlock->(v'= .slice none 0 0↔v= .slice none 0 0/\m=0)→
   wpList Tryz.prog ops Q rest (a.put o.dst v') w'):wpList Tryz.prog ops Q (o::rest) a w:=by
 obtain⟨i0,hi,a1,a2,a0⟩:=info_parts Afk
 refine E1 w hgd s x 26 ho base 55 i0 _ 18 200 Tryz.underlying26 hi a1 a2 a0 Adi (by decide) v n _ hs hown A m c _ hx hr.1
  (Afl ys) (by unfold maxLen;omega) (by omega) hbase ?_
 rw[←List.flatMap_append];exact h
theorem Aat (x:Cb)(w:World):(Instr.buildSlice 26 1 #[(0,Eg x.l x.a)]).run Tryz.prog w= .ok (.slice (some ⟨w.heap.size,0,none⟩) 1 1) (w.alloc (.cells (x.cells).toArray 55)):=by kernel_rfl
theorem Aau (x y:Cb)(w:World):(Instr.buildSlice 26 2 #[(0,Eg x.l x.a),(1,Eg y.l y.a)]).run Tryz.prog w= .ok (.slice (some ⟨w.heap.size,0,none⟩) 2 2) (w.alloc (.cells (x.cells++y.cells).toArray 55)):=by kernel_rfl
section
variable {ops:Array Oper}{rest:List Oper}{op:Oper}{ac:Act}{w:World}{Q:Exit->Act->World->Prop}
theorem Aav (hgd:op.guard=none)(p q:Operand)(ho:op.op= .buildSlice 26 2 #[(0,p),(1,q)])(x y:Cb)(hp:ac.eval p=Eg x.l x.a)(hq:ac.eval q=Eg y.l y.a)
  (h:wpList Tryz.prog ops Q rest (ac.put op.dst (.slice (some ⟨w.heap.size,0,none⟩) 2 2)) (w.alloc (.cells (x.cells++y.cells).toArray 55))):wpList Tryz.prog ops Q (op::rest) ac w:=by
 refine wpList_plain hgd fun K hK=> ?_
 have hr:=Aau x y w;unfold Oper.wp execOp;simp only[ho,List.map_toArray,List.map_cons,List.map_nil,hp,hq,hr,Sem.run_bind,Sem.run_pure,Result.andThen_ok];exact hK _ _ h
theorem Ss (hgd:op.guard=none)(p:Operand)(ho:op.op= .buildSlice 26 1 #[(0,p)])(x:Cb)(hp:ac.eval p=Eg x.l x.a)
  (h:wpList Tryz.prog ops Q rest (ac.put op.dst (.slice (some ⟨w.heap.size,0,none⟩) 1 1)) (w.alloc (.cells (x.cells).toArray 55))):wpList Tryz.prog ops Q (op::rest) ac w:=by
 refine wpList_plain hgd fun K hK=> ?_
 have hr:=Aat x w;unfold Oper.wp execOp;simp only[ho,List.map_toArray,List.map_cons,List.map_nil,hp,hr,Sem.run_bind,Sem.run_pure,Result.andThen_ok];exact hK _ _ h
end
theorem Aaw (w:World)(xs:List Cb)(t:TypeId)(hn:xs.length<=4096)(hl:∀x∈xs,Df w x.l x.a):Cf (w.alloc (.cells (xs.flatMap Cb.cells).toArray t)) (some ⟨w.heap.size,0,none⟩) xs.length xs.length xs:=
 ⟨⟨⟨Ml Cb.cells 18 Cb.len xs,rr,by unfold maxLen;omega,(fun h=>by cases h),fun _=>⟨w.heap.size,0,rfl,by simp,fun j v hv=>by rw[Nat.zero_add];exact B8 (by simpa using hv)⟩⟩,rfl⟩,
  fun x hx=>(hl x hx).below ((Below.refl w.heap.size w).alloc rr _) rr⟩
theorem X0 (w:World)(x y:Cb)(t:TypeId)(hx:Df w x.l x.a)(hy:Df w y.l y.a):Cf (w.alloc (.cells (x.cells++y.cells).toArray t)) (some ⟨w.heap.size,0,none⟩) 2 2 [x,y]:=by
 have h:=Aaw w [x,y] t (by simp) (fun z hz=>by
  simp only[List.mem_cons,List.not_mem_nil,or_false]at hz;rcases hz with rfl|rfl
  ·exact hx
  ·exact hy)
 simpa[List.flatMap_cons]using h
theorem Aai (w:World)(ps:List Part)(t:TypeId)(hn:ps.length<=4096)(hp:Hu w ps):Bs (w.alloc (.cells (ps.map Part.val).toArray t)) (some ⟨w.heap.size,0,none⟩) ps.length ps.length (ps.map Part.word):=
 ⟨ps,rfl,⟨by simp,rr,by unfold maxLen;omega,(fun h=>by cases h),fun _=>⟨w.heap.size,0,rfl,by simp,fun j v hv=>by rw[Nat.zero_add];exact B8 (by simpa using hv)⟩⟩,
  fun p hp'=>(hp p hp').below ((Below.refl w.heap.size w).alloc rr _) rr⟩
end Go.Proofs.YtaglfmlgbcmakaaGreatDoor
