/-
  The sounds and laws of the examples, in plain words.
  Appends to a list of laws of one's own.
  Slices that are built of laws.
  Slices that are built.
-/
import Derived.Test.YtlgliddhideflaaGreatDoorG15
set_option linter.all false
set_option maxRecDepth 100000
set_option maxHeartbeats 4000000
namespace Go.Proofs.YtlgliddhideflaaGreatDoor
open Go.RowKit Go.Shelf
def sA:Snd:=(5,2)
def sP:Snd:=(2,5)
def sB:Snd:=(3,4)
def Aga:Nd×Fo:=(⟨1,4,0,false,0,0⟩, .nil)
def vD:Av:={name:=⟨#[86]⟩,left:=Aga,right:=Aga,ifs:=[(2,0)],outs:=[⟨0,0,1,0,0,0⟩],mode:=1}
def fD:Av:={name:=⟨#[70]⟩,left:=(⟨0,0,0,false,0,0⟩, .nil),right:=(⟨6,0,0,false,0,0⟩, .nil),ifs:=[(4,0)],outs:=[],mode:=1}
theorem M9 (w:World):FSl w none 0 0 .nil:=⟨⟨rfl,rr,by simp[maxLen],fun _=>rfl⟩,trivial⟩
theorem S9 {w:World}{b:Nat}{s:Snd}{t:TypeId}(h:w.heap[b]? =some (.cells #[.int .u32 s.1, .int .u32 s.2] t (0,0))):Ab w (some ⟨b,0,none⟩) 1 1 [s]:=
 ⟨rfl,rr,by unfold maxLen;omega,(fun h=>by cases h),fun _=>⟨b,0,rfl,lt_of_block h,fun j v hv=>by rw[Nat.zero_add];exact Ac h (by simpa[Bc]using hv)⟩⟩
def Af9:Value:= .agg #[.string ⟨#[]⟩, .int .i64 0, .int .u32 0, .int .u32 0, .bool false, .int .i64 0, .int .i64 0, .slice none 0 0, .int .i64 0, .int .u32 0, .int .u32 0, .bool false, .int .i64 0, .int .i64 0, .slice none 0 0, .slice none 0 0, .slice none 0 0, .int .i64 0]
theorem Zj:(Tryz.prog.info? 34).map (fun i=>(i.zero,i.size,i.bytes))=some (some Af9,18,200):=by kernel_rfl
def Wn (w:World)(xs:List Bu)(e:Ending)(w':World):Prop:=
 ∃A n c,e= .returned (.slice A n c)/\Bw w' A n c xs/\Below w.heap.size w w'∧∀ad,A=some ad->w.heap.size<=ad.block
theorem Wn.of_own {w w':World}{xs:List Bu}{base:Nat}{n:Nat}{v:Value}{e:Ending}(he:e= .returned v)(h:w'.ownsRow base 34 18 v n (xs.flatMap Bu.cells))(hl:∀x∈xs,Df w' x.l x.a)(hb:Below w.heap.size w w')(hbase:w.heap.size<=base):
  Wn w xs e w':=by
 obtain⟨A,c,rfl⟩:=B1 h;refine⟨A,n,c,he,⟨Fc.of_own h Bu.len (by decide),hl⟩,hb,fun ad had=> ?_⟩
 subst had;exact Nat.le_trans hbase (h.lt ad.block rfl).1
theorem Uy (x:Bu)(w:World):(Instr.buildSlice 35 1 #[(0,C3 x.l x.a)]).run Tryz.prog w= .ok (.slice (some ⟨w.heap.size,0,none⟩) 1 1) (w.alloc (.cells (x.cells).toArray 34)):=by kernel_rfl
theorem Uz (x y:Bu)(w:World):(Instr.buildSlice 35 2 #[(0,C3 x.l x.a),(1,C3 y.l y.a)]).run Tryz.prog w= .ok (.slice (some ⟨w.heap.size,0,none⟩) 2 2) (w.alloc (.cells (x.cells++y.cells).toArray 34)):=by kernel_rfl
section
variable {ops:Array Oper}{rest:List Oper}{op:Oper}{ac:Act}{w:World}{Q:Exit->Act->World->Prop}
theorem Kh (hgd:op.guard=none)(p q:Operand)(ho:op.op= .buildSlice 35 2 #[(0,p),(1,q)])(x y:Bu)(hp:ac.eval p=C3 x.l x.a)(hq:ac.eval q=C3 y.l y.a)
  (h:wpList Tryz.prog ops Q rest (ac.put op.dst (.slice (some ⟨w.heap.size,0,none⟩) 2 2)) (w.alloc (.cells (x.cells++y.cells).toArray 34))):wpList Tryz.prog ops Q (op::rest) ac w:=by
 refine wpList_plain hgd fun K hK=> ?_
 have hr:=Uz x y w;unfold Oper.wp execOp;simp only[ho,List.map_toArray,List.map_cons,List.map_nil,hp,hq,hr,Sem.run_bind,Sem.run_pure,Result.andThen_ok];exact hK _ _ h
theorem U0 (hgd:op.guard=none)(p:Operand)(ho:op.op= .buildSlice 35 1 #[(0,p)])(x:Bu)(hp:ac.eval p=C3 x.l x.a)
  (h:wpList Tryz.prog ops Q rest (ac.put op.dst (.slice (some ⟨w.heap.size,0,none⟩) 1 1)) (w.alloc (.cells (x.cells).toArray 34))):wpList Tryz.prog ops Q (op::rest) ac w:=by
 refine wpList_plain hgd fun K hK=> ?_
 have hr:=Uy x w;unfold Oper.wp execOp;simp only[ho,List.map_toArray,List.map_cons,List.map_nil,hp,hr,Sem.run_bind,Sem.run_pure,Result.andThen_ok];exact hK _ _ h
end
theorem Nl (w:World)(xs:List Bu)(t:TypeId)(hn:xs.length<=4096)(hl:∀x∈xs,Df w x.l x.a):Bw (w.alloc (.cells (xs.flatMap Bu.cells).toArray t)) (some ⟨w.heap.size,0,none⟩) xs.length xs.length xs:=
 ⟨⟨⟨Ew Bu.cells 18 Bu.len xs,rr,by unfold maxLen;omega,(fun h=>by cases h),fun _=>⟨w.heap.size,0,rfl,by simp,fun j v hv=>by rw[Nat.zero_add];exact B6 (by simpa using hv)⟩⟩,rfl⟩,
  fun x hx=>(hl x hx).below ((Below.refl w.heap.size w).alloc rr _) rr⟩
theorem Jg (w:World)(x y:Bu)(t:TypeId)(hx:Df w x.l x.a)(hy:Df w y.l y.a):Bw (w.alloc (.cells (x.cells++y.cells).toArray t)) (some ⟨w.heap.size,0,none⟩) 2 2 [x,y]:=by
 have h:=Nl w [x,y] t (by simp) (fun z hz=>by
  simp only[List.mem_cons,List.not_mem_nil,or_false]at hz;rcases hz with rfl|rfl
  ·exact hx
  ·exact hy)
 simpa[List.flatMap_cons]using h
theorem Sy (w:World)(x:Bu)(t:TypeId)(hx:Df w x.l x.a):Bw (w.alloc (.cells (x.cells).toArray t)) (some ⟨w.heap.size,0,none⟩) 1 1 [x]:=by
 have h:=Nl w [x] t (by simp) (fun z hz=>by
  obtain rfl:z=x:=by simpa using hz
  exact hx)
 simpa[List.flatMap_cons]using h
theorem C5 (w:World)(xs:List Snd)(t:TypeId)(hn:xs.length<=4096):Ab (w.alloc (.cells (Bc xs).toArray t)) (some ⟨w.heap.size,0,none⟩) xs.length xs.length xs:=
 ⟨D9 xs,rr,by unfold maxLen;omega,(fun h=>by cases h),fun _=>⟨w.heap.size,0,rfl,by simp,fun j v hv=>by rw[Nat.zero_add];exact B6 (by simpa using hv)⟩⟩
theorem M2 (w:World)(ps:List Part)(t:TypeId)(hn:ps.length<=4096)(hp:Je w ps):B5 (w.alloc (.cells (ps.map Part.val).toArray t)) (some ⟨w.heap.size,0,none⟩) ps.length ps.length (ps.map Part.word):=
 ⟨ps,rfl,⟨by simp,rr,by unfold maxLen;omega,(fun h=>by cases h),fun _=>⟨w.heap.size,0,rfl,by simp,fun j v hv=>by rw[Nat.zero_add];exact B6 (by simpa using hv)⟩⟩,
  fun p hp'=>(hp p hp').below ((Below.refl w.heap.size w).alloc rr _) rr⟩
end Go.Proofs.YtlgliddhideflaaGreatDoor
