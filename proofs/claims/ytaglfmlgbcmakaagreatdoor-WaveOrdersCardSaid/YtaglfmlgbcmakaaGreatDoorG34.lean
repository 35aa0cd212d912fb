/-
  The sounds and laws of the examples, in plain words.
  Appends to a list of laws of one's own.
  Slices that are built of laws.
  Slices that are built.
-/
import Derived.Test.YtaglfmlgbcmakaaGreatDoorG15
set_option linter.all false
set_option maxRecDepth 100000
set_option maxHeartbeats 4000000
namespace Go.Proofs.YtaglfmlgbcmakaaGreatDoor
open Go.RowKit Go.Shelf
def sA:Snd:=(5,2)
def sP:Snd:=(2,5)
def sB:Snd:=(3,4)
theorem Fq {fn:Func}{p:Tmp}(h:fn.results= #[.cell p 49])(tmps:Array Value)(w:World)(b:Nat)(x y:Int)(hp:tmps.getD p undef= .pointer (some ⟨b,0,none⟩))(hr:w.heap[b]? =some (.cells #[.int .u32 x, .int .u32 y] 49 (0,0))):
  (results fn tmps).run Tryz.prog w= .ok (Dt x y) w:=by
 have a0:tmps[p]?.getD undef= .pointer (some ⟨b,0,none⟩):=by simpa using hp
 have h0:=Ad (j:=0) hr rfl;have h1:=Ad (j:=1) hr rfl;simp[results,h,a0,asAddr,go_sem,h0,h1]
def Ah8:Nd×Fo:=(⟨1,4,0,false,0,0⟩, .nil)
def vD:Be:={name:=⟨#[86]⟩,left:=Ah8,right:=Ah8,ifs:=[(2,0)],outs:=[⟨0,0,1,0,0,0⟩],mode:=1}
def fD:Be:={name:=⟨#[70]⟩,left:=(⟨0,0,0,false,0,0⟩, .nil),right:=(⟨6,0,0,false,0,0⟩, .nil),ifs:=[(4,0)],outs:=[],mode:=1}
def Ach (w:World)(l:Be)(e:Ending)(w':World):Prop:=∃a,e= .returned (D8 l a)/\Es w' l a/\Below w.heap.size w w'
theorem Pt (w:World):FSl w none 0 0 .nil:=⟨⟨rfl,rr,by simp[maxLen],fun _=>rfl⟩,trivial⟩
theorem Wa {w:World}{b:Nat}{s:Snd}{t:TypeId}(h:w.heap[b]? =some (.cells #[.int .u32 s.1, .int .u32 s.2] t (0,0))):Ah w (some ⟨b,0,none⟩) 1 1 [s]:=
 ⟨rfl,rr,by unfold maxLen;omega,(fun h=>by cases h),fun _=>⟨b,0,rfl,lt_of_block h,fun j v hv=>by rw[Nat.zero_add];exact Ad h (by simpa[B5]using hv)⟩⟩
def Ah3:Value:= .agg #[.string ⟨#[]⟩, .int .i64 0, .int .u32 0, .int .u32 0, .bool false, .int .i64 0, .int .i64 0, .slice none 0 0, .int .i64 0, .int .u32 0, .int .u32 0, .bool false, .int .i64 0, .int .i64 0, .slice none 0 0, .slice none 0 0, .slice none 0 0, .int .i64 0]
theorem Vu:(Tryz.prog.info? 55).map (fun i=>(i.zero,i.size,i.bytes))=some (some Ah3,18,200):=by kernel_rfl
theorem Ta:Ah3.cells.size=18:=by kernel_rfl
theorem Vv (xs:List Bn):∀u∈xs.flatMap Bn.cells,u.oneCell'=true:=by
 intro u hu;obtain⟨x,_,hx⟩:=List.mem_flatMap.1 hu;have h:=Afv x.l x.a;rw[Array.all_eq_true_iff_forall_mem]at h;exact h u (by simpa[Bn.cells]using hx)
theorem Vw {ops:Array Oper}{rest:List Oper}{o:Oper}{a:Act}{w:World}{Q:Exit->Act->World->Prop}(hgd:o.guard=none)(s x:Operand)
  (ho:o.op= .call {callee:= .builtin .append,args:= #[s,x],argTypes:= #[26,26]})
  (base:Nat) (v:Value) (n:Nat) (xs:List Bn) (hs:a.eval s=v) (hown:w.ownsRow base 55 18 v n (xs.flatMap Bn.cells))
  (A:Option Addr) (m c:Nat) (ys:List Bn) (hx:a.eval x= .slice A m c) (hr:Du Bn.cells 18 w A m c ys) (hl:n+m<=4096) (hbase:base<=w.heap.size)
  (h:∀v' w',w'.ownsRow base 55 18 v' (n+m) ((xs++ys).flatMap Bn.cells)->w.grownBy w' v.ownBlock->(v'= .slice none 0 0↔v= .slice none 0 0/\m=0)→
   wpList Tryz.prog ops Q rest (a.put o.dst v') w'):wpList Tryz.prog ops Q (o::rest) a w:=by
 obtain⟨i0,hi,a0,a1,a2⟩:=info_parts Vu
 refine Dv w hgd s x 26 ho base 55 i0 _ 18 200 Tryz.underlying26 hi a0 a1 a2 Ta (by decide) v n _ hs hown A m c _ hx hr.1
  (Vv ys) (by unfold maxLen;omega) (by omega) hbase ?_
 rw[←List.flatMap_append];exact h
def Zu (w:World)(xs:List Bn)(e:Ending)(w':World):Prop:=
 ∃A n c,e= .returned (.slice A n c)/\B2 w' A n c xs/\Below w.heap.size w w'∧∀ad,A=some ad->w.heap.size<=ad.block
theorem Zu.of_own {w w':World}{xs:List Bn}{base:Nat}{n:Nat}{v:Value}{e:Ending}(he:e= .returned v)(h:w'.ownsRow base 55 18 v n (xs.flatMap Bn.cells))(hl:∀x∈xs,Es w' x.l x.a)(hb:Below w.heap.size w w')(hbase:w.heap.size<=base):
  Zu w xs e w':=by
 obtain⟨A,c,rfl⟩:=Bh h;refine⟨A,n,c,he,⟨Du.of_own h Bn.len (by decide),hl⟩,hb,fun ad had=> ?_⟩
 subst had;exact Nat.le_trans hbase (h.lt ad.block rfl).1
theorem P3 (x:Bn)(w:World):(Instr.buildSlice 26 1 #[(0,D8 x.l x.a)]).run Tryz.prog w= .ok (.slice (some ⟨w.heap.size,0,none⟩) 1 1) (w.alloc (.cells (x.cells).toArray 55)):=by kernel_rfl
theorem Ye (x y:Bn)(w:World):(Instr.buildSlice 26 2 #[(0,D8 x.l x.a),(1,D8 y.l y.a)]).run Tryz.prog w= .ok (.slice (some ⟨w.heap.size,0,none⟩) 2 2) (w.alloc (.cells (x.cells++y.cells).toArray 55)):=by kernel_rfl
section
variable {ops:Array Oper}{rest:List Oper}{op:Oper}{ac:Act}{w:World}{Q:Exit->Act->World->Prop}
theorem Yf (hgd:op.guard=none)(p q:Operand)(ho:op.op= .buildSlice 26 2 #[(0,p),(1,q)])(x y:Bn)(hp:ac.eval p=D8 x.l x.a)(hq:ac.eval q=D8 y.l y.a)
  (h:wpList Tryz.prog ops Q rest (ac.put op.dst (.slice (some ⟨w.heap.size,0,none⟩) 2 2)) (w.alloc (.cells (x.cells++y.cells).toArray 55))):wpList Tryz.prog ops Q (op::rest) ac w:=by
 refine wpList_plain hgd fun K hK=> ?_
 have hr:=Ye x y w;unfold Oper.wp execOp;simp only[ho,List.map_toArray,List.map_cons,List.map_nil,hp,hq,hr,Sem.run_bind,Sem.run_pure,Result.andThen_ok];exact hK _ _ h
theorem Yg (hgd:op.guard=none)(p:Operand)(ho:op.op= .buildSlice 26 1 #[(0,p)])(x:Bn)(hp:ac.eval p=D8 x.l x.a)
  (h:wpList Tryz.prog ops Q rest (ac.put op.dst (.slice (some ⟨w.heap.size,0,none⟩) 1 1)) (w.alloc (.cells (x.cells).toArray 55))):wpList Tryz.prog ops Q (op::rest) ac w:=by
 refine wpList_plain hgd fun K hK=> ?_
 have hr:=P3 x w;unfold Oper.wp execOp;simp only[ho,List.map_toArray,List.map_cons,List.map_nil,hp,hr,Sem.run_bind,Sem.run_pure,Result.andThen_ok];exact hK _ _ h
end
theorem Yh (w:World)(xs:List Bn)(t:TypeId)(hn:xs.length<=4096)(hl:∀x∈xs,Es w x.l x.a):B2 (w.alloc (.cells (xs.flatMap Bn.cells).toArray t)) (some ⟨w.heap.size,0,none⟩) xs.length xs.length xs:=
 ⟨⟨⟨Kh Bn.cells 18 Bn.len xs,rr,by unfold maxLen;omega,(fun h=>by cases h),fun _=>⟨w.heap.size,0,rfl,by simp,fun j v hv=>by rw[Nat.zero_add];exact B7 (by simpa using hv)⟩⟩,rfl⟩,
  fun x hx=>(hl x hx).below ((Below.refl w.heap.size w).alloc rr _) rr⟩
theorem Vy (w:World)(x y:Bn)(t:TypeId)(hx:Es w x.l x.a)(hy:Es w y.l y.a):B2 (w.alloc (.cells (x.cells++y.cells).toArray t)) (some ⟨w.heap.size,0,none⟩) 2 2 [x,y]:=by
 have h:=Yh w [x,y] t (by simp) (fun z hz=>by
  simp only[List.mem_cons,List.not_mem_nil,or_false]at hz;rcases hz with rfl|rfl
  ·exact hx
  ·exact hy)
 simpa[List.flatMap_cons]using h
theorem Xy (w:World)(ps:List Part)(t:TypeId)(hn:ps.length<=4096)(hp:Kz w ps):Cd (w.alloc (.cells (ps.map Part.val).toArray t)) (some ⟨w.heap.size,0,none⟩) ps.length ps.length (ps.map Part.word):=
 ⟨ps,rfl,⟨by simp,rr,by unfold maxLen;omega,(fun h=>by cases h),fun _=>⟨w.heap.size,0,rfl,by simp,fun j v hv=>by rw[Nat.zero_add];exact B7 (by simpa using hv)⟩⟩,
  fun p hp'=>(hp p hp').below ((Below.refl w.heap.size w).alloc rr _) rr⟩
end Go.Proofs.YtaglfmlgbcmakaaGreatDoor
