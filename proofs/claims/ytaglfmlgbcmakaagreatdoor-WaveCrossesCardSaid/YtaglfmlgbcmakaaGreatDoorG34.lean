/-
  The sounds and laws of the examples, in plain words.
  Appends to a list of laws of one's own.
  Slices that are built of laws.
  Slices that are built.
-/
import Derived.Test.YtaglfmlgbcmakaaGreatDoorG15
set_option linter.all false
set_option maxRecDepth 100000
set_option maxHeartbeats 4000000
namespace Go.Proofs.YtaglfmlgbcmakaaGreatDoor
open Go.RowKit Go.Shelf
def sA:Snd:=(5,2)
def sP:Snd:=(2,5)
def sB:Snd:=(3,4)
theorem Gi {fn:Func}{p:Tmp}(h:fn.results= #[.cell p 49])(tmps:Array Value)(w:World)(b:Nat)(x y:Int)(hp:tmps.getD p undef= .pointer (some ⟨b,0,none⟩))(hr:w.heap[b]? =some (.cells #[.int .u32 x, .int .u32 y] 49 (0,0))):
  (results fn tmps).run Tryz.prog w= .ok (Ed x y) w:=by
 have a0:tmps[p]?.getD undef= .pointer (some ⟨b,0,none⟩):=by simpa using hp
 have h0:=Ad (j:=0) hr rfl;have h1:=Ad (j:=1) hr rfl;simp[results,h,a0,asAddr,go_sem,h0,h1]
def Amj:Nd×Fo:=(⟨1,4,0,false,0,0⟩, .nil)
def vD:Bi:={name:=⟨#[86]⟩,left:=Amj,right:=Amj,ifs:=[(2,0)],outs:=[⟨0,0,1,0,0,0⟩],mode:=1}
def fD:Bi:={name:=⟨#[70]⟩,left:=(⟨0,0,0,false,0,0⟩, .nil),right:=(⟨6,0,0,false,0,0⟩, .nil),ifs:=[(4,0)],outs:=[],mode:=1}
def Afy (w:World)(l:Bi)(e:Ending)(w':World):Prop:=∃a,e= .returned (Ez l a)/\Ew w' l a/\Below w.heap.size w w'
theorem Rg (w:World):FSl w none 0 0 .nil:=⟨⟨rfl,rr,by simp[maxLen],fun _=>rfl⟩,trivial⟩
theorem Ya {w:World}{b:Nat}{s:Snd}{t:TypeId}(h:w.heap[b]? =some (.cells #[.int .u32 s.1, .int .u32 s.2] t (0,0))):Aj w (some ⟨b,0,none⟩) 1 1 [s]:=
 ⟨rfl,rr,by unfold maxLen;omega,(fun h=>by cases h),fun _=>⟨b,0,rfl,lt_of_block h,fun j v hv=>by rw[Nat.zero_add];exact Ad h (by simpa[Ce]using hv)⟩⟩
def Ame:Value:= .agg #[.string ⟨#[]⟩, .int .i64 0, .int .u32 0, .int .u32 0, .bool false, .int .i64 0, .int .i64 0, .slice none 0 0, .int .i64 0, .int .u32 0, .int .u32 0, .bool false, .int .i64 0, .int .i64 0, .slice none 0 0, .slice none 0 0, .slice none 0 0, .int .i64 0]
theorem Xo:(Tryz.prog.info? 55).map (fun i=>(i.zero,i.size,i.bytes))=some (some Ame,18,200):=by kernel_rfl
theorem Uj:Ame.cells.size=18:=by kernel_rfl
theorem Xp (xs:List Bj):∀u∈xs.flatMap Bj.cells,u.oneCell'=true:=by
 intro u hu;obtain⟨x,_,hx⟩:=List.mem_flatMap.1 hu;have h:=Ajv x.l x.a;rw[Array.all_eq_true_iff_forall_mem]at h;exact h u (by simpa[Bj.cells]using hx)
theorem Xq {ops:Array Oper}{rest:List Oper}{o:Oper}{a:Act}{w:World}{Q:Exit->Act->World->Prop}(hgd:o.guard=none)(s x:Operand)
  (ho:o.op= .call {callee:= .builtin .append,args:= #[s,x],argTypes:= #[26,26]})
  (base:Nat) (v:Value) (n:Nat) (xs:List Bj) (hs:a.eval s=v) (hown:w.ownsRow base 55 18 v n (xs.flatMap Bj.cells))
  (A:Option Addr) (m c:Nat) (ys:List Bj) (hx:a.eval x= .slice A m c) (hr:Cr Bj.cells 18 w A m c ys) (hl:n+m<=4096) (hbase:base<=w.heap.size)
  (h:∀v' w',w'.ownsRow base 55 18 v' (n+m) ((xs++ys).flatMap Bj.cells)->w.grownBy w' v.ownBlock->(v'= .slice none 0 0↔v= .slice none 0 0/\m=0)→
   wpList Tryz.prog ops Q rest (a.put o.dst v') w'):wpList Tryz.prog ops Q (o::rest) a w:=by
 obtain⟨i0,hi,a1,a2,a0⟩:=info_parts Xo
 refine Ek w hgd s x 26 ho base 55 i0 _ 18 200 Tryz.underlying26 hi a1 a2 a0 Uj (by decide) v n _ hs hown A m c _ hx hr.1
  (Xp ys) (by unfold maxLen;omega) (by omega) hbase ?_
 rw[←List.flatMap_append];exact h
def Ach (w:World)(xs:List Bj)(e:Ending)(w':World):Prop:=
 ∃A n c,e= .returned (.slice A n c)/\Br w' A n c xs/\Below w.heap.size w w'∧∀ad,A=some ad->w.heap.size<=ad.block
theorem Ach.of_own {w w':World}{xs:List Bj}{base:Nat}{n:Nat}{v:Value}{e:Ending}(he:e= .returned v)(h:w'.ownsRow base 55 18 v n (xs.flatMap Bj.cells))(hl:∀x∈xs,Ew w' x.l x.a)(hb:Below w.heap.size w w')(hbase:w.heap.size<=base):
  Ach w xs e w':=by
 obtain⟨A,c,rfl⟩:=Bh h;refine⟨A,n,c,he,⟨Cr.of_own h Bj.len (by decide),hl⟩,hb,fun ad had=> ?_⟩
 subst had;exact Nat.le_trans hbase (h.lt ad.block rfl).1
theorem Rp (x:Bj)(w:World):(Instr.buildSlice 26 1 #[(0,Ez x.l x.a)]).run Tryz.prog w= .ok (.slice (some ⟨w.heap.size,0,none⟩) 1 1) (w.alloc (.cells (x.cells).toArray 55)):=by kernel_rfl
theorem Aah (x y:Bj)(w:World):(Instr.buildSlice 26 2 #[(0,Ez x.l x.a),(1,Ez y.l y.a)]).run Tryz.prog w= .ok (.slice (some ⟨w.heap.size,0,none⟩) 2 2) (w.alloc (.cells (x.cells++y.cells).toArray 55)):=by kernel_rfl
section
variable {ops:Array Oper}{rest:List Oper}{op:Oper}{ac:Act}{w:World}{Q:Exit->Act->World->Prop}
theorem Aai (hgd:op.guard=none)(p q:Operand)(ho:op.op= .buildSlice 26 2 #[(0,p),(1,q)])(x y:Bj)(hp:ac.eval p=Ez x.l x.a)(hq:ac.eval q=Ez y.l y.a)
  (h:wpList Tryz.prog ops Q rest (ac.put op.dst (.slice (some ⟨w.heap.size,0,none⟩) 2 2)) (w.alloc (.cells (x.cells++y.cells).toArray 55))):wpList Tryz.prog ops Q (op::rest) ac w:=by
 refine wpList_plain hgd fun K hK=> ?_
 have hr:=Aah x y w;unfold Oper.wp execOp;simp only[ho,List.map_toArray,List.map_cons,List.map_nil,hp,hq,hr,Sem.run_bind,Sem.run_pure,Result.andThen_ok];exact hK _ _ h
theorem Aaj (hgd:op.guard=none)(p:Operand)(ho:op.op= .buildSlice 26 1 #[(0,p)])(x:Bj)(hp:ac.eval p=Ez x.l x.a)
  (h:wpList Tryz.prog ops Q rest (ac.put op.dst (.slice (some ⟨w.heap.size,0,none⟩) 1 1)) (w.alloc (.cells (x.cells).toArray 55))):wpList Tryz.prog ops Q (op::rest) ac w:=by
 refine wpList_plain hgd fun K hK=> ?_
 have hr:=Rp x w;unfold Oper.wp execOp;simp only[ho,List.map_toArray,List.map_cons,List.map_nil,hp,hr,Sem.run_bind,Sem.run_pure,Result.andThen_ok];exact hK _ _ h
end
theorem Aak (w:World)(xs:List Bj)(t:TypeId)(hn:xs.length<=4096)(hl:∀x∈xs,Ew w x.l x.a):Br (w.alloc (.cells (xs.flatMap Bj.cells).toArray t)) (some ⟨w.heap.size,0,none⟩) xs.length xs.length xs:=
 ⟨⟨⟨Ld Bj.cells 18 Bj.len xs,rr,by unfold maxLen;omega,(fun h=>by cases h),fun _=>⟨w.heap.size,0,rfl,by simp,fun j v hv=>by rw[Nat.zero_add];exact Ch (by simpa using hv)⟩⟩,rfl⟩,
  fun x hx=>(hl x hx).below ((Below.refl w.heap.size w).alloc rr _) rr⟩
theorem Xt (w:World)(x y:Bj)(t:TypeId)(hx:Ew w x.l x.a)(hy:Ew w y.l y.a):Br (w.alloc (.cells (x.cells++y.cells).toArray t)) (some ⟨w.heap.size,0,none⟩) 2 2 [x,y]:=by
 have h:=Aak w [x,y] t (by simp) (fun z hz=>by
  simp only[List.mem_cons,List.not_mem_nil,or_false]at hz;rcases hz with rfl|rfl
  ·exact hx
  ·exact hy)
 simpa[List.flatMap_cons]using h
theorem Z7 (w:World)(ps:List Part)(t:TypeId)(hn:ps.length<=4096)(hp:Ko w ps):B3 (w.alloc (.cells (ps.map Part.val).toArray t)) (some ⟨w.heap.size,0,none⟩) ps.length ps.length (ps.map Part.word):=
 ⟨ps,rfl,⟨by simp,rr,by unfold maxLen;omega,(fun h=>by cases h),fun _=>⟨w.heap.size,0,rfl,by simp,fun j v hv=>by rw[Nat.zero_add];exact Ch (by simpa using hv)⟩⟩,
  fun p hp'=>(hp p hp').below ((Below.refl w.heap.size w).alloc rr _) rr⟩
end Go.Proofs.YtaglfmlgbcmakaaGreatDoor
