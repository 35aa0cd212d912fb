/-
  The last region of ablautlaw11.works, operation by operation (printed by wip/tools/wk11.py).
-/
import Derived.Test.YtlgliddhideflaaGreatDoorH07
set_option linter.all false
set_option maxRecDepth 100000
set_option maxHeartbeats 4000000
namespace Go.Proofs.YtlgliddhideflaaGreatDoor
open Go.RowKit Go.Shelf
def Xh:Nat->Code->Code
 |0,c=>c
 |n+1, .seq _ c=>Xh n c
 |_,c=>c
def Ago:Code->Array Oper
 | .seq (.region _ ops _) _=>ops
 | .region _ ops _=>ops
 |_=> #[]
noncomputable def B8:Array Oper:=Ago (Xh 7 (Tryz.f42.body.getD .skip))
theorem Aq {w:World}{b:Nat}{u v:Value}{t:TypeId}(h:w.heap[b]? =some (.cells #[u,v] t (0,0))):
  w.cell? ⟨b,0,none⟩=some u/\w.cell? ⟨b,1,none⟩=some v/\w.frozen? ⟨b,0,none⟩=false/\w.frozen? ⟨b,1,none⟩=false:=by
 simp[World.cell?,World.frozen?,h]
def Sp (w:World)(v:Value)(x:List Snd):Prop:=∃A n c,v= .slice A n c/\Ab w A n c x
def Zc (w:World)(v:Value)(x:List (List Snd)):Prop:=∃A n c,v= .slice A n c/\B5 w A n c x
theorem Sp.below {w w':World}{v:Value}{x:List Snd}(h:Sp w v x)(hb:Below w.heap.size w w'):Sp w' v x:=by
 obtain⟨A,n,c,e,h⟩:=h;exact⟨A,n,c,e,h.below hb rr⟩
theorem Zc.below {w w':World}{v:Value}{x:List (List Snd)}(h:Zc w v x)(hb:Below w.heap.size w w'):Zc w' v x:=by
 obtain⟨A,n,c,e,h⟩:=h;exact⟨A,n,c,e,h.below hb rr⟩
def F3 (Ax:Option Addr)(nx cx:Nat)(Ay:Option Addr)(ny cy bq oq cz:Nat)(s:Ci)(i:Nat)(v:Value)(w:World):Prop:=match i with
 |0|16|30|65=>v= .int .i64 0
 |3=>v= .slice Ax nx cx
 |20=>v= .slice Ay ny cy
 |34|39|50=>v= .slice (some ⟨bq,oq,none⟩) 1 cz
 |35=>v= .int .i64 1
 |61=>v= .int .i64 6
 |4|6|8|10|43|45|54|56=>v= .agg #[.int .u32 5, .int .u32 2]
 |5|22|44=>v= .agg #[.int .u32 2, .int .u32 5]
 |9|24|55=>v= .agg #[.int .u32 3, .int .u32 4]
 |40|41|51=>v= .pointer (some ⟨bq,oq,none⟩)
 |52=>v= .pointer (some ⟨bq,oq+1,none⟩)
 |42=>v= .slice s.p.1 s.p.2.1 s.p.2.2.1
 |53=>v= .slice s.q.1 s.q.2.1 s.q.2.2.1
 |7|46=>Sp w v [sA,sP,sA]
 |11|57=>Sp w v [sA,sB,sA]
 |21=>Sp w v []
 |23=>Sp w v [sP]
 |25=>Sp w v [sB]
 |12=>Zc w v [[sA,sP,sA],[sA,sB,sA]]
 |26=>Zc w v [[],[sP],[sB]]
 |_=>v= .bool true
theorem Wj {Ax:Option Addr}{nx cx:Nat}{Ay:Option Addr}{ny cy bq oq cz:Nat}{s:Ci}{i:Nat}{v:Value}{w w':World}(h:F3 Ax nx cx Ay ny cy bq oq cz s i v w)(hb:Below w.heap.size w w'):F3 Ax nx cx Ay ny cy bq oq cz s i v w':=by
 unfold F3 at*;split at h<;>first|exact Sp.below h hb|exact Zc.below h hb|exact h
theorem Adc {ops:Array Oper}{s:Nat}(h:(ops.all fun o=>o.dst !=some s)=true):∀j,Db ops j≠some s:=by
 intro j hj;unfold Db at hj
 cases ho:ops[j]? with
 |none=>rw[ho]at hj;cases hj
 |some o=>
  rw[ho]at hj;have h1:=Array.all_eq_true'.1 h o (Array.mem_of_getElem? ho);have h2:o.dst=some s:=hj;rw[h2]at h1;simp at h1
theorem Un {ops:Array Oper}{o:Oper}{t:Array Value}{g s:Nat}(ho:o.guard=some (g,true))(hd:Db ops g=some s)(hv:t[s]? =some (.bool true)):Region.wanted o (yielded ops t)=true:=by
 unfold Region.wanted;rw[ho];unfold yielded;unfold Db at hd;simp only[hd,Option.bind_some,hv];rfl
structure FrW (Ax:Option Addr)(nx cx:Nat)(Ay:Option Addr)(ny cy bq oq cz x y z:Nat)(a0:Act):Prop where
 sz:a0.tmps.size=128
 t4:a0.tmps[4]? =some (.pointer (some ⟨x,0,none⟩))
 t5:a0.tmps[5]? =some (.pointer (some ⟨y,0,none⟩))
 t6:a0.tmps[6]? =some (.pointer (some ⟨z,0,none⟩))
 t7:a0.tmps[7]? =some (.slice Ax nx cx)
 t8:a0.tmps[8]? =some (.int .i64 0)
 t9:a0.tmps[9]? =some (.slice Ay ny cy)
 t10:a0.tmps[10]? =some (.int .i64 0)
 t11:a0.tmps[11]? =some (.slice (some ⟨bq,oq,none⟩) 1 cz)
 t12:a0.tmps[12]? =some (.int .i64 0)
 t13:a0.tmps[13]? =some (.int .i64 6)
 t14:a0.tmps[14]? =some (.int .i64 0)
structure WoW (Ax:Option Addr)(nx cx:Nat)(Ay:Option Addr)(ny cy bq oq x y z:Nat)(s:Ci)(W:World):Prop where
 kx:W.heap[x]? =some (.cells #[.int .u32 2, .int .u32 5] 24 (0,0))
 ky:W.heap[y]? =some (.cells #[.int .u32 3, .int .u32 4] 24 (0,0))
 kz:W.heap[z]? =some (.cells #[.int .u32 5, .int .u32 2] 24 (0,0))
 r1:B5 W Ax nx cx [[sA,sP,sA],[sA,sB,sA]]
 r2:B5 W Ay ny cy [[],[sP],[sB]]
 lt:bq<W.heap.size
 cp:W.cell? ⟨bq,oq,none⟩=some (.slice s.p.1 s.p.2.1 s.p.2.2.1)
 cq:W.cell? ⟨bq,oq+1,none⟩=some (.slice s.q.1 s.q.2.1 s.q.2.2.1)
 pp:Ab W s.p.1 s.p.2.1 s.p.2.2.1 [sA,sP,sA]
 pq:Ab W s.q.1 s.q.2.1 s.q.2.2.1 [sA,sB,sA]
set_option maxRecDepth 100000
section
variable {Ax:Option Addr}{nx cx:Nat}{Ay:Option Addr}{ny cy bq oq cz:Nat}{s:Ci}{x y z:Nat}{a0:Act}{o:Oper}{a:Act}{w':World}{i:Nat}
theorem Cg {op:Op}(ho:B8[i]? =some o)(h:B8[i]?.map (fun o=>o.op)=some op:=by kernel_rfl):o.op=op:=by
 rw[ho]at h;simpa using h
theorem dq (j k:Nat)(F:FrW Ax nx cx Ay ny cy bq oq cz x y z a0)(ho:B8[i]? =some o)(hs:Dk .any B8 (F3 Ax nx cx Ay ny cy bq oq cz s) a0 o a w')(hj:Mp B8 i j=true:=by kernel_rfl)(hd:Db B8 j=some k:=by kernel_rfl)(hz:k<128:=by decide):
  ∃v,F3 Ax nx cx Ay ny cy bq oq cz s j v w'/\a.tmps[k]? =some v/\a.eval (.tmp k)=v:=Ab7 j k ho hs hj hd (by rw[F.sz];exact hz)
theorem rg {k:Nat}{v:Value}(hs:Dk .any B8 (F3 Ax nx cx Ay ny cy bq oq cz s) a0 o a w')(h:a0.tmps[k]? =some v)(hn:(B8.all fun o=>o.dst !=some k)=true:=by kernel_rfl):a.eval (.tmp k)=v:=by
 have ht:=(hs.2.1 k (Adc hn)).trans h;simp[Act.eval,ht]
theorem gdW {g k:Nat}(F:FrW Ax nx cx Ay ny cy bq oq cz x y z a0)(ho:B8[i]? =some o)(hs:Dk .any B8 (F3 Ax nx cx Ay ny cy bq oq cz s) a0 o a w')(hd:Db B8 g=some k)(hz:k<128)(hp:∀v w,F3 Ax nx cx Ay ny cy bq oq cz s g v w->v= .bool true)
  (hj:Mp B8 i g=true:=by kernel_rfl) (hg:B8[i]?.map (fun o=>o.guard)=some (some (g,true)):=by kernel_rfl):Region.wanted o (yielded B8 a.tmps)=true:=by
 obtain⟨v,hv,ht,_⟩:=Ab7 g k ho hs hj hd (by rw[F.sz];exact hz);obtain rfl:=hp v _ hv;exact Un (by rw[ho]at hg;simpa using hg) hd ht
def StW (Ax:Option Addr)(nx cx:Nat)(Ay:Option Addr)(ny cy bq oq cz:Nat)(s:Ci)(i:Nat):Prop:=∀{x y z:Nat} {W:World} {a0:Act} {Q:Exit->Act->World->Prop} (_:FrW Ax nx cx Ay ny cy bq oq cz x y z a0) (_:WoW Ax nx cx Ay ny cy bq oq x y z s W) {o:Oper} {a:Act} {w':World}
  (_:B8[i]? =some o) (_:Dk .any B8 (F3 Ax nx cx Ay ny cy bq oq cz s) a0 o a w') (_:Below W.heap.size W w'),o.wp Tryz.prog a w' (fun a' w''=>∃v,a'=a.put o.dst v/\F3 Ax nx cx Ay ny cy bq oq cz s i v w''/\Below w'.heap.size w' w'') Q
theorem Ps (F:FrW Ax nx cx Ay ny cy bq oq cz x y z a0)(ho:B8[i]? =some o)(hs:Dk .any B8 (F3 Ax nx cx Ay ny cy bq oq cz s) a0 o a w')(hj:Mp B8 i 2=true:=by kernel_rfl)(hg:B8[i]?.map (fun o=>o.guard)=some (some (2,true)):=by kernel_rfl):Region.wanted o (yielded B8 a.tmps)=true:=gdW (g:=2) (k:=62) F ho hs (by kernel_rfl) (by decide) (fun _ _ h=>h) hj hg
theorem Adm (F:FrW Ax nx cx Ay ny cy bq oq cz x y z a0)(ho:B8[i]? =some o)(hs:Dk .any B8 (F3 Ax nx cx Ay ny cy bq oq cz s) a0 o a w')(hj:Mp B8 i 15=true:=by kernel_rfl)(hg:B8[i]?.map (fun o=>o.guard)=some (some (15,true)):=by kernel_rfl):Region.wanted o (yielded B8 a.tmps)=true:=gdW (g:=15) (k:=75) F ho hs (by kernel_rfl) (by decide) (fun _ _ h=>h) hj hg
theorem M3 (F:FrW Ax nx cx Ay ny cy bq oq cz x y z a0)(ho:B8[i]? =some o)(hs:Dk .any B8 (F3 Ax nx cx Ay ny cy bq oq cz s) a0 o a w')(hj:Mp B8 i 19=true:=by kernel_rfl)(hg:B8[i]?.map (fun o=>o.guard)=some (some (19,true)):=by kernel_rfl):Region.wanted o (yielded B8 a.tmps)=true:=gdW (g:=19) (k:=79) F ho hs (by kernel_rfl) (by decide) (fun _ _ h=>h) hj hg
theorem Adn (F:FrW Ax nx cx Ay ny cy bq oq cz x y z a0)(ho:B8[i]? =some o)(hs:Dk .any B8 (F3 Ax nx cx Ay ny cy bq oq cz s) a0 o a w')(hj:Mp B8 i 29=true:=by kernel_rfl)(hg:B8[i]?.map (fun o=>o.guard)=some (some (29,true)):=by kernel_rfl):Region.wanted o (yielded B8 a.tmps)=true:=gdW (g:=29) (k:=89) F ho hs (by kernel_rfl) (by decide) (fun _ _ h=>h) hj hg
theorem Ab2 (F:FrW Ax nx cx Ay ny cy bq oq cz x y z a0)(ho:B8[i]? =some o)(hs:Dk .any B8 (F3 Ax nx cx Ay ny cy bq oq cz s) a0 o a w')(hj:Mp B8 i 33=true:=by kernel_rfl)(hg:B8[i]?.map (fun o=>o.guard)=some (some (33,true)):=by kernel_rfl):Region.wanted o (yielded B8 a.tmps)=true:=gdW (g:=33) (k:=93) F ho hs (by kernel_rfl) (by decide) (fun _ _ h=>h) hj hg
theorem L5 (F:FrW Ax nx cx Ay ny cy bq oq cz x y z a0)(ho:B8[i]? =some o)(hs:Dk .any B8 (F3 Ax nx cx Ay ny cy bq oq cz s) a0 o a w')(hj:Mp B8 i 38=true:=by kernel_rfl)(hg:B8[i]?.map (fun o=>o.guard)=some (some (38,true)):=by kernel_rfl):Region.wanted o (yielded B8 a.tmps)=true:=gdW (g:=38) (k:=98) F ho hs (by kernel_rfl) (by decide) (fun _ _ h=>h) hj hg
theorem L6 (F:FrW Ax nx cx Ay ny cy bq oq cz x y z a0)(ho:B8[i]? =some o)(hs:Dk .any B8 (F3 Ax nx cx Ay ny cy bq oq cz s) a0 o a w')(hj:Mp B8 i 49=true:=by kernel_rfl)(hg:B8[i]?.map (fun o=>o.guard)=some (some (49,true)):=by kernel_rfl):Region.wanted o (yielded B8 a.tmps)=true:=gdW (g:=49) (k:=109) F ho hs (by kernel_rfl) (by decide) (fun _ _ h=>h) hj hg
theorem Ado (F:FrW Ax nx cx Ay ny cy bq oq cz x y z a0)(ho:B8[i]? =some o)(hs:Dk .any B8 (F3 Ax nx cx Ay ny cy bq oq cz s) a0 o a w')(hj:Mp B8 i 60=true:=by kernel_rfl)(hg:B8[i]?.map (fun o=>o.guard)=some (some (60,true)):=by kernel_rfl):Region.wanted o (yielded B8 a.tmps)=true:=gdW (g:=60) (k:=120) F ho hs (by kernel_rfl) (by decide) (fun _ _ h=>h) hj hg
theorem Adp (F:FrW Ax nx cx Ay ny cy bq oq cz x y z a0)(ho:B8[i]? =some o)(hs:Dk .any B8 (F3 Ax nx cx Ay ny cy bq oq cz s) a0 o a w')(hj:Mp B8 i 64=true:=by kernel_rfl)(hg:B8[i]?.map (fun o=>o.guard)=some (some (64,true)):=by kernel_rfl):Region.wanted o (yielded B8 a.tmps)=true:=gdW (g:=64) (k:=124) F ho hs (by kernel_rfl) (by decide) (fun _ _ h=>h) hj hg
theorem Agp:StW Ax nx cx Ay ny cy bq oq cz s 0:=by
 intro x y z W a0 Q F G o a w' ho hs hb;have a1:=Cg (op:= .move (.tmp 8)) ho;have a2:=rg hs F.t8;exact Ch _ a1 a2 ⟨_,rfl,rfl,Below.refl _ _⟩
theorem Agq:StW Ax nx cx Ay ny cy bq oq cz s 1:=by
 intro x y z W a0 Q F G o a w' ho hs hb;have a4:=Cg (op:= .binOp .eql 37 (.tmp 60) (.const (.int .i64 0)) 37) ho;obtain⟨v60,a2,a3,a1⟩:=dq 0 60 F ho hs;obtain rfl:v60= .int .i64 0:=a2;exact Hj _ _ _ _ a4 (by decide) a1 rfl ⟨_,rfl,rfl,Below.refl _ _⟩
theorem Agr:StW Ax nx cx Ay ny cy bq oq cz s 2:=by
 intro x y z W a0 Q F G o a w' ho hs hb;have a3:=Cg (op:= .move (.tmp 61)) ho;obtain⟨v61,a1,a4,a2⟩:=dq 1 61 F ho hs;obtain rfl:v61= .bool true:=a1;exact Ch _ a3 a2 ⟨_,rfl,rfl,Below.refl _ _⟩
theorem Ags:StW Ax nx cx Ay ny cy bq oq cz s 3:=by
 intro x y z W a0 Q F G o a w' ho hs hb;have a2:=Cg (op:= .move (.tmp 7)) ho;have a1:=rg hs F.t7;exact Ch _ a2 a1 ⟨_,rfl,rfl,Below.refl _ _⟩
theorem Agt:StW Ax nx cx Ay ny cy bq oq cz s 4:=by
 intro x y z W a0 Q F G o a w' ho hs hb;have a2:=Cg (op:= .load 24 (.tmp 6)) ho;have a1:=rg hs F.t6;obtain⟨d0,d1,_,_⟩:=Aq ((hb.block _ (lt_of_block G.kz)).trans G.kz);exact Dj _ a2 a1 d0 d1 ⟨_,rfl,rfl,Below.refl _ _⟩
theorem Agu:StW Ax nx cx Ay ny cy bq oq cz s 5:=by
 intro x y z W a0 Q F G o a w' ho hs hb;have a2:=Cg (op:= .load 24 (.tmp 4)) ho;have a1:=rg hs F.t4;obtain⟨d0,d1,_,_⟩:=Aq ((hb.block _ (lt_of_block G.kx)).trans G.kx);exact Dj _ a2 a1 d0 d1 ⟨_,rfl,rfl,Below.refl _ _⟩
theorem Agv:StW Ax nx cx Ay ny cy bq oq cz s 6:=by
 intro x y z W a0 Q F G o a w' ho hs hb;have a2:=Cg (op:= .load 24 (.tmp 6)) ho;have a1:=rg hs F.t6;obtain⟨d0,d1,_,_⟩:=Aq ((hb.block _ (lt_of_block G.kz)).trans G.kz);exact Dj _ a2 a1 d0 d1 ⟨_,rfl,rfl,Below.refl _ _⟩
theorem Agw:StW Ax nx cx Ay ny cy bq oq cz s 7:=by
 intro x y z W a0 Q F G o a w' ho hs hb;have b0:=Cg (op:= .buildSlice 32 3 #[(0, .tmp 64),(1, .tmp 65),(2, .tmp 66)]) ho;obtain⟨v64,a1,a5,a8⟩:=dq 4 64 F ho hs;obtain rfl:v64= .agg #[.int .u32 5, .int .u32 2]:=a1;obtain⟨v65,a4,a3,a9⟩:=dq 5 65 F ho hs;obtain rfl:v65= .agg #[.int .u32 2, .int .u32 5]:=a4;obtain⟨v66,a6,a2,a7⟩:=dq 6 66 F ho hs;obtain rfl:v66= .agg #[.int .u32 5, .int .u32 2]:=a6;exact L7 _ _ _ b0 (s:=sA) (t:=sP) (u:=sA) a5 a3 a2 ⟨_,rfl,⟨_,_,_,rfl,C5 w' [sA,sP,sA] 24 (by simp)⟩,bel⟩
theorem Agx:StW Ax nx cx Ay ny cy bq oq cz s 8:=by
 intro x y z W a0 Q F G o a w' ho hs hb;have a2:=Cg (op:= .load 24 (.tmp 6)) ho;have a1:=rg hs F.t6;obtain⟨d0,d1,_,_⟩:=Aq ((hb.block _ (lt_of_block G.kz)).trans G.kz);exact Dj _ a2 a1 d0 d1 ⟨_,rfl,rfl,Below.refl _ _⟩
theorem Agy:StW Ax nx cx Ay ny cy bq oq cz s 9:=by
 intro x y z W a0 Q F G o a w' ho hs hb;have a2:=Cg (op:= .load 24 (.tmp 5)) ho;have a1:=rg hs F.t5;obtain⟨d0,d1,_,_⟩:=Aq ((hb.block _ (lt_of_block G.ky)).trans G.ky);exact Dj _ a2 a1 d0 d1 ⟨_,rfl,rfl,Below.refl _ _⟩
theorem Ael:StW Ax nx cx Ay ny cy bq oq cz s 10:=by
 intro x y z W a0 Q F G o a w' ho hs hb;have a2:=Cg (op:= .load 24 (.tmp 6)) ho;have a1:=rg hs F.t6;obtain⟨d0,d1,_,_⟩:=Aq ((hb.block _ (lt_of_block G.kz)).trans G.kz);exact Dj _ a2 a1 d0 d1 ⟨_,rfl,rfl,Below.refl _ _⟩
theorem Aem:StW Ax nx cx Ay ny cy bq oq cz s 11:=by
 intro x y z W a0 Q F G o a w' ho hs hb;have b0:=Cg (op:= .buildSlice 32 3 #[(0, .tmp 68),(1, .tmp 69),(2, .tmp 70)]) ho;obtain⟨v68,a3,a6,a8⟩:=dq 8 68 F ho hs;obtain rfl:v68= .agg #[.int .u32 5, .int .u32 2]:=a3;obtain⟨v69,a1,a4,a7⟩:=dq 9 69 F ho hs;obtain rfl:v69= .agg #[.int .u32 3, .int .u32 4]:=a1;obtain⟨v70,a2,a5,a9⟩:=dq 10 70 F ho hs;obtain rfl:v70= .agg #[.int .u32 5, .int .u32 2]:=a2;exact L7 _ _ _ b0 (s:=sA) (t:=sB) (u:=sA) a6 a4 a5 ⟨_,rfl,⟨_,_,_,rfl,C5 w' [sA,sB,sA] 24 (by simp)⟩,bel⟩
theorem Aen:StW Ax nx cx Ay ny cy bq oq cz s 12:=by
 intro x y z W a0 Q F G o a w' ho hs hb;have a9:=Cg (op:= .buildSlice 46 2 #[(0, .tmp 67),(1, .tmp 71)]) ho;obtain⟨v67,a1,a3,a8⟩:=dq 7 67 F ho hs;obtain⟨A67,n67,c67,rfl,a5⟩:=a1;obtain⟨v71,a6,a2,a7⟩:=dq 11 71 F ho hs;obtain⟨A71,n71,c71,rfl,a4⟩:=a6;refine Ab5 _ _ a9 (p:=(A67,n67,c67,[sA,sP,sA])) (q:=(A71,n71,c71,[sA,sB,sA])) a3 a2 ⟨_,rfl,⟨_,_,_,rfl,M2 w' [(A67,n67,c67,[sA,sP,sA]),(A71,n71,c71,[sA,sB,sA])] 32 (by simp) ?_⟩,bel⟩;intro p hp;simp only[List.mem_cons,List.not_mem_nil,or_false]at hp;rcases hp with rfl|rfl
 ·exact a5
 ·exact a4
theorem Aeo:StW Ax nx cx Ay ny cy bq oq cz s 13:=by
 intro x y z W a0 Q F G o a w' ho hs hb;have a8:=Cg (op:= .call {callee:= .value (.func 45),args:= #[.tmp 63, .tmp 72],argTypes:= #[46,46]}) ho;obtain⟨v63,a2,a4,a7⟩:=dq 3 63 F ho hs;obtain rfl:v63= .slice Ax nx cx:=a2;obtain⟨v72,a5,a3,a6⟩:=dq 12 72 F ho hs;obtain⟨A72,n72,c72,rfl,a1⟩:=a5;refine J2 _ _ _ _ a8 a4 a3 (enters_of Tryz.func45 (by kernel_rfl) rfl) ?_ (fun w2 h2=>⟨_,rfl,rfl,h2⟩);refine(Xa Ax A72 nx n72 cx c72 [[sA,sP,sA],[sA,sB,sA]] [[sA,sP,sA],[sA,sB,sA]] w' (G.r1.below hb rr) a1).mono ?_;rintro e w2 ⟨rfl,a9⟩;exact⟨by rw[decide_eq_true rfl],a9⟩
theorem Aep:StW Ax nx cx Ay ny cy bq oq cz s 14:=by
 intro x y z W a0 Q F G o a w' ho hs hb;have a7:=Cg (op:= .pick (.tmp 62) (.tmp 73) (.const (.bool false))) ho;obtain⟨v62,a3,a5,a4⟩:=dq 2 62 F ho hs;obtain rfl:v62= .bool true:=a3;obtain⟨v73,a2,a6,a1⟩:=dq 13 73 F ho hs;obtain rfl:v73= .bool true:=a2;exact D4 _ _ _ a7 a4 a1 ⟨_,rfl,rfl,Below.refl _ _⟩
theorem Aeq:StW Ax nx cx Ay ny cy bq oq cz s 15:=by
 intro x y z W a0 Q F G o a w' ho hs hb;have a3:=Cg (op:= .move (.tmp 74)) ho;obtain⟨v74,a1,a4,a2⟩:=dq 14 74 F ho hs;obtain rfl:v74= .bool true:=a1;exact Ch _ a3 a2 ⟨_,rfl,rfl,Below.refl _ _⟩
theorem Aer:StW Ax nx cx Ay ny cy bq oq cz s 16:=by
 intro x y z W a0 Q F G o a w' ho hs hb;have a2:=Cg (op:= .move (.tmp 10)) ho;have a1:=rg hs F.t10;exact Ch _ a2 a1 ⟨_,rfl,rfl,Below.refl _ _⟩
theorem Aes:StW Ax nx cx Ay ny cy bq oq cz s 17:=by
 intro x y z W a0 Q F G o a w' ho hs hb;have a4:=Cg (op:= .binOp .eql 37 (.tmp 76) (.const (.int .i64 0)) 37) ho;obtain⟨v76,a1,a3,a2⟩:=dq 16 76 F ho hs;obtain rfl:v76= .int .i64 0:=a1;exact Hj _ _ _ _ a4 (by decide) a2 rfl ⟨_,rfl,rfl,Below.refl _ _⟩
theorem Aet:StW Ax nx cx Ay ny cy bq oq cz s 18:=by
 intro x y z W a0 Q F G o a w' ho hs hb;have a7:=Cg (op:= .pick (.tmp 75) (.tmp 77) (.const (.bool false))) ho;obtain⟨v75,a2,a5,a3⟩:=dq 15 75 F ho hs;obtain rfl:v75= .bool true:=a2;obtain⟨v77,a4,a6,a1⟩:=dq 17 77 F ho hs;obtain rfl:v77= .bool true:=a4;exact D4 _ _ _ a7 a3 a1 ⟨_,rfl,rfl,Below.refl _ _⟩
theorem Aeu:StW Ax nx cx Ay ny cy bq oq cz s 19:=by
 intro x y z W a0 Q F G o a w' ho hs hb;have a4:=Cg (op:= .move (.tmp 78)) ho;obtain⟨v78,a2,a3,a1⟩:=dq 18 78 F ho hs;obtain rfl:v78= .bool true:=a2;exact Ch _ a4 a1 ⟨_,rfl,rfl,Below.refl _ _⟩
theorem Aev:StW Ax nx cx Ay ny cy bq oq cz s 20:=by
 intro x y z W a0 Q F G o a w' ho hs hb;have a1:=Cg (op:= .move (.tmp 9)) ho;have a2:=rg hs F.t9;exact Ch _ a1 a2 ⟨_,rfl,rfl,Below.refl _ _⟩
theorem Aew:StW Ax nx cx Ay ny cy bq oq cz s 21:=by
 intro x y z W a0 Q F G o a w' ho hs hb;have a1:=Cg (op:= .buildSlice 32 0 #[]) ho;exact Ab4 a1 ⟨_,rfl,⟨_,_,_,rfl,C5 w' [] 24 (by simp)⟩,bel⟩
theorem Aex:StW Ax nx cx Ay ny cy bq oq cz s 22:=by
 intro x y z W a0 Q F G o a w' ho hs hb;have a2:=Cg (op:= .load 24 (.tmp 4)) ho;have a1:=rg hs F.t4;obtain⟨d0,d1,_,_⟩:=Aq ((hb.block _ (lt_of_block G.kx)).trans G.kx);exact Dj _ a2 a1 d0 d1 ⟨_,rfl,rfl,Below.refl _ _⟩
theorem Aey:StW Ax nx cx Ay ny cy bq oq cz s 23:=by
 intro x y z W a0 Q F G o a w' ho hs hb;have a4:=Cg (op:= .buildSlice 32 1 #[(0, .tmp 82)]) ho;obtain⟨v82,a1,a2,a3⟩:=dq 22 82 F ho hs;obtain rfl:v82= .agg #[.int .u32 2, .int .u32 5]:=a1;exact Up _ a4 (s:=sP) a2 ⟨_,rfl,⟨_,_,_,rfl,C5 w' [sP] 24 (by simp)⟩,bel⟩
theorem Aez:StW Ax nx cx Ay ny cy bq oq cz s 24:=by
 intro x y z W a0 Q F G o a w' ho hs hb;have a2:=Cg (op:= .load 24 (.tmp 5)) ho;have a1:=rg hs F.t5;obtain⟨d0,d1,_,_⟩:=Aq ((hb.block _ (lt_of_block G.ky)).trans G.ky);exact Dj _ a2 a1 d0 d1 ⟨_,rfl,rfl,Below.refl _ _⟩
theorem Ae0:StW Ax nx cx Ay ny cy bq oq cz s 25:=by
 intro x y z W a0 Q F G o a w' ho hs hb;have a4:=Cg (op:= .buildSlice 32 1 #[(0, .tmp 84)]) ho;obtain⟨v84,a1,a2,a3⟩:=dq 24 84 F ho hs;obtain rfl:v84= .agg #[.int .u32 3, .int .u32 4]:=a1;exact Up _ a4 (s:=sB) a2 ⟨_,rfl,⟨_,_,_,rfl,C5 w' [sB] 24 (by simp)⟩,bel⟩
theorem Ae1:StW Ax nx cx Ay ny cy bq oq cz s 26:=by
 intro x y z W a0 Q F G o a w' ho hs hb;have b2:=Cg (op:= .buildSlice 46 3 #[(0, .tmp 81),(1, .tmp 83),(2, .tmp 85)]) ho;obtain⟨v81,a4,a6,b1⟩:=dq 21 81 F ho hs;obtain⟨A81,n81,c81,rfl,a2⟩:=a4;obtain⟨v83,a8,a5,b3⟩:=dq 23 83 F ho hs;obtain⟨A83,n83,c83,rfl,a3⟩:=a8;obtain⟨v85,a7,a9,b0⟩:=dq 25 85 F ho hs;obtain⟨A85,n85,c85,rfl,a1⟩:=a7;refine Ab6 _ _ _ b2 (p:=(A81,n81,c81,[])) (q:=(A83,n83,c83,[sP])) (r:=(A85,n85,c85,[sB])) a6 a5 a9 ⟨_,rfl,⟨_,_,_,rfl,M2 w' [(A81,n81,c81,[]),(A83,n83,c83,[sP]),(A85,n85,c85,[sB])] 32 (by simp) ?_⟩,bel⟩;intro p hp;simp only[List.mem_cons,List.not_mem_nil,or_false]at hp;rcases hp with rfl|rfl|rfl
 ·exact a2
 ·exact a3
 ·exact a1
theorem Ae2:StW Ax nx cx Ay ny cy bq oq cz s 27:=by
 intro x y z W a0 Q F G o a w' ho hs hb;have a7:=Cg (op:= .call {callee:= .value (.func 45),args:= #[.tmp 80, .tmp 86],argTypes:= #[46,46]}) ho;obtain⟨v80,a5,a4,a8⟩:=dq 20 80 F ho hs;obtain rfl:v80= .slice Ay ny cy:=a5;obtain⟨v86,a2,a3,a6⟩:=dq 26 86 F ho hs;obtain⟨A86,n86,c86,rfl,a1⟩:=a2;refine J2 _ _ _ _ a7 a4 a3 (enters_of Tryz.func45 (by kernel_rfl) rfl) ?_ (fun w2 h2=>⟨_,rfl,rfl,h2⟩);refine(Xa Ay A86 ny n86 cy c86 [[],[sP],[sB]] [[],[sP],[sB]] w' (G.r2.below hb rr) a1).mono ?_;rintro e w2 ⟨rfl,a9⟩;exact⟨by rw[decide_eq_true rfl],a9⟩
theorem Ae3:StW Ax nx cx Ay ny cy bq oq cz s 28:=by
 intro x y z W a0 Q F G o a w' ho hs hb;have a7:=Cg (op:= .pick (.tmp 79) (.tmp 87) (.const (.bool false))) ho;obtain⟨v79,a1,a5,a3⟩:=dq 19 79 F ho hs;obtain rfl:v79= .bool true:=a1;obtain⟨v87,a2,a6,a4⟩:=dq 27 87 F ho hs;obtain rfl:v87= .bool true:=a2;exact D4 _ _ _ a7 a3 a4 ⟨_,rfl,rfl,Below.refl _ _⟩
theorem Ae4:StW Ax nx cx Ay ny cy bq oq cz s 29:=by
 intro x y z W a0 Q F G o a w' ho hs hb;have a4:=Cg (op:= .move (.tmp 88)) ho;obtain⟨v88,a1,a3,a2⟩:=dq 28 88 F ho hs;obtain rfl:v88= .bool true:=a1;exact Ch _ a4 a2 ⟨_,rfl,rfl,Below.refl _ _⟩
theorem Ae5:StW Ax nx cx Ay ny cy bq oq cz s 30:=by
 intro x y z W a0 Q F G o a w' ho hs hb;have a2:=Cg (op:= .move (.tmp 12)) ho;have a1:=rg hs F.t12;exact Ch _ a2 a1 ⟨_,rfl,rfl,Below.refl _ _⟩
theorem Ae6:StW Ax nx cx Ay ny cy bq oq cz s 31:=by
 intro x y z W a0 Q F G o a w' ho hs hb;have a4:=Cg (op:= .binOp .eql 37 (.tmp 90) (.const (.int .i64 0)) 37) ho;obtain⟨v90,a1,a3,a2⟩:=dq 30 90 F ho hs;obtain rfl:v90= .int .i64 0:=a1;exact Hj _ _ _ _ a4 (by decide) a2 rfl ⟨_,rfl,rfl,Below.refl _ _⟩
theorem Ae7:StW Ax nx cx Ay ny cy bq oq cz s 32:=by
 intro x y z W a0 Q F G o a w' ho hs hb;have a7:=Cg (op:= .pick (.tmp 89) (.tmp 91) (.const (.bool false))) ho;obtain⟨v89,a1,a5,a2⟩:=dq 29 89 F ho hs;obtain rfl:v89= .bool true:=a1;obtain⟨v91,a4,a6,a3⟩:=dq 31 91 F ho hs;obtain rfl:v91= .bool true:=a4;exact D4 _ _ _ a7 a2 a3 ⟨_,rfl,rfl,Below.refl _ _⟩
theorem Ae8:StW Ax nx cx Ay ny cy bq oq cz s 33:=by
 intro x y z W a0 Q F G o a w' ho hs hb;have a4:=Cg (op:= .move (.tmp 92)) ho;obtain⟨v92,a1,a3,a2⟩:=dq 32 92 F ho hs;obtain rfl:v92= .bool true:=a1;exact Ch _ a4 a2 ⟨_,rfl,rfl,Below.refl _ _⟩
theorem Ae9:StW Ax nx cx Ay ny cy bq oq cz s 34:=by
 intro x y z W a0 Q F G o a w' ho hs hb;have a2:=Cg (op:= .move (.tmp 11)) ho;have a1:=rg hs F.t11;exact Ch _ a2 a1 ⟨_,rfl,rfl,Below.refl _ _⟩
theorem Afa:StW Ax nx cx Ay ny cy bq oq cz s 35:=by
 intro x y z W a0 Q F G o a w' ho hs hb;have a4:=Cg (op:= .call {callee:= .builtin .len,args:= #[.tmp 94],argTypes:= #[47]}) ho;obtain⟨v94,a1,a2,a3⟩:=dq 34 94 F ho hs;obtain rfl:v94= .slice (some ⟨bq,oq,none⟩) 1 cz:=a1;exact Ab3 _ a4 a2 ⟨_,rfl,rfl,Below.refl _ _⟩
theorem Afb:StW Ax nx cx Ay ny cy bq oq cz s 36:=by
 intro x y z W a0 Q F G o a w' ho hs hb;have a3:=Cg (op:= .binOp .eql 3 (.tmp 95) (.const (.int .i64 1)) 3) ho;obtain⟨v95,a2,a4,a1⟩:=dq 35 95 F ho hs;obtain rfl:v95= .int .i64 1:=a2;exact Hj _ _ _ _ a3 (by decide) a1 rfl ⟨_,rfl,rfl,Below.refl _ _⟩
theorem Afc:StW Ax nx cx Ay ny cy bq oq cz s 37:=by
 intro x y z W a0 Q F G o a w' ho hs hb;have a7:=Cg (op:= .pick (.tmp 93) (.tmp 96) (.const (.bool false))) ho;obtain⟨v93,a1,a5,a4⟩:=dq 33 93 F ho hs;obtain rfl:v93= .bool true:=a1;obtain⟨v96,a3,a6,a2⟩:=dq 36 96 F ho hs;obtain rfl:v96= .bool true:=a3;exact D4 _ _ _ a7 a4 a2 ⟨_,rfl,rfl,Below.refl _ _⟩
theorem Afd:StW Ax nx cx Ay ny cy bq oq cz s 38:=by
 intro x y z W a0 Q F G o a w' ho hs hb;have a4:=Cg (op:= .move (.tmp 97)) ho;obtain⟨v97,a1,a3,a2⟩:=dq 37 97 F ho hs;obtain rfl:v97= .bool true:=a1;exact Ch _ a4 a2 ⟨_,rfl,rfl,Below.refl _ _⟩
theorem Afe:StW Ax nx cx Ay ny cy bq oq cz s 39:=by
 intro x y z W a0 Q F G o a w' ho hs hb;have a2:=Cg (op:= .move (.tmp 11)) ho;have a1:=rg hs F.t11;exact Ch _ a2 a1 ⟨_,rfl,rfl,Below.refl _ _⟩
theorem Aff:StW Ax nx cx Ay ny cy bq oq cz s 40:=by
 intro x y z W a0 Q F G o a w' ho hs hb;have a4:=Cg (op:= .indexAddr 47 (.tmp 99) (.const (.int .i64 0))) ho;obtain⟨v99,a1,a3,a2⟩:=dq 39 99 F ho hs;obtain rfl:v99= .slice (some ⟨bq,oq,none⟩) 1 cz:=a1;exact Pu _ a4 a2 ⟨_,rfl,rfl,Below.refl _ _⟩
theorem Afg:StW Ax nx cx Ay ny cy bq oq cz s 41:=by
 intro x y z W a0 Q F G o a w' ho hs hb;have a4:=Cg (op:= .fieldAddr 52 (.tmp 100) 0) ho;obtain⟨v100,a2,a3,a1⟩:=dq 40 100 F ho hs;obtain rfl:v100= .pointer (some ⟨bq,oq,none⟩):=a2;exact Pv _ _ a4 (by decide) a1 ⟨_,rfl,rfl,Below.refl _ _⟩
theorem Afh:StW Ax nx cx Ay ny cy bq oq cz s 42:=by
 intro x y z W a0 Q F G o a w' ho hs hb;have a4:=Cg (op:= .load 32 (.tmp 101)) ho;obtain⟨v101,a2,a3,a1⟩:=dq 41 101 F ho hs;obtain rfl:v101= .pointer (some ⟨bq,oq,none⟩):=a2;exact Rl _ a4 a1 ((hb.cell (p:=⟨bq,oq,none⟩) G.lt).trans G.cp) ⟨_,rfl,rfl,Below.refl _ _⟩
theorem Afi:StW Ax nx cx Ay ny cy bq oq cz s 43:=by
 intro x y z W a0 Q F G o a w' ho hs hb;have a2:=Cg (op:= .load 24 (.tmp 6)) ho;have a1:=rg hs F.t6;obtain⟨d0,d1,_,_⟩:=Aq ((hb.block _ (lt_of_block G.kz)).trans G.kz);exact Dj _ a2 a1 d0 d1 ⟨_,rfl,rfl,Below.refl _ _⟩
theorem Afj:StW Ax nx cx Ay ny cy bq oq cz s 44:=by
 intro x y z W a0 Q F G o a w' ho hs hb;have a2:=Cg (op:= .load 24 (.tmp 4)) ho;have a1:=rg hs F.t4;obtain⟨d0,d1,_,_⟩:=Aq ((hb.block _ (lt_of_block G.kx)).trans G.kx);exact Dj _ a2 a1 d0 d1 ⟨_,rfl,rfl,Below.refl _ _⟩
theorem Afk:StW Ax nx cx Ay ny cy bq oq cz s 45:=by
 intro x y z W a0 Q F G o a w' ho hs hb;have a2:=Cg (op:= .load 24 (.tmp 6)) ho;have a1:=rg hs F.t6;obtain⟨d0,d1,_,_⟩:=Aq ((hb.block _ (lt_of_block G.kz)).trans G.kz);exact Dj _ a2 a1 d0 d1 ⟨_,rfl,rfl,Below.refl _ _⟩
theorem Afl:StW Ax nx cx Ay ny cy bq oq cz s 46:=by
 intro x y z W a0 Q F G o a w' ho hs hb;have b0:=Cg (op:= .buildSlice 32 3 #[(0, .tmp 103),(1, .tmp 104),(2, .tmp 105)]) ho;obtain⟨v103,a2,a4,a7⟩:=dq 43 103 F ho hs;obtain rfl:v103= .agg #[.int .u32 5, .int .u32 2]:=a2;obtain⟨v104,a6,a3,a8⟩:=dq 44 104 F ho hs;obtain rfl:v104= .agg #[.int .u32 2, .int .u32 5]:=a6;obtain⟨v105,a1,a5,a9⟩:=dq 45 105 F ho hs;obtain rfl:v105= .agg #[.int .u32 5, .int .u32 2]:=a1;exact L7 _ _ _ b0 (s:=sA) (t:=sP) (u:=sA) a4 a3 a5 ⟨_,rfl,⟨_,_,_,rfl,C5 w' [sA,sP,sA] 24 (by simp)⟩,bel⟩
theorem Afm:StW Ax nx cx Ay ny cy bq oq cz s 47:=by
 intro x y z W a0 Q F G o a w' ho hs hb;have a8:=Cg (op:= .call {callee:= .value (.func 86),args:= #[.tmp 102, .tmp 106],argTypes:= #[32,32]}) ho;obtain⟨v102,a5,a1,a7⟩:=dq 42 102 F ho hs;obtain rfl:v102= .slice s.p.1 s.p.2.1 s.p.2.2.1:=a5;obtain⟨v106,a2,a4,a6⟩:=dq 46 106 F ho hs;obtain⟨A106,n106,c106,rfl,a3⟩:=a2;refine J2 _ _ _ _ a8 a1 a4 (enters_of Tryz.func86 (by kernel_rfl) rfl) ?_ (fun w2 h2=>⟨_,rfl,rfl,h2⟩);refine(Nq s.p.1 A106 s.p.2.1 n106 s.p.2.2.1 c106 [sA,sP,sA] [sA,sP,sA] w' (G.pp.below hb rr) a3).mono ?_;rintro e w2 ⟨rfl,a9⟩;exact⟨by rw[decide_eq_true rfl],a9⟩
theorem Afn:StW Ax nx cx Ay ny cy bq oq cz s 48:=by
 intro x y z W a0 Q F G o a w' ho hs hb;have a7:=Cg (op:= .pick (.tmp 98) (.tmp 107) (.const (.bool false))) ho;obtain⟨v98,a3,a6,a4⟩:=dq 38 98 F ho hs;obtain rfl:v98= .bool true:=a3;obtain⟨v107,a2,a5,a1⟩:=dq 47 107 F ho hs;obtain rfl:v107= .bool true:=a2;exact D4 _ _ _ a7 a4 a1 ⟨_,rfl,rfl,Below.refl _ _⟩
theorem Afo:StW Ax nx cx Ay ny cy bq oq cz s 49:=by
 intro x y z W a0 Q F G o a w' ho hs hb;have a4:=Cg (op:= .move (.tmp 108)) ho;obtain⟨v108,a2,a3,a1⟩:=dq 48 108 F ho hs;obtain rfl:v108= .bool true:=a2;exact Ch _ a4 a1 ⟨_,rfl,rfl,Below.refl _ _⟩
theorem Afp:StW Ax nx cx Ay ny cy bq oq cz s 50:=by
 intro x y z W a0 Q F G o a w' ho hs hb;have a2:=Cg (op:= .move (.tmp 11)) ho;have a1:=rg hs F.t11;exact Ch _ a2 a1 ⟨_,rfl,rfl,Below.refl _ _⟩
theorem Afq:StW Ax nx cx Ay ny cy bq oq cz s 51:=by
 intro x y z W a0 Q F G o a w' ho hs hb;have a4:=Cg (op:= .indexAddr 47 (.tmp 110) (.const (.int .i64 0))) ho;obtain⟨v110,a2,a3,a1⟩:=dq 50 110 F ho hs;obtain rfl:v110= .slice (some ⟨bq,oq,none⟩) 1 cz:=a2;exact Pu _ a4 a1 ⟨_,rfl,rfl,Below.refl _ _⟩
theorem Afr:StW Ax nx cx Ay ny cy bq oq cz s 52:=by
 intro x y z W a0 Q F G o a w' ho hs hb;have a4:=Cg (op:= .fieldAddr 52 (.tmp 111) 1) ho;obtain⟨v111,a1,a3,a2⟩:=dq 51 111 F ho hs;obtain rfl:v111= .pointer (some ⟨bq,oq,none⟩):=a1;exact Pv _ _ a4 (by decide) a2 ⟨_,rfl,rfl,Below.refl _ _⟩
theorem Afs:StW Ax nx cx Ay ny cy bq oq cz s 53:=by
 intro x y z W a0 Q F G o a w' ho hs hb;have a4:=Cg (op:= .load 32 (.tmp 112)) ho;obtain⟨v112,a2,a3,a1⟩:=dq 52 112 F ho hs;obtain rfl:v112= .pointer (some ⟨bq,oq+1,none⟩):=a2;exact Rl _ a4 a1 ((hb.cell (p:=⟨bq,oq+1,none⟩) G.lt).trans G.cq) ⟨_,rfl,rfl,Below.refl _ _⟩
theorem Aft:StW Ax nx cx Ay ny cy bq oq cz s 54:=by
 intro x y z W a0 Q F G o a w' ho hs hb;have a2:=Cg (op:= .load 24 (.tmp 6)) ho;have a1:=rg hs F.t6;obtain⟨d0,d1,_,_⟩:=Aq ((hb.block _ (lt_of_block G.kz)).trans G.kz);exact Dj _ a2 a1 d0 d1 ⟨_,rfl,rfl,Below.refl _ _⟩
theorem Afu:StW Ax nx cx Ay ny cy bq oq cz s 55:=by
 intro x y z W a0 Q F G o a w' ho hs hb;have a2:=Cg (op:= .load 24 (.tmp 5)) ho;have a1:=rg hs F.t5;obtain⟨d0,d1,_,_⟩:=Aq ((hb.block _ (lt_of_block G.ky)).trans G.ky);exact Dj _ a2 a1 d0 d1 ⟨_,rfl,rfl,Below.refl _ _⟩
theorem Afv:StW Ax nx cx Ay ny cy bq oq cz s 56:=by
 intro x y z W a0 Q F G o a w' ho hs hb;have a2:=Cg (op:= .load 24 (.tmp 6)) ho;have a1:=rg hs F.t6;obtain⟨d0,d1,_,_⟩:=Aq ((hb.block _ (lt_of_block G.kz)).trans G.kz);exact Dj _ a2 a1 d0 d1 ⟨_,rfl,rfl,Below.refl _ _⟩
theorem Afw:StW Ax nx cx Ay ny cy bq oq cz s 57:=by
 intro x y z W a0 Q F G o a w' ho hs hb;have b0:=Cg (op:= .buildSlice 32 3 #[(0, .tmp 114),(1, .tmp 115),(2, .tmp 116)]) ho;obtain⟨v114,a5,a4,a9⟩:=dq 54 114 F ho hs;obtain rfl:v114= .agg #[.int .u32 5, .int .u32 2]:=a5;obtain⟨v115,a2,a1,a8⟩:=dq 55 115 F ho hs;obtain rfl:v115= .agg #[.int .u32 3, .int .u32 4]:=a2;obtain⟨v116,a6,a3,a7⟩:=dq 56 116 F ho hs;obtain rfl:v116= .agg #[.int .u32 5, .int .u32 2]:=a6;exact L7 _ _ _ b0 (s:=sA) (t:=sB) (u:=sA) a4 a1 a3 ⟨_,rfl,⟨_,_,_,rfl,C5 w' [sA,sB,sA] 24 (by simp)⟩,bel⟩
theorem Afx:StW Ax nx cx Ay ny cy bq oq cz s 58:=by
 intro x y z W a0 Q F G o a w' ho hs hb;have a8:=Cg (op:= .call {callee:= .value (.func 86),args:= #[.tmp 113, .tmp 117],argTypes:= #[32,32]}) ho;obtain⟨v113,a3,a1,a6⟩:=dq 53 113 F ho hs;obtain rfl:v113= .slice s.q.1 s.q.2.1 s.q.2.2.1:=a3;obtain⟨v117,a5,a2,a7⟩:=dq 57 117 F ho hs;obtain⟨A117,n117,c117,rfl,a4⟩:=a5;refine J2 _ _ _ _ a8 a1 a2 (enters_of Tryz.func86 (by kernel_rfl) rfl) ?_ (fun w2 h2=>⟨_,rfl,rfl,h2⟩);refine(Nq s.q.1 A117 s.q.2.1 n117 s.q.2.2.1 c117 [sA,sB,sA] [sA,sB,sA] w' (G.pq.below hb rr) a4).mono ?_;rintro e w2 ⟨rfl,a9⟩;exact⟨by rw[decide_eq_true rfl],a9⟩
theorem Afy:StW Ax nx cx Ay ny cy bq oq cz s 59:=by
 intro x y z W a0 Q F G o a w' ho hs hb;have a7:=Cg (op:= .pick (.tmp 109) (.tmp 118) (.const (.bool false))) ho;obtain⟨v109,a2,a6,a3⟩:=dq 49 109 F ho hs;obtain rfl:v109= .bool true:=a2;obtain⟨v118,a1,a5,a4⟩:=dq 58 118 F ho hs;obtain rfl:v118= .bool true:=a1;exact D4 _ _ _ a7 a3 a4 ⟨_,rfl,rfl,Below.refl _ _⟩
theorem Afz:StW Ax nx cx Ay ny cy bq oq cz s 60:=by
 intro x y z W a0 Q F G o a w' ho hs hb;have a4:=Cg (op:= .move (.tmp 119)) ho;obtain⟨v119,a2,a3,a1⟩:=dq 59 119 F ho hs;obtain rfl:v119= .bool true:=a2;exact Ch _ a4 a1 ⟨_,rfl,rfl,Below.refl _ _⟩
theorem Af0:StW Ax nx cx Ay ny cy bq oq cz s 61:=by
 intro x y z W a0 Q F G o a w' ho hs hb;have a2:=Cg (op:= .move (.tmp 13)) ho;have a1:=rg hs F.t13;exact Ch _ a2 a1 ⟨_,rfl,rfl,Below.refl _ _⟩
theorem Af1:StW Ax nx cx Ay ny cy bq oq cz s 62:=by
 intro x y z W a0 Q F G o a w' ho hs hb;have a4:=Cg (op:= .binOp .eql 3 (.tmp 121) (.const (.int .i64 6)) 3) ho;obtain⟨v121,a1,a3,a2⟩:=dq 61 121 F ho hs;obtain rfl:v121= .int .i64 6:=a1;exact Hj _ _ _ _ a4 (by decide) a2 rfl ⟨_,rfl,rfl,Below.refl _ _⟩
theorem Af2:StW Ax nx cx Ay ny cy bq oq cz s 63:=by
 intro x y z W a0 Q F G o a w' ho hs hb;have a7:=Cg (op:= .pick (.tmp 120) (.tmp 122) (.const (.bool false))) ho;obtain⟨v120,a2,a6,a1⟩:=dq 60 120 F ho hs;obtain rfl:v120= .bool true:=a2;obtain⟨v122,a3,a5,a4⟩:=dq 62 122 F ho hs;obtain rfl:v122= .bool true:=a3;exact D4 _ _ _ a7 a1 a4 ⟨_,rfl,rfl,Below.refl _ _⟩
theorem Af3:StW Ax nx cx Ay ny cy bq oq cz s 64:=by
 intro x y z W a0 Q F G o a w' ho hs hb;have a4:=Cg (op:= .move (.tmp 123)) ho;obtain⟨v123,a2,a3,a1⟩:=dq 63 123 F ho hs;obtain rfl:v123= .bool true:=a2;exact Ch _ a4 a1 ⟨_,rfl,rfl,Below.refl _ _⟩
theorem Af4:StW Ax nx cx Ay ny cy bq oq cz s 65:=by
 intro x y z W a0 Q F G o a w' ho hs hb;have a2:=Cg (op:= .move (.tmp 14)) ho;have a1:=rg hs F.t14;exact Ch _ a2 a1 ⟨_,rfl,rfl,Below.refl _ _⟩
theorem Af5:StW Ax nx cx Ay ny cy bq oq cz s 66:=by
 intro x y z W a0 Q F G o a w' ho hs hb;have a4:=Cg (op:= .binOp .eql 37 (.tmp 125) (.const (.int .i64 0)) 37) ho;obtain⟨v125,a1,a3,a2⟩:=dq 65 125 F ho hs;obtain rfl:v125= .int .i64 0:=a1;exact Hj _ _ _ _ a4 (by decide) a2 rfl ⟨_,rfl,rfl,Below.refl _ _⟩
theorem Af6:StW Ax nx cx Ay ny cy bq oq cz s 67:=by
 intro x y z W a0 Q F G o a w' ho hs hb;have a7:=Cg (op:= .pick (.tmp 124) (.tmp 126) (.const (.bool false))) ho;obtain⟨v124,a1,a5,a2⟩:=dq 64 124 F ho hs;obtain rfl:v124= .bool true:=a1;obtain⟨v126,a3,a6,a4⟩:=dq 66 126 F ho hs;obtain rfl:v126= .bool true:=a3;exact D4 _ _ _ a7 a2 a4 ⟨_,rfl,rfl,Below.refl _ _⟩
theorem Af7:StW Ax nx cx Ay ny cy bq oq cz s 68:=by
 intro x y z W a0 Q F G o a w' ho hs hb;have a4:=Cg (op:= .assign (.tmp 127)) ho;obtain⟨v127,a1,a3,a2⟩:=dq 67 127 F ho hs;obtain rfl:v127= .bool true:=a1;exact Uo _ a4 a2 ⟨_,rfl,rfl,Below.refl _ _⟩
end
theorem Pt {i:Nat}{o:Oper}(ho:B8[i]? =some o):i=0\/i=1\/i=2\/i=3\/i=4\/i=5\/i=6\/i=7\/i=8\/i=9\/i=10\/i=11\/i=12\/i=13\/i=14\/i=15\/i=16\/i=17\/i=18\/i=19\/i=20\/i=21\/i=22\/i=23\/i=24\/i=25\/i=26\/i=27\/i=28\/i=29\/i=30\/i=31\/i=32\/i=33\/i=34\/i=35\/i=36\/i=37\/i=38\/i=39\/i=40\/i=41\/i=42\/i=43\/i=44\/i=45\/i=46\/i=47\/i=48\/i=49\/i=50\/i=51\/i=52\/i=53\/i=54\/i=55\/i=56\/i=57\/i=58\/i=59\/i=60\/i=61\/i=62\/i=63\/i=64\/i=65\/i=66\/i=67\/i=68:=by
 have h1:i<B8.size:=(Array.getElem?_eq_some_iff.1 ho).1;have h2:B8.size=69:=by kernel_rfl
 omega
theorem Af8 {Ax:Option Addr}{nx cx:Nat}{Ay:Option Addr}{ny cy bq oq cz x y z:Nat}{s:Ci}{W:World}{a0:Act}{Q:Exit->Act->World->Prop}(F:FrW Ax nx cx Ay ny cy bq oq cz x y z a0)(G:WoW Ax nx cx Ay ny cy bq oq x y z s W){o:Oper}{a:Act}{w':World}{i:Nat}(ho:B8[i]? =some o)(hs:Dk .any B8 (F3 Ax nx cx Ay ny cy bq oq cz s) a0 o a w')(hb:Below W.heap.size W w'):
  o.wp Tryz.prog a w' (fun a' w''=>∃v,a'=a.put o.dst v/\F3 Ax nx cx Ay ny cy bq oq cz s i v w''/\Below w'.heap.size w' w'') Q:=by
 rcases Pt ho with rfl|rfl|rfl|rfl|rfl|rfl|rfl|rfl|rfl|rfl|rfl|rfl|rfl|rfl|rfl|rfl|rfl|rfl|rfl|rfl|rfl|rfl|rfl|rfl|rfl|rfl|rfl|rfl|rfl|rfl|rfl|rfl|rfl|rfl|rfl|rfl|rfl|rfl|rfl|rfl|rfl|rfl|rfl|rfl|rfl|rfl|rfl|rfl|rfl|rfl|rfl|rfl|rfl|rfl|rfl|rfl|rfl|rfl|rfl|rfl|rfl|rfl|rfl|rfl|rfl|rfl|rfl|rfl|rfl
 ·exact Agp F G ho hs hb
 ·exact Agq F G ho hs hb
 ·exact Agr F G ho hs hb
 ·exact Ags F G ho hs hb
 ·exact Agt F G ho hs hb
 ·exact Agu F G ho hs hb
 ·exact Agv F G ho hs hb
 ·exact Agw F G ho hs hb
 ·exact Agx F G ho hs hb
 ·exact Agy F G ho hs hb
 ·exact Ael F G ho hs hb
 ·exact Aem F G ho hs hb
 ·exact Aen F G ho hs hb
 ·exact Aeo F G ho hs hb
 ·exact Aep F G ho hs hb
 ·exact Aeq F G ho hs hb
 ·exact Aer F G ho hs hb
 ·exact Aes F G ho hs hb
 ·exact Aet F G ho hs hb
 ·exact Aeu F G ho hs hb
 ·exact Aev F G ho hs hb
 ·exact Aew F G ho hs hb
 ·exact Aex F G ho hs hb
 ·exact Aey F G ho hs hb
 ·exact Aez F G ho hs hb
 ·exact Ae0 F G ho hs hb
 ·exact Ae1 F G ho hs hb
 ·exact Ae2 F G ho hs hb
 ·exact Ae3 F G ho hs hb
 ·exact Ae4 F G ho hs hb
 ·exact Ae5 F G ho hs hb
 ·exact Ae6 F G ho hs hb
 ·exact Ae7 F G ho hs hb
 ·exact Ae8 F G ho hs hb
 ·exact Ae9 F G ho hs hb
 ·exact Afa F G ho hs hb
 ·exact Afb F G ho hs hb
 ·exact Afc F G ho hs hb
 ·exact Afd F G ho hs hb
 ·exact Afe F G ho hs hb
 ·exact Aff F G ho hs hb
 ·exact Afg F G ho hs hb
 ·exact Afh F G ho hs hb
 ·exact Afi F G ho hs hb
 ·exact Afj F G ho hs hb
 ·exact Afk F G ho hs hb
 ·exact Afl F G ho hs hb
 ·exact Afm F G ho hs hb
 ·exact Afn F G ho hs hb
 ·exact Afo F G ho hs hb
 ·exact Afp F G ho hs hb
 ·exact Afq F G ho hs hb
 ·exact Afr F G ho hs hb
 ·exact Afs F G ho hs hb
 ·exact Aft F G ho hs hb
 ·exact Afu F G ho hs hb
 ·exact Afv F G ho hs hb
 ·exact Afw F G ho hs hb
 ·exact Afx F G ho hs hb
 ·exact Afy F G ho hs hb
 ·exact Afz F G ho hs hb
 ·exact Af0 F G ho hs hb
 ·exact Af1 F G ho hs hb
 ·exact Af2 F G ho hs hb
 ·exact Af3 F G ho hs hb
 ·exact Af4 F G ho hs hb
 ·exact Af5 F G ho hs hb
 ·exact Af6 F G ho hs hb
 ·exact Af7 F G ho hs hb
theorem Add {Ax:Option Addr}{nx cx:Nat}{Ay:Option Addr}{ny cy bq oq cz x y z:Nat}{s:Ci}{a0:Act}{o:Oper}{a:Act}{w':World}(F:FrW Ax nx cx Ay ny cy bq oq cz x y z a0){i:Nat}(ho:B8[i]? =some o)(hs:Dk .any B8 (F3 Ax nx cx Ay ny cy bq oq cz s) a0 o a w'):Region.wanted o (yielded B8 a.tmps)=true:=by
 rcases Pt ho with rfl|rfl|rfl|rfl|rfl|rfl|rfl|rfl|rfl|rfl|rfl|rfl|rfl|rfl|rfl|rfl|rfl|rfl|rfl|rfl|rfl|rfl|rfl|rfl|rfl|rfl|rfl|rfl|rfl|rfl|rfl|rfl|rfl|rfl|rfl|rfl|rfl|rfl|rfl|rfl|rfl|rfl|rfl|rfl|rfl|rfl|rfl|rfl|rfl|rfl|rfl|rfl|rfl|rfl|rfl|rfl|rfl|rfl|rfl|rfl|rfl|rfl|rfl|rfl|rfl|rfl|rfl|rfl|rfl
 ·unfold Region.wanted;rw[show o.guard=none from by obtain⟨_,rfl⟩:=Array.getElem?_eq_some_iff.1 ho;kernel_rfl]
 ·unfold Region.wanted;rw[show o.guard=none from by obtain⟨_,rfl⟩:=Array.getElem?_eq_some_iff.1 ho;kernel_rfl]
 ·unfold Region.wanted;rw[show o.guard=none from by obtain⟨_,rfl⟩:=Array.getElem?_eq_some_iff.1 ho;kernel_rfl]
 ·exact Ps F ho hs
 ·exact Ps F ho hs
 ·exact Ps F ho hs
 ·exact Ps F ho hs
 ·exact Ps F ho hs
 ·exact Ps F ho hs
 ·exact Ps F ho hs
 ·exact Ps F ho hs
 ·exact Ps F ho hs
 ·exact Ps F ho hs
 ·exact Ps F ho hs
 ·unfold Region.wanted;rw[show o.guard=none from by obtain⟨_,rfl⟩:=Array.getElem?_eq_some_iff.1 ho;kernel_rfl]
 ·unfold Region.wanted;rw[show o.guard=none from by obtain⟨_,rfl⟩:=Array.getElem?_eq_some_iff.1 ho;kernel_rfl]
 ·exact Adm F ho hs
 ·exact Adm F ho hs
 ·unfold Region.wanted;rw[show o.guard=none from by obtain⟨_,rfl⟩:=Array.getElem?_eq_some_iff.1 ho;kernel_rfl]
 ·unfold Region.wanted;rw[show o.guard=none from by obtain⟨_,rfl⟩:=Array.getElem?_eq_some_iff.1 ho;kernel_rfl]
 ·exact M3 F ho hs
 ·exact M3 F ho hs
 ·exact M3 F ho hs
 ·exact M3 F ho hs
 ·exact M3 F ho hs
 ·exact M3 F ho hs
 ·exact M3 F ho hs
 ·exact M3 F ho hs
 ·unfold Region.wanted;rw[show o.guard=none from by obtain⟨_,rfl⟩:=Array.getElem?_eq_some_iff.1 ho;kernel_rfl]
 ·unfold Region.wanted;rw[show o.guard=none from by obtain⟨_,rfl⟩:=Array.getElem?_eq_some_iff.1 ho;kernel_rfl]
 ·exact Adn F ho hs
 ·exact Adn F ho hs
 ·unfold Region.wanted;rw[show o.guard=none from by obtain⟨_,rfl⟩:=Array.getElem?_eq_some_iff.1 ho;kernel_rfl]
 ·unfold Region.wanted;rw[show o.guard=none from by obtain⟨_,rfl⟩:=Array.getElem?_eq_some_iff.1 ho;kernel_rfl]
 ·exact Ab2 F ho hs
 ·exact Ab2 F ho hs
 ·exact Ab2 F ho hs
 ·unfold Region.wanted;rw[show o.guard=none from by obtain⟨_,rfl⟩:=Array.getElem?_eq_some_iff.1 ho;kernel_rfl]
 ·unfold Region.wanted;rw[show o.guard=none from by obtain⟨_,rfl⟩:=Array.getElem?_eq_some_iff.1 ho;kernel_rfl]
 ·exact L5 F ho hs
 ·exact L5 F ho hs
 ·exact L5 F ho hs
 ·exact L5 F ho hs
 ·exact L5 F ho hs
 ·exact L5 F ho hs
 ·exact L5 F ho hs
 ·exact L5 F ho hs
 ·exact L5 F ho hs
 ·unfold Region.wanted;rw[show o.guard=none from by obtain⟨_,rfl⟩:=Array.getElem?_eq_some_iff.1 ho;kernel_rfl]
 ·unfold Region.wanted;rw[show o.guard=none from by obtain⟨_,rfl⟩:=Array.getElem?_eq_some_iff.1 ho;kernel_rfl]
 ·exact L6 F ho hs
 ·exact L6 F ho hs
 ·exact L6 F ho hs
 ·exact L6 F ho hs
 ·exact L6 F ho hs
 ·exact L6 F ho hs
 ·exact L6 F ho hs
 ·exact L6 F ho hs
 ·exact L6 F ho hs
 ·unfold Region.wanted;rw[show o.guard=none from by obtain⟨_,rfl⟩:=Array.getElem?_eq_some_iff.1 ho;kernel_rfl]
 ·unfold Region.wanted;rw[show o.guard=none from by obtain⟨_,rfl⟩:=Array.getElem?_eq_some_iff.1 ho;kernel_rfl]
 ·exact Ado F ho hs
 ·exact Ado F ho hs
 ·unfold Region.wanted;rw[show o.guard=none from by obtain⟨_,rfl⟩:=Array.getElem?_eq_some_iff.1 ho;kernel_rfl]
 ·unfold Region.wanted;rw[show o.guard=none from by obtain⟨_,rfl⟩:=Array.getElem?_eq_some_iff.1 ho;kernel_rfl]
 ·exact Adp F ho hs
 ·exact Adp F ho hs
 ·unfold Region.wanted;rw[show o.guard=none from by obtain⟨_,rfl⟩:=Array.getElem?_eq_some_iff.1 ho;kernel_rfl]
 ·unfold Region.wanted;rw[show o.guard=none from by obtain⟨_,rfl⟩:=Array.getElem?_eq_some_iff.1 ho;kernel_rfl]
end Go.Proofs.YtlgliddhideflaaGreatDoor
