/-
  A parameter that is a case of chapter 38 (a map, laws, waves, a word, numbers) is opened.
  A parameter that is a map of ablauttop is opened, and one that is a list of waves; five parameters.
-/
import Derived.Test.YtaglfmlgbcmakaaGreatDoorG20
import Derived.Test.YtaglfmlgbcmakaaGreatDoorH07
set_option linter.all false
set_option maxRecDepth 100000
set_option maxHeartbeats 4000000
namespace Go.Proofs.YtaglfmlgbcmakaaGreatDoor
open Go.RowKit Go.ChangeShapes Go.WideShapes Go.ChangeAt
theorem Sa {a:Int}(h:(Lit.int .i64 a).wf=true): -9223372036854775808<=a/\a<=9223372036854775807:=by
 simpa[Lit.wf,IntKind.min,IntKind.max,IntKind.signed,IntKind.bits]using h
theorem J9 {α:Type}(g:α->Value):∀l:List α,(l.map fun x=>[g x]).flatten=l.map g
 |[]=>rfl
 |x::l=>by rw[List.map_cons,List.flatten_cons,J9 g l];rfl
section
variable {H:Type}{enc:TypeId×Value->H}{w:World}{base:Nat}{spare:Nat->Bool}{held:Bool}
set_option maxRecDepth 100000
theorem Agz:Tryz.prog.cellsOf 2=1:=by kernel_rfl
theorem Alp:Tryz.prog.cellsOf 36=1:=by kernel_rfl
theorem Ag0:Tryz.prog.cellsOf 22=1:=by kernel_rfl
theorem Aa1:Tryz.prog.cellsOf 64=3:=by kernel_rfl
theorem Acv:Tryz.prog.cellsOf 23=1:=by kernel_rfl
theorem Alq:Tryz.prog.cellsOf 26=1:=by kernel_rfl
theorem Aa2:Tryz.prog.cellsOf 38=5:=by kernel_rfl
theorem Aj2:Tryz.prog.cellsOf 27=1:=by kernel_rfl
theorem Amm:Tryz.prog.cellsOf 66=9:=by kernel_rfl
theorem Ka {fuel:Nat}{r:List Value}{x:DataW H×List MemPlace}(h:DataW.trod enc Tryz.prog w base spare held fuel 3 r=some x):∃a:Int,r=[.int .i64 a]∧ -9223372036854775808<=a/\a<=9223372036854775807:=by
 obtain⟨p,e0,_,w0⟩:=DataW.trod_int Tryz.underlying3 h;exact⟨p,e0,Sa w0⟩
theorem Na {fuel:Nat}{r:List Value}{x:DataW H×List MemPlace}(h:DataW.trod enc Tryz.prog w base spare held fuel 2 r=some x):∃a:Int,r=[.int .i64 a]∧ -9223372036854775808<=a/\a<=9223372036854775807:=by
 obtain⟨p,e0,_,w0⟩:=DataW.trod_int Tryz.underlying2 h;exact⟨p,e0,Sa w0⟩
theorem Aa3 {fuel:Nat}{cs:List Value}{x:DataW H×List MemPlace}(h:DataW.trod enc Tryz.prog w base spare held fuel 36 cs=some x):∃A n c xs,cs=[.slice A n c]/\Bn w A n c xs∧∀a∈xs, -9223372036854775808<=a/\a<=9223372036854775807:=by
 obtain⟨A,n,c,m,L,rfl,hL,hc,hr⟩:=Eb Tryz.underlying36 (by rw[K0];decide) h;obtain⟨xs,rfl,hq⟩:=Em (g:=fun a:Int=>[Value.int .i64 a]) L (fun r hr'=>Ka (hr r hr').2.2.choose_spec);rw[K0,J9]at hc;exact⟨A,n,c,xs,rfl,hc,hq⟩
theorem Aj3 {fuel:Nat}{r:List Value}{x:DataW H×List MemPlace}(h:DataW.trod enc Tryz.prog w base spare held fuel 9 r=some x):∃s:ByteArray,r=[.string s]/\s.size<=9223372036854775807:=by
 obtain⟨s,e0,_,hs⟩:=DataW.trod_string Tryz.underlying9 h;exact⟨s,e0,by unfold maxLen at hs;omega⟩
theorem Sb {fuel:Nat}{cs:List Value}{x:DataW H×List MemPlace}(h:DataW.trod enc Tryz.prog w base spare held fuel 22 cs=some x):∃A n c xs,cs=[.slice A n c]/\E7 w A n c xs∧∀s∈xs,s.size<=9223372036854775807:=by
 obtain⟨A,n,c,m,L,rfl,hL,hc,hr⟩:=Eb Tryz.underlying22 (by rw[Ng];decide) h;obtain⟨xs,rfl,hq⟩:=Em (g:=fun s:ByteArray=>[Value.string s]) L (fun r hr'=>Aj3 (hr r hr').2.2.choose_spec);rw[Ng,J9]at hc;exact⟨A,n,c,xs,rfl,hc,hq⟩
theorem Ag1 {fuel:Nat}{r:List Value}{x:DataW H×List MemPlace}(h:DataW.trod enc Tryz.prog w base spare held fuel 64 r=some x):∃s:Dt,r=Kw s/\True:=by
 obtain⟨n,_,hl,hf⟩:=C9 Tryz.underlying64 h;rw[Aa1]at hl
 match r,hl with
 |[c0,c1,c2],_=>
  simp only[List.mem_cons,forall_eq_or_imp,List.not_mem_nil,false_implies,implies_true,and_true,K0,Agz,List.drop_zero,List.drop_succ_cons,List.take_succ_cons,List.take_zero]at hf;obtain⟨⟨_,h0⟩,⟨_,h1⟩,⟨_,h2⟩⟩:=hf;obtain⟨n0,e0,_⟩:=Ka h0;obtain⟨n1,e1,_⟩:=Ka h1;obtain⟨n2,e2,_⟩:=Na h2;simp only[List.cons.injEq,and_true]at e0 e1 e2;subst e0 e1 e2;exact⟨(n0,n1,n2),rfl,trivial⟩
theorem Qb {fuel:Nat}{cs:List Value}{x:DataW H×List MemPlace}(h:DataW.trod enc Tryz.prog w base spare held fuel 23 cs=some x):∃A n c xs,cs=[.slice A n c]/\Cw w A n c xs:=by
 obtain⟨A,n,c,m,L,rfl,hL,hc,hr⟩:=Eb Tryz.underlying23 (by rw[show Tryz.prog.cellsOf _=3 from Aa1];decide) h;obtain⟨xs,rfl,_⟩:=Em (g:=Kw) L (fun r hr'=>Ag1 (hr r hr').2.2.choose_spec);rw[show Tryz.prog.cellsOf _=3 from Aa1,Ee]at hc;exact⟨A,n,c,xs,rfl,hc,by simpa using hL⟩
theorem Ag2 {fuel:Nat}{r:List Value}{x:DataW H×List MemPlace}(h:DataW.trod enc Tryz.prog w base spare held fuel 38 r=some x):∃s:Bu,r=s.cells/\Fw w s:=by
 obtain⟨n,_,hl,hf⟩:=C9 Tryz.underlying38 h;rw[Aa2]at hl
 match r,hl with
 |[c0,c1,c2,c3,c4],_=>
  simp only[List.mem_cons,forall_eq_or_imp,List.not_mem_nil,false_implies,implies_true,and_true,K0,Agz,Alp,List.drop_zero,List.drop_succ_cons,List.take_succ_cons,List.take_zero]at hf;obtain⟨⟨_,h0⟩,⟨_,h1⟩,⟨_,h2⟩,⟨_,h3⟩,⟨_,h4⟩⟩:=hf;obtain⟨n0,e0,u0⟩:=Ka h0;obtain⟨A,m,c,ps,e1,hp,u1⟩:=Aa3 h1;obtain⟨n2,e2,u2⟩:=Na h2;obtain⟨n3,e3,u3⟩:=Na h3;obtain⟨n4,e4,u4⟩:=Na h4;simp only[List.cons.injEq,and_true]at e0 e1 e2 e3 e4;subst e0 e1 e2 e3 e4;exact⟨⟨⟨n0,ps,n2,n3,n4⟩,A,m,c⟩,rfl,hp,u0,u2,u3,u4,u1⟩
theorem Qc {fuel:Nat}{cs:List Value}{x:DataW H×List MemPlace}(h:DataW.trod enc Tryz.prog w base spare held fuel 27 cs=some x):∃A n c xs,cs=[.slice A n c]/\Bv w A n c xs:=by
 obtain⟨A,n,c,m,L,rfl,hL,hc,hr⟩:=Eb Tryz.underlying27 (by rw[show Tryz.prog.cellsOf _=5 from Aa2];decide) h;obtain⟨xs,rfl,hx⟩:=Em (g:=Bu.cells) L (fun r hr'=>Ag2 (hr r hr').2.2.choose_spec);rw[show Tryz.prog.cellsOf _=5 from Aa2,Ee]at hc;exact⟨A,n,c,xs,rfl,⟨hc,by simpa using hL⟩,hx⟩
end
section
variable {H:Type}{enc:TypeId×Value->H}{w:World}{base:Nat}{spare:Nat->Bool}{held:Bool}{d:DataW H}{p:List MemPlace}
end
structure Amn where
 An:Option Addr
 nn:Nat
 cn:Nat
 names:List ByteArray
 Ar:Option Addr
 nr:Nat
 cr:Nat
 roads:List Dt
section
variable {H:Type}{enc:TypeId×Value->H}{P:Program}{w:World}{base:Nat}{spare:Nat->Bool}{held:Bool}
theorem Wf {t t' t'' t3 t4:TypeId}{args:Array Value}{ds:List (DataW H)}{ps:List MemPlace}(h:DataW.TrodAll enc P w base spare held [t,t',t'',t3,t4] args.toList ds ps):
  ∃v v' v'' v3 v4 d d' d'' d3 d4 p p' p'' p3 p4,args= #[v,v',v'',v3,v4]/\ds=[d,d',d'',d3,d4]/\ps=p++p'++p''++p3++p4/\DataW.Trod enc P w base spare held t v d p/\DataW.Trod enc P w base spare held t' v' d' p'/\DataW.Trod enc P w base spare held t'' v'' d'' p''/\DataW.Trod enc P w base spare held t3 v3 d3 p3/\DataW.Trod enc P w base spare held t4 v4 d4 p4:=by
 obtain⟨v,vs,d,ds',p,q,a6,rfl,rfl,hd,a4⟩:=trodAll_cons h;obtain⟨v',vs',d',ds'',p',q',rfl,rfl,rfl,a8,a3⟩:=trodAll_cons a4;obtain⟨v'',vs'',d'',ds''',p'',q'',rfl,rfl,rfl,a5,a0⟩:=trodAll_cons a3;obtain⟨v3,vs3,d3,ds3,p3,q3,rfl,rfl,rfl,a7,a1⟩:=trodAll_cons a0;obtain⟨v4,vs4,d4,ds4,p4,q4,rfl,rfl,rfl,a9,a2⟩:=trodAll_cons a1;obtain⟨rfl,rfl,rfl⟩:=trodAll_nil a2;exact⟨v,v',v'',v3,v4,d,d',d'',d3,d4,p,p',p'',p3,p4,by cases args;simp_all,rfl,by simp,hd,a8,a5,a7,a9⟩
theorem Yt {t t' t'' t3 t4:TypeId}{v v' v'' v3 v4:Value}{d d' d'' d3 d4:DataW H}{p p' p'' p3 p4:List MemPlace}(h:DataW.Trod enc P w base spare held t v d p)(h':DataW.Trod enc P w base spare held t' v' d' p')
  (h'':DataW.Trod enc P w base spare held t'' v'' d'' p'') (h3:DataW.Trod enc P w base spare held t3 v3 d3 p3) (h4:DataW.Trod enc P w base spare held t4 v4 d4 p4):
  DataW.TrodAll enc P w base spare held [t,t',t'',t3,t4] [v,v',v'',v3,v4] [d,d',d'',d3,d4] (p++(p'++(p''++(p3++p4)))):=⟨p,p'++(p''++(p3++p4)),h,trodAll_mk4 h' h'' h3 h4,rfl⟩
end
section
variable {H:Type}{enc:TypeId×Value->H}{w:World}{base:Nat}{spare:Nat->Bool}{held:Bool}{d:DataW H}{p:List MemPlace}
set_option maxRecDepth 100000
theorem Amo:Tryz.prog.cellsOf 25=2:=by kernel_rfl
theorem Aj5 {fuel:Nat}{r:List Value}{x:DataW H×List MemPlace}(h:DataW.trod enc Tryz.prog w base spare held fuel 25 r=some x):∃s:Amn,r=[.slice s.An s.nn s.cn, .slice s.Ar s.nr s.cr]/\E7 w s.An s.nn s.cn s.names/\Cw w s.Ar s.nr s.cr s.roads:=by
 obtain⟨n,_,hl,hf⟩:=C9 Tryz.underlying25 h;rw[Amo]at hl
 match r,hl with
 |[c0,c1],_=>
  simp only[List.mem_cons,forall_eq_or_imp,List.not_mem_nil,false_implies,implies_true,and_true,Ag0,Acv,List.drop_zero,List.drop_succ_cons,List.take_succ_cons,List.take_zero]at hf;obtain⟨⟨_,h0⟩,⟨_,h1⟩⟩:=hf;obtain⟨A0,m0,d0,l0,e0,p0,_⟩:=Sb h0;obtain⟨A1,m1,d1,l1,e1,p1⟩:=Qb h1;simp only[List.cons.injEq,and_true]at e0 e1;subst e0 e1;exact⟨⟨A0,m0,d0,l0,A1,m1,d1,l1⟩,rfl,p0,p1⟩
theorem Ag3 {cs:Array Value}(h:DataW.Trod enc Tryz.prog w base spare held 25 (.agg cs) d p):∃x:Amn,cs= #[.slice x.An x.nn x.cn, .slice x.Ar x.nr x.cr]/\E7 w x.An x.nn x.cn x.names/\Cw w x.Ar x.nr x.cr x.roads:=by
 obtain⟨_,hf⟩:=h;obtain⟨x,e,hx⟩:=Aj5 hf;refine⟨x, ?_,hx⟩;apply Array.ext';simpa[Value.cells]using e
theorem Aa4 {A:Option Addr}{n c:Nat}(h:DataW.Trod enc Tryz.prog w base spare held 27 (.slice A n c) d p):∃ys,Bv w A n c ys:=by
 obtain⟨_,hf⟩:=h;obtain⟨A',n',c',xs,e,hx⟩:=Qc hf;simp[Value.cells]at e;obtain⟨rfl,rfl,rfl⟩:=e;exact⟨xs,hx⟩
end
end Go.Proofs.YtaglfmlgbcmakaaGreatDoor
