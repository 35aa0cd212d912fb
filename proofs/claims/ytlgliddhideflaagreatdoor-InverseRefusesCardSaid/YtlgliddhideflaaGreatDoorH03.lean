/-
  ablautlaw11: alphabet, spelt, lawful, sooner.
  ablautlaw11: lawful; spelt without sounds.
  A slice of words, as records of one cell.
  slices.IndexFunc and slices.ContainsFunc over records of type []api.Sound.
  What the functions of chapter 11 answer in its example.
  The example of chapter 11: an alphabet and two laws.
  The words that are searched, one after the other, and those of them that become a word (chapter 11), in plain words.
  A list in order with one more, by places; words that are derived one after the other (chapter 11), in plain words.
  slices.Index and slices.Contains over sounds; inverse.refused, inverse.wrong.
-/
import Derived.Test.YtlgliddhideflaaGreatDoorG74
import Derived.Test.YtlgliddhideflaaGreatDoorH02
import Derived.Test.YtlgliddhideflaaGreatDoorG37
set_option linter.all false
set_option maxRecDepth 100000
set_option maxHeartbeats 4000000
namespace Go.Proofs.YtlgliddhideflaaGreatDoor
open Go.RowKit Go.Shelf
theorem Xi (w:World)(n:Nat)(hn:n<=5):(w.alloc (.cells (Bc Jl).toArray 24)).ownsRow w.heap.size 24 2 (.slice (some ⟨w.heap.size,0,none⟩) n 5) n (Bc (Jl.take n)):=by
 refine⟨by rw[D9,Vi hn], .inr ⟨w.heap.size,5,(Bc Jl).toArray,rfl,rr,Ak rfl,hn,by decide,rfl, ?_⟩⟩;rw[List.toList_toArray,Jd]
theorem Uq (n:Nat)(hn:n<=5)(w:World):
  Calls Tryz.prog 54 #[.int .i64 n] w fun e w'=>e= .returned (.slice (some ⟨w.heap.size,0,none⟩) n 5)/\w'.ownsRow w.heap.size 24 2 (.slice (some ⟨w.heap.size,0,none⟩) n 5) n (Bc (Jl.take n))/\Below w.heap.size w w':=by
 have h5:(n:Int)<=5:=by omega
 have h0:(0:Int)<=(n:Int):=by omega
 have a0:=Xi w n hn;have a1:=hI a0;clear a0;go_enter Tryz.func54,Tryz.ntmps54;go_wp2;go_ret;exact⟨rfl,a1.out,bel⟩
end Go.Proofs.YtlgliddhideflaaGreatDoor
namespace Go.Proofs.YtlgliddhideflaaGreatDoor
open Go.RowKit Go.Shelf
end Go.Proofs.YtlgliddhideflaaGreatDoor
namespace Go.Proofs.YtlgliddhideflaaGreatDoor
open Go.RowKit Go.Shelf
def Qw (p:Part):List Value:=[p.val]
theorem Qx:∀ps:List Part,ps.flatMap Qw=ps.map Part.val
 |[]=>rfl
 |p::r=>by rw[List.flatMap_cons,Qx r];rfl
theorem Bb.recs {w:World}{A:Option Addr}{n c:Nat}{ps:List Part}(h:Bb w A n c 1 (ps.map Part.val)):Fc Qw 1 w A n c ps:=
 ⟨by rw[Qx];exact h,by have:=h.1;simpa using this⟩
end Go.Proofs.YtlgliddhideflaaGreatDoor
namespace Go.Proofs.YtlgliddhideflaaGreatDoor
open Go.RowKit Go.Shelf
end Go.Proofs.YtlgliddhideflaaGreatDoor
namespace Go.Proofs.YtlgliddhideflaaGreatDoor
open Go.RowKit Go.Shelf
theorem Xw:Eo [vD] [sA,sB,sA] [sP,sB,sA] 9=(0,[[sA,sP,sA],[sA,sB,sA]]):=by decide+kernel
theorem Vb:Fu [vD,fD] [sP,sB,sA] 1=(0,[[],[sP],[sB]]):=by decide+kernel
theorem Xx:J8 [vD] [sP,sB,sA] 3=(0,[([sA,sP,sA],[sA,sB,sA])]):=by decide+kernel
theorem Vc:Fg fD [sP,sB,sA] 2=(0,6):=by decide+kernel
theorem Jj {o:Oper}{a:Act}{K:Act->World->Prop}{Q:Exit->Act->World->Prop}(w:World)(x y:Operand)(ho:o.op= .store 34 x y)
  (b:Nat) (l:Av) (la:De) (hx:a.eval x= .pointer (some ⟨b,0,none⟩)) (hy:a.eval y=C3 l la) {old:Array Value} {t:TypeId} (hr:w.heap[b]? =some (.cells old t (0,0))) (hs:old.size=18)
  (h:∀W,W.heap[b]? =some (.cells (Bh l la) t (0,0))->Ae (fun k=>k=b) w W->W.heap.size=w.heap.size->K (a.put o.dst undef) W):o.wp Tryz.prog a w K Q:=by
 have h':=h (w.setRow b (Bh l la)) (setRow_heap w b old _ t _ hr) ⟨rfl,rfl,rfl,by simp[World.setRow],fun k _ hk=>setRow_other w b k _ hk⟩ (by simp[World.setRow])
 unfold Oper.wp execOp;simp only[ho,hx,hy,Instr.storeAt,Instr.sureAddr,Sem.run_bind,Sem.run_pure,Result.andThen_ok,run_storeVar_row w b t 34 old (Bh l la) hr (G0 l la) (by rw[Hq];exact hs) (Nc l la)];exact h'
theorem Mf {fn:Func}{s p q:Tmp}(h:fn.results= #[.tmp s, .cell p 34, .cell q 34])(tmps:Array Value)(w:World)(v:Value)(b1 b2:Nat)(l1 l2:Av)(a1 a2:De){t:TypeId}{fr:Nat×Nat}(hv:tmps.getD s undef=v)
  (hp:tmps.getD p undef= .pointer (some ⟨b1,0,none⟩)) (hq:tmps.getD q undef= .pointer (some ⟨b2,0,none⟩)) (h1:w.heap[b1]? =some (.cells (Bh l1 a1) t fr)) (h2:w.heap[b2]? =some (.cells (Bh l2 a2) t fr)):
  (results fn tmps).run Tryz.prog w= .ok (.tuple #[v,C3 l1 a1,C3 l2 a2]) w:=by
 have a0:tmps[s]?.getD undef=v:=by simpa using hv
 have a5:tmps[p]?.getD undef= .pointer (some ⟨b1,0,none⟩):=by simpa using hp
 have a3:tmps[q]?.getD undef= .pointer (some ⟨b2,0,none⟩):=by simpa using hq
 have hl:=Fl h1;have a4:=Fl h2;simp[results,h,a0,a5,a3,asAddr,hl,a4]
theorem Wq (w:World):Calls Tryz.prog 73 #[] w fun e w'=>∃(A:Option Addr) (c:Nat) (av af:De),e= .returned (.tuple #[.slice A 3 c,C3 vD av,C3 fD af])/\Ab w' A 3 c [sP,sB,sA]/\Df w' vD av/\Df w' fD af/\Below w.heap.size w w':=by
 go_enter Tryz.func73,Tryz.ntmps73;obtain⟨av,a5⟩:∃a:De,a={Al:=none,cl:=0,Ar:=none,cr:=0,Ai:=some ⟨w.heap.size+1+1+1,0,none⟩,ci:=1,Ao:=some ⟨w.heap.size+1+1+1+1,0,none⟩,co:=1}:=⟨_,rfl⟩;go_wp2_with(refine G7 rfl (.tmp 4) (.tmp 15) rfl (w.heap.size+1+1+1+1+1) vD av rfl (by rw[a5];rfl) (t:=34) (by repeat(first|exact Ak sd|rw[Ah sd])) rfl ?_;intro W1 g1 g2 g3);obtain⟨af,a6⟩:∃a:De,a={Al:=none,cl:=0,Ar:=none,cr:=0,Ai:=some ⟨w.heap.size+1+1+1+1+1+1,0,none⟩,ci:=1,Ao:=none,co:=0}:=⟨_,rfl⟩;have b4:W1.heap.size=w.heap.size+6:=by rw[g3];simp
 have q0:∃old:Array Value,W1.heap[w.heap.size]? =some (.cells old 34 (0,0))/\old.size=18:=⟨_,(g2.block _ sd (by omega)).trans (by repeat(first|exact Ak sd|rw[Ah sd])),rfl⟩;have q1:∃old:Array Value,W1.heap[w.heap.size+1]? =some (.cells old 34 (0,0))/\old.size=18:=⟨_,(g2.block _ sd (by omega)).trans (by repeat(first|exact Ak sd|rw[Ah sd])),rfl⟩;have q3:W1.heap[w.heap.size+1+1+1]? =some (.cells #[.int .u32 2, .int .u32 0] 24 (0,0)):=(g2.block _ sd (by omega)).trans (by repeat(first|exact Ak sd|rw[Ah sd]));have q4:W1.heap[w.heap.size+1+1+1+1]? =some (.cells #[.int .i64 0, .int .u32 0, .int .u32 1, .int .u32 0, .int .u32 0, .int .i64 0] 30 (0,0)):=(g2.block _ sd (by omega)).trans (by repeat(first|exact Ak sd|rw[Ah sd]));have a3:Below w.heap.size w W1:=Below.trans bel (g2.to_below (B:=w.heap.size) (fun k hk=>by omega) (by simp;omega));clear g2 g3;generalize hW5:(W1.alloc (.cells #[.int .u32 4, .int .u32 0] 24)).alloc (.cells #[.string ⟨#[70]⟩, .int .i64 0, .int .u32 0, .int .u32 0, .bool false, .int .i64 0, .int .i64 0, .slice none 0 0, .int .i64 6, .int .u32 0, .int .u32 0, .bool false, .int .i64 0, .int .i64 0, .slice none 0 0, .slice (some ⟨w.heap.size+1+1+1+1+1+1,0,none⟩) 1 1, .slice none 0 0, .int .i64 1] 34)=W5;have b0:W5.heap.size=w.heap.size+8:=by rw[←hW5];simp;omega
 have o5:∀k,k<w.heap.size+6->W5.heap[k]? =W1.heap[k]? :=fun k hk=>by rw[←hW5];exact(Ah (by simp;omega)).trans (Ah (by omega))
 have k4:W5.heap[w.heap.size+1+1+1+1+1]? =some (.cells (Bh vD av) 34 (0,0)):=(o5 _ (by omega)).trans g1;have k6:W5.heap[w.heap.size+1+1+1+1+1+1]? =some (.cells #[.int .u32 4, .int .u32 0] 24 (0,0)):=by rw[←hW5];exact(Ah (by simp;omega)).trans (Ak (by omega))
 have k7:W5.heap[w.heap.size+1+1+1+1+1+1+1]? =some (.cells (Bh fD af) 34 (0,0)):=by rw[←hW5,a6];exact Ak (by simp;omega)
 obtain⟨ol0,q0,z0⟩:=q0;obtain⟨ol1,q1,z1⟩:=q1;have k0:=(o5 _ (by omega)).trans q0;have k1:=(o5 _ (by omega)).trans q1;have k3:=(o5 _ (by omega)).trans q3;have k44:=(o5 _ (by omega)).trans q4;have a8:Below w.heap.size w W5:=⟨by rw[←hW5];exact a3.os,by rw[←hW5];exact a3.tape,by rw[←hW5];exact a3.output,by omega,fun k hk=>(o5 k (by omega)).trans (a3.block k hk)⟩
 have d0:=hI a5;have b6:=hI a6;have d2:=hI b0;have b8:w.heap.size+8<=W5.heap.size:=by omega
 have K0:=hI k0;have K1:=hI k1;have K3:=hI k3;have b9:=hI k44;have K6:=hI k6;have K4:=hI k4;have K7:=hI k7;have b3:=hI a8;have Z0:=hI z0;have Z1:=hI z1;clear hW5 g1 q0 q1 q3 q4 o5 a3 b4 a5 a6 b0 k0 k1 k3 k44 k6 a8 z0 z1;refine Bs (fun W'=>W'.heap[w.heap.size+1+1+1+1+1]? =some (.cells (Bh vD av) 34 (0,0))/\W'.heap[w.heap.size+1+1+1+1+1+1+1]? =some (.cells (Bh fD af) 34 (0,0))) (by kernel_rfl) ⟨k4,k7⟩ (fun hHeld=> ?_);clear k4 k7
 (refine' Aa 0 rfl ?_;(try simp only[Act.put,nY,nX]));(refine' Aa 1 rfl ?_;(try simp only[Act.put,nY,nX]));(refine' Aa 2 rfl ?_;(try simp only[Act.put,nY,nX]))
 (refine' Gz (i:=4) (v:=C3 vD av) rfl (by kernel_rfl) (by kernel_rfl) (by kernel_rfl) (by kernel_rfl) (fun _ _ _ h=>h) (Hr (by rfl) (.tmp 4) rfl (w.heap.size+1+1+1+1+1) vD av (by rfl) (fun w' hSw=>hSw.1)) (by assumption) ?_;(try simp only[Act.put,nY,nX]))
 (refine' Gz (i:=5) (v:=C3 fD af) rfl (by kernel_rfl) (by kernel_rfl) (by kernel_rfl) (by kernel_rfl) (fun _ _ _ h=>h) (Hr (by rfl) (.tmp 5) rfl (w.heap.size+1+1+1+1+1+1+1) fD af (by rfl) (fun w' hSw=>hSw.2)) (by assumption) ?_;(try simp only[Act.put,nY,nX]))
 (refine Agz 3 rfl (fun K' hK'=> ?_);simp only[nY];go_simp)
 have a9:Ab ((W5.alloc (.cells #[.int .u32 2, .int .u32 5, .int .u32 3, .int .u32 4, .int .u32 5, .int .u32 2] 24)).drew) (some ⟨W5.heap.size,0,none⟩) 3 3 [sP,sB,sA]:=C5 W5 [sP,sB,sA] 24 (by simp);have a2:Below W5.heap.size W5 ((W5.alloc (.cells #[.int .u32 2, .int .u32 5, .int .u32 3, .int .u32 4, .int .u32 5, .int .u32 2] 24)).drew):=((Below.refl _ W5).alloc rr _).drew
 have a0:((W5.alloc (.cells #[.int .u32 2, .int .u32 5, .int .u32 3, .int .u32 4, .int .u32 5, .int .u32 2] 24)).drew).heap[w.heap.size+1+1+1+1+1]? =some (.cells (Bh vD av) 34 (0,0))/\((W5.alloc (.cells #[.int .u32 2, .int .u32 5, .int .u32 3, .int .u32 4, .int .u32 5, .int .u32 2] 24)).drew).heap[w.heap.size+1+1+1+1+1+1+1]? =some (.cells (Bh fD af) 34 (0,0)):=
  ⟨(a2.block _ (by omega)).trans K4.out,(a2.block _ (by omega)).trans K7.out⟩
 refine hK' _ _ ⟨.inr a0,fun _=> ?_⟩
 clear hK' K' hHeld
 (try simp only[Act.put,nY,nX])
 generalize(W5.alloc (.cells #[.int .u32 2, .int .u32 5, .int .u32 3, .int .u32 4, .int .u32 5, .int .u32 2] 24)).drew=W6 at*;have k0:=(a2.block _ (by omega)).trans K0.out;have k1:=(a2.block _ (by omega)).trans K1.out;have k3:=(a2.block _ (by omega)).trans K3.out;have k44:=(a2.block _ (by omega)).trans b9.out;have k6:=(a2.block _ (by omega)).trans K6.out;have d1:=a2.size;have a7:Below w.heap.size w W6:=b3.out.trans (a2.mono (by omega));have b7:=hI a9;clear a9 a2
 (refine Agz 6 rfl (fun K' hK'=> ?_);simp only[nY];go_simp)
 refine hK' _ _ ⟨.inr a0,fun _=> ?_⟩
 clear hK' K'
 (try simp only[Act.put,nY,nX])
 refine Agz 7 rfl (fun K' hK'=> ?_);rw[if_pos (by rfl)];refine Jj _ (.tmp 1) (.tmp 24) rfl w.heap.size vD av (by rfl) (by rfl) k0 Z0.out ?_;intro X1 x1 x2 x3;have y1:∀k,k≠w.heap.size->k<w.heap.size+8->X1.heap[k]? =W6.heap[k]? :=fun k hk hl=>x2.block k (by omega) hk
 have a1:X1.heap[w.heap.size+1+1+1+1+1]? =some (.cells (Bh vD av) 34 (0,0))/\X1.heap[w.heap.size+1+1+1+1+1+1+1]? =some (.cells (Bh fD af) 34 (0,0)):=⟨(y1 _ (by omega) (by omega)).trans a0.1,(y1 _ (by omega) (by omega)).trans a0.2⟩;refine hK' _ _ ⟨.inr a1,fun _=> ?_⟩
 clear hK' K' a0
 (try simp only[Act.put,nY,nX])
 refine Agz 8 rfl (fun K' hK'=> ?_);rw[if_pos (by rfl)];refine Jj _ (.tmp 2) (.tmp 25) rfl (w.heap.size+1) fD af (by rfl) (by rfl) ((y1 _ (by omega) (by omega)).trans k1) Z1.out ?_;intro X2 x4 x5 x6;refine hK' _ _ ⟨.inl (by kernel_rfl),fun _=>Be (by kernel_rfl) ?_ _⟩
 clear hK' K' a1
 (try simp only[Act.put,nY,nX])
 have y2:∀k,k≠w.heap.size->k≠w.heap.size+1->k<w.heap.size+8->X2.heap[k]? =W6.heap[k]? :=fun k hk hk1 hl=>(x5.block k (by omega) hk1).trans (y1 k hk hl)
 have r0:=(x5.block w.heap.size (by omega) (by omega)).trans x1;have r3:=(y2 _ (by omega) (by omega) (by omega)).trans k3;have r44:=(y2 _ (by omega) (by omega) (by omega)).trans k44;have r6:=(y2 _ (by omega) (by omega) (by omega)).trans k6;have a4:Ae (fun k=>k=w.heap.size\/k=w.heap.size+1) W6 X2:=(x2.mono fun k e=> .inl e).trans (x5.mono fun k e=> .inr e);have R0:=hI r0;have R1:=hI x4;have R3:=hI r3;have R44:=hI r44;have R6:=hI r6;have b5:Hid (Ab X2 (some ⟨W5.heap.size,0,none⟩) 3 3 [sP,sB,sA]):=b7.out.keep a4 fun _ ad had e=>by injection had with had;subst had;simp at e;omega
 have b1:Hid (Below w.heap.size w X2):=a7.trans (a4.to_below (B:=w.heap.size) (fun k hk=>by rcases hk with rfl|rfl<;>omega) a7.size);clear k0 k1 k3 k44 k6 x1 x2 x3 x4 x5 x6 y1 y2 r0 r3 r44 r6 a4 a7;go_wp2;refine bodyPost_ret (Mf Tryz.results73 _ _ _ w.heap.size (w.heap.size+1) vD fD av af rfl rfl rfl R0.out R1.out) rfl ⟨_,3,av,af,rfl,b5.out, ?_, ?_,b1.out⟩
 ·rw[d0.out];refine⟨M9 _,M9 _,S9 (s:=(2,0)) R3.out,⟨⟨rfl,rr,(by decide:1<=maxLen),(fun h=>by cases h),fun _=>⟨w.heap.size+1+1+1+1,0,rfl,lt_of_block R44.out,fun j v hv=> ?_⟩⟩,rfl⟩,by decide⟩
  rw[Nat.zero_add];refine Ac R44.out ?_;have b2:[Value.int .i64 0, .int .u32 0, .int .u32 1, .int .u32 0, .int .u32 0, .int .i64 0][j]? =some v:=hv;simpa using b2
 ·rw[b6.out];exact⟨M9 _,M9 _,S9 (s:=(4,0)) R6.out,⟨Bb.nil _ _,rfl⟩,by decide⟩
def Gm (ls:List Av)(w ss:List Snd)(n i:Nat):List (List Snd):=
 ((List.range n).flatMap (Cp (B3 ss))++(Cp (B3 ss) n).take i).filter fun v=>decide (Bl ls v=(0,w))
theorem Abl (ls:List Av)(w ss:List Snd):Gm ls w ss 0 0=[]:=by simp[Gm]
theorem Abm (ls:List Av)(w ss:List Snd):Gm ls w ss 7 0=Ca ls w ss:=by simp[Gm,Ca,E3]
theorem Abn (ls:List Av)(w ss:List Snd)(n:Nat):Gm ls w ss n (Cp (B3 ss) n).length=Gm ls w ss (n+1) 0:=by
 unfold Gm;rw[List.take_length,List.take_zero,List.append_nil,List.range_succ,List.flatMap_append,List.flatMap_cons,List.flatMap_nil,List.append_nil]
theorem Xc {ls:List Av}{w ss x:List Snd}{n i:Nat}(h:(Cp (B3 ss) n)[i]? =some x)(hx:Bl ls x=(0,w)):Gm ls w ss n (i+1)=Gm ls w ss n i++[x]:=by
 unfold Gm;rw[Ba _ i x h,←List.append_assoc,List.filter_append,List.filter_cons_of_pos (by simpa using hx)];rfl
theorem Abo {ls:List Av}{w ss x:List Snd}{n i:Nat}(h:(Cp (B3 ss) n)[i]? =some x)(hx:¬Bl ls x=(0,w)):Gm ls w ss n (i+1)=Gm ls w ss n i:=by
 unfold Gm;rw[Ba _ i x h,←List.append_assoc,List.filter_append,List.filter_cons_of_neg (by simpa using hx)];simp
theorem Ac6 {ls:List Av}{w ss:List Snd}{n i:Nat}(hn:n<=6):Gm ls w ss n i<+:Ca ls w ss:=by
 unfold Gm Ca E3;refine List.IsPrefix.filter _ ?_
 have h1:List.range 7=List.range n++n::((List.range 7).drop (n+1)):=by
  have:n=0\/n=1\/n=2\/n=3\/n=4\/n=5\/n=6:=by omega
  rcases this with rfl|rfl|rfl|rfl|rfl|rfl|rfl<;>rfl
 rw[h1,List.flatMap_append,List.flatMap_cons];refine(List.prefix_append_right_inj _).2 ?_;exact(List.take_prefix _ _).trans (List.prefix_append _ _)
theorem Aef {ls:List Av}{w ss x:List Snd}{n i:Nat}(hn:n<=6)(h:(Cp (B3 ss) n)[i]? =some x)(hx:Bl ls x=(0,w)):(Ca ls w ss)[(Gm ls w ss n i).length]? =some x:=by
 have h1:=Xc h hx;obtain⟨r,hr⟩:=Ac6 (ls:=ls) (w:=w) (ss:=ss) (i:=i+1) hn;rw[←hr,h1,List.append_assoc,List.getElem?_append_right rr,Nat.sub_self];rfl
def C0 (ls:List Av)(L:List (List Snd)):List (List Snd×List Snd):=(L.filter fun v=>decide ((Bl ls v).1=0)).map fun v=>(v,(Bl ls v).2)
theorem Tu (ls:List Av)(ss:List Snd)(n:Nat):Ce ls ss n=C0 ls (Cp (B3 ss) n):=rfl
theorem Mz {ls:List Av}{L:List (List Snd)}{i:Nat}{x:List Snd}(h:L[i]? =some x)(hx:(Bl ls x).1=0):C0 ls (L.take (i+1))=C0 ls (L.take i)++[(x,(Bl ls x).2)]:=by
 unfold C0;rw[Ba L i x h,List.filter_append,List.filter_cons_of_pos (by simpa using hx),List.map_append];rfl
theorem Vy {ls:List Av}{L:List (List Snd)}{i:Nat}{x:List Snd}(h:L[i]? =some x)(hx:¬(Bl ls x).1=0):C0 ls (L.take (i+1))=C0 ls (L.take i):=by
 unfold C0;rw[Ba L i x h,List.filter_append,List.filter_cons_of_neg (by simpa using hx)];simp
theorem Tv (ls:List Av)(L:List (List Snd)):C0 ls (L.take L.length)=C0 ls L:=by rw[List.take_length]
theorem Vz {ls:List Av}{L:List (List Snd)}{i:Nat}{x:List Snd}(h:L[i]? =some x)(hx:(Bl ls x).1=0):(C0 ls L)[(C0 ls (L.take i)).length]? =some (x,(Bl ls x).2):=by
 have h1:L=L.take (i+1)++L.drop (i+1):=(List.take_append_drop _ _).symm
 have h2:C0 ls L=C0 ls (L.take (i+1))++C0 ls (L.drop (i+1)):=by
  conv=>lhs;rw[h1]
  unfold C0;rw[List.filter_append,List.map_append]
 rw[h2,Mz h hx,List.append_assoc,List.getElem?_append_right rr,Nat.sub_self];rfl
theorem Jy (x:List Snd×List Snd):∀(P fs:List (List Snd×List Snd)),Dv (P++[x]) fs=Dv P fs++(match(C9 P fs).find? (fun p=>decide (p.2=x.2))with|some p=>[(p.1,x.1)]|none=>[])∧
  C9 (P++[x]) fs=if(C9 P fs).any (fun p=>decide (p.2=x.2))=true then C9 P fs else C9 P fs++[x]
 |[],fs=>by
  rcases Nz (fs:=fs) (t:=x.2)with⟨⟨p,h1,_⟩,h2⟩|⟨h1,h2⟩
  ·rw[List.nil_append,Fv h1];simp only[Dv,C9,h1,h2];simp
  ·rw[List.nil_append,Fw h1];simp only[Dv,C9,h1,h2];simp
 |y::P,fs=>by
  rw[List.cons_append];rcases Nz (fs:=fs) (t:=y.2)with⟨⟨p,h1,_⟩,h2⟩|⟨h1,h2⟩
  ·obtain⟨i1,i2⟩:=Jy x P fs;rw[Fv h1,Fv h1,i1];simp only[C9,h2,i2,if_true];exact⟨by simp,trivial⟩
  ·obtain⟨i1,i2⟩:=Jy x P (fs++[y]);rw[Fw h1,Fw h1,i1];simp only[C9,h2,i2];exact⟨by simp,by simp⟩
theorem Pg {x p:List Snd×List Snd}{P:List (List Snd×List Snd)}(h:(C9 P []).find? (fun p=>decide (p.2=x.2))=some p):Dv (P++[x]) []=Dv P []++[(p.1,x.1)]/\C9 (P++[x]) []=C9 P []:=by
 obtain⟨h1,h2⟩:=Jy x P [];rw[h]at h1;refine⟨h1, ?_⟩;rw[h2,if_pos];exact List.any_eq_true.2 ⟨p,List.mem_of_find?_eq_some h,by have h5:=List.find?_some h;exact h5⟩
theorem Ph {x:List Snd×List Snd}{P:List (List Snd×List Snd)}(h:(C9 P []).find? (fun p=>decide (p.2=x.2))=none):Dv (P++[x]) []=Dv P []/\C9 (P++[x]) []=C9 P []++[x]:=by
 obtain⟨h1,h2⟩:=Jy x P [];rw[h]at h1;refine⟨by rw[h1];simp, ?_⟩;rw[h2,if_neg];intro hc;obtain⟨p,hp,he⟩:=List.any_eq_true.1 hc;exact absurd he (List.find?_eq_none.1 h p hp)
theorem Sf {ss:List Snd}(h:5<ss.length):B2 ss=12:=by unfold B2;rw[if_pos h]
theorem Qf {ss:List Snd}(h:¬5<ss.length)(hv:∀s∈ss,Br s.1 s.2=true){i k:Nat}{s:Snd}(hk:k<i)(h1:ss[i]? =some s)(h2:ss[k]? =some s):B2 ss=6:=by
 unfold B2;rw[if_neg h,if_neg,if_pos]
 ·intro hn;obtain⟨hi,e1⟩:=List.getElem?_eq_some_iff.1 h1;obtain⟨a0,e2⟩:=List.getElem?_eq_some_iff.1 h2
  have:=(List.getElem_inj (h₀:=hi) (h₁:=a0) hn).1 (e1.trans e2.symm)
  omega
 ·intro hc;obtain⟨x,hx,hb⟩:=List.any_eq_true.1 hc;rw[hv x hx]at hb;simp at hb
theorem V5 {ss:List Snd}(h:¬5<ss.length)(hv:∀s∈ss,Br s.1 s.2=true)(hn:ss.Nodup):B2 ss=0:=by
 unfold B2;rw[if_neg h,if_neg,if_neg (by simpa using hn)];intro hc;obtain⟨x,hx,hb⟩:=List.any_eq_true.1 hc;rw[hv x hx]at hb;simp at hb
theorem V6 {ss:List Snd}{i:Nat}{s:Snd}(h:ss[i]? =some s)(hn:(ss.take i).Nodup)(hs:s∉ss.take i):(ss.take (i+1)).Nodup:=by
 rw[Ba ss i s h,List.nodup_append];refine⟨hn,by simp,fun a ha b hb e=>hs ?_⟩
 have a0:b=s:=by simpa using hb
 rw[←a0,←e];exact ha
def Ga (p m:Int)(s:Snd):Bool:=p==s.1 && m==s.2
theorem Yn (p m:Int)(xs:List Snd):xs.any (Ga p m)=decide ((p,m)∈xs):=by
 rw[Bool.eq_iff_iff,List.any_eq_true,decide_eq_true_iff];constructor
 ·rintro⟨⟨a,b⟩,hs,h⟩;simp only[Ga,Bool.and_eq_true,beq_iff_eq]at h;obtain⟨rfl,rfl⟩:=h;exact hs
 ·exact fun h=>⟨_,h,by simp[Ga]⟩
theorem Ac1 (A:Option Addr)(n c:Nat)(xs:List Snd)(p m:Int)(w:World)(hx:Ab w A n c xs):
  Calls Tryz.prog 144 #[.slice A n c,C8 p m] w fun e w'=>e= .returned (.int .i64 (Gf (Ga p m) xs))/\Below w.heap.size w w':=by
 have hm:=hx.max;have HX:=hI hx;clear hx;go_enter Tryz.func144,Tryz.ntmps144;go_wp2
 go_loopw [5,8] (fun _ i wr=>∃k:Nat,k<=n/\i= .int .i64 k/\Hid ((xs.take k).any (Ga p m)=false)/\wr.heap[w.heap.size]? =some (.cells #[.int .u32 p, .int .u32 m] 24 (0,0))/\Below w.heap.size w wr) (fun _ i _=>n-(intOf i).toNat)
 case atStart=>exact⟨0,Nat.zero_le _,rfl,by simp[Hid],hpt,bel⟩
 case round=>
  obtain⟨k,hk,rfl,HA,a1,hB⟩:=hrel;have b0:wr.cell? ⟨w.heap.size,0,none⟩=some (.int .u32 p):=Ac (j:=0) a1 rfl;have b1:wr.cell? ⟨w.heap.size,1,none⟩=some (.int .u32 m):=Ac (j:=1) a1 rfl;have a2:=hI a1;clear a1;by_cases hlt:k<n
  ·obtain⟨b,off,p',m',rfl,hb,a3,a6,a7⟩:=(HX.out.below hB rr).at_ hlt;have HK:=hI a3;clear a3;go_wp2;by_cases hp:Ga p m (p',m')=true
   ·have hr:=Gw (Ga p m) xs k (p',m') HK.out HA.out hp;have HR:=hI hr;clear hr;have a4:p=p'/\m=m':=by simpa[Ga]using hp
    clear hp;obtain⟨rfl,rfl⟩:=a4
    go_quiet (fail)
    go_wp2;go_ret;exact⟨by rw[HR.out];rfl,bel⟩
   ·have a0:Ga p m (p',m')=false:=by simpa using hp
    have HN:=hI (show(xs.take (k+1)).any (Ga p m)=false by rw[Ba xs k _ HK.out,List.any_append,HA.out];simp[a0]);by_cases h1:p=p'
    ·subst h1;have a5:(m==m')=false:=by simpa[Ga]using a0
     clear hp a0
     go_quiet (fail)
     go_wp2
     go_roundw
     case rel=>exact⟨k+1,by omega,by go_num,HN,a2.out,bel⟩
     case measure=>simp[intOf];omega
    ·have a5:(p==p')=false:=by simpa using h1
     clear hp a0 h1
     go_quiet (fail)
     go_wp2
     go_roundw
     case rel=>exact⟨k+1,by omega,by go_num,HN,a2.out,bel⟩
     case measure=>simp[intOf];omega
  ·obtain rfl:k=n:=by omega
   have hr:Gf (Ga p m) xs= -1:=by
    have:=HA.out
    rw[List.take_of_length_le (by rw[HX.out.len];exact rr)]at this;exact Gv _ xs this
   have HR:=hI hr;clear hr;go_wp2;go_ret;exact⟨by rw[HR.out];rfl,bel⟩
theorem Abf (A:Option Addr)(n c:Nat)(xs:List Snd)(p m:Int)(w:World)(hx:Ab w A n c xs):
  Calls Tryz.prog 69 #[.slice A n c,C8 p m] w fun e w'=>e= .returned (.bool (decide ((p,m)∈xs)))/\Below w.heap.size w w':=by
 have H:=hI ((Jk (Ga p m) xs).trans (Yn p m xs));have HX:=hI hx;clear hx;go_enter Tryz.func69,Tryz.ntmps69;go_wp2_with(go_at_call 144;refine(Ac1 A n c xs p m _ (HX.out.below (show Below w.heap.size w _ from bel) rr)).mono ?_;rintro e w1 ⟨rfl,a0⟩;have a1:=Cn a0;(try simp only[World.size_alloc,World.size_drew,World.size_setCell]at a1);have a2:Below w.heap.size w w1:=bel;clear a0);go_ret;refine⟨?_,a2⟩;show Ending.returned (.bool (decide (0<=Gf (Ga p m) xs)))=_;rw[H.out]
theorem V9 (p m:Int)(w:World):Calls Tryz.prog 222 #[C8 p m] w fun e w'=>e= .returned (.bool (!Br p m))/\Below w.heap.size w w':=by
 go_enter Tryz.func222,Tryz.ntmps222;go_wp2_with(go_at_call 93;refine(C1 _ _ _).mono ?_;rintro e w1 ⟨rfl,a0⟩;have a1:=Cn a0;(try simp only[World.size_alloc,World.size_drew,World.size_setCell]at a1);have c0:=fun o=>a0.cell (p:=⟨w.heap.size,o,none⟩) sd;have f0:=fun o=>a0.frozen (p:=⟨w.heap.size,o,none⟩) sd;have a2:Below w.heap.size w w1:=bel;clear a0);go_ret;exact⟨rfl,bel⟩
theorem Yo (A:Option Addr)(n c:Nat)(xs:List Snd)(w:World)(hx:Ab w A n c xs):
  Calls Tryz.prog 179 #[.slice A n c] w fun e w'=>e= .returned (.int .i64 (B2 xs))/\Below w.heap.size w w':=by
 have hm:=hx.max;have HL:Hid (xs.length=n):=hx.len;have HX:=hI hx;clear hx;by_cases h5:5<n
 ·have HR:Hid (B2 xs=12):=by show B2 xs=12;exact Sf (by rw[HL.out];exact h5)
  go_enter Tryz.func179,Tryz.ntmps179;go_wp2;go_ret;exact⟨by rw[HR.out];rfl,Below.refl _ _⟩
 have a2:Hid (¬5<xs.length):=by show¬_;rw[HL.out];exact h5
 go_enter Tryz.func179,Tryz.ntmps179;go_wp2_with fail;refine(Nv A n c xs 222 #[] (fun s=> !Br s.1 s.2) w HX.out (enters_of Tryz.func222 (by kernel_rfl) rfl) (fun W hB s _=>V9 s.1 s.2 W)).mono ?_;rintro e w1 ⟨rfl,a0⟩
 cases hb:xs.any (fun s=> !Br s.1 s.2)with
 |true=>
  have HR:Hid (B2 xs=14):=by show B2 xs=14;unfold B2;rw[if_neg a2.out,if_pos hb]
  clear hb;go_wp2;go_ret;exact⟨by rw[HR.out];rfl,a0⟩
 |false=>
  have HV:Hid (∀s∈xs,Br s.1 s.2=true):=fun s hs=>by have:=List.any_eq_false.1 hb s hs;simpa using this
  clear hb;go_wp2
  go_loopw [3,4,12] (fun _ _ i wr=>∃k:Nat,k<=n/\i= .int .i64 k/\Hid ((xs.take k).Nodup)/\Below w.heap.size w wr) (fun _ _ i _=>n-(intOf i).toNat)
  case atStart=>exact⟨0,Nat.zero_le _,rfl,by simp[Hid],a0⟩
  case round=>
   clear a0;obtain⟨k,hk,rfl,HN,hB⟩:=hrel;by_cases hlt:k<n
   ·have a1:=HX.out.below hB rr;obtain⟨b,off,p',m',rfl,hb,a4,b2,a9⟩:=a1.at_ hlt;have HK:=hI a4;clear a4;have b1:=a1.2.1;have a8:=hI (Ab.take a1 (show k<=n by omega));clear a1;have b0:(k:Int)<=(c:Int):=by omega
    go_wp2
    go_region_held3 (fun w'=>w'.cell? ⟨wr.heap.size,0,none⟩=some (.int .u32 p')/\w'.cell? ⟨wr.heap.size,1,none⟩=some (.int .u32 m')) (first|(go_keep;done)|((try dsimp only);((repeat' apply And.intro)<;>(try simp(disch:=omega) only[B0,Au,World.cell?_drew])<;>first|assumption|(simp[*,go_sem];done)))) ((go_at_call 69;refine(Abf _ _ _ (xs.take k) p' m' _ (a8.out.below (show Below wr.heap.size wr _ from bel) rr)).mono ?_;rintro e w1 ⟨rfl,a0⟩;have a7:=Cn a0;(try simp only[World.size_alloc,World.size_drew,World.size_setCell]at a7);have c0:=fun o=>a0.cell (p:=⟨wr.heap.size,o,none⟩) sd;have f0:=fun o=>a0.frozen (p:=⟨wr.heap.size,o,none⟩) sd;have a5:Below wr.heap.size wr w1:=bel;clear a0))
    by_cases hin:(p',m')∈xs.take k
    ·have HR:Hid (B2 xs=6):=by
      show B2 xs=6;obtain⟨j,hj,a3⟩:=List.getElem_of_mem hin;rw[List.length_take]at hj;rw[List.getElem_take]at a3;exact Qf a2.out HV.out (k:=j) (by omega) HK.out (by rw[List.getElem?_eq_getElem (by omega),a3])
     rw[decide_eq_true hin];clear hin;go_wp2;go_ret;exact⟨by rw[HR.out];rfl,hB.trans (a5.mono hB.size)⟩
    ·have a6:=hI (V6 HK.out HN.out hin);rw[decide_eq_false hin];clear hin;go_wp2
     go_roundw
     case rel=>exact⟨k+1,by omega,by go_num,a6,hB.trans (a5.mono hB.size)⟩
     case measure=>simp[intOf];omega
   ·obtain rfl:k=n:=by omega
    have HR:Hid (B2 xs=0):=by
     have:=HN.out
     rw[List.take_of_length_le (by rw[HL.out];exact rr)]at this;exact V5 a2.out HV.out this
    go_wp2;go_ret;exact⟨by rw[HR.out];rfl,hB⟩
theorem Ng (A:Option Addr)(n c:Nat)(xs:List Bu)(Aw:Option Addr)(nw cw:Nat)(ws:List Snd)(As:Option Addr)(ns cs:Nat)(ss:List Snd)(w:World)(hx:Bw w A n c xs)(hw:Ab w Aw nw cw ws)(hs:Ab w As ns cs ss):
  Calls Tryz.prog 140 #[.slice A n c, .slice Aw nw cw, .slice As ns cs] w fun e w'=>e= .returned (.int .i64 (Bg (Am xs) ws ss))/\Below w.heap.size w w':=by
 have HX:=hI hx;have HW:=hI hw;have HS:=hI hs;clear hx hw hs;go_enter Tryz.func140,Tryz.ntmps140;go_wp2_with fail;refine(S6 A n c xs w HX.out).mono ?_;rintro e w1 ⟨rfl,a3⟩;have a1:=hI a3;clear a3;by_cases h1:D5 (Am xs)=0
 case neg=>
  have a8:(D5 (Am xs) !=0)=true:=by simpa using h1
  have HR:Hid (Bg (Am xs) ws ss=D5 (Am xs)):=by show Bg _ _ _=_;unfold Bg;rw[if_pos h1]
  clear h1;go_wp2;go_ret;exact⟨by rw[HR.out];rfl,a1.out⟩
 have a8:(D5 (Am xs) !=0)=false:=by simpa using h1
 have a4:Hid (Bg (Am xs) ws ss=if Bx ws≠0 then Bx ws else B2 ss):=by show Bg _ _ _=_;unfold Bg;rw[if_neg (by simpa using h1)]
 clear h1;go_wp2_with fail;refine(Pr Aw nw cw ws w1 (HW.out.below a1.out rr)).mono ?_;rintro e w2 ⟨rfl,a5⟩;have a0:=hI (a1.out.trans (a5.mono a1.out.size));clear a5;by_cases h2:Bx ws=0
 case neg=>
  have a7:(Bx ws !=0)=true:=by simpa using h2
  have HR:Hid (Bg (Am xs) ws ss=Bx ws):=by show Bg _ _ _=_;rw[a4.out,if_pos h2]
  clear h2;go_wp2;go_ret;exact⟨by rw[HR.out];rfl,a0.out⟩
 have a7:(Bx ws !=0)=false:=by simpa using h2
 have HR:Hid (Bg (Am xs) ws ss=B2 ss):=by show Bg _ _ _=_;rw[a4.out,if_neg (by simpa using h2)]
 clear h2;go_wp2_with fail;refine(Yo As ns cs ss w2 (HS.out.below a0.out rr)).mono ?_;rintro e w3 ⟨rfl,a2⟩;have a6:=hI (a0.out.trans (a2.mono a0.out.size));clear a2;go_wp2;go_ret;exact⟨by rw[HR.out];rfl,a6.out⟩
end Go.Proofs.YtlgliddhideflaaGreatDoor
