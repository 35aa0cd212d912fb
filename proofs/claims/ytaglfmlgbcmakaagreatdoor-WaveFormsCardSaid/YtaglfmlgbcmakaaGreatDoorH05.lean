/-
  wave.Forms.
  A slice of words, as records of one cell.
  slices.IndexFunc over records of type []api.Sound.
  wave.Values.
  Package wave, where there is no map: each call is refused.
  Package wave, over a map or none.
  ablautref36: valid, has, Len, Dist.
  The document's distances (chapter 36), in plain words: ways over one point more, written over in place.
  The document's distances, under way in memory (ablautref36.New).
-/
import Derived.Test.YtaglfmlgbcmakaaGreatDoorH04
import Derived.Test.YtaglfmlgbcmakaaGreatDoorG38
import Derived.Test.YtaglfmlgbcmakaaGreatDoorG21
set_option linter.all false
set_option maxRecDepth 100000
set_option maxHeartbeats 4000000
namespace Go.Proofs.YtaglfmlgbcmakaaGreatDoor
open Go.RowKit Go.Shelf Go.Maps Go.WideMaps
theorem Nz {f:Nat->Int×List Snd}:∀(l:List Nat) (done:List (List Snd)),(∀a∈l,(f a).1=0)->Fb f done l=(0,done++l.map fun a=>(f a).2)
 |[],done,_=>by simp[Fb]
 |a::l,done,h=>by
  unfold Fb;rw[if_neg (by rw[h a (List.mem_cons_self ..)];simp),Nz l _ fun b hb=>h b (List.mem_cons_of_mem _ hb)]
  simp
theorem Mp {f:Nat->Int×List Snd}:∀(l r:List Nat) (done:List (List Snd)) (a:Nat),(∀b∈l,(f b).1=0)->(f a).1≠0->Fb f done (l++a::r)=((f a).1,[])
 |[],r,done,a,_,h=>by
  show Fb f done (a::r)=_;unfold Fb;rw[if_pos h]
 |b::l,r,done,a,hl,h=>by
  show Fb f done (b::(l++a::r))=_;unfold Fb;rw[if_neg (by rw[hl b (List.mem_cons_self ..)];simp),Mp l r _ a (fun x hx=>hl x (List.mem_cons_of_mem _ hx)) h]
theorem T1 {w:World}{B B':Nat}{t t':TypeId}{z z':Nat}{v v':Value}{n n':Nat}{xs xs':List Value}(h:w.ownsRow B t z v n xs)(h':w.ownsRow B' t' z' v' n' xs')(hn:t≠t'):∀k,v.ownBlock=some k->v'.ownBlock≠some k:=by
 intro k hk a0;rcases h.2 with⟨rfl,_⟩|⟨g,cap,cur,rfl,_,hg,_⟩
 ·cases hk
 ·rcases h'.2 with⟨rfl,_⟩|⟨g',cap',cur',rfl,_,a1,_⟩
  ·cases a0
  ·obtain rfl:g=k:=Option.some.inj hk;obtain rfl:g'=g:=Option.some.inj a0;rw[hg]at a1;injection a1 with e
   injection e with _ e _
   exact hn e
theorem Ae9:(Tryz.prog.info? 5).map (fun i=>(i.zero,i.size,i.bytes))=some (some (.int .u8 0),1,1):=by kernel_rfl
theorem Aaj {ops:Array Oper}{rest:List Oper}{o:Oper}{a:Act}{w:World}{Q:Exit->Act->World->Prop}(hgd:o.guard=none)(s x:Operand)
  (ho:o.op= .call {callee:= .builtin .append,args:= #[s,x],argTypes:= #[102,102]})
  (base:Nat) (v:Value) (n:Nat) (xs:List Value) (hs:a.eval s=v) (hown:w.ownsRow base 5 1 v n xs)
  (ad:Addr) (c:Nat) (y:Value) (hx:a.eval x= .slice (some ad) 1 c) (hr:∀j u,[y][j]? =some u->w.cell? (ad.add j)=some u) (hy:y.oneCell'=true) (hl:n+1<=4096) (hbase:base<=w.heap.size)
  (h:∀v' w',w'.ownsRow base 5 1 v' (n+1) (xs++[y])->w.grownBy w' v.ownBlock→
   wpList Tryz.prog ops Q rest (a.put o.dst v') w'):wpList Tryz.prog ops Q (o::rest) a w:=by
 obtain⟨i0,hi,a1,a2,a0⟩:=info_parts Ae9
 exact wpList_append_own_at w hgd s x 102 ho base 5 i0 _ 1 1 Tryz.underlying102 hi a1 a2 a0 rfl (by decide) v n xs hs hown ad 1 c [y] hx rfl hr
  (by intro u hu;simp at hu;subst hu;exact hy) (by unfold maxLen;omega) (by omega) hbase fun v' w' h1 h2 _ h4=>h v' w' h1 h2
theorem T3 {ls:List Bi}{ws:List Snd}(hw:B4 ws=0):(Bz ls ws).2.length<=32:=by
 unfold Bz;split
 ·simp
 ·rename_i h
  split
  ·simp
  ·cases e:(Bq ls ws).2.getLast? with
   |none=>simp
   |some x=>
    have h2:=(Q6 ls ws (Wa (Af8 (by simpa using h))).2 hw).2 x (List.mem_of_getLast? e);exact(Fa.1 h2).1
theorem Xv {w:World}{A:Option Addr}{n c s B bm:Nat}{x:List Snd}{vo:Value}(h:Ak w A n c x)(hf:∀ad,A=some ad->s<=ad.block)(hb:bm<s)(ho:∀k,vo.ownBlock=some k->k<s)(hB:B<=s):N8 B bm vo w A n:=fun hn ad had=>by
 have h1:=hf ad had;obtain⟨b,off,hA,a0,_⟩:=h.2.2.2.2 hn;rw[had]at hA;injection hA with hA;subst hA
 exact⟨by omega,by show b≠bm;have:s<=b:=h1;omega,fun e=>by have h2:=ho b e;have:s<=b:=h1;omega,a0⟩
theorem Aak {w:World}{B B':Nat}{t:TypeId}{z n:Nat}{v:Value}{xs:List Value}(h:w.ownsRow B t z v n xs)(hb:B'<=B):w.ownsRow B' t z v n xs:=by
 refine⟨h.1,h.2.imp (fun h=>h) ?_⟩;rintro⟨g,cap,cur,h1,h2,h3⟩;exact⟨g,cap,cur,h1,by omega,h3⟩
def J9 (xs:List Cb)(L:List Int):List Cb:=L.filterMap fun x=>xs[x.toNat]?
theorem Acl (xs:List Cb):∀L:List Int,Au (J9 xs L)=En (Au xs) L
 |[]=>rfl
 |x::L=>by
  have h:=Acl xs L;unfold J9 En at h ⊢;rw[List.filterMap_cons,List.filterMap_cons];have e:(Au xs)[x.toNat]? =(xs[x.toNat]?).map Cb.l:=by rw[Au,List.getElem?_map]
  rw[e]
  cases xs[x.toNat]? with
  |none=>exact h
  |some y=>show Au (y::_)=y.l::_;rw[←h];rfl
theorem We (xs:List Cb)(L:List Int)(x:Int)(y:Cb)(h:xs[x.toNat]? =some y):J9 xs (L++[x])=J9 xs L++[y]:=by
 unfold J9;rw[List.filterMap_append];simp[h]
theorem T8 {xs:List Cb}{L:List Int}{y:Cb}(h:y∈J9 xs L):y∈xs:=by
 obtain⟨x,_,hx⟩:=List.mem_filterMap.1 h;exact List.mem_of_getElem? hx
theorem Rz {n a:Nat}(h:a<n):List.range n=List.range a++a::(List.range' (a+1) (n-a-1)):=by
 rw[List.range_eq_range',List.range_eq_range',show n=a+(1+(n-a-1))by omega,←List.range'_append_1,←List.range'_append_1];simp[List.range'_one]
theorem Rc (b n:Nat)(rs:List Bk)(Ax:Option Addr)(nx cx:Nat)(xs:List Cb)(A:Option Addr)(m c:Nat)(ys:List Cs)(Aw:Option Addr)(nw cw:Nat)(ws:List Snd)(now:Int)(w:World)(hm:Dr w b n rs)(hx:Cf w Ax nx cx xs)(hy:Cm w A m c ys)(hw:Ak w Aw nw cw ws)(hT:Cw w)(h19:m<=19\/64<m):
  Calls Tryz.prog 18 #[.pointer (some ⟨b,0,none⟩), .slice Ax nx cx, .slice A m c, .slice Aw nw cw, .int .i64 now] w (N9 w (Bp n rs (Au xs) (Aj ys) ws now)):=by
 obtain⟨An,cn,mb,Ar,cr,Aq,cq,c0,c1,c2,c3⟩:=hm.cells;have s2:=hm.lt;have p8:=hm.few;have HM:=hI hm;have HX:=hI hx;have HY:=hI hy;have HT:=hI hT;have HC:=hI c0;have HW:=hI hw;have p7:(Aj ys).length=m:=by rw[Aj,List.length_map];exact hy.len
 have k0:=hI p7;have r5:=hI h19;have t5:=hx.len;clear hm hx hy hT c0 c1 c2 c3 p7 h19 hw;go_enter Tryz.func18,Tryz.ntmps18;go_wp2_with fail;refine(N0 b n rs Ax nx cx xs A m c ys w HM.out HX.out HY.out HT.out).mono ?_;obtain⟨er,m1⟩:∃er,er=Dy n (Au xs) (Aj ys):=⟨_,rfl⟩;rw[←m1];rintro e w1 ⟨rfl,r0⟩;have i5:=hI r0;have j3:=hI m1;clear r0 m1;by_cases he0:er=0
 case neg=>
  have r6:(er==0)=false:=by simpa using he0
  have q9:(er !=0)=true:=by simpa using he0
  have HV:Hid (Bp n rs (Au xs) (Aj ys) ws now=(er,[])):=by show _=_;unfold Bp;rw[if_pos (by rw[←j3.out];exact he0),j3.out]
  clear he0;go_wp2
  go_ret2
  exact N9.bad HV.out i5.out
 have r6:(er==0)=true:=by simp[he0]
 have g0:Hid (Dy n (Au xs) (Aj ys)=0):=by show _=_;rw[←j3.out,he0]
 have k8:m<=19:=by have:=(F1 g0.out).2.2.1;rw[k0.out]at this;have:=r5.out;omega
 have m3:Hid (∀y∈ys,Em n y.d=0):=fun y hy=>((F1 g0.out).2.2.2 y.d (List.mem_map.2 ⟨y,hy,rfl⟩)).2.2
 have k3:Hid (∀y∈ys,0<=y.d.law/\y.d.law<(xs.length:Int)):=fun y hy=>by
  have:=(F1 g0.out).2.2.2 y.d (List.mem_map.2 ⟨y,hy,rfl⟩)
  rw[Au,List.length_map]at this;exact⟨this.1,this.2.1⟩
 clear j3 he0;go_wp2_with fail;refine(Ty Aw nw cw ws w1 (HW.out.below i5.out rr)).mono ?_;obtain⟨i8,f6⟩:∃er,er=B4 ws:=⟨_,rfl⟩;rw[←f6];rintro e w2 ⟨rfl,p0⟩;have i0:=hI (i5.out.trans (p0.mono i5.out.size));have b2:=hI f6;clear p0 f6 i5;by_cases he0:i8=0
 case neg=>
  have q9:(i8 !=0)=true:=by simpa using he0
  have HV:Hid (Bp n rs (Au xs) (Aj ys) ws now=(i8,[])):=by show _=_;unfold Bp;rw[if_neg (by rw[g0.out];simp),if_pos (by rw[←b2.out];exact he0),b2.out]
  clear he0;go_wp2
  go_ret2
  exact N9.bad HV.out i0.out
 have q9:(i8 !=0)=false:=by simpa using he0
 have p5:Hid (B4 ws=0):=by show _=_;rw[←b2.out];exact he0
 have HV:Hid (Bp n rs (Au xs) (Aj ys) ws now=Fb (Ra n rs (Au xs) (Aj ys) ws now) [] (List.range n)):=by
  show _=_;unfold Bp;rw[if_neg (by rw[g0.out];simp),if_neg (by rw[←b2.out];simpa using he0)]
 clear b2 he0;have s9:= @run_makeMap Tryz.prog;go_wp2_with fail;clear s9;have j1:(w2.alloc (.map #[] 0)).ownsMap Tryz.prog 9 U0 w2.heap.size 0 (.map []):=World.ownsMap_made w2 _ _ _;have j6:Below w.heap.size w (w2.alloc (.map #[] 0)):=i0.out.alloc i0.out.size _;have o7:(w2.alloc (.map #[] 0)).heap.size=w2.heap.size+1:=by simp
 obtain⟨bm,q4⟩:∃bm,bm=w2.heap.size:=⟨_,rfl⟩;have k1:w.heap.size<=bm:=by have:=i0.out.size;omega
 rw[←q4]at j1 o7 ⊢;generalize w2.alloc (.map #[] 0)=W0 at*;clear q4 i0;refine(Lm b An n cn W0 ((j6.cell (p:=⟨b,0,none⟩) s2).trans HC.out)).mono ?_;rintro e w3 ⟨rfl,a6⟩;have p4:=hI (j6.trans (a6.mono j6.size))
 have q8:Hid (Je bm bm 0 (Au xs) ws (.slice none 0 0) [] (.map []) w3):=
  ⟨rr,Wp j1 (a6.block bm j1.lt),isMap_empty,(fun L _ hh=>by cases hh),World.ownsRow_nil _ _ _ _,(fun p hp=>absurd hp (List.not_mem_nil)),(fun p hp=>absurd hp (List.not_mem_nil)),(fun p hp=>absurd hp (List.not_mem_nil)),by have:=a6.size;omega⟩
 clear j1 j6 o7 a6;obtain⟨F,hF⟩:∃F,F=Ra n rs (Au xs) (Aj ys) ws now:=⟨_,rfl⟩;rw[←hF]at HV;have HF:=hI hF;clear hF;go_wp2_with fail
 go_loopw [14,36] (fun u14 i wr=>∃(k:Nat) (ps:List Part) (D:DataW Value),k<=n/\i= .int .i64 (k:Int)/\Hid (Je bm bm k (Au xs) ws u14 ps D wr)/\Hid (ps.map Part.word=(List.range k).map fun a=>(F a).2)/\Hid (∀a,a<k->(F a).1=0)/\Hid (Below w.heap.size w wr)) (fun _ i _=>n-(intOf i).toNat)
 case atStart=>exact⟨0,[], .map [],Nat.zero_le _,rfl,q8.out,rfl,fun a ha=>by omega,p4.out⟩
 case round=>
  obtain⟨k,ps,D,hk,rfl,d5,i3,j4,HB⟩:=hrel;clear q8 p4;by_cases hkn:k<n
  ·have r9:(k:Int)<(n:Int):=by omega
   go_wp2_with fail;refine(Ajc b n rs A m c ys k now wr (HM.out.below HB.out) (HY.out.below HB.out) m3.out hkn k8).mono ?_;rintro e w4 ⟨A4,c4,rfl,k4,m8⟩;obtain⟨L,hL⟩:∃L,L=Jd n rs (Aj ys) k now:=⟨_,rfl⟩;rw[←hL]at k4 ⊢
   have g7:L.length<=19:=by
    have h1:=K8 (Cr (tAt n rs (Aj ys) k)) (fun i=>Gt now (tAt n rs (Aj ys) k i)) (Aj ys).length;have h2:=List.length_filter_le (fun i=>Gt now (tAt n rs (Aj ys) k i)) (List.range (Aj ys).length);rw[List.length_range,k0.out]at h2;rw[hL];unfold Jd Lx;rw[List.length_map,h1,k0.out];omega
   have o3:Hid (∀x∈L,0<=x/\x<(xs.length:Int)):=fun x hx=>by
    rw[hL]at hx;obtain⟨j,hj,rfl⟩:=List.mem_map.1 hx;have q7:=((Fs (Cr _) _ _ _).1 hj).1;unfold Rw;obtain⟨y,hy⟩:∃y,ys[j]? =some y:=⟨ys[j]'(by rw[Aj,List.length_map]at q7;exact q7),List.getElem?_eq_getElem _⟩;rw[Aj,List.getElem?_map,hy];exact k3.out y (List.mem_of_getElem? hy)
   have f9:Hid (F k=Bz (En (Au xs) L) ws):=by show _=_;rw[HF.out,hL];rfl
   have s8:xs.length<=64:=by
    have:=(F1 g0.out).2.1
    have h:=Qe this;rwa[Au,List.length_map]at h
   have o1:=hI k4;have g5:=hI (d5.out.below m8);have j7:=hI (HB.out.trans (m8.mono HB.out.size));obtain⟨q,hq⟩:∃q,q=L.length:=⟨_,rfl⟩;have HQ:=hI hq;rw[←hq]at g7 ⊢;rw[←hq]at o1;clear k4 m8 hL hq d5 HB;go_wp2_with fail
   go_loopw [16,17,45] (fun s16 s17 i wq=>∃j:Nat,j<=q/\i= .int .i64 (j:Int)/\Hid (wq.ownsRow w4.heap.size 55 18 s16 j ((J9 xs (L.take j)).flatMap Cb.cells))/\Hid (wq.ownsRow w4.heap.size 5 1 s17 j ((L.take j).map (Value.int .u8)))/\Hid (Below w4.heap.size w4 wq)) (fun _ _ i _=>q-(intOf i).toNat)
   case atStart=>exact⟨0,Nat.zero_le _,rfl,World.ownsRow_nil _ _ _ _,World.ownsRow_nil _ _ _ _,Below.refl _ _⟩
   case round=>
    obtain⟨j,hj,rfl,HO,HK,f8⟩:=hrel;by_cases hjq:j<q
    ·have s0:(j:Int)<(q:Int):=by omega
     have i1:L[j]? =some (L[j]'(by have:=HQ.out;omega)):=List.getElem?_eq_getElem _;obtain⟨x,o5⟩:∃x,x=L[j]'(by have:=HQ.out;omega):=⟨_,rfl⟩;rw[←o5]at i1;have t6:=o3.out x (List.mem_of_getElem? i1);obtain⟨z,rfl⟩:∃z:Nat,x=z:=⟨x.toNat,by omega⟩;have t2:z<xs.length:=by omega
     obtain⟨s,hs⟩:∃s,xs[z]? =some s:=⟨xs[z]'t2,List.getElem?_eq_getElem _⟩;have q0:Hid (L.take (j+1)=L.take j++[(z:Int)]):=by show _=_;rw[List.take_add_one,i1];rfl
     have m6:Hid (J9 xs (L.take (j+1))=J9 xs (L.take j)++[s]):=by show _=_;rw[q0.out];exact We xs _ _ s hs
     obtain⟨gl,ol,vv,s7,t3,m9,t7⟩:=(Az.below o1.out f8.out rr).at1 (k:=j) (by omega);rw[List.getElem?_map,i1]at m9;obtain rfl:vv= .int .i64 (z:Int):=by simpa using m9.symm
     subst s7;obtain⟨b0,off0,t0,r7,q6⟩:=(HX.out.below (j7.out.trans (f8.out.mono j7.out.size)) rr).at_ hs;subst t0;have t4:(z:Int)<(nx:Int):=by omega
     have s6:=hI q6;obtain⟨A6,c6,rfl⟩:=Bh HO.out;obtain⟨A7,c7,rfl⟩:=Bh HK.out;have a8:(wr.alloc (.cells (s.cells).toArray 55)).ownsRow w4.heap.size 55 18 (.slice A6 j c6) j ((J9 xs (L.take j)).flatMap Cb.cells):=HO.out.alloc _;have b6:(wr.alloc (.cells (s.cells).toArray 55)).ownsRow w4.heap.size 5 1 (.slice A7 j c7) j ((L.take j).map (Value.int .u8)):=HK.out.alloc _
     have g1:Eb Cb.cells 18 (wr.alloc (.cells (s.cells).toArray 55)) (some ⟨wr.heap.size,0,none⟩) 1 1 [s]:=
      ⟨⟨by simp[Cb.len],rr,by unfold maxLen;omega,(fun h=>by cases h),fun _=>⟨wr.heap.size,0,rfl,by simp,fun j v hv=>by rw[Nat.zero_add];exact B8 (by simpa using hv)⟩⟩,rfl⟩
     have d6:Below w4.heap.size w4 (wr.alloc (.cells (s.cells).toArray 55)):=f8.out.alloc f8.out.size _;have i2:=d6.size;have q5:=hI (T1 b6 a8 (by decide));have d4:=hI a8;have d3:=hI b6;have m5:=hI g1;have k2:=hI d6;have o8:IntKind.u8.wrap (z:Int)=(z:Int):=by unfold IntKind.wrap;simp[IntKind.signed,IntKind.bits];omega
     clear a8 b6 g1 d6 q6 hs i1 m9 o5;go_wp2_with(first|(refine Qg rfl (.tmp 52) rfl b0 (off0+z*18) s rfl s6.out ?_)|(refine Ss rfl (.tmp 53) rfl s rfl ?_)|(at_builtin;refine Re rfl (.tmp 49) (.tmp 54) rfl w4.heap.size (.slice A6 j c6) j (J9 xs (L.take j)) rfl d4.out (some ⟨wr.heap.size,0,none⟩) 1 1 [s] rfl m5.out (by omega) i2 ?hl))
     case hl=>
      intro v' w9 b1 f4 _;have f5:Below w4.heap.size w4 w9:=k2.out.grown f4 i2 fun p hp=>(d4.out.lt _ hp).1
      have a9:w9.ownsRow w4.heap.size 5 1 (.slice A7 j c7) j ((L.take j).map (Value.int .u8)):=Bj d3.out fun p e=>f4.block p (d3.out.lt p e).2 fun e'=>q5.out p e e'.symm
      have a1:Below w9.heap.size w9 (w9.alloc (.cells #[.int .u8 (z:Int)] 5)):=(Below.refl _ w9).alloc rr _;have a3:=Bj b1 fun p e=>a1.block p (b1.lt p e).2
      have a2:=Bj a9 fun p e=>a1.block p (a9.lt p e).2
      have d1:=f5.trans (a1.mono f5.size);have d2:=d1.size;have g2:=hI (T1 a3 a2 (by decide));have b4:=hI a3;have d0:=hI a2;have g9:=hI d1;clear b1 a9 f4 a1 f5 a3 a2 d1;go_wp2_with(at_builtin;refine Aaj rfl (.tmp 56) (.tmp 59) rfl w4.heap.size (.slice A7 j c7) j ((L.take j).map (Value.int .u8)) rfl d0.out ⟨w9.heap.size,0,none⟩ 1 (.int .u8 (z:Int)) rfl (cell_one_new _ _ _) rfl (by omega) d2 ?hc)
      case hc=>
       intro v'' w11 a7 d9;have g8:Hid (Below w4.heap.size w4 w11):=g9.out.grown d9 d2 fun p hp=>(d0.out.lt _ hp).1
       have o0:Hid (w11.ownsRow w4.heap.size 55 18 v' (j+1) ((J9 xs (L.take (j+1))).flatMap Cb.cells)):=by
        show World.ownsRow _ _ _ _ _ _ _;rw[m6.out,List.flatMap_append,List.flatMap_singleton];exact Bj b4.out fun p e=>d9.block p (b4.out.lt p e).2 fun e'=>g2.out p e e'.symm
       have j9:Hid (w11.ownsRow w4.heap.size 5 1 v'' (j+1) ((L.take (j+1)).map (Value.int .u8))):=by
        show World.ownsRow _ _ _ _ _ _ _;rw[q0.out,List.map_append,List.map_take];exact a7
       clear a7 d9;go_wp2
       go_roundw
       case rel=>exact⟨j+1,by omega,by go_num,o0.out,j9.out,g8.out⟩
       case measure=>simp[intOf];omega
    ·obtain rfl:j=q:=by omega
     have p1:L.take j=L:=List.take_of_length_le (by rw[HQ.out];exact rr);rw[p1]at HO HK;obtain⟨A6,c6,rfl⟩:=Bh HO.out;obtain⟨A7,c7,rfl⟩:=Bh HK.out;have i9:Hid (Rk L):=fun x hx=>by have:=o3.out x hx;omega
     have b3:=HK.out;rw[show j=L.length from HQ.out]at b3;have a4:=Yk i9.out b3;rw[←show j=L.length from HQ.out]at a4;have a0:=hI (g5.out.below f8.out);obtain⟨v,pz,b8,a5⟩:=a0.out.om.look_ok (string_keyed Tryz.underlying9) Tryz.underlying118 (Tryz.zeroValue28 wr) (show U0 (.slice none 0 0)=some (.held (.slice none 0 0),[])from rfl) (Yj L (by have:=HQ.out;omega))
     have i7:D.atKey (Qf L) (.held (.slice none 0 0))= .held v:=by
      unfold U0 at a5;injection a5 with a5
      injection a5 with a5 _
      exact a5.symm
     have r8:=hI i7;have r1:=hI HO.out;have f7:=hI (j7.out.trans (f8.out.mono j7.out.size));have q3:=hI HK.out;clear b3 p1 a5 i7 HO HK g5
     cases hh:Go.Maps.has D (Qf L)with
     |true=>
      rw[hh]at b8;obtain⟨Ac,nc,cc,h1,h2,h3,h4⟩:=a0.out.wd L i9.out hh
      obtain rfl:v= .slice Ac nc cc:=by
       have:=r8.out.symm.trans h1
       injection this
      have g3:Hid ((F k).1=0):=by show _=_;rw[f9.out];exact h3
      have p2:=hI h2;have q5:=hI h4;clear h1 h2 h3 h4 hh;go_wp2_with fail;have m4:nc<=4096:=by have h1:=T3 (ls:=En (Au xs) L) p5.out;have h2:=p2.out.len;omega
      refine(X7 Ac nc cc (Bz (En (Au xs) L) ws).2 wr p2.out m4).mono ?_;rintro e w5 ⟨A3,n3,c3,rfl,d8,a6,g6,i4⟩;have i6:=hI (a0.out.below a6);have f1:=hI (f7.out.trans (a6.mono f7.out.size));have b7:N8 bm bm u14 w5 A3 n3:=Xv d8 g6 a0.out.om.lt (fun p e=>(a0.out.oo.lt p e).2) a0.out.sz;have a1:Below w5.heap.size w5 (w5.alloc (.cells #[.slice A3 n3 c3] 28)):=(Below.refl _ w5).alloc rr _;have b5:=hI (i6.out.below a1);have k7:=hI (d8.below a1 rr);have m7:=hI (b7.up a1.size);have j8:=hI (i4.below a1);have g4:=hI (f1.out.trans (a1.mono f1.out.size));have f0:=b5.out.sz;obtain⟨A14,c14,rfl⟩:=Bh b5.out.oo;have s4:ps.length<=k:=by have:=congrArg List.length i3.out;simp at this;omega
      clear d8 a6 g6 b7 i4 a1 i6 f1;go_wp2_with(at_builtin;(refine He rfl (.tmp 84) (.tmp 87) rfl bm (.slice A14 ps.length c14) ps.length (ps.map Part.val) rfl b5.out.oo ⟨w5.heap.size,0,none⟩ 1 (.slice A3 n3 c3) rfl (cell_one_new _ _ _) rfl (by omega) f0 ?hc))
      case hc=>
       intro v' w7 b9 hg a5;have k6:=hI ((b5.out.push (p:=(A3,n3,c3,(Bz (En (Au xs) L) ws).2)) k7.out m7.out j8.out b9 hg (by simpa using a5)).mono (Nat.le_succ k));have m2:Hid (Below w.heap.size w w7):=g4.out.grown hg g4.out.size fun p e=>by have:=(b5.out.oo.lt p e).1;omega
       have d7:Hid ((ps++[(A3,n3,c3,(Bz (En (Au xs) L) ws).2)]).map Part.word=(List.range (k+1)).map fun a=>(F a).2):=by
        show _=_;rw[List.map_append,i3.out,List.range_succ,List.map_append];show _++[(Bz (En (Au xs) L) ws).2]=_++[(F k).2];rw[f9.out]
       have f3:Hid (∀a,a<k+1->(F a).1=0):=fun a ha=>by
        by_cases e:a=k
        ·rw[e];exact g3.out
        ·exact j4.out a (by omega)
       clear b9 hg a5;go_wp2
       go_roundw
       case rel=>exact⟨k+1,_,D,by omega,by go_num,k6.out,d7.out,f3.out,m2.out⟩
       case measure=>simp[intOf];omega
     |false=>
      rw[hh]at b8;clear hh;have p9:Cf wr A6 j c6 (J9 xs L):=⟨Eb.of_own r1.out Cb.len (by decide),fun y hy=>(HX.out.below f7.out rr).2 y (T8 hy)⟩
      have s1:=hI p9;clear p9;go_wp2_with fail;refine(Afv A6 j c6 (J9 xs L) Aw nw cw ws wr s1.out (HW.out.below f7.out rr) (HT.out.below f7.out rr)).mono ?_;rw[Acl];obtain⟨e3,k5⟩:∃e3,e3=(Bz (En (Au xs) L) ws).1:=⟨_,rfl⟩;rintro e w8 ⟨Ac,nc,cc,rfl,k9,j0,o4⟩;rw[←k5];have j5:=hI k5;have o6:=hI k9;have p3:=hI (a0.out.below j0);have m0:=hI (f7.out.trans (j0.mono f7.out.size));have r2:=hI (Xv (B:=bm) (bm:=bm) (vo:=u14) k9 o4 a0.out.om.lt (fun p e=>(a0.out.oo.lt p e).2) a0.out.sz);have s3:=hI (Bj q3.out fun p e=>j0.block p (q3.out.lt p e).2);clear k5 k9 j0 o4 b8 a4;by_cases h30:e3=0
      ·have t1:(e3 !=0)=false:=by simp[h30]
       have g3:Hid ((F k).1=0):=by show _=_;rw[f9.out,←j5.out];exact h30
       have f2:=s3.out;rw[show j=L.length from HQ.out]at f2;have a4:=Yk i9.out f2;rw[←show j=L.length from HQ.out]at a4;obtain⟨w9,s5,o2,f4⟩:=p3.out.om.update (string_keyed Tryz.underlying9) Tryz.underlying118 (show k<maxLen by unfold maxLen;omega) (Yj L (by have:=HQ.out;omega)) (show U0 (.slice Ac nc cc)=some (.held (.slice Ac nc cc),[])from rfl);obtain⟨q2,p6,r4⟩:=p3.out.put i9.out o6.out (by rw[←j5.out];exact h30) r2.out o2 f4;have j2:=hI q2;have r3:=hI p6;have o9:Hid (Below w.heap.size w w9):=m0.out.grown f4 m0.out.size fun p e=>by injection e with e;omega
       have m4:nc<=4096:=by have h1:=T3 (ls:=En (Au xs) L) p5.out;have h2:=o6.out.len;omega
       clear f2 o2 f4 q2 p6 r4 h30;go_wp2_with fail;refine(X7 Ac nc cc (Bz (En (Au xs) L) ws).2 w9 r3.out m4).mono ?_;rintro e w5 ⟨A3,n3,c3,rfl,d8,a6,g6,i4⟩;have i6:=hI (j2.out.below a6);have f1:=hI (o9.out.trans (a6.mono o9.out.size));have b7:N8 bm bm u14 w5 A3 n3:=Xv d8 g6 j2.out.om.lt (fun p e=>(j2.out.oo.lt p e).2) j2.out.sz;have a1:Below w5.heap.size w5 (w5.alloc (.cells #[.slice A3 n3 c3] 28)):=(Below.refl _ w5).alloc rr _;have b5:=hI (i6.out.below a1);have k7:=hI (d8.below a1 rr);have m7:=hI (b7.up a1.size);have j8:=hI (i4.below a1);have g4:=hI (f1.out.trans (a1.mono f1.out.size));have f0:=b5.out.sz;obtain⟨A14,c14,rfl⟩:=Bh b5.out.oo;have s4:ps.length<=k:=by have:=congrArg List.length i3.out;simp at this;omega
       clear d8 a6 g6 b7 i4 a1 i6 f1;go_wp2_with(at_builtin;refine He rfl (.tmp 84) (.tmp 87) rfl bm (.slice A14 ps.length c14) ps.length (ps.map Part.val) rfl b5.out.oo ⟨w5.heap.size,0,none⟩ 1 (.slice A3 n3 c3) rfl (cell_one_new _ _ _) rfl (by omega) f0 ?hc)
       case hc=>
        intro v' w7 b9 hg a5;have k6:=hI ((b5.out.push (p:=(A3,n3,c3,(Bz (En (Au xs) L) ws).2)) k7.out m7.out j8.out b9 hg (by simpa using a5)));have m2:Hid (Below w.heap.size w w7):=g4.out.grown hg g4.out.size fun p e=>by have:=(b5.out.oo.lt p e).1;omega
        have d7:Hid ((ps++[(A3,n3,c3,(Bz (En (Au xs) L) ws).2)]).map Part.word=(List.range (k+1)).map fun a=>(F a).2):=by
         show _=_;rw[List.map_append,i3.out,List.range_succ,List.map_append];show _++[(Bz (En (Au xs) L) ws).2]=_++[(F k).2];rw[f9.out]
        have f3:Hid (∀a,a<k+1->(F a).1=0):=fun a ha=>by
         by_cases e:a=k
         ·rw[e];exact g3.out
         ·exact j4.out a (by omega)
        clear b9 hg a5;go_wp2
        go_roundw
        case rel=>exact⟨k+1,_,(D.put (Qf L) (.held (.slice Ac nc cc))),by omega,by go_num,k6.out,d7.out,f3.out,m2.out⟩
        case measure=>simp[intOf];omega
      ·have t1:(e3 !=0)=true:=by simpa using h30
       have g3:Hid (Bp n rs (Au xs) (Aj ys) ws now=(e3,[])):=by
        show _=_;rw[HV.out,Rz hkn,Mp _ _ _ _ (fun b hb=>j4.out b (List.mem_range.1 hb)) (by rw[f9.out,←j5.out];exact h30),f9.out,←j5.out]
       go_wp2
       go_ret2
       exact N9.bad g3.out m0.out
  ·obtain rfl:k=n:=by omega
   have q1:Hid (Bp k rs (Au xs) (Aj ys) ws now=(0,(List.range k).map fun a=>(F a).2)):=by
    show _=_;rw[HV.out,Nz _ _ fun a ha=>j4.out a (List.mem_range.1 ha)];rfl
   obtain⟨A14,c14,rfl⟩:=Bh d5.out.oo;go_wp2
   go_ret2
   refine⟨A14,c14,ps,by rw[q1.out];rfl,by rw[q1.out];exact i3.out,Aak d5.out.oo k1,d5.out.pp,fun p hp hn ad had=> ?_,HB.out⟩
   obtain⟨h1,h2,h3,h4⟩:=d5.out.pd p hp hn ad had;exact⟨by omega,h3,d5.out.pu p hp hn ad had⟩
end Go.Proofs.YtaglfmlgbcmakaaGreatDoor
namespace Go.Proofs.YtaglfmlgbcmakaaGreatDoor
open Go.RowKit Go.Shelf
def Ms (p:Part):List Value:=[p.val]
theorem Za (p:Part):(Ms p).length=1:=rfl
theorem Vi:∀ps:List Part,ps.flatMap Ms=ps.map Part.val
 |[]=>rfl
 |p::r=>by rw[List.flatMap_cons,Vi r];rfl
theorem Az.recs {w:World}{A:Option Addr}{n c:Nat}{ps:List Part}(h:Az w A n c 1 (ps.map Part.val)):Eb Ms 1 w A n c ps:=
 ⟨by rw[Vi];exact h,by have:=h.1;simpa using this⟩
theorem Aj4 (A:Option Addr)(n c:Nat)(xs:List Part)(F:Nat)(lb:Array Value)(p:Part->Bool)(w:World)(hx:Eb Ms 1 w A n c xs)(hE:Enters Tryz.prog F)
  (hcall:∀W,Below w.heap.size w W→∀s∈xs,Calls Tryz.prog F (#[Part.val s]++lb) W fun e W'=>e= .returned (.bool (p s))/\Below W.heap.size W W'):
  Calls Tryz.prog 68 #[.slice A n c, .func (.func F) #[] lb] w fun e w'=>e= .returned (.int .i64 (Hx p xs))/\Below w.heap.size w w':=by
 have hm:n<=9223372036854775807:=by have h1:=hx.1.2.1;have h2:=hx.1.2.2.1;unfold maxLen at h2;omega
 have HX:=hI hx;clear hx;have HC:=hI hcall;clear hcall;unfold Enters at hE;go_enter Tryz.func68,Tryz.ntmps68;go_wp2
 go_loopw [5,8] (fun _ i wr=>∃k:Nat,k<=n/\i= .int .i64 k/\Hid ((xs.take k).any p=false)/\Below w.heap.size w wr) (fun _ i _=>n-(intOf i).toNat)
 case atStart=>exact⟨0,Nat.zero_le _,rfl,by simp[Hid],Below.refl _ _⟩
 case round=>
  obtain⟨k,hk,rfl,HA,hB⟩:=hrel;by_cases hlt:k<n
  ·obtain⟨s,a2⟩:∃s,xs[k]? =some s:=⟨xs[k]'(by rw[HX.out.2];exact hlt),List.getElem?_eq_getElem _⟩;obtain⟨b,off,rfl,hb,a5⟩:=(HX.out.below hB rr).at_ Za (by decide) a2;have a6:=a5 0 _ rfl;simp only[Nat.add_zero,←Nat.add_assoc,Nat.mul_one]at a6;clear a5;have a0:=hI (HC.out wr hB s (List.mem_of_getElem? a2));have HK:=hI a2;clear a2;by_cases hp:p s=true
   ·have hr:=Jm p xs k s HK.out HA.out hp;have HR:=hI hr;clear hr;have HP:=hI hp;clear hp;go_wp2_with fail;refine a0.out.mono ?_;rintro e w1 ⟨rfl,a1⟩;rw[HP.out];have a3:=hB.trans (a1.mono hB.size);clear a1;go_wp2;go_ret;exact⟨by rw[HR.out];rfl,a3⟩
   ·have a4:p s=false:=by simpa using hp
    have HP:=hI a4;clear hp a4;go_wp2_with fail;refine a0.out.mono ?_;rintro e w1 ⟨rfl,a1⟩;rw[HP.out];have a3:=hB.trans (a1.mono hB.size);clear a1;go_wp2
    go_roundw
    case rel=>exact⟨k+1,by omega,by go_num,by rw[Bd xs k _ HK.out,List.any_append,HA.out];simp[HP.out,Hid],a3⟩
    case measure=>simp[intOf];omega
  ·obtain rfl:k=n:=by omega
   have hr:Hx p xs= -1:=by
    have:=HA.out
    rw[List.take_of_length_le (by rw[HX.out.2];exact rr)]at this;exact Jl p xs this
   have HR:=hI hr;clear hr;go_wp2;go_ret;exact⟨by rw[HR.out];rfl,hB⟩
theorem Ant (Ax:Option Addr)(nx cx:Nat)(x:List Snd)(Ay:Option Addr)(ny cy:Nat)(y:List Snd)(bx:Nat)(w:World)(hb:w.heap[bx]? =some (.cells #[.slice Ax nx cx] 28 (0,0)))(hx:Ak w Ax nx cx x)(hy:Ak w Ay ny cy y):
  Calls Tryz.prog 69 #[.slice Ay ny cy, .pointer (some ⟨bx,0,none⟩)] w fun e w'=>e= .returned (.bool (decide (x=y)))/\Below w.heap.size w w':=by
 have c0:=cell_of_one hb;have HE:=hI (Afm Ax Ay nx ny cx cy x y w hx hy);clear hb hx hy;obtain⟨r,hr⟩:∃r,r=decide (x=y):=⟨_,rfl⟩;rw[←hr]at HE ⊢;clear hr;go_enter Tryz.func69,Tryz.ntmps69;go_wp2_with fail;refine HE.out.mono ?_;rintro e w1 ⟨rfl,a0⟩;go_wp2;go_ret;exact⟨rfl,a0⟩
theorem Aal {α:Type}(p:α->Bool):∀l:List α,Hx p l=match l.findIdx? p with|some k=>(k:Int)|none=> -1
 |[]=>rfl
 |x::l=>by
  have h:=Aal p l;unfold Hx;rw[List.findIdx?_cons];by_cases hx:p x=true
  ·simp[hx]
  ·rw[if_neg hx,if_neg hx,h]
   cases l.findIdx? p with
   |none=>rfl
   |some k=>simp only[Option.map_some];rw[if_neg (by omega)];rfl
theorem Afa (ps:List Part)(x:List Snd):Hx (fun p=>decide (x=p.word)) ps=Dd (ps.map Part.word) x:=by
 unfold Dd;rw[List.findIdx?_map,Aal];rfl
theorem R0 {f:Nat->Int×List Snd}:∀(l:List Nat) (done:List (List Snd)),(Fb f done l).2.length<=done.length+l.length
 |[],done=>by simp[Fb]
 |a::l,done=>by
  unfold Fb;split
  ·simp
  ·have:=R0 (f:=f) l (done++[(f a).2])
   simp only[List.length_append,List.length_cons,List.length_nil]at this ⊢;omega
theorem Wf (n:Nat)(rs:List Bk)(ls:List Bi)(ws:List Ef)(w:List Snd)(now:Int):(Bp n rs ls ws w now).2.length<=n:=by
 unfold Bp;split
 ·simp
 ·split
  ·simp
  ·have:=R0 (f:=Ra n rs ls ws w now) (List.range n) []
   simpa using this
theorem Acm (b n:Nat)(rs:List Bk)(Ax:Option Addr)(nx cx:Nat)(xs:List Cb)(A:Option Addr)(m c:Nat)(ys:List Cs)(Aw:Option Addr)(nw cw:Nat)(ws:List Snd)(now:Int)(w:World)(hm:Dr w b n rs)(hx:Cf w Ax nx cx xs)(hy:Cm w A m c ys)(hw:Ak w Aw nw cw ws)(hT:Cw w)(h19:m<=19\/64<m):
  Calls Tryz.prog 24 #[.pointer (some ⟨b,0,none⟩), .slice Ax nx cx, .slice A m c, .slice Aw nw cw, .int .i64 now] w (Jk w (Hs n rs (Au xs) (Aj ys) ws now)):=by
 have b5:=hm.few;have HF:=hI (Rc b n rs Ax nx cx xs A m c ys Aw nw cw ws now w hm hx hy hw hT h19);have HN:Hid ((Bp n rs (Au xs) (Aj ys) ws now).2.length<=n):=Wf _ _ _ _ _ _;have HV:Hid (Hs n rs (Au xs) (Aj ys) ws now=if(Bp n rs (Au xs) (Aj ys) ws now).1≠0 then((Bp n rs (Au xs) (Aj ys) ws now).1,[])else(0,(Bp n rs (Au xs) (Aj ys) ws now).2.map (Dd (Bp n rs (Au xs) (Aj ys) ws now).2))):=rfl;obtain⟨R,hR⟩:∃R,R=Bp n rs (Au xs) (Aj ys) ws now:=⟨_,rfl⟩;obtain⟨V,hV⟩:∃V,V=Hs n rs (Au xs) (Aj ys) ws now:=⟨_,rfl⟩;rw[←hR]at HF HN HV;rw[←hV]at HV ⊢;obtain⟨er,fs⟩:=R;clear hm hx hy hw hT h19 hR hV;simp only at HF HN HV;go_enter Tryz.func24,Tryz.ntmps24;go_wp2_with fail;refine HF.out.mono ?_;rintro e w1 ⟨A1,c1,ps,rfl,a7,a0,b2,d9,b9⟩;have d2:=hI a7;have d0:=hI b2;have a6:=hI b9;have a5:=hI (Az.recs (Az.of_own a0 (by decide)))
 have d6:ps.length<=128:=by
  have h1:=congrArg List.length a7;have h2:=HN.out;simp only[List.length_map]at h1;have h3:fs.length<=n:=h2;have h4:ps.length=fs.length:=h1;omega
 obtain⟨k,hk⟩:∃k,k=ps.length:=⟨_,rfl⟩;have HK:=hI hk;rw[←hk]at a5 d6 ⊢;clear a7 a0 b2 d9 b9 hk HF;by_cases h0:er=0
 ·subst h0
  have a2:Hid (V=(0,ps.map fun p=>Dd (ps.map Part.word) p.word)):=by
   show _=_;rw[HV.out,if_neg (by simp)]
   have:fs=ps.map Part.word:=d2.out.symm
   show(_,_)=_;rw[this,List.map_map];rfl
  have d8:=fun w=>run_make_row' (P:=Tryz.prog) 36 3 (.int .i64 0) 8 Tryz.underlying36 Hv rfl .i64 .i64 k (by omega) (by omega) w
  have f4:k<=maxLen:=by unfold maxLen;omega
  go_wp2_with fail;clear d8;rw[Mt];have a8:Hid ((w1.alloc (.cells (Ek k fun _=>0) 3)).heap[w1.heap.size]? =some (.cells (Ek k fun _=>0) 3 (0,0))):=Am rfl;have b3:Hid (Below w1.heap.size w1 (w1.alloc (.cells (Ek k fun _=>0) 3))):=(Below.refl _ w1).alloc rr _;obtain⟨g,hg⟩:∃g,g=w1.heap.size:=⟨_,rfl⟩;have f2:w1.heap.size<=g:=by omega
  rw[←hg]at a8 ⊢;generalize w1.alloc (.cells (Ek k fun _=>0) 3)=w4 at*;clear hg;obtain⟨fe,b8⟩:∃fe:Nat->Int,fe=fun v=>((ps[v]?).map fun p=>Dd (ps.map Part.word) p.word).getD 0:=⟨_,rfl⟩
  have b0:=hI b8;clear b8
  go_loopw [34] (fun i wr=>∃j:Nat,j<=k/\i= .int .i64 (j:Int)/\Hid (wr.heap[g]? =some (.cells (Ek k fun v=>if v<j then fe v else 0) 3 (0,0)))/\Hid (Below w1.heap.size w1 wr)) (fun i _=>k-(intOf i).toNat)
  case atStart=>exact⟨0,Nat.zero_le _,rfl,by show _=_;simpa using a8.out,b3.out⟩
  case round=>
   obtain⟨j,hj,rfl,HG,HB⟩:=hrel;clear a8 b3;by_cases hlt:j<k
   ·have f1:(j:Int)<(k:Int):=by omega
    obtain⟨⟨Ap,np,cp,wp⟩,hp⟩:∃p,ps[j]? =some p:=⟨ps[j]'(by rw[←HK.out];exact hlt),List.getElem?_eq_getElem _⟩;obtain⟨ga,oa,hA,f3,b7⟩:=(a5.out.below HB.out rr).at_ Za (by decide) hp;subst hA;have d4:=b7 0 _ rfl;simp only[Nat.add_zero,←Nat.add_assoc,Nat.mul_one,Part.val]at d4;have a1:=List.mem_of_getElem? hp;have d1:=hI ((d0.out _ a1).below HB.out rr);have b6:Hid (fe j=Dd (ps.map Part.word) wp):=by show _=_;rw[b0.out];show((ps[j]?).map _).getD 0=_;rw[hp];rfl
    clear b7 hp a1;have hz:Below wr.heap.size wr (wr.alloc (.cells #[.slice Ap np cp] 28)):=(Below.refl _ wr).alloc rr _;have b1:(wr.alloc (.cells #[.slice Ap np cp] 28)).heap[wr.heap.size]? =some (.cells #[.slice Ap np cp] 28 (0,0)):=Am rfl;have a9:=hI b1;have HZ:=hI hz;clear b1 hz;go_wp2_with fail;refine(Aj4 (some ⟨ga,oa,none⟩) k c1 ps 69 #[.pointer (some ⟨wr.heap.size,0,none⟩)] (fun p=>decide (wp=p.word)) _ (a5.out.below (HB.out.trans (HZ.out.mono HB.out.size)) rr) (enters_of Tryz.func69 (by kernel_rfl) rfl) ?hcall).mono ?_
    case hcall=>
     intro W hW s hs;have d5:Below w1.heap.size w1 W:=HB.out.trans ((HZ.out.trans (hW.mono HZ.out.size)).mono HB.out.size);exact Ant Ap np cp wp s.1 s.2.1 s.2.2.1 s.2.2.2 wr.heap.size W ((hW.block _ (lt_of_block a9.out)).trans a9.out) (d1.out.below (HZ.out.trans (hW.mono HZ.out.size)) rr) ((d0.out s hs).below d5 rr)
    rw[Afa];obtain⟨t,ht⟩:∃t,t=Dd (ps.map Part.word) wp:=⟨_,rfl⟩;rw[←ht]at b6 ⊢;rintro e w5 ⟨rfl,b4⟩;have a4:=HZ.out.trans (b4.mono HZ.out.size);have a3:=hI ((a4.block g (lt_of_block HG.out)).trans HG.out);have d7:=hI (HB.out.trans (a4.mono HB.out.size));clear ht b4 a4 HG HB a9 HZ d1;have cg:=Hk a3.out hlt;have fg:w5.frozen? ⟨g,j,none⟩=false:=by simp[World.frozen?,a3.out]
    have f0:Hid ((w5.setCell ⟨g,j,none⟩ (.int .i64 t)).heap[g]? =some (.cells (Ek k fun v=>if v<j+1 then fe v else 0) 3 (0,0))):=by
     show _=_
     rw[Be a3.out,Mf (g:=fun v=>if v<j+1 then fe v else 0) (by simp[b6.out]) fun v _ hv=>by
      by_cases e:v<j
      ·simp[e,Nat.lt_succ_of_lt e]
      ·have:¬v<j+1:=by omega
       simp[e,this]]
    have d3:=hI (d7.out.setCell (p:=⟨g,j,none⟩) (by show w1.heap.size<=g;omega) (.int .i64 t));go_wp2_with fail
    go_roundw
    case rel=>exact⟨j+1,by omega,by simp,f0.out,d3.out⟩
    case measure=>simp[intOf];omega
   ·obtain rfl:j=k:=by omega
    go_wp2
    go_ret2
    have hr:=Wg HG.out (by omega);refine⟨_,_,_,by rw[a2.out];rfl, ?_,a6.out.trans (HB.out.mono a6.out.size)⟩;rw[a2.out];show Ci _ _ _ _ (ps.map fun p=>Dd (ps.map Part.word) p.word)
    rw[show(ps.map fun p=>Dd (ps.map Part.word) p.word)=(List.range j).map fun v=>if v<j then fe v else 0 from by
     apply List.ext_getElem?;intro v;rw[List.getElem?_map,List.getElem?_map];by_cases hv:v<j
     ·rw[List.getElem?_range hv,Option.map_some,if_pos hv,b0.out]
      have:ps[v]? =some (ps[v]'(by rw[←HK.out];exact hv)):=List.getElem?_eq_getElem _
      simp only[this];rfl
     ·rw[List.getElem?_eq_none (by rw[←HK.out];omega),List.getElem?_eq_none (by simpa using hv)];rfl]
    exact hr
 ·have h1:(er !=0)=true:=by simpa using h0
  have a2:Hid (V=(er,[])):=by show _=_;rw[HV.out,if_pos h0]
  go_wp2
  go_ret2
  exact Jk.bad a2.out a6.out
section
variable (Ax:Option Addr)(nx cx:Nat)(A:Option Addr)(m c:Nat)(w:World)
theorem Aff:Calls Tryz.prog 37 #[.pointer none, .slice Ax nx cx, .slice A m c] w fun e w'=>e= .returned (.int .i64 1)/\Below w.heap.size w w':=by
 go_enter Tryz.func37,Tryz.ntmps37;go_wp2_with fail;refine(Aki w).mono ?_;rintro e w1 ⟨rfl,a0⟩;go_wp2;go_ret;exact⟨rfl,a0⟩
theorem Aap (Aw:Option Addr)(nw cw:Nat)(now:Int):Calls Tryz.prog 18 #[.pointer none, .slice Ax nx cx, .slice A m c, .slice Aw nw cw, .int .i64 now] w (N9 w (1,[])):=by
 go_enter Tryz.func18,Tryz.ntmps18;go_wp2_with fail;refine(Aff Ax nx cx A m c w).mono ?_;rintro e w1 ⟨rfl,a0⟩;go_wp2
 go_ret2
 exact N9.bad rfl a0
theorem Afg (Aw:Option Addr)(nw cw:Nat)(now:Int):Calls Tryz.prog 24 #[.pointer none, .slice Ax nx cx, .slice A m c, .slice Aw nw cw, .int .i64 now] w (Jk w (1,[])):=by
 have HF:=hI (Aap Ax nx cx A m c w Aw nw cw now);go_enter Tryz.func24,Tryz.ntmps24;go_wp2_with fail;refine HF.out.mono ?_;rintro e w1 ⟨A1,c1,ps,rfl, -, -, -, -,a0⟩;go_wp2
 go_ret2
 exact Jk.bad rfl a0
end
def Aaq (w:World)(v:Value)(n:Nat)(rs:List Bk):Prop:=(v= .pointer none/\n=0)∨∃b,v= .pointer (some ⟨b,0,none⟩)/\Dr w b n rs
theorem Aaq.below {w w':World}{v:Value}{n:Nat}{rs:List Bk}(h:Aaq w v n rs)(hb:Below w.heap.size w w'):Aaq w' v n rs:=by
 rcases h with h|⟨b,hv,h⟩
 ·exact .inl h
 ·exact .inr ⟨b,hv,h.below hb⟩
theorem Wh (ls:List Bi)(ws:List Ef):Dy 0 ls ws=1:=by unfold Dy;rw[if_pos rfl]
section
variable {v:Value}{n:Nat}{rs:List Bk}{Ax:Option Addr}{nx cx:Nat}{xs:List Cb}{A:Option Addr}{m c:Nat}{ys:List Cs}{w:World}
theorem Ajj {Aw:Option Addr}{nw cw:Nat}{ws:List Snd}(now:Int)(hm:Aaq w v n rs)(hx:Cf w Ax nx cx xs)(hy:Cm w A m c ys)(hw:Ak w Aw nw cw ws)(hT:Cw w)(h19:m<=19\/64<m):
  Calls Tryz.prog 18 #[v, .slice Ax nx cx, .slice A m c, .slice Aw nw cw, .int .i64 now] w (N9 w (Bp n rs (Au xs) (Aj ys) ws now)):=by
 rcases hm with⟨rfl,rfl⟩|⟨b,rfl,hm⟩
 ·rw[show Bp 0 rs (Au xs) (Aj ys) ws now=(1,[])from by unfold Bp;rw[Wh];rfl];exact Aap Ax nx cx A m c w Aw nw cw now
 ·exact Rc b n rs Ax nx cx xs A m c ys Aw nw cw ws now w hm hx hy hw hT h19
theorem Afh {Aw:Option Addr}{nw cw:Nat}{ws:List Snd}(now:Int)(hm:Aaq w v n rs)(hx:Cf w Ax nx cx xs)(hy:Cm w A m c ys)(hw:Ak w Aw nw cw ws)(hT:Cw w)(h19:m<=19\/64<m):
  Calls Tryz.prog 24 #[v, .slice Ax nx cx, .slice A m c, .slice Aw nw cw, .int .i64 now] w (Jk w (Hs n rs (Au xs) (Aj ys) ws now)):=by
 rcases hm with⟨rfl,rfl⟩|⟨b,rfl,hm⟩
 ·rw[show Hs 0 rs (Au xs) (Aj ys) ws now=(1,[])from by unfold Hs Bp;rw[Wh];rfl];exact Afg Ax nx cx A m c w Aw nw cw now
 ·exact Acm b n rs Ax nx cx xs A m c ys Aw nw cw ws now w hm hx hy hw hT h19
end
structure Ac2 (w:World)(b n:Nat)(rs:List Bk)(An:Option Addr)(cn:Nat)(vL:Value)(Aq:Option Addr)(cq:Nat):Prop where
 blk:w.heap[b]? =some (.cells #[.bool true, .slice An n cn,vL, .slice Aq n cq] 175 (0,0))
 row:∀i,i<n→∃q rb,Aq=some ⟨q,0,none⟩/\q<w.heap.size/\w.cell? ⟨q,i,none⟩=some (.slice (some ⟨rb,0,none⟩) n n)/\w.heap[rb]? =some (.cells (Ek n fun j=>Bn (F8 n rs i j)) 2 (0,0))
 ok:Cv n rs
 few:n<=128
def El (w:World)(b n:Nat)(rs:List Bk):Prop:=∃An cn vL Aq cq,Ac2 w b n rs An cn vL Aq cq
def H8 (w:World)(v:Value)(n:Nat)(rs:List Bk):Prop:=(v= .pointer none/\n=0)∨∃b,v= .pointer (some ⟨b,0,none⟩)/\El w b n rs
section
variable {w w':World}{b n:Nat}{rs:List Bk}
theorem Ac2.below {An:Option Addr}{cn:Nat}{vL:Value}{Aq:Option Addr}{cq:Nat}(h:Ac2 w b n rs An cn vL Aq cq)(hb:Below w.heap.size w w'):Ac2 w' b n rs An cn vL Aq cq:=
 ⟨(hb.block b (lt_of_block h.blk)).trans h.blk,fun i hi=>by
  obtain⟨q,rb,h1,h2,h3,h4⟩:=h.row i hi;exact⟨q,rb,h1,Nat.lt_of_lt_of_le h2 hb.size,(hb.cell (p:=⟨q,i,none⟩) h2).trans h3,(hb.block rb (lt_of_block h4)).trans h4⟩,h.ok,h.few⟩
theorem El.below (h:El w b n rs)(hb:Below w.heap.size w w'):El w' b n rs:=by
 obtain⟨An,cn,vL,Aq,cq,h⟩:=h;exact⟨An,cn,vL,Aq,cq,h.below hb⟩
theorem El.ok (h:El w b n rs):Cv n rs:=by obtain⟨An,cn,vL,Aq,cq,h⟩:=h;exact h.ok
theorem El.few (h:El w b n rs):n<=128:=by obtain⟨An,cn,vL,Aq,cq,h⟩:=h;exact h.few
theorem El.lt (h:El w b n rs):b<w.heap.size:=by obtain⟨An,cn,vL,Aq,cq,h⟩:=h;exact lt_of_block h.blk
theorem H8.below {v:Value}(h:H8 w v n rs)(hb:Below w.heap.size w w'):H8 w' v n rs:=by
 rcases h with h|⟨b,hv,h⟩
 ·exact .inl h
 ·exact .inr ⟨b,hv,h.below hb⟩
theorem H8.few {v:Value}(h:H8 w v n rs):n<=128:=by
 rcases h with⟨-,h⟩|⟨b, -,h⟩
 ·omega
 ·exact h.few
theorem H8.at_ {v:Value}(h:H8 w v n rs)(hn:n≠0):∃b,v= .pointer (some ⟨b,0,none⟩)/\El w b n rs:=by
 rcases h with⟨-,h⟩|h
 ·exact absurd h hn
 ·exact h
theorem El.cells (h:El w b n rs):∃An cn Aq cq,w.cell? ⟨b,0,none⟩=some (.bool true)/\w.cell? ⟨b,1,none⟩=some (.slice An n cn)/\w.cell? ⟨b,3,none⟩=some (.slice Aq n cq):=by
 obtain⟨An,cn,vL,Aq,cq,h⟩:=h;exact⟨An,cn,Aq,cq,Ad h.blk rfl,Ad h.blk rfl,Ad h.blk rfl⟩
theorem El.dist (h:El w b n rs){i j:Nat}(hi:i<n)(hj:j<n):∃q cq rb,w.cell? ⟨b,3,none⟩=some (.slice (some ⟨q,0,none⟩) n cq)/\w.cell? ⟨q,i,none⟩=some (.slice (some ⟨rb,0,none⟩) n n)/\w.cell? ⟨rb,j,none⟩=some (.int .i64 (Bn (F8 n rs i j))):=by
 obtain⟨An,cn,vL,Aq,cq,h⟩:=h;obtain⟨q,rb,rfl,h2,h3,h4⟩:=h.row i hi;exact⟨q,cq,rb,Ad h.blk rfl,h3,Hk h4 hj⟩
end
theorem Td (b:Nat)(w:World)(h:w.cell? ⟨b,0,none⟩=some (.bool true)):
  Calls Tryz.prog 117 #[.pointer (some ⟨b,0,none⟩)] w fun e w'=>e= .returned (.bool true)/\Below w.heap.size w w':=by
 go_enter Tryz.func117,Tryz.ntmps117;go_wp2;go_ret;exact⟨rfl,Below.refl _ _⟩
theorem Zo (w:World):Calls Tryz.prog 117 #[.pointer none] w fun e w'=>e= .returned (.bool false)/\Below w.heap.size w w':=by
 go_enter Tryz.func117,Tryz.ntmps117;go_wp2;go_ret;exact⟨rfl,Below.refl _ _⟩
theorem Te (v:Value)(n:Nat)(rs:List Bk)(w:World)(h:H8 w v n rs):
  Calls Tryz.prog 75 #[v] w fun e w'=>e= .returned (.int .i64 (n:Int))/\Below w.heap.size w w':=by
 rcases h with⟨rfl,rfl⟩|⟨b,rfl,h⟩
 ·go_enter Tryz.func75,Tryz.ntmps75;go_wp2_with fail;refine(Zo w).mono ?_;rintro e w1 ⟨rfl,a0⟩;go_wp2;go_ret;exact⟨rfl,a0⟩
 ·obtain⟨An,cn,Aq,cq,c0,c1,c3⟩:=h.cells;have a1:=h.lt;have a2:=hI c1;clear h c1 c3;go_enter Tryz.func75,Tryz.ntmps75;go_wp2_with fail;refine(Td b w c0).mono ?_;rintro e w1 ⟨rfl,a0⟩;have c1:=(a0.cell (p:=⟨b,1,none⟩) a1).trans a2.out;have HB:=hI a0;clear a0 c0;go_wp2;go_ret;exact⟨rfl,HB.out⟩
theorem Zp (b n:Nat)(rs:List Bk)(a:Nat)(w:World)(h:El w b n rs)(ha:a<n):
  Calls Tryz.prog 147 #[.pointer (some ⟨b,0,none⟩), .int .i64 (a:Int)] w fun e w'=>e= .returned (.bool true)/\Below w.heap.size w w':=by
 obtain⟨An,cn,Aq,cq,c0,c1,c3⟩:=h.cells;have a1:=h.lt;have a2:=hI c1;have a3:(a:Int)<(n:Int):=by omega
 clear h c1 c3;go_enter Tryz.func147,Tryz.ntmps147;go_wp2_with fail;refine(Td b w c0).mono ?_;rintro e w1 ⟨rfl,a0⟩;have c1:=(a0.cell (p:=⟨b,1,none⟩) a1).trans a2.out;have HB:=hI a0;clear a0 c0;go_wp2;go_ret;exact⟨rfl,HB.out⟩
theorem Ad9 (b n:Nat)(rs:List Bk)(x y:Nat)(w:World)(h:El w b n rs)(hx:x<n)(hy:y<n):
  Calls Tryz.prog 119 #[.pointer (some ⟨b,0,none⟩), .int .i64 (x:Int), .int .i64 (y:Int)] w fun e w'=>e= .returned (.tuple #[.int .i64 (((F8 n rs x y).getD 0:Nat):Int), .bool (F8 n rs x y).isSome])/\Below w.heap.size w w':=by
 have HM:=hI h;have a5:(x:Int)<(n:Int):=by omega
 have a4:(y:Int)<(n:Int):=by omega
 clear h;go_enter Tryz.func119,Tryz.ntmps119;go_wp2_with fail;refine(Zp b n rs x w HM.out hx).mono ?_;rintro e w1 ⟨rfl,a2⟩;have a0:=hI a2;clear a2;go_wp2_with fail;refine(Zp b n rs y w1 (HM.out.below a0.out) hy).mono ?_;rintro e w2 ⟨rfl,a3⟩;have a1:=hI (a0.out.trans (a3.mono a0.out.size));clear a3 a0;obtain⟨q,cq,rb,c3,cr,cd⟩:=(HM.out.below a1.out).dist hx hy;obtain⟨o,ho⟩:∃o,o=F8 n rs x y:=⟨_,rfl⟩;rw[←ho]at cd;have HO:Hid (F8 n rs x y=o):=ho.symm;clear ho
 cases o with
 |none=>
  simp only[Bn]at cd;go_wp2
  go_ret2
  exact⟨by rw[HO.out];rfl,a1.out⟩
 |some d=>
  simp only[Bn]at cd;go_wp2
  go_ret2
  exact⟨by rw[HO.out];rfl,a1.out⟩
end Go.Proofs.YtaglfmlgbcmakaaGreatDoor
namespace Go.Proofs.YtaglfmlgbcmakaaGreatDoor
open Go.RowKit
def Gw (k:Nat)(D:Nat->Nat->Option Nat)(i j:Nat):Nat->Nat->Option Nat:=fun a b=>if a<i\/(a=i/\b<j)then Ev k D a b else D a b
section
variable {k i j a b n:Nat}{D:Nat->Nat->Option Nat}
theorem Agc:Gw k D 0 0 a b=D a b:=by unfold Gw;rw[if_neg (by omega)]
theorem Ajz (hb:b<n):Gw k D (i+1) 0 a b=Gw k D i n a b:=by
 unfold Gw;by_cases h:a<i\/(a=i/\b<n)
 ·rw[if_pos h,if_pos (by omega)]
 ·rw[if_neg h,if_neg (by omega)]
theorem Aj0 (ha:a<n):Gw k D n 0 a b=Ev k D a b:=by unfold Gw;rw[if_pos (.inl ha)]
theorem Aj1 (h0:D k k=some 0):Gw k D i j a k=D a k:=by
 unfold Gw;split
 ·exact(Acs h0 a).1
 ·rfl
theorem Agd (h0:D k k=some 0):Gw k D i j k b=D k b:=by
 unfold Gw;split
 ·exact(Acs h0 b).2
 ·rfl
theorem Yl:Gw k D i j i j=D i j:=by unfold Gw;rw[if_neg (by omega)]
theorem Ym:Gw k D i (j+1) a b=if a=i/\b=j then Ev k D i j else Gw k D i j a b:=by
 unfold Gw;by_cases h:a=i/\b=j
 ·obtain⟨rfl,rfl⟩:=h;rw[if_pos (by omega),if_pos ⟨rfl,rfl⟩]
 ·rw[if_neg h];by_cases h1:a<i\/(a=i/\b<j)
  ·rw[if_pos h1,if_pos (by omega)]
  ·rw[if_neg h1,if_neg (by omega)]
theorem Mq (h:D i k=none\/D k j=none):Ev k D i j=D i j:=by
 unfold Ev
 have:Uf (D i k) (D k j)=none:=by
  rcases h with h|h
  ·rw[h];rfl
  ·rw[h];cases D i k<;>rfl
 rw[this,Q8]
theorem Yn {x y:Nat}(h1:D i k=some x)(h2:D k j=some y)(h3:D i j=none):Ev k D i j=some (x+y):=by
 unfold Ev;rw[h1,h2,h3];rfl
theorem Vb {x y z:Nat}(h1:D i k=some x)(h2:D k j=some y)(h3:D i j=some z)(h:x+y<z):Ev k D i j=some (x+y):=by
 unfold Ev;rw[h1,h2,h3];show some (min z (x+y))=_;rw[Nat.min_eq_right (by omega)]
theorem Vc {x y z:Nat}(h1:D i k=some x)(h2:D k j=some y)(h3:D i j=some z)(h:¬x+y<z):Ev k D i j=some z:=by
 unfold Ev;rw[h1,h2,h3];show some (min z (x+y))=_;rw[Nat.min_eq_left (by omega)]
end
theorem Yo {D:Nat->Nat->Option Nat}{M:Nat}(h:∀i j d,D i j=some d->d<=M):∀k i j d,Ea D k i j=some d->d<=M*2^k
 |0,i,j,d,hd=>by simpa using h i j d hd
 |k+1,i,j,d,hd=>by
  have ih:=Yo h k;have e:M*2^(k+1)=M*2^k+M*2^k:=by rw[Nat.pow_succ,←Nat.mul_assoc,Nat.mul_two]
  unfold Ea at hd
  cases h1:Ea D k i k with
  |none=>
   rw[Mq (.inl h1)]at hd
   have:=ih _ _ _ hd;omega
  |some x=>
   cases h2:Ea D k k j with
   |none=>
    rw[Mq (.inr h2)]at hd
    have:=ih _ _ _ hd;omega
   |some y=>
    have hx:=ih _ _ _ h1;have hy:=ih _ _ _ h2
    cases h3:Ea D k i j with
    |none=>rw[Yn h1 h2 h3]at hd;cases hd;omega
    |some z=>
     have hz:=ih _ _ _ h3;by_cases hl:x+y<z
     ·rw[Vb h1 h2 h3 hl]at hd;cases hd;omega
     ·rw[Vc h1 h2 h3 hl]at hd;cases hd;omega
theorem Aj2 {n:Nat}{rs:List Bk}{r:Bk}(h:Cv n (rs++[r]))(a b:Nat):wtN (rs++[r]) a b=if Cj r a b=true then some r.2.2 else wtN rs a b:=by
 unfold wtN;rw[List.find?_append];by_cases hj:Cj r a b=true
 ·rw[if_pos hj]
  have:rs.find? (fun r=>Cj r a b)=none:=by
   rw[List.find?_eq_none];intro s hs a0;have h1:=(List.pairwise_append.1 h.one).2.2 s hs r (List.mem_singleton.2 rfl)
   have:Cj s r.1 r.2.1=true:=by
    rw[Dw]at hj a0 ⊢;rcases hj with⟨a1,a2⟩|⟨a1,a2⟩<;>rcases a0 with⟨b1,b2⟩|⟨b1,b2⟩<;>rw[b1,b2,a1,a2]<;>simp
   rw[this]at h1;cases h1
  rw[this];simp[hj]
 ·rw[if_neg hj]
  have:[r].find? (fun r=>Cj r a b)=none:=by
   rw[List.find?_eq_none];intro s hs;obtain rfl:s=r:=by simpa using hs
   exact hj
  rw[this];simp
theorem Aa1 {n:Nat}{rs:List Bk}{k:Nat}(h:Cv n rs):Cv n (rs.take k):=
 ⟨fun r hr=>h.lt r (List.mem_of_mem_take hr),h.one.sublist (List.take_sublist _ _)⟩
theorem Aj3 {n:Nat}{rs:List Bk}{k:Nat}{r:Bk}(h:Cv n rs)(hr:rs[k]? =some r)(a b:Nat):D0 (rs.take (k+1)) a b=if Cj r a b=true then some r.2.2 else D0 (rs.take k) a b:=by
 have e:rs.take (k+1)=rs.take k++[r]:=by rw[List.take_add_one,hr];rfl
 have h1:Cv n (rs.take k++[r]):=by rw[←e];exact Aa1 h
 have a0:r.1≠r.2.1:=(h.lt r (List.mem_of_getElem? hr)).2.2.1;unfold D0;by_cases hab:a=b
 ·subst hab;rw[if_pos rfl,if_pos rfl,if_neg];rw[Dw];rintro(⟨h2,h3⟩|⟨h2,h3⟩)
  ·exact a0 (h2.trans h3.symm)
  ·exact a0 (h2.trans h3.symm)
 ·rw[if_neg hab,if_neg hab,e,Aj2 h1]
theorem Am8 {n:Nat}{rs:List Bk}(h:Cv n rs)(i j d:Nat)(hd:D0 rs i j=some d):d<=1073741824:=by
 unfold D0 at hd;split at hd
 ·cases hd;omega
 ·exact Agu h hd
end Go.Proofs.YtaglfmlgbcmakaaGreatDoor
namespace Go.Proofs.YtaglfmlgbcmakaaGreatDoor
open Go.RowKit Go.Shelf
theorem Xf {w:World}{B:Nat}{t:TypeId}{z n x:Nat}{v:Value}{xs:List Value}{cs:Array Value}{t':TypeId}{fr:Nat×Nat}(h:w.ownsRow B t z v n xs)(hx:w.heap[x]? =some (.cells cs t' fr))(hn:t≠t'):v.ownBlock≠some x:=by
 intro e;rcases h.2 with⟨rfl,_⟩|⟨g,cap,cur,rfl,_,hg,_⟩
 ·cases e
 ·obtain rfl:g=x:=Option.some.inj e;rw[hg]at hx;injection hx with e
  injection e with _ e _
  exact hn e
theorem Tf {w:World}{x y:Nat}{cs cs':Array Value}{t t':TypeId}{fr fr':Nat×Nat}(h:w.heap[x]? =some (.cells cs t fr))(h':w.heap[y]? =some (.cells cs' t' fr'))(hn:t≠t'):x≠y:=by
 rintro rfl;rw[h]at h';injection h' with e
 injection e with _ e _
 exact hn e
def L2 (D:Nat->Nat->Option Nat)(i j:Nat)(o:Option Nat):Nat->Nat->Option Nat:=fun a b=>if a=i/\b=j then o else D a b
theorem Aea (D:Nat->Nat->Option Nat)(i j:Nat)(o:Option Nat):L2 D i j o i j=o:=by simp[L2]
theorem Ah5 (D:Nat->Nat->Option Nat){i a:Nat}(j b:Nat)(o:Option Nat)(h:a≠i):L2 D i j o a b=D a b:=by unfold L2;rw[if_neg (fun e=>h e.1)]
theorem Ah6 (D:Nat->Nat->Option Nat){j b:Nat}(i a:Nat)(o:Option Nat)(h:b≠j):L2 D i j o a b=D a b:=by unfold L2;rw[if_neg (fun e=>h e.2)]
structure D8 (B b n:Nat)(vN vL v3:Value)(N:Nat)(rb:Nat->Nat)(D:Nat->Nat->Option Nat)(W:World):Prop where
 blk:W.heap[b]? =some (.cells #[.bool true,vN,vL,v3] 175 (0,0))
 own:W.ownsRow B 42 1 v3 N ((List.range N).map fun i=> .slice (some ⟨rb i,0,none⟩) n n)
 bB:B<=b
 row:∀i,i<N->W.heap[rb i]? =some (.cells (Ek n fun j=>Bn (D i j)) 2 (0,0))/\B<=rb i
 inj:∀i j,i<N->j<N->rb i=rb j->i=j
 sz:B<=W.heap.size
section
variable {B b n N:Nat}{vN vL v3:Value}{rb:Nat->Nat}{D D':Nat->Nat->Option Nat}{W W':World}
theorem D8.below (h:D8 B b n vN vL v3 N rb D W)(hb:Below W.heap.size W W'):D8 B b n vN vL v3 N rb D W':=
 ⟨(hb.block b (lt_of_block h.blk)).trans h.blk,Bj h.own fun k e=>hb.block k (h.own.lt k e).2,h.bB,fun i hi=>⟨(hb.block _ (lt_of_block (h.row i hi).1)).trans (h.row i hi).1,(h.row i hi).2⟩,h.inj,Nat.le_trans h.sz hb.size⟩
theorem D8.eq (h:D8 B b n vN vL v3 N rb D W)(e:∀i j,i<N->j<n->D i j=D' i j):D8 B b n vN vL v3 N rb D' W:=
 ⟨h.blk,h.own,h.bB,fun i hi=>by
  have h1:=h.row i hi
  have:Ek n (fun j=>Bn (D i j))=Ek n fun j=>Bn (D' i j):=by
   unfold Ek;congr 1;exact List.map_congr_left fun j hj=>by show Value.int .i64 (Bn (D i j))=Value.int .i64 (Bn (D' i j));rw[e i j hi (List.mem_range.1 hj)]
  rw[this]at h1;exact h1,h.inj,h.sz⟩
theorem D8.c3 (h:D8 B b n vN vL v3 N rb D W):W.cell? ⟨b,3,none⟩=some v3:=Ad h.blk rfl
theorem D8.rowAt (h:D8 B b n vN vL v3 N rb D W){i:Nat}(hi:i<N):∃q cap,v3= .slice (some ⟨q,0,none⟩) N cap/\W.cell? ⟨q,i,none⟩=some (.slice (some ⟨rb i,0,none⟩) n n)/\q<W.heap.size/\N<=cap:=by
 obtain⟨tb,cap,h1,h2,_,h4,_,_,h5,_⟩:=Tz h.own (j:=i) (x:= .slice (some ⟨rb i,0,none⟩) n n) (by simp[hi]);exact⟨tb,cap,h1,h2,h4,h5⟩
theorem D8.cell (h:D8 B b n vN vL v3 N rb D W){i j:Nat}(hi:i<N)(hj:j<n):W.cell? ⟨rb i,j,none⟩=some (.int .i64 (Bn (D i j))):=Hk (h.row i hi).1 hj
theorem D8.free (h:D8 B b n vN vL v3 N rb D W){i:Nat}(hi:i<N)(j:Nat):W.frozen? ⟨rb i,j,none⟩=false:=by simp[World.frozen?,(h.row i hi).1]
theorem D8.set (h:D8 B b n vN vL v3 N rb D W){i j:Nat}(hi:i<N)(o:Option Nat):D8 B b n vN vL v3 N rb (L2 D i j o) (W.setCell ⟨rb i,j,none⟩ (.int .i64 (Bn o))):=by
 have hr:=(h.row i hi).1;have a0:∀x,x≠rb i->(W.setCell ⟨rb i,j,none⟩ (.int .i64 (Bn o))).heap[x]? =W.heap[x]? :=fun x hx=>Below.heap_setCell _ _ _ _ (by show x≠rb i;exact hx)
 refine⟨(a0 b (Tf h.blk hr (by decide))).trans h.blk,Bj h.own fun k e=>a0 k (fun e'=>Xf h.own hr (by decide) (by rw[←e'];exact e)),h.bB,fun a ha=>⟨?_,(h.row a ha).2⟩,h.inj,by simpa using h.sz⟩
 by_cases e:a=i
 ·subst e;rw[Be hr];rw[Mf (g:=fun b=>Bn (L2 D a j o a b)) (by rw[Aea]) fun v _ hv=>by rw[Ah6 _ _ _ _ hv]]
 ·rw[a0 _ (fun e'=>e (h.inj a i ha hi e')),show(fun b=>Bn (L2 D i j o a b))=fun b=>Bn (D a b)from funext fun b=>by rw[Ah5 _ _ _ _ e]]
  exact(h.row a ha).1
theorem D8.push (h:D8 B b n vN vL v3 N rb D W){g:Nat}(hg:W.heap[g]? =some (.cells (Ek n fun j=>Bn (D N j)) 2 (0,0)))(hgB:B<=g)(hgn:∀i,i<N->rb i≠g){v':Value}
  (hown:W'.ownsRow B 42 1 v' (N+1) (((List.range N).map fun i=> .slice (some ⟨rb i,0,none⟩) n n)++[.slice (some ⟨g,0,none⟩) n n])) (hgr:W.grownBy W' v3.ownBlock):
  D8 B b n vN vL v' (N+1) (fun i=>if i=N then g else rb i) D (W'.setCell ⟨b,3,none⟩ v'):=by
 have a0:∀(x:Nat) (cs:Array Value) (t:TypeId),W.heap[x]? =some (Obj.cells cs t (0,0))->t≠42->W'.heap[x]? =some (Obj.cells cs t (0,0)):=fun x cs t hx ht=>(hgr.block x (lt_of_block hx) (fun e=>Xf h.own hx (fun e'=>ht e'.symm) e.symm)).trans hx
 have a3:=a0 b _ _ h.blk (by decide);have a1:∀x,x≠b->(W'.setCell ⟨b,3,none⟩ v').heap[x]? =W'.heap[x]? :=fun x hx=>Below.heap_setCell _ _ _ _ (by show x≠b;exact hx)
 have a5:∀i,i<N->rb i≠b:=fun i hi e=>Tf (h.row i hi).1 h.blk (by decide) e
 have a4:g≠b:=fun e=>Tf hg h.blk (by decide) e
 refine⟨?_, ?_,h.bB,fun i hi=> ?_,fun i j hi hj e=> ?_,by have:=hgr.size;have:=h.sz;simp;omega⟩
 ·rw[Be a3];rfl
 ·have e:((List.range (N+1)).map fun i=>Value.slice (some ⟨if i=N then g else rb i,0,none⟩) n n)=((List.range N).map fun i=> .slice (some ⟨rb i,0,none⟩) n n)++[.slice (some ⟨g,0,none⟩) n n]:=by
   rw[List.range_succ,List.map_append];congr 1
   ·exact List.map_congr_left fun i hi=>by rw[if_neg (by have:=List.mem_range.1 hi;omega)]
   ·simp
  rw[e];exact Bj hown fun k e'=>a1 k (fun e''=>Xf hown a3 (by decide) (by rw[←e''];exact e'))
 ·by_cases e:i=N
  ·subst e;simp only[if_true];exact⟨(a1 g a4).trans (a0 g _ _ hg (by decide)),hgB⟩
  ·simp only[if_neg e];have a2:i<N:=by omega
   exact⟨(a1 _ (a5 i a2)).trans (a0 _ _ _ (h.row i a2).1 (by decide)),(h.row i a2).2⟩
 ·by_cases e1:i=N
  ·by_cases e2:j=N
   ·omega
   ·simp only[if_pos e1,if_neg e2]at e;exact absurd e.symm (hgn j (by omega))
  ·by_cases e2:j=N
   ·simp only[if_neg e1,if_pos e2]at e;exact absurd e (hgn i (by omega))
   ·simp only[if_neg e1,if_neg e2]at e;exact h.inj i j (by omega) (by omega) e
theorem D8.map {An:Option Addr}{cn:Nat}{rs:List Bk}(h:D8 B b n (.slice An n cn) vL v3 n rb (F8 n rs) W)(hok:Cv n rs)(hn:n<=128):El W b n rs:=by
 obtain⟨A3,c3,a0⟩:=Bh h.own;refine⟨An,cn,vL,A3,c3,⟨by have:=h.blk;rw[a0]at this;exact this,fun i hi=> ?_,hok,hn⟩⟩
 obtain⟨q,cap,h1,h2,h3,_⟩:=h.rowAt hi;rw[a0]at h1;injection h1 with h1 _ _
 exact⟨q,rb i,h1,h3,h2,(h.row i hi).1⟩
end
theorem Aeb {n:Nat}{rs:List Bk}{k:Nat}{r:Bk}(h:Cv n rs)(hr:rs[k]? =some r)(a b:Nat):L2 (L2 (D0 (rs.take k)) r.1 r.2.1 (some r.2.2)) r.2.1 r.1 (some r.2.2) a b=D0 (rs.take (k+1)) a b:=by
 rw[Aj3 h hr];unfold L2;by_cases h1:a=r.2.1/\b=r.1
 ·rw[if_pos h1,if_pos (by rw[Dw];exact .inr ⟨h1.2.symm,h1.1.symm⟩)]
 ·rw[if_neg h1];by_cases h2:a=r.1/\b=r.2.1
  ·rw[if_pos h2,if_pos (by rw[Dw];exact .inl ⟨h2.1.symm,h2.2.symm⟩)]
  ·rw[if_neg h2,if_neg];rw[Dw];rintro(⟨e1,e2⟩|⟨e1,e2⟩)
   ·exact h2 ⟨e1.symm,e2.symm⟩
   ·exact h1 ⟨e2.symm,e1.symm⟩
theorem Zq {k i j:Nat}{D:Nat->Nat->Option Nat}{o:Option Nat}(ho:Ev k D i j=o)(a b:Nat):L2 (Gw k D i j) i j o a b=Gw k D i (j+1) a b:=by
 rw[Ym];unfold L2;by_cases h:a=i/\b=j
 ·rw[if_pos h,if_pos h,ho]
 ·rw[if_neg h,if_neg h]
theorem Tg {k i j:Nat}{D:Nat->Nat->Option Nat}(ho:Ev k D i j=D i j)(a b:Nat):Gw k D i j a b=Gw k D i (j+1) a b:=by
 rw[Ym];by_cases h:a=i/\b=j
 ·obtain⟨rfl,rfl⟩:=h;rw[if_pos ⟨rfl,rfl⟩,ho,Yl]
 ·rw[if_neg h]
theorem Ac3 (rs:List Bk)(i:Nat):D0 rs i i=some 0:=by unfold D0;rw[if_pos rfl]
theorem Amd {n k:Nat}{rs:List Bk}(h:Cv n rs)(hk:k<=12)(i j d:Nat)(hd:Ea (D0 rs) k i j=some d):d<=4398046511104:=by
 have h1:=Yo (Am8 h) k i j d hd;have h2:(2:Nat)^k<=2^12:=Nat.pow_le_pow_right (by decide) hk;omega
section
variable {B b n N:Nat}{vN vL v3:Value}{rb:Nat->Nat}{D:Nat->Nat->Option Nat}{W:World}
theorem D8.beside (h:D8 B b n vN vL v3 N rb D W){g:Nat}(hb:b<g)(hv:∀k,v3.ownBlock=some k->k<g)(hr:∀i,i<N->rb i<g)(j:Nat)(u:Value):D8 B b n vN vL v3 N rb D (W.setCell ⟨g,j,none⟩ u):=by
 have a0:∀x,x≠g->(W.setCell ⟨g,j,none⟩ u).heap[x]? =W.heap[x]? :=fun x hx=>Below.heap_setCell _ _ _ _ (by show x≠g;exact hx)
 exact⟨(a0 b (by omega)).trans h.blk,Bj h.own fun k e=>a0 k (by have:=hv k e;omega),h.bB,fun i hi=>⟨(a0 _ (by have:=hr i hi;omega)).trans (h.row i hi).1,(h.row i hi).2⟩,h.inj,by simpa using h.sz⟩
theorem D8.lows (h:D8 B b n vN vL v3 N rb D W):b<W.heap.size/\(∀k,v3.ownBlock=some k->k<W.heap.size)∧∀i,i<N->rb i<W.heap.size:=
 ⟨lt_of_block h.blk,fun k e=>(h.own.lt k e).2,fun i hi=>lt_of_block (h.row i hi).1⟩
end
theorem Aec:(Tryz.prog.info? 42).map (fun i=>(i.zero,i.size,i.bytes))=some (some (.slice none 0 0),1,24):=by kernel_rfl
theorem Abr {ops:Array Oper}{rest:List Oper}{o:Oper}{a:Act}{w:World}{Q:Exit->Act->World->Prop}(hgd:o.guard=none)(s x:Operand)
  (ho:o.op= .call {callee:= .builtin .append,args:= #[s,x],argTypes:= #[173,173]})
  (base:Nat) (v:Value) (n:Nat) (xs:List Value) (hs:a.eval s=v) (hown:w.ownsRow base 42 1 v n xs)
  (ad:Addr) (c:Nat) (y:Value) (hx:a.eval x= .slice (some ad) 1 c) (hr:∀j u,[y][j]? =some u->w.cell? (ad.add j)=some u) (hy:y.oneCell'=true) (hl:n+1<=4096) (hbase:base<=w.heap.size)
  (h:∀v' w',w'.ownsRow base 42 1 v' (n+1) (xs++[y])->w.grownBy w' v.ownBlock->(v'.ownBlock=v.ownBlock\/v'.ownBlock=some w.heap.size)→
   wpList Tryz.prog ops Q rest (a.put o.dst v') w'):wpList Tryz.prog ops Q (o::rest) a w:=by
 obtain⟨i0,hi,a1,a2,a0⟩:=info_parts Aec
 exact wpList_append_own_at w hgd s x 173 ho base 42 i0 _ 1 24 Tryz.underlying173 hi a1 a2 a0 rfl (by decide) v n xs hs hown ad 1 c [y] hx rfl hr
  (by intro u hu;simp at hu;subst hu;exact hy) (by unfold maxLen;omega) (by omega) hbase fun v' w' h1 h2 _ h4=>h v' w' h1 h2 h4
theorem Ame {u s:ByteArray}(h:¬u=s):(u.toList==s.toList)=false:=by
 rw[beq_eq_false_iff_ne];intro e;rw[Lib.toList_data,Lib.toList_data]at e;exact h (ByteArray.ext (Array.ext' e))
theorem Vq {n:Nat}:∀{rs:List Ep} {done:List Bk},Da n done rs=0→∀r∈rs,0<=r.1/\0<=r.2.1/\1<=r.2.2
 |[],_,_,r,hr=>by cases hr
 |x::rs,done,he,r,hr=>by
  unfold Da at he;by_cases h1:min x.1 x.2.1<0\/(n:Int)<=max x.1 x.2.1
  ·rw[if_pos h1]at he;cases he
  rw[if_neg h1]at he;by_cases h2:x.1=x.2.1
  ·rw[if_pos h2]at he;cases he
  rw[if_neg h2]at he;by_cases h3:x.2.2<1\/1073741824<x.2.2
  ·rw[if_pos h3]at he;cases he
  rw[if_neg h3]at he;by_cases h4:done.any (fun s=>Cj s x.1.toNat x.2.1.toNat)=true
  ·rw[if_pos h4]at he;cases he
  rw[if_neg h4]at he;rcases List.mem_cons.1 hr with e|hr
  ·subst e;omega
  ·exact Vq he r hr
end Go.Proofs.YtaglfmlgbcmakaaGreatDoor
