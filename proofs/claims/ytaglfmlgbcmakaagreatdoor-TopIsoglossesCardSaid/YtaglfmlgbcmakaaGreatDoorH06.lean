/-
  example of ablautlaw38: the map of the chapter, its laws and waves.
  ablautlaw10.numbers.
  A slice of words, as records of one cell.
  slices.IndexFunc over records of type []api.Sound.
  wave.Values.
-/
import Derived.Test.YtaglfmlgbcmakaaGreatDoorXNw3
set_option linter.all false
set_option maxRecDepth 100000
set_option maxHeartbeats 4000000
namespace Go.Proofs.YtaglfmlgbcmakaaGreatDoor
open Go.RowKit Go.Shelf
theorem T7 (w:World)(vs:List Value)(t:TypeId)(n sz:Nat)(h:vs.length=n*sz)(hn:n<=maxLen):Am (w.alloc (.cells vs.toArray t)) (some ⟨w.heap.size,0,none⟩) n n sz vs:=
 ⟨h,rr,hn,(fun h=>by cases h),fun _=>⟨w.heap.size,0,rfl,by simp,fun j v hv=>by rw[Nat.zero_add];exact C0 (by simpa using hv)⟩⟩
end Go.Proofs.YtaglfmlgbcmakaaGreatDoor
namespace Go.Proofs.YtaglfmlgbcmakaaGreatDoor
open Go.RowKit Go.Shelf
end Go.Proofs.YtaglfmlgbcmakaaGreatDoor
namespace Go.Proofs.YtaglfmlgbcmakaaGreatDoor
open Go.RowKit Go.Shelf
def Eq (p:Part):List Value:=[p.val]
theorem Nv (p:Part):(Eq p).length=1:=rfl
theorem Qe:∀ps:List Part,ps.flatMap Eq=ps.map Part.val
 |[]=>rfl
 |p::r=>by rw[List.flatMap_cons,Qe r];rfl
theorem Am.recs {w:World}{A:Option Addr}{n c:Nat}{ps:List Part}(h:Am w A n c 1 (ps.map Part.val)):Dg Eq 1 w A n c ps:=
 ⟨by rw[Qe];exact h,by have:=h.1;simpa using this⟩
theorem Abu (A:Option Addr)(n c:Nat)(xs:List Part)(F:Nat)(lb:Array Value)(p:Part->Bool)(w:World)(hx:Dg Eq 1 w A n c xs)(hE:Enters Tryz.prog F)
  (hcall:∀W,Below w.heap.size w W→∀s∈xs,Calls Tryz.prog F (#[Part.val s]++lb) W fun e W'=>e= .returned (.bool (p s))/\Below W.heap.size W W'):
  Calls Tryz.prog 68 #[.slice A n c, .func (.func F) #[] lb] w fun e w'=>e= .returned (.int .i64 (Ex p xs))/\Below w.heap.size w w':=by
 have hm:n<=9223372036854775807:=by have h1:=hx.1.2.1;have h2:=hx.1.2.2.1;unfold maxLen at h2;omega
 have HX:=hI hx;clear hx;have HC:=hI hcall;clear hcall;unfold Enters at hE;go_enter Tryz.func68,Tryz.ntmps68;go_wp2
 go_loopw [5,8] (fun _ i wr=>∃k:Nat,k<=n/\i= .int .i64 k/\Hid ((xs.take k).any p=false)/\Below w.heap.size w wr) (fun _ i _=>n-(intOf i).toNat)
 case atStart=>exact⟨0,Nat.zero_le _,rfl,by simp[Hid],Below.refl _ _⟩
 case round=>
  obtain⟨k,hk,rfl,HA,hB⟩:=hrel;by_cases hlt:k<n
  ·obtain⟨s,a2⟩:∃s,xs[k]? =some s:=⟨xs[k]'(by rw[HX.out.2];exact hlt),List.getElem?_eq_getElem _⟩;obtain⟨b,off,rfl,hb,a5⟩:=(HX.out.below hB rr).at_ Nv (by decide) a2;have a6:=a5 0 _ rfl;simp only[Nat.add_zero,←Nat.add_assoc,Nat.mul_one]at a6;clear a5;have a0:=hI (HC.out wr hB s (List.mem_of_getElem? a2));have HK:=hI a2;clear a2;by_cases hp:p s=true
   ·have hr:=Fb p xs k s HK.out HA.out hp;have HR:=hI hr;clear hr;have HP:=hI hp;clear hp;go_wp2_with fail;refine a0.out.mono ?_;rintro e w1 ⟨rfl,a1⟩;rw[HP.out];have a3:=hB.trans (a1.mono hB.size);clear a1;go_wp2;go_ret;exact⟨by rw[HR.out];rfl,a3⟩
   ·have a4:p s=false:=by simpa using hp
    have HP:=hI a4;clear hp a4;go_wp2_with fail;refine a0.out.mono ?_;rintro e w1 ⟨rfl,a1⟩;rw[HP.out];have a3:=hB.trans (a1.mono hB.size);clear a1;go_wp2
    go_roundw
    case rel=>exact⟨k+1,by omega,by go_num,by rw[Bp xs k _ HK.out,List.any_append,HA.out];simp[HP.out,Hid],a3⟩
    case measure=>simp[intOf];omega
  ·obtain rfl:k=n:=by omega
   have hr:Ex p xs= -1:=by
    have:=HA.out
    rw[List.take_of_length_le (by rw[HX.out.2];exact rr)]at this;exact Fa p xs this
   have HR:=hI hr;clear hr;go_wp2;go_ret;exact⟨by rw[HR.out];rfl,hB⟩
theorem Aet (Ax:Option Addr)(nx cx:Nat)(x:List Snd)(Ay:Option Addr)(ny cy:Nat)(y:List Snd)(bx:Nat)(w:World)(hb:w.heap[bx]? =some (.cells #[.slice Ax nx cx] 28 (0,0)))(hx:Ae w Ax nx cx x)(hy:Ae w Ay ny cy y):
  Calls Tryz.prog 69 #[.slice Ay ny cy, .pointer (some ⟨bx,0,none⟩)] w fun e w'=>e= .returned (.bool (decide (x=y)))/\Below w.heap.size w w':=by
 have c0:=cell_of_one hb;have HE:=hI (Rs Ax Ay nx ny cx cy x y w hx hy);clear hb hx hy;obtain⟨r,hr⟩:∃r,r=decide (x=y):=⟨_,rfl⟩;rw[←hr]at HE ⊢;clear hr;go_enter Tryz.func69,Tryz.ntmps69;go_wp2_with fail;refine HE.out.mono ?_;rintro e w1 ⟨rfl,a0⟩;go_wp2;go_ret;exact⟨rfl,a0⟩
theorem Tp {α:Type}(p:α->Bool):∀l:List α,Ex p l=match l.findIdx? p with|some k=>(k:Int)|none=> -1
 |[]=>rfl
 |x::l=>by
  have h:=Tp p l;unfold Ex;rw[List.findIdx?_cons];by_cases hx:p x=true
  ·simp[hx]
  ·rw[if_neg hx,if_neg hx,h]
   cases l.findIdx? p with
   |none=>rfl
   |some k=>simp only[Option.map_some];rw[if_neg (by omega)];rfl
theorem Xy (ps:List Part)(x:List Snd):Ex (fun p=>decide (x=p.word)) ps=Co (ps.map Part.word) x:=by
 unfold Co;rw[List.findIdx?_map,Tp];rfl
theorem Mt {f:Nat->Int×List Snd}:∀(l:List Nat) (done:List (List Snd)),(Cw f done l).2.length<=done.length+l.length
 |[],done=>by simp[Cw]
 |a::l,done=>by
  unfold Cw;split
  ·simp
  ·have:=Mt (f:=f) l (done++[(f a).2])
   simp only[List.length_append,List.length_cons,List.length_nil]at this ⊢;omega
theorem Xz (n:Nat)(rs:List Bh)(ls:List Bb)(ws:List C7)(w:List Snd)(now:Int):(Bf n rs ls ws w now).2.length<=n:=by
 unfold Bf;split
 ·simp
 ·split
  ·simp
  ·have:=Mt (f:=En n rs ls ws w now) (List.range n) []
   simpa using this
theorem Ph (b n:Nat)(rs:List Bh)(Ax:Option Addr)(nx cx:Nat)(xs:List B8)(A:Option Addr)(m c:Nat)(ys:List Cs)(Aw:Option Addr)(nw cw:Nat)(ws:List Snd)(now:Int)(w:World)(hm:Cl w b n rs)(hx:B1 w Ax nx cx xs)(hy:Ci w A m c ys)(hw:Ae w Aw nw cw ws)(hT:Cc w)(h19:m<=19\/64<m):
  Calls Tryz.prog 24 #[.pointer (some ⟨b,0,none⟩), .slice Ax nx cx, .slice A m c, .slice Aw nw cw, .int .i64 now] w (Ji w (E6 n rs (Ak xs) (Af ys) ws now)):=by
 have b4:=hm.few;have HF:=hI (Mc b n rs Ax nx cx xs A m c ys Aw nw cw ws now w hm hx hy hw hT h19);have HN:Hid ((Bf n rs (Ak xs) (Af ys) ws now).2.length<=n):=Xz _ _ _ _ _ _;have HV:Hid (E6 n rs (Ak xs) (Af ys) ws now=if(Bf n rs (Ak xs) (Af ys) ws now).1≠0 then((Bf n rs (Ak xs) (Af ys) ws now).1,[])else(0,(Bf n rs (Ak xs) (Af ys) ws now).2.map (Co (Bf n rs (Ak xs) (Af ys) ws now).2))):=rfl;obtain⟨R,hR⟩:∃R,R=Bf n rs (Ak xs) (Af ys) ws now:=⟨_,rfl⟩;obtain⟨V,hV⟩:∃V,V=E6 n rs (Ak xs) (Af ys) ws now:=⟨_,rfl⟩;rw[←hR]at HF HN HV;rw[←hV]at HV ⊢;obtain⟨er,fs⟩:=R;clear hm hx hy hw hT h19 hR hV;simp only at HF HN HV;go_enter Tryz.func24,Tryz.ntmps24;go_wp2_with fail;refine HF.out.mono ?_;rintro e w1 ⟨A1,c1,ps,rfl,a5,a0,b7,d2,b2⟩;have d3:=hI a5;have b8:=hI b7;have a7:=hI b2;have a8:=hI (Am.recs (Am.of_own a0 (by decide)))
 have d5:ps.length<=128:=by
  have h1:=congrArg List.length a5;have h2:=HN.out;simp only[List.length_map]at h1;have h3:fs.length<=n:=h2;have h4:ps.length=fs.length:=h1;omega
 obtain⟨k,hk⟩:∃k,k=ps.length:=⟨_,rfl⟩;have HK:=hI hk;rw[←hk]at a8 d5 ⊢;clear a5 a0 b7 d2 b2 hk HF;by_cases h0:er=0
 ·subst h0
  have a2:Hid (V=(0,ps.map fun p=>Co (ps.map Part.word) p.word)):=by
   show _=_;rw[HV.out,if_neg (by simp)]
   have:fs=ps.map Part.word:=d3.out.symm
   show(_,_)=_;rw[this,List.map_map];rfl
  have d7:=fun w=>run_make_row' (P:=Tryz.prog) 36 3 (.int .i64 0) 8 Tryz.underlying36 Fg rfl .i64 .i64 k (by omega) (by omega) w
  have f3:k<=maxLen:=by unfold maxLen;omega
  go_wp2_with fail;clear d7;rw[Lw];have a4:Hid ((w1.alloc (.cells (Et k fun _=>0) 3)).heap[w1.heap.size]? =some (.cells (Et k fun _=>0) 3 (0,0))):=Ah rfl;have b1:Hid (Below w1.heap.size w1 (w1.alloc (.cells (Et k fun _=>0) 3))):=(Below.refl _ w1).alloc rr _;obtain⟨g,hg⟩:∃g,g=w1.heap.size:=⟨_,rfl⟩;have f1:w1.heap.size<=g:=by omega
  rw[←hg]at a4 ⊢;generalize w1.alloc (.cells (Et k fun _=>0) 3)=w4 at*;clear hg;obtain⟨fe,b0⟩:∃fe:Nat->Int,fe=fun v=>((ps[v]?).map fun p=>Co (ps.map Part.word) p.word).getD 0:=⟨_,rfl⟩
  have b3:=hI b0;clear b0
  go_loopw [34] (fun i wr=>∃j:Nat,j<=k/\i= .int .i64 (j:Int)/\Hid (wr.heap[g]? =some (.cells (Et k fun v=>if v<j then fe v else 0) 3 (0,0)))/\Hid (Below w1.heap.size w1 wr)) (fun i _=>k-(intOf i).toNat)
  case atStart=>exact⟨0,Nat.zero_le _,rfl,by show _=_;simpa using a4.out,b1.out⟩
  case round=>
   obtain⟨j,hj,rfl,HG,HB⟩:=hrel;clear a4 b1;by_cases hlt:j<k
   ·have f2:(j:Int)<(k:Int):=by omega
    obtain⟨⟨Ap,np,cp,wp⟩,hp⟩:∃p,ps[j]? =some p:=⟨ps[j]'(by rw[←HK.out];exact hlt),List.getElem?_eq_getElem _⟩;obtain⟨ga,oa,hA,f4,d0⟩:=(a8.out.below HB.out rr).at_ Nv (by decide) hp;subst hA;have d4:=d0 0 _ rfl;simp only[Nat.add_zero,←Nat.add_assoc,Nat.mul_one,Part.val]at d4;have a1:=List.mem_of_getElem? hp;have b6:=hI ((b8.out _ a1).below HB.out rr);have d1:Hid (fe j=Co (ps.map Part.word) wp):=by show _=_;rw[b3.out];show((ps[j]?).map _).getD 0=_;rw[hp];rfl
    clear d0 hp a1;have hz:Below wr.heap.size wr (wr.alloc (.cells #[.slice Ap np cp] 28)):=(Below.refl _ wr).alloc rr _;have b9:(wr.alloc (.cells #[.slice Ap np cp] 28)).heap[wr.heap.size]? =some (.cells #[.slice Ap np cp] 28 (0,0)):=Ah rfl;have a3:=hI b9;have HZ:=hI hz;clear b9 hz;go_wp2_with fail;refine(Abu (some ⟨ga,oa,none⟩) k c1 ps 69 #[.pointer (some ⟨wr.heap.size,0,none⟩)] (fun p=>decide (wp=p.word)) _ (a8.out.below (HB.out.trans (HZ.out.mono HB.out.size)) rr) (enters_of Tryz.func69 (by kernel_rfl) rfl) ?hcall).mono ?_
    case hcall=>
     intro W hW s hs;have d9:Below w1.heap.size w1 W:=HB.out.trans ((HZ.out.trans (hW.mono HZ.out.size)).mono HB.out.size);exact Aet Ap np cp wp s.1 s.2.1 s.2.2.1 s.2.2.2 wr.heap.size W ((hW.block _ (lt_of_block a3.out)).trans a3.out) (b6.out.below (HZ.out.trans (hW.mono HZ.out.size)) rr) ((b8.out s hs).below d9 rr)
    rw[Xy];obtain⟨t,ht⟩:∃t,t=Co (ps.map Part.word) wp:=⟨_,rfl⟩;rw[←ht]at d1 ⊢;rintro e w5 ⟨rfl,b5⟩;have a6:=HZ.out.trans (b5.mono HZ.out.size);have a9:=hI ((a6.block g (lt_of_block HG.out)).trans HG.out);have f0:=hI (HB.out.trans (a6.mono HB.out.size));clear ht b5 a6 HG HB a3 HZ b6;have cg:=Jf a9.out hlt;have fg:w5.frozen? ⟨g,j,none⟩=false:=by simp[World.frozen?,a9.out]
    have d8:Hid ((w5.setCell ⟨g,j,none⟩ (.int .i64 t)).heap[g]? =some (.cells (Et k fun v=>if v<j+1 then fe v else 0) 3 (0,0))):=by
     show _=_
     rw[B2 a9.out,Nz (g:=fun v=>if v<j+1 then fe v else 0) (by simp[d1.out]) fun v _ hv=>by
      by_cases e:v<j
      ·simp[e,Nat.lt_succ_of_lt e]
      ·have:¬v<j+1:=by omega
       simp[e,this]]
    have d6:=hI (f0.out.setCell (p:=⟨g,j,none⟩) (by show w1.heap.size<=g;omega) (.int .i64 t));go_wp2_with fail
    go_roundw
    case rel=>exact⟨j+1,by omega,by simp,d8.out,d6.out⟩
    case measure=>simp[intOf];omega
   ·obtain rfl:j=k:=by omega
    go_wp2
    go_ret2
    have hr:=Qx HG.out (by omega);refine⟨_,_,_,by rw[a2.out];rfl, ?_,a7.out.trans (HB.out.mono a7.out.size)⟩;rw[a2.out];show Cm _ _ _ _ (ps.map fun p=>Co (ps.map Part.word) p.word)
    rw[show(ps.map fun p=>Co (ps.map Part.word) p.word)=(List.range j).map fun v=>if v<j then fe v else 0 from by
     apply List.ext_getElem?;intro v;rw[List.getElem?_map,List.getElem?_map];by_cases hv:v<j
     ·rw[List.getElem?_range hv,Option.map_some,if_pos hv,b3.out]
      have:ps[v]? =some (ps[v]'(by rw[←HK.out];exact hv)):=List.getElem?_eq_getElem _
      simp only[this];rfl
     ·rw[List.getElem?_eq_none (by rw[←HK.out];omega),List.getElem?_eq_none (by simpa using hv)];rfl]
    exact hr
 ·have h1:(er !=0)=true:=by simpa using h0
  have a2:Hid (V=(er,[])):=by show _=_;rw[HV.out,if_pos h0]
  go_wp2
  go_ret2
  exact Ji.bad a2.out a7.out
end Go.Proofs.YtaglfmlgbcmakaaGreatDoor
