/-
  ablautref11: Image, Fixed.
  Three rows under way: words, words, pairs (ablautref11.Lost).
  ablautref11.Lost.
  ablautref10.SamePairs (of equal pairs).
-/
import Derived.Test.YtlgliddhideflaaGreatDoorH09
import Derived.Test.YtlgliddhideflaaGreatDoorH06
set_option linter.all false
set_option maxRecDepth 100000
set_option maxHeartbeats 4000000
namespace Go.Proofs.YtlgliddhideflaaGreatDoor
open Go.RowKit Go.Shelf
theorem Zr {ss:List Snd}(h:Bq ss){n:Nat}{x:List Snd}(hx:x∈Bp (Ba ss) n):Bq x:=fun s hs=>h s ((Gd ss s).1 (((Eu _ n x).1 hx).2 s hs))
theorem Pk {ls:List Bg}{ss:List Snd}{k:Int}(h:C3 ls ss k=0):B7 ls [] ss=0/\0<=k/\k<=4:=by
 unfold C3 at h;by_cases h1:B7 ls [] ss=0
 ·rw[if_neg (by simpa using h1)]at h;by_cases h2:k<0\/4<k
  ·rw[if_pos h2]at h;exact absurd h (by decide)
  ·exact⟨h1,by omega,by omega⟩
 ·rw[if_pos h1]at h;exact absurd h h1
theorem Aji {α:Type} [DecidableEq α]{lt:α->α->Bool}:∀(l:List α),(Lk lt l).length<=l.length:=by
 have h1:∀(x:α) (l:List α),(Hm lt x l).length<=l.length+1:=by
  intro x l
  induction l with
  |nil=>simp[Hm]
  |cons y r ih=>
   unfold Hm;split
   ·simp;exact ih
   ·split
    ·simp
    ·simp
 have h2:∀(l out:List α),(l.foldl (fun out x=>Hm lt x out) out).length<=l.length+out.length:=by
  intro l
  induction l with
  |nil=>intro out;simp
  |cons x r ih=>intro out;have:=ih (Hm lt x out);have:=h1 x out;simp only[List.foldl_cons,List.length_cons];omega
 intro l
 have:=h2 l []
 simpa[Lk]using this
theorem Adx (A:Option Addr)(n c:Nat)(xs:List Co)(As:Option Addr)(ns cs:Nat)(ss:List Snd)(kk:Int)(w:World)(hx:B4 w A n c xs)(hs:Ad w As ns cs ss)(hxu:Jj xs)(hsu:Bq ss):
  Calls Tryz.prog 47 #[.slice A n c, .slice As ns cs, .int .i64 kk] w (Pc w (F9 (Ah xs) ss kk)):=by
 have HX:=hI hx;have HS:=hI hs;have f0:=hI hxu;have b8:=hI hsu;clear hx hs hxu hsu;go_enter Tryz.func47,Tryz.ntmps47;go_wp2_with fail;refine(Pj A n c xs As ns cs ss kk w HX.out HS.out f0.out b8.out).mono ?_;rintro e w1 ⟨rfl,a2⟩;have a3:=a2.size;obtain⟨er,a1⟩:∃er,er=C3 (Ah xs) ss kk:=⟨_,rfl⟩;rw[←a1];by_cases h0:er=0
 case neg=>
  have h1:(er !=0)=true:=by simpa using h0
  have HM:Hid (F9 (Ah xs) ss kk=(er,[])):=by show _=_;unfold F9;rw[←a1,if_pos h0]
  clear h0 a1;go_wp2
  go_ret2
  exact⟨none,0,0,(by rw[HM.out];try rfl),by rw[HM.out];exact Bx.nil _,a2⟩
 have h1:(er !=0)=false:=by simpa using h0
 obtain⟨d7,g5,g7⟩:=Pk (a1.symm.trans h0);have a4:=hI (M5 d7);have f3:ns<=5:=by rw[←HS.out.len];exact a4.out.1
 have HM:Hid (F9 (Ah xs) ss kk=(0,Lk Cm ((Cr (Ah xs) ss kk.toNat).map fun p=>p.2))):=by show _=_;unfold F9;rw[←a1,if_neg (by simpa using h0)]
 obtain⟨q,rfl⟩:∃q:Nat,kk=q:=⟨kk.toNat,by omega⟩;rw[Int.toNat_natCast]at HM;have g1:q<=4:=by omega
 have g2:Hid ((Bp (Ba ss) q).length<=625):=by
  have h:=Nj (l:=Ba ss) (by rw[Fk a4.out.2];exact a4.out.1) q;have h2:5^q<=5^4:=Nat.pow_le_pow_right (by decide) g1;show _<=_;omega
 clear h0 a1 d7;go_wp2_with fail;refine(Mg As ns cs ss q w1 (HS.out.below a2 rr) a4.out.2 f3 (by omega)).mono ?_;rintro e w2 ⟨A9,n9,c9,ps,rfl,a9,a8,d6,b9,_,_,d4⟩;have d8:=hI (a2.trans (d4.mono a3));have b6:=d8.out.size;have h9:n9<=625:=by have:=g2.out;rw[←a9,List.length_map,a8]at this;exact this
 have d1:=hI a9;have g0:=hI d6;have f8:=hI b9;have g4:=hI a8;clear a9 d6 b9 a8 d4 a2 a3;go_wp2
 go_loopw [10,11,12,13] (fun v i _ _ wr=>∃(k:Nat) (A0:Option Addr) (n0 c0:Nat),i= .int .i64 k/\v= .slice A0 n0 c0/\k<=n9/\Hid (Bx wr A0 n0 c0 (Lk Cm ((Cu (Ah xs) ((Bp (Ba ss) q).take k)).map fun p=>p.2)))/\Below w2.heap.size w2 wr) (fun _ i _ _ _=>n9-(intOf i).toNat)
 case atStart=>exact⟨0,none,0,0,rfl,rfl,Nat.zero_le _,by simp only[List.take_zero];exact Bx.nil _,Below.refl _ _⟩
 case round=>
  obtain⟨k,A0,n0,c0,rfl,rfl,hk,a5,hB⟩:=hrel;have f2:=hB.size;have d9:Hid (Below w.heap.size w wr):=d8.out.trans (hB.mono b6);by_cases hlt:k<n9
  ·have f5:(k:Int)<(n9:Int):=by omega
   obtain⟨b,off,px,rfl,f4,a7,b3⟩:=Gw (g0.out.below hB rr) hlt;obtain⟨Ax,nx,cx,x⟩:=px
   replace b3:wr.cell? ⟨b,off+k,none⟩=some (.slice Ax nx cx):=b3
   have b1:(Bp (Ba ss) q)[k]? =some x:=by rw[←d1.out,List.getElem?_map,a7];rfl
   have d0:=hI b1;have f1:Hid (Ad wr Ax nx cx x):=(f8.out _ (List.mem_of_getElem? a7)).below hB rr;have f7:Hid (Bq x):=Zr b8.out (List.mem_of_getElem? b1)
   have g6:n0<=625:=by
    rw[←a5.out.len];refine Nat.le_trans (Aji _) ?_;rw[List.length_map];exact Nat.le_trans (Ab9 _ _ _) (by omega)
   clear a7 b1;go_wp2_with fail;refine(Me A n c xs Ax nx cx x wr (HX.out.below d9.out rr) f1.out f0.out f7.out).mono ?_;obtain⟨ea,a6⟩:∃ea,ea=Bm (Ah xs) x:=⟨_,rfl⟩;rw[←a6];have b2:=hI a6;clear a6;rintro e w3 ⟨A3,n3,c3,rfl,d5,b7,_⟩;have b0:=hB.trans (b7.mono f2);have a0:=hI (a5.out.below b7 rr);have d2:=hI d5;clear a5 b7 b3 f4 f1 d5;by_cases h0:ea.1=0
   ·have f9:(ea.1==0)=true:=by simpa using h0
    have HN:Hid (Lk Cm ((Cu (Ah xs) ((Bp (Ba ss) q).take (k+1))).map fun p=>p.2)=Hm Cm ea.2 (Lk Cm ((Cu (Ah xs) ((Bp (Ba ss) q).take k)).map fun p=>p.2))):=by
     show _=_;rw[Kr d0.out (by rw[←b2.out];exact h0),List.map_append,←b2.out];exact Yt _ _
    clear h0;go_wp2_with fail;refine(Ajh A0 n0 c0 _ A3 n3 c3 ea.2 w3 a0.out d2.out (by omega)).mono ?_;rintro e w4 ⟨A4,n4,c4,rfl,b4,d3⟩;have g3:=b0.trans (d3.mono b0.size);rw[←HN.out]at b4;have f6:=hI b4;clear b4 d3 HN a0 d2;go_wp2
    go_roundw
    case rel=>exact⟨k+1,A4,n4,c4,by go_num,rfl,by omega,f6,g3⟩
    case measure=>simp[intOf];omega
   ·have f9:(ea.1==0)=false:=by simpa using h0
    have HN:Hid (Cu (Ah xs) ((Bp (Ba ss) q).take (k+1))=Cu (Ah xs) ((Bp (Ba ss) q).take k)):=Pn d0.out (by rw[←b2.out];exact h0);clear h0;go_wp2
    go_roundw
    case rel=>exact⟨k+1,A0,n0,c0,by go_num,rfl,by omega,by rw[HN.out];exact a0,b0⟩
    case measure=>simp[intOf];omega
  ·obtain rfl:k=n9:=by omega
   have b5:Hid (Bx wr A0 n0 c0 (F9 (Ah xs) ss q).2):=by
    have h:(Bp (Ba ss) q).length=k:=by rw[←d1.out,List.length_map,g4.out]
    have h2:=a5.out;rw[List.take_of_length_le (by rw[h];exact rr)]at h2;rw[HM.out];exact h2
   go_wp2
   go_ret2
   exact⟨A0,n0,c0,(by rw[HM.out];try rfl),b5.out,d9.out⟩
def Ti (fs ts:List Part)(os:List Cf):List Part:=fs++ts++os.flatMap fun s=>[s.p,s.q]
def Fr (v1 v2 v3:Value):Nat->Prop:=fun k=>v1.ownBlock=some k\/v2.ownBlock=some k\/v3.ownBlock=some k
def Off (R:Nat->Prop)(w:World)(p:Part):Prop:=Ad w p.1 p.2.1 p.2.2.1 p.2.2.2∧∀ad,p.1=some ad->0<p.2.1→¬R ad.block
structure L3W (w:World)(B:Nat)(v1 v2 v3:Value)(fs ts:List Part)(os:List Cf):Prop where
 o1:w.ownsRow B 32 1 v1 fs.length (fs.map Part.val)
 o2:w.ownsRow B 32 1 v2 ts.length (ts.map Part.val)
 o3:w.ownsRow B 52 2 v3 os.length (os.flatMap Cf.cells)
 d12:∀k,v1.ownBlock=some k→¬v2.ownBlock=some k
 d13:∀k,v1.ownBlock=some k→¬v3.ownBlock=some k
 d23:∀k,v2.ownBlock=some k→¬v3.ownBlock=some k
 pw:∀p∈Ti fs ts os,Off (Fr v1 v2 v3) w p
 sz:B<=w.heap.size
section
variable {w X:World}{B:Nat}{v1 v2 v3 v':Value}{fs ts:List Part}{os:List Cf}
theorem L3W.nil (w:World):L3W w w.heap.size (.slice none 0 0) (.slice none 0 0) (.slice none 0 0) [] [] []:=
 ⟨World.ownsRow_nil _ _ _ _,World.ownsRow_nil _ _ _ _,World.ownsRow_nil _ _ _ _,fun k e=>(by cases e),fun k e=>(by cases e),fun k e=>(by cases e),fun p hp=>(by simp[Ti]at hp),rr⟩
theorem Off.below {R:Nat->Prop}{w w':World}{p:Part}(h:Off R w p)(hb:Below w.heap.size w w'):Off R w' p:=⟨h.1.below hb rr,h.2⟩
theorem L3W.below (h:L3W w B v1 v2 v3 fs ts os)(hb:Below w.heap.size w X):L3W X B v1 v2 v3 fs ts os:=
 ⟨B0 h.o1 fun k e=>hb.block k (h.o1.lt k e).2,B0 h.o2 fun k e=>hb.block k (h.o2.lt k e).2,B0 h.o3 fun k e=>hb.block k (h.o3.lt k e).2,h.d12,h.d13,h.d23,fun p hp=>(h.pw p hp).below hb,Nat.le_trans h.sz hb.size⟩
theorem Off.grown {R R':Nat->Prop}{p:Part}{row:Option Nat}(h:Off R w p)(hg:w.grownBy X row)(hr:∀k,row=some k->R k)(hR:∀k,R' k->R k\/k=w.heap.size):Off R' X p:=by
 refine⟨h.1.keep (S:=fun k=>row=some k) ((Aj.refl (fun k=>row=some k) w).grown hg (fun k e=> .inl e)) fun hn ad had e=>h.2 ad had hn (hr _ e),fun ad had hn e=> ?_⟩
 rcases hR _ e with e|e
 ·exact h.2 ad had hn e
 ·have:=Nc h.1 had hn;omega
theorem Ll {t:TypeId}{sz n:Nat}{v:Value}{xs:List Value}{row:Option Nat}(h:w.ownsRow B t sz v n xs)(hg:w.grownBy X row)(hd:∀k,v.ownBlock=some k→¬row=some k):X.ownsRow B t sz v n xs:=
 B0 h fun k e=>((Aj.refl (fun k=>row=some k) w).grown hg (fun k e=> .inl e)).block k (h.lt k e).2 (hd k e)
theorem L3W.lts (h:L3W w B v1 v2 v3 fs ts os):∀k,Fr v1 v2 v3 k->B<=k/\k<w.heap.size:=by
 rintro k (e|e|e)
 ·exact h.o1.lt k e
 ·exact h.o2.lt k e
 ·exact h.o3.lt k e
theorem L3W.fresh {w':World}(h:L3W w B v1 v2 v3 fs ts os){q:Part}(hq:Ad w' q.1 q.2.1 q.2.2.1 q.2.2.2)(hf:∀ad,q.1=some ad->w.heap.size<=ad.block):Off (Fr v1 v2 v3) w' q:=
 ⟨hq,fun ad had _ e=>by have:=(h.lts _ e).2;have:=hf ad had;omega⟩
theorem L3W.old {w0:World}(h:L3W w B v1 v2 v3 fs ts os){q:Part}(hq:Ad w0 q.1 q.2.1 q.2.2.1 q.2.2.2)(hb:Below w0.heap.size w0 w)(hB:w0.heap.size<=B):Off (Fr v1 v2 v3) w q:=
 ⟨hq.below hb rr,fun ad had hn e=>by have h1:=(h.lts _ e).1;have h2:=Nc hq had hn;omega⟩
theorem L3W.first (h:L3W w B v1 v2 v3 fs ts os){q:Part}(hq:Off (Fr v1 v2 v3) w q)(hown:X.ownsRow B 32 1 v' (fs.length+1) (fs.map Part.val++[q.val]))(hg:w.grownBy X v1.ownBlock)(a2:v'.ownBlock=v1.ownBlock\/v'.ownBlock=some w.heap.size):L3W X B v' v2 v3 (fs++[q]) ts os:=by
 have a0:∀k,v'.ownBlock=some k->v1.ownBlock=some k\/k=w.heap.size:=fun k e=>by
  rcases a2 with e'|e'
  ·exact .inl (e'▸e)
  ·rw[e']at e;injection e with e;exact .inr e.symm
 have hR:∀k,Fr v' v2 v3 k->Fr v1 v2 v3 k\/k=w.heap.size:=by
  rintro k (e|e|e)
  ·exact(a0 k e).imp .inl id
  ·exact .inl (.inr (.inl e))
  ·exact .inl (.inr (.inr e))
 refine⟨?_,Ll h.o2 hg fun k e e'=>h.d12 k e' e,Ll h.o3 hg fun k e e'=>h.d13 k e' e,fun k e e'=> ?_,fun k e e'=> ?_,h.d23,fun p hp=> ?_,Nat.le_trans h.sz hg.size⟩
 ·rw[List.length_append,List.length_singleton,List.map_append];exact hown
 ·rcases a0 k e with e2|e2
  ·exact h.d12 k e2 e'
  ·have:=(h.o2.lt k e').2;omega
 ·rcases a0 k e with e2|e2
  ·exact h.d13 k e2 e'
  ·have:=(h.o3.lt k e').2;omega
 ·have a1:p∈Ti fs ts os\/p=q:=by
   simp only[Ti,List.mem_append,List.mem_singleton]at hp ⊢;rcases hp with((hp|hp)|hp)|hp
   ·exact .inl (.inl (.inl hp))
   ·exact .inr hp
   ·exact .inl (.inl (.inr hp))
   ·exact .inl (.inr hp)
  rcases a1 with a1|rfl
  ·exact(h.pw p a1).grown hg (fun k e=> .inl e) hR
  ·exact hq.grown hg (fun k e=> .inl e) hR
theorem L3W.off_first (h:L3W w B v1 v2 v3 fs ts os){r:Part}(hr:Off (Fr v1 v2 v3) w r)(hg:w.grownBy X v1.ownBlock)(a0:v'.ownBlock=v1.ownBlock\/v'.ownBlock=some w.heap.size):Off (Fr v' v2 v3) X r:=by
 refine hr.grown hg (fun k e=> .inl e) ?_;rintro k (e|e|e)
 ·rcases a0 with e'|e'
  ·exact .inl (.inl (e'▸e))
  ·rw[e']at e;injection e with e;exact .inr e.symm
 ·exact .inl (.inr (.inl e))
 ·exact .inl (.inr (.inr e))
theorem L3W.second (h:L3W w B v1 v2 v3 fs ts os){q:Part}(hq:Off (Fr v1 v2 v3) w q)(hown:X.ownsRow B 32 1 v' (ts.length+1) (ts.map Part.val++[q.val]))(hg:w.grownBy X v2.ownBlock)(a2:v'.ownBlock=v2.ownBlock\/v'.ownBlock=some w.heap.size):L3W X B v1 v' v3 fs (ts++[q]) os:=by
 have a0:∀k,v'.ownBlock=some k->v2.ownBlock=some k\/k=w.heap.size:=fun k e=>by
  rcases a2 with e'|e'
  ·exact .inl (e'▸e)
  ·rw[e']at e;injection e with e;exact .inr e.symm
 have hR:∀k,Fr v1 v' v3 k->Fr v1 v2 v3 k\/k=w.heap.size:=by
  rintro k (e|e|e)
  ·exact .inl (.inl e)
  ·exact(a0 k e).imp (fun e=> .inr (.inl e)) id
  ·exact .inl (.inr (.inr e))
 refine⟨Ll h.o1 hg fun k e e'=>h.d12 k e e', ?_,Ll h.o3 hg fun k e e'=>h.d23 k e' e,fun k e e'=> ?_,h.d13,fun k e e'=> ?_,fun p hp=> ?_,Nat.le_trans h.sz hg.size⟩
 ·rw[List.length_append,List.length_singleton,List.map_append];exact hown
 ·rcases a0 k e' with e2|e2
  ·exact h.d12 k e e2
  ·have:=(h.o1.lt k e).2;omega
 ·rcases a0 k e with e2|e2
  ·exact h.d23 k e2 e'
  ·have:=(h.o3.lt k e').2;omega
 ·have a1:p∈Ti fs ts os\/p=q:=by
   simp only[Ti,List.mem_append,List.mem_singleton]at hp ⊢;rcases hp with(hp|hp|hp)|hp
   ·exact .inl (.inl (.inl hp))
   ·exact .inl (.inl (.inr hp))
   ·exact .inr hp
   ·exact .inl (.inr hp)
  rcases a1 with a1|rfl
  ·exact(h.pw p a1).grown hg (fun k e=> .inr (.inl e)) hR
  ·exact hq.grown hg (fun k e=> .inr (.inl e)) hR
theorem L3W.third (h:L3W w B v1 v2 v3 fs ts os){s:Cf}(hp:Off (Fr v1 v2 v3) w s.p)(hq:Off (Fr v1 v2 v3) w s.q)(hown:X.ownsRow B 52 2 v' (os.length+1) (os.flatMap Cf.cells++s.cells))(hg:w.grownBy X v3.ownBlock)(a3:v'.ownBlock=v3.ownBlock\/v'.ownBlock=some w.heap.size):L3W X B v1 v2 v' fs ts (os++[s]):=by
 have a1:∀k,v'.ownBlock=some k->v3.ownBlock=some k\/k=w.heap.size:=fun k e=>by
  rcases a3 with e'|e'
  ·exact .inl (e'▸e)
  ·rw[e']at e;injection e with e;exact .inr e.symm
 have hR:∀k,Fr v1 v2 v' k->Fr v1 v2 v3 k\/k=w.heap.size:=by
  rintro k (e|e|e)
  ·exact .inl (.inl e)
  ·exact .inl (.inr (.inl e))
  ·exact(a1 k e).imp (fun e=> .inr (.inr e)) id
 refine⟨Ll h.o1 hg fun k e e'=>h.d13 k e e',Ll h.o2 hg fun k e e'=>h.d23 k e e', ?_,h.d12,fun k e e'=> ?_,fun k e e'=> ?_,fun p a0=> ?_,Nat.le_trans h.sz hg.size⟩
 ·rw[List.length_append,List.length_singleton,List.flatMap_append,List.flatMap_singleton];exact hown
 ·rcases a1 k e' with e2|e2
  ·exact h.d13 k e e2
  ·have:=(h.o1.lt k e).2;omega
 ·rcases a1 k e' with e2|e2
  ·exact h.d23 k e e2
  ·have:=(h.o2.lt k e).2;omega
 ·have a2:p∈Ti fs ts os\/p=s.p\/p=s.q:=by
   simp only[Ti,List.mem_append,List.flatMap_append,List.flatMap_singleton,List.mem_cons,List.not_mem_nil,or_false]at a0 ⊢;rcases a0 with a0|a0|a0
   ·exact .inl (.inl a0)
   ·exact .inl (.inr a0)
   ·exact .inr a0
  rcases a2 with a2|rfl|rfl
  ·exact(h.pw p a2).grown hg (fun k e=> .inr (.inr e)) hR
  ·exact hp.grown hg (fun k e=> .inr (.inr e)) hR
  ·exact hq.grown hg (fun k e=> .inr (.inr e)) hR
theorem L3W.w1 (h:L3W w B v1 v2 v3 fs ts os){p:Part}(hp:p∈fs):Off (Fr v1 v2 v3) w p:=h.pw p (List.mem_append_left _ (List.mem_append_left _ hp))
theorem L3W.w2 (h:L3W w B v1 v2 v3 fs ts os){p:Part}(hp:p∈ts):Off (Fr v1 v2 v3) w p:=h.pw p (List.mem_append_left _ (List.mem_append_right _ hp))
theorem L3W.pairs {A:Option Addr}{n c:Nat}(h:L3W w B v1 v2 (.slice A n c) fs ts os)(hn:n=os.length):D5 w A n c os:=by
 subst hn;exact⟨Gz.of_own h.o3 Cf.len (by decide),fun s hs=>⟨(h.pw _ (List.mem_append_right _ (List.mem_flatMap.2 ⟨s,hs,by simp⟩))).1,(h.pw _ (List.mem_append_right _ (List.mem_flatMap.2 ⟨s,hs,by simp⟩))).1⟩⟩
end
theorem Am1 {fs ts:List Part}{sn:List (List Snd×List Snd)}(h1:fs.map Part.word=sn.map (·.1))(h2:ts.map Part.word=sn.map (·.2)){j:Nat}{q:Part}(hq:ts[j]? =some q):∃p:Part,fs[j]? =some p/\sn[j]? =some (p.word,q.word):=by
 have e2:=congrArg (·[j]?) h2;have e1:=congrArg (·[j]?) h1;simp only[List.getElem?_map,hq,Option.map_some]at e2 e1
 cases hs:sn[j]? with
 |none=>rw[hs]at e2;cases e2
 |some s=>
  rw[hs]at e1 e2
  cases hf:fs[j]? with
  |none=>rw[hf]at e1;cases e1
  |some p=>
   rw[hf]at e1;simp only[Option.map_some,Option.some.injEq]at e1 e2;exact⟨p,rfl,by rw[e1,e2]⟩
theorem Agj (A:Option Addr)(n c:Nat)(xs:List Co)(As:Option Addr)(ns cs:Nat)(ss:List Snd)(kk:Int)(w:World)(hx:B4 w A n c xs)(hs:Ad w As ns cs ss)(hxu:Jj xs)(hsu:Bq ss):
  Calls Tryz.prog 49 #[.slice A n c, .slice As ns cs, .int .i64 kk] w (Abj w (Kl (Ah xs) ss kk)):=by
 have HX:=hI hx;have HS:=hI hs;have m1:=hI hxu;have k0:=hI hsu;clear hx hs hxu hsu;go_enter Tryz.func49,Tryz.ntmps49;go_wp2_with fail;refine(Pj A n c xs As ns cs ss kk w HX.out HS.out m1.out k0.out).mono ?_;rintro e w1 ⟨rfl,f2⟩;have d7:=f2.size;obtain⟨er,d0⟩:∃er,er=C3 (Ah xs) ss kk:=⟨_,rfl⟩;rw[←d0];by_cases h0:er=0
 case neg=>
  have h1:(er !=0)=true:=by simpa using h0
  have HM:Hid (Kl (Ah xs) ss kk=(er,[])):=by show _=_;unfold Kl;rw[←d0,if_pos h0]
  clear h0 d0;go_wp2
  go_ret2
  exact⟨none,0,0,[],(by rw[HM.out];try rfl),(by rw[HM.out];try rfl),⟨⟨Bd.nil _ _,rfl⟩,fun s hs=>by simp at hs⟩,f2⟩
 have h1:(er !=0)=false:=by simpa using h0
 obtain⟨k2,s5,s2⟩:=Pk (d0.symm.trans h0);have g3:=hI (M5 k2);have p5:ns<=5:=by rw[←HS.out.len];exact g3.out.1
 have HM:Hid (Kl (Ah xs) ss kk=(0,Ds (Cr (Ah xs) ss kk.toNat) [])):=by show _=_;unfold Kl;rw[←d0,if_neg (by simpa using h0)]
 obtain⟨q,rfl⟩:∃q:Nat,kk=q:=⟨kk.toNat,by omega⟩;rw[Int.toNat_natCast]at HM;have q5:q<=4:=by omega
 have q0:Hid ((Bp (Ba ss) q).length<=625):=by
  have h:=Nj (l:=Ba ss) (by rw[Fk g3.out.2];exact g3.out.1) q;have h2:5^q<=5^4:=Nat.pow_le_pow_right (by decide) q5;show _<=_;omega
 clear h0 d0 k2;go_wp2_with fail;refine(Mg As ns cs ss q w1 (HS.out.below f2 rr) g3.out.2 p5 (by omega)).mono ?_;rintro e w2 ⟨A9,n9,c9,ps,rfl,j9,i8,o8,o0,_,_,i6⟩;have m0:=hI (f2.trans (i6.mono d7));have j4:=m0.out.size;have h9:n9<=625:=by have:=q0.out;rw[←j9,List.length_map,i8]at this;exact this
 have o5:=hI j9;have k1:=hI o8;have r6:=hI o0;have q1:=hI i8;clear j9 o8 o0 i8 i6 f2 d7;obtain⟨sn,m4⟩:∃sn:Nat->List (List Snd×List Snd),sn=fun k=>Dl (Cu (Ah xs) ((Bp (Ba ss) q).take k)) []:=⟨_,rfl⟩
 obtain⟨lo,o4⟩:∃lo:Nat->List (List Snd×List Snd),lo=fun k=>Ds (Cu (Ah xs) ((Bp (Ba ss) q).take k)) []:=⟨_,rfl⟩
 have d6:=hI m4;have f5:=hI o4;clear m4 o4;go_wp2
 go_loopw [10,11,12,13,14,15,16] (fun v1 v2 v3 i _ _ _ wr=>∃(k:Nat) (fs ts:List Part) (os:List Cf),i= .int .i64 k/\k<=n9/\Hid (L3W wr w2.heap.size v1 v2 v3 fs ts os)/\Hid (fs.map Part.word=(sn k).map (·.1))/\Hid (ts.map Part.word=(sn k).map (·.2))/\Hid (os.map Cf.data=lo k)/\fs.length<=k/\Hid (ts.length=fs.length)/\os.length<=k/\Hid (∀p∈fs,p.2.1<=4)/\Below w2.heap.size w2 wr) (fun _ _ _ i _ _ _ _=>n9-(intOf i).toNat)
 case atStart=>exact⟨0,[],[],[],rfl,Nat.zero_le _,L3W.nil w2,(by rw[d6.out];try rfl),(by rw[d6.out];try rfl),(by rw[f5.out];try rfl),rr,rfl,rr,(fun p hp=>by simp at hp),Below.refl _ _⟩
 case round=>
  obtain⟨k,fs,ts,os,rfl,hk,b8,g1,f7,i0,s4,d8,s1,g4,hB⟩:=hrel;have r2:=hB.size;obtain⟨A1,c1,rfl⟩:=Bh b8.out.o1;obtain⟨A2,c2,rfl⟩:=Bh b8.out.o2;obtain⟨A3,c3,rfl⟩:=Bh b8.out.o3;have p0:Hid (Below w.heap.size w wr):=m0.out.trans (hB.mono j4);by_cases hlt:k<n9
  ·have p6:(k:Int)<(n9:Int):=by omega
   obtain⟨b,off,px,rfl,i9,i7,i2⟩:=Gw (k1.out.below hB rr) hlt;obtain⟨Ax,nx,cx,x⟩:=px
   replace i2:wr.cell? ⟨b,off+k,none⟩=some (.slice Ax nx cx):=i2
   have i1:(Bp (Ba ss) q)[k]? =some x:=by rw[←o5.out,List.getElem?_map,i7];rfl
   have k6:=hI i1;have g7:Hid (Ad w2 Ax nx cx x):=r6.out _ (List.mem_of_getElem? i7);have r5:Hid (Bq x):=Zr k0.out (List.mem_of_getElem? i1);have r3:nx<=4:=by rw[←g7.out.len];have:=((Eu _ _ _).1 (List.mem_of_getElem? i1)).1;omega
   clear i7 i1;go_wp2_with fail;refine(Me A n c xs Ax nx cx x wr (HX.out.below p0.out rr) (g7.out.below hB rr) m1.out r5.out).mono ?_;obtain⟨ea,j6⟩:∃ea,ea=Bm (Ah xs) x:=⟨_,rfl⟩;rw[←j6];have j1:=hI j6;clear j6;rintro e w3 ⟨A4,n4,c4,rfl,k9,f4,f3⟩;have g6:=hB.trans (f4.mono r2);have d4:=(f4.cell (p:=⟨b,off+k,none⟩) i9).trans i2;have b7:b<w3.heap.size:=Nat.lt_of_lt_of_le i9 f4.size;have f6:=hI (b8.out.below f4);have p2:Hid (Off (Fr (.slice A1 fs.length c1) (.slice A2 ts.length c2) (.slice A3 os.length c3)) w3 (A4,n4,c4,ea.2)):=b8.out.fresh (q:=(A4,n4,c4,ea.2)) k9 f3;clear b8 f4 i2 i9 f3 k9;by_cases h0:ea.1=0
   case neg=>
    have q9:(ea.1 !=0)=true:=by simpa using h0
    have HN:Hid (sn (k+1)=sn k/\lo (k+1)=lo k):=by
     have:=Pn k6.out (by rw[←j1.out];exact h0)
     show _/\_;rw[d6.out,f5.out];exact⟨by show Dl _ _=Dl _ _;rw[this],by show Ds _ _=Ds _ _;rw[this]⟩
    clear h0;go_wp2
    go_roundw
    case rel=>exact⟨k+1,fs,ts,os,by go_num,by omega,f6,by rw[HN.out.1];exact g1,by rw[HN.out.1];exact f7,by rw[HN.out.2];exact i0,by omega,d8,by omega,g4,g6⟩
    case measure=>simp[intOf];omega
   have q9:(ea.1 !=0)=false:=by simpa using h0
   have d5:Hid (Cu (Ah xs) ((Bp (Ba ss) q).take (k+1))=Cu (Ah xs) ((Bp (Ba ss) q).take k)++[(x,ea.2)]):=by
    show _=_;rw[Kr k6.out (by rw[←j1.out];exact h0),←j1.out]
   have a6:Hid (∀(j:Nat) (p:List Snd×List Snd),(sn k)[j]? =some p->p.2=ea.2->(∀y∈(sn k).take j,decide (y.2=ea.2)=false)->sn (k+1)=sn k/\lo (k+1)=lo k++[(p.1,x)]):=by
    intro j p hj hp hn;rw[d6.out]at hj hn ⊢;rw[f5.out];have j7:=Afd (f:=fun y:List Snd×List Snd=>decide (y.2=ea.2)) _ j p hj (by simpa using hp) hn
    have:=M6 (x:=(x,ea.2)) j7
    exact⟨by show Dl _ _=Dl _ _;rw[d5.out];exact this.2,by show Ds _ _=Ds _ _++_;rw[d5.out];exact this.1⟩
   have j8:Hid ((∀y∈(sn k).take (sn k).length,decide (y.2=ea.2)=false)->sn (k+1)=sn k++[(x,ea.2)]/\lo (k+1)=lo k):=by
    intro hn;rw[d6.out]at hn ⊢;rw[f5.out];have j7:=Aj6 (f:=fun y:List Snd×List Snd=>decide (y.2=ea.2)) hn
    have:=M7 (x:=(x,ea.2)) j7
    exact⟨by show Dl _ _=Dl _ _++_;rw[d5.out];exact this.2,by show Ds _ _=Ds _ _;rw[d5.out];exact this.1⟩
   have r0:Hid ((sn k).length=ts.length):=by
    show _=_
    have:=congrArg List.length f7.out;simpa using this.symm
   have a7:=g6.size;have q2:ts.length<=625:=by have:=d8.out;omega
   have s0:ts.length<=c2/\c2<=9223372036854775807:=by have h:=Bd.of_own f6.out.o2 (by decide);have h1:=h.2.1;have h2:=h.2.2.1;unfold maxLen at h2;omega
   have f8:=hI g6;clear h0 d5 g6;obtain⟨wo,s7⟩:∃wo:World,wo=w3:=⟨_,rfl⟩;go_wp2
   go_loopw [16] (fun vj wr=>∃j:Nat,vj= .int .i64 j/\j<=ts.length/\Hid (∀y∈(sn k).take j,decide (y.2=ea.2)=false)/\Below w3.heap.size w3 wr) (fun vj _=>ts.length-(intOf vj).toNat)
   case atStart=>exact⟨0,rfl,Nat.zero_le _,fun y hy=>by simp at hy,Below.refl _ _⟩
   case round=>
    obtain⟨j,rfl,hj,g5,a4⟩:=hrel;by_cases hjt:j<ts.length
    ·have p7:(j:Int)<(ts.length:Int):=by omega
     have f0:=hI (f6.out.below a4);obtain⟨b2,off2,⟨A7,n7,c7,y⟩,rfl,i6,hpt,j5⟩:=Gw (Bd.of_own f0.out.o2 (by decide)) hjt
     replace j5:wr.cell? ⟨b2,off2+j,none⟩=some (.slice A7 n7 c7):=j5
     obtain⟨⟨Af,nf,cf,xf⟩,b9,g2⟩:=Am1 g1.out f7.out hpt
     replace g2:(sn k)[j]? =some (xf,y):=g2
     have r1:Hid (Ad wr A7 n7 c7 y):=(f0.out.w2 (List.mem_of_getElem? hpt)).1;have m9:=hI g2;have q4:=hI b9;clear hpt g2 b9;go_wp2_with fail;refine(Gp A7 A4 n7 n4 c7 c4 y ea.2 wr r1.out (p2.out.1.below a4 rr)).mono ?_;rintro e w6 ⟨rfl,m6⟩;have d1:=a4.trans (m6.mono a4.size);clear m6 j5;by_cases he:y=ea.2
     case neg=>
      have r7:Hid (∀z∈(sn k).take (j+1),decide (z.2=ea.2)=false):=fun z hz=>by
       rw[Bb _ j _ m9.out]at hz;rcases List.mem_append.1 hz with hz|hz
       ·exact g5.out z hz
       ·rw[List.mem_singleton.1 hz];exact decide_eq_false he
      rw[decide_eq_false he];clear he;go_wp2
      go_roundw
      case rel=>exact⟨j+1,by go_num,by omega,r7,d1⟩
      case measure=>simp[intOf];omega
     have b5:=hI (a6.out j (xf,y) m9.out he g5.out);rw[decide_eq_true he];clear he g5;have a9:=hI (f6.out.below d1);have p8:j<fs.length:=by rw[←d8.out];exact hjt
     obtain⟨b1,off1,pf,k3,m2,b9,g0⟩:=Gw (Bd.of_own a9.out.o1 (by decide)) p8;obtain rfl:(Af,nf,cf,xf)=pf:=Option.some.inj (q4.out.symm.trans b9)
     replace g0:w6.cell? ⟨b1,off1+j,none⟩=some (.slice Af nf cf):=g0
     have s8:=hI k3;have d3:=(d1.cell (p:=⟨b,off+k,none⟩) b7).trans d4;have i3:b<w6.heap.size:=Nat.lt_of_lt_of_le b7 d1.size;have p4:Hid (Ad w6 Af nf cf xf):=(a9.out.w1 (List.mem_of_getElem? b9)).1;have s6:nf<=4:=g4.out _ (List.mem_of_getElem? b9);clear b9;subst k3;go_wp2;refine Bj (fun W'=>W'.cell? ⟨b1,off1+j,none⟩=some (.slice Af nf cf)/\W'.cell? ⟨b,off+k,none⟩=some (.slice Ax nx cx)) (by kernel_rfl) ⟨g0,d3⟩ (fun hHeld=> ?_)
     (refine' Aa 0 rfl ?_;(try simp only[Act.put,nY,nX]));(refine' Aa 1 rfl ?_;(try simp only[Act.put,nY,nX]));(refine' Aa 2 rfl ?_;(try simp only[Act.put,nY,nX]));(refine' Aa 3 rfl ?_;(try simp only[Act.put,nY,nX]));(refine' Aa 4 rfl ?_;(try simp only[Act.put,nY,nX]));(refine' Aa 6 rfl ?_;(try simp only[Act.put,nY,nX]));(refine' Aa 7 rfl ?_;(try simp only[Act.put,nY,nX]));(refine' Aa 8 rfl ?_;(try simp only[Act.put,nY,nX]));(refine' Aa 9 rfl ?_;(try simp only[Act.put,nY,nX]))
     clear g0 d3
     (refine Aqq 5 rfl (fun K' hK'=> ?_);simp only[nY];go_simp)
     refine(Ab0 Af nf cf xf _ (p4.out.below (B:=w6.heap.size) ((Below.refl w6.heap.size w6).drew) rr) (by omega)).mono ?_;rintro e X7 ⟨Ac,nc,cc,rfl,m7,m5,k7⟩;have b6:Below w6.heap.size w6 X7:=(Below.refl w6.heap.size w6).drew.trans m5;have j2:Below w3.heap.size w3 X7:=d1.trans (b6.mono d1.size);have d9:=And.intro ((b6.cell (p:=⟨b1,off1+j,none⟩) m2).trans hHeld.1) ((b6.cell (p:=⟨b,off+k,none⟩) i3).trans hHeld.2);have p1:Hid (Off (Fr (.slice (some ⟨b1,off1,none⟩) fs.length c1) (.slice (some ⟨b2,off2,none⟩) ts.length c2) (.slice A3 os.length c3)) X7 (Ac,nc,cc,xf)):=a9.out.fresh (q:=(Ac,nc,cc,xf)) m7 (fun ad had=>by simpa using k7 ad had);have a3:=hI (a9.out.below b6);refine hK' _ _ ⟨.inr d9,fun _=> ?_⟩
     clear hK' K' hHeld m7 m5 k7 a9 p4 m2
     (try simp only[Act.put,nY,nX])
     (refine Aqq 10 rfl (fun K' hK'=> ?_);simp only[nY];go_simp)
     refine hK' _ _ ⟨.inr d9,fun _=> ?_⟩
     clear hK' K'
     (try simp only[Act.put,nY,nX])
     (refine Aqq 11 rfl (fun K' hK'=> ?_);simp only[nY];go_simp)
     have a0:Below X7.heap.size X7 (X7.alloc (.cells #[.slice Ac nc cc, .slice Ax nx cx] 52)):=(Below.refl _ _).alloc rr _;have g9:=And.intro ((a0.cell (p:=⟨b1,off1+j,none⟩) (by show b1<X7.heap.size;have:=b6.size;have:=a3.out.o1.lt b1 rfl;omega)).trans d9.1) ((a0.cell (p:=⟨b,off+k,none⟩) (by show b<X7.heap.size;have:=b6.size;omega)).trans d9.2);have a1:=hI (a3.out.below a0);have o6:=hI (p1.out.below a0);have g8:Hid (Below w3.heap.size w3 (X7.alloc (.cells #[.slice Ac nc cc, .slice Ax nx cx] 52))):=j2.trans (a0.mono j2.size);have m3:Hid (Off (Fr (.slice (some ⟨b1,off1,none⟩) fs.length c1) (.slice (some ⟨b2,off2,none⟩) ts.length c2) (.slice A3 os.length c3)) (X7.alloc (.cells #[.slice Ac nc cc, .slice Ax nx cx] 52)) (Ax,nx,cx,x)):=a1.out.old (w0:=w2) (q:=(Ax,nx,cx,x)) g7.out (f8.out.trans (g8.out.mono a7)) rr;have m8:=Jh X7 [.slice Ac nc cc, .slice Ax nx cx] 52;refine hK' _ _ ⟨.inr g9,fun _=> ?_⟩
     clear hK' K' d9 a0 b6 a3 p1 j2
     (try simp only[Act.put,nY,nX])
     refine Aqq 12 rfl (fun K' hK'=> ?_);rw[if_pos (by rfl)]
     refine C1 (.tmp 63) (.tmp 74) 47 rfl w2.heap.size 52 (.agg #[.slice none 0 0, .slice none 0 0]) 2 48 Tryz.underlying47 Yd rfl (by decide) (.slice A3 os.length c3) os.length (os.flatMap Cf.cells) (by rfl) a1.out.o3 ⟨X7.heap.size,0,none⟩ 1 1 [.slice Ac nc cc, .slice Ax nx cx] (by rfl) rfl m8
      (by intro u hu;simp at hu;rcases hu with rfl|rfl<;>rfl) (by unfold maxLen;omega) (by omega) a1.out.sz ?_
     intro v9 X9 a8 d2 _ f1;have q8:=hI (a1.out.third (s:=⟨(Ac,nc,cc,xf),(Ax,nx,cx,x)⟩) o6.out m3.out a8 d2 f1);have r8:Below w2.heap.size w2 X9:=(f8.out.trans (g8.out.mono a7)).grown d2 (by have:=a1.out.sz;exact this) (fun q hq=>(a1.out.o3.lt q hq).1)
     have k8:X9.cell? ⟨b1,off1+j,none⟩=some (.slice Af nf cf)/\X9.cell? ⟨b,off+k,none⟩=some (.slice Ax nx cx):=by
      refine⟨(World.cell?_of_block (d2.block b1 (a1.out.o1.lt b1 rfl).2 (fun e=>a1.out.d13 b1 rfl e.symm))).trans g9.1,(World.cell?_of_block (d2.block b ?_ (fun e=> ?_))).trans g9.2⟩
      ·have:=g8.out.size;omega
      ·have h1:=(a1.out.o3.lt b e.symm).1;obtain⟨b',o',_,e',s3,_⟩:=Gw k1.out hlt;cases e';omega
     refine hK' _ _ ⟨.inr k8,fun _=> ?_⟩
     clear hK' K' a8 d2 f1 a1 o6 m3 g8 m8 g9
     (try simp only[Act.put,nY,nX])
     (refine Aqq 13 rfl (fun K' hK'=> ?_);simp only[nY];go_simp)
     refine hK' _ _ ⟨.inl (by kernel_rfl),fun _=>Be (by kernel_rfl) ?_ _⟩
     clear hK' K' k8
     have i4:Hid ((os++[(⟨(Ac,nc,cc,xf),(Ax,nx,cx,x)⟩:Cf)]).map Cf.data=lo (k+1)):=by
      show _=_;rw[b5.out.2,List.map_append,i0.out];rfl
     go_wp2
     go_roundw
     case rel=>exact⟨k+1,fs,ts,_,by go_num,by omega,q8,by rw[b5.out.1];exact g1,by rw[b5.out.1];exact f7,i4,by omega,d8,by simp;omega,g4,r8⟩
     case measure=>simp[intOf];omega
    ·obtain rfl:j=ts.length:=by omega
     have HN:=hI (j8.out (by rw[r0.out];exact g5.out));have f0:=hI (f6.out.below a4);have q7:=(a4.cell (p:=⟨b,off+k,none⟩) b7).trans d4;have a0:Below wr.heap.size wr (wr.alloc (.cells #[.slice Ax nx cx] 32)):=(Below.refl _ _).alloc rr _;have b3:=hI (f0.out.below a0);have i5:Hid (Below w3.heap.size w3 (wr.alloc (.cells #[.slice Ax nx cx] 32))):=a4.trans (a0.mono a4.size);have o7:Hid (Off (Fr (.slice A1 fs.length c1) (.slice A2 ts.length c2) (.slice A3 os.length c3)) (wr.alloc (.cells #[.slice Ax nx cx] 32)) (Ax,nx,cx,x)):=b3.out.old (w0:=w2) (q:=(Ax,nx,cx,x)) g7.out (f8.out.trans (i5.out.mono a7)) rr;have p3:=hI (p2.out.below (a4.trans (a0.mono a4.size)));clear a0 f0;go_wp2_with(at_builtin;go_loud (refine D9 rfl (.tmp 76) (.tmp 81) rfl _ _ _ _ rfl b3.out.o1 (some ⟨wr.heap.size,0,none⟩) 1 1 [(Ax,nx,cx,x)] rfl (Jd (Ak rfl)) (by omega) b3.out.sz ?h17))
     case h17=>
      intro v6 w6 b4 f9 a2
      replace a2:=a2.imp id (fun e=>e.trans (show some (wr.heap.size+1)=some (wr.alloc (.cells #[.slice Ax nx cx] 32)).heap.size by simp))
      have a9:=hI (b3.out.first o7.out b4 f9 a2);have o9:=hI (b3.out.off_first p3.out f9 a2);have j3:Hid (Below w2.heap.size w2 w6):=(f8.out.trans (i5.out.mono a7)).grown f9 b3.out.sz (fun q hq=>(b3.out.o1.lt q hq).1);clear b4 f9 a2 b3 o7 p3 i5;have a0:Below w6.heap.size w6 (w6.alloc (.cells #[.slice A4 n4 c4] 32)):=(Below.refl _ _).alloc rr _;have a3:=hI (a9.out.below a0);have k4:=hI (o9.out.below a0);have k5:Hid (Below w2.heap.size w2 (w6.alloc (.cells #[.slice A4 n4 c4] 32))):=j3.out.trans (a0.mono j3.out.size);clear a0 a9 o9 j3;go_wp2_with(at_builtin;go_loud (refine D9 rfl (.tmp 83) (.tmp 85) rfl _ _ _ _ rfl a3.out.o2 (some ⟨w6.heap.size,0,none⟩) 1 1 [(A4,n4,c4,ea.2)] rfl (Jd (Ak rfl)) (by omega) a3.out.sz ?h18))
      case h18=>
       intro v8 w8 b0 j0 a5
       replace a5:=a5.imp id (fun e=>e.trans (show some (w6.heap.size+1)=some (w6.alloc (.cells #[.slice A4 n4 c4] 32)).heap.size by simp))
       have a1:=hI (a3.out.second k4.out b0 j0 a5);have r9:Below w2.heap.size w2 w8:=k5.out.grown j0 a3.out.sz (fun q hq=>(a3.out.o2.lt q hq).1);clear b0 j0 a5 a3 k4 k5
       have r4:Hid ((fs++[(Ax,nx,cx,x)]).map Part.word=(sn (k+1)).map (·.1)):=by
        show _=_;rw[HN.out.1,List.map_append,List.map_append,g1.out];rfl
       have q3:Hid ((ts++[(A4,n4,c4,ea.2)]).map Part.word=(sn (k+1)).map (·.2)):=by
        show _=_;rw[HN.out.1,List.map_append,List.map_append,f7.out];rfl
       have q6:Hid ((ts++[(A4,n4,c4,ea.2)]).length=(fs++[(Ax,nx,cx,x)]).length):=by
        show _=_;rw[List.length_append,List.length_append,d8.out];rfl
       have p9:Hid (∀p∈fs++[((Ax,nx,cx,x):Part)],p.2.1<=4):=fun p hp=>by
        rcases List.mem_append.1 hp with hp|hp
        ·exact g4.out p hp
        ·rw[List.mem_singleton.1 hp];exact r3
       go_wp2
       go_roundw
       case rel=>exact⟨k+1,_,_,os,by go_num,by omega,a1,r4,q3,by rw[HN.out.2];exact i0,by simp;omega,q6,by omega,p9,r9⟩
       case measure=>simp[intOf];omega
  ·obtain rfl:k=n9:=by omega
   have a6:Hid (Kl (Ah xs) ss q=(0,os.map Cf.data)):=by
    have h:(Bp (Ba ss) q).length=k:=by rw[←o5.out,List.length_map,q1.out]
    show _=_;rw[HM.out,i0.out,f5.out];show _=(0,Ds (Cu _ ((Bp (Ba ss) q).take k)) []);rw[List.take_of_length_le (by rw[h];exact rr)];rfl
   go_wp2
   go_ret2
   exact⟨A3,_,c3,os,(by rw[a6.out];try rfl),(by rw[a6.out];try rfl),b8.out.pairs rfl,p0.out⟩
theorem D5.at2 {w:World}{A:Option Addr}{n c:Nat}{ss:List Cf}(h:D5 w A n c ss){k:Nat}{s:Cf}(hs:ss[k]? =some s):
  ∃b off,A=some ⟨b,off,none⟩/\b<w.heap.size/\w.cell? ⟨b,off+k*2,none⟩=some s.p.val/\w.cell? ⟨b,off+k*2+1,none⟩=some s.q.val:=by
 obtain⟨b,off,hA,hb,hc⟩:=h.1.at_ Cf.len (by decide) hs;exact⟨b,off,hA,hb,hc 0 _ rfl,hc 1 _ rfl⟩
theorem D5.max {w:World}{A:Option Addr}{n c:Nat}{ss:List Cf}(h:D5 w A n c ss):n<=c/\c<=9223372036854775807:=by
 have h1:=h.1.1.2.1;have h2:=h.1.1.2.2.1;unfold maxLen at h2;exact⟨h1,h2⟩
theorem Wp (A A':Option Addr)(n n' c c':Nat)(ss tt:List Cf)(w:World)(hx:D5 w A n c ss)(hy:D5 w A' n' c' tt)(he:ss.map Cf.data=tt.map Cf.data):
  Calls Tryz.prog 50 #[.slice A n c, .slice A' n' c'] w fun e w'=>e= .returned (.bool true)/\Below w.heap.size w w':=by
 have hm:=hx.max;have f7:=hy.max;have d7:ss.length=n:=hx.1.2;have d8:tt.length=n':=hy.1.2;obtain rfl:n=n':=by have h:=congrArg List.length he;simp only[List.length_map]at h;omega
 have HX:=hI hx;clear hx;have HY:=hI hy;clear hy;have HE:=hI he;clear he;have f5:=hI d7;clear d7;have f4:=hI d8;clear d8;go_enter Tryz.func50,Tryz.ntmps50;go_wp2
 go_loopw [5] (fun i wr=>∃k:Nat,k<=n/\i= .int .i64 k/\Below w.heap.size w wr) (fun i _=>n-(intOf i).toNat)
 case atStart=>exact⟨0,Nat.zero_le _,rfl,Below.refl _ _⟩
 case round=>
  obtain⟨k,hk,rfl,hB⟩:=hrel;have f3:=hB.size;by_cases hlt:k<n
  ·obtain⟨s,hs⟩:∃s,ss[k]? =some s:=⟨ss[k]'(by rw[f5.out];exact hlt),List.getElem?_eq_getElem _⟩;obtain⟨t,ht⟩:∃t,tt[k]? =some t:=⟨tt[k]'(by rw[f4.out];exact hlt),List.getElem?_eq_getElem _⟩
   have b8:s.data=t.data:=by
    have h:=congrArg (fun l=>l[k]?) HE.out;simp only[List.getElem?_map,hs,ht,Option.map_some]at h;exact Option.some.inj h
   obtain⟨b1,o1,rfl,d1,d6,d4⟩:=(HX.out.below hB rr).at2 hs;obtain⟨b2,o2,rfl,b9,f0,f2⟩:=(HY.out.below hB rr).at2 ht;obtain⟨b4,b6⟩:=(HX.out.below hB rr).2 _ (List.mem_of_getElem? hs);obtain⟨b7,b0⟩:=(HY.out.below hB rr).2 _ (List.mem_of_getElem? ht);clear hs ht;obtain⟨⟨Ap,np,cp,x⟩,⟨Aq,nq,cq,y⟩⟩:=s;obtain⟨⟨Ar,nr,cr,x'⟩,⟨As,ns,cs,y'⟩⟩:=t;obtain rfl:x=x':=congrArg Prod.fst b8;obtain rfl:y=y':=congrArg Prod.snd b8;clear b8;have d2:Hid (Ad wr Ap np cp x):=b4;have d3:Hid (Ad wr Aq nq cq y):=b6;have d5:Hid (Ad wr Ar nr cr x):=b7;have f1:Hid (Ad wr As ns cs y):=b0;have a4:wr.cell? ⟨b1,o1+k*2,none⟩=some (.slice Ap np cp):=d6;have a3:wr.cell? ⟨b1,o1+k*2+1,none⟩=some (.slice Aq nq cq):=d4;have a2:wr.cell? ⟨b2,o2+k*2,none⟩=some (.slice Ar nr cr):=f0;have a1:wr.cell? ⟨b2,o2+k*2+1,none⟩=some (.slice As ns cs):=f2;clear b4 b6 b7 b0 d6 d4 f0 f2;have f8:(k:Int)<(n:Int):=by omega
   go_wp2;refine Bj (fun W'=>W'.cell? ⟨b1,o1+k*2,none⟩=some (.slice Ap np cp)/\W'.cell? ⟨b1,o1+k*2+1,none⟩=some (.slice Aq nq cq)/\W'.cell? ⟨b2,o2+k*2,none⟩=some (.slice Ar nr cr)/\W'.cell? ⟨b2,o2+k*2+1,none⟩=some (.slice As ns cs)) (by kernel_rfl) ⟨a4,a3,a2,a1⟩ (fun hHeld=> ?_)
   (refine' Aa 0 rfl ?_;(try simp only[Act.put,nY,nX]));(refine' Aa 1 rfl ?_;(try simp only[Act.put,nY,nX]));(refine' Aa 2 rfl ?_;(try simp only[Act.put,nY,nX]));(refine' Aa 3 rfl ?_;(try simp only[Act.put,nY,nX]));(refine' Aa 4 rfl ?_;(try simp only[Act.put,nY,nX]));(refine' Aa 5 rfl ?_;(try simp only[Act.put,nY,nX]));(refine' Aa 6 rfl ?_;(try simp only[Act.put,nY,nX]));(refine' Aa 7 rfl ?_;(try simp only[Act.put,nY,nX]));(refine' Aa 8 rfl ?_;(try simp only[Act.put,nY,nX]));(refine' Aa 9 rfl ?_;(try simp only[Act.put,nY,nX]))
   (refine Aqq 10 rfl (fun K' hK'=> ?_);simp only[nY];go_simp)
   refine(Gp Ap Ar np nr cp cr x x _ (d2.out.below (B:=wr.heap.size) ((Below.refl wr.heap.size wr).drew) rr) (d5.out.below (B:=wr.heap.size) ((Below.refl wr.heap.size wr).drew) rr)).mono ?_;rintro e w7 ⟨rfl,b3⟩;have a0:Below wr.heap.size wr w7:=(Below.refl wr.heap.size wr).drew.trans b3
   have a5:w7.cell? ⟨b1,o1+k*2,none⟩=some (.slice Ap np cp)/\w7.cell? ⟨b1,o1+k*2+1,none⟩=some (.slice Aq nq cq)/\w7.cell? ⟨b2,o2+k*2,none⟩=some (.slice Ar nr cr)/\w7.cell? ⟨b2,o2+k*2+1,none⟩=some (.slice As ns cs):=
    ⟨(a0.cell (p:=⟨b1,_,none⟩) d1).trans a4,(a0.cell (p:=⟨b1,_,none⟩) d1).trans a3,(a0.cell (p:=⟨b2,_,none⟩) b9).trans a2,(a0.cell (p:=⟨b2,_,none⟩) b9).trans a1⟩
   rw[show decide (x=x)=true from decide_eq_true rfl];refine hK' _ _ ⟨.inr a5,fun _=> ?_⟩
   clear hK' K' b3 hHeld a4 a3 a2 a1;have a9:=hI (d3.out.below a0 rr);have a7:=hI (f1.out.below a0 rr);have d0:Below w.heap.size w w7:=hB.trans (a0.mono f3);have a8:b1<w7.heap.size:=Nat.lt_of_lt_of_le d1 a0.size;have b5:b2<w7.heap.size:=Nat.lt_of_lt_of_le b9 a0.size;clear d2 d5 d3 f1 a0
   (try simp only[Act.put,nY,nX])
   (refine' Aa 11 rfl ?_;(try simp only[Act.put,nY,nX]));(refine' Aa 12 rfl ?_;(try simp only[Act.put,nY,nX]));(refine' Aa 13 rfl ?_;(try simp only[Act.put,nY,nX]));(refine' Aa 14 rfl ?_;(try simp only[Act.put,nY,nX]));(refine' Aa 15 rfl ?_;(try simp only[Act.put,nY,nX]));(refine' Aa 16 rfl ?_;(try simp only[Act.put,nY,nX]));(refine' Aa 17 rfl ?_;(try simp only[Act.put,nY,nX]));(refine' Aa 18 rfl ?_;(try simp only[Act.put,nY,nX]));(refine' Aa 19 rfl ?_;(try simp only[Act.put,nY,nX]));(refine' Aa 20 rfl ?_;(try simp only[Act.put,nY,nX]));(refine' Aa 21 rfl ?_;(try simp only[Act.put,nY,nX]));(refine' Aa 22 rfl ?_;(try simp only[Act.put,nY,nX]))
   (refine Aqq 23 rfl (fun K' hK'=> ?_);simp only[nY];go_simp)
   refine(Gp Aq As nq ns cq cs y y w7 a9.out a7.out).mono ?_;rintro e w8 ⟨rfl,a6⟩;rw[show decide (y=y)=true from decide_eq_true rfl]
   have d9:w8.cell? ⟨b1,o1+k*2,none⟩=some (.slice Ap np cp)/\w8.cell? ⟨b1,o1+k*2+1,none⟩=some (.slice Aq nq cq)/\w8.cell? ⟨b2,o2+k*2,none⟩=some (.slice Ar nr cr)/\w8.cell? ⟨b2,o2+k*2+1,none⟩=some (.slice As ns cs):=
    ⟨(a6.cell (p:=⟨b1,_,none⟩) a8).trans a5.1,(a6.cell (p:=⟨b1,_,none⟩) a8).trans a5.2.1,(a6.cell (p:=⟨b2,_,none⟩) b5).trans a5.2.2.1,(a6.cell (p:=⟨b2,_,none⟩) b5).trans a5.2.2.2⟩
   refine hK' _ _ ⟨.inr d9,fun _=> ?_⟩
   clear hK' K' a5 a9 a7;have f6:Below w.heap.size w w8:=d0.trans (a6.mono d0.size);clear a6 d0
   (try simp only[Act.put,nY,nX])
   (refine' Aa 24 rfl ?_;(try simp only[Act.put,nY,nX]))
   (refine Aqq 25 rfl (fun K' hK'=> ?_);simp only[nY];go_simp)
   refine hK' _ _ ⟨.inl (by kernel_rfl),fun _=>Be (by kernel_rfl) ?_ _⟩
   clear hK' K' d9;go_wp2
   go_roundw
   case rel=>exact⟨k+1,by omega,by go_num,f6⟩
   case measure=>simp[intOf];omega
  ·obtain rfl:k=n:=by omega
   go_wp2;go_ret;exact⟨rfl,hB⟩
end Go.Proofs.YtlgliddhideflaaGreatDoor
