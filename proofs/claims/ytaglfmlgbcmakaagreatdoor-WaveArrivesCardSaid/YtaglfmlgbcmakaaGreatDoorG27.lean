/-
  ablautref08: right, left.
  ablautref08: left.
  ablautref08: all: what it keeps.
  ablautref08: all.
  ablautref08: Trace, Apply.
-/
import Derived.Test.YtaglfmlgbcmakaaGreatDoorG26
set_option linter.all false
set_option maxRecDepth 100000
set_option maxHeartbeats 4000000
namespace Go.Proofs.YtaglfmlgbcmakaaGreatDoor
open Go.RowKit Go.Shelf
structure Sz (w:World)(B:Nat)(vp vw:Value)(np:Nat)(ps:List Part):Prop where
 op:∃xs,w.ownsRow B 3 1 vp np xs
 ow:w.ownsRow B 28 1 vw ps.length (ps.map Part.val)
 ne:∀k,vp.ownBlock=some k→¬vw.ownBlock=some k
 pp:∀p∈ps,N3 vp w p/\N3 vw w p
 sz:B<=w.heap.size
theorem Sz.nil (w:World):Sz w w.heap.size (.slice none 0 0) (.slice none 0 0) 0 []:=
 ⟨⟨[],World.ownsRow_nil _ _ _ _⟩,World.ownsRow_nil _ _ _ _,fun k h=>(by cases h),fun p hp=>by simp at hp,rr⟩
theorem Sz.below {w w':World}{B np:Nat}{vp vw:Value}{ps:List Part}(h:Sz w B vp vw np ps)(hb:Below w.heap.size w w'):Sz w' B vp vw np ps:=by
 obtain⟨xs,ho⟩:=h.op;exact⟨⟨xs,Bc ho fun k e=>hb.block k (ho.lt k e).2⟩,Bc h.ow fun k e=>hb.block k (h.ow.lt k e).2,h.ne,fun p hp=>⟨(h.pp p hp).1.below hb,(h.pp p hp).2.below hb⟩,Nat.le_trans h.sz hb.size⟩
theorem Sz.lts {w:World}{B np:Nat}{vp vw:Value}{ps:List Part}(h:Sz w B vp vw np ps):(∀k,vp.ownBlock=some k->B<=k/\k<w.heap.size)∧∀k,vw.ownBlock=some k->B<=k/\k<w.heap.size:=by
 obtain⟨xs,ho⟩:=h.op;exact⟨fun k e=>ho.lt k e,fun k e=>h.ow.lt k e⟩
theorem Sz.words {w:World}{B np n c:Nat}{vp:Value}{A:Option Addr}{ps:List Part}(h:Sz w B vp (.slice A n c) np ps)(hn:n=ps.length):B3 w A n c (ps.map Part.word):=by
 subst hn;exact B3.mk (Am.of_own h.ow (by decide)) (fun p hp=>(h.pp p hp).1.1)
end Go.Proofs.YtaglfmlgbcmakaaGreatDoor
namespace Go.Proofs.YtaglfmlgbcmakaaGreatDoor
open Go.RowKit Go.Shelf
end Go.Proofs.YtaglfmlgbcmakaaGreatDoor
namespace Go.Proofs.YtaglfmlgbcmakaaGreatDoor
open Go.RowKit Go.Shelf
section at_
variable {P:Program}(w:World)
end at_
structure Ah4 (w:World)(B:Nat)(vp vw vo:Value)(np:Nat)(ps:List Part)(no:Nat)(out:List Snd):Prop where
 tr:Sz w B vp vw np ps
 oo:w.ownsRow B 49 2 vo no (Ce out)
 on:∀k,vo.ownBlock=some k→¬vp.ownBlock=some k∧¬vw.ownBlock=some k
 fr:∀p∈ps,N3 vo w p
theorem Ah4.nil (w:World):Ah4 w w.heap.size (.slice none 0 0) (.slice none 0 0) (.slice none 0 0) 0 [] 0 []:=
 ⟨Sz.nil w,World.ownsRow_nil _ _ _ _,fun k h=>(by cases h),fun p hp=>by simp at hp⟩
section al
variable {w w' X:World}{B np no:Nat}{vp vw vo vp' vw' vo':Value}{ps:List Part}{out out':List Snd}
theorem Ah4.below (h:Ah4 w B vp vw vo np ps no out)(hb:Below w.heap.size w w'):Ah4 w' B vp vw vo np ps no out:=
 ⟨h.tr.below hb,Bc h.oo fun k e=>hb.block k (h.oo.lt k e).2,h.on,fun p hp=>(h.fr p hp).below hb⟩
end al
def Fk (l:Bi)(ws:List Snd)(p:Nat)(out:List Snd)(done:List (Int×List Snd)):Prop:=
 (E0 l ws 80 (Cj l ws)=(done,false)/\ws.length<p+l.ifs.length)∨
 ∃nx sh,Es l ws ⟨p,nx,sh,out++ws.drop p⟩ done/\nx<=p/\(out.length:Int)=p+sh/\p+l.ifs.length<=ws.length
section allat
variable {l:Bi}{ws out:List Snd}{done:List (Int×List Snd)}{p:Nat}
theorem Ah5 (hm:l.mode=1)(p:Nat)(nx sh:Int)(now:List Snd):Fg l ws ⟨p,nx,sh,now⟩=decide (ws.length<p+l.ifs.length):=by
 unfold Fg;rw[if_pos hm];simp only;exact decide_eq_decide.2 (by omega)
theorem Fk.of (hm:l.mode=1){nx sh:Int}(h:Es l ws ⟨p,nx,sh,out++ws.drop p⟩ done)(hn:nx<=p)(ho:p+l.ifs.length<=ws.length->(out.length:Int)=p+sh):Fk l ws p out done:=by
 by_cases hf:ws.length<p+l.ifs.length
 ·exact .inl ⟨h.fin (by rw[Ah5 hm];simpa using hf),hf⟩
 ·exact .inr ⟨nx,sh,h,hn,ho (by omega),by omega⟩
theorem Fk.start (hm:l.mode=1)(hw:ws.length<=32):Fk l ws 0 [] []:=by
 have h:=Es.start l ws hw;have e:Cj l ws=⟨0,0,0,ws⟩:=by unfold Cj;rw[if_neg (by rw[hm];decide)]
 refine Fk.of hm (nx:=0) (sh:=0) ?_ (by omega) (fun _=>rfl);rw[e]at h;exact h
theorem Es.jump (hm:l.mode=1){nx sh:Int}{now:List Snd}:∀(d p:Nat),Es l ws ⟨p,nx,sh,now⟩ done->(p:Int)+d<=nx->(E0 l ws 80 (Cj l ws)=(done,false)/\ws.length<p+d+l.ifs.length)\/Es l ws ⟨(p+d:Nat),nx,sh,now⟩ done
 |0,p,h,_=> .inr h
 |d+1,p,h,hn=>by
  by_cases hf:ws.length<p+l.ifs.length
  ·exact .inl ⟨h.fin (by rw[Ah5 hm];simpa using hf),by omega⟩
  ·have hs:Es l ws ⟨(p+1:Nat),nx,sh,now⟩ done:=by
    refine h.skip (.inl hm) (by rw[Ah5 hm];simpa using hf) ?_;unfold Dy;rw[if_pos hm,show decide (nx<=(p:Int))=false by simp;omega,Bool.and_false,if_neg (by decide)];simp
   have:=Es.jump hm d (p+1) hs (by omega)
   rwa[show p+(d+1)=p+1+d by omega]
theorem Fk.skip (hm:l.mode=1)(h:Fk l ws p out done)(hh:F6 l ws p=false):Fk l ws (p+1) (out++(ws.drop p).take 1) done:=by
 rcases h with⟨h1,h2⟩|⟨nx,sh,h1,h2,h3,h4⟩
 ·exact .inl ⟨h1,by omega⟩
 ·have hs:Es l ws ⟨(p+1:Nat),nx,sh,out++ws.drop p⟩ done:=by
   refine h1.skip (.inl hm) (by rw[Ah5 hm];simpa using h4) ?_;unfold Dy;rw[if_pos hm,show F6 l ws ((⟨p,nx,sh,out++ws.drop p⟩:RS).at_.toNat)=false by rw[show(⟨p,nx,sh,out++ws.drop p⟩:RS).at_=p from rfl,Int.toNat_natCast,hh],Bool.false_and,if_neg (by decide)];simp
  refine Fk.of hm (nx:=nx) (sh:=sh) ?_ (by omega) (fun h5=> ?_)
  ·rw[List.append_assoc,show(ws.drop p).take 1++ws.drop (p+1)=ws.drop p by rw[←List.drop_drop];exact List.take_append_drop 1 _];exact hs
  ·rw[List.length_append,List.length_take,List.length_drop];omega
def S1 (l:Bi)(ws out:List Snd)(p:Nat):List Snd:=out++Kd l ((ws.drop p).take l.ifs.length)++ws.drop (p+l.ifs.length)
theorem Fk.hit_step (hm:l.mode=1)(h:Fk l ws p out done)(hh:F6 l ws p=true):∃nx sh,Es l ws ⟨p,nx,sh,out++ws.drop p⟩ done/\(out.length:Int)=p+sh/\Fg l ws ⟨p,nx,sh,out++ws.drop p⟩=false∧
  Dy l ws ⟨p,nx,sh,out++ws.drop p⟩=(some ((p:Int),S1 l ws out p),⟨(p:Int)+1,(p:Int)+max (l.ifs.length:Int) 1,sh+l.outs.length-l.ifs.length,S1 l ws out p⟩):=by
 have hf:=Ta hh;rcases h with⟨h1,h2⟩|⟨nx,sh,h1,h2,h3,h4⟩
 ·omega
 ·refine⟨nx,sh,h1,h3,by rw[Ah5 hm];simpa using h4, ?_⟩;unfold Dy
  have e:(out++ws.drop p).take ((p:Int)+sh).toNat=out:=by
   rw[←h3,Int.toNat_natCast];exact List.take_left
  simp only[if_pos hm,Int.toNat_natCast,hh,Bool.true_and,decide_eq_true h2,if_true,e];rfl
theorem Fk.long (hm:l.mode=1)(h:Fk l ws p out done)(hh:F6 l ws p=true)(hn:32<(S1 l ws out p).length):(E0 l ws 80 (Cj l ws)).2=true:=by
 obtain⟨nx,sh,h1,_,h2,h3⟩:=h.hit_step hm hh;exact h1.long (.inl hm) h2 h3 hn
theorem Fk.hit (hm:l.mode=1)(h:Fk l ws p out done)(hh:F6 l ws p=true)(hn:(S1 l ws out p).length<=32):
  Fk l ws (p+max l.ifs.length 1) (out++Kd l ((ws.drop p).take l.ifs.length)++if l.ifs.length=0 then(ws.drop p).take 1 else []) (done++[((p:Int),S1 l ws out p)]):=by
 obtain⟨nx,sh,h1,h5,h2,h3⟩:=h.hit_step hm hh;have hs:=h1.step (.inl hm) h2 h3 hn;have hf:=Ta hh;have a0:=Z0 l ((ws.drop p).take l.ifs.length);have hj:=Es.jump hm (max l.ifs.length 1-1) (p+1) (nx:=(p:Int)+max (l.ifs.length:Int) 1) (sh:=sh+l.outs.length-l.ifs.length) (now:=S1 l ws out p) (by simpa using hs) (by omega);rw[show p+1+(max l.ifs.length 1-1)=p+max l.ifs.length 1 by omega]at hj;rcases hj with⟨j1,j2⟩|hj
 ·exact .inl ⟨j1,by omega⟩
 ·refine Fk.of hm (nx:=(p:Int)+max (l.ifs.length:Int) 1) (sh:=sh+l.outs.length-l.ifs.length) ?_ (by omega) (fun h6=> ?_)
  ·by_cases hk:l.ifs.length=0
   ·rw[if_pos hk,List.append_assoc,show max l.ifs.length 1=1 by omega,show(ws.drop p).take 1++ws.drop (p+1)=ws.drop p by rw[←List.drop_drop];exact List.take_append_drop 1 _];rw[show max l.ifs.length 1=1 by omega]at hj;unfold S1 at hj ⊢;rw[show ws.drop (p+l.ifs.length)=ws.drop p by rw[hk];rfl]at hj ⊢;exact hj
   ·rw[if_neg hk,List.append_nil,show max l.ifs.length 1=l.ifs.length by omega];rw[show max l.ifs.length 1=l.ifs.length by omega]at hj;exact hj
  ·by_cases hk:l.ifs.length=0
   ·rw[if_pos hk,List.length_append,List.length_append,List.length_take,List.length_drop,a0];omega
   ·rw[if_neg hk,List.append_nil,List.length_append,a0];omega
theorem Fk.fin (h:Fk l ws p out done)(hp:ws.length<p):E0 l ws 80 (Cj l ws)=(done,false):=by
 rcases h with⟨h1,_⟩|⟨_,_,_,_,_,h4⟩
 ·exact h1
 ·omega
theorem Fk.done_len (h:Fk l ws p out done):done.length<=80:=by
 rcases h with⟨h1,_⟩|⟨_,_,h1,_⟩
 ·have:=Lf l ws 80 (Cj l ws)
  rw[h1]at this;exact this
 ·exact Proofs.YtaglfmlgbcmakaaGreatDoor.done_len h1
end allat
end Go.Proofs.YtaglfmlgbcmakaaGreatDoor
namespace Go.Proofs.YtaglfmlgbcmakaaGreatDoor
open Go.RowKit Go.Shelf
attribute [local go_sem] Oper.semAt_some
end Go.Proofs.YtaglfmlgbcmakaaGreatDoor
namespace Go.Proofs.YtaglfmlgbcmakaaGreatDoor
open Go.RowKit Go.Shelf
end Go.Proofs.YtaglfmlgbcmakaaGreatDoor
