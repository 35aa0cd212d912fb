/-
  Valid laws turn valid words into valid words, or fail as too long; forms of a list that is put together.
  What a list of laws makes of a word, part by part.
-/
import Derived.Test.YtlgliddhideflaaGreatDoorG14
set_option linter.all false
set_option maxRecDepth 100000
set_option maxHeartbeats 4000000
namespace Go.Proofs.YtlgliddhideflaaGreatDoor
open Go.RowKit Go.Shelf
def bv (a:Int):BitVec 32:=BitVec.ofInt 32 a
theorem Aaa (x:BitVec 32):IntKind.u32.wrap (x.toNat:Int)=(x.toNat:Int):=by
 have:=x.isLt
 simp[IntKind.wrap,IntKind.bits,IntKind.signed];omega
theorem Fi (v:BitVec 32):bv (v.toNat:Int)=v:=by
 unfold bv;rw[BitVec.ofInt_natCast,BitVec.ofNat_toNat,BitVec.setWidth_eq]
theorem Le (a b:Int):bits .and .u32 a b=((bv a &&& bv b).toNat:Int):=Aaa _
theorem Jl (a b:Int):bits .or .u32 a b=((bv a ||| bv b).toNat:Int):=Aaa _
theorem D0 (a b:Int):bits .andNot .u32 a b=((bv a &&& ~~~ bv b).toNat:Int):=Aaa _
theorem Aeq (s f set:Int):bv (E8 s f set)=(bv s &&& ~~~ bv set) ||| (bv f &&& bv set):=by
 unfold E8;rw[Jl,Fi,D0,Fi,Le,Fi]
theorem Rm (x:BitVec 32):x.toNat<=16777215↔∀i,24<=i->x.getLsbD i=false:=by
 constructor
 ·intro h i hi;rw[←BitVec.testBit_toNat];exact Nat.testBit_lt_two_pow (Nat.lt_of_lt_of_le (show x.toNat<2^24 by omega) (Nat.pow_le_pow_right (by decide) hi))
 ·intro h
  have:x.toNat<2^24:=Nat.lt_pow_two_of_testBit _ fun i hi=>by rw[BitVec.testBit_toNat];exact h i hi
  omega
theorem Ei (x:BitVec 32):(x.toNat:Int)=0↔∀i,x.getLsbD i=false:=by
 constructor
 ·intro h i
  have:x=0:=BitVec.eq_of_toNat_eq (by simpa using h)
  rw[this];simp
 ·intro h
  have:x=0:=BitVec.eq_of_getLsbD_eq fun i _=>by rw[h i];simp
  rw[this];simp
def OkB (p m:BitVec 32):Prop:=∀i,(p.getLsbD i && m.getLsbD i)=false/\(24<=i->p.getLsbD i=false/\m.getLsbD i=false)
theorem Di (p m:Int):Br p m=true↔OkB (bv p) (bv m):=by
 unfold Br;rw[Le,Jl,Bool.and_eq_true,beq_iff_eq,decide_eq_true_eq,Ei];rw[show(((bv p ||| bv m).toNat:Int)<=16777215)=((bv p ||| bv m).toNat<=16777215)from propext (by omega),Rm];simp only[BitVec.getLsbD_and,BitVec.getLsbD_or,Bool.or_eq_false_iff];exact⟨fun h i=>⟨h.1 i,h.2 i⟩,fun h=>⟨fun i=>(h i).1,fun i=>(h i).2⟩⟩
theorem Mk (p m:Int):Ck p m=true↔OkB (bv p) (bv m):=by
 rw[←Di];unfold Ck Br;rw[Jl,Bool.and_eq_true,Bool.and_eq_true,beq_iff_eq,beq_iff_eq,decide_eq_true_eq];constructor
 ·rintro⟨h1,h2⟩;exact⟨h1,by omega⟩
 ·rintro⟨h1,h2⟩;exact⟨h1,by omega⟩
theorem OkB.mix {s s' t t':Int}{set:Int}(h:OkB (bv s) (bv s'))(ht:OkB (bv t) (bv t'))(hs:∀i,24<=i->(bv set).getLsbD i=false):OkB (bv (E8 s t set)) (bv (E8 s' t' set)):=by
 intro i;obtain⟨h1,h2⟩:=h i;obtain⟨t1,t2⟩:=ht i;have hi:=hs i;rw[Aeq,Aeq];simp only[BitVec.getLsbD_or,BitVec.getLsbD_and,BitVec.getLsbD_not];refine⟨?_,fun hge=> ?_⟩
 ·revert h1 t1
  generalize(bv set).getLsbD i=x;generalize(bv s).getLsbD i=a;generalize(bv s').getLsbD i=b;generalize(bv t).getLsbD i=c;generalize(bv t').getLsbD i=d;generalize decide (i<32)=y
  revert x a b c d y
  decide
 ·obtain⟨a1,a2⟩:=h2 hge;obtain⟨b1,b2⟩:=t2 hge;simp[a1,a2,b1,b2]
theorem Akv:OkB (bv 0) (bv 0):=(Di 0 0).1 (by decide)
def OkS (s:Snd):Prop:=OkB (bv s.1) (bv s.2)
theorem OkS.low {s:Snd}(h:OkS s){i:Nat}(hi:24<=i):(bv s.1).getLsbD i=false/\(bv s.2).getLsbD i=false:=(h i).2 hi
theorem Wv {s t:Snd}{clear:Int}(hs:OkS s)(ht:OkS t)(hc:∀i,24<=i->(bv clear).getLsbD i=false):OkS (Dx s clear t):=by
 unfold Dx;split
 ·refine OkB.mix hs ht fun i hi=> ?_
  rw[Jl,Fi,Jl,Fi,BitVec.getLsbD_or,BitVec.getLsbD_or,hc i hi,(ht.low hi).1,(ht.low hi).2];rfl
 ·exact Akv
theorem Akw {s t:Snd}{mask:Int}(hs:OkS s)(ht:OkS t)(hc:∀i,24<=i->(bv mask).getLsbD i=false):OkS (Gq s t mask):=by
 unfold Gq;split
 ·exact OkB.mix hs ht hc
 ·exact Akv
theorem Ww {x:Fe}{k:Int}(h:Eb x k=true):OkS (x.sp,x.sm)/\(∀i,24<=i->(bv x.clear).getLsbD i=false)/\(∀i,24<=i->(bv x.take).getLsbD i=false):=by
 unfold Eb at h;split at h
 ·cases h
 ·rename_i h1
  split at h
  ·cases h
  ·rename_i h2
   simp only[Bool.or_eq_true,not_or,Bool.not_eq_true',Bool.not_eq_false]at h1;simp only[Bool.or_eq_true,not_or,bne_iff_ne,ne_eq,Decidable.not_not]at h2;have h3:=h2.1.1;rw[D0,Jl,Fi,Ei]at h3
   have a0:∀i,24<=i->((bv x.clear).getLsbD i||(bv x.take).getLsbD i)=false:=by
    intro i hi;have h4:=h3 i;rw[BitVec.getLsbD_and,BitVec.getLsbD_or,BitVec.getLsbD_not]at h4;by_cases hi2:i<32
    ·have h5:(bv 16777215).getLsbD i=false:=(Rm (bv 16777215)).1 (by decide) i hi;rw[h5]at h4;simpa[hi2]using h4
    ·rw[BitVec.getLsbD_of_ge _ _ (by omega),BitVec.getLsbD_of_ge _ _ (by omega)];rfl
   exact⟨(Di _ _).1 h1.2,fun i hi=>(Bool.or_eq_false_iff.1 (a0 i hi)).1,fun i hi=>(Bool.or_eq_false_iff.1 (a0 i hi)).2⟩
def OkW (ws:List Snd):Prop:=∀s∈ws,OkS s
theorem E0 {ws:List Snd}:Bs ws=0↔ws.length<=32/\OkW ws:=by
 unfold Bs OkW OkS;by_cases h:32<ws.length
 ·rw[if_pos h];exact⟨fun h'=>absurd h' (by decide),fun h'=>by omega⟩
 ·rw[if_neg h];by_cases h2:ws.all (fun s=>Ck s.1 s.2)=true
  ·rw[if_pos h2];exact⟨fun _=>⟨by omega,fun s hs=>(Mk _ _).1 (List.all_eq_true.1 h2 s hs)⟩,fun _=>rfl⟩
  ·rw[if_neg h2];exact⟨fun h'=>absurd h' (by decide),fun h'=>absurd (List.all_eq_true.2 fun s hs=>(Mk _ _).2 (h'.2 s hs)) h2⟩
theorem Acm {ws:List Snd}(h:OkW ws)(k:Nat):OkS (ws.getD k (0,0)):=by
 rw[List.getD_eq_getElem?_getD]
 cases hk:ws[k]? with
 |none=>exact Akv
 |some s=>exact h s (List.mem_of_getElem? hk)
theorem OkW.take {ws:List Snd}(h:OkW ws)(k:Nat):OkW (ws.take k):=fun s hs=>h s (List.mem_of_mem_take hs)
theorem OkW.drop {ws:List Snd}(h:OkW ws)(k:Nat):OkW (ws.drop k):=fun s hs=>h s (List.mem_of_mem_drop hs)
theorem OkW.append {a b:List Snd}(h:OkW a)(h':OkW b):OkW (a++b):=fun s hs=>(List.mem_append.1 hs).elim (h s) (h' s)
theorem Akx {l:Bg}(h:Ci l=0):∀x∈l.outs,Eb x l.ifs.length=true:=by
 unfold Ci at h;by_cases hb:Dp l=true
 ·rw[if_pos hb]at h;exact absurd h (by decide)
 ·unfold Dp at hb;simp only[Bool.or_eq_true,not_or]at hb;intro x hx
  have:=hb.2
  by_cases hf:Eb x l.ifs.length=true
  ·exact hf
  ·exact absurd (List.any_eq_true.2 ⟨x,hx,by simpa using hf⟩) this
theorem Amf {cut:List Snd}{x:Fe}{k:Int}(hc:OkW cut)(hx:Eb x k=true):OkS (Mc cut x):=by
 obtain⟨h1,h2,h3⟩:=Ww hx;unfold Mc
 have h0:OkS (if 0<=x.frm then cut.getD x.frm.toNat (0,0)else(0,0)):=by
  split
  ·exact Acm hc _
  ·exact Akv
 have hA:=Wv h0 h1 h2;dsimp only;split
 ·exact Akw hA (Acm hc _) h3
 ·exact hA
theorem Afk {l:Bg}{cut:List Snd}(hl:Ci l=0)(hc:OkW cut):OkW (Hc l cut):=by
 intro s hs;obtain⟨x,hx,rfl⟩:=List.mem_map.1 hs;exact Amf hc (Akx hl x hx)
theorem Gi {l:Bg}{ws:List Snd}{at_:Nat}(hl:Ci l=0)(hw:OkW ws):OkW (Bf l ws at_):=by
 unfold Bf;exact((hw.take _).append (Afk hl ((hw.drop _).take _))).append (hw.drop _)
theorem Aky {l:Bg}{ws:List Snd}{r:RS}(hl:Ci l=0)(hw:OkW ws)(hn:OkW r.now):OkW (Dg l ws r).2.now∧∀x,(Dg l ws r).1=some x->OkW x.2:=by
 unfold Dg;split
 ·split
  ·have:OkW (r.now.take (r.at_+r.shift).toNat++Hc l ((ws.drop r.at_.toNat).take l.ifs.length)++ws.drop (r.at_.toNat+l.ifs.length)):=((hn.take _).append (Afk hl ((hw.drop _).take _))).append (hw.drop _)
   exact⟨this,fun x hx=>by obtain rfl:=Option.some.inj hx;exact this⟩
  ·exact⟨hn,fun x hx=>by cases hx⟩
 ·split
  ·split
   ·exact⟨Gi hl hn,fun x hx=>by obtain rfl:=Option.some.inj hx;exact Gi hl hn⟩
   ·exact⟨hn,fun x hx=>by cases hx⟩
  ·split
   ·exact⟨Gi hl hn,fun x hx=>by obtain rfl:=Option.some.inj hx;exact Gi hl hn⟩
   ·exact⟨hn,fun x hx=>by cases hx⟩
theorem Aab {l:Bg}{ws:List Snd}(hl:Ci l=0)(hw:OkW ws):∀(f:Nat) (r:RS),OkW r.now→∀x∈(Ep l ws f r).1,OkW x.2
 |0,_,_,x,h=>by simp[Ep]at h
 |f+1,r,hn,x,h=>by
  have hs:=Aky (r:=r) hl hw hn;rw[Ep]at h;split at h
  ·simp at h
  ·split at h
   ·rename_i r' he
    rw[he]at hs;exact Aab hl hw f _ hs.1 x h
   ·rename_i p now r' he
    rw[he]at hs;split at h
    ·simp at h
    ·simp only[List.mem_cons]at h;rcases h with rfl|h
     ·exact hs.2 _ rfl
     ·exact Aab hl hw f _ hs.1 x h
theorem Ahp {l:Bg}{ws:List Snd}(hl:Ci l=0)(hw:Bs ws=0):(Bo l ws).1=11\/(Bo l ws).1=0/\Bs (Bo l ws).2=0:=by
 obtain⟨h1,h2⟩:=E0.1 hw;have hs:=P0 (l:=l) h1;have a0:Cc l ws=0:=by unfold Cc;rw[if_pos hl];exact hw
 have hn:OkW (Ch l ws).now:=by unfold Ch;split<;>exact h2
 by_cases hr:(Ep l ws 80 (Ch l ws)).2=true
 ·left;unfold Bo Cy;simp[a0,hr]
 ·right;have ht:Cy l ws=(0,(Ep l ws 80 (Ch l ws)).1):=by unfold Cy;simp[a0,hr]
  have ha:=Ly l ws (by rw[ht]);rw[ha];refine⟨rfl, ?_⟩;rw[ha]at hs;refine E0.2 ⟨hs, ?_⟩;dsimp only;rw[ht]
  cases e:((Ep l ws 80 (Ch l ws)).1.map (·.2)).getLast? with
  |none=>exact h2
  |some x=>
   obtain⟨y,hy,rfl⟩:=List.mem_map.1 (List.mem_of_getLast? e);exact Aab hl h2 _ _ hn y hy
theorem S8:∀(ls:List Bg) (ws:List Snd),(∀l∈ls,Ci l=0)->Bs ws=0->((Bu ls ws).1=0\/(Bu ls ws).1=11)∧∀x∈(Bu ls ws).2,Bs x=0
 |[],ws,_,hw=>⟨.inl rfl,fun x hx=>by
   obtain rfl:x=ws:=by simpa[Bu]using hx
   exact hw⟩
 |l::ls,ws,hl,hw=>by
  unfold Bu;rcases Ahp (hl l (by simp)) hw with h|⟨h,h'⟩
  ·rw[if_pos (by rw[h];decide)]
   exact⟨.inr h,fun x hx=>by
    obtain rfl:x=ws:=by simpa using hx
    exact hw⟩
  ·rw[if_neg (by rw[h];decide)];obtain⟨i1,i2⟩:=S8 ls _ (fun l hl'=>hl l (by simp[hl'])) h';refine⟨i1,fun x hx=> ?_⟩
   rcases List.mem_cons.1 hx with rfl|hx
   ·exact hw
   ·exact i2 x hx
theorem Y9 {ls:List Bg}(h:C5 ls=0):ls.length<=64∧∀l∈ls,Ci l=0:=by
 unfold C5 at h;split at h
 ·exact absurd h (by decide)
 ·split at h
  ·exact absurd h (by decide)
  ·rename_i h1 h2
   refine⟨by omega,fun l hl=> ?_⟩
   by_cases h3:Ci l=0
   ·exact h3
   ·exact absurd (List.any_eq_true.2 ⟨l,hl,by simpa using h3⟩) h2
def Rh:List Bg->List Snd->Int×List Snd
 |[],ws=>(0,ws)
 |l::ls,ws=>if(Bo l ws).1≠0 then((Bo l ws).1,[])else Rh ls (Bo l ws).2
theorem Yy:∀(ls:List Bg) (ws:List Snd),(Bu ls ws).1=(Rh ls ws).1/\((Rh ls ws).1=0->(Bu ls ws).2.getLast? =some (Rh ls ws).2)
 |[],ws=>⟨rfl,fun _=>rfl⟩
 |l::ls,ws=>by
  unfold Bu Rh;by_cases h:(Bo l ws).1=0
  ·rw[if_neg (by simpa using h),if_neg (by simpa using h)];obtain⟨h1,h2⟩:=Yy ls (Bo l ws).2;refine⟨h1,fun h3=> ?_⟩
   dsimp only;rw[List.getLast?_cons,h2 h3];rfl
  ·rw[if_pos h,if_pos h];exact⟨rfl,fun h'=>absurd h' h⟩
theorem Ahh {l:Bg}{ls:List Bg}{ws:List Snd}(h:(Bo l ws).1=0):Rh (l::ls) ws=Rh ls (Bo l ws).2:=by
 rw[Rh,if_neg (by simpa using h)]
theorem Akj {l:Bg}{ls:List Bg}{ws:List Snd}(h:¬(Bo l ws).1=0):Rh (l::ls) ws=((Bo l ws).1,[]):=by
 rw[Rh,if_pos h]
theorem Akk {ls:List Bg}{ws:List Snd}(h:C5 ls=0)(hw:Bs ws=0):Hi ls [ws]=0:=by
 unfold Hi Kv;simp[h,hw]
theorem Ahi {ls:List Bg}{ws:List Snd}(h:C5 ls=0)(hw:Bs ws=0):Bm ls ws=if(Rh ls ws).1≠0 then(11,[])else(0,(Rh ls ws).2):=by
 unfold Bm;obtain⟨h3,h4⟩:=Yy ls ws;rw[if_neg (by simpa using Akk h hw),h3];by_cases h0:(Rh ls ws).1=0
 ·rw[if_neg (by simpa using h0),if_neg (by simpa using h0),h4 h0];rfl
 ·rw[if_pos h0,if_pos h0]
end Go.Proofs.YtlgliddhideflaaGreatDoor
