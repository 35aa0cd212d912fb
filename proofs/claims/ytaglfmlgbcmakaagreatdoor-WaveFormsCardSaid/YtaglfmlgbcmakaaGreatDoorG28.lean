/-
  ablautref10: Check.
  ablautref10: Forms.
-/
import Derived.Test.YtaglfmlgbcmakaaGreatDoorG27
set_option linter.all false
set_option maxRecDepth 100000
set_option maxHeartbeats 4000000
namespace Go.Proofs.YtaglfmlgbcmakaaGreatDoor
open Go.RowKit Go.Shelf
def Pm (xs:List Cb):Prop:=∀x∈xs,Ps x.l
theorem S9 (A:Option Addr)(n c:Nat)(xs:List Cb)(w:World)(hx:Cf w A n c xs)(hu:Pm xs):
  Calls Tryz.prog 83 #[.slice A n c] w fun e w'=>e= .returned (.int .i64 (C8 (Au xs)))/\Below w.heap.size w w':=by
 have hm:=hx.max;have HX:=hI hx;clear hx;have HU:=hI hu;clear hu;have a4:Hid ((Au xs).length=n):=by show(Au xs).length=n;rw[Au,List.length_map];exact HX.out.len
 go_enter Tryz.func83,Tryz.ntmps83;by_cases h64:64<n
 ·have hr:C8 (Au xs)=12:=by unfold C8;rw[if_pos (by rw[a4.out];exact h64)]
  have HR:=hI hr;clear hr;go_wp2;go_ret;exact⟨by rw[HR.out];rfl,Below.refl _ _⟩
 ·have hr:C8 (Au xs)=if(Au xs).any (fun l=>Cc l !=0)then 17 else 0:=by unfold C8;rw[if_neg (by rw[a4.out];exact h64)]
  have HR:=hI hr;clear hr;go_wp2_with fail
  go_loopw [3] (fun i wr=>∃k:Nat,k<=n/\i= .int .i64 k/\Hid ((xs.take k).any (fun x=>Cc x.l !=0)=false)/\Below w.heap.size w wr) (fun i _=>n-(intOf i).toNat)
  case atStart=>exact⟨0,Nat.zero_le _,rfl,rfl,Below.refl _ _⟩
  case round=>
   obtain⟨k,hk,rfl,a1,hB⟩:=hrel;have b2:=hB.size;by_cases hlt:k<n
   ·obtain⟨x,a2⟩:=HX.out.get hlt;obtain⟨b,off,rfl,b4,a6⟩:=(HX.out.below hB rr).at_ a2;have b1:(k:Int)<(n:Int):=by omega
    have a0:=List.mem_of_getElem? a2;have HS:=hI (Bd xs k x a2);have a9:=hI a6;clear a6;have b3:Hid (Df wr x.l x.a):=(HX.out.below hB rr).2 x a0;have b0:Hid (Ps x.l):=HU.out x a0;have a3:=hI a0;clear a0 a2;go_wp2_with(refine Qg rfl (.tmp 15) rfl b (off+k*18) x rfl a9.out ?_);refine(Vu x.l x.a wr b3.out b0.out).mono ?_;rintro e w5 ⟨rfl,a7⟩;have a8:=hB.trans (a7.mono b2);clear a7;by_cases hv:Cc x.l=0
    ·have a5:(Cc x.l !=0)=false:=by simpa using hv
     have HG:Hid ((xs.take (k+1)).any (fun x=>Cc x.l !=0)=false):=by show _=_;rw[HS.out,List.any_append,a1.out];simp[hv]
     clear hv;go_wp2
     go_roundw
     case rel=>exact⟨k+1,by omega,by go_num,HG,a8⟩
     case measure=>simp[intOf];omega
    ·have a5:(Cc x.l !=0)=true:=by simpa using hv
     have hf:C8 (Au xs)=17:=by
      rw[HR.out,if_pos];exact List.any_eq_true.2 ⟨x.l,List.mem_map.2 ⟨x,a3.out,rfl⟩,a5⟩
     have HF:=hI hf;clear hf hv;go_wp2;go_ret;exact⟨by rw[HF.out];rfl,a8⟩
   ·obtain rfl:k=n:=by omega
    have hf:C8 (Au xs)=0:=by
     have:=a1.out
     rw[List.take_of_length_le (by rw[HX.out.len];exact rr)]at this;rw[HR.out,if_neg];rw[Au,List.any_map];intro h;have h2:xs.any (fun x=>Cc x.l !=0)=true:=h;rw[this]at h2;cases h2
    have HF:=hI hf;clear hf;go_wp2;go_ret;exact⟨by rw[HF.out];rfl,hB⟩
end Go.Proofs.YtaglfmlgbcmakaaGreatDoor
namespace Go.Proofs.YtaglfmlgbcmakaaGreatDoor
open Go.RowKit Go.Shelf
attribute [local go_sem] Oper.semAt_some
theorem Akp {l:Bi}{ws:List Snd}{r:RS}(hw:Ck ws)(hn:Ck r.now):Ck (C6 l ws r).2.now∧∀x,(C6 l ws r).1=some x->Ck x.2:=by
 unfold C6;split
 ·split
  ·have:Ck (r.now.take (r.at_+r.shift).toNat++Hb l ((ws.drop r.at_.toNat).take l.ifs.length)++ws.drop (r.at_.toNat+l.ifs.length)):=((hn.take _).append (Aij l _)).append (hw.drop _)
   exact⟨this,fun x hx=>by obtain rfl:=Option.some.inj hx;exact this⟩
  ·exact⟨hn,fun x hx=>by cases hx⟩
 ·split
  ·split
   ·exact⟨Hp hn,fun x hx=>by obtain rfl:=Option.some.inj hx;exact Hp hn⟩
   ·exact⟨hn,fun x hx=>by cases hx⟩
  ·split
   ·exact⟨Hp hn,fun x hx=>by obtain rfl:=Option.some.inj hx;exact Hp hn⟩
   ·exact⟨hn,fun x hx=>by cases hx⟩
theorem Abo {l:Bi}{ws:List Snd}(hw:Ck ws):∀(f:Nat) (r:RS),Ck r.now→∀x∈(E0 l ws f r).1,Ck x.2
 |0,_,_,x,h=>by simp[E0]at h
 |f+1,r,hn,x,h=>by
  have hs:=Akp (l:=l) (r:=r) hw hn;rw[E0]at h;split at h
  ·simp at h
  ·split at h
   ·rename_i r' he
    rw[he]at hs;exact Abo hw f _ hs.1 x h
   ·rename_i p now r' he
    rw[he]at hs;split at h
    ·simp at h
    ·simp only[List.mem_cons]at h;rcases h with rfl|h
     ·exact hs.2 _ rfl
     ·exact Abo hw f _ hs.1 x h
theorem Ahv {l:Bi}{ws:List Snd}(hw:Ck ws):Ck (B3 l ws).2:=by
 unfold B3;split
 ·intro s hs;simp at hs
 ·have hn:Ck (Ca l ws).now:=by unfold Ca;split<;>exact hw
  dsimp only;split
  ·rename_i x hx
   have h1:=List.mem_of_getLast? hx;unfold Co at h1;split at h1
   ·simp at h1
   ·split at h1
    ·simp at h1
    ·exact Abo hw _ _ hn x h1
  ·exact hw
theorem Zh {ops:Array Oper}{S:World->Prop}{op:Oper}{ac:Act}(hw:Region.wanted op (yielded ops ac.tmps)=true)(x:Operand)(ho:op.op= .load 55 x)
  (b o:Nat) (s:Cb) (hx:ac.eval x= .pointer (some ⟨b,o,none⟩)) (hS:∀w,S w->w.rangeAt b o s.cells):YieldsIf Tryz.prog ops S op (Eg s.l s.a) ac:=
 .inl ⟨hw,fun w hw'=>by
  unfold execOp;simp only[ho,hx,Instr.loadAt,Instr.sureAddr,Sem.run_bind,Sem.run_pure,Result.andThen_ok,Kn (hS w hw')]⟩
theorem W8 (ls:List Bi)(ws:List Snd):Hf ls [ws]=if C8 ls≠0 then C8 ls else B4 ws:=by
 unfold Hf Lc;split
 ·rfl
 ·rw[if_neg (by simp)];by_cases h:B4 ws=0
  ·rw[h];simp[h]
  ·simp[h]
def Amb (w:World)(r:Int×List (List Snd))(e:Ending)(w':World):Prop:=
 ∃A n c,∃ps:List Part,e= .returned (.tuple #[.slice A n c, .int .i64 r.1])/\ps.map Part.word=r.2/\Az w' A n c 1 (ps.map Part.val)/\Hu w' ps/\(∀p∈ps,∀ad,p.1=some ad->w.heap.size<=ad.block)/\Below w.heap.size w w'
theorem Zi (A:Option Addr)(n c:Nat)(xs:List Cb)(A':Option Addr)(n' c':Nat)(ws:List Snd)(w:World)(hx:Cf w A n c xs)(hw:Ak w A' n' c' ws)(hu:Pm xs)(hwu:Ck ws):
  Calls Tryz.prog 125 #[.slice A n c, .slice A' n' c'] w (Amb w (E4 (Au xs) ws)):=by
 have hm:=hx.max;have HX:=hI hx;clear hx;have HW:=hI hw;clear hw;have HU:=hI hu;clear hu;have i0:=hI hwu;clear hwu;have f5:Hid ((Au xs).length=n):=by show(Au xs).length=n;rw[Au,List.length_map];exact HX.out.len
 go_enter Tryz.func125,Tryz.ntmps125;go_wp2_with fail;refine(S9 A n c xs w HX.out HU.out).mono ?_;rintro e w1 ⟨rfl,b0⟩;have b5:=b0.size;by_cases hE:C8 (Au xs)=0
 case neg=>
  have hr:E4 (Au xs) ws=(C8 (Au xs),[]):=by unfold E4;rw[W8,if_pos hE,if_pos hE]
  have HR:=hI hr;clear hr;have f0:(C8 (Au xs) !=0)=true:=by simpa using hE
  have f3:(C8 (Au xs)==0)=false:=by simpa using hE
  clear hE;go_wp2
  go_ret2
  exact⟨none,0,0,[],by rw[HR.out];rfl,by rw[HR.out];rfl,Az.nil _ _,fun p hp=>(by simp at hp),fun p hp=>(by simp at hp),b0⟩
 have k3:n<=64:=by rw[←f5.out];exact Qe hE
 have f3:(C8 (Au xs)==0)=true:=by simpa using hE
 have HE:=hI hE;clear hE;go_wp2_with fail;refine(Mx A' n' c' ws w1 (HW.out.below b0 rr) i0.out).mono ?_;rintro e w2 ⟨rfl,g6⟩;have a9:Below w.heap.size w w2:=b0.trans (g6.mono b5);clear g6;have a6:Hf (Au xs) [ws]=B4 ws:=by rw[W8,if_neg (by rw[HE.out];decide)]
 by_cases hC:B4 ws=0
 case neg=>
  have hr:E4 (Au xs) ws=(B4 ws,[]):=by unfold E4;rw[a6,if_pos hC]
  have HR:=hI hr;clear hr a6;have f0:(B4 ws !=0)=true:=by simpa using hC
  clear hC f3;go_wp2
  go_ret2
  exact⟨none,0,0,[],by rw[HR.out];rfl,by rw[HR.out];rfl,Az.nil _ _,fun p hp=>(by simp at hp),fun p hp=>(by simp at hp),a9⟩
 have hr:E4 (Au xs) ws=if(Bq (Au xs) ws).1≠0 then((Bq (Au xs) ws).1,[])else(0,(Bq (Au xs) ws).2):=by unfold E4;rw[a6,if_neg (by simpa using hC)]
 have HR:=hI hr;clear hr a6;have i7:n'<=32:=by rw[←HW.out.len];exact(Fa.1 hC).1
 have d8:Hid (ws.length<=32):=(Fa.1 hC).1;have f0:(B4 ws !=0)=false:=by simpa using hC
 clear hC f3;go_wp2_with fail;refine(Ah3 A' n' c' ws w2 (HW.out.below a9 rr) (by omega)).mono ?_;rintro e w3 ⟨A3,n3,c3,rfl,d5,g8,g5⟩;have d2:Below w.heap.size w w3:=a9.trans (g8.mono a9.size)
 have a0:Fk (w3.alloc (.cells #[.slice A3 n3 c3] 28)) w3.heap.size (.slice none 0 0) (.slice (some ⟨w3.heap.size,0,none⟩) 1 1) 0 [((A3,n3,c3,ws):Part)]:=by
  have a5:Below w3.heap.size w3 (w3.alloc (.cells #[.slice A3 n3 c3] 28)):=(Below.refl _ _).alloc rr _;refine⟨⟨[],World.ownsRow_nil _ _ _ _⟩,World.ownsRow_lit w3 #[.slice A3 n3 c3] 1 rr (by unfold maxLen;omega) rfl,fun k h=>(by cases h),fun p hp=> ?_,by simp⟩
  obtain rfl:p=(A3,n3,c3,ws):=by simpa using hp
  refine⟨⟨d5.below a5 rr,fun ad _ _ h=>(by cases h)⟩,d5.below a5 rr,fun ad had hn e=> ?_⟩
  have h1:=Wi (p:=(A3,n3,c3,ws)) d5 had hn;have h2:w3.heap.size=ad.block:=by simpa[Value.ownBlock]using e
  omega
 have i9:Below w.heap.size w (w3.alloc (.cells #[.slice A3 n3 c3] 28)):=d2.alloc d2.size _
 have k0:Hid (∀p∈[((A3,n3,c3,ws):Part)],∀ad,p.1=some ad->w.heap.size<=ad.block):=fun p hp ad had=>by
  obtain rfl:p=(A3,n3,c3,ws):=by simpa using hp
  exact Nat.le_trans a9.size (g5 ad had)
 have j5:=hI d2;clear d2;have j7:=hI a0;clear a0 d5 g8 g5 f0 b0 a9 b5;go_wp2_with fail
 go_loopw [7,8] (fun vw i wr=>∃(k:Nat) (ps:List Part) (x:List Snd),i= .int .i64 k/\k<=n/\ps.length=k+1/\Hid (Fk wr w3.heap.size (.slice none 0 0) vw 0 ps)/\Hid (ps.map Part.word=(Bq (Au xs) ws).2.take (k+1))/\Hid (Fg (Au xs) ws k x)∧
  Hid (Ck x)/\Hid (x.length<=32)/\Hid (∀p∈ps,∀ad,p.1=some ad->w.heap.size<=ad.block)/\Below w.heap.size w wr) (fun _ i _=>n-(intOf i).toNat)
 case atStart=>
  refine⟨0,_,ws,rfl,Nat.zero_le _,rfl,j7.out, ?_,Fg.start _ _,i0.out,d8.out,k0.out,i9⟩;show _=_;obtain⟨r,hr⟩:=Hh (Au xs) ws;rw[hr];rfl
 case round=>
  obtain⟨k,ps,x,rfl,hk,d4,a0,f7,d3,g3,g1,i4,hB⟩:=hrel;have j0:=hB.size;by_cases hlt:k<n
  ·obtain⟨s,d1⟩:=HX.out.get hlt;obtain⟨b,off,hA,j3,i5⟩:=(HX.out.below hB rr).at_ d1;subst hA;have j9:(k:Int)<(n:Int):=by omega
   have a8:=List.mem_of_getElem? d1;have j8:Hid (Df wr s.l s.a):=(HX.out.below hB rr).2 s a8;have i6:Hid (Ps s.l):=HU.out s a8;have i1:Hid ((Au xs)[k]? =some s.l):=by show(Au xs)[k]? =some s.l;rw[Au,List.getElem?_map,d1];rfl
   have i3:=hI i5;clear i5 a8 d1;obtain⟨A7,c7,rfl⟩:=Bh a0.out.ow;rw[d4]at a0;have b7:=a0.out.words d4.symm;obtain⟨b2,off2,A8,n8,c8,x',j4,d9,a3,d7,g9⟩:=b7.at_ (k:=k) (by omega)
   have i8:x'=x:=by
    have h1:=d3.out.get;rw[f7.out,List.getElem?_take,if_pos (by omega),h1]at d7;exact(Option.some.inj d7).symm
   subst i8;subst j4;have j6:=hI g9;clear g9 d7 b7;have j1:ps.length<=65:=by omega
   have k2:(k:Int)<(k:Int)+1:=by omega
   have k1:((k:Int)).toNat=k:=by omega
   go_wp2;refine Bg (fun W'=>W'.rangeAt b (off+k*18) s.cells/\W'.cell? ⟨b2,off2+k,none⟩=some (.slice A8 n8 c8)) (by kernel_rfl) ⟨i3.out,a3⟩ (fun hHeld=> ?_)
   (refine' Ae 0 rfl ?_;(try simp only[Act.put,nY,nX]));(refine' Ae 1 rfl ?_;(try simp only[Act.put,nY,nX]));(refine' Ae 2 rfl ?_;(try simp only[Act.put,nY,nX]))
   (refine' Ch (i:=3) (v:=Eg s.l s.a) rfl (by kernel_rfl) (by kernel_rfl) (by kernel_rfl) (by kernel_rfl) (fun _ _ _ h=>h) (Zh (by rfl) (.tmp 32) rfl b (off+k*18) s (by rfl) (fun _ h=>h.1)) (by assumption) ?_;(try simp only[Act.put,nY,nX]))
   (refine' Ae 4 rfl ?_;(try simp only[Act.put,nY,nX]));(refine' Ae 5 rfl ?_;(try simp only[Act.put,nY,nX]));(refine' Ae 6 rfl ?_;(try simp only[Act.put,nY,nX]));(refine' Ae 7 rfl ?_;(try simp only[Act.put,nY,nX]))
   (refine Anv 8 rfl (fun K' hK'=> ?_);simp only[nY];go_simp)
   have hd:Below wr.heap.size wr wr.drew:=(Below.refl wr.heap.size wr).drew;refine(Aes s.l s.a A8 n8 c8 x' _ (j8.out.below hd rr) (j6.out.below hd rr) i6.out g3.out).mono ?_;rintro e w5 ⟨A5,n5,c5,rfl,g7,b8,f2⟩;have d0:Below wr.heap.size wr w5:=hd.trans b8;have d6:=hB.trans (d0.mono j0);have g4:w5.rangeAt b (off+k*18) s.cells/\w5.cell? ⟨b2,off2+k,none⟩=some (.slice A8 n8 c8):=⟨fun i v hv=>(d0.cell (p:=⟨b,_,none⟩) j3).trans (i3.out i v hv),(d0.cell (p:=⟨b2,off2+k,none⟩) d9).trans a3⟩
   have a2:Hid (Fk w5 w3.heap.size (.slice none 0 0) (.slice (some ⟨b2,off2,none⟩) (k+1) c7) 0 ps):=a0.out.below d0;have g2:=hI (a0.out.fresh (q:=(A5,n5,c5,(B3 s.l x').2)) g7 f2)
   have f6:Hid (∀p∈ps++[((A5,n5,c5,(B3 s.l x').2):Part)],∀ad,p.1=some ad->w.heap.size<=ad.block):=fun p hp ad had=>by
    rcases List.mem_append.1 hp with hp|hp
    ·exact i4.out p hp ad had
    ·obtain rfl:p=(A5,n5,c5,(B3 s.l x').2):=by simpa using hp
     exact Nat.le_trans hB.size (f2 ad had)
   clear hd b8 d0 g7 f2 a0;refine hK' _ _ ⟨.inr g4,fun _=> ?_⟩
   clear hK' K' hHeld a3
   (try simp only[Act.put,nY,nX])
   (refine' Ae 9 rfl ?_;(try simp only[Act.put,nY,nX]));(refine' Ae 10 rfl ?_;(try simp only[Act.put,nY,nX]));(refine' Ae 11 rfl ?_;(try simp only[Act.put,nY,nX]));(refine' Ae 12 rfl ?_;(try simp only[Act.put,nY,nX]))
   (refine Anv 13 rfl (fun K' hK'=> ?_);simp only[nY];go_simp)
   refine hK' _ _ ⟨.inl (by kernel_rfl),fun _=>Bf (by kernel_rfl) ?_ _⟩
   clear hK' K' g4;obtain⟨er,f8⟩:∃er,er=(B3 s.l x').1:=⟨_,rfl⟩;rw[←f8];have f4:=hI f8;clear f8;by_cases h0:er=0
   ·have h1:(er !=0)=false:=by simpa using h0
    have i2:(B3 s.l x').1=0:=by rw[←f4.out];exact h0
    have b9:Hid (Fg (Au xs) ws (k+1) (B3 s.l x').2):=d3.out.step i1.out i2
    have f9:Hid ((ps++[((A5,n5,c5,(B3 s.l x').2):Part)]).map Part.word=(Bq (Au xs) ws).2.take (k+1+1)):=by
     show _=_;rw[Bd _ _ _ b9.out.get,List.map_append,f7.out];rfl
    have f1:Hid (Ck (B3 s.l x').2):=Ahv g3.out;have b1:Hid ((B3 s.l x').2.length<=32):=N7 g1.out;clear h0 i2;go_wp2_with(at_builtin;refine He rfl (.tmp 44) (.tmp 46) rfl w3.heap.size (.slice (some ⟨b2,off2,none⟩) (k+1) c7) ps.length (ps.map Part.val) rfl (a2.out.ow.alloc _) ⟨w5.heap.size,0,none⟩ 1 (.slice A5 n5 c5) rfl (cell_one_new _ _ _) rfl (by omega) ?hz2 ?hc2)
    case hz2=>have:=a2.out.sz;simp;omega
    case hc2=>
     intro v6 w6 a7 g0 b4;have b3:v6.ownBlock=(Value.slice (some ⟨b2,off2,none⟩) (k+1) c7).ownBlock\/v6.ownBlock=some (w5.alloc (.cells #[.slice A5 n5 c5] 28)).heap.size:=b4.imp id (fun e=>e.trans (by simp));have a5:Below w5.heap.size w5 (w5.alloc (.cells #[.slice A5 n5 c5] 28)):=(Below.refl _ _).alloc rr _;have h6:=((a2.out.below a5).pushW (q:=(A5,n5,c5,(B3 s.l x').2)) ⟨g2.out.1.below a5,g2.out.2.below a5⟩ (by rw[d4];exact a7) g0 b3).1;have H6:=hI h6;have b6:=(a2.out.below a5).lts.2;have j2:Below w.heap.size w w6:=(d6.trans (a5.mono d6.size)).grown g0 (by have:=d6.size;simp;omega) (fun j hj=>by have:=(b6 j hj).1;have:=j5.out.size;omega);clear h6 a7 g0 b4 b3 a5 b6 a2 g2;go_wp2
     go_roundw
     case rel=>exact⟨k+1,_,_,by go_num,by omega,(by rw[List.length_append,d4];rfl),H6,f9,b9,f1,b1,f6,j2⟩
     case measure=>simp[intOf]<;>omega
   ·have h1:(er !=0)=true:=by simpa using h0
    have hf:=d3.out.fail i1.out (by rw[←f4.out];exact h0);have a4:E4 (Au xs) ws=(er,[]):=by rw[HR.out,hf.1,←f4.out,if_pos h0]
    have a1:=hI a4;clear a4 hf h0;go_wp2
    go_ret2
    exact⟨none,0,0,[],by rw[a1.out];rfl,by rw[a1.out];rfl,Az.nil _ _,fun p hp=>(by simp at hp),fun p hp=>(by simp at hp),d6⟩
  ·obtain rfl:k=n:=by omega
   have hf:(Bq (Au xs) ws).1=0/\(Bq (Au xs) ws).2.length=(Au xs).length+1:=by
    refine Fg.fin (x:=x) ?_;rw[f5.out];exact d3.out
   have a4:E4 (Au xs) ws=(0,ps.map Part.word):=by
    rw[HR.out,hf.1,if_neg (by simp),f7.out,List.take_of_length_le (by rw[hf.2,f5.out];exact rr)]
   have a1:=hI a4;clear a4 hf;obtain⟨A7,c7,rfl⟩:=Bh a0.out.ow;go_wp2
   go_ret2
   exact⟨A7,ps.length,c7,ps,by rw[a1.out];rfl,by rw[a1.out],Az.of_own a0.out.ow (by decide),fun p hp=>(a0.out.pp p hp).1.1,i4.out,hB⟩
end Go.Proofs.YtaglfmlgbcmakaaGreatDoor
