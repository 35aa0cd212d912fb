/-
  ablautref10: Check.
  ablautref10: Forms.
-/
import Derived.Test.YtlgliddhideflaaGreatDoorG27
set_option linter.all false
set_option maxRecDepth 100000
set_option maxHeartbeats 4000000
namespace Go.Proofs.YtlgliddhideflaaGreatDoor
open Go.RowKit Go.Shelf
def Jj (xs:List Co):Prop:=∀x∈xs,Lb x.l
theorem V6 (A:Option Addr)(n c:Nat)(xs:List Co)(w:World)(hx:B4 w A n c xs)(hu:Jj xs):
  Calls Tryz.prog 181 #[.slice A n c] w fun e w'=>e= .returned (.int .i64 (C5 (Ah xs)))/\Below w.heap.size w w':=by
 have hm:=hx.max;have HX:=hI hx;clear hx;have HU:=hI hu;clear hu;have a6:Hid ((Ah xs).length=n):=by show(Ah xs).length=n;rw[Ah,List.length_map];exact HX.out.len
 go_enter Tryz.func181,Tryz.ntmps181;by_cases h64:64<n
 ·have hr:C5 (Ah xs)=12:=by unfold C5;rw[if_pos (by rw[a6.out];exact h64)]
  have HR:=hI hr;clear hr;go_wp2;go_ret;exact⟨by rw[HR.out];rfl,Below.refl _ _⟩
 ·have hr:C5 (Ah xs)=if(Ah xs).any (fun l=>Ci l !=0)then 17 else 0:=by unfold C5;rw[if_neg (by rw[a6.out];exact h64)]
  have HR:=hI hr;clear hr;go_wp2_with fail
  go_loopw [3] (fun i wr=>∃k:Nat,k<=n/\i= .int .i64 k/\Hid ((xs.take k).any (fun x=>Ci x.l !=0)=false)/\Below w.heap.size w wr) (fun i _=>n-(intOf i).toNat)
  case atStart=>exact⟨0,Nat.zero_le _,rfl,rfl,Below.refl _ _⟩
  case round=>
   obtain⟨k,hk,rfl,a1,hB⟩:=hrel;have a9:=hB.size;by_cases hlt:k<n
   ·obtain⟨x,a2⟩:=HX.out.get hlt;obtain⟨b,off,rfl,b4,a8⟩:=(HX.out.below hB rr).at_ a2;have b0:(k:Int)<(n:Int):=by omega
    have a0:=List.mem_of_getElem? a2;have HS:=hI (Bb xs k x a2);have b3:=hI a8;clear a8;have b2:Hid (Cv wr x.l x.a):=(HX.out.below hB rr).2 x a0;have b1:Hid (Lb x.l):=HU.out x a0;have a3:=hI a0;clear a0 a2;go_wp2_with(refine Rw rfl (.tmp 15) rfl b (off+k*18) x rfl b3.out ?_);refine(Yn x.l x.a wr b2.out b1.out).mono ?_;rintro e w5 ⟨rfl,a4⟩;have a5:=hB.trans (a4.mono a9);clear a4;by_cases hv:Ci x.l=0
    ·have a7:(Ci x.l !=0)=false:=by simpa using hv
     have HG:Hid ((xs.take (k+1)).any (fun x=>Ci x.l !=0)=false):=by show _=_;rw[HS.out,List.any_append,a1.out];simp[hv]
     clear hv;go_wp2
     go_roundw
     case rel=>exact⟨k+1,by omega,by go_num,HG,a5⟩
     case measure=>simp[intOf];omega
    ·have a7:(Ci x.l !=0)=true:=by simpa using hv
     have hf:C5 (Ah xs)=17:=by
      rw[HR.out,if_pos];exact List.any_eq_true.2 ⟨x.l,List.mem_map.2 ⟨x,a3.out,rfl⟩,a7⟩
     have HF:=hI hf;clear hf hv;go_wp2;go_ret;exact⟨by rw[HF.out];rfl,a5⟩
   ·obtain rfl:k=n:=by omega
    have hf:C5 (Ah xs)=0:=by
     have:=a1.out
     rw[List.take_of_length_le (by rw[HX.out.len];exact rr)]at this;rw[HR.out,if_neg];rw[Ah,List.any_map];intro h;have h2:xs.any (fun x=>Ci x.l !=0)=true:=h;rw[this]at h2;cases h2
    have HF:=hI hf;clear hf;go_wp2;go_ret;exact⟨by rw[HF.out];rfl,hB⟩
end Go.Proofs.YtlgliddhideflaaGreatDoor
namespace Go.Proofs.YtlgliddhideflaaGreatDoor
open Go.RowKit Go.Shelf
attribute [local go_sem] Oper.semAt_some
theorem Alt {l:Bg}{ws:List Snd}{r:RS}(hw:Bq ws)(hn:Bq r.now):Bq (Dg l ws r).2.now∧∀x,(Dg l ws r).1=some x->Bq x.2:=by
 unfold Dg;split
 ·split
  ·have:Bq (r.now.take (r.at_+r.shift).toNat++Hc l ((ws.drop r.at_.toNat).take l.ifs.length)++ws.drop (r.at_.toNat+l.ifs.length)):=((hn.take _).append (Aj2 l _)).append (hw.drop _)
   exact⟨this,fun x hx=>by obtain rfl:=Option.some.inj hx;exact this⟩
  ·exact⟨hn,fun x hx=>by cases hx⟩
 ·split
  ·split
   ·exact⟨Hu hn,fun x hx=>by obtain rfl:=Option.some.inj hx;exact Hu hn⟩
   ·exact⟨hn,fun x hx=>by cases hx⟩
  ·split
   ·exact⟨Hu hn,fun x hx=>by obtain rfl:=Option.some.inj hx;exact Hu hn⟩
   ·exact⟨hn,fun x hx=>by cases hx⟩
theorem Adr {l:Bg}{ws:List Snd}(hw:Bq ws):∀(f:Nat) (r:RS),Bq r.now→∀x∈(Ep l ws f r).1,Bq x.2
 |0,_,_,x,h=>by simp[Ep]at h
 |f+1,r,hn,x,h=>by
  have hs:=Alt (l:=l) (r:=r) hw hn;rw[Ep]at h;split at h
  ·simp at h
  ·split at h
   ·rename_i r' he
    rw[he]at hs;exact Adr hw f _ hs.1 x h
   ·rename_i p now r' he
    rw[he]at hs;split at h
    ·simp at h
    ·simp only[List.mem_cons]at h;rcases h with rfl|h
     ·exact hs.2 _ rfl
     ·exact Adr hw f _ hs.1 x h
theorem Abo {l:Bg}{ws:List Snd}(hw:Bq ws):Bq (Bo l ws).2:=by
 unfold Bo;split
 ·intro s hs;simp at hs
 ·have hn:Bq (Ch l ws).now:=by unfold Ch;split<;>exact hw
  dsimp only;split
  ·rename_i x hx
   have h1:=List.mem_of_getLast? hx;unfold Cy at h1;split at h1
   ·simp at h1
   ·split at h1
    ·simp at h1
    ·exact Adr hw _ _ hn x h1
  ·exact hw
theorem Abp {ops:Array Oper}{S:World->Prop}{op:Oper}{ac:Act}(hw:Region.wanted op (yielded ops ac.tmps)=true)(x:Operand)(ho:op.op= .load 34 x)
  (b o:Nat) (s:Co) (hx:ac.eval x= .pointer (some ⟨b,o,none⟩)) (hS:∀w,S w->w.rangeAt b o s.cells):YieldsIf Tryz.prog ops S op (C8 s.l s.a) ac:=
 .inl ⟨hw,fun w hw'=>by
  unfold execOp;simp only[ho,hx,Instr.loadAt,Instr.sureAddr,Sem.run_bind,Sem.run_pure,Result.andThen_ok,Kz (hS w hw')]⟩
theorem Zo (ls:List Bg)(ws:List Snd):Hi ls [ws]=if C5 ls≠0 then C5 ls else Bs ws:=by
 unfold Hi Kv;split
 ·rfl
 ·rw[if_neg (by simp)];by_cases h:Bs ws=0
  ·rw[h];simp[h]
  ·simp[h]
def Ads (w:World)(r:Int×List (List Snd))(e:Ending)(w':World):Prop:=
 ∃A n c,∃ps:List Part,e= .returned (.tuple #[.slice A n c, .int .i64 r.1])/\ps.map Part.word=r.2/\Bd w' A n c 1 (ps.map Part.val)/\Ki w' ps/\(∀p∈ps,∀ad,p.1=some ad->w.heap.size<=ad.block)/\Below w.heap.size w w'
theorem Ads.plain {w:World}{r:Int×List (List Snd)}{e:Ending}{w':World}(h:Ads w r e w'):Pc w r e w':=by
 obtain⟨A,n,c,ps,h1,h2,h3,h4,_,h6⟩:=h;exact⟨A,n,c,h1,⟨ps,h2,h3,h4⟩,h6⟩
theorem Abq (A:Option Addr)(n c:Nat)(xs:List Co)(A':Option Addr)(n' c':Nat)(ws:List Snd)(w:World)(hx:B4 w A n c xs)(hw:Ad w A' n' c' ws)(hu:Jj xs)(hwu:Bq ws):
  Calls Tryz.prog 168 #[.slice A n c, .slice A' n' c'] w (Ads w (Es (Ah xs) ws)):=by
 have hm:=hx.max;have HX:=hI hx;clear hx;have HW:=hI hw;clear hw;have HU:=hI hu;clear hu;have g9:=hI hwu;clear hwu;have d8:Hid ((Ah xs).length=n):=by show(Ah xs).length=n;rw[Ah,List.length_map];exact HX.out.len
 go_enter Tryz.func168,Tryz.ntmps168;go_wp2_with fail;refine(V6 A n c xs w HX.out HU.out).mono ?_;rintro e w1 ⟨rfl,b5⟩;have b8:=b5.size;by_cases hE:C5 (Ah xs)=0
 case neg=>
  have hr:Es (Ah xs) ws=(C5 (Ah xs),[]):=by unfold Es;rw[Zo,if_pos hE,if_pos hE]
  have HR:=hI hr;clear hr;have f2:(C5 (Ah xs) !=0)=true:=by simpa using hE
  have f5:(C5 (Ah xs)==0)=false:=by simpa using hE
  clear hE;go_wp2
  go_ret2
  exact⟨none,0,0,[],by rw[HR.out];rfl,by rw[HR.out];rfl,Bd.nil _ _,fun p hp=>(by simp at hp),fun p hp=>(by simp at hp),b5⟩
 have k3:n<=64:=by rw[←d8.out];exact Af4 hE
 have f5:(C5 (Ah xs)==0)=true:=by simpa using hE
 have HE:=hI hE;clear hE;go_wp2_with fail;refine(Nl A' n' c' ws w1 (HW.out.below b5 rr) g9.out).mono ?_;rintro e w2 ⟨rfl,g4⟩;have a9:Below w.heap.size w w2:=b5.trans (g4.mono b8);clear g4;have a5:Hi (Ah xs) [ws]=Bs ws:=by rw[Zo,if_neg (by rw[HE.out];decide)]
 by_cases hC:Bs ws=0
 case neg=>
  have hr:Es (Ah xs) ws=(Bs ws,[]):=by unfold Es;rw[a5,if_pos hC]
  have HR:=hI hr;clear hr a5;have f2:(Bs ws !=0)=true:=by simpa using hC
  clear hC f5;go_wp2
  go_ret2
  exact⟨none,0,0,[],by rw[HR.out];rfl,by rw[HR.out];rfl,Bd.nil _ _,fun p hp=>(by simp at hp),fun p hp=>(by simp at hp),a9⟩
 have hr:Es (Ah xs) ws=if(Bu (Ah xs) ws).1≠0 then((Bu (Ah xs) ws).1,[])else(0,(Bu (Ah xs) ws).2):=by unfold Es;rw[a5,if_neg (by simpa using hC)]
 have HR:=hI hr;clear hr a5;have j5:n'<=32:=by rw[←HW.out.len];exact(E0.1 hC).1
 have f0:Hid (ws.length<=32):=(E0.1 hC).1;have f2:(Bs ws !=0)=false:=by simpa using hC
 clear hC f5;go_wp2_with fail;refine(Ab0 A' n' c' ws w2 (HW.out.below a9 rr) (by omega)).mono ?_;rintro e w3 ⟨A3,n3,c3,rfl,d4,i4,g3⟩;have d3:Below w.heap.size w w3:=a9.trans (i4.mono a9.size)
 have a0:Ff (w3.alloc (.cells #[.slice A3 n3 c3] 32)) w3.heap.size (.slice none 0 0) (.slice (some ⟨w3.heap.size,0,none⟩) 1 1) 0 [((A3,n3,c3,ws):Part)]:=by
  have a6:Below w3.heap.size w3 (w3.alloc (.cells #[.slice A3 n3 c3] 32)):=(Below.refl _ _).alloc rr _;refine⟨⟨[],World.ownsRow_nil _ _ _ _⟩,World.ownsRow_lit w3 #[.slice A3 n3 c3] 1 rr (by unfold maxLen;omega) rfl,fun k h=>(by cases h),fun p hp=> ?_,by simp⟩
  obtain rfl:p=(A3,n3,c3,ws):=by simpa using hp
  refine⟨⟨d4.below a6 rr,fun ad _ _ h=>(by cases h)⟩,d4.below a6 rr,fun ad had hn e=> ?_⟩
  have h1:=Nc (p:=(A3,n3,c3,ws)) d4 had hn;have h2:w3.heap.size=ad.block:=by simpa[Value.ownBlock]using e
  omega
 have j8:Below w.heap.size w (w3.alloc (.cells #[.slice A3 n3 c3] 32)):=d3.alloc d3.size _
 have k0:Hid (∀p∈[((A3,n3,c3,ws):Part)],∀ad,p.1=some ad->w.heap.size<=ad.block):=fun p hp ad had=>by
  obtain rfl:p=(A3,n3,c3,ws):=by simpa using hp
  exact Nat.le_trans a9.size (g3 ad had)
 have i6:=hI d3;clear d3;have i9:=hI a0;clear a0 d4 i4 g3 f2 b5 a9 b8;go_wp2_with fail
 go_loopw [7,8] (fun vw i wr=>∃(k:Nat) (ps:List Part) (x:List Snd),i= .int .i64 k/\k<=n/\ps.length=k+1/\Hid (Ff wr w3.heap.size (.slice none 0 0) vw 0 ps)/\Hid (ps.map Part.word=(Bu (Ah xs) ws).2.take (k+1))/\Hid (E9 (Ah xs) ws k x)∧
  Hid (Bq x)/\Hid (x.length<=32)/\Hid (∀p∈ps,∀ad,p.1=some ad->w.heap.size<=ad.block)/\Below w.heap.size w wr) (fun _ i _=>n-(intOf i).toNat)
 case atStart=>
  refine⟨0,_,ws,rfl,Nat.zero_le _,rfl,i9.out, ?_,E9.start _ _,g9.out,f0.out,k0.out,j8⟩;show _=_;obtain⟨r,hr⟩:=Hj (Ah xs) ws;rw[hr];rfl
 case round=>
  obtain⟨k,ps,x,rfl,hk,d6,a0,f9,d1,i2,d9,g8,hB⟩:=hrel;have j7:=hB.size;by_cases hlt:k<n
  ·obtain⟨s,d5⟩:=HX.out.get hlt;obtain⟨b,off,hA,j1,i1⟩:=(HX.out.below hB rr).at_ d5;subst hA;have i8:(k:Int)<(n:Int):=by omega
   have a8:=List.mem_of_getElem? d5;have j2:Hid (Cv wr s.l s.a):=(HX.out.below hB rr).2 s a8;have j3:Hid (Lb s.l):=HU.out s a8;have g5:Hid ((Ah xs)[k]? =some s.l):=by show(Ah xs)[k]? =some s.l;rw[Ah,List.getElem?_map,d5];rfl
   have i0:=hI i1;clear i1 a8 d5;obtain⟨A7,c7,rfl⟩:=Bh a0.out.ow;rw[d6]at a0;have b6:=a0.out.words d6.symm;obtain⟨b2,off2,A8,n8,c8,x',i7,g1,a2,g0,g6⟩:=b6.at_ (k:=k) (by omega)
   have j9:x'=x:=by
    have h1:=d1.out.get;rw[f9.out,List.getElem?_take,if_pos (by omega),h1]at g0;exact(Option.some.inj g0).symm
   subst j9;subst i7;have j6:=hI g6;clear g6 g0 b6;have j0:ps.length<=65:=by omega
   have k2:(k:Int)<(k:Int)+1:=by omega
   have k1:((k:Int)).toNat=k:=by omega
   go_wp2;refine Bj (fun W'=>W'.rangeAt b (off+k*18) s.cells/\W'.cell? ⟨b2,off2+k,none⟩=some (.slice A8 n8 c8)) (by kernel_rfl) ⟨i0.out,a2⟩ (fun hHeld=> ?_)
   (refine' Aa 0 rfl ?_;(try simp only[Act.put,nY,nX]));(refine' Aa 1 rfl ?_;(try simp only[Act.put,nY,nX]));(refine' Aa 2 rfl ?_;(try simp only[Act.put,nY,nX]))
   (refine' Ct (i:=3) (v:=C8 s.l s.a) rfl (by kernel_rfl) (by kernel_rfl) (by kernel_rfl) (by kernel_rfl) (fun _ _ _ h=>h) (Abp (by rfl) (.tmp 32) rfl b (off+k*18) s (by rfl) (fun _ h=>h.1)) (by assumption) ?_;(try simp only[Act.put,nY,nX]))
   (refine' Aa 4 rfl ?_;(try simp only[Act.put,nY,nX]));(refine' Aa 5 rfl ?_;(try simp only[Act.put,nY,nX]));(refine' Aa 6 rfl ?_;(try simp only[Act.put,nY,nX]));(refine' Aa 7 rfl ?_;(try simp only[Act.put,nY,nX]))
   (refine Aqq 8 rfl (fun K' hK'=> ?_);simp only[nY];go_simp)
   have hd:Below wr.heap.size wr wr.drew:=(Below.refl wr.heap.size wr).drew;refine(Yr s.l s.a A8 n8 c8 x' _ (j2.out.below hd rr) (j6.out.below hd rr) j3.out i2.out).mono ?_;rintro e w5 ⟨A5,n5,c5,rfl,i5,b1,f1⟩;have b0:Below wr.heap.size wr w5:=hd.trans b1;have d2:=hB.trans (b0.mono j7);have g7:w5.rangeAt b (off+k*18) s.cells/\w5.cell? ⟨b2,off2+k,none⟩=some (.slice A8 n8 c8):=⟨fun i v hv=>(b0.cell (p:=⟨b,_,none⟩) j1).trans (i0.out i v hv),(b0.cell (p:=⟨b2,off2+k,none⟩) g1).trans a2⟩
   have a1:Hid (Ff w5 w3.heap.size (.slice none 0 0) (.slice (some ⟨b2,off2,none⟩) (k+1) c7) 0 ps):=a0.out.below b0;have g2:=hI (a0.out.fresh (q:=(A5,n5,c5,(Bo s.l x').2)) i5 f1)
   have f6:Hid (∀p∈ps++[((A5,n5,c5,(Bo s.l x').2):Part)],∀ad,p.1=some ad->w.heap.size<=ad.block):=fun p hp ad had=>by
    rcases List.mem_append.1 hp with hp|hp
    ·exact g8.out p hp ad had
    ·obtain rfl:p=(A5,n5,c5,(Bo s.l x').2):=by simpa using hp
     exact Nat.le_trans hB.size (f1 ad had)
   clear hd b1 b0 i5 f1 a0;refine hK' _ _ ⟨.inr g7,fun _=> ?_⟩
   clear hK' K' hHeld a2
   (try simp only[Act.put,nY,nX])
   (refine' Aa 9 rfl ?_;(try simp only[Act.put,nY,nX]));(refine' Aa 10 rfl ?_;(try simp only[Act.put,nY,nX]));(refine' Aa 11 rfl ?_;(try simp only[Act.put,nY,nX]));(refine' Aa 12 rfl ?_;(try simp only[Act.put,nY,nX]))
   (refine Aqq 13 rfl (fun K' hK'=> ?_);simp only[nY];go_simp)
   refine hK' _ _ ⟨.inl (by kernel_rfl),fun _=>Be (by kernel_rfl) ?_ _⟩
   clear hK' K' g7;obtain⟨er,f3⟩:∃er,er=(Bo s.l x').1:=⟨_,rfl⟩;rw[←f3];have f7:=hI f3;clear f3;by_cases h0:er=0
   ·have h1:(er !=0)=false:=by simpa using h0
    have i3:(Bo s.l x').1=0:=by rw[←f7.out];exact h0
    have b3:Hid (E9 (Ah xs) ws (k+1) (Bo s.l x').2):=d1.out.step g5.out i3
    have f4:Hid ((ps++[((A5,n5,c5,(Bo s.l x').2):Part)]).map Part.word=(Bu (Ah xs) ws).2.take (k+1+1)):=by
     show _=_;rw[Bb _ _ _ b3.out.get,List.map_append,f9.out];rfl
    have f8:Hid (Bq (Bo s.l x').2):=Abo i2.out;have b4:Hid ((Bo s.l x').2.length<=32):=P0 d9.out;clear h0 i3;go_wp2_with(at_builtin;refine Jo rfl (.tmp 44) (.tmp 46) rfl w3.heap.size (.slice (some ⟨b2,off2,none⟩) (k+1) c7) ps.length (ps.map Part.val) rfl (a1.out.ow.alloc _) ⟨w5.heap.size,0,none⟩ 1 (.slice A5 n5 c5) rfl (cell_one_new _ _ _) rfl (by omega) ?hz2 ?hc2)
    case hz2=>have:=a1.out.sz;simp;omega
    case hc2=>
     intro v6 w6 a7 d7 b9;have d0:v6.ownBlock=(Value.slice (some ⟨b2,off2,none⟩) (k+1) c7).ownBlock\/v6.ownBlock=some (w5.alloc (.cells #[.slice A5 n5 c5] 32)).heap.size:=b9.imp id (fun e=>e.trans (by simp));have a6:Below w5.heap.size w5 (w5.alloc (.cells #[.slice A5 n5 c5] 32)):=(Below.refl _ _).alloc rr _;have h6:=((a1.out.below a6).pushW (q:=(A5,n5,c5,(Bo s.l x').2)) ⟨g2.out.1.below a6,g2.out.2.below a6⟩ (by rw[d6];exact a7) d7 d0).1;have H6:=hI h6;have b7:=(a1.out.below a6).lts.2;have j4:Below w.heap.size w w6:=(d2.trans (a6.mono d2.size)).grown d7 (by have:=d2.size;simp;omega) (fun j hj=>by have:=(b7 j hj).1;have:=i6.out.size;omega);clear h6 a7 d7 b9 d0 a6 b7 a1 g2;go_wp2
     go_roundw
     case rel=>exact⟨k+1,_,_,by go_num,by omega,(by rw[List.length_append,d6];rfl),H6,f4,b3,f8,b4,f6,j4⟩
     case measure=>simp[intOf]<;>omega
   ·have h1:(er !=0)=true:=by simpa using h0
    have hf:=d1.out.fail g5.out (by rw[←f7.out];exact h0);have a4:Es (Ah xs) ws=(er,[]):=by rw[HR.out,hf.1,←f7.out,if_pos h0]
    have a3:=hI a4;clear a4 hf h0;go_wp2
    go_ret2
    exact⟨none,0,0,[],by rw[a3.out];rfl,by rw[a3.out];rfl,Bd.nil _ _,fun p hp=>(by simp at hp),fun p hp=>(by simp at hp),d2⟩
  ·obtain rfl:k=n:=by omega
   have hf:(Bu (Ah xs) ws).1=0/\(Bu (Ah xs) ws).2.length=(Ah xs).length+1:=by
    refine E9.fin (x:=x) ?_;rw[d8.out];exact d1.out
   have a4:Es (Ah xs) ws=(0,ps.map Part.word):=by
    rw[HR.out,hf.1,if_neg (by simp),f9.out,List.take_of_length_le (by rw[hf.2,d8.out];exact rr)]
   have a3:=hI a4;clear a4 hf;obtain⟨A7,c7,rfl⟩:=Bh a0.out.ow;go_wp2
   go_ret2
   exact⟨A7,ps.length,c7,ps,by rw[a3.out];rfl,by rw[a3.out],Bd.of_own a0.out.ow (by decide),fun p hp=>(a0.out.pp p hp).1.1,g8.out,hB⟩
end Go.Proofs.YtlgliddhideflaaGreatDoor
