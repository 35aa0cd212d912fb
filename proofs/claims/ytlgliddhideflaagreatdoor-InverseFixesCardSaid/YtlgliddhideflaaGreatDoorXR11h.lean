/-
  ablautref11.Fixed.
-/
import Derived.Test.YtlgliddhideflaaGreatDoorH11
set_option linter.all false
set_option maxRecDepth 100000
set_option maxHeartbeats 4000000
namespace Go.Proofs.YtlgliddhideflaaGreatDoor
open Go.RowKit Go.Shelf
theorem Abv {l:Bg}{ss:List Snd}(hl:C5 [l]=0)(hs:B1 ss=0){n:Nat}(hn:n<=32):
  ((Cr [l] ss n).filter fun p=>decide (p.1=p.2)).length=((Bp (Ba ss) n).filter fun v=>decide (Bo l v=(0,v))).length:=by
 rw[Aaz hl hs hn,Xz (Cg hs).2.2 n (fun v=>decide (Bo l v=(0,v)))]
theorem Ady (l:Bg)(a:Dn)(As:Option Addr)(ns cs:Nat)(ss:List Snd)(kk:Int)(w:World)(hx:Cv w l a)(hs:Ad w As ns cs ss)(hxu:Lb l)(hsu:Bq ss):
  Calls Tryz.prog 52 #[C8 l a, .slice As ns cs, .int .i64 kk] w fun e w'=>e= .returned (.tuple #[.int .i64 (Fg l ss kk).2, .int .i64 (Fg l ss kk).1])/\Below w.heap.size w w':=by
 have HX:=hI hx;have HS:=hI hs;have f6:=hI hxu;have d8:=hI hsu;clear hx hs hxu hsu;obtain⟨Wb,i9,d0,f8,b0,g7⟩:=De w l a;have HL:=hI (HX.out.below b0 rr);go_enter Tryz.func52,Tryz.ntmps52;go_wp2_with(first|(refine Cn rfl (.tmp 3) rfl w.heap.size l a rfl d0 ?_)|(refine Vp rfl (.tmp 14) rfl ⟨l,a⟩ rfl HL.out ?hk))
 case hk=>
  intro X f4 hb i5 _;clear i5;have hB:Below w.heap.size w X:=b0.trans (hb.mono b0.size);have d3:=(hb.block _ f8).trans d0;have i6:=hI d3;have HB:=hI hB;have g9:=hI f4;have j1:w.heap.size<X.heap.size:=lt_of_block d3;clear f4 hb hB d0 f8 b0 g7 i9 HL d3;go_wp2_with fail;refine(Pj _ 1 1 [⟨l,a⟩] As ns cs ss kk X g9.out (HS.out.below HB.out rr) (fun y hy=>by rw[List.mem_singleton.1 hy];exact f6.out) d8.out).mono ?_;rintro e w1 ⟨rfl,a9⟩;have a4:=a9.size;have d7:Ah [(⟨l,a⟩:Co)]=[l]:=rfl;rw[d7];obtain⟨er,a3⟩:∃er,er=C3 [l] ss kk:=⟨_,rfl⟩;rw[←a3];have a1:Hid (Below w.heap.size w w1):=HB.out.trans (a9.mono HB.out.size);by_cases h0:er=0
  case neg=>
   have h1:(er !=0)=true:=by simpa using h0
   have HM:Hid (Fg l ss kk=(er,0)):=by show _=_;unfold Fg;rw[←a3,if_pos h0]
   clear h0 a3 d7;go_wp2
   go_ret2
   exact⟨(by rw[HM.out];try rfl),a1.out⟩
  have h1:(er !=0)=false:=by simpa using h0
  obtain⟨a5,j7,j4⟩:=Pk (a3.symm.trans h0);have a7:=hI (M5 a5);have g6:ns<=5:=by rw[←HS.out.len];exact a7.out.1
  have HM:Hid (Fg l ss kk=((0:Int),((((Cr [l] ss kk.toNat).filter fun p=>decide (p.1=p.2)).length:Nat):Int))):=by show _=_;unfold Fg;rw[←a3,if_neg (by simpa using h0)]
  obtain⟨q,rfl⟩:∃q:Nat,kk=q:=⟨kk.toNat,by omega⟩;rw[Int.toNat_natCast]at HM;have i4:q<=4:=by omega
  have i7:Hid (Fg l ss q=((0:Int),((((Bp (Ba ss) q).filter fun v=>decide (Bo l v=(0,v))).length:Nat):Int))):=by
   show _=_;rw[HM.out,Abv (Dk a5).1 (Dk a5).2.2 (by omega)]
  have i2:Hid ((Bp (Ba ss) q).length<=625):=by
   have h:=Nj (l:=Ba ss) (by rw[Fk a7.out.2];exact a7.out.1) q;have h2:5^q<=5^4:=Nat.pow_le_pow_right (by decide) i4;show _<=_;omega
  clear h0 a3 a5 d7 HM;go_wp2_with fail;refine(Mg As ns cs ss q w1 (HS.out.below a1.out rr) a7.out.2 g6 (by omega)).mono ?_;rintro e w2 ⟨A9,n9,c9,ps,rfl,d5,b5,g4,g1,_,_,d9⟩;have f5:Hid (Below X.heap.size X w2):=a9.trans (d9.mono a4);have d2:=f5.out.size;have h9:n9<=625:=by have:=i2.out;rw[←d5,List.length_map,b5]at this;exact this
  have g2:=hI d5;have i1:=hI g4;have j3:=hI g1;have i3:=hI b5;clear d5 g4 g1 b5 d9 a9 a4 a1;go_wp2
  go_loopw [10,11,12,13] (fun v i _ _ wr=>∃(k m:Nat),i= .int .i64 k/\v= .int .i64 m/\m<=k/\k<=n9/\Hid (m=(((Bp (Ba ss) q).take k).filter fun v=>decide (Bo l v=(0,v))).length)/\Below w2.heap.size w2 wr) (fun _ i _ _ _=>n9-(intOf i).toNat)
  case atStart=>exact⟨0,0,rfl,rfl,rr,Nat.zero_le _,by simp[Hid],Below.refl _ _⟩
  case round=>
   obtain⟨k,m,rfl,rfl,j6,hk,a6,hB⟩:=hrel;have j0:=hB.size;have f7:Hid (Below X.heap.size X wr):=f5.out.trans (hB.mono d2);have g5:Hid (Below w.heap.size w wr):=HB.out.trans (f7.out.mono HB.out.size);by_cases hlt:k<n9
   ·have i0:(k:Int)<(n9:Int):=by omega
    obtain⟨b,off,px,rfl,f1,b3,b1⟩:=Gw (i1.out.below hB rr) hlt;obtain⟨Ax,nx,cx,x⟩:=px
    replace b1:wr.cell? ⟨b,off+k,none⟩=some (.slice Ax nx cx):=b1
    have d6:(Bp (Ba ss) q)[k]? =some x:=by rw[←g2.out,List.getElem?_map,b3];rfl
    have b4:=hI d6;have g0:Hid (Ad wr Ax nx cx x):=(j3.out _ (List.mem_of_getElem? b3)).below hB rr;have j2:Hid (Bq x):=Zr d8.out (List.mem_of_getElem? d6);have f0:=(f7.out.block _ j1).trans i6.out;clear b3 d6;go_wp2;refine Bj (fun W'=>W'.heap[w.heap.size]? =some (.cells (Bv l a) 34 (0,0))/\W'.cell? ⟨b,off+k,none⟩=some (.slice Ax nx cx)) (by kernel_rfl) ⟨f0,b1⟩ (fun hHeld=> ?_)
    (refine' Ct (i:=0) (v:=C8 l a) rfl (by kernel_rfl) (by kernel_rfl) (by kernel_rfl) (by kernel_rfl) (fun _ _ _ h=>h) (Ga (by rfl) (.tmp 3) rfl (w.heap.size) l a (by rfl) (fun w' hSw=>by(try dsimp only at hSw);first|exact hSw|exact hSw.1)) (by assumption) ?_;(try simp only[Act.put,nY,nX]))
    (refine' Aa 1 rfl ?_;(try simp only[Act.put,nY,nX]));(refine' Aa 2 rfl ?_;(try simp only[Act.put,nY,nX]));(refine' Aa 3 rfl ?_;(try simp only[Act.put,nY,nX]));(refine' Aa 4 rfl ?_;(try simp only[Act.put,nY,nX]))
    clear f0 b1
    (refine Aqq 5 rfl (fun K' hK'=> ?_);simp only[nY];go_simp)
    refine(Yr l a Ax nx cx x _ (HX.out.below (B:=w.heap.size) g5.out.drew rr) (g0.out.below (B:=wr.heap.size) ((Below.refl wr.heap.size wr).drew) rr) f6.out j2.out).mono ?_;obtain⟨ea,d4⟩:∃ea,ea=Bo l x:=⟨_,rfl⟩;rw[←d4];have b6:=hI d4;clear d4;rintro e w5 ⟨A5,n5,c5,rfl,g3,b2,_⟩;have a8:Below wr.heap.size wr w5:=(Below.refl wr.heap.size wr).drew.trans b2;have b8:Below w2.heap.size w2 w5:=hB.trans (a8.mono j0);have a0:=(b2.block _ (by simp;omega)).trans hHeld.1;have a2:=(a8.cell (p:=⟨b,off+k,none⟩) f1).trans hHeld.2;have f3:=hI g3;have b7:Hid (Ad w5 Ax nx cx x):=g0.out.below a8 rr;have g8:b<w5.heap.size:=Nat.lt_of_lt_of_le f1 a8.size;have j5:=f3.out.max;refine hK' _ _ ⟨.inr ⟨a0,a2⟩,fun _=> ?_⟩
    clear hK' K' g3 b2 hHeld
    (try simp only[Act.put,nY,nX])
    (refine Aqq 6 rfl (fun K' hK'=> ?_);simp only[nY];go_simp)
    refine hK' _ _ ⟨.inr ⟨a0,a2⟩,fun _=> ?_⟩
    clear hK' K'
    (try simp only[Act.put,nY,nX])
    have f2:=And.intro a0 a2
    (refine' Aa 7 rfl ?_;(try simp only[Act.put,nY,nX]));(refine' Aa 8 rfl ?_;(try simp only[Act.put,nY,nX]))
    (refine Aqq 9 rfl (fun K' hK'=> ?_);simp only[nY];go_simp)
    refine hK' _ _ ⟨.inr f2,fun _=> ?_⟩
    clear hK' K'
    (try simp only[Act.put,nY,nX])
    (refine Aqq 10 rfl (fun K' hK'=> ?_);simp only[nY];go_simp)
    refine hK' _ _ ⟨.inl (by kernel_rfl),fun _=>Be (by kernel_rfl) ?_ _⟩
    clear hK' K' f2 a0;by_cases h0:ea.1=0
    case neg=>
     have i8:(ea.1==0)=false:=by simpa using h0
     have HN:Hid (m=(((Bp (Ba ss) q).take (k+1)).filter fun v=>decide (Bo l v=(0,v))).length):=by
      show _=_;rw[Nk b4.out (decide_eq_false (by rw[←b6.out];exact fun e=>h0 (by rw[e])))];exact a6.out
     clear h0;go_wp2
     go_roundw
     case rel=>exact⟨k+1,m,by go_num,rfl,by omega,by omega,HN,b8⟩
     case measure=>simp[intOf];omega
    have i8:(ea.1==0)=true:=by simpa using h0
    go_wp2_with fail;refine(Gp A5 Ax n5 nx c5 cx ea.2 x w5 f3.out b7.out).mono ?_;rintro e w6 ⟨rfl,b9⟩;have f9:=b8.trans (b9.mono b8.size);by_cases he:ea.2=x
    ·have HN:Hid (m+1=(((Bp (Ba ss) q).take (k+1)).filter fun v=>decide (Bo l v=(0,v))).length):=by
      show _=_;rw[V8 b4.out (decide_eq_true (by rw[←b6.out];exact Prod.ext h0 he)),List.length_append,←a6.out];rfl
     rw[decide_eq_true he];clear he h0 b9;go_wp2
     go_roundw
     case rel=>exact⟨k+1,m+1,by go_num,by go_num,by omega,by omega,HN,f9⟩
     case measure=>simp[intOf];omega
    ·have HN:Hid (m=(((Bp (Ba ss) q).take (k+1)).filter fun v=>decide (Bo l v=(0,v))).length):=by
      show _=_;rw[Nk b4.out (decide_eq_false (by rw[←b6.out];exact fun e=>he (by rw[e])))];exact a6.out
     rw[decide_eq_false he];clear he h0 b9;go_wp2
     go_roundw
     case rel=>exact⟨k+1,m,by go_num,rfl,by omega,by omega,HN,f9⟩
     case measure=>simp[intOf];omega
   ·obtain rfl:k=n9:=by omega
    have d1:Hid (Fg l ss q=(0,(m:Int))):=by
     have h:(Bp (Ba ss) q).length=k:=by rw[←g2.out,List.length_map,i3.out]
     show _=_;rw[i7.out,a6.out,List.take_of_length_le (by rw[h];exact rr)]
    go_wp2
    go_ret2
    exact⟨(by rw[d1.out];try rfl),g5.out⟩
end Go.Proofs.YtlgliddhideflaaGreatDoor
