/-
  Package wave, where there is no map: each call is refused.
  Package wave, over a map or none.
  ablautref36: valid, has, Len, Dist.
  The document's distances (chapter 36), in plain words: ways over one point more, written over in place.
  The document's distances, under way in memory (ablautref36.New).
  ablautref38: one.
  What the loops of the document's chapter 38 come to, in plain words.
  ablautref38: arrival, Arrive.
-/
import Derived.Test.YtaglfmlgbcmakaaGreatDoorH06
set_option linter.all false
set_option maxRecDepth 100000
set_option maxHeartbeats 4000000
namespace Go.Proofs.YtaglfmlgbcmakaaGreatDoor
open Go.RowKit Go.Shelf
section
variable (Ax:Option Addr)(nx cx:Nat)(A:Option Addr)(m c:Nat)(w:World)
theorem Ls:Calls Tryz.prog 37 #[.pointer none, .slice Ax nx cx, .slice A m c] w fun e w'=>e= .returned (.int .i64 1)/\Below w.heap.size w w':=by
 go_enter Tryz.func37,Tryz.ntmps37;go_wp2_with fail;refine(Acy w).mono ?_;rintro e w1 ⟨rfl,a0⟩;go_wp2;go_ret;exact⟨rfl,a0⟩
theorem Afd (x:Bu):Calls Tryz.prog 20 #[.pointer none,M8 x] w (C6 w (1,[])):=by
 obtain⟨⟨law,ps,T,S,fin⟩,Aw,nw,cw⟩:=x;go_enter Tryz.func20,Tryz.ntmps20;have kB:Below w.heap.size w (w.alloc (.cells #[.int .i64 law, .slice Aw nw cw, .int .i64 T, .int .i64 S, .int .i64 fin] 38)):=bel;go_wp2_with fail;refine(Acy _).mono ?_;rintro e w1 ⟨rfl,a0⟩;have HB:=hI (kB.trans (a0.mono kB.size));clear kB a0;go_wp2
 go_ret2
 exact C6.bad rfl HB.out
theorem Afe (k:Int):Calls Tryz.prog 41 #[.pointer none, .slice Ax nx cx, .slice A m c, .int .i64 k] w (C6 w (1,[])):=by
 go_enter Tryz.func41,Tryz.ntmps41;go_wp2_with fail;refine(Ls Ax nx cx A m c w).mono ?_;rintro e w1 ⟨rfl,a0⟩;go_wp2
 go_ret2
 exact C6.bad rfl a0
theorem Ai8 (k now:Int):Calls Tryz.prog 29 #[.pointer none, .slice Ax nx cx, .slice A m c, .int .i64 k, .int .i64 now] w (C6 w (1,[])):=by
 go_enter Tryz.func29,Tryz.ntmps29;go_wp2_with fail;refine(Ls Ax nx cx A m c w).mono ?_;rintro e w1 ⟨rfl,a0⟩;go_wp2
 go_ret2
 exact C6.bad rfl a0
theorem Ace (i j:Int):Calls Tryz.prog 33 #[.pointer none, .slice Ax nx cx, .slice A m c, .int .i64 i, .int .i64 j] w (C6 w (1,[])):=by
 go_enter Tryz.func33,Tryz.ntmps33;go_wp2_with fail;refine(Ls Ax nx cx A m c w).mono ?_;rintro e w1 ⟨rfl,a0⟩;go_wp2
 go_ret2
 exact C6.bad rfl a0
end
def Tm (w:World)(v:Value)(n:Nat)(rs:List Bb):Prop:=(v= .pointer none/\n=0)∨∃b,v= .pointer (some ⟨b,0,none⟩)/\C0 w b n rs
theorem Tm.below {w w':World}{v:Value}{n:Nat}{rs:List Bb}(h:Tm w v n rs)(hb:Below w.heap.size w w'):Tm w' v n rs:=by
 rcases h with h|⟨b,hv,h⟩
 ·exact .inl h
 ·exact .inr ⟨b,hv,h.below hb⟩
theorem Lt (ls:List Bi)(ws:List Cv):Ck 0 ls ws=1:=by unfold Ck;rw[if_pos rfl]
section
variable {v:Value}{n:Nat}{rs:List Bb}{Ax:Option Addr}{nx cx:Nat}{xs:List Bj}{A:Option Addr}{m c:Nat}{ys:List Bu}{w:World}
theorem Aff (hm:Tm w v n rs)(hx:Br w Ax nx cx xs)(hy:Bv w A m c ys)(hT:Cd w):
  Calls Tryz.prog 37 #[v, .slice Ax nx cx, .slice A m c] w fun e w'=>e= .returned (.int .i64 (Ck n (Ah xs) (Ae ys)))/\Below w.heap.size w w':=by
 rcases hm with⟨rfl,rfl⟩|⟨b,rfl,hm⟩
 ·rw[Lt];exact Ls Ax nx cx A m c w
 ·exact Hs b n rs Ax nx cx xs A m c ys w hm hx hy hT
theorem Afg (x:Bu)(hm:Tm w v n rs)(hx:Fw w x):Calls Tryz.prog 20 #[v,M8 x] w (C6 w (Cx n rs x.d)):=by
 rcases hm with⟨rfl,rfl⟩|⟨b,rfl,hm⟩
 ·rw[show Cx 0 rs x.d=(1,[])from by unfold Cx;rw[if_pos rfl]];exact Afd w x
 ·exact J2 b n rs x w hm hx
theorem Vz (k:Int)(hm:Tm w v n rs)(hx:Br w Ax nx cx xs)(hy:Bv w A m c ys)(hT:Cd w):
  Calls Tryz.prog 41 #[v, .slice Ax nx cx, .slice A m c, .int .i64 k] w (C6 w (Dv n rs (Ah xs) (Ae ys) k)):=by
 rcases hm with⟨rfl,rfl⟩|⟨b,rfl,hm⟩
 ·rw[show Dv 0 rs (Ah xs) (Ae ys) k=(1,[])from by unfold Dv;rw[Lt];rfl];exact Afe Ax nx cx A m c w k
 ·exact Ai2 b n rs Ax nx cx xs A m c ys k w hm hx hy hT
theorem Aky (k now:Int)(hm:Tm w v n rs)(hx:Br w Ax nx cx xs)(hy:Bv w A m c ys)(hT:Cd w)(h19:m<=19\/64<m):
  Calls Tryz.prog 29 #[v, .slice Ax nx cx, .slice A m c, .int .i64 k, .int .i64 now] w (C6 w (Fm n rs (Ah xs) (Ae ys) k now)):=by
 rcases hm with⟨rfl,rfl⟩|⟨b,rfl,hm⟩
 ·rw[show Fm 0 rs (Ah xs) (Ae ys) k now=(1,[])from by unfold Fm;rw[Lt];rfl];exact Ai8 Ax nx cx A m c w k now
 ·exact Xj b n rs Ax nx cx xs A m c ys k now w hm hx hy hT h19
theorem Acf (i j:Int)(hm:Tm w v n rs)(hx:Br w Ax nx cx xs)(hy:Bv w A m c ys)(hT:Cd w):
  Calls Tryz.prog 33 #[v, .slice Ax nx cx, .slice A m c, .int .i64 i, .int .i64 j] w (C6 w (Cz n rs (Ah xs) (Ae ys) i j)):=by
 rcases hm with⟨rfl,rfl⟩|⟨b,rfl,hm⟩
 ·rw[show Cz 0 rs (Ah xs) (Ae ys) i j=(1,[])from by unfold Cz;rw[Lt];rfl];exact Ace Ax nx cx A m c w i j
 ·exact Vy b n rs Ax nx cx xs A m c ys i j w hm hx hy hT
end
structure Ac4 (w:World)(b n:Nat)(rs:List Bb)(An:Option Addr)(cn:Nat)(vL:Value)(Aq:Option Addr)(cq:Nat):Prop where
 blk:w.heap[b]? =some (.cells #[.bool true, .slice An n cn,vL, .slice Aq n cq] 175 (0,0))
 row:∀i,i<n→∃q rb,Aq=some ⟨q,0,none⟩/\q<w.heap.size/\w.cell? ⟨q,i,none⟩=some (.slice (some ⟨rb,0,none⟩) n n)/\w.heap[rb]? =some (.cells (D9 n fun j=>Bf (D3 n rs i j)) 2 (0,0))
 ok:Ci n rs
 few:n<=128
def Ea (w:World)(b n:Nat)(rs:List Bb):Prop:=∃An cn vL Aq cq,Ac4 w b n rs An cn vL Aq cq
def Gc (w:World)(v:Value)(n:Nat)(rs:List Bb):Prop:=(v= .pointer none/\n=0)∨∃b,v= .pointer (some ⟨b,0,none⟩)/\Ea w b n rs
section
variable {w w':World}{b n:Nat}{rs:List Bb}
theorem Ac4.below {An:Option Addr}{cn:Nat}{vL:Value}{Aq:Option Addr}{cq:Nat}(h:Ac4 w b n rs An cn vL Aq cq)(hb:Below w.heap.size w w'):Ac4 w' b n rs An cn vL Aq cq:=
 ⟨(hb.block b (lt_of_block h.blk)).trans h.blk,fun i hi=>by
  obtain⟨q,rb,h1,h2,h3,h4⟩:=h.row i hi;exact⟨q,rb,h1,Nat.lt_of_lt_of_le h2 hb.size,(hb.cell (p:=⟨q,i,none⟩) h2).trans h3,(hb.block rb (lt_of_block h4)).trans h4⟩,h.ok,h.few⟩
theorem Ea.below (h:Ea w b n rs)(hb:Below w.heap.size w w'):Ea w' b n rs:=by
 obtain⟨An,cn,vL,Aq,cq,h⟩:=h;exact⟨An,cn,vL,Aq,cq,h.below hb⟩
theorem Ea.ok (h:Ea w b n rs):Ci n rs:=by obtain⟨An,cn,vL,Aq,cq,h⟩:=h;exact h.ok
theorem Ea.few (h:Ea w b n rs):n<=128:=by obtain⟨An,cn,vL,Aq,cq,h⟩:=h;exact h.few
theorem Ea.lt (h:Ea w b n rs):b<w.heap.size:=by obtain⟨An,cn,vL,Aq,cq,h⟩:=h;exact lt_of_block h.blk
theorem Gc.below {v:Value}(h:Gc w v n rs)(hb:Below w.heap.size w w'):Gc w' v n rs:=by
 rcases h with h|⟨b,hv,h⟩
 ·exact .inl h
 ·exact .inr ⟨b,hv,h.below hb⟩
theorem Gc.few {v:Value}(h:Gc w v n rs):n<=128:=by
 rcases h with⟨-,h⟩|⟨b, -,h⟩
 ·omega
 ·exact h.few
theorem Gc.at_ {v:Value}(h:Gc w v n rs)(hn:n≠0):∃b,v= .pointer (some ⟨b,0,none⟩)/\Ea w b n rs:=by
 rcases h with⟨-,h⟩|h
 ·exact absurd h hn
 ·exact h
theorem Ea.cells (h:Ea w b n rs):∃An cn Aq cq,w.cell? ⟨b,0,none⟩=some (.bool true)/\w.cell? ⟨b,1,none⟩=some (.slice An n cn)/\w.cell? ⟨b,3,none⟩=some (.slice Aq n cq):=by
 obtain⟨An,cn,vL,Aq,cq,h⟩:=h;exact⟨An,cn,Aq,cq,Ad h.blk rfl,Ad h.blk rfl,Ad h.blk rfl⟩
theorem Ea.dist (h:Ea w b n rs){i j:Nat}(hi:i<n)(hj:j<n):∃q cq rb,w.cell? ⟨b,3,none⟩=some (.slice (some ⟨q,0,none⟩) n cq)/\w.cell? ⟨q,i,none⟩=some (.slice (some ⟨rb,0,none⟩) n n)/\w.cell? ⟨rb,j,none⟩=some (.int .i64 (Bf (D3 n rs i j))):=by
 obtain⟨An,cn,vL,Aq,cq,h⟩:=h;obtain⟨q,rb,rfl,h2,h3,h4⟩:=h.row i hi;exact⟨q,cq,rb,Ad h.blk rfl,h3,Gk h4 hj⟩
end
theorem Su (b:Nat)(w:World)(h:w.cell? ⟨b,0,none⟩=some (.bool true)):
  Calls Tryz.prog 117 #[.pointer (some ⟨b,0,none⟩)] w fun e w'=>e= .returned (.bool true)/\Below w.heap.size w w':=by
 go_enter Tryz.func117,Tryz.ntmps117;go_wp2;go_ret;exact⟨rfl,Below.refl _ _⟩
theorem Zd (w:World):Calls Tryz.prog 117 #[.pointer none] w fun e w'=>e= .returned (.bool false)/\Below w.heap.size w w':=by
 go_enter Tryz.func117,Tryz.ntmps117;go_wp2;go_ret;exact⟨rfl,Below.refl _ _⟩
theorem Hn (v:Value)(n:Nat)(rs:List Bb)(w:World)(h:Gc w v n rs):
  Calls Tryz.prog 75 #[v] w fun e w'=>e= .returned (.int .i64 (n:Int))/\Below w.heap.size w w':=by
 rcases h with⟨rfl,rfl⟩|⟨b,rfl,h⟩
 ·go_enter Tryz.func75,Tryz.ntmps75;go_wp2_with fail;refine(Zd w).mono ?_;rintro e w1 ⟨rfl,a0⟩;go_wp2;go_ret;exact⟨rfl,a0⟩
 ·obtain⟨An,cn,Aq,cq,c0,c1,c3⟩:=h.cells;have a1:=h.lt;have a2:=hI c1;clear h c1 c3;go_enter Tryz.func75,Tryz.ntmps75;go_wp2_with fail;refine(Su b w c0).mono ?_;rintro e w1 ⟨rfl,a0⟩;have c1:=(a0.cell (p:=⟨b,1,none⟩) a1).trans a2.out;have HB:=hI a0;clear a0 c0;go_wp2;go_ret;exact⟨rfl,HB.out⟩
theorem Ze (b n:Nat)(rs:List Bb)(a:Nat)(w:World)(h:Ea w b n rs)(ha:a<n):
  Calls Tryz.prog 147 #[.pointer (some ⟨b,0,none⟩), .int .i64 (a:Int)] w fun e w'=>e= .returned (.bool true)/\Below w.heap.size w w':=by
 obtain⟨An,cn,Aq,cq,c0,c1,c3⟩:=h.cells;have a1:=h.lt;have a2:=hI c1;have a3:(a:Int)<(n:Int):=by omega
 clear h c1 c3;go_enter Tryz.func147,Tryz.ntmps147;go_wp2_with fail;refine(Su b w c0).mono ?_;rintro e w1 ⟨rfl,a0⟩;have c1:=(a0.cell (p:=⟨b,1,none⟩) a1).trans a2.out;have HB:=hI a0;clear a0 c0;go_wp2;go_ret;exact⟨rfl,HB.out⟩
theorem Ad9 (b n:Nat)(rs:List Bb)(x y:Nat)(w:World)(h:Ea w b n rs)(hx:x<n)(hy:y<n):
  Calls Tryz.prog 119 #[.pointer (some ⟨b,0,none⟩), .int .i64 (x:Int), .int .i64 (y:Int)] w fun e w'=>e= .returned (.tuple #[.int .i64 (((D3 n rs x y).getD 0:Nat):Int), .bool (D3 n rs x y).isSome])/\Below w.heap.size w w':=by
 have HM:=hI h;have a5:(x:Int)<(n:Int):=by omega
 have a4:(y:Int)<(n:Int):=by omega
 clear h;go_enter Tryz.func119,Tryz.ntmps119;go_wp2_with fail;refine(Ze b n rs x w HM.out hx).mono ?_;rintro e w1 ⟨rfl,a2⟩;have a0:=hI a2;clear a2;go_wp2_with fail;refine(Ze b n rs y w1 (HM.out.below a0.out) hy).mono ?_;rintro e w2 ⟨rfl,a3⟩;have a1:=hI (a0.out.trans (a3.mono a0.out.size));clear a3 a0;obtain⟨q,cq,rb,c3,cr,cd⟩:=(HM.out.below a1.out).dist hx hy;obtain⟨o,ho⟩:∃o,o=D3 n rs x y:=⟨_,rfl⟩;rw[←ho]at cd;have HO:Hid (D3 n rs x y=o):=ho.symm;clear ho
 cases o with
 |none=>
  simp only[Bf]at cd;go_wp2
  go_ret2
  exact⟨by rw[HO.out];rfl,a1.out⟩
 |some d=>
  simp only[Bf]at cd;go_wp2
  go_ret2
  exact⟨by rw[HO.out];rfl,a1.out⟩
end Go.Proofs.YtaglfmlgbcmakaaGreatDoor
namespace Go.Proofs.YtaglfmlgbcmakaaGreatDoor
open Go.RowKit
def F8 (k:Nat)(D:Nat->Nat->Option Nat)(i j:Nat):Nat->Nat->Option Nat:=fun a b=>if a<i\/(a=i/\b<j)then Eg k D a b else D a b
section
variable {k i j a b n:Nat}{D:Nat->Nat->Option Nat}
theorem Af8:F8 k D 0 0 a b=D a b:=by unfold F8;rw[if_neg (by omega)]
theorem Ajo (hb:b<n):F8 k D (i+1) 0 a b=F8 k D i n a b:=by
 unfold F8;by_cases h:a<i\/(a=i/\b<n)
 ·rw[if_pos h,if_pos (by omega)]
 ·rw[if_neg h,if_neg (by omega)]
theorem Ajp (ha:a<n):F8 k D n 0 a b=Eg k D a b:=by unfold F8;rw[if_pos (.inl ha)]
theorem Ajq (h0:D k k=some 0):F8 k D i j a k=D a k:=by
 unfold F8;split
 ·exact(Acl h0 a).1
 ·rfl
theorem Af9 (h0:D k k=some 0):F8 k D i j k b=D k b:=by
 unfold F8;split
 ·exact(Acl h0 b).2
 ·rfl
theorem Yg:F8 k D i j i j=D i j:=by unfold F8;rw[if_neg (by omega)]
theorem Yh:F8 k D i (j+1) a b=if a=i/\b=j then Eg k D i j else F8 k D i j a b:=by
 unfold F8;by_cases h:a=i/\b=j
 ·obtain⟨rfl,rfl⟩:=h;rw[if_pos (by omega),if_pos ⟨rfl,rfl⟩]
 ·rw[if_neg h];by_cases h1:a<i\/(a=i/\b<j)
  ·rw[if_pos h1,if_pos (by omega)]
  ·rw[if_neg h1,if_neg (by omega)]
theorem Lj (h:D i k=none\/D k j=none):Eg k D i j=D i j:=by
 unfold Eg
 have:Tn (D i k) (D k j)=none:=by
  rcases h with h|h
  ·rw[h];rfl
  ·rw[h];cases D i k<;>rfl
 rw[this,Lo]
theorem Yi {x y:Nat}(h1:D i k=some x)(h2:D k j=some y)(h3:D i j=none):Eg k D i j=some (x+y):=by
 unfold Eg;rw[h1,h2,h3];rfl
theorem Uq {x y z:Nat}(h1:D i k=some x)(h2:D k j=some y)(h3:D i j=some z)(h:x+y<z):Eg k D i j=some (x+y):=by
 unfold Eg;rw[h1,h2,h3];show some (min z (x+y))=_;rw[Nat.min_eq_right (by omega)]
theorem Ur {x y z:Nat}(h1:D i k=some x)(h2:D k j=some y)(h3:D i j=some z)(h:¬x+y<z):Eg k D i j=some z:=by
 unfold Eg;rw[h1,h2,h3];show some (min z (x+y))=_;rw[Nat.min_eq_left (by omega)]
end
theorem Yj {D:Nat->Nat->Option Nat}{M:Nat}(h:∀i j d,D i j=some d->d<=M):∀k i j d,D1 D k i j=some d->d<=M*2^k
 |0,i,j,d,hd=>by simpa using h i j d hd
 |k+1,i,j,d,hd=>by
  have ih:=Yj h k;have e:M*2^(k+1)=M*2^k+M*2^k:=by rw[Nat.pow_succ,←Nat.mul_assoc,Nat.mul_two]
  unfold D1 at hd
  cases h1:D1 D k i k with
  |none=>
   rw[Lj (.inl h1)]at hd
   have:=ih _ _ _ hd;omega
  |some x=>
   cases h2:D1 D k k j with
   |none=>
    rw[Lj (.inr h2)]at hd
    have:=ih _ _ _ hd;omega
   |some y=>
    have hx:=ih _ _ _ h1;have hy:=ih _ _ _ h2
    cases h3:D1 D k i j with
    |none=>rw[Yi h1 h2 h3]at hd;cases hd;omega
    |some z=>
     have hz:=ih _ _ _ h3;by_cases hl:x+y<z
     ·rw[Uq h1 h2 h3 hl]at hd;cases hd;omega
     ·rw[Ur h1 h2 h3 hl]at hd;cases hd;omega
theorem Ajr {n:Nat}{rs:List Bb}{r:Bb}(h:Ci n (rs++[r]))(a b:Nat):wtN (rs++[r]) a b=if B7 r a b=true then some r.2.2 else wtN rs a b:=by
 unfold wtN;rw[List.find?_append];by_cases hj:B7 r a b=true
 ·rw[if_pos hj]
  have:rs.find? (fun r=>B7 r a b)=none:=by
   rw[List.find?_eq_none];intro s hs a0;have h1:=(List.pairwise_append.1 h.one).2.2 s hs r (List.mem_singleton.2 rfl)
   have:B7 s r.1 r.2.1=true:=by
    rw[Ds]at hj a0 ⊢;rcases hj with⟨a1,a2⟩|⟨a1,a2⟩<;>rcases a0 with⟨b1,b2⟩|⟨b1,b2⟩<;>rw[b1,b2,a1,a2]<;>simp
   rw[this]at h1;cases h1
  rw[this];simp[hj]
 ·rw[if_neg hj]
  have:[r].find? (fun r=>B7 r a b)=none:=by
   rw[List.find?_eq_none];intro s hs;obtain rfl:s=r:=by simpa using hs
   exact hj
  rw[this];simp
theorem Aap {n:Nat}{rs:List Bb}{k:Nat}(h:Ci n rs):Ci n (rs.take k):=
 ⟨fun r hr=>h.lt r (List.mem_of_mem_take hr),h.one.sublist (List.take_sublist _ _)⟩
theorem Ajs {n:Nat}{rs:List Bb}{k:Nat}{r:Bb}(h:Ci n rs)(hr:rs[k]? =some r)(a b:Nat):D0 (rs.take (k+1)) a b=if B7 r a b=true then some r.2.2 else D0 (rs.take k) a b:=by
 have e:rs.take (k+1)=rs.take k++[r]:=by rw[List.take_add_one,hr];rfl
 have h1:Ci n (rs.take k++[r]):=by rw[←e];exact Aap h
 have a0:r.1≠r.2.1:=(h.lt r (List.mem_of_getElem? hr)).2.2.1;unfold D0;by_cases hab:a=b
 ·subst hab;rw[if_pos rfl,if_pos rfl,if_neg];rw[Ds];rintro(⟨h2,h3⟩|⟨h2,h3⟩)
  ·exact a0 (h2.trans h3.symm)
  ·exact a0 (h2.trans h3.symm)
 ·rw[if_neg hab,if_neg hab,e,Ajr h1]
theorem Amk {n:Nat}{rs:List Bb}(h:Ci n rs)(i j d:Nat)(hd:D0 rs i j=some d):d<=1073741824:=by
 unfold D0 at hd;split at hd
 ·cases hd;omega
 ·exact Aav h hd
end Go.Proofs.YtaglfmlgbcmakaaGreatDoor
namespace Go.Proofs.YtaglfmlgbcmakaaGreatDoor
open Go.RowKit Go.Shelf
theorem Wv {w:World}{B:Nat}{t:TypeId}{z n x:Nat}{v:Value}{xs:List Value}{cs:Array Value}{t':TypeId}{fr:Nat×Nat}(h:w.ownsRow B t z v n xs)(hx:w.heap[x]? =some (.cells cs t' fr))(hn:t≠t'):v.ownBlock≠some x:=by
 intro e;rcases h.2 with⟨rfl,_⟩|⟨g,cap,cur,rfl,_,hg,_⟩
 ·cases e
 ·obtain rfl:g=x:=Option.some.inj e;rw[hg]at hx;injection hx with e
  injection e with _ e _
  exact hn e
theorem Sv {w:World}{x y:Nat}{cs cs':Array Value}{t t':TypeId}{fr fr':Nat×Nat}(h:w.heap[x]? =some (.cells cs t fr))(h':w.heap[y]? =some (.cells cs' t' fr'))(hn:t≠t'):x≠y:=by
 rintro rfl;rw[h]at h';injection h' with e
 injection e with _ e _
 exact hn e
def Km (D:Nat->Nat->Option Nat)(i j:Nat)(o:Option Nat):Nat->Nat->Option Nat:=fun a b=>if a=i/\b=j then o else D a b
theorem Aea (D:Nat->Nat->Option Nat)(i j:Nat)(o:Option Nat):Km D i j o i j=o:=by simp[Km]
theorem Ahx (D:Nat->Nat->Option Nat){i a:Nat}(j b:Nat)(o:Option Nat)(h:a≠i):Km D i j o a b=D a b:=by unfold Km;rw[if_neg (fun e=>h e.1)]
theorem Ahy (D:Nat->Nat->Option Nat){j b:Nat}(i a:Nat)(o:Option Nat)(h:b≠j):Km D i j o a b=D a b:=by unfold Km;rw[if_neg (fun e=>h e.2)]
structure Dz (B b n:Nat)(vN vL v3:Value)(N:Nat)(rb:Nat->Nat)(D:Nat->Nat->Option Nat)(W:World):Prop where
 blk:W.heap[b]? =some (.cells #[.bool true,vN,vL,v3] 175 (0,0))
 own:W.ownsRow B 42 1 v3 N ((List.range N).map fun i=> .slice (some ⟨rb i,0,none⟩) n n)
 bB:B<=b
 row:∀i,i<N->W.heap[rb i]? =some (.cells (D9 n fun j=>Bf (D i j)) 2 (0,0))/\B<=rb i
 inj:∀i j,i<N->j<N->rb i=rb j->i=j
 sz:B<=W.heap.size
section
variable {B b n N:Nat}{vN vL v3:Value}{rb:Nat->Nat}{D D':Nat->Nat->Option Nat}{W W':World}
theorem Dz.below (h:Dz B b n vN vL v3 N rb D W)(hb:Below W.heap.size W W'):Dz B b n vN vL v3 N rb D W':=
 ⟨(hb.block b (lt_of_block h.blk)).trans h.blk,Bc h.own fun k e=>hb.block k (h.own.lt k e).2,h.bB,fun i hi=>⟨(hb.block _ (lt_of_block (h.row i hi).1)).trans (h.row i hi).1,(h.row i hi).2⟩,h.inj,Nat.le_trans h.sz hb.size⟩
theorem Dz.eq (h:Dz B b n vN vL v3 N rb D W)(e:∀i j,i<N->j<n->D i j=D' i j):Dz B b n vN vL v3 N rb D' W:=
 ⟨h.blk,h.own,h.bB,fun i hi=>by
  have h1:=h.row i hi
  have:D9 n (fun j=>Bf (D i j))=D9 n fun j=>Bf (D' i j):=by
   unfold D9;congr 1;exact List.map_congr_left fun j hj=>by show Value.int .i64 (Bf (D i j))=Value.int .i64 (Bf (D' i j));rw[e i j hi (List.mem_range.1 hj)]
  rw[this]at h1;exact h1,h.inj,h.sz⟩
theorem Dz.c3 (h:Dz B b n vN vL v3 N rb D W):W.cell? ⟨b,3,none⟩=some v3:=Ad h.blk rfl
theorem Dz.rowAt (h:Dz B b n vN vL v3 N rb D W){i:Nat}(hi:i<N):∃q cap,v3= .slice (some ⟨q,0,none⟩) N cap/\W.cell? ⟨q,i,none⟩=some (.slice (some ⟨rb i,0,none⟩) n n)/\q<W.heap.size/\N<=cap:=by
 obtain⟨tb,cap,h1,h2,_,h4,_,_,h5,_⟩:=Xh h.own (j:=i) (x:= .slice (some ⟨rb i,0,none⟩) n n) (by simp[hi]);exact⟨tb,cap,h1,h2,h4,h5⟩
theorem Dz.cell (h:Dz B b n vN vL v3 N rb D W){i j:Nat}(hi:i<N)(hj:j<n):W.cell? ⟨rb i,j,none⟩=some (.int .i64 (Bf (D i j))):=Gk (h.row i hi).1 hj
theorem Dz.free (h:Dz B b n vN vL v3 N rb D W){i:Nat}(hi:i<N)(j:Nat):W.frozen? ⟨rb i,j,none⟩=false:=by simp[World.frozen?,(h.row i hi).1]
theorem Dz.set (h:Dz B b n vN vL v3 N rb D W){i j:Nat}(hi:i<N)(o:Option Nat):Dz B b n vN vL v3 N rb (Km D i j o) (W.setCell ⟨rb i,j,none⟩ (.int .i64 (Bf o))):=by
 have hr:=(h.row i hi).1;have a0:∀x,x≠rb i->(W.setCell ⟨rb i,j,none⟩ (.int .i64 (Bf o))).heap[x]? =W.heap[x]? :=fun x hx=>Below.heap_setCell _ _ _ _ (by show x≠rb i;exact hx)
 refine⟨(a0 b (Sv h.blk hr (by decide))).trans h.blk,Bc h.own fun k e=>a0 k (fun e'=>Wv h.own hr (by decide) (by rw[←e'];exact e)),h.bB,fun a ha=>⟨?_,(h.row a ha).2⟩,h.inj,by simpa using h.sz⟩
 by_cases e:a=i
 ·subst e;rw[B2 hr];rw[K4 (g:=fun b=>Bf (Km D a j o a b)) (by rw[Aea]) fun v _ hv=>by rw[Ahy _ _ _ _ hv]]
 ·rw[a0 _ (fun e'=>e (h.inj a i ha hi e')),show(fun b=>Bf (Km D i j o a b))=fun b=>Bf (D a b)from funext fun b=>by rw[Ahx _ _ _ _ e]]
  exact(h.row a ha).1
theorem Dz.push (h:Dz B b n vN vL v3 N rb D W){g:Nat}(hg:W.heap[g]? =some (.cells (D9 n fun j=>Bf (D N j)) 2 (0,0)))(hgB:B<=g)(hgn:∀i,i<N->rb i≠g){v':Value}
  (hown:W'.ownsRow B 42 1 v' (N+1) (((List.range N).map fun i=> .slice (some ⟨rb i,0,none⟩) n n)++[.slice (some ⟨g,0,none⟩) n n])) (hgr:W.grownBy W' v3.ownBlock):
  Dz B b n vN vL v' (N+1) (fun i=>if i=N then g else rb i) D (W'.setCell ⟨b,3,none⟩ v'):=by
 have a0:∀(x:Nat) (cs:Array Value) (t:TypeId),W.heap[x]? =some (Obj.cells cs t (0,0))->t≠42->W'.heap[x]? =some (Obj.cells cs t (0,0)):=fun x cs t hx ht=>(hgr.block x (lt_of_block hx) (fun e=>Wv h.own hx (fun e'=>ht e'.symm) e.symm)).trans hx
 have a3:=a0 b _ _ h.blk (by decide);have a1:∀x,x≠b->(W'.setCell ⟨b,3,none⟩ v').heap[x]? =W'.heap[x]? :=fun x hx=>Below.heap_setCell _ _ _ _ (by show x≠b;exact hx)
 have a5:∀i,i<N->rb i≠b:=fun i hi e=>Sv (h.row i hi).1 h.blk (by decide) e
 have a4:g≠b:=fun e=>Sv hg h.blk (by decide) e
 refine⟨?_, ?_,h.bB,fun i hi=> ?_,fun i j hi hj e=> ?_,by have:=hgr.size;have:=h.sz;simp;omega⟩
 ·rw[B2 a3];rfl
 ·have e:((List.range (N+1)).map fun i=>Value.slice (some ⟨if i=N then g else rb i,0,none⟩) n n)=((List.range N).map fun i=> .slice (some ⟨rb i,0,none⟩) n n)++[.slice (some ⟨g,0,none⟩) n n]:=by
   rw[List.range_succ,List.map_append];congr 1
   ·exact List.map_congr_left fun i hi=>by rw[if_neg (by have:=List.mem_range.1 hi;omega)]
   ·simp
  rw[e];exact Bc hown fun k e'=>a1 k (fun e''=>Wv hown a3 (by decide) (by rw[←e''];exact e'))
 ·by_cases e:i=N
  ·subst e;simp only[if_true];exact⟨(a1 g a4).trans (a0 g _ _ hg (by decide)),hgB⟩
  ·simp only[if_neg e];have a2:i<N:=by omega
   exact⟨(a1 _ (a5 i a2)).trans (a0 _ _ _ (h.row i a2).1 (by decide)),(h.row i a2).2⟩
 ·by_cases e1:i=N
  ·by_cases e2:j=N
   ·omega
   ·simp only[if_pos e1,if_neg e2]at e;exact absurd e.symm (hgn j (by omega))
  ·by_cases e2:j=N
   ·simp only[if_neg e1,if_pos e2]at e;exact absurd e (hgn i (by omega))
   ·simp only[if_neg e1,if_neg e2]at e;exact h.inj i j (by omega) (by omega) e
theorem Dz.map {An:Option Addr}{cn:Nat}{rs:List Bb}(h:Dz B b n (.slice An n cn) vL v3 n rb (D3 n rs) W)(hok:Ci n rs)(hn:n<=128):Ea W b n rs:=by
 obtain⟨A3,c3,a0⟩:=Bh h.own;refine⟨An,cn,vL,A3,c3,⟨by have:=h.blk;rw[a0]at this;exact this,fun i hi=> ?_,hok,hn⟩⟩
 obtain⟨q,cap,h1,h2,h3,_⟩:=h.rowAt hi;rw[a0]at h1;injection h1 with h1 _ _
 exact⟨q,rb i,h1,h3,h2,(h.row i hi).1⟩
end
theorem Aeb {n:Nat}{rs:List Bb}{k:Nat}{r:Bb}(h:Ci n rs)(hr:rs[k]? =some r)(a b:Nat):Km (Km (D0 (rs.take k)) r.1 r.2.1 (some r.2.2)) r.2.1 r.1 (some r.2.2) a b=D0 (rs.take (k+1)) a b:=by
 rw[Ajs h hr];unfold Km;by_cases h1:a=r.2.1/\b=r.1
 ·rw[if_pos h1,if_pos (by rw[Ds];exact .inr ⟨h1.2.symm,h1.1.symm⟩)]
 ·rw[if_neg h1];by_cases h2:a=r.1/\b=r.2.1
  ·rw[if_pos h2,if_pos (by rw[Ds];exact .inl ⟨h2.1.symm,h2.2.symm⟩)]
  ·rw[if_neg h2,if_neg];rw[Ds];rintro(⟨e1,e2⟩|⟨e1,e2⟩)
   ·exact h2 ⟨e1.symm,e2.symm⟩
   ·exact h1 ⟨e2.symm,e1.symm⟩
theorem Zf {k i j:Nat}{D:Nat->Nat->Option Nat}{o:Option Nat}(ho:Eg k D i j=o)(a b:Nat):Km (F8 k D i j) i j o a b=F8 k D i (j+1) a b:=by
 rw[Yh];unfold Km;by_cases h:a=i/\b=j
 ·rw[if_pos h,if_pos h,ho]
 ·rw[if_neg h,if_neg h]
theorem Sw {k i j:Nat}{D:Nat->Nat->Option Nat}(ho:Eg k D i j=D i j)(a b:Nat):F8 k D i j a b=F8 k D i (j+1) a b:=by
 rw[Yh];by_cases h:a=i/\b=j
 ·obtain⟨rfl,rfl⟩:=h;rw[if_pos ⟨rfl,rfl⟩,ho,Yg]
 ·rw[if_neg h]
theorem Ac5 (rs:List Bb)(i:Nat):D0 rs i i=some 0:=by unfold D0;rw[if_pos rfl]
theorem Alw {n k:Nat}{rs:List Bb}(h:Ci n rs)(hk:k<=12)(i j d:Nat)(hd:D1 (D0 rs) k i j=some d):d<=4398046511104:=by
 have h1:=Yj (Amk h) k i j d hd;have h2:(2:Nat)^k<=2^12:=Nat.pow_le_pow_right (by decide) hk;omega
section
variable {B b n N:Nat}{vN vL v3:Value}{rb:Nat->Nat}{D:Nat->Nat->Option Nat}{W:World}
theorem Dz.beside (h:Dz B b n vN vL v3 N rb D W){g:Nat}(hb:b<g)(hv:∀k,v3.ownBlock=some k->k<g)(hr:∀i,i<N->rb i<g)(j:Nat)(u:Value):Dz B b n vN vL v3 N rb D (W.setCell ⟨g,j,none⟩ u):=by
 have a0:∀x,x≠g->(W.setCell ⟨g,j,none⟩ u).heap[x]? =W.heap[x]? :=fun x hx=>Below.heap_setCell _ _ _ _ (by show x≠g;exact hx)
 exact⟨(a0 b (by omega)).trans h.blk,Bc h.own fun k e=>a0 k (by have:=hv k e;omega),h.bB,fun i hi=>⟨(a0 _ (by have:=hr i hi;omega)).trans (h.row i hi).1,(h.row i hi).2⟩,h.inj,by simpa using h.sz⟩
theorem Dz.lows (h:Dz B b n vN vL v3 N rb D W):b<W.heap.size/\(∀k,v3.ownBlock=some k->k<W.heap.size)∧∀i,i<N->rb i<W.heap.size:=
 ⟨lt_of_block h.blk,fun k e=>(h.own.lt k e).2,fun i hi=>lt_of_block (h.row i hi).1⟩
end
theorem Aec:(Tryz.prog.info? 42).map (fun i=>(i.zero,i.size,i.bytes))=some (some (.slice none 0 0),1,24):=by kernel_rfl
theorem Abm {ops:Array Oper}{rest:List Oper}{o:Oper}{a:Act}{w:World}{Q:Exit->Act->World->Prop}(hgd:o.guard=none)(s x:Operand)
  (ho:o.op= .call {callee:= .builtin .append,args:= #[s,x],argTypes:= #[173,173]})
  (base:Nat) (v:Value) (n:Nat) (xs:List Value) (hs:a.eval s=v) (hown:w.ownsRow base 42 1 v n xs)
  (ad:Addr) (c:Nat) (y:Value) (hx:a.eval x= .slice (some ad) 1 c) (hr:∀j u,[y][j]? =some u->w.cell? (ad.add j)=some u) (hy:y.oneCell'=true) (hl:n+1<=4096) (hbase:base<=w.heap.size)
  (h:∀v' w',w'.ownsRow base 42 1 v' (n+1) (xs++[y])->w.grownBy w' v.ownBlock->(v'.ownBlock=v.ownBlock\/v'.ownBlock=some w.heap.size)→
   wpList Tryz.prog ops Q rest (a.put o.dst v') w'):wpList Tryz.prog ops Q (o::rest) a w:=by
 obtain⟨i0,hi,a1,a2,a0⟩:=info_parts Aec
 exact wpList_append_own_at w hgd s x 173 ho base 42 i0 _ 1 24 Tryz.underlying173 hi a1 a2 a0 rfl (by decide) v n xs hs hown ad 1 c [y] hx rfl hr
  (by intro u hu;simp at hu;subst hu;exact hy) (by unfold maxLen;omega) (by omega) hbase fun v' w' h1 h2 _ h4=>h v' w' h1 h2 h4
theorem Alx {u s:ByteArray}(h:¬u=s):(u.toList==s.toList)=false:=by
 rw[beq_eq_false_iff_ne];intro e;rw[Lib.toList_data,Lib.toList_data]at e;exact h (ByteArray.ext (Array.ext' e))
theorem Ve {n:Nat}:∀{rs:List Dt} {done:List Bb},Cq n done rs=0→∀r∈rs,0<=r.1/\0<=r.2.1/\1<=r.2.2
 |[],_,_,r,hr=>by cases hr
 |x::rs,done,he,r,hr=>by
  unfold Cq at he;by_cases h1:min x.1 x.2.1<0\/(n:Int)<=max x.1 x.2.1
  ·rw[if_pos h1]at he;cases he
  rw[if_neg h1]at he;by_cases h2:x.1=x.2.1
  ·rw[if_pos h2]at he;cases he
  rw[if_neg h2]at he;by_cases h3:x.2.2<1\/1073741824<x.2.2
  ·rw[if_pos h3]at he;cases he
  rw[if_neg h3]at he;by_cases h4:done.any (fun s=>B7 s x.1.toNat x.2.1.toNat)=true
  ·rw[if_pos h4]at he;cases he
  rw[if_neg h4]at he;rcases List.mem_cons.1 hr with e|hr
  ·subst e;omega
  ·exact Ve he r hr
theorem Zh (v:Value)(n:Nat)(rs:List Bb)(x:Bu)(w:World)(hm:Gc w v n rs)(hx:Fw w x):
  Calls Tryz.prog 84 #[v,M8 x] w fun e w'=>e= .returned (.int .i64 (Di n x.d))/\Below w.heap.size w w':=by
 obtain⟨a0,hu⟩:=hx;obtain⟨⟨law,ps,T,S,fin⟩,Aw,nw,cw⟩:=x;simp only at a0;have d9:nw<=9223372036854775807:=by have h1:=a0.2.1;have h2:=a0.2.2.1;unfold maxLen at h2;omega
 have a4:ps.length=nw:=by have:=a0.1;simpa using this
 have d7:nw<=cw:=a0.2.1;have HP:=hI a0;have HM:=hI hm;have HL:=hI a4;clear a0 hm a4 hu;have kb:(w.alloc (.cells #[.int .i64 law, .slice Aw nw cw, .int .i64 T, .int .i64 S, .int .i64 fin] 85)).heap[w.heap.size]? =some (.cells #[.int .i64 law, .slice Aw nw cw, .int .i64 T, .int .i64 S, .int .i64 fin] 85 (0,0)):=hpt;have kB:Below w.heap.size w (w.alloc (.cells #[.int .i64 law, .slice Aw nw cw, .int .i64 T, .int .i64 S, .int .i64 fin] 85)):=bel;go_enter Tryz.func84,Tryz.ntmps84;go_wp2_with fail;obtain⟨B0,b5⟩:∃B0,B0=w.heap.size:=⟨_,rfl⟩;rw[←b5]at kb ⊢;have d4:=hI kb;have b8:=hI kB;have f8:w.heap.size<=B0:=Nat.le_of_eq b5.symm;generalize w.alloc (.cells #[.int .i64 law, .slice Aw nw cw, .int .i64 T, .int .i64 S, .int .i64 fin] 85)=W0 at*;clear b5 kb kB
 have a6:∀er:Int,er≠0->F5 n [] ps=er->Di n ⟨law,ps,T,S,fin⟩=er:=fun er h0 h=>by
  unfold Di;rw[if_pos (by rw[h];exact h0)];exact h
 have a2:=hI a6;clear a6
 go_loopw [5,6] (fun i _ wr=>∃k:Nat,k<=nw/\i= .int .i64 (k:Int)/\Hid (F5 n [] ps=F5 n (ps.take k) (ps.drop k))/\Hid (wr.heap[B0]? =some (.cells #[.int .i64 law, .slice Aw nw cw, .int .i64 T, .int .i64 S, .int .i64 fin] 85 (0,0)))/\Hid (Below w.heap.size w wr)) (fun i _ _=>nw-(intOf i).toNat)
 case atStart=>exact⟨0,Nat.zero_le _,rfl,rfl,d4.out,b8.out⟩
 case round=>
  obtain⟨k,hk,rfl,HE,HK,HB⟩:=hrel;clear d4 b8;have c1:=Ad (j:=1) HK.out rfl;by_cases hlt:k<nw
  ·have f3:(k:Int)<(nw:Int):=by omega
   obtain⟨pb,po,v',hA,b7,hv,b6⟩:=(HP.out.below HB.out rr:Am wr Aw nw cw 1 (ps.map (Value.int .i64))).at1 hlt;obtain⟨p,hp⟩:∃p,ps[k]? =some p:=⟨ps[k]'(by rw[HL.out];exact hlt),List.getElem?_eq_getElem _⟩;obtain rfl:v'= .int .i64 p:=by rw[List.getElem?_map,hp]at hv;simpa using hv.symm
   have d5:ps.drop k=p::ps.drop (k+1):=Pw hp;have b9:Hid (ps.take (k+1)=ps.take k++[p]):=Bd ps k p hp
   have HS:Hid (F5 n (ps.take k) (ps.drop k)=if p<0\/(n:Int)<=p then 3 else if(ps.take k).any (fun b=>decide (b=p))then 6 else F5 n (ps.take (k+1)) (ps.drop (k+1))):=by
    show _=_;rw[d5,b9.out];rfl
   subst hA;clear hv hp d5;go_wp2_with fail;refine Bg (fun W'=>W'.cell? ⟨B0,1,none⟩=some (.slice (some ⟨pb,po,none⟩) nw cw)/\W'.cell? ⟨pb,po+k,none⟩=some (.int .i64 p)) (by kernel_rfl) ⟨c1,b6⟩ (fun hHeld=> ?_)
   (refine' Ab 0 rfl ?_;(try simp only[Act.put,nY,nX]));(refine' Ab 1 rfl ?_;(try simp only[Act.put,nY,nX]));(refine' Ab 2 rfl ?_;(try simp only[Act.put,nY,nX]));(refine' Ab 3 rfl ?_;(try simp only[Act.put,nY,nX]));(refine' Ab 4 rfl ?_;(try simp only[Act.put,nY,nX]));(refine' Ab 5 rfl ?_;(try simp only[Act.put,nY,nX]));(refine' Ab 6 rfl ?_;(try simp only[Act.put,nY,nX]))
   by_cases hp0:p<0
   ·rw[show decide (p<0)=true from decide_eq_true hp0];refine' Bm (i:=7) (v:=undef) rfl (by as_aux_lemma=>kernel_rfl) (by as_aux_lemma=>kernel_rfl) (by as_aux_lemma=>kernel_rfl) (by as_aux_lemma=>kernel_rfl) (fun _ _ _ h=>h) (Or.inr ⟨by as_aux_lemma=>kernel_rfl,rfl⟩) (by assumption) ?_
    (try simp only[Act.put,nY,nX])
    refine' Bm (i:=8) (v:=undef) rfl (by as_aux_lemma=>kernel_rfl) (by as_aux_lemma=>kernel_rfl) (by as_aux_lemma=>kernel_rfl) (by as_aux_lemma=>kernel_rfl) (fun _ _ _ h=>h) (Or.inr ⟨by as_aux_lemma=>kernel_rfl,rfl⟩) (by assumption) ?_
    (try simp only[Act.put,nY,nX])
    refine' Bm (i:=9) (v:=undef) rfl (by as_aux_lemma=>kernel_rfl) (by as_aux_lemma=>kernel_rfl) (by as_aux_lemma=>kernel_rfl) (by as_aux_lemma=>kernel_rfl) (fun _ _ _ h=>h) (Or.inr ⟨by as_aux_lemma=>kernel_rfl,rfl⟩) (by assumption) ?_
    (try simp only[Act.put,nY,nX])
    refine' Bm (i:=10) (v:=undef) rfl (by as_aux_lemma=>kernel_rfl) (by as_aux_lemma=>kernel_rfl) (by as_aux_lemma=>kernel_rfl) (by as_aux_lemma=>kernel_rfl) (fun _ _ _ h=>h) (Or.inr ⟨by as_aux_lemma=>kernel_rfl,rfl⟩) (by assumption) ?_
    (try simp only[Act.put,nY,nX])
    refine' Bm (i:=11) (v:=undef) rfl (by as_aux_lemma=>kernel_rfl) (by as_aux_lemma=>kernel_rfl) (by as_aux_lemma=>kernel_rfl) (by as_aux_lemma=>kernel_rfl) (fun _ _ _ h=>h) (Or.inr ⟨by as_aux_lemma=>kernel_rfl,rfl⟩) (by assumption) ?_
    (try simp only[Act.put,nY,nX])
    refine' Bm (i:=12) (v:=undef) rfl (by as_aux_lemma=>kernel_rfl) (by as_aux_lemma=>kernel_rfl) (by as_aux_lemma=>kernel_rfl) (by as_aux_lemma=>kernel_rfl) (fun _ _ _ h=>h) (Or.inr ⟨by as_aux_lemma=>kernel_rfl,rfl⟩) (by assumption) ?_
    (try simp only[Act.put,nY,nX])
    refine' Bm (i:=13) (v:=undef) rfl (by as_aux_lemma=>kernel_rfl) (by as_aux_lemma=>kernel_rfl) (by as_aux_lemma=>kernel_rfl) (by as_aux_lemma=>kernel_rfl) (fun _ _ _ h=>h) (Or.inr ⟨by as_aux_lemma=>kernel_rfl,rfl⟩) (by assumption) ?_
    (try simp only[Act.put,nY,nX])
    refine' Bm (i:=14) (v:=undef) rfl (by as_aux_lemma=>kernel_rfl) (by as_aux_lemma=>kernel_rfl) (by as_aux_lemma=>kernel_rfl) (by as_aux_lemma=>kernel_rfl) (fun _ _ _ h=>h) (Or.inr ⟨by as_aux_lemma=>kernel_rfl,rfl⟩) (by assumption) ?_
    (try simp only[Act.put,nY,nX])
    (refine Am8 15 rfl (fun K' hK'=> ?_);simp only[nY];go_simp)
    refine hK' _ _ ⟨.inl (by kernel_rfl),fun _=>Ba (by kernel_rfl) ?_ _⟩
    clear hK' K';go_wp2;go_ret;exact⟨by rw[a2.out 3 (by decide) (by rw[HE.out,HS.out,if_pos (.inl hp0)])];rfl,HB.out.drew⟩
   ·rw[show decide (p<0)=false from decide_eq_false hp0]
    (refine' Ab 7 rfl ?_;(try simp only[Act.put,nY,nX]));(refine' Ab 8 rfl ?_;(try simp only[Act.put,nY,nX]));(refine' Ab 9 rfl ?_;(try simp only[Act.put,nY,nX]));(refine' Ab 10 rfl ?_;(try simp only[Act.put,nY,nX]));(refine' Ab 11 rfl ?_;(try simp only[Act.put,nY,nX]));(refine' Ab 12 rfl ?_;(try simp only[Act.put,nY,nX]))
    clear hHeld
    (refine Am8 13 rfl (fun K' hK'=> ?_);simp only[nY];go_simp)
    have a9:Below wr.heap.size wr wr.drew:=(Below.refl wr.heap.size wr).drew;refine(Hn v n rs _ ((HM.out.below HB.out).below a9)).mono ?_;rintro e w1 ⟨rfl,a5⟩;have b0:=a9.trans (a5.mono a9.size);have b3:=hI ((b0.block B0 (lt_of_block HK.out)).trans HK.out);have c1':=Ad (j:=1) b3.out rfl;have a1:=hI (HB.out.trans (b0.mono HB.out.size));have a7:=(b0.cell (p:=⟨pb,po+k,none⟩) b7).trans b6;have d0:w1.cell? ⟨B0,1,none⟩=some (.slice (some ⟨pb,po,none⟩) nw cw)/\w1.cell? ⟨pb,po+k,none⟩=some (.int .i64 p):=⟨c1',a7⟩;refine hK' _ _ ⟨.inr d0,fun _=> ?_⟩
    clear hK' K' a9 a5 b0 HK HB c1 b6 b7
    (try simp only[Act.put,nY,nX])
    (refine' Ab 14 rfl ?_;(try simp only[Act.put,nY,nX]))
    (refine Am8 15 rfl (fun K' hK'=> ?_);simp only[nY];go_simp)
    refine hK' _ _ ⟨.inl (by kernel_rfl),fun _=>Ba (by kernel_rfl) ?_ _⟩
    clear hK' K';clear a7 d0;by_cases hpn:(n:Int)<=p
    ·go_wp2;go_ret;exact⟨by rw[a2.out 3 (by decide) (by rw[HE.out,HS.out,if_pos (.inr hpn)])];rfl,a1.out⟩
    ·have b2:Hid (F5 n (ps.take k) (ps.drop k)=if(ps.take k).any (fun b=>decide (b=p))then 6 else F5 n (ps.take (k+1)) (ps.drop (k+1))):=by
      show _=_;rw[HS.out,if_neg (by omega)]
     have d6:=hI (HP.out.below a1.out rr);clear HS;go_wp2_with fail
     go_loopw [6] (fun s6 wr=>∃j:Nat,j<=k/\s6= .int .i64 (j:Int)/\Hid ((ps.take j).any (fun b=>decide (b=p))=false)/\Hid (wr.heap[B0]? =some (.cells #[.int .i64 law, .slice (some ⟨pb,po,none⟩) nw cw, .int .i64 T, .int .i64 S, .int .i64 fin] 85 (0,0)))/\Hid (Below w1.heap.size w1 wr)) (fun s6 _=>k-(intOf s6).toNat)
     case atStart=>exact⟨0,Nat.zero_le _,rfl,rfl,b3.out,Below.refl _ _⟩
     case round=>
      obtain⟨j,hj,rfl,HN,a8,a3⟩:=hrel;clear b3 c1';have c1:=Ad (j:=1) a8.out rfl;by_cases hjk:j<k
      ·have f6:(j:Int)<(k:Int):=by omega
       have f5:(j:Int)<(nw:Int):=by omega
       obtain⟨pb',po',u',d3, -,b4,f7⟩:=(d6.out.below a3.out rr:Am wr (some ⟨pb,po,none⟩) nw cw 1 (ps.map (Value.int .i64))).at1 (k:=j) (by omega);obtain⟨_,_,u2,d1, -,b1,f4⟩:=(d6.out.below a3.out rr:Am wr (some ⟨pb,po,none⟩) nw cw 1 (ps.map (Value.int .i64))).at1 (k:=k) (by omega);simp only[Option.some.injEq,Addr.mk.injEq,and_true]at d3 d1;obtain⟨rfl,rfl⟩:=d3;obtain⟨rfl,rfl⟩:=d1;obtain⟨u,hu⟩:∃u,ps[j]? =some u:=⟨ps[j]'(by rw[HL.out];omega),List.getElem?_eq_getElem _⟩;obtain rfl:u'= .int .i64 u:=by rw[List.getElem?_map,hu]at b4;simpa using b4.symm
       have d2:ps[k]? =some p:=by
        have h1:=congrArg (fun l:List Int=>l[k]?) b9.out;simp only[List.getElem?_take,if_pos (Nat.lt_succ_self k)]at h1;rw[h1,List.getElem?_append_right (by rw[List.length_take];omega),List.length_take,HL.out];rw[show k-min k nw=0 by omega];rfl
       obtain rfl:u2= .int .i64 p:=by rw[List.getElem?_map,d2]at b1;simpa using b1.symm
       have d8:Hid (ps.take (j+1)=ps.take j++[u]):=Bd ps j u hu
       have f2:Hid (u∈ps.take k):=by
        refine List.mem_of_getElem? (i:=j) ?_;rw[List.getElem?_take,if_pos hjk,hu]
       clear b4 b1 hu d2;by_cases hup:u=p
       ·subst hup;go_wp2_with fail
        go_quiet (fail)
        go_wp2;go_ret
        exact⟨by
         rw[a2.out 6 (by decide) (by rw[HE.out,b2.out,if_pos (by rw[List.any_eq_true];exact⟨u,f2.out,by simp⟩)])];rfl,(a1.out.trans (a3.out.mono a1.out.size)).drewN _⟩
       ·have f0:(u==p)=false:=by simpa using hup
        have f1:=hI hup;clear hup;go_wp2_with fail
        go_quiet (fail)
        go_wp2
        go_roundw
        case rel=>exact⟨j+1,by omega,by go_num,by show _=_;rw[d8.out,List.any_append,HN.out];simpa using f1.out,a8.out,a3.out.drewN _⟩
        case measure=>simp[intOf];omega
      ·obtain rfl:j=k:=by omega
       go_wp2
       go_roundw
       case rel=>first|exact⟨j+1,by omega,by go_num,by show _=_;rw[HE.out,b2.out,if_neg (by rw[HN.out];simp)],a8.out,a1.out.trans (a3.out.mono a1.out.size)⟩|((repeat apply Exists.intro);exact⟨⟨j+1,by omega,by go_num,by show _=_;rw[HE.out,b2.out,if_neg (by rw[HN.out];simp)],a8.out,a1.out.trans (a3.out.mono a1.out.size)⟩,rfl⟩)
       case measure=>simp[intOf];omega
  ·obtain rfl:k=nw:=by omega
   have HZ:Hid (F5 n [] ps=0):=by
    show _=_;rw[HE.out,List.drop_eq_nil_of_le (by rw[HL.out];exact rr)];rfl
   have HV:Hid (Di n ⟨law,ps,T,S,fin⟩=if min T S<0\/1073741824<max T S then 2 else 0):=by
    show _=_;unfold Di;rw[if_neg (by rw[HZ.out];simp)]
   have c2:=Ad (j:=2) HK.out rfl;have c3:=Ad (j:=3) HK.out rfl;clear HE;by_cases h1:T<0
   ·go_wp2;go_ret;exact⟨by rw[HV.out,if_pos (.inl (by omega))];rfl,HB.out⟩
   by_cases h2:1073741824<T
   ·go_wp2;go_ret;exact⟨by rw[HV.out,if_pos (.inr (by omega))];rfl,HB.out⟩
   by_cases h3:S<0
   ·go_wp2;go_ret;exact⟨by rw[HV.out,if_pos (.inl (by omega))];rfl,HB.out⟩
   by_cases h4:1073741824<S
   ·go_wp2;go_ret;exact⟨by rw[HV.out,if_pos (.inr (by omega))];rfl,HB.out⟩
   have h5:¬(min T S<0\/1073741824<max T S):=by omega
   have H5:=hI h5;clear h5;go_wp2;go_ret;exact⟨by rw[HV.out,if_neg H5.out];rfl,HB.out⟩
end Go.Proofs.YtaglfmlgbcmakaaGreatDoor
namespace Go.Proofs.YtaglfmlgbcmakaaGreatDoor
open Go.RowKit
theorem Aic {n:Nat}{rs:List Bb}(h:Ci n rs)(ps:List Int)(a:Nat):Fl (ps.map fun b=>D3 n rs b.toNat a)=Fl (ps.map fun b=>D3 n rs a b.toNat):=by
 congr 1;exact List.map_congr_left fun b _=>Vw h b.toNat a
def F2 (lt:Nat->Nat->Bool)(p:Nat->Bool)(m N:Nat):List Nat:=(List.range N).flatMap fun n=>(List.range m).filter fun i=>decide (E8 lt m i=n) && p i
theorem Abt (lt:Nat->Nat->Bool)(p:Nat->Bool)(m:Nat):F2 lt p m 0=[]:=rfl
theorem Aep (lt:Nat->Nat->Bool)(p:Nat->Bool)(m:Nat):F2 lt p m m=E9 lt p m:=rfl
theorem S4 (lt:Nat->Nat->Bool)(p:Nat->Bool)(m N:Nat):F2 lt p m (N+1)=F2 lt p m N++(List.range m).filter fun i=>decide (E8 lt m i=N) && p i:=by
 unfold F2;rw[List.range_succ,List.flatMap_append,List.flatMap_singleton]
theorem Nv (q:Nat->Bool)(i:Nat):(List.range (i+1)).filter q=(List.range i).filter q++(if q i=true then [i]else []):=by
 rw[List.range_succ,List.filter_append];congr 1;by_cases h:q i=true
 ·rw[if_pos h,List.filter_cons_of_pos h];rfl
 ·rw[if_neg h,List.filter_cons_of_neg h];rfl
theorem Vn (lt:Nat->Nat->Bool)(p:Nat->Bool)(m:Nat):∀N,(F2 lt p m N).length<=N*m
 |0=>by rw[Abt];simp
 |N+1=>by
  rw[S4,List.length_append,Nat.add_mul];have h1:=Vn lt p m N;have h2:((List.range m).filter fun i=>decide (E8 lt m i=N) && p i).length<=(List.range m).length:=List.length_filter_le _ _;rw[List.length_range]at h2;omega
theorem Abu (lt:Nat->Nat->Bool)(p:Nat->Bool)(m N i:Nat)(hi:i<=m):(F2 lt p m N++(List.range i).filter fun i=>decide (E8 lt m i=N) && p i).length<=(N+1)*m:=by
 rw[List.length_append,Nat.add_mul];have h1:=Vn lt p m N;have h2:((List.range i).filter fun i=>decide (E8 lt m i=N) && p i).length<=(List.range i).length:=List.length_filter_le _ _;rw[List.length_range]at h2;omega
theorem Abv {T S d:Nat}{U:Int}(h:9223372036854775807<T+S*d):Ev (some d) T S U=none:=by
 unfold Ev;dsimp only;rw[if_pos h]
def ltO (x y:Option Nat)(i j:Nat):Bool:=match x,y with
 |some x,some y=>decide (x<y)||(decide (x=y) && decide (i<j))
 |some _,none=>true
 |none,some _=>false
 |none,none=>decide (i<j)
theorem Al5 (t:Nat->Option Nat)(i j:Nat):Cf t i j=ltO (t i) (t j) i j:=rfl
end Go.Proofs.YtaglfmlgbcmakaaGreatDoor
namespace Go.Proofs.YtaglfmlgbcmakaaGreatDoor
open Go.RowKit Go.Shelf
theorem Ff (b n:Nat)(rs:List Bb)(x:Bu)(a:Nat)(w:World)(hm:Ea w b n rs)(hx:Fw w x)(h1:Di n x.d=0)(ha:a<n):
  Calls Tryz.prog 80 #[.pointer (some ⟨b,0,none⟩),M8 x, .int .i64 (a:Int)] w fun e w'=>e= .returned (.int .i64 (Bf (De n rs x.d a)))/\Below w.heap.size w w':=by
 obtain⟨a1,hu⟩:=hx;obtain⟨b0,b8,d6,b6,d7⟩:=Ab9 h1;obtain⟨⟨law,ps,time,slow,fin⟩,Aw,nw,cw⟩:=x;obtain⟨T,rfl⟩:∃T:Nat,time=T:=⟨time.toNat,by simp only at b8;omega⟩;obtain⟨S,rfl⟩:∃S:Nat,slow=S:=⟨slow.toNat,by simp only at b6;omega⟩;have b1:=hu.fin;simp only at a1 b0 d6 d7 b1;have HP:=hI a1;have d3:=hI b0;have HM:=hI hm;have d0:=hI hm.ok;have d1:nw<=9223372036854775807:=by have h1:=a1.2.1;have h2:=a1.2.2.1;unfold maxLen at h2;omega
 have a4:ps.length=nw:=by have:=a1.1;simpa using this
 have HL:=hI a4;clear a1 b0 hu h1 hm b8 b6 a4;have kb:(w.alloc (.cells #[.int .i64 law, .slice Aw nw cw, .int .i64 (T:Int), .int .i64 (S:Int), .int .i64 fin] 85)).heap[w.heap.size]? =some (.cells #[.int .i64 law, .slice Aw nw cw, .int .i64 (T:Int), .int .i64 (S:Int), .int .i64 fin] 85 (0,0)):=hpt;have kB:Below w.heap.size w (w.alloc (.cells #[.int .i64 law, .slice Aw nw cw, .int .i64 (T:Int), .int .i64 (S:Int), .int .i64 fin] 85)):=bel;go_enter Tryz.func80,Tryz.ntmps80;go_wp2_with fail;obtain⟨f,hf⟩:∃f:Int->Option Nat,f=fun b=>D3 n rs b.toNat a:=⟨_,rfl⟩
 have HF:=hI hf;clear hf;obtain⟨B0,b2⟩:∃B0,B0=w.heap.size:=⟨_,rfl⟩;rw[←b2]at kb ⊢;have b7:=hI kb;have b5:=hI kB;have f8:w.heap.size<=B0:=Nat.le_of_eq b2.symm;generalize w.alloc (.cells #[.int .i64 law, .slice Aw nw cw, .int .i64 (T:Int), .int .i64 (S:Int), .int .i64 fin] 85)=W0 at*;clear b2 kb kB
 go_loopw [7,8] (fun s7 i wr=>∃k:Nat,k<=nw/\i= .int .i64 (k:Int)/\s7= .int .i64 (Bf (Fl ((ps.take k).map f)))/\Hid (wr.heap[B0]? =some (.cells #[.int .i64 law, .slice Aw nw cw, .int .i64 (T:Int), .int .i64 (S:Int), .int .i64 fin] 85 (0,0)))/\Hid (Below w.heap.size w wr)) (fun _ i _=>nw-(intOf i).toNat)
 case atStart=>exact⟨0,Nat.zero_le _,rfl,by simp[Fl,Bf],b7.out,b5.out⟩
 case round=>
  obtain⟨k,hk,rfl,rfl,HK,HB⟩:=hrel;clear b7 b5;obtain⟨o0,a3⟩:∃o0,o0=Fl ((ps.take k).map f):=⟨_,rfl⟩;rw[←a3];have c1:=Ad (j:=1) HK.out rfl;by_cases hlt:k<nw
  ·have f2:(k:Int)<(nw:Int):=by omega
   obtain⟨pb,po,v,hA,b9,hv,f0⟩:=(HP.out.below HB.out rr:Am wr Aw nw cw 1 (ps.map (Value.int .i64))).at1 hlt;subst hA;obtain⟨p,hp⟩:∃p,ps[k]? =some p:=⟨ps[k]'(by rw[HL.out];exact hlt),List.getElem?_eq_getElem _⟩;obtain rfl:v= .int .i64 p:=by rw[List.getElem?_map,hp]at hv;simpa using hv.symm
   have a9:=d3.out p (List.mem_of_getElem? hp);have d2:Hid (ps.take (k+1)=ps.take k++[p]):=Bd ps k p hp;obtain⟨p,rfl⟩:∃p':Nat,p=p':=⟨p.toNat,by omega⟩;have d9:=hI a3;clear hv hp a3;go_wp2_with fail;refine(Ad9 b n rs p a wr (HM.out.below HB.out) (by omega) ha).mono ?_;obtain⟨o,ho⟩:∃o,o=D3 n rs p a:=⟨_,rfl⟩
   have a8:Hid (Fl ((ps.take (k+1)).map f)=Jm o0 o):=by
    show _=_;rw[d2.out,List.map_append,List.map_singleton,Ql,ho,d9.out,HF.out];rfl
   rw[←ho];rintro e w1 ⟨rfl,b3⟩;have a7:=hI (HB.out.trans (b3.mono HB.out.size));have a6:=hI ((b3.block B0 (lt_of_block HK.out)).trans HK.out);clear b3 HB HK ho f0 b9 c1 a9
   cases o with
   |none=>
    go_wp2_with fail
    go_roundw
    case rel=>exact⟨k+1,by omega,by simp,by rw[a8.out,Lo],a6.out,a7.out⟩
    case measure=>simp[intOf];omega
   |some d=>
    cases o0 with
    |none=>
     simp only[Bf,Option.getD_some,Option.isSome_some];go_wp2_with fail
     go_roundw
     case rel=>exact⟨k+1,by omega,by simp,by rw[a8.out];rfl,a6.out,a7.out⟩
     case measure=>simp[intOf];omega
    |some e0=>
     simp only[Bf,Option.getD_some,Option.isSome_some];have f1:¬(e0:Int)<0:=by omega
     by_cases hde:d<e0
     ·have b4:(d:Int)<(e0:Int):=by omega
      go_wp2_with fail
      go_roundw
      case rel=>exact⟨k+1,by omega,by simp,by rw[a8.out,Lp,if_pos hde];rfl,a6.out,a7.out⟩
      case measure=>simp[intOf];omega
     ·have b4:¬(d:Int)<(e0:Int):=by omega
      go_wp2_with fail
      go_roundw
      case rel=>exact⟨k+1,by omega,by simp,by rw[a8.out,Lp,if_neg hde];rfl,a6.out,a7.out⟩
      case measure=>simp[intOf];omega
  ·obtain rfl:k=nw:=by omega
   have HN:Hid (De n rs ⟨law,ps,T,S,fin⟩ a=Ev o0 T S fin):=by
    show _=_;unfold De L5;rw[←Aic d0.out,a3,List.take_of_length_le (by rw[HL.out];exact rr),HF.out];rfl
   have c2:=Ad (j:=2) HK.out rfl;have c3:=Ad (j:=3) HK.out rfl;have c4:=Ad (j:=4) HK.out rfl;clear a3
   cases o0 with
   |none=>
    simp only[Bf];go_wp2;go_ret;exact⟨by rw[HN.out];rfl,HB.out⟩
   |some d=>
    simp only[Bf];have f1:¬(d:Int)<0:=by omega
    by_cases hS:S=0
    ·subst hS;have a0:¬9223372036854775807<T+0*d:=by omega
     have d8:(0:Int)*(d:Int)=0:=Int.zero_mul _;have HN:Hid (De n rs ⟨law,ps,T,0,fin⟩ a=Ev (some d) T 0 fin):=HN.out
     have HV:Hid (Ev (some d) T 0 fin=if fin<=(T:Int)then none else some T):=by
      show(if 9223372036854775807<T+0*d then none else if fin<=((T+0*d:Nat):Int)then none else some (T+0*d))=_;rw[if_neg a0,Nat.zero_mul,Nat.add_zero]
     clear a0;by_cases hfi:fin<=(T:Int)
     ·go_wp2;go_ret;exact⟨by rw[HN.out,HV.out,if_pos hfi];rfl,HB.out⟩
     ·go_wp2;go_ret;exact⟨by rw[HN.out,HV.out,if_neg (by omega)];simp[Bf],HB.out⟩
    ·have f5:(0:Int)<(S:Int):=by omega
     have f4:¬(S:Int)=0:=by omega
     obtain⟨q,hq⟩:∃q:Nat,q=(9223372036854775807-T)/S:=⟨_,rfl⟩
     have d4:(9223372036854775807-(T:Int))/(S:Int)=(q:Int):=by
      rw[hq,show(9223372036854775807-(T:Int))=((9223372036854775807-T:Nat):Int)by omega];rfl
     have f3:Int.tdiv (9223372036854775807-(T:Int)) (S:Int)=(q:Int):=by rw[Int.tdiv_eq_ediv_of_nonneg (by omega)];exact d4
     have f9:q<=9223372036854775807:=by rw[hq];exact Nat.le_trans (Nat.div_le_self _ _) (Nat.sub_le _ _)
     have a5:(q<d)↔9223372036854775807<T+S*d:=by
      have:=Aiv (T:=T) (S:=S) (d:=d) (M:=9223372036854775807) (by omega)
      rw[hq,←this];exact⟨fun h=>⟨by omega,h⟩,fun h=>h.2⟩
     clear hq;by_cases a0:9223372036854775807<T+S*d
     ·have d5:(q:Int)<(d:Int):=by have:=a5.2 a0;omega
      have HV:Hid (Ev (some d) T S fin=none):=Abv a0;clear a0 a5;go_wp2;go_ret;exact⟨by rw[HN.out,HV.out];rfl,HB.out⟩
     ·have d5:¬(q:Int)<(d:Int):=by intro h;exact a0 (a5.1 (by omega))
      clear a5;obtain⟨sd,a2⟩:∃sd,sd=S*d:=⟨_,rfl⟩;have f6:(S:Int)*(d:Int)=(sd:Int):=by rw[a2];simp
      rw[←a2]at a0;have f7:T+sd<=9223372036854775807:=by omega
      have HV:Hid (Ev (some d) T S fin=if fin<=(T:Int)+(sd:Int)then none else some (T+sd)):=by
       show(if 9223372036854775807<T+S*d then none else if fin<=((T+S*d:Nat):Int)then none else some (T+S*d))=_;rw[←a2,if_neg a0];simp
      clear a2 a0;by_cases hfi:fin<=(T:Int)+(sd:Int)
      ·go_wp2;go_ret;exact⟨by rw[HN.out,HV.out,if_pos hfi];rfl,HB.out⟩
      ·go_wp2;go_ret;exact⟨by rw[HN.out,HV.out,if_neg (by omega)];simp[Bf],HB.out⟩
theorem Abn {ops:Array Oper}{rest:List Oper}{o:Oper}{a:Act}{w:World}{Q:Exit->Act->World->Prop}(hgd:o.guard=none)(s x:Operand)
  (ho:o.op= .call {callee:= .builtin .append,args:= #[s,x],argTypes:= #[42,42]})
  (base:Nat) (v:Value) (n:Nat) (xs:List Value) (hs:a.eval s=v) (hown:w.ownsRow base 2 1 v n xs)
  (ad:Addr) (c:Nat) (y:Value) (hx:a.eval x= .slice (some ad) 1 c) (hr:∀j u,[y][j]? =some u->w.cell? (ad.add j)=some u) (hy:y.oneCell'=true) (hl:n+1<=4096) (hbase:base<=w.heap.size)
  (h:∀v' w',w'.ownsRow base 2 1 v' (n+1) (xs++[y])->w.grownBy w' v.ownBlock->(v'.ownBlock=v.ownBlock\/v'.ownBlock=some w.heap.size)→
   wpList Tryz.prog ops Q rest (a.put o.dst v') w'):wpList Tryz.prog ops Q (o::rest) a w:=by
 obtain⟨i0,hi,a1,a2,a0⟩:=info_parts K6
 exact wpList_append_own_at w hgd s x 42 ho base 2 i0 _ 1 8 Tryz.underlying42 hi a1 a2 a0 rfl (by decide) v n xs hs hown ad 1 c [y] hx rfl hr
  (by intro u hu;simp at hu;subst hu;exact hy) (by unfold maxLen;omega) (by omega) hbase fun v' w' h1 h2 _ h4=>h v' w' h1 h2 h4
def Lc (w:World)(B:Nat)(v:Value)(l:List Int):Prop:=w.ownsRow B 2 1 v l.length (l.map (Value.int .i64))/\B<=w.heap.size
theorem Lc.nil {w:World}{B:Nat}(h:B<=w.heap.size):Lc w B (.slice none 0 0) []:=⟨World.ownsRow_nil _ _ _ _,h⟩
theorem Lc.below {w w':World}{B:Nat}{v:Value}{l:List Int}(h:Lc w B v l)(hb:Below w.heap.size w w'):Lc w' B v l:=
 ⟨Bc h.1 fun k e=>hb.block k (h.1.lt k e).2,Nat.le_trans h.2 hb.size⟩
theorem Lc.push {w W:World}{B:Nat}{v v':Value}{l:List Int}{x:Int}(h:Lc w B v l)(hown:W.ownsRow B 2 1 v' (l.length+1) (l.map (Value.int .i64)++[.int .i64 x]))(hg:w.grownBy W v.ownBlock):Lc W B v' (l++[x]):=
 ⟨by rw[List.length_append,List.map_append];exact hown,Nat.le_trans h.2 hg.size⟩
theorem Lc.grow {w W w0:World}{B:Nat}{v:Value}{l:List Int}(h:Lc w B v l)(hb:Below w0.heap.size w0 w)(hB:w0.heap.size<=B)(hg:w.grownBy W v.ownBlock):Below w0.heap.size w0 W:=
 hb.grown hg hb.size fun k e=>Nat.le_trans hB (h.1.lt k e).1
theorem C6.lon {w W:World}{r:Int×List Int}{B:Nat}{v:Value}{l:List Int}(hr:r=(0,l))(h:W.ownsRow B 2 1 v l.length (l.map (Value.int .i64)))(hb:Below w.heap.size w W):C6 w r (.returned (.tuple #[v, .int .i64 0])) W:=by
 subst hr;obtain⟨A,c,rfl⟩:=Bh h;exact⟨A,_,c,rfl,Am.of_own h (by decide),hb⟩
theorem Lc.form {w:World}{B:Nat}{v:Value}{l:List Int}(h:Lc w B v l):∃A c,v= .slice A l.length c:=Bh h.1
theorem Zg (v:Value)(n:Nat)(rs:List Bb)(x:Bu)(w:World)(hm:Gc w v n rs)(hx:Fw w x):
  Calls Tryz.prog 39 #[v,M8 x] w (C6 w (Cx n rs x.d)):=by
 have d8:=hm.few;obtain⟨⟨law,ps,T,S,fin⟩,Aw,nw,cw⟩:=x;have HM:=hI hm;have HX:=hI hx;clear hm hx;have kb:(w.alloc (.cells #[.int .i64 law, .slice Aw nw cw, .int .i64 T, .int .i64 S, .int .i64 fin] 85)).heap[w.heap.size]? =some (.cells #[.int .i64 law, .slice Aw nw cw, .int .i64 T, .int .i64 S, .int .i64 fin] 85 (0,0)):=hpt;have kB:Below w.heap.size w (w.alloc (.cells #[.int .i64 law, .slice Aw nw cw, .int .i64 T, .int .i64 S, .int .i64 fin] 85)):=bel;go_enter Tryz.func39,Tryz.ntmps39;go_wp2_with fail;obtain⟨B0,b7⟩:∃B0,B0=w.heap.size:=⟨_,rfl⟩;rw[←b7]at kb ⊢;have b9:=hI kb;have a8:=hI kB;have g3:w.heap.size<=B0:=Nat.le_of_eq b7.symm;generalize w.alloc (.cells #[.int .i64 law, .slice Aw nw cw, .int .i64 T, .int .i64 S, .int .i64 fin] 85)=W0 at*;clear b7 kb kB;refine(Hn v n rs W0 (HM.out.below a8.out)).mono ?_;rintro e w1 ⟨rfl,d3⟩;have a1:=hI ((d3.block B0 (lt_of_block b9.out)).trans b9.out);have a3:=hI (a8.out.trans (d3.mono a8.out.size));clear d3 b9 a8;by_cases hn0:n=0
 ·have HV:Hid (Cx n rs ⟨law,ps,T,S,fin⟩=(1,[])):=by show _=_;unfold Cx;rw[if_pos hn0]
  have hz:(n:Int)=0:=by omega
  go_wp2
  go_ret2
  exact C6.bad HV.out a3.out
 ·have hz:((n:Int)==0)=false:=by simpa using hn0
  have HV:Hid (Cx n rs ⟨law,ps,T,S,fin⟩=if Di n ⟨law,ps,T,S,fin⟩≠0 then(Di n ⟨law,ps,T,S,fin⟩,[])else(0,(List.range n).map fun a=>Bf (De n rs ⟨law,ps,T,S,fin⟩ a))):=by show _=_;unfold Cx;rw[if_neg hn0]
  obtain⟨b,rfl,d7⟩:=HM.out.at_ hn0;have f3:=hI d7;clear d7;have k0:=Ad (j:=0) a1.out rfl;have k1:=Ad (j:=1) a1.out rfl;have k2:=Ad (j:=2) a1.out rfl;have k3:=Ad (j:=3) a1.out rfl;have k4:=Ad (j:=4) a1.out rfl;go_wp2_with fail;clear k0 k1 k2 k3 k4;refine(Zh _ n rs ⟨⟨law,ps,T,S,fin⟩,Aw,nw,cw⟩ w1 (HM.out.below a3.out) (HX.out.below a3.out)).mono ?_;obtain⟨e1,a2⟩:∃e1,e1=Di n ⟨law,ps,T,S,fin⟩:=⟨_,rfl⟩;rw[←a2];rintro e w2 ⟨rfl,b8⟩;have b5:=hI ((b8.block B0 (lt_of_block a1.out)).trans a1.out);have a4:=hI (a3.out.trans (b8.mono a3.out.size));have a7:=hI a2;clear b8 a1 a3 a2;by_cases h10:e1=0
  ·have f7:(e1 !=0)=false:=by simp[h10]
   have f1:Hid (Di n ⟨law,ps,T,S,fin⟩=0):=by show _=_;rw[←a7.out,h10]
   have b4:Hid (Cx n rs ⟨law,ps,T,S,fin⟩=(0,(List.range n).map fun a=>Bf (De n rs ⟨law,ps,T,S,fin⟩ a))):=by show _=_;rw[HV.out,if_neg (by rw[f1.out];simp)]
   clear HV a7 h10;have f8:=a4.out.size;obtain⟨B,hB⟩:∃B,B=w2.heap.size:=⟨_,rfl⟩;have f9:w2.heap.size<=B:=by omega
   have f6:B0<B:=by rw[hB];exact lt_of_block b5.out
   have d5:Hid (Lc w2 B (.slice none 0 0) []):=Lc.nil (by omega);clear hB;go_wp2_with fail
   go_loopw [7,8] (fun s7 i wr=>∃k:Nat,k<=n/\i= .int .i64 (k:Int)/\Hid (Lc wr B s7 ((List.range k).map fun a=>Bf (De n rs ⟨law,ps,T,S,fin⟩ a)))/\Hid (Below w2.heap.size w2 wr)) (fun _ i _=>n-(intOf i).toNat)
   case atStart=>exact⟨0,Nat.zero_le _,rfl,d5.out,Below.refl _ _⟩
   case round=>
    obtain⟨k,hk,rfl,HN,HB⟩:=hrel;clear d5;have HK:=hI ((HB.out.block B0 (lt_of_block b5.out)).trans b5.out);have d9:=hI (a4.out.trans (HB.out.mono a4.out.size));go_wp2_with fail;refine(Hn _ n rs wr (HM.out.below d9.out)).mono ?_;rintro e w3 ⟨rfl,b1⟩;have b0:=hI (HN.out.below b1);have a9:=hI (HB.out.trans (b1.mono HB.out.size));have a5:=hI ((b1.block B0 (lt_of_block HK.out)).trans HK.out);have a0:=hI (a4.out.trans (a9.out.mono a4.out.size));clear b1 HN HB HK d9;by_cases hlt:k<n
    ·have g1:(k:Int)<(n:Int):=by omega
     have k0:=Ad (j:=0) a5.out rfl;have k1:=Ad (j:=1) a5.out rfl;have k2:=Ad (j:=2) a5.out rfl;have k3:=Ad (j:=3) a5.out rfl;have k4:=Ad (j:=4) a5.out rfl;go_wp2_with fail;clear k0 k1 k2 k3 k4;refine(Ff b n rs ⟨⟨law,ps,T,S,fin⟩,Aw,nw,cw⟩ k w3 (f3.out.below a0.out) (HX.out.below a0.out) f1.out hlt).mono ?_;obtain⟨t,ht⟩:∃t,t=Bf (De n rs ⟨law,ps,T,S,fin⟩ k):=⟨_,rfl⟩;rw[←ht];obtain⟨L,hL⟩:∃L,L=(List.range k).map fun a=>Bf (De n rs ⟨law,ps,T,S,fin⟩ a):=⟨_,rfl⟩
     have f2:Hid (((List.range (k+1)).map fun a=>Bf (De n rs ⟨law,ps,T,S,fin⟩ a))=L++[t]):=by show _=_;rw[List.range_succ,List.map_append,←hL,ht];rfl
     have d4:L.length=k:=by rw[hL];simp
     rw[←hL]at b0;rintro e w4 ⟨rfl,d2⟩;have b2:=hI (b0.out.below d2);have d1:=hI (a9.out.trans (d2.mono a9.out.size));clear d2 b0 a9 a5 a0 ht hL;obtain⟨A8,c8,f5⟩:=b2.out.form;subst f5;have b3:L.length+1<=4096:=by omega
     have g2:=hI d4;clear d4;have b6:=b2.out.below ((Below.refl _ w4).alloc rr (.cells #[.int .i64 t] 2));have d0:=hI b6;have f4:=b6.2;have g0:Hid (Below w2.heap.size w2 (w4.alloc (.cells #[.int .i64 t] 2))):=d1.out.alloc d1.out.size _;clear b6 b2 d1;go_wp2_with(at_builtin;refine Abn rfl (.tmp 24) (.tmp 29) rfl B (.slice A8 L.length c8) L.length (L.map (Value.int .i64)) rfl d0.out.1 ⟨w4.heap.size,0,none⟩ 1 (.int .i64 t) rfl (cell_one_new _ _ _) rfl b3 f4 ?hc)
     case hc=>
      intro v' w5 a6 hg _;have f0:=hI (d0.out.push a6 hg);have d6:=hI (d0.out.grow g0.out f9 hg);clear a6 hg;go_wp2_with fail
      go_roundw
      case rel=>first|exact⟨k+1,by omega,by go_num,by show Lc _ _ _ _;rw[f2.out];exact f0.out,d6.out⟩|((repeat apply Exists.intro);exact⟨⟨k+1,by omega,by go_num,by show Lc _ _ _ _;rw[f2.out];exact f0.out,d6.out⟩,rfl⟩)
      case measure=>simp[intOf];omega
    ·obtain rfl:k=n:=by omega
     go_wp2
     go_ret2
     exact C6.lon b4.out b0.out.1 a0.out
  ·have f7:(e1 !=0)=true:=by simpa using h10
   have b4:Hid (Cx n rs ⟨law,ps,T,S,fin⟩=(e1,[])):=by show _=_;rw[HV.out,if_pos (by rw[←a7.out];exact h10),a7.out]
   clear HV a7 h10;go_wp2
   go_ret2
   exact C6.bad b4.out a4.out
end Go.Proofs.YtaglfmlgbcmakaaGreatDoor
