/-
  ablauttop.TopWaves returns true for every input, and never panics. Conditions: those of the row's own cells, no other.
-/
import Derived.Test.YtaglfmlgbcmakaaGreatDoorXT386
import Derived.Test.YtaglfmlgbcmakaaGreatDoorH09
import Derived.Test.YtaglfmlgbcmakaaGreatDoorG51
import Derived.Test.YtaglfmlgbcmakaaGreatDoorTie
set_option linter.all false
set_option maxRecDepth 100000
set_option maxHeartbeats 4000000
namespace Go.Proofs.YtaglfmlgbcmakaaGreatDoor
open Go.RowKit Go.ChangeShapes Go.WideShapes Go.ChangeAt
theorem Qt (os:Os)(started:os.Started)(H:Type)(enc:TypeId×Value->H):
  ReturnsInHanded {} Tryz.checked os 3 .any (fun w args=>(Rows.topWavesSpec.pre enc Tryz.prog Tryz.f3 [] false w args/\laidMetH Tryz.prog Gh w)/\sizedMet enc Tryz.prog Tryz.f3 (OpenSpec.ofChange Rows.topWavesSpec) false w args)
   (Rows.topWavesSpec.post enc Tryz.prog Tryz.f3 false true false false):=by
 refine returnsInHanded_of_change_and (C:=Tryz.checked) (X:=fun w _=>laidMetH Tryz.prog Gh w) (fun _ _ _ hh h=>h.of_heap hh) M2 started (by kernel_rfl) Tryz.func3
  (ChangeSpec.witness_shaped (enc:=enc) (C:=Tryz.checked) (os:=os) (X:=fun w _=>laidMetH Tryz.prog Gh w) false (World.laidAll Tryz.prog os Gh) #[.agg #[.slice none 0 0, .slice none 0 0], .slice none 0 0, .slice none 0 0, .slice none 0 0, .int .i64 0] 8 (World.laidAll_os _ _ _)
   (World.shaped_of_ZipB (by kernel_rfl) (by kernel_rfl)) (by kernel_rfl) (by kernel_rfl) (by kernel_rfl)
   (by rw[MakeChecks.laidMetH_plain _ _ _ (by kernel_rfl)];exact laidMet_laidAll _ (by kernel_rfl) (by kernel_rfl))) ?_
 intro W base args ds gs before a1 hW _ _ hL _;have a0:∀(j:Nat) t v,Tryz.f3.params[j]? =some t->args[j]? =some v->Value.okWide Tryz.prog W .any base t v:=a1;have a9:=hW;obtain⟨p,q,b0,hV,rfl,_,_⟩:=hW;have hA:DataW.TrodAll enc Tryz.prog W 0 (fun _=>true) true Tryz.f3.params.toList args.toList ds p:=b0;rw[Tryz.params3]at hA a0;obtain⟨v0,v1,v2,v3,v4,d0,d1,d2,d3,d4,p0,p1,p2,p3,p4,rfl,rfl,rfl,h0,h1,h2,h3,h4⟩:=Wf hA;obtain⟨rfl,rfl⟩:=trodVars_none hV;obtain⟨A0,rfl,_⟩:=okWide_struct Tryz.underlying25 (a0 0 25 v0 rfl rfl);obtain⟨A1,n1,c1,rfl⟩:=okWide_slice Tryz.underlying26 (a0 1 26 v1 rfl rfl);obtain⟨A2,n2,c2,rfl⟩:=okWide_slice Tryz.underlying27 (a0 2 27 v2 rfl rfl);obtain⟨A3,n3,c3,rfl⟩:=okWide_slice Tryz.underlying28 (a0 3 28 v3 rfl rfl);obtain⟨a4,rfl,rfl,rfl,wa4⟩:=open_int Tryz.underlying2 (a0 4 2 v4 rfl rfl) h4;clear b0 a1;simp only[List.append_nil]at a9;have a8:∀x∈p0++p1++p2++p3++[],x.block<W.heap.size:=fun x hx=>by simpa using a9.lt x (by simpa using hx)
 obtain⟨xs0,rfl,b1⟩:=Ag3 h0;obtain⟨xs1,b4⟩:=Ads h1;obtain⟨xs2,b3⟩:=Aa4 h2;obtain⟨xs3,b2⟩:=Adt h3;refine(Aby xs0.An xs0.nn xs0.cn xs0.names xs0.Ar xs0.nr xs0.cr xs0.roads _ _ _ xs1 _ _ _ xs2 _ _ _ xs3 a4 W b1.1 b1.2 b4 b3 b2 (Hw hL)).mono fun e W' ⟨he,hb⟩=> ?_
 subst he;have a2:=Below.trod Gt (by kernel_rfl) (of_decide_eq_true (by kernel_rfl)) h0 hb (fun x hx=>a8 x (List.mem_append.2 (.inl (List.mem_append.2 (.inl (List.mem_append.2 (.inl (List.mem_append.2 (.inl hx)))))))))
 have a7:=Below.trod Gt (by kernel_rfl) (of_decide_eq_true (by kernel_rfl)) h1 hb (fun x hx=>a8 x (List.mem_append.2 (.inl (List.mem_append.2 (.inl (List.mem_append.2 (.inl (List.mem_append.2 (.inr hx)))))))))
 have a5:=Below.trod Gt (by kernel_rfl) (of_decide_eq_true (by kernel_rfl)) h2 hb (fun x hx=>a8 x (List.mem_append.2 (.inl (List.mem_append.2 (.inl (List.mem_append.2 (.inr hx)))))))
 have a3:=Below.trod Gt (by kernel_rfl) (of_decide_eq_true (by kernel_rfl)) h3 hb (fun x hx=>a8 x (List.mem_append.2 (.inl (List.mem_append.2 (.inr hx)))))
 have a6:=Below.trod Gt (by kernel_rfl) (of_decide_eq_true (by kernel_rfl)) h4 hb (fun x hx=>by cases hx);exact⟨_,rfl,_,_,_,[],_,[],a9,trodAll_mk1 (shut_bool Tryz.underlying4 _),Yt a2 a7 a5 a3 a6,rfl,hb.frame _,fun h=>by cases h⟩
theorem Y8:Tryz.pinned.checked.prog.funcNamed Rows.topWavesRow.func=some 3:=by kernel_rfl
theorem Wj:(Rows.topWavesRow.inPlace==Program.inPlace Tryz.pinned.checked.prog 3)=true:=by kernel_rfl
theorem Wk:(Rows.topWavesRow.unfollowed==Program.unfollowed Tryz.pinned.checked.prog 3)=true:=by kernel_rfl
theorem Wl:(Rows.topWavesRow.recurses==Program.recurses Tryz.pinned.checked.prog 3)=true:=by kernel_rfl
theorem Wm:(Rows.topWavesRow.named==Program.varsNamed Tryz.pinned.checked.prog 3)=true:=by kernel_rfl
theorem Wn:(Rows.topWavesRow.lifted==Program.liftsFinal Tryz.pinned.checked.prog)=true:=by kernel_rfl
theorem Wo:(Rows.topWavesRow.plainKeys==Program.plainKeys Tryz.pinned.checked.prog)=true:=by kernel_rfl
theorem Y9:joinedFacts Tryz.pinned.checked.prog 3 Tryz.f3 Rows.topWavesSpec Rows.topWavesRow=true:=by
 unfold joinedFacts;rw[Wj,Wk,Wl,Wm,Wn,Wo,Rk,Rl,Nx,Ny];kernel_rfl
theorem Za:Func.isInstance Tryz.pinned.checked.prog Tryz.f3 Rows.topWavesRow.origin Rows.topWavesRow.targs:=of_decide_eq_true (by kernel_rfl)
theorem Zb:Func.isWrapper Tryz.pinned.checked.prog Tryz.f3 Rows.topWavesRow.wrapper Rows.topWavesRow.mainSum:=by unfold Func.isWrapper;first|(rw[if_pos (by decide+kernel)];kernel_rfl)|(rw[if_neg (by decide+kernel)];exact⟨rfl,rfl⟩)
theorem Wp:Rows.TopWavesSaid:=
 OpenClaim.holds_of_wide 3 Tryz.f3 rfl rfl rfl rfl rfl rfl rfl ⟨rfl,rfl,rfl,rfl,rfl⟩ rfl rfl rfl rfl rfl Y8 Tryz.func3 Y9
  Za Zb
  (fun os started H enc _=>Qt os started H enc)
end Go.Proofs.YtaglfmlgbcmakaaGreatDoor
