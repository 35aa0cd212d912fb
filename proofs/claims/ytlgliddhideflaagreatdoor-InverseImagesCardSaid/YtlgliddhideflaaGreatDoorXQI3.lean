/-
  ablautlaw11.InverseImages is true of every input. Conditions: those of the row's own cells, no other.
-/
import Derived.Test.YtlgliddhideflaaGreatDoorXT113
import Derived.Test.YtlgliddhideflaaGreatDoorG29
import Derived.Test.YtlgliddhideflaaGreatDoorG51
import Derived.Test.YtlgliddhideflaaGreatDoorTie
set_option linter.all false
set_option maxRecDepth 100000
set_option maxHeartbeats 4000000
namespace Go.Proofs.YtlgliddhideflaaGreatDoor
open Go.RowKit Go.ChangeShapes Go.WideShapes Go.ChangeAt
theorem M2 (os:Os)(started:os.Started)(H:Type)(enc:TypeId×Value->H):
  ReturnsInHanded {} Tryz.checked os 6 .any (fun w args=>(Rows.inverseImagesSpec.pre enc Tryz.prog Tryz.f6 [] false w args/\laidMetH Tryz.prog Hf w)/\sizedMet enc Tryz.prog Tryz.f6 (OpenSpec.ofChange Rows.inverseImagesSpec) false w args)
   (Rows.inverseImagesSpec.post enc Tryz.prog Tryz.f6 false true false false):=by
 refine returnsInHanded_of_change_and (C:=Tryz.checked) (X:=fun w _=>laidMetH Tryz.prog Hf w) (fun _ _ _ hh h=>h.of_heap hh) Qa started (by kernel_rfl) Tryz.func6
  (ChangeSpec.witness_shaped (enc:=enc) (C:=Tryz.checked) (os:=os) (X:=fun w _=>laidMetH Tryz.prog Hf w) false (World.laidAll Tryz.prog os Hf) #[.slice none 0 0, .slice none 0 0, .int .i64 0] 8 (World.laidAll_os _ _ _)
   (World.shaped_of_ZipB (by kernel_rfl) (by kernel_rfl)) (by kernel_rfl) (by kernel_rfl) (by kernel_rfl)
   (by rw[MakeChecks.laidMetH_plain _ _ _ (by kernel_rfl)];exact laidMet_laidAll _ (by kernel_rfl) (by kernel_rfl))) ?_
 intro W base args ds gs before a1 hW _ _ hL _;have a0:∀(j:Nat) t v,Tryz.f6.params[j]? =some t->args[j]? =some v->Value.okWide Tryz.prog W .any base t v:=a1;have a6:=hW;obtain⟨p,q,a8,hV,rfl,_,_⟩:=hW;have hA:DataW.TrodAll enc Tryz.prog W 0 (fun _=>true) true Tryz.f6.params.toList args.toList ds p:=a8;rw[Tryz.params6]at hA a0;obtain⟨v0,v1,v2,d0,d1,d2,p0,p1,p2,rfl,rfl,rfl,h0,h1,h2⟩:=trodAll_three hA;obtain⟨rfl,rfl⟩:=trodVars_none hV;obtain⟨A0,n0,c0,rfl⟩:=okWide_slice Tryz.underlying35 (a0 0 35 v0 rfl rfl);obtain⟨A1,n1,c1,rfl⟩:=okWide_slice Tryz.underlying32 (a0 1 32 v1 rfl rfl);obtain⟨a2,rfl,rfl,rfl,wa2⟩:=open_int Tryz.underlying3 (a0 2 3 v2 rfl rfl) h2;clear a8 a1;simp only[List.append_nil]at a6;have a7:∀x∈p0++p1++[],x.block<W.heap.size:=fun x hx=>by simpa using a6.lt x (by simpa using hx)
 obtain⟨xs0,b0⟩:=Vs h0;obtain⟨xs1,a9⟩:=Ho h1;refine(Ahj _ _ _ xs0 _ _ _ xs1 a2 W b0 a9 (Kj hL)).mono fun e W' ⟨he,hb⟩=> ?_
 subst he;have a3:=Below.trod Ed (by kernel_rfl) (of_decide_eq_true (by kernel_rfl)) h0 hb (fun x hx=>a7 x (List.mem_append.2 (.inl (List.mem_append.2 (.inl hx)))))
 have a5:=Below.trod Ed (by kernel_rfl) (of_decide_eq_true (by kernel_rfl)) h1 hb (fun x hx=>a7 x (List.mem_append.2 (.inl (List.mem_append.2 (.inr hx)))))
 have a4:=Below.trod Ed (by kernel_rfl) (of_decide_eq_true (by kernel_rfl)) h2 hb (fun x hx=>a7 x (List.mem_append.2 (.inr hx)));exact⟨_,rfl,_,_,_,[],_,[],a6,trodAll_mk1 (shut_bool Tryz.underlying4 _),trodAll_mk3 a3 a5 a4,rfl,hb.frame _,fun h=>by cases h⟩
theorem Sd:Tryz.pinned.checked.prog.funcNamed Rows.inverseImagesRow.func=some 6:=by kernel_rfl
theorem Qo:(Rows.inverseImagesRow.inPlace==Program.inPlace Tryz.pinned.checked.prog 6)=true:=by kernel_rfl
theorem Qp:(Rows.inverseImagesRow.unfollowed==Program.unfollowed Tryz.pinned.checked.prog 6)=true:=by kernel_rfl
theorem Qq:(Rows.inverseImagesRow.recurses==Program.recurses Tryz.pinned.checked.prog 6)=true:=by kernel_rfl
theorem Qr:(Rows.inverseImagesRow.named==Program.varsNamed Tryz.pinned.checked.prog 6)=true:=by kernel_rfl
theorem Qs:(Rows.inverseImagesRow.lifted==Program.liftsFinal Tryz.pinned.checked.prog)=true:=by kernel_rfl
theorem Qt:(Rows.inverseImagesRow.plainKeys==Program.plainKeys Tryz.pinned.checked.prog)=true:=by kernel_rfl
theorem Se:joinedFacts Tryz.pinned.checked.prog 6 Tryz.f6 Rows.inverseImagesSpec Rows.inverseImagesRow=true:=by
 unfold joinedFacts;rw[Qo,Qp,Qq,Qr,Qs,Qt,Ux,Uy,Re,Rf];kernel_rfl
theorem Sf:Func.isInstance Tryz.pinned.checked.prog Tryz.f6 Rows.inverseImagesRow.origin Rows.inverseImagesRow.targs:=of_decide_eq_true (by kernel_rfl)
theorem Sg:Func.isWrapper Tryz.pinned.checked.prog Tryz.f6 Rows.inverseImagesRow.wrapper Rows.inverseImagesRow.mainSum:=by unfold Func.isWrapper;first|(rw[if_pos (by decide+kernel)];kernel_rfl)|(rw[if_neg (by decide+kernel)];exact⟨rfl,rfl⟩)
theorem Qu:Rows.InverseImagesSaid:=
 OpenClaim.holds_of_wide 6 Tryz.f6 rfl rfl rfl rfl rfl rfl rfl ⟨rfl,rfl,rfl,rfl,rfl⟩ rfl rfl rfl rfl rfl Sd Tryz.func6 Se
  Sf Sg
  (fun os started H enc _=>M2 os started H enc)
end Go.Proofs.YtlgliddhideflaaGreatDoor
