/-
  ablautlaw11.InverseFixes is true of every input. Conditions: those of the row's own cells, no other.
-/
import Derived.Test.YtlgliddhideflaaGreatDoorXT114
import Derived.Test.YtlgliddhideflaaGreatDoorG50
import Derived.Test.YtlgliddhideflaaGreatDoorG51
import Derived.Test.YtlgliddhideflaaGreatDoorTie
set_option linter.all false
set_option maxRecDepth 100000
set_option maxHeartbeats 4000000
namespace Go.Proofs.YtlgliddhideflaaGreatDoor
open Go.RowKit Go.ChangeShapes Go.WideShapes Go.ChangeAt
theorem Nx (os:Os)(started:os.Started)(H:Type)(enc:TypeId×Value->H):
  ReturnsInHanded {} Tryz.checked os 7 .any (fun w args=>(Rows.inverseFixesSpec.pre enc Tryz.prog Tryz.f7 [] false w args/\laidMetH Tryz.prog Hf w)/\sizedMet enc Tryz.prog Tryz.f7 (OpenSpec.ofChange Rows.inverseFixesSpec) false w args)
   (Rows.inverseFixesSpec.post enc Tryz.prog Tryz.f7 false true false false):=by
 refine returnsInHanded_of_change_and (C:=Tryz.checked) (X:=fun w _=>laidMetH Tryz.prog Hf w) (fun _ _ _ hh h=>h.of_heap hh) Qa started (by kernel_rfl) Tryz.func7
  (ChangeSpec.witness_shaped (enc:=enc) (C:=Tryz.checked) (os:=os) (X:=fun w _=>laidMetH Tryz.prog Hf w) false (World.laidAll Tryz.prog os Hf) #[Apu, .slice none 0 0, .int .i64 0] 8 (World.laidAll_os _ _ _)
   (World.shaped_of_ZipB (by kernel_rfl) (by kernel_rfl)) (by kernel_rfl) (by kernel_rfl) (by kernel_rfl)
   (by rw[MakeChecks.laidMetH_plain _ _ _ (by kernel_rfl)];exact laidMet_laidAll _ (by kernel_rfl) (by kernel_rfl))) ?_
 intro W base args ds gs before a1 hW _ _ hL _;have a0:∀(j:Nat) t v,Tryz.f7.params[j]? =some t->args[j]? =some v->Value.okWide Tryz.prog W .any base t v:=a1;have a7:=hW;obtain⟨p,q,a8,hV,rfl,_,_⟩:=hW;have hA:DataW.TrodAll enc Tryz.prog W 0 (fun _=>true) true Tryz.f7.params.toList args.toList ds p:=a8;rw[Tryz.params7]at hA a0;obtain⟨v0,v1,v2,d0,d1,d2,p0,p1,p2,rfl,rfl,rfl,h0,h1,h2⟩:=trodAll_three hA;obtain⟨rfl,rfl⟩:=trodVars_none hV;obtain⟨A0,rfl,_⟩:=okWide_struct Tryz.underlying34 (a0 0 34 v0 rfl rfl);obtain⟨A1,n1,c1,rfl⟩:=okWide_slice Tryz.underlying32 (a0 1 32 v1 rfl rfl);obtain⟨a2,rfl,rfl,rfl,wa2⟩:=open_int Tryz.underlying3 (a0 2 3 v2 rfl rfl) h2;clear a8 a1;simp only[List.append_nil]at a7;have a6:∀x∈p0++p1++[],x.block<W.heap.size:=fun x hx=>by simpa using a7.lt x (by simpa using hx)
 obtain⟨xs0,rfl,b0⟩:=Yb h0;obtain⟨xs1,a9⟩:=Ho h1;refine(Akn xs0.l xs0.a _ _ _ xs1 a2 W b0 a9 (Kj hL)).mono fun e W' ⟨he,hb⟩=> ?_
 subst he;have a5:=Below.trod Ed (by kernel_rfl) (of_decide_eq_true (by kernel_rfl)) h0 hb (fun x hx=>a6 x (List.mem_append.2 (.inl (List.mem_append.2 (.inl hx)))))
 have a4:=Below.trod Ed (by kernel_rfl) (of_decide_eq_true (by kernel_rfl)) h1 hb (fun x hx=>a6 x (List.mem_append.2 (.inl (List.mem_append.2 (.inr hx)))))
 have a3:=Below.trod Ed (by kernel_rfl) (of_decide_eq_true (by kernel_rfl)) h2 hb (fun x hx=>a6 x (List.mem_append.2 (.inr hx)));exact⟨_,rfl,_,_,_,[],_,[],a7,trodAll_mk1 (shut_bool Tryz.underlying4 _),trodAll_mk3 a5 a4 a3,rfl,hb.frame _,fun h=>by cases h⟩
theorem Ui:Tryz.pinned.checked.prog.funcNamed Rows.inverseFixesRow.func=some 7:=by kernel_rfl
theorem Sh:(Rows.inverseFixesRow.inPlace==Program.inPlace Tryz.pinned.checked.prog 7)=true:=by kernel_rfl
theorem Si:(Rows.inverseFixesRow.unfollowed==Program.unfollowed Tryz.pinned.checked.prog 7)=true:=by kernel_rfl
theorem Sj:(Rows.inverseFixesRow.recurses==Program.recurses Tryz.pinned.checked.prog 7)=true:=by kernel_rfl
theorem Sk:(Rows.inverseFixesRow.named==Program.varsNamed Tryz.pinned.checked.prog 7)=true:=by kernel_rfl
theorem Sl:(Rows.inverseFixesRow.lifted==Program.liftsFinal Tryz.pinned.checked.prog)=true:=by kernel_rfl
theorem Sm:(Rows.inverseFixesRow.plainKeys==Program.plainKeys Tryz.pinned.checked.prog)=true:=by kernel_rfl
theorem Uj:joinedFacts Tryz.pinned.checked.prog 7 Tryz.f7 Rows.inverseFixesSpec Rows.inverseFixesRow=true:=by
 unfold joinedFacts;rw[Sh,Si,Sj,Sk,Sl,Sm,Ux,Uy,Re,Rf];kernel_rfl
theorem Uk:Func.isInstance Tryz.pinned.checked.prog Tryz.f7 Rows.inverseFixesRow.origin Rows.inverseFixesRow.targs:=of_decide_eq_true (by kernel_rfl)
theorem Ul:Func.isWrapper Tryz.pinned.checked.prog Tryz.f7 Rows.inverseFixesRow.wrapper Rows.inverseFixesRow.mainSum:=by unfold Func.isWrapper;first|(rw[if_pos (by decide+kernel)];kernel_rfl)|(rw[if_neg (by decide+kernel)];exact⟨rfl,rfl⟩)
theorem Sn:Rows.InverseFixesSaid:=
 OpenClaim.holds_of_wide 7 Tryz.f7 rfl rfl rfl rfl rfl rfl rfl ⟨rfl,rfl,rfl,rfl,rfl⟩ rfl rfl rfl rfl rfl Ui Tryz.func7 Uj
  Uk Ul
  (fun os started H enc _=>Nx os started H enc)
end Go.Proofs.YtlgliddhideflaaGreatDoor
