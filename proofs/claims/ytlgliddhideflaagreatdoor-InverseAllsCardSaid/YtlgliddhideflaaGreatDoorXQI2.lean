/-
  ablautlaw11.InverseAlls is true of every input. Conditions: those of the row's own cells, no other.
-/
import Derived.Test.YtlgliddhideflaaGreatDoorXT112
import Derived.Test.YtlgliddhideflaaGreatDoorG29
import Derived.Test.YtlgliddhideflaaGreatDoorG51
import Derived.Test.YtlgliddhideflaaGreatDoorTie
set_option linter.all false
set_option maxRecDepth 100000
set_option maxHeartbeats 4000000
namespace Go.Proofs.YtlgliddhideflaaGreatDoor
open Go.RowKit Go.ChangeShapes Go.WideShapes Go.ChangeAt
theorem Ph (os:Os)(started:os.Started)(H:Type)(enc:TypeId×Value->H):
  ReturnsInHanded {} Tryz.checked os 10 .any (fun w args=>(Rows.inverseAllsSpec.pre enc Tryz.prog Tryz.f10 [] false w args/\laidMetH Tryz.prog Hf w)/\sizedMet enc Tryz.prog Tryz.f10 (OpenSpec.ofChange Rows.inverseAllsSpec) false w args)
   (Rows.inverseAllsSpec.post enc Tryz.prog Tryz.f10 false true false false):=by
 refine returnsInHanded_of_change_and (C:=Tryz.checked) (X:=fun w _=>laidMetH Tryz.prog Hf w) (fun _ _ _ hh h=>h.of_heap hh) Qa started (by kernel_rfl) Tryz.func10
  (ChangeSpec.witness_shaped (enc:=enc) (C:=Tryz.checked) (os:=os) (X:=fun w _=>laidMetH Tryz.prog Hf w) false (World.laidAll Tryz.prog os Hf) #[.slice none 0 0, .slice none 0 0, .slice none 0 0, .int .i64 0] 8 (World.laidAll_os _ _ _)
   (World.shaped_of_ZipB (by kernel_rfl) (by kernel_rfl)) (by kernel_rfl) (by kernel_rfl) (by kernel_rfl)
   (by rw[MakeChecks.laidMetH_plain _ _ _ (by kernel_rfl)];exact laidMet_laidAll _ (by kernel_rfl) (by kernel_rfl))) ?_
 intro W base args ds gs before a1 hW _ _ hL _;have a0:∀(j:Nat) t v,Tryz.f10.params[j]? =some t->args[j]? =some v->Value.okWide Tryz.prog W .any base t v:=a1;have a8:=hW;obtain⟨p,q,a9,hV,rfl,_,_⟩:=hW;have hA:DataW.TrodAll enc Tryz.prog W 0 (fun _=>true) true Tryz.f10.params.toList args.toList ds p:=a9;rw[Tryz.params10]at hA a0;obtain⟨v0,v1,v2,v3,d0,d1,d2,d3,p0,p1,p2,p3,rfl,rfl,rfl,h0,h1,h2,h3⟩:=trodAll_four hA;obtain⟨rfl,rfl⟩:=trodVars_none hV;obtain⟨A0,n0,c0,rfl⟩:=okWide_slice Tryz.underlying35 (a0 0 35 v0 rfl rfl);obtain⟨A1,n1,c1,rfl⟩:=okWide_slice Tryz.underlying32 (a0 1 32 v1 rfl rfl);obtain⟨A2,n2,c2,rfl⟩:=okWide_slice Tryz.underlying32 (a0 2 32 v2 rfl rfl);obtain⟨a3,rfl,rfl,rfl,wa3⟩:=open_int Tryz.underlying3 (a0 3 3 v3 rfl rfl) h3;clear a9 a1;simp only[List.append_nil]at a8;have a7:∀x∈p0++p1++p2++[],x.block<W.heap.size:=fun x hx=>by simpa using a8.lt x (by simpa using hx)
 obtain⟨xs0,b0⟩:=Vs h0;obtain⟨xs1,b1⟩:=Ho h1;obtain⟨xs2,b2⟩:=Ho h2;refine(Amb _ _ _ xs0 _ _ _ xs1 _ _ _ xs2 a3 W b0 b1 b2 (Kj hL)).mono fun e W' ⟨he,hb⟩=> ?_
 subst he;have a5:=Below.trod Ed (by kernel_rfl) (of_decide_eq_true (by kernel_rfl)) h0 hb (fun x hx=>a7 x (List.mem_append.2 (.inl (List.mem_append.2 (.inl (List.mem_append.2 (.inl hx)))))))
 have a6:=Below.trod Ed (by kernel_rfl) (of_decide_eq_true (by kernel_rfl)) h1 hb (fun x hx=>a7 x (List.mem_append.2 (.inl (List.mem_append.2 (.inl (List.mem_append.2 (.inr hx)))))))
 have a4:=Below.trod Ed (by kernel_rfl) (of_decide_eq_true (by kernel_rfl)) h2 hb (fun x hx=>a7 x (List.mem_append.2 (.inl (List.mem_append.2 (.inr hx)))))
 have a2:=Below.trod Ed (by kernel_rfl) (of_decide_eq_true (by kernel_rfl)) h3 hb (fun x hx=>a7 x (List.mem_append.2 (.inr hx)));exact⟨_,rfl,_,_,_,[],_,[],a8,trodAll_mk1 (shut_bool Tryz.underlying4 _),trodAll_mk4 a5 a6 a4 a2,rfl,hb.frame _,fun h=>by cases h⟩
theorem Vx:Tryz.pinned.checked.prog.funcNamed Rows.inverseAllsRow.func=some 10:=by kernel_rfl
theorem Ub:(Rows.inverseAllsRow.inPlace==Program.inPlace Tryz.pinned.checked.prog 10)=true:=by kernel_rfl
theorem Uc:(Rows.inverseAllsRow.unfollowed==Program.unfollowed Tryz.pinned.checked.prog 10)=true:=by kernel_rfl
theorem Ud:(Rows.inverseAllsRow.recurses==Program.recurses Tryz.pinned.checked.prog 10)=true:=by kernel_rfl
theorem Ue:(Rows.inverseAllsRow.named==Program.varsNamed Tryz.pinned.checked.prog 10)=true:=by kernel_rfl
theorem Uf:(Rows.inverseAllsRow.lifted==Program.liftsFinal Tryz.pinned.checked.prog)=true:=by kernel_rfl
theorem Ug:(Rows.inverseAllsRow.plainKeys==Program.plainKeys Tryz.pinned.checked.prog)=true:=by kernel_rfl
theorem Vy:joinedFacts Tryz.pinned.checked.prog 10 Tryz.f10 Rows.inverseAllsSpec Rows.inverseAllsRow=true:=by
 unfold joinedFacts;rw[Ub,Uc,Ud,Ue,Uf,Ug,Ux,Uy,Re,Rf];kernel_rfl
theorem Vz:Func.isInstance Tryz.pinned.checked.prog Tryz.f10 Rows.inverseAllsRow.origin Rows.inverseAllsRow.targs:=of_decide_eq_true (by kernel_rfl)
theorem V5:Func.isWrapper Tryz.pinned.checked.prog Tryz.f10 Rows.inverseAllsRow.wrapper Rows.inverseAllsRow.mainSum:=by unfold Func.isWrapper;first|(rw[if_pos (by decide+kernel)];kernel_rfl)|(rw[if_neg (by decide+kernel)];exact⟨rfl,rfl⟩)
theorem Uh:Rows.InverseAllsSaid:=
 OpenClaim.holds_of_wide 10 Tryz.f10 rfl rfl rfl rfl rfl rfl rfl ⟨rfl,rfl,rfl,rfl,rfl⟩ rfl rfl rfl rfl rfl Vx Tryz.func10 Vy
  Vz V5
  (fun os started H enc _=>Ph os started H enc)
end Go.Proofs.YtlgliddhideflaaGreatDoor
