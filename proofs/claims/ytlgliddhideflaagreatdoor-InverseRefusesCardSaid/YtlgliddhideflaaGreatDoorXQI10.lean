/-
  ablautlaw11.InverseRefuses is true of every input. Conditions: those of the row's own cells, no other.
-/
import Derived.Test.YtlgliddhideflaaGreatDoorXT11B
import Derived.Test.YtlgliddhideflaaGreatDoorG51
import Derived.Test.YtlgliddhideflaaGreatDoorTie
set_option linter.all false
set_option maxRecDepth 100000
set_option maxHeartbeats 4000000
namespace Go.Proofs.YtlgliddhideflaaGreatDoor
open Go.RowKit Go.ChangeShapes Go.WideShapes Go.ChangeAt
theorem Jc (os:Os)(started:os.Started)(H:Type)(enc:TypeId×Value->H):
  ReturnsInHanded {} Tryz.checked os 14 .any (fun w args=>(Rows.inverseRefusesSpec.pre enc Tryz.prog Tryz.f14 [] false w args/\laidMetH Tryz.prog Qq w)/\sizedMet enc Tryz.prog Tryz.f14 (OpenSpec.ofChange Rows.inverseRefusesSpec) false w args)
   (Rows.inverseRefusesSpec.post enc Tryz.prog Tryz.f14 false true false false):=by
 refine returnsInHanded_of_change_and (C:=Tryz.checked) (X:=fun w _=>laidMetH Tryz.prog Qq w) (fun _ _ _ hh h=>h.of_heap hh) Z6 started (by kernel_rfl) Tryz.func14
  (ChangeSpec.witness_shaped (enc:=enc) (C:=Tryz.checked) (os:=os) (X:=fun w _=>laidMetH Tryz.prog Qq w) false (World.laidAll Tryz.prog os Qq) #[.int .u8 0, .int .i64 0, .int .i64 0] 8 (World.laidAll_os _ _ _)
   (World.shaped_of_ZipB (by kernel_rfl) (by kernel_rfl)) (by kernel_rfl) (by kernel_rfl) (by kernel_rfl)
   (by rw[MakeChecks.laidMetH_plain _ _ _ (by kernel_rfl)];exact laidMet_laidAll _ (by kernel_rfl) (by kernel_rfl))) ?_
 intro W base args ds gs before a4 hW _ _ hL _;have a3:∀(j:Nat) t v,Tryz.f14.params[j]? =some t->args[j]? =some v->Value.okWide Tryz.prog W .any base t v:=a4;have a9:=hW;obtain⟨p,q,a8,hV,rfl,_,_⟩:=hW;have hA:DataW.TrodAll enc Tryz.prog W 0 (fun _=>true) true Tryz.f14.params.toList args.toList ds p:=a8;rw[Tryz.params14]at hA a3;obtain⟨v0,v1,v2,d0,d1,d2,p0,p1,p2,rfl,rfl,rfl,h0,h1,h2⟩:=trodAll_three hA;obtain⟨rfl,rfl⟩:=trodVars_none hV;obtain⟨a0,rfl,rfl,rfl,wa0⟩:=open_int Tryz.underlying5 (a3 0 5 v0 rfl rfl) h0;obtain⟨lo0,b0⟩:=Xz wa0;obtain⟨a1,rfl,rfl,rfl,wa1⟩:=open_int Tryz.underlying3 (a3 1 3 v1 rfl rfl) h1;obtain⟨a2,rfl,rfl,rfl,wa2⟩:=open_int Tryz.underlying3 (a3 2 3 v2 rfl rfl) h2;clear a8 a4;simp only[List.append_nil]at a9;refine(Yx a0 lo0 b0 a1 a2 W (Tc hL)).mono fun e W' ⟨he,hb⟩=> ?_
 subst he;have a5:=Below.trod Nt (by kernel_rfl) (of_decide_eq_true (by kernel_rfl)) h0 hb (fun x hx=>by cases hx);have a6:=Below.trod Nt (by kernel_rfl) (of_decide_eq_true (by kernel_rfl)) h1 hb (fun x hx=>by cases hx);have a7:=Below.trod Nt (by kernel_rfl) (of_decide_eq_true (by kernel_rfl)) h2 hb (fun x hx=>by cases hx);exact⟨_,rfl,_,_,_,[],_,[],a9,trodAll_mk1 (shut_bool Tryz.underlying4 _),trodAll_mk3 a5 a6 a7,rfl,hb.frame _,fun h=>by cases h⟩
theorem Lr:Tryz.pinned.checked.prog.funcNamed Rows.inverseRefusesRow.func=some 14:=by kernel_rfl
theorem Km:(Rows.inverseRefusesRow.inPlace==Program.inPlace Tryz.pinned.checked.prog 14)=true:=by kernel_rfl
theorem Kn:(Rows.inverseRefusesRow.unfollowed==Program.unfollowed Tryz.pinned.checked.prog 14)=true:=by kernel_rfl
theorem Ko:(Rows.inverseRefusesRow.recurses==Program.recurses Tryz.pinned.checked.prog 14)=true:=by kernel_rfl
theorem Kp:(Rows.inverseRefusesRow.named==Program.varsNamed Tryz.pinned.checked.prog 14)=true:=by kernel_rfl
theorem Kq:(Rows.inverseRefusesRow.lifted==Program.liftsFinal Tryz.pinned.checked.prog)=true:=by kernel_rfl
theorem Kr:(Rows.inverseRefusesRow.plainKeys==Program.plainKeys Tryz.pinned.checked.prog)=true:=by kernel_rfl
theorem Ls:joinedFacts Tryz.pinned.checked.prog 14 Tryz.f14 Rows.inverseRefusesSpec Rows.inverseRefusesRow=true:=by
 unfold joinedFacts;rw[Km,Kn,Ko,Kp,Kq,Kr,Ac3,Ac4,Abj,Abk];kernel_rfl
theorem Lt:Func.isInstance Tryz.pinned.checked.prog Tryz.f14 Rows.inverseRefusesRow.origin Rows.inverseRefusesRow.targs:=of_decide_eq_true (by kernel_rfl)
theorem Lu:Func.isWrapper Tryz.pinned.checked.prog Tryz.f14 Rows.inverseRefusesRow.wrapper Rows.inverseRefusesRow.mainSum:=by unfold Func.isWrapper;first|(rw[if_pos (by decide+kernel)];kernel_rfl)|(rw[if_neg (by decide+kernel)];exact⟨rfl,rfl⟩)
theorem Ks:Rows.InverseRefusesSaid:=
 OpenClaim.holds_of_wide 14 Tryz.f14 rfl rfl rfl rfl rfl rfl rfl ⟨rfl,rfl,rfl,rfl,rfl⟩ rfl rfl rfl rfl rfl Lr Tryz.func14 Ls
  Lt Lu
  (fun os started H enc _=>Jc os started H enc)
end Go.Proofs.YtlgliddhideflaaGreatDoor
