/-
  ablautlaw38.WaveStarts returns true for every input, and never panics. Conditions: those of the row's own cells, no other.
-/
import Derived.Test.YtaglfmlgbcmakaaGreatDoorXT383
import Derived.Test.YtaglfmlgbcmakaaGreatDoorXOpE
import Derived.Test.YtaglfmlgbcmakaaGreatDoorG51
import Derived.Test.YtaglfmlgbcmakaaGreatDoorTie
set_option linter.all false
set_option maxRecDepth 100000
set_option maxHeartbeats 4000000
namespace Go.Proofs.YtaglfmlgbcmakaaGreatDoor
open Go.RowKit Go.ChangeShapes Go.WideShapes Go.ChangeAt
theorem Ml (os:Os)(started:os.Started)(H:Type)(enc:TypeId×Value->H):
  ReturnsInHanded {} Tryz.checked os 9 .any (fun w args=>(Rows.waveStartsSpec.pre enc Tryz.prog Tryz.f9 [] false w args/\laidMetH Tryz.prog En w)/\sizedMet enc Tryz.prog Tryz.f9 (OpenSpec.ofChange Rows.waveStartsSpec) false w args)
   (Rows.waveStartsSpec.post enc Tryz.prog Tryz.f9 false true false false):=by
 refine returnsInHanded_of_change_and (C:=Tryz.checked) (X:=fun w _=>laidMetH Tryz.prog En w) (fun _ _ _ hh h=>h.of_heap hh) J5 started (by kernel_rfl) Tryz.func9
  (ChangeSpec.witness_shaped (enc:=enc) (C:=Tryz.checked) (os:=os) (X:=fun w _=>laidMetH Tryz.prog En w) false (World.laidAll Tryz.prog os En) #[.agg #[.slice none 0 0, .slice none 0 0, .slice none 0 0, .slice none 0 0, .slice none 0 0, .int .i64 0, .int .i64 0, .int .i64 0, .int .i64 0]] 8 (World.laidAll_os _ _ _)
   (World.shaped_of_ZipB (by kernel_rfl) (by kernel_rfl)) (by kernel_rfl) (by kernel_rfl) (by kernel_rfl)
   (by rw[MakeChecks.laidMetH_plain _ _ _ (by kernel_rfl)];exact laidMet_laidAll _ (by kernel_rfl) (by kernel_rfl))) ?_
 intro W base args ds gs before a0 hW _ _ hL _;have a1:∀(j:Nat) t v,Tryz.f9.params[j]? =some t->args[j]? =some v->Value.okWide Tryz.prog W .any base t v:=a0;have a3:=hW;obtain⟨p,q,a4,hV,rfl,_,_⟩:=hW;have hA:DataW.TrodAll enc Tryz.prog W 0 (fun _=>true) true Tryz.f9.params.toList args.toList ds p:=a4;rw[Tryz.params9]at hA a1;obtain⟨v0,d0,rfl,rfl,h0⟩:=trodAll_one hA;obtain⟨rfl,rfl⟩:=trodVars_none hV;obtain⟨A0,rfl,_⟩:=okWide_struct Tryz.underlying66 (a1 0 66 v0 rfl rfl);clear a4 a0;simp only[List.append_nil]at a3;have a5:∀x∈p,x.block<W.heap.size:=fun x hx=>by simpa using a3.lt x (by simpa using hx)
 obtain⟨xs0,rfl,a6⟩:=L8 h0;refine(Vh xs0 W a6 (Fx hL)).mono fun e W' ⟨he,hb⟩=> ?_
 subst he;have a2:=Below.trod Ho (by kernel_rfl) (of_decide_eq_true (by kernel_rfl)) h0 hb (fun x hx=>a5 x hx);exact⟨_,rfl,_,_,_,[],_,[],a3,trodAll_mk1 (shut_bool Tryz.underlying4 _),trodAll_mk1 a2,rfl,hb.frame _,fun h=>by cases h⟩
theorem Sz:Tryz.pinned.checked.prog.funcNamed Rows.waveStartsRow.func=some 9:=by kernel_rfl
theorem Q0:(Rows.waveStartsRow.inPlace==Program.inPlace Tryz.pinned.checked.prog 9)=true:=by kernel_rfl
theorem Q1:(Rows.waveStartsRow.unfollowed==Program.unfollowed Tryz.pinned.checked.prog 9)=true:=by kernel_rfl
theorem Q6:(Rows.waveStartsRow.recurses==Program.recurses Tryz.pinned.checked.prog 9)=true:=by kernel_rfl
theorem Q8:(Rows.waveStartsRow.named==Program.varsNamed Tryz.pinned.checked.prog 9)=true:=by kernel_rfl
theorem Ra:(Rows.waveStartsRow.lifted==Program.liftsFinal Tryz.pinned.checked.prog)=true:=by kernel_rfl
theorem Rb:(Rows.waveStartsRow.plainKeys==Program.plainKeys Tryz.pinned.checked.prog)=true:=by kernel_rfl
theorem S0:joinedFacts Tryz.pinned.checked.prog 9 Tryz.f9 Rows.waveStartsSpec Rows.waveStartsRow=true:=by
 unfold joinedFacts;rw[Q0,Q1,Q6,Q8,Ra,Rb,Mq,Mr,Kj,Kk];kernel_rfl
theorem S1:Func.isInstance Tryz.pinned.checked.prog Tryz.f9 Rows.waveStartsRow.origin Rows.waveStartsRow.targs:=of_decide_eq_true (by kernel_rfl)
theorem S2:Func.isWrapper Tryz.pinned.checked.prog Tryz.f9 Rows.waveStartsRow.wrapper Rows.waveStartsRow.mainSum:=by unfold Func.isWrapper;first|(rw[if_pos (by decide+kernel)];kernel_rfl)|(rw[if_neg (by decide+kernel)];exact⟨rfl,rfl⟩)
theorem Rc:Rows.WaveStartsSaid:=
 OpenClaim.holds_of_wide 9 Tryz.f9 rfl rfl rfl rfl rfl rfl rfl ⟨rfl,rfl,rfl,rfl,rfl⟩ rfl rfl rfl rfl rfl Sz Tryz.func9 S0
  S1 S2
  (fun os started H enc _=>Ml os started H enc)
end Go.Proofs.YtaglfmlgbcmakaaGreatDoor
