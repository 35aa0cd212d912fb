/-
  ablautlaw38.WaveForms returns true for every input, and never panics. Conditions: those of the row's own cells, no other.
-/
import Derived.Test.YtaglfmlgbcmakaaGreatDoorXT38B
import Derived.Test.YtaglfmlgbcmakaaGreatDoorG51
import Derived.Test.YtaglfmlgbcmakaaGreatDoorTie
set_option linter.all false
set_option maxRecDepth 100000
set_option maxHeartbeats 4000000
namespace Go.Proofs.YtaglfmlgbcmakaaGreatDoor
open Go.RowKit Go.ChangeShapes Go.WideShapes Go.ChangeAt
theorem Ql (os:Os)(started:os.Started)(H:Type)(enc:TypeId×Value->H):
  ReturnsInHanded {} Tryz.checked os 12 .any (fun w args=>(Rows.waveFormsSpec.pre enc Tryz.prog Tryz.f12 [] false w args/\laidMetH Tryz.prog Uz w)/\sizedMet enc Tryz.prog Tryz.f12 (OpenSpec.ofChange Rows.waveFormsSpec) false w args)
   (Rows.waveFormsSpec.post enc Tryz.prog Tryz.f12 false true false false):=by
 refine returnsInHanded_of_change_and (C:=Tryz.checked) (X:=fun w _=>laidMetH Tryz.prog Uz w) (fun _ _ _ hh h=>h.of_heap hh) Af9 started (by kernel_rfl) Tryz.func12
  (ChangeSpec.witness_shaped (enc:=enc) (C:=Tryz.checked) (os:=os) (X:=fun w _=>laidMetH Tryz.prog Uz w) false (World.laidAll Tryz.prog os Uz) #[.agg #[.slice none 0 0, .slice none 0 0, .slice none 0 0, .slice none 0 0, .slice none 0 0, .int .i64 0, .int .i64 0, .int .i64 0, .int .i64 0]] 8 (World.laidAll_os _ _ _)
   (World.shaped_of_ZipB (by kernel_rfl) (by kernel_rfl)) (by kernel_rfl) (by kernel_rfl) (by kernel_rfl)
   (by rw[MakeChecks.laidMetH_plain _ _ _ (by kernel_rfl)];exact laidMet_laidAll _ (by kernel_rfl) (by kernel_rfl))) ?_
 intro W base args ds gs before a0 hW _ _ hL _;have a1:∀(j:Nat) t v,Tryz.f12.params[j]? =some t->args[j]? =some v->Value.okWide Tryz.prog W .any base t v:=a0;have a3:=hW;obtain⟨p,q,a4,hV,rfl,_,_⟩:=hW;have hA:DataW.TrodAll enc Tryz.prog W 0 (fun _=>true) true Tryz.f12.params.toList args.toList ds p:=a4;rw[Tryz.params12]at hA a1;obtain⟨v0,d0,rfl,rfl,h0⟩:=trodAll_one hA;obtain⟨rfl,rfl⟩:=trodVars_none hV;obtain⟨A0,rfl,_⟩:=okWide_struct Tryz.underlying66 (a1 0 66 v0 rfl rfl);clear a4 a0;simp only[List.append_nil]at a3;have a5:∀x∈p,x.block<W.heap.size:=fun x hx=>by simpa using a3.lt x (by simpa using hx)
 obtain⟨xs0,rfl,a6⟩:=Ag9 h0;refine(Aaa xs0 W a6 (Yi hL)).mono fun e W' ⟨he,hb⟩=> ?_
 subst he;have a2:=Below.trod Aga (by kernel_rfl) (of_decide_eq_true (by kernel_rfl)) h0 hb (fun x hx=>a5 x hx);exact⟨_,rfl,_,_,_,[],_,[],a3,trodAll_mk1 (shut_bool Tryz.underlying4 _),trodAll_mk1 a2,rfl,hb.frame _,fun h=>by cases h⟩
theorem Ww:Tryz.pinned.checked.prog.funcNamed Rows.waveFormsRow.func=some 12:=by kernel_rfl
theorem Uj:(Rows.waveFormsRow.inPlace==Program.inPlace Tryz.pinned.checked.prog 12)=true:=by kernel_rfl
theorem Uk:(Rows.waveFormsRow.unfollowed==Program.unfollowed Tryz.pinned.checked.prog 12)=true:=by kernel_rfl
theorem Ul:(Rows.waveFormsRow.recurses==Program.recurses Tryz.pinned.checked.prog 12)=true:=by kernel_rfl
theorem Um:(Rows.waveFormsRow.named==Program.varsNamed Tryz.pinned.checked.prog 12)=true:=by kernel_rfl
theorem Un:(Rows.waveFormsRow.lifted==Program.liftsFinal Tryz.pinned.checked.prog)=true:=by kernel_rfl
theorem Uo:(Rows.waveFormsRow.plainKeys==Program.plainKeys Tryz.pinned.checked.prog)=true:=by kernel_rfl
theorem Wx:joinedFacts Tryz.pinned.checked.prog 12 Tryz.f12 Rows.waveFormsSpec Rows.waveFormsRow=true:=by
 unfold joinedFacts;rw[Uj,Uk,Ul,Um,Un,Uo,Ak0,Ak1,Aiw,Aix];kernel_rfl
theorem Wy:Func.isInstance Tryz.pinned.checked.prog Tryz.f12 Rows.waveFormsRow.origin Rows.waveFormsRow.targs:=of_decide_eq_true (by kernel_rfl)
theorem Wz:Func.isWrapper Tryz.pinned.checked.prog Tryz.f12 Rows.waveFormsRow.wrapper Rows.waveFormsRow.mainSum:=by unfold Func.isWrapper;first|(rw[if_pos (by decide+kernel)];kernel_rfl)|(rw[if_neg (by decide+kernel)];exact⟨rfl,rfl⟩)
theorem Up:Rows.WaveFormsSaid:=
 OpenClaim.holds_of_wide 12 Tryz.f12 rfl rfl rfl rfl rfl rfl rfl ⟨rfl,rfl,rfl,rfl,rfl⟩ rfl rfl rfl rfl rfl Ww Tryz.func12 Wx
  Wy Wz
  (fun os started H enc _=>Ql os started H enc)
end Go.Proofs.YtaglfmlgbcmakaaGreatDoor
