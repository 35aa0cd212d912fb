/-
  ablautlaw38.WaveOrders returns true for every input, and never panics. Conditions: those of the row's own cells, no other.
-/
import Derived.Test.YtaglfmlgbcmakaaGreatDoorXT381
import Derived.Test.YtaglfmlgbcmakaaGreatDoorXOpE
import Derived.Test.YtaglfmlgbcmakaaGreatDoorG51
import Derived.Test.YtaglfmlgbcmakaaGreatDoorTie
set_option linter.all false
set_option maxRecDepth 100000
set_option maxHeartbeats 4000000
namespace Go.Proofs.YtaglfmlgbcmakaaGreatDoor
open Go.RowKit Go.ChangeShapes Go.WideShapes Go.ChangeAt
theorem Mj (os:Os)(started:os.Started)(H:Type)(enc:TypeId×Value->H):
  ReturnsInHanded {} Tryz.checked os 8 .any (fun w args=>(Rows.waveOrdersSpec.pre enc Tryz.prog Tryz.f8 [] false w args/\laidMetH Tryz.prog En w)/\sizedMet enc Tryz.prog Tryz.f8 (OpenSpec.ofChange Rows.waveOrdersSpec) false w args)
   (Rows.waveOrdersSpec.post enc Tryz.prog Tryz.f8 false true false false):=by
 refine returnsInHanded_of_change_and (C:=Tryz.checked) (X:=fun w _=>laidMetH Tryz.prog En w) (fun _ _ _ hh h=>h.of_heap hh) J5 started (by kernel_rfl) Tryz.func8
  (ChangeSpec.witness_shaped (enc:=enc) (C:=Tryz.checked) (os:=os) (X:=fun w _=>laidMetH Tryz.prog En w) false (World.laidAll Tryz.prog os En) #[.agg #[.slice none 0 0, .slice none 0 0, .slice none 0 0, .slice none 0 0, .slice none 0 0, .int .i64 0, .int .i64 0, .int .i64 0, .int .i64 0]] 8 (World.laidAll_os _ _ _)
   (World.shaped_of_ZipB (by kernel_rfl) (by kernel_rfl)) (by kernel_rfl) (by kernel_rfl) (by kernel_rfl)
   (by rw[MakeChecks.laidMetH_plain _ _ _ (by kernel_rfl)];exact laidMet_laidAll _ (by kernel_rfl) (by kernel_rfl))) ?_
 intro W base args ds gs before a0 hW _ _ hL _;have a2:∀(j:Nat) t v,Tryz.f8.params[j]? =some t->args[j]? =some v->Value.okWide Tryz.prog W .any base t v:=a0;have a3:=hW;obtain⟨p,q,a4,hV,rfl,_,_⟩:=hW;have hA:DataW.TrodAll enc Tryz.prog W 0 (fun _=>true) true Tryz.f8.params.toList args.toList ds p:=a4;rw[Tryz.params8]at hA a2;obtain⟨v0,d0,rfl,rfl,h0⟩:=trodAll_one hA;obtain⟨rfl,rfl⟩:=trodVars_none hV;obtain⟨A0,rfl,_⟩:=okWide_struct Tryz.underlying66 (a2 0 66 v0 rfl rfl);clear a4 a0;simp only[List.append_nil]at a3;have a6:∀x∈p,x.block<W.heap.size:=fun x hx=>by simpa using a3.lt x (by simpa using hx)
 obtain⟨xs0,rfl,a5⟩:=L8 h0;refine(Vg xs0 W a5 (Fx hL)).mono fun e W' ⟨he,hb⟩=> ?_
 subst he;have a1:=Below.trod Ho (by kernel_rfl) (of_decide_eq_true (by kernel_rfl)) h0 hb (fun x hx=>a6 x hx);exact⟨_,rfl,_,_,_,[],_,[],a3,trodAll_mk1 (shut_bool Tryz.underlying4 _),trodAll_mk1 a1,rfl,hb.frame _,fun h=>by cases h⟩
theorem So:Tryz.pinned.checked.prog.funcNamed Rows.waveOrdersRow.func=some 8:=by kernel_rfl
theorem Qt:(Rows.waveOrdersRow.inPlace==Program.inPlace Tryz.pinned.checked.prog 8)=true:=by kernel_rfl
theorem Qu:(Rows.waveOrdersRow.unfollowed==Program.unfollowed Tryz.pinned.checked.prog 8)=true:=by kernel_rfl
theorem Qv:(Rows.waveOrdersRow.recurses==Program.recurses Tryz.pinned.checked.prog 8)=true:=by kernel_rfl
theorem Qw:(Rows.waveOrdersRow.named==Program.varsNamed Tryz.pinned.checked.prog 8)=true:=by kernel_rfl
theorem Qx:(Rows.waveOrdersRow.lifted==Program.liftsFinal Tryz.pinned.checked.prog)=true:=by kernel_rfl
theorem Qy:(Rows.waveOrdersRow.plainKeys==Program.plainKeys Tryz.pinned.checked.prog)=true:=by kernel_rfl
theorem Sp:joinedFacts Tryz.pinned.checked.prog 8 Tryz.f8 Rows.waveOrdersSpec Rows.waveOrdersRow=true:=by
 unfold joinedFacts;rw[Qt,Qu,Qv,Qw,Qx,Qy,Mq,Mr,Kj,Kk];kernel_rfl
theorem Sq:Func.isInstance Tryz.pinned.checked.prog Tryz.f8 Rows.waveOrdersRow.origin Rows.waveOrdersRow.targs:=of_decide_eq_true (by kernel_rfl)
theorem Sr:Func.isWrapper Tryz.pinned.checked.prog Tryz.f8 Rows.waveOrdersRow.wrapper Rows.waveOrdersRow.mainSum:=by unfold Func.isWrapper;first|(rw[if_pos (by decide+kernel)];kernel_rfl)|(rw[if_neg (by decide+kernel)];exact⟨rfl,rfl⟩)
theorem Qz:Rows.WaveOrdersSaid:=
 OpenClaim.holds_of_wide 8 Tryz.f8 rfl rfl rfl rfl rfl rfl rfl ⟨rfl,rfl,rfl,rfl,rfl⟩ rfl rfl rfl rfl rfl So Tryz.func8 Sp
  Sq Sr
  (fun os started H enc _=>Mj os started H enc)
end Go.Proofs.YtaglfmlgbcmakaaGreatDoor
