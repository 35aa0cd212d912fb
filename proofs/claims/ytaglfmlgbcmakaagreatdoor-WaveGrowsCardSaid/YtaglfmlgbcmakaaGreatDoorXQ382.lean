/-
  ablautlaw38.WaveGrows returns true for every input, and never panics. Conditions: those of the row's own cells, no other.
-/
import Derived.Test.YtaglfmlgbcmakaaGreatDoorXT382
import Derived.Test.YtaglfmlgbcmakaaGreatDoorXOpE
import Derived.Test.YtaglfmlgbcmakaaGreatDoorG51
import Derived.Test.YtaglfmlgbcmakaaGreatDoorTie
set_option linter.all false
set_option maxRecDepth 100000
set_option maxHeartbeats 4000000
namespace Go.Proofs.YtaglfmlgbcmakaaGreatDoor
open Go.RowKit Go.ChangeShapes Go.WideShapes Go.ChangeAt
theorem Nc (os:Os)(started:os.Started)(H:Type)(enc:TypeId×Value->H):
  ReturnsInHanded {} Tryz.checked os 7 .any (fun w args=>(Rows.waveGrowsSpec.pre enc Tryz.prog Tryz.f7 [] false w args/\laidMetH Tryz.prog En w)/\sizedMet enc Tryz.prog Tryz.f7 (OpenSpec.ofChange Rows.waveGrowsSpec) false w args)
   (Rows.waveGrowsSpec.post enc Tryz.prog Tryz.f7 false true false false):=by
 refine returnsInHanded_of_change_and (C:=Tryz.checked) (X:=fun w _=>laidMetH Tryz.prog En w) (fun _ _ _ hh h=>h.of_heap hh) J5 started (by kernel_rfl) Tryz.func7
  (ChangeSpec.witness_shaped (enc:=enc) (C:=Tryz.checked) (os:=os) (X:=fun w _=>laidMetH Tryz.prog En w) false (World.laidAll Tryz.prog os En) #[.agg #[.slice none 0 0, .slice none 0 0, .slice none 0 0, .slice none 0 0, .slice none 0 0, .int .i64 0, .int .i64 0, .int .i64 0, .int .i64 0], .int .u32 0] 8 (World.laidAll_os _ _ _)
   (World.shaped_of_ZipB (by kernel_rfl) (by kernel_rfl)) (by kernel_rfl) (by kernel_rfl) (by kernel_rfl)
   (by rw[MakeChecks.laidMetH_plain _ _ _ (by kernel_rfl)];exact laidMet_laidAll _ (by kernel_rfl) (by kernel_rfl))) ?_
 intro W base args ds gs before a0 hW _ _ hL _;have a2:∀(j:Nat) t v,Tryz.f7.params[j]? =some t->args[j]? =some v->Value.okWide Tryz.prog W .any base t v:=a0;have a5:=hW;obtain⟨p,q,a6,hV,rfl,_,_⟩:=hW;have hA:DataW.TrodAll enc Tryz.prog W 0 (fun _=>true) true Tryz.f7.params.toList args.toList ds p:=a6;rw[Tryz.params7]at hA a2;obtain⟨v0,v1,d0,d1,p0,p1,rfl,rfl,rfl,h0,h1⟩:=trodAll_two hA;obtain⟨rfl,rfl⟩:=trodVars_none hV;obtain⟨A0,rfl,_⟩:=okWide_struct Tryz.underlying66 (a2 0 66 v0 rfl rfl);obtain⟨a1,rfl,rfl,rfl,wa1⟩:=open_int Tryz.underlying47 (a2 1 47 v1 rfl rfl) h1;have ra1:0<=a1/\a1<=4294967295:=by simpa[Lit.wf,IntKind.min,IntKind.max,IntKind.signed,IntKind.bits]using wa1
 clear a6 a0;simp only[List.append_nil]at a5;have a7:∀x∈p0++[],x.block<W.heap.size:=fun x hx=>by simpa using a5.lt x (by simpa using hx)
 obtain⟨xs0,rfl,a8⟩:=L8 h0;refine(Xq xs0 a1 W a8 ra1 (Fx hL)).mono fun e W' ⟨he,hb⟩=> ?_
 subst he;have a3:=Below.trod Ho (by kernel_rfl) (of_decide_eq_true (by kernel_rfl)) h0 hb (fun x hx=>a7 x (List.mem_append.2 (.inl hx)));have a4:=Below.trod Ho (by kernel_rfl) (of_decide_eq_true (by kernel_rfl)) h1 hb (fun x hx=>by cases hx);exact⟨_,rfl,_,_,_,[],_,[],a5,trodAll_mk1 (shut_bool Tryz.underlying4 _),trodAll_mk2 a3 a4,rfl,hb.frame _,fun h=>by cases h⟩
theorem U0:Tryz.pinned.checked.prog.funcNamed Rows.waveGrowsRow.func=some 7:=by kernel_rfl
theorem Ss:(Rows.waveGrowsRow.inPlace==Program.inPlace Tryz.pinned.checked.prog 7)=true:=by kernel_rfl
theorem St:(Rows.waveGrowsRow.unfollowed==Program.unfollowed Tryz.pinned.checked.prog 7)=true:=by kernel_rfl
theorem Su:(Rows.waveGrowsRow.recurses==Program.recurses Tryz.pinned.checked.prog 7)=true:=by kernel_rfl
theorem Sv:(Rows.waveGrowsRow.named==Program.varsNamed Tryz.pinned.checked.prog 7)=true:=by kernel_rfl
theorem Sw:(Rows.waveGrowsRow.lifted==Program.liftsFinal Tryz.pinned.checked.prog)=true:=by kernel_rfl
theorem Sx:(Rows.waveGrowsRow.plainKeys==Program.plainKeys Tryz.pinned.checked.prog)=true:=by kernel_rfl
theorem Va:joinedFacts Tryz.pinned.checked.prog 7 Tryz.f7 Rows.waveGrowsSpec Rows.waveGrowsRow=true:=by
 unfold joinedFacts;rw[Ss,St,Su,Sv,Sw,Sx,Mq,Mr,Kj,Kk];kernel_rfl
theorem Vb:Func.isInstance Tryz.pinned.checked.prog Tryz.f7 Rows.waveGrowsRow.origin Rows.waveGrowsRow.targs:=of_decide_eq_true (by kernel_rfl)
theorem Vc:Func.isWrapper Tryz.pinned.checked.prog Tryz.f7 Rows.waveGrowsRow.wrapper Rows.waveGrowsRow.mainSum:=by unfold Func.isWrapper;first|(rw[if_pos (by decide+kernel)];kernel_rfl)|(rw[if_neg (by decide+kernel)];exact⟨rfl,rfl⟩)
theorem Sy:Rows.WaveGrowsSaid:=
 OpenClaim.holds_of_wide 7 Tryz.f7 rfl rfl rfl rfl rfl rfl rfl ⟨rfl,rfl,rfl,rfl,rfl⟩ rfl rfl rfl rfl rfl U0 Tryz.func7 Va
  Vb Vc
  (fun os started H enc _=>Nc os started H enc)
end Go.Proofs.YtaglfmlgbcmakaaGreatDoor
