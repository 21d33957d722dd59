
/- The statement ConnBack: the card, closed out of the walk. The list of package-level variables is carried along and not read. -/
import Derived.Test.YtcodgfmombehoaaGreatDoorCards
import Derived.Test.YtcodgfmombehoaaGreatDoorTie
import Derived.Test.YtcodgfmombehoaaGreatDoorKLast
namespace Go.Proofs.YtcodgfmombehoaaGreatDoor.cConnBack
open Go.ChangeShapes Go.WideShapes Go.ChangeAt Go.RowKit Go.Dr Go.ChangeMaps

theorem own : ownKnob Tryz.prog.godebug = none := by kernel_rfl
theorem laidOut : laidOutB Tryz.prog = true := by kernel_rfl
theorem readable : (Tryz.f3.params.toList.all fun t => Tryz.prog.readableRec t && decide (t < Tryz.prog.types.size)) = true := by kernel_rfl
set_option maxRecDepth 100000 in
set_option linter.unusedSimpArgs false in
theorem contract (H : Type) (enc : TypeId × Value → H) (W : World) (base : Nat) (args : Array Value) (ds gs : List (DataW H)) (before : List MemPlace)
    (hval : ∀ (j : Nat) t v, Tryz.f3.params[j]? = some t → args[j]? = some v → Value.okWide Tryz.prog W .any base t v)
    (hW : DataW.Whole enc Tryz.prog Tryz.f3.params.toList Rows.connBackSpec.vars false W args.toList ds gs before)
    (hw : (DataW.weightsEach Tryz.prog (Tryz.f3.params.toList ++ (OpenSpec.ofChange Rows.connBackSpec).bare.plain.varTypes Tryz.prog) (ds ++ gs)).all (· ≤ reachBytes) = true) :
    Calls Tryz.prog 3 args W fun e W' => ∃ v, e = .returned v ∧ Rows.connBackSpec.post enc Tryz.prog Tryz.f3 false true false false W args v W' := by
  have hW' := hW
  obtain ⟨p, q, hA, hV, rfl, -, -⟩ := hW
  rw [Tryz.params3] at hA hval hw
  obtain ⟨v0, vs0, d0, ds0, p0, q0, hargs, rfl, rfl, h0, r0⟩ := trodAll_cons hA
  obtain ⟨v1, vs1, d1, ds1, p1, q1, rfl, rfl, rfl, h1, r1⟩ := trodAll_cons r0
  obtain ⟨v2, vs2, d2, ds2, p2, q2, rfl, rfl, rfl, h2, r2⟩ := trodAll_cons r1
  obtain ⟨rfl, rfl, rfl⟩ := trodAll_nil r2
  obtain rfl : args = #[v0, v1, v2] := by cases args; simp_all
  obtain ⟨rfl, rfl⟩ := trodVars_none hV
  have hvt : (OpenSpec.ofChange Rows.connBackSpec).bare.plain.varTypes Tryz.prog = [] := rfl
  rw [hvt] at hw
  simp only [List.cons_append, List.nil_append, List.append_nil, DataW.weightsEach, List.all_append, Bool.and_eq_true] at hw
  obtain ⟨l0, rfl, b0⟩ := open_S Tryz.underlying9 (hval 0 9 v0 rfl rfl) h0 hw.1
  obtain ⟨l1, s1, b1⟩ := open_Hs Tryz.underlying22 Tryz.underlying23 (by kernel_rfl) (hval 1 22 v1 rfl rfl) h1 hw.2.1
  obtain ⟨n2, rfl, -, -, wf2⟩ := open_int Tryz.underlying23 (hval 2 23 v2 rfl rfl) h2
  have b2 := wf_u16 wf2
  refine (back22_law l0 l1 n2 b2 v1 W s1 b1).mono fun e W' ⟨he, hb⟩ => ?_
  subst he
  exact ⟨_, rfl, law_post hW' rfl rfl rfl Tryz.underlying4 laidOut readable hb⟩

theorem laid_met (os : Os) : laidMetH Tryz.prog Rows.connBackRow.laid ((World.laidAll Tryz.prog os Rows.connBackRow.laid).forCall (fun _ _ => 0) ⟨#[], #[.string ByteArray.empty, .slice none 0 0, .int .u16 0], []⟩).memory := by
  rw [MakeChecks.laidMetH_plain _ _ _ (by kernel_rfl)]
  exact laidMet_laidAll _ (by kernel_rfl) (by kernel_rfl)
theorem reads (os : Os) {H : Type} (enc : TypeId × Value → H) : ∃ places, DataW.whole enc Tryz.prog ((World.laidAll Tryz.prog os Rows.connBackRow.laid).forCall (fun _ _ => 0) ⟨#[], #[.string ByteArray.empty, .slice none 0 0, .int .u16 0], []⟩).memory Tryz.f3.params.toList Rows.connBackSpec.vars false (#[.string ByteArray.empty, .slice none 0 0, .int .u16 0] : Array Value).toList 8 = some ([.lit (.string []), .nil, .lit (.int .u16 0)], [], places) :=
  ⟨[], by kernel_rfl⟩

set_option maxRecDepth 100000 in
theorem lifted (os : Os) (started : os.Started) (H : Type) (enc : TypeId × Value → H) (F : Stop.Interp) :
    ReturnsInHanded {} Tryz.checked os 3 .any ((OpenSpec.ofChange Rows.connBackSpec).preRow enc Tryz.prog Tryz.f3 Rows.connBackRow.domain false Rows.connBackRow.laid) (((OpenSpec.ofChange Rows.connBackSpec).at F).post enc Tryz.prog Tryz.f3 false true false false) := by
  obtain ⟨places, hx⟩ := reads os enc
  refine returnsInHanded_of_row (C := Tryz.checked) (s := OpenSpec.ofChange Rows.connBackSpec) own started (by kernel_rfl) Tryz.func3
    (witness_row_at (enc := enc) (C := Tryz.checked) false (World.laidAll Tryz.prog os Rows.connBackRow.laid) #[.string ByteArray.empty, .slice none 0 0, .int .u16 0] (World.laidAll_os _ _ _) (by kernel_rfl) (by kernel_rfl) (by kernel_rfl)
      (OpenSpec.preRow_of_cond 8 hx (by kernel_rfl) (fun k hk => by cases hk) (by kernel_rfl) (laid_met os))) ?_
  intro W base args ds gs before hval hW _ _ hw _ _ _
  exact contract H enc W base args ds gs before hval hW hw

theorem said_name : Tryz.pinned.checked.prog.funcNamed Rows.connBackRow.func = some 3 := by kernel_rfl
theorem said_inst : Func.isInstance Tryz.pinned.checked.prog Tryz.f3 Rows.connBackRow.origin Rows.connBackRow.targs := of_decide_eq_true (by kernel_rfl)
theorem said_wrap : Func.isWrapper Tryz.pinned.checked.prog Tryz.f3 Rows.connBackRow.wrapper Rows.connBackRow.mainSum := by unfold Func.isWrapper; first | (rw [if_pos (by decide +kernel)]; kernel_rfl) | (rw [if_neg (by decide +kernel)]; exact ⟨rfl, rfl⟩)
theorem said_join : joinedFacts Tryz.pinned.checked.prog 3 Tryz.f3 (OpenSpec.ofChange Rows.connBackSpec).bare Rows.connBackRow = true := by kernel_rfl
theorem said : Rows.ConnBackSaid :=
  OpenClaim.holds_of_cond 3 Tryz.f3 rfl rfl rfl rfl rfl rfl rfl ⟨rfl, rfl, rfl, rfl, rfl⟩ rfl rfl rfl rfl rfl said_name Tryz.func3 said_join said_inst said_wrap
    (fun os started H enc _ F => by rw [OpenClaim.pre_eq_preRow]; exact lifted os started H enc F)

theorem plain (f : FuncId) (fn : Func) (hf : Tryz.pinned.checked.prog.funcNamed Rows.connBackRow.func = some f) (hfn : Tryz.pinned.checked.prog.funcs[f]? = some fn) :
    true = Tryz.pinned.checked.prog.looks [] ∧ ∀ (j : Nat) t, fn.params[j]? = some t → Tryz.pinned.checked.prog.wantsStandIn t = false := by
  obtain rfl : f = 3 := Option.some.inj ((show Tryz.prog.funcNamed Rows.connBackRow.func = some 3 by kernel_rfl).symm.trans hf) |>.symm
  obtain rfl : fn = Tryz.f3 := (Option.some.inj (Tryz.func3.symm.trans hfn)).symm
  refine ⟨by kernel_rfl, fun j t ht => ?_⟩
  have hall : (Tryz.f3.params.toList.all fun u => !Tryz.prog.wantsStandIn u) = true := by kernel_rfl
  have hm : t ∈ Tryz.f3.params.toList := by simpa using Array.mem_of_getElem? ht
  exact (show Tryz.prog.wantsStandIn t = false by simpa using List.all_eq_true.1 hall t hm)
end Go.Proofs.YtcodgfmombehoaaGreatDoor.cConnBack
namespace Go.Proofs.YtcodgfmombehoaaGreatDoor
/-- THE CARD. -/
theorem ConnBack_holds : Rows.ConnBackCardSaid :=
  Claim7.holds_tied_plain_at .later [] _ _ _ _ cConnBack.said (fun _ h => by cases h) (by kernel_rfl) (fun _ h => by cases h) connBack_row_tie rfl ⟨rfl, rfl⟩ (by kernel_rfl) rfl cConnBack.plain (by kernel_rfl)
end Go.Proofs.YtcodgfmombehoaaGreatDoor

