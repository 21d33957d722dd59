
/- The walks of layer 19, third part: lists are copied. -/
import Derived.Test.YtnflihjgbkocnaaDoorProg
import Derived.Test.YtnflihjgbkocnaaDoorBase
import Derived.Lib.SliceRun
namespace Go.Proofs.YtnflihjgbkocnaaDoor
open Go.RowKit Go.Dr

set_option linter.unusedSimpArgs false in
set_option linter.unusedVariables false in
set_option linter.unnecessarySimpa false in
set_option maxRecDepth 100000 in
set_option maxHeartbeats 2000000 in
theorem CloneF_any (l : List F) (v : Value) (w : World) (h : Fs w.heap.size w v l) (hl : l.length * 40 ≤ 140737488351232) :
    Calls Tryd.prog 43 #[v] w fun e w' => ∃ v', e = .returned v' ∧ w'.ownsRow w.heap.size 62 3 v' l.length (fcells l) ∧ Below w.heap.size w w' := by
  obtain ⟨a, c, rfl, -⟩ := h.form
  have q22 : ∀ (w : World) (a : Option Addr) (n c n' c' : Nat), (binOp .eql 34 (.slice a n c) (.slice none n' c')).run Tryd.prog w = .ok (.bool a.isNone) w := fun w a n c n' c' => Lib.run_eql_slice_nil w _ _ a n c n' c' Tryd.underlying34
  cases a with
  | none =>
    have hn : l.length = 0 := by
      rcases Nat.eq_zero_or_pos l.length with e | e
      · exact e
      · obtain ⟨b, off, h1, -⟩ := h.at 0 e
        cases h1
    obtain rfl := List.eq_nil_of_length_eq_zero hn
    clear hn hl
    go_enter Tryd.func43, Tryd.ntmps43
    go_wp2
    go_ret
    exact ⟨_, rfl, World.ownsRow_nil _ _ _ _, Below.refl _ _⟩
  | some a =>
    go_enter Tryd.func43, Tryd.ntmps43
    go_wp2_with (at_builtin; refine wpList_appRd rfl _ _ 34 rfl w.heap.size 62 (.agg #[.string ByteArray.empty, .string ByteArray.empty, .bool false]) 3 40 Tryd.underlying34 (by kernel_rfl) rfl (by decide) _ _ _ rfl (by exact own_lit _ w.heap.size rfl w.heap.size (Nat.le_refl _) _ _) _ _ _ _ rfl (by exact h.below ((Below.refl _ _).alloc (Nat.le_refl _) _)) (fcells_one _) (by unfold maxLen; omega) (by omega) (by simp) ?_; intro a3 c3 w3 hown3 hb3; simp only [Nat.zero_add, List.nil_append] at hown3)
    go_ret
    exact ⟨_, rfl, hown3, ((Below.refl _ _).alloc (Nat.le_refl _) _).trans hb3⟩

set_option linter.unusedSimpArgs false in
set_option linter.unusedVariables false in
set_option linter.unnecessarySimpa false in
set_option maxRecDepth 100000 in
set_option maxHeartbeats 2000000 in
theorem CloneP_any (l : List F) (v : Value) (w : World) (h : Fs w.heap.size w v l) (hl : l.length * 40 ≤ 140737488351232) :
    Calls Tryd.prog 44 #[v] w fun e w' => ∃ v', e = .returned v' ∧ w'.ownsRow w.heap.size 53 3 v' l.length (fcells l) ∧ Below w.heap.size w w' := by
  obtain ⟨a, c, rfl, -⟩ := h.form
  have q22 : ∀ (w : World) (a : Option Addr) (n c n' c' : Nat), (binOp .eql 33 (.slice a n c) (.slice none n' c')).run Tryd.prog w = .ok (.bool a.isNone) w := fun w a n c n' c' => Lib.run_eql_slice_nil w _ _ a n c n' c' Tryd.underlying33
  cases a with
  | none =>
    have hn : l.length = 0 := by
      rcases Nat.eq_zero_or_pos l.length with e | e
      · exact e
      · obtain ⟨b, off, h1, -⟩ := h.at 0 e
        cases h1
    obtain rfl := List.eq_nil_of_length_eq_zero hn
    clear hn hl
    go_enter Tryd.func44, Tryd.ntmps44
    go_wp2
    go_ret
    exact ⟨_, rfl, World.ownsRow_nil _ _ _ _, Below.refl _ _⟩
  | some a =>
    go_enter Tryd.func44, Tryd.ntmps44
    go_wp2_with (at_builtin; refine wpList_appRd rfl _ _ 33 rfl w.heap.size 53 (.agg #[.string ByteArray.empty, .string ByteArray.empty, .bool false]) 3 40 Tryd.underlying33 (by kernel_rfl) rfl (by decide) _ _ _ rfl (by exact own_lit _ w.heap.size rfl w.heap.size (Nat.le_refl _) _ _) _ _ _ _ rfl (by exact h.below ((Below.refl _ _).alloc (Nat.le_refl _) _)) (fcells_one _) (by unfold maxLen; omega) (by omega) (by simp) ?_; intro a3 c3 w3 hown3 hb3; simp only [Nat.zero_add, List.nil_append] at hown3)
    go_ret
    exact ⟨_, rfl, hown3, ((Below.refl _ _).alloc (Nat.le_refl _) _).trans hb3⟩
end Go.Proofs.YtnflihjgbkocnaaDoor
