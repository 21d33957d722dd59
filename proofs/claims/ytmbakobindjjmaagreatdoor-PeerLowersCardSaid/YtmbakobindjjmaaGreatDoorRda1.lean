
/- The walk of an answer's head of one field: the numbers. -/
import Derived.Test.YtmbakobindjjmaaGreatDoorHpk3
import Derived.Test.YtmbakobindjjmaaGreatDoorWin1
import Derived.StringKeys
namespace Go.Proofs.YtmbakobindjjmaaGreatDoor
open Go.RowKit Go.Dr

set_option maxRecDepth 100000 in
set_option maxHeartbeats 4000000 in
theorem Decimal_200 (w : World) : Calls Tryz.prog 86 #[S [50, 48, 48]] w fun e w' => e = .returned (.tuple #[.int .i64 200, .int .i64 0]) ∧ w' = w := by
  go_enter Tryz.func86, Tryz.ntmps86
  go_wp2
  refine wp_loop_rounds 4 ?_
  rw [rounds_succ]
  go_wp2
  rw [rounds_succ]
  go_wp2
  rw [rounds_succ]
  go_wp2
  rw [rounds_succ]
  go_wp2
  refine wp_loop_rounds 4 ?_
  rw [rounds_succ]
  go_wp2
  rw [rounds_succ]
  go_wp2
  rw [rounds_succ]
  go_wp2
  rw [rounds_succ]
  go_wp2
  go_ret2
  exact ⟨rfl, rfl⟩
set_option maxRecDepth 100000 in
set_option maxHeartbeats 4000000 in
theorem Length_nil (w : World) : Calls Tryz.prog 70 #[.slice none 0 0] w fun e w' => e = .returned (.tuple #[.int .i64 0, .bool false, .int .i64 0]) ∧ w' = w := by
  go_enter Tryz.func70, Tryz.ntmps70
  go_wp2
  refine wp_loop_rounds 1 ?_
  rw [rounds_succ]
  go_wp2
  go_ret3
  exact ⟨rfl, rfl⟩

abbrev statB : Bytes := [58, 115, 116, 97, 116, 117, 115]
/-- How a struct of one text reads. -/
def Rw : Value → Option (DataW Unit × List MemPlace)
  | .agg cs => match cs.toList with
    | [.string x] => some (.lit (.string x.data.toList), [])
    | _ => none
  | _ => none
theorem Rw_inv {v : Value} {l : Bytes} {ps : List MemPlace} (h : Rw v = some (.lit (.string l), ps)) : v = .agg #[S l] := by
  unfold Rw at h
  split at h
  · split at h
    · rename_i cs _ x hx
      simp only [Option.some.injEq, Prod.mk.injEq, DataW.lit.injEq, Lit.string.injEq] at h
      have e : cs = #[.string x] := by rw [← Array.toArray_toList (xs := cs), hx]
      rw [e, ← h.1]
    · cases h
  · cases h
theorem zeroWords (w : World) : (zeroValue 164).run Tryz.prog w = .ok (.agg #[S []]) w := by kernel_rfl
/-- the map that leads from ':status' to a text, and from nothing else -/
def SM (w : World) (b : Nat) (l : Bytes) : Prop := w.ownsMap Tryz.prog 9 Rw b 1 (.map [(.string statB, .lit (.string l))])
theorem key_stat : keyOf Tryz.prog 9 (S statB) = some (.string statB) := Go.WideMaps.keyOf_string_mk Tryz.underlying9 (s := ⟨statB.toArray⟩) (by decide)
theorem SM.new {w : World} {b : Nat} (h : w.heap[b]? = some (.map #[] 0)) (l : Bytes) : ∃ w', (Instr.mapUpdate 160 (.map (some b)) (S statB) (.agg #[S l])).run Tryz.prog w = .ok () w' ∧ SM w' b l ∧ w.mapTurned w' b := by
  have h0 : w.ownsMap Tryz.prog 9 Rw b 0 (.map []) := ⟨#[], 0, h, ⟨by simp, MapKept.stamped_empty 0, by simp⟩, Nat.le_refl _, rfl⟩
  obtain ⟨w', hrun, ho, hm⟩ := h0.store (Maps.string_keyed Tryz.underlying9) Tryz.underlying160 (by decide) key_stat (show Rw (.agg #[S l]) = some (.lit (.string l), []) from rfl)
  exact ⟨w', hrun, ho, hm⟩
theorem SM.get {w : World} {b : Nat} {l : Bytes} (h : SM w b l) : (Instr.lookup 160 (.map (some b)) (S statB) false).run Tryz.prog w = .ok (.agg #[S l]) w := by
  obtain ⟨v, ps, hrun, hv⟩ := h.lookup (Maps.string_keyed Tryz.underlying9) Tryz.underlying160 (zeroWords w) (zd := .lit (.string [])) (zp := []) rfl key_stat
  have hv := Rw_inv (l := l) hv
  subst hv
  exact hrun
theorem SM.none {w : World} {b : Nat} (h : w.heap[b]? = some (.map #[] 0)) : (Instr.lookup 160 (.map (some b)) (S statB) true).run Tryz.prog w = .ok (.tuple #[.agg #[S []], .bool false]) w := by
  have h0 : w.ownsMap Tryz.prog 9 Rw b 0 (.map []) := ⟨#[], 0, h, ⟨by simp, MapKept.stamped_empty 0, by simp⟩, Nat.le_refl _, rfl⟩
  obtain ⟨v, ps, hrun, hv⟩ := h0.look_ok (Maps.string_keyed Tryz.underlying9) Tryz.underlying160 (zeroWords w) (zd := .lit (.string [])) (zp := []) rfl key_stat
  have hv := Rw_inv (l := []) hv
  subst hv
  exact hrun
end Go.Proofs.YtmbakobindjjmaaGreatDoor
