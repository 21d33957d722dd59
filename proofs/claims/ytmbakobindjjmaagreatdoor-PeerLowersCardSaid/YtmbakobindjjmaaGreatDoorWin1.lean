
/- A peer's windows: the map of one stream's distance; grow, spend. -/
import Derived.Test.YtmbakobindjjmaaGreatDoorPer3
namespace Go.Proofs.YtmbakobindjjmaaGreatDoor
open Go.RowKit Go.Dr

/-- How a number reads. -/
def Rn : Value → Option (DataW Unit × List MemPlace)
  | .int .i64 x => some (.lit (.int .i64 x), [])
  | _ => none
theorem Rn_int (x : Int) : Rn (.int .i64 x) = some (.lit (.int .i64 x), []) := rfl
theorem Rn_inv {v : Value} {x : Int} {ps : List MemPlace} (h : Rn v = some (.lit (.int .i64 x), ps)) : v = .int .i64 x := by
  unfold Rn at h
  split at h
  · simp only [Option.some.injEq, Prod.mk.injEq, DataW.lit.injEq, Lit.int.injEq, true_and] at h
    rw [h.1]
  · cases h
/-- the map that leads from 1 to a number, and from nothing else -/
def OM (w : World) (o : Nat) (x : Int) : Prop := w.ownsMap Tryz.prog 3 Rn o 1 (.map [(.int .i64 1, .lit (.int .i64 x))])
theorem zeroI64 (w : World) : (zeroValue 2).run Tryz.prog w = .ok (.int .i64 0) w := by kernel_rfl
theorem OM.look {w : World} {o : Nat} {x : Int} (h : OM w o x) : (Instr.lookup 60 (.map (some o)) (.int .i64 1) true).run Tryz.prog w = .ok (.tuple #[.int .i64 x, .bool true]) w := by
  obtain ⟨v, ps, hrun, hv⟩ := h.look_ok (Maps.int_keyed Tryz.underlying3) Tryz.underlying60 (zeroI64 w) (zd := .lit (.int .i64 0)) (zp := []) rfl (Maps.keyOf_int_mk Tryz.underlying3 (show (Lit.int .i64 1).wf = true by decide))
  have hv := Rn_inv (x := x) hv
  subst hv
  exact hrun
theorem OM.get {w : World} {o : Nat} {x : Int} (h : OM w o x) : (Instr.lookup 60 (.map (some o)) (.int .i64 1) false).run Tryz.prog w = .ok (.int .i64 x) w := by
  obtain ⟨v, ps, hrun, hv⟩ := h.lookup (Maps.int_keyed Tryz.underlying3) Tryz.underlying60 (zeroI64 w) (zd := .lit (.int .i64 0)) (zp := []) rfl (Maps.keyOf_int_mk Tryz.underlying3 (show (Lit.int .i64 1).wf = true by decide))
  have hv := Rn_inv (x := x) hv
  subst hv
  exact hrun
theorem OM.put {w : World} {o : Nat} {x : Int} (h : OM w o x) (y : Int) : ∃ w', (Instr.mapUpdate 60 (.map (some o)) (.int .i64 1) (.int .i64 y)).run Tryz.prog w = .ok () w' ∧ OM w' o y ∧ w.mapTurned w' o := by
  obtain ⟨w', hrun, ho, hm⟩ := h.store (Maps.int_keyed Tryz.underlying3) Tryz.underlying60 (by decide) (Maps.keyOf_int_mk Tryz.underlying3 (show (Lit.int .i64 1).wf = true by decide)) (Rn_int y)
  refine ⟨w', hrun, ?_, hm⟩
  have := World.ownsMap.tight ho
  exact this
theorem OM.new {w : World} {o : Nat} (h : w.heap[o]? = some (.map #[] 0)) (y : Int) : ∃ w', (Instr.mapUpdate 60 (.map (some o)) (.int .i64 1) (.int .i64 y)).run Tryz.prog w = .ok () w' ∧ OM w' o y ∧ w.mapTurned w' o := by
  have h0 : w.ownsMap Tryz.prog 3 Rn o 0 (.map []) := ⟨#[], 0, h, ⟨by simp, MapKept.stamped_empty 0, by simp⟩, Nat.le_refl _, rfl⟩
  obtain ⟨w', hrun, ho, hm⟩ := h0.store (Maps.int_keyed Tryz.underlying3) Tryz.underlying60 (by decide) (Maps.keyOf_int_mk Tryz.underlying3 (show (Lit.int .i64 1).wf = true by decide)) (Rn_int y)
  exact ⟨w', hrun, ho, hm⟩
theorem OM.block {w w' : World} {o : Nat} {x : Int} (h : OM w o x) (hb : w'.heap[o]? = w.heap[o]?) : OM w' o x := by
  obtain ⟨es, clock, h1, F, h2, h3⟩ := h
  exact ⟨es, clock, hb.trans h1, F, h2, h3⟩
theorem OM.lt {w : World} {o : Nat} {x : Int} (h : OM w o x) : o < w.heap.size := by
  obtain ⟨es, clock, h1, -⟩ := h
  exact lt_of_block h1
theorem OM.obj {w : World} {o : Nat} {x : Int} (h : OM w o x) : ∃ es clock, w.heap[o]? = some (.map es clock) := by
  obtain ⟨es, clock, h1, -⟩ := h
  exact ⟨es, clock, h1⟩
end Go.Proofs.YtmbakobindjjmaaGreatDoor
