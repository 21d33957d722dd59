
/- What a peer asks of data whose stream did not begin. -/
import Derived.Test.YtmbakobindjjmaaGreatDoorPer1
import Derived.Test.YtmbakobindjjmaaGreatDoorPmp
import Derived.Deep.DeepCutAuto
import Derived.Deep.RegionHeld3
namespace Go.Proofs.YtmbakobindjjmaaGreatDoor
open Go.RowKit Go.Dr

/-- 'm[i]' -/
theorem PMap.get {P : Program} {kt et t : TypeId} {w : World} {m : Nat} {l : List (Int × Nat)} (h : PMap P kt w m l) (hk : P.underlying kt = some (.int .i64)) (ht : P.underlying t = some (.map kt et)) (hz : (zeroValue et).run P w = .ok (.pointer none) w) (i : Int) (hw : (Lit.int .i64 i).wf = true) :
    (∃ b, (i, b) ∈ l ∧ (Instr.lookup t (.map (some m)) (.int .i64 i) false).run P w = .ok (Ptr b) w) ∨ ((∀ p ∈ l, p.1 ≠ i) ∧ (Instr.lookup t (.map (some m)) (.int .i64 i) false).run P w = .ok (.pointer none) w) := by
  obtain ⟨D, h1, h2, h3, h4, h5, h6, h7⟩ := h
  obtain ⟨v, ps, hrun, hv⟩ := h1.lookup (Maps.int_keyed hk) ht hz (zd := .nil) (zp := []) rfl (Maps.keyOf_int_mk hk hw)
  cases hh : Maps.has D (.int .i64 i) with
  | true =>
    rw [h6, List.any_eq_true] at hh
    obtain ⟨p, hm, e⟩ := hh
    obtain rfl : p.1 = i := by simpa using e
    rw [h7 p hm] at hv
    have hv := Rp_inv hv
    subst hv
    exact .inl ⟨p.2, hm, hrun⟩
  | false =>
    rw [Maps.atKey_of_not_has hh] at hv
    have hv := Rp_nil hv
    subst hv
    refine .inr ⟨fun p hm e => ?_, hrun⟩
    rw [h6] at hh
    have := List.any_eq_false.1 hh p hm
    simp [e] at this

theorem zeroSide (w : World) : (zeroValue 93).run Tryz.prog w = .ok (.pointer none) w := by kernel_rfl

theorem none_look {w : World} {m : Nat} (h : w.heap[m]? = some (.map #[] 0)) (i : Int) (hw : (Lit.int .i64 i).wf = true) : (Instr.lookup 59 (.map (some m)) (.int .i64 i) false).run Tryz.prog w = .ok (.pointer none) w := by
  rcases PMap.get (PMap.made (P := Tryz.prog) (kt := 3) h) (t := 59) Tryz.underlying3 Tryz.underlying59 (zeroSide w) i hw with ⟨b, hm, -⟩ | ⟨-, e⟩
  · cases hm
  · exact e

set_option maxRecDepth 100000 in
set_option maxHeartbeats 4000000 in
theorem streams_none {vout vin voff vdec vpings vorder vblock : Value} {all beg frames tab sts last of away bad : Int} {first ends closed : Bool} {p m : Nat} {fl st pad code la inc dep wt xc xs : Int} {sole xi : Bool} {da : Bytes} {sa : Option Addr} {sn sc : Nat} (w : World) (hst : (Lit.int .i64 st).wf = true) (hm : w.heap[m]? = some (.map #[] 0))
    (h : Blk w p 67 #[vout, vin, .int .i64 all, .int .i64 beg, voff, vdec, .int .i64 frames, .int .i64 tab, .int .i64 sts, vpings, .int .i64 last, .map (some m), vorder, .bool first, .int .i64 of, .bool ends, vblock, .int .i64 away, .bool closed, .int .i64 bad]) :
    Calls Tryz.prog 33 #[Ptr p, .agg #[.int .i64 0, .int .i64 fl, .int .i64 st, S da, .int .i64 pad, .slice sa sn sc, .int .i64 code, .int .i64 la, .int .i64 inc, .int .i64 dep, .int .i64 wt, .bool sole, .bool xi, .int .i64 xc, .int .i64 xs]] w fun e w' => e = .returned (.int .i64 241) ∧ Below w.heap.size w w' := by
  obtain ⟨W, eW⟩ : ∃ W, W = (w.alloc (.cells #[.int .i64 0, .int .i64 fl, .int .i64 st, S da, .int .i64 pad, .slice sa sn sc, .int .i64 code, .int .i64 la, .int .i64 inc, .int .i64 dep, .int .i64 wt, .bool sole, .bool xi, .int .i64 xc, .int .i64 xs] 75)).alloc (.cells #[.int .i64 0, .int .i64 fl, .int .i64 st, S da, .int .i64 pad, .slice sa sn sc, .int .i64 code, .int .i64 la, .int .i64 inc, .int .i64 dep, .int .i64 wt, .bool sole] 33) := ⟨_, rfl⟩
  have hb : Below w.heap.size w W := by rw [eW]; exact ((Below.refl _ _).alloc (Nat.le_refl _) _).alloc (by simp) _
  have hW : W.heap[m]? = some (.map #[] 0) := (hb.block m (Array.getElem?_eq_some_iff.1 hm).1).trans hm
  have hF : Blk W (w.heap.size + 1) 33 #[.int .i64 0, .int .i64 fl, .int .i64 st, S da, .int .i64 pad, .slice sa sn sc, .int .i64 code, .int .i64 la, .int .i64 inc, .int .i64 dep, .int .i64 wt, .bool sole] := by rw [eW, ← World.size_alloc]; exact Blk.new _ _ _
  have hP := h.on hb
  have y11 : W.cell? ⟨p, 11, none⟩ = some (.map (some m)) := hP.cell 11
  have u0 : W.cell? ⟨w.heap.size + 1, 0, none⟩ = some (.int .i64 0) := hF.cell 0
  have u1 : W.cell? ⟨w.heap.size + 1, 1, none⟩ = some (.int .i64 fl) := hF.cell 1
  have u2 : W.cell? ⟨w.heap.size + 1, 2, none⟩ = some (.int .i64 st) := hF.cell 2
  have k1 := none_look hW st hst
  have k2 := none_look (show W.drew.heap[m]? = some (.map #[] 0) from hW) st hst
  go_enter Tryz.func33, Tryz.ntmps33
  go_upto_region 10 with fail
  rw [← eW]
  clear eW
  go_region_with (fail)
  all_goals go_wp2
  all_goals go_ret
  all_goals exact ⟨rfl, hb.drew⟩
end Go.Proofs.YtmbakobindjjmaaGreatDoor
