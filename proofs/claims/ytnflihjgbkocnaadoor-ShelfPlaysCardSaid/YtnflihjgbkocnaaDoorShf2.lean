
/- The walks of layer 19, second part: what an entry costs. -/
import Derived.Test.YtnflihjgbkocnaaDoorOct
import Derived.Test.YtnflihjgbkocnaaDoorOpen
import Derived.Deep.DeepCutAuto
namespace Go.Proofs.YtnflihjgbkocnaaDoor
open Go.RowKit Go.Dr

/-- What an entry costs. -/
def costF (q : En) (lp lf : List F) : Nat := 64 + q.key.length + q.body.length + fsum lf + fsum lp

set_option linter.unusedSimpArgs false in
set_option linter.unusedVariables false in
set_option linter.unnecessarySimpa false in
set_option maxRecDepth 100000 in
set_option maxHeartbeats 4000000 in
theorem Cost_any (q : En) (lp lf : List F) (w : World) (hp : Fs w.heap.size w q.vp lp) (hf : Fs w.heap.size w q.vf lf) (hk : q.key.length ≤ 1099511627776) (hb : q.body.length ≤ 1099511627776) (hl : fsum lp ≤ 1099511627776) (hl2 : fsum lf ≤ 1099511627776) :
    Calls Tryd.prog 7 #[q.val] w fun e w' => e = .returned (.int .i64 (costF q lp lf : Nat)) ∧ Below w.heap.size w w' := by
  obtain ⟨pf, cf, hfv, -⟩ := hf.form
  obtain ⟨pp, cp, hpv, -⟩ := hp.form
  obtain ⟨key, vp, st, vf, body, asked, came⟩ := q
  simp only at hfv hpv hf hp hk hb
  subst hfv hpv
  have HC : Hid (costF ⟨key, .slice pp lp.length cp, st, .slice pf lf.length cf, body, asked, came⟩ lp lf = 64 + key.length + body.length + fsum lf + fsum lp) := rfl
  simp only [En.val]
  generalize costF ⟨key, .slice pp lp.length cp, st, .slice pf lf.length cf, body, asked, came⟩ lp lf = C at *
  obtain ⟨w0, ew⟩ : ∃ w0 : World, w0 = w.alloc (.cells #[S key, .slice pp lp.length cp, .int .i64 st, .slice pf lf.length cf, S body, .int .i64 asked, .int .i64 came] 36) := ⟨_, rfl⟩
  have hQ0 : Blk w0 w.heap.size 36 #[S key, .slice pp lp.length cp, .int .i64 st, .slice pf lf.length cf, S body, .int .i64 asked, .int .i64 came] := by rw [ew]; exact Blk.new _ _ _
  have hb0 : Below w.heap.size w w0 := by rw [ew]; exact (Below.refl _ _).alloc (Nat.le_refl _) _
  have hf0 := (hf.below hb0).mono hb0.size
  have hp0 := (hp.below hb0).mono hb0.size
  have y0 : w0.cell? ⟨w.heap.size, 0, none⟩ = some (S key) := hQ0.cell 0
  have y3 : w0.cell? ⟨w.heap.size, 3, none⟩ = some (.slice pf lf.length cf) := hQ0.cell 3
  have y4 : w0.cell? ⟨w.heap.size, 4, none⟩ = some (S body) := hQ0.cell 4
  have hn1 := fsum_length lf
  have hn2 := fsum_length lp
  go_enter Tryd.func7, Tryd.ntmps7
  go_upto_region 1 with fail
  rw [← ew]
  clear ew hf hp
  go_wp2
  go_loopw [3, 19] (fun n i wr => ∃ k : Nat, i = .int .i64 k ∧ k ≤ lf.length ∧ n = .int .i64 ((64 + key.length + body.length + fsum (lf.take k) : Nat) : Int) ∧ Below w0.heap.size w0 wr) (fun _ i _ => lf.length - (intOf i).toNat)
  case atStart => exact ⟨0, rfl, Nat.zero_le _, by simp [fsum], Below.refl _ _⟩
  case round =>
    obtain ⟨k, rfl, hk', rfl, hbel⟩ := hrel
    have hbd := Lib.hid (fsum_take lf k)
    by_cases hlt : k < lf.length
    · obtain ⟨b, off, rfl, hbb, c0, c1, c2⟩ := (hf0.below hbel).at k hlt
      have hff := fsum_mem (List.getElem_mem hlt)
      have HS : Hid (fsum (lf.take (k + 1)) = fsum (lf.take k) + (lf[k].n.length + lf[k].v.length + 32)) := by show _ = _; rw [take_snoc lf k hlt, fsum_append]; simp [fsum]
      have hb1 := hbd.out
      generalize fsum (lf.take k) = s at *
      go_wp2
      go_roundw
      case rel => exact ⟨k + 1, by go_num, by omega, by rw [HS.out]; go_num, hbel.alloc hbel.size _⟩
      case measure => simp [intOf]; omega
    · have e : k = lf.length := by omega
      subst e
      rw [List.take_length] at *
      obtain ⟨wo, rfl⟩ : ∃ wo : World, wo = wr := ⟨_, rfl⟩
      have hQo := hQ0.on hbel
      have y1 : wo.cell? ⟨w.heap.size, 1, none⟩ = some (.slice pp lp.length cp) := hQo.cell 1
      have hpo := (hp0.below hbel).mono hbel.size
      have hwo := Bl.tr hb0 hbel
      go_wp2
      go_loopw [3, 37] (fun n i wr => ∃ k : Nat, i = .int .i64 k ∧ k ≤ lp.length ∧ n = .int .i64 ((64 + key.length + body.length + fsum lf + fsum (lp.take k) : Nat) : Int) ∧ Below wo.heap.size wo wr) (fun _ i _ => lp.length - (intOf i).toNat)
      case atStart => exact ⟨0, rfl, Nat.zero_le _, by simp [fsum], Below.refl _ _⟩
      case round =>
        obtain ⟨k, rfl, hk', rfl, hbel⟩ := hrel
        have hbd := Lib.hid (fsum_take lp k)
        by_cases hlt : k < lp.length
        · obtain ⟨b, off, rfl, hbb, c0, c1, c2⟩ := (hpo.below hbel).at k hlt
          have hff := fsum_mem (List.getElem_mem hlt)
          have HS : Hid (fsum (lp.take (k + 1)) = fsum (lp.take k) + (lp[k].n.length + lp[k].v.length + 32)) := by show _ = _; rw [take_snoc lp k hlt, fsum_append]; simp [fsum]
          have hb1 := hbd.out
          generalize fsum (lp.take k) = s at *
          go_wp2
          go_roundw
          case rel => exact ⟨k + 1, by go_num, by omega, by rw [HS.out]; go_num, hbel.alloc hbel.size _⟩
          case measure => simp [intOf]; omega
        · have e : k = lp.length := by omega
          subst e
          rw [List.take_length] at *
          go_wp2
          go_ret
          exact ⟨ret_int (by rw [HC.out]), Bl.tr hwo hbel⟩
end Go.Proofs.YtnflihjgbkocnaaDoor
