
/- The walks of layer 20, fifth part: whether a 304 is about an answer (program and reference). -/
import Derived.Test.YtghggooaaefdcaaDoorRen3
namespace Go.Proofs.YtghggooaaefdcaaDoor
open Go.RowKit Go.Dr

/-- The inner function of Fits, given how texts are held together. -/
def Both (how : Value) (f : Bytes → Bytes → Bool) : Prop :=
  ∀ (n : Bytes) (list le : List F) (vl vf : Value) (B E : Nat) (w : World), n.length ≤ 1099511627776 → w.cell? ⟨B, 0, none⟩ = some vl → w.cell? ⟨E, 3, none⟩ = some vf → B < w.heap.size → E < w.heap.size → Fs w.heap.size w vl list → Fs w.heap.size w vf le → fsum list ≤ 1099511627776 → fsum le ≤ 1099511627776 →
    Calls Tryd.prog 83 #[S n, how, .pointer (some ⟨B, 0, none⟩), .pointer (some ⟨E, 0, none⟩)] w fun e w' => e = .returned (.bool (bothB f n list le)) ∧ Below w.heap.size w w'

set_option maxRecDepth 100000 in
set_option maxHeartbeats 2000000 in
theorem both_alike : Both (.func (.func 84) #[] #[]) (alikeB) := by
  intro n list le vl vf B E w hn cB cE hB hE hl hf h1 h2
  have HY : Hid (bothB (alikeB) n list le = (oneB (values list n) && (oneB (values le n) && (alikeB) (oneV (values list n)) (oneV (values le n))))) := rfl
  go_enter Tryd.func83, Tryd.ntmps83
  go_wp2_with fail
  refine (one_any list n vl w hl h1 hn).mono ?_
  rintro e w1 ⟨rfl, hb1⟩
  have cE1 := (hb1.cell (p := ⟨E, 3, none⟩) hE).trans cE
  have hf1 := (hf.below hb1).mono hb1.size
  generalize oneV (values list n) = x1 at *
  generalize oneB (values list n) = b1 at *
  go_wp2_with fail
  refine (one_any le n vf w1 hf1 h2 hn).mono ?_
  rintro e w2 ⟨rfl, hb2⟩
  have hw2 := Bl.tr hb1 hb2
  generalize oneV (values le n) = x2 at *
  generalize oneB (values le n) = b2 at *
  cases b1 with
  | false =>
    go_wp2
    go_ret
    exact ⟨ret_bool (by rw [HY.out]; simp), hw2⟩
  | true =>
    cases b2 with
    | false =>
      go_wp2
      go_ret
      exact ⟨ret_bool (by rw [HY.out]; simp), hw2⟩
    | true =>
      go_wp2_with fail
      refine (alike_any x1 x2 w2).mono ?_
      rintro e w3 ⟨rfl, rfl⟩
      go_wp2
      go_ret
      exact ⟨ret_bool (by rw [HY.out]; simp), hw2⟩

set_option maxRecDepth 100000 in
set_option maxHeartbeats 2000000 in
theorem both_same : Both (.func (.func 82) #[] #[]) (fun a b => a == b) := by
  intro n list le vl vf B E w hn cB cE hB hE hl hf h1 h2
  have HY : Hid (bothB (fun a b => a == b) n list le = (oneB (values list n) && (oneB (values le n) && (fun a b => a == b) (oneV (values list n)) (oneV (values le n))))) := rfl
  go_enter Tryd.func83, Tryd.ntmps83
  go_wp2_with fail
  refine (one_any list n vl w hl h1 hn).mono ?_
  rintro e w1 ⟨rfl, hb1⟩
  have cE1 := (hb1.cell (p := ⟨E, 3, none⟩) hE).trans cE
  have hf1 := (hf.below hb1).mono hb1.size
  generalize oneV (values list n) = x1 at *
  generalize oneB (values list n) = b1 at *
  go_wp2_with fail
  refine (one_any le n vf w1 hf1 h2 hn).mono ?_
  rintro e w2 ⟨rfl, hb2⟩
  have hw2 := Bl.tr hb1 hb2
  generalize oneV (values le n) = x2 at *
  generalize oneB (values le n) = b2 at *
  cases b1 with
  | false =>
    go_wp2
    go_ret
    exact ⟨ret_bool (by rw [HY.out]; simp), hw2⟩
  | true =>
    cases b2 with
    | false =>
      go_wp2
      go_ret
      exact ⟨ret_bool (by rw [HY.out]; simp), hw2⟩
    | true =>
      go_wp2_with fail
      refine (same_any20 x1 x2 w2).mono ?_
      rintro e w3 ⟨rfl, rfl⟩
      go_wp2
      go_ret
      exact ⟨ret_bool (by rw [HY.out]; simp), hw2⟩

set_option maxRecDepth 100000 in
set_option maxHeartbeats 4000000 in
theorem Fits_any (q : En) (list le : List F) (vl : Value) (b : Bool) (hb : fitsB list le = b) (w : World) (hl : Fs w.heap.size w vl list) (hf : Fs w.heap.size w q.vf le) (h1 : fsum list ≤ 1099511627776) (h2 : fsum le ≤ 1099511627776) :
    Calls Tryd.prog 60 #[q.val, vl] w fun e w' => e = .returned (.bool b) ∧ Below w.heap.size w w' := by
  obtain ⟨pl, cl, rfl, -⟩ := hl.form
  obtain ⟨pf, cf, hfv, -⟩ := hf.form
  obtain ⟨key, vp, st, vf, body, asked, came⟩ := q
  simp only at hfv hf
  subst hfv
  have HY := Lib.hid hb
  clear hb
  have hmf : ∀ (fn : Fn) (first cap : Array Value) (w : World), (Instr.makeFunc fn first cap).run Tryd.prog w = .ok (.func fn first cap) w := fun _ _ _ _ => rfl
  have hQ := Blk.new w 28 #[S key, vp, .int .i64 st, .slice pf le.length cf, S body, .int .i64 asked, .int .i64 came]
  have hbx : Below w.heap.size w (w.alloc (.cells #[S key, vp, .int .i64 st, .slice pf le.length cf, S body, .int .i64 asked, .int .i64 came] 28)) := (Below.refl _ _).alloc (Nat.le_refl _) _
  have hL := Blk.new (w.alloc (.cells #[S key, vp, .int .i64 st, .slice pf le.length cf, S body, .int .i64 asked, .int .i64 came] 28)) 26 #[.slice pl list.length cl]
  have hby := hbx.alloc hbx.size (.cells #[.slice pl list.length cl] 26)
  have hQ2 := hQ.alloc (.cells #[.slice pl list.length cl] 26)
  have hsz : (w.alloc (.cells #[S key, vp, .int .i64 st, .slice pf le.length cf, S body, .int .i64 asked, .int .i64 came] 28)).heap.size = w.heap.size + 1 := by simp
  rw [hsz] at hL
  have hl2 := (hl.below hby).mono hby.size
  have hf2 := (hf.below hby).mono hby.size
  have c0 := hL.cell 0
  simp at c0
  clear hQ hbx hsz hl hf
  unfold En.val
  go_enter Tryd.func60, Tryd.ntmps60
  go_wp2_with fail
  generalize ((w.alloc (.cells #[S key, vp, .int .i64 st, .slice pf le.length cf, S body, .int .i64 asked, .int .i64 came] 28)).alloc (.cells #[.slice pl list.length cl] 26)) = w2 at *
  refine (has_any list etagT _ w2 hl2 h1 (by decide)).mono ?_
  rintro e w3 ⟨rfl, hb3⟩
  have hw3 := Bl.tr hby hb3
  have hl3 := (hl2.below hb3).mono hb3.size
  have hf3 := (hf2.below hb3).mono hb3.size
  have hL3 := hL.on hb3
  have hQ3 := hQ2.on hb3
  clear hby hl2 hf2 hL hQ2 hb3 c0
  have d0 := hL3.cell 0
  have d3 := hQ3.cell 3
  simp at d0 d3
  cases hE : hasB list etagT with
  | true =>
    have HR : Hid (bothB alikeB etagT list le = b) := by show _ = _; rw [← HY.out, fitsB, hE, if_pos rfl]
    clear hE
    go_wp2_with fail
    refine (both_alike etagT list le _ _ (w.heap.size + 1) w.heap.size w3 (by decide) d0 d3 hL3.lt hQ3.lt hl3 hf3 h1 h2).mono ?_
    rintro e w4 ⟨rfl, hb4⟩
    rw [HR.out]
    go_wp2
    go_ret
    exact ⟨rfl, Bl.tr hw3 hb4⟩
  | false =>
    have HE := Lib.hid hE
    clear hE
    go_wp2_with fail
    refine (has_any list lastT _ w3 hl3 h1 (by decide)).mono ?_
    rintro e w4 ⟨rfl, hb4⟩
    have hw4 := Bl.tr hw3 hb4
    have hl4 := (hl3.below hb4).mono hb4.size
    have hf4 := (hf3.below hb4).mono hb4.size
    have hL4 := hL3.on hb4
    have hQ4 := hQ3.on hb4
    clear hw3 hl3 hf3 hL3 hQ3 hb4 d0 d3
    have d0 := hL4.cell 0
    have d3 := hQ4.cell 3
    simp at d0 d3
    cases hE : hasB list lastT with
    | true =>
      have HR : Hid (bothB (fun a b => a == b) lastT list le = b) := by show _ = _; rw [← HY.out, fitsB, HE.out, hE, if_neg (by simp), if_pos rfl]
      clear hE
      go_wp2_with fail
      refine (both_same lastT list le _ _ (w.heap.size + 1) w.heap.size w4 (by decide) d0 d3 hL4.lt hQ4.lt hl4 hf4 h1 h2).mono ?_
      rintro e w5 ⟨rfl, hb5⟩
      rw [HR.out]
      go_wp2
      go_ret
      exact ⟨rfl, Bl.tr hw4 hb5⟩
    | false =>
      have HR : Hid (true = b) := by show _ = _; rw [← HY.out, fitsB, HE.out, hE, if_neg (by simp), if_neg (by simp)]
      clear hE
      go_wp2
      go_ret
      exact ⟨ret_bool HR.out, hw4⟩
end Go.Proofs.YtghggooaaefdcaaDoor
namespace Go.Proofs.YtghggooaaefdcaaDoor
open Go.RowKit Go.Dr

end Go.Proofs.YtghggooaaefdcaaDoor
