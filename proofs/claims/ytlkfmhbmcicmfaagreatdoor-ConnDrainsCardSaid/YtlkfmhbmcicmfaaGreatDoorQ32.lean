/- Parts of the proof of dp_root: the texts Law22g. -/
import Derived.Test.YtlkfmhbmcicmfaaGreatDoorQ31
set_option linter.unusedSimpArgs false
set_option linter.unusedVariables false
set_option linter.unnecessarySimpa false
namespace Go.Proofs.YtlkfmhbmcicmfaaGreatDoor
open Go Go.RowKit Go.Dr
variable {n : Nm} {q q' : Cq}

/-- behind so many requests -/
def qd : Nat → Cq
  | 0 => q22a bs22
  | k + 1 => ({ qd k with news := [], endOf := true } : Cq).asked ((2 * k + 1 : Nat) : Int) [47] true
/-- drained -/
def qe (k : Nat) : Cq := { qd k with bytes := awayB (2 * k - 1) 0, drained := true, floor := (qd k).last, over := (qd k).live.isEmpty }
def qs (k : Nat) (late : Bool) : Cq := if late then ({ qe k with bytes := [], news := [], endOf := true } : Cq).late ((9 : Nat) : Int) else { qe k with bytes := [] }
/-- behind so many answers -/
def qh (q : Cq) : Nat → Cq
  | 0 => q
  | k + 1 => { qh q k with bytes := (qh q k).bytes ++ frB 1 5 (2 * k + 1) [136], live := [] ++ (qh q k).live.tail, off := sans (qh q k).off ((2 * k + 1 : Nat) : Int), over := (qh q k).over || ((qh q k).drained && ([] ++ (qh q k).live.tail).isEmpty) }


set_option maxRecDepth 100000 in
set_option maxHeartbeats 16000000 in
theorem drains22_0f (s : Int) (h1 : s.tmod 4 = 0) (h2 : s % 4 = 0) (w : World) : Calls Tryz.prog 6 #[.int .u8 s, .bool false] w fun e w' => e = .returned (.bool true) ∧ Below w.heap.size w w' := by
  go_enter Tryz.func6, Tryz.ntmps6
  go_wp2_with first
    | (go_at_call 20; go_must ((with_reducible refine (awake22_any _).mono ?_); rintro r w1 ⟨rfl, hb1⟩))
    | (go_at_call 22; go_must ((with_reducible refine (Limits_any _).mono ?_); rintro r w2 ⟨rfl, hb2⟩; have hb := hb1.trans (hb2.mono hb1.size)))
    | (go_at_call 21; go_must ((with_reducible refine (new22 _).mono ?_); rintro r w3 ⟨n, F, rfl, hnB, hC, hb3⟩; have hB : w.heap.size ≤ n.B := (by have := hb.size; omega); have hb := hb.trans (hb3.mono hb.size); have hz : n.B ≤ w3.heap.size := (by have := hb3.size; omega)))
    | (go_at_call 24; go_must ((with_reducible refine (Hello_any _).mono ?_); rintro r w4 ⟨v4, rfl, hr4, hb4⟩; obtain ⟨hC, hb, hz⟩ := cw_on hC hb hz hb4; have hTk := Take_hello hC v4 (own_by hr4)))
    | (go_at_call 23; go_must ((with_reducible refine hTk.mono ?_); rintro r w5 ⟨v5, j5, rfl, -, hG⟩; obtain ⟨F5, hC, hb, hz⟩ := goes_on hC hb hB hz hG))
  replace hC : Cw _ n (qd 0) F5 := hC
  refine wp_loop_rounds 1 ?_
  rw [rounds_succ]
  go_upto_region 13 with (go_at_call 27; go_must ((with_reducible refine (Out_any _ hC).mono ?_); rintro r w6 ⟨v6, rfl, -, -, hG⟩; obtain ⟨F6, hC, hb, hz⟩ := goes_on hC hb hB hz hG; have hDr : Calls Tryz.prog 33 #[Ptr n.c] w6 (fun e w' => e = .returned (.tuple #[]) ∧ Goes w6 n F6 w' (qe 0)) := Drain_go w6 hC rfl rfl 0 rfl (by decide) (by decide +kernel)))
  go_upto_region 14 with (go_at_call 33; go_must ((with_reducible refine hDr.mono ?_); rintro r w7 ⟨rfl, hG⟩; obtain ⟨F7, hC, hb, hz⟩ := goes_on hC hb hB hz hG))
  go_upto_region 15 with first
    | (go_at_call 27; go_must ((with_reducible refine (Out_any _ hC).mono ?_); rintro r w8 ⟨v8, rfl, hr8, -, hG⟩; obtain ⟨F8, hC, hb, hz⟩ := goes_on hC hb hB hz hG; replace hC : Cw w8 n (qs 0 false) F8 := hC; have hr8' : w8.ownsRow n.B 5 1 v8 (awayB 0 0).length ((awayB 0 0).map B8) := hr8; have hAl := All_of [(awayB 0 0, { ty := 7, last := 0, code := 0 })] (by intro x hx; obtain rfl : x = _ := List.mem_singleton.1 hx; exact ⟨rTk_Gow 0 0 (by decide) (by decide), by decide⟩) v8 w8 (by rw [show flatF [(awayB 0 0, ({ ty := 7, last := 0, code := 0 } : Fr))] = awayB 0 0 from List.append_nil _]; exact own_by hr8') (by decide)))
    | (go_at_call 29; go_must ((with_reducible refine hAl.mono ?_); rintro r w9 ⟨vo, its, rfl, hits, hrow, -, hb9⟩; obtain ⟨vs, rfl⟩ := its_one hits; replace hrow : w9.ownsRow w8.heap.size 72 15 vo 1 _ := hrow; obtain ⟨ao, co, rfl⟩ := own_form hrow; obtain ⟨go, rfl, hcell⟩ := row_cell hrow (by decide); have k0 : w9.cell? ⟨go, 0, none⟩ = some (.int .i64 7) := hcell 0 _ rfl; have k6 : w9.cell? ⟨go, 6, none⟩ = some (.int .i64 0) := hcell 6 _ rfl; have k7 : w9.cell? ⟨go, 7, none⟩ = some (.int .i64 0) := hcell 7 _ rfl; clear hcell; obtain ⟨hC, hb, hz⟩ := cw_on hC hb hz hb9; have hOv : Calls Tryz.prog 31 #[Ptr n.c] w9 (fun e w' => e = .returned (.bool true) ∧ w' = w9) := Over_any2 w9 hC))
  go_upto_region 17 with (go_at_call 31; go_must ((with_reducible refine hOv.mono ?_); rintro r w10 ⟨rfl, e10⟩; have e11 := e10.symm; subst e11))
  obtain ⟨FQ, hC⟩ : ∃ FQ, Cw _ n (qh (qs 0 false) 0) FQ := ⟨_, hC⟩
  go_wp2_with fail
  refine wp_loop_rounds 1 ?_
  rw [rounds_succ]
  go_upto_region 25 with (go_at_call 27; go_must ((with_reducible refine (Out_any _ hC).mono ?_); rintro r w16 ⟨v16, rfl, -, -, hG⟩; obtain ⟨F16, hC, hb, hz⟩ := goes_on hC hb hB hz hG; have hDr := Drain_over w16 hC rfl))
  go_upto_region 26 with (go_at_call 33; go_must ((with_reducible refine hDr.mono ?_); rintro r w17 ⟨rfl, e17⟩; have e18 := e17.symm; subst e18; have hOv : Calls Tryz.prog 31 #[Ptr n.c] w16 (fun e w' => e = .returned (.bool true) ∧ w' = w16) := Over_any2 w16 hC))
  go_wp2_with first
    | (go_at_call 31; go_must ((with_reducible refine hOv.mono ?_); rintro r w18 ⟨rfl, e18⟩; have e19 := e18.symm; subst e19))
    | (go_at_call 27; go_must ((with_reducible refine (Out_any _ hC).mono ?_); rintro r w19 ⟨v19, rfl, hr19, -, hG⟩; obtain ⟨F19, hC, hb, hz⟩ := goes_on hC hb hB hz hG; replace hr19 : w19.ownsRow n.B 5 1 v19 0 [] := hr19; obtain ⟨a19, c19, rfl⟩ := own_form hr19))
    | (go_at_call 26; go_must ((with_reducible refine (getS 11 _).mono ?_); rintro r wa ⟨rfl, hba⟩; have hbA := (Below.refl wa.heap.size wa).alloc (Nat.le_refl _) (.cells #[.int .i64 1, .int .i64 5, .int .i64 11, S dS, .int .i64 0, .slice none 0 0, .int .i64 0, .int .i64 0, .int .i64 0, .int .i64 0, .int .i64 0, .bool false] 34); obtain ⟨hC, hb, hz⟩ := cw_on hC hb hz (hba.trans (hbA.mono hba.size)); have hBy := fun (w1 : World) (hg : Blk w1 wa.heap.size 34 #[.int .i64 1, .int .i64 5, .int .i64 11, S dS, .int .i64 0, .slice none 0 0, .int .i64 0, .int .i64 0, .int .i64 0, .int .i64 0, .int .i64 0, .bool false]) => bytesS 11 (by decide) w1 hg))
    | (go_at_call 25; go_must ((with_reducible refine (hBy _ (Blk.new _ _ _)).mono ?_); rintro r wb ⟨vb, rfl, hrb, hbb⟩; obtain ⟨hC, hb, hz⟩ := cw_on hC hb hz hbb; have hTk := Take_over wb hC rfl vb))
    | (go_at_call 23; go_must ((with_reducible refine hTk.mono ?_); rintro r wc ⟨rfl, ec⟩; have ed := ec.symm; subst ed))
  go_ret
  exact ⟨rfl, hb⟩


set_option maxRecDepth 100000 in
set_option maxHeartbeats 16000000 in
theorem drains22_0t (s : Int) (h1 : s.tmod 4 = 0) (h2 : s % 4 = 0) (w : World) : Calls Tryz.prog 6 #[.int .u8 s, .bool true] w fun e w' => e = .returned (.bool true) ∧ Below w.heap.size w w' := by
  go_enter Tryz.func6, Tryz.ntmps6
  go_wp2_with first
    | (go_at_call 20; go_must ((with_reducible refine (awake22_any _).mono ?_); rintro r w1 ⟨rfl, hb1⟩))
    | (go_at_call 22; go_must ((with_reducible refine (Limits_any _).mono ?_); rintro r w2 ⟨rfl, hb2⟩; have hb := hb1.trans (hb2.mono hb1.size)))
    | (go_at_call 21; go_must ((with_reducible refine (new22 _).mono ?_); rintro r w3 ⟨n, F, rfl, hnB, hC, hb3⟩; have hB : w.heap.size ≤ n.B := (by have := hb.size; omega); have hb := hb.trans (hb3.mono hb.size); have hz : n.B ≤ w3.heap.size := (by have := hb3.size; omega)))
    | (go_at_call 24; go_must ((with_reducible refine (Hello_any _).mono ?_); rintro r w4 ⟨v4, rfl, hr4, hb4⟩; obtain ⟨hC, hb, hz⟩ := cw_on hC hb hz hb4; have hTk := Take_hello hC v4 (own_by hr4)))
    | (go_at_call 23; go_must ((with_reducible refine hTk.mono ?_); rintro r w5 ⟨v5, j5, rfl, -, hG⟩; obtain ⟨F5, hC, hb, hz⟩ := goes_on hC hb hB hz hG))
  replace hC : Cw _ n (qd 0) F5 := hC
  refine wp_loop_rounds 1 ?_
  rw [rounds_succ]
  go_upto_region 13 with (go_at_call 27; go_must ((with_reducible refine (Out_any _ hC).mono ?_); rintro r w6 ⟨v6, rfl, -, -, hG⟩; obtain ⟨F6, hC, hb, hz⟩ := goes_on hC hb hB hz hG; have hDr : Calls Tryz.prog 33 #[Ptr n.c] w6 (fun e w' => e = .returned (.tuple #[]) ∧ Goes w6 n F6 w' (qe 0)) := Drain_go w6 hC rfl rfl 0 rfl (by decide) (by decide +kernel)))
  go_upto_region 14 with (go_at_call 33; go_must ((with_reducible refine hDr.mono ?_); rintro r w7 ⟨rfl, hG⟩; obtain ⟨F7, hC, hb, hz⟩ := goes_on hC hb hB hz hG))
  go_upto_region 15 with first
    | (go_at_call 27; go_must ((with_reducible refine (Out_any _ hC).mono ?_); rintro r w8 ⟨v8, rfl, hr8, -, hG⟩; obtain ⟨F8, hC, hb, hz⟩ := goes_on hC hb hB hz hG; replace hC : Cw w8 n (qs 0 false) F8 := hC; have hr8' : w8.ownsRow n.B 5 1 v8 (awayB 0 0).length ((awayB 0 0).map B8) := hr8; have hAl := All_of [(awayB 0 0, { ty := 7, last := 0, code := 0 })] (by intro x hx; obtain rfl : x = _ := List.mem_singleton.1 hx; exact ⟨rTk_Gow 0 0 (by decide) (by decide), by decide⟩) v8 w8 (by rw [show flatF [(awayB 0 0, ({ ty := 7, last := 0, code := 0 } : Fr))] = awayB 0 0 from List.append_nil _]; exact own_by hr8') (by decide)))
    | (go_at_call 29; go_must ((with_reducible refine hAl.mono ?_); rintro r w9 ⟨vo, its, rfl, hits, hrow, -, hb9⟩; obtain ⟨vs, rfl⟩ := its_one hits; replace hrow : w9.ownsRow w8.heap.size 72 15 vo 1 _ := hrow; obtain ⟨ao, co, rfl⟩ := own_form hrow; obtain ⟨go, rfl, hcell⟩ := row_cell hrow (by decide); have k0 : w9.cell? ⟨go, 0, none⟩ = some (.int .i64 7) := hcell 0 _ rfl; have k6 : w9.cell? ⟨go, 6, none⟩ = some (.int .i64 0) := hcell 6 _ rfl; have k7 : w9.cell? ⟨go, 7, none⟩ = some (.int .i64 0) := hcell 7 _ rfl; clear hcell; obtain ⟨hC, hb, hz⟩ := cw_on hC hb hz hb9; have hOv : Calls Tryz.prog 31 #[Ptr n.c] w9 (fun e w' => e = .returned (.bool true) ∧ w' = w9) := Over_any2 w9 hC))
  go_upto_region 17 with (go_at_call 31; go_must ((with_reducible refine hOv.mono ?_); rintro r w10 ⟨rfl, e10⟩; have e11 := e10.symm; subst e11))
  obtain ⟨FQ, hC⟩ : ∃ FQ, Cw _ n (qh (qs 0 false) 0) FQ := ⟨_, hC⟩
  go_wp2_with fail
  refine wp_loop_rounds 1 ?_
  rw [rounds_succ]
  go_upto_region 25 with (go_at_call 27; go_must ((with_reducible refine (Out_any _ hC).mono ?_); rintro r w16 ⟨v16, rfl, -, -, hG⟩; obtain ⟨F16, hC, hb, hz⟩ := goes_on hC hb hB hz hG; have hDr := Drain_over w16 hC rfl))
  go_upto_region 26 with (go_at_call 33; go_must ((with_reducible refine hDr.mono ?_); rintro r w17 ⟨rfl, e17⟩; have e18 := e17.symm; subst e18; have hOv : Calls Tryz.prog 31 #[Ptr n.c] w16 (fun e w' => e = .returned (.bool true) ∧ w' = w16) := Over_any2 w16 hC))
  go_wp2_with first
    | (go_at_call 31; go_must ((with_reducible refine hOv.mono ?_); rintro r w18 ⟨rfl, e18⟩; have e19 := e18.symm; subst e19))
    | (go_at_call 27; go_must ((with_reducible refine (Out_any _ hC).mono ?_); rintro r w19 ⟨v19, rfl, hr19, -, hG⟩; obtain ⟨F19, hC, hb, hz⟩ := goes_on hC hb hB hz hG; replace hr19 : w19.ownsRow n.B 5 1 v19 0 [] := hr19; obtain ⟨a19, c19, rfl⟩ := own_form hr19))
    | (go_at_call 26; go_must ((with_reducible refine (getS 11 _).mono ?_); rintro r wa ⟨rfl, hba⟩; have hbA := (Below.refl wa.heap.size wa).alloc (Nat.le_refl _) (.cells #[.int .i64 1, .int .i64 5, .int .i64 11, S dS, .int .i64 0, .slice none 0 0, .int .i64 0, .int .i64 0, .int .i64 0, .int .i64 0, .int .i64 0, .bool false] 34); obtain ⟨hC, hb, hz⟩ := cw_on hC hb hz (hba.trans (hbA.mono hba.size)); have hBy := fun (w1 : World) (hg : Blk w1 wa.heap.size 34 #[.int .i64 1, .int .i64 5, .int .i64 11, S dS, .int .i64 0, .slice none 0 0, .int .i64 0, .int .i64 0, .int .i64 0, .int .i64 0, .int .i64 0, .bool false]) => bytesS 11 (by decide) w1 hg))
    | (go_at_call 25; go_must ((with_reducible refine (hBy _ (Blk.new _ _ _)).mono ?_); rintro r wb ⟨vb, rfl, hrb, hbb⟩; obtain ⟨hC, hb, hz⟩ := cw_on hC hb hz hbb; have hTk := Take_over wb hC rfl vb))
    | (go_at_call 23; go_must ((with_reducible refine hTk.mono ?_); rintro r wc ⟨rfl, ec⟩; have ed := ec.symm; subst ed))
  go_ret
  exact ⟨rfl, hb⟩


set_option maxRecDepth 100000 in
set_option maxHeartbeats 16000000 in
theorem drains22_1f (s : Int) (h1 : s.tmod 4 = 1) (h2 : s % 4 = 1) (w : World) : Calls Tryz.prog 6 #[.int .u8 s, .bool false] w fun e w' => e = .returned (.bool true) ∧ Below w.heap.size w w' := by
  go_enter Tryz.func6, Tryz.ntmps6
  go_wp2_with first
    | (go_at_call 20; go_must ((with_reducible refine (awake22_any _).mono ?_); rintro r w1 ⟨rfl, hb1⟩))
    | (go_at_call 22; go_must ((with_reducible refine (Limits_any _).mono ?_); rintro r w2 ⟨rfl, hb2⟩; have hb := hb1.trans (hb2.mono hb1.size)))
    | (go_at_call 21; go_must ((with_reducible refine (new22 _).mono ?_); rintro r w3 ⟨n, F, rfl, hnB, hC, hb3⟩; have hB : w.heap.size ≤ n.B := (by have := hb.size; omega); have hb := hb.trans (hb3.mono hb.size); have hz : n.B ≤ w3.heap.size := (by have := hb3.size; omega)))
    | (go_at_call 24; go_must ((with_reducible refine (Hello_any _).mono ?_); rintro r w4 ⟨v4, rfl, hr4, hb4⟩; obtain ⟨hC, hb, hz⟩ := cw_on hC hb hz hb4; have hTk := Take_hello hC v4 (own_by hr4)))
    | (go_at_call 23; go_must ((with_reducible refine hTk.mono ?_); rintro r w5 ⟨v5, j5, rfl, -, hG⟩; obtain ⟨F5, hC, hb, hz⟩ := goes_on hC hb hB hz hG))
  replace hC : Cw _ n (qd 0) F5 := hC
  refine wp_loop_rounds 2 ?_
  rw [rounds_succ]
  go_wp2_with first
    | (go_at_call 26; go_must ((with_reducible refine (getS 1 _).mono ?_); rintro r wa ⟨rfl, hba⟩; have hbA := (Below.refl wa.heap.size wa).alloc (Nat.le_refl _) (.cells #[.int .i64 1, .int .i64 5, .int .i64 1, S dS, .int .i64 0, .slice none 0 0, .int .i64 0, .int .i64 0, .int .i64 0, .int .i64 0, .int .i64 0, .bool false] 34); obtain ⟨hC, hb, hz⟩ := cw_on hC hb hz (hba.trans (hbA.mono hba.size)); have hBy := fun (w1 : World) (hg : Blk w1 wa.heap.size 34 #[.int .i64 1, .int .i64 5, .int .i64 1, S dS, .int .i64 0, .slice none 0 0, .int .i64 0, .int .i64 0, .int .i64 0, .int .i64 0, .int .i64 0, .bool false]) => bytesS 1 (by decide) w1 hg))
    | (go_at_call 25; go_must ((with_reducible refine (hBy _ (Blk.new _ _ _)).mono ?_); rintro r wb ⟨vb, rfl, hrb, hbb⟩; obtain ⟨hC, hb, hz⟩ := cw_on hC hb hz hbb; have hby := own_by hrb; have hTk := Take_one (tk_headS 1 (by decide) (by decide) dS (by decide) 5 (.inr rfl)) _ hC rfl rfl _ hby (qd 1) (fun w1 F1 sa sc h1 _ => Item_get w1 h1 rfl rfl 1 (by decide) (by decide) rfl true [132] [47] (fun a b => run_132 a b) (by decide) (by decide) (.inl rfl) (by decide +kernel) (by decide +kernel) rfl rfl (by decide +kernel) (by decide +kernel) (by decide +kernel) (by decide +kernel) (by decide +kernel) (by decide +kernel) (by decide +kernel))))
    | (go_at_call 23; go_must ((with_reducible refine hTk.mono ?_); rintro r wc ⟨vc, jc, rfl, -, hG⟩; obtain ⟨FC, hC, hb, hz⟩ := goes_on hC hb hB hz hG))
  rw [rounds_succ]
  go_upto_region 13 with (go_at_call 27; go_must ((with_reducible refine (Out_any _ hC).mono ?_); rintro r w6 ⟨v6, rfl, -, -, hG⟩; obtain ⟨F6, hC, hb, hz⟩ := goes_on hC hb hB hz hG; have hDr : Calls Tryz.prog 33 #[Ptr n.c] w6 (fun e w' => e = .returned (.tuple #[]) ∧ Goes w6 n F6 w' (qe 1)) := Drain_go w6 hC rfl rfl 1 rfl (by decide) (by decide +kernel)))
  go_upto_region 14 with (go_at_call 33; go_must ((with_reducible refine hDr.mono ?_); rintro r w7 ⟨rfl, hG⟩; obtain ⟨F7, hC, hb, hz⟩ := goes_on hC hb hB hz hG))
  go_upto_region 15 with first
    | (go_at_call 27; go_must ((with_reducible refine (Out_any _ hC).mono ?_); rintro r w8 ⟨v8, rfl, hr8, -, hG⟩; obtain ⟨F8, hC, hb, hz⟩ := goes_on hC hb hB hz hG; replace hC : Cw w8 n (qs 1 false) F8 := hC; have hr8' : w8.ownsRow n.B 5 1 v8 (awayB 1 0).length ((awayB 1 0).map B8) := hr8; have hAl := All_of [(awayB 1 0, { ty := 7, last := 1, code := 0 })] (by intro x hx; obtain rfl : x = _ := List.mem_singleton.1 hx; exact ⟨rTk_Gow 1 0 (by decide) (by decide), by decide⟩) v8 w8 (by rw [show flatF [(awayB 1 0, ({ ty := 7, last := 1, code := 0 } : Fr))] = awayB 1 0 from List.append_nil _]; exact own_by hr8') (by decide)))
    | (go_at_call 29; go_must ((with_reducible refine hAl.mono ?_); rintro r w9 ⟨vo, its, rfl, hits, hrow, -, hb9⟩; obtain ⟨vs, rfl⟩ := its_one hits; replace hrow : w9.ownsRow w8.heap.size 72 15 vo 1 _ := hrow; obtain ⟨ao, co, rfl⟩ := own_form hrow; obtain ⟨go, rfl, hcell⟩ := row_cell hrow (by decide); have k0 : w9.cell? ⟨go, 0, none⟩ = some (.int .i64 7) := hcell 0 _ rfl; have k6 : w9.cell? ⟨go, 6, none⟩ = some (.int .i64 0) := hcell 6 _ rfl; have k7 : w9.cell? ⟨go, 7, none⟩ = some (.int .i64 1) := hcell 7 _ rfl; clear hcell; obtain ⟨hC, hb, hz⟩ := cw_on hC hb hz hb9; have hOv : Calls Tryz.prog 31 #[Ptr n.c] w9 (fun e w' => e = .returned (.bool false) ∧ w' = w9) := Over_any2 w9 hC))
  go_upto_region 17 with (go_at_call 31; go_must ((with_reducible refine hOv.mono ?_); rintro r w10 ⟨rfl, e10⟩; have e11 := e10.symm; subst e11))
  obtain ⟨FQ, hC⟩ : ∃ FQ, Cw _ n (qh (qs 1 false) 0) FQ := ⟨_, hC⟩
  go_wp2_with fail
  refine wp_loop_rounds 2 ?_
  rw [rounds_succ]
  have hOv := fun (w1 : World) F1 (h1 : Cw w1 n (qh (qs 1 false) 0) F1) => (show Calls Tryz.prog 31 #[Ptr n.c] w1 (fun e w' => e = .returned (.bool false) ∧ w' = w1) from Over_any2 w1 h1)
  have hHd := fun (w1 : World) F1 (h1 : Cw w1 n (qh (qs 1 false) 0) F1) => (show Calls Tryz.prog 34 #[Ptr n.c, .int .i64 1, .int .i64 200, .slice none 0 0, .bool true] w1 (fun r w' => r = .returned (.int .i64 0) ∧ Goes w1 n F1 w' (qh (qs 1 false) 1)) from Head_ok w1 h1 1 (by decide) (a := []) (c := (qh (qs 1 false) 0).live.tail) (s := { st := 2 }) rfl rfl rfl rfl rfl rfl (by decide +kernel))
  go_wp2_with first
    | (go_at_call 31; go_must ((with_reducible refine (hOv _ _ hC).mono ?_); rintro r w10 ⟨rfl, e10⟩; have e11 := e10.symm; subst e11))
    | (go_at_call 34; go_must ((with_reducible refine (hHd _ _ hC).mono ?_); rintro r wd ⟨rfl, hG⟩; obtain ⟨FD, hC, hb, hz⟩ := goes_on hC hb hB hz hG))
  clear hOv hHd
  rw [rounds_succ]
  go_upto_region 25 with (go_at_call 27; go_must ((with_reducible refine (Out_any _ hC).mono ?_); rintro r w16 ⟨v16, rfl, -, -, hG⟩; obtain ⟨F16, hC, hb, hz⟩ := goes_on hC hb hB hz hG; have hDr := Drain_over w16 hC rfl))
  go_upto_region 26 with (go_at_call 33; go_must ((with_reducible refine hDr.mono ?_); rintro r w17 ⟨rfl, e17⟩; have e18 := e17.symm; subst e18; have hOv : Calls Tryz.prog 31 #[Ptr n.c] w16 (fun e w' => e = .returned (.bool true) ∧ w' = w16) := Over_any2 w16 hC))
  go_wp2_with first
    | (go_at_call 31; go_must ((with_reducible refine hOv.mono ?_); rintro r w18 ⟨rfl, e18⟩; have e19 := e18.symm; subst e19))
    | (go_at_call 27; go_must ((with_reducible refine (Out_any _ hC).mono ?_); rintro r w19 ⟨v19, rfl, hr19, -, hG⟩; obtain ⟨F19, hC, hb, hz⟩ := goes_on hC hb hB hz hG; replace hr19 : w19.ownsRow n.B 5 1 v19 0 [] := hr19; obtain ⟨a19, c19, rfl⟩ := own_form hr19))
    | (go_at_call 26; go_must ((with_reducible refine (getS 11 _).mono ?_); rintro r wa ⟨rfl, hba⟩; have hbA := (Below.refl wa.heap.size wa).alloc (Nat.le_refl _) (.cells #[.int .i64 1, .int .i64 5, .int .i64 11, S dS, .int .i64 0, .slice none 0 0, .int .i64 0, .int .i64 0, .int .i64 0, .int .i64 0, .int .i64 0, .bool false] 34); obtain ⟨hC, hb, hz⟩ := cw_on hC hb hz (hba.trans (hbA.mono hba.size)); have hBy := fun (w1 : World) (hg : Blk w1 wa.heap.size 34 #[.int .i64 1, .int .i64 5, .int .i64 11, S dS, .int .i64 0, .slice none 0 0, .int .i64 0, .int .i64 0, .int .i64 0, .int .i64 0, .int .i64 0, .bool false]) => bytesS 11 (by decide) w1 hg))
    | (go_at_call 25; go_must ((with_reducible refine (hBy _ (Blk.new _ _ _)).mono ?_); rintro r wb ⟨vb, rfl, hrb, hbb⟩; obtain ⟨hC, hb, hz⟩ := cw_on hC hb hz hbb; have hTk := Take_over wb hC rfl vb))
    | (go_at_call 23; go_must ((with_reducible refine hTk.mono ?_); rintro r wc ⟨rfl, ec⟩; have ed := ec.symm; subst ed))
  go_ret
  exact ⟨rfl, hb⟩


set_option maxRecDepth 100000 in
set_option maxHeartbeats 16000000 in
theorem drains22_1t (s : Int) (h1 : s.tmod 4 = 1) (h2 : s % 4 = 1) (w : World) : Calls Tryz.prog 6 #[.int .u8 s, .bool true] w fun e w' => e = .returned (.bool true) ∧ Below w.heap.size w w' := by
  go_enter Tryz.func6, Tryz.ntmps6
  go_wp2_with first
    | (go_at_call 20; go_must ((with_reducible refine (awake22_any _).mono ?_); rintro r w1 ⟨rfl, hb1⟩))
    | (go_at_call 22; go_must ((with_reducible refine (Limits_any _).mono ?_); rintro r w2 ⟨rfl, hb2⟩; have hb := hb1.trans (hb2.mono hb1.size)))
    | (go_at_call 21; go_must ((with_reducible refine (new22 _).mono ?_); rintro r w3 ⟨n, F, rfl, hnB, hC, hb3⟩; have hB : w.heap.size ≤ n.B := (by have := hb.size; omega); have hb := hb.trans (hb3.mono hb.size); have hz : n.B ≤ w3.heap.size := (by have := hb3.size; omega)))
    | (go_at_call 24; go_must ((with_reducible refine (Hello_any _).mono ?_); rintro r w4 ⟨v4, rfl, hr4, hb4⟩; obtain ⟨hC, hb, hz⟩ := cw_on hC hb hz hb4; have hTk := Take_hello hC v4 (own_by hr4)))
    | (go_at_call 23; go_must ((with_reducible refine hTk.mono ?_); rintro r w5 ⟨v5, j5, rfl, -, hG⟩; obtain ⟨F5, hC, hb, hz⟩ := goes_on hC hb hB hz hG))
  replace hC : Cw _ n (qd 0) F5 := hC
  refine wp_loop_rounds 2 ?_
  rw [rounds_succ]
  go_wp2_with first
    | (go_at_call 26; go_must ((with_reducible refine (getS 1 _).mono ?_); rintro r wa ⟨rfl, hba⟩; have hbA := (Below.refl wa.heap.size wa).alloc (Nat.le_refl _) (.cells #[.int .i64 1, .int .i64 5, .int .i64 1, S dS, .int .i64 0, .slice none 0 0, .int .i64 0, .int .i64 0, .int .i64 0, .int .i64 0, .int .i64 0, .bool false] 34); obtain ⟨hC, hb, hz⟩ := cw_on hC hb hz (hba.trans (hbA.mono hba.size)); have hBy := fun (w1 : World) (hg : Blk w1 wa.heap.size 34 #[.int .i64 1, .int .i64 5, .int .i64 1, S dS, .int .i64 0, .slice none 0 0, .int .i64 0, .int .i64 0, .int .i64 0, .int .i64 0, .int .i64 0, .bool false]) => bytesS 1 (by decide) w1 hg))
    | (go_at_call 25; go_must ((with_reducible refine (hBy _ (Blk.new _ _ _)).mono ?_); rintro r wb ⟨vb, rfl, hrb, hbb⟩; obtain ⟨hC, hb, hz⟩ := cw_on hC hb hz hbb; have hby := own_by hrb; have hTk := Take_one (tk_headS 1 (by decide) (by decide) dS (by decide) 5 (.inr rfl)) _ hC rfl rfl _ hby (qd 1) (fun w1 F1 sa sc h1 _ => Item_get w1 h1 rfl rfl 1 (by decide) (by decide) rfl true [132] [47] (fun a b => run_132 a b) (by decide) (by decide) (.inl rfl) (by decide +kernel) (by decide +kernel) rfl rfl (by decide +kernel) (by decide +kernel) (by decide +kernel) (by decide +kernel) (by decide +kernel) (by decide +kernel) (by decide +kernel))))
    | (go_at_call 23; go_must ((with_reducible refine hTk.mono ?_); rintro r wc ⟨vc, jc, rfl, -, hG⟩; obtain ⟨FC, hC, hb, hz⟩ := goes_on hC hb hB hz hG))
  rw [rounds_succ]
  go_upto_region 13 with (go_at_call 27; go_must ((with_reducible refine (Out_any _ hC).mono ?_); rintro r w6 ⟨v6, rfl, -, -, hG⟩; obtain ⟨F6, hC, hb, hz⟩ := goes_on hC hb hB hz hG; have hDr : Calls Tryz.prog 33 #[Ptr n.c] w6 (fun e w' => e = .returned (.tuple #[]) ∧ Goes w6 n F6 w' (qe 1)) := Drain_go w6 hC rfl rfl 1 rfl (by decide) (by decide +kernel)))
  go_upto_region 14 with (go_at_call 33; go_must ((with_reducible refine hDr.mono ?_); rintro r w7 ⟨rfl, hG⟩; obtain ⟨F7, hC, hb, hz⟩ := goes_on hC hb hB hz hG))
  go_upto_region 15 with first
    | (go_at_call 27; go_must ((with_reducible refine (Out_any _ hC).mono ?_); rintro r w8 ⟨v8, rfl, hr8, -, hG⟩; obtain ⟨F8, hC, hb, hz⟩ := goes_on hC hb hB hz hG; replace hC : Cw w8 n (qs 1 false) F8 := hC; have hr8' : w8.ownsRow n.B 5 1 v8 (awayB 1 0).length ((awayB 1 0).map B8) := hr8; have hAl := All_of [(awayB 1 0, { ty := 7, last := 1, code := 0 })] (by intro x hx; obtain rfl : x = _ := List.mem_singleton.1 hx; exact ⟨rTk_Gow 1 0 (by decide) (by decide), by decide⟩) v8 w8 (by rw [show flatF [(awayB 1 0, ({ ty := 7, last := 1, code := 0 } : Fr))] = awayB 1 0 from List.append_nil _]; exact own_by hr8') (by decide)))
    | (go_at_call 29; go_must ((with_reducible refine hAl.mono ?_); rintro r w9 ⟨vo, its, rfl, hits, hrow, -, hb9⟩; obtain ⟨vs, rfl⟩ := its_one hits; replace hrow : w9.ownsRow w8.heap.size 72 15 vo 1 _ := hrow; obtain ⟨ao, co, rfl⟩ := own_form hrow; obtain ⟨go, rfl, hcell⟩ := row_cell hrow (by decide); have k0 : w9.cell? ⟨go, 0, none⟩ = some (.int .i64 7) := hcell 0 _ rfl; have k6 : w9.cell? ⟨go, 6, none⟩ = some (.int .i64 0) := hcell 6 _ rfl; have k7 : w9.cell? ⟨go, 7, none⟩ = some (.int .i64 1) := hcell 7 _ rfl; clear hcell; obtain ⟨hC, hb, hz⟩ := cw_on hC hb hz hb9; have hOv : Calls Tryz.prog 31 #[Ptr n.c] w9 (fun e w' => e = .returned (.bool false) ∧ w' = w9) := Over_any2 w9 hC))
  go_upto_region 17 with (go_at_call 31; go_must ((with_reducible refine hOv.mono ?_); rintro r w10 ⟨rfl, e10⟩; have e11 := e10.symm; subst e11))
  go_upto_region 19 with first
    | (go_at_call 26; go_must ((with_reducible refine (getS 9 _).mono ?_); rintro r wa ⟨rfl, hba⟩; have hbA := (Below.refl wa.heap.size wa).alloc (Nat.le_refl _) (.cells #[.int .i64 1, .int .i64 5, .int .i64 9, S dS, .int .i64 0, .slice none 0 0, .int .i64 0, .int .i64 0, .int .i64 0, .int .i64 0, .int .i64 0, .bool false] 34); obtain ⟨hC, hb, hz⟩ := cw_on hC hb hz (hba.trans (hbA.mono hba.size)); have hBy := fun (w1 : World) (hg : Blk w1 wa.heap.size 34 #[.int .i64 1, .int .i64 5, .int .i64 9, S dS, .int .i64 0, .slice none 0 0, .int .i64 0, .int .i64 0, .int .i64 0, .int .i64 0, .int .i64 0, .bool false]) => bytesS 9 (by decide) w1 hg))
    | (go_at_call 25; go_must ((with_reducible refine (hBy _ (Blk.new _ _ _)).mono ?_); rintro r wb ⟨vb, rfl, hrb, hbb⟩; obtain ⟨hC, hb, hz⟩ := cw_on hC hb hz hbb; have hby := own_by hrb; have hTk := Take_one (tk_headS 9 (by decide) (by decide) dS (by decide) 5 (.inr rfl)) _ hC rfl rfl _ hby (qs 1 true) (fun w1 F1 sa sc h1 _ => Item_late w1 h1 rfl rfl 9 (by decide) (by decide) rfl true [132] [47] (fun a b => run_132 a b) (by decide) (by decide) (.inl rfl) (by decide +kernel) (by decide +kernel) rfl rfl (by decide +kernel) (by decide +kernel) (by decide +kernel) (by decide +kernel) (by decide +kernel) (by decide +kernel) (by decide +kernel))))
    | (go_at_call 23; go_must ((with_reducible refine hTk.mono ?_); rintro r wc ⟨vc, jc, rfl, hnc, hG⟩; obtain ⟨FC, hC, hb, hz⟩ := goes_on hC hb hB hz hG; obtain rfl : jc = 0 := (by have h0 : (0 : Nat) = jc * 10 := hnc.1; omega); obtain ⟨ac, cc, rfl⟩ := own_form hnc))
  obtain ⟨FQ, hC⟩ : ∃ FQ, Cw _ n (qh (qs 1 true) 0) FQ := ⟨_, hC⟩
  go_wp2_with fail
  refine wp_loop_rounds 2 ?_
  rw [rounds_succ]
  have hOv := fun (w1 : World) F1 (h1 : Cw w1 n (qh (qs 1 true) 0) F1) => (show Calls Tryz.prog 31 #[Ptr n.c] w1 (fun e w' => e = .returned (.bool false) ∧ w' = w1) from Over_any2 w1 h1)
  have hHd := fun (w1 : World) F1 (h1 : Cw w1 n (qh (qs 1 true) 0) F1) => (show Calls Tryz.prog 34 #[Ptr n.c, .int .i64 1, .int .i64 200, .slice none 0 0, .bool true] w1 (fun r w' => r = .returned (.int .i64 0) ∧ Goes w1 n F1 w' (qh (qs 1 true) 1)) from Head_ok w1 h1 1 (by decide) (a := []) (c := (qh (qs 1 true) 0).live.tail) (s := { st := 2 }) rfl rfl rfl rfl rfl rfl (by decide +kernel))
  go_wp2_with first
    | (go_at_call 31; go_must ((with_reducible refine (hOv _ _ hC).mono ?_); rintro r w10 ⟨rfl, e10⟩; have e11 := e10.symm; subst e11))
    | (go_at_call 34; go_must ((with_reducible refine (hHd _ _ hC).mono ?_); rintro r wd ⟨rfl, hG⟩; obtain ⟨FD, hC, hb, hz⟩ := goes_on hC hb hB hz hG))
  clear hOv hHd
  rw [rounds_succ]
  go_upto_region 25 with (go_at_call 27; go_must ((with_reducible refine (Out_any _ hC).mono ?_); rintro r w16 ⟨v16, rfl, -, -, hG⟩; obtain ⟨F16, hC, hb, hz⟩ := goes_on hC hb hB hz hG; have hDr := Drain_over w16 hC rfl))
  go_upto_region 26 with (go_at_call 33; go_must ((with_reducible refine hDr.mono ?_); rintro r w17 ⟨rfl, e17⟩; have e18 := e17.symm; subst e18; have hOv : Calls Tryz.prog 31 #[Ptr n.c] w16 (fun e w' => e = .returned (.bool true) ∧ w' = w16) := Over_any2 w16 hC))
  go_wp2_with first
    | (go_at_call 31; go_must ((with_reducible refine hOv.mono ?_); rintro r w18 ⟨rfl, e18⟩; have e19 := e18.symm; subst e19))
    | (go_at_call 27; go_must ((with_reducible refine (Out_any _ hC).mono ?_); rintro r w19 ⟨v19, rfl, hr19, -, hG⟩; obtain ⟨F19, hC, hb, hz⟩ := goes_on hC hb hB hz hG; replace hr19 : w19.ownsRow n.B 5 1 v19 0 [] := hr19; obtain ⟨a19, c19, rfl⟩ := own_form hr19))
    | (go_at_call 26; go_must ((with_reducible refine (getS 11 _).mono ?_); rintro r wa ⟨rfl, hba⟩; have hbA := (Below.refl wa.heap.size wa).alloc (Nat.le_refl _) (.cells #[.int .i64 1, .int .i64 5, .int .i64 11, S dS, .int .i64 0, .slice none 0 0, .int .i64 0, .int .i64 0, .int .i64 0, .int .i64 0, .int .i64 0, .bool false] 34); obtain ⟨hC, hb, hz⟩ := cw_on hC hb hz (hba.trans (hbA.mono hba.size)); have hBy := fun (w1 : World) (hg : Blk w1 wa.heap.size 34 #[.int .i64 1, .int .i64 5, .int .i64 11, S dS, .int .i64 0, .slice none 0 0, .int .i64 0, .int .i64 0, .int .i64 0, .int .i64 0, .int .i64 0, .bool false]) => bytesS 11 (by decide) w1 hg))
    | (go_at_call 25; go_must ((with_reducible refine (hBy _ (Blk.new _ _ _)).mono ?_); rintro r wb ⟨vb, rfl, hrb, hbb⟩; obtain ⟨hC, hb, hz⟩ := cw_on hC hb hz hbb; have hTk := Take_over wb hC rfl vb))
    | (go_at_call 23; go_must ((with_reducible refine hTk.mono ?_); rintro r wc ⟨rfl, ec⟩; have ed := ec.symm; subst ed))
  go_ret
  exact ⟨rfl, hb⟩


set_option maxRecDepth 100000 in
set_option maxHeartbeats 16000000 in
theorem drains22_2f (s : Int) (h1 : s.tmod 4 = 2) (h2 : s % 4 = 2) (w : World) : Calls Tryz.prog 6 #[.int .u8 s, .bool false] w fun e w' => e = .returned (.bool true) ∧ Below w.heap.size w w' := by
  go_enter Tryz.func6, Tryz.ntmps6
  go_wp2_with first
    | (go_at_call 20; go_must ((with_reducible refine (awake22_any _).mono ?_); rintro r w1 ⟨rfl, hb1⟩))
    | (go_at_call 22; go_must ((with_reducible refine (Limits_any _).mono ?_); rintro r w2 ⟨rfl, hb2⟩; have hb := hb1.trans (hb2.mono hb1.size)))
    | (go_at_call 21; go_must ((with_reducible refine (new22 _).mono ?_); rintro r w3 ⟨n, F, rfl, hnB, hC, hb3⟩; have hB : w.heap.size ≤ n.B := (by have := hb.size; omega); have hb := hb.trans (hb3.mono hb.size); have hz : n.B ≤ w3.heap.size := (by have := hb3.size; omega)))
    | (go_at_call 24; go_must ((with_reducible refine (Hello_any _).mono ?_); rintro r w4 ⟨v4, rfl, hr4, hb4⟩; obtain ⟨hC, hb, hz⟩ := cw_on hC hb hz hb4; have hTk := Take_hello hC v4 (own_by hr4)))
    | (go_at_call 23; go_must ((with_reducible refine hTk.mono ?_); rintro r w5 ⟨v5, j5, rfl, -, hG⟩; obtain ⟨F5, hC, hb, hz⟩ := goes_on hC hb hB hz hG))
  replace hC : Cw _ n (qd 0) F5 := hC
  refine wp_loop_rounds 3 ?_
  rw [rounds_succ]
  go_wp2_with first
    | (go_at_call 26; go_must ((with_reducible refine (getS 1 _).mono ?_); rintro r wa ⟨rfl, hba⟩; have hbA := (Below.refl wa.heap.size wa).alloc (Nat.le_refl _) (.cells #[.int .i64 1, .int .i64 5, .int .i64 1, S dS, .int .i64 0, .slice none 0 0, .int .i64 0, .int .i64 0, .int .i64 0, .int .i64 0, .int .i64 0, .bool false] 34); obtain ⟨hC, hb, hz⟩ := cw_on hC hb hz (hba.trans (hbA.mono hba.size)); have hBy := fun (w1 : World) (hg : Blk w1 wa.heap.size 34 #[.int .i64 1, .int .i64 5, .int .i64 1, S dS, .int .i64 0, .slice none 0 0, .int .i64 0, .int .i64 0, .int .i64 0, .int .i64 0, .int .i64 0, .bool false]) => bytesS 1 (by decide) w1 hg))
    | (go_at_call 25; go_must ((with_reducible refine (hBy _ (Blk.new _ _ _)).mono ?_); rintro r wb ⟨vb, rfl, hrb, hbb⟩; obtain ⟨hC, hb, hz⟩ := cw_on hC hb hz hbb; have hby := own_by hrb; have hTk := Take_one (tk_headS 1 (by decide) (by decide) dS (by decide) 5 (.inr rfl)) _ hC rfl rfl _ hby (qd 1) (fun w1 F1 sa sc h1 _ => Item_get w1 h1 rfl rfl 1 (by decide) (by decide) rfl true [132] [47] (fun a b => run_132 a b) (by decide) (by decide) (.inl rfl) (by decide +kernel) (by decide +kernel) rfl rfl (by decide +kernel) (by decide +kernel) (by decide +kernel) (by decide +kernel) (by decide +kernel) (by decide +kernel) (by decide +kernel))))
    | (go_at_call 23; go_must ((with_reducible refine hTk.mono ?_); rintro r wc ⟨vc, jc, rfl, -, hG⟩; obtain ⟨FC, hC, hb, hz⟩ := goes_on hC hb hB hz hG))
  rw [rounds_succ]
  go_wp2_with first
    | (go_at_call 26; go_must ((with_reducible refine (getS 3 _).mono ?_); rintro r wa ⟨rfl, hba⟩; have hbA := (Below.refl wa.heap.size wa).alloc (Nat.le_refl _) (.cells #[.int .i64 1, .int .i64 5, .int .i64 3, S dS, .int .i64 0, .slice none 0 0, .int .i64 0, .int .i64 0, .int .i64 0, .int .i64 0, .int .i64 0, .bool false] 34); obtain ⟨hC, hb, hz⟩ := cw_on hC hb hz (hba.trans (hbA.mono hba.size)); have hBy := fun (w1 : World) (hg : Blk w1 wa.heap.size 34 #[.int .i64 1, .int .i64 5, .int .i64 3, S dS, .int .i64 0, .slice none 0 0, .int .i64 0, .int .i64 0, .int .i64 0, .int .i64 0, .int .i64 0, .bool false]) => bytesS 3 (by decide) w1 hg))
    | (go_at_call 25; go_must ((with_reducible refine (hBy _ (Blk.new _ _ _)).mono ?_); rintro r wb ⟨vb, rfl, hrb, hbb⟩; obtain ⟨hC, hb, hz⟩ := cw_on hC hb hz hbb; have hby := own_by hrb; have hTk := Take_one (tk_headS 3 (by decide) (by decide) dS (by decide) 5 (.inr rfl)) _ hC rfl rfl _ hby (qd 2) (fun w1 F1 sa sc h1 _ => Item_get w1 h1 rfl rfl 3 (by decide) (by decide) rfl true [132] [47] (fun a b => run_132 a b) (by decide) (by decide) (.inl rfl) (by decide +kernel) (by decide +kernel) rfl rfl (by decide +kernel) (by decide +kernel) (by decide +kernel) (by decide +kernel) (by decide +kernel) (by decide +kernel) (by decide +kernel))))
    | (go_at_call 23; go_must ((with_reducible refine hTk.mono ?_); rintro r wc ⟨vc, jc, rfl, -, hG⟩; obtain ⟨FC, hC, hb, hz⟩ := goes_on hC hb hB hz hG))
  rw [rounds_succ]
  go_upto_region 13 with (go_at_call 27; go_must ((with_reducible refine (Out_any _ hC).mono ?_); rintro r w6 ⟨v6, rfl, -, -, hG⟩; obtain ⟨F6, hC, hb, hz⟩ := goes_on hC hb hB hz hG; have hDr : Calls Tryz.prog 33 #[Ptr n.c] w6 (fun e w' => e = .returned (.tuple #[]) ∧ Goes w6 n F6 w' (qe 2)) := Drain_go w6 hC rfl rfl 3 rfl (by decide) (by decide +kernel)))
  go_upto_region 14 with (go_at_call 33; go_must ((with_reducible refine hDr.mono ?_); rintro r w7 ⟨rfl, hG⟩; obtain ⟨F7, hC, hb, hz⟩ := goes_on hC hb hB hz hG))
  go_upto_region 15 with first
    | (go_at_call 27; go_must ((with_reducible refine (Out_any _ hC).mono ?_); rintro r w8 ⟨v8, rfl, hr8, -, hG⟩; obtain ⟨F8, hC, hb, hz⟩ := goes_on hC hb hB hz hG; replace hC : Cw w8 n (qs 2 false) F8 := hC; have hr8' : w8.ownsRow n.B 5 1 v8 (awayB 3 0).length ((awayB 3 0).map B8) := hr8; have hAl := All_of [(awayB 3 0, { ty := 7, last := 3, code := 0 })] (by intro x hx; obtain rfl : x = _ := List.mem_singleton.1 hx; exact ⟨rTk_Gow 3 0 (by decide) (by decide), by decide⟩) v8 w8 (by rw [show flatF [(awayB 3 0, ({ ty := 7, last := 3, code := 0 } : Fr))] = awayB 3 0 from List.append_nil _]; exact own_by hr8') (by decide)))
    | (go_at_call 29; go_must ((with_reducible refine hAl.mono ?_); rintro r w9 ⟨vo, its, rfl, hits, hrow, -, hb9⟩; obtain ⟨vs, rfl⟩ := its_one hits; replace hrow : w9.ownsRow w8.heap.size 72 15 vo 1 _ := hrow; obtain ⟨ao, co, rfl⟩ := own_form hrow; obtain ⟨go, rfl, hcell⟩ := row_cell hrow (by decide); have k0 : w9.cell? ⟨go, 0, none⟩ = some (.int .i64 7) := hcell 0 _ rfl; have k6 : w9.cell? ⟨go, 6, none⟩ = some (.int .i64 0) := hcell 6 _ rfl; have k7 : w9.cell? ⟨go, 7, none⟩ = some (.int .i64 3) := hcell 7 _ rfl; clear hcell; obtain ⟨hC, hb, hz⟩ := cw_on hC hb hz hb9; have hOv : Calls Tryz.prog 31 #[Ptr n.c] w9 (fun e w' => e = .returned (.bool false) ∧ w' = w9) := Over_any2 w9 hC))
  go_upto_region 17 with (go_at_call 31; go_must ((with_reducible refine hOv.mono ?_); rintro r w10 ⟨rfl, e10⟩; have e11 := e10.symm; subst e11))
  obtain ⟨FQ, hC⟩ : ∃ FQ, Cw _ n (qh (qs 2 false) 0) FQ := ⟨_, hC⟩
  go_wp2_with fail
  refine wp_loop_rounds 3 ?_
  rw [rounds_succ]
  have hOv := fun (w1 : World) F1 (h1 : Cw w1 n (qh (qs 2 false) 0) F1) => (show Calls Tryz.prog 31 #[Ptr n.c] w1 (fun e w' => e = .returned (.bool false) ∧ w' = w1) from Over_any2 w1 h1)
  have hHd := fun (w1 : World) F1 (h1 : Cw w1 n (qh (qs 2 false) 0) F1) => (show Calls Tryz.prog 34 #[Ptr n.c, .int .i64 1, .int .i64 200, .slice none 0 0, .bool true] w1 (fun r w' => r = .returned (.int .i64 0) ∧ Goes w1 n F1 w' (qh (qs 2 false) 1)) from Head_ok w1 h1 1 (by decide) (a := []) (c := (qh (qs 2 false) 0).live.tail) (s := { st := 2 }) rfl rfl rfl rfl rfl rfl (by decide +kernel))
  go_wp2_with first
    | (go_at_call 31; go_must ((with_reducible refine (hOv _ _ hC).mono ?_); rintro r w10 ⟨rfl, e10⟩; have e11 := e10.symm; subst e11))
    | (go_at_call 34; go_must ((with_reducible refine (hHd _ _ hC).mono ?_); rintro r wd ⟨rfl, hG⟩; obtain ⟨FD, hC, hb, hz⟩ := goes_on hC hb hB hz hG))
  clear hOv hHd
  rw [rounds_succ]
  have hOv := fun (w1 : World) F1 (h1 : Cw w1 n (qh (qs 2 false) 1) F1) => (show Calls Tryz.prog 31 #[Ptr n.c] w1 (fun e w' => e = .returned (.bool false) ∧ w' = w1) from Over_any2 w1 h1)
  have hHd := fun (w1 : World) F1 (h1 : Cw w1 n (qh (qs 2 false) 1) F1) => (show Calls Tryz.prog 34 #[Ptr n.c, .int .i64 3, .int .i64 200, .slice none 0 0, .bool true] w1 (fun r w' => r = .returned (.int .i64 0) ∧ Goes w1 n F1 w' (qh (qs 2 false) 2)) from Head_ok w1 h1 3 (by decide) (a := []) (c := (qh (qs 2 false) 1).live.tail) (s := { st := 2 }) rfl rfl rfl rfl rfl rfl (by decide +kernel))
  go_wp2_with first
    | (go_at_call 31; go_must ((with_reducible refine (hOv _ _ hC).mono ?_); rintro r w10 ⟨rfl, e10⟩; have e11 := e10.symm; subst e11))
    | (go_at_call 34; go_must ((with_reducible refine (hHd _ _ hC).mono ?_); rintro r wd ⟨rfl, hG⟩; obtain ⟨FD, hC, hb, hz⟩ := goes_on hC hb hB hz hG))
  clear hOv hHd
  rw [rounds_succ]
  go_upto_region 25 with (go_at_call 27; go_must ((with_reducible refine (Out_any _ hC).mono ?_); rintro r w16 ⟨v16, rfl, -, -, hG⟩; obtain ⟨F16, hC, hb, hz⟩ := goes_on hC hb hB hz hG; have hDr := Drain_over w16 hC rfl))
  go_upto_region 26 with (go_at_call 33; go_must ((with_reducible refine hDr.mono ?_); rintro r w17 ⟨rfl, e17⟩; have e18 := e17.symm; subst e18; have hOv : Calls Tryz.prog 31 #[Ptr n.c] w16 (fun e w' => e = .returned (.bool true) ∧ w' = w16) := Over_any2 w16 hC))
  go_wp2_with first
    | (go_at_call 31; go_must ((with_reducible refine hOv.mono ?_); rintro r w18 ⟨rfl, e18⟩; have e19 := e18.symm; subst e19))
    | (go_at_call 27; go_must ((with_reducible refine (Out_any _ hC).mono ?_); rintro r w19 ⟨v19, rfl, hr19, -, hG⟩; obtain ⟨F19, hC, hb, hz⟩ := goes_on hC hb hB hz hG; replace hr19 : w19.ownsRow n.B 5 1 v19 0 [] := hr19; obtain ⟨a19, c19, rfl⟩ := own_form hr19))
    | (go_at_call 26; go_must ((with_reducible refine (getS 11 _).mono ?_); rintro r wa ⟨rfl, hba⟩; have hbA := (Below.refl wa.heap.size wa).alloc (Nat.le_refl _) (.cells #[.int .i64 1, .int .i64 5, .int .i64 11, S dS, .int .i64 0, .slice none 0 0, .int .i64 0, .int .i64 0, .int .i64 0, .int .i64 0, .int .i64 0, .bool false] 34); obtain ⟨hC, hb, hz⟩ := cw_on hC hb hz (hba.trans (hbA.mono hba.size)); have hBy := fun (w1 : World) (hg : Blk w1 wa.heap.size 34 #[.int .i64 1, .int .i64 5, .int .i64 11, S dS, .int .i64 0, .slice none 0 0, .int .i64 0, .int .i64 0, .int .i64 0, .int .i64 0, .int .i64 0, .bool false]) => bytesS 11 (by decide) w1 hg))
    | (go_at_call 25; go_must ((with_reducible refine (hBy _ (Blk.new _ _ _)).mono ?_); rintro r wb ⟨vb, rfl, hrb, hbb⟩; obtain ⟨hC, hb, hz⟩ := cw_on hC hb hz hbb; have hTk := Take_over wb hC rfl vb))
    | (go_at_call 23; go_must ((with_reducible refine hTk.mono ?_); rintro r wc ⟨rfl, ec⟩; have ed := ec.symm; subst ed))
  go_ret
  exact ⟨rfl, hb⟩


set_option maxRecDepth 100000 in
set_option maxHeartbeats 16000000 in
theorem drains22_2t (s : Int) (h1 : s.tmod 4 = 2) (h2 : s % 4 = 2) (w : World) : Calls Tryz.prog 6 #[.int .u8 s, .bool true] w fun e w' => e = .returned (.bool true) ∧ Below w.heap.size w w' := by
  go_enter Tryz.func6, Tryz.ntmps6
  go_wp2_with first
    | (go_at_call 20; go_must ((with_reducible refine (awake22_any _).mono ?_); rintro r w1 ⟨rfl, hb1⟩))
    | (go_at_call 22; go_must ((with_reducible refine (Limits_any _).mono ?_); rintro r w2 ⟨rfl, hb2⟩; have hb := hb1.trans (hb2.mono hb1.size)))
    | (go_at_call 21; go_must ((with_reducible refine (new22 _).mono ?_); rintro r w3 ⟨n, F, rfl, hnB, hC, hb3⟩; have hB : w.heap.size ≤ n.B := (by have := hb.size; omega); have hb := hb.trans (hb3.mono hb.size); have hz : n.B ≤ w3.heap.size := (by have := hb3.size; omega)))
    | (go_at_call 24; go_must ((with_reducible refine (Hello_any _).mono ?_); rintro r w4 ⟨v4, rfl, hr4, hb4⟩; obtain ⟨hC, hb, hz⟩ := cw_on hC hb hz hb4; have hTk := Take_hello hC v4 (own_by hr4)))
    | (go_at_call 23; go_must ((with_reducible refine hTk.mono ?_); rintro r w5 ⟨v5, j5, rfl, -, hG⟩; obtain ⟨F5, hC, hb, hz⟩ := goes_on hC hb hB hz hG))
  replace hC : Cw _ n (qd 0) F5 := hC
  refine wp_loop_rounds 3 ?_
  rw [rounds_succ]
  go_wp2_with first
    | (go_at_call 26; go_must ((with_reducible refine (getS 1 _).mono ?_); rintro r wa ⟨rfl, hba⟩; have hbA := (Below.refl wa.heap.size wa).alloc (Nat.le_refl _) (.cells #[.int .i64 1, .int .i64 5, .int .i64 1, S dS, .int .i64 0, .slice none 0 0, .int .i64 0, .int .i64 0, .int .i64 0, .int .i64 0, .int .i64 0, .bool false] 34); obtain ⟨hC, hb, hz⟩ := cw_on hC hb hz (hba.trans (hbA.mono hba.size)); have hBy := fun (w1 : World) (hg : Blk w1 wa.heap.size 34 #[.int .i64 1, .int .i64 5, .int .i64 1, S dS, .int .i64 0, .slice none 0 0, .int .i64 0, .int .i64 0, .int .i64 0, .int .i64 0, .int .i64 0, .bool false]) => bytesS 1 (by decide) w1 hg))
    | (go_at_call 25; go_must ((with_reducible refine (hBy _ (Blk.new _ _ _)).mono ?_); rintro r wb ⟨vb, rfl, hrb, hbb⟩; obtain ⟨hC, hb, hz⟩ := cw_on hC hb hz hbb; have hby := own_by hrb; have hTk := Take_one (tk_headS 1 (by decide) (by decide) dS (by decide) 5 (.inr rfl)) _ hC rfl rfl _ hby (qd 1) (fun w1 F1 sa sc h1 _ => Item_get w1 h1 rfl rfl 1 (by decide) (by decide) rfl true [132] [47] (fun a b => run_132 a b) (by decide) (by decide) (.inl rfl) (by decide +kernel) (by decide +kernel) rfl rfl (by decide +kernel) (by decide +kernel) (by decide +kernel) (by decide +kernel) (by decide +kernel) (by decide +kernel) (by decide +kernel))))
    | (go_at_call 23; go_must ((with_reducible refine hTk.mono ?_); rintro r wc ⟨vc, jc, rfl, -, hG⟩; obtain ⟨FC, hC, hb, hz⟩ := goes_on hC hb hB hz hG))
  rw [rounds_succ]
  go_wp2_with first
    | (go_at_call 26; go_must ((with_reducible refine (getS 3 _).mono ?_); rintro r wa ⟨rfl, hba⟩; have hbA := (Below.refl wa.heap.size wa).alloc (Nat.le_refl _) (.cells #[.int .i64 1, .int .i64 5, .int .i64 3, S dS, .int .i64 0, .slice none 0 0, .int .i64 0, .int .i64 0, .int .i64 0, .int .i64 0, .int .i64 0, .bool false] 34); obtain ⟨hC, hb, hz⟩ := cw_on hC hb hz (hba.trans (hbA.mono hba.size)); have hBy := fun (w1 : World) (hg : Blk w1 wa.heap.size 34 #[.int .i64 1, .int .i64 5, .int .i64 3, S dS, .int .i64 0, .slice none 0 0, .int .i64 0, .int .i64 0, .int .i64 0, .int .i64 0, .int .i64 0, .bool false]) => bytesS 3 (by decide) w1 hg))
    | (go_at_call 25; go_must ((with_reducible refine (hBy _ (Blk.new _ _ _)).mono ?_); rintro r wb ⟨vb, rfl, hrb, hbb⟩; obtain ⟨hC, hb, hz⟩ := cw_on hC hb hz hbb; have hby := own_by hrb; have hTk := Take_one (tk_headS 3 (by decide) (by decide) dS (by decide) 5 (.inr rfl)) _ hC rfl rfl _ hby (qd 2) (fun w1 F1 sa sc h1 _ => Item_get w1 h1 rfl rfl 3 (by decide) (by decide) rfl true [132] [47] (fun a b => run_132 a b) (by decide) (by decide) (.inl rfl) (by decide +kernel) (by decide +kernel) rfl rfl (by decide +kernel) (by decide +kernel) (by decide +kernel) (by decide +kernel) (by decide +kernel) (by decide +kernel) (by decide +kernel))))
    | (go_at_call 23; go_must ((with_reducible refine hTk.mono ?_); rintro r wc ⟨vc, jc, rfl, -, hG⟩; obtain ⟨FC, hC, hb, hz⟩ := goes_on hC hb hB hz hG))
  rw [rounds_succ]
  go_upto_region 13 with (go_at_call 27; go_must ((with_reducible refine (Out_any _ hC).mono ?_); rintro r w6 ⟨v6, rfl, -, -, hG⟩; obtain ⟨F6, hC, hb, hz⟩ := goes_on hC hb hB hz hG; have hDr : Calls Tryz.prog 33 #[Ptr n.c] w6 (fun e w' => e = .returned (.tuple #[]) ∧ Goes w6 n F6 w' (qe 2)) := Drain_go w6 hC rfl rfl 3 rfl (by decide) (by decide +kernel)))
  go_upto_region 14 with (go_at_call 33; go_must ((with_reducible refine hDr.mono ?_); rintro r w7 ⟨rfl, hG⟩; obtain ⟨F7, hC, hb, hz⟩ := goes_on hC hb hB hz hG))
  go_upto_region 15 with first
    | (go_at_call 27; go_must ((with_reducible refine (Out_any _ hC).mono ?_); rintro r w8 ⟨v8, rfl, hr8, -, hG⟩; obtain ⟨F8, hC, hb, hz⟩ := goes_on hC hb hB hz hG; replace hC : Cw w8 n (qs 2 false) F8 := hC; have hr8' : w8.ownsRow n.B 5 1 v8 (awayB 3 0).length ((awayB 3 0).map B8) := hr8; have hAl := All_of [(awayB 3 0, { ty := 7, last := 3, code := 0 })] (by intro x hx; obtain rfl : x = _ := List.mem_singleton.1 hx; exact ⟨rTk_Gow 3 0 (by decide) (by decide), by decide⟩) v8 w8 (by rw [show flatF [(awayB 3 0, ({ ty := 7, last := 3, code := 0 } : Fr))] = awayB 3 0 from List.append_nil _]; exact own_by hr8') (by decide)))
    | (go_at_call 29; go_must ((with_reducible refine hAl.mono ?_); rintro r w9 ⟨vo, its, rfl, hits, hrow, -, hb9⟩; obtain ⟨vs, rfl⟩ := its_one hits; replace hrow : w9.ownsRow w8.heap.size 72 15 vo 1 _ := hrow; obtain ⟨ao, co, rfl⟩ := own_form hrow; obtain ⟨go, rfl, hcell⟩ := row_cell hrow (by decide); have k0 : w9.cell? ⟨go, 0, none⟩ = some (.int .i64 7) := hcell 0 _ rfl; have k6 : w9.cell? ⟨go, 6, none⟩ = some (.int .i64 0) := hcell 6 _ rfl; have k7 : w9.cell? ⟨go, 7, none⟩ = some (.int .i64 3) := hcell 7 _ rfl; clear hcell; obtain ⟨hC, hb, hz⟩ := cw_on hC hb hz hb9; have hOv : Calls Tryz.prog 31 #[Ptr n.c] w9 (fun e w' => e = .returned (.bool false) ∧ w' = w9) := Over_any2 w9 hC))
  go_upto_region 17 with (go_at_call 31; go_must ((with_reducible refine hOv.mono ?_); rintro r w10 ⟨rfl, e10⟩; have e11 := e10.symm; subst e11))
  go_upto_region 19 with first
    | (go_at_call 26; go_must ((with_reducible refine (getS 9 _).mono ?_); rintro r wa ⟨rfl, hba⟩; have hbA := (Below.refl wa.heap.size wa).alloc (Nat.le_refl _) (.cells #[.int .i64 1, .int .i64 5, .int .i64 9, S dS, .int .i64 0, .slice none 0 0, .int .i64 0, .int .i64 0, .int .i64 0, .int .i64 0, .int .i64 0, .bool false] 34); obtain ⟨hC, hb, hz⟩ := cw_on hC hb hz (hba.trans (hbA.mono hba.size)); have hBy := fun (w1 : World) (hg : Blk w1 wa.heap.size 34 #[.int .i64 1, .int .i64 5, .int .i64 9, S dS, .int .i64 0, .slice none 0 0, .int .i64 0, .int .i64 0, .int .i64 0, .int .i64 0, .int .i64 0, .bool false]) => bytesS 9 (by decide) w1 hg))
    | (go_at_call 25; go_must ((with_reducible refine (hBy _ (Blk.new _ _ _)).mono ?_); rintro r wb ⟨vb, rfl, hrb, hbb⟩; obtain ⟨hC, hb, hz⟩ := cw_on hC hb hz hbb; have hby := own_by hrb; have hTk := Take_one (tk_headS 9 (by decide) (by decide) dS (by decide) 5 (.inr rfl)) _ hC rfl rfl _ hby (qs 2 true) (fun w1 F1 sa sc h1 _ => Item_late w1 h1 rfl rfl 9 (by decide) (by decide) rfl true [132] [47] (fun a b => run_132 a b) (by decide) (by decide) (.inl rfl) (by decide +kernel) (by decide +kernel) rfl rfl (by decide +kernel) (by decide +kernel) (by decide +kernel) (by decide +kernel) (by decide +kernel) (by decide +kernel) (by decide +kernel))))
    | (go_at_call 23; go_must ((with_reducible refine hTk.mono ?_); rintro r wc ⟨vc, jc, rfl, hnc, hG⟩; obtain ⟨FC, hC, hb, hz⟩ := goes_on hC hb hB hz hG; obtain rfl : jc = 0 := (by have h0 : (0 : Nat) = jc * 10 := hnc.1; omega); obtain ⟨ac, cc, rfl⟩ := own_form hnc))
  obtain ⟨FQ, hC⟩ : ∃ FQ, Cw _ n (qh (qs 2 true) 0) FQ := ⟨_, hC⟩
  go_wp2_with fail
  refine wp_loop_rounds 3 ?_
  rw [rounds_succ]
  have hOv := fun (w1 : World) F1 (h1 : Cw w1 n (qh (qs 2 true) 0) F1) => (show Calls Tryz.prog 31 #[Ptr n.c] w1 (fun e w' => e = .returned (.bool false) ∧ w' = w1) from Over_any2 w1 h1)
  have hHd := fun (w1 : World) F1 (h1 : Cw w1 n (qh (qs 2 true) 0) F1) => (show Calls Tryz.prog 34 #[Ptr n.c, .int .i64 1, .int .i64 200, .slice none 0 0, .bool true] w1 (fun r w' => r = .returned (.int .i64 0) ∧ Goes w1 n F1 w' (qh (qs 2 true) 1)) from Head_ok w1 h1 1 (by decide) (a := []) (c := (qh (qs 2 true) 0).live.tail) (s := { st := 2 }) rfl rfl rfl rfl rfl rfl (by decide +kernel))
  go_wp2_with first
    | (go_at_call 31; go_must ((with_reducible refine (hOv _ _ hC).mono ?_); rintro r w10 ⟨rfl, e10⟩; have e11 := e10.symm; subst e11))
    | (go_at_call 34; go_must ((with_reducible refine (hHd _ _ hC).mono ?_); rintro r wd ⟨rfl, hG⟩; obtain ⟨FD, hC, hb, hz⟩ := goes_on hC hb hB hz hG))
  clear hOv hHd
  rw [rounds_succ]
  have hOv := fun (w1 : World) F1 (h1 : Cw w1 n (qh (qs 2 true) 1) F1) => (show Calls Tryz.prog 31 #[Ptr n.c] w1 (fun e w' => e = .returned (.bool false) ∧ w' = w1) from Over_any2 w1 h1)
  have hHd := fun (w1 : World) F1 (h1 : Cw w1 n (qh (qs 2 true) 1) F1) => (show Calls Tryz.prog 34 #[Ptr n.c, .int .i64 3, .int .i64 200, .slice none 0 0, .bool true] w1 (fun r w' => r = .returned (.int .i64 0) ∧ Goes w1 n F1 w' (qh (qs 2 true) 2)) from Head_ok w1 h1 3 (by decide) (a := []) (c := (qh (qs 2 true) 1).live.tail) (s := { st := 2 }) rfl rfl rfl rfl rfl rfl (by decide +kernel))
  go_wp2_with first
    | (go_at_call 31; go_must ((with_reducible refine (hOv _ _ hC).mono ?_); rintro r w10 ⟨rfl, e10⟩; have e11 := e10.symm; subst e11))
    | (go_at_call 34; go_must ((with_reducible refine (hHd _ _ hC).mono ?_); rintro r wd ⟨rfl, hG⟩; obtain ⟨FD, hC, hb, hz⟩ := goes_on hC hb hB hz hG))
  clear hOv hHd
  rw [rounds_succ]
  go_upto_region 25 with (go_at_call 27; go_must ((with_reducible refine (Out_any _ hC).mono ?_); rintro r w16 ⟨v16, rfl, -, -, hG⟩; obtain ⟨F16, hC, hb, hz⟩ := goes_on hC hb hB hz hG; have hDr := Drain_over w16 hC rfl))
  go_upto_region 26 with (go_at_call 33; go_must ((with_reducible refine hDr.mono ?_); rintro r w17 ⟨rfl, e17⟩; have e18 := e17.symm; subst e18; have hOv : Calls Tryz.prog 31 #[Ptr n.c] w16 (fun e w' => e = .returned (.bool true) ∧ w' = w16) := Over_any2 w16 hC))
  go_wp2_with first
    | (go_at_call 31; go_must ((with_reducible refine hOv.mono ?_); rintro r w18 ⟨rfl, e18⟩; have e19 := e18.symm; subst e19))
    | (go_at_call 27; go_must ((with_reducible refine (Out_any _ hC).mono ?_); rintro r w19 ⟨v19, rfl, hr19, -, hG⟩; obtain ⟨F19, hC, hb, hz⟩ := goes_on hC hb hB hz hG; replace hr19 : w19.ownsRow n.B 5 1 v19 0 [] := hr19; obtain ⟨a19, c19, rfl⟩ := own_form hr19))
    | (go_at_call 26; go_must ((with_reducible refine (getS 11 _).mono ?_); rintro r wa ⟨rfl, hba⟩; have hbA := (Below.refl wa.heap.size wa).alloc (Nat.le_refl _) (.cells #[.int .i64 1, .int .i64 5, .int .i64 11, S dS, .int .i64 0, .slice none 0 0, .int .i64 0, .int .i64 0, .int .i64 0, .int .i64 0, .int .i64 0, .bool false] 34); obtain ⟨hC, hb, hz⟩ := cw_on hC hb hz (hba.trans (hbA.mono hba.size)); have hBy := fun (w1 : World) (hg : Blk w1 wa.heap.size 34 #[.int .i64 1, .int .i64 5, .int .i64 11, S dS, .int .i64 0, .slice none 0 0, .int .i64 0, .int .i64 0, .int .i64 0, .int .i64 0, .int .i64 0, .bool false]) => bytesS 11 (by decide) w1 hg))
    | (go_at_call 25; go_must ((with_reducible refine (hBy _ (Blk.new _ _ _)).mono ?_); rintro r wb ⟨vb, rfl, hrb, hbb⟩; obtain ⟨hC, hb, hz⟩ := cw_on hC hb hz hbb; have hTk := Take_over wb hC rfl vb))
    | (go_at_call 23; go_must ((with_reducible refine hTk.mono ?_); rintro r wc ⟨rfl, ec⟩; have ed := ec.symm; subst ed))
  go_ret
  exact ⟨rfl, hb⟩


set_option maxRecDepth 100000 in
set_option maxHeartbeats 16000000 in
theorem drains22_3f (s : Int) (h1 : s.tmod 4 = 3) (h2 : s % 4 = 3) (w : World) : Calls Tryz.prog 6 #[.int .u8 s, .bool false] w fun e w' => e = .returned (.bool true) ∧ Below w.heap.size w w' := by
  go_enter Tryz.func6, Tryz.ntmps6
  go_wp2_with first
    | (go_at_call 20; go_must ((with_reducible refine (awake22_any _).mono ?_); rintro r w1 ⟨rfl, hb1⟩))
    | (go_at_call 22; go_must ((with_reducible refine (Limits_any _).mono ?_); rintro r w2 ⟨rfl, hb2⟩; have hb := hb1.trans (hb2.mono hb1.size)))
    | (go_at_call 21; go_must ((with_reducible refine (new22 _).mono ?_); rintro r w3 ⟨n, F, rfl, hnB, hC, hb3⟩; have hB : w.heap.size ≤ n.B := (by have := hb.size; omega); have hb := hb.trans (hb3.mono hb.size); have hz : n.B ≤ w3.heap.size := (by have := hb3.size; omega)))
    | (go_at_call 24; go_must ((with_reducible refine (Hello_any _).mono ?_); rintro r w4 ⟨v4, rfl, hr4, hb4⟩; obtain ⟨hC, hb, hz⟩ := cw_on hC hb hz hb4; have hTk := Take_hello hC v4 (own_by hr4)))
    | (go_at_call 23; go_must ((with_reducible refine hTk.mono ?_); rintro r w5 ⟨v5, j5, rfl, -, hG⟩; obtain ⟨F5, hC, hb, hz⟩ := goes_on hC hb hB hz hG))
  replace hC : Cw _ n (qd 0) F5 := hC
  refine wp_loop_rounds 4 ?_
  rw [rounds_succ]
  go_wp2_with first
    | (go_at_call 26; go_must ((with_reducible refine (getS 1 _).mono ?_); rintro r wa ⟨rfl, hba⟩; have hbA := (Below.refl wa.heap.size wa).alloc (Nat.le_refl _) (.cells #[.int .i64 1, .int .i64 5, .int .i64 1, S dS, .int .i64 0, .slice none 0 0, .int .i64 0, .int .i64 0, .int .i64 0, .int .i64 0, .int .i64 0, .bool false] 34); obtain ⟨hC, hb, hz⟩ := cw_on hC hb hz (hba.trans (hbA.mono hba.size)); have hBy := fun (w1 : World) (hg : Blk w1 wa.heap.size 34 #[.int .i64 1, .int .i64 5, .int .i64 1, S dS, .int .i64 0, .slice none 0 0, .int .i64 0, .int .i64 0, .int .i64 0, .int .i64 0, .int .i64 0, .bool false]) => bytesS 1 (by decide) w1 hg))
    | (go_at_call 25; go_must ((with_reducible refine (hBy _ (Blk.new _ _ _)).mono ?_); rintro r wb ⟨vb, rfl, hrb, hbb⟩; obtain ⟨hC, hb, hz⟩ := cw_on hC hb hz hbb; have hby := own_by hrb; have hTk := Take_one (tk_headS 1 (by decide) (by decide) dS (by decide) 5 (.inr rfl)) _ hC rfl rfl _ hby (qd 1) (fun w1 F1 sa sc h1 _ => Item_get w1 h1 rfl rfl 1 (by decide) (by decide) rfl true [132] [47] (fun a b => run_132 a b) (by decide) (by decide) (.inl rfl) (by decide +kernel) (by decide +kernel) rfl rfl (by decide +kernel) (by decide +kernel) (by decide +kernel) (by decide +kernel) (by decide +kernel) (by decide +kernel) (by decide +kernel))))
    | (go_at_call 23; go_must ((with_reducible refine hTk.mono ?_); rintro r wc ⟨vc, jc, rfl, -, hG⟩; obtain ⟨FC, hC, hb, hz⟩ := goes_on hC hb hB hz hG))
  rw [rounds_succ]
  go_wp2_with first
    | (go_at_call 26; go_must ((with_reducible refine (getS 3 _).mono ?_); rintro r wa ⟨rfl, hba⟩; have hbA := (Below.refl wa.heap.size wa).alloc (Nat.le_refl _) (.cells #[.int .i64 1, .int .i64 5, .int .i64 3, S dS, .int .i64 0, .slice none 0 0, .int .i64 0, .int .i64 0, .int .i64 0, .int .i64 0, .int .i64 0, .bool false] 34); obtain ⟨hC, hb, hz⟩ := cw_on hC hb hz (hba.trans (hbA.mono hba.size)); have hBy := fun (w1 : World) (hg : Blk w1 wa.heap.size 34 #[.int .i64 1, .int .i64 5, .int .i64 3, S dS, .int .i64 0, .slice none 0 0, .int .i64 0, .int .i64 0, .int .i64 0, .int .i64 0, .int .i64 0, .bool false]) => bytesS 3 (by decide) w1 hg))
    | (go_at_call 25; go_must ((with_reducible refine (hBy _ (Blk.new _ _ _)).mono ?_); rintro r wb ⟨vb, rfl, hrb, hbb⟩; obtain ⟨hC, hb, hz⟩ := cw_on hC hb hz hbb; have hby := own_by hrb; have hTk := Take_one (tk_headS 3 (by decide) (by decide) dS (by decide) 5 (.inr rfl)) _ hC rfl rfl _ hby (qd 2) (fun w1 F1 sa sc h1 _ => Item_get w1 h1 rfl rfl 3 (by decide) (by decide) rfl true [132] [47] (fun a b => run_132 a b) (by decide) (by decide) (.inl rfl) (by decide +kernel) (by decide +kernel) rfl rfl (by decide +kernel) (by decide +kernel) (by decide +kernel) (by decide +kernel) (by decide +kernel) (by decide +kernel) (by decide +kernel))))
    | (go_at_call 23; go_must ((with_reducible refine hTk.mono ?_); rintro r wc ⟨vc, jc, rfl, -, hG⟩; obtain ⟨FC, hC, hb, hz⟩ := goes_on hC hb hB hz hG))
  rw [rounds_succ]
  go_wp2_with first
    | (go_at_call 26; go_must ((with_reducible refine (getS 5 _).mono ?_); rintro r wa ⟨rfl, hba⟩; have hbA := (Below.refl wa.heap.size wa).alloc (Nat.le_refl _) (.cells #[.int .i64 1, .int .i64 5, .int .i64 5, S dS, .int .i64 0, .slice none 0 0, .int .i64 0, .int .i64 0, .int .i64 0, .int .i64 0, .int .i64 0, .bool false] 34); obtain ⟨hC, hb, hz⟩ := cw_on hC hb hz (hba.trans (hbA.mono hba.size)); have hBy := fun (w1 : World) (hg : Blk w1 wa.heap.size 34 #[.int .i64 1, .int .i64 5, .int .i64 5, S dS, .int .i64 0, .slice none 0 0, .int .i64 0, .int .i64 0, .int .i64 0, .int .i64 0, .int .i64 0, .bool false]) => bytesS 5 (by decide) w1 hg))
    | (go_at_call 25; go_must ((with_reducible refine (hBy _ (Blk.new _ _ _)).mono ?_); rintro r wb ⟨vb, rfl, hrb, hbb⟩; obtain ⟨hC, hb, hz⟩ := cw_on hC hb hz hbb; have hby := own_by hrb; have hTk := Take_one (tk_headS 5 (by decide) (by decide) dS (by decide) 5 (.inr rfl)) _ hC rfl rfl _ hby (qd 3) (fun w1 F1 sa sc h1 _ => Item_get w1 h1 rfl rfl 5 (by decide) (by decide) rfl true [132] [47] (fun a b => run_132 a b) (by decide) (by decide) (.inl rfl) (by decide +kernel) (by decide +kernel) rfl rfl (by decide +kernel) (by decide +kernel) (by decide +kernel) (by decide +kernel) (by decide +kernel) (by decide +kernel) (by decide +kernel))))
    | (go_at_call 23; go_must ((with_reducible refine hTk.mono ?_); rintro r wc ⟨vc, jc, rfl, -, hG⟩; obtain ⟨FC, hC, hb, hz⟩ := goes_on hC hb hB hz hG))
  rw [rounds_succ]
  go_upto_region 13 with (go_at_call 27; go_must ((with_reducible refine (Out_any _ hC).mono ?_); rintro r w6 ⟨v6, rfl, -, -, hG⟩; obtain ⟨F6, hC, hb, hz⟩ := goes_on hC hb hB hz hG; have hDr : Calls Tryz.prog 33 #[Ptr n.c] w6 (fun e w' => e = .returned (.tuple #[]) ∧ Goes w6 n F6 w' (qe 3)) := Drain_go w6 hC rfl rfl 5 rfl (by decide) (by decide +kernel)))
  go_upto_region 14 with (go_at_call 33; go_must ((with_reducible refine hDr.mono ?_); rintro r w7 ⟨rfl, hG⟩; obtain ⟨F7, hC, hb, hz⟩ := goes_on hC hb hB hz hG))
  go_upto_region 15 with first
    | (go_at_call 27; go_must ((with_reducible refine (Out_any _ hC).mono ?_); rintro r w8 ⟨v8, rfl, hr8, -, hG⟩; obtain ⟨F8, hC, hb, hz⟩ := goes_on hC hb hB hz hG; replace hC : Cw w8 n (qs 3 false) F8 := hC; have hr8' : w8.ownsRow n.B 5 1 v8 (awayB 5 0).length ((awayB 5 0).map B8) := hr8; have hAl := All_of [(awayB 5 0, { ty := 7, last := 5, code := 0 })] (by intro x hx; obtain rfl : x = _ := List.mem_singleton.1 hx; exact ⟨rTk_Gow 5 0 (by decide) (by decide), by decide⟩) v8 w8 (by rw [show flatF [(awayB 5 0, ({ ty := 7, last := 5, code := 0 } : Fr))] = awayB 5 0 from List.append_nil _]; exact own_by hr8') (by decide)))
    | (go_at_call 29; go_must ((with_reducible refine hAl.mono ?_); rintro r w9 ⟨vo, its, rfl, hits, hrow, -, hb9⟩; obtain ⟨vs, rfl⟩ := its_one hits; replace hrow : w9.ownsRow w8.heap.size 72 15 vo 1 _ := hrow; obtain ⟨ao, co, rfl⟩ := own_form hrow; obtain ⟨go, rfl, hcell⟩ := row_cell hrow (by decide); have k0 : w9.cell? ⟨go, 0, none⟩ = some (.int .i64 7) := hcell 0 _ rfl; have k6 : w9.cell? ⟨go, 6, none⟩ = some (.int .i64 0) := hcell 6 _ rfl; have k7 : w9.cell? ⟨go, 7, none⟩ = some (.int .i64 5) := hcell 7 _ rfl; clear hcell; obtain ⟨hC, hb, hz⟩ := cw_on hC hb hz hb9; have hOv : Calls Tryz.prog 31 #[Ptr n.c] w9 (fun e w' => e = .returned (.bool false) ∧ w' = w9) := Over_any2 w9 hC))
  go_upto_region 17 with (go_at_call 31; go_must ((with_reducible refine hOv.mono ?_); rintro r w10 ⟨rfl, e10⟩; have e11 := e10.symm; subst e11))
  obtain ⟨FQ, hC⟩ : ∃ FQ, Cw _ n (qh (qs 3 false) 0) FQ := ⟨_, hC⟩
  go_wp2_with fail
  refine wp_loop_rounds 4 ?_
  rw [rounds_succ]
  have hOv := fun (w1 : World) F1 (h1 : Cw w1 n (qh (qs 3 false) 0) F1) => (show Calls Tryz.prog 31 #[Ptr n.c] w1 (fun e w' => e = .returned (.bool false) ∧ w' = w1) from Over_any2 w1 h1)
  have hHd := fun (w1 : World) F1 (h1 : Cw w1 n (qh (qs 3 false) 0) F1) => (show Calls Tryz.prog 34 #[Ptr n.c, .int .i64 1, .int .i64 200, .slice none 0 0, .bool true] w1 (fun r w' => r = .returned (.int .i64 0) ∧ Goes w1 n F1 w' (qh (qs 3 false) 1)) from Head_ok w1 h1 1 (by decide) (a := []) (c := (qh (qs 3 false) 0).live.tail) (s := { st := 2 }) rfl rfl rfl rfl rfl rfl (by decide +kernel))
  go_wp2_with first
    | (go_at_call 31; go_must ((with_reducible refine (hOv _ _ hC).mono ?_); rintro r w10 ⟨rfl, e10⟩; have e11 := e10.symm; subst e11))
    | (go_at_call 34; go_must ((with_reducible refine (hHd _ _ hC).mono ?_); rintro r wd ⟨rfl, hG⟩; obtain ⟨FD, hC, hb, hz⟩ := goes_on hC hb hB hz hG))
  clear hOv hHd
  rw [rounds_succ]
  have hOv := fun (w1 : World) F1 (h1 : Cw w1 n (qh (qs 3 false) 1) F1) => (show Calls Tryz.prog 31 #[Ptr n.c] w1 (fun e w' => e = .returned (.bool false) ∧ w' = w1) from Over_any2 w1 h1)
  have hHd := fun (w1 : World) F1 (h1 : Cw w1 n (qh (qs 3 false) 1) F1) => (show Calls Tryz.prog 34 #[Ptr n.c, .int .i64 3, .int .i64 200, .slice none 0 0, .bool true] w1 (fun r w' => r = .returned (.int .i64 0) ∧ Goes w1 n F1 w' (qh (qs 3 false) 2)) from Head_ok w1 h1 3 (by decide) (a := []) (c := (qh (qs 3 false) 1).live.tail) (s := { st := 2 }) rfl rfl rfl rfl rfl rfl (by decide +kernel))
  go_wp2_with first
    | (go_at_call 31; go_must ((with_reducible refine (hOv _ _ hC).mono ?_); rintro r w10 ⟨rfl, e10⟩; have e11 := e10.symm; subst e11))
    | (go_at_call 34; go_must ((with_reducible refine (hHd _ _ hC).mono ?_); rintro r wd ⟨rfl, hG⟩; obtain ⟨FD, hC, hb, hz⟩ := goes_on hC hb hB hz hG))
  clear hOv hHd
  rw [rounds_succ]
  have hOv := fun (w1 : World) F1 (h1 : Cw w1 n (qh (qs 3 false) 2) F1) => (show Calls Tryz.prog 31 #[Ptr n.c] w1 (fun e w' => e = .returned (.bool false) ∧ w' = w1) from Over_any2 w1 h1)
  have hHd := fun (w1 : World) F1 (h1 : Cw w1 n (qh (qs 3 false) 2) F1) => (show Calls Tryz.prog 34 #[Ptr n.c, .int .i64 5, .int .i64 200, .slice none 0 0, .bool true] w1 (fun r w' => r = .returned (.int .i64 0) ∧ Goes w1 n F1 w' (qh (qs 3 false) 3)) from Head_ok w1 h1 5 (by decide) (a := []) (c := (qh (qs 3 false) 2).live.tail) (s := { st := 2 }) rfl rfl rfl rfl rfl rfl (by decide +kernel))
  go_wp2_with first
    | (go_at_call 31; go_must ((with_reducible refine (hOv _ _ hC).mono ?_); rintro r w10 ⟨rfl, e10⟩; have e11 := e10.symm; subst e11))
    | (go_at_call 34; go_must ((with_reducible refine (hHd _ _ hC).mono ?_); rintro r wd ⟨rfl, hG⟩; obtain ⟨FD, hC, hb, hz⟩ := goes_on hC hb hB hz hG))
  clear hOv hHd
  rw [rounds_succ]
  go_upto_region 25 with (go_at_call 27; go_must ((with_reducible refine (Out_any _ hC).mono ?_); rintro r w16 ⟨v16, rfl, -, -, hG⟩; obtain ⟨F16, hC, hb, hz⟩ := goes_on hC hb hB hz hG; have hDr := Drain_over w16 hC rfl))
  go_upto_region 26 with (go_at_call 33; go_must ((with_reducible refine hDr.mono ?_); rintro r w17 ⟨rfl, e17⟩; have e18 := e17.symm; subst e18; have hOv : Calls Tryz.prog 31 #[Ptr n.c] w16 (fun e w' => e = .returned (.bool true) ∧ w' = w16) := Over_any2 w16 hC))
  go_wp2_with first
    | (go_at_call 31; go_must ((with_reducible refine hOv.mono ?_); rintro r w18 ⟨rfl, e18⟩; have e19 := e18.symm; subst e19))
    | (go_at_call 27; go_must ((with_reducible refine (Out_any _ hC).mono ?_); rintro r w19 ⟨v19, rfl, hr19, -, hG⟩; obtain ⟨F19, hC, hb, hz⟩ := goes_on hC hb hB hz hG; replace hr19 : w19.ownsRow n.B 5 1 v19 0 [] := hr19; obtain ⟨a19, c19, rfl⟩ := own_form hr19))
    | (go_at_call 26; go_must ((with_reducible refine (getS 11 _).mono ?_); rintro r wa ⟨rfl, hba⟩; have hbA := (Below.refl wa.heap.size wa).alloc (Nat.le_refl _) (.cells #[.int .i64 1, .int .i64 5, .int .i64 11, S dS, .int .i64 0, .slice none 0 0, .int .i64 0, .int .i64 0, .int .i64 0, .int .i64 0, .int .i64 0, .bool false] 34); obtain ⟨hC, hb, hz⟩ := cw_on hC hb hz (hba.trans (hbA.mono hba.size)); have hBy := fun (w1 : World) (hg : Blk w1 wa.heap.size 34 #[.int .i64 1, .int .i64 5, .int .i64 11, S dS, .int .i64 0, .slice none 0 0, .int .i64 0, .int .i64 0, .int .i64 0, .int .i64 0, .int .i64 0, .bool false]) => bytesS 11 (by decide) w1 hg))
    | (go_at_call 25; go_must ((with_reducible refine (hBy _ (Blk.new _ _ _)).mono ?_); rintro r wb ⟨vb, rfl, hrb, hbb⟩; obtain ⟨hC, hb, hz⟩ := cw_on hC hb hz hbb; have hTk := Take_over wb hC rfl vb))
    | (go_at_call 23; go_must ((with_reducible refine hTk.mono ?_); rintro r wc ⟨rfl, ec⟩; have ed := ec.symm; subst ed))
  go_ret
  exact ⟨rfl, hb⟩


set_option maxRecDepth 100000 in
set_option maxHeartbeats 16000000 in
theorem drains22_3t (s : Int) (h1 : s.tmod 4 = 3) (h2 : s % 4 = 3) (w : World) : Calls Tryz.prog 6 #[.int .u8 s, .bool true] w fun e w' => e = .returned (.bool true) ∧ Below w.heap.size w w' := by
  go_enter Tryz.func6, Tryz.ntmps6
  go_wp2_with first
    | (go_at_call 20; go_must ((with_reducible refine (awake22_any _).mono ?_); rintro r w1 ⟨rfl, hb1⟩))
    | (go_at_call 22; go_must ((with_reducible refine (Limits_any _).mono ?_); rintro r w2 ⟨rfl, hb2⟩; have hb := hb1.trans (hb2.mono hb1.size)))
    | (go_at_call 21; go_must ((with_reducible refine (new22 _).mono ?_); rintro r w3 ⟨n, F, rfl, hnB, hC, hb3⟩; have hB : w.heap.size ≤ n.B := (by have := hb.size; omega); have hb := hb.trans (hb3.mono hb.size); have hz : n.B ≤ w3.heap.size := (by have := hb3.size; omega)))
    | (go_at_call 24; go_must ((with_reducible refine (Hello_any _).mono ?_); rintro r w4 ⟨v4, rfl, hr4, hb4⟩; obtain ⟨hC, hb, hz⟩ := cw_on hC hb hz hb4; have hTk := Take_hello hC v4 (own_by hr4)))
    | (go_at_call 23; go_must ((with_reducible refine hTk.mono ?_); rintro r w5 ⟨v5, j5, rfl, -, hG⟩; obtain ⟨F5, hC, hb, hz⟩ := goes_on hC hb hB hz hG))
  replace hC : Cw _ n (qd 0) F5 := hC
  refine wp_loop_rounds 4 ?_
  rw [rounds_succ]
  go_wp2_with first
    | (go_at_call 26; go_must ((with_reducible refine (getS 1 _).mono ?_); rintro r wa ⟨rfl, hba⟩; have hbA := (Below.refl wa.heap.size wa).alloc (Nat.le_refl _) (.cells #[.int .i64 1, .int .i64 5, .int .i64 1, S dS, .int .i64 0, .slice none 0 0, .int .i64 0, .int .i64 0, .int .i64 0, .int .i64 0, .int .i64 0, .bool false] 34); obtain ⟨hC, hb, hz⟩ := cw_on hC hb hz (hba.trans (hbA.mono hba.size)); have hBy := fun (w1 : World) (hg : Blk w1 wa.heap.size 34 #[.int .i64 1, .int .i64 5, .int .i64 1, S dS, .int .i64 0, .slice none 0 0, .int .i64 0, .int .i64 0, .int .i64 0, .int .i64 0, .int .i64 0, .bool false]) => bytesS 1 (by decide) w1 hg))
    | (go_at_call 25; go_must ((with_reducible refine (hBy _ (Blk.new _ _ _)).mono ?_); rintro r wb ⟨vb, rfl, hrb, hbb⟩; obtain ⟨hC, hb, hz⟩ := cw_on hC hb hz hbb; have hby := own_by hrb; have hTk := Take_one (tk_headS 1 (by decide) (by decide) dS (by decide) 5 (.inr rfl)) _ hC rfl rfl _ hby (qd 1) (fun w1 F1 sa sc h1 _ => Item_get w1 h1 rfl rfl 1 (by decide) (by decide) rfl true [132] [47] (fun a b => run_132 a b) (by decide) (by decide) (.inl rfl) (by decide +kernel) (by decide +kernel) rfl rfl (by decide +kernel) (by decide +kernel) (by decide +kernel) (by decide +kernel) (by decide +kernel) (by decide +kernel) (by decide +kernel))))
    | (go_at_call 23; go_must ((with_reducible refine hTk.mono ?_); rintro r wc ⟨vc, jc, rfl, -, hG⟩; obtain ⟨FC, hC, hb, hz⟩ := goes_on hC hb hB hz hG))
  rw [rounds_succ]
  go_wp2_with first
    | (go_at_call 26; go_must ((with_reducible refine (getS 3 _).mono ?_); rintro r wa ⟨rfl, hba⟩; have hbA := (Below.refl wa.heap.size wa).alloc (Nat.le_refl _) (.cells #[.int .i64 1, .int .i64 5, .int .i64 3, S dS, .int .i64 0, .slice none 0 0, .int .i64 0, .int .i64 0, .int .i64 0, .int .i64 0, .int .i64 0, .bool false] 34); obtain ⟨hC, hb, hz⟩ := cw_on hC hb hz (hba.trans (hbA.mono hba.size)); have hBy := fun (w1 : World) (hg : Blk w1 wa.heap.size 34 #[.int .i64 1, .int .i64 5, .int .i64 3, S dS, .int .i64 0, .slice none 0 0, .int .i64 0, .int .i64 0, .int .i64 0, .int .i64 0, .int .i64 0, .bool false]) => bytesS 3 (by decide) w1 hg))
    | (go_at_call 25; go_must ((with_reducible refine (hBy _ (Blk.new _ _ _)).mono ?_); rintro r wb ⟨vb, rfl, hrb, hbb⟩; obtain ⟨hC, hb, hz⟩ := cw_on hC hb hz hbb; have hby := own_by hrb; have hTk := Take_one (tk_headS 3 (by decide) (by decide) dS (by decide) 5 (.inr rfl)) _ hC rfl rfl _ hby (qd 2) (fun w1 F1 sa sc h1 _ => Item_get w1 h1 rfl rfl 3 (by decide) (by decide) rfl true [132] [47] (fun a b => run_132 a b) (by decide) (by decide) (.inl rfl) (by decide +kernel) (by decide +kernel) rfl rfl (by decide +kernel) (by decide +kernel) (by decide +kernel) (by decide +kernel) (by decide +kernel) (by decide +kernel) (by decide +kernel))))
    | (go_at_call 23; go_must ((with_reducible refine hTk.mono ?_); rintro r wc ⟨vc, jc, rfl, -, hG⟩; obtain ⟨FC, hC, hb, hz⟩ := goes_on hC hb hB hz hG))
  rw [rounds_succ]
  go_wp2_with first
    | (go_at_call 26; go_must ((with_reducible refine (getS 5 _).mono ?_); rintro r wa ⟨rfl, hba⟩; have hbA := (Below.refl wa.heap.size wa).alloc (Nat.le_refl _) (.cells #[.int .i64 1, .int .i64 5, .int .i64 5, S dS, .int .i64 0, .slice none 0 0, .int .i64 0, .int .i64 0, .int .i64 0, .int .i64 0, .int .i64 0, .bool false] 34); obtain ⟨hC, hb, hz⟩ := cw_on hC hb hz (hba.trans (hbA.mono hba.size)); have hBy := fun (w1 : World) (hg : Blk w1 wa.heap.size 34 #[.int .i64 1, .int .i64 5, .int .i64 5, S dS, .int .i64 0, .slice none 0 0, .int .i64 0, .int .i64 0, .int .i64 0, .int .i64 0, .int .i64 0, .bool false]) => bytesS 5 (by decide) w1 hg))
    | (go_at_call 25; go_must ((with_reducible refine (hBy _ (Blk.new _ _ _)).mono ?_); rintro r wb ⟨vb, rfl, hrb, hbb⟩; obtain ⟨hC, hb, hz⟩ := cw_on hC hb hz hbb; have hby := own_by hrb; have hTk := Take_one (tk_headS 5 (by decide) (by decide) dS (by decide) 5 (.inr rfl)) _ hC rfl rfl _ hby (qd 3) (fun w1 F1 sa sc h1 _ => Item_get w1 h1 rfl rfl 5 (by decide) (by decide) rfl true [132] [47] (fun a b => run_132 a b) (by decide) (by decide) (.inl rfl) (by decide +kernel) (by decide +kernel) rfl rfl (by decide +kernel) (by decide +kernel) (by decide +kernel) (by decide +kernel) (by decide +kernel) (by decide +kernel) (by decide +kernel))))
    | (go_at_call 23; go_must ((with_reducible refine hTk.mono ?_); rintro r wc ⟨vc, jc, rfl, -, hG⟩; obtain ⟨FC, hC, hb, hz⟩ := goes_on hC hb hB hz hG))
  rw [rounds_succ]
  go_upto_region 13 with (go_at_call 27; go_must ((with_reducible refine (Out_any _ hC).mono ?_); rintro r w6 ⟨v6, rfl, -, -, hG⟩; obtain ⟨F6, hC, hb, hz⟩ := goes_on hC hb hB hz hG; have hDr : Calls Tryz.prog 33 #[Ptr n.c] w6 (fun e w' => e = .returned (.tuple #[]) ∧ Goes w6 n F6 w' (qe 3)) := Drain_go w6 hC rfl rfl 5 rfl (by decide) (by decide +kernel)))
  go_upto_region 14 with (go_at_call 33; go_must ((with_reducible refine hDr.mono ?_); rintro r w7 ⟨rfl, hG⟩; obtain ⟨F7, hC, hb, hz⟩ := goes_on hC hb hB hz hG))
  go_upto_region 15 with first
    | (go_at_call 27; go_must ((with_reducible refine (Out_any _ hC).mono ?_); rintro r w8 ⟨v8, rfl, hr8, -, hG⟩; obtain ⟨F8, hC, hb, hz⟩ := goes_on hC hb hB hz hG; replace hC : Cw w8 n (qs 3 false) F8 := hC; have hr8' : w8.ownsRow n.B 5 1 v8 (awayB 5 0).length ((awayB 5 0).map B8) := hr8; have hAl := All_of [(awayB 5 0, { ty := 7, last := 5, code := 0 })] (by intro x hx; obtain rfl : x = _ := List.mem_singleton.1 hx; exact ⟨rTk_Gow 5 0 (by decide) (by decide), by decide⟩) v8 w8 (by rw [show flatF [(awayB 5 0, ({ ty := 7, last := 5, code := 0 } : Fr))] = awayB 5 0 from List.append_nil _]; exact own_by hr8') (by decide)))
    | (go_at_call 29; go_must ((with_reducible refine hAl.mono ?_); rintro r w9 ⟨vo, its, rfl, hits, hrow, -, hb9⟩; obtain ⟨vs, rfl⟩ := its_one hits; replace hrow : w9.ownsRow w8.heap.size 72 15 vo 1 _ := hrow; obtain ⟨ao, co, rfl⟩ := own_form hrow; obtain ⟨go, rfl, hcell⟩ := row_cell hrow (by decide); have k0 : w9.cell? ⟨go, 0, none⟩ = some (.int .i64 7) := hcell 0 _ rfl; have k6 : w9.cell? ⟨go, 6, none⟩ = some (.int .i64 0) := hcell 6 _ rfl; have k7 : w9.cell? ⟨go, 7, none⟩ = some (.int .i64 5) := hcell 7 _ rfl; clear hcell; obtain ⟨hC, hb, hz⟩ := cw_on hC hb hz hb9; have hOv : Calls Tryz.prog 31 #[Ptr n.c] w9 (fun e w' => e = .returned (.bool false) ∧ w' = w9) := Over_any2 w9 hC))
  go_upto_region 17 with (go_at_call 31; go_must ((with_reducible refine hOv.mono ?_); rintro r w10 ⟨rfl, e10⟩; have e11 := e10.symm; subst e11))
  go_upto_region 19 with first
    | (go_at_call 26; go_must ((with_reducible refine (getS 9 _).mono ?_); rintro r wa ⟨rfl, hba⟩; have hbA := (Below.refl wa.heap.size wa).alloc (Nat.le_refl _) (.cells #[.int .i64 1, .int .i64 5, .int .i64 9, S dS, .int .i64 0, .slice none 0 0, .int .i64 0, .int .i64 0, .int .i64 0, .int .i64 0, .int .i64 0, .bool false] 34); obtain ⟨hC, hb, hz⟩ := cw_on hC hb hz (hba.trans (hbA.mono hba.size)); have hBy := fun (w1 : World) (hg : Blk w1 wa.heap.size 34 #[.int .i64 1, .int .i64 5, .int .i64 9, S dS, .int .i64 0, .slice none 0 0, .int .i64 0, .int .i64 0, .int .i64 0, .int .i64 0, .int .i64 0, .bool false]) => bytesS 9 (by decide) w1 hg))
    | (go_at_call 25; go_must ((with_reducible refine (hBy _ (Blk.new _ _ _)).mono ?_); rintro r wb ⟨vb, rfl, hrb, hbb⟩; obtain ⟨hC, hb, hz⟩ := cw_on hC hb hz hbb; have hby := own_by hrb; have hTk := Take_one (tk_headS 9 (by decide) (by decide) dS (by decide) 5 (.inr rfl)) _ hC rfl rfl _ hby (qs 3 true) (fun w1 F1 sa sc h1 _ => Item_late w1 h1 rfl rfl 9 (by decide) (by decide) rfl true [132] [47] (fun a b => run_132 a b) (by decide) (by decide) (.inl rfl) (by decide +kernel) (by decide +kernel) rfl rfl (by decide +kernel) (by decide +kernel) (by decide +kernel) (by decide +kernel) (by decide +kernel) (by decide +kernel) (by decide +kernel))))
    | (go_at_call 23; go_must ((with_reducible refine hTk.mono ?_); rintro r wc ⟨vc, jc, rfl, hnc, hG⟩; obtain ⟨FC, hC, hb, hz⟩ := goes_on hC hb hB hz hG; obtain rfl : jc = 0 := (by have h0 : (0 : Nat) = jc * 10 := hnc.1; omega); obtain ⟨ac, cc, rfl⟩ := own_form hnc))
  obtain ⟨FQ, hC⟩ : ∃ FQ, Cw _ n (qh (qs 3 true) 0) FQ := ⟨_, hC⟩
  go_wp2_with fail
  refine wp_loop_rounds 4 ?_
  rw [rounds_succ]
  have hOv := fun (w1 : World) F1 (h1 : Cw w1 n (qh (qs 3 true) 0) F1) => (show Calls Tryz.prog 31 #[Ptr n.c] w1 (fun e w' => e = .returned (.bool false) ∧ w' = w1) from Over_any2 w1 h1)
  have hHd := fun (w1 : World) F1 (h1 : Cw w1 n (qh (qs 3 true) 0) F1) => (show Calls Tryz.prog 34 #[Ptr n.c, .int .i64 1, .int .i64 200, .slice none 0 0, .bool true] w1 (fun r w' => r = .returned (.int .i64 0) ∧ Goes w1 n F1 w' (qh (qs 3 true) 1)) from Head_ok w1 h1 1 (by decide) (a := []) (c := (qh (qs 3 true) 0).live.tail) (s := { st := 2 }) rfl rfl rfl rfl rfl rfl (by decide +kernel))
  go_wp2_with first
    | (go_at_call 31; go_must ((with_reducible refine (hOv _ _ hC).mono ?_); rintro r w10 ⟨rfl, e10⟩; have e11 := e10.symm; subst e11))
    | (go_at_call 34; go_must ((with_reducible refine (hHd _ _ hC).mono ?_); rintro r wd ⟨rfl, hG⟩; obtain ⟨FD, hC, hb, hz⟩ := goes_on hC hb hB hz hG))
  clear hOv hHd
  rw [rounds_succ]
  have hOv := fun (w1 : World) F1 (h1 : Cw w1 n (qh (qs 3 true) 1) F1) => (show Calls Tryz.prog 31 #[Ptr n.c] w1 (fun e w' => e = .returned (.bool false) ∧ w' = w1) from Over_any2 w1 h1)
  have hHd := fun (w1 : World) F1 (h1 : Cw w1 n (qh (qs 3 true) 1) F1) => (show Calls Tryz.prog 34 #[Ptr n.c, .int .i64 3, .int .i64 200, .slice none 0 0, .bool true] w1 (fun r w' => r = .returned (.int .i64 0) ∧ Goes w1 n F1 w' (qh (qs 3 true) 2)) from Head_ok w1 h1 3 (by decide) (a := []) (c := (qh (qs 3 true) 1).live.tail) (s := { st := 2 }) rfl rfl rfl rfl rfl rfl (by decide +kernel))
  go_wp2_with first
    | (go_at_call 31; go_must ((with_reducible refine (hOv _ _ hC).mono ?_); rintro r w10 ⟨rfl, e10⟩; have e11 := e10.symm; subst e11))
    | (go_at_call 34; go_must ((with_reducible refine (hHd _ _ hC).mono ?_); rintro r wd ⟨rfl, hG⟩; obtain ⟨FD, hC, hb, hz⟩ := goes_on hC hb hB hz hG))
  clear hOv hHd
  rw [rounds_succ]
  have hOv := fun (w1 : World) F1 (h1 : Cw w1 n (qh (qs 3 true) 2) F1) => (show Calls Tryz.prog 31 #[Ptr n.c] w1 (fun e w' => e = .returned (.bool false) ∧ w' = w1) from Over_any2 w1 h1)
  have hHd := fun (w1 : World) F1 (h1 : Cw w1 n (qh (qs 3 true) 2) F1) => (show Calls Tryz.prog 34 #[Ptr n.c, .int .i64 5, .int .i64 200, .slice none 0 0, .bool true] w1 (fun r w' => r = .returned (.int .i64 0) ∧ Goes w1 n F1 w' (qh (qs 3 true) 3)) from Head_ok w1 h1 5 (by decide) (a := []) (c := (qh (qs 3 true) 2).live.tail) (s := { st := 2 }) rfl rfl rfl rfl rfl rfl (by decide +kernel))
  go_wp2_with first
    | (go_at_call 31; go_must ((with_reducible refine (hOv _ _ hC).mono ?_); rintro r w10 ⟨rfl, e10⟩; have e11 := e10.symm; subst e11))
    | (go_at_call 34; go_must ((with_reducible refine (hHd _ _ hC).mono ?_); rintro r wd ⟨rfl, hG⟩; obtain ⟨FD, hC, hb, hz⟩ := goes_on hC hb hB hz hG))
  clear hOv hHd
  rw [rounds_succ]
  go_upto_region 25 with (go_at_call 27; go_must ((with_reducible refine (Out_any _ hC).mono ?_); rintro r w16 ⟨v16, rfl, -, -, hG⟩; obtain ⟨F16, hC, hb, hz⟩ := goes_on hC hb hB hz hG; have hDr := Drain_over w16 hC rfl))
  go_upto_region 26 with (go_at_call 33; go_must ((with_reducible refine hDr.mono ?_); rintro r w17 ⟨rfl, e17⟩; have e18 := e17.symm; subst e18; have hOv : Calls Tryz.prog 31 #[Ptr n.c] w16 (fun e w' => e = .returned (.bool true) ∧ w' = w16) := Over_any2 w16 hC))
  go_wp2_with first
    | (go_at_call 31; go_must ((with_reducible refine hOv.mono ?_); rintro r w18 ⟨rfl, e18⟩; have e19 := e18.symm; subst e19))
    | (go_at_call 27; go_must ((with_reducible refine (Out_any _ hC).mono ?_); rintro r w19 ⟨v19, rfl, hr19, -, hG⟩; obtain ⟨F19, hC, hb, hz⟩ := goes_on hC hb hB hz hG; replace hr19 : w19.ownsRow n.B 5 1 v19 0 [] := hr19; obtain ⟨a19, c19, rfl⟩ := own_form hr19))
    | (go_at_call 26; go_must ((with_reducible refine (getS 11 _).mono ?_); rintro r wa ⟨rfl, hba⟩; have hbA := (Below.refl wa.heap.size wa).alloc (Nat.le_refl _) (.cells #[.int .i64 1, .int .i64 5, .int .i64 11, S dS, .int .i64 0, .slice none 0 0, .int .i64 0, .int .i64 0, .int .i64 0, .int .i64 0, .int .i64 0, .bool false] 34); obtain ⟨hC, hb, hz⟩ := cw_on hC hb hz (hba.trans (hbA.mono hba.size)); have hBy := fun (w1 : World) (hg : Blk w1 wa.heap.size 34 #[.int .i64 1, .int .i64 5, .int .i64 11, S dS, .int .i64 0, .slice none 0 0, .int .i64 0, .int .i64 0, .int .i64 0, .int .i64 0, .int .i64 0, .bool false]) => bytesS 11 (by decide) w1 hg))
    | (go_at_call 25; go_must ((with_reducible refine (hBy _ (Blk.new _ _ _)).mono ?_); rintro r wb ⟨vb, rfl, hrb, hbb⟩; obtain ⟨hC, hb, hz⟩ := cw_on hC hb hz hbb; have hTk := Take_over wb hC rfl vb))
    | (go_at_call 23; go_must ((with_reducible refine hTk.mono ?_); rintro r wc ⟨rfl, ec⟩; have ed := ec.symm; subst ed))
  go_ret
  exact ⟨rfl, hb⟩


theorem drains22_any (s : Int) (h0 : 0 ≤ s) (late : Bool) (w : World) : Calls Tryz.prog 6 #[.int .u8 s, .bool late] w fun e w' => e = .returned (.bool true) ∧ Below w.heap.size w w' := by
  have ht : s.tmod 4 = s % 4 := Int.tmod_eq_emod_of_nonneg h0
  rcases (show s % 4 = 0 ∨ s % 4 = 1 ∨ s % 4 = 2 ∨ s % 4 = 3 by omega) with h | h | h | h <;> cases late
  · exact drains22_0f s (ht.trans h) h w
  · exact drains22_0t s (ht.trans h) h w
  · exact drains22_1f s (ht.trans h) h w
  · exact drains22_1t s (ht.trans h) h w
  · exact drains22_2f s (ht.trans h) h w
  · exact drains22_2t s (ht.trans h) h w
  · exact drains22_3f s (ht.trans h) h w
  · exact drains22_3t s (ht.trans h) h w

end Go.Proofs.YtlkfmhbmcicmfaaGreatDoor

