/- Parts of the proof of DealLacks_holds: the texts Dat5. -/
import Derived.Test.YtahapblgmehngaaGreatDoorC6
import Derived.Test.YtahapblgmehngaaGreatDoorC2
set_option linter.unusedSimpArgs false
set_option linter.unusedVariables false
set_option linter.unnecessarySimpa false
namespace Go.Proofs.YtahapblgmehngaaGreatDoor
open Go.RowKit Go.Dr

theorem namV_lt (p : Pt) (tab : List Bytes) (h : 0 < tab.length) : p.namV tab < tab.length := by
  unfold Pt.namV nameOk
  split
  · rename_i h; simp only [Bool.and_eq_true, decide_eq_true_iff] at h; exact h.2
  · exact h
theorem digV_lt (p : Pt) (n : Nat) : p.digV n < 10 ^ n := by
  unfold Pt.digV
  split
  · rename_i h
    simp only [digOk, Bool.and_eq_true, decide_eq_true_iff] at h
    have := decN_lt _ h.2
    rwa [List.length_take, Nat.min_eq_left h.1] at this
  · exact Nat.pow_pos (by decide)
theorem long_len (d : Nat) (h : d < 7) : 3 ≤ (longF d).length := by
  match d, h with
  | 0, _ | 1, _ | 2, _ | 3, _ | 4, _ | 5, _ | 6, _ => decide
theorem long_short (d : Nat) : (longF d).length ≤ 9 := by
  by_cases h : d < 7
  · match d, h with
    | 0, _ | 1, _ | 2, _ | 3, _ | 4, _ | 5, _ | 6, _ => decide
  · unfold longF longTab; rw [List.getD_eq_getElem?_getD, List.getElem?_eq_none (by simp; omega)]; decide
theorem Pt.Sm.oldWeek {p : Pt} (h : Pt.Sm p) : Pt.Sm p.oldWeek := by
  unfold Pt.oldWeek; split
  · exact h
  · exact h.word _
theorem Pt.Sm.oldYear {p : Pt} (h : Pt.Sm p) (y : Nat) : Pt.Sm (p.oldYear y) := by
  show (p.dig 2).left.length ≤ 1099511627776
  exact h.dig 2
theorem Pt.Sm.bareDay {p : Pt} (h : Pt.Sm p) : Pt.Sm p.bareDay := by
  unfold Pt.bareDay; split
  · exact (h.word _).aDay 1
  · show (p.dig 2).left.length ≤ 1099511627776
    exact h.dig 2
theorem oldWeek_bad {p : Pt} (h : p.bad = true) : p.oldWeek = p := by unfold Pt.oldWeek; rw [if_pos h]
theorem oldWeek_good {p : Pt} (h : p.bad = false) : p.oldWeek = p.word ((longF p.week).drop 3) := by unfold Pt.oldWeek; rw [if_neg (by simp [h])]

set_option maxRecDepth 100000 in
set_option maxHeartbeats 2000000 in
theorem old_any (p : Pt) (y : Nat) (b : Nat) (w : World) (h : PtAt w b p) (hs : Pt.Sm p) (hy : 1970 ≤ y) (hy2 : y ≤ 20000) : Calls Tryz.prog 179 #[.pointer (some ⟨b, 0, none⟩), .int .i64 y] w fun e w' => e = .returned (.tuple #[]) ∧ PtAt w' b (p.old y) ∧ Below b w w' := by
  go_enter Tryz.func179, Tryz.ntmps179
  go_wp2_with fail
  refine (nameDay_at (p) b _ h hs).mono ?_
  rintro e w1 ⟨rfl, h1, b1⟩
  have f1 : w1.frozen? ⟨b, 1, none⟩ = false := Blk.free h1 1
  have k1 : w1.cell? ⟨b, 1, none⟩ = some (.int .i64 (((Pt.nam (p) dayTab).week) : Nat)) := h1.cell 1
  have s1 : Pt.Sm (Pt.aWeek (p)) := Pt.Sm.aWeek hs 
  have hW : PtAt (w1.setCell ⟨b, 1, none⟩ (.int .i64 (p.namV dayTab : Nat))) b p.aWeek := h1.set (q := p.aWeek) (by simp [Pt.cells, Pt.aWeek, Pt.aMonth, Pt.aDay, Pt.aYear, Pt.aHour, Pt.aMin, Pt.aSec])
  have hv := namV_lt p dayTab (by decide)
  have hv7 : p.namV dayTab < 7 := hv
  have h3 := long_len _ hv7
  have hl9 := long_short (p.namV dayTab)
  clear hv
  rcases (by cases (p.nam dayTab).bad <;> simp : (p.nam dayTab).bad = true ∨ (p.nam dayTab).bad = false) with hbad | hbad
  · have hbA : p.aWeek.bad = true := hbad
    have k8 : w1.cell? ⟨b, 8, none⟩ = some (.bool true) := by have := h1.cell 8; rw [show (Pt.cells (p.nam dayTab))[8]? = some (.bool (p.nam dayTab).bad) from rfl, hbad] at this; exact this
    have sW := Pt.Sm.oldWeek s1
    go_wp2_with fail
    refine (word_any (p.aWeek.oldWeek) [44, 32] b _ (show PtAt _ b p.aWeek.oldWeek by rw [oldWeek_bad hbA]; exact hW)).mono ?_
    rintro e w2 ⟨rfl, h2, b2⟩
    have s2 : Pt.Sm (Pt.word (p.aWeek.oldWeek) [44, 32]) := Pt.Sm.word sW [44, 32]
    go_wp2_with fail
    refine (digits_any (Pt.word (p.aWeek.oldWeek) [44, 32]) 2 b _ h2 (by decide) s2).mono ?_
    rintro e w3 ⟨rfl, h3, b3⟩
    have f3 : w3.frozen? ⟨b, 4, none⟩ = false := Blk.free h3 4
    have k3 : w3.cell? ⟨b, 4, none⟩ = some (.int .i64 (((Pt.dig (Pt.word (p.aWeek.oldWeek) [44, 32]) 2).day) : Nat)) := h3.cell 4
    have s3 : Pt.Sm (Pt.aDay (Pt.word (p.aWeek.oldWeek) [44, 32]) 2) := Pt.Sm.aDay s2  2
    go_wp2_with fail
    refine (word_any (Pt.aDay (Pt.word (p.aWeek.oldWeek) [44, 32]) 2) [45] b _ (h3.set (q := Pt.aDay (Pt.word (p.aWeek.oldWeek) [44, 32]) 2) (by simp [Pt.cells, Pt.aWeek, Pt.aMonth, Pt.aDay, Pt.aYear, Pt.aHour, Pt.aMin, Pt.aSec]))).mono ?_
    rintro e w4 ⟨rfl, h4, b4⟩
    have s4 : Pt.Sm (Pt.word (Pt.aDay (Pt.word (p.aWeek.oldWeek) [44, 32]) 2) [45]) := Pt.Sm.word s3 [45]
    go_wp2_with fail
    refine (nameMon_at (Pt.word (Pt.aDay (Pt.word (p.aWeek.oldWeek) [44, 32]) 2) [45]) b _ h4 s4).mono ?_
    rintro e w5 ⟨rfl, h5, b5⟩
    have f5 : w5.frozen? ⟨b, 3, none⟩ = false := Blk.free h5 3
    have k5 : w5.cell? ⟨b, 3, none⟩ = some (.int .i64 (((Pt.nam (Pt.word (Pt.aDay (Pt.word (p.aWeek.oldWeek) [44, 32]) 2) [45]) monTab).month) : Nat)) := h5.cell 3
    have s5 : Pt.Sm (Pt.aMonth (Pt.word (Pt.aDay (Pt.word (p.aWeek.oldWeek) [44, 32]) 2) [45])) := Pt.Sm.aMonth s4 
    go_wp2_with fail
    refine (word_any (Pt.aMonth (Pt.word (Pt.aDay (Pt.word (p.aWeek.oldWeek) [44, 32]) 2) [45])) [45] b _ (h5.set (q := Pt.aMonth (Pt.word (Pt.aDay (Pt.word (p.aWeek.oldWeek) [44, 32]) 2) [45])) (by simp [Pt.cells, Pt.aWeek, Pt.aMonth, Pt.aDay, Pt.aYear, Pt.aHour, Pt.aMin, Pt.aSec]))).mono ?_
    rintro e w6 ⟨rfl, h6, b6⟩
    have s6 : Pt.Sm (Pt.word (Pt.aMonth (Pt.word (Pt.aDay (Pt.word (p.aWeek.oldWeek) [44, 32]) 2) [45])) [45]) := Pt.Sm.word s5 [45]
    go_wp2_with fail
    refine (digits_any (Pt.word (Pt.aMonth (Pt.word (Pt.aDay (Pt.word (p.aWeek.oldWeek) [44, 32]) 2) [45])) [45]) 2 b _ h6 (by decide) s6).mono ?_
    rintro e w7 ⟨rfl, h7, b7⟩
    have f7 : w7.frozen? ⟨b, 2, none⟩ = false := Blk.free h7 2
    have k7 : w7.cell? ⟨b, 2, none⟩ = some (.int .i64 ((Pt.dig (Pt.word (Pt.aMonth (Pt.word (Pt.aDay (Pt.word (p.aWeek.oldWeek) [44, 32]) 2) [45])) [45]) 2).year : Nat)) := h7.cell 2
    have sY := Pt.Sm.oldYear s6 y
    have hd := digV_lt (Pt.word (Pt.aMonth (Pt.word (Pt.aDay (Pt.word (p.aWeek.oldWeek) [44, 32]) 2) [45])) [45]) 2
    have HQ : Hid (Pt.oldYear (Pt.word (Pt.aMonth (Pt.word (Pt.aDay (Pt.word (p.aWeek.oldWeek) [44, 32]) 2) [45])) [45]) y = { Pt.dig (Pt.word (Pt.aMonth (Pt.word (Pt.aDay (Pt.word (p.aWeek.oldWeek) [44, 32]) 2) [45])) [45]) 2 with year := if y + 50 < y - y % 100 + Pt.digV (Pt.word (Pt.aMonth (Pt.word (Pt.aDay (Pt.word (p.aWeek.oldWeek) [44, 32]) 2) [45])) [45]) 2 then y - y % 100 + Pt.digV (Pt.word (Pt.aMonth (Pt.word (Pt.aDay (Pt.word (p.aWeek.oldWeek) [44, 32]) 2) [45])) [45]) 2 - 100 else y - y % 100 + Pt.digV (Pt.word (Pt.aMonth (Pt.word (Pt.aDay (Pt.word (p.aWeek.oldWeek) [44, 32]) 2) [45])) [45]) 2 }) := Lib.hid rfl
    generalize hdv : Pt.digV (Pt.word (Pt.aMonth (Pt.word (Pt.aDay (Pt.word (p.aWeek.oldWeek) [44, 32]) 2) [45])) [45]) 2 = d at *
    by_cases hc : y + 50 < y - y % 100 + d
    · have g : decide ((y : Int) + 50 < (y : Int) - (y : Int) % 100 + (d : Int)) = true := by simp; omega
      have HC := Lib.hid hc
      clear hc
      go_wp2_with fail
      refine (word_any (Pt.oldYear (Pt.word (Pt.aMonth (Pt.word (Pt.aDay (Pt.word (p.aWeek.oldWeek) [44, 32]) 2) [45])) [45]) y) [32] b _ (show PtAt _ b (Pt.oldYear (Pt.word (Pt.aMonth (Pt.word (Pt.aDay (Pt.word (p.aWeek.oldWeek) [44, 32]) 2) [45])) [45]) y) by rw [HQ.out, if_pos HC.out]; exact (h7.set (q := { Pt.dig (Pt.word (Pt.aMonth (Pt.word (Pt.aDay (Pt.word (p.aWeek.oldWeek) [44, 32]) 2) [45])) [45]) 2 with year := y - y % 100 + d }) (by simp [Pt.cells]; omega)).set (by simp [Pt.cells]; omega))).mono ?_
      rintro e w8 ⟨rfl, h8, b8⟩
      have s8 : Pt.Sm (Pt.word (Pt.oldYear (Pt.word (Pt.aMonth (Pt.word (Pt.aDay (Pt.word (p.aWeek.oldWeek) [44, 32]) 2) [45])) [45]) y) [32]) := Pt.Sm.word sY [32]
      go_wp2_with fail
      refine (clock_any (Pt.word (Pt.oldYear (Pt.word (Pt.aMonth (Pt.word (Pt.aDay (Pt.word (p.aWeek.oldWeek) [44, 32]) 2) [45])) [45]) y) [32]) b _ h8 s8).mono ?_
      rintro e w9 ⟨rfl, h9, b9⟩
      have s9 : Pt.Sm (Pt.clock (Pt.word (Pt.oldYear (Pt.word (Pt.aMonth (Pt.word (Pt.aDay (Pt.word (p.aWeek.oldWeek) [44, 32]) 2) [45])) [45]) y) [32])) := Pt.Sm.clock s8 
      go_wp2_with fail
      refine (word_any (Pt.clock (Pt.word (Pt.oldYear (Pt.word (Pt.aMonth (Pt.word (Pt.aDay (Pt.word (p.aWeek.oldWeek) [44, 32]) 2) [45])) [45]) y) [32])) [32, 71, 77, 84] b _ h9).mono ?_
      rintro e w10 ⟨rfl, h10, b10⟩
      have s10 : Pt.Sm (Pt.word (Pt.clock (Pt.word (Pt.oldYear (Pt.word (Pt.aMonth (Pt.word (Pt.aDay (Pt.word (p.aWeek.oldWeek) [44, 32]) 2) [45])) [45]) y) [32])) [32, 71, 77, 84]) := Pt.Sm.word s9 [32, 71, 77, 84]
      go_wp2
      go_end0
      exact ⟨rfl, h10, ((((((((((((((b1.setCell (Nat.le_refl _) _).trans b2).trans b3).setCell (Nat.le_refl _) _).trans b4).trans b5).setCell (Nat.le_refl _) _).trans b6).trans b7).setCell (Nat.le_refl _) _).setCell (Nat.le_refl _) _).trans b8).trans b9).trans b10)⟩
    · have g : decide ((y : Int) + 50 < (y : Int) - (y : Int) % 100 + (d : Int)) = false := by simp; omega
      have HC := Lib.hid hc
      clear hc
      go_wp2_with fail
      refine (word_any (Pt.oldYear (Pt.word (Pt.aMonth (Pt.word (Pt.aDay (Pt.word (p.aWeek.oldWeek) [44, 32]) 2) [45])) [45]) y) [32] b _ (show PtAt _ b (Pt.oldYear (Pt.word (Pt.aMonth (Pt.word (Pt.aDay (Pt.word (p.aWeek.oldWeek) [44, 32]) 2) [45])) [45]) y) by rw [HQ.out, if_neg HC.out]; exact h7.set (by simp [Pt.cells]; omega))).mono ?_
      rintro e w8 ⟨rfl, h8, b8⟩
      have s8 : Pt.Sm (Pt.word (Pt.oldYear (Pt.word (Pt.aMonth (Pt.word (Pt.aDay (Pt.word (p.aWeek.oldWeek) [44, 32]) 2) [45])) [45]) y) [32]) := Pt.Sm.word sY [32]
      go_wp2_with fail
      refine (clock_any (Pt.word (Pt.oldYear (Pt.word (Pt.aMonth (Pt.word (Pt.aDay (Pt.word (p.aWeek.oldWeek) [44, 32]) 2) [45])) [45]) y) [32]) b _ h8 s8).mono ?_
      rintro e w9 ⟨rfl, h9, b9⟩
      have s9 : Pt.Sm (Pt.clock (Pt.word (Pt.oldYear (Pt.word (Pt.aMonth (Pt.word (Pt.aDay (Pt.word (p.aWeek.oldWeek) [44, 32]) 2) [45])) [45]) y) [32])) := Pt.Sm.clock s8 
      go_wp2_with fail
      refine (word_any (Pt.clock (Pt.word (Pt.oldYear (Pt.word (Pt.aMonth (Pt.word (Pt.aDay (Pt.word (p.aWeek.oldWeek) [44, 32]) 2) [45])) [45]) y) [32])) [32, 71, 77, 84] b _ h9).mono ?_
      rintro e w10 ⟨rfl, h10, b10⟩
      have s10 : Pt.Sm (Pt.word (Pt.clock (Pt.word (Pt.oldYear (Pt.word (Pt.aMonth (Pt.word (Pt.aDay (Pt.word (p.aWeek.oldWeek) [44, 32]) 2) [45])) [45]) y) [32])) [32, 71, 77, 84]) := Pt.Sm.word s9 [32, 71, 77, 84]
      go_wp2
      go_end0
      exact ⟨rfl, h10, (((((((((((((b1.setCell (Nat.le_refl _) _).trans b2).trans b3).setCell (Nat.le_refl _) _).trans b4).trans b5).setCell (Nat.le_refl _) _).trans b6).trans b7).setCell (Nat.le_refl _) _).trans b8).trans b9).trans b10)⟩
  · have hbA : p.aWeek.bad = false := hbad
    have k8 : w1.cell? ⟨b, 8, none⟩ = some (.bool false) := by have := h1.cell 8; rw [show (Pt.cells (p.nam dayTab))[8]? = some (.bool (p.nam dayTab).bad) from rfl, hbad] at this; exact this
    go_wp2_with fail
    refine (long_any (p.namV dayTab) _ hv7).mono ?_
    rintro e w0 ⟨rfl, rfl⟩
    go_wp2_with fail
    refine (word_any p.aWeek ((longF (p.namV dayTab)).drop 3) b _ hW).mono ?_
    rintro e w2 ⟨rfl, h2, b2⟩
    have sW := Pt.Sm.oldWeek s1
    go_wp2_with fail
    refine (word_any (p.aWeek.oldWeek) [44, 32] b _ (show PtAt w2 b p.aWeek.oldWeek by rw [oldWeek_good hbA]; exact h2)).mono ?_
    rintro e w3 ⟨rfl, h3, b3⟩
    have s3 : Pt.Sm (Pt.word (p.aWeek.oldWeek) [44, 32]) := Pt.Sm.word sW [44, 32]
    go_wp2_with fail
    refine (digits_any (Pt.word (p.aWeek.oldWeek) [44, 32]) 2 b _ h3 (by decide) s3).mono ?_
    rintro e w4 ⟨rfl, h4, b4⟩
    have f4 : w4.frozen? ⟨b, 4, none⟩ = false := Blk.free h4 4
    have k4 : w4.cell? ⟨b, 4, none⟩ = some (.int .i64 (((Pt.dig (Pt.word (p.aWeek.oldWeek) [44, 32]) 2).day) : Nat)) := h4.cell 4
    have s4 : Pt.Sm (Pt.aDay (Pt.word (p.aWeek.oldWeek) [44, 32]) 2) := Pt.Sm.aDay s3  2
    go_wp2_with fail
    refine (word_any (Pt.aDay (Pt.word (p.aWeek.oldWeek) [44, 32]) 2) [45] b _ (h4.set (q := Pt.aDay (Pt.word (p.aWeek.oldWeek) [44, 32]) 2) (by simp [Pt.cells, Pt.aWeek, Pt.aMonth, Pt.aDay, Pt.aYear, Pt.aHour, Pt.aMin, Pt.aSec]))).mono ?_
    rintro e w5 ⟨rfl, h5, b5⟩
    have s5 : Pt.Sm (Pt.word (Pt.aDay (Pt.word (p.aWeek.oldWeek) [44, 32]) 2) [45]) := Pt.Sm.word s4 [45]
    go_wp2_with fail
    refine (nameMon_at (Pt.word (Pt.aDay (Pt.word (p.aWeek.oldWeek) [44, 32]) 2) [45]) b _ h5 s5).mono ?_
    rintro e w6 ⟨rfl, h6, b6⟩
    have f6 : w6.frozen? ⟨b, 3, none⟩ = false := Blk.free h6 3
    have k6 : w6.cell? ⟨b, 3, none⟩ = some (.int .i64 (((Pt.nam (Pt.word (Pt.aDay (Pt.word (p.aWeek.oldWeek) [44, 32]) 2) [45]) monTab).month) : Nat)) := h6.cell 3
    have s6 : Pt.Sm (Pt.aMonth (Pt.word (Pt.aDay (Pt.word (p.aWeek.oldWeek) [44, 32]) 2) [45])) := Pt.Sm.aMonth s5 
    go_wp2_with fail
    refine (word_any (Pt.aMonth (Pt.word (Pt.aDay (Pt.word (p.aWeek.oldWeek) [44, 32]) 2) [45])) [45] b _ (h6.set (q := Pt.aMonth (Pt.word (Pt.aDay (Pt.word (p.aWeek.oldWeek) [44, 32]) 2) [45])) (by simp [Pt.cells, Pt.aWeek, Pt.aMonth, Pt.aDay, Pt.aYear, Pt.aHour, Pt.aMin, Pt.aSec]))).mono ?_
    rintro e w7 ⟨rfl, h7, b7⟩
    have s7 : Pt.Sm (Pt.word (Pt.aMonth (Pt.word (Pt.aDay (Pt.word (p.aWeek.oldWeek) [44, 32]) 2) [45])) [45]) := Pt.Sm.word s6 [45]
    go_wp2_with fail
    refine (digits_any (Pt.word (Pt.aMonth (Pt.word (Pt.aDay (Pt.word (p.aWeek.oldWeek) [44, 32]) 2) [45])) [45]) 2 b _ h7 (by decide) s7).mono ?_
    rintro e w8 ⟨rfl, h8, b8⟩
    have f8 : w8.frozen? ⟨b, 2, none⟩ = false := Blk.free h8 2
    have k8 : w8.cell? ⟨b, 2, none⟩ = some (.int .i64 ((Pt.dig (Pt.word (Pt.aMonth (Pt.word (Pt.aDay (Pt.word (p.aWeek.oldWeek) [44, 32]) 2) [45])) [45]) 2).year : Nat)) := h8.cell 2
    have sY := Pt.Sm.oldYear s7 y
    have hd := digV_lt (Pt.word (Pt.aMonth (Pt.word (Pt.aDay (Pt.word (p.aWeek.oldWeek) [44, 32]) 2) [45])) [45]) 2
    have HQ : Hid (Pt.oldYear (Pt.word (Pt.aMonth (Pt.word (Pt.aDay (Pt.word (p.aWeek.oldWeek) [44, 32]) 2) [45])) [45]) y = { Pt.dig (Pt.word (Pt.aMonth (Pt.word (Pt.aDay (Pt.word (p.aWeek.oldWeek) [44, 32]) 2) [45])) [45]) 2 with year := if y + 50 < y - y % 100 + Pt.digV (Pt.word (Pt.aMonth (Pt.word (Pt.aDay (Pt.word (p.aWeek.oldWeek) [44, 32]) 2) [45])) [45]) 2 then y - y % 100 + Pt.digV (Pt.word (Pt.aMonth (Pt.word (Pt.aDay (Pt.word (p.aWeek.oldWeek) [44, 32]) 2) [45])) [45]) 2 - 100 else y - y % 100 + Pt.digV (Pt.word (Pt.aMonth (Pt.word (Pt.aDay (Pt.word (p.aWeek.oldWeek) [44, 32]) 2) [45])) [45]) 2 }) := Lib.hid rfl
    generalize hdv : Pt.digV (Pt.word (Pt.aMonth (Pt.word (Pt.aDay (Pt.word (p.aWeek.oldWeek) [44, 32]) 2) [45])) [45]) 2 = d at *
    by_cases hc : y + 50 < y - y % 100 + d
    · have g : decide ((y : Int) + 50 < (y : Int) - (y : Int) % 100 + (d : Int)) = true := by simp; omega
      have HC := Lib.hid hc
      clear hc
      go_wp2_with fail
      refine (word_any (Pt.oldYear (Pt.word (Pt.aMonth (Pt.word (Pt.aDay (Pt.word (p.aWeek.oldWeek) [44, 32]) 2) [45])) [45]) y) [32] b _ (show PtAt _ b (Pt.oldYear (Pt.word (Pt.aMonth (Pt.word (Pt.aDay (Pt.word (p.aWeek.oldWeek) [44, 32]) 2) [45])) [45]) y) by rw [HQ.out, if_pos HC.out]; exact (h8.set (q := { Pt.dig (Pt.word (Pt.aMonth (Pt.word (Pt.aDay (Pt.word (p.aWeek.oldWeek) [44, 32]) 2) [45])) [45]) 2 with year := y - y % 100 + d }) (by simp [Pt.cells]; omega)).set (by simp [Pt.cells]; omega))).mono ?_
      rintro e w9 ⟨rfl, h9, b9⟩
      have s9 : Pt.Sm (Pt.word (Pt.oldYear (Pt.word (Pt.aMonth (Pt.word (Pt.aDay (Pt.word (p.aWeek.oldWeek) [44, 32]) 2) [45])) [45]) y) [32]) := Pt.Sm.word sY [32]
      go_wp2_with fail
      refine (clock_any (Pt.word (Pt.oldYear (Pt.word (Pt.aMonth (Pt.word (Pt.aDay (Pt.word (p.aWeek.oldWeek) [44, 32]) 2) [45])) [45]) y) [32]) b _ h9 s9).mono ?_
      rintro e w10 ⟨rfl, h10, b10⟩
      have s10 : Pt.Sm (Pt.clock (Pt.word (Pt.oldYear (Pt.word (Pt.aMonth (Pt.word (Pt.aDay (Pt.word (p.aWeek.oldWeek) [44, 32]) 2) [45])) [45]) y) [32])) := Pt.Sm.clock s9 
      go_wp2_with fail
      refine (word_any (Pt.clock (Pt.word (Pt.oldYear (Pt.word (Pt.aMonth (Pt.word (Pt.aDay (Pt.word (p.aWeek.oldWeek) [44, 32]) 2) [45])) [45]) y) [32])) [32, 71, 77, 84] b _ h10).mono ?_
      rintro e w11 ⟨rfl, h11, b11⟩
      have s11 : Pt.Sm (Pt.word (Pt.clock (Pt.word (Pt.oldYear (Pt.word (Pt.aMonth (Pt.word (Pt.aDay (Pt.word (p.aWeek.oldWeek) [44, 32]) 2) [45])) [45]) y) [32])) [32, 71, 77, 84]) := Pt.Sm.word s10 [32, 71, 77, 84]
      go_wp2
      go_end0
      exact ⟨rfl, h11, (((((((((((((((b1.setCell (Nat.le_refl _) _).trans b2).trans b3).trans b4).setCell (Nat.le_refl _) _).trans b5).trans b6).setCell (Nat.le_refl _) _).trans b7).trans b8).setCell (Nat.le_refl _) _).setCell (Nat.le_refl _) _).trans b9).trans b10).trans b11)⟩
    · have g : decide ((y : Int) + 50 < (y : Int) - (y : Int) % 100 + (d : Int)) = false := by simp; omega
      have HC := Lib.hid hc
      clear hc
      go_wp2_with fail
      refine (word_any (Pt.oldYear (Pt.word (Pt.aMonth (Pt.word (Pt.aDay (Pt.word (p.aWeek.oldWeek) [44, 32]) 2) [45])) [45]) y) [32] b _ (show PtAt _ b (Pt.oldYear (Pt.word (Pt.aMonth (Pt.word (Pt.aDay (Pt.word (p.aWeek.oldWeek) [44, 32]) 2) [45])) [45]) y) by rw [HQ.out, if_neg HC.out]; exact h8.set (by simp [Pt.cells]; omega))).mono ?_
      rintro e w9 ⟨rfl, h9, b9⟩
      have s9 : Pt.Sm (Pt.word (Pt.oldYear (Pt.word (Pt.aMonth (Pt.word (Pt.aDay (Pt.word (p.aWeek.oldWeek) [44, 32]) 2) [45])) [45]) y) [32]) := Pt.Sm.word sY [32]
      go_wp2_with fail
      refine (clock_any (Pt.word (Pt.oldYear (Pt.word (Pt.aMonth (Pt.word (Pt.aDay (Pt.word (p.aWeek.oldWeek) [44, 32]) 2) [45])) [45]) y) [32]) b _ h9 s9).mono ?_
      rintro e w10 ⟨rfl, h10, b10⟩
      have s10 : Pt.Sm (Pt.clock (Pt.word (Pt.oldYear (Pt.word (Pt.aMonth (Pt.word (Pt.aDay (Pt.word (p.aWeek.oldWeek) [44, 32]) 2) [45])) [45]) y) [32])) := Pt.Sm.clock s9 
      go_wp2_with fail
      refine (word_any (Pt.clock (Pt.word (Pt.oldYear (Pt.word (Pt.aMonth (Pt.word (Pt.aDay (Pt.word (p.aWeek.oldWeek) [44, 32]) 2) [45])) [45]) y) [32])) [32, 71, 77, 84] b _ h10).mono ?_
      rintro e w11 ⟨rfl, h11, b11⟩
      have s11 : Pt.Sm (Pt.word (Pt.clock (Pt.word (Pt.oldYear (Pt.word (Pt.aMonth (Pt.word (Pt.aDay (Pt.word (p.aWeek.oldWeek) [44, 32]) 2) [45])) [45]) y) [32])) [32, 71, 77, 84]) := Pt.Sm.word s10 [32, 71, 77, 84]
      go_wp2
      go_end0
      exact ⟨rfl, h11, ((((((((((((((b1.setCell (Nat.le_refl _) _).trans b2).trans b3).trans b4).setCell (Nat.le_refl _) _).trans b5).trans b6).setCell (Nat.le_refl _) _).trans b7).trans b8).setCell (Nat.le_refl _) _).trans b9).trans b10).trans b11)⟩

end Go.Proofs.YtahapblgmehngaaGreatDoor
namespace Go.Proofs.YtahapblgmehngaaGreatDoor
open Go.RowKit Go.Dr

theorem HasPre_at (s p : Bytes) (w : World) : Calls Tryz.prog 142 #[S s, S p] w fun e w' => e = .returned (.bool (Lib.hasPrefix s p)) ∧ w = w' :=
  (Tryz.strings_HasPrefix ⟨s.toArray⟩ ⟨p.toArray⟩ w).mono fun _ _ ⟨h1, h2⟩ => ⟨h1, h2.symm⟩
theorem bareDay_sp {p : Pt} (h : Lib.hasPrefix p.left [32] = true) : p.bareDay = (p.word [32]).aDay 1 := by unfold Pt.bareDay; rw [if_pos h]
theorem bareDay_no {p : Pt} (h : Lib.hasPrefix p.left [32] = false) : p.bareDay = { p.aDay 2 with bad := (p.aDay 2).bad || decide ((p.aDay 2).day < 10) } := by unfold Pt.bareDay; rw [if_neg (by simp [h])]

set_option maxRecDepth 100000 in
set_option maxHeartbeats 2000000 in
theorem bare_any (p : Pt) (now : Int) (b : Nat) (w : World) (h : PtAt w b p) (hs : Pt.Sm p) : Calls Tryz.prog 180 #[.pointer (some ⟨b, 0, none⟩), .int .i64 now] w fun e w' => e = .returned (.tuple #[]) ∧ PtAt w' b p.bare ∧ Below b w w' := by
  go_enter Tryz.func180, Tryz.ntmps180
  go_wp2_with fail
  refine (nameDay_at (p) b _ h hs).mono ?_
  rintro e w1 ⟨rfl, h1, b1⟩
  have f1 : w1.frozen? ⟨b, 1, none⟩ = false := Blk.free h1 1
  have k1 : w1.cell? ⟨b, 1, none⟩ = some (.int .i64 (((Pt.nam (p) dayTab).week) : Nat)) := h1.cell 1
  have s1 : Pt.Sm (Pt.aWeek (p)) := Pt.Sm.aWeek hs 
  go_wp2_with fail
  refine (word_any (Pt.aWeek (p)) [32] b _ (h1.set (q := Pt.aWeek (p)) (by simp [Pt.cells, Pt.aWeek, Pt.aMonth, Pt.aDay, Pt.aYear, Pt.aHour, Pt.aMin, Pt.aSec]))).mono ?_
  rintro e w2 ⟨rfl, h2, b2⟩
  have s2 : Pt.Sm (Pt.word (Pt.aWeek (p)) [32]) := Pt.Sm.word s1 [32]
  go_wp2_with fail
  refine (nameMon_at (Pt.word (Pt.aWeek (p)) [32]) b _ h2 s2).mono ?_
  rintro e w3 ⟨rfl, h3, b3⟩
  have f3 : w3.frozen? ⟨b, 3, none⟩ = false := Blk.free h3 3
  have k3 : w3.cell? ⟨b, 3, none⟩ = some (.int .i64 (((Pt.nam (Pt.word (Pt.aWeek (p)) [32]) monTab).month) : Nat)) := h3.cell 3
  have s3 : Pt.Sm (Pt.aMonth (Pt.word (Pt.aWeek (p)) [32])) := Pt.Sm.aMonth s2 
  go_wp2_with fail
  refine (word_any (Pt.aMonth (Pt.word (Pt.aWeek (p)) [32])) [32] b _ (h3.set (q := Pt.aMonth (Pt.word (Pt.aWeek (p)) [32])) (by simp [Pt.cells, Pt.aWeek, Pt.aMonth, Pt.aDay, Pt.aYear, Pt.aHour, Pt.aMin, Pt.aSec]))).mono ?_
  rintro e w4 ⟨rfl, h4, b4⟩
  have s4 : Pt.Sm (Pt.word (Pt.aMonth (Pt.word (Pt.aWeek (p)) [32])) [32]) := Pt.Sm.word s3 [32]
  have k0 : w4.cell? ⟨b, 0, none⟩ = some (S (Pt.word (Pt.aMonth (Pt.word (Pt.aWeek (p)) [32])) [32]).left) := h4.cell 0
  rcases (by cases Lib.hasPrefix (Pt.word (Pt.aMonth (Pt.word (Pt.aWeek (p)) [32])) [32]).left [32] <;> simp : Lib.hasPrefix (Pt.word (Pt.aMonth (Pt.word (Pt.aWeek (p)) [32])) [32]).left [32] = true ∨ Lib.hasPrefix (Pt.word (Pt.aMonth (Pt.word (Pt.aWeek (p)) [32])) [32]).left [32] = false) with hp | hp
  · have C : Hid (∀ w : World, Calls Tryz.prog 142 #[S (Pt.word (Pt.aMonth (Pt.word (Pt.aWeek (p)) [32])) [32]).left, S [32]] w fun e w' => e = .returned (.bool true) ∧ w = w') := Lib.hid (by rw [← hp]; exact HasPre_at (Pt.word (Pt.aMonth (Pt.word (Pt.aWeek (p)) [32])) [32]).left [32])
    go_wp2_with fail
    refine (C.out _).mono ?_
    rintro e w0 ⟨rfl, rfl⟩
    go_wp2_with fail
    refine (word_any (Pt.word (Pt.aMonth (Pt.word (Pt.aWeek (p)) [32])) [32]) [32] b _ h4).mono ?_
    rintro e w5 ⟨rfl, h5, b5⟩
    have s5 : Pt.Sm (Pt.word (Pt.word (Pt.aMonth (Pt.word (Pt.aWeek (p)) [32])) [32]) [32]) := Pt.Sm.word s4 [32]
    go_wp2_with fail
    refine (digits_any (Pt.word (Pt.word (Pt.aMonth (Pt.word (Pt.aWeek (p)) [32])) [32]) [32]) 1 b _ h5 (by decide) s5).mono ?_
    rintro e w6 ⟨rfl, h6, b6⟩
    have f6 : w6.frozen? ⟨b, 4, none⟩ = false := Blk.free h6 4
    have k6 : w6.cell? ⟨b, 4, none⟩ = some (.int .i64 (((Pt.dig (Pt.word (Pt.word (Pt.aMonth (Pt.word (Pt.aWeek (p)) [32])) [32]) [32]) 1).day) : Nat)) := h6.cell 4
    have s6 : Pt.Sm (Pt.aDay (Pt.word (Pt.word (Pt.aMonth (Pt.word (Pt.aWeek (p)) [32])) [32]) [32]) 1) := Pt.Sm.aDay s5  1
    have sB := Pt.Sm.bareDay s4
    go_wp2_with fail
    refine (word_any (Pt.bareDay (Pt.word (Pt.aMonth (Pt.word (Pt.aWeek (p)) [32])) [32])) [32] b _ (show PtAt _ b (Pt.bareDay (Pt.word (Pt.aMonth (Pt.word (Pt.aWeek (p)) [32])) [32])) by rw [bareDay_sp hp]; exact (h6.set (q := Pt.aDay (Pt.word (Pt.word (Pt.aMonth (Pt.word (Pt.aWeek (p)) [32])) [32]) [32]) 1) (by simp [Pt.cells, Pt.aWeek, Pt.aMonth, Pt.aDay, Pt.aYear, Pt.aHour, Pt.aMin, Pt.aSec])))).mono ?_
    rintro e w7 ⟨rfl, h7, b7⟩
    have s7 : Pt.Sm (Pt.word (Pt.bareDay (Pt.word (Pt.aMonth (Pt.word (Pt.aWeek (p)) [32])) [32])) [32]) := Pt.Sm.word sB [32]
    go_wp2_with fail
    refine (clock_any (Pt.word (Pt.bareDay (Pt.word (Pt.aMonth (Pt.word (Pt.aWeek (p)) [32])) [32])) [32]) b _ h7 s7).mono ?_
    rintro e w8 ⟨rfl, h8, b8⟩
    have s8 : Pt.Sm (Pt.clock (Pt.word (Pt.bareDay (Pt.word (Pt.aMonth (Pt.word (Pt.aWeek (p)) [32])) [32])) [32])) := Pt.Sm.clock s7 
    go_wp2_with fail
    refine (word_any (Pt.clock (Pt.word (Pt.bareDay (Pt.word (Pt.aMonth (Pt.word (Pt.aWeek (p)) [32])) [32])) [32])) [32] b _ h8).mono ?_
    rintro e w9 ⟨rfl, h9, b9⟩
    have s9 : Pt.Sm (Pt.word (Pt.clock (Pt.word (Pt.bareDay (Pt.word (Pt.aMonth (Pt.word (Pt.aWeek (p)) [32])) [32])) [32])) [32]) := Pt.Sm.word s8 [32]
    go_wp2_with fail
    refine (digits_any (Pt.word (Pt.clock (Pt.word (Pt.bareDay (Pt.word (Pt.aMonth (Pt.word (Pt.aWeek (p)) [32])) [32])) [32])) [32]) 4 b _ h9 (by decide) s9).mono ?_
    rintro e w10 ⟨rfl, h10, b10⟩
    have f10 : w10.frozen? ⟨b, 2, none⟩ = false := Blk.free h10 2
    have k10 : w10.cell? ⟨b, 2, none⟩ = some (.int .i64 (((Pt.dig (Pt.word (Pt.clock (Pt.word (Pt.bareDay (Pt.word (Pt.aMonth (Pt.word (Pt.aWeek (p)) [32])) [32])) [32])) [32]) 4).year) : Nat)) := h10.cell 2
    have s10 : Pt.Sm (Pt.aYear (Pt.word (Pt.clock (Pt.word (Pt.bareDay (Pt.word (Pt.aMonth (Pt.word (Pt.aWeek (p)) [32])) [32])) [32])) [32])) := Pt.Sm.aYear s9 
    go_wp2
    go_end0
    exact ⟨rfl, (h10.set (q := Pt.aYear (Pt.word (Pt.clock (Pt.word (Pt.bareDay (Pt.word (Pt.aMonth (Pt.word (Pt.aWeek (p)) [32])) [32])) [32])) [32])) (by simp [Pt.cells, Pt.aWeek, Pt.aMonth, Pt.aDay, Pt.aYear, Pt.aHour, Pt.aMin, Pt.aSec])), (((((((((((((b1.setCell (Nat.le_refl _) _).trans b2).trans b3).setCell (Nat.le_refl _) _).trans b4).trans b5).trans b6).setCell (Nat.le_refl _) _).trans b7).trans b8).trans b9).trans b10).setCell (Nat.le_refl _) _)⟩
  · have C : Hid (∀ w : World, Calls Tryz.prog 142 #[S (Pt.word (Pt.aMonth (Pt.word (Pt.aWeek (p)) [32])) [32]).left, S [32]] w fun e w' => e = .returned (.bool false) ∧ w = w') := Lib.hid (by rw [← hp]; exact HasPre_at (Pt.word (Pt.aMonth (Pt.word (Pt.aWeek (p)) [32])) [32]).left [32])
    go_wp2_with fail
    refine (C.out _).mono ?_
    rintro e w0 ⟨rfl, rfl⟩
    go_wp2_with fail
    refine (digits_any (Pt.word (Pt.aMonth (Pt.word (Pt.aWeek (p)) [32])) [32]) 2 b _ h4 (by decide) s4).mono ?_
    rintro e w5 ⟨rfl, h5, b5⟩
    have f5 : w5.frozen? ⟨b, 4, none⟩ = false := Blk.free h5 4
    have k5 : w5.cell? ⟨b, 4, none⟩ = some (.int .i64 (((Pt.dig (Pt.word (Pt.aMonth (Pt.word (Pt.aWeek (p)) [32])) [32]) 2).day) : Nat)) := h5.cell 4
    have s5 : Pt.Sm (Pt.aDay (Pt.word (Pt.aMonth (Pt.word (Pt.aWeek (p)) [32])) [32]) 2) := Pt.Sm.aDay s4  2
    have f8 : w5.frozen? ⟨b, 8, none⟩ = false := Blk.free h5 8
    have k8 : w5.cell? ⟨b, 8, none⟩ = some (.bool (Pt.dig (Pt.word (Pt.aMonth (Pt.word (Pt.aWeek (p)) [32])) [32]) 2).bad) := h5.cell 8
    have hd := digV_lt (Pt.word (Pt.aMonth (Pt.word (Pt.aWeek (p)) [32])) [32]) 2
    have HQ : Hid (Pt.bareDay (Pt.word (Pt.aMonth (Pt.word (Pt.aWeek (p)) [32])) [32]) = { Pt.aDay (Pt.word (Pt.aMonth (Pt.word (Pt.aWeek (p)) [32])) [32]) 2 with bad := (Pt.dig (Pt.word (Pt.aMonth (Pt.word (Pt.aWeek (p)) [32])) [32]) 2).bad || decide (Pt.digV (Pt.word (Pt.aMonth (Pt.word (Pt.aWeek (p)) [32])) [32]) 2 < 10) }) := Lib.hid (bareDay_no hp)
    have hA : PtAt (w5.setCell ⟨b, 4, none⟩ (.int .i64 (Pt.digV (Pt.word (Pt.aMonth (Pt.word (Pt.aWeek (p)) [32])) [32]) 2 : Nat))) b (Pt.aDay (Pt.word (Pt.aMonth (Pt.word (Pt.aWeek (p)) [32])) [32]) 2) := (h5.set (q := Pt.aDay (Pt.word (Pt.aMonth (Pt.word (Pt.aWeek (p)) [32])) [32]) 2) (by simp [Pt.cells, Pt.aWeek, Pt.aMonth, Pt.aDay, Pt.aYear, Pt.aHour, Pt.aMin, Pt.aSec]))
    rcases (by cases (Pt.dig (Pt.word (Pt.aMonth (Pt.word (Pt.aWeek (p)) [32])) [32]) 2).bad <;> simp : (Pt.dig (Pt.word (Pt.aMonth (Pt.word (Pt.aWeek (p)) [32])) [32]) 2).bad = true ∨ (Pt.dig (Pt.word (Pt.aMonth (Pt.word (Pt.aWeek (p)) [32])) [32]) 2).bad = false) with hb | hb
    · rw [hb] at k8 HQ
      have sB := Pt.Sm.bareDay s4
      go_wp2_with fail
      refine (word_any (Pt.bareDay (Pt.word (Pt.aMonth (Pt.word (Pt.aWeek (p)) [32])) [32])) [32] b _ (show PtAt _ b (Pt.bareDay (Pt.word (Pt.aMonth (Pt.word (Pt.aWeek (p)) [32])) [32])) by rw [HQ.out]; exact hA.set (by simp [Pt.cells, Pt.aDay]))).mono ?_
      rintro e w6 ⟨rfl, h6, b6⟩
      have s6 : Pt.Sm (Pt.word (Pt.bareDay (Pt.word (Pt.aMonth (Pt.word (Pt.aWeek (p)) [32])) [32])) [32]) := Pt.Sm.word sB [32]
      go_wp2_with fail
      refine (clock_any (Pt.word (Pt.bareDay (Pt.word (Pt.aMonth (Pt.word (Pt.aWeek (p)) [32])) [32])) [32]) b _ h6 s6).mono ?_
      rintro e w7 ⟨rfl, h7, b7⟩
      have s7 : Pt.Sm (Pt.clock (Pt.word (Pt.bareDay (Pt.word (Pt.aMonth (Pt.word (Pt.aWeek (p)) [32])) [32])) [32])) := Pt.Sm.clock s6 
      go_wp2_with fail
      refine (word_any (Pt.clock (Pt.word (Pt.bareDay (Pt.word (Pt.aMonth (Pt.word (Pt.aWeek (p)) [32])) [32])) [32])) [32] b _ h7).mono ?_
      rintro e w8 ⟨rfl, h8, b8⟩
      have s8 : Pt.Sm (Pt.word (Pt.clock (Pt.word (Pt.bareDay (Pt.word (Pt.aMonth (Pt.word (Pt.aWeek (p)) [32])) [32])) [32])) [32]) := Pt.Sm.word s7 [32]
      go_wp2_with fail
      refine (digits_any (Pt.word (Pt.clock (Pt.word (Pt.bareDay (Pt.word (Pt.aMonth (Pt.word (Pt.aWeek (p)) [32])) [32])) [32])) [32]) 4 b _ h8 (by decide) s8).mono ?_
      rintro e w9 ⟨rfl, h9, b9⟩
      have f9 : w9.frozen? ⟨b, 2, none⟩ = false := Blk.free h9 2
      have k9 : w9.cell? ⟨b, 2, none⟩ = some (.int .i64 (((Pt.dig (Pt.word (Pt.clock (Pt.word (Pt.bareDay (Pt.word (Pt.aMonth (Pt.word (Pt.aWeek (p)) [32])) [32])) [32])) [32]) 4).year) : Nat)) := h9.cell 2
      have s9 : Pt.Sm (Pt.aYear (Pt.word (Pt.clock (Pt.word (Pt.bareDay (Pt.word (Pt.aMonth (Pt.word (Pt.aWeek (p)) [32])) [32])) [32])) [32])) := Pt.Sm.aYear s8 
      go_wp2
      go_end0
      exact ⟨rfl, (h9.set (q := Pt.aYear (Pt.word (Pt.clock (Pt.word (Pt.bareDay (Pt.word (Pt.aMonth (Pt.word (Pt.aWeek (p)) [32])) [32])) [32])) [32])) (by simp [Pt.cells, Pt.aWeek, Pt.aMonth, Pt.aDay, Pt.aYear, Pt.aHour, Pt.aMin, Pt.aSec])), (((((((((((((b1.setCell (Nat.le_refl _) _).trans b2).trans b3).setCell (Nat.le_refl _) _).trans b4).trans b5).setCell (Nat.le_refl _) _).setCell (Nat.le_refl _) _).trans b6).trans b7).trans b8).trans b9).setCell (Nat.le_refl _) _)⟩
    · rw [hb] at k8 HQ
      have sB := Pt.Sm.bareDay s4
      go_wp2_with fail
      refine (word_any (Pt.bareDay (Pt.word (Pt.aMonth (Pt.word (Pt.aWeek (p)) [32])) [32])) [32] b _ (show PtAt _ b (Pt.bareDay (Pt.word (Pt.aMonth (Pt.word (Pt.aWeek (p)) [32])) [32])) by rw [HQ.out]; exact hA.set (by simp [Pt.cells, Pt.aDay]; omega))).mono ?_
      rintro e w6 ⟨rfl, h6, b6⟩
      have s6 : Pt.Sm (Pt.word (Pt.bareDay (Pt.word (Pt.aMonth (Pt.word (Pt.aWeek (p)) [32])) [32])) [32]) := Pt.Sm.word sB [32]
      go_wp2_with fail
      refine (clock_any (Pt.word (Pt.bareDay (Pt.word (Pt.aMonth (Pt.word (Pt.aWeek (p)) [32])) [32])) [32]) b _ h6 s6).mono ?_
      rintro e w7 ⟨rfl, h7, b7⟩
      have s7 : Pt.Sm (Pt.clock (Pt.word (Pt.bareDay (Pt.word (Pt.aMonth (Pt.word (Pt.aWeek (p)) [32])) [32])) [32])) := Pt.Sm.clock s6 
      go_wp2_with fail
      refine (word_any (Pt.clock (Pt.word (Pt.bareDay (Pt.word (Pt.aMonth (Pt.word (Pt.aWeek (p)) [32])) [32])) [32])) [32] b _ h7).mono ?_
      rintro e w8 ⟨rfl, h8, b8⟩
      have s8 : Pt.Sm (Pt.word (Pt.clock (Pt.word (Pt.bareDay (Pt.word (Pt.aMonth (Pt.word (Pt.aWeek (p)) [32])) [32])) [32])) [32]) := Pt.Sm.word s7 [32]
      go_wp2_with fail
      refine (digits_any (Pt.word (Pt.clock (Pt.word (Pt.bareDay (Pt.word (Pt.aMonth (Pt.word (Pt.aWeek (p)) [32])) [32])) [32])) [32]) 4 b _ h8 (by decide) s8).mono ?_
      rintro e w9 ⟨rfl, h9, b9⟩
      have f9 : w9.frozen? ⟨b, 2, none⟩ = false := Blk.free h9 2
      have k9 : w9.cell? ⟨b, 2, none⟩ = some (.int .i64 (((Pt.dig (Pt.word (Pt.clock (Pt.word (Pt.bareDay (Pt.word (Pt.aMonth (Pt.word (Pt.aWeek (p)) [32])) [32])) [32])) [32]) 4).year) : Nat)) := h9.cell 2
      have s9 : Pt.Sm (Pt.aYear (Pt.word (Pt.clock (Pt.word (Pt.bareDay (Pt.word (Pt.aMonth (Pt.word (Pt.aWeek (p)) [32])) [32])) [32])) [32])) := Pt.Sm.aYear s8 
      go_wp2
      go_end0
      exact ⟨rfl, (h9.set (q := Pt.aYear (Pt.word (Pt.clock (Pt.word (Pt.bareDay (Pt.word (Pt.aMonth (Pt.word (Pt.aWeek (p)) [32])) [32])) [32])) [32])) (by simp [Pt.cells, Pt.aWeek, Pt.aMonth, Pt.aDay, Pt.aYear, Pt.aHour, Pt.aMin, Pt.aSec])), (((((((((((((b1.setCell (Nat.le_refl _) _).trans b2).trans b3).setCell (Nat.le_refl _) _).trans b4).trans b5).setCell (Nat.le_refl _) _).setCell (Nat.le_refl _) _).trans b6).trans b7).trans b8).trans b9).setCell (Nat.le_refl _) _)⟩

end Go.Proofs.YtahapblgmehngaaGreatDoor

