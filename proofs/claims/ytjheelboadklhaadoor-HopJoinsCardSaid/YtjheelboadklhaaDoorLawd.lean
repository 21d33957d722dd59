/- HopValues. -/
import Derived.Test.YtjheelboadklhaaDoorLawb
import Derived.Test.YtjheelboadklhaaDoorHlaw
namespace Go.Proofs.YtjheelboadklhaaDoor
open Go.RowKit Go.Dr

theorem same_comm (a b : Bytes) : same a b = same b a := by
  unfold same; exact Bool.beq_comm
theorem among_any (el : Bytes) (l : List Bytes) : (l.any fun x => same x el) = among el l := by
  unfold among; congr 1; funext x; exact same_comm x el
theorem Texts_at (a : List Bytes) (va vb : Value) (w : World) (ha : Ss w.heap.size w va a) (hb : Ss w.heap.size w vb a) :
    Calls Tryd.prog 10 #[va, vb] w fun e w' => e = .returned (.bool true) ∧ Below w.heap.size w w' :=
  (Texts_any a a va vb w ha hb).mono fun _ _ ⟨h1, h2⟩ => ⟨by rw [h1, beq_self_eq_true], h2⟩

set_option linter.unusedSimpArgs false in
set_option maxRecDepth 100000 in
set_option maxHeartbeats 8000000 in
theorem HopValues_any (l : List F) (name el : Bytes) (v : Value) (w : World) (h : Fs w.heap.size w v l) (hb : ∀ f ∈ l, f.n.length ≤ 140737488355328 ∧ f.v.length ≤ 140737488355328)
    (hn : name.length ≤ 140737488355328) (he : el.length ≤ 140737488355328) :
    Calls Tryd.prog 7 #[v, S name, S el] w fun e w' => e = .returned (.bool true) ∧ Below w.heap.size w w' := by
  have HB := Lib.hid hb
  clear hb
  by_cases hbig : 16384 < fbytes l
  · have hq : decide (16384 < (fbytes l : Int)) = true := by rw [decide_eq_true_iff]; omega
    clear hbig hn he
    go_enter Tryd.func7, Tryd.ntmps7
    go_wp2_with fail
    refine (awake_any _).mono ?_
    rintro e w1 ⟨rfl, hb1⟩
    go_wp2_with fail
    refine (FBytes_any l v _ ((h.below hb1).mono hb1.size) HB.out).mono ?_
    rintro e w2 ⟨rfl, hb2⟩
    go_wp2
    go_ret
    exact ⟨rfl, Bl.tr hb1 hb2⟩
  have hq : decide (16384 < (fbytes l : Int)) = false := by rw [decide_eq_false_iff_not]; omega
  have hsum : fsum l ≤ 16384 := by rw [fbytes_sum l (by omega)]; omega
  clear hbig
  by_cases hbig : 16384 < name.length
  · have hq1 : decide (16384 < (name.length : Int)) = true := by rw [decide_eq_true_iff]; omega
    clear hbig hn he
    go_enter Tryd.func7, Tryd.ntmps7
    go_wp2_with fail
    refine (awake_any _).mono ?_
    rintro e w1 ⟨rfl, hb1⟩
    go_wp2_with fail
    refine (FBytes_any l v _ ((h.below hb1).mono hb1.size) HB.out).mono ?_
    rintro e w2 ⟨rfl, hb2⟩
    go_wp2
    go_ret
    exact ⟨rfl, Bl.tr hb1 hb2⟩
  have hq1 : decide (16384 < (name.length : Int)) = false := by rw [decide_eq_false_iff_not]; omega
  have hnl : name.length ≤ 16384 := by omega
  clear hbig hn
  by_cases hbig : 16384 < el.length
  · have hq2 : decide (16384 < (el.length : Int)) = true := by rw [decide_eq_true_iff]; omega
    clear hbig hnl he
    go_enter Tryd.func7, Tryd.ntmps7
    go_wp2_with fail
    refine (awake_any _).mono ?_
    rintro e w1 ⟨rfl, hb1⟩
    go_wp2_with fail
    refine (FBytes_any l v _ ((h.below hb1).mono hb1.size) HB.out).mono ?_
    rintro e w2 ⟨rfl, hb2⟩
    go_wp2
    go_ret
    exact ⟨rfl, Bl.tr hb1 hb2⟩
  have hq2 : decide (16384 < (el.length : Int)) = false := by rw [decide_eq_false_iff_not]; omega
  have hel : el.length ≤ 16384 := by omega
  clear hbig he
  have hns := ssum_all l name
  have hcm := Lib.hid (among_any el (allOf l name))
  go_enter Tryd.func7, Tryd.ntmps7
  go_wp2_with fail
  refine (awake_any _).mono ?_
  rintro e w1 ⟨rfl, hb1⟩
  go_wp2_with fail
  refine (FBytes_any l v _ ((h.below hb1).mono hb1.size) HB.out).mono ?_
  rintro e w2 ⟨rfl, hb2⟩
  have hw2 := Bl.tr hb1 hb2
  have l2 := (h.below hw2).mono hw2.size
  clear h HB hb1 hb2
  go_wp2_with fail
  refine (Join_any l name v _ l2 (by omega) (by omega)).mono ?_
  rintro e w3 ⟨rfl, hb3⟩
  have hw3 := Bl.tr hw2 hb3
  have l3 := (l2.below hb3).mono hb3.size
  clear l2 hb3
  go_wp2_with fail
  refine (refJoin_any l name v _ l3 (by omega) (by omega)).mono ?_
  rintro e w4 ⟨rfl, hb4⟩
  have hw4 := Bl.tr hw3 hb4
  have l4 := (l3.below hb4).mono hb4.size
  clear l3 hb4
  generalize joinS (values l name) = js at *
  generalize decide (0 < (values l name).length) = jb at *
  go_wp2_with fail
  refine (refAll_any l name v _ l4 (by omega) (by omega)).mono ?_
  rintro e w5 ⟨va, rfl, hva, hb5⟩
  have hw5 := Bl.tr hw4 hb5
  have l5 := (l4.below hb5).mono hb5.size
  have a5 : Ss w5.heap.size w5 va (allOf l name) := Ss.own hva
  clear l4 hb5 hva
  go_wp2_with fail
  refine (Values_any l name v _ l5 (by omega) (by omega)).mono ?_
  rintro e w6 ⟨v1, rfl, hv1, hb6⟩
  have hw6 := Bl.tr hw5 hb6
  have l6 := (l5.below hb6).mono hb6.size
  have a6 := (a5.below hb6).mono hb6.size
  have r6 : Ss w6.heap.size w6 v1 (values l name) := Ss.own hv1
  clear l5 hb6 hv1 a5
  go_wp2_with fail
  refine (refValues_any l name v _ l6 (by omega) (by omega)).mono ?_
  rintro e w7 ⟨v2, rfl, hv2, hb7⟩
  have hw7 := Bl.tr hw6 hb7
  have l7 := (l6.below hb7).mono hb7.size
  have a7 := (a6.below hb7).mono hb7.size
  have r7 := (r6.below hb7).mono hb7.size
  have s7 : Ss w7.heap.size w7 v2 (values l name) := Ss.own hv2
  clear l6 hb7 hv2 a6 r6
  go_wp2_with fail
  refine (Texts_at _ _ _ _ r7 s7).mono ?_
  rintro e w8 ⟨rfl, hb8⟩
  have hw8 := Bl.tr hw7 hb8
  have l8 := (l7.below hb8).mono hb8.size
  have a8 := (a7.below hb8).mono hb8.size
  clear l7 hb8 a7 r7 s7
  go_wp2_with fail
  refine (All_any l name v _ l8 (by omega) (by omega)).mono ?_
  rintro e w9 ⟨v3, rfl, hv3, hb9⟩
  have hw9 := Bl.tr hw8 hb9
  have l9 := (l8.below hb9).mono hb9.size
  have a9 := (a8.below hb9).mono hb9.size
  have r9 : Ss w9.heap.size w9 v3 (allOf l name) := Ss.own hv3
  clear l8 hb9 a8 hv3
  go_wp2_with fail
  refine (Texts_at _ _ _ _ r9 a9).mono ?_
  rintro e w10 ⟨rfl, hb10⟩
  have hw10 := Bl.tr hw9 hb10
  have l10 := (l9.below hb10).mono hb10.size
  have a10 := (a9.below hb10).mono hb10.size
  clear l9 hb10 a9 r9
  go_wp2_with fail
  refine (Has_any l name el v _ l10 (by omega) (by omega) (by omega)).mono ?_
  rintro e w11 ⟨rfl, hb11⟩
  rw [hcm.out]
  have hw11 := Bl.tr hw10 hb11
  have a11 := (a10.below hb11).mono hb11.size
  clear l10 hb11 a10
  go_wp2_with fail
  refine (Among_any el _ _ _ a11 (by omega) (by omega)).mono ?_
  rintro e w12 ⟨rfl, hb12⟩
  generalize among el (allOf l name) = q at *
  have hqq : (q == q) = true := by simp
  go_wp2
  go_ret
  exact ⟨rfl, Bl.tr hw11 hb12⟩
end Go.Proofs.YtjheelboadklhaaDoor
