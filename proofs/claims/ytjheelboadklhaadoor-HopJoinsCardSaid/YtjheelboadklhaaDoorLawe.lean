/- HopStrips. -/
import Derived.Test.YtjheelboadklhaaDoorLawb
import Derived.Test.YtjheelboadklhaaDoorHlaw
namespace Go.Proofs.YtjheelboadklhaaDoor
open Go.RowKit Go.Dr

def bsum (l : List Bytes) : Nat := (l.map List.length).sum
theorem bsum_snoc (l : List Bytes) (k : Nat) (h : k < l.length) : bsum (l.take (k + 1)) = bsum (l.take k) + l[k].length := by
  rw [List.take_succ_eq_append_getElem h]; simp only [bsum, List.map_append, List.map_cons, List.map_nil, List.sum_append, List.sum_cons, List.sum_nil, Nat.add_zero]
theorem ssum_bsum (l : List Bytes) : ssum l = bsum l + l.length := by
  induction l with
  | nil => rfl
  | cons a l ih => rw [ssum_cons, ih]; simp [bsum]; omega

theorem Fields_at (a : List F) (va vb : Value) (w : World) (ha : Fs w.heap.size w va a) (hb : Fs w.heap.size w vb a) :
    Calls Tryd.prog 15 #[va, vb] w fun e w' => e = .returned (.bool true) ∧ Below w.heap.size w w' :=
  (Fields_any a a va vb w ha hb).mono fun _ _ ⟨h1, h2⟩ => ⟨by rw [h1, beq_self_eq_true], h2⟩

/-- A row of one's own, three cells an element: the middle cell of element k. -/
theorem own_mid {base : Nat} {w : World} {e : TypeId} {a : Option Addr} {n cap : Nat} {xs : List Value} (h : w.ownsRow base e 3 (.slice a n cap) n xs) (k : Nat) (hk : k < n) :
    ∃ g u, a = some ⟨g, 0, none⟩ ∧ w.cell? ⟨g, k * 3 + 1, none⟩ = some u ∧ w.frozen? ⟨g, k * 3 + 1, none⟩ = false ∧ base ≤ g := by
  have hlen := h.1
  rcases h.2 with ⟨h', _⟩ | ⟨g, cap', cur, h', hb, hg, hnc, hcm, hcs, htake⟩
  · simp only [Value.slice.injEq] at h'
    omega
  · simp only [Value.slice.injEq] at h'
    obtain ⟨rfl, -, rfl⟩ := h'
    have hlt : k * 3 + 1 < xs.length := by omega
    exact ⟨g, xs[k * 3 + 1], rfl, by rw [h.cellAt _ (by omega), List.getElem?_eq_getElem hlt], h.frozenAt _, hb⟩

set_option linter.unusedSimpArgs false in
set_option maxRecDepth 100000 in
set_option maxHeartbeats 8000000 in
theorem HopStrips_any (l : List F) (names : List Bytes) (who : Bytes) (v vn : Value) (w : World) (h : Fs w.heap.size w v l) (h' : Ss w.heap.size w vn names) (hb : ∀ f ∈ l, f.n.length ≤ 140737488355328 ∧ f.v.length ≤ 140737488355328)
    (hnb : ∀ s ∈ names, s.length ≤ 140737488355328) :
    Calls Tryd.prog 5 #[v, vn, S who] w fun e w' => e = .returned (.bool true) ∧ Below w.heap.size w w' := by
  have HB := Lib.hid hb
  have HNB := Lib.hid hnb
  clear hb hnb
  obtain ⟨pn, cn, rfl, hmn⟩ := h'.form
  go_enter Tryd.func5, Tryd.ntmps5
  go_wp2_with fail
  refine (awake_any _).mono ?_
  rintro e w1 ⟨rfl, hw1⟩
  have l1 := (h.below hw1).mono hw1.size
  have n1 := (h'.below hw1).mono hw1.size
  clear h h'
  go_wp2
  go_loopw [7, 8] (fun n i wr => ∃ k : Nat, k ≤ names.length ∧ k ≤ 201 ∧ i = .int .i64 k ∧ n = .int .i64 (bsum (names.take k) : Nat) ∧ bsum (names.take k) ≤ 1000 * k ∧ wr = w1) (fun _ i _ => names.length - (intOf i).toNat)
  case atStart => exact ⟨0, Nat.zero_le _, by omega, rfl, rfl, Nat.zero_le _, rfl⟩
  case round =>
    obtain ⟨k, hk, hk2, rfl, rfl, hle, hwe⟩ := hrel
    obtain rfl : w1 = wr := hwe.symm
    by_cases hlt : k < names.length
    · obtain ⟨b, off, rfl, hbb, c0⟩ := n1.at k hlt
      have HS := Lib.hid (bsum_snoc names k hlt)
      have hsl := HNB.out names[k] (List.getElem_mem hlt)
      generalize bsum (names.take k) = s at *
      by_cases hs : 1000 < names[k].length
      · have hq : decide (1000 < (names[k].length : Int)) = true := by rw [decide_eq_true_iff]; omega
        clear hs
        go_wp2
        go_ret
        exact ⟨rfl, hw1⟩
      have hq : decide (1000 < (names[k].length : Int)) = false := by rw [decide_eq_false_iff_not]; omega
      by_cases hs2 : 200 < k
      · have hq2 : decide (200 < (k : Int)) = true := by rw [decide_eq_true_iff]; omega
        clear hs hs2
        go_wp2
        go_ret
        exact ⟨rfl, hw1⟩
      have hq2 : decide (200 < (k : Int)) = false := by rw [decide_eq_false_iff_not]; omega
      have HQ := Lib.hid (And.intro hs hs2)
      clear hs hs2
      go_wp2_with fail
      go_roundw
      case rel => exact ⟨k + 1, by omega, by have := HQ.out.2; omega, by go_num, by rw [HS.out]; go_num, by rw [HS.out]; have := HQ.out.1; omega, trivial⟩
      case measure => simp [intOf]; omega
    · have hk' : k = names.length := by omega
      subst hk'
      rw [List.take_length] at *
      have hss := ssum_bsum names
      generalize bsum names = s at *
      by_cases hbig : 16384 < fbytes l
      · have hq : decide (16384 < (fbytes l : Int)) = true := by rw [decide_eq_true_iff]; omega
        clear hbig
        go_wp2_with fail
        refine (FBytes_any l v _ l1 HB.out).mono ?_
        rintro e w2 ⟨rfl, hb2⟩
        go_wp2
        go_ret
        exact ⟨rfl, Bl.tr hw1 hb2⟩
      have hq : decide (16384 < (fbytes l : Int)) = false := by rw [decide_eq_false_iff_not]; omega
      have hsum : fsum l ≤ 16384 := by rw [fbytes_sum l (by omega)]; omega
      clear hbig
      by_cases hbig : 16384 < s
      · have hq2 : decide (16384 < (s : Int)) = true := by rw [decide_eq_true_iff]; omega
        clear hbig
        go_wp2_with fail
        refine (FBytes_any l v _ l1 HB.out).mono ?_
        rintro e w2 ⟨rfl, hb2⟩
        go_wp2
        go_ret
        exact ⟨rfl, Bl.tr hw1 hb2⟩
      have hq2 : decide (16384 < (s : Int)) = false := by rw [decide_eq_false_iff_not]; omega
      have hns : ssum names ≤ 32768 := by omega
      clear hbig hle hss
      have hll := fsum_length l
      go_wp2_with fail
      refine (FBytes_any l v _ l1 HB.out).mono ?_
      rintro e w2 ⟨rfl, hb2⟩
      have hw2 := Bl.tr hw1 hb2
      have l2 := (l1.below hb2).mono hb2.size
      have n2 := (n1.below hb2).mono hb2.size
      clear l1 n1 hb2 HB HNB hw1
      have hal : Below w2.heap.size w2 (w2.alloc (.cells #[] 35)) := (Below.refl _ _).alloc (Nat.le_refl _) _
      have l2' := (l2.below hal).mono hal.size
      go_wp2_with (at_builtin; refine wpList_appRd rfl _ _ 28 rfl w2.heap.size 35 (.agg #[.string ByteArray.empty, .string ByteArray.empty, .bool false]) 3 40 Tryd.underlying28 (by kernel_rfl) rfl (by decide) _ _ _ rfl (World.ownsRow_lit (base := w2.heap.size) (e := 35) (size := 3) w2 #[] 0 (Nat.le_refl _) (by decide) rfl) _ _ _ _ rfl l2' (fcells_one _) (by unfold maxLen; omega) (by omega) (by simp) ?_; intro a' c' w3 hown hb3'; simp only [Nat.zero_add, List.nil_append, List.toList_toArray] at hown)
      have hb3 := hal.trans hb3'
      clear hal hb3' l2'
      have l3 := (l2.below hb3).mono hb3.size
      have n3 := (n2.below hb3).mono hb3.size
      have o3 : Fs w3.heap.size w3 _ l := Fs.own hown
      have hw3 := Bl.tr hw2 hb3
      clear l2 n2 hb3 hw2 hown
      go_wp2_with fail
      refine (Without_any l names _ _ w3 o3 n3 (by omega) (by omega)).mono ?_
      rintro e w4 ⟨va, rfl, hva, hb4⟩
      have hw4 := Bl.tr hw3 hb4
      have l4 := (l3.below hb4).mono hb4.size
      have n4 := (n3.below hb4).mono hb4.size
      have o4 := (o3.below hb4).mono hb4.size
      have a4 : Fs w4.heap.size w4 va (without l names) := Fs.own hva
      clear l3 n3 hva
      go_wp2_with fail
      refine (Strip_any l _ w4 o4 (by omega)).mono ?_
      rintro e w5 ⟨vb, rfl, hvb, hb5⟩
      have hw5 := Bl.tr hw4 hb5
      have l5 := (l4.below hb5).mono hb5.size
      have n5 := (n4.below hb5).mono hb5.size
      have o5 := (o4.below hb5).mono hb5.size
      have a5 := (a4.below hb5).mono hb5.size
      have b5 : Fs w5.heap.size w5 vb (strip l) := Fs.own hvb
      have l4' := l4
      clear l4 n4 a4
      go_wp2_with fail
      refine (Via_any l who _ w5 o5 (by omega)).mono ?_
      rintro e w6 ⟨vc, rfl, hvc, hb6⟩
      have hw6 := Bl.tr hw5 hb6
      have l6 := (l5.below hb6).mono hb6.size
      have n6 := (n5.below hb6).mono hb6.size
      have a6 := (a5.below hb6).mono hb6.size
      have b6 := (b5.below hb6).mono hb6.size
      have c6 : Fs w6.heap.size w6 vc (l ++ [viaF who]) := Fs.own hvc
      have b5' := b5
      clear l5 n5 a5 b5
      go_wp2_with fail
      refine (refWithout_any l names _ _ w6 l6 n6 (by omega) (by omega)).mono ?_
      rintro e w7 ⟨vx, rfl, hvx, hb7⟩
      have hw7 := Bl.tr hw6 hb7
      have l7 := (l6.below hb7).mono hb7.size
      have a7 := (a6.below hb7).mono hb7.size
      have b7 := (b6.below hb7).mono hb7.size
      have c7 := (c6.below hb7).mono hb7.size
      have x7 : Fs w7.heap.size w7 vx (without l names) := Fs.own hvx
      have f7 := hb7
      clear l6 n6 a6 b6 hvx
      go_wp2_with fail
      refine (Fields_at _ _ _ w7 a7 x7).mono ?_
      rintro e w8 ⟨rfl, hb8⟩
      have hw8 := Bl.tr hw7 hb8
      have l8 := (l7.below hb8).mono hb8.size
      have b8 := (b7.below hb8).mono hb8.size
      have c8 := (c7.below hb8).mono hb8.size
      have f8 := Bl.tr f7 hb8
      clear l7 a7 b7 c7 f7 x7
      go_wp2_with fail
      refine (refStrip_any l _ w8 l8 (by omega)).mono ?_
      rintro e w9 ⟨vy, rfl, hvy, hb9⟩
      have hw9 := Bl.tr hw8 hb9
      have l9 := (l8.below hb9).mono hb9.size
      have b9 := (b8.below hb9).mono hb9.size
      have c9 := (c8.below hb9).mono hb9.size
      have f9 := Bl.tr f8 hb9
      have y9 : Fs w9.heap.size w9 vy (strip l) := Fs.own hvy
      clear l8 b8 c8 f8 hvy
      go_wp2_with fail
      refine (Fields_at _ _ _ w9 b9 y9).mono ?_
      rintro e w10 ⟨rfl, hb10⟩
      have hw10 := Bl.tr hw9 hb10
      have l10 := (l9.below hb10).mono hb10.size
      have c10 := (c9.below hb10).mono hb10.size
      have f10 := Bl.tr f9 hb10
      clear l9 b9 c9 f9 y9
      go_wp2_with fail
      refine (refVia_any l who _ w10 l10 (by omega)).mono ?_
      rintro e w11 ⟨vz, rfl, hvz, hb11⟩
      have hw11 := Bl.tr hw10 hb11
      have l11 := (l10.below hb11).mono hb11.size
      have c11 := (c10.below hb11).mono hb11.size
      have f11 := Bl.tr f10 hb11
      have z11 : Fs w11.heap.size w11 vz (l ++ [viaF who]) := Fs.own hvz
      clear l10 c10 f10 hvz
      go_wp2_with fail
      refine (Fields_at _ _ _ w11 c11 z11).mono ?_
      rintro e w12 ⟨rfl, hb12⟩
      have hw12 := Bl.tr hw11 hb12
      have l12 := (l11.below hb12).mono hb12.size
      have f12 := Bl.tr f11 hb12
      clear l11 c11 f11 z11 hb7 hb8 hb9 hb10 hb11 hb12 hw6 hw7 hw8 hw9 hw10 hw11 hq hq2
      obtain ⟨pc, cc, rfl, hmc⟩ := c6.form
      obtain ⟨pb, cb, rfl, hmb⟩ := b5'.form
      have C := own_below hvc f12
      have f5 := Bl.tr hb6 f12
      have z54 : w4.heap.size ≤ w5.heap.size := hb5.size
      have z125 : w5.heap.size ≤ w12.heap.size := Nat.le_trans hb6.size f12.size
      clear c6 b5' hb6 hvc o5
      generalize (l ++ [viaF who]).length = n at *
      generalize (strip l).length = m at *
      generalize fcells (l ++ [viaF who]) = xs at *
      generalize fcells (strip l) = ys at *
      go_wp2
      go_loopw [13] (fun i wr => ∃ k : Nat, k ≤ n ∧ i = .int .i64 k ∧ (∃ xs, wr.ownsRow w5.heap.size 35 3 (.slice pc n cc) n xs) ∧ Below w5.heap.size w12 wr) (fun i _ => n - (intOf i).toNat)
      case atStart => exact ⟨0, Nat.zero_le _, rfl, ⟨xs, C⟩, Below.refl _ _⟩
      case round =>
        obtain ⟨j, hj, rfl, ⟨xs', C'⟩, hbel⟩ := hrel
        by_cases hlt : j < n
        · obtain ⟨g, u, rfl, hc, hf, hg⟩ := own_mid C' j hlt
          have hst := C'.stored (j * 3 + 1) (S [115, 112, 111, 105, 108, 116])
          go_wp2_with fail
          go_roundw
          case rel => exact ⟨j + 1, by omega, by go_num, ⟨_, hst.1⟩, hbel.setCell hg _⟩
          case measure => simp [intOf]; omega
        · have hj' : j = n := by omega
          subst hj'
          obtain ⟨wo, rfl⟩ : ∃ wo : World, wo = wr := ⟨_, rfl⟩
          have g5 := f5.trans hbel
          have B := own_below hvb g5
          have z5w : w5.heap.size ≤ wo.heap.size := Nat.le_trans z125 hbel.size
          have g4 := hb5.trans (g5.mono z54)
          clear C C' hvb f5
          go_wp2
          go_loopw [14] (fun i wr => ∃ k : Nat, k ≤ m ∧ i = .int .i64 k ∧ (∃ xs, wr.ownsRow w4.heap.size 35 3 (.slice pb m cb) m xs) ∧ Below w4.heap.size wo wr) (fun i _ => m - (intOf i).toNat)
          case atStart => exact ⟨0, Nat.zero_le _, rfl, ⟨ys, B⟩, Below.refl _ _⟩
          case round =>
            obtain ⟨j, hj, rfl, ⟨xs', B'⟩, hbl2⟩ := hrel
            by_cases hlt : j < m
            · obtain ⟨g, u, rfl, hc, hf, hg⟩ := own_mid B' j hlt
              have hst := B'.stored (j * 3 + 1) (S [115, 112, 111, 105, 108, 116])
              go_wp2_with fail
              go_roundw
              case rel => exact ⟨j + 1, by omega, by go_num, ⟨_, hst.1⟩, hbl2.setCell hg _⟩
              case measure => simp [intOf]; omega
            · have hj' : j = m := by omega
              subst hj'
              have h4 := g4.trans hbl2
              have lw := (l4'.below h4).mono h4.size
              have ow := (o4.below h4).mono h4.size
              clear B B' hbl2
              go_wp2_with fail
              refine (Fields_at _ _ _ _ ow lw).mono ?_
              rintro e w15 ⟨rfl, hb15⟩
              go_wp2
              go_ret
              exact ⟨rfl, Bl.tr hw4 (Bl.tr h4 hb15)⟩
end Go.Proofs.YtjheelboadklhaaDoor
