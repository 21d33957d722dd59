
/- The walks of numbers out of bytes (octet.Take, frame.number) and of a frame's small tests. -/
import Derived.Test.YtmbakobindjjmaaGreatDoorFra
import Derived.Test.YtmbakobindjjmaaGreatDoorRows
namespace Go.Proofs.YtmbakobindjjmaaGreatDoor
open Go.RowKit Go.Dr

/-- The bytes of a slice, read. -/
def By (B : Nat) (w : World) (v : Value) (l : Bytes) : Prop := Rd B w 1 v l.length (l.map B8)
theorem By.below {B : Nat} {w w' : World} {v : Value} {l : Bytes} (h : By B w v l) (hb : Below B w w') : By B w' v l := Rd.below h hb
theorem By.mono {B B' : Nat} {w : World} {v : Value} {l : Bytes} (h : By B w v l) (hB : B ≤ B') : By B' w v l := Rd.mono h hB
theorem By.form {B : Nat} {w : World} {v : Value} {l : Bytes} (h : By B w v l) : ∃ a cap, v = .slice a l.length cap ∧ l.length ≤ cap ∧ cap ≤ 9223372036854775807 := by
  obtain ⟨a, cap, h1, h2, h3, h4, h5, h6⟩ := h
  exact ⟨a, cap, h1, h2, by unfold maxLen at h3; omega⟩
theorem By.at {B : Nat} {w : World} {a : Option Addr} {n cap : Nat} {l : Bytes} (h : By B w (.slice a n cap) l) (k : Nat) (hk : k < l.length) :
    ∃ b off, a = some ⟨b, off, none⟩ ∧ b < B ∧ w.cell? ⟨b, off + k, none⟩ = some (B8 l[k]) := by
  obtain ⟨a', cap', h1, h2, h3, h4, h5, h6⟩ := h
  simp only [Value.slice.injEq] at h1
  obtain ⟨rfl, rfl, rfl⟩ := h1
  obtain ⟨b, off, rfl, hb, c0⟩ := h6 k _ (by rw [List.getElem?_map, List.getElem?_eq_getElem hk]; rfl)
  exact ⟨b, off, rfl, hb, c0⟩
theorem By.cut {B : Nat} {w : World} {a : Option Addr} {n cap : Nat} {l : Bytes} (h : By B w (.slice a n cap) l) {i j : Nat} (hi : i ≤ j) (hj : j ≤ l.length) : By B w (sliced a i j cap 1) ((l.take j).drop i) := by
  have e : n = l.length := by
    obtain ⟨a', cap', h1, -⟩ := h
    simp only [Value.slice.injEq] at h1
    exact h1.2.1
  subst e
  have h1 := Rd.upto h (k := j) hj
  have h2 := Rd.sliced h1 hi
  unfold By
  rw [List.length_drop, List.length_take, Nat.min_eq_left hj]
  rwa [Nat.mul_one, Nat.mul_one, ← List.map_take, ← List.map_drop] at h2

/-- 'b[k:]' of bytes that are read: what it is; how it runs -/
theorem By.from {B : Nat} {w : World} {v : Value} {l : Bytes} (h : By B w v l) (k : Nat) (hk : k ≤ l.length) :
    ∃ a c, By B w (.slice a (l.length - k) c) (l.drop k) ∧ ∀ w', (Instr.slice 28 v (some (.int .i64 (k : Int))) none none).run Tryz.prog w' = .ok (.slice a (l.length - k) c) w' := by
  obtain ⟨a, cap, rfl, hc, hcm⟩ := h.form
  have hD := h.cut (i := k) (j := l.length) hk (Nat.le_refl _)
  rw [List.take_length] at hD
  have hs : Tryz.prog.cellsOf 5 = 1 := by kernel_rfl
  have he : Tryz.prog.elem 28 = 5 := by kernel_rfl
  obtain ⟨i, hi⟩ := info_of_underlying Tryz.underlying5
  refine ⟨_, _, hD, fun w' => ?_⟩
  rw [run_slice_l w' 28 a l.length cap (by rw [he]; exact Tryz.underlying28) .i64 (k : Int) (by omega) (by omega), he, run_sizeOf w' hi, hs]
  simp [Result.andThen, sliced]

/-- 'string(b)' over bytes that are read -/
theorem By.text {P : Program} {B : Nat} {w : World} {v : Value} {l : Bytes} (h : By B w v l) (src dst e : TypeId) (hs : P.underlying src = some (.slice e)) (he : P.underlying e = some (.int .u8)) (hd : P.underlying dst = some .string) :
    (convert src dst v).run P w = .ok (S l) w := by
  obtain ⟨a, cap, rfl, hc, hcm⟩ := h.form
  have h' := h
  obtain ⟨a', cap', h1, h2, h3, h4, h5, h6⟩ := h'
  simp only [Value.slice.injEq] at h1
  obtain ⟨rfl, -, rfl⟩ := h1
  cases a with
  | none =>
    have := h5 rfl
    have e0 : l = [] := List.eq_nil_of_length_eq_zero (by omega)
    subst e0
    subst this
    exact run_convert_bytes_nil w src e hs he 0 0 dst hd
  | some ad =>
    refine run_convert_bytes_back w src dst e ad cap l hs he hd fun j hj => ?_
    obtain ⟨b, off, e1, -, c0⟩ := h.at j hj
    simp only [Option.some.injEq] at e1
    subst e1
    rw [Addr.add_lit]
    exact c0

set_option maxHeartbeats 1000000 in
theorem oTake_any {B : Nat} (l : Bytes) (v : Value) (k n : Nat) (w : World) (h : By B w v l) (hn : 1 ≤ n) (hn4 : n ≤ 4) (hk : k + n ≤ l.length) :
    Calls Tryz.prog 71 #[v, .int .i64 (k : Int), .int .i64 (n : Int)] w fun e w' => e = .returned (.tuple #[.int .u32 (beN ((l.drop k).take n) : Nat), .int .i64 0]) ∧ w' = w := by
  obtain ⟨a, cap, rfl, hc, hcm⟩ := h.form
  have hD := h.cut (i := k) (j := k + n) (by omega) hk
  obtain ⟨m, em⟩ : ∃ m, m = (l.take (k + n)).drop k := ⟨_, rfl⟩
  have em2 : (l.drop k).take n = m := by rw [em, List.drop_take, Nat.add_sub_cancel_left]
  have eml : m.length = n := by rw [em, List.length_drop, List.length_take]; omega
  rw [em2]
  rw [← em] at hD
  unfold sliced at hD
  rw [if_neg (by omega), Nat.mul_one] at hD
  have t1 : decide ((n : Int) < 1) = false := by simp; omega
  have t2 : decide ((4 : Int) < (n : Int)) = false := by simp; omega
  have t3 : decide ((k : Int) < 0) = false := by simp
  have t4 : decide ((l.length : Int) - (n : Int) < (k : Int)) = false := by simp; omega
  have EML := Lib.hid eml
  clear em em2
  go_enter Tryz.func71, Tryz.ntmps71
  go_wp2
  go_loopw [8, 34] (fun s i wr => ∃ j : Nat, j ≤ n ∧ i = .int .i64 (j : Int) ∧ s = .int .u32 (beN (m.take j) : Nat) ∧ wr = w) (fun s i _ => n - (intOf i).toNat)
  case atStart => exact ⟨0, Nat.zero_le _, rfl, rfl, rfl⟩
  case round =>
    obtain ⟨j, hj, rfl, rfl, rfl⟩ := hrel
    by_cases hlt : j < n
    · have hjm : j < m.length := by rw [EML.out]; exact hlt
      obtain ⟨b, off, ea, hb, c0⟩ := hD.at j hjm
      rw [ea]
      have hs := beN_take m j hjm
      have h3 : beN (m.take j) < 16777216 := by
        refine Nat.lt_of_lt_of_le (beN_lt _) ?_
        rw [List.length_take, Nat.min_eq_left (by omega)]
        exact Nat.pow_le_pow_right (j := 3) (by decide) (by omega)
      have hor := bits_or32 (beN (m.take j)) m[j].toNat h3 (UInt8.toNat_lt _)
      rw [← hs] at hor
      clear hs hD
      go_wp2
      go_roundw
      case rel => exact ⟨j + 1, by omega, by go_num, by first | rfl | rw [hor], trivial⟩
      case measure => simp [intOf]; omega
    · obtain rfl : j = n := by omega
      rw [List.take_of_length_le (by rw [EML.out]; omega)]
      go_wp2
      go_ret2
      exact ⟨rfl, rfl⟩

theorem Num_any {B : Nat} (l : Bytes) (v : Value) (k : Nat) (w : World) (h : By B w v l) (hk : k + 4 ≤ l.length) :
    Calls Tryz.prog 73 #[v, .int .i64 (k : Int)] w fun e w' => e = .returned (.int .i64 (numF l k : Nat)) ∧ w' = w := by
  have hT := oTake_any l v k 4 w h (by decide) (by decide) hk
  have hlt : beN ((l.drop k).take 4) < 4294967296 := by
    refine Nat.lt_of_lt_of_le (beN_lt _) ?_
    exact Nat.pow_le_pow_right (j := 4) (by decide) (by rw [List.length_take]; omega)
  have e : numF l k = beN ((l.drop k).take 4) := rfl
  rw [e]
  obtain ⟨m, em⟩ : ∃ m, m = beN ((l.drop k).take 4) := ⟨_, rfl⟩
  rw [← em] at hT hlt ⊢
  clear em e
  go_enter Tryz.func73, Tryz.ntmps73
  go_wp2_with fail
  refine hT.mono ?_
  rintro e w' ⟨rfl, rfl⟩
  go_wp2
  go_ret
  exact ⟨by first | rfl | (simp; done) | (simp; omega), rfl⟩

theorem Mis_any (ty st : Nat) (w : World) :
    Calls Tryz.prog 74 #[.int .i64 (ty : Int), .int .i64 (st : Int)] w fun e w' => e = .returned (.bool (misF ty st)) ∧ w' = w := by
  go_enter Tryz.func74, Tryz.ntmps74
  go_wp2
  all_goals go_ret
  all_goals refine ⟨ret_b ?_, rfl⟩
  all_goals (simp only [ibs] at *; simp_all [misF])

theorem Ahead_any (ty fl : Nat) (w : World) (hf : fl < 256) :
    Calls Tryz.prog 87 #[.int .i64 (ty : Int), .int .i64 (fl : Int)] w fun e w' => e = .returned (.int .i64 (aheadF ty fl : Nat)) ∧ w' = w := by
  go_enter Tryz.func87, Tryz.ntmps87
  go_wp2
  all_goals go_ret
  all_goals refine ⟨ret_int ?_, rfl⟩
  all_goals (have g := flgs fl hf; simp_all [aheadF])
  all_goals (first | omega | ((repeat' split) <;> omega))

set_option maxHeartbeats 1000000 in
theorem Size_any (ty fl n : Nat) (w : World) (hf : fl < 256) :
    Calls Tryz.prog 75 #[.int .i64 (ty : Int), .int .i64 (fl : Int), .int .i64 (n : Int)] w fun e w' => e = .returned (.bool (sizeF ty fl n)) ∧ Below w.heap.size w w' := by
  have hA := fun w => Ahead_any ty fl w hf
  have hR : (n : Int).tmod 6 = ((n % 6 : Nat) : Int) := rfl
  have c : ty = 0 ∨ ty = 1 ∨ ty = 2 ∨ ty = 3 ∨ ty = 4 ∨ ty = 6 ∨ ty = 7 ∨ ty = 8 ∨ (ty ≠ 0 ∧ ty ≠ 1 ∧ ty ≠ 2 ∧ ty ≠ 3 ∧ ty ≠ 4 ∧ ty ≠ 6 ∧ ty ≠ 7 ∧ ty ≠ 8) := by omega
  rcases c with rfl | rfl | rfl | rfl | rfl | rfl | rfl | rfl | ⟨n0, n1, n2, n3, n4, n6, n7, n8⟩
  · obtain ⟨m, em⟩ : ∃ m, m = aheadF 0 fl := ⟨_, rfl⟩
    have e : sizeF 0 fl n = decide (n < m) := by rw [em]; rfl
    rw [e]
    rw [← em] at hA
    clear e em hR
    change Calls Tryz.prog 75 #[.int .i64 0, .int .i64 (fl : Int), .int .i64 (n : Int)] w _
    go_enter Tryz.func75, Tryz.ntmps75
    go_wp2_with (go_at_call 87; refine (hA _).mono ?_; rintro e w' ⟨rfl, rfl⟩)
    go_ret
    exact ⟨ret_b (by simp), (Below.refl _ _).alloc (Nat.le_refl _) _⟩
  · obtain ⟨m, em⟩ : ∃ m, m = aheadF 1 fl := ⟨_, rfl⟩
    have e : sizeF 1 fl n = decide (n < m) := by rw [em]; rfl
    rw [e]
    rw [← em] at hA
    clear e em hR
    change Calls Tryz.prog 75 #[.int .i64 1, .int .i64 (fl : Int), .int .i64 (n : Int)] w _
    go_enter Tryz.func75, Tryz.ntmps75
    go_wp2_with (go_at_call 87; refine (hA _).mono ?_; rintro e w' ⟨rfl, rfl⟩)
    go_ret
    exact ⟨ret_b (by simp), (Below.refl _ _).alloc (Nat.le_refl _) _⟩
  · have s1 := ibs n
    have g := flg1 fl hf
    have S1 := Lib.hid s1
    have G := Lib.hid g
    clear s1 g hA hR
    change Calls Tryz.prog 75 #[.int .i64 2, .int .i64 (fl : Int), .int .i64 (n : Int)] w _
    go_enter Tryz.func75, Tryz.ntmps75
    go_wp2
    all_goals go_ret
    all_goals refine ⟨ret_b ?_, (Below.refl _ _).alloc (Nat.le_refl _) _⟩
    all_goals (have g := G.out; clear G S1; first | (exact inb n _) | (simp_all [sizeF]; done) | (simp_all [sizeF]; omega) | (simp_all [sizeF]; (have a1 : fl % 2 = 1 := by omega); (have a2 : n % 6 = 0 := by omega); (have a3 : (fl : Int) % 2 = 1 := by omega); rw [a1, a2, a3]; exact inb n 0))
  · have s1 := ibs n
    have g := flg1 fl hf
    have S1 := Lib.hid s1
    have G := Lib.hid g
    clear s1 g hA hR
    change Calls Tryz.prog 75 #[.int .i64 3, .int .i64 (fl : Int), .int .i64 (n : Int)] w _
    go_enter Tryz.func75, Tryz.ntmps75
    go_wp2
    all_goals go_ret
    all_goals refine ⟨ret_b ?_, (Below.refl _ _).alloc (Nat.le_refl _) _⟩
    all_goals (have g := G.out; clear G S1; first | (exact inb n _) | (simp_all [sizeF]; done) | (simp_all [sizeF]; omega) | (simp_all [sizeF]; (have a1 : fl % 2 = 1 := by omega); (have a2 : n % 6 = 0 := by omega); (have a3 : (fl : Int) % 2 = 1 := by omega); rw [a1, a2, a3]; exact inb n 0))
  · have s1 := ibs n
    have g := flg1 fl hf
    have S1 := Lib.hid s1
    have G := Lib.hid g
    clear s1 g hA
    change Calls Tryz.prog 75 #[.int .i64 4, .int .i64 (fl : Int), .int .i64 (n : Int)] w _
    go_enter Tryz.func75, Tryz.ntmps75
    go_wp2
    all_goals go_ret
    all_goals refine ⟨ret_b ?_, (Below.refl _ _).alloc (Nat.le_refl _) _⟩
    all_goals (have g := G.out; clear G S1; first | (exact inb n _) | (simp_all [sizeF]; done) | (simp_all [sizeF]; omega) | (simp_all [sizeF]; (have a1 : fl % 2 = 1 := by omega); (have a2 : n % 6 = 0 := by omega); (have a3 : (fl : Int) % 2 = 1 := by omega); rw [a1, a2, a3]; exact inb n 0))
  · have s1 := ibs n
    have g := flg1 fl hf
    have S1 := Lib.hid s1
    have G := Lib.hid g
    clear s1 g hA hR
    change Calls Tryz.prog 75 #[.int .i64 6, .int .i64 (fl : Int), .int .i64 (n : Int)] w _
    go_enter Tryz.func75, Tryz.ntmps75
    go_wp2
    all_goals go_ret
    all_goals refine ⟨ret_b ?_, (Below.refl _ _).alloc (Nat.le_refl _) _⟩
    all_goals (have g := G.out; clear G S1; first | (exact inb n _) | (simp_all [sizeF]; done) | (simp_all [sizeF]; omega) | (simp_all [sizeF]; (have a1 : fl % 2 = 1 := by omega); (have a2 : n % 6 = 0 := by omega); (have a3 : (fl : Int) % 2 = 1 := by omega); rw [a1, a2, a3]; exact inb n 0))
  · have s1 := ibs n
    have g := flg1 fl hf
    have S1 := Lib.hid s1
    have G := Lib.hid g
    clear s1 g hA hR
    change Calls Tryz.prog 75 #[.int .i64 7, .int .i64 (fl : Int), .int .i64 (n : Int)] w _
    go_enter Tryz.func75, Tryz.ntmps75
    go_wp2
    all_goals go_ret
    all_goals refine ⟨ret_b ?_, (Below.refl _ _).alloc (Nat.le_refl _) _⟩
    all_goals (have g := G.out; clear G S1; first | (exact inb n _) | (simp_all [sizeF]; done) | (simp_all [sizeF]; omega) | (simp_all [sizeF]; (have a1 : fl % 2 = 1 := by omega); (have a2 : n % 6 = 0 := by omega); (have a3 : (fl : Int) % 2 = 1 := by omega); rw [a1, a2, a3]; exact inb n 0))
  · have s1 := ibs n
    have g := flg1 fl hf
    have S1 := Lib.hid s1
    have G := Lib.hid g
    clear s1 g hA hR
    change Calls Tryz.prog 75 #[.int .i64 8, .int .i64 (fl : Int), .int .i64 (n : Int)] w _
    go_enter Tryz.func75, Tryz.ntmps75
    go_wp2
    all_goals go_ret
    all_goals refine ⟨ret_b ?_, (Below.refl _ _).alloc (Nat.le_refl _) _⟩
    all_goals (have g := G.out; clear G S1; first | (exact inb n _) | (simp_all [sizeF]; done) | (simp_all [sizeF]; omega) | (simp_all [sizeF]; (have a1 : fl % 2 = 1 := by omega); (have a2 : n % 6 = 0 := by omega); (have a3 : (fl : Int) % 2 = 1 := by omega); rw [a1, a2, a3]; exact inb n 0))
  · have d0 : ((ty : Int) == 0) = false := i_ne (b := 0) n0
    have d1 : ((ty : Int) == 1) = false := i_ne (b := 1) n1
    have d2 : ((ty : Int) == 2) = false := i_ne (b := 2) n2
    have d3 : ((ty : Int) == 3) = false := i_ne (b := 3) n3
    have d4 : ((ty : Int) == 4) = false := i_ne (b := 4) n4
    have d6 : ((ty : Int) == 6) = false := i_ne (b := 6) n6
    have d7 : ((ty : Int) == 7) = false := i_ne (b := 7) n7
    have d8 : ((ty : Int) == 8) = false := i_ne (b := 8) n8
    have e : sizeF ty fl n = false := by simp [sizeF, n0, n1, n2, n3, n4, n6, n7, n8]
    rw [e]
    clear e hR hA n0 n1 n2 n3 n4 n6 n7 n8
    go_enter Tryz.func75, Tryz.ntmps75
    go_wp2
    go_ret
    exact ⟨rfl, (Below.refl _ _).alloc (Nat.le_refl _) _⟩
end Go.Proofs.YtmbakobindjjmaaGreatDoor
