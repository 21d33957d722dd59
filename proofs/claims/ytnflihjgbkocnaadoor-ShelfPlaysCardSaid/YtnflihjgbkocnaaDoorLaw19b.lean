
/- The walk of layer 19's law: what the document fixes of a shelf. -/
import Derived.Test.YtnflihjgbkocnaaDoorShf6
import Derived.Test.YtnflihjgbkocnaaDoorShq5
import Derived.Test.YtnflihjgbkocnaaDoorShq8
namespace Go.Proofs.YtnflihjgbkocnaaDoor
open Go.RowKit Go.Dr

set_option linter.unusedSimpArgs false in
set_option linter.unusedVariables false in
set_option linter.unnecessarySimpa false in
theorem sh_new {fb rb : Nat} {w : World} {R : Nat} {most : Int} (h1 : Blk w R 57 (K.zero.cells R R)) (h2 : w.heap[R + 1]? = some (.map #[] 0)) (h3 : Blk w (R + 2) 60 #[.int .i64 most, .int .i64 0, .int .i64 0, Ptr R, .map (some (R + 1))]) (hb : fb ≤ R) (hm : 0 ≤ most) (hm1 : most ≤ 1048576) : Sh fb rb w (R + 2) R (R + 1) most 0 [] where
  blk := h3
  ring := ring_none _ _ _ h1
  map := PMap.made h2
  rows := by simp
  base := by
    rintro k (e | e | e | hk)
    · omega
    · omega
    · omega
    · cases hk
  room := hm
  most1 := hm1

set_option linter.unusedSimpArgs false in
set_option linter.unusedVariables false in
set_option linter.unnecessarySimpa false in
set_option maxRecDepth 100000 in
set_option maxHeartbeats 4000000 in
theorem awake19_any (w : World) : Calls Tryd.prog 4 #[] w fun e w' => e = .returned (.bool true) ∧ Below w.heap.size w w' := by
  have HN := New_any 300 (by omega) (by omega) w
  go_enter Tryd.func4, Tryd.ntmps4
  go_wp2_with fail
  refine HN.mono ?_
  rintro e w1 ⟨rfl, hb1, n1, n2, n3⟩
  have hs1 : Sh w.heap.size w.heap.size w1 (w.heap.size + 2) w.heap.size (w.heap.size + 1) 300 0 [] := sh_new n1 n2 n3 (Nat.le_refl _) (by omega) (by omega)
  have hP := Put_any w.heap.size w.heap.size (w.heap.size + 2) w.heap.size (w.heap.size + 1) 300 0 [] ⟨[97], .slice none 0 0, 0, .slice none 0 0, [120], 0, 0⟩ [] [] w1 hs1 hb1.size hb1.size (fun w' _ => Rd.nil _ _ _) (fun w' _ => Rd.nil _ _ _) (by simp) (by simp) (by simp [fsum]) (by simp [fsum]) (by simp) (by omega) 300 rfl (by decide)
  have hB1 : w.heap.size ≤ w1.heap.size := hb1.size
  obtain ⟨B, hB0⟩ : ∃ B, B = w.heap.size := ⟨_, rfl⟩
  rw [← hB0] at hb1 n1 n2 n3 hs1 hP hB1
  have HB := Lib.hid hB0
  rw [← hB0]
  clear HN n1 n2 n3 hB0
  go_wp2_with fail
  refine hP.mono ?_
  rintro e w2 ⟨rfl, nd, hnx, hnb, hs2, hb2⟩
  have hs2 : Sh B B w2 (B + 2) B (B + 1) 300 1 [nd] := hs2
  have hF := Find_any B B (B + 2) B (B + 1) 300 1 _ [97] (.slice none 0 0) [] w2 hs2 (Rd.nil _ _ _) (by simp [fsum])
  have hft : ∀ k, Foot (B + 2) B (B + 1) ([] : List Nd) k → B ≤ k := hs1.base
  have hw2 : Below B w w2 := hb1.trans ((hb2.below hft hB1))
  have hw12 := hb2.size
  clear hP hs1 hb2 hb1
  go_wp2_with fail
  refine hF.mono ?_
  rintro e w3 (⟨hno, -, -⟩ | ⟨a, n, b, v, hl, hbo, rfl, hret, hs3, hb3⟩)
  · exfalso
    revert hno
    simp [bestOf, better, takes, hnx, It.of, matchP]
  · have hn : n = nd := by
      have : n ∈ [nd] := by rw [hl]; simp
      simpa using this
    subst hn
    have hab : a = [] ∧ b = [] := by
      cases a with
      | nil => simpa using hl
      | cons x a => simp at hl
    obtain ⟨rfl, rfl⟩ := hab
    obtain ⟨vp, vf, rfl, o1, o2⟩ := hret
    obtain ⟨ap, kp, rfl, -⟩ := (Fs.own o1).form
    obtain ⟨af, kf, rfl, -⟩ := (Fs.own o2).form
    have hby : ∀ o, (w3.alloc o).cell? ⟨B + 2, 1, none⟩ = some (.int .i64 66) := fun o => by
      rw [(hs3.blk.alloc o).cell 1]
      simp [hnx, It.of, costs, It.cost, fsum]
    have hft2 : ∀ k, Foot (B + 2) B (B + 1) [n] k → B ≤ k := hs2.base
    have hw3 : Below B w w3 := hw2.trans (hb3.below hft2 (Nat.le_trans hB1 hw12))
    obtain ⟨nb, nvp, nvf, nx⟩ := n
    simp only at hnx
    subst hnx
    simp only [It.of] at *
    have hB3 : B ≤ w3.heap.size := Nat.le_trans (Nat.le_trans hB1 hw12) hb3.size
    clear hl hbo o1 o2 hs3 hb3 hs2 hF hw2 hft hft2
    go_wp2_with fail
    refine (Bytes_any (B + 2) 66 _ (hby _)).mono ?_
    rintro e w4 ⟨rfl, rfl⟩
    go_wp2
    go_ret
    exact ⟨rfl, by rw [← HB.out]; exact hw3.alloc hB3 _⟩
end Go.Proofs.YtnflihjgbkocnaaDoor
