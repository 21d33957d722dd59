/- HopJoins. -/
import Derived.Test.YtjheelboadklhaaDoorLawb
import Derived.Test.YtjheelboadklhaaDoorElaw
import Derived.Test.YtjheelboadklhaaDoorLawe
namespace Go.Proofs.YtjheelboadklhaaDoor
open Go.RowKit Go.Dr

theorem el_join (x : Bytes) : ∀ (s r : Bytes), (∀ c ∈ x, c ≠ 34) → el false false s (x ++ 44 :: r) = el false false s x ++ el false false [] r := by
  induction x with
  | nil => intro s r _; simp [el]
  | cons c x ih =>
    intro s r h
    have hc : c ≠ 34 := h c (List.mem_cons_self ..)
    have hx : ∀ c ∈ x, c ≠ 34 := fun d hd => h d (List.mem_cons_of_mem _ hd)
    by_cases h44 : c = 44
    · subst h44
      simp only [List.cons_append, el]
      simp [ih _ _ hx]
    · simp only [List.cons_append, el]
      simp [hc, h44, ih _ _ hx]
theorem trim_lead (s : Bytes) : trim (32 :: s) = trim s := by simp [trim, trimL, isBlank]
theorem el_lead (r : Bytes) : ∀ s : Bytes, (∀ c ∈ r, c ≠ 34) → el false false (32 :: s) r = el false false s r := by
  induction r with
  | nil => intro s _; simp [el, fin, trim_lead]
  | cons c r ih =>
    intro s h
    have hc : c ≠ 34 := h c (List.mem_cons_self ..)
    have hr : ∀ c ∈ r, c ≠ 34 := fun d hd => h d (List.mem_cons_of_mem _ hd)
    simp only [el, List.cons_append, ih _ hr]
    simp [hc, fin, trim_lead]
theorem elems_lead (r : Bytes) (h : ∀ c ∈ r, c ≠ 34) : elems (32 :: r) = elems r := by
  show el false false [] (32 :: r) = _
  rw [show el false false [] (32 :: r) = el false false (32 :: []) r by simp [el]]
  exact el_lead r [] h
theorem joinS_two (x y : Bytes) (r : List Bytes) : joinS (x :: y :: r) = x ++ 44 :: (32 :: joinS (y :: r)) := by
  simp [joinS, Lib.join_cons, Lib.joinTail]
theorem mem_joinS {c : UInt8} : ∀ {vs : List Bytes}, c ∈ joinS vs → c = 44 ∨ c = 32 ∨ ∃ x ∈ vs, c ∈ x := by
  intro vs
  induction vs with
  | nil => intro h; simp [joinS, Lib.join_nil] at h
  | cons x r ih =>
    intro h
    cases r with
    | nil => simp only [joinS, Lib.join_one] at h; exact .inr (.inr ⟨x, List.mem_cons_self .., h⟩)
    | cons y r =>
      rw [joinS_two, List.mem_append, List.mem_cons, List.mem_cons] at h
      rcases h with h | h | h | h
      · exact .inr (.inr ⟨x, List.mem_cons_self .., h⟩)
      · exact .inl h
      · exact .inr (.inl h)
      · rcases ih h with h | h | ⟨z, hz, h⟩
        · exact .inl h
        · exact .inr (.inl h)
        · exact .inr (.inr ⟨z, List.mem_cons_of_mem _ hz, h⟩)
theorem elems_join (vs : List Bytes) (h : ∀ x ∈ vs, ∀ c ∈ x, c ≠ 34) : elems (joinS vs) = vs.flatMap elems := by
  induction vs with
  | nil => simp [joinS, Lib.join_nil, elems, el, fin, trim, trimL, trimR]
  | cons x r ih =>
    have hr := ih fun y hy => h y (List.mem_cons_of_mem _ hy)
    cases r with
    | nil => simp [joinS, Lib.join_one]
    | cons y r =>
      have hj : ∀ c ∈ joinS (y :: r), c ≠ 34 := by
        intro c hc
        rcases mem_joinS hc with e | e | ⟨z, hz, e⟩
        · rw [e]; decide
        · rw [e]; decide
        · exact h z (List.mem_cons_of_mem _ hz) c e
      rw [List.flatMap_cons, ← hr]
      rw [joinS_two, show elems (x ++ 44 :: (32 :: joinS (y :: r))) = elems x ++ elems (32 :: joinS (y :: r)) from el_join x [] _ (h x (List.mem_cons_self ..)), elems_lead _ hj]

def pairF (x : Bytes) : List F := [⟨[97], x, false⟩, ⟨[98], [120, 44, 121], false⟩]
def pairs (vs : List Bytes) : List F := vs.flatMap pairF
theorem pairs_snoc (l : List Bytes) (k : Nat) (h : k < l.length) : pairs (l.take (k + 1)) = pairs (l.take k) ++ pairF l[k] := by
  rw [List.take_succ_eq_append_getElem h, pairs, pairs, List.flatMap_append, List.flatMap_cons, List.flatMap_nil, List.append_nil]
theorem values_pairs (vs : List Bytes) : values (pairs vs) [65] = vs := by
  induction vs with
  | nil => rfl
  | cons x r ih =>
    have h1 : same [97] [65] = true := by decide
    have h2 : same [98] [65] = false := by decide
    have e : values (pairs (x :: r)) [65] = x :: values (pairs r) [65] := by simp [values, pairs, pairF, h1, h2]
    rw [e, ih]
theorem pairs_length (vs : List Bytes) : (pairs vs).length = 2 * vs.length := by
  induction vs with
  | nil => rfl
  | cons x r ih =>
    have e : (pairs (x :: r)).length = 2 + (pairs r).length := by simp [pairs, pairF]; omega
    rw [e, ih, List.length_cons]; omega
theorem fsum_pairs (vs : List Bytes) (h : ∀ x ∈ vs, x.length ≤ 100) : fsum (pairs vs) ≤ 200 * vs.length := by
  induction vs with
  | nil => exact Nat.zero_le _
  | cons x r ih =>
    have hx := h x (List.mem_cons_self ..)
    have e : fsum (pairs (x :: r)) = x.length + 69 + fsum (pairs r) := by simp [pairs, pairF, fsum]; omega
    have := ih fun y hy => h y (List.mem_cons_of_mem _ hy)
    rw [e, List.length_cons]; omega
theorem ssum_small (vs : List Bytes) (h : ∀ x ∈ vs, x.length ≤ 100) : ssum vs ≤ 101 * vs.length := by
  induction vs with
  | nil => exact Nat.zero_le _
  | cons x r ih =>
    have hx := h x (List.mem_cons_self ..)
    have := ih fun y hy => h y (List.mem_cons_of_mem _ hy)
    rw [ssum_cons, List.length_cons]; omega
theorem mem_take_succ {α : Type} {l : List α} {k : Nat} (h : k < l.length) {x : α} (hx : x ∈ l.take (k + 1)) : x ∈ l.take k ∨ x = l[k] := by
  rw [List.take_succ_eq_append_getElem h, List.mem_append, List.mem_singleton] at hx
  exact hx
end Go.Proofs.YtjheelboadklhaaDoor
