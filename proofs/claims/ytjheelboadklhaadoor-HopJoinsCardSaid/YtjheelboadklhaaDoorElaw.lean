/- The plain law of elements: no program in sight. -/
import Derived.Test.YtjheelboadklhaaDoorBase2
namespace Go.Dr

theorem trimL_head (l : Bytes) (h : 0 < (trimL l).length) : isBlank (trimL l)[0] = false := by
  induction l with
  | nil => simp [trimL] at h
  | cons c l ih =>
    by_cases hc : isBlank c = true
    · have e : trimL (c :: l) = trimL l := by simp [trimL, hc]
      simp only [e] at h ⊢
      exact ih h
    · have e : trimL (c :: l) = c :: l := by simp [trimL, hc]
      simp only [e, List.getElem_cons_zero]
      simpa using hc
theorem trimL_idem (l : Bytes) : trimL (trimL l) = trimL l := trimL_no _ fun h => trimL_head l h
theorem trimR_idem (l : Bytes) : trimR (trimR l) = trimR l := by
  have := trimL_idem l.reverse
  simp only [trimR, trimL, List.reverse_reverse] at *
  rw [this]
theorem trim_idem (l : Bytes) : trim (trim l) = trim l := by
  unfold trim
  rw [trim_comm (trimL l), trimL_idem, trimR_idem]

theorem mem_trimL {c : UInt8} {l : Bytes} (h : c ∈ trimL l) : c ∈ l := (List.dropWhile_sublist _).subset h
theorem mem_trim {c : UInt8} {l : Bytes} (h : c ∈ trim l) : c ∈ l := by
  unfold trim trimR at h
  have h1 := (List.dropWhile_sublist _).subset (List.mem_reverse.1 h)
  exact mem_trimL (List.mem_reverse.1 h1)

/-- What an element is. -/
theorem fin_el {e s : Bytes} (h : e ∈ fin s) : trim e = e ∧ e ≠ [] := by
  unfold fin at h
  split at h
  · cases h
  · rename_i hs
    obtain rfl := List.mem_singleton.1 h
    exact ⟨trim_idem s, hs⟩
theorem el_el (r : Bytes) : ∀ (q t : Bool) (s e : Bytes), e ∈ el q t s r → trim e = e ∧ e ≠ [] := by
  induction r with
  | nil => intro q t s e h; exact fin_el h
  | cons c r ih =>
    intro q t s e h
    simp only [el] at h
    split at h
    · exact ih _ _ _ _ h
    · split at h
      · exact ih _ _ _ _ h
      · split at h
        · exact ih _ _ _ _ h
        · split at h
          · rcases List.mem_append.1 h with h | h
            · exact fin_el h
            · exact ih _ _ _ _ h
          · exact ih _ _ _ _ h
theorem elems_el {e l : Bytes} (h : e ∈ elems l) : trim e = e ∧ e ≠ [] := el_el l _ _ _ _ h

/-- Without quotes there is no quote and no comma in any element. -/
theorem el_clean (r : Bytes) : ∀ (s e : Bytes), (∀ c ∈ r, c ≠ 34) → (∀ c ∈ s, c ≠ 34 ∧ c ≠ 44) → e ∈ el false false s r → ∀ c ∈ e, c ≠ 34 ∧ c ≠ 44 := by
  have hfin : ∀ (s e : Bytes), (∀ c ∈ s, c ≠ 34 ∧ c ≠ 44) → e ∈ fin s → ∀ c ∈ e, c ≠ 34 ∧ c ≠ 44 := by
    intro s e hs h c hc
    unfold fin at h
    split at h
    · cases h
    · obtain rfl := List.mem_singleton.1 h
      exact hs c (mem_trim hc)
  induction r with
  | nil => intro s e _ hs h; exact hfin s e hs h
  | cons d r ih =>
    intro s e hr hs h
    have hd := hr d (by simp)
    have hr' : ∀ c ∈ r, c ≠ 34 := fun c hc => hr c (List.mem_cons_of_mem _ hc)
    by_cases h44 : d = 44
    · subst h44
      simp [el] at h
      rcases h with h | h
      · exact hfin s e hs h
      · exact ih [] e hr' (by simp) h
    · simp [el, hd, h44] at h
      refine ih (s ++ [d]) e hr' ?_ h
      intro c hc
      rcases List.mem_append.1 hc with hc | hc
      · exact hs c hc
      · obtain rfl := List.mem_singleton.1 hc
        exact ⟨hd, h44⟩

/-- Elements put together again. -/
def allJ (l : List Bytes) : Bytes := l.flatMap fun e => e ++ [32, 44]
theorem allJ_snoc (l : List Bytes) (k : Nat) (h : k < l.length) : allJ (l.take (k + 1)) = allJ (l.take k) ++ l[k] ++ [32, 44] := by
  rw [take_snoc l k h]
  simp only [allJ, List.flatMap_append, List.flatMap_cons, List.flatMap_nil, List.append_nil, List.append_assoc]
theorem allJ_length (l : List Bytes) : (allJ l).length ≤ 2 * ssum l := by
  induction l with
  | nil => simp [allJ]
  | cons e l ih => simp only [allJ, List.flatMap_cons, List.length_append, ssum_cons, List.length_cons, List.length_nil] at *; omega
theorem el_run (e : Bytes) : ∀ (s r : Bytes), (∀ c ∈ e, c ≠ 34 ∧ c ≠ 44) → el false false s (e ++ r) = el false false (s ++ e) r := by
  induction e with
  | nil => intro s r _; simp
  | cons c e ih =>
    intro s r h
    have hc := h c (by simp)
    have := ih (s ++ [c]) r (fun d hd => h d (List.mem_cons_of_mem _ hd))
    simp only [List.append_assoc, List.singleton_append] at this
    rw [← this]
    simp [el, hc.1, hc.2]
theorem trimR_blank (e : Bytes) : trimR (e ++ [32]) = trimR e := by
  simp only [trimR, List.reverse_append, List.reverse_cons, List.reverse_nil, List.nil_append, List.singleton_append, List.dropWhile_cons]
  rfl
theorem trim_blank (e : Bytes) : trim (e ++ [32]) = trim e := by
  unfold trim
  rw [← trim_comm, trimR_blank, trim_comm]
theorem elems_again (l : List Bytes) (h : ∀ e ∈ l, trim e = e ∧ e ≠ []) (h2 : ∀ e ∈ l, ∀ c ∈ e, c ≠ 34 ∧ c ≠ 44) : elems (allJ l) = l := by
  induction l with
  | nil => rfl
  | cons e l ih =>
    obtain ⟨h3, h4⟩ := h e (by simp)
    have ih := ih (fun e' he => h e' (List.mem_cons_of_mem _ he)) (fun e' he => h2 e' (List.mem_cons_of_mem _ he))
    have hf : fin (e ++ [32]) = [e] := by
      unfold fin
      rw [trim_blank, h3, if_neg h4]
    show el false false [] ((e ++ [32, 44]) ++ allJ l) = _
    have e1 : (e ++ [32, 44]) ++ allJ l = (e ++ [32]) ++ (44 :: allJ l) := by simp
    rw [e1, el_run _ [] _ ?_]
    · simp only [List.nil_append]
      have e2 : el false false (e ++ [32]) (44 :: allJ l) = fin (e ++ [32]) ++ elems (allJ l) := by simp [el, elems]
      rw [e2, hf, ih]
      rfl
    · intro c hc
      rcases List.mem_append.1 hc with hc | hc
      · exact h2 e (by simp) c hc
      · obtain rfl := List.mem_singleton.1 hc
        decide
theorem elems_twice (l : Bytes) (h : ∀ c ∈ l, c ≠ 34) : elems (allJ (elems l)) = elems l :=
  elems_again _ (fun _ he => elems_el he) fun e he => el_clean l [] e h (by simp) he

end Go.Dr
