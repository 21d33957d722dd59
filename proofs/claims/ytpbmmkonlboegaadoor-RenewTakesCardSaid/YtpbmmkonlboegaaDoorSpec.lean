
/- What the words of the document are, as plain functions on lists: no program in sight. -/
import Derived.Test.YtpbmmkonlboegaaDoorBase
namespace Go.Dr

/-- A byte's small letter. -/
def lowB (c : UInt8) : UInt8 := if 65 ≤ c.toNat ∧ c.toNat ≤ 90 then c + 32 else c
def low (l : Bytes) : Bytes := l.map lowB
def same (a b : Bytes) : Bool := low a == low b
theorem low_length (l : Bytes) : (low l).length = l.length := by simp [low]

/-- The bytes when k of them have been made small. -/
def lowTo (l : Bytes) (k : Nat) : Bytes := low (l.take k) ++ l.drop k
theorem lowTo_length (l : Bytes) (k : Nat) : (lowTo l k).length = l.length := by
  simp [lowTo, low]
  omega
theorem lowTo_zero (l : Bytes) : lowTo l 0 = l := by simp [lowTo, low]
theorem lowTo_all (l : Bytes) (k : Nat) (h : l.length ≤ k) : lowTo l k = low l := by
  simp [lowTo, List.take_of_length_le h, List.drop_eq_nil_of_le h]
theorem lowTo_get (l : Bytes) (k : Nat) (h : k < l.length) : (lowTo l k)[k]'(by rw [lowTo_length]; exact h) = l[k] := by
  have e : min k l.length = k := by omega
  simp [lowTo, low, e]
theorem lowTo_set (l : Bytes) (k : Nat) (h : k < l.length) : (lowTo l k).set k (lowB l[k]) = lowTo l (k + 1) := by
  have hlen : (low (l.take k)).length = k := by simp [low]; omega
  have h1 : l.take (k + 1) = l.take k ++ [l[k]] := by rw [List.take_succ_eq_append_getElem h]
  have h2 : l.drop k = l[k] :: l.drop (k + 1) := List.drop_eq_getElem_cons h
  unfold lowTo
  rw [h1, h2, List.set_append_right _ _ (by omega), hlen, Nat.sub_self, List.set_cons_zero]
  simp only [low, List.map_append, List.map_cons, List.map_nil, List.append_assoc, List.singleton_append]
theorem lowTo_skip (l : Bytes) (k : Nat) (h : k < l.length) (h1 : lowB l[k] = l[k]) : lowTo l k = lowTo l (k + 1) := by
  rw [← lowTo_set l k h, h1]
  apply List.ext_getElem?
  intro j
  rw [List.getElem?_set]
  by_cases e : k = j
  · subst e
    have := lowTo_get l k h
    simp [lowTo_length, h, this]
  · simp [e]
theorem lowB_up (c : UInt8) (h1 : 65 ≤ c.toNat) (h2 : c.toNat ≤ 90) : ((lowB c).toNat : Int) = c.toNat + 32 := by
  unfold lowB
  rw [if_pos ⟨h1, h2⟩, UInt8.toNat_add]
  have : (32 : UInt8).toNat = 32 := rfl
  omega
theorem lowB_no (c : UInt8) (h : ¬ (65 ≤ c.toNat ∧ c.toNat ≤ 90)) : lowB c = c := if_neg h

/-- Blanks, and a text without the blanks at its ends. -/
def isBlank (c : UInt8) : Bool := c == 32 || c == 9
def trimL (l : Bytes) : Bytes := l.dropWhile isBlank
def trimR (l : Bytes) : Bytes := (l.reverse.dropWhile isBlank).reverse
def trim (l : Bytes) : Bytes := trimR (trimL l)
theorem trimL_length (l : Bytes) : (trimL l).length ≤ l.length := by
  unfold trimL
  induction l with
  | nil => simp
  | cons c l ih => rw [List.dropWhile_cons]; split <;> simp; omega
theorem trimR_length (l : Bytes) : (trimR l).length ≤ l.length := by
  have := trimL_length l.reverse
  simpa [trimR, trimL] using this
theorem trim_length (l : Bytes) : (trim l).length ≤ l.length := Nat.le_trans (trimR_length _) (trimL_length _)
theorem trimL_yes (l : Bytes) (h : 0 < l.length) (hb : isBlank l[0] = true) : trimL l.tail = trimL l := by
  cases l with
  | nil => simp at h
  | cons c l => simp at hb; simp [trimL, hb]
theorem trimL_no (l : Bytes) (h : ∀ h : 0 < l.length, isBlank l[0] = false) : trimL l = l := by
  cases l with
  | nil => rfl
  | cons c l => have := h (by simp); simp at this; simp [trimL, this]
theorem trimR_yes (l : Bytes) (h : 0 < l.length) (hb : isBlank l[l.length - 1] = true) : trimR (l.take (l.length - 1)) = trimR l := by
  have e : l = l.take (l.length - 1) ++ [l[l.length - 1]] := by
    conv => lhs; rw [← List.take_length (l := l)]
    have := List.take_succ_eq_append_getElem (l := l) (i := l.length - 1) (by omega)
    rw [← this]
    congr 1
    omega
  generalize l[l.length - 1] = c at *
  generalize l.take (l.length - 1) = r at *
  subst e
  simp [trimR, hb]
theorem trimR_no (l : Bytes) (h : ∀ h : 0 < l.length, isBlank l[l.length - 1] = false) : trimR l = l := by
  by_cases h0 : 0 < l.length
  · have hb := h h0
    have e : l = l.take (l.length - 1) ++ [l[l.length - 1]] := by
      conv => lhs; rw [← List.take_length (l := l)]
      have := List.take_succ_eq_append_getElem (l := l) (i := l.length - 1) (by omega)
      rw [← this]
      congr 1
      omega
    clear h
    generalize l[l.length - 1] = c at *
    generalize l.take (l.length - 1) = r at *
    subst e
    simp [trimR, hb]
  · have : l = [] := List.eq_nil_of_length_eq_zero (by omega)
    subst this
    rfl

theorem trimR_cons (c : UInt8) (l : Bytes) : trimR (c :: l) = if trimR l = [] then (if isBlank c then [] else [c]) else c :: trimR l := by
  unfold trimR
  rw [List.reverse_cons, List.dropWhile_append]
  by_cases h : (l.reverse.dropWhile isBlank) = []
  · simp only [h, List.isEmpty_nil, if_true, List.reverse_nil]
    rw [List.dropWhile_cons]
    by_cases hc : isBlank c <;> simp [hc]
  · have h' : (l.reverse.dropWhile isBlank).isEmpty = false := by simpa using h
    simp [h', h]
theorem trim_comm (l : Bytes) : trimL (trimR l) = trimR (trimL l) := by
  induction l with
  | nil => rfl
  | cons c l ih =>
    by_cases hc : isBlank c = true
    · have e : trimL (c :: l) = trimL l := by simp [trimL, hc]
      rw [e, ← ih, trimR_cons]
      by_cases h : trimR l = []
      · simp [h, hc]
      · simp only [h, if_false]
        simp [trimL, hc]
    · have e : trimL (c :: l) = c :: l := by simp [trimL, hc]
      rw [e, trimR_cons]
      by_cases h : trimR l = []
      · simp [h, hc, trimL]
      · simp only [h, if_false]
        simp [trimL, hc]

/-- What a piece between commas gives. -/
def fin (s : Bytes) : List Bytes := if trim s = [] then [] else [trim s]
/-- The elements of what is left of a value: within quotes? is the next byte taken along? what stands already of the piece. -/
def el (q t : Bool) (s : Bytes) : Bytes → List Bytes
  | [] => fin s
  | c :: r =>
    if t then el q false (s ++ [c]) r
    else if q && c == 92 then el q true (s ++ [c]) r
    else if c == 34 then el (!q) false (s ++ [c]) r
    else if c == 44 && !q then fin s ++ el false false [] r
    else el q false (s ++ [c]) r
def elems (l : Bytes) : List Bytes := el false false [] l

theorem drop_get (l : Bytes) (k : Nat) (h : k < l.length) : l.drop k = l[k] :: l.drop (k + 1) := List.drop_eq_getElem_cons h
theorem el_taken (q : Bool) (s l : Bytes) (k : Nat) (h : k < l.length) : el q true s (l.drop k) = el q false (s ++ [l[k]]) (l.drop (k + 1)) := by
  rw [drop_get l k h]; simp [el]
theorem el_stroke (s l : Bytes) (k : Nat) (h : k < l.length) (hc : l[k] = 92) : el true false s (l.drop k) = el true true (s ++ [l[k]]) (l.drop (k + 1)) := by
  rw [drop_get l k h]; simp [el, hc]
theorem el_quote (q : Bool) (s l : Bytes) (k : Nat) (h : k < l.length) (hc : l[k] = 34) : el q false s (l.drop k) = el (!q) false (s ++ [l[k]]) (l.drop (k + 1)) := by
  rw [drop_get l k h]; simp [el, hc]
theorem el_comma (s l : Bytes) (k : Nat) (h : k < l.length) (hc : l[k] = 44) : el false false s (l.drop k) = fin s ++ el false false [] (l.drop (k + 1)) := by
  rw [drop_get l k h]; simp [el, hc]
theorem el_plain (q : Bool) (s l : Bytes) (k : Nat) (h : k < l.length) (h1 : q = true → l[k] ≠ 92) (h2 : l[k] ≠ 34) (h3 : q = false → l[k] ≠ 44) : el q false s (l.drop k) = el q false (s ++ [l[k]]) (l.drop (k + 1)) := by
  rw [drop_get l k h]
  cases q <;> simp_all [el]
theorem el_end (q t : Bool) (s l : Bytes) (k : Nat) (h : l.length ≤ k) : el q t s (l.drop k) = fin s := by
  rw [List.drop_eq_nil_of_le h]; rfl

/-- How far the reference has come: what it has, the piece in hand, the place. -/
def elTail (l : Bytes) (out : List Bytes) (s : Bytes) (k : Nat) : List Bytes := if k ≤ l.length then out ++ el false false s (l.drop k) else out
theorem elTail_zero (l : Bytes) : elTail l [] [] 0 = elems l := by simp [elTail, elems]
theorem elTail_put (l : Bytes) (out : List Bytes) (s : Bytes) (k : Nat) (hk : k ≤ l.length) (h : ∀ h : k < l.length, l[k] = 44) : elTail l (out ++ fin s) [] (k + 1) = elTail l out s k := by
  unfold elTail
  rw [if_pos hk]
  by_cases h1 : k < l.length
  · rw [if_pos (by omega), el_comma s l k h1 (h h1), List.append_assoc]
  · rw [if_neg (by omega), el_end _ _ _ _ _ (by omega)]
theorem elTail_plain (l : Bytes) (out : List Bytes) (s : Bytes) (k : Nat) (hk : k < l.length) (h2 : l[k] ≠ 34) (h3 : l[k] ≠ 44) : elTail l out (s ++ [l[k]]) (k + 1) = elTail l out s k := by
  unfold elTail
  rw [if_pos (by omega), if_pos (by omega), el_plain false s l k hk (by simp) h2 (fun _ => h3)]
theorem fin_nil (s : Bytes) (h : trim s = []) : fin s = [] := by simp [fin, h]
theorem fin_one (s : Bytes) (h : trim s ≠ []) : fin s = [trim s] := by simp [fin, h]

theorem el_quoted_end (out : List Bytes) (l s : Bytes) (j : Nat) (h : j + 1 = l.length) : elTail l out s (j + 1) = out ++ el true false s (l.drop (j + 1)) := by
  unfold elTail
  rw [if_pos (by omega), el_end _ _ _ _ _ (by omega), el_end _ _ _ _ _ (by omega)]
theorem el_quoted_out (out : List Bytes) (l s : Bytes) (j : Nat) (h : j + 1 < l.length) (hc : l[j + 1] = 34) : elTail l out (s ++ [l[j + 1]]) (j + 1 + 1) = out ++ el true false s (l.drop (j + 1)) := by
  unfold elTail
  rw [if_pos (by omega), el_quote true s l (j + 1) h hc]
  rfl
theorem el_quoted_on (out : List Bytes) (l s : Bytes) (j : Nat) (h : j + 1 < l.length) (h1 : l[j + 1] ≠ 34) (h2 : l[j + 1] ≠ 92) : out ++ el true false (s ++ [l[j + 1]]) (l.drop (j + 1 + 1)) = out ++ el true false s (l.drop (j + 1)) := by
  rw [el_plain true s l (j + 1) h (fun _ => h2) h1 (by simp)]
theorem el_quoted_two (out : List Bytes) (l s : Bytes) (j : Nat) (h : j + 1 + 1 < l.length) (hc : l[j + 1] = 92) : out ++ el true false (s ++ [l[j + 1]] ++ [l[j + 1 + 1]]) (l.drop (j + 1 + 1 + 1)) = out ++ el true false s (l.drop (j + 1)) := by
  rw [el_stroke s l (j + 1) (by omega) hc, el_taken true _ l (j + 1 + 1) h]
theorem el_quoted_last (out : List Bytes) (l s : Bytes) (j : Nat) (h : j + 1 < l.length) (h1 : ¬ j + 1 + 1 < l.length) (hc : l[j + 1] = 92) : out ++ el true false (s ++ [l[j + 1]]) (l.drop (j + 1 + 1)) = out ++ el true false s (l.drop (j + 1)) := by
  rw [el_stroke s l (j + 1) h hc, el_end _ _ _ _ _ (by omega), el_end _ _ _ _ _ (by omega)]

theorem piece_snoc (l : Bytes) (fr k : Nat) (h : k < l.length) (hf : fr ≤ k) : (l.take (k + 1)).drop fr = (l.take k).drop fr ++ [l[k]] := by
  rw [List.take_succ_eq_append_getElem h, List.drop_append_of_le_length (by simp; omega)]
theorem piece_none (l : Bytes) (k : Nat) : (l.take k).drop k = [] := List.drop_eq_nil_of_le (by simp; omega)

/-- The values of a name; the elements of all of them; is a name among some; the list without some names. -/
def values (l : List F) (name : Bytes) : List Bytes := (l.filter fun f => same f.n name).map F.v
def allOf (l : List F) (name : Bytes) : List Bytes := (values l name).flatMap elems
def among (name : Bytes) (names : List Bytes) : Bool := names.any (same name)
def without (l : List F) (names : List Bytes) : List F := l.filter fun f => !among f.n names
theorem values_snoc (l : List F) (k : Nat) (h : k < l.length) (name : Bytes) : values (l.take (k + 1)) name = values (l.take k) name ++ (if same l[k].n name then [l[k].v] else []) := by
  rw [take_snoc l k h]
  simp only [values, List.filter_append, List.map_append]
  congr 1
  by_cases hs : same l[k].n name = true <;> simp [hs]
theorem values_length (l : List F) (name : Bytes) : (values l name).length ≤ l.length := by
  simp [values]
  exact List.length_filter_le _ _
theorem without_snoc (l : List F) (k : Nat) (h : k < l.length) (names : List Bytes) : without (l.take (k + 1)) names = without (l.take k) names ++ (if among l[k].n names then [] else [l[k]]) := by
  rw [take_snoc l k h]
  simp only [without, List.filter_append]
  congr 1
  by_cases hs : among l[k].n names = true <;> simp [hs]
theorem without_length (l : List F) (names : List Bytes) : (without l names).length ≤ l.length := List.length_filter_le _ _

/-- How many letters, and one more for each, there are in a list of texts. -/
def ssum (l : List Bytes) : Nat := (l.map fun s => s.length + 1).sum
theorem ssum_append (a b : List Bytes) : ssum (a ++ b) = ssum a + ssum b := by simp [ssum]
theorem ssum_cons (a : Bytes) (b : List Bytes) : ssum (a :: b) = a.length + 1 + ssum b := by simp [ssum]
theorem ssum_length (l : List Bytes) : l.length ≤ ssum l := by
  induction l with
  | nil => simp [ssum]
  | cons g l ih => rw [ssum_cons, List.length_cons]; omega
theorem ssum_mem {l : List Bytes} {s : Bytes} (h : s ∈ l) : s.length + 1 ≤ ssum l := by
  induction l with
  | nil => cases h
  | cons g l ih =>
    rw [ssum_cons]
    cases h with
    | head => omega
    | tail _ h => have := ih h; omega
theorem ssum_take (l : List Bytes) (k : Nat) : ssum (l.take k) ≤ ssum l := by
  conv => rhs; rw [← List.take_append_drop k l]
  rw [ssum_append]
  omega
theorem ssum_fin (s : Bytes) : ssum (fin s) ≤ s.length + 1 := by
  unfold fin
  have := trim_length s
  split <;> simp [ssum]; omega
theorem ssum_el (r : Bytes) : ∀ (q t : Bool) (s : Bytes), ssum (el q t s r) ≤ s.length + r.length + 1 := by
  induction r with
  | nil => intro q t s; have := ssum_fin s; simp [el]; omega
  | cons c r ih =>
    intro q t s
    have h1 := ih q false (s ++ [c])
    have h2 := ih q true (s ++ [c])
    have h3 := ih (!q) false (s ++ [c])
    have h4 := ih false false []
    have h5 := ssum_fin s
    simp only [List.length_append, List.length_cons, List.length_nil] at *
    simp only [el]
    split
    · omega
    · split
      · omega
      · split
        · omega
        · split
          · rw [ssum_append]; omega
          · omega
theorem ssum_elems (l : Bytes) : ssum (elems l) ≤ l.length + 1 := by
  have := ssum_el l false false []
  simpa [elems] using this
theorem ssum_values (l : List F) (name : Bytes) : ssum (values l name) ≤ fsum l := by
  have h := fsum_filter l (fun f => same f.n name)
  refine Nat.le_trans ?_ h
  unfold values
  generalize l.filter (fun f => same f.n name) = r
  induction r with
  | nil => simp [ssum]
  | cons g r ih => simp only [List.map_cons, ssum_cons, fsum, List.sum_cons] at *; omega
theorem ssum_flat (l : List Bytes) : ssum (l.flatMap elems) ≤ ssum l := by
  induction l with
  | nil => simp
  | cons g l ih => rw [List.flatMap_cons, ssum_append, ssum_cons]; have := ssum_elems g; omega
theorem ssum_all (l : List F) (name : Bytes) : ssum (allOf l name) ≤ fsum l := Nat.le_trans (ssum_flat _) (ssum_values l name)
theorem flat_snoc (l : List Bytes) (k : Nat) (h : k < l.length) : (l.take (k + 1)).flatMap elems = (l.take k).flatMap elems ++ elems l[k] := by
  rw [take_snoc l k h, List.flatMap_append, List.flatMap_cons, List.flatMap_nil, List.append_nil]

end Go.Dr
