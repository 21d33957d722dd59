
/- The plain laws of layer 20's statements on what is given: no program is walked here. -/
import Derived.Test.YtghggooaaefdcaaDoorAns6
namespace Go.Dr
/-- A text between quotes. -/
def qt (t : Bytes) : Bytes := 34 :: (t ++ [34])
theorem el_quo (r : Bytes) : ∀ (t : Bool) (s : Bytes), (∀ c ∈ r, c ≠ 34) → el true t s (r ++ [34]) = fin (s ++ (r ++ [34])) := by
  induction r with
  | nil =>
    intro t s _
    cases t
    · simp [el]
    · simp [el]
  | cons c r ih =>
    intro t s h
    have hc := h c (by simp)
    have hr : ∀ d ∈ r, d ≠ 34 := fun d hd => h d (by simp [hd])
    have i1 := ih false (s ++ [c]) hr
    have i2 := ih true (s ++ [c]) hr
    simp only [List.append_assoc, List.cons_append, List.nil_append] at i1 i2
    cases t
    · by_cases h92 : c = 92
      · simp [el, h92] at i2 ⊢
        exact i2
      · simp [el, h92, hc] at i1 ⊢
        exact i1
    · simp [el] at i1 ⊢
      exact i1
theorem trim_ends (l : Bytes) (h : 0 < l.length) (h1 : isBlank l[0] = false) (h2 : isBlank l[l.length - 1] = false) : trim l = l := by
  unfold trim
  rw [trimL_no l (fun _ => h1), trimR_no l (fun _ => h2)]
theorem trim_qt (t : Bytes) : trim (qt t) = qt t := by
  refine trim_ends _ (by simp [qt]) (by simp [qt, isBlank]) ?_
  have : (qt t)[(qt t).length - 1]'(by simp [qt]) = 34 := by simp [qt]
  rw [this]; decide
theorem elems_qt (t : Bytes) (h : ∀ c ∈ t, c ≠ 34) : elems (qt t) = [qt t] := by
  have e := el_quo t false [34] h
  have e2 : elems (qt t) = el true false [34] (t ++ [34]) := by simp [elems, qt, el]
  rw [e2, e]
  show fin (qt t) = _
  rw [fin, trim_qt, if_neg (by simp [qt])]
theorem elems_wqt (t : Bytes) (h : ∀ c ∈ t, c ≠ 34) : elems (87 :: 47 :: qt t) = [87 :: 47 :: qt t] := by
  have e := el_quo t false [87, 47, 34] h
  have e2 : elems (87 :: 47 :: qt t) = el true false [87, 47, 34] (t ++ [34]) := by simp [elems, qt, el]
  rw [e2, e]
  show fin (87 :: 47 :: qt t) = _
  have ht : trim (87 :: 47 :: qt t) = 87 :: 47 :: qt t := by
    refine trim_ends _ (by simp) (by simp [isBlank]) ?_
    have : (87 :: 47 :: qt t)[(87 :: 47 :: qt t).length - 1]'(by simp) = 34 := by simp [qt]
    rw [this]; decide
  rw [fin, ht, if_neg (by simp)]
def otherT (t : Bytes) : Bytes := [111, 116, 104, 101, 114, 45] ++ t
theorem other_34 {t : Bytes} (h : ∀ c ∈ t, c ≠ 34) : ∀ c ∈ otherT t, c ≠ 34 := by
  intro c hc
  unfold otherT at hc
  rw [List.mem_append] at hc
  rcases hc with hc | hc
  · revert c; decide
  · exact h c hc
theorem bare_qt (t : Bytes) : bareT (qt t) = qt t := by simp [bareT, qt, Lib.trimPrefix, Lib.hasPrefix]
theorem bare_wqt (t : Bytes) : bareT (87 :: 47 :: qt t) = qt t := by simp [bareT, Lib.trimPrefix, Lib.hasPrefix]
def askA (t : Bytes) : F := ⟨ifNoneT, qt (otherT t), false⟩
def askB (t : Bytes) : F := ⟨[73, 102, 45, 78, 111, 110, 101, 45, 77, 97, 116, 99, 104], 87 :: 47 :: qt t, false⟩
theorem all_A (t : Bytes) (h : ∀ c ∈ t, c ≠ 34) : allOf [askA t] ifNoneT = [qt (otherT t)] := by
  have hs : same ifNoneT ifNoneT = true := by decide
  simp [allOf, values, askA, hs, elems_qt _ (other_34 h)]
theorem all_AB (t : Bytes) (h : ∀ c ∈ t, c ≠ 34) : allOf [askA t, askB t] ifNoneT = [qt (otherT t), 87 :: 47 :: qt t] := by
  have hs : same ifNoneT ifNoneT = true := by decide
  have hs2 : same [73, 102, 45, 78, 111, 110, 101, 45, 77, 97, 116, 99, 104] ifNoneT = true := by decide
  simp [allOf, values, askA, askB, hs, hs2, elems_qt _ (other_34 h), elems_wqt t h]
theorem has_A (t : Bytes) : hasB [askA t] ifNoneT = true := by
  have hs : same ifNoneT ifNoneT = true := by decide
  simp [hasB, values, askA, hs]
theorem has_AB (t : Bytes) : hasB [askA t, askB t] ifNoneT = true := by
  have hs : same ifNoneT ifNoneT = true := by decide
  have hs2 : same [73, 102, 45, 78, 111, 110, 101, 45, 77, 97, 116, 99, 104] ifNoneT = true := by decide
  simp [hasB, values, askA, askB, hs, hs2]
def tagF (t : Bytes) : F := ⟨etagT, qt t, false⟩
theorem values_tag (l : List F) (t : Bytes) (h : hasB l etagT = false) : values (l ++ [tagF t]) etagT = [qt t] := by
  have hs : same etagT etagT = true := by decide
  have e : values l etagT = [] := by
    simp only [hasB, decide_eq_false_iff_not] at h
    exact List.eq_nil_of_length_eq_zero (by omega)
  unfold values at e ⊢
  rw [List.filter_append, List.map_append, e]
  simp [tagF, hs]
end Go.Dr
namespace Go.Proofs.YtghggooaaefdcaaDoor
open Go.RowKit Go.Dr
set_option linter.unusedVariables false in
theorem met_A (t : Bytes) (h : ∀ c ∈ t, c ≠ 34) : metT [qt (otherT t)] true (qt t) = false := by
  have e : alikeB (qt (otherT t)) (qt t) = false := by
    unfold alikeB
    rw [bare_qt, bare_qt, beq_eq_false_iff_ne]
    intro e
    have := congrArg List.length e
    simp [qt, otherT] at this
    omega
  have e2 : (qt (otherT t) == [42]) = false := by simp [qt]
  simp [metT, e, e2]
theorem met_AB (t : Bytes) : metT [qt (otherT t), 87 :: 47 :: qt t] true (qt t) = true := by
  have e : alikeB (87 :: 47 :: qt t) (qt t) = true := by
    unfold alikeB
    rw [bare_qt, bare_wqt]; simp
  simp [metT, e]
theorem metF_A (m : Bytes) (l : List F) (t : Bytes) (came : Int) (hm : m = getM ∨ m = headM) (h : ∀ c ∈ t, c ≠ 34) (hl : hasB l etagT = false) : metF m 200 [askA t] (l ++ [tagF t]) came = false := by
  unfold metF
  rw [if_pos ⟨hm, rfl⟩, if_pos (has_A t), all_A t h, values_tag l t hl]
  exact met_A t h
theorem metF_AB (m : Bytes) (l : List F) (t : Bytes) (came : Int) (hm : m = getM ∨ m = headM) (h : ∀ c ∈ t, c ≠ 34) (hl : hasB l etagT = false) : metF m 200 [askA t, askB t] (l ++ [tagF t]) came = true := by
  unfold metF
  rw [if_pos ⟨hm, rfl⟩, if_pos (has_AB t), all_AB t h, values_tag l t hl]
  exact met_AB t

/-- What is given has one age. -/
theorem values_none' (l : List F) (n : Bytes) (h : ∀ f ∈ l, same f.n n = false) : values l n = [] := values_none h
theorem ans_ages (met : Bool) (st : Int) (lf : List F) (n age : Nat) (who : Bytes) : values (ansL met st lf n age who) ageT = [digs age] := by
  have hv : same [118, 105, 97] ageT = false := by decide
  have ha : same ageT ageT = true := by decide
  have hL : same lenT ageT = false := by decide
  have e1 : values (lf.filter toldB) ageT = [] := by
    refine values_none (fun f hf => ?_)
    rw [List.mem_filter] at hf
    have h2 := hf.2
    unfold toldB at h2
    rw [Bool.eq_false_iff]
    intro hs
    rw [same_low] at hs
    rw [hs] at h2
    exact absurd h2 (by decide)
  have e2 : values (without lf [ageT]) ageT = [] := by
    refine values_none (fun f hf => ?_)
    have := (mem_without.1 hf).2
    simpa [among] using this
  have e3 : values (outF st lf n) ageT = [] := by
    unfold outF
    split
    · unfold values at e2 ⊢
      rw [List.filter_append, List.map_append, e2]
      simp [hL]
    · exact e2
  have e4 : values (if met = true then lf.filter toldB else outF st lf n) ageT = [] := by
    split
    · exact e1
    · exact e3
  unfold ansL
  unfold values at e4 ⊢
  rw [List.filter_append, List.filter_append, List.map_append, List.map_append, e4]
  simp [ageFld, viaF, ha, hv]
theorem ans_length (met : Bool) (st : Int) (lf : List F) (n age : Nat) (who : Bytes) : 2 ≤ (ansL met st lf n age who).length := by
  unfold ansL; simp
theorem ans_last (met : Bool) (st : Int) (lf : List F) (n age : Nat) (who : Bytes) : (ansL met st lf n age who)[(ansL met st lf n age who).length - 1]? = some (viaF (viaT who)) := by
  unfold ansL; simp
theorem ans_len (st : Int) (lf : List F) (n age : Nat) (who : Bytes) (h : st ≠ 204) : hasB (ansL false st lf n age who) lenT = true := by
  have hL : same lenT lenT = true := by decide
  have e : hasB (outF st lf n) lenT = true := by
    unfold outF
    by_cases hx : hasB (without lf [ageT]) lenT = false
    · rw [if_pos ⟨hx, h⟩]
      simp [hasB, values, hL]
    · rw [if_neg (by simp [hx])]
      simpa using hx
  unfold ansL
  simp only [hasB, decide_eq_true_iff, values, List.length_map] at e ⊢
  simp only [Bool.false_eq_true, if_false, List.filter_append, List.length_append]
  omega
theorem metF_st {m : Bytes} {st : Int} {lr lf : List F} {came : Int} (h : metF m st lr lf came = true) : st = 200 := by
  unfold metF at h
  split at h
  · rename_i e; exact e.2
  · cases h
end Go.Proofs.YtghggooaaefdcaaDoor
