
/- What renewing twice leaves, and what is said of keeping then: plain. -/
import Derived.Test.YtpbmmkonlboegaaGreatDoorRen8
import Derived.Test.YtpbmmkonlboegaaGreatDoorPla
import Derived.Test.YtpbmmkonlboegaaGreatDoorBase
namespace Go.Proofs.YtpbmmkonlboegaaGreatDoor
open Go.RowKit Go.Dr
theorem filter_none {α : Type} {p : α → Bool} {l : List α} (h : ∀ x ∈ l, p x = false) : l.filter p = [] := by
  rw [List.filter_eq_nil_iff]
  intro x hx
  rw [h x hx]
  simp
theorem same_refl (a : Bytes) : same a a = true := by unfold same; simp
theorem renewed_twice (le l : List F) : renewedF (renewedF le l) l = renewedF le l := by
  unfold renewedF
  rw [List.filter_append, List.filter_filter]
  have h1 : (newsOf l).filter (notIn (newsOf l)) = [] := filter_none fun f hf => by
    unfold notIn
    rw [any_values]
    simp only [Bool.not_eq_false', List.any_eq_true]
    exact ⟨f, hf, same_refl _⟩
  rw [h1, List.append_nil]
  congr 1
  apply List.filter_congr
  intro f _
  simp
def cc77 : F := ⟨cacheControl, [109, 97, 120, 45, 97, 103, 101, 61, 55, 55], false⟩
theorem values_append (a b : List F) (n : Bytes) : values (a ++ b) n = values a n ++ values b n := by simp [values]
theorem values_filter_nil {l : List F} {n : Bytes} (p : F → Bool) (h : values l n = []) : values (l.filter p) n = [] := by
  unfold values at *
  rw [List.map_eq_nil_iff, List.filter_eq_nil_iff] at *
  intro f hf
  exact h f (List.mem_filter.1 hf).1
theorem without_snoc' (l : List F) (f : F) (names : List Bytes) (h : among f.n names = false) : without (l ++ [f]) names = without l names ++ [f] := by
  unfold without
  rw [List.filter_append]
  simp [h]
theorem own_cc : among cacheControl own = false := by decide +kernel
theorem cc_body : notBody cc77 = true := by decide +kernel
theorem news77 (l : List F) (h : values l connection = []) : newsOf (l ++ [cc77]) = newsOf l ++ [cc77] := by
  have h1 : values (l ++ [cc77]) connection = [] := by
    rw [values_append, h]
    decide +kernel
  have h2 : strip (l ++ [cc77]) = strip l ++ [cc77] := by
    have n0 : ∀ z : List F, without z [] = z := fun z => by simp [without, among]
    have e0 : allOf l connection = [] := by unfold allOf; rw [h]; rfl
    have e1 : allOf (l ++ [cc77]) connection = [] := by unfold allOf; rw [h1]; rfl
    unfold strip
    rw [e0, e1, n0, n0]
    exact without_snoc' l cc77 own own_cc
  unfold newsOf
  rw [h2, List.filter_append]
  simp [cc_body]
theorem read77 : readC [cc77] = { Ctl.none with ma := 77 } := by decide +kernel
theorem readC_allOf {a b : List F} (h : allOf a cacheControl = allOf b cacheControl) : readC a = readC b := by unfold readC; rw [h]
theorem life77 (le l : List F) (st came : Int) (h1 : values l connection = []) (h2 : values l cacheControl = []) : lifeF (renewedF le (l ++ [cc77])) st came = 77 := by
  have e : allOf (renewedF le (l ++ [cc77])) cacheControl = allOf [cc77] cacheControl := by
    unfold allOf
    congr 1
    unfold renewedF
    rw [news77 l h1, values_append, values_append]
    have a1 : values (le.filter (notIn (newsOf l ++ [cc77]))) cacheControl = [] := values_none fun f hf => by
      have := (List.mem_filter.1 hf).2
      unfold notIn at this
      rw [any_values] at this
      simp only [Bool.not_eq_true', List.any_eq_false, List.mem_append, List.mem_singleton] at this
      have := this cc77 (.inr rfl)
      rw [same_sym]
      have e : cc77.n = cacheControl := rfl
      rw [← e]
      simpa using this
    have a2 : values (newsOf l) cacheControl = [] := by
      unfold newsOf strip without
      exact values_filter_nil _ (values_filter_nil _ (values_filter_nil _ h2))
    rw [a1, a2]
    rfl
  unfold lifeF
  rw [readC_allOf e, read77]
  rfl
end Go.Proofs.YtpbmmkonlboegaaGreatDoor
