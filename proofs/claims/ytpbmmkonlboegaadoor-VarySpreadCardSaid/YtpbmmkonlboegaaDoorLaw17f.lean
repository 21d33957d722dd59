
/- VarySpread: the plain law. -/
import Derived.Test.YtpbmmkonlboegaaDoorLaw17e
import Derived.Test.YtpbmmkonlboegaaDoorLaw17d
namespace Go.Dr

/-- The fields spread: small names, and an empty one ahead of each of the name. -/
def spreadF (name : Bytes) (f : F) : List F := (if low f.n = low name then [⟨low f.n, [32, 44], false⟩] else []) ++ [⟨low f.n, f.v, f.m⟩]
def spread (name : Bytes) (l : List F) : List F := l.flatMap (spreadF name)
theorem spread_snoc (name : Bytes) (l : List F) (k : Nat) (h : k < l.length) : spread name (l.take (k + 1)) = spread name (l.take k) ++ spreadF name l[k] := by
  rw [take_snoc l k h, spread, List.flatMap_append, List.flatMap_cons, List.flatMap_nil, List.append_nil]
  rfl
theorem fsum_one (f : F) : fsum [f] = f.n.length + f.v.length + 32 := by simp [fsum]
theorem fsum_spreadF (name : Bytes) (f : F) : fsum (spreadF name f) ≤ 3 * fsum [f] := by
  unfold spreadF
  rw [fsum_append, fsum_one, fsum_one]
  have := low_length f.n
  split
  · rw [fsum_one]
    simp only [List.length_cons, List.length_nil]
    omega
  · simp only [fsum, List.map_nil, List.sum_nil]
    omega
theorem fsum_cons (f : F) (l : List F) : fsum (f :: l) = fsum [f] + fsum l := by rw [← fsum_append]; rfl
theorem fsum_spread (name : Bytes) (l : List F) : fsum (spread name l) ≤ 3 * fsum l := by
  induction l with
  | nil => simp [spread, fsum]
  | cons f l ih =>
    have := fsum_spreadF name f
    have e : spread name (f :: l) = spreadF name f ++ spread name l := rfl
    rw [e, fsum_append, fsum_cons]
    omega
theorem length_spread (name : Bytes) (l : List F) : (spread name l).length ≤ 2 * l.length := by
  induction l with
  | nil => simp [spread]
  | cons f l ih =>
    have e : spread name (f :: l) = spreadF name f ++ spread name l := rfl
    have : (spreadF name f).length ≤ 2 := by unfold spreadF; split <;> simp
    rw [e, List.length_append, List.length_cons]
    omega
theorem same_of_low {a b : Bytes} : same a b = decide (low a = low b) := by
  unfold same
  by_cases h : low a = low b <;> simp [h]
theorem values_append (a b : List F) (n : Bytes) : values (a ++ b) n = values a n ++ values b n := by simp [values]
theorem values_spreadF (name : Bytes) (f : F) : values (spreadF name f) name = if low f.n = low name then [[32, 44], f.v] else [] := by
  unfold spreadF
  by_cases h : low f.n = low name <;> simp [h, values, same_of_low, low_low]
theorem values_one (name : Bytes) (f : F) : values [f] name = if low f.n = low name then [f.v] else [] := by
  by_cases h : low f.n = low name <;> simp [h, values, same_of_low]
theorem all_spread (name : Bytes) (l : List F) : allOf (spread name l) name = allOf l name := by
  induction l with
  | nil => rfl
  | cons f l ih =>
    have e : spread name (f :: l) = spreadF name f ++ spread name l := rfl
    have e2 : f :: l = [f] ++ l := rfl
    unfold allOf at *
    rw [e, e2, values_append, values_append, List.flatMap_append, List.flatMap_append, ih, values_spreadF, values_one]
    congr 1
    split
    · have : elems [32, 44] = [] := by decide
      simp [this]
    · rfl
theorem some_spread (name : Bytes) (l : List F) : decide (0 < (values (spread name l) name).length) = decide (0 < (values l name).length) := by
  induction l with
  | nil => rfl
  | cons f l ih =>
    have e : spread name (f :: l) = spreadF name f ++ spread name l := rfl
    have e2 : f :: l = [f] ++ l := rfl
    rw [e, e2, values_append, values_append, values_spreadF, values_one]
    by_cases h : low f.n = low name
    · simp [h]
    · simp only [h, if_false, List.nil_append]
      exact ih
end Go.Dr
namespace Go.Proofs.YtpbmmkonlboegaaDoor
open Go.RowKit Go.Dr
def moreF (name : Bytes) : F := ⟨name, [122, 122, 45, 109, 111, 114, 101], false⟩
theorem match_one (q : F) (l : List F) : matchP [q] l = saysOk l q := by simp [matchP]
theorem match_other (name : Bytes) (l : List F) (o : F) (h : low o.n ≠ low name) : matchP [saysF name l] (l ++ [o]) = true := by
  have e : saysF (saysF name l).n (l ++ [o]) = saysF name l := by
    show saysF (low name) _ = _
    rw [saysF_low]
    unfold saysF allOf
    rw [values_append, values_one, if_neg h, List.append_nil]
  rw [match_one, saysOk, e]
  simp
theorem match_spread (name : Bytes) (l : List F) : matchP [saysF name l] (spread name l) = true := by
  have e : saysF (saysF name l).n (spread name l) = saysF name l := by
    show saysF (low name) _ = _
    rw [saysF_low]
    unfold saysF
    rw [all_spread, some_spread]
  rw [match_one, saysOk, e]
  simp
theorem join_more (vs : List Bytes) (x : Bytes) (hx : 0 < x.length) : (joinS vs).length < (joinS (vs ++ [x])).length := by
  have h := joinS_take (vs ++ [x]) vs.length (by simp)
  rw [List.take_of_length_le (by simp), List.take_left] at h
  rw [h]
  simp
  omega
theorem match_more (name : Bytes) (l : List F) : matchP [saysF name l] (spread name l ++ [moreF name]) = false := by
  have e : (saysF (saysF name l).n (spread name l ++ [moreF name])).v ≠ (saysF name l).v := by
    show joinS (allOf _ (low name)) ≠ joinS (allOf l name)
    rw [allOf_low, all_append, all_spread]
    have : allOf [moreF name] name = [[122, 122, 45, 109, 111, 114, 101]] := by
      unfold allOf
      rw [values_one, if_pos (show low (moreF name).n = low name from rfl)]
      show elems [122, 122, 45, 109, 111, 114, 101] ++ [] = _
      decide
    rw [this]
    intro h
    have := join_more (allOf l name) [122, 122, 45, 109, 111, 114, 101] (by decide)
    rw [h] at this
    omega
  rw [match_one, saysOk]
  simp [e]
end Go.Proofs.YtpbmmkonlboegaaDoor
