
/- The plain laws of lists of fields: no program in sight. -/
import Derived.Test.YtpbmmkonlboegaaDoorBase2
namespace Go.Dr

theorem fbytes_big (l : List F) : ∀ a : Nat, 1073741824 ≤ a → l.foldl fbStep a = a := by
  induction l with
  | nil => intro a _; rfl
  | cons f l ih =>
    intro a ha
    rw [List.foldl_cons]
    have e : fbStep a f = a := if_neg (by omega)
    rw [e, ih a ha]
theorem fbytes_from (l : List F) : ∀ a : Nat, l.foldl fbStep a < 1073741824 → l.foldl fbStep a = a + fsum l := by
  induction l with
  | nil => intro a _; simp [fsum]
  | cons f l ih =>
    intro a h
    rw [List.foldl_cons] at h ⊢
    by_cases ha : a < 1073741824
    · have e : fbStep a f = a + f.n.length + f.v.length + 32 := if_pos ha
      rw [e] at h ⊢
      rw [ih _ h]
      simp only [fsum, List.map_cons, List.sum_cons]
      omega
    · have e : fbStep a f = a := if_neg ha
      rw [e, fbytes_big l a (by omega)] at h
      omega
theorem fbytes_sum (l : List F) (h : fbytes l < 1073741824) : fsum l = fbytes l := by
  have := fbytes_from l 0 h
  unfold fbytes
  omega

theorem same_low {a b : Bytes} : same a b = true ↔ low a = low b := by unfold same; rw [beq_iff_eq]
theorem among_congr {a b : Bytes} (h : low a = low b) (names : List Bytes) : among a names = among b names := by
  unfold among
  congr 1
  funext x
  unfold same
  rw [h]
theorem mem_without {f : F} {l : List F} {names : List Bytes} : f ∈ without l names ↔ f ∈ l ∧ among f.n names = false := by
  unfold without
  rw [List.mem_filter]
  simp
theorem without_none {l : List F} {names : List Bytes} (h : ∀ f ∈ l, among f.n names = false) : without l names = l := by
  unfold without
  rw [List.filter_eq_self]
  intro f hf
  rw [h f hf]
  rfl
theorem values_none {l : List F} {name : Bytes} (h : ∀ f ∈ l, same f.n name = false) : values l name = [] := by
  unfold values
  rw [List.filter_eq_nil_iff.2 (fun f hf => by rw [h f hf]; exact Bool.false_ne_true)]
  rfl

/-- How far a list that is kept in part has come. -/
theorem kept_get {α : Type} (p : α → Bool) (l : List α) (i : Nat) (h : i < l.length) (hp : p l[i] = true) : (l.filter p)[((l.take i).filter p).length]? = some l[i] := by
  have e : l = l.take i ++ l[i] :: l.drop (i + 1) := by
    conv => lhs; rw [← List.take_append_drop i l]
    rw [List.drop_eq_getElem_cons h]
  have e2 : l.filter p = (l.take i).filter p ++ l[i] :: (l.drop (i + 1)).filter p := by
    conv => lhs; rw [e]
    rw [List.filter_append, List.filter_cons, if_pos hp]
  rw [e2, List.getElem?_append_right (Nat.le_refl _), Nat.sub_self]
  rfl
theorem kept_yes {α : Type} (p : α → Bool) (l : List α) (i : Nat) (h : i < l.length) (hp : p l[i] = true) : ((l.take (i + 1)).filter p).length = ((l.take i).filter p).length + 1 := by
  rw [take_snoc l i h, List.filter_append, List.filter_cons, if_pos hp]
  simp
theorem kept_no {α : Type} (p : α → Bool) (l : List α) (i : Nat) (h : i < l.length) (hp : p l[i] = false) : ((l.take (i + 1)).filter p).length = ((l.take i).filter p).length := by
  rw [take_snoc l i h, List.filter_append, List.filter_cons, if_neg (by rw [hp]; exact Bool.false_ne_true)]
  simp

end Go.Dr
