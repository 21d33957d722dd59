/- Parts of the proof of DealAsks_holds: the texts Shj Rs1 Two VarL. -/
import Derived.Deep.DeepCutAuto
import Derived.Deep.DrawnRows
import Derived.Deep.RegionHeld3
import Derived.Deep.RegionLaw
import Derived.Lib.SlicesCompact
import Derived.Sort.Walk0
import Derived.Test.YtahapblgmehngaaGreatDoorA36
import Derived.Test.YtahapblgmehngaaGreatDoorA38
import Derived.Test.YtahapblgmehngaaGreatDoorA1
import Derived.Test.YtahapblgmehngaaGreatDoorA13
import Derived.Test.YtahapblgmehngaaGreatDoorA4
import Derived.Test.YtahapblgmehngaaGreatDoorA31
import Derived.Test.YtahapblgmehngaaGreatDoorA35
import Derived.Test.YtahapblgmehngaaGreatDoorA29
set_option linter.unusedSimpArgs false
set_option linter.unusedVariables false
set_option linter.unnecessarySimpa false
namespace Go.Proofs.YtahapblgmehngaaGreatDoor
open Go.RowKit Go.Dr

theorem join_none {er : List Ev} {l : List Nd} {i : Int} (h : er.map Ev.x = l.map Nd.x) (hl : ∀ n ∈ l, n.x.id ≠ i) : ∀ e ∈ er, e.x.id ≠ i := by
  intro e he hi
  have : e.x ∈ l.map Nd.x := by rw [← h]; exact List.mem_map_of_mem he
  obtain ⟨y, hy, e'⟩ := List.mem_map.1 this
  exact hl y hy (by rw [e']; exact hi)
/-- Both shelves, side by side. -/
structure Two (w : World) (R r : Nat) (M : Nat) (last : Int) (v : Value) (er : List Ev) (l : List Nd) : Prop where
  sh : Sh R R w (R + 2) R (R + 1) (M : Int) last l
  rs : Rs R w r (M : Int) last v er
  eq : er.map Ev.x = l.map Nd.x
theorem Two.below {w w' : World} {R r M : Nat} {last : Int} {v : Value} {er : List Ev} {l : List Nd} (h : Two w R r M last v er l) (hb : Below w.heap.size w w') : Two w' R r M last v er l := ⟨h.sh.below hb, h.rs.below hb, h.eq⟩
end Go.Proofs.YtahapblgmehngaaGreatDoor

namespace Go.Proofs.YtahapblgmehngaaGreatDoor
open Go.RowKit Go.Dr

def Ev.val (e : Ev) : Value := .agg #[S e.x.key, e.vp, .int .i64 e.x.st, e.vf, S e.x.body, .int .i64 e.x.asked, .int .i64 e.x.came]
end Go.Proofs.YtahapblgmehngaaGreatDoor

namespace Go.Proofs.YtahapblgmehngaaGreatDoor
open Go.RowKit Go.Dr

/-- What is no shelf's own stays as it is. -/
def Keeps (w w' : World) : Prop := ∀ (b : Nat) (t : TypeId) (xs : Array Value), t ≠ 100 → t ≠ 97 → t ≠ 70 → Blk w b t xs → Blk w' b t xs
theorem Keeps.refl (w : World) : Keeps w w := fun _ _ _ _ _ _ h => h
theorem Keeps.trans {a b c : World} (h : Keeps a b) (k : Keeps b c) : Keeps a c := fun g t xs h1 h2 h3 hb => k g t xs h1 h2 h3 (h g t xs h1 h2 h3 hb)
theorem Keeps.below {w w' : World} (h : Below w.heap.size w w') : Keeps w w' := fun _ _ _ _ _ _ hb => hb.on h
theorem Keeps.but_s {fb rb : Nat} {w w' : World} {s R m : Nat} {most last : Int} {l : List Nd} (hs : Sh fb rb w s R m most last l) (h : But (Foot s R m l) w w') : Keeps w w' := fun _ _ _ h1 h2 _ hb => hb.but h (hs.off hb h1 h2)
section
variable {w : World} {R r M : Nat} {last : Int} {v : Value} {er : List Ev} {l : List Nd}
theorem Two.rlt (h : Two w R r M last v er l) : R < w.heap.size := h.sh.rlt
theorem Two.drop (h : Two w R r M last v er l) {w' : World} (hb : But (Foot (R + 2) R (R + 1) l) w w') : Below R w w' := hb.below h.sh.base (Nat.le_of_lt h.rlt)
end
end Go.Proofs.YtahapblgmehngaaGreatDoor

namespace Go.Dr

/-- In order, each once, by sorting. -/
def rising (l : List Bytes) : List Bytes := Lib.compact (l.mergeSort fun x y => decide (x ≤ y))
/-- How many are below. -/
def placeOf (s : Bytes) (out : List Bytes) : Nat := (out.takeWhile fun x => decide (x < s)).length
/-- Put in its place. -/
def putIn (out : List Bytes) (s : Bytes) : List Bytes := if out[placeOf s out]? = some s then out else out.take (placeOf s out) ++ s :: out.drop (placeOf s out)
def putAll (l : List Bytes) : List Bytes := l.foldl putIn []

theorem b_lt_irrefl (a : Bytes) : ¬ a < a := List.lt_irrefl a
theorem b_lt_trans {a b c : Bytes} (h : a < b) (k : b < c) : a < c := List.lt_trans h k
theorem b_not_lt {a b : Bytes} : ¬ a < b ↔ b ≤ a := List.not_lt
theorem b_lt_of_le_ne {a b : Bytes} (h : a ≤ b) (n : a ≠ b) : a < b := by
  rcases Classical.em (a < b) with k | k
  · exact k
  · exact absurd (List.le_antisymm h (b_not_lt.1 k)) n
theorem b_le_trans {a b c : Bytes} (h : a ≤ b) (k : b ≤ c) : a ≤ c := List.le_trans h k
theorem b_le_total (a b : Bytes) : a ≤ b ∨ b ≤ a := List.le_total a b

abbrev Rises (l : List Bytes) : Prop := l.Pairwise (· < ·)

theorem rises_ext {a b : List Bytes} (ha : Rises a) (hb : Rises b) (h : ∀ x, x ∈ a ↔ x ∈ b) : a = b := by
  induction a generalizing b with
  | nil =>
    cases b with
    | nil => rfl
    | cons y b => exact absurd ((h y).2 (by simp)) (by simp)
  | cons x a ih =>
    cases b with
    | nil => exact absurd ((h x).1 (by simp)) (by simp)
    | cons y b =>
      unfold Rises at ha hb
      rw [List.pairwise_cons] at ha hb
      have hxy : x = y := by
        rcases List.mem_cons.1 ((h x).1 (by simp)) with e | e
        · exact e
        · rcases List.mem_cons.1 ((h y).2 (by simp)) with e2 | e2
          · exact e2.symm
          · exact absurd (b_lt_trans (hb.1 x e) (ha.1 y e2)) (b_lt_irrefl y)
      subst hxy
      congr 1
      refine ih ha.2 hb.2 fun z => ⟨fun hz => ?_, fun hz => ?_⟩
      · rcases List.mem_cons.1 ((h z).1 (List.mem_cons_of_mem _ hz)) with e | e
        · subst e; exact absurd (ha.1 z hz) (b_lt_irrefl z)
        · exact e
      · rcases List.mem_cons.1 ((h z).2 (List.mem_cons_of_mem _ hz)) with e | e
        · subst e; exact absurd (hb.1 z hz) (b_lt_irrefl z)
        · exact e

theorem tw_imp {p : Bytes → Bool} {l : List Bytes} {x : Bytes} (h : x ∈ l.takeWhile p) : p x = true := by
  induction l with
  | nil => cases h
  | cons y l ih =>
    rw [List.takeWhile_cons] at h
    split at h
    · rename_i hy
      rcases List.mem_cons.1 h with rfl | h
      · exact hy
      · exact ih h
    · cases h
theorem dw_head {p : Bytes → Bool} {l r : List Bytes} {y : Bytes} (h : l.dropWhile p = y :: r) : p y = false := by
  induction l with
  | nil => cases h
  | cons z l ih =>
    rw [List.dropWhile_cons] at h
    split at h
    · exact ih h
    · rename_i hz
      injection h with h1 h2
      subst h1
      simpa using hz
theorem take_place (s : Bytes) (out : List Bytes) : out.take (placeOf s out) = out.takeWhile fun x => decide (x < s) := by
  induction out with
  | nil => rfl
  | cons x r ih =>
    unfold placeOf at *
    by_cases h : x < s
    · simp [List.takeWhile_cons, h, ih]
    · simp [List.takeWhile_cons, h]
theorem drop_place (s : Bytes) (out : List Bytes) : out.drop (placeOf s out) = out.dropWhile fun x => decide (x < s) := by
  induction out with
  | nil => rfl
  | cons x r ih =>
    unfold placeOf at *
    by_cases h : x < s
    · simp [List.takeWhile_cons, List.dropWhile_cons, h, ih]
    · simp [List.takeWhile_cons, List.dropWhile_cons, h]
theorem placeOf_at (s : Bytes) (out : List Bytes) (h : placeOf s out < out.length) : ¬ out[placeOf s out] < s := by
  have hd : out.drop (placeOf s out) = out[placeOf s out] :: out.drop (placeOf s out + 1) := List.drop_eq_getElem_cons h
  rw [drop_place] at hd
  intro hlt
  have := dw_head hd
  simp [hlt] at this

theorem putIn_mem (out : List Bytes) (s x : Bytes) : x ∈ putIn out s ↔ x = s ∨ x ∈ out := by
  unfold putIn
  split
  · rename_i h
    have := List.mem_of_getElem? h
    constructor
    · exact .inr
    · rintro (rfl | h) <;> assumption
  · conv => rhs; rw [← List.take_append_drop (placeOf s out) out]
    simp only [List.mem_append, List.mem_cons]
    constructor
    · rintro (h | h | h) <;> simp [h]
    · rintro (h | h | h) <;> simp [h]

theorem putIn_rises (out : List Bytes) (s : Bytes) (h : Rises out) : Rises (putIn out s) := by
  unfold putIn
  split
  · exact h
  · rename_i hne
    have hall : ∀ x ∈ out.drop (placeOf s out), s < x := by
      intro x hx
      obtain ⟨k, hk, rfl⟩ := List.mem_iff_getElem.1 hx
      simp only [List.getElem_drop]
      have hlen : placeOf s out < out.length := by simp at hk; omega
      have h0 := placeOf_at s out hlen
      have h1 : s < out[placeOf s out] := b_lt_of_le_ne (b_not_lt.1 h0) (fun e => hne (by rw [List.getElem?_eq_getElem hlen, ← e]))
      cases k with
      | zero => exact h1
      | succ k => exact b_lt_trans h1 (List.pairwise_iff_getElem.1 h _ _ hlen (by simp at hk; omega) (by omega))
    have hlow : ∀ x ∈ out.take (placeOf s out), x < s := by
      intro x hx
      rw [take_place] at hx
      simpa using tw_imp hx
    have hp := h
    unfold Rises at *
    rw [← List.take_append_drop (placeOf s out) out, List.pairwise_append] at hp
    rw [List.pairwise_append, List.pairwise_cons]
    exact ⟨hp.1, ⟨hall, hp.2.1⟩, fun a ha b hb => by
      rcases List.mem_cons.1 hb with rfl | hb
      · exact hlow a ha
      · exact b_lt_trans (hlow a ha) (hall b hb)⟩

theorem putAll_rises (l : List Bytes) : Rises (putAll l) := by
  unfold putAll
  suffices h : ∀ (l : List Bytes) acc, Rises acc → Rises (l.foldl putIn acc) from h l [] List.Pairwise.nil
  intro l
  induction l with
  | nil => exact fun acc h => h
  | cons x l ih => exact fun acc h => ih _ (putIn_rises acc x h)
theorem putAll_mem (l : List Bytes) (x : Bytes) : x ∈ putAll l ↔ x ∈ l := by
  unfold putAll
  suffices h : ∀ (l : List Bytes) acc, x ∈ l.foldl putIn acc ↔ x ∈ l ∨ x ∈ acc by simpa using h l []
  intro l
  induction l with
  | nil => simp
  | cons y l ih => intro acc; rw [List.foldl_cons, ih, putIn_mem, List.mem_cons]; grind

theorem compact_mem (zs : List Bytes) (x : Bytes) : x ∈ Lib.compact zs ↔ x ∈ zs := by
  unfold Lib.compact Lib.compactUpTo
  simp only [List.mem_map, List.mem_filter, List.mem_range]
  constructor
  · rintro ⟨j, ⟨hj, _⟩, rfl⟩
    simp [hj]
  · intro hx
    obtain ⟨k, hk, rfl⟩ := List.mem_iff_getElem.1 hx
    suffices h : ∀ k (hk : k < zs.length), ∃ j, (j < zs.length ∧ Lib.keeps zs.toArray j = true) ∧ zs.toArray[j]! = zs[k] from h k hk
    intro k
    induction k with
    | zero => exact fun hk => ⟨0, ⟨hk, by simp [Lib.keeps]⟩, by simp [hk]⟩
    | succ k ih =>
      intro hk
      by_cases e : zs[k + 1] = zs[k]
      · obtain ⟨j, h1, h2⟩ := ih (by omega)
        exact ⟨j, h1, by rw [h2, e]⟩
      · refine ⟨k + 1, ⟨hk, ?_⟩, by simp [hk]⟩
        have : k < zs.length := by omega
        simp [Lib.keeps, hk, this, e]
theorem compact_length_le (zs : List Bytes) : (Lib.compact zs).length ≤ zs.length := by
  unfold Lib.compact Lib.compactUpTo
  rw [List.length_map]
  exact Nat.le_trans (List.length_filter_le _ _) (by simp)
theorem compact_rises (zs : List Bytes) (h : zs.Pairwise (· ≤ ·)) : Rises (Lib.compact zs) := by
  unfold Lib.compact Lib.compactUpTo Rises
  rw [List.pairwise_map]
  have hr : ((List.range zs.length).filter (Lib.keeps zs.toArray)).Pairwise (· < ·) := List.Pairwise.filter _ List.pairwise_lt_range
  refine List.Pairwise.imp_of_mem ?_ hr
  intro i j hi hj hij
  simp only [List.mem_filter, List.mem_range] at hi hj
  obtain ⟨hj1, hj2⟩ := hj
  have hi1 := hi.1
  have hjm : j - 1 < zs.length := by omega
  simp only [Lib.keeps, decide_eq_true_eq] at hj2
  have hne : zs[j] ≠ zs[j - 1] := by
    rcases hj2 with h0 | h0
    · omega
    · simpa [hj1, hjm] using h0
  have h1 : zs[j - 1] < zs[j] := b_lt_of_le_ne (List.pairwise_iff_getElem.1 h _ _ hjm hj1 (by omega)) (Ne.symm hne)
  simp only [List.getElem!_toArray, List.getElem!_eq_getElem?_getD, List.getElem?_eq_getElem hj1, List.getElem?_eq_getElem hi1, Option.getD_some]
  by_cases e : i = j - 1
  · subst e; exact h1
  · have h2 := List.pairwise_iff_getElem.1 h i (j - 1) hi1 hjm (by omega)
    rcases Classical.em (zs[i] = zs[j - 1]) with e2 | e2
    · rw [e2]; exact h1
    · exact b_lt_trans (b_lt_of_le_ne h2 e2) h1
theorem rising_rises (l : List Bytes) : Rises (rising l) := by
  refine compact_rises _ ?_
  have := List.pairwise_mergeSort (le := fun x y : Bytes => decide (x ≤ y)) (fun a b c h k => by simp only [decide_eq_true_eq] at *; exact b_le_trans h k) (fun a b => by simpa using b_le_total a b) l
  exact this.imp fun h => by simpa using h
theorem rising_mem (l : List Bytes) (x : Bytes) : x ∈ rising l ↔ x ∈ l := by
  unfold rising
  rw [compact_mem, (List.mergeSort_perm l _).mem_iff]
theorem rising_eq (l : List Bytes) : rising l = putAll l :=
  rises_ext (rising_rises l) (putAll_rises l) fun x => by rw [rising_mem, putAll_mem]
theorem map_low_snoc' (names : List Bytes) (k : Nat) (h : k < names.length) : (names.take (k + 1)).map low = (names.take k).map low ++ [low names[k]] := by
  rw [take_snoc names k h, List.map_append]
  rfl
end Go.Dr

