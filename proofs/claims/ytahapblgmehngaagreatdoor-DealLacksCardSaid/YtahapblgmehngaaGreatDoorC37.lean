/- Parts of the proof of DealLacks_holds: the texts Two VarL Shelf2 Var3. -/
import Derived.Lib.SlicesCompact
import Derived.Sort.Walk0
import Derived.Shelf.LaysM
import Derived.Shelf.Slices.Cells
import Derived.Shelf.Slices.CompactS
import Derived.Shelf.Slices.In.SortNone
import Derived.Shelf.Small.Strs
import Derived.Shelf.Small.Utf8
import Derived.Shelf.Small.Wraps
import Derived.Shelf.Sort.Plain
import Derived.Shelf.Strings.AsciiSet
import Derived.Shelf.Strings.Builder1
import Derived.Shelf.Strings.Builder2
import Derived.Shelf.Strings.Cut
import Derived.Shelf.Strings.OnBuilder
import Derived.Shelf.Strings.Prefix
import Derived.Shelf.Strings.Runes
import Derived.Shelf.Strings.Search1
import Derived.Shelf.Strings.Search2
import Derived.Shelf.Strings.Shaped
import Derived.Shelf.Strings.Trim
import Derived.Shelf.Unicode.DecodeSlow
import Derived.Sort.OwnSorted
import Derived.Test.YtahapblgmehngaaGreatDoorC36
import Derived.Test.YtahapblgmehngaaGreatDoorC30
import Derived.Test.YtahapblgmehngaaGreatDoorC34
import Derived.Test.YtahapblgmehngaaGreatDoorC29
import Derived.Test.YtahapblgmehngaaGreatDoorC33
import Derived.Test.YtahapblgmehngaaGreatDoorC1
import Derived.Test.YtahapblgmehngaaGreatDoorProg
import Derived.Test.YtahapblgmehngaaGreatDoorC15
import Derived.Test.YtahapblgmehngaaGreatDoorC2
set_option linter.unusedSimpArgs false
set_option linter.unusedVariables false
set_option linter.unnecessarySimpa false
namespace Go.Proofs.YtahapblgmehngaaGreatDoor
open Go.RowKit Go.Dr

/-- What is no shelf's own stays as it is. -/
def Keeps (w w' : World) : Prop := ∀ (b : Nat) (t : TypeId) (xs : Array Value), t ≠ 100 → t ≠ 97 → t ≠ 70 → Blk w b t xs → Blk w' b t xs
theorem Keeps.refl (w : World) : Keeps w w := fun _ _ _ _ _ _ h => h
theorem Keeps.trans {a b c : World} (h : Keeps a b) (k : Keeps b c) : Keeps a c := fun g t xs h1 h2 h3 hb => k g t xs h1 h2 h3 (h g t xs h1 h2 h3 hb)
theorem Keeps.below {w w' : World} (h : Below w.heap.size w w') : Keeps w w' := fun _ _ _ _ _ _ hb => hb.on h
theorem Keeps.but_s {fb rb : Nat} {w w' : World} {s R m : Nat} {most last : Int} {l : List Nd} (hs : Sh fb rb w s R m most last l) (h : But (Foot s R m l) w w') : Keeps w w' := fun _ _ _ h1 h2 _ hb => hb.but h (hs.off hb h1 h2)
theorem Keeps.but_r {w w' : World} {r : Nat} {xs : Array Value} (hr : Blk w r 70 xs) (h : But (fun k => k = r) w w') : Keeps w w' := fun g t ys _ _ h3 hb => hb.but h fun e => by
  have e : g = r := e
  subst e
  unfold Blk at hb hr
  rw [hr] at hb
  simp only [Option.some.injEq, Obj.cells.injEq] at hb
  exact h3 hb.2.1.symm
/-- Both shelves behind a step. -/
def After (R r M : Nat) (w : World) (lo hi : Int) (Q : List Nd → Prop) (w' : World) : Prop := ∃ last v er l', Two w' R r M last v er l' ∧ (∀ n ∈ l', n.x.id ≤ last) ∧ lo ≤ last ∧ last ≤ hi ∧ Q l' ∧ Keeps w w' ∧ Below R w w'
/-- No other entries than these, but for one that was put; that one is there, if it has room. -/
def Laid (M : Nat) (l : List Nd) (q : En) (lp lf : List F) (l' : List Nd) : Prop := (∀ n ∈ l', n ∈ l ∨ ∃ i, n.x = It.of i q lp lf) ∧ (costF q lp lf ≤ M → ∃ n ∈ l', ∃ i, n.x = It.of i q lp lf)
theorem roomOf_mem {k : Nat} {l : List Nd} {n : Nd} (h : n ∈ roomOf k l) : n ∈ l := by
  obtain ⟨d, e⟩ := roomOf_suffix k l
  rw [e]
  exact List.mem_append.2 (.inr h)

section
variable {w : World} {R r M : Nat} {last : Int} {v : Value} {er : List Ev} {l : List Nd}
theorem Two.rlt (h : Two w R r M last v er l) : R < w.heap.size := h.sh.rlt
theorem Two.drop (h : Two w R r M last v er l) {w' : World} (hb : But (Foot (R + 2) R (R + 1) l) w w') : Below R w w' := hb.below h.sh.base (Nat.le_of_lt h.rlt)
theorem Two.rsb (h : Two w R r M last v er l) {w' : World} (hb : But (Foot (R + 2) R (R + 1) l) w w') : Rs R w' r (M : Int) last v er := h.rs.but h.sh hb h.sh.base
theorem Two.alikeF (h : Two w R r M last v er l) (key : Bytes) (lp : List F) : (er.filter (fun e => !alikeE key lp e)).map Ev.x = (l.filter (fun n => !alikeP key lp n)).map Nd.x := join_filter h.eq (fun x => !(x.key == key && x.lp == lp))

end
end Go.Proofs.YtahapblgmehngaaGreatDoor

namespace Go.Dr

/-- In order, each once, by sorting. -/
def rising (l : List Bytes) : List Bytes := Lib.compact (l.mergeSort fun x y => decide (x ≤ y))
/-- How many are below. -/
def placeOf (s : Bytes) (out : List Bytes) : Nat := (out.takeWhile fun x => decide (x < s)).length
/-- Put in its place. -/
def putIn (out : List Bytes) (s : Bytes) : List Bytes := if out[placeOf s out]? = some s then out else out.take (placeOf s out) ++ s :: out.drop (placeOf s out)
def putAll (l : List Bytes) : List Bytes := l.foldl putIn []

theorem b_lt_irrefl (a : Bytes) : ¬ a < a := List.lt_irrefl a
theorem b_lt_trans {a b c : Bytes} (h : a < b) (k : b < c) : a < c := List.lt_trans h k
theorem b_not_lt {a b : Bytes} : ¬ a < b ↔ b ≤ a := List.not_lt
theorem b_lt_of_le_ne {a b : Bytes} (h : a ≤ b) (n : a ≠ b) : a < b := by
  rcases Classical.em (a < b) with k | k
  · exact k
  · exact absurd (List.le_antisymm h (b_not_lt.1 k)) n
theorem b_le_trans {a b c : Bytes} (h : a ≤ b) (k : b ≤ c) : a ≤ c := List.le_trans h k
theorem b_le_total (a b : Bytes) : a ≤ b ∨ b ≤ a := List.le_total a b

abbrev Rises (l : List Bytes) : Prop := l.Pairwise (· < ·)

theorem rises_ext {a b : List Bytes} (ha : Rises a) (hb : Rises b) (h : ∀ x, x ∈ a ↔ x ∈ b) : a = b := by
  induction a generalizing b with
  | nil =>
    cases b with
    | nil => rfl
    | cons y b => exact absurd ((h y).2 (by simp)) (by simp)
  | cons x a ih =>
    cases b with
    | nil => exact absurd ((h x).1 (by simp)) (by simp)
    | cons y b =>
      unfold Rises at ha hb
      rw [List.pairwise_cons] at ha hb
      have hxy : x = y := by
        rcases List.mem_cons.1 ((h x).1 (by simp)) with e | e
        · exact e
        · rcases List.mem_cons.1 ((h y).2 (by simp)) with e2 | e2
          · exact e2.symm
          · exact absurd (b_lt_trans (hb.1 x e) (ha.1 y e2)) (b_lt_irrefl y)
      subst hxy
      congr 1
      refine ih ha.2 hb.2 fun z => ⟨fun hz => ?_, fun hz => ?_⟩
      · rcases List.mem_cons.1 ((h z).1 (List.mem_cons_of_mem _ hz)) with e | e
        · subst e; exact absurd (ha.1 z hz) (b_lt_irrefl z)
        · exact e
      · rcases List.mem_cons.1 ((h z).2 (List.mem_cons_of_mem _ hz)) with e | e
        · subst e; exact absurd (hb.1 z hz) (b_lt_irrefl z)
        · exact e

theorem tw_imp {p : Bytes → Bool} {l : List Bytes} {x : Bytes} (h : x ∈ l.takeWhile p) : p x = true := by
  induction l with
  | nil => cases h
  | cons y l ih =>
    rw [List.takeWhile_cons] at h
    split at h
    · rename_i hy
      rcases List.mem_cons.1 h with rfl | h
      · exact hy
      · exact ih h
    · cases h
theorem dw_head {p : Bytes → Bool} {l r : List Bytes} {y : Bytes} (h : l.dropWhile p = y :: r) : p y = false := by
  induction l with
  | nil => cases h
  | cons z l ih =>
    rw [List.dropWhile_cons] at h
    split at h
    · exact ih h
    · rename_i hz
      injection h with h1 h2
      subst h1
      simpa using hz
theorem placeOf_le (s : Bytes) (out : List Bytes) : placeOf s out ≤ out.length := (List.takeWhile_sublist _).length_le
theorem take_place (s : Bytes) (out : List Bytes) : out.take (placeOf s out) = out.takeWhile fun x => decide (x < s) := by
  induction out with
  | nil => rfl
  | cons x r ih =>
    unfold placeOf at *
    by_cases h : x < s
    · simp [List.takeWhile_cons, h, ih]
    · simp [List.takeWhile_cons, h]
theorem drop_place (s : Bytes) (out : List Bytes) : out.drop (placeOf s out) = out.dropWhile fun x => decide (x < s) := by
  induction out with
  | nil => rfl
  | cons x r ih =>
    unfold placeOf at *
    by_cases h : x < s
    · simp [List.takeWhile_cons, List.dropWhile_cons, h, ih]
    · simp [List.takeWhile_cons, List.dropWhile_cons, h]
theorem placeOf_below (s : Bytes) (out : List Bytes) (k : Nat) (h : k < placeOf s out) (hk : k < out.length) : out[k] < s := by
  have hm : out[k] ∈ out.take (placeOf s out) := by
    rw [List.mem_take_iff_getElem]
    exact ⟨k, by omega, rfl⟩
  rw [take_place] at hm
  have := tw_imp hm
  simpa using this
theorem placeOf_at (s : Bytes) (out : List Bytes) (h : placeOf s out < out.length) : ¬ out[placeOf s out] < s := by
  have hd : out.drop (placeOf s out) = out[placeOf s out] :: out.drop (placeOf s out + 1) := List.drop_eq_getElem_cons h
  rw [drop_place] at hd
  intro hlt
  have := dw_head hd
  simp [hlt] at this

theorem putIn_mem (out : List Bytes) (s x : Bytes) : x ∈ putIn out s ↔ x = s ∨ x ∈ out := by
  unfold putIn
  split
  · rename_i h
    have := List.mem_of_getElem? h
    constructor
    · exact .inr
    · rintro (rfl | h) <;> assumption
  · conv => rhs; rw [← List.take_append_drop (placeOf s out) out]
    simp only [List.mem_append, List.mem_cons]
    constructor
    · rintro (h | h | h) <;> simp [h]
    · rintro (h | h | h) <;> simp [h]

theorem putIn_rises (out : List Bytes) (s : Bytes) (h : Rises out) : Rises (putIn out s) := by
  unfold putIn
  split
  · exact h
  · rename_i hne
    have hall : ∀ x ∈ out.drop (placeOf s out), s < x := by
      intro x hx
      obtain ⟨k, hk, rfl⟩ := List.mem_iff_getElem.1 hx
      simp only [List.getElem_drop]
      have hlen : placeOf s out < out.length := by simp at hk; omega
      have h0 := placeOf_at s out hlen
      have h1 : s < out[placeOf s out] := b_lt_of_le_ne (b_not_lt.1 h0) (fun e => hne (by rw [List.getElem?_eq_getElem hlen, ← e]))
      cases k with
      | zero => exact h1
      | succ k => exact b_lt_trans h1 (List.pairwise_iff_getElem.1 h _ _ hlen (by simp at hk; omega) (by omega))
    have hlow : ∀ x ∈ out.take (placeOf s out), x < s := by
      intro x hx
      rw [take_place] at hx
      simpa using tw_imp hx
    have hp := h
    unfold Rises at *
    rw [← List.take_append_drop (placeOf s out) out, List.pairwise_append] at hp
    rw [List.pairwise_append, List.pairwise_cons]
    exact ⟨hp.1, ⟨hall, hp.2.1⟩, fun a ha b hb => by
      rcases List.mem_cons.1 hb with rfl | hb
      · exact hlow a ha
      · exact b_lt_trans (hlow a ha) (hall b hb)⟩

theorem putAll_rises (l : List Bytes) : Rises (putAll l) := by
  unfold putAll
  suffices h : ∀ (l : List Bytes) acc, Rises acc → Rises (l.foldl putIn acc) from h l [] List.Pairwise.nil
  intro l
  induction l with
  | nil => exact fun acc h => h
  | cons x l ih => exact fun acc h => ih _ (putIn_rises acc x h)
theorem putAll_mem (l : List Bytes) (x : Bytes) : x ∈ putAll l ↔ x ∈ l := by
  unfold putAll
  suffices h : ∀ (l : List Bytes) acc, x ∈ l.foldl putIn acc ↔ x ∈ l ∨ x ∈ acc by simpa using h l []
  intro l
  induction l with
  | nil => simp
  | cons y l ih => intro acc; rw [List.foldl_cons, ih, putIn_mem, List.mem_cons]; grind

theorem compact_mem (zs : List Bytes) (x : Bytes) : x ∈ Lib.compact zs ↔ x ∈ zs := by
  unfold Lib.compact Lib.compactUpTo
  simp only [List.mem_map, List.mem_filter, List.mem_range]
  constructor
  · rintro ⟨j, ⟨hj, _⟩, rfl⟩
    simp [hj]
  · intro hx
    obtain ⟨k, hk, rfl⟩ := List.mem_iff_getElem.1 hx
    suffices h : ∀ k (hk : k < zs.length), ∃ j, (j < zs.length ∧ Lib.keeps zs.toArray j = true) ∧ zs.toArray[j]! = zs[k] from h k hk
    intro k
    induction k with
    | zero => exact fun hk => ⟨0, ⟨hk, by simp [Lib.keeps]⟩, by simp [hk]⟩
    | succ k ih =>
      intro hk
      by_cases e : zs[k + 1] = zs[k]
      · obtain ⟨j, h1, h2⟩ := ih (by omega)
        exact ⟨j, h1, by rw [h2, e]⟩
      · refine ⟨k + 1, ⟨hk, ?_⟩, by simp [hk]⟩
        have : k < zs.length := by omega
        simp [Lib.keeps, hk, this, e]
theorem compact_length_le (zs : List Bytes) : (Lib.compact zs).length ≤ zs.length := by
  unfold Lib.compact Lib.compactUpTo
  rw [List.length_map]
  exact Nat.le_trans (List.length_filter_le _ _) (by simp)
theorem compact_rises (zs : List Bytes) (h : zs.Pairwise (· ≤ ·)) : Rises (Lib.compact zs) := by
  unfold Lib.compact Lib.compactUpTo Rises
  rw [List.pairwise_map]
  have hr : ((List.range zs.length).filter (Lib.keeps zs.toArray)).Pairwise (· < ·) := List.Pairwise.filter _ List.pairwise_lt_range
  refine List.Pairwise.imp_of_mem ?_ hr
  intro i j hi hj hij
  simp only [List.mem_filter, List.mem_range] at hi hj
  obtain ⟨hj1, hj2⟩ := hj
  have hi1 := hi.1
  have hjm : j - 1 < zs.length := by omega
  simp only [Lib.keeps, decide_eq_true_eq] at hj2
  have hne : zs[j] ≠ zs[j - 1] := by
    rcases hj2 with h0 | h0
    · omega
    · simpa [hj1, hjm] using h0
  have h1 : zs[j - 1] < zs[j] := b_lt_of_le_ne (List.pairwise_iff_getElem.1 h _ _ hjm hj1 (by omega)) (Ne.symm hne)
  simp only [List.getElem!_toArray, List.getElem!_eq_getElem?_getD, List.getElem?_eq_getElem hj1, List.getElem?_eq_getElem hi1, Option.getD_some]
  by_cases e : i = j - 1
  · subst e; exact h1
  · have h2 := List.pairwise_iff_getElem.1 h i (j - 1) hi1 hjm (by omega)
    rcases Classical.em (zs[i] = zs[j - 1]) with e2 | e2
    · rw [e2]; exact h1
    · exact b_lt_trans (b_lt_of_le_ne h2 e2) h1
theorem rising_rises (l : List Bytes) : Rises (rising l) := by
  refine compact_rises _ ?_
  have := List.pairwise_mergeSort (le := fun x y : Bytes => decide (x ≤ y)) (fun a b c h k => by simp only [decide_eq_true_eq] at *; exact b_le_trans h k) (fun a b => by simpa using b_le_total a b) l
  exact this.imp fun h => by simpa using h
theorem rising_mem (l : List Bytes) (x : Bytes) : x ∈ rising l ↔ x ∈ l := by
  unfold rising
  rw [compact_mem, (List.mergeSort_perm l _).mem_iff]
theorem rising_eq (l : List Bytes) : rising l = putAll l :=
  rises_ext (rising_rises l) (putAll_rises l) fun x => by rw [rising_mem, putAll_mem]
theorem map_low_snoc' (names : List Bytes) (k : Nat) (h : k < names.length) : (names.take (k + 1)).map low = (names.take k).map low ++ [low names[k]] := by
  rw [take_snoc names k h, List.map_append]
  rfl
theorem putAll_low_snoc (l : List Bytes) (k : Nat) (h : k < l.length) : putAll ((l.take (k + 1)).map low) = putIn (putAll ((l.take k).map low)) (low l[k]) := by
  rw [map_low_snoc' l k h, putAll, List.foldl_append]
  rfl
theorem putIn_length (out : List Bytes) (s : Bytes) : (putIn out s).length ≤ out.length + 1 := by
  have := placeOf_le s out
  unfold putIn
  split
  · omega
  · simp; omega
theorem putAll_length (l : List Bytes) : (putAll l).length ≤ l.length := by
  suffices h : ∀ (l : List Bytes) acc, (l.foldl putIn acc).length ≤ l.length + acc.length by simpa [putAll] using h l []
  intro l
  induction l with
  | nil => simp
  | cons x l ih => intro acc; have := ih (putIn acc x); have := putIn_length acc x; simp only [List.foldl_cons, List.length_cons] at *; omega
end Go.Dr

namespace Go.Proofs
open Go.Shelf
def Tryz.lays190_ren : Go.Shelf.Ren := ⟨fun | 190 => 122 | 125 => 146 | 258 => 145 | 128 => 173 | 129 => 174 | 302 => 164 | 303 => 165 | 304 => 166 | 305 => 167 | 306 => 168 | 307 => 169 | 308 => 170 | 309 => 171 | 310 => 172 | 333 => 193 | 329 => 194 | 330 => 195 | 334 => 196 | 335 => 197 | 336 => 198 | 344 => 216 | n => n, fun | 31 => 44 | 9 => 9 | 3 => 3 | 46 => 176 | 0 => 0 | 51 => 52 | 53 => 191 | 4 => 4 | 183 => 184 | 182 => 183 | 131 => 145 | 5 => 5 | 218 => 211 | 222 => 215 | 228 => 225 | 229 => 226 | n => n, fun | n => n⟩
theorem Tryz.lays190 : Go.Proofs.Lays.n190 Tryz.prog Tryz.lays190_ren := {
  mixed := by kernel_rfl
  f125 := Tryz.func146.trans (congrArg some (by kernel_rfl))
  f128 := Tryz.func173.trans (congrArg some (by kernel_rfl))
  f129 := Tryz.func174.trans (congrArg some (by kernel_rfl))
  f190 := Tryz.func122.trans (congrArg some (by kernel_rfl))
  f258 := Tryz.func145.trans (congrArg some (by kernel_rfl))
  f302 := Tryz.func164.trans (congrArg some (by kernel_rfl))
  f303 := Tryz.func165.trans (congrArg some (by kernel_rfl))
  f304 := Tryz.func166.trans (congrArg some (by kernel_rfl))
  f305 := Tryz.func167.trans (congrArg some (by kernel_rfl))
  f306 := Tryz.func168.trans (congrArg some (by kernel_rfl))
  f307 := Tryz.func169.trans (congrArg some (by kernel_rfl))
  f308 := Tryz.func170.trans (congrArg some (by kernel_rfl))
  f309 := Tryz.func171.trans (congrArg some (by kernel_rfl))
  f310 := Tryz.func172.trans (congrArg some (by kernel_rfl))
  f329 := Tryz.func194.trans (congrArg some (by kernel_rfl))
  f330 := Tryz.func195.trans (congrArg some (by kernel_rfl))
  f333 := Tryz.func193.trans (congrArg some (by kernel_rfl))
  f334 := Tryz.func196.trans (congrArg some (by kernel_rfl))
  f335 := Tryz.func197.trans (congrArg some (by kernel_rfl))
  f336 := Tryz.func198.trans (congrArg some (by kernel_rfl))
  f344 := Tryz.func216.trans (congrArg some (by kernel_rfl))
  t0 := Tryz.underlying0
  a0 := Tryz.isAgg0
  z0 := Tryz.sizeOf0
  v0 := Tryz.zeroValue0
  t3 := Tryz.underlying3
  a3 := Tryz.isAgg3
  z3 := Tryz.sizeOf3
  v3 := Tryz.zeroValue3
  t4 := Tryz.underlying4
  a4 := Tryz.isAgg4
  z4 := Tryz.sizeOf4
  v4 := Tryz.zeroValue4
  t5 := Tryz.underlying5
  a5 := Tryz.isAgg5
  z5 := Tryz.sizeOf5
  v5 := Tryz.zeroValue5
  t9 := Tryz.underlying9
  a9 := Tryz.isAgg9
  z9 := Tryz.sizeOf9
  v9 := Tryz.zeroValue9
  t31 := Tryz.underlying44
  a31 := Tryz.isAgg44
  z31 := Tryz.sizeOf44
  v31 := Tryz.zeroValue44
  t46 := Tryz.underlying176
  a46 := Tryz.isAgg176
  z46 := Tryz.sizeOf176
  v46 := Tryz.zeroValue176
  t51 := Tryz.underlying52
  a51 := Tryz.isAgg52
  z51 := Tryz.sizeOf52
  v51 := Tryz.zeroValue52
  t53 := Tryz.underlying191
  a53 := Tryz.isAgg191
  z53 := Tryz.sizeOf191
  v53 := Tryz.zeroValue191
  t131 := Tryz.underlying145
  a131 := Tryz.isAgg145
  z131 := Tryz.sizeOf145
  v131 := Tryz.zeroValue145
  t182 := Tryz.underlying183
  a182 := Tryz.isAgg183
  z182 := Tryz.sizeOf183
  v182 := Tryz.zeroValue183
  t183 := Tryz.underlying184
  a183 := Tryz.isAgg184
  z183 := Tryz.sizeOf184
  v183 := Tryz.zeroValue184
  t218 := Tryz.underlying211
  a218 := Tryz.isAgg211
  z218 := Tryz.sizeOf211
  v218 := Tryz.zeroValue211
  t222 := Tryz.underlying215
  a222 := Tryz.isAgg215
  z222 := Tryz.sizeOf215
  v222 := Tryz.zeroValue215
  t228 := Tryz.underlying225
  a228 := Tryz.isAgg225
  z228 := Tryz.sizeOf225
  v228 := Tryz.zeroValue225
  t229 := Tryz.underlying226
  a229 := Tryz.isAgg226
  z229 := Tryz.sizeOf226
  v229 := Tryz.zeroValue226 }
open Go.Sort Go.RowKit in
theorem Tryz.slices_Sort_string (blk off cap : Nat) (ss : List (List UInt8)) (w : World) (hH : Holds encStr w blk off ss.toArray) (hblk : blk < w.heap.size) (hsz : ss.length < 4611686018427387904) :
    Calls Tryz.prog 122 #[.slice (some ⟨blk, off, none⟩) ss.length cap] w fun e w' =>
      e = .returned (.tuple #[]) ∧ ∃ n os, w' = grow (putRow encStr (Sort.ahead w n) blk off (ss.mergeSort fun x y => decide (x ≤ y)).toArray) os := Any.slices_Sort_string Tryz.lays190 blk off cap ss w hH hblk hsz
open Go.RowKit Go.Sort in
theorem Tryz.slices_Sort_string_none (p : Option Addr) (cap : Nat) (w : World) :
    Calls Tryz.prog 122 #[.slice p 0 cap] w fun e w' => e = .returned (.tuple #[]) ∧ w' = w := Any.slices_Sort_string_none Tryz.lays190 p cap w
end Go.Proofs

namespace Go.Proofs.YtahapblgmehngaaGreatDoor
open Go.RowKit Go.Dr

theorem own_less {w : World} {base : Nat} {e : TypeId} {size : Nat} {a : Option Addr} {n cap : Nat} {xs : List Value} (h : w.ownsRow base e size (.slice a n cap) n xs) {m : Nat} (hm : m ≤ n) (ha : a ≠ none) : w.ownsRow base e size (.slice a m cap) m (xs.take (m * size)) := by
  have hle := Nat.mul_le_mul_right size hm
  refine ⟨by rw [List.length_take, h.1]; omega, ?_⟩
  rcases h.2 with ⟨hn, _⟩ | ⟨g, cap', cur, hv, hbg, hgg, h1, h2, h3, h4⟩
  · simp only [Value.slice.injEq] at hn
    exact absurd hn.1 ha
  · simp only [Value.slice.injEq] at hv
    obtain ⟨rfl, -, rfl⟩ := hv
    exact .inr ⟨g, cap, cur, rfl, hbg, hgg, by omega, h2, h3, by rw [← h4, List.take_take, Nat.min_eq_left hle]⟩

theorem S_enc (l : List Bytes) : l.map S = l.map encStr := rfl

theorem rising_nil : rising [] = [] := by simp [rising, Lib.compact, Lib.compactUpTo]

set_option maxRecDepth 100000 in
set_option maxHeartbeats 1000000 in
theorem rising_any (l : List Bytes) (base : Nat) (v : Value) (w : World) (h : w.ownsRow base 9 1 v l.length (l.map S)) (hB : base ≤ w.heap.size) (hl : l.length ≤ 1099511627776) :
    Calls Tryz.prog 94 #[v] w fun e w' => ∃ v', e = .returned v' ∧ w'.ownsRow base 9 1 v' (rising l).length ((rising l).map S) ∧ Below base w w' := by
  rcases h.2 with ⟨rfl, hn⟩ | ⟨g, cap, cur, rfl, hbg, hgg, h1, h2, h3, h4⟩
  · obtain rfl : l = [] := List.eq_nil_of_length_eq_zero hn
    go_enter Tryz.func94, Tryz.ntmps94
    go_wp2_with fail
    refine (Tryz.slices_Sort_string_none none 0 w).mono ?_
    rintro e w1 ⟨rfl, hw1⟩
    obtain rfl : w = w1 := hw1.symm
    go_wp2_with fail
    refine (Tryz.slices_Compact_string_empty none 0 w).mono ?_
    rintro e w1 ⟨rfl, hw1⟩
    obtain rfl : w = w1 := hw1.symm
    go_wp2
    go_ret
    exact ⟨.slice none 0 0, rfl, by rw [rising_nil]; exact h, Below.refl _ _⟩
  · have hlt := (Array.getElem?_eq_some_iff.1 hgg).1
    rw [Nat.mul_one, S_enc] at h4
    have hzl : (l.mergeSort fun x y => decide (x ≤ y)).length = l.length := List.length_mergeSort _
    have HR : Hid (rising l = Lib.compact (l.mergeSort fun x y => decide (x ≤ y))) := rfl
    have hso := Tryz.slices_Sort_string g 0 cap l w (holds_of_block hgg h4) hlt (by omega)
    go_enter Tryz.func94, Tryz.ntmps94
    go_wp2_with fail
    refine hso.mono ?_
    rintro e w1 ⟨rfl, n, os, hw1⟩
    have ho1 := ownsRow_sorted (n := n) (os := os) hzl hbg hgg h1 h2 h3
    have hg1 := grownBy_sorted (w := w) (g := g) (n := n) (os := os) (l.mergeSort fun x y => decide (x ≤ y)).toArray
    rw [← hw1] at ho1 hg1
    clear hw1 hso
    rw [← hzl] at ho1 ⊢
    generalize (l.mergeSort fun x y => decide (x ≤ y)) = zs at *
    have hzb : zs.length ≤ 1099511627776 := by omega
    clear hzl
    have hcl := compact_length_le zs
    have hb1 : Below base w w1 := (Below.refl _ _).grown hg1 hB (by intro k hk; simp only [Option.some.injEq] at hk; omega)
    rcases ho1.2 with ⟨hn, _⟩ | ⟨g', cap', cur1, hv, hbg1, hgg1, k1, k2, k3, k4⟩
    · cases hn
    · simp only [Value.slice.injEq, Option.some.injEq, Addr.mk.injEq, and_true, true_and] at hv
      obtain ⟨rfl, rfl⟩ := hv
      rw [Nat.mul_one] at k4
      go_wp2_with fail
      refine (Tryz.slices_Compact_string g 0 cap zs w1 (holds_of_block hgg1 k4) (by omega) k1).mono ?_
      rintro e w2 ⟨rfl, q, hw2⟩
      rw [← Go.Sort.grow_empty (Go.Sort.putRow _ _ _ _ _)] at hw2
      have hzz : (Lib.compact zs ++ List.replicate (zs.length - (Lib.compact zs).length) []).length = zs.length := by simp; omega
      have ho2 := ownsRow_sorted (n := q) (os := #[]) hzz hbg1 hgg1 k1 k2 k3
      have hg2 := grownBy_sorted (w := w1) (g := g) (n := q) (os := #[]) (Lib.compact zs ++ List.replicate (zs.length - (Lib.compact zs).length) []).toArray
      rw [← hw2] at ho2 hg2
      clear hw2
      have hb2 : Below base w1 w2 := (Below.refl _ _).grown hg2 (by have := hb1.size; omega) (by intro k hk; simp only [Option.some.injEq] at hk; omega)
      have ho3 := own_less ho2 (m := (Lib.compact zs).length) (by omega) (by simp)
      go_wp2
      go_ret
      refine ⟨_, rfl, ?_, hb1.trans hb2⟩
      rw [HR.out, S_enc]
      rw [Nat.mul_one, List.map_append, List.take_append_of_le_length (by simp), List.take_of_length_le (by simp)] at ho3
      exact ho3

theorem Key_any (r : Rq) (w : World) (h : r.s.length + r.a.length + r.p.length ≤ 4611686018427387904) :
    Calls Tryz.prog 34 #[r.val] w fun e w' => e = .returned (S (r.s ++ [58, 47, 47] ++ r.a ++ r.p)) ∧ Below w.heap.size w w' := by
  unfold Rq.val
  go_enter Tryz.func34, Tryz.ntmps34
  go_wp2
  go_ret
  exact ⟨by simp, (Below.refl _ _).alloc (Nat.le_refl _) _⟩
theorem refKey_any (r : Rq) (w : World) (h : r.s.length + r.a.length + r.p.length ≤ 4611686018427387904) :
    Calls Tryz.prog 15 #[r.val] w fun e w' => e = .returned (S (r.s ++ [58, 47, 47] ++ r.a ++ r.p)) ∧ Below w.heap.size w w' := by
  unfold Rq.val
  go_enter Tryz.func15, Tryz.ntmps15
  go_wp2
  go_ret
  exact ⟨by simp, (Below.refl _ _).alloc (Nat.le_refl _) _⟩
end Go.Proofs.YtahapblgmehngaaGreatDoor

