/- Parts of the proof of DealDecides_holds: the texts Two VarL Shelf2 Var3 Dea4. -/
import Derived.Lib.SlicesCompact
import Derived.Sort.Walk0
import Derived.Sort.OwnSorted
import Derived.Test.YtahapblgmehngaaGreatDoorE24
import Derived.Test.YtahapblgmehngaaGreatDoorProg
import Derived.Test.YtahapblgmehngaaGreatDoorE16
set_option linter.unusedSimpArgs false
set_option linter.unusedVariables false
set_option linter.unnecessarySimpa false
set_option maxRecDepth 100000
set_option maxHeartbeats 64000000
namespace Go.Proofs.YtahapblgmehngaaGreatDoor
open Go.RowKit Go.Dr
def Keeps (w w' : World) : Prop := ∀ (b : Nat) (t : TypeId) (xs : Array Value), t ≠ 100 → t ≠ 97 → t ≠ 70 → Blk w b t xs → Blk w' b t xs
theorem Keeps.below {w w' : World} (h : Below w.heap.size w w') : Keeps w w' := fun _ _ _ _ _ _ hb => hb.on h
theorem Keeps.but_s {fb rb : Nat} {w w' : World} {s R m : Nat} {most last : Int} {l : List Nd} (hs : Sh fb rb w s R m most last l) (h : But (Foot s R m l) w w') : Keeps w w' := fun _ _ _ h1 h2 _ hb => hb.but h (hs.off hb h1 h2)
theorem Keeps.but_r {w w' : World} {r : Nat} {xs : Array Value} (hr : Blk w r 70 xs) (h : But (fun k => k = r) w w') : Keeps w w' := fun g t ys _ _ h3 hb => hb.but h fun e => by
 have e : g = r := e;subst e;unfold Blk at hb hr;rw [hr] at hb;simp only [Option.some.injEq, Obj.cells.injEq] at hb;exact h3 hb.2.1.symm
def After (R r M : Nat) (w : World) (lo hi : Int) (Q : List Nd → Prop) (w' : World) : Prop := ∃ last v er l', Two w' R r M last v er l' ∧ (∀ n ∈ l', n.x.id ≤ last) ∧ lo ≤ last ∧ last ≤ hi ∧ Q l' ∧ Keeps w w' ∧ Below R w w'
def Laid (M : Nat) (l : List Nd) (q : En) (lp lf : List F) (l' : List Nd) : Prop := (∀ n ∈ l', n ∈ l ∨ ∃ i, n.x = It.of i q lp lf) ∧ (costF q lp lf ≤ M → ∃ n ∈ l', ∃ i, n.x = It.of i q lp lf)
theorem roomOf_mem {k : Nat} {l : List Nd} {n : Nd} (h : n ∈ roomOf k l) : n ∈ l := by
 obtain ⟨d, e⟩ := roomOf_suffix k l;rw [e];exact List.mem_append.2 (.inr h)
section
variable {w : World} {R r M : Nat} {last : Int} {v : Value} {er : List Ev} {l : List Nd}
theorem Two.rlt (h : Two w R r M last v er l) : R < w.heap.size := h.sh.rlt
theorem Two.drop (h : Two w R r M last v er l) {w' : World} (hb : But (Foot (R + 2) R (R + 1) l) w w') : Below R w w' := hb.below h.sh.base (Nat.le_of_lt h.rlt)
theorem Two.rsb (h : Two w R r M last v er l) {w' : World} (hb : But (Foot (R + 2) R (R + 1) l) w w') : Rs R w' r (M : Int) last v er := h.rs.but h.sh hb h.sh.base
theorem Two.alikeF (h : Two w R r M last v er l) (key : Bytes) (lp : List F) : (er.filter (fun e => !alikeE key lp e)).map Ev.x = (l.filter (fun n => !alikeP key lp n)).map Nd.x := join_filter h.eq (fun x => !(x.key == key && x.lp == lp))
end
end Go.Proofs.YtahapblgmehngaaGreatDoor
namespace Go.Dr
def rising (l : List Bytes) : List Bytes := Lib.compact (l.mergeSort fun x y => decide (x ≤ y))
def placeOf (s : Bytes) (out : List Bytes) : Nat := (out.takeWhile fun x => decide (x < s)).length
def putIn (out : List Bytes) (s : Bytes) : List Bytes := if out[placeOf s out]? = some s then out else out.take (placeOf s out) ++ s :: out.drop (placeOf s out)
def putAll (l : List Bytes) : List Bytes := l.foldl putIn []
theorem b_lt_irrefl (a : Bytes) : ¬ a < a := List.lt_irrefl a
theorem b_lt_trans {a b c : Bytes} (h : a < b) (k : b < c) : a < c := List.lt_trans h k
theorem b_not_lt {a b : Bytes} : ¬ a < b ↔ b ≤ a := List.not_lt
theorem b_lt_of_le_ne {a b : Bytes} (h : a ≤ b) (n : a ≠ b) : a < b := by
 rcases Classical.em (a < b) with k | k
 ·exact k
 ·exact absurd (List.le_antisymm h (b_not_lt.1 k)) n
theorem b_le_trans {a b c : Bytes} (h : a ≤ b) (k : b ≤ c) : a ≤ c := List.le_trans h k
theorem b_le_total (a b : Bytes) : a ≤ b ∨ b ≤ a := List.le_total a b
abbrev Rises (l : List Bytes) : Prop := l.Pairwise (· < ·)
theorem rises_ext {a b : List Bytes} (ha : Rises a) (hb : Rises b) (h : ∀ x, x ∈ a ↔ x ∈ b) : a = b := by
 induction a generalizing b with
 | nil =>
  cases b with
  | nil => rfl
  | cons y b => exact absurd ((h y).2 (by simp)) (by simp)
 | cons x a ih =>
  cases b with
  | nil => exact absurd ((h x).1 (by simp)) (by simp)
  | cons y b =>
   unfold Rises at ha hb;rw [List.pairwise_cons] at ha hb
   have hxy : x = y := by
    rcases List.mem_cons.1 ((h x).1 (by simp)) with e | e
    ·exact e
    ·rcases List.mem_cons.1 ((h y).2 (by simp)) with e2 | e2
     ·exact e2.symm
     ·exact absurd (b_lt_trans (hb.1 x e) (ha.1 y e2)) (b_lt_irrefl y)
   subst hxy
   congr 1
   refine ih ha.2 hb.2 fun z => ⟨fun hz => ?_, fun hz => ?_⟩
   ·rcases List.mem_cons.1 ((h z).1 (List.mem_cons_of_mem _ hz)) with e | e
    ·subst e;exact absurd (ha.1 z hz) (b_lt_irrefl z)
    ·exact e
   ·rcases List.mem_cons.1 ((h z).2 (List.mem_cons_of_mem _ hz)) with e | e
    ·subst e;exact absurd (hb.1 z hz) (b_lt_irrefl z)
    ·exact e
theorem tw_imp {p : Bytes → Bool} {l : List Bytes} {x : Bytes} (h : x ∈ l.takeWhile p) : p x = true := by
 induction l with
 | nil => cases h
 | cons y l ih =>
  rw [List.takeWhile_cons] at h
  split at h
  ·rename_i hy
   rcases List.mem_cons.1 h with rfl | h
   ·exact hy
   ·exact ih h
  ·cases h
theorem dw_head {p : Bytes → Bool} {l r : List Bytes} {y : Bytes} (h : l.dropWhile p = y :: r) : p y = false := by
 induction l with
 | nil => cases h
 | cons z l ih =>
  rw [List.dropWhile_cons] at h
  split at h
  ·exact ih h
  ·rename_i hz
   injection h with h1 h2
   subst h1;simpa using hz
theorem placeOf_le (s : Bytes) (out : List Bytes) : placeOf s out ≤ out.length := (List.takeWhile_sublist _).length_le
theorem take_place (s : Bytes) (out : List Bytes) : out.take (placeOf s out) = out.takeWhile fun x => decide (x < s) := by
 induction out with
 | nil => rfl
 | cons x r ih =>
  unfold placeOf at *;by_cases h : x < s
  ·simp [List.takeWhile_cons, h, ih]
  ·simp [List.takeWhile_cons, h]
theorem drop_place (s : Bytes) (out : List Bytes) : out.drop (placeOf s out) = out.dropWhile fun x => decide (x < s) := by
 induction out with
 | nil => rfl
 | cons x r ih =>
  unfold placeOf at *;by_cases h : x < s
  ·simp [List.takeWhile_cons, List.dropWhile_cons, h, ih]
  ·simp [List.takeWhile_cons, List.dropWhile_cons, h]
theorem placeOf_below (s : Bytes) (out : List Bytes) (k : Nat) (h : k < placeOf s out) (hk : k < out.length) : out[k] < s := by
 have hm : out[k] ∈ out.take (placeOf s out) := by
  rw [List.mem_take_iff_getElem];exact ⟨k, by omega, rfl⟩
 rw [take_place] at hm;have := tw_imp hm
 simpa using this
theorem placeOf_at (s : Bytes) (out : List Bytes) (h : placeOf s out < out.length) : ¬ out[placeOf s out] < s := by
 have hd : out.drop (placeOf s out) = out[placeOf s out] :: out.drop (placeOf s out + 1) := List.drop_eq_getElem_cons h;rw [drop_place] at hd;intro hlt;have := dw_head hd
 simp [hlt] at this
theorem putIn_mem (out : List Bytes) (s x : Bytes) : x ∈ putIn out s ↔ x = s ∨ x ∈ out := by
 unfold putIn
 split
 ·rename_i h
  have := List.mem_of_getElem? h
  constructor
  ·exact .inr
  ·rintro (rfl | h) <;> assumption
 ·conv => rhs;rw [← List.take_append_drop (placeOf s out) out]
  simp only [List.mem_append, List.mem_cons]
  constructor
  ·rintro (h | h | h) <;> simp [h]
  ·rintro (h | h | h) <;> simp [h]
theorem putIn_rises (out : List Bytes) (s : Bytes) (h : Rises out) : Rises (putIn out s) := by
 unfold putIn
 split
 ·exact h
 ·rename_i hne
  have hall : ∀ x ∈ out.drop (placeOf s out), s < x := by
   intro x hx;obtain ⟨k, hk, rfl⟩ := List.mem_iff_getElem.1 hx;simp only [List.getElem_drop];have hlen : placeOf s out < out.length := (by simp at hk;omega);have h0 := placeOf_at s out hlen;have h1 : s < out[placeOf s out] := b_lt_of_le_ne (b_not_lt.1 h0) (fun e => hne (by rw [List.getElem?_eq_getElem hlen, ← e]))
   cases k with
   | zero => exact h1
   | succ k => exact b_lt_trans h1 (List.pairwise_iff_getElem.1 h _ _ hlen (by simp at hk;omega) (by omega))
  have hlow : ∀ x ∈ out.take (placeOf s out), x < s := by
   intro x hx;rw [take_place] at hx;simpa using tw_imp hx
  have hp := h;unfold Rises at *;rw [← List.take_append_drop (placeOf s out) out, List.pairwise_append] at hp;rw [List.pairwise_append, List.pairwise_cons]
  exact ⟨hp.1, ⟨hall, hp.2.1⟩, fun a ha b hb => by
   rcases List.mem_cons.1 hb with rfl | hb
   ·exact hlow a ha
   ·exact b_lt_trans (hlow a ha) (hall b hb)⟩
theorem putAll_rises (l : List Bytes) : Rises (putAll l) := by
 unfold putAll
 suffices h : ∀ (l : List Bytes) acc, Rises acc → Rises (l.foldl putIn acc) from h l [] List.Pairwise.nil
 intro l
 induction l with
 | nil => exact fun acc h => h
 | cons x l ih => exact fun acc h => ih _ (putIn_rises acc x h)
theorem putAll_mem (l : List Bytes) (x : Bytes) : x ∈ putAll l ↔ x ∈ l := by
 unfold putAll
 suffices h : ∀ (l : List Bytes) acc, x ∈ l.foldl putIn acc ↔ x ∈ l ∨ x ∈ acc by simpa using h l []
 intro l
 induction l with
 | nil => simp
 | cons y l ih => intro acc;rw [List.foldl_cons, ih, putIn_mem, List.mem_cons];grind
theorem compact_mem (zs : List Bytes) (x : Bytes) : x ∈ Lib.compact zs ↔ x ∈ zs := by
 unfold Lib.compact Lib.compactUpTo;simp only [List.mem_map, List.mem_filter, List.mem_range]
 constructor
 ·rintro ⟨j, ⟨hj, _⟩, rfl⟩
  simp [hj]
 ·intro hx
  obtain ⟨k, hk, rfl⟩ := List.mem_iff_getElem.1 hx
  suffices h : ∀ k (hk : k < zs.length), ∃ j, (j < zs.length ∧ Lib.keeps zs.toArray j = true) ∧ zs.toArray[j]! = zs[k] from h k hk
  intro k
  induction k with
  | zero => exact fun hk => ⟨0, ⟨hk, by simp [Lib.keeps]⟩, by simp [hk]⟩
  | succ k ih =>
   intro hk;by_cases e : zs[k + 1] = zs[k]
   ·obtain ⟨j, h1, h2⟩ := ih (by omega)
    exact ⟨j, h1, by rw [h2, e]⟩
   ·refine ⟨k + 1, ⟨hk, ?_⟩, by simp [hk]⟩
    have : k < zs.length := (by omega)
    simp [Lib.keeps, hk, this, e]
theorem compact_length_le (zs : List Bytes) : (Lib.compact zs).length ≤ zs.length := by
 unfold Lib.compact Lib.compactUpTo;rw [List.length_map];exact Nat.le_trans (List.length_filter_le _ _) (by simp)
theorem compact_rises (zs : List Bytes) (h : zs.Pairwise (· ≤ ·)) : Rises (Lib.compact zs) := by
 unfold Lib.compact Lib.compactUpTo Rises;rw [List.pairwise_map];have hr : ((List.range zs.length).filter (Lib.keeps zs.toArray)).Pairwise (· < ·) := List.Pairwise.filter _ List.pairwise_lt_range;refine List.Pairwise.imp_of_mem ?_ hr;intro i j hi hj hij;simp only [List.mem_filter, List.mem_range] at hi hj;obtain ⟨hj1, hj2⟩ := hj;have hi1 := hi.1;have hjm : j - 1 < zs.length := (by omega);simp only [Lib.keeps, decide_eq_true_eq] at hj2
 have hne : zs[j] ≠ zs[j - 1] := by
  rcases hj2 with h0 | h0
  ·omega
  ·simpa [hj1, hjm] using h0
 have h1 : zs[j - 1] < zs[j] := b_lt_of_le_ne (List.pairwise_iff_getElem.1 h _ _ hjm hj1 (by omega)) (Ne.symm hne);simp only [List.getElem!_toArray, List.getElem!_eq_getElem?_getD, List.getElem?_eq_getElem hj1, List.getElem?_eq_getElem hi1, Option.getD_some];by_cases e : i = j - 1
 ·subst e;exact h1
 ·have h2 := List.pairwise_iff_getElem.1 h i (j - 1) hi1 hjm (by omega)
  rcases Classical.em (zs[i] = zs[j - 1]) with e2 | e2
  ·rw [e2];exact h1
  ·exact b_lt_trans (b_lt_of_le_ne h2 e2) h1
theorem rising_rises (l : List Bytes) : Rises (rising l) := by
 refine compact_rises _ ?_;have := List.pairwise_mergeSort (le := fun x y : Bytes => decide (x ≤ y)) (fun a b c h k => by simp only [decide_eq_true_eq] at *;exact b_le_trans h k) (fun a b => by simpa using b_le_total a b) l
 exact this.imp fun h => by simpa using h
theorem rising_mem (l : List Bytes) (x : Bytes) : x ∈ rising l ↔ x ∈ l := by
 unfold rising;rw [compact_mem, (List.mergeSort_perm l _).mem_iff]
theorem rising_eq (l : List Bytes) : rising l = putAll l :=
 rises_ext (rising_rises l) (putAll_rises l) fun x => by rw [rising_mem, putAll_mem]
theorem map_low_snoc' (names : List Bytes) (k : Nat) (h : k < names.length) : (names.take (k + 1)).map low = (names.take k).map low ++ [low names[k]] := by
 rw [take_snoc names k h, List.map_append];rfl
theorem putAll_low_snoc (l : List Bytes) (k : Nat) (h : k < l.length) : putAll ((l.take (k + 1)).map low) = putIn (putAll ((l.take k).map low)) (low l[k]) := by
 rw [map_low_snoc' l k h, putAll, List.foldl_append];rfl
theorem putIn_length (out : List Bytes) (s : Bytes) : (putIn out s).length ≤ out.length + 1 := by
 have := placeOf_le s out
 unfold putIn
 split
 ·omega
 ·simp;omega
theorem putAll_length (l : List Bytes) : (putAll l).length ≤ l.length := by
 suffices h : ∀ (l : List Bytes) acc, (l.foldl putIn acc).length ≤ l.length + acc.length by simpa [putAll] using h l []
 intro l
 induction l with
 | nil => simp
 | cons x l ih => intro acc;have := ih (putIn acc x);have := putIn_length acc x;simp only [List.foldl_cons, List.length_cons] at *;omega
end Go.Dr
namespace Go.Proofs
open Go.Shelf
def Tryz.lays190_ren : Go.Shelf.Ren := ⟨fun | 190 => 122 | 125 => 146 | 258 => 145 | 128 => 173 | 129 => 174 | 302 => 164 | 303 => 165 | 304 => 166 | 305 => 167 | 306 => 168 | 307 => 169 | 308 => 170 | 309 => 171 | 310 => 172 | 333 => 193 | 329 => 194 | 330 => 195 | 334 => 196 | 335 => 197 | 336 => 198 | 344 => 216 | n => n, fun | 31 => 44 | 9 => 9 | 3 => 3 | 46 => 176 | 0 => 0 | 51 => 52 | 53 => 191 | 4 => 4 | 183 => 184 | 182 => 183 | 131 => 145 | 5 => 5 | 218 => 211 | 222 => 215 | 228 => 225 | 229 => 226 | n => n, fun | n => n⟩
theorem Tryz.lays190 : Go.Proofs.Lays.n190 Tryz.prog Tryz.lays190_ren := {
 mixed := by kernel_rfl
 f125 := Tryz.func146.trans (congrArg some (by kernel_rfl))
 f128 := Tryz.func173.trans (congrArg some (by kernel_rfl))
 f129 := Tryz.func174.trans (congrArg some (by kernel_rfl))
 f190 := Tryz.func122.trans (congrArg some (by kernel_rfl))
 f258 := Tryz.func145.trans (congrArg some (by kernel_rfl))
 f302 := Tryz.func164.trans (congrArg some (by kernel_rfl))
 f303 := Tryz.func165.trans (congrArg some (by kernel_rfl))
 f304 := Tryz.func166.trans (congrArg some (by kernel_rfl))
 f305 := Tryz.func167.trans (congrArg some (by kernel_rfl))
 f306 := Tryz.func168.trans (congrArg some (by kernel_rfl))
 f307 := Tryz.func169.trans (congrArg some (by kernel_rfl))
 f308 := Tryz.func170.trans (congrArg some (by kernel_rfl))
 f309 := Tryz.func171.trans (congrArg some (by kernel_rfl))
 f310 := Tryz.func172.trans (congrArg some (by kernel_rfl))
 f329 := Tryz.func194.trans (congrArg some (by kernel_rfl))
 f330 := Tryz.func195.trans (congrArg some (by kernel_rfl))
 f333 := Tryz.func193.trans (congrArg some (by kernel_rfl))
 f334 := Tryz.func196.trans (congrArg some (by kernel_rfl))
 f335 := Tryz.func197.trans (congrArg some (by kernel_rfl))
 f336 := Tryz.func198.trans (congrArg some (by kernel_rfl))
 f344 := Tryz.func216.trans (congrArg some (by kernel_rfl))
 t0 := Tryz.underlying0
 a0 := Tryz.isAgg0
 z0 := Tryz.sizeOf0
 v0 := Tryz.zeroValue0
 t3 := Tryz.underlying3
 a3 := Tryz.isAgg3
 z3 := Tryz.sizeOf3
 v3 := Tryz.zeroValue3
 t4 := Tryz.underlying4
 a4 := Tryz.isAgg4
 z4 := Tryz.sizeOf4
 v4 := Tryz.zeroValue4
 t5 := Tryz.underlying5
 a5 := Tryz.isAgg5
 z5 := Tryz.sizeOf5
 v5 := Tryz.zeroValue5
 t9 := Tryz.underlying9
 a9 := Tryz.isAgg9
 z9 := Tryz.sizeOf9
 v9 := Tryz.zeroValue9
 t31 := Tryz.underlying44
 a31 := Tryz.isAgg44
 z31 := Tryz.sizeOf44
 v31 := Tryz.zeroValue44
 t46 := Tryz.underlying176
 a46 := Tryz.isAgg176
 z46 := Tryz.sizeOf176
 v46 := Tryz.zeroValue176
 t51 := Tryz.underlying52
 a51 := Tryz.isAgg52
 z51 := Tryz.sizeOf52
 v51 := Tryz.zeroValue52
 t53 := Tryz.underlying191
 a53 := Tryz.isAgg191
 z53 := Tryz.sizeOf191
 v53 := Tryz.zeroValue191
 t131 := Tryz.underlying145
 a131 := Tryz.isAgg145
 z131 := Tryz.sizeOf145
 v131 := Tryz.zeroValue145
 t182 := Tryz.underlying183
 a182 := Tryz.isAgg183
 z182 := Tryz.sizeOf183
 v182 := Tryz.zeroValue183
 t183 := Tryz.underlying184
 a183 := Tryz.isAgg184
 z183 := Tryz.sizeOf184
 v183 := Tryz.zeroValue184
 t218 := Tryz.underlying211
 a218 := Tryz.isAgg211
 z218 := Tryz.sizeOf211
 v218 := Tryz.zeroValue211
 t222 := Tryz.underlying215
 a222 := Tryz.isAgg215
 z222 := Tryz.sizeOf215
 v222 := Tryz.zeroValue215
 t228 := Tryz.underlying225
 a228 := Tryz.isAgg225
 z228 := Tryz.sizeOf225
 v228 := Tryz.zeroValue225
 t229 := Tryz.underlying226
 a229 := Tryz.isAgg226
 z229 := Tryz.sizeOf226
 v229 := Tryz.zeroValue226 }
open Go.Sort Go.RowKit in
theorem Tryz.slices_Sort_string (blk off cap : Nat) (ss : List (List UInt8)) (w : World) (hH : Holds encStr w blk off ss.toArray) (hblk : blk < w.heap.size) (hsz : ss.length < 4611686018427387904) :
 Calls Tryz.prog 122 #[.slice (some ⟨blk, off, none⟩) ss.length cap] w fun e w' =>
  e = .returned (.tuple #[]) ∧ ∃ n os, w' = grow (putRow encStr (Sort.ahead w n) blk off (ss.mergeSort fun x y => decide (x ≤ y)).toArray) os := Any.slices_Sort_string Tryz.lays190 blk off cap ss w hH hblk hsz
open Go.RowKit Go.Sort in
theorem Tryz.slices_Sort_string_none (p : Option Addr) (cap : Nat) (w : World) :
 Calls Tryz.prog 122 #[.slice p 0 cap] w fun e w' => e = .returned (.tuple #[]) ∧ w' = w := Any.slices_Sort_string_none Tryz.lays190 p cap w
end Go.Proofs
namespace Go.Proofs.YtahapblgmehngaaGreatDoor
open Go.RowKit Go.Dr
theorem own_less {w : World} {base : Nat} {e : TypeId} {size : Nat} {a : Option Addr} {n cap : Nat} {xs : List Value} (h : w.ownsRow base e size (.slice a n cap) n xs) {m : Nat} (hm : m ≤ n) (ha : a ≠ none) : w.ownsRow base e size (.slice a m cap) m (xs.take (m * size)) := by
 have hle := Nat.mul_le_mul_right size hm;refine ⟨by rw [List.length_take, h.1];omega, ?_⟩
 rcases h.2 with ⟨hn, _⟩ | ⟨g, cap', cur, hv, hbg, hgg, h1, h2, h3, h4⟩
 ·simp only [Value.slice.injEq] at hn
  exact absurd hn.1 ha
 ·simp only [Value.slice.injEq] at hv
  obtain ⟨rfl, -, rfl⟩ := hv;exact .inr ⟨g, cap, cur, rfl, hbg, hgg, by omega, h2, h3, by rw [← h4, List.take_take, Nat.min_eq_left hle]⟩
theorem S_enc (l : List Bytes) : l.map S = l.map encStr := rfl
theorem rising_nil : rising [] = [] := by simp [rising, Lib.compact, Lib.compactUpTo]
theorem rising_any (l : List Bytes) (base : Nat) (v : Value) (w : World) (h : w.ownsRow base 9 1 v l.length (l.map S)) (hB : base ≤ w.heap.size) (hl : l.length ≤ 1099511627776) :
  Calls Tryz.prog 94 #[v] w fun e w' => ∃ v', e = .returned v' ∧ w'.ownsRow base 9 1 v' (rising l).length ((rising l).map S) ∧ Below base w w' := by
 rcases h.2 with ⟨rfl, hn⟩ | ⟨g, cap, cur, rfl, hbg, hgg, h1, h2, h3, h4⟩
 ·obtain rfl : l = [] := List.eq_nil_of_length_eq_zero hn
  go_enter Tryz.func94, Tryz.ntmps94
  go_wp2_with fail;refine (Tryz.slices_Sort_string_none none 0 w).mono ?_;rintro e w1 ⟨rfl, hw1⟩;obtain rfl : w = w1 := hw1.symm;go_wp2_with fail;refine (Tryz.slices_Compact_string_empty none 0 w).mono ?_;rintro e w1 ⟨rfl, hw1⟩;obtain rfl : w = w1 := hw1.symm;go_wp2;go_ret;exact ⟨.slice none 0 0, rfl, by rw [rising_nil];exact h, Below.refl _ _⟩
 ·have hlt := (Array.getElem?_eq_some_iff.1 hgg).1
  rw [Nat.mul_one, S_enc] at h4;have hzl : (l.mergeSort fun x y => decide (x ≤ y)).length = l.length := List.length_mergeSort _;have HR : Hid (rising l = Lib.compact (l.mergeSort fun x y => decide (x ≤ y))) := rfl;have hso := Tryz.slices_Sort_string g 0 cap l w (holds_of_block hgg h4) hlt (by omega);go_enter Tryz.func94, Tryz.ntmps94
  go_wp2_with fail;refine hso.mono ?_;rintro e w1 ⟨rfl, n, os, hw1⟩;have ho1 := ownsRow_sorted (n := n) (os := os) hzl hbg hgg h1 h2 h3;have hg1 := grownBy_sorted (w := w) (g := g) (n := n) (os := os) (l.mergeSort fun x y => decide (x ≤ y)).toArray;rw [← hw1] at ho1 hg1;clear hw1 hso;rw [← hzl] at ho1 ⊢;generalize (l.mergeSort fun x y => decide (x ≤ y)) = zs at *;have hzb : zs.length ≤ 1099511627776 := (by omega);clear hzl;have hcl := compact_length_le zs;have hb1 : Below base w w1 := (Below.refl _ _).grown hg1 hB (by intro k hk;simp only [Option.some.injEq] at hk;omega)
  rcases ho1.2 with ⟨hn, _⟩ | ⟨g', cap', cur1, hv, hbg1, hgg1, k1, k2, k3, k4⟩
  ·cases hn
  ·simp only [Value.slice.injEq, Option.some.injEq, Addr.mk.injEq, and_true, true_and] at hv
   obtain ⟨rfl, rfl⟩ := hv;rw [Nat.mul_one] at k4;go_wp2_with fail;refine (Tryz.slices_Compact_string g 0 cap zs w1 (holds_of_block hgg1 k4) (by omega) k1).mono ?_;rintro e w2 ⟨rfl, q, hw2⟩;rw [← Go.Sort.grow_empty (Go.Sort.putRow _ _ _ _ _)] at hw2;have hzz : (Lib.compact zs ++ List.replicate (zs.length - (Lib.compact zs).length) []).length = zs.length := (by simp;omega);have ho2 := ownsRow_sorted (n := q) (os := #[]) hzz hbg1 hgg1 k1 k2 k3;have hg2 := grownBy_sorted (w := w1) (g := g) (n := q) (os := #[]) (Lib.compact zs ++ List.replicate (zs.length - (Lib.compact zs).length) []).toArray;rw [← hw2] at ho2 hg2;clear hw2;have hb2 : Below base w1 w2 := (Below.refl _ _).grown hg2 (by have := hb1.size;omega) (by intro k hk;simp only [Option.some.injEq] at hk;omega);have ho3 := own_less ho2 (m := (Lib.compact zs).length) (by omega) (by simp);go_wp2;go_ret;refine ⟨_, rfl, ?_, hb1.trans hb2⟩;rw [HR.out, S_enc];rw [Nat.mul_one, List.map_append, List.take_append_of_le_length (by simp), List.take_of_length_le (by simp)] at ho3;exact ho3
theorem Key_any (r : Rq) (w : World) (h : r.s.length + r.a.length + r.p.length ≤ 4611686018427387904) :
  Calls Tryz.prog 34 #[r.val] w fun e w' => e = .returned (S (r.s ++ [58, 47, 47] ++ r.a ++ r.p)) ∧ Below w.heap.size w w' := by
 unfold Rq.val;go_enter Tryz.func34, Tryz.ntmps34
 go_wp2;go_ret;exact ⟨by simp, (Below.refl _ _).alloc (Nat.le_refl _) _⟩
theorem refKey_any (r : Rq) (w : World) (h : r.s.length + r.a.length + r.p.length ≤ 4611686018427387904) :
  Calls Tryz.prog 15 #[r.val] w fun e w' => e = .returned (S (r.s ++ [58, 47, 47] ++ r.a ++ r.p)) ∧ Below w.heap.size w w' := by
 unfold Rq.val;go_enter Tryz.func15, Tryz.ntmps15
 go_wp2;go_ret;exact ⟨by simp, (Below.refl _ _).alloc (Nat.le_refl _) _⟩
open Go.RowKit Go.Dr
def keyR (q : Rq) : Bytes := q.s ++ [58, 47, 47] ++ q.a ++ q.p
def dealOf (lr : List F) (m : Bytes) (now : Int) (q : En) (id : Int) (fd : Bool) (lf : List F) : Value :=
 if (fd && goodF lr lf q.st q.asked q.came now) = true then dealV 1 id q.key q.vp q.st q.vf q.body q.asked q.came
 else if (saysC lr).oi = true then dealZ 4
 else if (m == [72, 69, 65, 68]) = true then dealZ 5
 else if (fd && decide (0 < (asksF lf).length)) = true then dealV 2 id q.key q.vp q.st q.vf q.body q.asked q.came
 else dealZ 3
def Fnd (B : Nat) (P : World → En → Int → Bool → List F → Prop) (vr : Value) (lr : List F) (w1 : World) (e : Ending) (w2 : World) : Prop :=
 ∃ (q : En) (id : Int) (fd : Bool) (lf : List F), (∃ a n c, q.vp = .slice a n c) ∧ Fo 60 B w2 q.vf lf ∧ fsum lf ≤ 1099511627776 ∧ Fo 60 B w2 vr lr ∧ e = .returned (.tuple #[q.val, .int .i64 id, .bool fd]) ∧ Keeps w1 w2 ∧ w1.heap.size ≤ w2.heap.size ∧ P w2 q id fd lf
def Own21 (w : World) (k : Nat) : Prop := (∃ xs, Blk w k 38 xs) ∨ ∃ xs, Blk w k 72 xs
def Decided (P : World → En → Int → Bool → List F → Prop) (m : Bytes) (lr : List F) (now : Int) (w : World) (e : Ending) (w' : World) : Prop :=
 (aloneB m lr = true ∧ e = .returned (dealZ 5) ∧ Below w.heap.size w w') ∨
 (aloneB m lr = false ∧ ∃ w1 w2 q id fd lf, Below w.heap.size w w1 ∧ Keeps w1 w2 ∧ P w2 q id fd lf ∧ But (fun k => w.heap.size ≤ k ∧ Own21 w2 k) w2 w' ∧ e = .returned (dealOf lr m now q id fd lf))
theorem ret_decide {W : World} {tmps : Array Value} {b : Nat} {v0 v1 v2 v3 v4 v5 v6 v7 v8 : Value} {R : Ending → World → Prop} (hs : tmps[6]? = some (.pointer (some ⟨b, 0, none⟩))) (h : Blk W b 38 #[v0, v1, v2, v3, v4, v5, v6, v7, v8]) (hR : R (.returned (.agg #[v0, v1, v2, v3, v4, v5, v6, v7, v8])) W) :
  bodyPost Tryz.prog Tryz.f12 R .ret { tmps := tmps, defers := [] } W := by
 obtain ⟨g0, g1, g2, g3, g4, g5, g6, g7, g8⟩ := h.c9;exact bodyPost_ret (v := .agg #[v0, v1, v2, v3, v4, v5, v6, v7, v8]) (by simp [results, Tryz.results12, go_sem, hs, g0, g1, g2, g3, g4, g5, g6, g7, g8]) rfl hR
theorem put9_but {T : Nat → Prop} {a w : World} (h : But T a w) {g : Nat} (hg : T g ∨ a.heap.size ≤ g) (b0 b1 b2 b3 b4 b5 b6 b7 b8 : Value) : But T a (put9 w g b0 b1 b2 b3 b4 b5 b6 b7 b8) :=
 ((((((((h.setCell (p := ⟨g, 0, none⟩) hg b0).setCell (p := ⟨g, 1, none⟩) hg b1).setCell (p := ⟨g, 2, none⟩) hg b2).setCell (p := ⟨g, 3, none⟩) hg b3).setCell (p := ⟨g, 4, none⟩) hg b4).setCell (p := ⟨g, 5, none⟩) hg b5).setCell (p := ⟨g, 6, none⟩) hg b6).setCell (p := ⟨g, 7, none⟩) hg b7).setCell (p := ⟨g, 8, none⟩) hg b8
theorem Decide_by (B : Nat) (P : World → En → Int → Bool → List F → Prop) (sp : Option Addr) (q : Rq) (lr : List F) (now : Int) (w : World) (hB : B ≤ w.heap.size) (hr : Fo 60 B w q.v lr) (hl : fsum lr ≤ 1099511627776) (hk : q.s.length + q.a.length + q.p.length ≤ 4611686018427387904)
  (hfind : ∀ w1, Below w.heap.size w w1 → Calls Tryz.prog 33 #[.pointer sp, S (keyR q), q.v] w1 (Fnd B P q.v lr w1)) :
  Calls Tryz.prog 12 #[.pointer sp, q.val, .int .i64 now] w (Decided P q.m lr now w) := by
 obtain ⟨pr, cr, hrv, -⟩ := hr.form;obtain ⟨rm, rs, ra, rp, rv⟩ := q;simp only at hrv hr hk hfind;subst hrv;simp only [Rq.val, keyR] at hfind ⊢;obtain ⟨kk, ekk⟩ : ∃ kk, kk = rs ++ [58, 47, 47] ++ ra ++ rp := ⟨_, rfl⟩;have hKey := fun w => Key_any ⟨rm, rs, ra, rp, .slice pr lr.length cr⟩ w hk
 simp only [Rq.val] at hKey;rw [← ekk] at hKey hfind;have HKey := Lib.hid hKey;have HF := Lib.hid hfind;clear hKey hfind ekk;obtain ⟨w1, e1⟩ : ∃ w1 : World, w1 = w.alloc (.cells #[S rm, S rs, S ra, S rp, .slice pr lr.length cr] 28) := ⟨_, rfl⟩;obtain ⟨G, eG⟩ : ∃ G, G = w.heap.size := ⟨_, rfl⟩;have hs1 : w1.heap.size = G + 1 := (by rw [e1, eG];simp);have hQ1 : Blk w1 G 28 #[S rm, S rs, S ra, S rp, .slice pr lr.length cr] := (by rw [e1, eG];exact Blk.new _ _ _);obtain ⟨w0, e0⟩ : ∃ w0 : World, w0 = w1.alloc (.cells #[.int .i64 0, .int .i64 0, S [], .slice none 0 0, .int .i64 0, .slice none 0 0, S [], .int .i64 0, .int .i64 0] 38) := ⟨_, rfl⟩;obtain ⟨Z, eZ⟩ : ∃ Z, Z = G + 1 := ⟨_, rfl⟩;have hQ0 : Blk w0 G 28 #[S rm, S rs, S ra, S rp, .slice pr lr.length cr] := (by rw [e0];exact hQ1.alloc _);have hZ0 : Blk w0 Z 38 #[.int .i64 0, .int .i64 0, S [], .slice none 0 0, .int .i64 0, .slice none 0 0, S [], .int .i64 0, .int .i64 0] := (by rw [e0, eZ, ← hs1];exact Blk.new _ _ _);have hb0 : Below w.heap.size w w0 := (by rw [e0];exact ((by rw [e1];exact (Below.refl _ _).alloc (Nat.le_refl _) _ : Below w.heap.size w w1)).alloc (by rw [hs1, eG];omega) _);have hwZ : w.heap.size ≤ Z := (by omega);have hr0 := (hr.below hb0 hB).fs (Nat.le_trans hB hb0.size);have HG := Lib.hid eG;have HZ := Lib.hid eZ;have HW : Hid (w0 = (w.alloc (.cells #[S rm, S rs, S ra, S rp, .slice pr lr.length cr] 28)).alloc (.cells #[.int .i64 0, .int .i64 0, S [], .slice none 0 0, .int .i64 0, .slice none 0 0, S [], .int .i64 0, .int .i64 0] 38)) := (by show _ = _;rw [e0, e1]);have hAl := alone_any ⟨rm, rs, ra, rp, .slice pr lr.length cr⟩ lr w0 hr0 hl;simp only [Rq.val] at hAl;obtain ⟨al, eal⟩ : ∃ al, al = aloneB rm lr := ⟨_, rfl⟩;rw [← eal] at hAl;obtain ⟨PO, ePO⟩ : ∃ PO, PO = Decided P rm lr now w := ⟨_, rfl⟩;rw [← ePO];have HPO := Lib.hid ePO;have HAL := Lib.hid eal;clear e0 e1 eZ eG hs1 hQ1 eal ePO;go_enter Tryz.func12, Tryz.ntmps12
 go_upto_region 1 with fail;rw [← HW.out, ← HG.out, ← HZ.out];obtain ⟨x0, x1, x2, x3, x4⟩ := hQ0.c5;go_wp2_with fail;refine hAl.mono ?_;rintro e w2 ⟨rfl, hb2⟩;have hQ2 := hQ0.on hb2;have hZ2 := hZ0.on hb2;have hw2 := Bl.tr hb0 hb2;have hr2 := (hr0.below hb2).mono hb2.size;clear x0 x1 x2 x3 x4 hAl hQ0 hZ0 hr0 hb0 hb2
 cases al with
 | true =>
  obtain ⟨z0, z1, z2, z3, z4, z5, z6, z7, z8⟩ := hZ2.c9;have fz0 := hZ2.free;have hBf := hZ2.put9 (.int .i64 5) (.int .i64 0) (S []) (.slice none 0 0) (.int .i64 0) (.slice none 0 0) (S []) (.int .i64 0) (.int .i64 0);have hbf := put9_below hw2 hwZ (.int .i64 5) (.int .i64 0) (S []) (.slice none 0 0) (.int .i64 0) (.slice none 0 0) (S []) (.int .i64 0) (.int .i64 0);go_wp2;refine ret_decide (b := Z) ?_ hBf ?_
  ·rfl
  ·rw [HPO.out];exact .inl ⟨HAL.out.symm, rfl, hbf⟩
 | false =>
  obtain ⟨w3, e3⟩ : ∃ w3 : World, w3 = w2.alloc (.cells #[S rm, S rs, S ra, S rp, .slice pr lr.length cr, .int .i64 now, S [], .slice none 0 0, .int .i64 0, .slice none 0 0, S [], .int .i64 0, .int .i64 0, .int .i64 0, .bool false] 72) := ⟨_, rfl⟩;obtain ⟨M, eM⟩ : ∃ M, M = w2.heap.size := ⟨_, rfl⟩;have hM3 : Blk w3 M 72 #[S rm, S rs, S ra, S rp, .slice pr lr.length cr, .int .i64 now, S [], .slice none 0 0, .int .i64 0, .slice none 0 0, S [], .int .i64 0, .int .i64 0, .int .i64 0, .bool false] := (by rw [e3, eM];exact Blk.new _ _ _);have hb3 : Below w2.heap.size w2 w3 := (by rw [e3];exact (Below.refl _ _).alloc (Nat.le_refl _) _);have hMG : G ≠ M := (by rw [eM];exact Nat.ne_of_lt hQ2.lt);have hMZ : Z ≠ M := (by rw [eM];exact Nat.ne_of_lt hZ2.lt);have hMw : w.heap.size ≤ M := (by rw [eM];exact hw2.size);have HM := Lib.hid eM;have HW3 := Lib.hid e3;clear e3 eM;have hQ3 := hQ2.on hb3;have hZ3 := hZ2.on hb3;have hw3 := Bl.tr hw2 hb3;have hr3 := (hr2.below hb3).mono hb3.size;obtain ⟨x0, x1, x2, x3, x4⟩ := hQ2.c5;go_upto_region 4 with fail;rw [← HM.out, ← HW3.out];clear HM HW3 x0 x1 x2 x3 x4 hQ2 hZ2 hr2 hb3 hw2;go_wp2_with fail;refine wp_region_held_drew (S := (fun wx => wx.cell? ⟨G, 0, none⟩ = some (S rm) ∧ wx.cell? ⟨G, 1, none⟩ = some (S rs) ∧ wx.cell? ⟨G, 2, none⟩ = some (S ra) ∧ wx.cell? ⟨G, 3, none⟩ = some (S rp) ∧ wx.cell? ⟨G, 4, none⟩ = some (.slice pr lr.length cr))) (by kernel_rfl) (hQ3).c5 (fun hH => ?_);refine tA 0 ?_ ?_ hH ?_;rotate_left;(intro w h;go_simp;try rfl);simp only [PT];refine tA 1 ?_ ?_ hH ?_;rotate_left;(intro w h;go_simp;try rfl);simp only [PT];refine tA 3 ?_ ?_ hH ?_;rotate_left;(intro w h;go_simp;try rfl);simp only [PT];refine tA 4 ?_ ?_ hH ?_;rotate_left;(intro w h;go_simp;try rfl);simp only [PT];refine tC 2 (fun K hK => ?_);go_simp
  (with_reducible refine (HKey.out w3.drew).mono ?_);rintro e w4 ⟨rfl, hb4⟩;replace hb4 := Bl.undrew hb4;have hQ4 := hQ3.on hb4;have hZ4 := hZ3.on hb4;have hM4 := hM3.on hb4;have hw4 := Bl.tr hw3 hb4
  refine hK.out _ _ (hQ4).c5 (fun hH => ?_);clear hK K;(try simp only [PT]);refine tC 5 (fun K hK => ?_);go_simp
  (with_reducible refine (HF.out w4 hw4).mono ?_);rintro e w5 ⟨⟨key, vp, st, vf, body, asked, came⟩, id, fd, lf, ⟨a1, n1, c1, hvp⟩, hf5, hlf, hr5, rfl, hk5, hsz5, hP5⟩;simp only at hvp hf5;subst hvp;obtain ⟨a2, c2, hvf, -⟩ := hf5.form;subst hvf;have hr5' := hr5;simp only [En.val];have hQ5 := hk5 G _ _ (by decide) (by decide) (by decide) hQ4;have hZ5 := hk5 Z _ _ (by decide) (by decide) (by decide) hZ4;have hM5 := hk5 M _ _ (by decide) (by decide) (by decide) hM4;have m6 := hM5.k6;have fm6 := hM5.free 6;have m7 := hM5.k7;have fm7 := hM5.free 7;have m8 := hM5.k8;have fm8 := hM5.free 8;have m9 := hM5.k9;have fm9 := hM5.free 9;have m10 := hM5.k10;have fm10 := hM5.free 10;have m11 := hM5.k11;have fm11 := hM5.free 11;have m12 := hM5.k12;have fm12 := hM5.free 12;have m13 := hM5.k13;have fm13 := hM5.free 13;have m14 := hM5.k14;have fm14 := hM5.free 14;have nn1 : w5.cell? ⟨M, 6 + 1, none⟩ = some (.slice none 0 0) := hM5.cell 7;have fn1 : w5.frozen? ⟨M, 6 + 1, none⟩ = false := hM5.free 7;have nn2 : w5.cell? ⟨M, 6 + 2, none⟩ = some (.int .i64 0) := hM5.cell 8;have fn2 : w5.frozen? ⟨M, 6 + 2, none⟩ = false := hM5.free 8;have nn3 : w5.cell? ⟨M, 6 + 3, none⟩ = some (.slice none 0 0) := hM5.cell 9;have fn3 : w5.frozen? ⟨M, 6 + 3, none⟩ = false := hM5.free 9;have nn4 : w5.cell? ⟨M, 6 + 4, none⟩ = some (S []) := hM5.cell 10;have fn4 : w5.frozen? ⟨M, 6 + 4, none⟩ = false := hM5.free 10;have nn5 : w5.cell? ⟨M, 6 + 5, none⟩ = some (.int .i64 0) := hM5.cell 11;have fn5 : w5.frozen? ⟨M, 6 + 5, none⟩ = false := hM5.free 11;have nn6 : w5.cell? ⟨M, 6 + 6, none⟩ = some (.int .i64 0) := hM5.cell 12;have fn6 : w5.frozen? ⟨M, 6 + 6, none⟩ = false := hM5.free 12;have hQM : ∀ wx, But (fun k => k = M) w5 wx → wx.cell? ⟨G, 0, none⟩ = some (S rm) ∧ wx.cell? ⟨G, 1, none⟩ = some (S rs) ∧ wx.cell? ⟨G, 2, none⟩ = some (S ra) ∧ wx.cell? ⟨G, 3, none⟩ = some (S rp) ∧ wx.cell? ⟨G, 4, none⟩ = some (.slice pr lr.length cr) := fun wx hb => (hQ5.but hb hMG).c5
  refine hK.out _ _ (hQ5).c5 (fun hH => ?_);clear hK K;(try simp only [PT]);refine tA 6 ?_ ?_ hH ?_;rotate_left;(intro w h;go_simp;try rfl);simp only [PT];refine tA 7 ?_ ?_ hH ?_;rotate_left;(intro w h;go_simp;try rfl);simp only [PT];refine tA 8 ?_ ?_ hH ?_;rotate_left;(intro w h;go_simp;try rfl);simp only [PT];refine tA 9 ?_ ?_ hH ?_;rotate_left;(intro w h;go_simp;try rfl);simp only [PT];refine tA 10 ?_ ?_ hH ?_;rotate_left;(intro w h;go_simp;try rfl);simp only [PT];refine tC 11 (fun K hK => ?_);go_simp
  skip;refine hK.out _ _ (hQM _ ((((((((But.refl (fun k => k = M) w5).setCell (p := ⟨M, 6, none⟩) (.inl rfl) _).setCell (p := ⟨M, 6 + 1, none⟩) (.inl rfl) _).setCell (p := ⟨M, 6 + 2, none⟩) (.inl rfl) _).setCell (p := ⟨M, 6 + 3, none⟩) (.inl rfl) _).setCell (p := ⟨M, 6 + 4, none⟩) (.inl rfl) _).setCell (p := ⟨M, 6 + 5, none⟩) (.inl rfl) _).setCell (p := ⟨M, 6 + 6, none⟩) (.inl rfl) _)) (fun hH => ?_);clear hK K;(try simp only [PT]);refine tA 12 ?_ ?_ hH ?_;rotate_left;(intro w h;go_simp;try rfl);simp only [PT];refine tC 13 (fun K hK => ?_);go_simp
  skip;refine hK.out _ _ (hQM _ (((((((((But.refl (fun k => k = M) w5).setCell (p := ⟨M, 6, none⟩) (.inl rfl) _).setCell (p := ⟨M, 6 + 1, none⟩) (.inl rfl) _).setCell (p := ⟨M, 6 + 2, none⟩) (.inl rfl) _).setCell (p := ⟨M, 6 + 3, none⟩) (.inl rfl) _).setCell (p := ⟨M, 6 + 4, none⟩) (.inl rfl) _).setCell (p := ⟨M, 6 + 5, none⟩) (.inl rfl) _).setCell (p := ⟨M, 6 + 6, none⟩) (.inl rfl) _).setCell (p := ⟨M, 13, none⟩) (.inl rfl) _)) (fun hH => ?_);clear hK K;(try simp only [PT]);refine tA 14 ?_ ?_ hH ?_;rotate_left;(intro w h;go_simp;try rfl);simp only [PT];refine tC 15 (fun K hK => ?_);go_simp
  skip;refine hK.out _ _ (hQM _ ((((((((((But.refl (fun k => k = M) w5).setCell (p := ⟨M, 6, none⟩) (.inl rfl) _).setCell (p := ⟨M, 6 + 1, none⟩) (.inl rfl) _).setCell (p := ⟨M, 6 + 2, none⟩) (.inl rfl) _).setCell (p := ⟨M, 6 + 3, none⟩) (.inl rfl) _).setCell (p := ⟨M, 6 + 4, none⟩) (.inl rfl) _).setCell (p := ⟨M, 6 + 5, none⟩) (.inl rfl) _).setCell (p := ⟨M, 6 + 6, none⟩) (.inl rfl) _).setCell (p := ⟨M, 13, none⟩) (.inl rfl) _).setCell (p := ⟨M, 14, none⟩) (.inl rfl) _)) (fun hH => ?_);clear hK K;(try simp only [PT]);(try simp only [PT]);refine wpAnyH_done (by kernel_rfl) ?_ _;obtain ⟨w6, e6⟩ : ∃ w6 : World, w6 = (((((((((w5.setCell ⟨M, 6, none⟩ (S key)).setCell ⟨M, 7, none⟩ (.slice a1 n1 c1)).setCell ⟨M, 8, none⟩ (.int .i64 st)).setCell ⟨M, 9, none⟩ (.slice a2 lf.length c2)).setCell ⟨M, 10, none⟩ (S body)).setCell ⟨M, 11, none⟩ (.int .i64 asked)).setCell ⟨M, 12, none⟩ (.int .i64 came)).setCell ⟨M, 13, none⟩ (.int .i64 id)).setCell ⟨M, 14, none⟩ (.bool fd)) := ⟨_, rfl⟩
  have hM6 : Blk w6 M 72 #[S rm, S rs, S ra, S rp, .slice pr lr.length cr, .int .i64 now, S key, .slice a1 n1 c1, .int .i64 st, .slice a2 lf.length c2, S body, .int .i64 asked, .int .i64 came, .int .i64 id, .bool fd] := by
   rw [e6];have := (((((((((hM5.set 6 (S key)).set 7 (.slice a1 n1 c1)).set 8 (.int .i64 st)).set 9 (.slice a2 lf.length c2)).set 10 (S body)).set 11 (.int .i64 asked)).set 12 (.int .i64 came)).set 13 (.int .i64 id)).set 14 (.bool fd))
   simpa using this
  have hb56 : But (fun k => k = M) w5 w6 := (by rw [e6];exact ((((((((((But.refl (fun k => k = M) w5).setCell (p := ⟨M, 6, none⟩) (.inl rfl) _).setCell (p := ⟨M, 7, none⟩) (.inl rfl) _).setCell (p := ⟨M, 8, none⟩) (.inl rfl) _).setCell (p := ⟨M, 9, none⟩) (.inl rfl) _).setCell (p := ⟨M, 10, none⟩) (.inl rfl) _).setCell (p := ⟨M, 11, none⟩) (.inl rfl) _).setCell (p := ⟨M, 12, none⟩) (.inl rfl) _).setCell (p := ⟨M, 13, none⟩) (.inl rfl) _).setCell (p := ⟨M, 14, none⟩) (.inl rfl) _));rw [← e6]
  have hty : ∀ (t : TypeId), t ≠ 72 → ∀ (g : Nat) (cur : Array Value), w5.heap[g]? = some (.cells cur t (0, 0)) → ¬ g = M := fun t ht g cur hg e => by
   subst e;unfold Blk at hM5;rw [hM5] at hg;simp only [Option.some.injEq, Obj.cells.injEq] at hg;exact ht hg.2.1.symm
  have hB5 : B ≤ w5.heap.size := Nat.le_trans hB (Nat.le_trans hw4.size hsz5);have hr6 := (hr5.but hb56 (fun k hk => by rw [hk];omega) hB5 (hty _ (by decide))).fs (Nat.le_trans hB5 hb56.size);have hf6 := (hf5.but hb56 (fun k hk => by rw [hk];omega) hB5 (hty _ (by decide))).fs (Nat.le_trans hB5 hb56.size);have hZ6 := hZ5.but hb56 hMZ
  have hOwn : ∀ k, k = M ∨ k = Z → w.heap.size ≤ k ∧ Own21 w5 k := fun k hk => by
   rcases hk with rfl | rfl
   ·exact ⟨hMw, .inr ⟨_, hM5⟩⟩
   ·exact ⟨hwZ, .inl ⟨_, hZ5⟩⟩
  have HOwn := Lib.hid hOwn;have hbt6 : But (fun k => k = M ∨ k = Z) w5 w6 := hb56.more fun k hk => .inl hk
  obtain ⟨s1, es1⟩ : ∃ s1, s1 = (fd && goodF lr lf st asked came now) := ⟨_, rfl⟩;obtain ⟨s2, es2⟩ : ∃ s2, s2 = (saysC lr).oi := ⟨_, rfl⟩;obtain ⟨s3, es3⟩ : ∃ s3, s3 = (rm == [72, 69, 65, 68]) := ⟨_, rfl⟩;obtain ⟨s4, es4⟩ : ∃ s4, s4 = (fd && decide (0 < (asksF lf).length)) := ⟨_, rfl⟩;have C1 := Lib.hid (fun w h1 h2 => deal_serve_any rm rs ra rp pr cr lr now key a1 n1 c1 st a2 c2 lf body asked came id fd w h1 h2 hl hlf);have C2 := Lib.hid (fun w h1 h2 => deal_lack_any rm rs ra rp pr cr lr now key a1 n1 c1 st a2 c2 lf body asked came id fd w h1 h2 hl hlf);have C3 := Lib.hid (fun w h1 h2 => deal_pass_any rm rs ra rp pr cr lr now key a1 n1 c1 st a2 c2 lf body asked came id fd w h1 h2 hl hlf);have C4 := Lib.hid (fun w h1 h2 => deal_ask_any rm rs ra rp pr cr lr now key a1 n1 c1 st a2 c2 lf body asked came id fd w h1 h2 hl hlf);rw [← es1] at C1;rw [← es2] at C2;rw [← es3] at C3;rw [← es4] at C4
  have HD : Hid (dealOf lr rm now ⟨key, .slice a1 n1 c1, st, .slice a2 lf.length c2, body, asked, came⟩ id fd lf = (if s1 = true then dealV 1 id key (.slice a1 n1 c1) st (.slice a2 lf.length c2) body asked came else if s2 = true then dealZ 4 else if s3 = true then dealZ 5 else if s4 = true then dealV 2 id key (.slice a1 n1 c1) st (.slice a2 lf.length c2) body asked came else dealZ 3)) := by
   show _ = _
   unfold dealOf;rw [← es1, ← es2, ← es3, ← es4]
  have HFIN : Hid (∀ (W : World) (v : Value), But (fun k => k = M ∨ k = Z) w5 W → v = dealOf lr rm now ⟨key, .slice a1 n1 c1, st, .slice a2 lf.length c2, body, asked, came⟩ id fd lf → PO (.returned v) W) := fun W v hb hv => by
   rw [HPO.out, hv];exact .inr ⟨HAL.out.symm, w4, w5, ⟨key, .slice a1 n1 c1, st, .slice a2 lf.length c2, body, asked, came⟩, id, fd, lf, hw4, hk5, hP5, hb.more HOwn.out, rfl⟩
  have hmZ : Z < w6.heap.size := hZ6.lt;clear e6 hty hb56 hM5 hZ5 hQ5 hQM hf5 hr5 hr5' es1 es2 es3 es4 hOwn hM4 hZ4 hQ4 hM3 hZ3 hQ3 hr3 hw3 m6 fm6 m7 fm7 m8 fm8 m9 fm9 m10 fm10 m11 fm11 m12 fm12 m13 fm13 m14 fm14 nn1 fn1 nn2 fn2 nn3 fn3 nn4 fn4 nn5 fn5 nn6 fn6;go_wp2;refine wp_loop_rounds 5 ?_;rw [rounds_succ];obtain ⟨wf, ef⟩ : ∃ wf : World, wf = w6.alloc (.cells #[(.func (.func 35) #[] #[]), (.func (.func 36) #[] #[]), (.func (.func 37) #[] #[]), (.func (.func 38) #[] #[])] 75) := ⟨_, rfl⟩;obtain ⟨Fb, eFb⟩ : ∃ Fb, Fb = w6.heap.size := ⟨_, rfl⟩;have hF : Blk wf Fb 75 #[(.func (.func 35) #[] #[]), (.func (.func 36) #[] #[]), (.func (.func 37) #[] #[]), (.func (.func 38) #[] #[])] := (by rw [ef, eFb];exact Blk.new _ _ _);have hbf : Below w6.heap.size w6 wf := (by rw [ef];exact (Below.refl _ _).alloc (Nat.le_refl _) _);rw [← eFb, ← ef];clear ef eFb;have hMk := hM6.on hbf;have hZk := hZ6.on hbf;have hrk := (hr6.below hbf).mono hbf.size;have hfk := (hf6.below hbf).mono hbf.size;have hbk := hbt6.trans (But.of_below hbf);clear hM6 hZ6 hr6 hf6 hbt6 hbf;have d0 := hF.k0;obtain ⟨x0, x1, x2, x3, x4, x5, x6, x7, x8, x9, x10, x11, x12, x13, x14⟩ := hMk.c15;go_wp2_with fail;refine (C1.out wf hrk hfk).mono ?_;rintro e wa0 ⟨rfl, hba0⟩;obtain ⟨wn0, en0⟩ : ∃ wn : World, wn = wa0.alloc (.cells #[.int .i64 1, .int .i64 id, S key, .slice a1 n1 c1, .int .i64 st, .slice a2 lf.length c2, S body, .int .i64 asked, .int .i64 came] 38) := ⟨_, rfl⟩;obtain ⟨N0, eN0⟩ : ∃ N, N = wa0.heap.size := ⟨_, rfl⟩;have hN0 : Blk wn0 N0 38 #[.int .i64 1, .int .i64 id, S key, .slice a1 n1 c1, .int .i64 st, .slice a2 lf.length c2, S body, .int .i64 asked, .int .i64 came] := (by rw [en0, eN0];exact Blk.new _ _ _);have hbn0 : Below wf.heap.size wf wn0 := (by rw [en0];exact hba0.alloc hba0.size _);have HN0 := Lib.hid eN0;have HWN0 := Lib.hid en0;clear en0 eN0 x0 x1 x2 x3 x4 x5 x6 x7 x8 x9 x10 x11 x12 x13 x14 d0;replace hF := hF.on hbn0;replace hMk := hMk.on hbn0;replace hZk := hZk.on hbn0;replace hrk := (hrk.below hbn0).mono hbn0.size;replace hfk := (hfk.below hbn0).mono hbn0.size;replace hbk := hbk.trans (But.of_below hbn0);go_upto_region 10 with fail;rw [← HN0.out, ← HWN0.out];clear HN0 HWN0 hba0 hbn0
  cases s1 with
  | true =>
   obtain ⟨y0, y1, y2, y3, y4, y5, y6, y7, y8⟩ := hN0.c9;obtain ⟨z0, z1, z2, z3, z4, z5, z6, z7, z8⟩ := hZk.c9;have fz0 := hZk.free;have hBf := hZk.put9 (.int .i64 1) (.int .i64 id) (S key) (.slice a1 n1 c1) (.int .i64 st) (.slice a2 lf.length c2) (S body) (.int .i64 asked) (.int .i64 came);have hbfin := put9_but hbk (.inl (.inr rfl)) (.int .i64 1) (.int .i64 id) (S key) (.slice a1 n1 c1) (.int .i64 st) (.slice a2 lf.length c2) (S body) (.int .i64 asked) (.int .i64 came);go_wp2;refine ret_decide (b := Z) ?_ hBf ?_
   ·rfl
   ·exact HFIN.out _ _ hbfin (by rw [HD.out];rfl)
  | false =>
   go_wp2;rw [rounds_succ];have d1 := hF.k1;obtain ⟨x0, x1, x2, x3, x4, x5, x6, x7, x8, x9, x10, x11, x12, x13, x14⟩ := hMk.c15;go_wp2_with fail;refine (C2.out wn0 hrk hfk).mono ?_;rintro e wa1 ⟨rfl, hba1⟩;obtain ⟨wn1, en1⟩ : ∃ wn : World, wn = wa1.alloc (.cells #[.int .i64 4, .int .i64 0, S [], .slice none 0 0, .int .i64 0, .slice none 0 0, S [], .int .i64 0, .int .i64 0] 38) := ⟨_, rfl⟩;obtain ⟨N1, eN1⟩ : ∃ N, N = wa1.heap.size := ⟨_, rfl⟩;have hN1 : Blk wn1 N1 38 #[.int .i64 4, .int .i64 0, S [], .slice none 0 0, .int .i64 0, .slice none 0 0, S [], .int .i64 0, .int .i64 0] := (by rw [en1, eN1];exact Blk.new _ _ _);have hbn1 : Below wn0.heap.size wn0 wn1 := (by rw [en1];exact hba1.alloc hba1.size _);have HN1 := Lib.hid eN1;have HWN1 := Lib.hid en1;clear en1 eN1 x0 x1 x2 x3 x4 x5 x6 x7 x8 x9 x10 x11 x12 x13 x14 d1;replace hF := hF.on hbn1;replace hMk := hMk.on hbn1;replace hZk := hZk.on hbn1;replace hrk := (hrk.below hbn1).mono hbn1.size;replace hfk := (hfk.below hbn1).mono hbn1.size;replace hbk := hbk.trans (But.of_below hbn1);go_upto_region 10 with fail;rw [← HN1.out, ← HWN1.out];clear HN1 HWN1 hba1 hbn1
   cases s2 with
   | true =>
    obtain ⟨y0, y1, y2, y3, y4, y5, y6, y7, y8⟩ := hN1.c9;obtain ⟨z0, z1, z2, z3, z4, z5, z6, z7, z8⟩ := hZk.c9;have fz0 := hZk.free;have hBf := hZk.put9 (.int .i64 4) (.int .i64 0) (S []) (.slice none 0 0) (.int .i64 0) (.slice none 0 0) (S []) (.int .i64 0) (.int .i64 0);have hbfin := put9_but hbk (.inl (.inr rfl)) (.int .i64 4) (.int .i64 0) (S []) (.slice none 0 0) (.int .i64 0) (.slice none 0 0) (S []) (.int .i64 0) (.int .i64 0);go_wp2;refine ret_decide (b := Z) ?_ hBf ?_
    ·rfl
    ·exact HFIN.out _ _ hbfin (by rw [HD.out];rfl)
   | false =>
    go_wp2;rw [rounds_succ];have d2 := hF.k2;obtain ⟨x0, x1, x2, x3, x4, x5, x6, x7, x8, x9, x10, x11, x12, x13, x14⟩ := hMk.c15;go_wp2_with fail;refine (C3.out wn1 hrk hfk).mono ?_;rintro e wa2 ⟨rfl, hba2⟩;obtain ⟨wn2, en2⟩ : ∃ wn : World, wn = wa2.alloc (.cells #[.int .i64 5, .int .i64 0, S [], .slice none 0 0, .int .i64 0, .slice none 0 0, S [], .int .i64 0, .int .i64 0] 38) := ⟨_, rfl⟩;obtain ⟨N2, eN2⟩ : ∃ N, N = wa2.heap.size := ⟨_, rfl⟩;have hN2 : Blk wn2 N2 38 #[.int .i64 5, .int .i64 0, S [], .slice none 0 0, .int .i64 0, .slice none 0 0, S [], .int .i64 0, .int .i64 0] := (by rw [en2, eN2];exact Blk.new _ _ _);have hbn2 : Below wn1.heap.size wn1 wn2 := (by rw [en2];exact hba2.alloc hba2.size _);have HN2 := Lib.hid eN2;have HWN2 := Lib.hid en2;clear en2 eN2 x0 x1 x2 x3 x4 x5 x6 x7 x8 x9 x10 x11 x12 x13 x14 d2;replace hF := hF.on hbn2;replace hMk := hMk.on hbn2;replace hZk := hZk.on hbn2;replace hrk := (hrk.below hbn2).mono hbn2.size;replace hfk := (hfk.below hbn2).mono hbn2.size;replace hbk := hbk.trans (But.of_below hbn2);go_upto_region 10 with fail;rw [← HN2.out, ← HWN2.out];clear HN2 HWN2 hba2 hbn2
    cases s3 with
    | true =>
     obtain ⟨y0, y1, y2, y3, y4, y5, y6, y7, y8⟩ := hN2.c9;obtain ⟨z0, z1, z2, z3, z4, z5, z6, z7, z8⟩ := hZk.c9;have fz0 := hZk.free;have hBf := hZk.put9 (.int .i64 5) (.int .i64 0) (S []) (.slice none 0 0) (.int .i64 0) (.slice none 0 0) (S []) (.int .i64 0) (.int .i64 0);have hbfin := put9_but hbk (.inl (.inr rfl)) (.int .i64 5) (.int .i64 0) (S []) (.slice none 0 0) (.int .i64 0) (.slice none 0 0) (S []) (.int .i64 0) (.int .i64 0);go_wp2;refine ret_decide (b := Z) ?_ hBf ?_
     ·rfl
     ·exact HFIN.out _ _ hbfin (by rw [HD.out];rfl)
    | false =>
     go_wp2;rw [rounds_succ];have d3 := hF.k3;obtain ⟨x0, x1, x2, x3, x4, x5, x6, x7, x8, x9, x10, x11, x12, x13, x14⟩ := hMk.c15;go_wp2_with fail;refine (C4.out wn2 hrk hfk).mono ?_;rintro e wa3 ⟨rfl, hba3⟩;obtain ⟨wn3, en3⟩ : ∃ wn : World, wn = wa3.alloc (.cells #[.int .i64 2, .int .i64 id, S key, .slice a1 n1 c1, .int .i64 st, .slice a2 lf.length c2, S body, .int .i64 asked, .int .i64 came] 38) := ⟨_, rfl⟩;obtain ⟨N3, eN3⟩ : ∃ N, N = wa3.heap.size := ⟨_, rfl⟩;have hN3 : Blk wn3 N3 38 #[.int .i64 2, .int .i64 id, S key, .slice a1 n1 c1, .int .i64 st, .slice a2 lf.length c2, S body, .int .i64 asked, .int .i64 came] := (by rw [en3, eN3];exact Blk.new _ _ _);have hbn3 : Below wn2.heap.size wn2 wn3 := (by rw [en3];exact hba3.alloc hba3.size _);have HN3 := Lib.hid eN3;have HWN3 := Lib.hid en3;clear en3 eN3 x0 x1 x2 x3 x4 x5 x6 x7 x8 x9 x10 x11 x12 x13 x14 d3;replace hF := hF.on hbn3;replace hMk := hMk.on hbn3;replace hZk := hZk.on hbn3;replace hrk := (hrk.below hbn3).mono hbn3.size;replace hfk := (hfk.below hbn3).mono hbn3.size;replace hbk := hbk.trans (But.of_below hbn3);go_upto_region 10 with fail;rw [← HN3.out, ← HWN3.out];clear HN3 HWN3 hba3 hbn3
     cases s4 with
     | true =>
      obtain ⟨y0, y1, y2, y3, y4, y5, y6, y7, y8⟩ := hN3.c9;obtain ⟨z0, z1, z2, z3, z4, z5, z6, z7, z8⟩ := hZk.c9;have fz0 := hZk.free;have hBf := hZk.put9 (.int .i64 2) (.int .i64 id) (S key) (.slice a1 n1 c1) (.int .i64 st) (.slice a2 lf.length c2) (S body) (.int .i64 asked) (.int .i64 came);have hbfin := put9_but hbk (.inl (.inr rfl)) (.int .i64 2) (.int .i64 id) (S key) (.slice a1 n1 c1) (.int .i64 st) (.slice a2 lf.length c2) (S body) (.int .i64 asked) (.int .i64 came);go_wp2;refine ret_decide (b := Z) ?_ hBf ?_
      ·rfl
      ·exact HFIN.out _ _ hbfin (by rw [HD.out];rfl)
     | false =>
      go_wp2;rw [rounds_succ];obtain ⟨z0, z1, z2, z3, z4, z5, z6, z7, z8⟩ := hZk.c9;have fz0 := hZk.free;have hBf := hZk.put9 (.int .i64 3) (.int .i64 0) (S []) (.slice none 0 0) (.int .i64 0) (.slice none 0 0) (S []) (.int .i64 0) (.int .i64 0);have hbfin := put9_but hbk (.inl (.inr rfl)) (.int .i64 3) (.int .i64 0) (S []) (.slice none 0 0) (.int .i64 0) (.slice none 0 0) (S []) (.int .i64 0) (.int .i64 0);go_wp2;refine ret_decide (b := Z) ?_ hBf ?_
      ·rfl
      ·exact HFIN.out _ _ hbfin (by rw [HD.out];rfl)
end Go.Proofs.YtahapblgmehngaaGreatDoor
