
/- The shelf and the document's shelf side by side: the same entries in the same order. Plain. -/
import Derived.Test.YtnflihjgbkocnaaDoorRsp
import Derived.Test.YtnflihjgbkocnaaDoorShq8
namespace Go.Proofs.YtnflihjgbkocnaaDoor
open Go.RowKit Go.Dr

/-- May an entry be found by this key and these fields? -/
def fits19 (key : Bytes) (list : List F) (x : It) : Bool := x.key == key && matchP x.lp list
/-- The place of the one that is found: the last of those that came latest. -/
def bestAt (key : Bytes) (list : List F) : List It → Option Nat
  | [] => none
  | x :: l => match bestAt key list l with
    | none => if fits19 key list x then some 0 else none
    | some j => if fits19 key list x && decide ((l[j]?.map It.came).getD 0 < x.came) then some 0 else some (j + 1)
set_option linter.unusedSimpArgs false in
set_option linter.unusedVariables false in
set_option linter.unnecessarySimpa false in
theorem bestAt_lt {key : Bytes} {list : List F} : ∀ {l : List It} {j : Nat}, bestAt key list l = some j → j < l.length
  | [], j, h => by simp [bestAt] at h
  | x :: l, j, h => by
    unfold bestAt at h
    split at h
    · split at h
      · simp only [Option.some.injEq] at h; subst h; simp
      · simp at h
    · rename_i k hk
      have := bestAt_lt hk
      split at h
      · simp only [Option.some.injEq] at h; subst h; simp
      · simp only [Option.some.injEq] at h; subst h; simpa using this
/-- What a later list makes of one that was found. -/
def over (b : Option Nd) (o : Option Nd) : Option Nd := match o with
  | none => b
  | some n => match b with
    | none => some n
    | some m => if m.x.came ≤ n.x.came then some n else some m
set_option linter.unusedSimpArgs false in
set_option linter.unusedVariables false in
set_option linter.unnecessarySimpa false in
theorem fold_best (key : Bytes) (list : List F) : ∀ (l : List Nd) (b : Option Nd), l.foldl (better key list) b = over b ((bestAt key list (l.map Nd.x)).bind (l[·]?))
  | [], b => by simp [bestAt, over]
  | n :: l, b => by
    rw [List.foldl_cons, fold_best key list l, List.map_cons]
    conv => rhs; unfold bestAt
    cases hb : bestAt key list (l.map Nd.x) with
    | none =>
      show over (better key list b n) none = _
      by_cases hf : fits19 key list n.x = true
      · rw [if_pos hf]
        unfold fits19 at hf
        rw [Bool.and_eq_true] at hf
        cases b with
        | none => simp [over, better, takes, hf.1, hf.2]
        | some m =>
          by_cases hc : m.x.came ≤ n.x.came <;> simp [over, better, takes, hf.1, hf.2, hc]
      · rw [if_neg hf]
        have : takes key list b n = false := by
          unfold takes
          unfold fits19 at hf
          cases h1 : n.x.key == key <;> cases h2 : matchP n.x.lp list <;> simp_all
        simp [over, better, this]
    | some j =>
      have hj := bestAt_lt hb
      rw [List.length_map] at hj
      have e1 : (some j).bind (fun k => l[k]?) = some l[j] := by simp [List.getElem?_eq_getElem hj]
      have e2 : (Option.map It.came (l.map Nd.x)[j]?).getD 0 = l[j].x.came := by simp [List.getElem?_eq_getElem hj]
      simp only
      rw [e1, e2]
      generalize hx : l[j] = y
      have e3 : (n :: l)[j + 1]? = some y := by rw [List.getElem?_cons_succ, List.getElem?_eq_getElem hj, hx]
      by_cases hf : fits19 key list n.x = true
      · have hf' := hf
        unfold fits19 at hf'
        rw [Bool.and_eq_true] at hf'
        by_cases hc : y.x.came < n.x.came
        · rw [if_pos (by simp [hf, hc])]
          cases b with
          | none => simp [over, better, takes, hf'.1, hf'.2]; omega
          | some m =>
            by_cases hm : m.x.came ≤ n.x.came
            · simp [over, better, takes, hf'.1, hf'.2, hm]; omega
            · simp [over, better, takes, hf'.1, hf'.2, hm]; omega
        · rw [if_neg (by simp [hf]; omega), Option.bind_some, e3]
          cases b with
          | none => simp [over, better, takes, hf'.1, hf'.2]; omega
          | some m =>
            by_cases hm : m.x.came ≤ n.x.came
            · simp [over, better, takes, hf'.1, hf'.2, hm]
              rw [if_pos (by omega), if_pos (by omega)]
            · simp [over, better, takes, hf'.1, hf'.2, hm]
      · rw [if_neg (by simp [hf]), Option.bind_some, e3]
        have : takes key list b n = false := by
          unfold takes
          unfold fits19 at hf
          cases h1 : n.x.key == key <;> cases h2 : matchP n.x.lp list <;> simp_all
        simp [over, better, this]
set_option linter.unusedSimpArgs false in
set_option linter.unusedVariables false in
set_option linter.unnecessarySimpa false in
theorem bestOf_at (key : Bytes) (list : List F) (l : List Nd) : bestOf key list l = (bestAt key list (l.map Nd.x)).bind (l[·]?) := by
  unfold bestOf
  rw [fold_best]
  cases (bestAt key list (l.map Nd.x)).bind (l[·]?) <;> rfl

set_option linter.unusedSimpArgs false in
set_option linter.unusedVariables false in
set_option linter.unnecessarySimpa false in
theorem join_filter {er : List Ev} {l : List Nd} (h : er.map Ev.x = l.map Nd.x) (p : It → Bool) : (er.filter (fun e => p e.x)).map Ev.x = (l.filter (fun n => p n.x)).map Nd.x := by
  have h1 : (er.map Ev.x).filter p = (er.filter (fun e => p e.x)).map Ev.x := by rw [List.filter_map]; rfl
  have h2 : (l.map Nd.x).filter p = (l.filter (fun n => p n.x)).map Nd.x := by rw [List.filter_map]; rfl
  rw [← h1, ← h2, h]
set_option linter.unusedSimpArgs false in
set_option linter.unusedVariables false in
set_option linter.unnecessarySimpa false in
theorem join_len {er : List Ev} {l : List Nd} (h : er.map Ev.x = l.map Nd.x) : er.length = l.length := by
  have := congrArg List.length h
  simpa using this
set_option linter.unusedSimpArgs false in
set_option linter.unusedVariables false in
set_option linter.unnecessarySimpa false in
theorem join_get {er : List Ev} {l : List Nd} (h : er.map Ev.x = l.map Nd.x) (k : Nat) (hk : k < er.length) (hk' : k < l.length) : er[k].x = l[k].x := by
  have h1 : (er.map Ev.x)[k]? = (l.map Nd.x)[k]? := by rw [h]
  rw [List.getElem?_map, List.getElem?_map, List.getElem?_eq_getElem hk, List.getElem?_eq_getElem hk'] at h1
  simpa using h1
set_option linter.unusedSimpArgs false in
set_option linter.unusedVariables false in
set_option linter.unnecessarySimpa false in
theorem join_split {er : List Ev} {a b : List Nd} {n : Nd} (h : er.map Ev.x = (a ++ n :: b).map Nd.x) : ∃ hk : a.length < er.length, er[a.length].x = n.x ∧ (er.take a.length).map Ev.x = a.map Nd.x ∧ (er.drop (a.length + 1)).map Ev.x = b.map Nd.x := by
  have hl := join_len h
  have hk : a.length < er.length := by rw [hl]; simp
  refine ⟨hk, ?_, ?_, ?_⟩
  · rw [join_get h a.length hk (by simp)]
    simp
  · rw [List.map_take, h, ← List.map_take]
    simp
  · rw [List.map_drop, h, ← List.map_drop]
    congr 1
    rw [show a ++ n :: b = (a ++ [n]) ++ b from by simp, List.drop_left' (by simp)]
set_option linter.unusedSimpArgs false in
set_option linter.unusedVariables false in
set_option linter.unnecessarySimpa false in
theorem join_out {er : List Ev} {a b : List Nd} {n : Nd} (h : er.map Ev.x = (a ++ n :: b).map Nd.x) : (er.take a.length ++ er.drop (a.length + 1)).map Ev.x = (a ++ b).map Nd.x := by
  obtain ⟨hk, -, h1, h2⟩ := join_split h
  rw [List.map_append, List.map_append, h1, h2]
set_option linter.unusedSimpArgs false in
set_option linter.unusedVariables false in
set_option linter.unnecessarySimpa false in
/-- The place of a number. -/
theorem split_id {l : List Nd} {i : Int} (h : ∃ n ∈ l, n.x.id = i) : ∃ a n b, l = a ++ n :: b ∧ n.x.id = i ∧ ∀ y ∈ a, y.x.id ≠ i := by
  induction l with
  | nil => obtain ⟨n, hn, -⟩ := h; cases hn
  | cons x l ih =>
    by_cases hx : x.x.id = i
    · exact ⟨[], x, l, rfl, hx, fun _ h => by cases h⟩
    · obtain ⟨n, hn, e⟩ := h
      rcases List.mem_cons.1 hn with rfl | hn
      · exact absurd e hx
      · obtain ⟨a, n', b, rfl, e', ha⟩ := ih ⟨n, hn, e⟩
        refine ⟨x :: a, n', b, rfl, e', fun y hy => ?_⟩
        rcases List.mem_cons.1 hy with rfl | hy
        · exact hx
        · exact ha y hy
set_option linter.unusedSimpArgs false in
set_option linter.unusedVariables false in
set_option linter.unnecessarySimpa false in
theorem join_before {er : List Ev} {a b : List Nd} {n : Nd} {i : Int} (h : er.map Ev.x = (a ++ n :: b).map Nd.x) (ha : ∀ y ∈ a, y.x.id ≠ i) : ∀ e ∈ er.take a.length, e.x.id ≠ i := by
  obtain ⟨-, -, h1, -⟩ := join_split h
  intro e he hi
  have : e.x ∈ a.map Nd.x := by rw [← h1]; exact List.mem_map_of_mem he
  obtain ⟨y, hy, e'⟩ := List.mem_map.1 this
  exact ha y hy (by rw [e']; exact hi)
set_option linter.unusedSimpArgs false in
set_option linter.unusedVariables false in
set_option linter.unnecessarySimpa false in
theorem join_none {er : List Ev} {l : List Nd} {i : Int} (h : er.map Ev.x = l.map Nd.x) (hl : ∀ n ∈ l, n.x.id ≠ i) : ∀ e ∈ er, e.x.id ≠ i := by
  intro e he hi
  have : e.x ∈ l.map Nd.x := by rw [← h]; exact List.mem_map_of_mem he
  obtain ⟨y, hy, e'⟩ := List.mem_map.1 this
  exact hl y hy (by rw [e']; exact hi)
set_option linter.unusedSimpArgs false in
set_option linter.unusedVariables false in
set_option linter.unnecessarySimpa false in
/-- The one that is found stands in the same place of both. -/
theorem join_best {er : List Ev} {a b : List Nd} {n : Nd} {key : Bytes} {list : List F} (h : er.map Ev.x = (a ++ n :: b).map Nd.x) (hid : ((a ++ n :: b).map fun n => n.x.id).Nodup) (hb : bestOf key list (a ++ n :: b) = some n) : bestAt key list (er.map Ev.x) = some a.length := by
  rw [bestOf_at, ← h] at hb
  cases hj : bestAt key list (er.map Ev.x) with
  | none => rw [hj] at hb; simp at hb
  | some j =>
    rw [hj, Option.bind_some] at hb
    obtain ⟨hj1, hj2⟩ := List.getElem?_eq_some_iff.1 hb
    have h1 : ((a ++ n :: b).map fun n => n.x.id)[j]'(by simpa using hj1) = n.x.id := by simp only [List.getElem_map]; rw [hj2]
    have h2 : ((a ++ n :: b).map fun n => n.x.id)[a.length]'(by simp) = n.x.id := by simp
    have hp := List.pairwise_iff_getElem.1 hid
    rcases Nat.lt_trichotomy j a.length with hlt | he | hlt
    · exact absurd (h1.trans h2.symm) (hp j a.length (by simpa using hj1) (by simp) hlt)
    · rw [he]
    · exact absurd (h2.trans h1.symm) (hp a.length j (by simp) (by simpa using hj1) hlt)
set_option linter.unusedSimpArgs false in
set_option linter.unusedVariables false in
set_option linter.unnecessarySimpa false in
theorem join_lost {er : List Ev} {l : List Nd} {key : Bytes} {list : List F} (h : er.map Ev.x = l.map Nd.x) (hb : bestOf key list l = none) : bestAt key list (er.map Ev.x) = none := by
  rw [bestOf_at, ← h] at hb
  cases hj : bestAt key list (er.map Ev.x) with
  | none => rfl
  | some j =>
    exfalso
    have := bestAt_lt hj
    rw [h, List.length_map] at this
    rw [hj, Option.bind_some, List.getElem?_eq_getElem this] at hb
    cases hb
/-- Both shelves, side by side. -/
structure Two (w : World) (R r : Nat) (M : Nat) (last : Int) (v : Value) (er : List Ev) (l : List Nd) : Prop where
  sh : Sh R R w (R + 2) R (R + 1) (M : Int) last l
  rs : Rs R w r (M : Int) last v er
  eq : er.map Ev.x = l.map Nd.x
set_option linter.unusedSimpArgs false in
set_option linter.unusedVariables false in
set_option linter.unnecessarySimpa false in
theorem Two.below {w w' : World} {R r M : Nat} {last : Int} {v : Value} {er : List Ev} {l : List Nd} (h : Two w R r M last v er l) (hb : Below w.heap.size w w') : Two w' R r M last v er l := ⟨h.sh.below hb, h.rs.below hb, h.eq⟩
end Go.Proofs.YtnflihjgbkocnaaDoor
