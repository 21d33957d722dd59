
/- What stays on a shelf is the end of what there was: plain. -/
import Derived.Test.YtnflihjgbkocnaaDoorShk
import Derived.Test.YtnflihjgbkocnaaDoorShq9
namespace Go.Proofs.YtnflihjgbkocnaaDoor
open Go.RowKit Go.Dr

/-- What there was up to some place, but for what is replaced, is what went and what stays up to some place. -/
def Ends (p : Nd → Bool) (W D : List Nd) (H K : Nat) : Prop := ∃ E, (W.take H).filter (fun n => !p n) = E ++ D.take K
set_option linter.unusedSimpArgs false in
set_option linter.unusedVariables false in
set_option linter.unnecessarySimpa false in
theorem Ends.start {p : Nd → Bool} {W D : List Nd} (h : ∃ E, W.filter (fun n => !p n) = E ++ D) : Ends p W D W.length D.length := by
  obtain ⟨E, e⟩ := h
  exact ⟨E, by rw [List.take_length, List.take_length, e]⟩
set_option linter.unusedSimpArgs false in
set_option linter.unusedVariables false in
set_option linter.unnecessarySimpa false in
theorem Ends.skip {p : Nd → Bool} {W D : List Nd} {H K : Nat} (h : Ends p W D (H + 1) K) (hH : H < W.length) (hp : p W[H] = true) : Ends p W D H K := by
  obtain ⟨E, e⟩ := h
  refine ⟨E, ?_⟩
  rw [take_snoc W H hH, List.filter_append, List.filter_cons, hp] at e
  simpa using e
set_option linter.unusedSimpArgs false in
set_option linter.unusedVariables false in
set_option linter.unnecessarySimpa false in
theorem Ends.step {p : Nd → Bool} {W D : List Nd} {H K : Nat} (h : Ends p W D (H + 1) (K + 1)) (hH : H < W.length) (hK : K < D.length) (hp : p W[H] = false) : W[H] = D[K] ∧ Ends p W D H K := by
  obtain ⟨E, e⟩ := h
  rw [take_snoc W H hH, take_snoc D K hK, List.filter_append, List.filter_cons, hp, ← List.append_assoc] at e
  simp only [Bool.not_false, if_true, List.filter_nil] at e
  obtain ⟨e1, e2⟩ := List.append_inj' e rfl
  exact ⟨by simpa using e2, E, e1⟩
set_option linter.unusedSimpArgs false in
set_option linter.unusedVariables false in
set_option linter.unnecessarySimpa false in
theorem Ends.over {p : Nd → Bool} {W D : List Nd} {K : Nat} (h : Ends p W D 0 K) (hK : K ≤ D.length) : K = 0 := by
  obtain ⟨E, e⟩ := h
  simp only [List.take_zero, List.filter_nil] at e
  have : (E ++ D.take K).length = 0 := by rw [← e]; rfl
  rw [List.length_append, List.length_take] at this
  omega
set_option linter.unusedSimpArgs false in
set_option linter.unusedVariables false in
set_option linter.unnecessarySimpa false in
/-- The entries of a row, one by one. -/
theorem ev_at_k {B : Nat} {w : World} {a : Option Addr} {n c : Nat} {evs : List Ev} (h : Rd B w 7 (.slice a n c) n (ecells evs)) (k : Nat) (hk : k < evs.length) :
    ∃ b off, a = some ⟨b, off, none⟩ ∧ b < B ∧ w.cell? ⟨b, off + k * 7, none⟩ = some (S evs[k].x.key) ∧ w.cell? ⟨b, off + k * 7 + 1, none⟩ = some evs[k].vp ∧ w.cell? ⟨b, off + k * 7 + 2, none⟩ = some (.int .i64 evs[k].x.st) ∧ w.cell? ⟨b, off + k * 7 + 3, none⟩ = some evs[k].vf ∧ w.cell? ⟨b, off + k * 7 + 4, none⟩ = some (S evs[k].x.body) ∧ w.cell? ⟨b, off + k * 7 + 5, none⟩ = some (.int .i64 evs[k].x.asked) ∧ w.cell? ⟨b, off + k * 7 + 6, none⟩ = some (.int .i64 evs[k].x.came) := by
  obtain ⟨a', cap', h1, h2, h3, h4, h5, h6⟩ := h
  simp only [Value.slice.injEq, true_and] at h1
  obtain ⟨rfl, rfl⟩ := h1
  have hg : ∀ j, j < 7 → (ecells evs)[k * 7 + j]? = (evs[k].cells)[j]? := fun j hj => flat_get Ev.cells 7 (fun _ => rfl) evs k hk j hj
  obtain ⟨b, off, rfl, hb, c0⟩ := h6 (k * 7 + 0) _ (by rw [hg 0 (by omega)]; rfl)
  have hc : ∀ (j : Nat) (u : Value), j < 7 → (evs[k].cells)[j]? = some u → w.cell? ⟨b, off + (k * 7 + j), none⟩ = some u := fun j u hj hu => by
    obtain ⟨b1, off1, e1, _, c1⟩ := h6 (k * 7 + j) u (by rw [hg j hj]; exact hu)
    simp only [Option.some.injEq, Addr.mk.injEq, and_true] at e1
    obtain ⟨rfl, rfl⟩ := e1
    exact c1
  refine ⟨b, off, rfl, hb, c0, ?_, ?_, ?_, ?_, ?_, ?_⟩
  · rw [Nat.add_assoc]; exact hc 1 _ (by omega) rfl
  · rw [Nat.add_assoc]; exact hc 2 _ (by omega) rfl
  · rw [Nat.add_assoc]; exact hc 3 _ (by omega) rfl
  · rw [Nat.add_assoc]; exact hc 4 _ (by omega) rfl
  · rw [Nat.add_assoc]; exact hc 5 _ (by omega) rfl
  · rw [Nat.add_assoc]; exact hc 6 _ (by omega) rfl
set_option linter.unusedSimpArgs false in
set_option linter.unusedVariables false in
set_option linter.unnecessarySimpa false in
theorem Evs.below {base : Nat} {w w' : World} {v : Value} {l : List It} {evs : List Ev} (h : Evs base w v l evs) (hb : Below w.heap.size w w') : Evs base w' v l evs := ⟨h.items, own_below h.row hb, fun e he => ⟨own_below (h.lists e he).1 hb, own_below (h.lists e he).2 hb⟩⟩
set_option linter.unusedSimpArgs false in
set_option linter.unusedVariables false in
set_option linter.unnecessarySimpa false in
/-- The answered entries stay while the shelf turns. -/
theorem Evs.but {base fb rb : Nat} {w w' : World} {s R m : Nat} {most last : Int} {ls : List Nd} {v : Value} {l : List It} {evs : List Ev} (h : Evs base w v l evs) (hs : Sh fb rb w s R m most last ls) (hb : But (Foot s R m ls) w w') : Evs base w' v l evs :=
  ⟨h.items, own_block h.row fun g cur hg _ => hb.block g (Array.getElem?_eq_some_iff.1 hg).1 (hs.off hg (by decide) (by decide)), fun e he => (h.lists e he).block fun g cur hg => hb.block g (by rcases hg with hg | hg <;> exact (Array.getElem?_eq_some_iff.1 hg).1) (by
    rcases hg with hg | hg
    · exact hs.off hg (by decide) (by decide)
    · exact hs.off hg (by decide) (by decide))⟩
set_option linter.unusedSimpArgs false in
set_option linter.unusedVariables false in
set_option linter.unnecessarySimpa false in
theorem Evs.len {base : Nat} {w : World} {v : Value} {l : List Nd} {evs : List Ev} (h : Evs base w v (l.map Nd.x) evs) : evs.length = l.length := by
  have := congrArg List.length h.items
  simpa using this
set_option linter.unusedSimpArgs false in
set_option linter.unusedVariables false in
set_option linter.unnecessarySimpa false in
theorem Evs.get {base : Nat} {w : World} {v : Value} {l : List Nd} {evs : List Ev} (h : Evs base w v (l.map Nd.x) evs) (k : Nat) (hk : k < evs.length) (hk' : k < l.length) : evs[k].x = l[k].x := by
  have h1 : (evs.map Ev.x)[k]? = (l.map Nd.x)[k]? := by rw [h.items]
  rw [List.getElem?_map, List.getElem?_map, List.getElem?_eq_getElem hk, List.getElem?_eq_getElem hk'] at h1
  simpa using h1
end Go.Proofs.YtnflihjgbkocnaaDoor
