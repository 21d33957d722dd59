
/- Two pointers to links, held against each other. -/
import Derived.Test.YtnflihjgbkocnaaDoorProg
import Derived.Test.YtnflihjgbkocnaaDoorRing
import Derived.LaidEqlPtr
namespace Go.Dr
open Go Go.RowKit
set_option linter.unusedSimpArgs false in
set_option linter.unusedVariables false in
set_option linter.unnecessarySimpa false in
theorem run_neq_same {P : Program} (w : World) {tp te : TypeId} {j : TypeInfo} (a : Addr) (hp : P.underlying tp = some (.pointer te)) (hte : P.info? te = some j) :
    (binOp .neq tp (.pointer (some a)) (.pointer (some a))).run P w = .ok (.bool false) w := by
  have h : ∀ d : Nat, (Op.equalIn (d + 1) tp (.pointer (some a)) (.pointer (some a))).run P w = .ok true w := fun d => by
    simp [Op.equalIn, run_underlying hp, sizeOf, typeInfo, hte, run_sameAddr_same]
  simp only [binOp]
  simp [Op.equal, Op.maxDepth, h 9999]
set_option linter.unusedSimpArgs false in
set_option linter.unusedVariables false in
set_option linter.unnecessarySimpa false in
theorem run_neq_other {P : Program} (w : World) {tp te : TypeId} {j : TypeInfo} {a b : Addr} {ca cb : Array Value} {ta tb : TypeId} (hp : P.underlying tp = some (.pointer te)) (hte : P.info? te = some j) (hsz : j.size ≠ 0)
    (hne : a ≠ b) (ha : w.heap[a.block]? = some (.cells ca ta (0, 0))) (hb : w.heap[b.block]? = some (.cells cb tb (0, 0))) :
    (binOp .neq tp (.pointer (some a)) (.pointer (some b))).run P w = .ok (.bool true) w := by
  have h : ∀ d : Nat, (Op.equalIn (d + 1) tp (.pointer (some a)) (.pointer (some b))).run P w = .ok false w := fun d => by
    simp [Op.equalIn, run_underlying hp, sizeOf, typeInfo, hte, hsz, run_sameAddr_other w hne ha hb]
  simp only [binOp]
  simp [Op.equal, Op.maxDepth, h 9999]
end Go.Dr
namespace Go.Proofs.YtnflihjgbkocnaaDoor
open Go.RowKit Go.Dr
set_option linter.unusedSimpArgs false in
set_option linter.unusedVariables false in
set_option linter.unnecessarySimpa false in
theorem linkSize : (Tryd.prog.info? 57).map (·.size) = some 11 := by kernel_rfl
set_option linter.unusedSimpArgs false in
set_option linter.unusedVariables false in
set_option linter.unnecessarySimpa false in
theorem eql_link {W : World} {x a : Nat} {cx ca : Array Value} (hx : Blk W x 57 cx) (ha : Blk W a 57 ca) (c : Bool) (hc : c = decide (x = a)) : (binOp .eql 55 (Ptr x) (Ptr a)).run Tryd.prog W = .ok (.bool c) W := by
  obtain ⟨j, hj, hjs⟩ := Option.map_eq_some_iff.1 linkSize
  subst hc
  by_cases h : x = a
  · subst h
    rw [decide_eq_true rfl]
    exact run_eql_ptr_same (P := Tryd.prog) W (⟨x, 0, none⟩ : Addr) Tryd.underlying55 hj
  · rw [decide_eq_false h]
    exact run_eql_ptr_other (P := Tryd.prog) W (a := ⟨x, 0, none⟩) (b := ⟨a, 0, none⟩) Tryd.underlying55 hj (by rw [hjs]; decide) (by intro e; cases e; exact h rfl) hx ha
set_option linter.unusedSimpArgs false in
set_option linter.unusedVariables false in
set_option linter.unnecessarySimpa false in
theorem neq_link {W : World} {x a : Nat} {cx ca : Array Value} (hx : Blk W x 57 cx) (ha : Blk W a 57 ca) (c : Bool) (hc : c = !decide (x = a)) : (binOp .neq 55 (Ptr x) (Ptr a)).run Tryd.prog W = .ok (.bool c) W := by
  obtain ⟨j, hj, hjs⟩ := Option.map_eq_some_iff.1 linkSize
  subst hc
  by_cases h : x = a
  · subst h
    rw [decide_eq_true rfl]
    exact run_neq_same (P := Tryd.prog) W (⟨x, 0, none⟩ : Addr) Tryd.underlying55 hj
  · rw [decide_eq_false h]
    exact run_neq_other (P := Tryd.prog) W (a := ⟨x, 0, none⟩) (b := ⟨a, 0, none⟩) Tryd.underlying55 hj (by rw [hjs]; decide) (by intro e; cases e; exact h rfl) hx ha
end Go.Proofs.YtnflihjgbkocnaaDoor
