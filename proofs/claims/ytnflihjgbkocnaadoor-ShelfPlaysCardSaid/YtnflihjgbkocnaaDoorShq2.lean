
/- The walks of layer 19: the entries that a closure tells go. -/
import Derived.Test.YtnflihjgbkocnaaDoorShq0
import Derived.Test.YtnflihjgbkocnaaDoorShq1
namespace Go.Proofs.YtnflihjgbkocnaaDoor
open Go.RowKit Go.Dr

set_option linter.unusedSimpArgs false in
set_option linter.unusedVariables false in
set_option linter.unnecessarySimpa false in
theorem foot_more {s R m : Nat} {l l' : List Nd} (h : ∀ n ∈ l, n ∈ l') {k : Nat} (hk : Foot s R m l k) : Foot s R m l' k := by
  rcases hk with e | e | e | hk
  · exact .inl e
  · exact .inr (.inl e)
  · exact .inr (.inr (.inl e))
  · obtain ⟨n, hn, e⟩ := List.mem_map.1 hk
    exact .inr (.inr (.inr (e ▸ List.mem_map_of_mem (h n hn))))

abbrev entV (n : Nd) : Value := .agg #[S n.x.key, n.vp, .int .i64 n.x.st, n.vf, S n.x.body, .int .i64 n.x.asked, .int .i64 n.x.came]

def blkOf : Value → Nat | .pointer (some a) => a.block | _ => 0
set_option linter.unusedSimpArgs false in
set_option linter.unusedVariables false in
set_option linter.unnecessarySimpa false in
theorem idx_head (dn rs : List Nd) (R : Nat) (h : (R :: (dn ++ rs).map Nd.b).Nodup) : ((dn ++ rs).map Nd.b).idxOf (blkOf (Ptr (headOr (rs.map Nd.n) R))) = dn.length := by
  show ((dn ++ rs).map Nd.b).idxOf (headOr (rs.map Nd.n) R) = dn.length
  rw [List.nodup_cons, List.map_append] at h
  rw [List.map_append, List.idxOf_append]
  cases rs with
  | nil =>
    simp only [List.map_nil, headOr_nil, List.append_nil] at h ⊢
    rw [if_neg h.1]
    simp
  | cons n rs =>
    have : headOr ((n :: rs).map Nd.n) R = n.b := rfl
    rw [this]
    have h2 := (List.nodup_append.1 h.2).2.2
    rw [if_neg fun hm => h2 n.b hm n.b (by simp) rfl]
    simp

set_option linter.unusedSimpArgs false in
set_option linter.unusedVariables false in
set_option linter.unnecessarySimpa false in
set_option maxRecDepth 100000 in
set_option maxHeartbeats 4000000 in
theorem sweep_any (fb rb s R m : Nat) (most last : Int) (l : List Nd) (w : World) (h : Sh fb rb w s R m most last l) (hlen : l.length ≤ 1048576) (F : FuncId) (hF : ∀ args w, (callFunc F args).run Tryd.prog w = .ok (.enter F args) w) (caps : Array Value) (p : Nd → Bool) (J : List Nd → World → Prop) (hJ0 : J [] w)
    (hg : ∀ dn n rs wa, l = dn ++ n :: rs → Sh fb rb wa s R m most last (dn.filter (fun n => !p n) ++ n :: rs) → J dn wa → Calls Tryd.prog F (#[entV n] ++ caps) wa fun e wb => e = .returned (.bool (p n)) ∧ Sh fb rb wb s R m most last (dn.filter (fun n => !p n) ++ n :: rs) ∧ J (dn ++ [n]) wb)
    (hJ : (∃ n ∈ l, p n = true) → ∀ dn wa wb, J dn wa → But (Foot s R m l) wa wb → J dn wb) :
    Calls Tryd.prog 23 #[Ptr s, .func (.func F) #[] caps] w fun e w' => e = .returned (.int .i64 ((l.filter p).length : Nat)) ∧ Sh fb rb w' s R m most last (l.filter (fun n => !p n)) ∧ J l w' := by
  have y3 : w.cell? ⟨s, 3, none⟩ = some (Ptr R) := h.blk.cell 3
  have y10 : w.cell? ⟨R, 10, none⟩ = some (Ptr (headOr (l.map Nd.n) R)) := h.ring.root.cell 10
  obtain ⟨q0, eq0⟩ : ∃ q0, q0 = headOr (l.map Nd.n) R := ⟨_, rfl⟩
  rw [← eq0] at y10
  have HQ := Lib.hid eq0
  clear eq0
  go_enter Tryd.func23, Tryd.ntmps23
  go_wp2
  go_loopw [5, 6] (fun n q wr => ∃ dn rs, l = dn ++ rs ∧ n = .int .i64 ((dn.filter p).length : Nat) ∧ q = Ptr (headOr (rs.map Nd.n) R) ∧ Sh fb rb wr s R m most last (dn.filter (fun n => !p n) ++ rs) ∧ J dn wr) (fun _ q _ => l.length - (l.map Nd.b).idxOf (blkOf q))
  case atStart => exact ⟨[], l, rfl, rfl, by rw [HQ.out], h, hJ0⟩
  case round =>
    obtain ⟨dn, rs, hl, rfl, rfl, hs, hj⟩ := hrel
    have x3 : wr.cell? ⟨s, 3, none⟩ = some (Ptr R) := hs.blk.cell 3
    have hnd := h.ring.nodup
    rw [nd_blocks] at hnd
    cases rs with
    | nil =>
      rw [List.append_nil] at hl hs
      subst hl
      have e0 : headOr (List.map Nd.n []) R = R := rfl
      have hq := neq_link hs.ring.root hs.ring.root false (by simp)
      rw [e0]
      go_wp2
      go_ret
      exact ⟨rfl, hs, hj⟩
    | cons n rs =>
      have e0 : headOr (List.map Nd.n (n :: rs)) R = n.b := rfl
      have hat := hs.at
      have hnR : ¬ n.b = R := (hs.ne_s.2.2.2 n (by simp)).2.2
      have hc1 : (dn.filter p).length ≤ dn.length := List.length_filter_le _ _
      have hc2 : dn.length + rs.length + 1 = l.length := by rw [hl]; simp; omega
      have HM1 := Lib.hid (idx_head dn (n :: rs) R (hl ▸ hnd))
      have HM2 := Lib.hid (idx_head (dn ++ [n]) rs R (by rw [List.append_assoc]; exact hl ▸ hnd))
      have hsubl : ∀ x ∈ dn.filter (fun n => !p n) ++ n :: rs, x ∈ l := fun x hx => by
        rw [hl]
        rcases List.mem_append.1 hx with hx | hx
        · exact List.mem_append.2 (.inl (List.mem_filter.1 hx).1)
        · exact List.mem_append.2 (.inr hx)
      have hq := neq_link hat hs.ring.root true (by simp [hnR])
      rw [e0]
      obtain ⟨nx, enx⟩ : ∃ nx, nx = headOr (rs.map Nd.n) R := ⟨_, rfl⟩
      rw [← enx] at hat
      have HNX := Lib.hid enx
      clear enx
      have HL := Lib.hid hl
      clear hl
      obtain ⟨c, ec⟩ : ∃ c, c = (dn.filter p).length := ⟨_, rfl⟩
      rw [← ec] at hc1 ⊢
      have HC := Lib.hid ec
      clear ec
      have z2 : wr.cell? ⟨n.b, 2, none⟩ = some (S n.x.key) := hat.cell 2
      have z3 : wr.cell? ⟨n.b, 3, none⟩ = some n.vp := hat.cell 3
      have z4 : wr.cell? ⟨n.b, 4, none⟩ = some (.int .i64 n.x.st) := hat.cell 4
      have z5 : wr.cell? ⟨n.b, 5, none⟩ = some n.vf := hat.cell 5
      have z6 : wr.cell? ⟨n.b, 6, none⟩ = some (S n.x.body) := hat.cell 6
      have z7 : wr.cell? ⟨n.b, 7, none⟩ = some (.int .i64 n.x.asked) := hat.cell 7
      have z8 : wr.cell? ⟨n.b, 8, none⟩ = some (.int .i64 n.x.came) := hat.cell 8
      have z10 : wr.cell? ⟨n.b, 10, none⟩ = some (Ptr nx) := hat.cell 10
      go_wp2_with fail
      refine (hg dn n rs wr HL.out hs hj).mono ?_
      rintro e w1 ⟨rfl, hs1, hj1⟩
      cases hp : p n with
      | true =>
        go_wp2_with fail
        refine (drop_any fb rb s R m most last _ _ _ w1 hs1).mono ?_
        rintro e w2 ⟨rfl, hs2, hb2⟩
        go_wp2
        go_roundw
        case rel =>
          refine ⟨dn ++ [n], rs, by rw [HL.out]; simp, ?_, by rw [HNX.out], ?_, hJ ⟨n, by rw [HL.out]; simp, hp⟩ _ _ _ hj1 (hb2.more fun k hk => foot_more hsubl hk)⟩
          · rw [List.filter_append, List.length_append, ← HC.out]
            simp [hp]
          · rw [List.filter_append]
            simpa [hp] using hs2
        case measure =>
          have m1 : (l.map Nd.b).idxOf (blkOf (Ptr n.b)) = dn.length := by rw [HL.out]; exact HM1.out
          have m2 : (l.map Nd.b).idxOf (blkOf (Ptr nx)) = dn.length + 1 := by
            have := HM2.out
            rw [List.append_assoc] at this
            rw [HL.out, HNX.out]
            simpa using this
          show l.length - (l.map Nd.b).idxOf (blkOf (Ptr nx)) < l.length - (l.map Nd.b).idxOf (blkOf (Ptr n.b))
          rw [m1, m2]
          omega
      | false =>
        go_wp2
        go_roundw
        case rel =>
          refine ⟨dn ++ [n], rs, by rw [HL.out]; simp, ?_, by rw [HNX.out], ?_, hj1⟩
          · rw [List.filter_append, List.length_append, ← HC.out]
            simp [hp]
          · rw [List.filter_append]
            simpa [hp] using hs1
        case measure =>
          have m1 : (l.map Nd.b).idxOf (blkOf (Ptr n.b)) = dn.length := by rw [HL.out]; exact HM1.out
          have m2 : (l.map Nd.b).idxOf (blkOf (Ptr nx)) = dn.length + 1 := by
            have := HM2.out
            rw [List.append_assoc] at this
            rw [HL.out, HNX.out]
            simpa using this
          show l.length - (l.map Nd.b).idxOf (blkOf (Ptr nx)) < l.length - (l.map Nd.b).idxOf (blkOf (Ptr n.b))
          rw [m1, m2]
          omega
end Go.Proofs.YtnflihjgbkocnaaDoor
