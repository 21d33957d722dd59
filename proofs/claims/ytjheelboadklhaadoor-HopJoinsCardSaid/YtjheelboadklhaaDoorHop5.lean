/- The walks of layer 11 (hop), fifth part: Strip, Join. -/
import Derived.Test.YtjheelboadklhaaDoorHop4
namespace Go.Proofs.YtjheelboadklhaaDoor
open Go.RowKit Go.Dr

theorem without_both (l : List F) (a b : List Bytes) : without l (a ++ b) = without (without l b) a := by
  simp only [without, List.filter_filter, among, List.any_append]
  congr 1
  funext f
  simp [Bool.not_or]

set_option maxRecDepth 100000 in
set_option maxHeartbeats 1000000 in
theorem Strip_any (l : List F) (v : Value) (w : World) (h : Fs w.heap.size w v l) (hl : fsum l ≤ 549755813888) :
    Calls Tryd.prog 14 #[v] w (RetFs 35 w (strip l)) := by
  have h1 := ssum_all l connection
  have h2 := ssum_own
  have h4 := ssum_length (allOf l connection)
  have hst : Hid (without l (own ++ allOf l connection) = strip l) := without_both l own (allOf l connection)
  have hss := ssum_append own (allOf l connection)
  go_enter Tryd.func14, Tryd.ntmps14
  go_wp2_with fail
  refine (All_any l connection v _ ((h.below ((Below.refl _ _).alloc (Nat.le_refl _) _)).mono (by simp)) (by omega) (by decide)).mono ?_
  rintro e w1 ⟨va, rfl, hva, hb1⟩
  generalize allOf l connection = al at *
  have hz1 : w.heap.size + 1 ≤ w1.heap.size := by have := hb1.size; simpa using this
  have ho := own_below (World.ownsRow_lit (base := w.heap.size) (e := 9) (size := 1) w (own.map S).toArray 9 (Nat.le_refl _) (by decide) rfl) hb1
  go_wp2_with (at_builtin; refine wpList_appRd rfl _ _ 23 rfl w.heap.size 9 (.string ByteArray.empty) 1 16 Tryd.underlying23 (by kernel_rfl) rfl (by decide) _ _ _ rfl ho _ _ _ _ rfl (Ss.own hva) (S_one _) (by unfold maxLen; omega) (by omega) (by omega) ?_; intro a' c' w2 hown2 hb2)
  have hown2' : w2.ownsRow w.heap.size 9 1 (.slice a' (9 + al.length) c') (own ++ al).length ((own ++ al).map S) := by
    have e : (own ++ al).length = 9 + al.length := by simp [own]; omega
    rw [e, List.map_append]
    exact hown2
  have hw2 : Below w.heap.size w w2 := (((Below.refl _ _).alloc (Nat.le_refl _) _).trans (hb1.mono (by simp))).trans hb2
  refine (Without_any l (own ++ al) v _ w2 ((h.below hw2).mono hw2.size) (Ss.own hown2') (by omega) (by omega)).mono ?_
  rintro e w3 ⟨vr, rfl, hvr, hb3⟩
  rw [hst.out] at hvr
  go_wp2
  go_ret
  exact ⟨_, rfl, own_base hvr hw2.size, Bl.tr hw2 hb3⟩

/-- The values in one, with ', ' between. -/
def joinS (v : List Bytes) : Bytes := Lib.join v [44, 32]

theorem joinS_nil : joinS [] = [] := rfl
theorem lens_ssum (r : List Bytes) : Lib.lens r + r.length = ssum r := by
  induction r with
  | nil => rfl
  | cons y r ih => simp only [Lib.lens, List.map_cons, List.sum_cons, List.length_cons, ssum] at *; omega
theorem joinS_length (vs : List Bytes) : (joinS vs).length ≤ 2 * ssum vs := by
  cases vs with
  | nil => simp [joinS_nil]
  | cons x r =>
    have := Lib.join_length x r [44, 32]
    have h2 := lens_ssum (x :: r)
    simp only [joinS, List.length_cons, List.length_nil] at *
    omega

set_option maxRecDepth 100000 in
set_option maxHeartbeats 1000000 in
theorem Joins_any (vs : List Bytes) (v : Value) (w : World) (h : Ss w.heap.size w v vs) (hl : ssum vs ≤ 1099511627776) :
    Calls Tryd.prog 36 #[v, S [44, 32]] w fun e w' => e = .returned (S (joinS vs)) ∧ Below w.heap.size w w' := by
  have hbnd := joinS_length vs
  obtain ⟨a, cap, rfl, h2, h3, h4, h5, h6⟩ := h
  cases vs with
  | nil =>
    refine (Tryd.strings_Join_none a cap ⟨#[44, 32]⟩ w).mono ?_
    rintro e w' ⟨rfl, rfl⟩
    exact ⟨rfl, Below.refl _ _⟩
  | cons x r =>
    obtain ⟨b, off, rfl, hb, _⟩ := h6 0 (S x) rfl
    have hmap : ((x :: r).map fun l => (⟨l.toArray⟩ : ByteArray)).map (·.data.toList) = x :: r := by
      rw [List.map_map]
      conv => rhs; rw [← List.map_id (x :: r)]
      rfl
    have hlen := ssum_length (x :: r)
    have hc := Tryd.strings_Join b off cap ((x :: r).map fun l => ⟨l.toArray⟩) ⟨#[44, 32]⟩ w (fun j y hy => by
      rw [List.getElem?_map] at hy
      cases hj : (x :: r)[j]? with
      | none => rw [hj] at hy; cases hy
      | some z =>
        rw [hj] at hy
        obtain rfl := Option.some.inj hy
        obtain ⟨b', off', e1, _, e3⟩ := h6 j (S z) (by rw [List.getElem?_map, hj]; rfl)
        simp only [Option.some.injEq, Addr.mk.injEq, and_true] at e1
        obtain ⟨rfl, rfl⟩ := e1
        exact e3) hb (by rw [List.length_map]; omega) (by rw [List.length_map]; exact h2)
      (by rw [hmap]; show (joinS (x :: r)).length ≤ _; omega)
    rw [hmap, List.length_map] at hc
    exact hc

set_option maxRecDepth 100000 in
set_option maxHeartbeats 1000000 in
theorem Join_any (l : List F) (name : Bytes) (v : Value) (w : World) (h : Fs w.heap.size w v l) (hl : fsum l ≤ 1099511627776) (hn : name.length ≤ 1099511627776) :
    Calls Tryd.prog 24 #[v, S name] w fun e w' => e = .returned (.tuple #[S (joinS (values l name)), .bool (decide (0 < (values l name).length))]) ∧ Below w.heap.size w w' := by
  have HS := ssum_values l name
  go_enter Tryd.func24, Tryd.ntmps24
  go_wp2_with fail
  refine (Values_any l name v w h hl hn).mono ?_
  rintro e w1 ⟨vv, rfl, hvv, hb1⟩
  have hr : Ss w1.heap.size w1 vv (values l name) := Ss.own hvv
  generalize hvs : values l name = vs at *
  have HVS := Lib.hid hvs
  clear hvv hvs
  obtain ⟨pa, ca, rfl, hm⟩ := hr.form
  go_wp2_with (go_at_call 36; refine (Joins_any vs _ _ hr (by omega)).mono ?_; rintro e w2 ⟨rfl, hb2⟩)
  go_ret2
  exact ⟨by rw [HVS.out]; simp, Bl.tr hb1 hb2⟩

theorem joinS_take (vs : List Bytes) (k : Nat) (h : k < vs.length) : joinS (vs.take (k + 1)) = joinS (vs.take k) ++ (if 0 < k then [44, 32] else []) ++ vs[k] := by
  cases vs with
  | nil => simp at h
  | cons x r =>
    cases k with
    | zero => simp [joinS, Lib.join_one, Lib.join_nil]
    | succ k =>
      have hk : k < r.length := by simpa using h
      have := Lib.joinTail_take_succ [44, 32] r k r[k] (List.getElem?_eq_getElem hk)
      simp only [joinS, List.take_succ_cons, Lib.join_cons, List.getElem_cons_succ, Nat.zero_lt_succ, if_true]
      rw [this]
      simp

set_option maxRecDepth 100000 in
set_option maxHeartbeats 1000000 in
theorem refJoin_any (l : List F) (name : Bytes) (v : Value) (w : World) (h : Fs w.heap.size w v l) (hl : fsum l ≤ 1099511627776) (hn : name.length ≤ 1099511627776) :
    Calls Tryd.prog 25 #[v, S name] w fun e w' => e = .returned (.tuple #[S (joinS (values l name)), .bool (decide (0 < (values l name).length))]) ∧ Below w.heap.size w w' := by
  have HS := ssum_values l name
  go_enter Tryd.func25, Tryd.ntmps25
  go_wp2_with fail
  refine (refValues_any l name v w h hl hn).mono ?_
  rintro e w1 ⟨vv, rfl, hvv, hb1⟩
  have hr : Ss w1.heap.size w1 vv (values l name) := Ss.own hvv
  generalize hvs : values l name = vs at *
  have HVS := Lib.hid hvs
  clear hvv hvs
  obtain ⟨pa, ca, rfl, hm⟩ := hr.form
  go_wp2
  go_loopw [7, 8] (fun vs' i wr => ∃ k : Nat, i = .int .i64 k ∧ k ≤ vs.length ∧ vs' = S (joinS (vs.take k)) ∧ (joinS (vs.take k)).length ≤ 4398046511104 ∧ Below w1.heap.size w1 wr) (fun _ i _ => vs.length - (intOf i).toNat)
  case atStart => exact ⟨0, rfl, Nat.zero_le _, rfl, Nat.zero_le _, Below.refl _ _⟩
  case round =>
    obtain ⟨k, rfl, hk, rfl, hjl, hbel⟩ := hrel
    by_cases hlt : k < vs.length
    · obtain ⟨b, off, rfl, hbb, c0⟩ := (hr.below hbel).at k hlt
      have hf := ssum_mem (List.getElem_mem hlt)
      have HJ := Lib.hid (joinS_take vs k hlt)
      have hj1 := joinS_length (vs.take (k + 1))
      have hj2 := ssum_take vs (k + 1)
      have hjb : (joinS (vs.take (k + 1))).length ≤ 4398046511104 := by omega
      clear hj1 hj2
      generalize joinS (vs.take k) = q at *
      by_cases h0 : 0 < k
      · have HJ : Hid (joinS (vs.take (k + 1)) = q ++ [44, 32] ++ vs[k]) := by show _ = _; rw [HJ.out, if_pos h0]
        go_wp2
        go_roundw
        case rel => exact ⟨k + 1, by go_num, by omega, by rw [HJ.out]; simp, hjb, hbel⟩
        case measure => simp [intOf]; omega
      · have HJ : Hid (joinS (vs.take (k + 1)) = q ++ vs[k]) := by show _ = _; rw [HJ.out, if_neg h0, List.append_nil]
        go_wp2
        go_roundw
        case rel => exact ⟨k + 1, by go_num, by omega, by rw [HJ.out], hjb, hbel⟩
        case measure => simp [intOf]; omega
    · have hk' : k = vs.length := by omega
      subst hk'
      rw [List.take_length] at *
      go_wp2
      go_ret2
      exact ⟨by rw [HVS.out]; simp, Bl.tr hb1 hbel⟩

end Go.Proofs.YtjheelboadklhaaDoor
