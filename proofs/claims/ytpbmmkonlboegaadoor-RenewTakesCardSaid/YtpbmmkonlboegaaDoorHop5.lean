
/- The walks of layer 11 (hop), fifth part: Strip, Join. -/
import Derived.Test.YtpbmmkonlboegaaDoorHop4
import Derived.Test.YtpbmmkonlboegaaDoorJoin
namespace Go.Proofs.YtpbmmkonlboegaaDoor
open Go.RowKit Go.Dr

theorem without_both (l : List F) (a b : List Bytes) : without l (a ++ b) = without (without l b) a := by
  simp only [without, List.filter_filter, among, List.any_append]
  congr 1
  funext f
  simp [Bool.not_or]

set_option maxRecDepth 100000 in
set_option maxHeartbeats 1000000 in
theorem Strip_any (l : List F) (v : Value) (w : World) (h : Fs w.heap.size w v l) (hl : fsum l ≤ 549755813888) :
    Calls Tryd.prog 57 #[v] w (RetFs 31 w (strip l)) := by
  have h1 := ssum_all l connection
  have h2 := ssum_own
  have h4 := ssum_length (allOf l connection)
  have hst : Hid (without l (own ++ allOf l connection) = strip l) := without_both l own (allOf l connection)
  have hss := ssum_append own (allOf l connection)
  go_enter Tryd.func57, Tryd.ntmps57
  go_wp2_with fail
  refine (All_any l connection v _ ((h.below ((Below.refl _ _).alloc (Nat.le_refl _) _)).mono (by simp)) (by omega) (by decide)).mono ?_
  rintro e w1 ⟨va, rfl, hva, hb1⟩
  generalize allOf l connection = al at *
  have hz1 : w.heap.size + 1 ≤ w1.heap.size := by have := hb1.size; simpa using this
  have ho := own_below (World.ownsRow_lit (base := w.heap.size) (e := 9) (size := 1) w (own.map S).toArray 9 (Nat.le_refl _) (by decide) rfl) hb1
  go_wp2_with (at_builtin; refine wpList_appRd rfl _ _ 39 rfl w.heap.size 9 (.string ByteArray.empty) 1 16 Tryd.underlying39 (by kernel_rfl) rfl (by decide) _ _ _ rfl ho _ _ _ _ rfl (Ss.own hva) (S_one _) (by unfold maxLen; omega) (by omega) (by omega) ?_; intro a' c' w2 hown2 hb2)
  have hown2' : w2.ownsRow w.heap.size 9 1 (.slice a' (9 + al.length) c') (own ++ al).length ((own ++ al).map S) := by
    have e : (own ++ al).length = 9 + al.length := by simp [own]; omega
    rw [e, List.map_append]
    exact hown2
  have hw2 : Below w.heap.size w w2 := (((Below.refl _ _).alloc (Nat.le_refl _) _).trans (hb1.mono (by simp))).trans hb2
  refine (Without_any l (own ++ al) v _ w2 ((h.below hw2).mono hw2.size) (Ss.own hown2') (by omega) (by omega)).mono ?_
  rintro e w3 ⟨vr, rfl, hvr, hb3⟩
  rw [hst.out] at hvr
  go_wp2
  go_ret
  exact ⟨_, rfl, own_base hvr hw2.size, Bl.tr hw2 hb3⟩

end Go.Proofs.YtpbmmkonlboegaaDoor
