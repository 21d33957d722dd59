/- Parts of the proof of DealAsks_holds: the texts Shf6 Law19b Dea6. -/
import Derived.Test.YtahapblgmehngaaGreatDoorA13
import Derived.Test.YtahapblgmehngaaGreatDoorA4
import Derived.Test.YtahapblgmehngaaGreatDoorA26
import Derived.Test.YtahapblgmehngaaGreatDoorA34
import Derived.Test.YtahapblgmehngaaGreatDoorA38
import Derived.Test.YtahapblgmehngaaGreatDoorA44
import Derived.Test.YtahapblgmehngaaGreatDoorA35
set_option linter.unusedSimpArgs false
set_option linter.unusedVariables false
set_option linter.unnecessarySimpa false
namespace Go.Proofs.YtahapblgmehngaaGreatDoor
open Go.RowKit Go.Dr

theorem alloc3 (w : World) (X Y Z : Obj) : (((w.alloc X).alloc Y).alloc Z).heap[w.heap.size]? = some X ∧ (((w.alloc X).alloc Y).alloc Z).heap[w.heap.size + 1]? = some Y ∧ (((w.alloc X).alloc Y).alloc Z).heap[w.heap.size + 2]? = some Z := by
  have h1 := heap_alloc_new w X
  have h2 := heap_alloc_new (w.alloc X) Y
  have h3 := heap_alloc_new ((w.alloc X).alloc Y) Z
  have s1 : (w.alloc X).heap.size = w.heap.size + 1 := by simp
  have s2 : ((w.alloc X).alloc Y).heap.size = w.heap.size + 2 := by simp
  rw [s1] at h2
  rw [s2] at h3
  exact ⟨(heap_alloc_old _ _ (by omega)).trans ((heap_alloc_old _ _ (by omega)).trans h1), (heap_alloc_old _ _ (by omega)).trans h2, h3⟩

set_option maxRecDepth 100000 in
set_option maxHeartbeats 4000000 in
theorem New_any (most : Int) (h0 : 0 ≤ most) (h1 : most ≤ 1048576) (w : World) :
    Calls Tryz.prog 27 #[.int .i64 most] w fun e w' => e = .returned (.tuple #[Ptr (w.heap.size + 2), .int .i64 0]) ∧ Below w.heap.size w w' ∧ Blk w' w.heap.size 97 (K.zero.cells w.heap.size w.heap.size) ∧ w'.heap[w.heap.size + 1]? = some (.map #[] 0) ∧ Blk w' (w.heap.size + 2) 100 #[.int .i64 most, .int .i64 0, .int .i64 0, Ptr w.heap.size, .map (some (w.heap.size + 1))] := by
  have g1 : decide (most < 0) = false := by rw [decide_eq_false_iff_not]; omega
  have g2 : decide ((1048576 : Int) < most) = false := by rw [decide_eq_false_iff_not]; omega
  clear h0 h1
  have hmm := @run_makeMap Tryz.prog
  go_enter Tryz.func27, Tryz.ntmps27
  go_wp2
  go_ret2
  refine ⟨rfl, ?_, (alloc3 w _ _ _).1, (alloc3 w _ _ _).2.1, (alloc3 w _ _ _).2.2⟩
  exact (((Below.refl _ _).alloc (Nat.le_refl _) _).alloc (by simp) _).alloc (by simp; omega) _
end Go.Proofs.YtahapblgmehngaaGreatDoor

namespace Go.Proofs.YtahapblgmehngaaGreatDoor
open Go.RowKit Go.Dr

theorem sh_new {fb rb : Nat} {w : World} {R : Nat} {most : Int} (h1 : Blk w R 97 (K.zero.cells R R)) (h2 : w.heap[R + 1]? = some (.map #[] 0)) (h3 : Blk w (R + 2) 100 #[.int .i64 most, .int .i64 0, .int .i64 0, Ptr R, .map (some (R + 1))]) (hb : fb ≤ R) (hm : 0 ≤ most) (hm1 : most ≤ 1048576) : Sh fb rb w (R + 2) R (R + 1) most 0 [] where
  blk := h3
  ring := ring_none _ _ _ h1
  map := PMap.made h2
  rows := by simp
  base := by
    rintro k (e | e | e | hk)
    · omega
    · omega
    · omega
    · cases hk
  room := hm
  most1 := hm1

end Go.Proofs.YtahapblgmehngaaGreatDoor

namespace Go.Proofs.YtahapblgmehngaaGreatDoor
open Go.RowKit Go.Dr

theorem own21_not {w : World} {k : Nat} {t : TypeId} {xs : Array Value} (h : Blk w k t xs) (h1 : t ≠ 38) (h2 : t ≠ 72) : ¬ Own21 w k := by
  rintro (⟨ys, hy⟩ | ⟨ys, hy⟩)
  · unfold Blk at h hy
    rw [h] at hy
    simp only [Option.some.injEq, Obj.cells.injEq] at hy
    exact h1 hy.2.1
  · unfold Blk at h hy
    rw [h] at hy
    simp only [Option.some.injEq, Obj.cells.injEq] at hy
    exact h2 hy.2.1
theorem Sh.but21 {fb rb : Nat} {w w' : World} {s R m B : Nat} {most last : Int} {l : List Nd} (h : Sh fb rb w s R m most last l) (hb : But (fun k => B ≤ k ∧ Own21 w k) w w') : Sh fb rb w' s R m most last l := by
  refine h.keep (fun k hk => hb.block k (h.foot_lt hk) fun ho => ?_) fun n hn => (h.rows n hn).block fun g cur hg _ => hb.block g (by rcases hg with hg | hg <;> exact (Array.getElem?_eq_some_iff.1 hg).1) fun ho => ?_
  · rcases ho.2 with ⟨xs, hx⟩ | ⟨xs, hx⟩
    · exact h.off hx (by decide) (by decide) hk
    · exact h.off hx (by decide) (by decide) hk
  · rcases hg with hg | hg
    · exact own21_not (show Blk w g _ _ from hg) (by decide) (by decide) ho.2
    · exact own21_not (show Blk w g _ _ from hg) (by decide) (by decide) ho.2
/-- What is neither a shelf's nor a deal's stays. -/
def Keeps21 (w w' : World) : Prop := ∀ (b : Nat) (t : TypeId) (xs : Array Value), t ≠ 100 → t ≠ 97 → t ≠ 70 → t ≠ 38 → t ≠ 72 → Blk w b t xs → Blk w' b t xs
theorem Keeps21.own {w w' : World} {base : Nat} {e : TypeId} {size : Nat} {v : Value} {n : Nat} {xs : List Value} (h : Keeps21 w w') (ho : w.ownsRow base e size v n xs) (h1 : e ≠ 100) (h2 : e ≠ 97) (h3 : e ≠ 70) (h4 : e ≠ 38) (h5 : e ≠ 72) : w'.ownsRow base e size v n xs :=
  own_block ho fun g cur hg _ => (h g e cur h1 h2 h3 h4 h5 hg).trans hg.symm
theorem Decided.keeps {P : World → En → Int → Bool → List F → Prop} {w w1 w2 w' : World} {B : Nat} (h1 : Below w.heap.size w w1) (h2 : Keeps w1 w2) (hb : But (fun k => B ≤ k ∧ Own21 w2 k) w2 w') : Keeps21 w w' := fun g t xs k1 k2 k3 k4 k5 h => by
  have h2' := h2 g t xs k1 k2 k3 (h.on h1)
  exact h2'.but hb fun ho => own21_not h2' k4 k5 ho.2
abbrev wakeF : List F := [⟨[99, 97, 99, 104, 101, 45, 99, 111, 110, 116, 114, 111, 108], [109, 97, 120, 45, 97, 103, 101, 61, 54, 48], false⟩]
abbrev wakeQ : Rq := ⟨[71, 69, 84], [104, 116, 116, 112], [104], [47], .slice none 0 0⟩
theorem wake_alone : aloneB [71, 69, 84] [] = false := by decide +kernel
theorem wake_kept : keptB wakeQ 200 [] wakeF = true := by
  show storF [71, 69, 84] 200 [] (strip wakeF) = true
  decide +kernel
theorem wake_strip : strip wakeF = wakeF := by decide +kernel
theorem wake_pick : pickOf [] wakeF = [] := by decide +kernel
theorem wake_good21 : goodF [] wakeF 200 5 6 7 = true := by decide +kernel
theorem wake_oi : (saysC []).oi = false := by decide +kernel
theorem run_kind (k id : Int) (a1 a2 a3 a4 a5 a6 a7 : Value) (w : World) : (Instr.field 38 (.agg #[.int .i64 k, .int .i64 id, a1, a2, a3, a4, a5, a6, a7]) 0).run Tryz.prog w = .ok (.int .i64 k) w := by kernel_rfl
theorem wake_lost (id : Int) (q : En) : dealOf [] [71, 69, 84] 7 q id false [] = dealZ 3 := by
  unfold dealOf
  rw [if_neg (by simp), if_neg (by rw [wake_oi]; simp), if_neg (by decide), if_neg (by simp)]

theorem nil_fo (B : Nat) (w : World) : Fo 60 B w (.slice none 0 0) [] := .inl (Rd.nil _ _ _)
/-- Of an empty shelf. -/
theorem wake_first {fb rb : Nat} {w : World} {s R m : Nat} {most last : Int} (h : Sh fb rb w s R m most last []) :
    Calls Tryz.prog 12 #[Ptr s, wakeQ.val, .int .i64 7] w fun e w' => e = .returned (dealZ 3) ∧ Sh fb rb w' s R m most last [] ∧ Keeps21 w w' ∧ Below w.heap.size w w' := by
  refine (Decide_by 0 (fun w2 q id fd lf => fd = false ∧ lf = [] ∧ Sh fb rb w2 s R m most last [] ∧ Below w.heap.size w w2) (some ⟨s, 0, none⟩) wakeQ [] 7 w (Nat.zero_le _) (nil_fo _ _) (by simp [fsum]) (by decide) ?_).mono ?_
  · intro w1 hb1
    refine (Find_any fb rb s R m most last [] (keyR wakeQ) (.slice none 0 0) [] w1 (h.below hb1) (Rd.nil _ _ _) (by simp [fsum])).mono ?_
    rintro e w2 (⟨-, rfl, hb2⟩ | ⟨a, n, b, v, hl, -⟩)
    · exact ⟨⟨[], .slice none 0 0, 0, .slice none 0 0, [], 0, 0⟩, 0, false, [], ⟨_, _, _, rfl⟩, nil_fo _ _, by simp [fsum], nil_fo _ _, rfl, Keeps.below hb2, hb2.size, rfl, rfl, (h.below hb1).below hb2, Bl.tr hb1 hb2⟩
    · simp at hl
  · rintro e w' (⟨ha, -⟩ | ⟨-, w1, w2, q, id, fd, lf, hb1, hk, ⟨rfl, rfl, hs, hbw⟩, hb, rfl⟩)
    · rw [show (wakeQ).m = [71, 69, 84] from rfl, wake_alone] at ha
      cases ha
    · exact ⟨by rw [show (wakeQ).m = [71, 69, 84] from rfl, wake_lost], hs.but21 hb, Decided.keeps (P := fun _ _ _ _ _ => True) hb1 hk hb, hbw.trans (hb.below (fun k hk => hk.1) hbw.size)⟩
/-- Of no shelf. -/
theorem wake_nil (w : World) : Calls Tryz.prog 12 #[.pointer none, wakeQ.val, .int .i64 7] w fun e w' => e = .returned (dealZ 3) ∧ Below w.heap.size w w' := by
  refine (Decide_by 0 (fun w2 q id fd lf => fd = false ∧ lf = [] ∧ Below w.heap.size w w2) none wakeQ [] 7 w (Nat.zero_le _) (nil_fo _ _) (by simp [fsum]) (by decide) ?_).mono ?_
  · intro w1 hb1
    refine (Find_nil (keyR wakeQ) (.slice none 0 0) w1).mono ?_
    rintro e w2 ⟨rfl, hb2⟩
    exact ⟨⟨[], .slice none 0 0, 0, .slice none 0 0, [], 0, 0⟩, 0, false, [], ⟨_, _, _, rfl⟩, nil_fo _ _, by simp [fsum], nil_fo _ _, rfl, Keeps.below hb2, hb2.size, rfl, rfl, Bl.tr hb1 hb2⟩
  · rintro e w' (⟨ha, -⟩ | ⟨-, w1, w2, q, id, fd, lf, hb1, hk, ⟨rfl, rfl, hbw⟩, hb, rfl⟩)
    · rw [show (wakeQ).m = [71, 69, 84] from rfl, wake_alone] at ha
      cases ha
    · exact ⟨by rw [show (wakeQ).m = [71, 69, 84] from rfl, wake_lost], hbw.trans (hb.below (fun k hk => hk.1) hbw.size)⟩
/-- Of a shelf with the one entry. -/
theorem wake_found {fb rb : Nat} {w : World} {s R m : Nat} {most last : Int} {n : Nd} (h : Sh fb rb w s R m most last [n]) (hfb : fb ≤ w.heap.size) (hx : n.x = ⟨1, keyR wakeQ, [], 200, wakeF, [104, 105], 5, 6⟩) :
    Calls Tryz.prog 12 #[Ptr s, wakeQ.val, .int .i64 7] w fun e w' => (∃ a1 c1 a2 c2, e = .returned (dealV 1 1 (keyR wakeQ) (.slice a1 0 c1) 200 (.slice a2 1 c2) [104, 105] 5 6)) ∧ Keeps21 w w' ∧ Below fb w w' := by
  refine (Decide_by 0 (fun w2 q id fd lf => (∃ a1 c1 a2 c2, q = ⟨keyR wakeQ, .slice a1 0 c1, 200, .slice a2 1 c2, [104, 105], 5, 6⟩) ∧ id = 1 ∧ fd = true ∧ lf = wakeF ∧ Below fb w w2) (some ⟨s, 0, none⟩) wakeQ [] 7 w (Nat.zero_le _) (nil_fo _ _) (by simp [fsum]) (by decide) ?_).mono ?_
  · intro w1 hb1
    have h1 := h.below hb1
    refine (Find_any fb rb s R m most last [n] (keyR wakeQ) (.slice none 0 0) [] w1 h1 (Rd.nil _ _ _) (by simp [fsum])).mono ?_
    rintro e w2 (⟨hno, -, -⟩ | ⟨a, n', b, v, hl, -, rfl, hret, hs2, hb2⟩)
    · exfalso
      revert hno
      simp [bestOf, better, takes, hx, matchP]
    · have hn : n' = n := by
        have : n' ∈ [n] := by rw [hl]; simp
        simpa using this
      subst hn
      rw [hx] at hret ⊢
      obtain ⟨vp, vf, rfl, o1, o2⟩ := hret
      obtain ⟨ap, kp, rfl, -⟩ := (Fs.own o1).form
      obtain ⟨af, kf, rfl, -⟩ := (Fs.own o2).form
      exact ⟨⟨keyR wakeQ, .slice ap 0 kp, 200, .slice af 1 kf, [104, 105], 5, 6⟩, 1, true, wakeF, ⟨_, _, _, rfl⟩, .inr (own_base o2 (Nat.zero_le _)), by decide, nil_fo _ _, rfl, Keeps.but_s h1 hb2, hb2.size, ⟨_, _, _, _, rfl⟩, rfl, rfl, rfl, (hb1.mono hfb).trans (hb2.below h1.base (Nat.le_trans hfb hb1.size))⟩
  · rintro e w' (⟨ha, -⟩ | ⟨-, w1, w2, q, id, fd, lf, hb1, hk, ⟨⟨a1, c1, a2, c2, rfl⟩, rfl, rfl, rfl, hbw⟩, hb, rfl⟩)
    · rw [show (wakeQ).m = [71, 69, 84] from rfl, wake_alone] at ha
      cases ha
    · refine ⟨⟨a1, c1, a2, c2, ?_⟩, Decided.keeps (P := fun _ _ _ _ _ => True) hb1 hk hb, hbw.trans (hb.below (fun k hk => Nat.le_trans hfb hk.1) (Nat.le_trans hfb hbw.size))⟩
      unfold dealOf
      rw [if_pos (by rw [wake_good21]; rfl)]
end Go.Proofs.YtahapblgmehngaaGreatDoor

