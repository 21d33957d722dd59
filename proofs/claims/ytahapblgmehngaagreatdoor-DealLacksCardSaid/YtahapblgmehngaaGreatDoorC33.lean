/- Parts of the proof of DealLacks_holds: the texts Shq8. -/
import Derived.Deep.RegionWith
import Derived.Test.YtahapblgmehngaaGreatDoorC29
import Derived.Test.YtahapblgmehngaaGreatDoorC31
import Derived.Test.YtahapblgmehngaaGreatDoorC32
set_option linter.unusedSimpArgs false
set_option linter.unusedVariables false
set_option linter.unnecessarySimpa false
namespace Go.Proofs.YtahapblgmehngaaGreatDoor
open Go.RowKit Go.Dr
/-- The one that is found: the last of those that came latest. -/
def takes (key : Bytes) (list : List F) (b : Option Nd) (n : Nd) : Bool := n.x.key == key && (match b with | none => true | some m => decide (m.x.came ≤ n.x.came)) && matchP n.x.lp list
def better (key : Bytes) (list : List F) (b : Option Nd) (n : Nd) : Option Nd := if takes key list b n = true then some n else b
def bestOf (key : Bytes) (list : List F) (l : List Nd) : Option Nd := l.foldl (better key list) none
theorem bestOf_snoc (key : Bytes) (list : List F) (l : List Nd) (n : Nd) : bestOf key list (l ++ [n]) = better key list (bestOf key list l) n := by simp [bestOf]
theorem better_mem {key : Bytes} {list : List F} {b : Option Nd} {n x : Nd} (h : better key list b n = some x) : x = n ∨ b = some x := by
  unfold better at h
  split at h
  · exact .inl (Option.some.inj h).symm
  · exact .inr h
theorem bestOf_from {key : Bytes} {list : List F} (l : List Nd) : ∀ {b : Option Nd} {x : Nd}, l.foldl (better key list) b = some x → x ∈ l ∨ b = some x := by
  induction l with
  | nil => exact fun h => .inr h
  | cons n l ih =>
    intro b x h
    rcases ih h with h | h
    · exact .inl (List.mem_cons_of_mem _ h)
    · rcases better_mem h with e | e
      · exact .inl (by rw [e]; simp)
      · exact .inr e
theorem bestOf_mem {key : Bytes} {list : List F} {l : List Nd} {x : Nd} (h : bestOf key list l = some x) : x ∈ l := by
  rcases bestOf_from l h with h | h
  · exact h
  · cases h
def bestV (b : Option Nd) : Value := match b with | none => .pointer none | some n => Ptr n.b

theorem put7_but {S : Nat → Prop} {a w : World} (h : But S a w) {g : Nat} (hg : a.heap.size ≤ g) (b0 b1 b2 b3 b4 b5 b6 : Value) : But S a (put7 w g b0 b1 b2 b3 b4 b5 b6) :=
  ((((((h.setCell (p := ⟨g, 0, none⟩) (.inr hg) b0).setCell (p := ⟨g, 1, none⟩) (.inr hg) b1).setCell (p := ⟨g, 2, none⟩) (.inr hg) b2).setCell (p := ⟨g, 3, none⟩) (.inr hg) b3).setCell (p := ⟨g, 4, none⟩) (.inr hg) b4).setCell (p := ⟨g, 5, none⟩) (.inr hg) b5).setCell (p := ⟨g, 6, none⟩) (.inr hg) b6
theorem Sh.put7 {fb rb : Nat} {w : World} {s R m : Nat} {most last : Int} {l : List Nd} (h : Sh fb rb w s R m most last l) {g : Nat} {zs : Array Value} (hZ : Blk w g 36 zs) (b0 b1 b2 b3 b4 b5 b6 : Value) : Sh fb rb (put7 w g b0 b1 b2 b3 b4 b5 b6) s R m most last l := by
  have hZo := h.off hZ (by decide) (by decide)
  refine h.keep (fun k hk => heap_put7 _ _ _ _ _ _ _ _ _ k fun e => hZo (e ▸ hk)) fun n hn => (h.rows n hn).block fun g' cur hg _ => heap_put7 _ _ _ _ _ _ _ _ _ g' fun e => ?_
  subst e
  unfold Blk at hZ
  rw [hZ] at hg
  simp at hg

theorem ret_find {W : World} {tmps : Array Value} {b : Nat} {v0 v1 v2 v3 v4 v5 v6 : Value} {i : Int} {c : Bool} {R : Ending → World → Prop} (hs : tmps[6]? = some (.pointer (some ⟨b, 0, none⟩))) (hi : tmps[7]? = some (.int .i64 i)) (hc : tmps[8]? = some (.bool c)) (h : Blk W b 36 #[v0, v1, v2, v3, v4, v5, v6]) (hR : R (.returned (.tuple #[.agg #[v0, v1, v2, v3, v4, v5, v6], .int .i64 i, .bool c])) W) :
    bodyPost Tryz.prog Tryz.f33 R .ret { tmps := tmps, defers := [] } W := by
  (have g0 : W.cell? ⟨b, 0, none⟩ = some (v0) := h.cell 0; have g1 : W.cell? ⟨b, 1, none⟩ = some (v1) := h.cell 1; have g2 : W.cell? ⟨b, 2, none⟩ = some (v2) := h.cell 2; have g3 : W.cell? ⟨b, 3, none⟩ = some (v3) := h.cell 3; have g4 : W.cell? ⟨b, 4, none⟩ = some (v4) := h.cell 4; have g5 : W.cell? ⟨b, 5, none⟩ = some (v5) := h.cell 5; have g6 : W.cell? ⟨b, 6, none⟩ = some (v6) := h.cell 6)
  exact bodyPost_ret (v := .tuple #[.agg #[v0, v1, v2, v3, v4, v5, v6], .int .i64 i, .bool c]) (by simp [results, Tryz.results33, go_sem, hs, hi, hc, g0, g1, g2, g3, g4, g5, g6]) rfl hR

set_option maxRecDepth 100000 in
set_option maxHeartbeats 4000000 in
theorem Find_any (fb rb s R m : Nat) (most last : Int) (l : List Nd) (key : Bytes) (vl : Value) (list : List F) (w : World) (h : Sh fb rb w s R m most last l) (hl : Fs w.heap.size w vl list) (hll : fsum list ≤ 1099511627776) :
    Calls Tryz.prog 33 #[Ptr s, S key, vl] w fun e w' =>
      (bestOf key list l = none ∧ e = .returned (.tuple #[entZ, .int .i64 0, .bool false]) ∧ Below w.heap.size w w') ∨
      (∃ a n b v, l = a ++ n :: b ∧ bestOf key list l = some n ∧ e = .returned (.tuple #[v, .int .i64 n.x.id, .bool true]) ∧ RetE n.x w.heap.size v w' ∧ Sh fb rb w' s R m most last (a ++ b ++ [n]) ∧ But (Foot s R m l) w w') := by
  obtain ⟨w0, ew⟩ : ∃ w0 : World, w0 = w.alloc (.cells Ez 36) := ⟨_, rfl⟩
  have hb0 : Below w.heap.size w w0 := by rw [ew]; exact (Below.refl _ _).alloc (Nat.le_refl _) _
  have hZ : Blk w0 w.heap.size 36 Ez := by rw [ew]; exact Blk.new _ _ _
  have hs0 := h.below hb0
  have hl0 := (hl.below hb0).mono hb0.size
  have y3 : w0.cell? ⟨s, 3, none⟩ = some (Ptr R) := hs0.blk.cell 3
  obtain ⟨q0, eq0⟩ : ∃ q0, q0 = headOr (l.map Nd.n) R := ⟨_, rfl⟩
  have y10 : w0.cell? ⟨R, 10, none⟩ = some (Ptr q0) := by rw [eq0]; exact hs0.ring.root.cell 10
  have HQ := Lib.hid eq0
  clear eq0
  have hnd := hs0.ring.nodup
  rw [nd_blocks] at hnd
  go_enter Tryz.func33, Tryz.ntmps33
  go_upto_region 4 with fail
  rw [← ew]
  clear ew
  go_wp2
  go_loopw [9, 10] (fun bv q wr => ∃ dn rs, l = dn ++ rs ∧ bv = bestV (bestOf key list dn) ∧ q = Ptr (headOr (rs.map Nd.n) R) ∧ Below w0.heap.size w0 wr) (fun _ q _ => l.length - (l.map Nd.b).idxOf (blkOf q))
  case atStart => exact ⟨[], l, rfl, rfl, by rw [HQ.out], Below.refl _ _⟩
  case round =>
    obtain ⟨dn, rs, hdl, rfl, rfl, hbr⟩ := hrel
    have hsr := hs0.below hbr
    have x3 : wr.cell? ⟨s, 3, none⟩ = some (Ptr R) := hsr.blk.cell 3
    cases rs with
    | nil =>
      rw [List.append_nil] at hdl
      subst hdl
      have e0 : headOr (List.map Nd.n []) R = R := rfl
      have hq := neq_link hsr.ring.root hsr.ring.root false (by simp)
      rw [e0]
      have hZo : ¬ Foot s R m l w.heap.size := hs0.off hZ (by decide) (by decide)
      have hZr := hZ.on hbr
      have hwr := Bl.tr hb0 hbr
      have hww := hb0.size
      have hzl := hZ.lt
      cases hbst : bestOf key list l with
      | none =>
        have e9 : bestV none = .pointer none := rfl
        rw [e9]
        (have z0 : wr.cell? ⟨w.heap.size, 0, none⟩ = some (S []) := hZr.cell 0; have z1 : wr.cell? ⟨w.heap.size, 1, none⟩ = some (.slice none 0 0) := hZr.cell 1; have z2 : wr.cell? ⟨w.heap.size, 2, none⟩ = some (.int .i64 0) := hZr.cell 2; have z3 : wr.cell? ⟨w.heap.size, 3, none⟩ = some (.slice none 0 0) := hZr.cell 3; have z4 : wr.cell? ⟨w.heap.size, 4, none⟩ = some (S []) := hZr.cell 4; have z5 : wr.cell? ⟨w.heap.size, 5, none⟩ = some (.int .i64 0) := hZr.cell 5; have z6 : wr.cell? ⟨w.heap.size, 6, none⟩ = some (.int .i64 0) := hZr.cell 6)
        have f0 := hZr.free 0
        have f1 := hZr.free 1
        have f2 := hZr.free 2
        have f3 := hZr.free 3
        have f4 := hZr.free 4
        have f5 := hZr.free 5
        have f6 := hZr.free 6
        clear h hs0
        go_wp2
        have hB5 := hZr.put7 (S []) (.slice none 0 0) (.int .i64 0) (.slice none 0 0) (S []) (.int .i64 0) (.int .i64 0)
        refine ret_find (b := w.heap.size) (i := 0) (c := false) ?_ ?_ ?_ hB5 ?_
        · rfl
        · rfl
        · rfl
        · exact .inl ⟨hbst, rfl, put7_below hwr (Nat.le_refl _) _ _ _ _ _ _ _⟩
      | some n =>
        have e9 : bestV (some n) = Ptr n.b := rfl
        rw [e9]
        obtain ⟨a, b, hab⟩ := List.append_of_mem (bestOf_mem hbst)
        have hsr2 : Sh fb rb wr s R m most last (a ++ n :: b) := hab ▸ hsr
        obtain ⟨w1, w2, HO, HU, hs2, hb2⟩ := touch_any fb rb s R m most last a b n wr hsr2
        rw [← hab] at hb2
        have hat : ∃ p q, Blk w2 n.b 97 (n.k.cells p q) := hs2.nd (by simp)
        obtain ⟨p, q, hat⟩ := hat
        have hZ2 := (hZr.but hb2 hZo).drew
        have hC := copied_nd n w2.drew (hs2.drew.rows n (by simp)) (hs2.cost_le (by simp))
        have z0 : w2.cell? ⟨n.b, 0, none⟩ = some (.int .i64 n.x.id) := hat.cell 0
        have z2 : w2.cell? ⟨n.b, 2, none⟩ = some (S n.x.key) := hat.cell 2
        have z3 : w2.cell? ⟨n.b, 3, none⟩ = some n.vp := hat.cell 3
        have z4 : w2.cell? ⟨n.b, 4, none⟩ = some (.int .i64 n.x.st) := hat.cell 4
        have z5 : w2.cell? ⟨n.b, 5, none⟩ = some n.vf := hat.cell 5
        have z6 : w2.cell? ⟨n.b, 6, none⟩ = some (S n.x.body) := hat.cell 6
        have z7 : w2.cell? ⟨n.b, 7, none⟩ = some (.int .i64 n.x.asked) := hat.cell 7
        have z8 : w2.cell? ⟨n.b, 8, none⟩ = some (.int .i64 n.x.came) := hat.cell 8
        have HAB := Lib.hid hab
        have HBS := Lib.hid hbst
        have hbw : But (Foot s R m l) w w2 := (But.of_below hwr).trans hb2
        have hzz : w.heap.size < w2.heap.size := Nat.lt_of_lt_of_le hzl (Nat.le_trans hbr.size hb2.size)
        clear hab hbst h hs0 hsr hsr2 hnd y3 y10
        go_wp2_with fail
        refine HO.mono ?_
        rintro e _ ⟨rfl, rfl⟩
        go_wp2_with fail
        refine HU.mono ?_
        rintro e _ ⟨rfl, rfl⟩
        go_wp2_with fail
        have hnz : ¬ n.b = w.heap.size := fun e => hZo (e ▸ .inr (.inr (.inr (List.mem_map_of_mem (bestOf_mem HBS.out)))))
        have hnz2 : ¬ w.heap.size = n.b := fun e => hnz e.symm
        go_region_held3 (fun wx => wx.cell? ⟨n.b, 0, none⟩ = some (.int .i64 n.x.id) ∧ wx.cell? ⟨n.b, 2, none⟩ = some (S n.x.key) ∧ wx.cell? ⟨n.b, 3, none⟩ = some (n.vp) ∧ wx.cell? ⟨n.b, 4, none⟩ = some (.int .i64 n.x.st) ∧ wx.cell? ⟨n.b, 5, none⟩ = some (n.vf) ∧ wx.cell? ⟨n.b, 6, none⟩ = some (S n.x.body) ∧ wx.cell? ⟨n.b, 7, none⟩ = some (.int .i64 n.x.asked) ∧ wx.cell? ⟨n.b, 8, none⟩ = some (.int .i64 n.x.came))
          (first | go_keep)
          ((go_at_call 66; refine hC.mono ?_; rintro e w3 ⟨vp, vf, rfl, o1, o2, hb3⟩; obtain ⟨ap, kp, rfl, -⟩ := (Fs.own o1).form; obtain ⟨af, kf, rfl, -⟩ := (Fs.own o2).form; have hZ3 := hZ2.on hb3; have hat3 := (hat.drew).on hb3; have t0 : w3.cell? ⟨n.b, 0, none⟩ = some (.int .i64 n.x.id) := hat3.cell 0; have t2 : w3.cell? ⟨n.b, 2, none⟩ = some (S n.x.key) := hat3.cell 2; have t3 : w3.cell? ⟨n.b, 3, none⟩ = some (n.vp) := hat3.cell 3; have t4 : w3.cell? ⟨n.b, 4, none⟩ = some (.int .i64 n.x.st) := hat3.cell 4; have t5 : w3.cell? ⟨n.b, 5, none⟩ = some (n.vf) := hat3.cell 5; have t6 : w3.cell? ⟨n.b, 6, none⟩ = some (S n.x.body) := hat3.cell 6; have t7 : w3.cell? ⟨n.b, 7, none⟩ = some (.int .i64 n.x.asked) := hat3.cell 7; have t8 : w3.cell? ⟨n.b, 8, none⟩ = some (.int .i64 n.x.came) := hat3.cell 8; (have y0 : w3.cell? ⟨w.heap.size, 0, none⟩ = some (S []) := hZ3.cell 0; have y1 : w3.cell? ⟨w.heap.size, 1, none⟩ = some (.slice none 0 0) := hZ3.cell 1; have y2 : w3.cell? ⟨w.heap.size, 2, none⟩ = some (.int .i64 0) := hZ3.cell 2; have y3 : w3.cell? ⟨w.heap.size, 3, none⟩ = some (.slice none 0 0) := hZ3.cell 3; have y4 : w3.cell? ⟨w.heap.size, 4, none⟩ = some (S []) := hZ3.cell 4; have y5 : w3.cell? ⟨w.heap.size, 5, none⟩ = some (.int .i64 0) := hZ3.cell 5; have y6 : w3.cell? ⟨w.heap.size, 6, none⟩ = some (.int .i64 0) := hZ3.cell 6); have f0 := hZ3.free 0; have f1 := hZ3.free 1; have f2 := hZ3.free 2; have f3 := hZ3.free 3; have f4 := hZ3.free 4; have f5 := hZ3.free 5; have f6 := hZ3.free 6))
        all_goals
          go_wp2
          have hs3 := hs2.drew.below hb3
          have hB5 := hZ3.put7 (S n.x.key) (.slice ap n.x.lp.length kp) (.int .i64 n.x.st) (.slice af n.x.lf.length kf) (S n.x.body) (.int .i64 n.x.asked) (.int .i64 n.x.came)
          have hbf := put7_but (g := w.heap.size) (hbw.drew.trans (But.of_below hb3)) (Nat.le_refl _) (S n.x.key) (.slice ap n.x.lp.length kp) (.int .i64 n.x.st) (.slice af n.x.lf.length kf) (S n.x.body) (.int .i64 n.x.asked) (.int .i64 n.x.came)
          have hsf := hs3.put7 hZ3 (S n.x.key) (.slice ap n.x.lp.length kp) (.int .i64 n.x.st) (.slice af n.x.lf.length kf) (S n.x.body) (.int .i64 n.x.asked) (.int .i64 n.x.came)
          refine ret_find (b := w.heap.size) (i := n.x.id) (c := true) ?_ ?_ ?_ hB5 ?_
          · rfl
          · rfl
          · rfl
          · exact .inr ⟨a, n, b, _, HAB.out, HBS.out, rfl, RetE.low (RetE.put7 ⟨_, _, rfl, o1, o2⟩ hzz _ _ _ _ _ _ _) (Nat.le_of_lt hzz), hsf, hbf⟩
    | cons n rs =>
      have e0 : headOr (List.map Nd.n (n :: rs)) R = n.b := rfl
      have hs2 : Sh fb rb wr s R m most last (dn ++ n :: rs) := hdl ▸ hsr
      have hat := hs2.at
      have hnR : ¬ n.b = R := (hs2.ne_s.2.2.2 n (by simp)).2.2
      have hc2 : dn.length + rs.length + 1 = l.length := by rw [hdl]; simp; omega
      have HM1 := Lib.hid (idx_head dn (n :: rs) R (hdl ▸ hnd))
      have HM2 := Lib.hid (idx_head (dn ++ [n]) rs R (by rw [List.append_assoc]; exact hdl ▸ hnd))
      have hq := neq_link hat hsr.ring.root true (by simp [hnR])
      have hrow := Fs.own (hs2.rows n (by simp)).1
      have hcn := hs2.cost_le (n := n) (by simp)
      rw [e0]
      obtain ⟨nx, enx⟩ : ∃ nx, nx = headOr (rs.map Nd.n) R := ⟨_, rfl⟩
      rw [← enx] at hat
      have HNX := Lib.hid enx
      clear enx
      have z2 : wr.cell? ⟨n.b, 2, none⟩ = some (S n.x.key) := hat.cell 2
      have z3 : wr.cell? ⟨n.b, 3, none⟩ = some n.vp := hat.cell 3
      have z8 : wr.cell? ⟨n.b, 8, none⟩ = some (.int .i64 n.x.came) := hat.cell 8
      have z10 : wr.cell? ⟨n.b, 10, none⟩ = some (Ptr nx) := hat.cell 10
      have hlr := (hl0.below hbr).mono hbr.size
      have HB := Lib.hid (bestOf_snoc key list dn n)
      have hmeas : l.length - (l.map Nd.b).idxOf (blkOf (Ptr nx)) < l.length - (l.map Nd.b).idxOf (blkOf (Ptr n.b)) := by
        have m1 : (l.map Nd.b).idxOf (blkOf (Ptr n.b)) = dn.length := by rw [hdl]; exact HM1.out
        have m2 : (l.map Nd.b).idxOf (blkOf (Ptr nx)) = dn.length + 1 := by
          have := HM2.out
          rw [List.append_assoc] at this
          rw [hdl, HNX.out]
          simpa using this
        rw [m1, m2]
        omega
      have HME := Lib.hid hmeas
      have HL := Lib.hid hdl
      clear hmeas hdl
      by_cases hk : n.x.key = key
      ·
        have hr : (n.x.key == key) = true := by simp [hk]
        obtain ⟨c, ec⟩ : ∃ c, c = matchP n.x.lp list := ⟨_, rfl⟩
        have HMt : Hid (∀ w1, Fs w1.heap.size w1 n.vp n.x.lp → Fs w1.heap.size w1 vl list → Calls Tryz.prog 63 #[n.vp, vl] w1 fun e w' => e = .returned (.bool c) ∧ Below w1.heap.size w1 w') := by
          rw [ec]
          exact fun w1 h1 h2 => Match_any n.x.lp list n.vp vl w1 h1 h2 hll fun p hp => by
            have := fsum_mem hp
            unfold It.cost at hcn
            omega
        have HCM := Lib.hid ec
        clear ec
        cases hbst : bestOf key list dn with
        | none =>
          have e9 : bestV none = .pointer none := rfl
          rw [e9]
          cases c with
          | true =>
            have HB2 : Hid (bestOf key list (dn ++ [n]) = some n) := by
              show _ = _
              rw [HB.out, hbst]
              unfold better takes
              rw [hr, ← HCM.out]
              rfl
            clear hbst hk
            go_wp2_with fail
            refine wp_region_held_drew (S := (fun wx => wx.cell? ⟨n.b, 2, none⟩ = some (S n.x.key) ∧ wx.cell? ⟨n.b, 3, none⟩ = some n.vp)) (by kernel_rfl) ⟨z2, z3⟩ (fun hHeld => ?_)
            (refine tkA 0 ?_ ?_ hHeld ?_; rotate_left; (intro w hSw; (try dsimp only at hSw); go_simp; try with_reducible rfl); simp only [Act.put, PT])
            (refine tkA 1 ?_ ?_ hHeld ?_; rotate_left; (intro w hSw; (try dsimp only at hSw); go_simp; try with_reducible rfl); simp only [Act.put, PT])
            (refine tkA 2 ?_ ?_ hHeld ?_; rotate_left; (intro w hSw; (try dsimp only at hSw); go_simp; try with_reducible rfl); simp only [Act.put, PT])
            (refine tkA 3 ?_ ?_ hHeld ?_; rotate_left; (intro w hSw; (try dsimp only at hSw); go_simp; try with_reducible rfl); simp only [Act.put, PT])
            (refine tkA 4 ?_ ?_ hHeld ?_; rotate_left; (intro w hSw; (try dsimp only at hSw); go_simp; try with_reducible rfl); simp only [Act.put, PT])
            (refine tkA 5 ?_ ?_ hHeld ?_; rotate_left; (intro w hSw; (try dsimp only at hSw); go_simp; try with_reducible rfl); simp only [Act.put, PT])
            (refine tkA 6 ?_ ?_ hHeld ?_; rotate_left; (intro w hSw; (try dsimp only at hSw); go_simp; try with_reducible rfl); simp only [Act.put, PT])
            (refine tkA 7 ?_ ?_ hHeld ?_; rotate_left; (intro w hSw; (try dsimp only at hSw); go_simp; try with_reducible rfl); simp only [Act.put, PT])
            (refine tkA 8 ?_ ?_ hHeld ?_; rotate_left; (intro w hSw; (try dsimp only at hSw); go_simp; try with_reducible rfl); simp only [Act.put, PT])
            (refine tkA 9 ?_ ?_ hHeld ?_; rotate_left; (intro w hSw; (try dsimp only at hSw); go_simp; try with_reducible rfl); simp only [Act.put, PT])
            (refine tkA 10 ?_ ?_ hHeld ?_; rotate_left; (intro w hSw; (try dsimp only at hSw); go_simp; try with_reducible rfl); simp only [Act.put, PT])
            (refine tkB 11 hHeld ?_; simp only [Act.put, PT])
            (refine tkB 12 hHeld ?_; simp only [Act.put, PT])
            (refine tkB 13 hHeld ?_; simp only [Act.put, PT])
            (refine tkB 14 hHeld ?_; simp only [Act.put, PT])
            (refine tkB 15 hHeld ?_; simp only [Act.put, PT])
            (refine tkB 16 hHeld ?_; simp only [Act.put, PT])
            (refine tkB 17 hHeld ?_; simp only [Act.put, PT])
            (refine tkB 18 hHeld ?_; simp only [Act.put, PT])
            (refine tkB 19 hHeld ?_; simp only [Act.put, PT])
            (refine tkB 20 hHeld ?_; simp only [Act.put, PT])
            (refine tkB 21 hHeld ?_; simp only [Act.put, PT])
            (refine tkA 22 ?_ ?_ hHeld ?_; rotate_left; (intro w hSw; (try dsimp only at hSw); go_simp; try with_reducible rfl); simp only [Act.put, PT])
            (refine tkA 23 ?_ ?_ hHeld ?_; rotate_left; (intro w hSw; (try dsimp only at hSw); go_simp; try with_reducible rfl); simp only [Act.put, PT])
            (refine tkA 24 ?_ ?_ hHeld ?_; rotate_left; (intro w hSw; (try dsimp only at hSw); go_simp; try with_reducible rfl); simp only [Act.put, PT])
            (refine tkA 25 ?_ ?_ hHeld ?_; rotate_left; (intro w hSw; (try dsimp only at hSw); go_simp; try with_reducible rfl); simp only [Act.put, PT])
            (refine tkA 26 ?_ ?_ hHeld ?_; rotate_left; (intro w hSw; (try dsimp only at hSw); go_simp; try with_reducible rfl); simp only [Act.put, PT])
            (refine tkA 27 ?_ ?_ hHeld ?_; rotate_left; (intro w hSw; (try dsimp only at hSw); go_simp; try with_reducible rfl); simp only [Act.put, PT])
            (refine tkA 28 ?_ ?_ hHeld ?_; rotate_left; (intro w hSw; (try dsimp only at hSw); go_simp; try with_reducible rfl); simp only [Act.put, PT])
            (refine tkA 29 ?_ ?_ hHeld ?_; rotate_left; (intro w hSw; (try dsimp only at hSw); go_simp; try with_reducible rfl); simp only [Act.put, PT])
            (refine tkA 30 ?_ ?_ hHeld ?_; rotate_left; (intro w hSw; (try dsimp only at hSw); go_simp; try with_reducible rfl); simp only [Act.put, PT])
            refine wpAnyH_ready (rs := [31]) (by kernel_rfl) (by simp) ?_
            refine AllReadyH.cons (by rfl) (fun K hK => ?_) AllReadyH.nil
            go_simp
            (with_reducible refine (HMt.out wr.drew hrow.drew hlr.drew).mono ?_); rintro e w2 ⟨rfl, hb2⟩; replace hb2 := Bl.undrew hb2; have hat2 := hat.on hb2; have z2 : w2.cell? ⟨n.b, 2, none⟩ = some (S n.x.key) := hat2.cell 2; have z3 : w2.cell? ⟨n.b, 3, none⟩ = some n.vp := hat2.cell 3; have z8 : w2.cell? ⟨n.b, 8, none⟩ = some (.int .i64 n.x.came) := hat2.cell 8; have z10 : w2.cell? ⟨n.b, 10, none⟩ = some (Ptr nx) := hat2.cell 10
            refine hK.out _ _ ⟨z2, z3⟩ (fun hHeld => ?_)
            clear hK K
            try simp only [Act.put, PT]
            (refine tkA 32 ?_ ?_ hHeld ?_; rotate_left; (intro w hSw; (try dsimp only at hSw); go_simp; try with_reducible rfl); simp only [Act.put, PT])
            try simp only [Act.put, PT]
            refine wpAnyH_done (by kernel_rfl) ?_ _
            have hbw := hbr.trans (hb2.mono hbr.size)
            go_wp2
            go_roundw
            case rel => exact ⟨dn ++ [n], rs, by rw [HL.out]; simp, by rw [HB2.out]; rfl, by rw [HNX.out], hbw⟩
            case measure => exact HME.out
          | false =>
            have HB2 : Hid (bestOf key list (dn ++ [n]) = none) := by
              show _ = _
              rw [HB.out, hbst]
              unfold better takes
              rw [hr, ← HCM.out]
              rfl
            clear hbst hk
            go_wp2_with fail
            refine wp_region_held_drew (S := (fun wx => wx.cell? ⟨n.b, 2, none⟩ = some (S n.x.key) ∧ wx.cell? ⟨n.b, 3, none⟩ = some n.vp)) (by kernel_rfl) ⟨z2, z3⟩ (fun hHeld => ?_)
            (refine tkA 0 ?_ ?_ hHeld ?_; rotate_left; (intro w hSw; (try dsimp only at hSw); go_simp; try with_reducible rfl); simp only [Act.put, PT])
            (refine tkA 1 ?_ ?_ hHeld ?_; rotate_left; (intro w hSw; (try dsimp only at hSw); go_simp; try with_reducible rfl); simp only [Act.put, PT])
            (refine tkA 2 ?_ ?_ hHeld ?_; rotate_left; (intro w hSw; (try dsimp only at hSw); go_simp; try with_reducible rfl); simp only [Act.put, PT])
            (refine tkA 3 ?_ ?_ hHeld ?_; rotate_left; (intro w hSw; (try dsimp only at hSw); go_simp; try with_reducible rfl); simp only [Act.put, PT])
            (refine tkA 4 ?_ ?_ hHeld ?_; rotate_left; (intro w hSw; (try dsimp only at hSw); go_simp; try with_reducible rfl); simp only [Act.put, PT])
            (refine tkA 5 ?_ ?_ hHeld ?_; rotate_left; (intro w hSw; (try dsimp only at hSw); go_simp; try with_reducible rfl); simp only [Act.put, PT])
            (refine tkA 6 ?_ ?_ hHeld ?_; rotate_left; (intro w hSw; (try dsimp only at hSw); go_simp; try with_reducible rfl); simp only [Act.put, PT])
            (refine tkA 7 ?_ ?_ hHeld ?_; rotate_left; (intro w hSw; (try dsimp only at hSw); go_simp; try with_reducible rfl); simp only [Act.put, PT])
            (refine tkA 8 ?_ ?_ hHeld ?_; rotate_left; (intro w hSw; (try dsimp only at hSw); go_simp; try with_reducible rfl); simp only [Act.put, PT])
            (refine tkA 9 ?_ ?_ hHeld ?_; rotate_left; (intro w hSw; (try dsimp only at hSw); go_simp; try with_reducible rfl); simp only [Act.put, PT])
            (refine tkA 10 ?_ ?_ hHeld ?_; rotate_left; (intro w hSw; (try dsimp only at hSw); go_simp; try with_reducible rfl); simp only [Act.put, PT])
            (refine tkB 11 hHeld ?_; simp only [Act.put, PT])
            (refine tkB 12 hHeld ?_; simp only [Act.put, PT])
            (refine tkB 13 hHeld ?_; simp only [Act.put, PT])
            (refine tkB 14 hHeld ?_; simp only [Act.put, PT])
            (refine tkB 15 hHeld ?_; simp only [Act.put, PT])
            (refine tkB 16 hHeld ?_; simp only [Act.put, PT])
            (refine tkB 17 hHeld ?_; simp only [Act.put, PT])
            (refine tkB 18 hHeld ?_; simp only [Act.put, PT])
            (refine tkB 19 hHeld ?_; simp only [Act.put, PT])
            (refine tkB 20 hHeld ?_; simp only [Act.put, PT])
            (refine tkB 21 hHeld ?_; simp only [Act.put, PT])
            (refine tkA 22 ?_ ?_ hHeld ?_; rotate_left; (intro w hSw; (try dsimp only at hSw); go_simp; try with_reducible rfl); simp only [Act.put, PT])
            (refine tkA 23 ?_ ?_ hHeld ?_; rotate_left; (intro w hSw; (try dsimp only at hSw); go_simp; try with_reducible rfl); simp only [Act.put, PT])
            (refine tkA 24 ?_ ?_ hHeld ?_; rotate_left; (intro w hSw; (try dsimp only at hSw); go_simp; try with_reducible rfl); simp only [Act.put, PT])
            (refine tkA 25 ?_ ?_ hHeld ?_; rotate_left; (intro w hSw; (try dsimp only at hSw); go_simp; try with_reducible rfl); simp only [Act.put, PT])
            (refine tkA 26 ?_ ?_ hHeld ?_; rotate_left; (intro w hSw; (try dsimp only at hSw); go_simp; try with_reducible rfl); simp only [Act.put, PT])
            (refine tkA 27 ?_ ?_ hHeld ?_; rotate_left; (intro w hSw; (try dsimp only at hSw); go_simp; try with_reducible rfl); simp only [Act.put, PT])
            (refine tkA 28 ?_ ?_ hHeld ?_; rotate_left; (intro w hSw; (try dsimp only at hSw); go_simp; try with_reducible rfl); simp only [Act.put, PT])
            (refine tkA 29 ?_ ?_ hHeld ?_; rotate_left; (intro w hSw; (try dsimp only at hSw); go_simp; try with_reducible rfl); simp only [Act.put, PT])
            (refine tkA 30 ?_ ?_ hHeld ?_; rotate_left; (intro w hSw; (try dsimp only at hSw); go_simp; try with_reducible rfl); simp only [Act.put, PT])
            refine wpAnyH_ready (rs := [31]) (by kernel_rfl) (by simp) ?_
            refine AllReadyH.cons (by rfl) (fun K hK => ?_) AllReadyH.nil
            go_simp
            (with_reducible refine (HMt.out wr.drew hrow.drew hlr.drew).mono ?_); rintro e w2 ⟨rfl, hb2⟩; replace hb2 := Bl.undrew hb2; have hat2 := hat.on hb2; have z2 : w2.cell? ⟨n.b, 2, none⟩ = some (S n.x.key) := hat2.cell 2; have z3 : w2.cell? ⟨n.b, 3, none⟩ = some n.vp := hat2.cell 3; have z8 : w2.cell? ⟨n.b, 8, none⟩ = some (.int .i64 n.x.came) := hat2.cell 8; have z10 : w2.cell? ⟨n.b, 10, none⟩ = some (Ptr nx) := hat2.cell 10
            refine hK.out _ _ ⟨z2, z3⟩ (fun hHeld => ?_)
            clear hK K
            try simp only [Act.put, PT]
            (refine tkA 32 ?_ ?_ hHeld ?_; rotate_left; (intro w hSw; (try dsimp only at hSw); go_simp; try with_reducible rfl); simp only [Act.put, PT])
            try simp only [Act.put, PT]
            refine wpAnyH_done (by kernel_rfl) ?_ _
            have hbw := hbr.trans (hb2.mono hbr.size)
            go_wp2
            go_roundw
            case rel => exact ⟨dn ++ [n], rs, by rw [HL.out]; simp, by rw [HB2.out]; rfl, by rw [HNX.out], hbw⟩
            case measure => exact HME.out
        | some b =>
          have e9 : bestV (some b) = Ptr b.b := rfl
          rw [e9]
          have hbm : b ∈ l := by rw [HL.out]; exact List.mem_append.2 (.inl (bestOf_mem hbst))
          obtain ⟨bp, bq, hbat⟩ := hsr.nd hbm
          have b8 : wr.cell? ⟨b.b, 8, none⟩ = some (.int .i64 b.x.came) := hbat.cell 8
          by_cases hcame : b.x.came ≤ n.x.came
          · have hge : decide (b.x.came ≤ n.x.came) = true := by simpa using hcame
            cases c with
            | true =>
              have HB2 : Hid (bestOf key list (dn ++ [n]) = some n) := by
                show _ = _
                rw [HB.out, hbst]
                unfold better takes
                simp only [hr, hge, ← HCM.out]
                rfl
              clear hbst hk hcame
              go_wp2_with fail
              refine wp_region_held_drew (S := (fun wx => wx.cell? ⟨n.b, 2, none⟩ = some (S n.x.key) ∧ wx.cell? ⟨n.b, 3, none⟩ = some n.vp ∧ wx.cell? ⟨n.b, 8, none⟩ = some (.int .i64 n.x.came) ∧ wx.cell? ⟨b.b, 8, none⟩ = some (.int .i64 b.x.came))) (by kernel_rfl) ⟨z2, z3, z8, b8⟩ (fun hHeld => ?_)
              (refine tkA 0 ?_ ?_ hHeld ?_; rotate_left; (intro w hSw; (try dsimp only at hSw); go_simp; try with_reducible rfl); simp only [Act.put, PT])
              (refine tkA 1 ?_ ?_ hHeld ?_; rotate_left; (intro w hSw; (try dsimp only at hSw); go_simp; try with_reducible rfl); simp only [Act.put, PT])
              (refine tkA 2 ?_ ?_ hHeld ?_; rotate_left; (intro w hSw; (try dsimp only at hSw); go_simp; try with_reducible rfl); simp only [Act.put, PT])
              (refine tkA 3 ?_ ?_ hHeld ?_; rotate_left; (intro w hSw; (try dsimp only at hSw); go_simp; try with_reducible rfl); simp only [Act.put, PT])
              (refine tkA 4 ?_ ?_ hHeld ?_; rotate_left; (intro w hSw; (try dsimp only at hSw); go_simp; try with_reducible rfl); simp only [Act.put, PT])
              (refine tkA 5 ?_ ?_ hHeld ?_; rotate_left; (intro w hSw; (try dsimp only at hSw); go_simp; try with_reducible rfl); simp only [Act.put, PT])
              (refine tkA 6 ?_ ?_ hHeld ?_; rotate_left; (intro w hSw; (try dsimp only at hSw); go_simp; try with_reducible rfl); simp only [Act.put, PT])
              (refine tkA 7 ?_ ?_ hHeld ?_; rotate_left; (intro w hSw; (try dsimp only at hSw); go_simp; try with_reducible rfl); simp only [Act.put, PT])
              (refine tkA 8 ?_ ?_ hHeld ?_; rotate_left; (intro w hSw; (try dsimp only at hSw); go_simp; try with_reducible rfl); simp only [Act.put, PT])
              (refine tkA 9 ?_ ?_ hHeld ?_; rotate_left; (intro w hSw; (try dsimp only at hSw); go_simp; try with_reducible rfl); simp only [Act.put, PT])
              (refine tkA 10 ?_ ?_ hHeld ?_; rotate_left; (intro w hSw; (try dsimp only at hSw); go_simp; try with_reducible rfl); simp only [Act.put, PT])
              (refine tkA 11 ?_ ?_ hHeld ?_; rotate_left; (intro w hSw; (try dsimp only at hSw); go_simp; try with_reducible rfl); simp only [Act.put, PT])
              (refine tkA 12 ?_ ?_ hHeld ?_; rotate_left; (intro w hSw; (try dsimp only at hSw); go_simp; try with_reducible rfl); simp only [Act.put, PT])
              (refine tkA 13 ?_ ?_ hHeld ?_; rotate_left; (intro w hSw; (try dsimp only at hSw); go_simp; try with_reducible rfl); simp only [Act.put, PT])
              (refine tkA 14 ?_ ?_ hHeld ?_; rotate_left; (intro w hSw; (try dsimp only at hSw); go_simp; try with_reducible rfl); simp only [Act.put, PT])
              (refine tkA 15 ?_ ?_ hHeld ?_; rotate_left; (intro w hSw; (try dsimp only at hSw); go_simp; try with_reducible rfl); simp only [Act.put, PT])
              (refine tkA 16 ?_ ?_ hHeld ?_; rotate_left; (intro w hSw; (try dsimp only at hSw); go_simp; try with_reducible rfl); simp only [Act.put, PT])
              (refine tkA 17 ?_ ?_ hHeld ?_; rotate_left; (intro w hSw; (try dsimp only at hSw); go_simp; try with_reducible rfl); simp only [Act.put, PT])
              (refine tkA 18 ?_ ?_ hHeld ?_; rotate_left; (intro w hSw; (try dsimp only at hSw); go_simp; try with_reducible rfl); simp only [Act.put, PT])
              (refine tkA 19 ?_ ?_ hHeld ?_; rotate_left; (intro w hSw; (try dsimp only at hSw); go_simp; try with_reducible rfl); simp only [Act.put, PT])
              (refine tkA 20 ?_ ?_ hHeld ?_; rotate_left; (intro w hSw; (try dsimp only at hSw); go_simp; try with_reducible rfl); simp only [Act.put, PT])
              (refine tkA 21 ?_ ?_ hHeld ?_; rotate_left; (intro w hSw; (try dsimp only at hSw); go_simp; try with_reducible rfl); simp only [Act.put, PT])
              (refine tkA 22 ?_ ?_ hHeld ?_; rotate_left; (intro w hSw; (try dsimp only at hSw); go_simp; try with_reducible rfl); simp only [Act.put, PT])
              (refine tkA 23 ?_ ?_ hHeld ?_; rotate_left; (intro w hSw; (try dsimp only at hSw); go_simp; try with_reducible rfl); simp only [Act.put, PT])
              (refine tkA 24 ?_ ?_ hHeld ?_; rotate_left; (intro w hSw; (try dsimp only at hSw); go_simp; try with_reducible rfl); simp only [Act.put, PT])
              (refine tkA 25 ?_ ?_ hHeld ?_; rotate_left; (intro w hSw; (try dsimp only at hSw); go_simp; try with_reducible rfl); simp only [Act.put, PT])
              (refine tkA 26 ?_ ?_ hHeld ?_; rotate_left; (intro w hSw; (try dsimp only at hSw); go_simp; try with_reducible rfl); simp only [Act.put, PT])
              (refine tkA 27 ?_ ?_ hHeld ?_; rotate_left; (intro w hSw; (try dsimp only at hSw); go_simp; try with_reducible rfl); simp only [Act.put, PT])
              (refine tkA 28 ?_ ?_ hHeld ?_; rotate_left; (intro w hSw; (try dsimp only at hSw); go_simp; try with_reducible rfl); simp only [Act.put, PT])
              (refine tkA 29 ?_ ?_ hHeld ?_; rotate_left; (intro w hSw; (try dsimp only at hSw); go_simp; try with_reducible rfl); simp only [Act.put, PT])
              (refine tkA 30 ?_ ?_ hHeld ?_; rotate_left; (intro w hSw; (try dsimp only at hSw); go_simp; try with_reducible rfl); simp only [Act.put, PT])
              refine wpAnyH_ready (rs := [31]) (by kernel_rfl) (by simp) ?_
              refine AllReadyH.cons (by rfl) (fun K hK => ?_) AllReadyH.nil
              go_simp
              (with_reducible refine (HMt.out wr.drew hrow.drew hlr.drew).mono ?_); rintro e w2 ⟨rfl, hb2⟩; replace hb2 := Bl.undrew hb2; have hat2 := hat.on hb2; have z2 : w2.cell? ⟨n.b, 2, none⟩ = some (S n.x.key) := hat2.cell 2; have z3 : w2.cell? ⟨n.b, 3, none⟩ = some n.vp := hat2.cell 3; have z8 : w2.cell? ⟨n.b, 8, none⟩ = some (.int .i64 n.x.came) := hat2.cell 8; have z10 : w2.cell? ⟨n.b, 10, none⟩ = some (Ptr nx) := hat2.cell 10; have b8 : w2.cell? ⟨b.b, 8, none⟩ = some (.int .i64 b.x.came) := (hbat.on hb2).cell 8
              refine hK.out _ _ ⟨z2, z3, z8, b8⟩ (fun hHeld => ?_)
              clear hK K
              try simp only [Act.put, PT]
              (refine tkA 32 ?_ ?_ hHeld ?_; rotate_left; (intro w hSw; (try dsimp only at hSw); go_simp; try with_reducible rfl); simp only [Act.put, PT])
              try simp only [Act.put, PT]
              refine wpAnyH_done (by kernel_rfl) ?_ _
              have hbw := hbr.trans (hb2.mono hbr.size)
              go_wp2
              go_roundw
              case rel => exact ⟨dn ++ [n], rs, by rw [HL.out]; simp, by rw [HB2.out]; rfl, by rw [HNX.out], hbw⟩
              case measure => exact HME.out
            | false =>
              have HB2 : Hid (bestOf key list (dn ++ [n]) = some b) := by
                show _ = _
                rw [HB.out, hbst]
                unfold better takes
                simp only [hr, hge, ← HCM.out]
                rfl
              clear hbst hk hcame
              go_wp2_with fail
              refine wp_region_held_drew (S := (fun wx => wx.cell? ⟨n.b, 2, none⟩ = some (S n.x.key) ∧ wx.cell? ⟨n.b, 3, none⟩ = some n.vp ∧ wx.cell? ⟨n.b, 8, none⟩ = some (.int .i64 n.x.came) ∧ wx.cell? ⟨b.b, 8, none⟩ = some (.int .i64 b.x.came))) (by kernel_rfl) ⟨z2, z3, z8, b8⟩ (fun hHeld => ?_)
              (refine tkA 0 ?_ ?_ hHeld ?_; rotate_left; (intro w hSw; (try dsimp only at hSw); go_simp; try with_reducible rfl); simp only [Act.put, PT])
              (refine tkA 1 ?_ ?_ hHeld ?_; rotate_left; (intro w hSw; (try dsimp only at hSw); go_simp; try with_reducible rfl); simp only [Act.put, PT])
              (refine tkA 2 ?_ ?_ hHeld ?_; rotate_left; (intro w hSw; (try dsimp only at hSw); go_simp; try with_reducible rfl); simp only [Act.put, PT])
              (refine tkA 3 ?_ ?_ hHeld ?_; rotate_left; (intro w hSw; (try dsimp only at hSw); go_simp; try with_reducible rfl); simp only [Act.put, PT])
              (refine tkA 4 ?_ ?_ hHeld ?_; rotate_left; (intro w hSw; (try dsimp only at hSw); go_simp; try with_reducible rfl); simp only [Act.put, PT])
              (refine tkA 5 ?_ ?_ hHeld ?_; rotate_left; (intro w hSw; (try dsimp only at hSw); go_simp; try with_reducible rfl); simp only [Act.put, PT])
              (refine tkA 6 ?_ ?_ hHeld ?_; rotate_left; (intro w hSw; (try dsimp only at hSw); go_simp; try with_reducible rfl); simp only [Act.put, PT])
              (refine tkA 7 ?_ ?_ hHeld ?_; rotate_left; (intro w hSw; (try dsimp only at hSw); go_simp; try with_reducible rfl); simp only [Act.put, PT])
              (refine tkA 8 ?_ ?_ hHeld ?_; rotate_left; (intro w hSw; (try dsimp only at hSw); go_simp; try with_reducible rfl); simp only [Act.put, PT])
              (refine tkA 9 ?_ ?_ hHeld ?_; rotate_left; (intro w hSw; (try dsimp only at hSw); go_simp; try with_reducible rfl); simp only [Act.put, PT])
              (refine tkA 10 ?_ ?_ hHeld ?_; rotate_left; (intro w hSw; (try dsimp only at hSw); go_simp; try with_reducible rfl); simp only [Act.put, PT])
              (refine tkA 11 ?_ ?_ hHeld ?_; rotate_left; (intro w hSw; (try dsimp only at hSw); go_simp; try with_reducible rfl); simp only [Act.put, PT])
              (refine tkA 12 ?_ ?_ hHeld ?_; rotate_left; (intro w hSw; (try dsimp only at hSw); go_simp; try with_reducible rfl); simp only [Act.put, PT])
              (refine tkA 13 ?_ ?_ hHeld ?_; rotate_left; (intro w hSw; (try dsimp only at hSw); go_simp; try with_reducible rfl); simp only [Act.put, PT])
              (refine tkA 14 ?_ ?_ hHeld ?_; rotate_left; (intro w hSw; (try dsimp only at hSw); go_simp; try with_reducible rfl); simp only [Act.put, PT])
              (refine tkA 15 ?_ ?_ hHeld ?_; rotate_left; (intro w hSw; (try dsimp only at hSw); go_simp; try with_reducible rfl); simp only [Act.put, PT])
              (refine tkA 16 ?_ ?_ hHeld ?_; rotate_left; (intro w hSw; (try dsimp only at hSw); go_simp; try with_reducible rfl); simp only [Act.put, PT])
              (refine tkA 17 ?_ ?_ hHeld ?_; rotate_left; (intro w hSw; (try dsimp only at hSw); go_simp; try with_reducible rfl); simp only [Act.put, PT])
              (refine tkA 18 ?_ ?_ hHeld ?_; rotate_left; (intro w hSw; (try dsimp only at hSw); go_simp; try with_reducible rfl); simp only [Act.put, PT])
              (refine tkA 19 ?_ ?_ hHeld ?_; rotate_left; (intro w hSw; (try dsimp only at hSw); go_simp; try with_reducible rfl); simp only [Act.put, PT])
              (refine tkA 20 ?_ ?_ hHeld ?_; rotate_left; (intro w hSw; (try dsimp only at hSw); go_simp; try with_reducible rfl); simp only [Act.put, PT])
              (refine tkA 21 ?_ ?_ hHeld ?_; rotate_left; (intro w hSw; (try dsimp only at hSw); go_simp; try with_reducible rfl); simp only [Act.put, PT])
              (refine tkA 22 ?_ ?_ hHeld ?_; rotate_left; (intro w hSw; (try dsimp only at hSw); go_simp; try with_reducible rfl); simp only [Act.put, PT])
              (refine tkA 23 ?_ ?_ hHeld ?_; rotate_left; (intro w hSw; (try dsimp only at hSw); go_simp; try with_reducible rfl); simp only [Act.put, PT])
              (refine tkA 24 ?_ ?_ hHeld ?_; rotate_left; (intro w hSw; (try dsimp only at hSw); go_simp; try with_reducible rfl); simp only [Act.put, PT])
              (refine tkA 25 ?_ ?_ hHeld ?_; rotate_left; (intro w hSw; (try dsimp only at hSw); go_simp; try with_reducible rfl); simp only [Act.put, PT])
              (refine tkA 26 ?_ ?_ hHeld ?_; rotate_left; (intro w hSw; (try dsimp only at hSw); go_simp; try with_reducible rfl); simp only [Act.put, PT])
              (refine tkA 27 ?_ ?_ hHeld ?_; rotate_left; (intro w hSw; (try dsimp only at hSw); go_simp; try with_reducible rfl); simp only [Act.put, PT])
              (refine tkA 28 ?_ ?_ hHeld ?_; rotate_left; (intro w hSw; (try dsimp only at hSw); go_simp; try with_reducible rfl); simp only [Act.put, PT])
              (refine tkA 29 ?_ ?_ hHeld ?_; rotate_left; (intro w hSw; (try dsimp only at hSw); go_simp; try with_reducible rfl); simp only [Act.put, PT])
              (refine tkA 30 ?_ ?_ hHeld ?_; rotate_left; (intro w hSw; (try dsimp only at hSw); go_simp; try with_reducible rfl); simp only [Act.put, PT])
              refine wpAnyH_ready (rs := [31]) (by kernel_rfl) (by simp) ?_
              refine AllReadyH.cons (by rfl) (fun K hK => ?_) AllReadyH.nil
              go_simp
              (with_reducible refine (HMt.out wr.drew hrow.drew hlr.drew).mono ?_); rintro e w2 ⟨rfl, hb2⟩; replace hb2 := Bl.undrew hb2; have hat2 := hat.on hb2; have z2 : w2.cell? ⟨n.b, 2, none⟩ = some (S n.x.key) := hat2.cell 2; have z3 : w2.cell? ⟨n.b, 3, none⟩ = some n.vp := hat2.cell 3; have z8 : w2.cell? ⟨n.b, 8, none⟩ = some (.int .i64 n.x.came) := hat2.cell 8; have z10 : w2.cell? ⟨n.b, 10, none⟩ = some (Ptr nx) := hat2.cell 10; have b8 : w2.cell? ⟨b.b, 8, none⟩ = some (.int .i64 b.x.came) := (hbat.on hb2).cell 8
              refine hK.out _ _ ⟨z2, z3, z8, b8⟩ (fun hHeld => ?_)
              clear hK K
              try simp only [Act.put, PT]
              (refine tkA 32 ?_ ?_ hHeld ?_; rotate_left; (intro w hSw; (try dsimp only at hSw); go_simp; try with_reducible rfl); simp only [Act.put, PT])
              try simp only [Act.put, PT]
              refine wpAnyH_done (by kernel_rfl) ?_ _
              have hbw := hbr.trans (hb2.mono hbr.size)
              go_wp2
              go_roundw
              case rel => exact ⟨dn ++ [n], rs, by rw [HL.out]; simp, by rw [HB2.out]; rfl, by rw [HNX.out], hbw⟩
              case measure => exact HME.out
          · have hge : decide (b.x.came ≤ n.x.came) = false := by simpa using hcame
            have HB2 : Hid (bestOf key list (dn ++ [n]) = some b) := by
              show _ = _
              rw [HB.out, hbst]
              unfold better takes
              simp only [hr, hge]
              rfl
            have d10 : wr.drew.cell? ⟨n.b, 10, none⟩ = some (Ptr nx) := z10
            clear hbst hk hcame
            go_wp2_with fail
            refine wp_region_held_drew (S := (fun wx => wx.cell? ⟨n.b, 2, none⟩ = some (S n.x.key) ∧ wx.cell? ⟨n.b, 3, none⟩ = some n.vp ∧ wx.cell? ⟨n.b, 8, none⟩ = some (.int .i64 n.x.came) ∧ wx.cell? ⟨b.b, 8, none⟩ = some (.int .i64 b.x.came))) (by kernel_rfl) ⟨z2, z3, z8, b8⟩ (fun hHeld => ?_)
            (refine tkA 0 ?_ ?_ hHeld ?_; rotate_left; (intro w hSw; (try dsimp only at hSw); go_simp; try with_reducible rfl); simp only [Act.put, PT])
            (refine tkA 1 ?_ ?_ hHeld ?_; rotate_left; (intro w hSw; (try dsimp only at hSw); go_simp; try with_reducible rfl); simp only [Act.put, PT])
            (refine tkA 2 ?_ ?_ hHeld ?_; rotate_left; (intro w hSw; (try dsimp only at hSw); go_simp; try with_reducible rfl); simp only [Act.put, PT])
            (refine tkA 3 ?_ ?_ hHeld ?_; rotate_left; (intro w hSw; (try dsimp only at hSw); go_simp; try with_reducible rfl); simp only [Act.put, PT])
            (refine tkA 4 ?_ ?_ hHeld ?_; rotate_left; (intro w hSw; (try dsimp only at hSw); go_simp; try with_reducible rfl); simp only [Act.put, PT])
            (refine tkA 5 ?_ ?_ hHeld ?_; rotate_left; (intro w hSw; (try dsimp only at hSw); go_simp; try with_reducible rfl); simp only [Act.put, PT])
            (refine tkA 6 ?_ ?_ hHeld ?_; rotate_left; (intro w hSw; (try dsimp only at hSw); go_simp; try with_reducible rfl); simp only [Act.put, PT])
            (refine tkA 7 ?_ ?_ hHeld ?_; rotate_left; (intro w hSw; (try dsimp only at hSw); go_simp; try with_reducible rfl); simp only [Act.put, PT])
            (refine tkA 8 ?_ ?_ hHeld ?_; rotate_left; (intro w hSw; (try dsimp only at hSw); go_simp; try with_reducible rfl); simp only [Act.put, PT])
            (refine tkA 9 ?_ ?_ hHeld ?_; rotate_left; (intro w hSw; (try dsimp only at hSw); go_simp; try with_reducible rfl); simp only [Act.put, PT])
            (refine tkA 10 ?_ ?_ hHeld ?_; rotate_left; (intro w hSw; (try dsimp only at hSw); go_simp; try with_reducible rfl); simp only [Act.put, PT])
            (refine tkA 11 ?_ ?_ hHeld ?_; rotate_left; (intro w hSw; (try dsimp only at hSw); go_simp; try with_reducible rfl); simp only [Act.put, PT])
            (refine tkA 12 ?_ ?_ hHeld ?_; rotate_left; (intro w hSw; (try dsimp only at hSw); go_simp; try with_reducible rfl); simp only [Act.put, PT])
            (refine tkA 13 ?_ ?_ hHeld ?_; rotate_left; (intro w hSw; (try dsimp only at hSw); go_simp; try with_reducible rfl); simp only [Act.put, PT])
            (refine tkA 14 ?_ ?_ hHeld ?_; rotate_left; (intro w hSw; (try dsimp only at hSw); go_simp; try with_reducible rfl); simp only [Act.put, PT])
            (refine tkA 15 ?_ ?_ hHeld ?_; rotate_left; (intro w hSw; (try dsimp only at hSw); go_simp; try with_reducible rfl); simp only [Act.put, PT])
            (refine tkA 16 ?_ ?_ hHeld ?_; rotate_left; (intro w hSw; (try dsimp only at hSw); go_simp; try with_reducible rfl); simp only [Act.put, PT])
            (refine tkA 17 ?_ ?_ hHeld ?_; rotate_left; (intro w hSw; (try dsimp only at hSw); go_simp; try with_reducible rfl); simp only [Act.put, PT])
            (refine tkA 18 ?_ ?_ hHeld ?_; rotate_left; (intro w hSw; (try dsimp only at hSw); go_simp; try with_reducible rfl); simp only [Act.put, PT])
            (refine tkA 19 ?_ ?_ hHeld ?_; rotate_left; (intro w hSw; (try dsimp only at hSw); go_simp; try with_reducible rfl); simp only [Act.put, PT])
            (refine tkA 20 ?_ ?_ hHeld ?_; rotate_left; (intro w hSw; (try dsimp only at hSw); go_simp; try with_reducible rfl); simp only [Act.put, PT])
            (refine tkA 21 ?_ ?_ hHeld ?_; rotate_left; (intro w hSw; (try dsimp only at hSw); go_simp; try with_reducible rfl); simp only [Act.put, PT])
            (refine tkA 22 ?_ ?_ hHeld ?_; rotate_left; (intro w hSw; (try dsimp only at hSw); go_simp; try with_reducible rfl); simp only [Act.put, PT])
            (refine tkA 23 ?_ ?_ hHeld ?_; rotate_left; (intro w hSw; (try dsimp only at hSw); go_simp; try with_reducible rfl); simp only [Act.put, PT])
            (refine tkA 24 ?_ ?_ hHeld ?_; rotate_left; (intro w hSw; (try dsimp only at hSw); go_simp; try with_reducible rfl); simp only [Act.put, PT])
            (refine tkB 25 hHeld ?_; simp only [Act.put, PT])
            (refine tkB 26 hHeld ?_; simp only [Act.put, PT])
            (refine tkB 27 hHeld ?_; simp only [Act.put, PT])
            (refine tkB 28 hHeld ?_; simp only [Act.put, PT])
            (refine tkB 29 hHeld ?_; simp only [Act.put, PT])
            (refine tkB 30 hHeld ?_; simp only [Act.put, PT])
            (refine tkB 31 hHeld ?_; simp only [Act.put, PT])
            (refine tkA 32 ?_ ?_ hHeld ?_; rotate_left; (intro w hSw; (try dsimp only at hSw); go_simp; try with_reducible rfl); simp only [Act.put, PT])
            try simp only [Act.put, PT]
            refine wpAnyH_done (by kernel_rfl) ?_ _
            go_wp2
            go_roundw
            case rel => exact ⟨dn ++ [n], rs, by rw [HL.out]; simp, by rw [HB2.out]; rfl, by rw [HNX.out], hbr.drew⟩
            case measure => exact HME.out
      ·
        have hr : (n.x.key == key) = false := by simp [hk]
        have HB2 : Hid (bestOf key list (dn ++ [n]) = bestOf key list dn) := by
          show _ = _
          rw [HB.out]
          unfold better takes
          rw [hr]
          simp
        clear hk
        obtain ⟨bv, ebv⟩ : ∃ bv, bv = bestV (bestOf key list dn) := ⟨_, rfl⟩
        rw [← ebv]
        have HV := Lib.hid ebv
        clear ebv
        have d10 : wr.drew.cell? ⟨n.b, 10, none⟩ = some (Ptr nx) := z10
        go_wp2_with fail
        refine wp_region_held_drew (S := (fun wx => wx.cell? ⟨n.b, 2, none⟩ = some (S n.x.key))) (by kernel_rfl) z2 (fun hHeld => ?_)
        (refine tkA 0 ?_ ?_ hHeld ?_; rotate_left; (intro w hSw; (try dsimp only at hSw); go_simp; try with_reducible rfl); simp only [Act.put, PT])
        (refine tkA 1 ?_ ?_ hHeld ?_; rotate_left; (intro w hSw; (try dsimp only at hSw); go_simp; try with_reducible rfl); simp only [Act.put, PT])
        (refine tkA 2 ?_ ?_ hHeld ?_; rotate_left; (intro w hSw; (try dsimp only at hSw); go_simp; try with_reducible rfl); simp only [Act.put, PT])
        (refine tkA 3 ?_ ?_ hHeld ?_; rotate_left; (intro w hSw; (try dsimp only at hSw); go_simp; try with_reducible rfl); simp only [Act.put, PT])
        (refine tkA 4 ?_ ?_ hHeld ?_; rotate_left; (intro w hSw; (try dsimp only at hSw); go_simp; try with_reducible rfl); simp only [Act.put, PT])
        (refine tkA 5 ?_ ?_ hHeld ?_; rotate_left; (intro w hSw; (try dsimp only at hSw); go_simp; try with_reducible rfl); simp only [Act.put, PT])
        (refine tkA 6 ?_ ?_ hHeld ?_; rotate_left; (intro w hSw; (try dsimp only at hSw); go_simp; try with_reducible rfl); simp only [Act.put, PT])
        (refine tkA 7 ?_ ?_ hHeld ?_; rotate_left; (intro w hSw; (try dsimp only at hSw); go_simp; try with_reducible rfl); simp only [Act.put, PT])
        (refine tkB 8 hHeld ?_; simp only [Act.put, PT])
        (refine tkB 9 hHeld ?_; simp only [Act.put, PT])
        (refine tkB 10 hHeld ?_; simp only [Act.put, PT])
        (refine tkB 11 hHeld ?_; simp only [Act.put, PT])
        (refine tkB 12 hHeld ?_; simp only [Act.put, PT])
        (refine tkB 13 hHeld ?_; simp only [Act.put, PT])
        (refine tkB 14 hHeld ?_; simp only [Act.put, PT])
        (refine tkB 15 hHeld ?_; simp only [Act.put, PT])
        (refine tkB 16 hHeld ?_; simp only [Act.put, PT])
        (refine tkB 17 hHeld ?_; simp only [Act.put, PT])
        (refine tkB 18 hHeld ?_; simp only [Act.put, PT])
        (refine tkB 19 hHeld ?_; simp only [Act.put, PT])
        (refine tkB 20 hHeld ?_; simp only [Act.put, PT])
        (refine tkB 21 hHeld ?_; simp only [Act.put, PT])
        (refine tkB 22 hHeld ?_; simp only [Act.put, PT])
        (refine tkA 23 ?_ ?_ hHeld ?_; rotate_left; (intro w hSw; (try dsimp only at hSw); go_simp; try with_reducible rfl); simp only [Act.put, PT])
        (refine tkA 24 ?_ ?_ hHeld ?_; rotate_left; (intro w hSw; (try dsimp only at hSw); go_simp; try with_reducible rfl); simp only [Act.put, PT])
        (refine tkB 25 hHeld ?_; simp only [Act.put, PT])
        (refine tkB 26 hHeld ?_; simp only [Act.put, PT])
        (refine tkB 27 hHeld ?_; simp only [Act.put, PT])
        (refine tkB 28 hHeld ?_; simp only [Act.put, PT])
        (refine tkB 29 hHeld ?_; simp only [Act.put, PT])
        (refine tkB 30 hHeld ?_; simp only [Act.put, PT])
        (refine tkB 31 hHeld ?_; simp only [Act.put, PT])
        (refine tkA 32 ?_ ?_ hHeld ?_; rotate_left; (intro w hSw; (try dsimp only at hSw); go_simp; try with_reducible rfl); simp only [Act.put, PT])
        try simp only [Act.put, PT]
        refine wpAnyH_done (by kernel_rfl) ?_ _
        go_wp2
        go_roundw
        case rel => exact ⟨dn ++ [n], rs, by rw [HL.out]; simp, by rw [HB2.out]; exact HV.out, by rw [HNX.out], hbr.drew⟩
        case measure => exact HME.out
end Go.Proofs.YtahapblgmehngaaGreatDoor

