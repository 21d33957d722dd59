/- Parts of the proof of DealLacks_holds: the texts Shq2 Shf2 Shf3 Shf7. -/
import Derived.Deep.DeepCutAuto
import Derived.Lib.SliceRun
import Derived.Deep.RegionWith
import Derived.Test.YtahapblgmehngaaGreatDoorC25
import Derived.Test.YtahapblgmehngaaGreatDoorC3
import Derived.Test.YtahapblgmehngaaGreatDoorC2
import Derived.Test.YtahapblgmehngaaGreatDoorC1
import Derived.Test.YtahapblgmehngaaGreatDoorProg
set_option linter.unusedSimpArgs false
set_option linter.unusedVariables false
set_option linter.unnecessarySimpa false
namespace Go.Proofs.YtahapblgmehngaaGreatDoor
open Go.RowKit Go.Dr

theorem foot_more {s R m : Nat} {l l' : List Nd} (h : ∀ n ∈ l, n ∈ l') {k : Nat} (hk : Foot s R m l k) : Foot s R m l' k := by
  rcases hk with e | e | e | hk
  · exact .inl e
  · exact .inr (.inl e)
  · exact .inr (.inr (.inl e))
  · obtain ⟨n, hn, e⟩ := List.mem_map.1 hk
    exact .inr (.inr (.inr (e ▸ List.mem_map_of_mem (h n hn))))

abbrev entV (n : Nd) : Value := .agg #[S n.x.key, n.vp, .int .i64 n.x.st, n.vf, S n.x.body, .int .i64 n.x.asked, .int .i64 n.x.came]

def blkOf : Value → Nat | .pointer (some a) => a.block | _ => 0
theorem idx_head (dn rs : List Nd) (R : Nat) (h : (R :: (dn ++ rs).map Nd.b).Nodup) : ((dn ++ rs).map Nd.b).idxOf (blkOf (Ptr (headOr (rs.map Nd.n) R))) = dn.length := by
  show ((dn ++ rs).map Nd.b).idxOf (headOr (rs.map Nd.n) R) = dn.length
  rw [List.nodup_cons, List.map_append] at h
  rw [List.map_append, List.idxOf_append]
  cases rs with
  | nil =>
    simp only [List.map_nil, headOr_nil, List.append_nil] at h ⊢
    rw [if_neg h.1]
    simp
  | cons n rs =>
    have : headOr ((n :: rs).map Nd.n) R = n.b := rfl
    rw [this]
    have h2 := (List.nodup_append.1 h.2).2.2
    rw [if_neg fun hm => h2 n.b hm n.b (by simp) rfl]
    simp

set_option maxRecDepth 100000 in
set_option maxHeartbeats 4000000 in
theorem sweep_any (fb rb s R m : Nat) (most last : Int) (l : List Nd) (w : World) (h : Sh fb rb w s R m most last l) (hlen : l.length ≤ 1048576) (F : FuncId) (hF : ∀ args w, (callFunc F args).run Tryz.prog w = .ok (.enter F args) w) (caps : Array Value) (p : Nd → Bool) (J : List Nd → World → Prop) (hJ0 : J [] w)
    (hg : ∀ dn n rs wa, l = dn ++ n :: rs → Sh fb rb wa s R m most last (dn.filter (fun n => !p n) ++ n :: rs) → J dn wa → Calls Tryz.prog F (#[entV n] ++ caps) wa fun e wb => e = .returned (.bool (p n)) ∧ Sh fb rb wb s R m most last (dn.filter (fun n => !p n) ++ n :: rs) ∧ J (dn ++ [n]) wb)
    (hJ : (∃ n ∈ l, p n = true) → ∀ dn wa wb, J dn wa → But (Foot s R m l) wa wb → J dn wb) :
    Calls Tryz.prog 56 #[Ptr s, .func (.func F) #[] caps] w fun e w' => e = .returned (.int .i64 ((l.filter p).length : Nat)) ∧ Sh fb rb w' s R m most last (l.filter (fun n => !p n)) ∧ J l w' := by
  have y3 : w.cell? ⟨s, 3, none⟩ = some (Ptr R) := h.blk.cell 3
  have y10 : w.cell? ⟨R, 10, none⟩ = some (Ptr (headOr (l.map Nd.n) R)) := h.ring.root.cell 10
  obtain ⟨q0, eq0⟩ : ∃ q0, q0 = headOr (l.map Nd.n) R := ⟨_, rfl⟩
  rw [← eq0] at y10
  have HQ := Lib.hid eq0
  clear eq0
  go_enter Tryz.func56, Tryz.ntmps56
  go_wp2
  go_loopw [5, 6] (fun n q wr => ∃ dn rs, l = dn ++ rs ∧ n = .int .i64 ((dn.filter p).length : Nat) ∧ q = Ptr (headOr (rs.map Nd.n) R) ∧ Sh fb rb wr s R m most last (dn.filter (fun n => !p n) ++ rs) ∧ J dn wr) (fun _ q _ => l.length - (l.map Nd.b).idxOf (blkOf q))
  case atStart => exact ⟨[], l, rfl, rfl, by rw [HQ.out], h, hJ0⟩
  case round =>
    obtain ⟨dn, rs, hl, rfl, rfl, hs, hj⟩ := hrel
    have x3 : wr.cell? ⟨s, 3, none⟩ = some (Ptr R) := hs.blk.cell 3
    have hnd := h.ring.nodup
    rw [nd_blocks] at hnd
    cases rs with
    | nil =>
      rw [List.append_nil] at hl hs
      subst hl
      have e0 : headOr (List.map Nd.n []) R = R := rfl
      have hq := neq_link hs.ring.root hs.ring.root false (by simp)
      rw [e0]
      go_wp2
      go_ret
      exact ⟨rfl, hs, hj⟩
    | cons n rs =>
      have e0 : headOr (List.map Nd.n (n :: rs)) R = n.b := rfl
      have hat := hs.at
      have hnR : ¬ n.b = R := (hs.ne_s.2.2.2 n (by simp)).2.2
      have hc1 : (dn.filter p).length ≤ dn.length := List.length_filter_le _ _
      have hc2 : dn.length + rs.length + 1 = l.length := by rw [hl]; simp; omega
      have HM1 := Lib.hid (idx_head dn (n :: rs) R (hl ▸ hnd))
      have HM2 := Lib.hid (idx_head (dn ++ [n]) rs R (by rw [List.append_assoc]; exact hl ▸ hnd))
      have hsubl : ∀ x ∈ dn.filter (fun n => !p n) ++ n :: rs, x ∈ l := fun x hx => by
        rw [hl]
        rcases List.mem_append.1 hx with hx | hx
        · exact List.mem_append.2 (.inl (List.mem_filter.1 hx).1)
        · exact List.mem_append.2 (.inr hx)
      have hq := neq_link hat hs.ring.root true (by simp [hnR])
      rw [e0]
      obtain ⟨nx, enx⟩ : ∃ nx, nx = headOr (rs.map Nd.n) R := ⟨_, rfl⟩
      rw [← enx] at hat
      have HNX := Lib.hid enx
      clear enx
      have HL := Lib.hid hl
      clear hl
      obtain ⟨c, ec⟩ : ∃ c, c = (dn.filter p).length := ⟨_, rfl⟩
      rw [← ec] at hc1 ⊢
      have HC := Lib.hid ec
      clear ec
      have z2 : wr.cell? ⟨n.b, 2, none⟩ = some (S n.x.key) := hat.cell 2
      have z3 : wr.cell? ⟨n.b, 3, none⟩ = some n.vp := hat.cell 3
      have z4 : wr.cell? ⟨n.b, 4, none⟩ = some (.int .i64 n.x.st) := hat.cell 4
      have z5 : wr.cell? ⟨n.b, 5, none⟩ = some n.vf := hat.cell 5
      have z6 : wr.cell? ⟨n.b, 6, none⟩ = some (S n.x.body) := hat.cell 6
      have z7 : wr.cell? ⟨n.b, 7, none⟩ = some (.int .i64 n.x.asked) := hat.cell 7
      have z8 : wr.cell? ⟨n.b, 8, none⟩ = some (.int .i64 n.x.came) := hat.cell 8
      have z10 : wr.cell? ⟨n.b, 10, none⟩ = some (Ptr nx) := hat.cell 10
      go_wp2_with fail
      refine (hg dn n rs wr HL.out hs hj).mono ?_
      rintro e w1 ⟨rfl, hs1, hj1⟩
      cases hp : p n with
      | true =>
        go_wp2_with fail
        refine (drop_any fb rb s R m most last _ _ _ w1 hs1).mono ?_
        rintro e w2 ⟨rfl, hs2, hb2⟩
        go_wp2
        go_roundw
        case rel =>
          refine ⟨dn ++ [n], rs, by rw [HL.out]; simp, ?_, by rw [HNX.out], ?_, hJ ⟨n, by rw [HL.out]; simp, hp⟩ _ _ _ hj1 (hb2.more fun k hk => foot_more hsubl hk)⟩
          · rw [List.filter_append, List.length_append, ← HC.out]
            simp [hp]
          · rw [List.filter_append]
            simpa [hp] using hs2
        case measure =>
          have m1 : (l.map Nd.b).idxOf (blkOf (Ptr n.b)) = dn.length := by rw [HL.out]; exact HM1.out
          have m2 : (l.map Nd.b).idxOf (blkOf (Ptr nx)) = dn.length + 1 := by
            have := HM2.out
            rw [List.append_assoc] at this
            rw [HL.out, HNX.out]
            simpa using this
          show l.length - (l.map Nd.b).idxOf (blkOf (Ptr nx)) < l.length - (l.map Nd.b).idxOf (blkOf (Ptr n.b))
          rw [m1, m2]
          omega
      | false =>
        go_wp2
        go_roundw
        case rel =>
          refine ⟨dn ++ [n], rs, by rw [HL.out]; simp, ?_, by rw [HNX.out], ?_, hj1⟩
          · rw [List.filter_append, List.length_append, ← HC.out]
            simp [hp]
          · rw [List.filter_append]
            simpa [hp] using hs1
        case measure =>
          have m1 : (l.map Nd.b).idxOf (blkOf (Ptr n.b)) = dn.length := by rw [HL.out]; exact HM1.out
          have m2 : (l.map Nd.b).idxOf (blkOf (Ptr nx)) = dn.length + 1 := by
            have := HM2.out
            rw [List.append_assoc] at this
            rw [HL.out, HNX.out]
            simpa using this
          show l.length - (l.map Nd.b).idxOf (blkOf (Ptr nx)) < l.length - (l.map Nd.b).idxOf (blkOf (Ptr n.b))
          rw [m1, m2]
          omega
end Go.Proofs.YtahapblgmehngaaGreatDoor

namespace Go.Proofs.YtahapblgmehngaaGreatDoor
open Go.RowKit Go.Dr

/-- What an entry costs. -/
def costF (q : En) (lp lf : List F) : Nat := 64 + q.key.length + q.body.length + fsum lf + fsum lp

set_option maxRecDepth 100000 in
set_option maxHeartbeats 4000000 in
theorem Cost_any (q : En) (lp lf : List F) (w : World) (hp : Fs w.heap.size w q.vp lp) (hf : Fs w.heap.size w q.vf lf) (hk : q.key.length ≤ 1099511627776) (hb : q.body.length ≤ 1099511627776) (hl : fsum lp ≤ 1099511627776) (hl2 : fsum lf ≤ 1099511627776) :
    Calls Tryz.prog 100 #[q.val] w fun e w' => e = .returned (.int .i64 (costF q lp lf : Nat)) ∧ Below w.heap.size w w' := by
  obtain ⟨pf, cf, hfv, -⟩ := hf.form
  obtain ⟨pp, cp, hpv, -⟩ := hp.form
  obtain ⟨key, vp, st, vf, body, asked, came⟩ := q
  simp only at hfv hpv hf hp hk hb
  subst hfv hpv
  have HC : Hid (costF ⟨key, .slice pp lp.length cp, st, .slice pf lf.length cf, body, asked, came⟩ lp lf = 64 + key.length + body.length + fsum lf + fsum lp) := rfl
  simp only [En.val]
  generalize costF ⟨key, .slice pp lp.length cp, st, .slice pf lf.length cf, body, asked, came⟩ lp lf = C at *
  obtain ⟨w0, ew⟩ : ∃ w0 : World, w0 = w.alloc (.cells #[S key, .slice pp lp.length cp, .int .i64 st, .slice pf lf.length cf, S body, .int .i64 asked, .int .i64 came] 36) := ⟨_, rfl⟩
  have hQ0 : Blk w0 w.heap.size 36 #[S key, .slice pp lp.length cp, .int .i64 st, .slice pf lf.length cf, S body, .int .i64 asked, .int .i64 came] := by rw [ew]; exact Blk.new _ _ _
  have hb0 : Below w.heap.size w w0 := by rw [ew]; exact (Below.refl _ _).alloc (Nat.le_refl _) _
  have hf0 := (hf.below hb0).mono hb0.size
  have hp0 := (hp.below hb0).mono hb0.size
  have y0 : w0.cell? ⟨w.heap.size, 0, none⟩ = some (S key) := hQ0.cell 0
  have y3 : w0.cell? ⟨w.heap.size, 3, none⟩ = some (.slice pf lf.length cf) := hQ0.cell 3
  have y4 : w0.cell? ⟨w.heap.size, 4, none⟩ = some (S body) := hQ0.cell 4
  have hn1 := fsum_length lf
  have hn2 := fsum_length lp
  go_enter Tryz.func100, Tryz.ntmps100
  go_upto_region 1 with fail
  rw [← ew]
  clear ew hf hp
  go_wp2
  go_loopw [3, 19] (fun n i wr => ∃ k : Nat, i = .int .i64 k ∧ k ≤ lf.length ∧ n = .int .i64 ((64 + key.length + body.length + fsum (lf.take k) : Nat) : Int) ∧ Below w0.heap.size w0 wr) (fun _ i _ => lf.length - (intOf i).toNat)
  case atStart => exact ⟨0, rfl, Nat.zero_le _, by simp [fsum], Below.refl _ _⟩
  case round =>
    obtain ⟨k, rfl, hk', rfl, hbel⟩ := hrel
    have hbd := Lib.hid (fsum_take lf k)
    by_cases hlt : k < lf.length
    · obtain ⟨b, off, rfl, hbb, c0, c1, c2⟩ := (hf0.below hbel).at k hlt
      have hff := fsum_mem (List.getElem_mem hlt)
      have HS : Hid (fsum (lf.take (k + 1)) = fsum (lf.take k) + (lf[k].n.length + lf[k].v.length + 32)) := by show _ = _; rw [take_snoc lf k hlt, fsum_append]; simp [fsum]
      have hb1 := hbd.out
      generalize fsum (lf.take k) = s at *
      go_wp2
      go_roundw
      case rel => exact ⟨k + 1, by go_num, by omega, by rw [HS.out]; go_num, hbel.alloc hbel.size _⟩
      case measure => simp [intOf]; omega
    · have e : k = lf.length := by omega
      subst e
      rw [List.take_length] at *
      obtain ⟨wo, rfl⟩ : ∃ wo : World, wo = wr := ⟨_, rfl⟩
      have hQo := hQ0.on hbel
      have y1 : wo.cell? ⟨w.heap.size, 1, none⟩ = some (.slice pp lp.length cp) := hQo.cell 1
      have hpo := (hp0.below hbel).mono hbel.size
      have hwo := Bl.tr hb0 hbel
      go_wp2
      go_loopw [3, 37] (fun n i wr => ∃ k : Nat, i = .int .i64 k ∧ k ≤ lp.length ∧ n = .int .i64 ((64 + key.length + body.length + fsum lf + fsum (lp.take k) : Nat) : Int) ∧ Below wo.heap.size wo wr) (fun _ i _ => lp.length - (intOf i).toNat)
      case atStart => exact ⟨0, rfl, Nat.zero_le _, by simp [fsum], Below.refl _ _⟩
      case round =>
        obtain ⟨k, rfl, hk', rfl, hbel⟩ := hrel
        have hbd := Lib.hid (fsum_take lp k)
        by_cases hlt : k < lp.length
        · obtain ⟨b, off, rfl, hbb, c0, c1, c2⟩ := (hpo.below hbel).at k hlt
          have hff := fsum_mem (List.getElem_mem hlt)
          have HS : Hid (fsum (lp.take (k + 1)) = fsum (lp.take k) + (lp[k].n.length + lp[k].v.length + 32)) := by show _ = _; rw [take_snoc lp k hlt, fsum_append]; simp [fsum]
          have hb1 := hbd.out
          generalize fsum (lp.take k) = s at *
          go_wp2
          go_roundw
          case rel => exact ⟨k + 1, by go_num, by omega, by rw [HS.out]; go_num, hbel.alloc hbel.size _⟩
          case measure => simp [intOf]; omega
        · have e : k = lp.length := by omega
          subst e
          rw [List.take_length] at *
          go_wp2
          go_ret
          exact ⟨ret_int (by rw [HC.out]), Bl.tr hwo hbel⟩
end Go.Proofs.YtahapblgmehngaaGreatDoor

namespace Go.Proofs.YtahapblgmehngaaGreatDoor
open Go.RowKit Go.Dr

set_option maxRecDepth 100000 in
set_option maxHeartbeats 2000000 in
theorem CloneF_any (l : List F) (v : Value) (w : World) (h : Fs w.heap.size w v l) (hl : l.length * 40 ≤ 140737488351232) :
    Calls Tryz.prog 104 #[v] w fun e w' => ∃ v', e = .returned v' ∧ w'.ownsRow w.heap.size 60 3 v' l.length (fcells l) ∧ Below w.heap.size w w' := by
  obtain ⟨a, c, rfl, -⟩ := h.form
  have q22 : ∀ (w : World) (a : Option Addr) (n c n' c' : Nat), (binOp .eql 26 (.slice a n c) (.slice none n' c')).run Tryz.prog w = .ok (.bool a.isNone) w := fun w a n c n' c' => Lib.run_eql_slice_nil w _ _ a n c n' c' Tryz.underlying26
  cases a with
  | none =>
    have hn : l.length = 0 := by
      rcases Nat.eq_zero_or_pos l.length with e | e
      · exact e
      · obtain ⟨b, off, h1, -⟩ := h.at 0 e
        cases h1
    obtain rfl := List.eq_nil_of_length_eq_zero hn
    clear hn hl
    go_enter Tryz.func104, Tryz.ntmps104
    go_wp2
    go_ret
    exact ⟨_, rfl, World.ownsRow_nil _ _ _ _, Below.refl _ _⟩
  | some a =>
    go_enter Tryz.func104, Tryz.ntmps104
    go_wp2_with (at_builtin; refine wpList_appRd rfl _ _ 26 rfl w.heap.size 60 (.agg #[.string ByteArray.empty, .string ByteArray.empty, .bool false]) 3 40 Tryz.underlying26 (by kernel_rfl) rfl (by decide) _ _ _ rfl (by exact own_lit _ w.heap.size rfl w.heap.size (Nat.le_refl _) _ _) _ _ _ _ rfl (by exact h.below ((Below.refl _ _).alloc (Nat.le_refl _) _)) (fcells_one _) (by unfold maxLen; omega) (by omega) (by simp) ?_; intro a3 c3 w3 hown3 hb3; simp only [Nat.zero_add, List.nil_append] at hown3)
    go_ret
    exact ⟨_, rfl, hown3, ((Below.refl _ _).alloc (Nat.le_refl _) _).trans hb3⟩

set_option maxRecDepth 100000 in
set_option maxHeartbeats 2000000 in
theorem CloneP_any (l : List F) (v : Value) (w : World) (h : Fs w.heap.size w v l) (hl : l.length * 40 ≤ 140737488351232) :
    Calls Tryz.prog 105 #[v] w fun e w' => ∃ v', e = .returned v' ∧ w'.ownsRow w.heap.size 89 3 v' l.length (fcells l) ∧ Below w.heap.size w w' := by
  obtain ⟨a, c, rfl, -⟩ := h.form
  have q22 : ∀ (w : World) (a : Option Addr) (n c n' c' : Nat), (binOp .eql 34 (.slice a n c) (.slice none n' c')).run Tryz.prog w = .ok (.bool a.isNone) w := fun w a n c n' c' => Lib.run_eql_slice_nil w _ _ a n c n' c' Tryz.underlying34
  cases a with
  | none =>
    have hn : l.length = 0 := by
      rcases Nat.eq_zero_or_pos l.length with e | e
      · exact e
      · obtain ⟨b, off, h1, -⟩ := h.at 0 e
        cases h1
    obtain rfl := List.eq_nil_of_length_eq_zero hn
    clear hn hl
    go_enter Tryz.func105, Tryz.ntmps105
    go_wp2
    go_ret
    exact ⟨_, rfl, World.ownsRow_nil _ _ _ _, Below.refl _ _⟩
  | some a =>
    go_enter Tryz.func105, Tryz.ntmps105
    go_wp2_with (at_builtin; refine wpList_appRd rfl _ _ 34 rfl w.heap.size 89 (.agg #[.string ByteArray.empty, .string ByteArray.empty, .bool false]) 3 40 Tryz.underlying34 (by kernel_rfl) rfl (by decide) _ _ _ rfl (by exact own_lit _ w.heap.size rfl w.heap.size (Nat.le_refl _) _ _) _ _ _ _ rfl (by exact h.below ((Below.refl _ _).alloc (Nat.le_refl _) _)) (fcells_one _) (by unfold maxLen; omega) (by omega) (by simp) ?_; intro a3 c3 w3 hown3 hb3; simp only [Nat.zero_add, List.nil_append] at hown3)
    go_ret
    exact ⟨_, rfl, hown3, ((Below.refl _ _).alloc (Nat.le_refl _) _).trans hb3⟩
end Go.Proofs.YtahapblgmehngaaGreatDoor

namespace Go.Proofs.YtahapblgmehngaaGreatDoor
open Go.RowKit Go.Dr

theorem ret_copied {W : World} {tmps : Array Value} {b : Nat} {v0 v1 v2 v3 v4 v5 v6 : Value} {R : Ending → World → Prop} (hs : tmps[2]? = some (.pointer (some ⟨b, 0, none⟩))) (h : Blk W b 36 #[v0, v1, v2, v3, v4, v5, v6]) (hR : R (.returned (.agg #[v0, v1, v2, v3, v4, v5, v6])) W) :
    bodyPost Tryz.prog Tryz.f66 R .ret { tmps := tmps, defers := [] } W := by
  (have g0 : W.cell? ⟨b, 0, none⟩ = some (v0) := h.cell 0; have g1 : W.cell? ⟨b, 1, none⟩ = some (v1) := h.cell 1; have g2 : W.cell? ⟨b, 2, none⟩ = some (v2) := h.cell 2; have g3 : W.cell? ⟨b, 3, none⟩ = some (v3) := h.cell 3; have g4 : W.cell? ⟨b, 4, none⟩ = some (v4) := h.cell 4; have g5 : W.cell? ⟨b, 5, none⟩ = some (v5) := h.cell 5; have g6 : W.cell? ⟨b, 6, none⟩ = some (v6) := h.cell 6)
  exact bodyPost_ret (v := .agg #[v0, v1, v2, v3, v4, v5, v6]) (by simp [results, Tryz.results66, go_sem, hs, g0, g1, g2, g3, g4, g5, g6]) rfl hR

set_option maxRecDepth 100000 in
set_option maxHeartbeats 4000000 in
theorem copied_any (q : En) (lp lf : List F) (w : World) (hp : Fs w.heap.size w q.vp lp) (hf : Fs w.heap.size w q.vf lf) (hl : lp.length * 40 ≤ 140737488351232) (hl2 : lf.length * 40 ≤ 140737488351232) :
    Calls Tryz.prog 66 #[q.val] w fun e w' => ∃ vp vf, e = .returned (.agg #[S q.key, vp, .int .i64 q.st, vf, S q.body, .int .i64 q.asked, .int .i64 q.came]) ∧ w'.ownsRow w.heap.size 89 3 vp lp.length (fcells lp) ∧ w'.ownsRow w.heap.size 60 3 vf lf.length (fcells lf) ∧ Below w.heap.size w w' := by
  obtain ⟨pf, cf, hfv, -⟩ := hf.form
  obtain ⟨pp, cp, hpv, -⟩ := hp.form
  obtain ⟨key, vp, st, vf, body, asked, came⟩ := q
  simp only at hfv hpv hf hp
  subst hfv hpv
  simp only [En.val]
  obtain ⟨w1, ew1⟩ : ∃ w1 : World, w1 = w.alloc (.cells #[S key, .slice pp lp.length cp, .int .i64 st, .slice pf lf.length cf, S body, .int .i64 asked, .int .i64 came] 36) := ⟨_, rfl⟩
  have hs1 : w1.heap.size = w.heap.size + 1 := by rw [ew1]; simp
  obtain ⟨w0, ew⟩ : ∃ w0 : World, w0 = w1.alloc (.cells #[S [], .slice none 0 0, .int .i64 0, .slice none 0 0, S [], .int .i64 0, .int .i64 0] 36) := ⟨_, rfl⟩
  have hA : Blk w0 w.heap.size 36 #[S key, .slice pp lp.length cp, .int .i64 st, .slice pf lf.length cf, S body, .int .i64 asked, .int .i64 came] := by rw [ew, ew1]; exact (Blk.new _ _ _).alloc _
  have hB : Blk w0 (w.heap.size + 1) 36 #[S [], .slice none 0 0, .int .i64 0, .slice none 0 0, S [], .int .i64 0, .int .i64 0] := by
    rw [ew]
    have := Blk.new w1 36 #[S [], .slice none 0 0, .int .i64 0, .slice none 0 0, S [], .int .i64 0, .int .i64 0]
    rwa [hs1] at this
  have hb0 : Below w.heap.size w w0 := by rw [ew, ew1]; exact ((Below.refl _ _).alloc (Nat.le_refl _) _).alloc (by simp) _
  have hf0 := (hf.below hb0).mono hb0.size
  have hp0 := (hp.below hb0).mono hb0.size
  rw [ew1] at ew
  clear ew1 hs1 w1
  have HF := Lib.hid (fun w h => CloneF_any lf (.slice pf lf.length cf) w h hl2)
  have HP := Lib.hid (fun w h => CloneP_any lp (.slice pp lp.length cp) w h hl)
  go_enter Tryz.func66, Tryz.ntmps66
  go_upto_region 1 with fail
  rw [← ew]
  clear ew hf hp
  have x1 : w0.cell? ⟨w.heap.size, 1, none⟩ = some (.slice pp lp.length cp) := hA.cell 1
  have x3 : w0.cell? ⟨w.heap.size, 3, none⟩ = some (.slice pf lf.length cf) := hA.cell 3
  have d1 : w0.drew.cell? ⟨w.heap.size, 1, none⟩ = some (.slice pp lp.length cp) := hA.cell 1
  have d3 : w0.drew.cell? ⟨w.heap.size, 3, none⟩ = some (.slice pf lf.length cf) := hA.cell 3
  go_region_with (first
    | (go_at_call 104; refine (HF.out w0.drew hf0.drew).mono ?_; rintro e w2 ⟨vf', rfl, hvf, hb2⟩; obtain ⟨af, kf, rfl, -⟩ := (Fs.own hvf).form; replace hb2 := Bl.undrew hb2; have hA2 := hA.on hb2; have y1 : w2.cell? ⟨w.heap.size, 1, none⟩ = some (.slice pp lp.length cp) := hA2.cell 1)
    | (go_at_call 105; refine (HP.out w2 ((hp0.below hb2).mono hb2.size)).mono ?_; rintro e w3 ⟨vp', rfl, hvp, hb3⟩; obtain ⟨ap, kp, rfl, -⟩ := (Fs.own hvp).form; have hA3 := hA2.on hb3; have z1 : w3.cell? ⟨w.heap.size, 1, none⟩ = some (.slice pp lp.length cp) := hA3.cell 1; have z3 : w3.cell? ⟨w.heap.size, 3, none⟩ = some (.slice pf lf.length cf) := hA3.cell 3; have f1 := hA3.free 1; have f3 := hA3.free 3))
  all_goals
    have hA4 : Blk ((w3.setCell ⟨w.heap.size, 3, none⟩ (.slice af lf.length kf)).setCell ⟨w.heap.size, 1, none⟩ (.slice ap lp.length kp)) w.heap.size 36 #[S key, .slice ap lp.length kp, .int .i64 st, .slice af lf.length kf, S body, .int .i64 asked, .int .i64 came] := by simpa using (hA3.set 3 (.slice af lf.length kf)).set 1 (.slice ap lp.length kp)
    have hB4 := (((hB.on hb2).on hb3).other (p := ⟨w.heap.size, 3, none⟩) (by simp) (.slice af lf.length kf)).other (p := ⟨w.heap.size, 1, none⟩) (by simp) (.slice ap lp.length kp)
    have hE : w.heap.size < w0.heap.size := hA.lt
    have hw4 := ((Bl.tr (Bl.tr hb0 hb2) hb3).setCell (p := ⟨w.heap.size, 3, none⟩) (Nat.le_refl _) (.slice af lf.length kf)).setCell (p := ⟨w.heap.size, 1, none⟩) (Nat.le_refl _) (.slice ap lp.length kp)
    have o1 := ownsRow_setCell_below (ownsRow_setCell_below (own_below hvf hb3) (a := ⟨w.heap.size, 3, none⟩) hE (.slice af lf.length kf)) (a := ⟨w.heap.size, 1, none⟩) hE (.slice ap lp.length kp)
    have o2 := ownsRow_setCell_below (ownsRow_setCell_below hvp (a := ⟨w.heap.size, 3, none⟩) hA2.lt (.slice af lf.length kf)) (a := ⟨w.heap.size, 1, none⟩) hA2.lt (.slice ap lp.length kp)
    clear x1 x3 d1 d3 y1 z1 z3 f1 f3 hA3 hvf hvp
    generalize ((w3.setCell ⟨w.heap.size, 3, none⟩ (.slice af lf.length kf)).setCell ⟨w.heap.size, 1, none⟩ (.slice ap lp.length kp)) = w4 at *
    (have x0 : w4.cell? ⟨w.heap.size, 0, none⟩ = some (S key) := hA4.cell 0; have x1 : w4.cell? ⟨w.heap.size, 1, none⟩ = some (.slice ap lp.length kp) := hA4.cell 1; have x2 : w4.cell? ⟨w.heap.size, 2, none⟩ = some (.int .i64 st) := hA4.cell 2; have x3 : w4.cell? ⟨w.heap.size, 3, none⟩ = some (.slice af lf.length kf) := hA4.cell 3; have x4 : w4.cell? ⟨w.heap.size, 4, none⟩ = some (S body) := hA4.cell 4; have x5 : w4.cell? ⟨w.heap.size, 5, none⟩ = some (.int .i64 asked) := hA4.cell 5; have x6 : w4.cell? ⟨w.heap.size, 6, none⟩ = some (.int .i64 came) := hA4.cell 6)
    (have y0 : w4.cell? ⟨w.heap.size + 1, 0, none⟩ = some (S []) := hB4.cell 0; have y1 : w4.cell? ⟨w.heap.size + 1, 1, none⟩ = some (.slice none 0 0) := hB4.cell 1; have y2 : w4.cell? ⟨w.heap.size + 1, 2, none⟩ = some (.int .i64 0) := hB4.cell 2; have y3 : w4.cell? ⟨w.heap.size + 1, 3, none⟩ = some (.slice none 0 0) := hB4.cell 3; have y4 : w4.cell? ⟨w.heap.size + 1, 4, none⟩ = some (S []) := hB4.cell 4; have y5 : w4.cell? ⟨w.heap.size + 1, 5, none⟩ = some (.int .i64 0) := hB4.cell 5; have y6 : w4.cell? ⟨w.heap.size + 1, 6, none⟩ = some (.int .i64 0) := hB4.cell 6)
    have f0 := hB4.free 0
    have f1 := hB4.free 1
    have f2 := hB4.free 2
    have f3 := hB4.free 3
    have f4 := hB4.free 4
    have f5 := hB4.free 5
    have f6 := hB4.free 6
    go_wp2
    have hB5 := hB4.put7 (S key) (.slice ap lp.length kp) (.int .i64 st) (.slice af lf.length kf) (S body) (.int .i64 asked) (.int .i64 came)
    have hz := hb0.size
    have hz2 := hb2.size
    have hzB := hB.lt
    refine ret_copied rfl hB5 ⟨_, _, rfl, own_base (own_block o2 fun g cur _ hg => heap_put7 _ _ _ _ _ _ _ _ _ g (by omega)) (by omega), own_base (own_block o1 fun g cur _ hg => heap_put7 _ _ _ _ _ _ _ _ _ g (by have : w0.heap.size ≤ g := hg; omega)) (by show w.heap.size ≤ w0.heap.size; omega), put7_below hw4 (by omega) _ _ _ _ _ _ _⟩
end Go.Proofs.YtahapblgmehngaaGreatDoor

