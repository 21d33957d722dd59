
/- The walks of the document's shelf: what it costs in all; its items but one; the place of an item; the entry of a number. Printed by rsgen.py. -/
import Derived.Test.YtnflihjgbkocnaaDoorRsp
import Derived.Test.YtnflihjgbkocnaaDoorRf19
import Derived.Test.YtnflihjgbkocnaaDoorShk
import Derived.Test.YtnflihjgbkocnaaDoorShq6
import Derived.Deep.RegionLaw
namespace Go.Proofs.YtnflihjgbkocnaaDoor
open Go.RowKit Go.Dr

abbrev Itz : Array Value := #[.int .i64 0, S [], .slice none 0 0, .int .i64 0, .slice none 0 0, S [], .int .i64 0, .int .i64 0]
set_option linter.unusedSimpArgs false in
set_option linter.unusedVariables false in
set_option linter.unnecessarySimpa false in
theorem costs_take (l : List It) (k : Nat) : costs (l.take k) ≤ costs l := by
  conv => rhs; rw [← List.take_append_drop k l, costs_append]
  omega
set_option linter.unusedSimpArgs false in
set_option linter.unusedVariables false in
set_option linter.unnecessarySimpa false in
set_option maxRecDepth 100000 in
set_option maxHeartbeats 4000000 in
theorem refBytes_any {B r : Nat} {most last : Int} {v : Value} {er : List Ev} (w : World) (h : Rs B w r most last v er) :
    Calls Tryd.prog 41 #[Ptr r] w fun e w' => e = .returned (.int .i64 (costs (er.map Ev.x) : Nat)) ∧ Below w.heap.size w w' := by
  obtain ⟨a, c, hv⟩ := row_form h.row
  subst hv
  have hlen := h.len
  have hrm : costs (er.map Ev.x) ≤ 1048576 := by
    have := h.room
    have := h.most1
    omega
  go_enter Tryd.func41, Tryd.ntmps41
  go_wp2
  go_loopw [3, 4] (fun n i wr => ∃ k : Nat, n = .int .i64 (costs ((er.take k).map Ev.x) : Nat) ∧ i = .int .i64 k ∧ k ≤ er.length ∧ Below w.heap.size w wr) (fun _ i _ => er.length - (intOf i).toNat)
  case atStart => exact ⟨0, rfl, rfl, Nat.zero_le _, Below.refl _ _⟩
  case round =>
    obtain ⟨k, rfl, rfl, hk, hbr⟩ := hrel
    have hr := h.below hbr
    have x2 : wr.cell? ⟨r, 2, none⟩ = some (.slice a er.length c) := hr.blk.cell 2
    obtain ⟨N, eN⟩ : ∃ N, N = costs ((er.take k).map Ev.x) := ⟨_, rfl⟩
    rw [← eN]
    by_cases hlt : k < er.length
    · have hsn : costs ((er.take (k + 1)).map Ev.x) = costs ((er.take k).map Ev.x) + er[k].x.cost := by
        rw [take_snoc er k hlt, List.map_append, costs_append]
        simp [costs]
      have hle := costs_take (er.map Ev.x) (k + 1)
      rw [← List.map_take, hsn, ← eN] at hle
      rw [← eN] at hsn
      have HEN := Lib.hid eN
      clear eN
      obtain ⟨b, off, rfl, hbb, c0, c1, c2, c3, c4, c5, c6, c7⟩ := it_at (Rd.own hr.row) k hlt
      have hl := hr.lists er[k] (List.getElem_mem hlt)
      have hco := hr.cost (List.getElem_mem hlt)
      obtain ⟨e, ee⟩ : ∃ e, e = er[k] := ⟨_, rfl⟩
      rw [← ee] at c0 c1 c2 c3 c4 c5 c6 c7 hl hco
      have HE := Lib.hid ee
      clear ee
      obtain ⟨vp, vf, ⟨eid, key, lp, st, lf, body, asked, came⟩⟩ := e
      obtain ⟨ap, kp, hvp, -⟩ := hl.1.form
      obtain ⟨af, kf, hvf, -⟩ := hl.2.form
      simp only at c0 c1 c2 c3 c4 c5 c6 c7 hvp hvf
      subst hvp hvf
      have hlp : Fo 53 B wr (.slice ap lp.length kp) lp := hl.1
      have hlf : Fo 62 B wr (.slice af lf.length kf) lf := hl.2
      have hcn : 64 + key.length + body.length + fsum lf + fsum lp ≤ 1048576 := hco
      have d2 : wr.cell? ⟨b, off + k * 8 + 1 + 1, none⟩ = some (.slice ap lp.length kp) := c2
      have d3 : wr.cell? ⟨b, off + k * 8 + 1 + 2, none⟩ = some (.int .i64 st) := c3
      have d4 : wr.cell? ⟨b, off + k * 8 + 1 + 3, none⟩ = some (.slice af lf.length kf) := c4
      have d5 : wr.cell? ⟨b, off + k * 8 + 1 + 4, none⟩ = some (S body) := c5
      have d6 : wr.cell? ⟨b, off + k * 8 + 1 + 5, none⟩ = some (.int .i64 asked) := c6
      have d7 : wr.cell? ⟨b, off + k * 8 + 1 + 6, none⟩ = some (.int .i64 came) := c7
      clear hl hco
      rw [← HE.out] at hsn hle
      have hcf : costF ⟨key, .slice ap lp.length kp, st, .slice af lf.length kf, body, asked, came⟩ lp lf = It.cost ⟨eid, key, lp, st, lf, body, asked, came⟩ := rfl
      have hBw : B ≤ wr.heap.size := Nat.le_of_lt hr.at
      have hC := refCost_any ⟨key, .slice ap lp.length kp, st, .slice af lf.length kf, body, asked, came⟩ lp lf wr (hlp.fs hBw) (hlf.fs hBw) (by show key.length ≤ _; omega) (by show body.length ≤ _; omega) (by omega) (by omega)
      simp only [En.val] at hC
      rw [hcf] at hC
      simp only at hsn hle
      obtain ⟨C, eC⟩ : ∃ C, C = It.cost ⟨eid, key, lp, st, lf, body, asked, came⟩ := ⟨_, rfl⟩
      rw [← eC] at hC hsn hle
      have HSN := Lib.hid hsn
      clear eC hsn hcf
      go_wp2_with fail
      refine hC.mono ?_
      rintro e w2 ⟨rfl, hb2⟩
      go_wp2
      go_roundw
      case rel => exact ⟨k + 1, by rw [HSN.out]; go_num, by go_num, by omega, hbr.trans (hb2.mono hbr.size)⟩
      case measure => simp [intOf]; omega
    · obtain rfl : k = er.length := by omega
      rw [List.take_length] at eN
      go_wp2
      go_ret
      exact ⟨by rw [← eN]; rfl, hbr⟩

set_option linter.unusedSimpArgs false in
set_option linter.unusedVariables false in
set_option linter.unnecessarySimpa false in
set_option maxRecDepth 100000 in
set_option maxHeartbeats 4000000 in
theorem without_any (er : List Ev) (v : Value) (w : World) (k B : Nat) (hrow : w.ownsRow B 67 8 v er.length (icells er)) (hl : ∀ e ∈ er, EvFs B w e) (hk : k < er.length) (hlen : er.length ≤ 16384) :
    Calls Tryd.prog 34 #[v, .int .i64 k] w fun e w' => ∃ v', e = .returned v' ∧ w'.ownsRow w.heap.size 67 8 v' (er.take k ++ er.drop (k + 1)).length (icells (er.take k ++ er.drop (k + 1))) ∧ Below w.heap.size w w' := by
  obtain ⟨a, c, hv⟩ := row_form hrow
  subst hv
  have hR := Rd.own hrow
  have hT : Rd w.heap.size w 8 (.slice a k c) k (icells (er.take k)) := by
    have := hR.upto (Nat.le_of_lt hk)
    rwa [icells_take er k (Nat.le_of_lt hk)] at this
  have hD : Rd w.heap.size w 8 (sliced a (k + 1) er.length c 8) (er.length - (k + 1)) (icells (er.drop (k + 1))) := by
    have := hR.sliced (k := k + 1) hk
    rwa [icells_drop er (k + 1) hk] at this
  have h1 : ∀ u ∈ icells (er.take k), u.oneCell' = true := icells_one fun e he => hl e (List.mem_of_mem_take he)
  have h2 : ∀ u ∈ icells (er.drop (k + 1)), u.oneCell' = true := icells_one fun e he => hl e (List.mem_of_mem_drop he)
  have hn1 : (er.take k).length = k := by rw [List.length_take]; omega
  have hln : (er.take k ++ er.drop (k + 1)).length = k + (er.length - (k + 1)) := by rw [List.length_append, hn1, List.length_drop]
  have hca : icells (er.take k ++ er.drop (k + 1)) = icells (er.take k) ++ icells (er.drop (k + 1)) := by rw [icells_append]
  have hcap : er.length ≤ c := by
    obtain ⟨a', c', e1, e2, -⟩ := hR
    simp only [Value.slice.injEq, true_and] at e1
    omega
  rw [hln, hca]
  obtain ⟨I1, e1⟩ : ∃ I1, I1 = icells (er.take k) := ⟨_, rfl⟩
  obtain ⟨I2, e2⟩ : ∃ I2, I2 = icells (er.drop (k + 1)) := ⟨_, rfl⟩
  rw [← e1] at hT h1 ⊢
  rw [← e2] at hD h2 ⊢
  clear e1 e2 hrow hl hR hn1 hln hca
  obtain ⟨n, en⟩ : ∃ n, n = er.length := ⟨_, rfl⟩
  rw [← en] at hD hk hlen hcap ⊢
  clear en
  have t1 : IntKind.i64.wrap ((k : Int) + 1) = (k : Int) + 1 := IntWalk.i64_in _ (by omega)
  have t2 : (k : Int) ≤ (c : Int) := by omega
  have t3 : (k : Int) + 1 ≤ (n : Int) := by omega
  have t4 : ((k : Int) + 1).toNat = k + 1 := by omega
  have t5 : k ≤ c := by omega
  have t6 : (0 : Int) ≤ (k : Int) + 1 := by omega
  go_enter Tryd.func34, Tryd.ntmps34
  go_wp2_with fail
  refine wp_region_held_drew (S := (fun _ => True)) (by kernel_rfl) trivial (fun hHeld => ?_)
  refine wpAnyH_take (i := 1) (v := ?_) (by rfl) (by kernel_rfl) (by kernel_rfl) (by kernel_rfl) (by exact fun _ _ _ h => h) (Or.inl ⟨by rfl, ?_⟩) hHeld ?_
  rotate_left
  · (intro w hSw; (try dsimp only at hSw); go_simp; try with_reducible rfl)
  simp only [Act.put, List.getElem_toArray, List.getElem_cons_succ, List.getElem_cons_zero, List.setIfInBounds_toArray, List.set_cons_zero, List.set_cons_succ]
  refine wpAnyH_take (i := 2) (v := ?_) (by rfl) (by kernel_rfl) (by kernel_rfl) (by kernel_rfl) (by exact fun _ _ _ h => h) (Or.inl ⟨by rfl, ?_⟩) hHeld ?_
  rotate_left
  · (intro w hSw; (try dsimp only at hSw); go_simp; try with_reducible rfl)
  simp only [Act.put, List.getElem_toArray, List.getElem_cons_succ, List.getElem_cons_zero, List.setIfInBounds_toArray, List.set_cons_zero, List.set_cons_succ]
  refine wpAnyH_take (i := 3) (v := ?_) (by rfl) (by kernel_rfl) (by kernel_rfl) (by kernel_rfl) (by exact fun _ _ _ h => h) (Or.inl ⟨by rfl, ?_⟩) hHeld ?_
  rotate_left
  · (intro w hSw; (try dsimp only at hSw); go_simp; try with_reducible rfl)
  simp only [Act.put, List.getElem_toArray, List.getElem_cons_succ, List.getElem_cons_zero, List.setIfInBounds_toArray, List.set_cons_zero, List.set_cons_succ]
  refine wpAnyH_take (i := 5) (v := ?_) (by rfl) (by kernel_rfl) (by kernel_rfl) (by kernel_rfl) (by exact fun _ _ _ h => h) (Or.inl ⟨by rfl, ?_⟩) hHeld ?_
  rotate_left
  · (intro w hSw; (try dsimp only at hSw); go_simp; try with_reducible rfl)
  simp only [Act.put, List.getElem_toArray, List.getElem_cons_succ, List.getElem_cons_zero, List.setIfInBounds_toArray, List.set_cons_zero, List.set_cons_succ]
  refine wpAnyH_take (i := 6) (v := ?_) (by rfl) (by kernel_rfl) (by kernel_rfl) (by kernel_rfl) (by exact fun _ _ _ h => h) (Or.inl ⟨by rfl, ?_⟩) hHeld ?_
  rotate_left
  · (intro w hSw; (try dsimp only at hSw); go_simp; try with_reducible rfl)
  simp only [Act.put, List.getElem_toArray, List.getElem_cons_succ, List.getElem_cons_zero, List.setIfInBounds_toArray, List.set_cons_zero, List.set_cons_succ]
  refine wpAnyH_take (i := 7) (v := ?_) (by rfl) (by kernel_rfl) (by kernel_rfl) (by kernel_rfl) (by exact fun _ _ _ h => h) (Or.inl ⟨by rfl, ?_⟩) hHeld ?_
  rotate_left
  · (intro w hSw; (try dsimp only at hSw); go_simp; try with_reducible rfl)
  simp only [Act.put, List.getElem_toArray, List.getElem_cons_succ, List.getElem_cons_zero, List.setIfInBounds_toArray, List.set_cons_zero, List.set_cons_succ]
  refine wpAnyH_take (i := 8) (v := ?_) (by rfl) (by kernel_rfl) (by kernel_rfl) (by kernel_rfl) (by exact fun _ _ _ h => h) (Or.inl ⟨by rfl, ?_⟩) hHeld ?_
  rotate_left
  · (intro w hSw; (try dsimp only at hSw); go_simp; try with_reducible rfl)
  simp only [Act.put, List.getElem_toArray, List.getElem_cons_succ, List.getElem_cons_zero, List.setIfInBounds_toArray, List.set_cons_zero, List.set_cons_succ]
  refine wpAnyH_ready (rs := [0]) (by kernel_rfl) (by simp) ?_
  refine AllReadyH.cons (by rfl) (fun K hK => ?_) AllReadyH.nil
  go_simp
  skip
  refine hK.out _ _ trivial (fun hHeld => ?_)
  clear hK K
  try simp only [Act.put, List.getElem_toArray, List.getElem_cons_succ, List.getElem_cons_zero, List.setIfInBounds_toArray, List.set_cons_zero, List.set_cons_succ]
  refine wpAnyH_ready (rs := [4]) (by kernel_rfl) (by simp) ?_
  refine AllReadyH.cons (by rfl) (fun K hK => ?_) AllReadyH.nil
  (refine step_of ?_ (by rfl); refine wp_appG0 _ _ 30 rfl w.heap.size 67 (.agg Itz) 8 112 Tryd.underlying30 (by kernel_rfl) rfl (by decide) _ rfl (own_lit w.drew w.heap.size rfl w.heap.size (Nat.le_refl _) _ _) _ _ _ _ rfl (hT.below ((Below.refl _ _).drew.alloc (Nat.le_refl _) _)) h1 (by unfold maxLen; omega) (by omega) (by simp) ?_; intro a3 c3 w3 hown3 hb3 hg3; have hb13 : Below w.heap.size w w3 := ((Below.refl w.heap.size w).drew.alloc (Nat.le_refl _) _).trans hb3)
  refine hK.out _ _ trivial (fun hHeld => ?_)
  clear hK K
  try simp only [Act.put, List.getElem_toArray, List.getElem_cons_succ, List.getElem_cons_zero, List.setIfInBounds_toArray, List.set_cons_zero, List.set_cons_succ]
  refine wpAnyH_ready (rs := [9]) (by kernel_rfl) (by simp) ?_
  refine AllReadyH.cons (by rfl) (fun K hK => ?_) AllReadyH.nil
  (refine step_of ?_ (by rfl); refine wp_appG _ _ 30 rfl w.heap.size 67 (.agg Itz) 8 112 Tryd.underlying30 (by kernel_rfl) rfl (by decide) _ _ _ rfl hown3 _ _ _ _ rfl (hD.below hb13) h2 (by unfold maxLen; omega) (by omega) hb13.size ?_; intro a4 c4 w4 hown4 hb4 hg4)
  refine hK.out _ _ trivial (fun hHeld => ?_)
  clear hK K
  try simp only [Act.put, List.getElem_toArray, List.getElem_cons_succ, List.getElem_cons_zero, List.setIfInBounds_toArray, List.set_cons_zero, List.set_cons_succ]
  refine wpAnyH_take (i := 10) (v := ?_) (by rfl) (by kernel_rfl) (by kernel_rfl) (by kernel_rfl) (by exact fun _ _ _ h => h) (Or.inl ⟨by rfl, ?_⟩) hHeld ?_
  rotate_left
  · (intro w hSw; (try dsimp only at hSw); go_simp; try with_reducible rfl)
  simp only [Act.put, List.getElem_toArray, List.getElem_cons_succ, List.getElem_cons_zero, List.setIfInBounds_toArray, List.set_cons_zero, List.set_cons_succ]
  try simp only [Act.put, List.getElem_toArray, List.getElem_cons_succ, List.getElem_cons_zero, List.setIfInBounds_toArray, List.set_cons_zero, List.set_cons_succ]
  refine wpAnyH_done (by kernel_rfl) ?_ _
  go_wp2
  all_goals
    go_ret
    exact ⟨_, rfl, hown4, hb13.trans hb4⟩

set_option linter.unusedSimpArgs false in
set_option linter.unusedVariables false in
set_option linter.unnecessarySimpa false in
set_option maxRecDepth 100000 in
set_option maxHeartbeats 4000000 in
theorem place_any {B r : Nat} {most last : Int} {v : Value} {er : List Ev} (w : World) (h : Rs B w r most last v er) (id : Int) (at' : Nat) (hat : at' ≤ er.length) (hno : ∀ e ∈ er.take at', e.x.id ≠ id) (hyes : ∀ (hl : at' < er.length), er[at'].x.id = id) :
    Calls Tryd.prog 37 #[Ptr r, .int .i64 id] w fun e w' => e = .returned (.int .i64 (if at' < er.length then (at' : Int) else -1)) ∧ Below w.heap.size w w' := by
  obtain ⟨a, c, hv⟩ := row_form h.row
  subst hv
  have hlen := h.len
  obtain ⟨res, eres⟩ : ∃ res : Int, res = if at' < er.length then (at' : Int) else -1 := ⟨_, rfl⟩
  rw [← eres]
  have HRES := Lib.hid eres
  clear eres
  go_enter Tryd.func37, Tryd.ntmps37
  go_wp2
  go_loopw [5] (fun i wr => ∃ k : Nat, i = .int .i64 k ∧ k ≤ at' ∧ wr = w) (fun i _ => er.length - (intOf i).toNat)
  case atStart => exact ⟨0, rfl, Nat.zero_le _, rfl⟩
  case round =>
    obtain ⟨k, rfl, hk, rfl⟩ := hrel
    have x2 : wr.cell? ⟨r, 2, none⟩ = some (.slice a er.length c) := h.blk.cell 2
    by_cases hlt : k < er.length
    · obtain ⟨b, off, rfl, hbb, c0, -⟩ := it_at (Rd.own h.row) k hlt
      by_cases hka : k = at'
      · subst hka
        have hid := hyes hlt
        rw [hid] at c0
        clear hyes hno hid
        go_wp2
        go_ret
        exact ⟨by rw [HRES.out, if_pos hlt]; rfl, Below.refl _ _⟩
      · have hne : er[k].x.id ≠ id := hno _ (List.mem_take_iff_getElem.2 ⟨k, by omega, rfl⟩)
        have hbe : (er[k].x.id == id) = false := by simpa using hne
        obtain ⟨z, ez⟩ : ∃ z, z = er[k].x.id := ⟨_, rfl⟩
        rw [← ez] at c0 hbe hne
        clear ez hno hyes
        go_wp2
        go_roundw
        case rel => exact ⟨k + 1, by go_num, by omega, by first | rfl | trivial⟩
        case measure => simp [intOf]; omega
    · obtain rfl : k = er.length := by omega
      obtain rfl : at' = er.length := by omega
      clear hyes hno
      go_wp2
      go_ret
      exact ⟨by rw [HRES.out, if_neg (Nat.lt_irrefl _)]; rfl, Below.refl _ _⟩

set_option linter.unusedSimpArgs false in
set_option linter.unusedVariables false in
set_option linter.unnecessarySimpa false in
set_option maxRecDepth 100000 in
set_option maxHeartbeats 4000000 in
theorem ret_atR {W : World} {tmps : Array Value} {b : Nat} {v0 v1 v2 v3 v4 v5 v6 : Value} {c : Bool} {R : Ending → World → Prop} (hs : tmps[4]? = some (.pointer (some ⟨b, 0, none⟩))) (hc : tmps[5]? = some (.bool c)) (h : Blk W b 36 #[v0, v1, v2, v3, v4, v5, v6]) (hR : R (.returned (.tuple #[.agg #[v0, v1, v2, v3, v4, v5, v6], .bool c])) W) :
    bodyPost Tryd.prog Tryd.f19 R .ret { tmps := tmps, defers := [] } W := by
  (have g0 : W.cell? ⟨b, 0, none⟩ = some (v0) := h.cell 0; have g1 : W.cell? ⟨b, 1, none⟩ = some (v1) := h.cell 1; have g2 : W.cell? ⟨b, 2, none⟩ = some (v2) := h.cell 2; have g3 : W.cell? ⟨b, 3, none⟩ = some (v3) := h.cell 3; have g4 : W.cell? ⟨b, 4, none⟩ = some (v4) := h.cell 4; have g5 : W.cell? ⟨b, 5, none⟩ = some (v5) := h.cell 5; have g6 : W.cell? ⟨b, 6, none⟩ = some (v6) := h.cell 6)
  exact bodyPost_ret (v := .tuple #[.agg #[v0, v1, v2, v3, v4, v5, v6], .bool c]) (by simp [results, Tryd.results19, go_sem, hs, hc, g0, g1, g2, g3, g4, g5, g6]) rfl hR

def Ev.val (e : Ev) : Value := .agg #[S e.x.key, e.vp, .int .i64 e.x.st, e.vf, S e.x.body, .int .i64 e.x.asked, .int .i64 e.x.came]
set_option linter.unusedSimpArgs false in
set_option linter.unusedVariables false in
set_option linter.unnecessarySimpa false in
set_option maxRecDepth 100000 in
set_option maxHeartbeats 4000000 in
theorem refAt_some {B r : Nat} {most last : Int} {v : Value} {er : List Ev} (w : World) (h : Rs B w r most last v er) (id : Int) (k : Nat) (hlt : k < er.length) (hno : ∀ e ∈ er.take k, e.x.id ≠ id) (hyes : er[k].x.id = id) :
    Calls Tryd.prog 19 #[Ptr r, .int .i64 id] w fun e w' => e = .returned (.tuple #[er[k].val, .bool true]) ∧ Below w.heap.size w w' := by
  obtain ⟨a, c, hv⟩ := row_form h.row
  subst hv
  have hlen := h.len
  obtain ⟨w0, ew⟩ : ∃ w0 : World, w0 = w.alloc (.cells Ez 36) := ⟨_, rfl⟩
  have hb0 : Below w.heap.size w w0 := by rw [ew]; exact (Below.refl _ _).alloc (Nat.le_refl _) _
  have hZ : Blk w0 w.heap.size 36 Ez := by rw [ew]; exact Blk.new _ _ _
  have h0 := h.below hb0
  have hP := place_any w0 h0 id k (Nat.le_of_lt hlt) hno (fun _ => hyes)
  rw [if_pos hlt] at hP
  have t1 : decide ((k : Int) < 0) = false := by simp
  obtain ⟨ev, eev⟩ : ∃ ev, ev = er[k].val := ⟨_, rfl⟩
  rw [← eev]
  have HEV := Lib.hid eev
  clear eev hno hyes
  go_enter Tryd.func19, Tryd.ntmps19
  go_upto_region 1 with fail
  rw [← ew]
  clear ew
  go_wp2_with fail
  refine hP.mono ?_
  rintro e w1 ⟨rfl, hb1⟩
  have hr := h0.below hb1
  have x2 : w1.cell? ⟨r, 2, none⟩ = some (.slice a er.length c) := hr.blk.cell 2
  obtain ⟨b, off, rfl, hbb, c0, c1, c2, c3, c4, c5, c6, c7⟩ := it_at (Rd.own hr.row) k hlt
  have hl := hr.lists er[k] (List.getElem_mem hlt)
  have hco := hr.cost (List.getElem_mem hlt)
  obtain ⟨e, ee⟩ : ∃ e, e = er[k] := ⟨_, rfl⟩
  rw [← ee] at c0 c1 c2 c3 c4 c5 c6 c7 hl hco
  have HE := Lib.hid ee
  clear ee
  obtain ⟨vp, vf, ⟨eid, key, lp, st, lf, body, asked, came⟩⟩ := e
  obtain ⟨ap, kp, hvp, -⟩ := hl.1.form
  obtain ⟨af, kf, hvf, -⟩ := hl.2.form
  simp only at c0 c1 c2 c3 c4 c5 c6 c7 hvp hvf
  subst hvp hvf
  have hlp : Fo 53 B w1 (.slice ap lp.length kp) lp := hl.1
  have hlf : Fo 62 B w1 (.slice af lf.length kf) lf := hl.2
  have hcn : 64 + key.length + body.length + fsum lf + fsum lp ≤ 1048576 := hco
  have d2 : w1.cell? ⟨b, off + k * 8 + 1 + 1, none⟩ = some (.slice ap lp.length kp) := c2
  have d3 : w1.cell? ⟨b, off + k * 8 + 1 + 2, none⟩ = some (.int .i64 st) := c3
  have d4 : w1.cell? ⟨b, off + k * 8 + 1 + 3, none⟩ = some (.slice af lf.length kf) := c4
  have d5 : w1.cell? ⟨b, off + k * 8 + 1 + 4, none⟩ = some (S body) := c5
  have d6 : w1.cell? ⟨b, off + k * 8 + 1 + 5, none⟩ = some (.int .i64 asked) := c6
  have d7 : w1.cell? ⟨b, off + k * 8 + 1 + 6, none⟩ = some (.int .i64 came) := c7
  clear hl hco
  have hev : ev = .agg #[S key, .slice ap lp.length kp, .int .i64 st, .slice af lf.length kf, S body, .int .i64 asked, .int .i64 came] := by
    rw [HEV.out, ← HE.out]
    rfl
  have HV := Lib.hid hev
  have hZ1 := hZ.on hb1
  (have z0 : w1.cell? ⟨w.heap.size, 0, none⟩ = some (S []) := hZ1.cell 0; have z1 : w1.cell? ⟨w.heap.size, 1, none⟩ = some (.slice none 0 0) := hZ1.cell 1; have z2 : w1.cell? ⟨w.heap.size, 2, none⟩ = some (.int .i64 0) := hZ1.cell 2; have z3 : w1.cell? ⟨w.heap.size, 3, none⟩ = some (.slice none 0 0) := hZ1.cell 3; have z4 : w1.cell? ⟨w.heap.size, 4, none⟩ = some (S []) := hZ1.cell 4; have z5 : w1.cell? ⟨w.heap.size, 5, none⟩ = some (.int .i64 0) := hZ1.cell 5; have z6 : w1.cell? ⟨w.heap.size, 6, none⟩ = some (.int .i64 0) := hZ1.cell 6)
  have f0 := hZ1.free 0
  have f1 := hZ1.free 1
  have f2 := hZ1.free 2
  have f3 := hZ1.free 3
  have f4 := hZ1.free 4
  have f5 := hZ1.free 5
  have f6 := hZ1.free 6
  clear hev h h0 hP hr hlp hlf hcn
  go_wp2
  have hB5 := hZ1.put7 (S key) (.slice ap lp.length kp) (.int .i64 st) (.slice af lf.length kf) (S body) (.int .i64 asked) (.int .i64 came)
  refine ret_atR (b := w.heap.size) (c := true) ?_ ?_ hB5 ?_
  · rfl
  · rfl
  · exact ⟨by rw [HV.out], put7_below (Bl.tr hb0 hb1) (Nat.le_refl _) _ _ _ _ _ _ _⟩

set_option linter.unusedSimpArgs false in
set_option linter.unusedVariables false in
set_option linter.unnecessarySimpa false in
set_option maxRecDepth 100000 in
set_option maxHeartbeats 4000000 in
theorem refAt_none {B r : Nat} {most last : Int} {v : Value} {er : List Ev} (w : World) (h : Rs B w r most last v er) (id : Int) (hno : ∀ e ∈ er, e.x.id ≠ id) :
    Calls Tryd.prog 19 #[Ptr r, .int .i64 id] w fun e w' => e = .returned (.tuple #[entZ, .bool false]) ∧ Below w.heap.size w w' := by
  obtain ⟨w0, ew⟩ : ∃ w0 : World, w0 = w.alloc (.cells Ez 36) := ⟨_, rfl⟩
  have hb0 : Below w.heap.size w w0 := by rw [ew]; exact (Below.refl _ _).alloc (Nat.le_refl _) _
  have hZ : Blk w0 w.heap.size 36 Ez := by rw [ew]; exact Blk.new _ _ _
  have hP := place_any w0 (h.below hb0) id er.length (Nat.le_refl _) (by rw [List.take_length]; exact hno) (fun hl => absurd hl (Nat.lt_irrefl _))
  rw [if_neg (Nat.lt_irrefl _)] at hP
  clear h hno
  go_enter Tryd.func19, Tryd.ntmps19
  go_upto_region 1 with fail
  rw [← ew]
  clear ew
  go_wp2_with fail
  refine hP.mono ?_
  rintro e w1 ⟨rfl, hb1⟩
  have hZ1 := hZ.on hb1
  (have z0 : w1.cell? ⟨w.heap.size, 0, none⟩ = some (S []) := hZ1.cell 0; have z1 : w1.cell? ⟨w.heap.size, 1, none⟩ = some (.slice none 0 0) := hZ1.cell 1; have z2 : w1.cell? ⟨w.heap.size, 2, none⟩ = some (.int .i64 0) := hZ1.cell 2; have z3 : w1.cell? ⟨w.heap.size, 3, none⟩ = some (.slice none 0 0) := hZ1.cell 3; have z4 : w1.cell? ⟨w.heap.size, 4, none⟩ = some (S []) := hZ1.cell 4; have z5 : w1.cell? ⟨w.heap.size, 5, none⟩ = some (.int .i64 0) := hZ1.cell 5; have z6 : w1.cell? ⟨w.heap.size, 6, none⟩ = some (.int .i64 0) := hZ1.cell 6)
  have f0 := hZ1.free 0
  have f1 := hZ1.free 1
  have f2 := hZ1.free 2
  have f3 := hZ1.free 3
  have f4 := hZ1.free 4
  have f5 := hZ1.free 5
  have f6 := hZ1.free 6
  clear hP
  go_wp2
  have hB5 := hZ1.put7 (S []) (.slice none 0 0) (.int .i64 0) (.slice none 0 0) (S []) (.int .i64 0) (.int .i64 0)
  refine ret_atR (b := w.heap.size) (c := false) ?_ ?_ hB5 ?_
  · rfl
  · rfl
  · exact ⟨rfl, put7_below (Bl.tr hb0 hb1) (Nat.le_refl _) _ _ _ _ _ _ _⟩
end Go.Proofs.YtnflihjgbkocnaaDoor
