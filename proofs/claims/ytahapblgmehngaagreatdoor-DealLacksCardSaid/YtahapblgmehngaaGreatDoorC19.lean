/- Parts of the proof of DealLacks_holds: the texts Rf13c. -/
import Derived.Test.YtahapblgmehngaaGreatDoorC15
import Derived.Test.YtahapblgmehngaaGreatDoorC12
import Derived.Test.YtahapblgmehngaaGreatDoorC18
set_option linter.unusedSimpArgs false
set_option linter.unusedVariables false
set_option linter.unnecessarySimpa false
namespace Go.Dr
open Go.RowKit
abbrev I8 (n : Nat) : Value := .int .i64 (n : Int)
/-- The numbers of a slice, read. -/
def Is (B : Nat) (w : World) (v : Value) (l : List Nat) : Prop := Rd B w 1 v l.length (l.map I8)
theorem Is.own {base : Nat} {w : World} {e : TypeId} {v : Value} {l : List Nat} (h : w.ownsRow base e 1 v l.length (l.map I8)) : Is w.heap.size w v l := Rd.own h
theorem Is.form {B : Nat} {w : World} {v : Value} {l : List Nat} (h : Is B w v l) : ∃ a cap, v = .slice a l.length cap ∧ l.length ≤ 9223372036854775807 := by
  obtain ⟨a, cap, h1, h2, h3, h4, h5, h6⟩ := h
  exact ⟨a, cap, h1, by unfold maxLen at h3; omega⟩
theorem Is.at {B : Nat} {w : World} {a : Option Addr} {n cap : Nat} {l : List Nat} (h : Is B w (.slice a n cap) l) (k : Nat) (hk : k < l.length) :
    ∃ b off, a = some ⟨b, off, none⟩ ∧ b < B ∧ w.cell? ⟨b, off + k, none⟩ = some (I8 l[k]) := by
  obtain ⟨a', cap', h1, h2, h3, h4, h5, h6⟩ := h
  simp only [Value.slice.injEq] at h1
  obtain ⟨rfl, rfl, rfl⟩ := h1
  obtain ⟨b, off, rfl, hb, c0⟩ := h6 k _ (by rw [List.getElem?_map, List.getElem?_eq_getElem hk]; rfl)
  exact ⟨b, off, rfl, hb, c0⟩
def RetIs (t : TypeId) (w : World) (l : List Nat) (e : Ending) (w' : World) : Prop := ∃ v, e = .returned v ∧ w'.ownsRow w.heap.size t 1 v l.length (l.map I8) ∧ Below w.heap.size w w'
theorem unq_len (n : Nat) : ∀ (out l : Bytes), l.length ≤ n → (unq out l).1.length ≤ out.length + l.length := by
  induction n with
  | zero =>
    intro out l h
    have : l = [] := List.eq_nil_of_length_eq_zero (by omega)
    subst this
    simp [unq]
  | succ n ih =>
    intro out l h
    match l with
    | [] => simp [unq]
    | [c] =>
      unfold unq
      split
      · simp
      · simp
    | c :: d :: r =>
      simp only [List.length_cons] at h
      unfold unq
      split
      · simp
      split
      · have := ih (out ++ [d]) r (by omega)
        simp only [List.length_append, List.length_cons, List.length_nil] at this ⊢
        omega
      · have := ih (out ++ [c]) (d :: r) (by simp; omega)
        simp only [List.length_append, List.length_cons, List.length_nil] at this ⊢
        omega
theorem directive_len (s : Bytes) : (directive s).2.1.length ≤ s.length := by
  have h1 : (eqArg s).length ≤ s.length := by
    unfold eqArg
    rw [List.length_drop]
    have := (List.dropWhile_sublist (fun c => c != 61) (l := s)).length_le
    omega
  have h2 : (unquote (eqArg s)).1.length ≤ (eqArg s).length := by
    unfold unquote
    have := unq_len _ [] ((eqArg s).drop 1) (Nat.le_refl _)
    rw [List.length_drop, List.length_nil] at this
    omega
  unfold directive
  repeat' split
  all_goals (simp; try omega)
theorem dirNum_of (bare : Nat) (s dn da : Bytes) (db : Bool) (h : directive s = (dn, da, db)) : dirNum bare s = if da = [] then bare else numArg da := by unfold dirNum; rw [h]
theorem isDir_of (name s dn da : Bytes) (db : Bool) (h : directive s = (dn, da, db)) : isDir name s = (db && (dn == name)) := by unfold isDir; rw [h]
end Go.Dr
namespace Go.Proofs.YtahapblgmehngaaGreatDoor
open Go.RowKit Go.Dr

set_option maxRecDepth 100000 in
set_option maxHeartbeats 4000000 in
theorem refNumbers_any (all : List Bytes) (name : Bytes) (bare : Nat) (hbare : bare ≤ 1099511627776) (v : Value) (w : World) (h : Ss w.heap.size w v all) (hl : ssum all ≤ 1099511627776) :
    Calls Tryz.prog 75 #[v, S name, .int .i64 (bare : Nat)] w (RetIs 2 w (numsF all name bare)) := by
  obtain ⟨pa, ca, rfl, hm⟩ := h.form
  have hll := ssum_length all
  go_enter Tryz.func75, Tryz.ntmps75
  go_wp2
  go_loopw [7, 8] (fun o i wr => ∃ k : Nat, i = .int .i64 k ∧ k ≤ all.length ∧ wr.ownsRow w.heap.size 2 1 o (numsF (all.take k) name bare).length ((numsF (all.take k) name bare).map I8) ∧ Below w.heap.size w wr) (fun _ i _ => all.length - (intOf i).toNat)
  case atStart => exact ⟨0, rfl, Nat.zero_le _, World.ownsRow_nil _ _ _ _, Below.refl _ _⟩
  case round =>
    obtain ⟨k, rfl, hk, hown, hbel⟩ := hrel
    obtain ⟨wo, rfl⟩ : ∃ wo : World, wo = wr := ⟨_, rfl⟩
    by_cases hlt : k < all.length
    · obtain ⟨b, off, rfl, hbb, c0⟩ := (h.below hbel).at k hlt
      have hs := ssum_mem (List.getElem_mem hlt)
      have HV := Lib.hid (numsF_snoc all name bare k hlt)
      have hnl := numsF_length (all.take k) name bare
      rw [List.length_take] at hnl
      obtain ⟨⟨dn, da, db⟩, hd⟩ : ∃ d, directive all[k] = d := ⟨_, rfl⟩
      have C := refDirective_any all[k] wo (by omega)
      rw [hd] at C
      have HI := Lib.hid (isDir_of name all[k] dn da db hd)
      have HN := Lib.hid (dirNum_of bare all[k] dn da db hd)
      have hdl : da.length ≤ maxLen := by
        have q : da.length ≤ all[k].length := by have q := directive_len all[k]; rw [hd] at q; exact q
        unfold maxLen; omega
      clear hd
      go_wp2_with fail
      refine C.mono ?_
      rintro e w1 ⟨rfl, hb1⟩
      have hw1 := Bl.on hbel hbel.size hb1
      have ho1 := own_below hown hb1
      have hz1 := hw1.size
      clear C
      cases db with
      | false =>
        have HV : Hid (numsF (all.take (k + 1)) name bare = numsF (all.take k) name bare) := by show _ = _; rw [HV.out, HI.out, if_neg (by simp), List.append_nil]
        go_wp2
        go_roundw
        case rel => exact ⟨k + 1, by go_num, by omega, by rw [HV.out]; exact ho1, hw1⟩
        case measure => simp [intOf]; omega
      | true =>
        by_cases hnm : dn = name
        · have g1 : (!dn == name) = false := by simp [hnm]
          have g1' : (dn == name) = true := by simp [hnm]
          have HV : Hid (numsF (all.take (k + 1)) name bare = numsF (all.take k) name bare ++ [dirNum bare all[k]]) := by show _ = _; rw [HV.out, HI.out, if_pos (by simp [hnm])]
          have CD := Lib.hid (fun w => refDecimal_any da w hdl)
          have hle := number_le 10 da
          have HA : Hid (numArg da = if (number 10 da).2 = 11 then greatest else (number 10 da).1) := rfl
          unfold greatest at hle
          generalize number 10 da = nr at *
          generalize dirNum bare all[k] = dx at *
          clear hnm
          go_wp2_with fail
          refine (CD.out _).mono ?_
          rintro e w2 ⟨rfl, hw2⟩
          obtain rfl : w1 = w2 := hw2
          by_cases h11 : nr.2 = 11
          · have g3 : ((nr.2 : Int) == 11) = true := by rw [h11]; rfl
            by_cases hda : da = []
            · have g4 : (da == []) = true := by simp [hda]
              have HX : Hid (dx = bare) := by show _ = _; rw [HN.out, if_pos hda]
              clear h11 hda
              go_wp2_with (at_builtin; refine wpList_app1 rfl _ _ 116 rfl w.heap.size (.int .i64 0) 8 Tryz.underlying116 (by kernel_rfl) rfl rfl _ _ _ rfl ho1 rfl (by omega) (by decide) hz1 ?_; intro a' c' w3 hown3 hb3 hz3)
              go_roundw
              case rel => exact ⟨k + 1, by go_num, by omega, by rw [HV.out, List.map_append, List.length_append, HX.out]; exact hown3, hw1.trans hb3⟩
              case measure => simp [intOf]; omega
            · have g4 : (da == []) = false := by simp [hda]
              have HX : Hid (dx = 1099511627776) := by show _ = _; rw [HN.out, if_neg hda, HA.out, if_pos h11]; rfl
              clear h11 hda
              go_wp2_with (at_builtin; refine wpList_app1 rfl _ _ 116 rfl w.heap.size (.int .i64 0) 8 Tryz.underlying116 (by kernel_rfl) rfl rfl _ _ _ rfl ho1 rfl (by omega) (by decide) hz1 ?_; intro a' c' w3 hown3 hb3 hz3)
              go_roundw
              case rel => exact ⟨k + 1, by go_num, by omega, by rw [HV.out, List.map_append, List.length_append, HX.out]; exact hown3, hw1.trans hb3⟩
              case measure => simp [intOf]; omega
          · have g3 : ((nr.2 : Int) == 11) = false := by rw [beq_eq_false_iff_ne]; omega
            by_cases hda : da = []
            · have g4 : (da == []) = true := by simp [hda]
              have HX : Hid (dx = bare) := by show _ = _; rw [HN.out, if_pos hda]
              clear h11 hda
              go_wp2_with (at_builtin; refine wpList_app1 rfl _ _ 116 rfl w.heap.size (.int .i64 0) 8 Tryz.underlying116 (by kernel_rfl) rfl rfl _ _ _ rfl ho1 rfl (by omega) (by decide) hz1 ?_; intro a' c' w3 hown3 hb3 hz3)
              go_roundw
              case rel => exact ⟨k + 1, by go_num, by omega, by rw [HV.out, List.map_append, List.length_append, HX.out]; exact hown3, hw1.trans hb3⟩
              case measure => simp [intOf]; omega
            · have g4 : (da == []) = false := by simp [hda]
              have HX : Hid (dx = nr.1) := by show _ = _; rw [HN.out, if_neg hda, HA.out, if_neg h11]
              clear h11 hda
              go_wp2_with (at_builtin; refine wpList_app1 rfl _ _ 116 rfl w.heap.size (.int .i64 0) 8 Tryz.underlying116 (by kernel_rfl) rfl rfl _ _ _ rfl ho1 rfl (by omega) (by decide) hz1 ?_; intro a' c' w3 hown3 hb3 hz3)
              go_roundw
              case rel => exact ⟨k + 1, by go_num, by omega, by rw [HV.out, List.map_append, List.length_append, HX.out]; exact hown3, hw1.trans hb3⟩
              case measure => simp [intOf]; omega
        · have g1 : (!dn == name) = true := by simp [hnm]
          have g1' : (dn == name) = false := by simp [hnm]
          have HV : Hid (numsF (all.take (k + 1)) name bare = numsF (all.take k) name bare) := by show _ = _; rw [HV.out, HI.out, if_neg (by simp [hnm]), List.append_nil]
          clear hnm
          go_wp2
          go_roundw
          case rel => exact ⟨k + 1, by go_num, by omega, by rw [HV.out]; exact ho1, hw1⟩
          case measure => simp [intOf]; omega
    · have hkl : k = all.length := by omega
      subst hkl
      rw [List.take_length] at hown
      go_wp2
      go_ret
      exact ⟨_, rfl, hown, hbel⟩

set_option maxRecDepth 100000 in
set_option maxHeartbeats 2000000 in
theorem refEnd_any (l : List Nat) (g : Bool) (hb : ∀ x ∈ l, x ≤ 1099511627776) (v : Value) (w : World) (h : Is w.heap.size w v l) :
    Calls Tryz.prog 74 #[v, .bool g] w fun e w' => e = .returned (.int .i64 (endF l g)) ∧ w = w' := by
  obtain ⟨pa, ca, rfl, hm⟩ := h.form
  have HB := Lib.hid hb
  have HE := Lib.hid (endF_bound l g hb)
  clear hb
  go_enter Tryz.func74, Tryz.ntmps74
  go_wp2
  go_loop [5, 6] (fun n i => ∃ k : Nat, i = .int .i64 k ∧ k ≤ l.length ∧ n = .int .i64 (endF (l.take k) g)) (fun _ i => l.length - (intOf i).toNat)
  case atStart => exact ⟨0, rfl, Nat.zero_le _, rfl⟩
  case round =>
    obtain ⟨k, rfl, hk, rfl⟩ := hrel
    by_cases hlt : k < l.length
    · obtain ⟨b, off, rfl, hbb, c0⟩ := h.at k hlt
      have hx := HB.out _ (List.getElem_mem hlt)
      have hn := HE.out k
      have HV := Lib.hid (endF_snoc l g k hlt)
      obtain ⟨n', hn'⟩ : ∃ n', endF (l.take (k + 1)) g = n' := ⟨_, rfl⟩
      rw [hn'] at HV
      have HW := Lib.hid hn'
      clear hn'
      generalize endF (l.take k) g = n at *
      generalize l[k] = x at *
      by_cases h0 : n < 0
      · have HX : Hid (n' = (x : Int)) := by show _ = _; rw [HV.out]; unfold endStep; rw [if_pos (.inl h0)]
        clear HV
        go_wp2
        go_round
        case rel => exact ⟨k + 1, by go_num, by omega, by rw [HW.out, HX.out]⟩
        case measure => simp [intOf]; omega
      · by_cases h1 : n < (x : Int)
        · have g1 : decide (n < (x : Int)) = true := by rw [decide_eq_true_iff]; exact h1
          cases g with
          | true =>
            have HX : Hid (n' = (x : Int)) := by show _ = _; rw [HV.out]; unfold endStep; rw [if_pos (.inr g1.symm)]
            clear HV
            go_wp2
            go_round
            case rel => exact ⟨k + 1, by go_num, by omega, by rw [HW.out, HX.out]⟩
            case measure => simp [intOf]; omega
          | false =>
            have HX : Hid (n' = n) := by show _ = _; rw [HV.out]; unfold endStep; rw [if_neg (by simp [g1]; omega)]
            clear HV
            go_wp2
            go_round
            case rel => exact ⟨k + 1, by go_num, by omega, by rw [HW.out, HX.out]⟩
            case measure => simp [intOf]; omega
        · have g1 : decide (n < (x : Int)) = false := by rw [decide_eq_false_iff_not]; exact h1
          cases g with
          | false =>
            have HX : Hid (n' = (x : Int)) := by show _ = _; rw [HV.out]; unfold endStep; rw [if_pos (.inr g1.symm)]
            clear HV
            go_wp2
            go_round
            case rel => exact ⟨k + 1, by go_num, by omega, by rw [HW.out, HX.out]⟩
            case measure => simp [intOf]; omega
          | true =>
            have HX : Hid (n' = n) := by show _ = _; rw [HV.out]; unfold endStep; rw [if_neg (by simp [g1]; omega)]
            clear HV
            go_wp2
            go_round
            case rel => exact ⟨k + 1, by go_num, by omega, by rw [HW.out, HX.out]⟩
            case measure => simp [intOf]; omega
    · have hkl : k = l.length := by omega
      subst hkl
      rw [List.take_length]
      go_wp2
      go_ret
      exact ⟨rfl, rfl⟩

theorem refNamed_any (all : List Bytes) (name : Bytes) (v : Value) (w : World) (h : Ss w.heap.size w v all) (hl : ssum all ≤ 1099511627776) :
    Calls Tryz.prog 73 #[v, S name] w fun e w' => e = .returned (.bool (namedF all name)) ∧ Below w.heap.size w w' := by
  have C := Lib.hid (refNumbers_any all name 0 (by decide) v w h hl)
  have HN : Hid (namedF all name = decide (0 < (numsF all name 0).length)) := rfl
  generalize namedF all name = nb at *
  generalize numsF all name 0 = l at *
  go_enter Tryz.func73, Tryz.ntmps73
  go_wp2_with fail
  refine C.out.mono ?_
  rintro e w1 ⟨v1, rfl, ho, hb⟩
  obtain ⟨p, c, rfl, -⟩ := (Is.own ho).form
  generalize l.length = n at *
  go_wp2
  go_ret
  exact ⟨ret_bool (by rw [HN.out]), hb⟩

theorem ret_read {W : World} {tmps : Array Value} {b : Nat} {c : Ctl} {R : Ending → World → Prop} (hs : tmps[2]? = some (.pointer (some ⟨b, 0, none⟩))) (h : Blk W b 80 c.cells) (hR : R (.returned c.val) W) :
    bodyPost Tryz.prog Tryz.f42 R .ret { tmps := tmps, defers := [] } W := by
  (have g0 : W.cell? ⟨b, 0, none⟩ = some (.bool c.ns) := h.cell 0; have g1 : W.cell? ⟨b, 1, none⟩ = some (.bool c.nc) := h.cell 1; have g2 : W.cell? ⟨b, 2, none⟩ = some (.bool c.nt) := h.cell 2; have g3 : W.cell? ⟨b, 3, none⟩ = some (.bool c.pu) := h.cell 3; have g4 : W.cell? ⟨b, 4, none⟩ = some (.bool c.pr) := h.cell 4; have g5 : W.cell? ⟨b, 5, none⟩ = some (.bool c.mr) := h.cell 5; have g6 : W.cell? ⟨b, 6, none⟩ = some (.bool c.px) := h.cell 6; have g7 : W.cell? ⟨b, 7, none⟩ = some (.bool c.oi) := h.cell 7; have g8 : W.cell? ⟨b, 8, none⟩ = some (.int .i64 c.ma) := h.cell 8; have g9 : W.cell? ⟨b, 9, none⟩ = some (.int .i64 c.sm) := h.cell 9; have g10 : W.cell? ⟨b, 10, none⟩ = some (.int .i64 c.mf) := h.cell 10; have g11 : W.cell? ⟨b, 11, none⟩ = some (.int .i64 c.ms) := h.cell 11)
  exact bodyPost_ret (v := c.val) (by simp [results, Tryz.results42, go_sem, hs, g0, g1, g2, g3, g4, g5, g6, g7, g8, g9, g10, g11]) rfl hR

set_option maxRecDepth 100000 in
set_option maxHeartbeats 8000000 in
theorem refRead_any (l : List F) (v : Value) (w : World) (h : Fs w.heap.size w v l) (hl : fsum l ≤ 1099511627776) :
    Calls Tryz.prog 42 #[v] w fun e w' => e = .returned (readC l).val ∧ Below w.heap.size w w' := by
  have HR : Hid (readC l = readR (allOf l cacheControl)) := Lib.hid (readR_eq _).symm
  have hsum := ssum_all l cacheControl
  generalize readC l = C at *
  have hZ0 := Blk.new w 80 #[.bool false, .bool false, .bool false, .bool false, .bool false, .bool false, .bool false, .bool false, .int .i64 0, .int .i64 0, .int .i64 0, .int .i64 0]
  have hb0 : Below w.heap.size w (w.alloc (.cells #[.bool false, .bool false, .bool false, .bool false, .bool false, .bool false, .bool false, .bool false, .int .i64 0, .int .i64 0, .int .i64 0, .int .i64 0] 80)) := (Below.refl _ _).alloc (Nat.le_refl _) _
  have h0 := (h.below hb0).mono hb0.size
  clear h
  go_enter Tryz.func42, Tryz.ntmps42
  go_wp2_with fail
  generalize w.alloc (.cells #[.bool false, .bool false, .bool false, .bool false, .bool false, .bool false, .bool false, .bool false, .int .i64 0, .int .i64 0, .int .i64 0, .int .i64 0] 80) = w0 at *
  refine (refAll_any l cacheControl v w0 h0 hl (by decide)).mono ?_
  rintro e v0 ⟨va, rfl, hva, hc0⟩
  have ht0 := Ss.own hva
  have hw0 := Bl.tr hb0 hc0
  have hY0 := hZ0.on hc0
  clear hva hc0 hb0 hZ0 h0
  generalize allOf l cacheControl = all at *
  obtain ⟨pa, ca, rfl, -⟩ := ht0.form
  have hsum : ssum all ≤ 1099511627776 := by omega
  have NB := Lib.hid (fun name w h => refNamed_any all name (.slice pa all.length ca) w h hsum)
  have NU := Lib.hid (fun name (bare : Nat) hb w h => refNumbers_any all name bare hb (.slice pa all.length ca) w h hsum)
  have LE := Lib.hid (fun name (bare : Nat) (hb : bare ≤ 1099511627776) => numsF_le (all := all) (name := name) hb)
  go_wp2_with fail
  refine (NB.out noStore v0 ht0).mono ?_
  rintro e v1 ⟨rfl, hc1⟩
  have ht1 := (ht0.below hc1).mono hc1.size
  have hw1 := Bl.tr hw0 hc1
  have hY1 := hY0.on hc1
  clear ht0 hw0 hY0 hc1
  obtain ⟨f0, hf0⟩ : ∃ f, namedF all noStore = f := ⟨_, rfl⟩
  rw [hf0]
  have HF0 := Lib.hid hf0
  clear hf0
  go_wp2_with fail
  refine (NB.out noCache v1 ht1).mono ?_
  rintro e v2 ⟨rfl, hc2⟩
  have ht2 := (ht1.below hc2).mono hc2.size
  have hw2 := Bl.tr hw1 hc2
  have hY2 := hY1.on hc2
  clear ht1 hw1 hY1 hc2
  obtain ⟨f1, hf1⟩ : ∃ f, namedF all noCache = f := ⟨_, rfl⟩
  rw [hf1]
  have HF1 := Lib.hid hf1
  clear hf1
  go_wp2_with fail
  refine (NB.out noTransform v2 ht2).mono ?_
  rintro e v3 ⟨rfl, hc3⟩
  have ht3 := (ht2.below hc3).mono hc3.size
  have hw3 := Bl.tr hw2 hc3
  have hY3 := hY2.on hc3
  clear ht2 hw2 hY2 hc3
  obtain ⟨f2, hf2⟩ : ∃ f, namedF all noTransform = f := ⟨_, rfl⟩
  rw [hf2]
  have HF2 := Lib.hid hf2
  clear hf2
  go_wp2_with fail
  refine (NB.out pubName v3 ht3).mono ?_
  rintro e v4 ⟨rfl, hc4⟩
  have ht4 := (ht3.below hc4).mono hc4.size
  have hw4 := Bl.tr hw3 hc4
  have hY4 := hY3.on hc4
  clear ht3 hw3 hY3 hc4
  obtain ⟨f3, hf3⟩ : ∃ f, namedF all pubName = f := ⟨_, rfl⟩
  rw [hf3]
  have HF3 := Lib.hid hf3
  clear hf3
  go_wp2_with fail
  refine (NB.out privName v4 ht4).mono ?_
  rintro e v5 ⟨rfl, hc5⟩
  have ht5 := (ht4.below hc5).mono hc5.size
  have hw5 := Bl.tr hw4 hc5
  have hY5 := hY4.on hc5
  clear ht4 hw4 hY4 hc5
  obtain ⟨f4, hf4⟩ : ∃ f, namedF all privName = f := ⟨_, rfl⟩
  rw [hf4]
  have HF4 := Lib.hid hf4
  clear hf4
  go_wp2_with fail
  refine (NB.out mustRe v5 ht5).mono ?_
  rintro e v6 ⟨rfl, hc6⟩
  have ht6 := (ht5.below hc6).mono hc6.size
  have hw6 := Bl.tr hw5 hc6
  have hY6 := hY5.on hc6
  clear ht5 hw5 hY5 hc6
  obtain ⟨f5, hf5⟩ : ∃ f, namedF all mustRe = f := ⟨_, rfl⟩
  rw [hf5]
  have HF5 := Lib.hid hf5
  clear hf5
  go_wp2_with fail
  refine (NB.out proxyRe v6 ht6).mono ?_
  rintro e v7 ⟨rfl, hc7⟩
  have ht7 := (ht6.below hc7).mono hc7.size
  have hw7 := Bl.tr hw6 hc7
  have hY7 := hY6.on hc7
  clear ht6 hw6 hY6 hc7
  obtain ⟨f6, hf6⟩ : ∃ f, namedF all proxyRe = f := ⟨_, rfl⟩
  rw [hf6]
  have HF6 := Lib.hid hf6
  clear hf6
  go_wp2_with fail
  refine (NB.out onlyIf v7 ht7).mono ?_
  rintro e v8 ⟨rfl, hc8⟩
  have ht8 := (ht7.below hc8).mono hc8.size
  have hw8 := Bl.tr hw7 hc8
  have hY8 := hY7.on hc8
  clear ht7 hw7 hY7 hc8
  obtain ⟨f7, hf7⟩ : ∃ f, namedF all onlyIf = f := ⟨_, rfl⟩
  rw [hf7]
  have HF7 := Lib.hid hf7
  clear hf7
  go_wp2_with fail
  refine (NU.out maxAge 0 (by decide) v8 ht8).mono ?_
  rintro e v9 ⟨u0, rfl, ho0, hc9⟩
  have ht9 := (ht8.below hc9).mono hc9.size
  have hw9 := Bl.tr hw8 hc9
  have hY9 := hY8.on hc9
  clear ht8 hw8 hY8 hc9
  have hi0 := Is.own ho0
  clear ho0
  go_wp2_with fail
  refine (refEnd_any _ false (LE.out maxAge 0 (by decide)) _ _ hi0).mono ?_
  rintro e vq ⟨rfl, hvq⟩
  obtain rfl := hvq
  clear hi0
  obtain ⟨e0, he0⟩ : ∃ x, endF (numsF all maxAge 0) false = x := ⟨_, rfl⟩
  rw [he0]
  have HE0 := Lib.hid he0
  clear he0
  go_wp2_with fail
  refine (NU.out sMaxage 0 (by decide) v9 ht9).mono ?_
  rintro e v10 ⟨u1, rfl, ho1, hc10⟩
  have ht10 := (ht9.below hc10).mono hc10.size
  have hw10 := Bl.tr hw9 hc10
  have hY10 := hY9.on hc10
  clear ht9 hw9 hY9 hc10
  have hi1 := Is.own ho1
  clear ho1
  go_wp2_with fail
  refine (refEnd_any _ false (LE.out sMaxage 0 (by decide)) _ _ hi1).mono ?_
  rintro e vq ⟨rfl, hvq⟩
  obtain rfl := hvq
  clear hi1
  obtain ⟨e1, he1⟩ : ∃ x, endF (numsF all sMaxage 0) false = x := ⟨_, rfl⟩
  rw [he1]
  have HE1 := Lib.hid he1
  clear he1
  go_wp2_with fail
  refine (NU.out minFresh 0 (by decide) v10 ht10).mono ?_
  rintro e v11 ⟨u2, rfl, ho2, hc11⟩
  have ht11 := (ht10.below hc11).mono hc11.size
  have hw11 := Bl.tr hw10 hc11
  have hY11 := hY10.on hc11
  clear ht10 hw10 hY10 hc11
  have hi2 := Is.own ho2
  clear ho2
  go_wp2_with fail
  refine (refEnd_any _ true (LE.out minFresh 0 (by decide)) _ _ hi2).mono ?_
  rintro e vq ⟨rfl, hvq⟩
  obtain rfl := hvq
  clear hi2
  obtain ⟨e2, he2⟩ : ∃ x, endF (numsF all minFresh 0) true = x := ⟨_, rfl⟩
  rw [he2]
  have HE2 := Lib.hid he2
  clear he2
  go_wp2_with fail
  refine (NU.out maxStale 1099511627776 (by decide) v11 ht11).mono ?_
  rintro e v12 ⟨u3, rfl, ho3, hc12⟩
  have ht12 := (ht11.below hc12).mono hc12.size
  have hw12 := Bl.tr hw11 hc12
  have hY12 := hY11.on hc12
  clear ht11 hw11 hY11 hc12
  have hi3 := Is.own ho3
  clear ho3
  go_wp2_with fail
  refine (refEnd_any _ false (LE.out maxStale 1099511627776 (by decide)) _ _ hi3).mono ?_
  rintro e vq ⟨rfl, hvq⟩
  obtain rfl := hvq
  clear hi3
  obtain ⟨e3, he3⟩ : ∃ x, endF (numsF all maxStale 1099511627776) false = x := ⟨_, rfl⟩
  rw [he3]
  have HE3 := Lib.hid he3
  clear he3
  (have z0 : v12.cell? ⟨w.heap.size, 0, none⟩ = some (.bool false) := hY12.cell 0; have z1 : v12.cell? ⟨w.heap.size, 1, none⟩ = some (.bool false) := hY12.cell 1; have z2 : v12.cell? ⟨w.heap.size, 2, none⟩ = some (.bool false) := hY12.cell 2; have z3 : v12.cell? ⟨w.heap.size, 3, none⟩ = some (.bool false) := hY12.cell 3; have z4 : v12.cell? ⟨w.heap.size, 4, none⟩ = some (.bool false) := hY12.cell 4; have z5 : v12.cell? ⟨w.heap.size, 5, none⟩ = some (.bool false) := hY12.cell 5; have z6 : v12.cell? ⟨w.heap.size, 6, none⟩ = some (.bool false) := hY12.cell 6; have z7 : v12.cell? ⟨w.heap.size, 7, none⟩ = some (.bool false) := hY12.cell 7; have z8 : v12.cell? ⟨w.heap.size, 8, none⟩ = some (.int .i64 0) := hY12.cell 8; have z9 : v12.cell? ⟨w.heap.size, 9, none⟩ = some (.int .i64 0) := hY12.cell 9; have z10 : v12.cell? ⟨w.heap.size, 10, none⟩ = some (.int .i64 0) := hY12.cell 10; have z11 : v12.cell? ⟨w.heap.size, 11, none⟩ = some (.int .i64 0) := hY12.cell 11)
  have fz := hY12.free
  have HC : Hid (C = ⟨f0, f1, f2, f3, f4, f5, f6, f7, e0, e1, e2, e3⟩) := by
    show _ = _
    rw [HR.out]
    unfold readR
    rw [HF0.out, HF1.out, HF2.out, HF3.out, HF4.out, HF5.out, HF6.out, HF7.out, HE0.out, HE1.out, HE2.out, HE3.out]
  go_wp2_with fail
  have hR := hY12.set12 (.bool f0) (.bool f1) (.bool f2) (.bool f3) (.bool f4) (.bool f5) (.bool f6) (.bool f7) (.int .i64 e0) (.int .i64 e1) (.int .i64 e2) (.int .i64 e3)
  have hB := Bl.set12 hw12 (b := w.heap.size) (Nat.le_refl _) (.bool f0) (.bool f1) (.bool f2) (.bool f3) (.bool f4) (.bool f5) (.bool f6) (.bool f7) (.int .i64 e0) (.int .i64 e1) (.int .i64 e2) (.int .i64 e3)
  exact ret_read (c := ⟨f0, f1, f2, f3, f4, f5, f6, f7, e0, e1, e2, e3⟩) rfl hR ⟨by rw [HC.out], hB⟩
end Go.Proofs.YtahapblgmehngaaGreatDoor

