/- Parts of the proof of DealLacks_holds: the texts Oct. -/
import Derived.Shelf.Strings.SlTrimAscii
import Derived.Test.YtahapblgmehngaaGreatDoorC1
import Derived.Test.YtahapblgmehngaaGreatDoorRows
import Derived.Test.YtahapblgmehngaaGreatDoorC2
set_option linter.unusedSimpArgs false
set_option linter.unusedVariables false
set_option linter.unnecessarySimpa false
namespace Go.Proofs.YtahapblgmehngaaGreatDoor
open Go.RowKit Go.Dr

theorem or32n : ∀ n, n < 256 → 65 ≤ n → n ≤ 90 → bits .or .u8 ((n : Nat) : Int) 32 = (n : Int) + 32 := by decide +kernel
theorem or32 (c : UInt8) (h1 : 65 ≤ c.toNat) (h2 : c.toNat ≤ 90) : bits .or .u8 (c.toNat : Int) 32 = (c.toNat : Int) + 32 := or32n _ (UInt8.toNat_lt c) h1 h2

set_option maxHeartbeats 400000 in
theorem Lower_any (l : Bytes) (w : World) (hl : l.length ≤ maxLen) :
    Calls Tryz.prog 93 #[S l] w fun e w' => e = .returned (S (low l)) ∧ Below w.heap.size w w' := by
  unfold maxLen at hl
  obtain ⟨cap, w1, hrun, hcap, hrow, hbel, hsz⟩ := run_bytes_row (P := Tryz.prog) w 9 124 5 l Tryz.underlying9 Tryz.underlying124 Tryz.underlying5
  go_enter Tryz.func93, Tryz.ntmps93
  go_wp2
  clear hrun
  go_loopw [10] (fun i wr => ∃ k : Nat, k ≤ l.length ∧ i = .int .i64 k ∧ BRow wr 5 w.heap.size (lowTo l k) ∧ Below w.heap.size w wr) (fun i _ => l.length - (intOf i).toNat)
  case atStart => exact ⟨0, Nat.zero_le _, rfl, by rw [lowTo_zero]; exact hrow, hbel⟩
  case round =>
    obtain ⟨k, hk, rfl, hrow, hbel⟩ := hrel
    by_cases hlt : k < l.length
    · have c0 := hrow.cell k (by rw [lowTo_length]; exact hlt)
      rw [lowTo_get l k hlt] at c0
      have f0 := hrow.free k (by rw [lowTo_length]; exact hlt)
      by_cases h1 : 65 ≤ l[k].toNat
      · by_cases h2 : l[k].toNat ≤ 90
        · go_wp2
          go_roundw
          case rel =>
            refine ⟨k + 1, by omega, by go_num, ?_, hbel.setCell (Nat.le_refl _) _⟩
            rw [← lowTo_set l k hlt]
            have := hrow.set k (lowB l[k])
            rw [lowB_up _ h1 h2, ← or32 _ h1 h2] at this
            exact this
          case measure => simp [intOf]; omega
        · go_wp2
          go_roundw
          case rel => exact ⟨k + 1, by omega, by go_num, by rw [← lowTo_skip l k hlt (lowB_no _ (by omega))]; exact hrow, hbel⟩
          case measure => simp [intOf]; omega
      · go_wp2
        go_roundw
        case rel => exact ⟨k + 1, by omega, by go_num, by rw [← lowTo_skip l k hlt (lowB_no _ (by omega))]; exact hrow, hbel⟩
        case measure => simp [intOf]; omega
    · have hc := run_string_row (P := Tryz.prog) wr 124 9 5 w.heap.size cap (lowTo l k) Tryz.underlying124 Tryz.underlying5 Tryz.underlying9 hrow
      rw [lowTo_length, lowTo_all l k (by omega)] at hc
      go_wp2
      go_ret
      exact ⟨rfl, hbel⟩

set_option maxHeartbeats 400000 in
theorem Same_any (a b : Bytes) (w : World) (ha : a.length ≤ maxLen) (hb : b.length ≤ maxLen) :
    Calls Tryz.prog 98 #[S a, S b] w fun e w' => e = .returned (.bool (same a b)) ∧ Below w.heap.size w w' := by
  have ha' := ha
  unfold maxLen at ha'
  by_cases h : a.length = b.length
  · have h1 : ((a.length : Int) == (b.length : Int)) = true := by simp [h]
    go_enter Tryz.func98, Tryz.ntmps98
    go_wp2_with fail
    refine (Lower_any _ _ ha).mono ?_
    rintro e w1 ⟨rfl, hb1⟩
    go_wp2_with fail
    refine (Lower_any _ _ hb).mono ?_
    rintro e w2 ⟨rfl, hb2⟩
    go_wp2
    go_ret
    exact ⟨rfl, Bl.tr hb1 hb2⟩
  · have h1 : ((a.length : Int) == (b.length : Int)) = false := by simp; omega
    have h2 : same a b = false := by
      unfold same
      rw [beq_eq_false_iff_ne]
      intro e
      exact h (by rw [← low_length a, e, low_length])
    go_enter Tryz.func98, Tryz.ntmps98
    go_wp2
    go_ret
    exact ⟨by rw [h2]; rfl, Below.refl _ _⟩

theorem blank_eq (c : UInt8) : isBlank c = (((c.toNat : Int) == 32) || ((c.toNat : Int) == 9)) := by
  unfold isBlank
  rw [Bool.eq_iff_iff]
  simp [← UInt8.toNat_inj]
  omega

set_option maxHeartbeats 400000 in
theorem Blank_any (c : UInt8) (w : World) :
    Calls Tryz.prog 137 #[.int .u8 (c.toNat : Int)] w fun e w' => e = .returned (.bool (isBlank c)) ∧ w = w' := by
  have hb := blank_eq c
  by_cases h : (c.toNat : Int) = 32
  · have h1 : ((c.toNat : Int) == 32) = true := by simpa using h
    rw [h1] at hb
    clear h
    go_enter Tryz.func137, Tryz.ntmps137
    go_wp2
    go_ret
    exact ⟨ret_bool (by rw [hb]; rfl), rfl⟩
  · have h1 : ((c.toNat : Int) == 32) = false := by simpa using h
    rw [h1] at hb
    clear h
    go_enter Tryz.func137, Tryz.ntmps137
    go_wp2
    go_ret
    exact ⟨ret_bool (by rw [hb]; rfl), rfl⟩

set_option maxHeartbeats 1000000 in
theorem refTrim_any (l : Bytes) (w : World) (hl : l.length ≤ maxLen) :
    Calls Tryz.prog 114 #[S l] w fun e w' => e = .returned (S (trim l)) ∧ w = w' := by
  unfold maxLen at hl
  go_enter Tryz.func114, Tryz.ntmps114
  go_wp2
  go_loop [0] (fun v => ∃ r : Bytes, r.length ≤ 9223372036854775807 ∧ Hid (trimL r = trimL l) ∧ v = S r) (fun v => match v with | .string s => s.size | _ => 0)
  case atStart => exact ⟨l, by omega, rfl, rfl⟩
  case round =>
    obtain ⟨r, hr, HT, rfl⟩ := hrel
    by_cases hgo : ∃ h : 0 < r.length, isBlank r[0] = true
    · obtain ⟨h0, hb⟩ := hgo
      have HY := Lib.hid (trimL_yes r h0 hb)
      go_wp2_with (go_at_call 137; refine (Blank_any _ _).mono ?_; rintro e w' ⟨rfl, rfl⟩)
      go_round
      case rel => exact ⟨r.tail, by simp; omega, HY.out.trans HT.out, rfl⟩
      case measure => simp [ByteArray.size]; omega
    · have HY := Lib.hid (trimL_no r (fun h => by simpa using fun hb => hgo ⟨h, hb⟩))
      have HR : Hid (trimR r = trim l) := by show _ = _; rw [trim, ← HT.out, HY.out]
      clear HY HT
      by_cases h0 : 0 < r.length
      all_goals
        first
          | (have hb' : isBlank r[0] = false := by simpa using fun hb => hgo ⟨h0, hb⟩
             clear hgo
             go_wp2_with (go_at_call 137; refine (Blank_any _ _).mono ?_; rintro e w' ⟨rfl, rfl⟩))
          | (clear hgo
             go_wp2)
        go_loop [0] (fun v => ∃ q : Bytes, q.length ≤ 9223372036854775807 ∧ Hid (trimR q = trim l) ∧ v = S q) (fun v => match v with | .string s => s.size | _ => 0)
        case atStart => exact ⟨r, hr, HR, rfl⟩
        case round =>
          obtain ⟨q, hq, HQ, rfl⟩ := hrel
          by_cases hgo : ∃ h : 0 < q.length, isBlank q[q.length - 1] = true
          · obtain ⟨h0, hb⟩ := hgo
            have HY := Lib.hid (trimR_yes q h0 hb)
            go_wp2_with (go_at_call 137; refine (Blank_any _ _).mono ?_; rintro e w' ⟨rfl, rfl⟩)
            go_round
            case rel => exact ⟨q.take (q.length - 1), by simp; omega, HY.out.trans HQ.out, rfl⟩
            case measure => simp [ByteArray.size]; omega
          · have HY := Lib.hid (trimR_no q (fun h => by simpa using fun hb => hgo ⟨h, hb⟩))
            by_cases h0 : 0 < q.length
            · have hb' : isBlank q[q.length - 1] = false := by simpa using fun hb => hgo ⟨h0, hb⟩
              clear hgo
              go_wp2_with (go_at_call 137; refine (Blank_any _ _).mono ?_; rintro e w' ⟨rfl, rfl⟩)
              go_ret
              exact ⟨ret_S (by rw [← HQ.out, HY.out]), rfl⟩
            · clear hgo
              go_wp2
              go_ret
              exact ⟨ret_S (by rw [← HQ.out, HY.out]), rfl⟩

theorem trimS_eq (l : Bytes) : Lib.trimS l [32, 9] = trim l := by
  have e : (fun c : UInt8 => [32, 9].contains c) = isBlank := by
    funext c
    by_cases h1 : c = 32 <;> by_cases h2 : c = 9 <;> simp [isBlank, h1, h2]
  rw [trim, ← trim_comm]
  simp only [Lib.trimS, Lib.trimLeftS, Lib.trimRightS, e]
  rfl

set_option maxHeartbeats 400000 in
theorem Trim_any (l : Bytes) (w : World) (hl : l.length ≤ maxLen) :
    Calls Tryz.prog 139 #[S l] w fun e w' => e = .returned (S (trim l)) ∧ Below w.heap.size w w' := by
  unfold maxLen at hl
  have hcon := Any.strings_Trim_laid Tryz.lays160 (by kernel_rfl) ⟨l.toArray⟩ ⟨#[32, 9]⟩ w (by show l.length ≤ _; omega) (by decide) (ascii_of_all (by decide))
  change Calls Tryz.prog 159 _ _ (fun e w' => e = .returned (.string ⟨(Lib.trimS l [32, 9]).toArray⟩) ∧ Below w.heap.size w w') at hcon
  rw [trimS_eq] at hcon
  have HC := Lib.hid hcon
  clear hcon
  go_enter Tryz.func139, Tryz.ntmps139
  go_wp2_with (go_at_call 159; refine HC.out.mono ?_; rintro e w' ⟨rfl, hB⟩)
  go_ret
  exact ⟨rfl, hB⟩

set_option maxHeartbeats 1000000 in
theorem refLower_any (l : Bytes) (w : World) (hl : l.length ≤ 1099511627776) :
    Calls Tryz.prog 46 #[S l] w fun e w' => e = .returned (S (low l)) ∧ Below w.heap.size w w' := by
  go_enter Tryz.func46, Tryz.ntmps46
  go_wp2
  go_loopw [3, 4] (fun v i wr => ∃ k : Nat, k ≤ l.length ∧ i = .int .i64 k ∧ wr.ownsRow w.heap.size 5 1 v k ((low (l.take k)).map B8) ∧ Below w.heap.size w wr) (fun _ i _ => l.length - (intOf i).toNat)
  case atStart => exact ⟨0, Nat.zero_le _, rfl, World.ownsRow_made w #[] 0 (Nat.le_refl _) (Nat.zero_le _) rfl, (Below.refl _ _).alloc (Nat.le_refl _) _⟩
  case round =>
    obtain ⟨k, hk, rfl, hown, hbel⟩ := hrel
    by_cases hlt : k < l.length
    · have HN := Lib.hid (take_snoc l k hlt)
      by_cases h1 : 65 ≤ l[k].toNat
      · by_cases h2 : l[k].toNat ≤ 90
        · have h3 := lowB_up _ h1 h2
          have HN : Hid ((low (l.take k)).map B8 ++ [.int .u8 ((l[k].toNat : Int) + 32)] = (low (l.take (k + 1))).map B8) := by
            show _ = _
            rw [HN.out, low, low, List.map_append, List.map_append, ← h3]
            rfl
          clear h3
          go_wp2_with (at_builtin; refine wpList_app1 rfl _ _ 124 rfl w.heap.size (.int .u8 0) 1 Tryz.underlying124 (by kernel_rfl) rfl rfl _ _ _ rfl hown rfl (by omega) (by decide) hbel.size ?_; intro a' c' w' hown' hb' hz')
          go_roundw
          case rel => exact ⟨k + 1, by omega, by go_num, by rw [← HN.out]; exact hown', hbel.trans hb'⟩
          case measure => simp [intOf]; omega
        · skip
          have HN : Hid ((low (l.take k)).map B8 ++ [B8 l[k]] = (low (l.take (k + 1))).map B8) := by
            show _ = _
            rw [HN.out, low, low, List.map_append, List.map_append]
            simp only [List.map_cons, List.map_nil]
            rw [lowB_no _ (by omega)]
          go_wp2_with (at_builtin; refine wpList_app1 rfl _ _ 124 rfl w.heap.size (.int .u8 0) 1 Tryz.underlying124 (by kernel_rfl) rfl rfl _ _ _ rfl hown rfl (by omega) (by decide) hbel.size ?_; intro a' c' w' hown' hb' hz')
          go_roundw
          case rel => exact ⟨k + 1, by omega, by go_num, by rw [← HN.out]; exact hown', hbel.trans hb'⟩
          case measure => simp [intOf]; omega
      · skip
        have HN : Hid ((low (l.take k)).map B8 ++ [B8 l[k]] = (low (l.take (k + 1))).map B8) := by
          show _ = _
          rw [HN.out, low, low, List.map_append, List.map_append]
          simp only [List.map_cons, List.map_nil]
          rw [lowB_no _ (by omega)]
        go_wp2_with (at_builtin; refine wpList_app1 rfl _ _ 124 rfl w.heap.size (.int .u8 0) 1 Tryz.underlying124 (by kernel_rfl) rfl rfl _ _ _ rfl hown rfl (by omega) (by decide) hbel.size ?_; intro a' c' w' hown' hb' hz')
        go_roundw
        case rel => exact ⟨k + 1, by omega, by go_num, by rw [← HN.out]; exact hown', hbel.trans hb'⟩
        case measure => simp [intOf]; omega
    · have hk' : k = l.length := by omega
      subst hk'
      have hc := run_string_own (P := Tryz.prog) wr 124 9 5 w.heap.size u3 (low l) Tryz.underlying124 Tryz.underlying5 Tryz.underlying9 (by rw [low_length]; rw [List.take_length] at hown; exact hown)
      go_wp2
      go_ret
      exact ⟨rfl, hbel⟩

set_option maxHeartbeats 400000 in
theorem refSame_any (a b : Bytes) (w : World) (ha : a.length ≤ 1099511627776) (hb : b.length ≤ 1099511627776) :
    Calls Tryz.prog 110 #[S a, S b] w fun e w' => e = .returned (.bool (same a b)) ∧ Below w.heap.size w w' := by
  go_enter Tryz.func110, Tryz.ntmps110
  go_wp2_with fail
  refine (refLower_any _ _ ha).mono ?_
  rintro e w1 ⟨rfl, hb1⟩
  go_wp2_with fail
  refine (refLower_any _ _ hb).mono ?_
  rintro e w2 ⟨rfl, hb2⟩
  go_wp2
  go_ret
  exact ⟨rfl, Bl.tr hb1 hb2⟩

/-- Two fields, held one against the other cell by cell. -/
theorem f_eq (a b : F) : (a == b) = (a.n == b.n && a.v == b.v && a.m == b.m) := by
  rw [Bool.eq_iff_iff]
  cases a
  cases b
  simp
  constructor
  · rintro ⟨rfl, rfl, rfl⟩; simp
  · rintro ⟨⟨rfl, rfl⟩, rfl⟩; simp

set_option maxHeartbeats 1000000 in
theorem Fields_any (a b : List F) (va vb : Value) (w : World) (ha : Fs w.heap.size w va a) (hb : Fs w.heap.size w vb b) :
    Calls Tryz.prog 53 #[va, vb] w fun e w' => e = .returned (.bool (a == b)) ∧ Below w.heap.size w w' := by
  obtain ⟨pa, ca, rfl, hma⟩ := ha.form
  obtain ⟨pb, cb, rfl, hmb⟩ := hb.form
  by_cases hlen : a.length = b.length
  · have h1 : ((a.length : Int) == (b.length : Int)) = true := by simp [hlen]
    have h2 : ((a.length : Int) != (b.length : Int)) = false := by simp [hlen]
    have HL := Lib.hid hlen
    clear hlen
    go_enter Tryz.func53, Tryz.ntmps53
    go_wp2
    go_loopw [5] (fun i wr => ∃ k : Nat, k ≤ a.length ∧ i = .int .i64 k ∧ Hid (a.take k = b.take k) ∧ Below w.heap.size w wr) (fun i _ => a.length - (intOf i).toNat)
    case atStart => exact ⟨0, Nat.zero_le _, rfl, rfl, Below.refl _ _⟩
    case round =>
      obtain ⟨k, hk, rfl, HT, hbel⟩ := hrel
      by_cases hlt : k < a.length
      · have hlt' : k < b.length := by rw [← HL.out]; exact hlt
        obtain ⟨ba, oa, rfl, hba, hca0, hca1, hca2⟩ := (ha.below hbel).at k hlt
        obtain ⟨bb, ob, rfl, hbb, hcb0, hcb1, hcb2⟩ := (hb.below hbel).at k hlt'
        have HE := Lib.hid (f_eq a[k] b[k])
        by_cases e1 : a[k].n = b[k].n
        · by_cases e2 : a[k].v = b[k].v
          · by_cases e3 : a[k].m = b[k].m
            · have he : a[k] = b[k] := by rw [← beq_iff_eq, HE.out]; simp [e1, e2, e3]
              have HN := Lib.hid (take_eq_succ hlt hlt' HT.out he)
              clear he
              go_wp2_with fail
              go_quiet (fail)
              go_wp2
              go_roundw
              case rel => exact ⟨k + 1, by omega, by go_num, HN, below_drewN hbel _⟩
              case measure => simp [intOf]; omega
            · have HN := Lib.hid (ne_of_get hlt hlt' (fun h => e3 (by rw [h])))
              go_wp2_with fail
              go_quiet (fail)
              go_wp2
              go_ret
              exact ⟨ret_bool (by symm; rw [beq_eq_false_iff_ne]; exact HN.out), below_drewN hbel _⟩
          · have HN := Lib.hid (ne_of_get hlt hlt' (fun h => e2 (by rw [h])))
            go_wp2_with fail
            go_quiet (fail)
            go_wp2
            go_ret
            exact ⟨ret_bool (by symm; rw [beq_eq_false_iff_ne]; exact HN.out), below_drewN hbel _⟩
        · have HN := Lib.hid (ne_of_get hlt hlt' (fun h => e1 (by rw [h])))
          go_wp2_with fail
          go_quiet (fail)
          go_wp2
          go_ret
          exact ⟨ret_bool (by symm; rw [beq_eq_false_iff_ne]; exact HN.out), below_drewN hbel _⟩
      · go_wp2
        go_ret
        exact ⟨ret_bool (by symm; rw [beq_iff_eq]; have := HT.out; rwa [List.take_of_length_le (by omega), List.take_of_length_le (by rw [← HL.out]; omega)] at this), hbel⟩
  · have h1 : ((a.length : Int) == (b.length : Int)) = false := by simp; omega
    have h2 : ((a.length : Int) != (b.length : Int)) = true := by simp; omega
    go_enter Tryz.func53, Tryz.ntmps53
    go_wp2
    go_ret
    exact ⟨ret_bool (by symm; rw [beq_eq_false_iff_ne]; intro e; exact hlen (by rw [e])), Below.refl _ _⟩

end Go.Proofs.YtahapblgmehngaaGreatDoor
namespace Go.Proofs.YtahapblgmehngaaGreatDoor
open Go.RowKit Go.Dr

set_option maxRecDepth 100000 in
set_option maxHeartbeats 1000000 in
theorem FBytes_any (l : List F) (v : Value) (w : World) (h : Fs w.heap.size w v l) (hb : ∀ f ∈ l, f.n.length ≤ 140737488355328 ∧ f.v.length ≤ 140737488355328) :
    Calls Tryz.prog 29 #[v] w fun e w' => e = .returned (.int .i64 (fbytes l : Nat)) ∧ Below w.heap.size w w' := by
  obtain ⟨pa, ca, rfl, hm⟩ := h.form
  go_enter Tryz.func29, Tryz.ntmps29
  go_wp2
  go_loopw [3, 4] (fun n i wr => ∃ k : Nat, k ≤ l.length ∧ i = .int .i64 k ∧ n = .int .i64 (fbytes (l.take k) : Nat) ∧ fbytes (l.take k) ≤ 844424930131968 ∧ Below w.heap.size w wr) (fun _ i _ => l.length - (intOf i).toNat)
  case atStart => exact ⟨0, Nat.zero_le _, rfl, rfl, Nat.zero_le _, Below.refl _ _⟩
  case round =>
    obtain ⟨k, hk, rfl, rfl, hle, hbel⟩ := hrel
    by_cases hlt : k < l.length
    · obtain ⟨b, off, rfl, hbb, c0, c1, c2⟩ := (h.below hbel).at k hlt
      obtain ⟨b1, b2⟩ := hb l[k] (List.getElem_mem hlt)
      clear hb
      have HS : Hid (fbytes (l.take (k + 1)) = fbStep (fbytes (l.take k)) l[k]) := by show _ = _; rw [take_snoc l k hlt, fbytes_snoc]
      generalize fbytes (l.take k) = s at *
      by_cases hs : s < 1073741824
      · have HS : Hid (fbytes (l.take (k + 1)) = s + l[k].n.length + l[k].v.length + 32) := by show _ = _; rw [HS.out, fbStep, if_pos hs]
        have hq : decide ((s : Int) < 1073741824) = true := by rw [decide_eq_true_iff]; omega
        have HQ := Lib.hid hs
        clear hs
        go_wp2_with fail
        go_quiet (fail)
        go_wp2
        go_roundw
        case rel => exact ⟨k + 1, by omega, by go_num, by rw [HS.out]; go_num, by rw [HS.out]; have := HQ.out; omega, below_drewN hbel _⟩
        case measure => simp [intOf]; omega
      · have HS : Hid (fbytes (l.take (k + 1)) = s) := by show _ = _; rw [HS.out, fbStep, if_neg hs]
        have hq : decide ((s : Int) < 1073741824) = false := by rw [decide_eq_false_iff_not]; omega
        have HQ := Lib.hid hs
        clear hs
        go_wp2
        go_roundw
        case rel => exact ⟨k + 1, by omega, by go_num, by rw [HS.out], by rw [HS.out]; omega, hbel⟩
        case measure => simp [intOf]; omega
    · have hk' : k = l.length := by omega
      subst hk'
      rw [List.take_length] at *
      go_wp2
      go_ret
      exact ⟨rfl, hbel⟩

end Go.Proofs.YtahapblgmehngaaGreatDoor

