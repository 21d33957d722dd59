
/- The walks of layer 13: directives. -/
import Derived.Test.YtcicpboblppfiaaDoorCtl1
namespace Go.Proofs.YtcicpboblppfiaaDoor
open Go.RowKit Go.Dr

theorem Index_at (l : Bytes) (w : World) : Calls Tryd.prog 88 #[S l, S [61]] w fun e w' => e = .returned (.int .i64 (Lib.indexByte l 61)) ∧ w = w' :=
  (Tryd.stringslite_Index_one ⟨l.toArray⟩ 61 w).mono fun _ _ ⟨h1, h2⟩ => ⟨h1, h2.symm⟩
theorem HasPrefix_at (s p : Bytes) (w : World) : Calls Tryd.prog 67 #[S s, S p] w fun e w' => e = .returned (.bool (Lib.hasPrefix s p)) ∧ w = w' :=
  (Tryd.strings_HasPrefix ⟨s.toArray⟩ ⟨p.toArray⟩ w).mono fun _ _ ⟨h1, h2⟩ => ⟨h1, h2.symm⟩

set_option maxHeartbeats 1000000 in
theorem cutLite_any (l : Bytes) (w : World) (hl : l.length ≤ maxLen) :
    Calls Tryd.prog 77 #[S l, S [61]] w fun e w' => e = .returned (.tuple #[S (eqName l), S (eqArg l), .bool (decide (0 ≤ Lib.indexByte l 61))]) ∧ Below w.heap.size w w' := by
  unfold maxLen at hl
  rcases cut_at l with ⟨k, h1, h2, h3, h4⟩ | ⟨h1, h2, h3⟩
  · have H := Lib.hid (And.intro h1 (And.intro h3 h4))
    clear h1 h3 h4
    go_enter Tryd.func77, Tryd.ntmps77
    go_wp2_with fail
    refine (Index_at l w).mono ?_
    rintro e w' ⟨rfl, rfl⟩
    rw [H.out.1]
    go_wp2_with fail
    go_quiet (fail)
    go_wp2
    go_ret3
    exact ⟨by rw [H.out.1, H.out.2.1, H.out.2.2]; simp, below_drewN (Below.refl _ _) _⟩
  · have H := Lib.hid (And.intro h1 (And.intro h2 h3))
    clear h1 h2 h3
    go_enter Tryd.func77, Tryd.ntmps77
    go_wp2_with fail
    refine (Index_at l w).mono ?_
    rintro e w' ⟨rfl, rfl⟩
    rw [H.out.1]
    go_wp2
    go_ret3
    exact ⟨by rw [H.out.1, H.out.2.1, H.out.2.2]; simp, Below.refl _ _⟩

set_option maxHeartbeats 1000000 in
theorem Cut_any (l : Bytes) (w : World) (hl : l.length ≤ maxLen) :
    Calls Tryd.prog 65 #[S l, S [61]] w fun e w' => e = .returned (.tuple #[S (eqName l), S (eqArg l), .bool (decide (0 ≤ Lib.indexByte l 61))]) ∧ Below w.heap.size w w' := by
  go_enter Tryd.func65, Tryd.ntmps65
  go_wp2_with fail
  refine (cutLite_any l w hl).mono ?_
  rintro e w' ⟨rfl, hb⟩
  (generalize hgena : eqName l = a at *; have Ha := Lib.hid hgena; clear hgena)
  (generalize hgenb : eqArg l = b at *; have Hb := Lib.hid hgenb; clear hgenb)
  (generalize hgenc : decide (0 ≤ Lib.indexByte l 61) = c at *; have Hc := Lib.hid hgenc; clear hgenc)
  go_wp2
  go_ret3
  exact ⟨by rw [Ha.out, Hb.out, Hc.out]; rfl, hb⟩

set_option maxHeartbeats 2000000 in
theorem unquote_any (l : Bytes) (w : World) (hl : l.length ≤ 1099511627776) :
    Calls Tryd.prog 68 #[S l] w fun e w' => e = .returned (.tuple #[S (unquote l).1, .bool (unquote l).2]) ∧ Below w.heap.size w w' := by
  by_cases h2 : l.length < 2
  · have HU : Hid (unquote l = ([], false)) := by
      show _ = _
      unfold unquote
      exact unq_end [] l 1 (by omega)
    go_enter Tryd.func68, Tryd.ntmps68
    go_wp2
    go_ret2
    exact ⟨by rw [HU.out]; rfl, Below.refl _ _⟩
  have HU : Hid (unquote l = unq [] (l.drop 1)) := rfl
  go_enter Tryd.func68, Tryd.ntmps68
  go_wp2
  go_loopw [4, 5] (fun v i wr => ∃ (k : Nat) (out : Bytes), i = .int .i64 k ∧ 1 ≤ k ∧ k ≤ l.length ∧ out.length ≤ k ∧ wr.ownsRow w.heap.size 5 1 v out.length (out.map B8) ∧ Hid (unquote l = unq out (l.drop k)) ∧ Below w.heap.size w wr) (fun _ i _ => l.length - (intOf i).toNat)
  case atStart => exact ⟨1, [], rfl, Nat.le_refl _, by omega, by simp, World.ownsRow_nil _ _ _ _, HU, Below.refl _ _⟩
  case round =>
    clear HU
    obtain ⟨k, out, rfl, hk1, hk, ho, hown, HU, hbel⟩ := hrel
    by_cases hlt : k < l.length
    · by_cases c34 : l[k] = 34
      · have g34 : ((l[k].toNat : Int) == 34) = true := u8_eq c34
        have HQ := Lib.hid (unq_quote out l k hlt c34)
        have hc := run_string_own (P := Tryd.prog) wr 109 9 5 w.heap.size u4 out Tryd.underlying109 Tryd.underlying5 Tryd.underlying9 hown
        clear c34
        by_cases he : k + 1 = l.length
        · have ge : ((k : Int) == (l.length : Int) - 1) = true := by rw [beq_iff_eq]; omega
          have HE := Lib.hid he
          clear he
          go_wp2
          go_ret2
          exact ⟨by rw [HU.out, HQ.out, decide_eq_true HE.out]; rfl, hbel⟩
        · have ge : ((k : Int) == (l.length : Int) - 1) = false := by rw [beq_eq_false_iff_ne]; omega
          have HE := Lib.hid he
          clear he
          go_wp2
          go_ret2
          exact ⟨by rw [HU.out, HQ.out, decide_eq_false HE.out]; rfl, hbel⟩
      · have g34 : ((l[k].toNat : Int) == 34) = false := u8_ne c34
        by_cases c92 : l[k] = 92
        · have g92 : ((l[k].toNat : Int) == 92) = true := u8_eq c92
          by_cases he : k + 1 = l.length
          · have HQ := Lib.hid (unq_last out l k hlt c92 he)
            have ge : ((k : Int) + 1 == (l.length : Int)) = true := by rw [← he]; simp
            clear c34 c92 he
            go_wp2
            go_ret2
            exact ⟨by rw [HU.out, HQ.out]; rfl, hbel⟩
          · have hlt2 : k + 1 < l.length := by omega
            have HQ := Lib.hid (unq_two out l k hlt2 c92)
            have ge : ((k : Int) + 1 == (l.length : Int)) = false := by rw [beq_eq_false_iff_ne]; omega
            clear c34 c92 he
            go_wp2_with (at_builtin; refine wpList_app1 rfl _ _ 109 rfl w.heap.size (.int .u8 0) 1 Tryd.underlying109 (by kernel_rfl) rfl rfl _ _ _ rfl hown rfl (by omega) (by decide) hbel.size ?_; intro a' c' w' hown' hb' hz')
            go_roundw
            case rel => exact ⟨k + 1 + 1, out ++ [l[k + 1]], by go_num, by omega, by omega, by simp; omega, by simpa using hown', by show _ = _; rw [HU.out, HQ.out], hbel.trans hb'⟩
            case measure => simp [intOf]; omega
        · have g92 : ((l[k].toNat : Int) == 92) = false := u8_ne c92
          have HQ := Lib.hid (unq_one out l k hlt c34 c92)
          clear c34 c92
          go_wp2_with (at_builtin; refine wpList_app1 rfl _ _ 109 rfl w.heap.size (.int .u8 0) 1 Tryd.underlying109 (by kernel_rfl) rfl rfl _ _ _ rfl hown rfl (by omega) (by decide) hbel.size ?_; intro a' c' w' hown' hb' hz')
          go_roundw
          case rel => exact ⟨k + 1, out ++ [l[k]], by go_num, by omega, by omega, by simp; omega, by simpa using hown', by show _ = _; rw [HU.out, HQ.out], hbel.trans hb'⟩
          case measure => simp [intOf]; omega
    · have HQ := Lib.hid (unq_end out l k (by omega))
      go_wp2
      go_ret2
      exact ⟨by rw [HU.out, HQ.out]; rfl, hbel⟩

end Go.Proofs.YtcicpboblppfiaaDoor
