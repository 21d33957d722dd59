
/- The walk of the reference's Elements. -/
import Derived.Test.YtpbmmkonlboegaaDoorOct2
namespace Go.Proofs.YtpbmmkonlboegaaDoor
open Go.RowKit Go.Dr

set_option maxRecDepth 100000 in
set_option maxHeartbeats 2000000 in
theorem refElements_any (l : Bytes) (w : World) (hl : l.length ≤ 1099511627776) :
    Calls Tryd.prog 78 #[S l] w (RetSs 9 w (elems l)) := by
  go_enter Tryd.func78, Tryd.ntmps78
  go_wp2
  go_loopw [3, 4, 5] (fun v vs i wr => ∃ (k : Nat) (out : List Bytes) (s : Bytes), i = .int .i64 k ∧ vs = S s ∧ k ≤ l.length + 1 ∧ s.length ≤ k ∧ out.length ≤ k ∧ wr.ownsRow w.heap.size 9 1 v out.length (out.map S) ∧ Hid (elTail l out s k = elems l) ∧ Below w.heap.size w wr) (fun _ _ i _ => l.length + 1 - (intOf i).toNat)
  case atStart => exact ⟨0, [], [], rfl, rfl, Nat.zero_le _, Nat.zero_le _, Nat.zero_le _, World.ownsRow_nil _ _ _ _, elTail_zero l, Below.refl _ _⟩
  case round =>
    obtain ⟨k, out, s, rfl, rfl, hk, hs, ho, hown, HT, hbel⟩ := hrel
    by_cases hle : k ≤ l.length
    · by_cases hput : ∀ h : k < l.length, l[k] = 44
      · have HP := Lib.hid (elTail_put l out s k hle hput)
        have HR : Hid (elTail l (out ++ fin s) [] (k + 1) = elems l) := by show _ = _; rw [HP.out, HT.out]
        have htl := trim_length s
        by_cases htr : trim s = []
        · have HF := Lib.hid (fin_nil s htr)
          by_cases hlt : k < l.length
          · have h1 : ((k : Int) == (l.length : Int)) = false := i_ne (Nat.ne_of_lt hlt)
            have h2 : ((l[k].toNat : Int) == 44) = true := u8_eq (hput hlt)
            clear hput
            go_wp2_with (go_at_call 92; refine (refTrim_any _ _ (by unfold maxLen; omega)).mono ?_; rintro e w' ⟨rfl, rfl⟩)
            go_roundw
            case rel => exact ⟨k + 1, out, [], by go_num, rfl, by omega, by simp, by omega, hown, by rw [HF.out, List.append_nil] at HR; exact HR, hbel⟩
            case measure => simp [intOf]; omega
          · have h1 : ((k : Int) == (l.length : Int)) = true := i_eq (Nat.le_antisymm hle (Nat.not_lt.1 hlt))
            clear hput
            go_wp2_with (go_at_call 92; refine (refTrim_any _ _ (by unfold maxLen; omega)).mono ?_; rintro e w' ⟨rfl, rfl⟩)
            go_roundw
            case rel => exact ⟨k + 1, out, [], by go_num, rfl, by omega, by simp, by omega, hown, by rw [HF.out, List.append_nil] at HR; exact HR, hbel⟩
            case measure => simp [intOf]; omega
        · have HF := Lib.hid (fin_one s htr)
          have hI : (!(trim s).isEmpty) = true := by simpa using htr
          clear htr
          by_cases hlt : k < l.length
          · have h1 : ((k : Int) == (l.length : Int)) = false := i_ne (Nat.ne_of_lt hlt)
            have h2 : ((l[k].toNat : Int) == 44) = true := u8_eq (hput hlt)
            clear hput
            go_wp2_with (first | (at_builtin; refine wpList_app1 rfl _ _ 39 rfl w.heap.size (.string ByteArray.empty) 16 Tryd.underlying39 (by kernel_rfl) rfl rfl _ _ _ rfl hown rfl (by omega) (by decide) hbel.size ?_; intro a' c' w' hown' hb' hz') | (go_at_call 92; refine (refTrim_any _ _ (by unfold maxLen; omega)).mono ?_; rintro e w' ⟨rfl, rfl⟩))
            go_roundw
            case rel => exact ⟨k + 1, out ++ [trim s], [], by go_num, rfl, by omega, by simp, by simp; omega, by simpa using hown', by rw [HF.out] at HR; exact HR, hbel.trans hb'⟩
            case measure => simp [intOf]; omega
          · have h1 : ((k : Int) == (l.length : Int)) = true := i_eq (Nat.le_antisymm hle (Nat.not_lt.1 hlt))
            clear hput
            go_wp2_with (first | (at_builtin; refine wpList_app1 rfl _ _ 39 rfl w.heap.size (.string ByteArray.empty) 16 Tryd.underlying39 (by kernel_rfl) rfl rfl _ _ _ rfl hown rfl (by omega) (by decide) hbel.size ?_; intro a' c' w' hown' hb' hz') | (go_at_call 92; refine (refTrim_any _ _ (by unfold maxLen; omega)).mono ?_; rintro e w' ⟨rfl, rfl⟩))
            go_roundw
            case rel => exact ⟨k + 1, out ++ [trim s], [], by go_num, rfl, by omega, by simp, by simp; omega, by simpa using hown', by rw [HF.out] at HR; exact HR, hbel.trans hb'⟩
            case measure => simp [intOf]; omega
      · have hlt : k < l.length := by
          rcases Nat.lt_or_ge k l.length with h | h
          · exact h
          · exact absurd (fun h' => absurd h' (Nat.not_lt.2 h)) hput
        have hne : ((k : Int) == (l.length : Int)) = false := i_ne (Nat.ne_of_lt hlt)
        have h44 : l[k] ≠ 44 := fun e => hput fun _ => e
        have h44' : ((l[k].toNat : Int) == 44) = false := u8_ne h44
        have HD := Lib.hid (drop_take_one l k hlt)
        by_cases h34 : l[k] = 34
        · have h34n : ((l[k].toNat : Int) != 34) = false := u8_eb h34
          have HQ := Lib.hid (el_quote false s l k hlt h34)
          have HT2 : Hid (out ++ el true false (s ++ [l[k]]) (l.drop (k + 1)) = elems l) := by
            show _ = _
            have := HT.out
            unfold elTail at this
            rw [if_pos hle, HQ.out] at this
            exact this
          clear h34 h44 hput HQ
          go_wp2
          rw [HD.out]
          go_loop [4, 5] (fun vs i => ∃ (j : Nat) (s : Bytes), i = .int .i64 j ∧ vs = S s ∧ k ≤ j ∧ j < l.length ∧ s.length ≤ j + 1 ∧ Hid (out ++ el true false s (l.drop (j + 1)) = elems l)) (fun _ i => l.length - (intOf i).toNat)
          case atStart => exact ⟨k, _, rfl, rfl, Nat.le_refl _, hlt, by simp; omega, HT2⟩
          case round =>
            obtain ⟨j, s, rfl, rfl, hkj, hj, hs, HT3⟩ := hrel
            by_cases hj1 : j + 1 < l.length
            · have HD1 := Lib.hid (drop_take_one l (j + 1) hj1)
              by_cases g34 : l[j + 1] = 34
              · have g34' : ((l[j + 1].toNat : Int) == 34) = true := u8_eq g34
                have HR : Hid (elTail l out (s ++ [l[j + 1]]) (j + 1 + 1) = elems l) := by show _ = _; rw [el_quoted_out out l s j hj1 g34, HT3.out]
                clear g34
                go_wp2
                go_roundw
                case rel => exact ⟨j + 1 + 1, out, s ++ [l[j + 1]], by go_num, by rw [HD1.out], by omega, by simp; omega, by omega, hown, HR, hbel⟩
                case measure => simp [intOf]; omega
              · have g34' : ((l[j + 1].toNat : Int) == 34) = false := u8_ne g34
                by_cases g92 : l[j + 1] = 92
                · have g92' : ((l[j + 1].toNat : Int) == 92) = true := u8_eq g92
                  by_cases hj2 : j + 1 + 1 < l.length
                  · have HD2 := Lib.hid (drop_take_one l (j + 1 + 1) hj2)
                    have HR := Lib.hid ((el_quoted_two out l s j hj2 g92).trans HT3.out)
                    clear g34 g92
                    go_wp2
                    go_round
                    case rel => exact ⟨j + 1 + 1, _, by go_num, by rw [HD1.out, HD2.out]; simp, by omega, by omega, by simp; omega, HR⟩
                    case measure => simp [intOf]; omega
                  · have HR := Lib.hid ((el_quoted_last out l s j hj1 hj2 g92).trans HT3.out)
                    clear g34 g92
                    go_wp2
                    go_round
                    case rel => exact ⟨j + 1, _, by go_num, by rw [HD1.out], by omega, by omega, by simp; omega, HR⟩
                    case measure => simp [intOf]; omega
                · have g92' : ((l[j + 1].toNat : Int) == 92) = false := u8_ne g92
                  have HR := Lib.hid ((el_quoted_on out l s j hj1 g34 g92).trans HT3.out)
                  clear g34 g92
                  go_wp2
                  go_round
                  case rel => exact ⟨j + 1, _, by go_num, by rw [HD1.out], by omega, by omega, by simp; omega, HR⟩
                  case measure => simp [intOf]; omega
            · have HR : Hid (elTail l out s (j + 1) = elems l) := by show _ = _; rw [el_quoted_end out l s j (by omega), HT3.out]
              go_wp2
              go_roundw
              case rel => exact ⟨j + 1, out, s, by go_num, rfl, by omega, by omega, by omega, hown, HR, hbel⟩
              case measure => simp [intOf]; omega
        · have h34n : ((l[k].toNat : Int) != 34) = true := u8_nb h34
          have HP := Lib.hid (elTail_plain l out s k hlt h34 h44)
          have HR : Hid (elTail l out (s ++ [l[k]]) (k + 1) = elems l) := by show _ = _; rw [HP.out, HT.out]
          clear h34 h44 hput
          go_wp2
          go_roundw
          case rel => exact ⟨k + 1, out, s ++ [l[k]], by go_num, by rw [HD.out], by omega, by simp; omega, by omega, hown, HR, hbel⟩
          case measure => simp [intOf]; omega
    · have hk' : k = l.length + 1 := by omega
      have HE : Hid (out = elems l) := by
        have := HT.out
        unfold elTail at this
        rwa [if_neg hle] at this
      clear HT
      have hown : wr.ownsRow w.heap.size 9 1 u3 (elems l).length ((elems l).map S) := by rw [← HE.out]; exact hown
      go_wp2
      go_ret
      exact ⟨_, rfl, hown, hbel⟩

end Go.Proofs.YtpbmmkonlboegaaDoor
