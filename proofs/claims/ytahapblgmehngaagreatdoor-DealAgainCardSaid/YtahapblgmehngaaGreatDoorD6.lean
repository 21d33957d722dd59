/- Parts of the proof of DealAgain_holds: the texts Elp Hop Ren1. -/
import Derived.Deep.DrawnRows
import Derived.Deep.RegionHeld3
import Derived.Test.YtahapblgmehngaaGreatDoorD2
set_option linter.unusedSimpArgs false
set_option linter.unusedVariables false
set_option linter.unnecessarySimpa false
set_option maxRecDepth 100000
set_option maxHeartbeats 64000000
namespace Go.Proofs.YtahapblgmehngaaGreatDoor
open Go.RowKit Go.Dr
theorem refElements_any (l : Bytes) (w : World) (hl : l.length ≤ 1099511627776) :
    Calls Tryz.prog 81 #[S l] w (RetSs 9 w (elems l)) := by
  go_enter Tryz.func81, Tryz.ntmps81
  go_wp2
  go_loopw [3, 4, 5] (fun v vs i wr => ∃ (k : Nat) (out : List Bytes) (s : Bytes), i = .int .i64 k ∧ vs = S s ∧ k ≤ l.length + 1 ∧ s.length ≤ k ∧ out.length ≤ k ∧ wr.ownsRow w.heap.size 9 1 v out.length (out.map S) ∧ Hid (elTail l out s k = elems l) ∧ Below w.heap.size w wr) (fun _ _ i _ => l.length + 1 - (intOf i).toNat)
  case atStart => exact ⟨0, [], [], rfl, rfl, Nat.zero_le _, Nat.zero_le _, Nat.zero_le _, World.ownsRow_nil _ _ _ _, elTail_zero l, Below.refl _ _⟩
  case round =>
    obtain ⟨k, out, s, rfl, rfl, hk, hs, ho, hown, HT, hbel⟩ := hrel; by_cases hle : k ≤ l.length
    · by_cases hput : ∀ h : k < l.length, l[k] = 44
      · have HP := Lib.hid (elTail_put l out s k hle hput)
        have HR : Hid (elTail l (out ++ fin s) [] (k + 1) = elems l) := (by show _ = _; rw [HP.out, HT.out]); have htl := trim_length s; by_cases htr : trim s = []
        · have HF := Lib.hid (fin_nil s htr)
          by_cases hlt : k < l.length
          · have h1 : ((k : Int) == (l.length : Int)) = false := i_ne (Nat.ne_of_lt hlt)
            have h2 : ((l[k].toNat : Int) == 44) = true := u8_eq (hput hlt); clear hput; go_wp2_with (go_at_call 114; refine (refTrim_any _ _ (by unfold maxLen; omega)).mono ?_; rintro e w' ⟨rfl, rfl⟩)
            go_roundw
            case rel => exact ⟨k + 1, out, [], by go_num, rfl, by omega, by simp, by omega, hown, by rw [HF.out, List.append_nil] at HR; exact HR, hbel⟩
            case measure => simp [intOf]; omega
          · have h1 : ((k : Int) == (l.length : Int)) = true := i_eq (Nat.le_antisymm hle (Nat.not_lt.1 hlt))
            clear hput; go_wp2_with (go_at_call 114; refine (refTrim_any _ _ (by unfold maxLen; omega)).mono ?_; rintro e w' ⟨rfl, rfl⟩)
            go_roundw
            case rel => exact ⟨k + 1, out, [], by go_num, rfl, by omega, by simp, by omega, hown, by rw [HF.out, List.append_nil] at HR; exact HR, hbel⟩
            case measure => simp [intOf]; omega
        · have HF := Lib.hid (fin_one s htr)
          have hI : (!(trim s).isEmpty) = true := (by simpa using htr); clear htr; by_cases hlt : k < l.length
          · have h1 : ((k : Int) == (l.length : Int)) = false := i_ne (Nat.ne_of_lt hlt)
            have h2 : ((l[k].toNat : Int) == 44) = true := u8_eq (hput hlt); clear hput; go_wp2_with (first | (at_builtin; refine wpList_app1 rfl _ _ 44 rfl w.heap.size (.string ByteArray.empty) 16 Tryz.underlying44 (by kernel_rfl) rfl rfl _ _ _ rfl hown rfl (by omega) (by decide) hbel.size ?_; intro a' c' w' hown' hb' hz') | (go_at_call 114; refine (refTrim_any _ _ (by unfold maxLen; omega)).mono ?_; rintro e w' ⟨rfl, rfl⟩))
            go_roundw
            case rel => exact ⟨k + 1, out ++ [trim s], [], by go_num, rfl, by omega, by simp, by simp; omega, by simpa using hown', by rw [HF.out] at HR; exact HR, hbel.trans hb'⟩
            case measure => simp [intOf]; omega
          · have h1 : ((k : Int) == (l.length : Int)) = true := i_eq (Nat.le_antisymm hle (Nat.not_lt.1 hlt))
            clear hput; go_wp2_with (first | (at_builtin; refine wpList_app1 rfl _ _ 44 rfl w.heap.size (.string ByteArray.empty) 16 Tryz.underlying44 (by kernel_rfl) rfl rfl _ _ _ rfl hown rfl (by omega) (by decide) hbel.size ?_; intro a' c' w' hown' hb' hz') | (go_at_call 114; refine (refTrim_any _ _ (by unfold maxLen; omega)).mono ?_; rintro e w' ⟨rfl, rfl⟩))
            go_roundw
            case rel => exact ⟨k + 1, out ++ [trim s], [], by go_num, rfl, by omega, by simp, by simp; omega, by simpa using hown', by rw [HF.out] at HR; exact HR, hbel.trans hb'⟩
            case measure => simp [intOf]; omega
      · have hlt : k < l.length := by
          rcases Nat.lt_or_ge k l.length with h | h
          · exact h
          · exact absurd (fun h' => absurd h' (Nat.not_lt.2 h)) hput
        have hne : ((k : Int) == (l.length : Int)) = false := i_ne (Nat.ne_of_lt hlt); have h44 : l[k] ≠ 44 := fun e => hput fun _ => e
        have h44' : ((l[k].toNat : Int) == 44) = false := u8_ne h44
        have HD := Lib.hid (drop_take_one l k hlt); by_cases h34 : l[k] = 34
        · have h34n : ((l[k].toNat : Int) != 34) = false := u8_eb h34
          have HQ := Lib.hid (el_quote false s l k hlt h34)
          have HT2 : Hid (out ++ el true false (s ++ [l[k]]) (l.drop (k + 1)) = elems l) := by
            show _ = _
            have := HT.out
            unfold elTail at this; rw [if_pos hle, HQ.out] at this; exact this
          clear h34 h44 hput HQ; go_wp2; rw [HD.out]
          go_loop [4, 5] (fun vs i => ∃ (j : Nat) (s : Bytes), i = .int .i64 j ∧ vs = S s ∧ k ≤ j ∧ j < l.length ∧ s.length ≤ j + 1 ∧ Hid (out ++ el true false s (l.drop (j + 1)) = elems l)) (fun _ i => l.length - (intOf i).toNat)
          case atStart => exact ⟨k, _, rfl, rfl, Nat.le_refl _, hlt, by simp; omega, HT2⟩
          case round =>
            obtain ⟨j, s, rfl, rfl, hkj, hj, hs, HT3⟩ := hrel; by_cases hj1 : j + 1 < l.length
            · have HD1 := Lib.hid (drop_take_one l (j + 1) hj1)
              by_cases g34 : l[j + 1] = 34
              · have g34' : ((l[j + 1].toNat : Int) == 34) = true := u8_eq g34
                have HR : Hid (elTail l out (s ++ [l[j + 1]]) (j + 1 + 1) = elems l) := (by show _ = _; rw [el_quoted_out out l s j hj1 g34, HT3.out]); clear g34; go_wp2
                go_roundw
                case rel => exact ⟨j + 1 + 1, out, s ++ [l[j + 1]], by go_num, by rw [HD1.out], by omega, by simp; omega, by omega, hown, HR, hbel⟩
                case measure => simp [intOf]; omega
              · have g34' : ((l[j + 1].toNat : Int) == 34) = false := u8_ne g34
                by_cases g92 : l[j + 1] = 92
                · have g92' : ((l[j + 1].toNat : Int) == 92) = true := u8_eq g92
                  by_cases hj2 : j + 1 + 1 < l.length
                  · have HD2 := Lib.hid (drop_take_one l (j + 1 + 1) hj2)
                    have HR := Lib.hid ((el_quoted_two out l s j hj2 g92).trans HT3.out); clear g34 g92; go_wp2; go_round
                    case rel => exact ⟨j + 1 + 1, _, by go_num, by rw [HD1.out, HD2.out]; simp, by omega, by omega, by simp; omega, HR⟩
                    case measure => simp [intOf]; omega
                  · have HR := Lib.hid ((el_quoted_last out l s j hj1 hj2 g92).trans HT3.out)
                    clear g34 g92; go_wp2; go_round
                    case rel => exact ⟨j + 1, _, by go_num, by rw [HD1.out], by omega, by omega, by simp; omega, HR⟩
                    case measure => simp [intOf]; omega
                · have g92' : ((l[j + 1].toNat : Int) == 92) = false := u8_ne g92
                  have HR := Lib.hid ((el_quoted_on out l s j hj1 g34 g92).trans HT3.out); clear g34 g92; go_wp2; go_round
                  case rel => exact ⟨j + 1, _, by go_num, by rw [HD1.out], by omega, by omega, by simp; omega, HR⟩
                  case measure => simp [intOf]; omega
            · have HR : Hid (elTail l out s (j + 1) = elems l) := by show _ = _; rw [el_quoted_end out l s j (by omega), HT3.out]
              go_wp2
              go_roundw
              case rel => exact ⟨j + 1, out, s, by go_num, rfl, by omega, by omega, by omega, hown, HR, hbel⟩
              case measure => simp [intOf]; omega
        · have h34n : ((l[k].toNat : Int) != 34) = true := u8_nb h34
          have HP := Lib.hid (elTail_plain l out s k hlt h34 h44); have HR : Hid (elTail l out (s ++ [l[k]]) (k + 1) = elems l) := (by show _ = _; rw [HP.out, HT.out]); clear h34 h44 hput; go_wp2
          go_roundw
          case rel => exact ⟨k + 1, out, s ++ [l[k]], by go_num, by rw [HD.out], by omega, by simp; omega, by omega, hown, HR, hbel⟩
          case measure => simp [intOf]; omega
    · have hk' : k = l.length + 1 := by omega
      have HE : Hid (out = elems l) := by
        have := HT.out
        unfold elTail at this; rwa [if_neg hle] at this
      clear HT; have hown : wr.ownsRow w.heap.size 9 1 u3 (elems l).length ((elems l).map S) := (by rw [← HE.out]; exact hown); go_wp2; go_ret; exact ⟨_, rfl, hown, hbel⟩
open Go.RowKit Go.Dr
def PutPost (b0 B bV bF bO : Nat) (l : Bytes) (to : Nat) (out : List Bytes) (w : World) (e : Ending) (w' : World) : Prop :=
  ∃ vo, e = .returned (.tuple #[]) ∧ One w' bV 9 (S l) ∧ One w' bF 3 (.int .i64 ((to : Int) + 1)) ∧ One w' bO 44 vo ∧ w'.ownsRow B 9 1 vo out.length (out.map S) ∧ Below b0 w w'
theorem put_any (b0 B bV bF bO : Nat) (l : Bytes) (fr to : Nat) (out : List Bytes) (vo : Value) (w : World)
    (hV : One w bV 9 (S l)) (hF : One w bF 3 (.int .i64 fr)) (hO : One w bO 44 vo) (hown : w.ownsRow B 9 1 vo out.length (out.map S))
    (h1 : b0 ≤ bV) (h2 : b0 ≤ bF) (h3 : b0 ≤ bO) (g1 : bV < B) (g2 : bF < B) (g3 : bO < B) (n1 : bV ≠ bF) (n2 : bV ≠ bO) (n3 : bF ≠ bO) (hB : B ≤ w.heap.size)
    (s : Bytes) (hs : (l.take to).drop fr = s) (hft : fr ≤ to) (htl : to ≤ l.length) (hl : l.length ≤ 1099511627776) (ho : out.length ≤ 1099511627776) :
    Calls Tryz.prog 138 #[.int .i64 to, .pointer (some ⟨bV, 0, none⟩), .pointer (some ⟨bF, 0, none⟩), .pointer (some ⟨bO, 0, none⟩)] w (PutPost b0 B bV bF bO l to (out ++ fin s) w) := by
  have cV := hV.cell; have cF := hF.cell; have HS := Lib.hid hs; clear hs; go_enter Tryz.func138, Tryz.ntmps138
  go_wp2_with fail; refine (Trim_any _ _ (by unfold maxLen; simp; omega)).mono ?_; rintro e w1 ⟨rfl, hb1⟩; have hV1 := hV.below hb1 hV.lt; have hF1 := hF.below hb1 hF.lt; have hO1 := hO.below hb1 hO.lt; have hown1 := own_below hown hb1; have hB1 : B ≤ w1.heap.size := Nat.le_trans hB hb1.size; have hz1 := hb1.size; have hb1' : Below b0 w w1 := hb1.mono (by omega)
  clear cV cF hV hF hO hown hb1 hB; rw [HS.out]; have cO := hO1.cell; have fO := hO1.free; have fF := hF1.free; have cF := hF1.cell; by_cases ht : trim s = []
  · have HF := Lib.hid (fin_nil s ht)
    go_wp2; go_end0
    exact ⟨vo, rfl, hV1.other n1 _, hF1.set _, hO1.other (Ne.symm n3) _, by rw [HF.out, List.append_nil]; exact ownsRow_setCell_below hown1 g2 _, hb1'.setCell h2 _⟩
  · have HF := Lib.hid (fin_one s ht)
    have hI : (!(trim s).isEmpty) = true := (by simpa using ht); clear ht; go_wp2_with (at_builtin; refine wpList_app1 rfl _ _ 44 rfl B (.string ByteArray.empty) 16 Tryz.underlying44 (by kernel_rfl) rfl rfl _ _ _ rfl hown1 rfl (by omega) (by decide) hB1 ?_; intro a' c' w2 hown2 hb2 hz2; have cO2 := (hO1.below hb2 g3).cell; have fO2 := (hO1.below hb2 g3).free; have cF2 := (hF1.below hb2 g2).cell; have fF2 := (hF1.below hb2 g2).free)
    go_end0
    exact ⟨_, rfl, ((hV1.below hb2 g1).other n2 _).other n1 _, ((hF1.below hb2 g2).other n3 _).set _, ((hO1.below hb2 g3).set _).other (Ne.symm n3) _,
      by rw [HF.out]; simpa using ownsRow_setCell_below (ownsRow_setCell_below hown2 g3 _) g2 _, ((hb1'.trans (hb2.mono (by omega))).setCell h3 _).setCell h2 _⟩
def ElR (l : Bytes) (w : World) (vq vt vi : Value) (wr : World) : Prop :=
  ∃ (k fr : Nat) (out : List Bytes) (vo : Value) (q t : Bool), vi = .int .i64 k ∧ vq = .bool q ∧ vt = .bool t ∧ k ≤ l.length ∧ fr ≤ k ∧ out.length ≤ fr ∧
    One wr w.heap.size 9 (S l) ∧ One wr (w.heap.size + 1 + 1) 3 (.int .i64 fr) ∧ One wr (w.heap.size + 1) 44 vo ∧ wr.ownsRow (w.heap.size + 3) 9 1 vo out.length (out.map S) ∧
    out ++ el q t ((l.take k).drop fr) (l.drop k) = elems l ∧ Below w.heap.size w wr ∧ w.heap.size + 3 ≤ wr.heap.size
theorem Elements_any (l : Bytes) (w : World) (hl : l.length ≤ 1099511627776) :
    Calls Tryz.prog 115 #[S l] w (RetSs 9 w (elems l)) := by
  have hmf : ∀ (fn : Fn) (first cap : Array Value) (w : World), (Instr.makeFunc fn first cap).run Tryz.prog w = .ok (.func fn first cap) w := fun _ _ _ _ => rfl
  go_enter Tryz.func115, Tryz.ntmps115
  go_wp2
  go_loopw [5, 6, 13] (ElR l w) (fun _ _ i _ => l.length - (intOf i).toNat)
  case atStart =>
    have h2 := (One.new (w.alloc (.cells #[S l] 9)) 44 (.slice none 0 0)).alloc (.cells #[.int .i64 0] 3); have h3 := One.new ((w.alloc (.cells #[S l] 9)).alloc (.cells #[.slice none 0 0] 44)) 3 (.int .i64 0)
    exact ⟨0, 0, [], .slice none 0 0, false, false, rfl, rfl, rfl, Nat.zero_le _, Nat.le_refl _, Nat.le_refl _, ((One.new w _ _).alloc _).alloc _, by simpa using h3, by simpa using h2,
      World.ownsRow_nil _ _ _ _, rfl, (((Below.refl _ _).alloc (Nat.le_refl _) _).alloc (by simp) _).alloc (by simp; omega) _, by simp⟩
  case round =>
    obtain ⟨k, fr, out, vo, q, t, rfl, rfl, rfl, hk, hf, ho, hV, hF, hO, hown, hT, hbel, hsz⟩ := hrel; have HT := Lib.hid hT; clear hT; have cV := hV.cell; by_cases hlt : k < l.length
    · have HP := Lib.hid (piece_snoc l fr k hlt hf)
      cases t
      · by_cases c92 : l[k] = 92
        · have g92 : ((l[k].toNat : Int) == 92) = true := u8_eq c92
          have g34 : ((l[k].toNat : Int) == 34) = false := (by rw [c92]; rfl); have g44 : ((l[k].toNat : Int) == 44) = false := (by rw [c92]; rfl)
          cases q
          · have HN : Hid (out ++ el false false ((l.take k).drop fr ++ [l[k]]) (l.drop (k + 1)) = elems l) := by show _ = _; rw [← el_plain false _ l k hlt (by simp) (by rw [c92]; decide) (fun _ => by rw [c92]; decide), HT.out]
            clear c92; go_wp2
            go_roundw
            case rel => exact ⟨k + 1, fr, out, vo, false, false, by go_num, rfl, rfl, by omega, by omega, ho, hV, hF, hO, hown, by rw [HP.out]; exact HN.out, hbel, hsz⟩
            case measure => simp [intOf]; omega
          · have HN : Hid (out ++ el true true ((l.take k).drop fr ++ [l[k]]) (l.drop (k + 1)) = elems l) := by show _ = _; rw [← el_stroke _ l k hlt c92, HT.out]
            clear c92; go_wp2
            go_roundw
            case rel => exact ⟨k + 1, fr, out, vo, true, true, by go_num, rfl, rfl, by omega, by omega, ho, hV, hF, hO, hown, by rw [HP.out]; exact HN.out, hbel, hsz⟩
            case measure => simp [intOf]; omega
        · have g92 : ((l[k].toNat : Int) == 92) = false := u8_ne c92
          by_cases c34 : l[k] = 34
          · have g34 : ((l[k].toNat : Int) == 34) = true := u8_eq c34
            have HN : Hid (out ++ el (!q) false ((l.take k).drop fr ++ [l[k]]) (l.drop (k + 1)) = elems l) := (by show _ = _; rw [← el_quote q _ l k hlt c34, HT.out]); clear c34 c92
            cases q
            all_goals
              go_wp2
              go_roundw
              case rel => exact ⟨k + 1, fr, out, vo, _, false, by go_num, rfl, rfl, by omega, by omega, ho, hV, hF, hO, hown, by rw [HP.out]; exact HN.out, hbel, hsz⟩
              case measure => simp [intOf]; omega
          · have g34 : ((l[k].toNat : Int) == 34) = false := u8_ne c34
            by_cases c44 : l[k] = 44 ∧ q = false
            · obtain ⟨c44, rfl⟩ := c44
              have g44 : ((l[k].toNat : Int) == 44) = true := u8_eq c44; have HN : Hid ((out ++ fin ((l.take k).drop fr)) ++ el false false [] (l.drop (k + 1)) = elems l) := (by show _ = _; rw [List.append_assoc, ← el_comma _ l k hlt c44, HT.out]); clear c44 c34 c92; have hsp : (fin ((l.take k).drop fr)).length ≤ 1 := (by unfold fin; split <;> simp); go_wp2_with (go_at_call 138; refine (put_any w.heap.size (w.heap.size + 3) _ _ _ l fr k out vo _ hV hF hO hown (by omega) (by omega) (by omega) (by omega) (by omega) (by omega) (by omega) (by omega) (by omega) hsz _ rfl hf hk hl (by omega)).mono ?_; rintro e w2 ⟨vo2, rfl, hV2, hF2, hO2, hown2, hb2⟩)
              go_roundw
              case rel => exact ⟨k + 1, k + 1, _, vo2, false, false, by go_num, rfl, rfl, by omega, by omega, by simp; omega, hV2, by simpa using hF2, hO2, hown2, by rw [piece_none]; exact HN.out, hbel.trans hb2, by have := hV2.lt; have := hb2.size; omega⟩
              case measure => simp [intOf]; omega
            · have HN : Hid (out ++ el q false ((l.take k).drop fr ++ [l[k]]) (l.drop (k + 1)) = elems l) := by
                show _ = _
                rw [← el_plain q _ l k hlt (fun _ => c92) c34 (fun hq h => c44 ⟨h, hq⟩), HT.out]
              have g44 : q = false → ((l[k].toNat : Int) == 44) = false := fun hq => u8_ne fun h => c44 ⟨h, hq⟩
              clear c44 c34 c92
              cases q
              · have g44 := g44 rfl
                go_wp2
                go_roundw
                case rel => exact ⟨k + 1, fr, out, vo, _, false, by go_num, rfl, rfl, by omega, by omega, ho, hV, hF, hO, hown, by rw [HP.out]; exact HN.out, hbel, hsz⟩
                case measure => simp [intOf]; omega
              · clear g44
                by_cases c44 : l[k] = 44
                · have g44 : ((l[k].toNat : Int) == 44) = true := u8_eq c44
                  clear c44; go_wp2
                  go_roundw
                  case rel => exact ⟨k + 1, fr, out, vo, _, false, by go_num, rfl, rfl, by omega, by omega, ho, hV, hF, hO, hown, by rw [HP.out]; exact HN.out, hbel, hsz⟩
                  case measure => simp [intOf]; omega
                · have g44 : ((l[k].toNat : Int) == 44) = false := u8_ne c44
                  clear c44; go_wp2
                  go_roundw
                  case rel => exact ⟨k + 1, fr, out, vo, _, false, by go_num, rfl, rfl, by omega, by omega, ho, hV, hF, hO, hown, by rw [HP.out]; exact HN.out, hbel, hsz⟩
                  case measure => simp [intOf]; omega
      · have HN : Hid (out ++ el q false ((l.take k).drop fr ++ [l[k]]) (l.drop (k + 1)) = elems l) := by show _ = _; rw [← el_taken q _ l k hlt, HT.out]
        go_wp2
        go_roundw
        case rel => exact ⟨k + 1, fr, out, vo, _, false, by go_num, rfl, rfl, by omega, by omega, ho, hV, hF, hO, hown, by rw [HP.out]; exact HN.out, hbel, hsz⟩
        case measure => simp [intOf]; omega
    · have hk' : k = l.length := by omega
      subst hk'; have cF := hF.cell
      have HE : Hid (out ++ fin ((l.take l.length).drop fr) = elems l) := by
        show _ = _
        rw [← HT.out, el_end _ _ _ _ _ (Nat.le_refl _)]
      go_wp2_with fail; refine (put_any w.heap.size (w.heap.size + 3) _ _ _ l fr l.length out vo _ hV hF hO hown (by omega) (by omega) (by omega) (by omega) (by omega) (by omega) (by omega) (by omega) (by omega) hsz _ rfl hf (Nat.le_refl _) hl (by omega)).mono ?_; rintro e w2 ⟨vo2, rfl, hV2, hF2, hO2, hown2, hb2⟩; have cO := hO2.cell; rw [HE.out] at hown2; go_wp2; go_ret; exact ⟨_, rfl, own_base hown2 (by omega), hbel.trans hb2⟩
open Go.RowKit Go.Dr
theorem Values_any (l : List F) (name : Bytes) (v : Value) (w : World) (h : Fs w.heap.size w v l) (hl : fsum l ≤ 1099511627776) (hn : name.length ≤ 1099511627776) :
    Calls Tryz.prog 55 #[v, S name] w (RetSs 9 w (values l name)) := by
  obtain ⟨pa, ca, rfl, hm⟩ := h.form; have hll := fsum_length l; go_enter Tryz.func55, Tryz.ntmps55
  go_wp2
  go_loopw [5, 10] (fun v i wr => ∃ k : Nat, i = .int .i64 k ∧ k ≤ l.length ∧ wr.ownsRow w.heap.size 9 1 v (values (l.take k) name).length ((values (l.take k) name).map S) ∧ Below w.heap.size w wr) (fun _ i _ => l.length - (intOf i).toNat)
  case atStart => exact ⟨0, rfl, Nat.zero_le _, World.ownsRow_nil _ _ _ _, Below.refl _ _⟩
  case round =>
    obtain ⟨k, rfl, hk, hown, hbel⟩ := hrel; by_cases hlt : k < l.length
    · obtain ⟨b, off, rfl, hbb, c0, c1, c2⟩ := (h.below hbel).at k hlt
      have hf := fsum_mem (List.getElem_mem hlt); have HV := Lib.hid (values_snoc l k hlt name); have hvl := values_length (l.take k) name; rw [List.length_take] at hvl; by_cases hs : same l[k].n name = true
      · have HV : Hid (values (l.take (k + 1)) name = values (l.take k) name ++ [l[k].v]) := by show _ = _; rw [HV.out, if_pos hs]
        go_wp2_with (first | (at_builtin; refine wpList_app1 rfl _ _ 44 rfl w.heap.size (.string ByteArray.empty) 16 Tryz.underlying44 (by kernel_rfl) rfl rfl _ _ _ rfl (own_below (hown.alloc _) hb1) rfl (by omega) (by decide) (by have := hbel.size; have := hb1.size; simp at this; omega) ?_; intro a' c' w2 hown2 hb2 hz2) | (go_at_call 98; refine (Same_any _ _ _ (by unfold maxLen; omega) (by unfold maxLen; omega)).mono ?_; rintro e w1 ⟨rfl, hb1⟩; obtain ⟨hc1, hf1⟩ := bcell hb1))
        go_roundw
        case rel => exact ⟨k + 1, by go_num, by omega, by rw [HV.out]; simpa using hown2, ((hbel.alloc hbel.size _).trans (hb1.mono (by have := hbel.size; simp; omega))).trans hb2⟩
        case measure => simp [intOf]; omega
      · have HV : Hid (values (l.take (k + 1)) name = values (l.take k) name) := by show _ = _; rw [HV.out, if_neg hs, List.append_nil]
        have hs' : same l[k].n name = false := (by simpa using hs)
        clear hs; go_wp2_with (go_at_call 98; refine (Same_any _ _ _ (by unfold maxLen; omega) (by unfold maxLen; omega)).mono ?_; rintro e w1 ⟨rfl, hb1⟩; obtain ⟨hc1, hf1⟩ := bcell hb1)
        go_roundw
        case rel => exact ⟨k + 1, by go_num, by omega, by rw [HV.out]; exact own_below (hown.alloc _) hb1, (hbel.alloc hbel.size _).trans (hb1.mono (by have := hbel.size; simp; omega))⟩
        case measure => simp [intOf]; omega
    · have hk' : k = l.length := by omega
      subst hk'; rw [List.take_length] at *; go_wp2; go_ret; exact ⟨_, rfl, hown, hbel⟩
open Go.RowKit Go.Dr
theorem refValues_any (l : List F) (name : Bytes) (v : Value) (w : World) (h : Fs w.heap.size w v l) (hl : fsum l ≤ 1099511627776) (hn : name.length ≤ 1099511627776) :
    Calls Tryz.prog 79 #[v, S name] w (RetSs 9 w (values l name)) := by
  obtain ⟨pa, ca, rfl, hm⟩ := h.form; have hll := fsum_length l; go_enter Tryz.func79, Tryz.ntmps79
  go_wp2
  go_loopw [5, 6] (fun v i wr => ∃ k : Nat, i = .int .i64 k ∧ k ≤ l.length ∧ wr.ownsRow w.heap.size 9 1 v (values (l.take k) name).length ((values (l.take k) name).map S) ∧ Below w.heap.size w wr) (fun _ i _ => l.length - (intOf i).toNat)
  case atStart => exact ⟨0, rfl, Nat.zero_le _, World.ownsRow_nil _ _ _ _, Below.refl _ _⟩
  case round =>
    obtain ⟨k, rfl, hk, hown, hbel⟩ := hrel; by_cases hlt : k < l.length
    · obtain ⟨b, off, rfl, hbb, c0, c1, c2⟩ := (h.below hbel).at k hlt
      have hf := fsum_mem (List.getElem_mem hlt); have HV := Lib.hid (values_snoc l k hlt name); have hvl := values_length (l.take k) name; rw [List.length_take] at hvl; have hbw : b < wr.heap.size := Nat.lt_of_lt_of_le hbb hbel.size; by_cases hs : same l[k].n name = true
      · have HV : Hid (values (l.take (k + 1)) name = values (l.take k) name ++ [l[k].v]) := by show _ = _; rw [HV.out, if_pos hs]
        go_wp2_with (first | (at_builtin; refine wpList_app1 rfl _ _ 44 rfl w.heap.size (.string ByteArray.empty) 16 Tryz.underlying44 (by kernel_rfl) rfl rfl _ _ _ rfl (own_below hown hb1) rfl (by omega) (by decide) (by have := hbel.size; have := hb1.size; omega) ?_; intro a' c' w2 hown2 hb2 hz2) | (go_at_call 110; refine (refSame_any _ _ _ (by omega) (by omega)).mono ?_; rintro e w1 ⟨rfl, hb1⟩; obtain ⟨hc1, hf1⟩ := bcell hb1))
        go_roundw
        case rel => exact ⟨k + 1, by go_num, by omega, by rw [HV.out]; simpa using hown2, (hbel.trans (hb1.mono hbel.size)).trans hb2⟩
        case measure => simp [intOf]; omega
      · have HV : Hid (values (l.take (k + 1)) name = values (l.take k) name) := by show _ = _; rw [HV.out, if_neg hs, List.append_nil]
        have hs' : same l[k].n name = false := (by simpa using hs)
        clear hs; go_wp2_with (go_at_call 110; refine (refSame_any _ _ _ (by omega) (by omega)).mono ?_; rintro e w1 ⟨rfl, hb1⟩; obtain ⟨hc1, hf1⟩ := bcell hb1)
        go_roundw
        case rel => exact ⟨k + 1, by go_num, by omega, by rw [HV.out]; exact own_below hown hb1, hbel.trans (hb1.mono hbel.size)⟩
        case measure => simp [intOf]; omega
    · have hk' : k = l.length := by omega
      subst hk'; rw [List.take_length] at *; go_wp2; go_ret; exact ⟨_, rfl, hown, hbel⟩
theorem all_bounds (l : List F) (name : Bytes) (hl : fsum l ≤ 1099511627776) (k : Nat) (hlt : k < (values l name).length) :
    (values l name)[k].length ≤ 1099511627776 ∧ ((values l name).take k |>.flatMap elems).length + (elems (values l name)[k]).length ≤ 1099511627776 := by
  have h1 := ssum_values l name; have h2 := ssum_mem (List.getElem_mem hlt); have h3 := ssum_length (((values l name).take k).flatMap elems ++ elems (values l name)[k]); rw [← flat_snoc _ k hlt] at h3; have h4 := ssum_flat ((values l name).take (k + 1)); have h5 := ssum_take (values l name) (k + 1); have h6 := congrArg List.length (flat_snoc (values l name) k hlt); rw [List.length_append] at h6; exact ⟨by omega, by omega⟩
theorem All_any (l : List F) (name : Bytes) (v : Value) (w : World) (h : Fs w.heap.size w v l) (hl : fsum l ≤ 1099511627776) (hn : name.length ≤ 1099511627776) :
    Calls Tryz.prog 82 #[v, S name] w (RetSs 9 w (allOf l name)) := by
  have HB := all_bounds l name hl; go_enter Tryz.func82, Tryz.ntmps82
  go_wp2_with fail; refine (Values_any l name v w h hl hn).mono ?_; rintro e w1 ⟨vv, rfl, hvv, hb1⟩; have hr : Ss w1.heap.size w1 vv (values l name) := Ss.own hvv; have hu : Hid (allOf l name = (values l name).flatMap elems) := rfl; generalize values l name = vs at *; clear hvv; obtain ⟨pa, ca, rfl, hm⟩ := hr.form; go_wp2
  go_loopw [5, 12] (fun v i wr => ∃ k : Nat, i = .int .i64 k ∧ k ≤ vs.length ∧ wr.ownsRow w1.heap.size 9 1 v ((vs.take k).flatMap elems).length (((vs.take k).flatMap elems).map S) ∧ Below w1.heap.size w1 wr) (fun _ i _ => vs.length - (intOf i).toNat)
  case atStart => exact ⟨0, rfl, Nat.zero_le _, World.ownsRow_nil _ _ _ _, Below.refl _ _⟩
  case round =>
    obtain ⟨k, rfl, hk, hown, hbel⟩ := hrel; by_cases hlt : k < vs.length
    · obtain ⟨b, off, rfl, hbb, c0⟩ := (hr.below hbel).at k hlt
      obtain ⟨q1, q2⟩ := HB k hlt; have HF := Lib.hid (flat_snoc vs k hlt); clear HB; generalize (vs.take k).flatMap elems = out at *; generalize hes : elems vs[k] = es at *; have HES := Lib.hid hes; clear hes; go_wp2_with (first | (at_builtin; refine wpList_appRd rfl _ _ 44 rfl w1.heap.size 9 (.string ByteArray.empty) 1 16 Tryz.underlying44 (by kernel_rfl) rfl (by decide) _ _ _ rfl (own_below hown hb2) _ _ _ _ rfl (Ss.own hve) (S_one _) (by unfold maxLen; omega) (by omega) (by have := hbel.size; have := hb2.size; omega) ?_; intro a' c' w3 hown3 hb3) | (go_at_call 115; refine (Elements_any _ _ (by omega)).mono ?_; rintro e w2 ⟨ve, rfl, hve, hb2⟩; rw [HES.out] at hve))
      go_roundw
      case rel => exact ⟨k + 1, by go_num, by omega, by rw [HF.out]; simpa using hown3, (hbel.trans (hb2.mono hbel.size)).trans hb3⟩
      case measure => simp [intOf]; omega
    · have hk' : k = vs.length := by omega
      subst hk'; rw [List.take_length] at *; go_wp2; go_ret; exact ⟨_, rfl, by rw [hu.out]; exact own_base hown hb1.size, Bl.tr hb1 hbel⟩
theorem refAll_any (l : List F) (name : Bytes) (v : Value) (w : World) (h : Fs w.heap.size w v l) (hl : fsum l ≤ 1099511627776) (hn : name.length ≤ 1099511627776) :
    Calls Tryz.prog 45 #[v, S name] w (RetSs 9 w (allOf l name)) := by
  have HB := all_bounds l name hl; go_enter Tryz.func45, Tryz.ntmps45
  go_wp2_with fail; refine (refValues_any l name v w h hl hn).mono ?_; rintro e w1 ⟨vv, rfl, hvv, hb1⟩; have hr : Ss w1.heap.size w1 vv (values l name) := Ss.own hvv; have hu : Hid (allOf l name = (values l name).flatMap elems) := rfl; generalize values l name = vs at *; clear hvv; obtain ⟨pa, ca, rfl, hm⟩ := hr.form; go_wp2
  go_loopw [6, 7] (fun v i wr => ∃ k : Nat, i = .int .i64 k ∧ k ≤ vs.length ∧ wr.ownsRow w1.heap.size 9 1 v ((vs.take k).flatMap elems).length (((vs.take k).flatMap elems).map S) ∧ Below w1.heap.size w1 wr) (fun _ i _ => vs.length - (intOf i).toNat)
  case atStart => exact ⟨0, rfl, Nat.zero_le _, World.ownsRow_nil _ _ _ _, Below.refl _ _⟩
  case round =>
    obtain ⟨k, rfl, hk, hown, hbel⟩ := hrel; by_cases hlt : k < vs.length
    · obtain ⟨b, off, rfl, hbb, c0⟩ := (hr.below hbel).at k hlt
      obtain ⟨q1, q2⟩ := HB k hlt; have HF := Lib.hid (flat_snoc vs k hlt); clear HB; generalize (vs.take k).flatMap elems = out at *; generalize hes : elems vs[k] = es at *; have HES := Lib.hid hes; clear hes; go_wp2_with (first | (at_builtin; refine wpList_appRd rfl _ _ 44 rfl w1.heap.size 9 (.string ByteArray.empty) 1 16 Tryz.underlying44 (by kernel_rfl) rfl (by decide) _ _ _ rfl (own_below hown hb2) _ _ _ _ rfl (Ss.own hve) (S_one _) (by unfold maxLen; omega) (by omega) (by have := hbel.size; have := hb2.size; omega) ?_; intro a' c' w3 hown3 hb3) | (go_at_call 81; refine (refElements_any _ _ (by omega)).mono ?_; rintro e w2 ⟨ve, rfl, hve, hb2⟩; rw [HES.out] at hve))
      go_roundw
      case rel => exact ⟨k + 1, by go_num, by omega, by rw [HF.out]; simpa using hown3, (hbel.trans (hb2.mono hbel.size)).trans hb3⟩
      case measure => simp [intOf]; omega
    · have hk' : k = vs.length := by omega
      subst hk'; rw [List.take_length] at *; go_wp2; go_ret; exact ⟨_, rfl, by rw [hu.out]; exact own_base hown hb1.size, Bl.tr hb1 hbel⟩
end Go.Proofs.YtahapblgmehngaaGreatDoor
namespace Go.Dr
def oneV (vs : List Bytes) : Bytes := match vs with | [x] => x | _ => []
def oneB (vs : List Bytes) : Bool := decide (vs.length = 1)
def etagT : Bytes := [101, 116, 97, 103]
def lastT : Bytes := [108, 97, 115, 116, 45, 109, 111, 100, 105, 102, 105, 101, 100]
def ifNoneT : Bytes := [105, 102, 45, 110, 111, 110, 101, 45, 109, 97, 116, 99, 104]
def ifSinceT : Bytes := [105, 102, 45, 109, 111, 100, 105, 102, 105, 101, 100, 45, 115, 105, 110, 99, 101]
def askF (l : List F) (name to : Bytes) : List F := if oneB (values l name) then [⟨to, oneV (values l name), false⟩] else []
def asksF (l : List F) : List F := askF l etagT ifNoneT ++ askF l lastT ifSinceT
theorem askF_length (l : List F) (n a : Bytes) : (askF l n a).length ≤ 1 := by unfold askF; split <;> simp
def hasB (l : List F) (n : Bytes) : Bool := decide (0 < (values l n).length)
end Go.Dr
namespace Go.Proofs.YtahapblgmehngaaGreatDoor
open Go.RowKit Go.Dr
def En.cells (e : En) : Array Value := #[S e.key, e.vp, .int .i64 e.st, e.vf, S e.body, .int .i64 e.asked, .int .i64 e.came]
theorem one_any (l : List F) (name : Bytes) (v : Value) (w : World) (h : Fs w.heap.size w v l) (hl : fsum l ≤ 1099511627776) (hn : name.length ≤ 1099511627776) :
    Calls Tryz.prog 109 #[v, S name] w fun e w' => e = .returned (.tuple #[S (oneV (values l name)), .bool (oneB (values l name))]) ∧ Below w.heap.size w w' := by
  go_enter Tryz.func109, Tryz.ntmps109
  go_wp2_with fail; refine (Values_any l name v w h hl hn).mono ?_; rintro e w1 ⟨vv, rfl, hvv, hb1⟩; have hr : Ss w1.heap.size w1 vv (values l name) := Ss.own hvv; generalize hvs : values l name = vs at *; have HVS := Lib.hid hvs; clear hvv hvs; obtain ⟨pa, ca, rfl, hm⟩ := hr.form
  match vs, hr, HVS, hm with
  | [x], hr, HVS, hm =>
    obtain ⟨b, off, rfl, hbb, c0⟩ := hr.at 0 (by simp); simp at c0
    go_wp2; go_ret2; exact ⟨by rw [HVS.out]; rfl, hb1⟩
  | [], hr, HVS, hm =>
    go_wp2; go_ret2; exact ⟨by rw [HVS.out]; rfl, hb1⟩
  | x :: y :: r, hr, HVS, hm =>
    have g : (((x :: y :: r).length : Int) == 1) = false := (by simp; omega); have g2 : (((x :: y :: r).length : Int) != 1) = true := (by simp; omega); have HL : Hid (oneB (x :: y :: r) = false) := (by show _ = _; unfold oneB; simp); generalize hn : (x :: y :: r).length = n at *; go_wp2; go_ret2; exact ⟨by rw [HVS.out, HL.out]; rfl, hb1⟩
theorem refHas_any (l : List F) (name : Bytes) (v : Value) (w : World) (h : Fs w.heap.size w v l) (hl : fsum l ≤ 1099511627776) (hn : name.length ≤ 1099511627776) :
    Calls Tryz.prog 52 #[v, S name] w fun e w' => e = .returned (.bool (hasB l name)) ∧ Below w.heap.size w w' := by
  go_enter Tryz.func52, Tryz.ntmps52
  go_wp2_with fail; refine (refValues_any l name v w h hl hn).mono ?_; rintro e w1 ⟨vv, rfl, hvv, hb1⟩; obtain ⟨pa, ca, rfl, hm⟩ := (Ss.own hvv).form; have HY : Hid (hasB l name = decide (0 < (values l name).length)) := rfl; generalize (values l name).length = n at *; go_wp2; go_ret; exact ⟨ret_bool (by rw [HY.out]), hb1⟩
open Go.RowKit Go.Dr
def Asked (O base : Nat) (w : World) (l : List F) (e : Ending) (w' : World) : Prop :=
  e = .returned (.tuple #[]) ∧ ∃ v, Dr.One w' O 26 v ∧ w'.ownsRow base 60 3 v l.length (fcells l) ∧ Below O w w' ∧ w.heap.size ≤ w'.heap.size
theorem ask_any (l out : List F) (n to : Bytes) (vf vo : Value) (E O base : Nat) (w : World) (hE : w.cell? ⟨E, 3, none⟩ = some vf) (h : Fs w.heap.size w vf l) (hl : fsum l ≤ 1099511627776) (hn : n.length ≤ 1099511627776)
    (hO : Dr.One w O 26 vo) (hown : w.ownsRow base 60 3 vo out.length (fcells out)) (hol : out.length ≤ 1000) (hEO : E < O) (hOb : O < base) (hbw : base ≤ w.heap.size) :
    Calls Tryz.prog 108 #[S n, S to, .pointer (some ⟨E, 0, none⟩), .pointer (some ⟨O, 0, none⟩)] w (Asked O base w (out ++ askF l n to)) := by
  have HY : Hid (askF l n to = if oneB (values l n) then [⟨to, oneV (values l n), false⟩] else []) := rfl; have hOl := hO.lt; have cO := hO.cell; have fO := hO.free; go_enter Tryz.func108, Tryz.ntmps108
  go_wp2_with fail; refine (one_any l n vf w h hl hn).mono ?_; rintro e w1 ⟨rfl, hb1⟩; have hO1 := hO.below hb1 hOl; have hown1 := own_below hown hb1; have cO1 := hO1.cell; have fO1 := hO1.free; have hz1 := hb1.size; clear hO hown cO fO; generalize oneV (values l n) = x at *
  cases hq : oneB (values l n) with
  | false =>
    rw [hq] at HY; clear hq; go_wp2; refine bodyPost_ret (results_none rfl _ _ _) rfl ?_; exact ⟨rfl, vo, hO1, by rw [HY.out]; simpa using hown1, hb1.mono (by omega), hz1⟩
  | true =>
    rw [hq] at HY; clear hq; go_wp2_with (at_builtin; refine wpList_appFG rfl _ _ 26 rfl base Tryz.underlying26 (by kernel_rfl) _ _ _ rfl hown1 rfl (by omega) (by omega) rfl ?_; intro a2 c2 w2 hown2 hb2 hz2 hg2; have hO2 := hO1.below hb2 (by omega); have cO2 := hO2.cell; have fO2 := hO2.free)
    refine bodyPost_ret (results_none rfl _ _ _) rfl ?_; have hbO : Below O w w2 := (hb1.mono (by omega)).trans (hb2.mono (by omega)); refine ⟨rfl, _, hO2.set _, ?_, hbO.setCell (p := ⟨O, 0, none⟩) (Nat.le_refl _) _, by simp [World.setCell]; omega⟩; rw [HY.out]; simp only [if_true, List.length_append, List.length_cons, List.length_nil, fcells_append]; exact ownsRow_setCell_below hown2 (by show O < base; omega) _
theorem asksF_eq (l : List F) : ([] ++ askF l etagT ifNoneT) ++ askF l lastT ifSinceT = asksF l := by simp [asksF]
theorem Asks_any (q : En) (l : List F) (w : World) (h : Fs w.heap.size w q.vf l) (hl : fsum l ≤ 1099511627776) :
    Calls Tryz.prog 68 #[q.val] w (RetFs 60 w (asksF l)) := by
  obtain ⟨pf, cf, hfv, -⟩ := h.form; obtain ⟨key, vp, st, vf, body, asked, came⟩ := q; simp only at hfv h; subst hfv; have hmf : ∀ (fn : Fn) (first cap : Array Value) (w : World), (Instr.makeFunc fn first cap).run Tryz.prog w = .ok (.func fn first cap) w := fun _ _ _ _ => rfl
  have hQ := Blk.new w 36 (En.cells ⟨key, vp, st, .slice pf l.length cf, body, asked, came⟩); have hbx : Below w.heap.size w (w.alloc (.cells (En.cells ⟨key, vp, st, .slice pf l.length cf, body, asked, came⟩) 36)) := (Below.refl _ _).alloc (Nat.le_refl _) _; have h1 := (h.below hbx).mono hbx.size; have hQ1 := hQ.alloc (.cells #[.slice none 0 0] 26); have hO := Dr.One.new (w.alloc (.cells (En.cells ⟨key, vp, st, .slice pf l.length cf, body, asked, came⟩) 36)) 26 (.slice none 0 0); have hb2 := hbx.alloc hbx.size (.cells #[.slice none 0 0] 26); have h2 := (h.below hb2).mono hb2.size; have hsz : (w.alloc (.cells (En.cells ⟨key, vp, st, .slice pf l.length cf, body, asked, came⟩) 36)).heap.size = w.heap.size + 1 := (by simp); rw [hsz] at hO; have c3 : ((w.alloc (.cells (En.cells ⟨key, vp, st, .slice pf l.length cf, body, asked, came⟩) 36)).alloc (.cells #[.slice none 0 0] 26)).cell? ⟨w.heap.size, 3, none⟩ = some (.slice pf l.length cf) := hQ1.cell 3; have HA := Lib.hid (asksF_eq l); have hal := askF_length l etagT ifNoneT; unfold En.val; go_enter Tryz.func68, Tryz.ntmps68
  go_wp2_with fail; refine (ask_any l [] etagT ifNoneT _ _ w.heap.size (w.heap.size + 1) (w.heap.size + 2) _ c3 h2 hl (by decide) hO (World.ownsRow_nil _ _ _ _) (by simp) (by omega) (by omega) (by simp)).mono ?_; rintro e w3 ⟨rfl, v3, hO3, hown3, hb3, hz3⟩; have hb03 := hb2.trans (hb3.mono (by omega)); have h3 := (h.below hb03).mono hb03.size; have hQ3 := hQ1.below hb3 (by omega); have c33 : w3.cell? ⟨w.heap.size, 3, none⟩ = some (.slice pf l.length cf) := hQ3.cell 3; simp only [World.size_alloc] at hz3; clear hO hQ hQ1 h2 c3 hb2 hsz h1 hbx; go_wp2_with fail; refine (ask_any l ([] ++ askF l etagT ifNoneT) lastT ifSinceT _ v3 w.heap.size (w.heap.size + 1) (w.heap.size + 2) _ c33 h3 hl (by decide) hO3 hown3 (by rw [List.nil_append]; omega) (by omega) (by omega) (by omega)).mono ?_; rintro e w4 ⟨rfl, v4, hO4, hown4, hb4, hz4⟩; have cO := hO4.cell; rw [HA.out] at hown4; have hb04 := hb03.trans (hb4.mono (by omega)); clear hO3 hown3; go_wp2; go_ret; exact ⟨_, rfl, own_base hown4 (by omega), hb04⟩
end Go.Proofs.YtahapblgmehngaaGreatDoor

