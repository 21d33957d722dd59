/- Parts of the proof of DealLacks_holds: the texts Elp. -/
import Derived.Test.YtahapblgmehngaaGreatDoorC3
set_option linter.unusedSimpArgs false
set_option linter.unusedVariables false
set_option linter.unnecessarySimpa false
namespace Go.Proofs.YtahapblgmehngaaGreatDoor
open Go.RowKit Go.Dr

set_option maxRecDepth 100000 in
set_option maxHeartbeats 2000000 in
theorem refElements_any (l : Bytes) (w : World) (hl : l.length ≤ 1099511627776) :
    Calls Tryz.prog 81 #[S l] w (RetSs 9 w (elems l)) := by
  go_enter Tryz.func81, Tryz.ntmps81
  go_wp2
  go_loopw [3, 4, 5] (fun v vs i wr => ∃ (k : Nat) (out : List Bytes) (s : Bytes), i = .int .i64 k ∧ vs = S s ∧ k ≤ l.length + 1 ∧ s.length ≤ k ∧ out.length ≤ k ∧ wr.ownsRow w.heap.size 9 1 v out.length (out.map S) ∧ Hid (elTail l out s k = elems l) ∧ Below w.heap.size w wr) (fun _ _ i _ => l.length + 1 - (intOf i).toNat)
  case atStart => exact ⟨0, [], [], rfl, rfl, Nat.zero_le _, Nat.zero_le _, Nat.zero_le _, World.ownsRow_nil _ _ _ _, elTail_zero l, Below.refl _ _⟩
  case round =>
    obtain ⟨k, out, s, rfl, rfl, hk, hs, ho, hown, HT, hbel⟩ := hrel
    by_cases hle : k ≤ l.length
    · by_cases hput : ∀ h : k < l.length, l[k] = 44
      · have HP := Lib.hid (elTail_put l out s k hle hput)
        have HR : Hid (elTail l (out ++ fin s) [] (k + 1) = elems l) := by show _ = _; rw [HP.out, HT.out]
        have htl := trim_length s
        by_cases htr : trim s = []
        · have HF := Lib.hid (fin_nil s htr)
          by_cases hlt : k < l.length
          · have h1 : ((k : Int) == (l.length : Int)) = false := i_ne (Nat.ne_of_lt hlt)
            have h2 : ((l[k].toNat : Int) == 44) = true := u8_eq (hput hlt)
            clear hput
            go_wp2_with (go_at_call 114; refine (refTrim_any _ _ (by unfold maxLen; omega)).mono ?_; rintro e w' ⟨rfl, rfl⟩)
            go_roundw
            case rel => exact ⟨k + 1, out, [], by go_num, rfl, by omega, by simp, by omega, hown, by rw [HF.out, List.append_nil] at HR; exact HR, hbel⟩
            case measure => simp [intOf]; omega
          · have h1 : ((k : Int) == (l.length : Int)) = true := i_eq (Nat.le_antisymm hle (Nat.not_lt.1 hlt))
            clear hput
            go_wp2_with (go_at_call 114; refine (refTrim_any _ _ (by unfold maxLen; omega)).mono ?_; rintro e w' ⟨rfl, rfl⟩)
            go_roundw
            case rel => exact ⟨k + 1, out, [], by go_num, rfl, by omega, by simp, by omega, hown, by rw [HF.out, List.append_nil] at HR; exact HR, hbel⟩
            case measure => simp [intOf]; omega
        · have HF := Lib.hid (fin_one s htr)
          have hI : (!(trim s).isEmpty) = true := by simpa using htr
          clear htr
          by_cases hlt : k < l.length
          · have h1 : ((k : Int) == (l.length : Int)) = false := i_ne (Nat.ne_of_lt hlt)
            have h2 : ((l[k].toNat : Int) == 44) = true := u8_eq (hput hlt)
            clear hput
            go_wp2_with (first | (at_builtin; refine wpList_app1 rfl _ _ 44 rfl w.heap.size (.string ByteArray.empty) 16 Tryz.underlying44 (by kernel_rfl) rfl rfl _ _ _ rfl hown rfl (by omega) (by decide) hbel.size ?_; intro a' c' w' hown' hb' hz') | (go_at_call 114; refine (refTrim_any _ _ (by unfold maxLen; omega)).mono ?_; rintro e w' ⟨rfl, rfl⟩))
            go_roundw
            case rel => exact ⟨k + 1, out ++ [trim s], [], by go_num, rfl, by omega, by simp, by simp; omega, by simpa using hown', by rw [HF.out] at HR; exact HR, hbel.trans hb'⟩
            case measure => simp [intOf]; omega
          · have h1 : ((k : Int) == (l.length : Int)) = true := i_eq (Nat.le_antisymm hle (Nat.not_lt.1 hlt))
            clear hput
            go_wp2_with (first | (at_builtin; refine wpList_app1 rfl _ _ 44 rfl w.heap.size (.string ByteArray.empty) 16 Tryz.underlying44 (by kernel_rfl) rfl rfl _ _ _ rfl hown rfl (by omega) (by decide) hbel.size ?_; intro a' c' w' hown' hb' hz') | (go_at_call 114; refine (refTrim_any _ _ (by unfold maxLen; omega)).mono ?_; rintro e w' ⟨rfl, rfl⟩))
            go_roundw
            case rel => exact ⟨k + 1, out ++ [trim s], [], by go_num, rfl, by omega, by simp, by simp; omega, by simpa using hown', by rw [HF.out] at HR; exact HR, hbel.trans hb'⟩
            case measure => simp [intOf]; omega
      · have hlt : k < l.length := by
          rcases Nat.lt_or_ge k l.length with h | h
          · exact h
          · exact absurd (fun h' => absurd h' (Nat.not_lt.2 h)) hput
        have hne : ((k : Int) == (l.length : Int)) = false := i_ne (Nat.ne_of_lt hlt)
        have h44 : l[k] ≠ 44 := fun e => hput fun _ => e
        have h44' : ((l[k].toNat : Int) == 44) = false := u8_ne h44
        have HD := Lib.hid (drop_take_one l k hlt)
        by_cases h34 : l[k] = 34
        · have h34n : ((l[k].toNat : Int) != 34) = false := u8_eb h34
          have HQ := Lib.hid (el_quote false s l k hlt h34)
          have HT2 : Hid (out ++ el true false (s ++ [l[k]]) (l.drop (k + 1)) = elems l) := by
            show _ = _
            have := HT.out
            unfold elTail at this
            rw [if_pos hle, HQ.out] at this
            exact this
          clear h34 h44 hput HQ
          go_wp2
          rw [HD.out]
          go_loop [4, 5] (fun vs i => ∃ (j : Nat) (s : Bytes), i = .int .i64 j ∧ vs = S s ∧ k ≤ j ∧ j < l.length ∧ s.length ≤ j + 1 ∧ Hid (out ++ el true false s (l.drop (j + 1)) = elems l)) (fun _ i => l.length - (intOf i).toNat)
          case atStart => exact ⟨k, _, rfl, rfl, Nat.le_refl _, hlt, by simp; omega, HT2⟩
          case round =>
            obtain ⟨j, s, rfl, rfl, hkj, hj, hs, HT3⟩ := hrel
            by_cases hj1 : j + 1 < l.length
            · have HD1 := Lib.hid (drop_take_one l (j + 1) hj1)
              by_cases g34 : l[j + 1] = 34
              · have g34' : ((l[j + 1].toNat : Int) == 34) = true := u8_eq g34
                have HR : Hid (elTail l out (s ++ [l[j + 1]]) (j + 1 + 1) = elems l) := by show _ = _; rw [el_quoted_out out l s j hj1 g34, HT3.out]
                clear g34
                go_wp2
                go_roundw
                case rel => exact ⟨j + 1 + 1, out, s ++ [l[j + 1]], by go_num, by rw [HD1.out], by omega, by simp; omega, by omega, hown, HR, hbel⟩
                case measure => simp [intOf]; omega
              · have g34' : ((l[j + 1].toNat : Int) == 34) = false := u8_ne g34
                by_cases g92 : l[j + 1] = 92
                · have g92' : ((l[j + 1].toNat : Int) == 92) = true := u8_eq g92
                  by_cases hj2 : j + 1 + 1 < l.length
                  · have HD2 := Lib.hid (drop_take_one l (j + 1 + 1) hj2)
                    have HR := Lib.hid ((el_quoted_two out l s j hj2 g92).trans HT3.out)
                    clear g34 g92
                    go_wp2
                    go_round
                    case rel => exact ⟨j + 1 + 1, _, by go_num, by rw [HD1.out, HD2.out]; simp, by omega, by omega, by simp; omega, HR⟩
                    case measure => simp [intOf]; omega
                  · have HR := Lib.hid ((el_quoted_last out l s j hj1 hj2 g92).trans HT3.out)
                    clear g34 g92
                    go_wp2
                    go_round
                    case rel => exact ⟨j + 1, _, by go_num, by rw [HD1.out], by omega, by omega, by simp; omega, HR⟩
                    case measure => simp [intOf]; omega
                · have g92' : ((l[j + 1].toNat : Int) == 92) = false := u8_ne g92
                  have HR := Lib.hid ((el_quoted_on out l s j hj1 g34 g92).trans HT3.out)
                  clear g34 g92
                  go_wp2
                  go_round
                  case rel => exact ⟨j + 1, _, by go_num, by rw [HD1.out], by omega, by omega, by simp; omega, HR⟩
                  case measure => simp [intOf]; omega
            · have HR : Hid (elTail l out s (j + 1) = elems l) := by show _ = _; rw [el_quoted_end out l s j (by omega), HT3.out]
              go_wp2
              go_roundw
              case rel => exact ⟨j + 1, out, s, by go_num, rfl, by omega, by omega, by omega, hown, HR, hbel⟩
              case measure => simp [intOf]; omega
        · have h34n : ((l[k].toNat : Int) != 34) = true := u8_nb h34
          have HP := Lib.hid (elTail_plain l out s k hlt h34 h44)
          have HR : Hid (elTail l out (s ++ [l[k]]) (k + 1) = elems l) := by show _ = _; rw [HP.out, HT.out]
          clear h34 h44 hput
          go_wp2
          go_roundw
          case rel => exact ⟨k + 1, out, s ++ [l[k]], by go_num, by rw [HD.out], by omega, by simp; omega, by omega, hown, HR, hbel⟩
          case measure => simp [intOf]; omega
    · have hk' : k = l.length + 1 := by omega
      have HE : Hid (out = elems l) := by
        have := HT.out
        unfold elTail at this
        rwa [if_neg hle] at this
      clear HT
      have hown : wr.ownsRow w.heap.size 9 1 u3 (elems l).length ((elems l).map S) := by rw [← HE.out]; exact hown
      go_wp2
      go_ret
      exact ⟨_, rfl, hown, hbel⟩

end Go.Proofs.YtahapblgmehngaaGreatDoor
namespace Go.Proofs.YtahapblgmehngaaGreatDoor
open Go.RowKit Go.Dr

/-- What the closure 'put' leaves. -/
def PutPost (b0 B bV bF bO : Nat) (l : Bytes) (to : Nat) (out : List Bytes) (w : World) (e : Ending) (w' : World) : Prop :=
  ∃ vo, e = .returned (.tuple #[]) ∧ One w' bV 9 (S l) ∧ One w' bF 3 (.int .i64 ((to : Int) + 1)) ∧ One w' bO 44 vo ∧ w'.ownsRow B 9 1 vo out.length (out.map S) ∧ Below b0 w w'

set_option maxRecDepth 100000 in
set_option maxHeartbeats 1000000 in
theorem put_any (b0 B bV bF bO : Nat) (l : Bytes) (fr to : Nat) (out : List Bytes) (vo : Value) (w : World)
    (hV : One w bV 9 (S l)) (hF : One w bF 3 (.int .i64 fr)) (hO : One w bO 44 vo) (hown : w.ownsRow B 9 1 vo out.length (out.map S))
    (h1 : b0 ≤ bV) (h2 : b0 ≤ bF) (h3 : b0 ≤ bO) (g1 : bV < B) (g2 : bF < B) (g3 : bO < B) (n1 : bV ≠ bF) (n2 : bV ≠ bO) (n3 : bF ≠ bO) (hB : B ≤ w.heap.size)
    (s : Bytes) (hs : (l.take to).drop fr = s) (hft : fr ≤ to) (htl : to ≤ l.length) (hl : l.length ≤ 1099511627776) (ho : out.length ≤ 1099511627776) :
    Calls Tryz.prog 138 #[.int .i64 to, .pointer (some ⟨bV, 0, none⟩), .pointer (some ⟨bF, 0, none⟩), .pointer (some ⟨bO, 0, none⟩)] w (PutPost b0 B bV bF bO l to (out ++ fin s) w) := by
  have cV := hV.cell
  have cF := hF.cell
  have HS := Lib.hid hs
  clear hs
  go_enter Tryz.func138, Tryz.ntmps138
  go_wp2_with fail
  refine (Trim_any _ _ (by unfold maxLen; simp; omega)).mono ?_
  rintro e w1 ⟨rfl, hb1⟩
  have hV1 := hV.below hb1 hV.lt
  have hF1 := hF.below hb1 hF.lt
  have hO1 := hO.below hb1 hO.lt
  have hown1 := own_below hown hb1
  have hB1 : B ≤ w1.heap.size := Nat.le_trans hB hb1.size
  have hz1 := hb1.size
  have hb1' : Below b0 w w1 := hb1.mono (by omega)
  clear cV cF hV hF hO hown hb1 hB
  rw [HS.out]
  have cO := hO1.cell
  have fO := hO1.free
  have fF := hF1.free
  have cF := hF1.cell
  by_cases ht : trim s = []
  · have HF := Lib.hid (fin_nil s ht)
    go_wp2
    go_end0
    exact ⟨vo, rfl, hV1.other n1 _, hF1.set _, hO1.other (Ne.symm n3) _, by rw [HF.out, List.append_nil]; exact ownsRow_setCell_below hown1 g2 _, hb1'.setCell h2 _⟩
  · have HF := Lib.hid (fin_one s ht)
    have hI : (!(trim s).isEmpty) = true := by simpa using ht
    clear ht
    go_wp2_with (at_builtin; refine wpList_app1 rfl _ _ 44 rfl B (.string ByteArray.empty) 16 Tryz.underlying44 (by kernel_rfl) rfl rfl _ _ _ rfl hown1 rfl (by omega) (by decide) hB1 ?_; intro a' c' w2 hown2 hb2 hz2; have cO2 := (hO1.below hb2 g3).cell; have fO2 := (hO1.below hb2 g3).free; have cF2 := (hF1.below hb2 g2).cell; have fF2 := (hF1.below hb2 g2).free)
    go_end0
    exact ⟨_, rfl, ((hV1.below hb2 g1).other n2 _).other n1 _, ((hF1.below hb2 g2).other n3 _).set _, ((hO1.below hb2 g3).set _).other (Ne.symm n3) _,
      by rw [HF.out]; simpa using ownsRow_setCell_below (ownsRow_setCell_below hown2 g3 _) g2 _, ((hb1'.trans (hb2.mono (by omega))).setCell h3 _).setCell h2 _⟩

/-- What holds at the head of every round of hop's Elements. -/
def ElR (l : Bytes) (w : World) (vq vt vi : Value) (wr : World) : Prop :=
  ∃ (k fr : Nat) (out : List Bytes) (vo : Value) (q t : Bool), vi = .int .i64 k ∧ vq = .bool q ∧ vt = .bool t ∧ k ≤ l.length ∧ fr ≤ k ∧ out.length ≤ fr ∧
    One wr w.heap.size 9 (S l) ∧ One wr (w.heap.size + 1 + 1) 3 (.int .i64 fr) ∧ One wr (w.heap.size + 1) 44 vo ∧ wr.ownsRow (w.heap.size + 3) 9 1 vo out.length (out.map S) ∧
    out ++ el q t ((l.take k).drop fr) (l.drop k) = elems l ∧ Below w.heap.size w wr ∧ w.heap.size + 3 ≤ wr.heap.size

set_option maxRecDepth 100000 in
set_option maxHeartbeats 2000000 in
theorem Elements_any (l : Bytes) (w : World) (hl : l.length ≤ 1099511627776) :
    Calls Tryz.prog 115 #[S l] w (RetSs 9 w (elems l)) := by
  have hmf : ∀ (fn : Fn) (first cap : Array Value) (w : World), (Instr.makeFunc fn first cap).run Tryz.prog w = .ok (.func fn first cap) w := fun _ _ _ _ => rfl
  go_enter Tryz.func115, Tryz.ntmps115
  go_wp2
  go_loopw [5, 6, 13] (ElR l w) (fun _ _ i _ => l.length - (intOf i).toNat)
  case atStart =>
    have h2 := (One.new (w.alloc (.cells #[S l] 9)) 44 (.slice none 0 0)).alloc (.cells #[.int .i64 0] 3)
    have h3 := One.new ((w.alloc (.cells #[S l] 9)).alloc (.cells #[.slice none 0 0] 44)) 3 (.int .i64 0)
    exact ⟨0, 0, [], .slice none 0 0, false, false, rfl, rfl, rfl, Nat.zero_le _, Nat.le_refl _, Nat.le_refl _, ((One.new w _ _).alloc _).alloc _, by simpa using h3, by simpa using h2,
      World.ownsRow_nil _ _ _ _, rfl, (((Below.refl _ _).alloc (Nat.le_refl _) _).alloc (by simp) _).alloc (by simp; omega) _, by simp⟩
  case round =>
    obtain ⟨k, fr, out, vo, q, t, rfl, rfl, rfl, hk, hf, ho, hV, hF, hO, hown, hT, hbel, hsz⟩ := hrel
    have HT := Lib.hid hT
    clear hT
    have cV := hV.cell
    by_cases hlt : k < l.length
    · have HP := Lib.hid (piece_snoc l fr k hlt hf)
      cases t
      · by_cases c92 : l[k] = 92
        · have g92 : ((l[k].toNat : Int) == 92) = true := u8_eq c92
          have g34 : ((l[k].toNat : Int) == 34) = false := by rw [c92]; rfl
          have g44 : ((l[k].toNat : Int) == 44) = false := by rw [c92]; rfl
          cases q
          · have HN : Hid (out ++ el false false ((l.take k).drop fr ++ [l[k]]) (l.drop (k + 1)) = elems l) := by show _ = _; rw [← el_plain false _ l k hlt (by simp) (by rw [c92]; decide) (fun _ => by rw [c92]; decide), HT.out]
            clear c92
            go_wp2
            go_roundw
            case rel => exact ⟨k + 1, fr, out, vo, false, false, by go_num, rfl, rfl, by omega, by omega, ho, hV, hF, hO, hown, by rw [HP.out]; exact HN.out, hbel, hsz⟩
            case measure => simp [intOf]; omega
          · have HN : Hid (out ++ el true true ((l.take k).drop fr ++ [l[k]]) (l.drop (k + 1)) = elems l) := by show _ = _; rw [← el_stroke _ l k hlt c92, HT.out]
            clear c92
            go_wp2
            go_roundw
            case rel => exact ⟨k + 1, fr, out, vo, true, true, by go_num, rfl, rfl, by omega, by omega, ho, hV, hF, hO, hown, by rw [HP.out]; exact HN.out, hbel, hsz⟩
            case measure => simp [intOf]; omega
        · have g92 : ((l[k].toNat : Int) == 92) = false := u8_ne c92
          by_cases c34 : l[k] = 34
          · have g34 : ((l[k].toNat : Int) == 34) = true := u8_eq c34
            have HN : Hid (out ++ el (!q) false ((l.take k).drop fr ++ [l[k]]) (l.drop (k + 1)) = elems l) := by show _ = _; rw [← el_quote q _ l k hlt c34, HT.out]
            clear c34 c92
            cases q
            all_goals
              go_wp2
              go_roundw
              case rel => exact ⟨k + 1, fr, out, vo, _, false, by go_num, rfl, rfl, by omega, by omega, ho, hV, hF, hO, hown, by rw [HP.out]; exact HN.out, hbel, hsz⟩
              case measure => simp [intOf]; omega
          · have g34 : ((l[k].toNat : Int) == 34) = false := u8_ne c34
            by_cases c44 : l[k] = 44 ∧ q = false
            · obtain ⟨c44, rfl⟩ := c44
              have g44 : ((l[k].toNat : Int) == 44) = true := u8_eq c44
              have HN : Hid ((out ++ fin ((l.take k).drop fr)) ++ el false false [] (l.drop (k + 1)) = elems l) := by show _ = _; rw [List.append_assoc, ← el_comma _ l k hlt c44, HT.out]
              clear c44 c34 c92
              have hsp : (fin ((l.take k).drop fr)).length ≤ 1 := by unfold fin; split <;> simp
              go_wp2_with (go_at_call 138; refine (put_any w.heap.size (w.heap.size + 3) _ _ _ l fr k out vo _ hV hF hO hown (by omega) (by omega) (by omega) (by omega) (by omega) (by omega) (by omega) (by omega) (by omega) hsz _ rfl hf hk hl (by omega)).mono ?_; rintro e w2 ⟨vo2, rfl, hV2, hF2, hO2, hown2, hb2⟩)
              go_roundw
              case rel => exact ⟨k + 1, k + 1, _, vo2, false, false, by go_num, rfl, rfl, by omega, by omega, by simp; omega, hV2, by simpa using hF2, hO2, hown2, by rw [piece_none]; exact HN.out, hbel.trans hb2, by have := hV2.lt; have := hb2.size; omega⟩
              case measure => simp [intOf]; omega
            · have HN : Hid (out ++ el q false ((l.take k).drop fr ++ [l[k]]) (l.drop (k + 1)) = elems l) := by
                show _ = _
                rw [← el_plain q _ l k hlt (fun _ => c92) c34 (fun hq h => c44 ⟨h, hq⟩), HT.out]
              have g44 : q = false → ((l[k].toNat : Int) == 44) = false := fun hq => u8_ne fun h => c44 ⟨h, hq⟩
              clear c44 c34 c92
              cases q
              · have g44 := g44 rfl
                go_wp2
                go_roundw
                case rel => exact ⟨k + 1, fr, out, vo, _, false, by go_num, rfl, rfl, by omega, by omega, ho, hV, hF, hO, hown, by rw [HP.out]; exact HN.out, hbel, hsz⟩
                case measure => simp [intOf]; omega
              · clear g44
                by_cases c44 : l[k] = 44
                · have g44 : ((l[k].toNat : Int) == 44) = true := u8_eq c44
                  clear c44
                  go_wp2
                  go_roundw
                  case rel => exact ⟨k + 1, fr, out, vo, _, false, by go_num, rfl, rfl, by omega, by omega, ho, hV, hF, hO, hown, by rw [HP.out]; exact HN.out, hbel, hsz⟩
                  case measure => simp [intOf]; omega
                · have g44 : ((l[k].toNat : Int) == 44) = false := u8_ne c44
                  clear c44
                  go_wp2
                  go_roundw
                  case rel => exact ⟨k + 1, fr, out, vo, _, false, by go_num, rfl, rfl, by omega, by omega, ho, hV, hF, hO, hown, by rw [HP.out]; exact HN.out, hbel, hsz⟩
                  case measure => simp [intOf]; omega
      · have HN : Hid (out ++ el q false ((l.take k).drop fr ++ [l[k]]) (l.drop (k + 1)) = elems l) := by show _ = _; rw [← el_taken q _ l k hlt, HT.out]
        go_wp2
        go_roundw
        case rel => exact ⟨k + 1, fr, out, vo, _, false, by go_num, rfl, rfl, by omega, by omega, ho, hV, hF, hO, hown, by rw [HP.out]; exact HN.out, hbel, hsz⟩
        case measure => simp [intOf]; omega
    · have hk' : k = l.length := by omega
      subst hk'
      have cF := hF.cell
      have HE : Hid (out ++ fin ((l.take l.length).drop fr) = elems l) := by
        show _ = _
        rw [← HT.out, el_end _ _ _ _ _ (Nat.le_refl _)]
      go_wp2_with fail
      refine (put_any w.heap.size (w.heap.size + 3) _ _ _ l fr l.length out vo _ hV hF hO hown (by omega) (by omega) (by omega) (by omega) (by omega) (by omega) (by omega) (by omega) (by omega) hsz _ rfl hf (Nat.le_refl _) hl (by omega)).mono ?_
      rintro e w2 ⟨vo2, rfl, hV2, hF2, hO2, hown2, hb2⟩
      have cO := hO2.cell
      rw [HE.out] at hown2
      go_wp2
      go_ret
      exact ⟨_, rfl, own_base hown2 (by omega), hbel.trans hb2⟩

end Go.Proofs.YtahapblgmehngaaGreatDoor

