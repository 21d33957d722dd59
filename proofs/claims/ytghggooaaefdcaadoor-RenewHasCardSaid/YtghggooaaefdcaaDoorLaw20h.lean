
/- RenewHas. -/
import Derived.Test.YtghggooaaefdcaaDoorLaw20a
import Derived.Test.YtghggooaaefdcaaDoorRnP
import Derived.Deep.DeepCutAuto
namespace Go.Dr
def notTag (f : F) : Bool := !(f.n == etagT) && !(f.n == [69, 116, 97, 103])
end Go.Dr
namespace Go.Proofs.YtghggooaaefdcaaDoor
open Go.RowKit Go.Dr

theorem own_blk {base : Nat} {w : World} {e : TypeId} {size : Nat} {v : Value} {n : Nat} {xs : List Value} (h : w.ownsRow base e size v n xs) {b : Nat} {t : TypeId} {ys : Array Value} (hB : Blk w b t ys) (hte : t ≠ e) (k : Nat) (u : Value) : (w.setCell ⟨b, k, none⟩ u).ownsRow base e size v n xs := by
  refine ⟨h.1, ?_⟩
  rcases h.2 with hn | ⟨g, cap, cur, rfl, hbg, hgg, rest⟩
  · exact .inl hn
  · refine .inr ⟨g, cap, cur, rfl, hbg, (Below.heap_setCell w ⟨b, k, none⟩ u g (fun e1 => ?_)).trans hgg, rest⟩
    have e2 : g = b := by simpa using e1
    subst e2
    have := (show w.heap[g]? = _ from hB).symm.trans hgg
    simp at this
    exact hte this.2
theorem add_at' (a b c : Bytes) (hc : c = a ++ b) (hl : a.length + b.length ≤ 2000) : ∀ w' : World, (Op.stringOp .add ⟨a.toArray⟩ ⟨b.toArray⟩).run Tryd.prog w' = .ok (S c) w' := fun w' => by
  have := run_string_add_sum (P := Tryd.prog) (w := w') ⟨a.toArray⟩ ⟨b.toArray⟩ (by simp [ByteArray.size]; omega)
  rw [this, ba_append, hc]

set_option linter.unusedSimpArgs false in
set_option maxRecDepth 100000 in
set_option maxHeartbeats 16000000 in
theorem RenewHas_any (q : En) (tag : Bytes) (head : Bool) (le : List F) (w : World) (hf : Fs w.heap.size w q.vf le) (hfb : FOk le) (hbody : q.body.length ≤ 140737488351232) :
    Calls Tryd.prog 8 #[q.val, S tag, .bool head] w fun e w' => e = .returned (.bool true) ∧ Below w.heap.size w w' := by
  obtain ⟨pf, cf, hfv, -⟩ := hf.form
  obtain ⟨key, vp, st, vf, body, asked, came⟩ := q
  simp only at hfv hf hbody
  subst hfv
  have HFB := Lib.hid hfb
  clear hfb
  obtain ⟨w0, ew⟩ : ∃ w0 : World, w0 = w.alloc (.cells #[S key, vp, .int .i64 st, .slice pf le.length cf, S body, .int .i64 asked, .int .i64 came] 28) := ⟨_, rfl⟩
  have hQ : Blk w0 w.heap.size 28 #[S key, vp, .int .i64 st, .slice pf le.length cf, S body, .int .i64 asked, .int .i64 came] := by rw [ew]; exact Blk.new _ _ _
  have hb0 : Below w.heap.size w w0 := by rw [ew]; exact (Below.refl _ _).alloc (Nat.le_refl _) _
  have hf0 := (hf.below hb0).mono hb0.size
  have hs1 := @smallB_sum le
  simp only [En.val]
  generalize hsa : smallB le = sa at *
  have HSA := Lib.hid hsa
  have HS1 := Lib.hid hs1
  have HNok : Hid (FOk []) := Lib.hid ⟨by simp, by simp⟩
  have HSN : Hid (smallB [] = true) := by show _ = _; decide
  clear hsa hs1
  go_enter Tryd.func8, Tryd.ntmps8
  go_wp2_with fail
  rw [← ew]
  clear ew
  refine (awake20_any w0).mono ?_
  rintro e w1 ⟨rfl, hb1⟩
  have hw1 := Bl.tr hb0 hb1
  have hQ1 := hQ.on hb1
  have hf1 := (hf0.below hb1).mono hb1.size
  clear hb0 hQ hf0 hb1
  have g3 : w1.cell? ⟨w.heap.size, 3, none⟩ = some (.slice pf le.length cf) := hQ1.cell 3
  go_wp2_with fail
  refine (small20_any le [] _ _ w1 hf1 (Rd.nil _ _ _) HFB.out HNok.out).mono ?_
  rintro e w2 ⟨rfl, hb2⟩
  rw [HSA.out, HSN.out]
  have hw2 := Bl.tr hw1 hb2
  have hQ2 := hQ1.on hb2
  have hf2 := (hf1.below hb2).mono hb2.size
  clear hw1 hQ1 hf1 hb2 g3
  have g5 : w2.cell? ⟨w.heap.size, 4, none⟩ = some (S body) := hQ2.cell 4
  cases sa with
  | false =>
    go_wp2
    go_ret
    exact ⟨rfl, hw2⟩
  | true =>
  by_cases htl : 1000 < tag.length
  · have g6 : decide ((1000 : Int) < (tag.length : Int)) = true := by rw [decide_eq_true_iff]; omega
    clear htl
    go_wp2
    go_ret
    exact ⟨rfl, hw2⟩
  have g7 : decide ((1000 : Int) < (tag.length : Int)) = false := by rw [decide_eq_false_iff_not]; omega
  by_cases hbl : 1048576 < body.length
  · have g6 : decide ((1048576 : Int) < (body.length : Int)) = true := by rw [decide_eq_true_iff]; omega
    clear hbl
    go_wp2
    go_ret
    exact ⟨rfl, hw2⟩
  have g6 : decide ((1048576 : Int) < (body.length : Int)) = false := by rw [decide_eq_false_iff_not]; omega
  have hsum := HS1.out rfl
  go_wp2
  clear g5 g6 g7
  go_loop [7] (fun i => ∃ k : Nat, i = .int .i64 k ∧ k ≤ tag.length ∧ Hid (∀ j (h : j < tag.length), j < k → tag[j] ≠ 34)) (fun i => tag.length - (intOf i).toNat)
  case atStart => exact ⟨0, rfl, Nat.zero_le _, Lib.hid (fun j h hj => by omega)⟩
  case round =>
    obtain ⟨k, rfl, hk, HJ⟩ := hrel
    by_cases hlt : k < tag.length
    · by_cases h1 : tag[k] = 44
      · have g1 : ((tag[k].toNat : Int) == 44) = true := u8_eq h1
        clear h1
        go_wp2
        go_ret
        exact ⟨rfl, hw2⟩
      have g1 : ((tag[k].toNat : Int) == 44) = false := u8_ne h1
      by_cases h2 : tag[k] = 34
      · have g2 : ((tag[k].toNat : Int) == 34) = true := u8_eq h2
        clear h1 h2
        go_wp2
        go_ret
        exact ⟨rfl, hw2⟩
      have g2 : ((tag[k].toNat : Int) == 34) = false := u8_ne h2
      by_cases h3 : tag[k] = 32
      · have g3 : ((tag[k].toNat : Int) == 32) = true := u8_eq h3
        clear h1 h2 h3
        go_wp2
        go_ret
        exact ⟨rfl, hw2⟩
      have g3 : ((tag[k].toNat : Int) == 32) = false := u8_ne h3
      by_cases h4 : tag[k] = 9
      · have g4 : ((tag[k].toNat : Int) == 9) = true := u8_eq h4
        clear h1 h2 h3 h4
        go_wp2
        go_ret
        exact ⟨rfl, hw2⟩
      have g4 : ((tag[k].toNat : Int) == 9) = false := u8_ne h4
      by_cases h5 : tag[k] = 42
      · have g5 : ((tag[k].toNat : Int) == 42) = true := u8_eq h5
        clear h1 h2 h3 h4 h5
        go_wp2
        go_ret
        exact ⟨rfl, hw2⟩
      have g5 : ((tag[k].toNat : Int) == 42) = false := u8_ne h5
      by_cases h6 : tag[k] = 47
      · have g6 : ((tag[k].toNat : Int) == 47) = true := u8_eq h6
        clear h1 h2 h3 h4 h5 h6
        go_wp2
        go_ret
        exact ⟨rfl, hw2⟩
      have g6 : ((tag[k].toNat : Int) == 47) = false := u8_ne h6
      have HJ2 : Hid (∀ j (h : j < tag.length), j < k + 1 → tag[j] ≠ 34) := Lib.hid (fun j h hj => by
        by_cases e : j = k
        · subst e; exact h2
        · exact HJ.out j h (by omega))
      clear h1 h2 h3 h4 h5 h6
      go_wp2
      go_round
      case rel => exact ⟨k + 1, by go_num, by omega, HJ2⟩
      case measure => simp [intOf]; omega
    · have H34 : Hid (∀ c ∈ tag, c ≠ 34) := Lib.hid (fun c hc => by
        obtain ⟨j, hj, rfl⟩ := List.mem_iff_getElem.1 hc
        exact HJ.out j hj (by omega))
      clear HJ hk
      have k2 : w2.cell? ⟨w.heap.size, 2, none⟩ = some (.int .i64 st) := hQ2.cell 2
      have f2 := hQ2.free 2
      have hQ3 := hQ2.set 2 (.int .i64 200)
      have hw3 := hw2.setCell (p := ⟨w.heap.size, 2, none⟩) (Nat.le_refl _) (.int .i64 200)
      have hQlt := hQ2.lt
      have hQ3 : Blk (w2.setCell ⟨w.heap.size, 2, none⟩ (.int .i64 200)) w.heap.size 28 #[S key, vp, .int .i64 200, .slice pf le.length cf, S body, .int .i64 asked, .int .i64 came] := by simpa using hQ3
      go_wp2
      generalize w2.setCell ⟨w.heap.size, 2, none⟩ (.int .i64 200) = w3 at *
      clear k2 f2 hQ2 hf2 hw2 hQlt
      have hf3 := (hf.below hw3).mono hw3.size
      go_loopw [8, 9] (fun v i wr => ∃ k : Nat, i = .int .i64 k ∧ k ≤ le.length ∧ wr.ownsRow w3.heap.size 45 3 v ((le.take k).filter notTag).length (fcells ((le.take k).filter notTag)) ∧ Below w3.heap.size w3 wr) (fun _ i _ => le.length - (intOf i).toNat)
      case atStart => exact ⟨0, rfl, Nat.zero_le _, World.ownsRow_nil _ _ _ _, Below.refl _ _⟩
      case round =>
        obtain ⟨k, rfl, hk, hown, hbel⟩ := hrel
        have hQr := hQ3.on hbel
        have y3 : wr.cell? ⟨w.heap.size, 3, none⟩ = some (.slice pf le.length cf) := hQr.cell 3
        by_cases hlt : k < le.length
        · obtain ⟨b, off, hpf, hbb, c0, c1, c2⟩ := (hf3.below hbel).at k hlt
          subst hpf
          have hff := fsum_mem (List.getElem_mem hlt)
          have HV := Lib.hid (filter_snoc notTag le k hlt)
          have hvl : ((le.take k).filter notTag).length ≤ k := Nat.le_trans (List.length_filter_le _ _) (by simp; omega)
          have hbw : b < wr.heap.size := Nat.lt_of_lt_of_le hbb hbel.size
          have hlen := fsum_length le
          by_cases h1 : le[k].n = [101, 116, 97, 103]
          · have g1 : (le[k].n == [101, 116, 97, 103]) = true := by simp [h1]
            have HV : Hid ((le.take (k + 1)).filter notTag = (le.take k).filter notTag) := by show _ = _; rw [HV.out, if_neg (by simp [notTag, etagT, h1]), List.append_nil]
            clear h1
            go_wp2
            go_roundw
            case rel => exact ⟨k + 1, by go_num, by omega, by rw [HV.out]; exact hown, hbel⟩
            case measure => simp [intOf]; omega
          have g1 : (le[k].n == [101, 116, 97, 103]) = false := by simp [h1]
          by_cases h2 : le[k].n = [69, 116, 97, 103]
          · have g2 : (le[k].n == [69, 116, 97, 103]) = true := by simp [h2]
            have HV : Hid ((le.take (k + 1)).filter notTag = (le.take k).filter notTag) := by show _ = _; rw [HV.out, if_neg (by simp [notTag, etagT, h2]), List.append_nil]
            clear h1 h2
            go_wp2
            go_roundw
            case rel => exact ⟨k + 1, by go_num, by omega, by rw [HV.out]; exact hown, hbel⟩
            case measure => simp [intOf]; omega
          have g2 : (le[k].n == [69, 116, 97, 103]) = false := by simp [h2]
          have HV : Hid ((le.take (k + 1)).filter notTag = (le.take k).filter notTag ++ [le[k]]) := by show _ = _; rw [HV.out, if_pos (by simp [notTag, etagT, h1, h2])]
          clear h1 h2
          go_wp2_with (at_builtin; refine wpList_appF rfl _ _ 26 rfl w3.heap.size Tryd.underlying26 (by kernel_rfl) _ _ _ rfl hown rfl (by omega) (by have := hbel.size; omega) rfl ?_; intro a' c' w4 hown4 hb4 hz4)
          go_roundw
          case rel => exact ⟨k + 1, by go_num, by omega, by rw [HV.out, fcells_append, List.length_append]; exact hown4, hbel.trans hb4⟩
          case measure => simp [intOf]; omega
        · have hk' : k = le.length := by omega
          subst hk'
          rw [List.take_length] at hown
          have hLs := fsum_filter le notTag
          generalize le.filter notTag = L at *
          obtain ⟨aL, cL, rfl, -⟩ := (Fs.own hown).form
          have hLl := fsum_length L
          obtain ⟨w4, rfl⟩ : ∃ w4 : World, w4 = wr := ⟨_, rfl⟩
          have hw4 := Bl.on hw3 hw3.size hbel
          go_wp2_with fail
          clear y3
          refine (refHas_any L etagT _ w4 (Fs.own hown) (by omega) (by decide)).mono ?_
          rintro e w5 ⟨rfl, hb5⟩
          have ho5 := own_below hown hb5
          have hQ5 := hQr.on hb5
          have hw5 := Bl.tr hw4 hb5
          cases hx : hasB L etagT with
          | true =>
            clear hx
            go_wp2
            go_ret
            exact ⟨rfl, hw5⟩
          | false =>
          have HX := Lib.hid hx
          have hz35 := Nat.le_trans hbel.size hb5.size
          have hE3 : w.heap.size < w3.heap.size := hQ3.lt
          clear hx hown hbel hQr hw4 hb5
          have a1 := add_at' [34] tag (34 :: tag) rfl (by simp; omega)
          have a2 := add_at' (34 :: tag) [34] (qt tag) rfl (by simp; omega)
          have l1 : (34 :: tag).length ≤ 1001 := by simp; omega
          have l2 : (qt tag).length ≤ 1002 := by simp [qt]; omega
          have a3 := add_at' [34, 111, 116, 104, 101, 114, 45] tag (34 :: otherT tag) rfl (by simp; omega)
          have a4 := add_at' (34 :: otherT tag) [34] (qt (otherT tag)) rfl (by simp [otherT]; omega)
          have a5 := add_at' [87, 47, 34] tag ([87, 47, 34] ++ tag) rfl (by simp; omega)
          have a6 := add_at' ([87, 47, 34] ++ tag) [34] (87 :: 47 :: qt tag) (by simp [qt]) (by simp; omega)
          have l3 : (34 :: otherT tag).length ≤ 1010 := by simp [otherT]; omega
          have l4 : (qt (otherT tag)).length ≤ 1010 := by simp [qt, otherT]; omega
          have l5 : ([87, 47, 34] ++ tag).length ≤ 1010 := by simp; omega
          have l6 : (87 :: 47 :: qt tag).length ≤ 1010 := by simp [qt]; omega
          have HT : Hid (tagF tag = ⟨etagT, qt tag, false⟩) := rfl
          have HTA : Hid (askA tag = ⟨ifNoneT, qt (otherT tag), false⟩) := rfl
          have HTB : Hid (askB tag = ⟨[73, 102, 45, 78, 111, 110, 101, 45, 77, 97, 116, 99, 104], 87 :: 47 :: qt tag, false⟩) := rfl
          have HM1 := Lib.hid (fun m hm => metF_A m L tag came hm H34.out HX.out)
          have HM2 := Lib.hid (fun m hm => metF_AB m L tag came hm H34.out HX.out)
          generalize 34 :: tag = q1 at *
          generalize qt tag = q2 at *
          generalize 34 :: otherT tag = q3 at *
          generalize qt (otherT tag) = q4 at *
          generalize [87, 47, 34] ++ tag = q5 at *
          generalize 87 :: 47 :: q2 = q6 at *
          generalize tagF tag = tF at *
          generalize askA tag = tA at *
          generalize askB tag = tB at *
          have hQ5lt := hQ5.lt
          obtain ⟨m, hm, hmh⟩ : ∃ m : Bytes, (m = getM ∨ m = headM) ∧ m = (if head = true then headM else getM) := by
            cases head
            · exact ⟨getM, .inl rfl, rfl⟩
            · exact ⟨headM, .inr rfl, rfl⟩
          have HM1 := Lib.hid (HM1.out m hm)
          have HM2 := Lib.hid (HM2.out m hm)
          have Hmh := Lib.hid hmh
          have Hm := Lib.hid hm
          clear hm hmh
          go_upto_if 119 with (at_builtin; refine wpList_appFG rfl _ _ 26 rfl w3.heap.size Tryd.underlying26 (by kernel_rfl) _ _ _ rfl ho5 rfl (by omega) (by omega) rfl ?_; intro a' c' w6 ho6 hb6 hz6 hg6; have hQ6 := hQ5.below hb6 hE3; have k3 : w6.cell? ⟨w.heap.size, 3, none⟩ = some (.slice pf le.length cf) := hQ6.cell 3; have f3 := hQ6.free 3; have hz36 := hb6.size)
          have hoA0 := own_other ho6 (p := ⟨w.heap.size, 3, none⟩) hE3 (.slice a' (L.length + 1) c')
          have hQA : Blk (w6.setCell ⟨w.heap.size, 3, none⟩ (.slice a' (L.length + 1) c')) w.heap.size 28 #[S key, vp, .int .i64 200, .slice a' (L.length + 1) c', S body, .int .i64 asked, .int .i64 came] := by simpa using hQ6.set 3 (.slice a' (L.length + 1) c')
          have hwA := (hw5.trans (hb6.mono (Nat.le_of_lt hE3))).setCell (p := ⟨w.heap.size, 3, none⟩) (Nat.le_refl _) (.slice a' (L.length + 1) c')
          have hsA : (w6.setCell ⟨w.heap.size, 3, none⟩ (.slice a' (L.length + 1) c')).heap.size = w6.heap.size := by simp
          clear k3 f3 hQ6
          generalize w6.setCell ⟨w.heap.size, 3, none⟩ (.slice a' (L.length + 1) c') = wA at *
          have hFA : Fs w6.heap.size wA (.slice a' (L.length + 1) c') (L ++ [tF]) := by
            have h1 : wA.ownsRow w3.heap.size 45 3 (.slice a' (L.length + 1) c') (L ++ [tF]).length (fcells (L ++ [tF])) := by rw [fcells_append, List.length_append, HT.out]; exact hoA0
            have h2 := Fs.own h1
            rwa [hsA] at h2
          obtain ⟨wC, ewC⟩ : ∃ wC : World, wC = (wA.alloc (.cells #[S [105, 102, 45, 110, 111, 110, 101, 45, 109, 97, 116, 99, 104], S q4, .bool false] 45)).alloc (.cells #[S [71, 69, 84], S [], S [], S [], .slice (some ⟨w6.heap.size, 0, none⟩) 1 1] 67) := ⟨_, rfl⟩
          have hoC : wC.ownsRow w6.heap.size 45 3 (.slice (some ⟨w6.heap.size, 0, none⟩) 1 1) 1 (fcells [tA]) := by
            have h1 := World.ownsRow_lit (base := w6.heap.size) (e := 45) (size := 3) wA #[S [105, 102, 45, 110, 111, 110, 101, 45, 109, 97, 116, 99, 104], S q4, .bool false] 1 (by omega) (by decide) rfl
            rw [hsA] at h1
            rw [ewC, HTA.out]
            exact h1.alloc _
          have hRC : Blk wC (w6.heap.size + 1) 67 #[S getM, S [], S [], S [], .slice (some ⟨w6.heap.size, 0, none⟩) 1 1] := by
            rw [ewC]
            have := Blk.new (wA.alloc (.cells #[S [105, 102, 45, 110, 111, 110, 101, 45, 109, 97, 116, 99, 104], S q4, .bool false] 45)) 67 #[S getM, S [], S [], S [], .slice (some ⟨w6.heap.size, 0, none⟩) 1 1]
            rwa [show (wA.alloc (.cells #[S [105, 102, 45, 110, 111, 110, 101, 45, 109, 97, 116, 99, 104], S q4, .bool false] 45)).heap.size = w6.heap.size + 1 by simp [hsA]] at this
          have hQC : Blk wC w.heap.size 28 #[S key, vp, .int .i64 200, .slice a' (L.length + 1) c', S body, .int .i64 asked, .int .i64 came] := by rw [ewC]; exact (hQA.alloc _).alloc _
          have hbC : Below w6.heap.size wA wC := by rw [ewC]; exact ((Below.refl _ _).alloc (by omega) _).alloc (by simp [hsA]) _
          have hEL : w.heap.size < w6.heap.size := by have := hz36; omega
          have hwC : Below w.heap.size w wC := hwA.trans (hbC.mono (Nat.le_of_lt hEL))
          have hFC : Fs w6.heap.size wC (.slice a' (L.length + 1) c') (L ++ [tF]) := hFA.below hbC
          have hzC : w6.heap.size + 1 < wC.heap.size := hRC.lt
          rw [← ewC]
          clear ewC hoA0 hQA hwA hFA hbC hsA
          have HAns := Lib.hid (fun (lr : List F) (v : Value) w h h' hl => Answer_any ⟨m, [], [], [], v⟩ key body vp (.slice a' (L.length + 1) c') 200 asked came 0 lr (L ++ [tF]) [120] w h h' hl (by rw [fsum_append, HT.out]; simp [fsum, etagT]; simp [fsum] at hLs hsum; omega) (by omega) (by decide))
          simp only [Rq.val] at HAns
          have hA1 : fsum [tA] ≤ 1099511627776 := by rw [HTA.out]; simp [fsum, ifNoneT]; omega
          have hA2 : fsum [tA, tB] ≤ 1099511627776 := by rw [HTA.out, HTB.out]; simp [fsum, ifNoneT]; omega
          obtain ⟨wD, hRD, hoD, hFD, hQD, hwD, hzD, HB, hgo⟩ : ∃ wD : World, Blk wD (w6.heap.size + 1) 67 #[S m, S [], S [], S [], .slice (some ⟨w6.heap.size, 0, none⟩) 1 1] ∧ wD.ownsRow w6.heap.size 45 3 (.slice (some ⟨w6.heap.size, 0, none⟩) 1 1) 1 (fcells [tA]) ∧ Fs w6.heap.size wD (.slice a' (L.length + 1) c') (L ++ [tF]) ∧ Blk wD w.heap.size 28 #[S key, vp, .int .i64 200, .slice a' (L.length + 1) c', S body, .int .i64 asked, .int .i64 came] ∧ Below w.heap.size w wD ∧ w6.heap.size + 1 < wD.heap.size ∧ Hid (bodyF m body = if head = true then [] else body) ∧ wD = (if head = true then wC.setCell ⟨w6.heap.size + 1, 0, none⟩ (S headM) else wC) := by
            have hm := Hmh.out
            cases head
            · obtain rfl : m = getM := hm
              exact ⟨wC, hRC, hoC, hFC, hQC, hwC, hzC, rfl, rfl⟩
            · obtain rfl : m = headM := hm
              have hb9 : Below w6.heap.size wC (wC.setCell ⟨w6.heap.size + 1, 0, none⟩ (S headM)) := (Below.refl _ _).setCell (p := ⟨w6.heap.size + 1, 0, none⟩) (Nat.le_succ _) _
              refine ⟨_, ?_, own_blk hoC hRC (by decide) 0 (S headM), hFC.below hb9, hQC.below hb9 hEL, hwC.trans (hb9.mono (Nat.le_of_lt hEL)), Nat.lt_of_lt_of_le hzC hb9.size, rfl, rfl⟩
              simpa using hRC.set 0 (S headM)
          have kC : wC.cell? ⟨w6.heap.size + 1, 0, none⟩ = some (S getM) := hRC.cell 0
          have fC := hRC.free 0
          clear hRC hoC hFC hQC hwC
          cases head
          case' false =>
            obtain rfl : wD = wC := hgo
            go_upto_region 23 with fail
          case' true =>
            have hgq : wC.setCell ⟨w6.heap.size + 1, 0, none⟩ (S [72, 69, 65, 68]) = wD := hgo.symm
            clear hgo
            go_upto_region 23 with fail
            try rw [hgq]
            clear hgq
          all_goals
            clear kC fC
            (have x0 : wD.cell? ⟨w6.heap.size + 1, 0, none⟩ = some (S m) := hRD.cell 0; have x1 : wD.cell? ⟨w6.heap.size + 1, 1, none⟩ = some (S []) := hRD.cell 1; have x2 : wD.cell? ⟨w6.heap.size + 1, 2, none⟩ = some (S []) := hRD.cell 2; have x3 : wD.cell? ⟨w6.heap.size + 1, 3, none⟩ = some (S []) := hRD.cell 3; have x4 : wD.cell? ⟨w6.heap.size + 1, 4, none⟩ = some (.slice (some ⟨w6.heap.size, 0, none⟩) 1 1) := hRD.cell 4)
            (have y0 : wD.cell? ⟨w.heap.size, 0, none⟩ = some (S key) := hQD.cell 0; have y1 : wD.cell? ⟨w.heap.size, 1, none⟩ = some (vp) := hQD.cell 1; have y2 : wD.cell? ⟨w.heap.size, 2, none⟩ = some (.int .i64 200) := hQD.cell 2; have y3 : wD.cell? ⟨w.heap.size, 3, none⟩ = some (.slice a' (L.length + 1) c') := hQD.cell 3; have y4 : wD.cell? ⟨w.heap.size, 4, none⟩ = some (S body) := hQD.cell 4; have y5 : wD.cell? ⟨w.heap.size, 5, none⟩ = some (.int .i64 asked) := hQD.cell 5; have y6 : wD.cell? ⟨w.heap.size, 6, none⟩ = some (.int .i64 came) := hQD.cell 6)
            go_wp2_with fail
            have H1 := HAns.out [tA] (.slice (some ⟨w6.heap.size, 0, none⟩) 1 1) wD (Fs.own hoD) (hFD.mono (by omega)) hA1
            rw [HM1.out, show ansN false 200 = 200 from rfl, show ansB false m body = bodyF m body from rfl, HB.out] at H1
            generalize ansL false 200 (L ++ [tF]) body.length (ageF (L ++ [tF]) asked came 0) [120] = L1 at H1
            refine H1.mono ?_
            clear H1
            rintro e wE ⟨v3, rfl, hF3, hbE⟩
            obtain ⟨p3, c3, rfl, -⟩ := hF3.form
            have hRE := hRD.on hbE
            have hoE := own_below hoD hbE
            have hFE := hFD.below (hbE.mono (by omega))
            have hQE := hQD.on hbE
            have hwE := Bl.tr hwD hbE
            have hzE := Nat.lt_of_lt_of_le hzD hbE.size
            clear x0 x1 x2 x3 x4 y0 y1 y2 y3 y4 y5 y6 hRD hoD hFD hQD hwD hbE hF3 hzD
            (have x0 : wE.cell? ⟨w6.heap.size + 1, 0, none⟩ = some (S m) := hRE.cell 0; have x1 : wE.cell? ⟨w6.heap.size + 1, 1, none⟩ = some (S []) := hRE.cell 1; have x2 : wE.cell? ⟨w6.heap.size + 1, 2, none⟩ = some (S []) := hRE.cell 2; have x3 : wE.cell? ⟨w6.heap.size + 1, 3, none⟩ = some (S []) := hRE.cell 3; have x4 : wE.cell? ⟨w6.heap.size + 1, 4, none⟩ = some (.slice (some ⟨w6.heap.size, 0, none⟩) 1 1) := hRE.cell 4)
            (have y0 : wE.cell? ⟨w.heap.size, 0, none⟩ = some (S key) := hQE.cell 0; have y1 : wE.cell? ⟨w.heap.size, 1, none⟩ = some (vp) := hQE.cell 1; have y2 : wE.cell? ⟨w.heap.size, 2, none⟩ = some (.int .i64 200) := hQE.cell 2; have y3 : wE.cell? ⟨w.heap.size, 3, none⟩ = some (.slice a' (L.length + 1) c') := hQE.cell 3; have y4 : wE.cell? ⟨w.heap.size, 4, none⟩ = some (S body) := hQE.cell 4; have y5 : wE.cell? ⟨w.heap.size, 5, none⟩ = some (.int .i64 asked) := hQE.cell 5; have y6 : wE.cell? ⟨w.heap.size, 6, none⟩ = some (.int .i64 came) := hQE.cell 6)
            go_upto_region 27 with (at_builtin; refine wpList_appFG rfl _ _ 26 rfl w6.heap.size Tryd.underlying26 (by kernel_rfl) _ _ _ rfl hoE rfl (by omega) (by omega) rfl ?_; intro a2 c2 w7 ho7 hb7 hz7 hg7; have hR7 := (hRE.alloc (.cells #[S [73, 102, 45, 78, 111, 110, 101, 45, 77, 97, 116, 99, 104], S q6, .bool false] 45)).grow hg7 (fun e1 => by have e2 : some (w6.heap.size + 1) = some w6.heap.size := e1; simp at e2); have k47 : w7.cell? ⟨w6.heap.size + 1, 4, none⟩ = some (.slice (some ⟨w6.heap.size, 0, none⟩) 1 1) := hR7.cell 4; have f47 := hR7.free 4)
            have hb9 : Below w6.heap.size w7 (w7.setCell ⟨w6.heap.size + 1, 4, none⟩ (.slice a2 2 c2)) := (Below.refl _ _).setCell (p := ⟨w6.heap.size + 1, 4, none⟩) (Nat.le_succ _) _
            have ho72 : w7.ownsRow w6.heap.size 45 3 (.slice a2 2 c2) 2 (fcells [tA, tB]) := by rw [HTB.out]; exact ho7
            have hoF := own_blk ho72 hR7 (by decide) 4 (.slice a2 2 c2)
            have hRF : Blk (w7.setCell ⟨w6.heap.size + 1, 4, none⟩ (.slice a2 2 c2)) (w6.heap.size + 1) 67 #[S m, S [], S [], S [], .slice a2 2 c2] := by simpa using hR7.set 4 (.slice a2 2 c2)
            have hFF := (hFE.below hb7).below hb9
            have hQF := (hQE.below hb7 hEL).below hb9 hEL
            have hwF := (hwE.trans (hb7.mono (Nat.le_of_lt hEL))).trans (hb9.mono (Nat.le_of_lt hEL))
            have hzF := hRF.lt
            clear x0 x1 x2 x3 x4 y0 y1 y2 y3 y4 y5 y6 hRE hoE hFE hQE hwE hb7 hb9 ho7 ho72 hR7 k47 f47 hg7 hz7
            generalize w7.setCell ⟨w6.heap.size + 1, 4, none⟩ (.slice a2 2 c2) = wF at *
            (have x0 : wF.cell? ⟨w6.heap.size + 1, 0, none⟩ = some (S m) := hRF.cell 0; have x1 : wF.cell? ⟨w6.heap.size + 1, 1, none⟩ = some (S []) := hRF.cell 1; have x2 : wF.cell? ⟨w6.heap.size + 1, 2, none⟩ = some (S []) := hRF.cell 2; have x3 : wF.cell? ⟨w6.heap.size + 1, 3, none⟩ = some (S []) := hRF.cell 3; have x4 : wF.cell? ⟨w6.heap.size + 1, 4, none⟩ = some (.slice a2 2 c2) := hRF.cell 4)
            (have y0 : wF.cell? ⟨w.heap.size, 0, none⟩ = some (S key) := hQF.cell 0; have y1 : wF.cell? ⟨w.heap.size, 1, none⟩ = some (vp) := hQF.cell 1; have y2 : wF.cell? ⟨w.heap.size, 2, none⟩ = some (.int .i64 200) := hQF.cell 2; have y3 : wF.cell? ⟨w.heap.size, 3, none⟩ = some (.slice a' (L.length + 1) c') := hQF.cell 3; have y4 : wF.cell? ⟨w.heap.size, 4, none⟩ = some (S body) := hQF.cell 4; have y5 : wF.cell? ⟨w.heap.size, 5, none⟩ = some (.int .i64 asked) := hQF.cell 5; have y6 : wF.cell? ⟨w.heap.size, 6, none⟩ = some (.int .i64 came) := hQF.cell 6)
            go_wp2_with fail
            have H2 := HAns.out [tA, tB] (.slice a2 2 c2) wF (Fs.own hoF) (hFF.mono (by omega)) hA2
            rw [HM2.out, show ansN true 200 = 304 from rfl, show ansB true m body = [] from rfl] at H2
            generalize ansL true 200 (L ++ [tF]) body.length (ageF (L ++ [tF]) asked came 0) [120] = L2 at H2
            refine H2.mono ?_
            clear H2
            rintro e wG ⟨v4, rfl, hF4, hbG⟩
            have hwG := Bl.tr hwF hbG
            clear x0 x1 x2 x3 x4 y0 y1 y2 y3 y4 y5 y6
            obtain ⟨p4, c4, rfl, -⟩ := hF4.form
            go_wp2
            go_ret
            exact ⟨rfl, hwG⟩
end Go.Proofs.YtghggooaaefdcaaDoor
