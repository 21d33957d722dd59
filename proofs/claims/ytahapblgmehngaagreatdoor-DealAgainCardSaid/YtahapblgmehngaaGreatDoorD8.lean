/- Parts of the proof of DealAgain_holds: the texts Dig FrP Hop3 Cel12 Frs2. -/
import Derived.Deep.DeepCutAuto
import Derived.Test.YtahapblgmehngaaGreatDoorD7
set_option linter.unusedSimpArgs false
set_option linter.unusedVariables false
set_option linter.unnecessarySimpa false
set_option maxRecDepth 100000
set_option maxHeartbeats 64000000
namespace Go.Dr
def digs (n : Nat) : Bytes := if h : n < 10 then [dg n] else digs (n / 10) ++ [dg n]
decreasing_by omega
theorem digs_small {n : Nat} (h : n < 10) : digs n = [dg n] := by rw [digs, dif_pos h]
theorem digs_step {n : Nat} (h : ¬ n < 10) : digs n = digs (n / 10) ++ [dg n] := by rw [digs, dif_neg h]
theorem digs_length (n : Nat) : ∀ k, n < 10 ^ (k + 1) → (digs n).length ≤ k + 1 := by
  induction n using Nat.strongRecOn with
  | _ n ih =>
    intro k hk; by_cases h : n < 10
    · rw [digs_small h]; simp
    · rw [digs_step h, List.length_append]
      match k with
      | 0 => simp at hk; omega
      | k + 1 =>
        have := ih (n / 10) (by omega) k (by rw [Nat.pow_succ] at hk; omega)
        simp; omega
def digsP (v : Nat) (T : Bytes) : Bytes := if v = 0 ∧ T ≠ [] then T else digs v ++ T
theorem digsP_step (v : Nat) (T : Bytes) (h : 0 < v ∨ T = []) : digsP (v / 10) (dg v :: T) = digsP v T := by
  have e : digsP v T = digs v ++ T := by
    unfold digsP; rw [if_neg]; rintro ⟨h1, h2⟩
    rcases h with h | h
    · omega
    · exact h2 h
  rw [e]; unfold digsP; by_cases h10 : v < 10
  · rw [if_pos ⟨by omega, by simp⟩, digs_small h10]; rfl
  · rw [if_neg (by omega), digs_step h10, List.append_assoc]; rfl
theorem digsP_zero (T : Bytes) (h : T ≠ []) : digsP 0 T = T := by unfold digsP; rw [if_pos ⟨rfl, h⟩]
theorem len_bound {v k n : Nat} (h : v * 10 ^ k ≤ n) (hn : n ≤ 9223372036854775807) (hv : 0 < v ∨ k = 0) : k ≤ 18 := by
  rcases hv with hv | hv
  · by_cases hk : k ≤ 18
    · exact hk
    · have h1 : 10 ^ 19 ≤ 10 ^ k := Nat.pow_le_pow_right (by decide) (by omega)
      have h2 : 1 * 10 ^ k ≤ v * 10 ^ k := Nat.mul_le_mul_right _ hv; have h3 : (10 : Nat) ^ 19 = 10000000000000000000 := (by decide); omega
  · omega
theorem pow_next (v k n : Nat) (h : v * 10 ^ k ≤ n) : v / 10 * 10 ^ (k + 1) ≤ n := by
  have h1 : v / 10 * 10 ≤ v := (by omega); have h2 : v / 10 * 10 * 10 ^ k ≤ v * 10 ^ k := Nat.mul_le_mul_right _ h1; rw [Nat.pow_succ, Nat.mul_comm (10 ^ k), ← Nat.mul_assoc]; omega
def emptyN (v : Value) : Nat := match v with | .string b => if b.size = 0 then 1 else 0 | _ => 0
end Go.Dr
namespace Go.Proofs.YtahapblgmehngaaGreatDoor
open Go.RowKit Go.Dr
theorem refDigits_any (n : Nat) (w : World) (hn : n ≤ 9223372036854775807) : Calls Tryz.prog 182 #[.int .i64 n, .int .i64 10] w fun e w' => e = .returned (S (digs n)) ∧ Below w.heap.size w w' := by
  go_enter Tryz.func182, Tryz.ntmps182
  go_wp2
  go_loopw [0, 5] (fun v s wr => ∃ (m : Nat) (T : Bytes), v = .int .i64 m ∧ s = S T ∧ Hid (digsP m T = digs n) ∧ m * 10 ^ T.length ≤ n ∧ Below w.heap.size w wr) (fun v s _ => 2 * (intOf v).toNat + emptyN s)
  case atStart => exact ⟨n, [], rfl, rfl, by show digsP n [] = digs n; unfold digsP; simp, by simp, Below.refl _ _⟩
  case round =>
    obtain ⟨m, T, rfl, rfl, HD, hle, hbel⟩ := hrel
    have hm64 : m ≤ 9223372036854775807 := by
      have : 0 < 10 ^ T.length := Nat.pow_pos (by decide)
      have := Nat.le_mul_of_pos_right m this
      omega
    have hcv : ∀ (m : Nat) (w' : World), w'.cell? ⟨wr.heap.size, 0, none⟩ = some (.int .u8 ((m : Int) % 10 + 48)) → (convert 124 9 (.slice (some ⟨wr.heap.size, 0, none⟩) 1 1)).run Tryz.prog w' = .ok (S [dg m]) w' := fun m w' hc =>
      run_convert_bytes_back w' _ _ 5 ⟨wr.heap.size, 0, none⟩ 1 [dg m] Tryz.underlying124 Tryz.underlying5 Tryz.underlying9 (fun j hj => by
        have : j = 0 := (by simp at hj; omega)
        subst this; rw [Addr.add_lit]
        show w'.cell? ⟨wr.heap.size, 0, none⟩ = some (B8 (dg m))
        rw [hc]; have := dg_nat m
        congr 2
        omega)
    have hal : ∀ o : Obj, Below w.heap.size w (wr.alloc o) := fun o => hbel.alloc hbel.size o
    by_cases h0 : m = 0
    · subst h0
      have hcv := hcv 0
      cases T with
      | nil =>
        have HD2 : Hid (digsP 0 [dg 0] = digs n) := (by show _ = _; rw [← HD.out]; exact digsP_step 0 [] (.inr rfl)); go_wp2
        go_roundw
        case rel => exact ⟨0, [dg 0], rfl, rfl, HD2, by simp, hal _⟩
        case measure => simp [intOf, emptyN, ByteArray.size]
      | cons x r =>
        have HD2 : Hid (x :: r = digs n) := (by show _ = _; rw [← HD.out, digsP_zero _ (by simp)]); go_wp2; go_ret; exact ⟨ret_S HD2.out, hbel⟩
    · have hlen := len_bound hle hn (.inl (by omega))
      have hcv := hcv m; have HD2 : Hid (digsP (m / 10) (dg m :: T) = digs n) := (by show _ = _; rw [digsP_step m T (.inl (by omega))]; exact HD.out); have hle2 := pow_next m T.length n hle; go_wp2
      all_goals first | (exfalso; omega) | skip
      go_roundw
      case rel => exact ⟨m / 10, dg m :: T, by go_num, rfl, HD2, by simpa using hle2, hal _⟩
      case measure => simp [intOf, emptyN, ByteArray.size]; omega
end Go.Proofs.YtahapblgmehngaaGreatDoor
namespace Go.Dr
def pragmaT : Bytes := [112, 114, 97, 103, 109, 97]
def pragB (l : List F) : Bool := !decide (0 < (values l cacheControl).length) && (allOf l pragmaT).any fun x => same x noCache
def saysC (l : List F) : Ctl := if pragB l = true then { readC l with nc := true } else readC l
theorem saysC_ok (l : List F) : (saysC l).ok := by
  unfold saysC
  split
  · exact readC_ok l
  · exact readC_ok l
def goodB (a b : Ctl) (life age : Nat) : Bool :=
  if (a.nc || b.nc) = true ∨ (0 ≤ a.ma ∧ a.ma < (age : Int)) ∨ (0 ≤ a.mf ∧ (life : Int) - age < a.mf) then false
  else if age < life then true
  else decide (0 ≤ a.ms ∧ (age : Int) - life ≤ a.ms) && !b.mr && !b.px && decide (b.sm < 0)
def goodF (lr lf : List F) (st asked came now : Int) : Bool := goodB (saysC lr) (readC lf) (lifeF lf st came) (ageF lf asked came now)
def GoodNo (a b : Ctl) (life age : Nat) : Prop := a.nc = true ∨ b.nc = true ∨ (0 ≤ a.ma ∧ a.ma < (age : Int)) ∨ (0 ≤ a.mf ∧ (life : Int) - age < a.mf)
instance (a b : Ctl) (life age : Nat) : Decidable (GoodNo a b life age) := by unfold GoodNo; infer_instance
theorem goodNo_iff (a b : Ctl) (life age : Nat) : ((a.nc || b.nc) = true ∨ (0 ≤ a.ma ∧ a.ma < (age : Int)) ∨ (0 ≤ a.mf ∧ (life : Int) - age < a.mf)) ↔ GoodNo a b life age := by
  unfold GoodNo; simp only [Bool.or_eq_true, or_assoc]
theorem good_no {a b : Ctl} {life age : Nat} (h : GoodNo a b life age) : goodB a b life age = false := by
  unfold goodB; rw [if_pos ((goodNo_iff a b life age).2 h)]
theorem good_new {a b : Ctl} {life age : Nat} (h : ¬ GoodNo a b life age) (h2 : age < life) : goodB a b life age = true := by
  unfold goodB; rw [if_neg (fun e => h ((goodNo_iff a b life age).1 e)), if_pos h2]
theorem good_old {a b : Ctl} {life age : Nat} (h : ¬ GoodNo a b life age) (h2 : ¬ age < life) : goodB a b life age = (decide (0 ≤ a.ms ∧ (age : Int) - life ≤ a.ms) && !b.mr && !b.px && decide (b.sm < 0)) := by
  unfold goodB; rw [if_neg (fun e => h ((goodNo_iff a b life age).1 e)), if_neg h2]
def authT : Bytes := [97, 117, 116, 104, 111, 114, 105, 122, 97, 116, 105, 111, 110]
end Go.Dr
namespace Go.Proofs.YtahapblgmehngaaGreatDoor
open Go.RowKit Go.Dr
theorem any_take_succ {α : Type} (p : α → Bool) (l : List α) (k : Nat) (h : k < l.length) (h1 : (l.take k).any p = false) (h2 : p l[k] = false) : (l.take (k + 1)).any p = false := by
  rw [take_snoc l k h, List.any_append, h1]; simp [h2]
theorem any_hit {α : Type} (p : α → Bool) (l : List α) (k : Nat) (h : k < l.length) (h2 : p l[k] = true) : l.any p = true := by
  rw [List.any_eq_true]; exact ⟨_, List.getElem_mem h, h2⟩
theorem Among_any (name : Bytes) (names : List Bytes) (v : Value) (w : World) (h : Ss w.heap.size w v names) (hn : name.length ≤ 1099511627776) (hl : ssum names ≤ 1099511627776) :
    Calls Tryz.prog 71 #[S name, v] w fun e w' => e = .returned (.bool (among name names)) ∧ Below w.heap.size w w' := by
  obtain ⟨pa, ca, rfl, hm⟩ := h.form; go_enter Tryz.func71, Tryz.ntmps71
  go_wp2
  go_loopw [5] (fun i wr => ∃ k : Nat, i = .int .i64 k ∧ k ≤ names.length ∧ Hid ((names.take k).any (same name) = false) ∧ Below w.heap.size w wr) (fun i _ => names.length - (intOf i).toNat)
  case atStart => exact ⟨0, rfl, Nat.zero_le _, rfl, Below.refl _ _⟩
  case round =>
    obtain ⟨k, rfl, hk, HN, hbel⟩ := hrel; by_cases hlt : k < names.length
    · obtain ⟨b, off, rfl, hbb, c0⟩ := (h.below hbel).at k hlt
      have hf := ssum_mem (List.getElem_mem hlt); by_cases hs : same name names[k] = true
      · have HY := Lib.hid (any_hit (same name) names k hlt hs)
        go_wp2_with (go_at_call 110; refine (refSame_any _ _ _ (by omega) (by omega)).mono ?_; rintro e w1 ⟨rfl, hb1⟩)
        go_ret; exact ⟨ret_bool (by rw [among, HY.out]), hbel.trans (hb1.mono hbel.size)⟩
      · have hs' : same name names[k] = false := by simpa using hs
        have HY := Lib.hid (any_take_succ (same name) names k hlt HN.out hs'); clear hs; go_wp2_with (go_at_call 110; refine (refSame_any _ _ _ (by omega) (by omega)).mono ?_; rintro e w1 ⟨rfl, hb1⟩)
        go_roundw
        case rel => exact ⟨k + 1, by go_num, by omega, HY, hbel.trans (hb1.mono hbel.size)⟩
        case measure => simp [intOf]; omega
    · go_wp2
      go_ret; exact ⟨ret_bool (by have := HN.out; rw [List.take_of_length_le (by omega)] at this; rw [among, this]), hbel⟩
theorem Has_any (l : List F) (name el : Bytes) (v : Value) (w : World) (h : Fs w.heap.size w v l) (hl : fsum l ≤ 1099511627776) (hn : name.length ≤ 1099511627776) (he : el.length ≤ 1099511627776) :
    Calls Tryz.prog 97 #[v, S name, S el] w fun e w' => e = .returned (.bool ((allOf l name).any fun x => same x el)) ∧ Below w.heap.size w w' := by
  have HS := ssum_all l name; go_enter Tryz.func97, Tryz.ntmps97
  go_wp2_with fail; refine (All_any l name v w h hl hn).mono ?_; rintro e w1 ⟨vv, rfl, hvv, hb1⟩; have hr : Ss w1.heap.size w1 vv (allOf l name) := Ss.own hvv; generalize hvs : allOf l name = vs at *; have HVS := Lib.hid hvs; clear hvv hvs; obtain ⟨pa, ca, rfl, hm⟩ := hr.form; go_wp2
  go_loopw [13] (fun i wr => ∃ k : Nat, i = .int .i64 k ∧ k ≤ vs.length ∧ Hid ((vs.take k).any (fun x => same x el) = false) ∧ Below w1.heap.size w1 wr) (fun i _ => vs.length - (intOf i).toNat)
  case atStart => exact ⟨0, rfl, Nat.zero_le _, rfl, Below.refl _ _⟩
  case round =>
    obtain ⟨k, rfl, hk, HN, hbel⟩ := hrel; by_cases hlt : k < vs.length
    · obtain ⟨b, off, rfl, hbb, c0⟩ := (hr.below hbel).at k hlt
      have hf := ssum_mem (List.getElem_mem hlt); by_cases hs : same vs[k] el = true
      · have HY := Lib.hid (any_hit (fun x => same x el) vs k hlt hs)
        go_wp2_with (go_at_call 98; refine (Same_any _ _ _ (by unfold maxLen; omega) (by unfold maxLen; omega)).mono ?_; rintro e w2 ⟨rfl, hb2⟩)
        go_ret; exact ⟨ret_bool (by rw [HVS.out, HY.out]), Bl.tr hb1 (hbel.trans (hb2.mono hbel.size))⟩
      · have hs' : same vs[k] el = false := by simpa using hs
        have HY := Lib.hid (any_take_succ (fun x => same x el) vs k hlt HN.out hs'); clear hs; go_wp2_with (go_at_call 98; refine (Same_any _ _ _ (by unfold maxLen; omega) (by unfold maxLen; omega)).mono ?_; rintro e w2 ⟨rfl, hb2⟩)
        go_roundw
        case rel => exact ⟨k + 1, by go_num, by omega, HY, hbel.trans (hb2.mono hbel.size)⟩
        case measure => simp [intOf]; omega
    · go_wp2
      go_ret; exact ⟨ret_bool (by have := HN.out; rw [List.take_of_length_le (by omega)] at this; rw [HVS.out, this]), Bl.tr hb1 hbel⟩
theorem refWithout_any (l : List F) (names : List Bytes) (v vn : Value) (w : World) (h : Fs w.heap.size w v l) (h' : Ss w.heap.size w vn names) (hl : fsum l ≤ 1099511627776) (hn : ssum names ≤ 1099511627776) :
    Calls Tryz.prog 101 #[v, vn] w (RetFs 60 w (without l names)) := by
  obtain ⟨pa, ca, rfl, hm⟩ := h.form; have hll := fsum_length l; go_enter Tryz.func101, Tryz.ntmps101
  go_wp2
  go_loopw [5, 6] (fun v i wr => ∃ k : Nat, i = .int .i64 k ∧ k ≤ l.length ∧ wr.ownsRow w.heap.size 60 3 v (without (l.take k) names).length (fcells (without (l.take k) names)) ∧ Below w.heap.size w wr) (fun _ i _ => l.length - (intOf i).toNat)
  case atStart => exact ⟨0, rfl, Nat.zero_le _, World.ownsRow_nil _ _ _ _, Below.refl _ _⟩
  case round =>
    obtain ⟨k, rfl, hk, hown, hbel⟩ := hrel; by_cases hlt : k < l.length
    · obtain ⟨b, off, rfl, hbb, c0, c1, c2⟩ := (h.below hbel).at k hlt
      have hf := fsum_mem (List.getElem_mem hlt); have HV := Lib.hid (without_snoc l k hlt names); have hvl := without_length (l.take k) names; rw [List.length_take] at hvl; have hbw : b < wr.heap.size := Nat.lt_of_lt_of_le hbb hbel.size; have hnr := (h'.below hbel).mono hbel.size; by_cases hs : among l[k].n names = true
      · have HV : Hid (without (l.take (k + 1)) names = without (l.take k) names) := by show _ = _; rw [HV.out, if_pos hs, List.append_nil]
        go_wp2_with (go_at_call 71; refine (Among_any _ _ _ _ hnr (by omega) hn).mono ?_; rintro e w1 ⟨rfl, hb1⟩; obtain ⟨hc1, hf1⟩ := bcell hb1)
        go_roundw
        case rel => exact ⟨k + 1, by go_num, by omega, by rw [HV.out]; exact own_below hown hb1, hbel.trans (hb1.mono hbel.size)⟩
        case measure => simp [intOf]; omega
      · have HV : Hid (without (l.take (k + 1)) names = without (l.take k) names ++ [l[k]]) := by show _ = _; rw [HV.out, if_neg hs]
        have hs' : among l[k].n names = false := (by simpa using hs)
        clear hs; go_wp2_with (first | (at_builtin; refine wpList_appF rfl _ _ 26 rfl w.heap.size Tryz.underlying26 (by kernel_rfl) _ _ _ rfl (own_below hown hb1) rfl (by omega) (by have := hbel.size; have := hb1.size; omega) rfl ?_; intro a' c' w2 hown2 hb2 hz2) | (go_at_call 71; refine (Among_any _ _ _ _ hnr (by omega) hn).mono ?_; rintro e w1 ⟨rfl, hb1⟩; obtain ⟨hc1, hf1⟩ := bcell hb1))
        go_roundw
        case rel => exact ⟨k + 1, by go_num, by omega, by rw [HV.out, fcells_append, List.length_append]; exact hown2, (hbel.trans (hb1.mono hbel.size)).trans hb2⟩
        case measure => simp [intOf]; omega
    · have hk' : k = l.length := by omega
      subst hk'; rw [List.take_length] at *; go_wp2; go_ret; exact ⟨_, rfl, hown, hbel⟩
def connection : Bytes := [99, 111, 110, 110, 101, 99, 116, 105, 111, 110]
def own : List Bytes := [connection,
  [112, 114, 111, 120, 121, 45, 99, 111, 110, 110, 101, 99, 116, 105, 111, 110],
  [107, 101, 101, 112, 45, 97, 108, 105, 118, 101],
  [116, 114, 97, 110, 115, 102, 101, 114, 45, 101, 110, 99, 111, 100, 105, 110, 103],
  [117, 112, 103, 114, 97, 100, 101], [116, 101], [116, 114, 97, 105, 108, 101, 114],
  [112, 114, 111, 120, 121, 45, 97, 117, 116, 104, 101, 110, 116, 105, 99, 97, 116, 101],
  [112, 114, 111, 120, 121, 45, 97, 117, 116, 104, 111, 114, 105, 122, 97, 116, 105, 111, 110]]
def strip (l : List F) : List F := without (without l (allOf l connection)) own
theorem ssum_own : ssum own = 115 := by decide
theorem Own_any (w : World) : Calls Tryz.prog 102 #[] w (RetSs 9 w own) := by
  go_enter Tryz.func102, Tryz.ntmps102
  go_wp2; go_ret; refine ⟨_, rfl, ?_, (Below.refl _ _).alloc (Nat.le_refl _) _⟩; exact World.ownsRow_lit w _ 9 (Nat.le_refl _) (by decide) rfl
theorem refStrip_any (l : List F) (v : Value) (w : World) (h : Fs w.heap.size w v l) (hl : fsum l ≤ 1099511627776) :
    Calls Tryz.prog 60 #[v] w (RetFs 60 w (strip l)) := by
  have h1 := ssum_all l connection; have h2 := ssum_own; have h3 := fsum_filter l (fun f => !among f.n (allOf l connection)); go_enter Tryz.func60, Tryz.ntmps60
  go_wp2_with fail; refine (refAll_any l connection v w h hl (by decide)).mono ?_; rintro e w1 ⟨va, rfl, hva, hb1⟩; go_wp2_with fail; refine (refWithout_any l _ v va w1 ((h.below hb1).mono hb1.size) (Ss.own hva) hl (by omega)).mono ?_; rintro e w2 ⟨vw, rfl, hvw, hb2⟩; go_wp2_with fail; refine (Own_any w2).mono ?_; rintro e w3 ⟨vo, rfl, hvo, hb3⟩; go_wp2_with fail; refine (refWithout_any _ _ vw vo w3 (Fs.own (own_below hvw hb3)) (Ss.own hvo) (by unfold without; omega) (by omega)).mono ?_; rintro e w4 ⟨vr, rfl, hvr, hb4⟩; go_wp2; go_ret; exact ⟨_, rfl, own_base hvr (Nat.le_trans hb1.size (Nat.le_trans hb2.size hb3.size)), Bl.tr (Bl.tr (Bl.tr hb1 hb2) hb3) hb4⟩
open Go.RowKit Go.Dr
theorem zeroInt (w : World) : (zeroValue 3).run Tryz.prog w = .ok (.int .i64 0) w := by kernel_rfl
theorem stays_any (f : F) (names : List Bytes) (M G : Nat) (w : World) (hM : MapSet w Tryz.prog 9 3 M (names.map low)) (hG : One w G 144 (.map (some M))) (hf : f.n.length ≤ 1099511627776) :
    Calls Tryz.prog 116 #[.agg #[S f.n, S f.v, .bool f.m], .pointer (some ⟨G, 0, none⟩)] w fun e w' => e = .returned (.bool (!among f.n names)) ∧ Below w.heap.size w w' := by
  have hG1 := hG.alloc (.cells #[S f.n, S f.v, .bool f.m] 60); have hM1 := hM.alloc (.cells #[S f.n, S f.v, .bool f.m] 60); have hGlt := hG.lt; have cG := hG1.cell; have hll := low_length f.n; go_enter Tryz.func116, Tryz.ntmps116
  go_wp2_with fail
  go_region_held3 (fun w' => w'.cell? ⟨G, 0, none⟩ = some (.map (some M)) ∧ w'.cell? ⟨w.heap.size, 0, none⟩ = some (S f.n))
    (first | go_keep)
    ((go_at_call 93; refine (Lower_any _ _ (by unfold maxLen; omega)).mono ?_; rintro e w1 ⟨rfl, hb1⟩; have cG1 := (hG1.drew.below hb1 hG1.lt).cell; obtain ⟨hc1, hf1⟩ := bcell hb1; obtain ⟨c, hlk⟩ := ((hM1.drew).below hb1 hM1.lt).look Tryz.underlying9 Tryz.underlying3 Tryz.underlying144 (zeroInt _) (low f.n) (by unfold maxLen; omega); rw [among_map] at hlk))
  go_wp2; go_ret; exact ⟨rfl, ((Below.refl w.heap.size w).alloc (Nat.le_refl _) _).drew.trans (hb1.mono (B' := w.heap.size) (by simp))⟩
theorem map_low_snoc (names : List Bytes) (k : Nat) (h : k < names.length) : (names.take (k + 1)).map low = (names.take k).map low ++ [low names[k]] := by
  rw [take_snoc names k h, List.map_append]; rfl
theorem Without_any (l : List F) (names : List Bytes) (v vn : Value) (w : World) (h : Fs w.heap.size w v l) (h' : Ss w.heap.size w vn names) (hl : fsum l ≤ 1099511627776) (hn : ssum names ≤ 1099511627776) :
    Calls Tryz.prog 83 #[v, vn] w (RetFs 60 w (without l names)) := by
  obtain ⟨pa, ca, rfl, hm⟩ := h.form; obtain ⟨pn, cn, rfl, hmn⟩ := h'.form; have hll := fsum_length l; have hnl := ssum_length names; have hmf : ∀ (fn : Fn) (first cap : Array Value) (w : World), (Instr.makeFunc fn first cap).run Tryz.prog w = .ok (.func fn first cap) w := fun _ _ _ _ => rfl
  have hmm := @run_makeMap Tryz.prog; go_enter Tryz.func83, Tryz.ntmps83
  go_wp2
  go_loopw [15] (fun i wr => ∃ k : Nat, i = .int .i64 k ∧ k ≤ names.length ∧ MapSet wr Tryz.prog 9 3 w.heap.size ((names.take k).map low) ∧ One wr (w.heap.size + 1) 144 (.map (some w.heap.size)) ∧ Below w.heap.size w wr) (fun i _ => names.length - (intOf i).toNat)
  case atStart =>
    exact ⟨0, rfl, Nat.zero_le _, (MapSet.made w _ _ _).alloc _, by simpa using One.new (w.alloc (.map #[] 0)) 144 (.map (some w.heap.size)), ((Below.refl _ _).alloc (Nat.le_refl _) _).alloc (by simp) _⟩
  case round =>
    obtain ⟨k, rfl, hk, hM, hG, hbel⟩ := hrel; have cG := hG.cell; have hMlt := hM.lt; have hGlt := hG.lt; by_cases hlt : k < names.length
    · obtain ⟨b, off, rfl, hbb, c0⟩ := (h'.below hbel).at k hlt
      have hf := ssum_mem (List.getElem_mem hlt); have HM := Lib.hid (map_low_snoc names k hlt); have hll2 := low_length names[k]; have hks : ((names.take k).map low).length ≤ k := (by simp; omega); go_wp2_with fail
      go_region_held3 (fun w' => w'.cell? ⟨w.heap.size + 1, 0, none⟩ = some (.map (some w.heap.size)))
        (first | go_keep)
        ((go_at_call 93; refine (Lower_any _ _ (by unfold maxLen; omega)).mono ?_; rintro e w1 ⟨rfl, hb1⟩; have hz1 : wr.heap.size ≤ w1.heap.size := hb1.size; have cG1 := (hG.drew.below hb1 hG.lt).cell; obtain ⟨w2, hup, hM2, hg2⟩ := ((hM.drew).below hb1 hM.lt).store Tryz.underlying9 Tryz.underlying3 Tryz.underlying144 (low names[k]) k (WalkArith.wf_i64 (by omega)) (by unfold maxLen; omega) (by unfold maxLen; omega); have cG2 := hg2.cell cG1 (by simp)))
      go_wp2
      go_roundw
      case rel => exact ⟨k + 1, by go_num, by omega, by rw [HM.out]; exact hM2, (hg2.block _ (by omega) (by simp)).trans (hG.drew.below hb1 hG.lt), (hbel.drew.trans (hb1.mono (B' := w.heap.size) hbel.size)).grown hg2 (by omega) (by simp)⟩
      case measure => simp [intOf]; omega
    · have hk' : k = names.length := by omega
      subst hk'; rw [List.take_length] at hM; go_wp2; obtain ⟨wo, rfl⟩ : ∃ wo : World, wo = wr := ⟨_, rfl⟩
      go_loopw [9, 28] (fun v i wr' => ∃ k : Nat, i = .int .i64 k ∧ k ≤ l.length ∧ wr'.ownsRow wo.heap.size 60 3 v (without (l.take k) names).length (fcells (without (l.take k) names)) ∧ Below wo.heap.size wo wr') (fun _ i _ => l.length - (intOf i).toNat)
      case atStart => exact ⟨0, rfl, Nat.zero_le _, World.ownsRow_nil _ _ _ _, Below.refl _ _⟩
      case round =>
        obtain ⟨k, rfl, hk, hown, hbel2⟩ := hrel; by_cases hlt : k < l.length
        · obtain ⟨b, off, rfl, hbb, c0, c1, c2⟩ := ((h.below hbel).below (hbel2.mono hbel.size)).at k hlt
          have hf := fsum_mem (List.getElem_mem hlt); have HV := Lib.hid (without_snoc l k hlt names); have hvl := without_length (l.take k) names; rw [List.length_take] at hvl; have hz2 := hbel2.size; by_cases hs : among l[k].n names = true
          · have HV : Hid (without (l.take (k + 1)) names = without (l.take k) names) := by show _ = _; rw [HV.out, if_pos hs, List.append_nil]
            go_wp2_with (go_at_call 116; refine (stays_any l[k] names w.heap.size (w.heap.size + 1) _ ((hM.below hbel2 hM.lt).alloc _) ((hG.below hbel2 hG.lt).alloc _) (by omega)).mono ?_; rintro e w1 ⟨rfl, hb1⟩)
            go_roundw
            case rel => exact ⟨k + 1, by go_num, by omega, by rw [HV.out]; exact own_below (hown.alloc _) hb1, (hbel2.alloc (by omega) _).trans (hb1.mono (by simp; omega))⟩
            case measure => simp [intOf]; omega
          · have HV : Hid (without (l.take (k + 1)) names = without (l.take k) names ++ [l[k]]) := by show _ = _; rw [HV.out, if_neg hs]
            have hs' : among l[k].n names = false := (by simpa using hs)
            clear hs; go_wp2_with (first | (at_builtin; refine wpList_appF rfl _ _ 26 rfl wo.heap.size Tryz.underlying26 (by kernel_rfl) _ _ _ rfl (own_below (hown.alloc _) hb1) rfl (by omega) (by have := hb1.size; simp at this; omega) rfl ?_; intro a' c' w2 hown2 hb2 hz3) | (go_at_call 116; refine (stays_any l[k] names w.heap.size (w.heap.size + 1) _ ((hM.below hbel2 hM.lt).alloc _) ((hG.below hbel2 hG.lt).alloc _) (by omega)).mono ?_; rintro e w1 ⟨rfl, hb1⟩; obtain ⟨hc1, hf1⟩ := bcell hb1))
            go_roundw
            case rel => exact ⟨k + 1, by go_num, by omega, by rw [HV.out, fcells_append, List.length_append]; exact hown2, ((hbel2.alloc (by omega) _).trans (hb1.mono (by simp; omega))).trans hb2⟩
            case measure => simp [intOf]; omega
        · have hk' : k = l.length := by omega
          subst hk'; rw [List.take_length] at *; go_wp2; go_ret; exact ⟨_, rfl, own_base hown hbel.size, Bl.tr hbel hbel2⟩
open Go.RowKit Go.Dr
theorem without_both (l : List F) (a b : List Bytes) : without l (a ++ b) = without (without l b) a := by
  simp only [without, List.filter_filter, among, List.any_append]
  congr 1
  funext f
  simp [Bool.not_or]
theorem Strip_any (l : List F) (v : Value) (w : World) (h : Fs w.heap.size w v l) (hl : fsum l ≤ 549755813888) :
    Calls Tryz.prog 48 #[v] w (RetFs 60 w (strip l)) := by
  have h1 := ssum_all l connection; have h2 := ssum_own; have h4 := ssum_length (allOf l connection); have hst : Hid (without l (own ++ allOf l connection) = strip l) := without_both l own (allOf l connection); have hss := ssum_append own (allOf l connection); go_enter Tryz.func48, Tryz.ntmps48
  go_wp2_with fail; refine (All_any l connection v _ ((h.below ((Below.refl _ _).alloc (Nat.le_refl _) _)).mono (by simp)) (by omega) (by decide)).mono ?_; rintro e w1 ⟨va, rfl, hva, hb1⟩; generalize allOf l connection = al at *; have hz1 : w.heap.size + 1 ≤ w1.heap.size := (by have := hb1.size; simpa using this); have ho := own_below (World.ownsRow_lit (base := w.heap.size) (e := 9) (size := 1) w (own.map S).toArray 9 (Nat.le_refl _) (by decide) rfl) hb1; go_wp2_with (at_builtin; refine wpList_appRd rfl _ _ 44 rfl w.heap.size 9 (.string ByteArray.empty) 1 16 Tryz.underlying44 (by kernel_rfl) rfl (by decide) _ _ _ rfl ho _ _ _ _ rfl (Ss.own hva) (S_one _) (by unfold maxLen; omega) (by omega) (by omega) ?_; intro a' c' w2 hown2 hb2)
  have hown2' : w2.ownsRow w.heap.size 9 1 (.slice a' (9 + al.length) c') (own ++ al).length ((own ++ al).map S) := by
    have e : (own ++ al).length = 9 + al.length := (by simp [own]; omega); rw [e, List.map_append]; exact hown2
  have hw2 : Below w.heap.size w w2 := (((Below.refl _ _).alloc (Nat.le_refl _) _).trans (hb1.mono (by simp))).trans hb2; refine (Without_any l (own ++ al) v _ w2 ((h.below hw2).mono hw2.size) (Ss.own hown2') (by omega) (by omega)).mono ?_; rintro e w3 ⟨vr, rfl, hvr, hb3⟩; rw [hst.out] at hvr; go_wp2; go_ret; exact ⟨_, rfl, own_base hvr hw2.size, Bl.tr hw2 hb3⟩
end Go.Proofs.YtahapblgmehngaaGreatDoor
namespace Go.Dr
open Go.RowKit
theorem cells12 (a0 a1 a2 a3 a4 a5 a6 a7 a8 a9 a10 a11 b0 b1 b2 b3 b4 b5 b6 b7 b8 b9 b10 b11 : Value) : ((((((((((((#[a0, a1, a2, a3, a4, a5, a6, a7, a8, a9, a10, a11] : Array Value).setIfInBounds 0 b0).setIfInBounds 1 b1).setIfInBounds 2 b2).setIfInBounds 3 b3).setIfInBounds 4 b4).setIfInBounds 5 b5).setIfInBounds 6 b6).setIfInBounds 7 b7).setIfInBounds 8 b8).setIfInBounds 9 b9).setIfInBounds 10 b10).setIfInBounds 11 b11 = #[b0, b1, b2, b3, b4, b5, b6, b7, b8, b9, b10, b11] := by simp
theorem Blk.set12 {w : World} {b : Nat} {t : TypeId} {a0 a1 a2 a3 a4 a5 a6 a7 a8 a9 a10 a11 : Value} (h : Blk w b t #[a0, a1, a2, a3, a4, a5, a6, a7, a8, a9, a10, a11]) (b0 b1 b2 b3 b4 b5 b6 b7 b8 b9 b10 b11 : Value) :
    Blk ((((((((((((w.setCell ⟨b, 0, none⟩ b0).setCell ⟨b, 1, none⟩ b1).setCell ⟨b, 2, none⟩ b2).setCell ⟨b, 3, none⟩ b3).setCell ⟨b, 4, none⟩ b4).setCell ⟨b, 5, none⟩ b5).setCell ⟨b, 6, none⟩ b6).setCell ⟨b, 7, none⟩ b7).setCell ⟨b, 8, none⟩ b8).setCell ⟨b, 9, none⟩ b9).setCell ⟨b, 10, none⟩ b10).setCell ⟨b, 11, none⟩ b11) b t #[b0, b1, b2, b3, b4, b5, b6, b7, b8, b9, b10, b11] := by
  have := (((((((((((h.set 0 b0).set 1 b1).set 2 b2).set 3 b3).set 4 b4).set 5 b5).set 6 b6).set 7 b7).set 8 b8).set 9 b9).set 10 b10).set 11 b11
  rwa [cells12] at this
theorem Bl.set12 {B : Nat} {v w : World} (h : Below B v w) {b : Nat} (hb : B ≤ b) (b0 b1 b2 b3 b4 b5 b6 b7 b8 b9 b10 b11 : Value) :
    Below B v ((((((((((((w.setCell ⟨b, 0, none⟩ b0).setCell ⟨b, 1, none⟩ b1).setCell ⟨b, 2, none⟩ b2).setCell ⟨b, 3, none⟩ b3).setCell ⟨b, 4, none⟩ b4).setCell ⟨b, 5, none⟩ b5).setCell ⟨b, 6, none⟩ b6).setCell ⟨b, 7, none⟩ b7).setCell ⟨b, 8, none⟩ b8).setCell ⟨b, 9, none⟩ b9).setCell ⟨b, 10, none⟩ b10).setCell ⟨b, 11, none⟩ b11) :=
  (((((((((((h.setCell (p := ⟨b, 0, none⟩) hb b0).setCell (p := ⟨b, 1, none⟩) hb b1).setCell (p := ⟨b, 2, none⟩) hb b2).setCell (p := ⟨b, 3, none⟩) hb b3).setCell (p := ⟨b, 4, none⟩) hb b4).setCell (p := ⟨b, 5, none⟩) hb b5).setCell (p := ⟨b, 6, none⟩) hb b6).setCell (p := ⟨b, 7, none⟩) hb b7).setCell (p := ⟨b, 8, none⟩) hb b8).setCell (p := ⟨b, 9, none⟩) hb b9).setCell (p := ⟨b, 10, none⟩) hb b10).setCell (p := ⟨b, 11, none⟩) hb b11
theorem Blk.new_at (w : World) (t : TypeId) (xs : Array Value) (g : Nat) (h : w.heap.size = g) : Blk (w.alloc (.cells xs t)) g t xs := by subst h; exact Blk.new w t xs
open Go.RowKit
theorem says_yes {l : List F} (h : pragB l = true) : saysC l = { readC l with nc := true } := by unfold saysC; rw [if_pos h]
theorem says_no {l : List F} (h : pragB l = false) : saysC l = readC l := by unfold saysC; rw [if_neg (by rw [h]; simp)]
end Go.Dr
namespace Go.Proofs.YtahapblgmehngaaGreatDoor
open Go.RowKit Go.Dr
abbrev Zv : Array Value := #[.bool false, .bool false, .bool false, .bool false, .bool false, .bool false, .bool false, .bool false, .int .i64 0, .int .i64 0, .int .i64 0, .int .i64 0]
abbrev Zc : Obj := .cells Zv 80
theorem set12z {w : World} {g : Nat} (h : Blk w g 80 Zv) (b0 b1 b2 b3 b4 b5 b6 b7 b8 b9 b10 b11 : Value) : Blk ((((((((((((w.setCell ⟨g, 0, none⟩ b0).setCell ⟨g, 1, none⟩ b1).setCell ⟨g, 2, none⟩ b2).setCell ⟨g, 3, none⟩ b3).setCell ⟨g, 4, none⟩ b4).setCell ⟨g, 5, none⟩ b5).setCell ⟨g, 6, none⟩ b6).setCell ⟨g, 7, none⟩ b7).setCell ⟨g, 8, none⟩ b8).setCell ⟨g, 9, none⟩ b9).setCell ⟨g, 10, none⟩ b10).setCell ⟨g, 11, none⟩ b11) g 80 #[b0, b1, b2, b3, b4, b5, b6, b7, b8, b9, b10, b11] := Blk.set12 h b0 b1 b2 b3 b4 b5 b6 b7 b8 b9 b10 b11
theorem z12 {w : World} {b : Nat} (h : Blk w b 80 Zv) : w.cell? ⟨b, 0, none⟩ = some (.bool false) ∧ w.cell? ⟨b, 1, none⟩ = some (.bool false) ∧ w.cell? ⟨b, 2, none⟩ = some (.bool false) ∧ w.cell? ⟨b, 3, none⟩ = some (.bool false) ∧ w.cell? ⟨b, 4, none⟩ = some (.bool false) ∧ w.cell? ⟨b, 5, none⟩ = some (.bool false) ∧ w.cell? ⟨b, 6, none⟩ = some (.bool false) ∧ w.cell? ⟨b, 7, none⟩ = some (.bool false) ∧ w.cell? ⟨b, 8, none⟩ = some (.int .i64 0) ∧ w.cell? ⟨b, 9, none⟩ = some (.int .i64 0) ∧ w.cell? ⟨b, 10, none⟩ = some (.int .i64 0) ∧ w.cell? ⟨b, 11, none⟩ = some (.int .i64 0) :=
  ⟨h.cell 0, h.cell 1, h.cell 2, h.cell 3, h.cell 4, h.cell 5, h.cell 6, h.cell 7, h.cell 8, h.cell 9, h.cell 10, h.cell 11⟩
theorem req_ent {wx : World} {w : Nat} {rm rs ra rp key body : Bytes} {vr vp vf : Value} {st asked came : Int} (hQ : Blk wx w 28 #[S rm, S rs, S ra, S rp, vr]) (hE : Blk wx (w + 1) 36 #[S key, vp, .int .i64 st, vf, S body, .int .i64 asked, .int .i64 came]) :
    (wx.cell? ⟨w, 0, none⟩ = some (S rm) ∧ wx.cell? ⟨w, 1, none⟩ = some (S rs) ∧ wx.cell? ⟨w, 2, none⟩ = some (S ra) ∧ wx.cell? ⟨w, 3, none⟩ = some (S rp) ∧ wx.cell? ⟨w, 4, none⟩ = some (vr)) ∧ wx.cell? ⟨w + 1, 3, none⟩ = some vf :=
  ⟨⟨hQ.cell 0, hQ.cell 1, hQ.cell 2, hQ.cell 3, hQ.cell 4⟩, hE.cell 3⟩
theorem lifeF_le (l : List F) (st came : Int) (hl : fsum l ≤ 1099511627776) : lifeF l st came ≤ 1099511627776 := by
  have h1 := momV_le l expiresN came hl; obtain ⟨h2, h3, -⟩ := readC_ok l; unfold lifeF
  repeat' split
  all_goals omega
theorem ret_says {W : World} {tmps : Array Value} {b : Nat} {c : Ctl} {R : Ending → World → Prop} (hs : tmps[2]? = some (.pointer (some ⟨b, 0, none⟩))) (h : Blk W b 80 c.cells) (hR : R (.returned c.val) W) :
    bodyPost Tryz.prog Tryz.f54 R .ret { tmps := tmps, defers := [] } W := by
  obtain ⟨g0, g1, g2, g3, g4, g5, g6, g7, g8, g9, g10, g11⟩ := h.c12; exact bodyPost_ret (v := c.val) (by simp [results, Tryz.results54, go_sem, hs, g0, g1, g2, g3, g4, g5, g6, g7, g8, g9, g10, g11]) rfl hR
theorem Says_any (r : Rq) (l : List F) (w : World) (h : Fs w.heap.size w r.v l) (hl : fsum l ≤ 1099511627776) :
    Calls Tryz.prog 54 #[r.val] w fun e w' => e = .returned (saysC l).val ∧ Below w.heap.size w w' := by
  obtain ⟨pr, cr, hrv, -⟩ := h.form; obtain ⟨rm, rs, ra, rp, rv⟩ := r; simp only at hrv h; subst hrv; simp only [Rq.val]; have HP : Hid (pragB l = (!decide (0 < (values l cacheControl).length) && (allOf l pragmaT).any fun x => same x noCache)) := rfl; have HY := Lib.hid (fun h => says_yes (l := l) h); have HN := Lib.hid (fun h => says_no (l := l) h); generalize saysC l = C at *; generalize pragB l = pb at *; obtain ⟨w0, ew⟩ : ∃ w0 : World, w0 = (w.alloc (.cells #[S rm, S rs, S ra, S rp, .slice pr l.length cr] 28)).alloc (.cells #[.bool false, .bool false, .bool false, .bool false, .bool false, .bool false, .bool false, .bool false, .int .i64 0, .int .i64 0, .int .i64 0, .int .i64 0] 80) := ⟨_, rfl⟩; have hQ0 : Blk w0 w.heap.size 28 #[S rm, S rs, S ra, S rp, .slice pr l.length cr] := (by rw [ew]; exact (Blk.new _ _ _).alloc _)
  have hZ0 : Blk w0 (w.heap.size + 1) 80 #[.bool false, .bool false, .bool false, .bool false, .bool false, .bool false, .bool false, .bool false, .int .i64 0, .int .i64 0, .int .i64 0, .int .i64 0] := by
    rw [ew]; have := Blk.new (w.alloc (.cells #[S rm, S rs, S ra, S rp, .slice pr l.length cr] 28)) 80 #[.bool false, .bool false, .bool false, .bool false, .bool false, .bool false, .bool false, .bool false, .int .i64 0, .int .i64 0, .int .i64 0, .int .i64 0]
    rwa [show (w.alloc (.cells #[S rm, S rs, S ra, S rp, .slice pr l.length cr] 28)).heap.size = w.heap.size + 1 by simp] at this
  have hb0 : Below w.heap.size w w0 := (by rw [ew]; exact ((Below.refl _ _).alloc (Nat.le_refl _) _).alloc (by simp) _); have h0 := (h.below hb0).mono hb0.size; have hz0 := hZ0.lt; go_enter Tryz.func54, Tryz.ntmps54
  go_wp2_with fail; rw [← ew]; clear ew h; refine (Read_any l _ w0 h0 hl).mono ?_; rintro e w1 ⟨rfl, hb1⟩; have hQ1 := hQ0.on hb1; have hZ1 := hZ0.on hb1; have h1 := (h0.below hb1).mono hb1.size; have hw1 := Bl.tr hb0 hb1; have hz1 : w.heap.size + 1 < w1.heap.size := Nat.lt_of_lt_of_le hz0 hb1.size; clear hQ0 hZ0 h0 hb0 hb1 hz0; generalize readC l = c at *; have hal : Below w1.heap.size w1 (w1.alloc (.cells #[.bool c.ns, .bool c.nc, .bool c.nt, .bool c.pu, .bool c.pr, .bool c.mr, .bool c.px, .bool c.oi, .int .i64 c.ma, .int .i64 c.sm, .int .i64 c.mf, .int .i64 c.ms] 80)) := (Below.refl _ _).alloc (Nat.le_refl _) _; have hX2 := Blk.new w1 80 c.cells; have hQ2 := hQ1.on hal; have hZ2 := hZ1.on hal; have h2 := (h1.below hal).mono hal.size; have hw2 := Bl.tr hw1 hal; have q4 : w1.cell? ⟨w.heap.size, 4, none⟩ = some (.slice pr l.length cr) := hQ1.cell 4; have hlt := hQ1.lt; go_wp2_with fail; clear hlt
  change Calls _ _ _ (w1.alloc (.cells c.cells 80)) _
  change Blk (w1.alloc (.cells c.cells 80)) w.heap.size _ _ at hQ2
  change Blk (w1.alloc (.cells c.cells 80)) (w.heap.size + 1) _ _ at hZ2
  change Fs (w1.alloc (.cells c.cells 80)).heap.size (w1.alloc (.cells c.cells 80)) _ _ at h2
  change Below w.heap.size w (w1.alloc (.cells c.cells 80)) at hw2
  clear hal; generalize w1.alloc (.cells c.cells 80) = w2 at *; clear hQ1 hZ1 h1 hw1 q4; generalize w1.heap.size = bc at *; refine (Values_any l cacheControl _ w2 h2 hl (by decide)).mono ?_; rintro e w3 ⟨vv, rfl, hvv, hb3⟩; obtain ⟨pa, ca, rfl, hm⟩ := (Ss.own hvv).form; have hQ3 := hQ2.on hb3; have hX3 := hX2.on hb3; have hZ3 := hZ2.on hb3; have h3 := (h2.below hb3).mono hb3.size; have hw3 := Bl.tr hw2 hb3; clear hQ2 hX2 hZ2 h2 hw2 hb3 hvv; generalize (values l cacheControl).length = n at *; have q4 : w3.cell? ⟨w.heap.size, 4, none⟩ = some (.slice pr l.length cr) := hQ3.cell 4; by_cases hn : n = 0
  · subst hn
    go_wp2_with fail; refine (Has_any l pragmaT noCache _ w3 h3 hl (by decide) (by decide)).mono ?_; rintro e w4 ⟨rfl, hb4⟩; have hX4 := hX3.on hb4; have hZ4 := hZ3.on hb4; have hw4 := Bl.tr hw3 hb4; clear hQ3 hX3 hZ3 h3 hw3 hb4 q4; generalize ((allOf l pragmaT).any fun x => same x noCache) = a at *; obtain ⟨x0, x1, x2, x3, x4, x5, x6, x7, x8, x9, x10, x11⟩ := hX4.c12; have fx := hX4.free 1; have fz := hZ4.free; obtain ⟨z0, z1, z2, z3, z4, z5, z6, z7, z8, z9, z10, z11⟩ := hZ4.c12
    cases a with
    | true =>
      have HC := Lib.hid (HY.out (by rw [HP.out]; rfl)); go_wp2_with fail; have hR := (hZ4.other (p := ⟨bc, 1, none⟩) (by show w.heap.size + 1 ≠ bc; omega) (.bool true)).set12 (.bool c.ns) (.bool true) (.bool c.nt) (.bool c.pu) (.bool c.pr) (.bool c.mr) (.bool c.px) (.bool c.oi) (.int .i64 c.ma) (.int .i64 c.sm) (.int .i64 c.mf) (.int .i64 c.ms); have hB := Bl.set12 (hw4.setCell (p := ⟨bc, 1, none⟩) (by show w.heap.size ≤ bc; omega) (.bool true)) (b := w.heap.size + 1) (by omega) (.bool c.ns) (.bool true) (.bool c.nt) (.bool c.pu) (.bool c.pr) (.bool c.mr) (.bool c.px) (.bool c.oi) (.int .i64 c.ma) (.int .i64 c.sm) (.int .i64 c.mf) (.int .i64 c.ms); exact ret_says (c := { c with nc := true }) rfl hR ⟨by rw [HC.out], hB⟩
    | false =>
      have HC := Lib.hid (HN.out (by rw [HP.out]; rfl)); go_wp2_with fail; have hR := hZ4.set12 (.bool c.ns) (.bool c.nc) (.bool c.nt) (.bool c.pu) (.bool c.pr) (.bool c.mr) (.bool c.px) (.bool c.oi) (.int .i64 c.ma) (.int .i64 c.sm) (.int .i64 c.mf) (.int .i64 c.ms); have hB := Bl.set12 hw4 (b := w.heap.size + 1) (by omega) (.bool c.ns) (.bool c.nc) (.bool c.nt) (.bool c.pu) (.bool c.pr) (.bool c.mr) (.bool c.px) (.bool c.oi) (.int .i64 c.ma) (.int .i64 c.sm) (.int .i64 c.mf) (.int .i64 c.ms); exact ret_says (c := c) rfl hR ⟨by rw [HC.out], hB⟩
  · have g0 : ((n : Int) == 0) = false := by rw [beq_eq_false_iff_ne]; omega
    have HC := Lib.hid (HN.out (by rw [HP.out]; simp; omega)); clear hn hQ3; obtain ⟨x0, x1, x2, x3, x4, x5, x6, x7, x8, x9, x10, x11⟩ := hX3.c12; have fz := hZ3.free; obtain ⟨z0, z1, z2, z3, z4, z5, z6, z7, z8, z9, z10, z11⟩ := hZ3.c12; go_wp2_with fail; have hR := hZ3.set12 (.bool c.ns) (.bool c.nc) (.bool c.nt) (.bool c.pu) (.bool c.pr) (.bool c.mr) (.bool c.px) (.bool c.oi) (.int .i64 c.ma) (.int .i64 c.sm) (.int .i64 c.mf) (.int .i64 c.ms); have hB := Bl.set12 hw3 (b := w.heap.size + 1) (by omega) (.bool c.ns) (.bool c.nc) (.bool c.nt) (.bool c.pu) (.bool c.pr) (.bool c.mr) (.bool c.px) (.bool c.oi) (.int .i64 c.ma) (.int .i64 c.sm) (.int .i64 c.mf) (.int .i64 c.ms); exact ret_says (c := c) rfl hR ⟨by rw [HC.out], hB⟩
theorem Good_any (r : Rq) (q : En) (lr lf : List F) (now : Int) (w : World) (hr : Fs w.heap.size w r.v lr) (hf : Fs w.heap.size w q.vf lf) (hl : fsum lr ≤ 1099511627776) (hl2 : fsum lf ≤ 1099511627776) :
    Calls Tryz.prog 67 #[r.val, q.val, .int .i64 now] w fun e w' => e = .returned (.bool (goodF lr lf q.st q.asked q.came now)) ∧ Below w.heap.size w w' := by
  have hS := fun w h => Says_any r lr w h hl
  have hLi := fun w h => Lifetime_any q lf w h hl2
  have hAg := fun w h => Age_any q lf now w h hl2
  obtain ⟨pr, cr, hrv, -⟩ := hr.form; obtain ⟨pf, cf, hfv, -⟩ := hf.form; obtain ⟨rm, rs, ra, rp, rv⟩ := r; obtain ⟨key, vp, st, vf, body, asked, came⟩ := q; simp only at hrv hfv hr hf hS hLi hAg ⊢; subst hrv hfv; simp only [Rq.val, En.val] at hS hLi hAg ⊢; have HG : Hid (goodF lr lf st asked came now = goodB (saysC lr) (readC lf) (lifeF lf st came) (ageF lf asked came now)) := rfl; have hal := ageF_le lf asked came now; have hll := lifeF_le lf st came hl2; have oa := saysC_ok lr; have ob := readC_ok lf; have HR := Lib.hid (fun w h => Read_any lf (.slice pf lf.length cf) w h hl2); have HS := Lib.hid hS; have HLi := Lib.hid hLi; have HAg := Lib.hid hAg; clear hS hLi hAg; generalize goodF lr lf st asked came now = G at *; generalize saysC lr = a at *; generalize readC lf = b at *; generalize lifeF lf st came = life at *; generalize ageF lf asked came now = age at *; obtain ⟨w0, ew⟩ : ∃ w0 : World, w0 = (w.alloc (.cells #[S rm, S rs, S ra, S rp, .slice pr lr.length cr] 28)).alloc (.cells #[S key, vp, .int .i64 st, .slice pf lf.length cf, S body, .int .i64 asked, .int .i64 came] 36) := ⟨_, rfl⟩; have hQ0 : Blk w0 w.heap.size 28 #[S rm, S rs, S ra, S rp, .slice pr lr.length cr] := (by rw [ew]; exact (Blk.new _ _ _).alloc _)
  have hE0 : Blk w0 (w.heap.size + 1) 36 #[S key, vp, .int .i64 st, .slice pf lf.length cf, S body, .int .i64 asked, .int .i64 came] := by
    rw [ew]; have := Blk.new (w.alloc (.cells #[S rm, S rs, S ra, S rp, .slice pr lr.length cr] 28)) 36 #[S key, vp, .int .i64 st, .slice pf lf.length cf, S body, .int .i64 asked, .int .i64 came]
    rwa [show (w.alloc (.cells #[S rm, S rs, S ra, S rp, .slice pr lr.length cr] 28)).heap.size = w.heap.size + 1 by simp] at this
  have hb0 : Below w.heap.size w w0 := (by rw [ew]; exact ((Below.refl _ _).alloc (Nat.le_refl _) _).alloc (by simp) _); have hr0 := (hr.below hb0).mono hb0.size; have hf0 := (hf.below hb0).mono hb0.size; have hz0 := hE0.lt; go_enter Tryz.func67, Tryz.ntmps67
  go_wp2_with fail; rw [← ew]; clear ew hr hf; obtain ⟨x0, x1, x2, x3, x4⟩ := hQ0.c5; obtain ⟨y0, y1, y2, y3, y4, y5, y6⟩ := hE0.c7
  go_cut [7, 8] (fun s7 s8 wx => ∃ b7 b8 : Nat, s7 = .pointer (some ⟨b7, 0, none⟩) ∧ s8 = .pointer (some ⟨b8, 0, none⟩) ∧ Blk wx b7 80 a.cells ∧ Blk wx b8 80 b.cells ∧ Below w0.heap.size w0 wx)
  case first =>
    have hs0 : Fs (w0.drew).heap.size (w0.drew) (.slice pr lr.length cr) lr := (hr0.below (Below.refl w0.heap.size w0).drew).mono (by show w0.heap.size ≤ w0.heap.size; simp; try omega); have hs1 : Fs ((w0.alloc Zc).drew).heap.size ((w0.alloc Zc).drew) (.slice pr lr.length cr) lr := (hr0.below ((Below.refl w0.heap.size w0).alloc (by simp) Zc).drew).mono (by show w0.heap.size ≤ (w0.alloc Zc).heap.size; simp; try omega); have hs2 : Fs (((w0.alloc Zc).alloc Zc).drew).heap.size (((w0.alloc Zc).alloc Zc).drew) (.slice pr lr.length cr) lr := (hr0.below (((Below.refl w0.heap.size w0).alloc (by simp) Zc).alloc (by simp) Zc).drew).mono (by show w0.heap.size ≤ ((w0.alloc Zc).alloc Zc).heap.size; simp; try omega)
    go_region_held3 (fun w' => (w'.cell? ⟨w.heap.size, 0, none⟩ = some (S rm) ∧ w'.cell? ⟨w.heap.size, 1, none⟩ = some (S rs) ∧ w'.cell? ⟨w.heap.size, 2, none⟩ = some (S ra) ∧ w'.cell? ⟨w.heap.size, 3, none⟩ = some (S rp) ∧ w'.cell? ⟨w.heap.size, 4, none⟩ = some (.slice pr lr.length cr)) ∧ w'.cell? ⟨w.heap.size + 1, 3, none⟩ = some (.slice pf lf.length cf))
      (first | (with_reducible exact req_ent (w := w.heap.size) hQ hE) | (have tk := hlt2; exact req_ent (w := w.heap.size) (by repeat (first | (with_reducible exact hQ) | (with_reducible refine Blk.alloc ?_ _) | ((with_reducible refine Blk.other ?_ ?_ _); rotate_left; (dsimp only; omega)))) (by repeat (first | (with_reducible exact hE) | (with_reducible refine Blk.alloc ?_ _) | ((with_reducible refine Blk.other ?_ ?_ _); rotate_left; (dsimp only; omega))))) | (have tk := hlt1; with_reducible exact req_ent (w := w.heap.size) (hQ.alloc _) (hE.alloc _)) | (have tk := hlt1; with_reducible exact req_ent (w := w.heap.size) ((hQ.alloc _).alloc _) ((hE.alloc _).alloc _)) | go_keep)
      (first
        | (go_at_call 54; (with_reducible refine (HS.out w0.drew hs0).mono ?_); rintro e w1 ⟨rfl, hb1⟩; have hw1 : Below w0.heap.size w0 w1 := (Below.refl w0.heap.size w0).drew.trans (hb1.mono (by show w0.heap.size ≤ w0.heap.size; simp; try omega)); have hf1 := (hf0.below hw1).mono hw1.size; have hlt1 : w0.heap.size + 0 ≤ w1.heap.size := (by have q : w0.heap.size ≤ w1.heap.size := hb1.size; (try simp at q); omega); have hq0 : Fs (w1).heap.size (w1) (.slice pf lf.length cf) lf := (hf1.below (Below.refl w1.heap.size w1)).mono (by simp; try omega); have hq1 : Fs ((w1.alloc Zc)).heap.size ((w1.alloc Zc)) (.slice pf lf.length cf) lf := (hf1.below ((Below.refl w1.heap.size w1).alloc (by simp) Zc)).mono (by simp; try omega); have hq2 : Fs (((w1.alloc Zc).alloc Zc)).heap.size (((w1.alloc Zc).alloc Zc)) (.slice pf lf.length cf) lf := (hf1.below (((Below.refl w1.heap.size w1).alloc (by simp) Zc).alloc (by simp) Zc)).mono (by simp; try omega); have tok0 := True.intro; have hQ := hQ0.on hw1; have hE := hE0.on hw1; have hzz := hw1.size)
        | (go_at_call 54; (with_reducible refine (HS.out (w0.alloc Zc).drew hs1).mono ?_); rintro e w1 ⟨rfl, hb1⟩; have hw1 : Below w0.heap.size w0 w1 := ((Below.refl w0.heap.size w0).alloc (by simp) Zc).drew.trans (hb1.mono (by show w0.heap.size ≤ (w0.alloc Zc).heap.size; simp; try omega)); have hf1 := (hf0.below hw1).mono hw1.size; have hlt1 : w0.heap.size + 1 ≤ w1.heap.size := (by have q : (w0.alloc Zc).heap.size ≤ w1.heap.size := hb1.size; (try simp at q); omega); have hA1 : Blk w1 w0.heap.size 80 Zv := ((Blk.new w0 _ _).drew).on hb1; have hq0 : Fs (w1).heap.size (w1) (.slice pf lf.length cf) lf := (hf1.below (Below.refl w1.heap.size w1)).mono (by simp; try omega); have hq1 : Fs ((w1.alloc Zc)).heap.size ((w1.alloc Zc)) (.slice pf lf.length cf) lf := (hf1.below ((Below.refl w1.heap.size w1).alloc (by simp) Zc)).mono (by simp; try omega); have tok1 := True.intro; have hQ := hQ0.on hw1; have hE := hE0.on hw1; have hzz := hw1.size; obtain ⟨z0_0, z0_1, z0_2, z0_3, z0_4, z0_5, z0_6, z0_7, z0_8, z0_9, z0_10, z0_11⟩ := z12 hA1; have fz0 := hA1.free; have lz0 := hA1.lt)
        | (go_at_call 54; (with_reducible refine (HS.out ((w0.alloc Zc).alloc Zc).drew hs2).mono ?_); rintro e w1 ⟨rfl, hb1⟩; have hw1 : Below w0.heap.size w0 w1 := (((Below.refl w0.heap.size w0).alloc (by simp) Zc).alloc (by simp) Zc).drew.trans (hb1.mono (by show w0.heap.size ≤ ((w0.alloc Zc).alloc Zc).heap.size; simp; try omega)); have hf1 := (hf0.below hw1).mono hw1.size; have hlt1 : w0.heap.size + 2 ≤ w1.heap.size := (by have q : ((w0.alloc Zc).alloc Zc).heap.size ≤ w1.heap.size := hb1.size; (try simp at q); omega); have hA1 : Blk w1 w0.heap.size 80 Zv := (((Blk.new w0 _ _).alloc _).drew).on hb1; have hB1 : Blk w1 (w0.heap.size + 1) 80 Zv := (show Blk ((w0.alloc Zc).alloc Zc).drew (w0.heap.size + 1) 80 Zv from (by have q := Blk.new (w0.alloc Zc) 80 Zv; rw [show (w0.alloc Zc).heap.size = w0.heap.size + 1 by simp] at q; exact q.drew)).on hb1; have hq0 : Fs (w1).heap.size (w1) (.slice pf lf.length cf) lf := (hf1.below (Below.refl w1.heap.size w1)).mono (by simp; try omega); have tok2 := True.intro; have hQ := hQ0.on hw1; have hE := hE0.on hw1; have hzz := hw1.size; obtain ⟨z0_0, z0_1, z0_2, z0_3, z0_4, z0_5, z0_6, z0_7, z0_8, z0_9, z0_10, z0_11⟩ := z12 hA1; have fz0 := hA1.free; have lz0 := hA1.lt; obtain ⟨z1_0, z1_1, z1_2, z1_3, z1_4, z1_5, z1_6, z1_7, z1_8, z1_9, z1_10, z1_11⟩ := z12 hB1; have fz1 := hB1.free; have lz1 := hB1.lt)
        | (go_at_call 84; have tk := tok0; (with_reducible refine (HR.out w1 hq0).mono ?_); rintro e w2 ⟨rfl, hb2⟩; have hw12 : Below w1.heap.size w1 w2 := (Below.refl w1.heap.size w1).trans (hb2.mono (by simp; try omega)); have hw2 := Bl.tr hw1 hw12; have hlt2 : w1.heap.size + 0 ≤ w2.heap.size := (by have := hb2.size; (try simp at this); omega); have tik00 := True.intro; have hQ := hQ0.on hw2; have hE := hE0.on hw2; have hzz := hw2.size)
        | (go_at_call 84; have tk := tok0; (with_reducible refine (HR.out (w1.alloc Zc) hq1).mono ?_); rintro e w2 ⟨rfl, hb2⟩; have hw12 : Below w1.heap.size w1 w2 := ((Below.refl w1.heap.size w1).alloc (by simp) Zc).trans (hb2.mono (by simp; try omega)); have hw2 := Bl.tr hw1 hw12; have hlt2 : w1.heap.size + 1 ≤ w2.heap.size := (by have := hb2.size; (try simp at this); omega); have hA2 : Blk w2 w1.heap.size 80 Zv := ((Blk.new w1 _ _)).on hb2; have tik01 := True.intro; have hQ := hQ0.on hw2; have hE := hE0.on hw2; have hzz := hw2.size; obtain ⟨z0_0, z0_1, z0_2, z0_3, z0_4, z0_5, z0_6, z0_7, z0_8, z0_9, z0_10, z0_11⟩ := z12 hA2; have fz0 := hA2.free; have lz0 := hA2.lt)
        | (go_at_call 84; have tk := tok0; (with_reducible refine (HR.out ((w1.alloc Zc).alloc Zc) hq2).mono ?_); rintro e w2 ⟨rfl, hb2⟩; have hw12 : Below w1.heap.size w1 w2 := (((Below.refl w1.heap.size w1).alloc (by simp) Zc).alloc (by simp) Zc).trans (hb2.mono (by simp; try omega)); have hw2 := Bl.tr hw1 hw12; have hlt2 : w1.heap.size + 2 ≤ w2.heap.size := (by have := hb2.size; (try simp at this); omega); have hA2 : Blk w2 w1.heap.size 80 Zv := ((Blk.new w1 _ _).alloc _).on hb2; have hB2 : Blk w2 (w1.heap.size + 1) 80 Zv := (show Blk ((w1.alloc Zc).alloc Zc) (w1.heap.size + 1) 80 Zv from (by have q := Blk.new (w1.alloc Zc) 80 Zv; rwa [show (w1.alloc Zc).heap.size = w1.heap.size + 1 by simp] at q)).on hb2; have tik02 := True.intro; have hQ := hQ0.on hw2; have hE := hE0.on hw2; have hzz := hw2.size; obtain ⟨z0_0, z0_1, z0_2, z0_3, z0_4, z0_5, z0_6, z0_7, z0_8, z0_9, z0_10, z0_11⟩ := z12 hA2; have fz0 := hA2.free; have lz0 := hA2.lt; obtain ⟨z1_0, z1_1, z1_2, z1_3, z1_4, z1_5, z1_6, z1_7, z1_8, z1_9, z1_10, z1_11⟩ := z12 hB2; have fz1 := hB2.free; have lz1 := hB2.lt)
        | (go_at_call 84; have tk := tok1; (with_reducible refine (HR.out w1 hq0).mono ?_); rintro e w2 ⟨rfl, hb2⟩; have hw12 : Below w1.heap.size w1 w2 := (Below.refl w1.heap.size w1).trans (hb2.mono (by simp; try omega)); have hw2 := Bl.tr hw1 hw12; have hlt2 : w1.heap.size + 0 ≤ w2.heap.size := (by have := hb2.size; (try simp at this); omega); have hA2 := hA1.on hw12; have tik10 := True.intro; have hQ := hQ0.on hw2; have hE := hE0.on hw2; have hzz := hw2.size; obtain ⟨z0_0, z0_1, z0_2, z0_3, z0_4, z0_5, z0_6, z0_7, z0_8, z0_9, z0_10, z0_11⟩ := z12 hA2; have fz0 := hA2.free; have lz0 := hA2.lt)
        | (go_at_call 84; have tk := tok1; (with_reducible refine (HR.out (w1.alloc Zc) hq1).mono ?_); rintro e w2 ⟨rfl, hb2⟩; have hw12 : Below w1.heap.size w1 w2 := ((Below.refl w1.heap.size w1).alloc (by simp) Zc).trans (hb2.mono (by simp; try omega)); have hw2 := Bl.tr hw1 hw12; have hlt2 : w1.heap.size + 1 ≤ w2.heap.size := (by have := hb2.size; (try simp at this); omega); have hA2 := hA1.on hw12; have hB2 : Blk w2 w1.heap.size 80 Zv := ((Blk.new w1 _ _)).on hb2; have tik11 := True.intro; have hQ := hQ0.on hw2; have hE := hE0.on hw2; have hzz := hw2.size; obtain ⟨z0_0, z0_1, z0_2, z0_3, z0_4, z0_5, z0_6, z0_7, z0_8, z0_9, z0_10, z0_11⟩ := z12 hA2; have fz0 := hA2.free; have lz0 := hA2.lt; obtain ⟨z1_0, z1_1, z1_2, z1_3, z1_4, z1_5, z1_6, z1_7, z1_8, z1_9, z1_10, z1_11⟩ := z12 hB2; have fz1 := hB2.free; have lz1 := hB2.lt)
        | (go_at_call 84; have tk := tok2; (with_reducible refine (HR.out w1 hq0).mono ?_); rintro e w2 ⟨rfl, hb2⟩; have hw12 : Below w1.heap.size w1 w2 := (Below.refl w1.heap.size w1).trans (hb2.mono (by simp; try omega)); have hw2 := Bl.tr hw1 hw12; have hlt2 : w1.heap.size + 0 ≤ w2.heap.size := (by have := hb2.size; (try simp at this); omega); have hA2 := hA1.on hw12; have hB2 := hB1.on hw12; have tik20 := True.intro; have hQ := hQ0.on hw2; have hE := hE0.on hw2; have hzz := hw2.size; obtain ⟨z0_0, z0_1, z0_2, z0_3, z0_4, z0_5, z0_6, z0_7, z0_8, z0_9, z0_10, z0_11⟩ := z12 hA2; have fz0 := hA2.free; have lz0 := hA2.lt; obtain ⟨z1_0, z1_1, z1_2, z1_3, z1_4, z1_5, z1_6, z1_7, z1_8, z1_9, z1_10, z1_11⟩ := z12 hB2; have fz1 := hB2.free; have lz1 := hB2.lt))
    all_goals
      go_wp2_with fail; go_meet
      refine ⟨_, _, rfl, rfl, ?_, ?_, ?_⟩
      · unfold Ctl.cells; repeat (first | (with_reducible exact hA2) | (with_reducible exact hB2) | (with_reducible exact Blk.new _ _ _) | ((with_reducible refine Blk.new_at _ _ _ _ ?_); simp; done) | (with_reducible refine Blk.alloc ?_ _) | (with_reducible refine set12z ?_ _ _ _ _ _ _ _ _ _ _ _ _) | ((with_reducible refine Blk.other ?_ ?_ _); rotate_left; (dsimp only; omega)))
      · unfold Ctl.cells; repeat (first | (with_reducible exact hA2) | (with_reducible exact hB2) | (with_reducible exact Blk.new _ _ _) | ((with_reducible refine Blk.new_at _ _ _ _ ?_); simp; done) | (with_reducible refine Blk.alloc ?_ _) | (with_reducible refine set12z ?_ _ _ _ _ _ _ _ _ _ _ _ _) | ((with_reducible refine Blk.other ?_ ?_ _); rotate_left; (dsimp only; omega)))
      · repeat (first | (with_reducible exact hw2) | ((with_reducible refine Below.alloc ?_ ?_ _); rotate_left; (first | omega | (simp; done) | (simp; omega))) | ((with_reducible refine Below.setCell ?_ ?_ _); rotate_left; (dsimp only; omega)))
  case rest =>
    obtain ⟨b7, b8, rfl, rfl, hA, hB, hw1⟩ := hcut; have hw2 := Bl.tr hb0 hw1; have hE1 := hE0.on hw1; have hf1 := (hf0.below hw1).mono hw1.size; clear x0 x1 x2 x3 x4 y0 y1 y2 y3 y4 y5 y6 hQ0 hE0 hr0 hf0 hw1 hb0 hz0 HS HR; obtain ⟨y0, y1, y2, y3, y4, y5, y6⟩ := hE1.c7; go_wp2_with fail
    go_region_held3 (fun w' => w'.cell? ⟨w.heap.size + 1, 0, none⟩ = some (S key) ∧ w'.cell? ⟨w.heap.size + 1, 1, none⟩ = some (vp) ∧ w'.cell? ⟨w.heap.size + 1, 2, none⟩ = some (.int .i64 st) ∧ w'.cell? ⟨w.heap.size + 1, 3, none⟩ = some (.slice pf lf.length cf) ∧ w'.cell? ⟨w.heap.size + 1, 4, none⟩ = some (S body) ∧ w'.cell? ⟨w.heap.size + 1, 5, none⟩ = some (.int .i64 asked) ∧ w'.cell? ⟨w.heap.size + 1, 6, none⟩ = some (.int .i64 came))
      (first | go_keep)
      (first
        | (go_at_call 106; (with_reducible refine (HLi.out wc.drew hf1.drew).mono ?_); rintro e w3 ⟨rfl, hb3⟩; replace hb3 := Bl.undrew hb3; have hw3 := Bl.tr hw2 hb3; have hE3 := hE1.on hb3; have hA3 := hA.on hb3; have hB3 := hB.on hb3; have hf3 := (hf1.below hb3).mono hb3.size; (have y0 : w3.cell? ⟨w.heap.size + 1, 0, none⟩ = some (S key) := hE3.cell 0; have y1 : w3.cell? ⟨w.heap.size + 1, 1, none⟩ = some (vp) := hE3.cell 1; have y2 : w3.cell? ⟨w.heap.size + 1, 2, none⟩ = some (.int .i64 st) := hE3.cell 2; have y3 : w3.cell? ⟨w.heap.size + 1, 3, none⟩ = some (.slice pf lf.length cf) := hE3.cell 3; have y4 : w3.cell? ⟨w.heap.size + 1, 4, none⟩ = some (S body) := hE3.cell 4; have y5 : w3.cell? ⟨w.heap.size + 1, 5, none⟩ = some (.int .i64 asked) := hE3.cell 5; have y6 : w3.cell? ⟨w.heap.size + 1, 6, none⟩ = some (.int .i64 came) := hE3.cell 6))
        | (go_at_call 107; (with_reducible refine (HAg.out w3 hf3).mono ?_); rintro e w4 ⟨rfl, hb4⟩; have hw4 := Bl.tr hw3 hb4; have hE4 := hE3.on hb4; have hA4 := hA3.on hb4; have hB4 := hB3.on hb4; (have y0 : w4.cell? ⟨w.heap.size + 1, 0, none⟩ = some (S key) := hE4.cell 0; have y1 : w4.cell? ⟨w.heap.size + 1, 1, none⟩ = some (vp) := hE4.cell 1; have y2 : w4.cell? ⟨w.heap.size + 1, 2, none⟩ = some (.int .i64 st) := hE4.cell 2; have y3 : w4.cell? ⟨w.heap.size + 1, 3, none⟩ = some (.slice pf lf.length cf) := hE4.cell 3; have y4 : w4.cell? ⟨w.heap.size + 1, 4, none⟩ = some (S body) := hE4.cell 4; have y5 : w4.cell? ⟨w.heap.size + 1, 5, none⟩ = some (.int .i64 asked) := hE4.cell 5; have y6 : w4.cell? ⟨w.heap.size + 1, 6, none⟩ = some (.int .i64 came) := hE4.cell 6)))
    clear hE1 hA hB hf1 hb3 hw3 hE3 hA3 hB3 hf3 hb4 hE4 HLi HAg hw2 y0 y1 y2 y3 y4 y5 y6; obtain ⟨ans, anc, ant, apu, apr, amr, apx, aoi, ama, asm', amf, ams⟩ := a; obtain ⟨bns, bnc, bnt, bpu, bpr, bmr, bpx, boi, bma, bsm, bmf, bms⟩ := b; obtain ⟨⟨oa1, oa2⟩, -, ⟨oa3, oa4⟩, oa5, oa6⟩ := oa; obtain ⟨-, ⟨ob1, ob2⟩, -⟩ := ob; simp only at oa1 oa2 oa3 oa4 oa5 oa6 ob1 ob2; have x1 : w4.cell? ⟨b7, 1, none⟩ = some (.bool anc) := hA4.cell 1; have x8 : w4.cell? ⟨b7, 8, none⟩ = some (.int .i64 ama) := hA4.cell 8; have x10 : w4.cell? ⟨b7, 10, none⟩ = some (.int .i64 amf) := hA4.cell 10; have x11 : w4.cell? ⟨b7, 11, none⟩ = some (.int .i64 ams) := hA4.cell 11; have z1 : w4.cell? ⟨b8, 1, none⟩ = some (.bool bnc) := hB4.cell 1; have z5 : w4.cell? ⟨b8, 5, none⟩ = some (.bool bmr) := hB4.cell 5; have z6 : w4.cell? ⟨b8, 6, none⟩ = some (.bool bpx) := hB4.cell 6; have z9 : w4.cell? ⟨b8, 9, none⟩ = some (.int .i64 bsm) := hB4.cell 9; clear hA4 hB4; go_upto_region 3 with fail
    go_cut [50] (fun s wx => s = .bool (decide (GoodNo ⟨ans, anc, ant, apu, apr, amr, apx, aoi, ama, asm', amf, ams⟩ ⟨bns, bnc, bnt, bpu, bpr, bmr, bpx, boi, bma, bsm, bmf, bms⟩ life age)) ∧ w4 = wx)
    case first =>
      clear x11 z5 z6 z9 HG; have GT := fun h => (decide_eq_true (p := GoodNo ⟨ans, anc, ant, apu, apr, amr, apx, aoi, ama, asm', amf, ams⟩ ⟨bns, bnc, bnt, bpu, bpr, bmr, bpx, boi, bma, bsm, bmf, bms⟩ life age) h).symm
      have GF := fun h => (decide_eq_false (p := GoodNo ⟨ans, anc, ant, apu, apr, amr, apx, aoi, ama, asm', amf, ams⟩ ⟨bns, bnc, bnt, bpu, bpr, bmr, bpx, boi, bma, bsm, bmf, bms⟩ life age) h).symm
      unfold GoodNo at GT GF; simp only at GT GF
      cases anc with
      | true =>
        have HT := Lib.hid (GT (.inl rfl)); clear GT GF; go_wp2; go_meet
        exact ⟨congrArg Value.bool HT.out, rfl⟩
      | false =>
      cases bnc with
      | true =>
        have HT := Lib.hid (GT (.inr (.inl rfl))); clear GT GF; go_wp2; go_meet
        exact ⟨congrArg Value.bool HT.out, rfl⟩
      | false =>
      by_cases h1 : 0 ≤ ama
      · by_cases h2 : ama < (age : Int)
        · have HT := Lib.hid (GT (.inr (.inr (.inl ⟨h1, h2⟩))))
          clear GT GF; go_wp2; go_meet
          exact ⟨congrArg Value.bool HT.out, rfl⟩
        · by_cases h3 : 0 ≤ amf
          · by_cases h4 : (life : Int) - age < amf
            · have HT := Lib.hid (GT (.inr (.inr (.inr ⟨h3, h4⟩))))
              clear GT GF; go_wp2; go_meet
              exact ⟨congrArg Value.bool HT.out, rfl⟩
            · have HT := Lib.hid (GF (by simp; omega))
              clear GT GF; go_wp2; go_meet
              exact ⟨congrArg Value.bool HT.out, rfl⟩
          · have HT := Lib.hid (GF (by simp; omega))
            clear GT GF; go_wp2; go_meet
            exact ⟨congrArg Value.bool HT.out, rfl⟩
      · by_cases h3 : 0 ≤ amf
        · by_cases h4 : (life : Int) - age < amf
          · have HT := Lib.hid (GT (.inr (.inr (.inr ⟨h3, h4⟩))))
            clear GT GF; go_wp2; go_meet
            exact ⟨congrArg Value.bool HT.out, rfl⟩
          · have HT := Lib.hid (GF (by simp; omega))
            clear GT GF; go_wp2; go_meet
            exact ⟨congrArg Value.bool HT.out, rfl⟩
        · have HT := Lib.hid (GF (by simp; omega))
          clear GT GF; go_wp2; go_meet
          exact ⟨congrArg Value.bool HT.out, rfl⟩
    case rest =>
      obtain ⟨rfl, rfl⟩ := hcut; by_cases hP : GoodNo ⟨ans, anc, ant, apu, apr, amr, apx, aoi, ama, asm', amf, ams⟩ ⟨bns, bnc, bnt, bpu, bpr, bmr, bpx, boi, bma, bsm, bmf, bms⟩ life age
      · have HR := Lib.hid (good_no hP)
        rw [decide_eq_true hP]; clear hP; go_wp2; go_ret; exact ⟨ret_bool (by rw [HG.out, HR.out]), hw4⟩
      · rw [decide_eq_false hP]
        by_cases hn : age < life
        · have HR := Lib.hid (good_new hP hn)
          have g1 : decide (age < life) = true := (by simpa using hn); clear hP hn; go_wp2; go_ret; exact ⟨ret_bool (by rw [HG.out, HR.out]), hw4⟩
        · have HR := Lib.hid (good_old hP hn)
          have g1 : decide (age < life) = false := (by simpa using hn); clear hP hn; simp only at HR; by_cases h1 : 0 ≤ ams
          · by_cases h2 : (age : Int) - life ≤ ams
            · have HR := HR.out
              rw [decide_eq_true (p := 0 ≤ ams ∧ (age : Int) - life ≤ ams) ⟨h1, h2⟩] at HR; have HR := Lib.hid HR
              cases bmr <;> cases bpx
              all_goals
                go_wp2
                all_goals go_ret
                all_goals exact ⟨ret_bool (by rw [HG.out, HR.out]; simp [*]), hw4⟩
            · have HR := HR.out
              rw [decide_eq_false (p := 0 ≤ ams ∧ (age : Int) - life ≤ ams) (fun e => h2 e.2)] at HR; have HR := Lib.hid HR; go_wp2; go_ret; exact ⟨ret_bool (by rw [HG.out, HR.out]; simp), hw4⟩
          · have HR := HR.out
            rw [decide_eq_false (p := 0 ≤ ams ∧ (age : Int) - life ≤ ams) (fun e => h1 e.1)] at HR; have HR := Lib.hid HR; go_wp2; go_ret; exact ⟨ret_bool (by rw [HG.out, HR.out]; simp), hw4⟩
end Go.Proofs.YtahapblgmehngaaGreatDoor

