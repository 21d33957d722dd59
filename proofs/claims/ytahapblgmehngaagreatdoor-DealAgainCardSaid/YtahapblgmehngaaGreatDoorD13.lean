/- Parts of the proof of DealAgain_holds: the texts Rf18 RfP. -/
import Derived.Test.YtahapblgmehngaaGreatDoorD12
set_option linter.unusedSimpArgs false
set_option linter.unusedVariables false
set_option linter.unnecessarySimpa false
set_option maxRecDepth 100000
set_option maxHeartbeats 64000000
namespace Go.Dr
def dateI (l : List F) (name : Bytes) (came : Int) : Int := if momB l name came = true then (momV l name came : Nat) else -1
def worthN (c : UInt8) : Nat := if digitN c = 16 then 99 else digitN c
theorem worth_dig (c : UInt8) (h : isDig c = true) : (c.toNat : Int) - 48 = (worthN c : Nat) := by
  simp only [isDig, decide_eq_true_iff] at h; have e : digitN c = c.toNat - 48 := (by unfold digitN; rw [if_pos h]); unfold worthN; rw [e, if_neg (by omega)]; omega
theorem worth_low (c : UInt8) (h : isDig c = false) (h1 : 97 ≤ c.toNat) (h2 : c.toNat ≤ 102) : (c.toNat : Int) - 87 = (worthN c : Nat) := by
  simp only [isDig, decide_eq_false_iff_not] at h; have e : digitN c = c.toNat - 87 := (by unfold digitN; rw [if_neg h, if_pos ⟨h1, h2⟩]); unfold worthN; rw [e, if_neg (by omega)]; omega
theorem worth_up (c : UInt8) (h : isDig c = false) (h0 : ¬ (97 ≤ c.toNat ∧ c.toNat ≤ 102)) (h1 : 65 ≤ c.toNat) (h2 : c.toNat ≤ 70) : (c.toNat : Int) - 55 = (worthN c : Nat) := by
  simp only [isDig, decide_eq_false_iff_not] at h; have e : digitN c = c.toNat - 55 := (by unfold digitN; rw [if_neg h, if_neg h0, if_pos ⟨h1, h2⟩]); unfold worthN; rw [e, if_neg (by omega)]; omega
theorem worth_no (c : UInt8) (h : isDig c = false) (h0 : ¬ (97 ≤ c.toNat ∧ c.toNat ≤ 102)) (h1 : ¬ (65 ≤ c.toNat ∧ c.toNat ≤ 70)) : (99 : Int) = (worthN c : Nat) := by
  simp only [isDig, decide_eq_false_iff_not] at h; have e : digitN c = 16 := (by unfold digitN; rw [if_neg h, if_neg h0, if_neg h1]); unfold worthN; rw [e, if_pos rfl]; rfl
theorem worth_lt (c : UInt8) : worthN c < 10 ↔ digitN c < 10 := by
  unfold worthN; split <;> omega
theorem worth_eq (c : UInt8) (h : worthN c < 10) : worthN c = digitN c := by
  unfold worthN at h ⊢; split
  · rw [if_pos ‹_›] at h; omega
  · rfl
def NumTo (l : Bytes) (k n : Nat) : Prop := (l.take k).all (fun c => decide (digitN c < 10)) = true ∧ ((n = numTo 10 (l.take k) ∧ n ≤ 10995116277775) ∨ (1099511627776 < n ∧ n ≤ 10995116277775 ∧ 1099511627776 < numTo 10 (l.take k)))
theorem NumTo.zero (l : Bytes) : NumTo l 0 0 := ⟨by simp, .inl ⟨by simp [numTo], by decide⟩⟩
theorem NumTo.le {l : Bytes} {k n : Nat} (h : NumTo l k n) : n ≤ 10995116277775 := by rcases h.2 with h | h <;> omega
theorem NumTo.all_snoc {l : Bytes} {k n : Nat} (h : NumTo l k n) (hk : k < l.length) (hc : worthN l[k] < 10) : (l.take (k + 1)).all (fun c => decide (digitN c < 10)) = true := by
  rw [take_snoc l k hk, List.all_append, h.1]; simp [(worth_lt _).1 hc]
theorem NumTo.small {l : Bytes} {k n : Nat} (h : NumTo l k n) (hk : k < l.length) (hc : worthN l[k] < 10) (hn : n ≤ 1099511627776) : NumTo l (k + 1) (n * 10 + worthN l[k]) := by
  refine ⟨h.all_snoc hk hc, .inl ⟨?_, by omega⟩⟩; rw [numTo_snoc 10 l k hk, worth_eq _ hc]
  rcases h.2 with e | e
  · rw [e.1]
  · omega
theorem NumTo.big {l : Bytes} {k n : Nat} (h : NumTo l k n) (hk : k < l.length) (hc : worthN l[k] < 10) (hn : ¬ n ≤ 1099511627776) : NumTo l (k + 1) n := by
  refine ⟨h.all_snoc hk hc, .inr ⟨by omega, h.le, ?_⟩⟩; rw [numTo_snoc 10 l k hk]
  rcases h.2 with e | e
  · rw [← e.1]; omega
  · omega
theorem number_bad {l : Bytes} {k : Nat} (hk : k < l.length) (hc : ¬ worthN l[k] < 10) : number 10 l = (0, 10) := by
  have : ¬ digitN l[k] < 10 := fun e => hc ((worth_lt _).2 e)
  unfold number; rw [if_pos]; simp only [Bool.or_eq_true, Bool.not_eq_true', List.all_eq_false, decide_eq_true_iff]; exact .inr ⟨l[k], List.getElem_mem hk, this⟩
theorem number_nil : number 10 [] = (0, 10) := by decide
theorem number_end {l : Bytes} {n : Nat} (h : NumTo l l.length n) (hl : 0 < l.length) : number 10 l = if n ≤ 1099511627776 then (n, 0) else (0, 11) := by
  have h1 := h.1; rw [List.take_length] at h1; have h2 := h.2; rw [List.take_length] at h2; unfold number greatest; rw [if_neg (by rw [h1]; simp; intro e; subst e; simp at hl)]
  rcases h2 with e | e
  · rw [← e.1]
  · rw [if_neg (by omega), if_neg (by omega)]
end Go.Dr
namespace Go.Proofs.YtahapblgmehngaaGreatDoor
open Go.RowKit Go.Dr
theorem refWorth_any (c : UInt8) (w : World) : Calls Tryz.prog 136 #[B8 c] w fun e w' => e = .returned (.int .i64 (worthN c : Nat)) ∧ w = w' := by
  have D := Lib.hid (fun w => refDigit_any c w); have hc := c.toNat_lt
  cases hd : isDig c with
  | true =>
    have H := Lib.hid (worth_dig c hd); rw [hd] at D; clear hd; go_enter Tryz.func136, Tryz.ntmps136
    go_wp2_with fail; refine (D.out _).mono ?_; rintro e w1 ⟨rfl, rfl⟩; go_wp2; go_ret; exact ⟨ret_int H.out, rfl⟩
  | false =>
    have H1 := Lib.hid (worth_low c hd); have H2 := Lib.hid (worth_up c hd); have H3 := Lib.hid (worth_no c hd); rw [hd] at D; clear hd; go_enter Tryz.func136, Tryz.ntmps136
    go_wp2_with fail; refine (D.out _).mono ?_; rintro e w1 ⟨rfl, rfl⟩; go_wp2
    all_goals go_ret
    all_goals exact ⟨ret_int (by first | exact H1.out (by omega) (by omega) | exact H2.out (by omega) (by omega) (by omega) | exact H3.out (by omega) (by omega)), rfl⟩
theorem refNumber_any (l : Bytes) (w : World) (hl : l.length ≤ maxLen) : Calls Tryz.prog 113 #[S l, .int .i64 10] w fun e w' => e = .returned (.tuple #[.int .i64 ((number 10 l).1 : Nat), .int .i64 ((number 10 l).2 : Nat)]) ∧ w = w' := by
  unfold maxLen at hl; have HB := fun k (hk : k < l.length) hc => number_bad (l := l) hk hc
  have HE := fun n h hl => number_end (l := l) (n := n) h hl
  have HN : l = [] → number 10 l = (0, 10) := fun e => by rw [e]; exact number_nil
  generalize number 10 l = r at *; have HB := Lib.hid HB; have HE := Lib.hid HE; have HN := Lib.hid HN; go_enter Tryz.func113, Tryz.ntmps113
  go_wp2
  go_loop [6, 7] (fun n i => ∃ k m : Nat, i = .int .i64 k ∧ n = .int .i64 m ∧ k ≤ l.length ∧ NumTo l k m) (fun _ i => l.length - (intOf i).toNat)
  case atStart => exact ⟨0, 0, rfl, rfl, by omega, NumTo.zero l⟩
  case round =>
    obtain ⟨k, m, rfl, rfl, hk, hm⟩ := hrel; have hml := hm.le; have HM := Lib.hid hm; clear hm; by_cases hlt : k < l.length
    · have W := Lib.hid (fun w => refWorth_any l[k] w)
      have hw9 : worthN l[k] ≤ 99 := (by unfold worthN; have := digitN_le l[k]; split <;> omega); have HB := Lib.hid (HB.out k hlt); have HS := Lib.hid (fun h1 h2 => HM.out.small hlt h1 h2); have HG := Lib.hid (fun h1 h2 => HM.out.big hlt h1 h2); go_wp2_with fail; refine (W.out _).mono ?_; rintro e w1 ⟨rfl, rfl⟩; generalize worthN l[k] = x at *; by_cases hx : x < 10
      · have g1 : decide ((10 : Int) ≤ (x : Int)) = false := by rw [decide_eq_false_iff_not]; omega
        by_cases hm2 : m ≤ 1099511627776
        · have g2 : decide ((m : Int) ≤ 1099511627776) = true := by rw [decide_eq_true_iff]; omega
          go_wp2; go_round
          case rel => exact ⟨k + 1, m * 10 + x, by go_num, by go_num, by omega, HS.out hx hm2⟩
          case measure => simp [intOf]; omega
        · have g2 : decide ((m : Int) ≤ 1099511627776) = false := by rw [decide_eq_false_iff_not]; omega
          go_wp2; go_round
          case rel => exact ⟨k + 1, m, by go_num, rfl, by omega, HG.out hx hm2⟩
          case measure => simp [intOf]; omega
      · have g1 : decide ((10 : Int) ≤ (x : Int)) = true := by rw [decide_eq_true_iff]; omega
        have HR := Lib.hid (HB.out hx); go_wp2; go_ret2; exact ⟨by rw [HR.out]; rfl, rfl⟩
    · have hkl : k = l.length := by omega
      subst hkl; by_cases h0 : l.length = 0
      · have HR := Lib.hid (HN.out (List.eq_nil_of_length_eq_zero h0))
        have g0 : ((l.length : Int) == 0) = true := (by simp; exact List.eq_nil_of_length_eq_zero h0); go_wp2; go_ret2; exact ⟨by rw [HR.out]; rfl, rfl⟩
      · have HR := Lib.hid (HE.out m HM.out (by omega))
        have g0 : ((l.length : Int) == 0) = false := (by rw [beq_eq_false_iff_ne]; omega); by_cases hm2 : m ≤ 1099511627776
        · have g2 : decide ((1099511627776 : Int) < (m : Int)) = false := by rw [decide_eq_false_iff_not]; omega
          have HQ : Hid (r = (m, 0)) := (by show _ = _; rw [HR.out, if_pos hm2]); go_wp2; go_ret2; exact ⟨by rw [HQ.out]; rfl, rfl⟩
        · have g2 : decide ((1099511627776 : Int) < (m : Int)) = true := by rw [decide_eq_true_iff]; omega
          have HQ : Hid (r = (0, 11)) := (by show _ = _; rw [HR.out, if_neg hm2]); go_wp2; go_ret2; exact ⟨by rw [HQ.out]; rfl, rfl⟩
theorem refDecimal_any (l : Bytes) (w : World) (hl : l.length ≤ maxLen) : Calls Tryz.prog 80 #[S l] w fun e w' => e = .returned (.tuple #[.int .i64 ((number 10 l).1 : Nat), .int .i64 ((number 10 l).2 : Nat)]) ∧ w = w' := by
  have C := Lib.hid (fun w => refNumber_any l w hl); generalize number 10 l = r at *; go_enter Tryz.func80, Tryz.ntmps80
  go_wp2_with fail; refine (C.out w).mono ?_; rintro e w1 ⟨rfl, rfl⟩; go_wp2; go_ret2; exact ⟨rfl, rfl⟩
theorem refTime_any (t : Int) (w : World) : Calls Tryz.prog 77 #[.int .i64 t] w fun e w' => e = .returned (.int .i64 (clampT t : Nat)) ∧ w = w' := by
  have H : (t < 0 → (0 : Int) = (clampT t : Nat)) ∧ (1099511627776 < t → (1099511627776 : Int) = (clampT t : Nat)) ∧ (0 ≤ t → t ≤ 1099511627776 → t = (clampT t : Nat)) := (by unfold clampT; omega); generalize clampT t = c at *; have H := Lib.hid H; by_cases h0 : t < 0
  · go_enter Tryz.func77, Tryz.ntmps77
    go_wp2; go_ret; exact ⟨ret_int (H.out.1 h0), rfl⟩
  · by_cases h1 : 1099511627776 < t
    · have g1 : decide ((1099511627776 : Int) < t) = true := by rw [decide_eq_true_iff]; exact h1
      go_enter Tryz.func77, Tryz.ntmps77
      go_wp2; go_ret; exact ⟨ret_int (H.out.2.1 h1), rfl⟩
    · have g1 : decide ((1099511627776 : Int) < t) = false := by rw [decide_eq_false_iff_not]; exact h1
      go_enter Tryz.func77, Tryz.ntmps77
      go_wp2; go_ret; exact ⟨ret_int (H.out.2.2 (by omega) (by omega)), rfl⟩
theorem refTimeB_any (t : Int) (w : World) : Calls Tryz.prog 77 #[.int .i64 t] w fun e w' => e = .returned (.int .i64 (clampT t : Nat)) ∧ Below w.heap.size w w' :=
  (refTime_any t w).mono fun _ _ ⟨h1, h2⟩ => ⟨h1, by subst h2; exact Below.refl _ _⟩
theorem date_one {l : List F} {name x : Bytes} {came : Int} (h : values l name = [x]) : dateI l name came = if parseB x (clampT came : Nat) = true then ((parseF x (clampT came : Nat)).1 : Int) else -1 := by
  unfold dateI; rw [momB_one h, momV_one h]
theorem date_none {l : List F} {name : Bytes} {came : Int} (h : (values l name).length ≠ 1) : dateI l name came = -1 := by
  have e : momB l name came = false := by
    unfold momB
    split
    · rename_i x e; rw [e] at h; simp at h
    · rfl
  unfold dateI; rw [e, if_neg (by simp)]
theorem refDate_any (q : En) (l : List F) (name : Bytes) (w : World) (h : Fs w.heap.size w q.vf l) (hl : fsum l ≤ 1099511627776) (hn : name.length ≤ 1099511627776) :
    Calls Tryz.prog 76 #[q.val, S name] w fun e w' => e = .returned (.int .i64 (dateI l name q.came)) ∧ Below w.heap.size w w' := by
  obtain ⟨pf, cf, hfv, -⟩ := h.form; obtain ⟨key, vp, st, vf, body, asked, came⟩ := q; simp only at hfv h ⊢; subst hfv; have hQ := Blk.new w 36 (En.cells ⟨key, vp, st, .slice pf l.length cf, body, asked, came⟩); have hbx : Below w.heap.size w (w.alloc (.cells (En.cells ⟨key, vp, st, .slice pf l.length cf, body, asked, came⟩) 36)) := (Below.refl _ _).alloc (Nat.le_refl _) _; have h1 := (h.below hbx).mono hbx.size; have HS := ssum_values l name; have HO := Lib.hid (fun x h => date_one (l := l) (name := name) (came := came) (x := x) h); have HN := Lib.hid (fun h => date_none (l := l) (name := name) (came := came) h); generalize dateI l name came = D at *; unfold En.val; go_enter Tryz.func76, Tryz.ntmps76
  go_wp2_with fail; refine (refValues_any l name _ _ h1 hl hn).mono ?_; rintro e w1 ⟨vv, rfl, hvv, hb1⟩; have hr : Ss w1.heap.size w1 vv (values l name) := Ss.own hvv; generalize values l name = vs at *; obtain ⟨pa, ca, rfl, hm⟩ := hr.form; have hw1 := Bl.tr hbx hb1; have hQ1 := hQ.on hb1; clear hvv h1 hQ hbx hb1 h; by_cases hlen : vs.length = 1
  · obtain ⟨x, rfl⟩ : ∃ x, vs = [x] := List.length_eq_one_iff.1 hlen
    have HV := Lib.hid (HO.out x rfl); obtain ⟨b, off, rfl, hbb, c0⟩ := hr.at 0 (by simp); simp at c0
    have hx : x.length ≤ 1099511627776 := (by simp [ssum] at HS; omega); have hpl := parseF_le x (clampT came : Nat) hx; have HI := Lib.hid (parseB_int x (clampT came : Nat)); have C := Lib.hid (fun w => refParse_any x (clampT came : Nat) w hx); generalize parseB x (clampT came : Nat) = pb at *; generalize parseF x (clampT came : Nat) = pr at *; have c6 : w1.cell? ⟨w.heap.size, 6, none⟩ = some (.int .i64 came) := hQ1.cell 6; clear HS hm HO HN hlen; go_wp2_with fail
    go_region_held3 (fun w' => w'.cell? ⟨w.heap.size, 6, none⟩ = some (.int .i64 came) ∧ w'.cell? ⟨b, off, none⟩ = some (S x))
      (first | go_keep)
      (first
        | (go_at_call 77; refine (refTimeB_any came _).mono ?_; rintro e w2 ⟨rfl, hb2⟩; replace hb2 := Bl.undrew hb2; have hr2 := (hr.below hb2).mono hb2.size; have hQ2 := hQ1.on hb2; have hww2 := Bl.tr hw1 hb2; have c62 : w2.cell? ⟨w.heap.size, 6, none⟩ = some (.int .i64 came) := hQ2.cell 6; have c02 : w2.cell? ⟨b, off, none⟩ = some (S x) := by (rw [hb2.cell (p := ⟨b, off, none⟩) hbb]; exact c0); skip)
        | (go_at_call 112; refine (C.out _).mono ?_; rintro e w3 ⟨rfl, hb3⟩; have hww3 := Bl.tr hww2 hb3; have hQ3 := hQ2.on hb3; have c63 : w3.cell? ⟨w.heap.size, 6, none⟩ = some (.int .i64 came) := hQ3.cell 6; have c03 : w3.cell? ⟨b, off, none⟩ = some (S x) := by (rw [hb3.cell (p := ⟨b, off, none⟩) (Nat.lt_of_lt_of_le hbb hb2.size)]; exact c02)))
    cases pb with
    | true =>
      have g : ((pr.2 : Int) != 0) = false := (by rw [bne, HI.out]; rfl); have HV : Hid (D = (pr.1 : Int)) := (by show _ = _; rw [HV.out, if_pos rfl]); go_wp2; go_ret; exact ⟨ret_int HV.out.symm, hww3⟩
    | false =>
      have g : ((pr.2 : Int) != 0) = true := (by rw [bne, HI.out]; rfl); have HV : Hid (D = -1) := (by show _ = _; rw [HV.out, if_neg (by simp)]); go_wp2; go_ret; exact ⟨ret_int HV.out.symm, hww3⟩
  · have HV := Lib.hid (HN.out hlen)
    have g : ((vs.length : Int) == 1) = false := (by rw [beq_eq_false_iff_ne]; omega); have g2 : ((vs.length : Int) != 1) = true := (by rw [bne, g]; rfl); clear HS HO HN hlen; generalize vs.length = n at *; go_wp2; go_ret; exact ⟨ret_int HV.out.symm, hw1⟩
end Go.Proofs.YtahapblgmehngaaGreatDoor
namespace Go.Dr
def isDir (name s : Bytes) : Bool := (directive s).2.2 && ((directive s).1 == name)
def dirNum (bare : Nat) (s : Bytes) : Nat := if (directive s).2.1 = [] then bare else numArg (directive s).2.1
def numsF (all : List Bytes) (name : Bytes) (bare : Nat) : List Nat := (all.filter (isDir name)).map (dirNum bare)
def endStep (g : Bool) (n : Int) (x : Nat) : Int := if n < 0 ∨ g = decide (n < (x : Int)) then (x : Int) else n
def endF (l : List Nat) (g : Bool) : Int := l.foldl (endStep g) (-1)
def namedF (all : List Bytes) (name : Bytes) : Bool := decide (0 < (numsF all name 0).length)
theorem numsF_snoc (all : List Bytes) (name : Bytes) (bare k : Nat) (h : k < all.length) : numsF (all.take (k + 1)) name bare = numsF (all.take k) name bare ++ (if isDir name all[k] = true then [dirNum bare all[k]] else []) := by
  unfold numsF; rw [take_snoc all k h, List.filter_append, List.map_append]
  congr 1
  by_cases hs : isDir name all[k] = true <;> simp [hs]
theorem numsF_length (all : List Bytes) (name : Bytes) (bare : Nat) : (numsF all name bare).length ≤ all.length := by
  unfold numsF; rw [List.length_map]; exact List.length_filter_le _ _
theorem dirNum_le (bare : Nat) (s : Bytes) (h : bare ≤ 1099511627776) : dirNum bare s ≤ 1099511627776 := by
  unfold dirNum; split
  · exact h
  · exact numArg_le _
theorem numsF_le {all : List Bytes} {name : Bytes} {bare : Nat} (hb : bare ≤ 1099511627776) : ∀ x ∈ numsF all name bare, x ≤ 1099511627776 := by
  intro x hx; unfold numsF at hx; rw [List.mem_map] at hx; obtain ⟨s, _, rfl⟩ := hx; exact dirNum_le bare s hb
theorem endF_snoc (l : List Nat) (g : Bool) (k : Nat) (h : k < l.length) : endF (l.take (k + 1)) g = endStep g (endF (l.take k) g) l[k] := by
  rw [take_snoc l k h]; simp only [endF, List.foldl_append, List.foldl_cons, List.foldl_nil]
theorem endF_bound (l : List Nat) (g : Bool) (h : ∀ x ∈ l, x ≤ 1099511627776) : ∀ k, -1 ≤ endF (l.take k) g ∧ endF (l.take k) g ≤ 1099511627776 := by
  intro k
  induction k with
  | zero => simp [endF]
  | succ k ih =>
    by_cases hk : k < l.length
    · rw [endF_snoc l g k hk]
      have := h _ (List.getElem_mem hk)
      unfold endStep
      split <;> omega
    · rw [List.take_of_length_le (by omega)] at ih ⊢; exact ih
theorem says_part (n a : Bytes) : (ctlSays n a).ns = (n == noStore) ∧ (ctlSays n a).nc = (n == noCache) ∧ (ctlSays n a).nt = (n == noTransform) ∧ (ctlSays n a).pu = (n == pubName) ∧ (ctlSays n a).pr = (n == privName) ∧ (ctlSays n a).mr = (n == mustRe) ∧ (ctlSays n a).px = (n == proxyRe) ∧ (ctlSays n a).oi = (n == onlyIf)
    ∧ (ctlSays n a).ma = (if n = maxAge then (numArg a : Int) else -1) ∧ (ctlSays n a).sm = (if n = sMaxage then (numArg a : Int) else -1) ∧ (ctlSays n a).mf = (if n = minFresh then (numArg a : Int) else -1) ∧ (ctlSays n a).ms = (if n = maxStale then ((if a = [] then greatest else numArg a : Nat) : Int) else -1) := by
  by_cases h1 : n = noStore
  · subst h1; unfold ctlSays; rw [if_pos rfl]; exact ⟨by decide, by decide, by decide, by decide, by decide, by decide, by decide, by decide, by rw [if_neg (by decide)]; rfl, by rw [if_neg (by decide)]; rfl, by rw [if_neg (by decide)]; rfl, by rw [if_neg (by decide)]; rfl⟩
  by_cases h2 : n = noCache
  · subst h2; unfold ctlSays; rw [if_neg h1, if_pos rfl]; exact ⟨by decide, by decide, by decide, by decide, by decide, by decide, by decide, by decide, by rw [if_neg (by decide)]; rfl, by rw [if_neg (by decide)]; rfl, by rw [if_neg (by decide)]; rfl, by rw [if_neg (by decide)]; rfl⟩
  by_cases h3 : n = noTransform
  · subst h3; unfold ctlSays; rw [if_neg h1, if_neg h2, if_pos rfl]; exact ⟨by decide, by decide, by decide, by decide, by decide, by decide, by decide, by decide, by rw [if_neg (by decide)]; rfl, by rw [if_neg (by decide)]; rfl, by rw [if_neg (by decide)]; rfl, by rw [if_neg (by decide)]; rfl⟩
  by_cases h4 : n = pubName
  · subst h4; unfold ctlSays; rw [if_neg h1, if_neg h2, if_neg h3, if_pos rfl]; exact ⟨by decide, by decide, by decide, by decide, by decide, by decide, by decide, by decide, by rw [if_neg (by decide)]; rfl, by rw [if_neg (by decide)]; rfl, by rw [if_neg (by decide)]; rfl, by rw [if_neg (by decide)]; rfl⟩
  by_cases h5 : n = privName
  · subst h5; unfold ctlSays; rw [if_neg h1, if_neg h2, if_neg h3, if_neg h4, if_pos rfl]; exact ⟨by decide, by decide, by decide, by decide, by decide, by decide, by decide, by decide, by rw [if_neg (by decide)]; rfl, by rw [if_neg (by decide)]; rfl, by rw [if_neg (by decide)]; rfl, by rw [if_neg (by decide)]; rfl⟩
  by_cases h6 : n = mustRe
  · subst h6; unfold ctlSays; rw [if_neg h1, if_neg h2, if_neg h3, if_neg h4, if_neg h5, if_pos rfl]; exact ⟨by decide, by decide, by decide, by decide, by decide, by decide, by decide, by decide, by rw [if_neg (by decide)]; rfl, by rw [if_neg (by decide)]; rfl, by rw [if_neg (by decide)]; rfl, by rw [if_neg (by decide)]; rfl⟩
  by_cases h7 : n = proxyRe
  · subst h7; unfold ctlSays; rw [if_neg h1, if_neg h2, if_neg h3, if_neg h4, if_neg h5, if_neg h6, if_pos rfl]; exact ⟨by decide, by decide, by decide, by decide, by decide, by decide, by decide, by decide, by rw [if_neg (by decide)]; rfl, by rw [if_neg (by decide)]; rfl, by rw [if_neg (by decide)]; rfl, by rw [if_neg (by decide)]; rfl⟩
  by_cases h8 : n = onlyIf
  · subst h8; unfold ctlSays; rw [if_neg h1, if_neg h2, if_neg h3, if_neg h4, if_neg h5, if_neg h6, if_neg h7, if_pos rfl]; exact ⟨by decide, by decide, by decide, by decide, by decide, by decide, by decide, by decide, by rw [if_neg (by decide)]; rfl, by rw [if_neg (by decide)]; rfl, by rw [if_neg (by decide)]; rfl, by rw [if_neg (by decide)]; rfl⟩
  have b1 : (n == noStore) = false := (by simpa using h1); have b2 : (n == noCache) = false := (by simpa using h2); have b3 : (n == noTransform) = false := (by simpa using h3); have b4 : (n == pubName) = false := (by simpa using h4); have b5 : (n == privName) = false := (by simpa using h5); have b6 : (n == mustRe) = false := (by simpa using h6); have b7 : (n == proxyRe) = false := (by simpa using h7); have b8 : (n == onlyIf) = false := (by simpa using h8); unfold ctlSays; rw [if_neg h1, if_neg h2, if_neg h3, if_neg h4, if_neg h5, if_neg h6, if_neg h7, if_neg h8, b1, b2, b3, b4, b5, b6, b7, b8]; by_cases h9 : n = maxAge
  · subst h9
    rw [if_pos rfl, if_pos rfl, if_neg (show ¬ maxAge = sMaxage by decide), if_neg (show ¬ maxAge = minFresh by decide), if_neg (show ¬ maxAge = maxStale by decide)]; exact ⟨rfl, rfl, rfl, rfl, rfl, rfl, rfl, rfl, rfl, rfl, rfl, rfl⟩
  by_cases h10 : n = sMaxage
  · subst h10
    rw [if_neg h9, if_neg h9, if_pos rfl, if_pos rfl, if_neg (show ¬ sMaxage = minFresh by decide), if_neg (show ¬ sMaxage = maxStale by decide)]; exact ⟨rfl, rfl, rfl, rfl, rfl, rfl, rfl, rfl, rfl, rfl, rfl, rfl⟩
  by_cases h11 : n = minFresh
  · subst h11
    rw [if_neg h9, if_neg h9, if_neg h10, if_neg h10, if_pos rfl, if_pos rfl, if_neg (show ¬ minFresh = maxStale by decide)]; exact ⟨rfl, rfl, rfl, rfl, rfl, rfl, rfl, rfl, rfl, rfl, rfl, rfl⟩
  by_cases h12 : n = maxStale
  · subst h12
    rw [if_neg h9, if_neg h9, if_neg h10, if_neg h10, if_neg h11, if_neg h11, if_pos rfl, if_pos rfl]; exact ⟨rfl, rfl, rfl, rfl, rfl, rfl, rfl, rfl, rfl, rfl, rfl, by show (if a = [] then (greatest : Int) else (numArg a : Int)) = _; split <;> rfl⟩
  rw [if_neg h9, if_neg h9, if_neg h10, if_neg h10, if_neg h11, if_neg h11, if_neg h12, if_neg h12]; exact ⟨rfl, rfl, rfl, rfl, rfl, rfl, rfl, rfl, rfl, rfl, rfl, rfl⟩
theorem numArg_nil : numArg [] = 0 := by decide
theorem dirNum_zero (s : Bytes) : dirNum 0 s = numArg (directive s).2.1 := by
  unfold dirNum; split
  · rename_i h; rw [h, numArg_nil]
  · rfl
theorem dirNum_great (s : Bytes) : dirNum 1099511627776 s = (if (directive s).2.1 = [] then greatest else numArg (directive s).2.1 : Nat) := rfl
theorem of_part (s : Bytes) : (ctlOf s).ns = isDir noStore s ∧ (ctlOf s).nc = isDir noCache s ∧ (ctlOf s).nt = isDir noTransform s ∧ (ctlOf s).pu = isDir pubName s ∧ (ctlOf s).pr = isDir privName s ∧ (ctlOf s).mr = isDir mustRe s ∧ (ctlOf s).px = isDir proxyRe s ∧ (ctlOf s).oi = isDir onlyIf s
    ∧ (ctlOf s).ma = (if isDir maxAge s = true then (dirNum 0 s : Int) else -1) ∧ (ctlOf s).sm = (if isDir sMaxage s = true then (dirNum 0 s : Int) else -1) ∧ (ctlOf s).mf = (if isDir minFresh s = true then (dirNum 0 s : Int) else -1) ∧ (ctlOf s).ms = (if isDir maxStale s = true then (dirNum 1099511627776 s : Int) else -1) := by
  rw [dirNum_zero, dirNum_great]; unfold ctlOf isDir
  cases h : (directive s).2.2
  · simp [Ctl.none]
  · simp only [if_true, Bool.true_and, beq_iff_eq]
    exact says_part _ _
theorem fold_flag (P : Bytes → Bool) (get : Ctl → Bool) (hj : ∀ a b : Ctl, get (a.join b) = (get a || get b)) (h0 : get Ctl.none = false) (hs : ∀ s, get (ctlOf s) = P s) (l : List Bytes) : get (ctlAll l) = l.any P := by
  have : ∀ (l : List Bytes) (c : Ctl), get (l.foldl (fun c s => c.join (ctlOf s)) c) = (get c || l.any P) := by
    intro l
    induction l with
    | nil => intro c; simp
    | cons s l ih => intro c; rw [List.foldl_cons, ih, hj, hs, List.any_cons, Bool.or_assoc]
  have := this l Ctl.none
  rw [h0, Bool.false_or] at this; exact this
theorem any_named (l : List Bytes) (name : Bytes) : l.any (isDir name) = namedF l name := by
  unfold namedF numsF; rw [List.length_map, Bool.eq_iff_iff, List.any_eq_true, decide_eq_true_iff, List.length_pos_iff_exists_mem]
  constructor
  · rintro ⟨x, h1, h2⟩; exact ⟨x, List.mem_filter.2 ⟨h1, h2⟩⟩
  · rintro ⟨x, h⟩; exact ⟨x, (List.mem_filter.1 h).1, (List.mem_filter.1 h).2⟩
theorem endStep_least (n : Int) (x : Nat) : endStep false n x = least n (x : Int) := by
  unfold endStep least; by_cases h : n < 0
  · rw [if_pos (.inl h), if_pos h]
  · rw [if_neg h, if_neg (by omega : ¬ (x : Int) < 0)]
    by_cases h2 : n ≤ (x : Int)
    · rw [if_pos h2]
      by_cases h3 : n < (x : Int)
      · rw [if_neg (by simp [h, h3])]
      · rw [if_pos (.inr (by simp [h3]))]; omega
    · rw [if_neg h2, if_pos (.inr (by simp; omega))]
theorem endStep_most (n : Int) (x : Nat) : endStep true n x = most n (x : Int) := by
  unfold endStep most; by_cases h2 : n ≤ (x : Int)
  · rw [if_pos h2]
    by_cases h : n < 0
    · rw [if_pos (.inl h)]
    · by_cases h3 : n < (x : Int)
      · rw [if_pos (.inr (by simp [h3]))]
      · rw [if_neg (by simp [h, h3])]; omega
  · rw [if_neg h2, if_neg (by simp; omega)]
theorem fold_num (name : Bytes) (bare : Nat) (g : Bool) (get : Ctl → Int) (J : Int → Int → Int) (hJ : ∀ n (x : Nat), endStep g n x = J n x) (hJ0 : ∀ n, -1 ≤ n → J n (-1) = n) (hj : ∀ a b : Ctl, get (a.join b) = J (get a) (get b)) (h0 : get Ctl.none = -1) (hb : bare ≤ 1099511627776)
    (hs : ∀ s, get (ctlOf s) = if isDir name s = true then (dirNum bare s : Int) else -1) (l : List Bytes) : get (ctlAll l) = endF (numsF l name bare) g := by
  have key : ∀ (l : List Bytes) (c : Ctl), -1 ≤ get c → get (l.foldl (fun c s => c.join (ctlOf s)) c) = (numsF l name bare).foldl (endStep g) (get c) := by
    intro l
    induction l with
    | nil => intro c _; rfl
    | cons s l ih =>
      intro c hc; rw [List.foldl_cons]; by_cases h : isDir name s = true
      · have e : get (c.join (ctlOf s)) = endStep g (get c) (dirNum bare s) := by rw [hj, hs, if_pos h, hJ]
        have e2 : numsF (s :: l) name bare = dirNum bare s :: numsF l name bare := (by simp [numsF, h]); rw [ih _ (by rw [e]; unfold endStep; split <;> omega), e, e2, List.foldl_cons]
      · have e : get (c.join (ctlOf s)) = get c := by rw [hj, hs, if_neg h, hJ0 _ hc]
        have e2 : numsF (s :: l) name bare = numsF l name bare := (by simp [numsF, h]); rw [ih _ (by rw [e]; exact hc), e, e2]
  have := key l Ctl.none (by rw [h0]; omega)
  rw [h0] at this; exact this
def readR (all : List Bytes) : Ctl :=
  ⟨namedF all noStore, namedF all noCache, namedF all noTransform, namedF all pubName, namedF all privName, namedF all mustRe, namedF all proxyRe, namedF all onlyIf,
    endF (numsF all maxAge 0) false, endF (numsF all sMaxage 0) false, endF (numsF all minFresh 0) true, endF (numsF all maxStale 1099511627776) false⟩
theorem readR_eq (all : List Bytes) : readR all = ctlAll all := by
  have f1 := fold_flag (isDir noStore) Ctl.ns (fun _ _ => rfl) rfl (fun s => (of_part s).1) all; have f2 := fold_flag (isDir noCache) Ctl.nc (fun _ _ => rfl) rfl (fun s => (of_part s).2.1) all; have f3 := fold_flag (isDir noTransform) Ctl.nt (fun _ _ => rfl) rfl (fun s => (of_part s).2.2.1) all; have f4 := fold_flag (isDir pubName) Ctl.pu (fun _ _ => rfl) rfl (fun s => (of_part s).2.2.2.1) all; have f5 := fold_flag (isDir privName) Ctl.pr (fun _ _ => rfl) rfl (fun s => (of_part s).2.2.2.2.1) all; have f6 := fold_flag (isDir mustRe) Ctl.mr (fun _ _ => rfl) rfl (fun s => (of_part s).2.2.2.2.2.1) all; have f7 := fold_flag (isDir proxyRe) Ctl.px (fun _ _ => rfl) rfl (fun s => (of_part s).2.2.2.2.2.2.1) all; have f8 := fold_flag (isDir onlyIf) Ctl.oi (fun _ _ => rfl) rfl (fun s => (of_part s).2.2.2.2.2.2.2.1) all; have n1 := fold_num maxAge 0 false Ctl.ma least endStep_least (fun n h => least_none' n h) (fun _ _ => rfl) rfl (by decide) (fun s => (of_part s).2.2.2.2.2.2.2.2.1) all; have n2 := fold_num sMaxage 0 false Ctl.sm least endStep_least (fun n h => least_none' n h) (fun _ _ => rfl) rfl (by decide) (fun s => (of_part s).2.2.2.2.2.2.2.2.2.1) all; have n3 := fold_num minFresh 0 true Ctl.mf most endStep_most (fun n h => most_none n h) (fun _ _ => rfl) rfl (by decide) (fun s => (of_part s).2.2.2.2.2.2.2.2.2.2.1) all; have n4 := fold_num maxStale 1099511627776 false Ctl.ms least endStep_least (fun n h => least_none' n h) (fun _ _ => rfl) rfl (by decide) (fun s => (of_part s).2.2.2.2.2.2.2.2.2.2.2) all; rw [any_named] at f1 f2 f3 f4 f5 f6 f7 f8; unfold readR; rw [← f1, ← f2, ← f3, ← f4, ← f5, ← f6, ← f7, ← f8, ← n1, ← n2, ← n3, ← n4]
end Go.Dr

