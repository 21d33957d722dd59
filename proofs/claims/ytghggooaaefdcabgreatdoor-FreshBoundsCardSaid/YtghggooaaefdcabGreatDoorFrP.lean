
/- What layer 18 says of requests and answers, as plain functions, and the plain laws of its statements: no program in sight. -/
import Derived.Test.YtghggooaaefdcabGreatDoorPla
import Derived.Test.YtghggooaaefdcabGreatDoorDig
namespace Go.Dr

def pragmaT : Bytes := [112, 114, 97, 103, 109, 97]
/-- What a request says of keeping. -/
def pragB (l : List F) : Bool := !decide (0 < (values l cacheControl).length) && (allOf l pragmaT).any fun x => same x noCache
def saysC (l : List F) : Ctl := if pragB l = true then { readC l with nc := true } else readC l
theorem saysC_ok (l : List F) : (saysC l).ok := by
  unfold saysC
  split
  · exact readC_ok l
  · exact readC_ok l
/-- Is a kept answer good? -/
def goodB (a b : Ctl) (life age : Nat) : Bool :=
  if (a.nc || b.nc) = true ∨ (0 ≤ a.ma ∧ a.ma < (age : Int)) ∨ (0 ≤ a.mf ∧ (life : Int) - age < a.mf) then false
  else if age < life then true
  else decide (0 ≤ a.ms ∧ (age : Int) - life ≤ a.ms) && !b.mr && !b.px && decide (b.sm < 0)
def goodF (lr lf : List F) (st asked came now : Int) : Bool := goodB (saysC lr) (readC lf) (lifeF lf st came) (ageF lf asked came now)

/-- A request's or an answer's own word against it, or too great an age. -/
def GoodNo (a b : Ctl) (life age : Nat) : Prop := a.nc = true ∨ b.nc = true ∨ (0 ≤ a.ma ∧ a.ma < (age : Int)) ∨ (0 ≤ a.mf ∧ (life : Int) - age < a.mf)
instance (a b : Ctl) (life age : Nat) : Decidable (GoodNo a b life age) := by unfold GoodNo; infer_instance
theorem goodNo_iff (a b : Ctl) (life age : Nat) : ((a.nc || b.nc) = true ∨ (0 ≤ a.ma ∧ a.ma < (age : Int)) ∨ (0 ≤ a.mf ∧ (life : Int) - age < a.mf)) ↔ GoodNo a b life age := by
  unfold GoodNo
  simp only [Bool.or_eq_true, or_assoc]
theorem good_no {a b : Ctl} {life age : Nat} (h : GoodNo a b life age) : goodB a b life age = false := by
  unfold goodB; rw [if_pos ((goodNo_iff a b life age).2 h)]
theorem good_new {a b : Ctl} {life age : Nat} (h : ¬ GoodNo a b life age) (h2 : age < life) : goodB a b life age = true := by
  unfold goodB; rw [if_neg (fun e => h ((goodNo_iff a b life age).1 e)), if_pos h2]
theorem good_old {a b : Ctl} {life age : Nat} (h : ¬ GoodNo a b life age) (h2 : ¬ age < life) : goodB a b life age = (decide (0 ≤ a.ms ∧ (age : Int) - life ≤ a.ms) && !b.mr && !b.px && decide (b.sm < 0)) := by
  unfold goodB; rw [if_neg (fun e => h ((goodNo_iff a b life age).1 e)), if_neg h2]

/-- As time goes on, the age goes on as much. -/
theorem age_on (l : List F) (asked came : Int) (now n : Nat) (h : clampT came ≤ now) (h2 : now + n ≤ 1099511627776) :
    ageF l asked came ((now + n : Nat) : Int) = min 1099511627776 (ageF l asked came (now : Int) + n) := by
  unfold ageF
  rw [clampT_same _ h2, clampT_same now (by omega)]
  generalize max (appF l came) (toldF l + (clampT came - clampT asked)) = m
  omega
/-- What isn't good any more is never good again. -/
theorem good_on {a b : Ctl} {life age age' : Nat} (h : age ≤ age') (hg : goodB a b life age = false) : goodB a b life age' = false := by
  by_cases hc : goodB a b life age' = true
  · exfalso
    rw [← Bool.not_eq_true] at hg
    apply hg
    unfold goodB at hc ⊢
    split at hc
    · cases hc
    · rename_i h1
      rw [if_neg (by
        intro e
        apply h1
        rcases e with e | e | e
        · exact .inl e
        · exact .inr (.inl ⟨e.1, by omega⟩)
        · exact .inr (.inr ⟨e.1, by omega⟩))]
      split at hc
      · rw [if_pos (by omega)]
      · by_cases h3 : age < life
        · rw [if_pos h3]
        · rw [if_neg h3]
          simp only [Bool.and_eq_true, decide_eq_true_iff] at hc ⊢
          exact ⟨⟨⟨⟨hc.1.1.1.1, by omega⟩, hc.1.1.2⟩, hc.1.2⟩, hc.2⟩
  · simpa using hc

/-- A text without quotes, commas and blanks is one element. -/
theorem el_all (l : Bytes) : ∀ s : Bytes, (∀ c ∈ l, c ≠ 34 ∧ c ≠ 44) → el false false s l = fin (s ++ l) := by
  induction l with
  | nil => intro s _; simp [el]
  | cons c r ih =>
    intro s h
    have hc := h c (by simp)
    have := ih (s ++ [c]) (fun d hd => h d (by simp [hd]))
    simp [el, hc.1, hc.2, this]
theorem trim_same (l : Bytes) (h : ∀ c ∈ l, isBlank c = false) : trim l = l := by
  unfold trim
  rw [trimL_no l (fun hl => h _ (List.getElem_mem hl)), trimR_no l (fun hl => h _ (List.getElem_mem (by omega)))]
theorem elems_one (l : Bytes) (hne : l ≠ []) (h : ∀ c ∈ l, c ≠ 34 ∧ c ≠ 44 ∧ c ≠ 32 ∧ c ≠ 9) : elems l = [l] := by
  have ht := trim_same l (fun c hc => by have := h c hc; simp [isBlank, this.2.2.1, this.2.2.2])
  unfold elems
  rw [el_all l [] (fun c hc => ⟨(h c hc).1, (h c hc).2.1⟩), List.nil_append, fin, ht, if_neg hne]

theorem digs_ne (n : Nat) : digs n ≠ [] := by
  by_cases h : n < 10
  · rw [digs_small h]; simp
  · rw [digs_step h]; simp
theorem digs_all (n : Nat) : ∀ c ∈ digs n, 48 ≤ c.toNat ∧ c.toNat ≤ 57 := by
  induction n using Nat.strongRecOn with
  | _ n ih =>
    intro c hc
    by_cases h : n < 10
    · rw [digs_small h] at hc
      simp only [List.mem_singleton] at hc
      subst hc
      rw [dg_nat]; omega
    · rw [digs_step h, List.mem_append] at hc
      rcases hc with hc | hc
      · exact ih (n / 10) (by omega) c hc
      · simp only [List.mem_singleton] at hc
        subst hc
        rw [dg_nat]; omega
theorem numTo_digs (n : Nat) : numTo 10 (digs n) = n := by
  have hd : ∀ m, digitN (dg m) = m % 10 := fun m => by
    unfold digitN
    rw [if_pos (by rw [dg_nat]; omega), dg_nat]; omega
  induction n using Nat.strongRecOn with
  | _ n ih =>
    by_cases h : n < 10
    · rw [digs_small h]
      show 0 * 10 + digitN (dg n) = n
      rw [hd]; omega
    · rw [digs_step h]
      have := ih (n / 10) (by omega)
      unfold numTo at this ⊢
      rw [List.foldl_append, this]
      show n / 10 * 10 + digitN (dg n) = n
      rw [hd]; omega
theorem numArg_digs (n : Nat) (h : n ≤ 1099511627776) : numArg (digs n) = n := by
  have e : number 10 (digs n) = (n, 0) := by
    unfold number
    rw [numTo_digs, if_neg, if_pos (by unfold greatest; exact h)]
    simp only [Bool.or_eq_true, List.isEmpty_iff, digs_ne, false_or, Bool.not_eq_true', Bool.not_eq_false, List.all_eq_true, decide_eq_true_iff]
    intro c hc
    have := digs_all n c hc
    unfold digitN
    rw [if_pos ⟨this.1, this.2⟩]; omega
  unfold numArg
  rw [e]; simp
theorem prefix_digs (n : Nat) : Lib.hasPrefix (digs n) [34] = false := by
  have h := digs_all n
  cases hd : digs n with
  | nil => rfl
  | cons c r =>
    rw [hd] at h
    have := h c (by simp)
    have hc : c ≠ 34 := by intro e; subst e; simp at this
    simp [Lib.hasPrefix, List.isPrefixOf, Ne.symm hc]
/-- 'name=number' as a directive. -/
theorem directive_num (nm : Bytes) (n : Nat) (hn : nm.all tokB = true) (hl : low nm = nm) (hne : nm ≠ []) (h61 : ∀ c ∈ nm, c ≠ 61) : directive (nm ++ 61 :: digs n) = (nm, digs n, true) := by
  have e1 : eqName (nm ++ 61 :: digs n) = nm := by
    unfold eqName
    rw [List.takeWhile_append_of_pos (by intro c hc; simpa using h61 c hc)]
    simp
  have e2 : eqArg (nm ++ 61 :: digs n) = digs n := by
    unfold eqArg
    rw [List.dropWhile_append_of_pos (by intro c hc; simpa using h61 c hc)]
    simp
  unfold directive
  rw [e1, e2, prefix_digs, if_pos (by simp [token, hn, hne]), hl]
  simp
theorem elems_num (nm : Bytes) (n : Nat) (h : ∀ c ∈ nm, c ≠ 34 ∧ c ≠ 44 ∧ c ≠ 32 ∧ c ≠ 9) : elems (nm ++ 61 :: digs n) = [nm ++ 61 :: digs n] := by
  refine elems_one _ (by simp) (fun c hc => ?_)
  rw [List.mem_append, List.mem_cons] at hc
  rcases hc with hc | hc | hc
  · exact h c hc
  · subst hc; decide
  · have := digs_all n c hc
    refine ⟨?_, ?_, ?_, ?_⟩ <;> (intro e; subst e; simp at this)
theorem readC_one (v : Bytes) (h : elems v = [v]) : readC [⟨cacheControl, v, false⟩] = ctlOf v := by
  have e : allOf [⟨cacheControl, v, false⟩] cacheControl = [v] := by
    have hs : same cacheControl cacheControl = true := by decide
    simp [allOf, values, hs, h]
  unfold readC
  rw [e]
  show Ctl.none.join (ctlOf v) = ctlOf v
  exact none_join (ctlOf_ok v)
theorem saysC_one (v : Bytes) (h : elems v = [v]) : saysC [⟨cacheControl, v, false⟩] = ctlOf v := by
  have hs : same cacheControl cacheControl = true := by decide
  have e : pragB [⟨cacheControl, v, false⟩] = false := by simp [pragB, values, hs]
  unfold saysC
  rw [e, if_neg (by simp), readC_one v h]
def noCacheF : List F := [⟨cacheControl, noCache, false⟩]
theorem says_noCache : saysC noCacheF = { Ctl.none with nc := true } := by decide +kernel
theorem says_maxAge (n : Nat) (h : n ≤ 1099511627776) : saysC [⟨cacheControl, maxAge ++ 61 :: digs n, false⟩] = { Ctl.none with ma := n } := by
  rw [saysC_one _ (elems_num _ _ (by decide)), ctlOf, directive_num _ _ (by decide) (by decide) (by decide) (by decide)]
  simp only [if_true]
  have : ctlSays maxAge (digs n) = { Ctl.none with ma := numArg (digs n) } := by
    unfold ctlSays
    simp only [show ¬ maxAge = noStore by decide, show ¬ maxAge = noCache by decide, show ¬ maxAge = noTransform by decide, show ¬ maxAge = pubName by decide, show ¬ maxAge = privName by decide, show ¬ maxAge = mustRe by decide, show ¬ maxAge = proxyRe by decide, show ¬ maxAge = onlyIf by decide, if_false, if_true]
  rw [this, numArg_digs n h]
theorem says_minFresh (n : Nat) (h : n ≤ 1099511627776) : saysC [⟨cacheControl, minFresh ++ 61 :: digs n, false⟩] = { Ctl.none with mf := n } := by
  rw [saysC_one _ (elems_num _ _ (by decide)), ctlOf, directive_num _ _ (by decide) (by decide) (by decide) (by decide)]
  simp only [if_true]
  have : ctlSays minFresh (digs n) = { Ctl.none with mf := numArg (digs n) } := by
    unfold ctlSays
    simp only [show ¬ minFresh = noStore by decide, show ¬ minFresh = noCache by decide, show ¬ minFresh = noTransform by decide, show ¬ minFresh = pubName by decide, show ¬ minFresh = privName by decide, show ¬ minFresh = mustRe by decide, show ¬ minFresh = proxyRe by decide, show ¬ minFresh = onlyIf by decide, show ¬ minFresh = maxAge by decide, show ¬ minFresh = sMaxage by decide, if_false, if_true]
  rw [this, numArg_digs n h]
theorem says_maxStale (n : Nat) (h : n ≤ 1099511627776) : saysC [⟨cacheControl, maxStale ++ 61 :: digs n, false⟩] = { Ctl.none with ms := n } := by
  rw [saysC_one _ (elems_num _ _ (by decide)), ctlOf, directive_num _ _ (by decide) (by decide) (by decide) (by decide)]
  simp only [if_true]
  have : ctlSays maxStale (digs n) = { Ctl.none with ms := numArg (digs n) } := by
    unfold ctlSays
    simp only [show ¬ maxStale = noStore by decide, show ¬ maxStale = noCache by decide, show ¬ maxStale = noTransform by decide, show ¬ maxStale = pubName by decide, show ¬ maxStale = privName by decide, show ¬ maxStale = mustRe by decide, show ¬ maxStale = proxyRe by decide, show ¬ maxStale = onlyIf by decide, show ¬ maxStale = maxAge by decide, show ¬ maxStale = sMaxage by decide, show ¬ maxStale = minFresh by decide, if_false, if_true, digs_ne]
  rw [this, numArg_digs n h]
def mostAgeF : List F := [⟨cacheControl, [109, 97, 120, 45, 97, 103, 101, 61, 49, 48, 57, 57, 53, 49, 49, 54, 50, 55, 55, 55, 54], false⟩]
theorem says_most : saysC mostAgeF = { Ctl.none with ma := 1099511627776 } := by decide +kernel
theorem says_nil : saysC [] = Ctl.none := by decide +kernel

/-- What a request asks holds. -/
theorem asks_law (b : Ctl) (life age n : Nat) :
    goodB { Ctl.none with nc := true } b life age = false ∧ (goodB { Ctl.none with ma := (n : Int) } b life age = true → (age : Int) ≤ n) ∧ (goodB { Ctl.none with mf := (n : Int) } b life age = true → (n : Int) ≤ (life : Int) - age)
    ∧ (goodB { Ctl.none with ms := (n : Int) } b life age = true → (age : Int) - life ≤ n) := by
  refine ⟨?_, ?_, ?_, ?_⟩
  · unfold goodB; rw [if_pos (.inl (by simp))]
  · intro h; unfold goodB at h; split at h
    · cases h
    · rename_i h1
      by_cases hh : (age : Int) ≤ n
      · exact hh
      · exact absurd (.inr (.inl ⟨by show (0 : Int) ≤ n; omega, by show (n : Int) < age; omega⟩)) h1
  · intro h; unfold goodB at h; split at h
    · cases h
    · rename_i h1
      by_cases hh : (n : Int) ≤ (life : Int) - age
      · exact hh
      · exact absurd (.inr (.inr ⟨by show (0 : Int) ≤ n; omega, by show (life : Int) - age < n; omega⟩)) h1
  · intro h; unfold goodB at h; split at h
    · cases h
    · split at h
      · omega
      · simp only [Bool.and_eq_true, decide_eq_true_iff] at h
        exact h.1.1.1.2
theorem plain_law (b : Ctl) (life age n : Nat) (ha : age ≤ 1099511627776) (h : goodB Ctl.none b life age = true) : age < life ∧ goodB { Ctl.none with ms := (n : Int) } b life age = true ∧ goodB { Ctl.none with ma := 1099511627776 } b life age = true := by
  unfold goodB at h
  split at h
  · cases h
  · rename_i h1
    split at h
    · rename_i h2
      have hb : ¬ b.nc = true := fun e => h1 (.inl (by simp [e]))
      refine ⟨h2, ?_, ?_⟩
      · unfold goodB
        rw [if_neg, if_pos h2]
        rintro (e | e | e)
        · simp [Ctl.none, hb] at e
        · simp [Ctl.none] at e
        · simp [Ctl.none] at e
      · unfold goodB
        rw [if_neg, if_pos h2]
        rintro (e | e | e)
        · simp [Ctl.none, hb] at e
        · simp at e; omega
        · simp [Ctl.none] at e
    · simp [Ctl.none] at h

/-- A directive more. -/
theorem readC_flag2 (k : Nat) (hk : k < 8) : readC [⟨cacheControl, flagName k, false⟩] = Ctl.none.flag k := by
  match k, hk with
  | 0, _ => decide +kernel
  | 1, _ => decide +kernel
  | 2, _ => decide +kernel
  | 3, _ => decide +kernel
  | 4, _ => decide +kernel
  | 5, _ => decide +kernel
  | 6, _ => decide +kernel
  | 7, _ => decide +kernel
theorem readC_adds2 (l : List F) (k : Nat) (hk : k < 8) : readC (l ++ [⟨cacheControl, flagName k, false⟩]) = (readC l).flag k := by
  rw [readC_append, readC_flag2 k hk, join_flag (readC_ok l) k hk]
theorem good_must {a b : Ctl} {life age : Nat} (hb : b.mr = true) (h : goodB a b life age = true) : age < life := by
  unfold goodB at h
  split at h
  · cases h
  · split at h
    · assumption
    · simp [hb] at h
theorem good_noCache {a b : Ctl} {life age : Nat} (hb : b.nc = true) : goodB a b life age = false := by
  unfold goodB; rw [if_pos (.inl (by simp [hb]))]

/-- May an answer be kept? -/
def expiresT : Bytes := [101, 120, 112, 105, 114, 101, 115]
def authT : Bytes := [97, 117, 116, 104, 111, 114, 105, 122, 97, 116, 105, 111, 110]
end Go.Dr
