/- Parts of the proof of DealAsks_holds: the texts RfP. -/
import Derived.Test.YtahapblgmehngaaGreatDoorA5
set_option linter.unusedSimpArgs false
set_option linter.unusedVariables false
set_option linter.unnecessarySimpa false
namespace Go.Dr

/-- Is a text a directive of a name? its number; the numbers of the directives of a name. -/
def isDir (name s : Bytes) : Bool := (directive s).2.2 && ((directive s).1 == name)
def dirNum (bare : Nat) (s : Bytes) : Nat := if (directive s).2.1 = [] then bare else numArg (directive s).2.1
def numsF (all : List Bytes) (name : Bytes) (bare : Nat) : List Nat := (all.filter (isDir name)).map (dirNum bare)
def endStep (g : Bool) (n : Int) (x : Nat) : Int := if n < 0 ∨ g = decide (n < (x : Int)) then (x : Int) else n
def endF (l : List Nat) (g : Bool) : Int := l.foldl (endStep g) (-1)
def namedF (all : List Bytes) (name : Bytes) : Bool := decide (0 < (numsF all name 0).length)

theorem numsF_snoc (all : List Bytes) (name : Bytes) (bare k : Nat) (h : k < all.length) : numsF (all.take (k + 1)) name bare = numsF (all.take k) name bare ++ (if isDir name all[k] = true then [dirNum bare all[k]] else []) := by
  unfold numsF
  rw [take_snoc all k h, List.filter_append, List.map_append]
  congr 1
  by_cases hs : isDir name all[k] = true <;> simp [hs]
theorem numsF_length (all : List Bytes) (name : Bytes) (bare : Nat) : (numsF all name bare).length ≤ all.length := by
  unfold numsF; rw [List.length_map]; exact List.length_filter_le _ _
theorem dirNum_le (bare : Nat) (s : Bytes) (h : bare ≤ 1099511627776) : dirNum bare s ≤ 1099511627776 := by
  unfold dirNum; split
  · exact h
  · exact numArg_le _
theorem numsF_le {all : List Bytes} {name : Bytes} {bare : Nat} (hb : bare ≤ 1099511627776) : ∀ x ∈ numsF all name bare, x ≤ 1099511627776 := by
  intro x hx
  unfold numsF at hx
  rw [List.mem_map] at hx
  obtain ⟨s, _, rfl⟩ := hx
  exact dirNum_le bare s hb
theorem endF_snoc (l : List Nat) (g : Bool) (k : Nat) (h : k < l.length) : endF (l.take (k + 1)) g = endStep g (endF (l.take k) g) l[k] := by
  rw [take_snoc l k h]; simp only [endF, List.foldl_append, List.foldl_cons, List.foldl_nil]
theorem endF_bound (l : List Nat) (g : Bool) (h : ∀ x ∈ l, x ≤ 1099511627776) : ∀ k, -1 ≤ endF (l.take k) g ∧ endF (l.take k) g ≤ 1099511627776 := by
  intro k
  induction k with
  | zero => simp [endF]
  | succ k ih =>
    by_cases hk : k < l.length
    · rw [endF_snoc l g k hk]
      have := h _ (List.getElem_mem hk)
      unfold endStep
      split <;> omega
    · rw [List.take_of_length_le (by omega)] at ih ⊢; exact ih

/-- One directive after another, part by part. -/
theorem says_part (n a : Bytes) : (ctlSays n a).ns = (n == noStore) ∧ (ctlSays n a).nc = (n == noCache) ∧ (ctlSays n a).nt = (n == noTransform) ∧ (ctlSays n a).pu = (n == pubName) ∧ (ctlSays n a).pr = (n == privName) ∧ (ctlSays n a).mr = (n == mustRe) ∧ (ctlSays n a).px = (n == proxyRe) ∧ (ctlSays n a).oi = (n == onlyIf)
    ∧ (ctlSays n a).ma = (if n = maxAge then (numArg a : Int) else -1) ∧ (ctlSays n a).sm = (if n = sMaxage then (numArg a : Int) else -1) ∧ (ctlSays n a).mf = (if n = minFresh then (numArg a : Int) else -1) ∧ (ctlSays n a).ms = (if n = maxStale then ((if a = [] then greatest else numArg a : Nat) : Int) else -1) := by
  by_cases h1 : n = noStore
  · subst h1; unfold ctlSays; rw [if_pos rfl]; exact ⟨by decide, by decide, by decide, by decide, by decide, by decide, by decide, by decide, by rw [if_neg (by decide)]; rfl, by rw [if_neg (by decide)]; rfl, by rw [if_neg (by decide)]; rfl, by rw [if_neg (by decide)]; rfl⟩
  by_cases h2 : n = noCache
  · subst h2; unfold ctlSays; rw [if_neg h1, if_pos rfl]; exact ⟨by decide, by decide, by decide, by decide, by decide, by decide, by decide, by decide, by rw [if_neg (by decide)]; rfl, by rw [if_neg (by decide)]; rfl, by rw [if_neg (by decide)]; rfl, by rw [if_neg (by decide)]; rfl⟩
  by_cases h3 : n = noTransform
  · subst h3; unfold ctlSays; rw [if_neg h1, if_neg h2, if_pos rfl]; exact ⟨by decide, by decide, by decide, by decide, by decide, by decide, by decide, by decide, by rw [if_neg (by decide)]; rfl, by rw [if_neg (by decide)]; rfl, by rw [if_neg (by decide)]; rfl, by rw [if_neg (by decide)]; rfl⟩
  by_cases h4 : n = pubName
  · subst h4; unfold ctlSays; rw [if_neg h1, if_neg h2, if_neg h3, if_pos rfl]; exact ⟨by decide, by decide, by decide, by decide, by decide, by decide, by decide, by decide, by rw [if_neg (by decide)]; rfl, by rw [if_neg (by decide)]; rfl, by rw [if_neg (by decide)]; rfl, by rw [if_neg (by decide)]; rfl⟩
  by_cases h5 : n = privName
  · subst h5; unfold ctlSays; rw [if_neg h1, if_neg h2, if_neg h3, if_neg h4, if_pos rfl]; exact ⟨by decide, by decide, by decide, by decide, by decide, by decide, by decide, by decide, by rw [if_neg (by decide)]; rfl, by rw [if_neg (by decide)]; rfl, by rw [if_neg (by decide)]; rfl, by rw [if_neg (by decide)]; rfl⟩
  by_cases h6 : n = mustRe
  · subst h6; unfold ctlSays; rw [if_neg h1, if_neg h2, if_neg h3, if_neg h4, if_neg h5, if_pos rfl]; exact ⟨by decide, by decide, by decide, by decide, by decide, by decide, by decide, by decide, by rw [if_neg (by decide)]; rfl, by rw [if_neg (by decide)]; rfl, by rw [if_neg (by decide)]; rfl, by rw [if_neg (by decide)]; rfl⟩
  by_cases h7 : n = proxyRe
  · subst h7; unfold ctlSays; rw [if_neg h1, if_neg h2, if_neg h3, if_neg h4, if_neg h5, if_neg h6, if_pos rfl]; exact ⟨by decide, by decide, by decide, by decide, by decide, by decide, by decide, by decide, by rw [if_neg (by decide)]; rfl, by rw [if_neg (by decide)]; rfl, by rw [if_neg (by decide)]; rfl, by rw [if_neg (by decide)]; rfl⟩
  by_cases h8 : n = onlyIf
  · subst h8; unfold ctlSays; rw [if_neg h1, if_neg h2, if_neg h3, if_neg h4, if_neg h5, if_neg h6, if_neg h7, if_pos rfl]; exact ⟨by decide, by decide, by decide, by decide, by decide, by decide, by decide, by decide, by rw [if_neg (by decide)]; rfl, by rw [if_neg (by decide)]; rfl, by rw [if_neg (by decide)]; rfl, by rw [if_neg (by decide)]; rfl⟩
  have b1 : (n == noStore) = false := by simpa using h1
  have b2 : (n == noCache) = false := by simpa using h2
  have b3 : (n == noTransform) = false := by simpa using h3
  have b4 : (n == pubName) = false := by simpa using h4
  have b5 : (n == privName) = false := by simpa using h5
  have b6 : (n == mustRe) = false := by simpa using h6
  have b7 : (n == proxyRe) = false := by simpa using h7
  have b8 : (n == onlyIf) = false := by simpa using h8
  unfold ctlSays
  rw [if_neg h1, if_neg h2, if_neg h3, if_neg h4, if_neg h5, if_neg h6, if_neg h7, if_neg h8, b1, b2, b3, b4, b5, b6, b7, b8]
  by_cases h9 : n = maxAge
  · subst h9
    rw [if_pos rfl, if_pos rfl, if_neg (show ¬ maxAge = sMaxage by decide), if_neg (show ¬ maxAge = minFresh by decide), if_neg (show ¬ maxAge = maxStale by decide)]
    exact ⟨rfl, rfl, rfl, rfl, rfl, rfl, rfl, rfl, rfl, rfl, rfl, rfl⟩
  by_cases h10 : n = sMaxage
  · subst h10
    rw [if_neg h9, if_neg h9, if_pos rfl, if_pos rfl, if_neg (show ¬ sMaxage = minFresh by decide), if_neg (show ¬ sMaxage = maxStale by decide)]
    exact ⟨rfl, rfl, rfl, rfl, rfl, rfl, rfl, rfl, rfl, rfl, rfl, rfl⟩
  by_cases h11 : n = minFresh
  · subst h11
    rw [if_neg h9, if_neg h9, if_neg h10, if_neg h10, if_pos rfl, if_pos rfl, if_neg (show ¬ minFresh = maxStale by decide)]
    exact ⟨rfl, rfl, rfl, rfl, rfl, rfl, rfl, rfl, rfl, rfl, rfl, rfl⟩
  by_cases h12 : n = maxStale
  · subst h12
    rw [if_neg h9, if_neg h9, if_neg h10, if_neg h10, if_neg h11, if_neg h11, if_pos rfl, if_pos rfl]
    exact ⟨rfl, rfl, rfl, rfl, rfl, rfl, rfl, rfl, rfl, rfl, rfl, by show (if a = [] then (greatest : Int) else (numArg a : Int)) = _; split <;> rfl⟩
  rw [if_neg h9, if_neg h9, if_neg h10, if_neg h10, if_neg h11, if_neg h11, if_neg h12, if_neg h12]
  exact ⟨rfl, rfl, rfl, rfl, rfl, rfl, rfl, rfl, rfl, rfl, rfl, rfl⟩
theorem numArg_nil : numArg [] = 0 := by decide
theorem dirNum_zero (s : Bytes) : dirNum 0 s = numArg (directive s).2.1 := by
  unfold dirNum; split
  · rename_i h; rw [h, numArg_nil]
  · rfl
theorem dirNum_great (s : Bytes) : dirNum 1099511627776 s = (if (directive s).2.1 = [] then greatest else numArg (directive s).2.1 : Nat) := rfl
/-- What one text says, part by part. -/
theorem of_part (s : Bytes) : (ctlOf s).ns = isDir noStore s ∧ (ctlOf s).nc = isDir noCache s ∧ (ctlOf s).nt = isDir noTransform s ∧ (ctlOf s).pu = isDir pubName s ∧ (ctlOf s).pr = isDir privName s ∧ (ctlOf s).mr = isDir mustRe s ∧ (ctlOf s).px = isDir proxyRe s ∧ (ctlOf s).oi = isDir onlyIf s
    ∧ (ctlOf s).ma = (if isDir maxAge s = true then (dirNum 0 s : Int) else -1) ∧ (ctlOf s).sm = (if isDir sMaxage s = true then (dirNum 0 s : Int) else -1) ∧ (ctlOf s).mf = (if isDir minFresh s = true then (dirNum 0 s : Int) else -1) ∧ (ctlOf s).ms = (if isDir maxStale s = true then (dirNum 1099511627776 s : Int) else -1) := by
  rw [dirNum_zero, dirNum_great]
  unfold ctlOf isDir
  cases h : (directive s).2.2
  · simp [Ctl.none]
  · simp only [if_true, Bool.true_and, beq_iff_eq]
    exact says_part _ _
theorem fold_flag (P : Bytes → Bool) (get : Ctl → Bool) (hj : ∀ a b : Ctl, get (a.join b) = (get a || get b)) (h0 : get Ctl.none = false) (hs : ∀ s, get (ctlOf s) = P s) (l : List Bytes) : get (ctlAll l) = l.any P := by
  have : ∀ (l : List Bytes) (c : Ctl), get (l.foldl (fun c s => c.join (ctlOf s)) c) = (get c || l.any P) := by
    intro l
    induction l with
    | nil => intro c; simp
    | cons s l ih => intro c; rw [List.foldl_cons, ih, hj, hs, List.any_cons, Bool.or_assoc]
  have := this l Ctl.none
  rw [h0, Bool.false_or] at this
  exact this
theorem any_named (l : List Bytes) (name : Bytes) : l.any (isDir name) = namedF l name := by
  unfold namedF numsF
  rw [List.length_map, Bool.eq_iff_iff, List.any_eq_true, decide_eq_true_iff, List.length_pos_iff_exists_mem]
  constructor
  · rintro ⟨x, h1, h2⟩; exact ⟨x, List.mem_filter.2 ⟨h1, h2⟩⟩
  · rintro ⟨x, h⟩; exact ⟨x, (List.mem_filter.1 h).1, (List.mem_filter.1 h).2⟩
theorem endStep_least (n : Int) (x : Nat) : endStep false n x = least n (x : Int) := by
  unfold endStep least
  by_cases h : n < 0
  · rw [if_pos (.inl h), if_pos h]
  · rw [if_neg h, if_neg (by omega : ¬ (x : Int) < 0)]
    by_cases h2 : n ≤ (x : Int)
    · rw [if_pos h2]
      by_cases h3 : n < (x : Int)
      · rw [if_neg (by simp [h, h3])]
      · rw [if_pos (.inr (by simp [h3]))]; omega
    · rw [if_neg h2, if_pos (.inr (by simp; omega))]
theorem endStep_most (n : Int) (x : Nat) : endStep true n x = most n (x : Int) := by
  unfold endStep most
  by_cases h2 : n ≤ (x : Int)
  · rw [if_pos h2]
    by_cases h : n < 0
    · rw [if_pos (.inl h)]
    · by_cases h3 : n < (x : Int)
      · rw [if_pos (.inr (by simp [h3]))]
      · rw [if_neg (by simp [h, h3])]; omega
  · rw [if_neg h2, if_neg (by simp; omega)]
theorem fold_num (name : Bytes) (bare : Nat) (g : Bool) (get : Ctl → Int) (J : Int → Int → Int) (hJ : ∀ n (x : Nat), endStep g n x = J n x) (hJ0 : ∀ n, -1 ≤ n → J n (-1) = n) (hj : ∀ a b : Ctl, get (a.join b) = J (get a) (get b)) (h0 : get Ctl.none = -1) (hb : bare ≤ 1099511627776)
    (hs : ∀ s, get (ctlOf s) = if isDir name s = true then (dirNum bare s : Int) else -1) (l : List Bytes) : get (ctlAll l) = endF (numsF l name bare) g := by
  have key : ∀ (l : List Bytes) (c : Ctl), -1 ≤ get c → get (l.foldl (fun c s => c.join (ctlOf s)) c) = (numsF l name bare).foldl (endStep g) (get c) := by
    intro l
    induction l with
    | nil => intro c _; rfl
    | cons s l ih =>
      intro c hc
      rw [List.foldl_cons]
      by_cases h : isDir name s = true
      · have e : get (c.join (ctlOf s)) = endStep g (get c) (dirNum bare s) := by rw [hj, hs, if_pos h, hJ]
        have e2 : numsF (s :: l) name bare = dirNum bare s :: numsF l name bare := by simp [numsF, h]
        rw [ih _ (by rw [e]; unfold endStep; split <;> omega), e, e2, List.foldl_cons]
      · have e : get (c.join (ctlOf s)) = get c := by rw [hj, hs, if_neg h, hJ0 _ hc]
        have e2 : numsF (s :: l) name bare = numsF l name bare := by simp [numsF, h]
        rw [ih _ (by rw [e]; exact hc), e, e2]
  have := key l Ctl.none (by rw [h0]; omega)
  rw [h0] at this
  exact this
/-- The reference's reading is the program's. -/
def readR (all : List Bytes) : Ctl :=
  ⟨namedF all noStore, namedF all noCache, namedF all noTransform, namedF all pubName, namedF all privName, namedF all mustRe, namedF all proxyRe, namedF all onlyIf,
    endF (numsF all maxAge 0) false, endF (numsF all sMaxage 0) false, endF (numsF all minFresh 0) true, endF (numsF all maxStale 1099511627776) false⟩
theorem readR_eq (all : List Bytes) : readR all = ctlAll all := by
  have f1 := fold_flag (isDir noStore) Ctl.ns (fun _ _ => rfl) rfl (fun s => (of_part s).1) all
  have f2 := fold_flag (isDir noCache) Ctl.nc (fun _ _ => rfl) rfl (fun s => (of_part s).2.1) all
  have f3 := fold_flag (isDir noTransform) Ctl.nt (fun _ _ => rfl) rfl (fun s => (of_part s).2.2.1) all
  have f4 := fold_flag (isDir pubName) Ctl.pu (fun _ _ => rfl) rfl (fun s => (of_part s).2.2.2.1) all
  have f5 := fold_flag (isDir privName) Ctl.pr (fun _ _ => rfl) rfl (fun s => (of_part s).2.2.2.2.1) all
  have f6 := fold_flag (isDir mustRe) Ctl.mr (fun _ _ => rfl) rfl (fun s => (of_part s).2.2.2.2.2.1) all
  have f7 := fold_flag (isDir proxyRe) Ctl.px (fun _ _ => rfl) rfl (fun s => (of_part s).2.2.2.2.2.2.1) all
  have f8 := fold_flag (isDir onlyIf) Ctl.oi (fun _ _ => rfl) rfl (fun s => (of_part s).2.2.2.2.2.2.2.1) all
  have n1 := fold_num maxAge 0 false Ctl.ma least endStep_least (fun n h => least_none' n h) (fun _ _ => rfl) rfl (by decide) (fun s => (of_part s).2.2.2.2.2.2.2.2.1) all
  have n2 := fold_num sMaxage 0 false Ctl.sm least endStep_least (fun n h => least_none' n h) (fun _ _ => rfl) rfl (by decide) (fun s => (of_part s).2.2.2.2.2.2.2.2.2.1) all
  have n3 := fold_num minFresh 0 true Ctl.mf most endStep_most (fun n h => most_none n h) (fun _ _ => rfl) rfl (by decide) (fun s => (of_part s).2.2.2.2.2.2.2.2.2.2.1) all
  have n4 := fold_num maxStale 1099511627776 false Ctl.ms least endStep_least (fun n h => least_none' n h) (fun _ _ => rfl) rfl (by decide) (fun s => (of_part s).2.2.2.2.2.2.2.2.2.2.2) all
  rw [any_named] at f1 f2 f3 f4 f5 f6 f7 f8
  unfold readR
  rw [← f1, ← f2, ← f3, ← f4, ← f5, ← f6, ← f7, ← f8, ← n1, ← n2, ← n3, ← n4]
end Go.Dr

