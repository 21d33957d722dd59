/- Parts of the proof of gr_root: the texts Law22k Law22m. -/
import Derived.Test.YtlkfmhbmcicmfaaGreatDoorG31
import Derived.Test.YtlkfmhbmcicmfaaGreatDoorG32
set_option linter.unusedSimpArgs false
set_option linter.unusedVariables false
set_option linter.unnecessarySimpa false
namespace Go.Proofs.YtlkfmhbmcicmfaaGreatDoor
open Go Go.RowKit Go.Dr
variable {w w' : World} {n : Nm} {q q' : Cq}

/-- a piece, with padding or without -/
structure Gk (fl p : Nat) (d : Bytes) : Prop where
  k : fl = 0 ∧ p = 0 ∨ fl = 8 ∧ p ≤ 255
  l : d.length ≤ 700
def gpl (fl p : Nat) (d : Bytes) : Bytes := if fl = 8 then [UInt8.ofNat p] ++ d ++ List.replicate p 0 else d
def gN (fl p : Nat) (d : Bytes) : Nat := d.length + (if fl = 8 then p + 1 else 0)
theorem gpl_len (fl p : Nat) (d : Bytes) : (gpl fl p d).length = gN fl p d := by
  unfold gpl gN
  split <;> simp
  omega
/-- what is given back -/
def gout (fl p : Nat) (d : Bytes) : List (Bytes × Fr) := if gN fl p d = 0 then [] else [(frB 8 0 0 (beP (gN fl p d) 4), { ty := 8, st := 0, inc := gN fl p d }), (frB 8 0 1 (beP (gN fl p d) 4), { ty := 8, st := 1, inc := gN fl p d })]
theorem Gk.N {fl p : Nat} {d : Bytes} (h : Gk fl p d) : gN fl p d ≤ 956 := by
  have := h.l
  unfold gN
  rcases h.k with ⟨rfl, rfl⟩ | ⟨rfl, hp⟩
  · simp; omega
  · simp; omega
theorem tk_gk {fl p : Nat} {d : Bytes} (h : Gk fl p d) : Tk 16384 0 fl 1 (gpl fl p d) { fl := fl, st := 1, data := d, pad := p } := by
  have hN := h.N
  have hl := gpl_len fl p d
  rcases h.k with ⟨rfl, rfl⟩ | ⟨rfl, hp⟩
  · have e : gpl 0 0 d = d := rfl
    rw [e]
    exact tk_dat d (by have := h.l; omega) 0 (.inl rfl)
  · refine ⟨by decide, by decide, by decide, by omega, rfl, ?_, ?_, (by rintro ⟨h, -⟩; cases h), rfl⟩
    · rw [hl]
      simp [sizeF, aheadF, gN]
    · rw [openF, if_pos (.inl rfl)]
      have e : gpl 8 p d = UInt8.ofNat p :: (d ++ List.replicate p 0) := by simp [gpl]
      have e2 : (UInt8.ofNat p).toNat = p := by simp; omega
      have e3 : (0 : Nat) = 1 ↔ False := by decide
      rw [e]
      unfold dhF
      simp only [show ((8 : Nat) &&& 8 != 0) = true from rfl, show (((0 : Nat) == 1 && (8 : Nat) &&& 32 != 0) : Bool) = false from rfl, if_true, Bool.false_eq_true, if_false, List.drop_one, List.tail_cons, List.headD_cons, e2, List.length_append, List.length_replicate, Bool.false_and]
      rw [if_neg (by omega), Nat.add_sub_cancel, List.take_left']
      rfl
theorem put_gk {fl p : Nat} {d : Bytes} (h : Gk fl p d) (w1 : World) : Calls Tryz.prog 12 #[.agg #[.int .i64 0, .int .i64 (fl : Int), .int .i64 1, S d, .int .i64 (p : Int), .slice none 0 0, .int .i64 0, .int .i64 0, .int .i64 0, .int .i64 0, .int .i64 0, .bool false]] w1 fun e w' => ∃ v, e = .returned (.tuple #[v, .int .i64 0]) ∧ w'.ownsRow w1.heap.size 5 1 v (frB 0 fl 1 (gpl fl p d)).length ((frB 0 fl 1 (gpl fl p d)).map B8) ∧ Below w1.heap.size w1 w' := by
  have := h.l
  rw [frB_length, gpl_len]
  rcases h.k with ⟨rfl, rfl⟩ | ⟨rfl, hp⟩
  · exact put_DatS 1 (by decide) d (by omega) w1
  · have hP := put_DatP p hp d (by omega) w1
    have e : frB 0 8 1 (gpl 8 p d) = beP (d.length + p + 1) 3 ++ [0, 8] ++ beP 1 4 ++ ([UInt8.ofNat p] ++ d ++ List.replicate p 0) := by
      unfold frB
      rw [gpl_len]
      rfl
    rw [e]
    exact hP
theorem pay_gk {fl p : Nat} {d : Bytes} (h : Gk fl p d) (w : World) : Calls Tryz.prog 28 #[.agg #[.int .i64 0, .int .i64 (fl : Int), .int .i64 1, S d, .int .i64 (p : Int), .slice none 0 0, .int .i64 0, .int .i64 0, .int .i64 0, .int .i64 0, .int .i64 0, .bool false]] w fun e w' => ∃ a c, e = .returned (.slice a (gN fl p d) c) ∧ Below w.heap.size w w' := by
  have := h.l
  rcases h.k with ⟨rfl, rfl⟩ | ⟨rfl, hp⟩
  · refine (pay_DatS 1 (by decide) d (by omega) w).mono ?_
    rintro e w' ⟨v, rfl, hr, hb⟩
    obtain ⟨a, c, rfl⟩ := own_form hr
    exact ⟨a, c, rfl, hb⟩
  · refine (pay_DatP p hp d (by omega) w).mono ?_
    rintro e w' ⟨v, rfl, hr, hb⟩
    obtain ⟨a, c, rfl⟩ := own_form hr
    exact ⟨a, c, rfl, hb⟩
theorem bytes_gk {g fl p : Nat} {d : Bytes} (h : Gk fl p d) (w : World) (hg : Blk w g 34 #[.int .i64 0, .int .i64 (fl : Int), .int .i64 1, S d, .int .i64 (p : Int), .slice none 0 0, .int .i64 0, .int .i64 0, .int .i64 0, .int .i64 0, .int .i64 0, .bool false]) : Calls Tryz.prog 25 #[.slice (some ⟨g, 0, none⟩) 1 1] w (OutC (frB 0 fl 1 (gpl fl p d)) w) :=
  Bytes_of (frB 0 fl 1 (gpl fl p d)) w hg (by rw [frB_length]; omega) (by have := h.N; rw [frB_length, gpl_len]; omega) (put_gk h)

/-- a connection with one open stream -/
abbrev gst (came : Int) (bts : Bytes) (nw : List Value) : Cq := { q22a bs22 with endOf := false, fo := 0, tm := 0, last := 1, live := [(1, { st := 1, came := came })], off := [(1, 0)], bytes := bts, news := nw }
abbrev bodyN (d : Bytes) : List Value := [.int .i64 3, .int .i64 1, S [], S [], S [], S [], .slice none 0 0, S d, .bool false, .int .i64 0]

set_option maxHeartbeats 4000000 in
theorem Item_gk {F : Nat → Prop} {fl p : Nat} {d : Bytes} (hp : Gk fl p d) (came : Int) (bts : Bytes) (hc0 : 0 ≤ came) (hc1 : came ≤ 1000000) (hbl : bts.length ≤ 1000000) (w : World) (h : Cw w n (gst came bts []) F) (sa : Option Addr) (sc : Nat) :
    Calls Tryz.prog 66 #[Ptr n.c, itmV { fl := fl, st := 1, data := d, pad := p } (.slice sa 0 sc) {}] w fun r w' => r = .returned (.tuple #[]) ∧ Goes w n F w' (gst (came + d.length) (bts ++ flatF (gout fl p d)) (bodyN d)) := by
  have hl := hp.l
  have hS := over_same (gst (came + d.length) (bts ++ flatF (gout fl p d)) (bodyN d)) rfl
  rcases hp.k with ⟨rfl, rfl⟩ | ⟨rfl, hp8⟩
  · refine Item_then (d := d) (ty := 0) (fl := 0) (st := 1) (x4 := 0) (x6 := 0) (x7 := 0) (x8 := 0) (x9 := 0) (x10 := 0) (x11 := false) (sk := 0) (q' := gst (came + d.length) (bts ++ flatF (gout 0 0 d)) (bodyN d)) w h rfl rfl (by decide) (by decide) 140 rfl (run_en Tryz.func140 (by kernel_rfl) rfl) (fun w2 F2 h2 => ?_) _ hS
    by_cases hd : d = []
    · subst hd
      have := Data_none (c5 := .slice sa 0 sc) (c6 := .int .i64 0) (c7 := .int .i64 0) (c8 := .int .i64 0) (c9 := .int .i64 0) (c10 := .int .i64 0) (c11 := .bool false) [] rfl w2 h2 1 (by decide) (by decide) (by decide) (a := []) (c := []) (s := { st := 1, came := came }) rfl rfl rfl (show ¬ (1 : Int) < ((1 : Nat) : Int) by decide) (show (1 : Int) < 4294967296 by decide) (by decide) (show (0 : Int) ≤ 1000 by decide) hc0 (show came ≤ 1000000000 by omega) hbl (show 0 ≤ 1000000 by decide)
      have e : gst (came + (([] : Bytes).length : Nat)) (bts ++ flatF (gout 0 0 [])) (bodyN []) = gst came bts (bodyN []) := by simp [gout, gN, flatF]
      rw [e]
      exact this
    · have hd0 : 0 < d.length := List.length_pos_iff.2 hd
      have := Data_some (c5 := .slice sa 0 sc) (c6 := .int .i64 0) (c7 := .int .i64 0) (c8 := .int .i64 0) (c9 := .int .i64 0) (c10 := .int .i64 0) (c11 := .bool false) d hd0 w2 h2 1 (by decide) (by decide) (by decide) (a := []) (c := []) (s := { st := 1, came := came }) rfl rfl rfl (show ¬ (1 : Int) < ((1 : Nat) : Int) by decide) (show (1 : Int) < 4294967296 by decide) (by omega) (show (d.length : Int) ≤ 1000 by omega) hc0 (show came ≤ 1000000000 by omega) hbl (show 0 ≤ 1000000 by decide)
      have eN : gN 0 0 d = d.length := by simp [gN]
      have e : bts ++ flatF (gout 0 0 d) = bts ++ frB 8 0 0 (beP d.length 4) ++ frB 8 0 1 (beP d.length 4) := by
        unfold gout
        rw [eN, if_neg (by omega)]
        simp [flatF]
      rw [e]
      exact this
  · refine Item_then (d := d) (ty := 0) (fl := 8) (st := 1) (x4 := (p : Int)) (x6 := 0) (x7 := 0) (x8 := 0) (x9 := 0) (x10 := 0) (x11 := false) (sk := 0) (q' := gst (came + d.length) (bts ++ flatF (gout 8 p d)) (bodyN d)) w h rfl rfl (by decide) (by decide) 140 rfl (run_en Tryz.func140 (by kernel_rfl) rfl) (fun w2 F2 h2 => ?_) _ hS
    have := Data_pad (c5 := .slice sa 0 sc) (c6 := .int .i64 0) (c7 := .int .i64 0) (c8 := .int .i64 0) (c9 := .int .i64 0) (c10 := .int .i64 0) (c11 := .bool false) d p hp8 w2 h2 1 (by decide) (by decide) (by decide) (a := []) (c := []) (s := { st := 1, came := came }) rfl rfl rfl (show ¬ (1 : Int) < ((1 : Nat) : Int) by decide) (show (1 : Int) < 4294967296 by decide) (by omega) (show (d.length : Int) + (p : Int) + 1 ≤ 1000 by omega) hc0 (show came ≤ 1000000000 by omega) hbl (show 0 ≤ 1000000 by decide)
    have eN : gN 8 p d = d.length + p + 1 := by simp [gN]; omega
    have e : bts ++ flatF (gout 8 p d) = bts ++ frB 8 0 0 (beP (d.length + p + 1) 4) ++ frB 8 0 1 (beP (d.length + p + 1) 4) := by
      unfold gout
      rw [eN, if_neg (by omega)]
      simp [flatF]
    rw [e]
    exact this

set_option maxHeartbeats 4000000 in
theorem Take_gk {F : Nat → Prop} {fl p : Nat} {d : Bytes} (hp : Gk fl p d) (came : Int) (bts : Bytes) (nw : List Value) (hc0 : 0 ≤ came) (hc1 : came ≤ 1000000) (hbl : bts.length ≤ 1000000) (w : World) (h : Cw w n (gst came bts nw) F) (vb : Value) (hb : By w.heap.size w vb (frB 0 fl 1 (gpl fl p d))) :
    Calls Tryz.prog 23 #[Ptr n.c, vb] w fun e w' => ∃ g c, e = .returned (.slice (some ⟨g, 0, none⟩) 1 c) ∧ w'.cell? ⟨g, 7, none⟩ = some (S d) ∧ Goes w n F w' (gst (came + d.length) (bts ++ flatF (gout fl p d)) (bodyN d)) := by
  refine (Take_one (tk_gk hp) w h rfl rfl vb hb (gst (came + d.length) (bts ++ flatF (gout fl p d)) (bodyN d)) (fun w1 F1 sa sc h1 _ => Item_gk hp came bts hc0 hc1 hbl w1 h1 sa sc)).mono ?_
  rintro e w2 ⟨v, j, rfl, hn, hG⟩
  have h0 : (10 : Nat) = j * 10 := hn.1
  obtain rfl : j = 1 := by omega
  obtain ⟨a, c, rfl⟩ := own_form hn
  obtain ⟨g, rfl, hc⟩ := row_cell hn (by decide)
  exact ⟨g, c, rfl, hc 7 _ rfl, hG⟩

set_option maxHeartbeats 4000000 in
/-- the request whose body comes -/
theorem Take_open {F : Nat → Prop} (vb : Value) (w : World) (h : Cw w n (q22 bs22) F) (hb : By w.heap.size w vb (prefB ++ (frB 4 0 0 [] ++ frB 1 4 1 dS))) :
    Calls Tryz.prog 23 #[Ptr n.c, vb] w fun e w' => ∃ v j, e = .returned v ∧ w'.ownsRow n.B 65 10 v j (({ q22a bs22 with endOf := false } : Cq).asked 1 [47] false).news ∧ Goes w n F w' (({ q22a bs22 with endOf := false } : Cq).asked 1 [47] false) := by
  have hT := Taken_any w h rfl vb [(({ ty := 4 } : Fr), ({} : Ft)), (({ ty := 1, fl := 4, st := 1, data := dS } : Fr), ({} : Ft))] (fun k => match k with | 0 => { q22 bs22 with news := [], pre := 24 } | 1 => q22a bs22 | _ => ({ q22a bs22 with endOf := false } : Cq).asked 1 [47] false) rfl
    (by intro k hk; match k, hk with | 0, _ => rfl | 1, _ => rfl)
    (fun W F1 hbW eW hW => by
      obtain ⟨m', hx', -⟩ := hW
      refine take_first (l := frB 4 0 0 [] ++ frB 1 4 1 dS) hx'.feed ?_ (by rw [List.length_append, frB_length, frB_length]; decide) (itemsF_2 tk_set0 (tk_head dS (by decide) 4 (.inl rfl)) (by decide) (by rw [List.length_append, frB_length, frB_length]; decide))
      rw [eW]
      obtain ⟨m, hx, rfl⟩ := h
      exact (hb.off hx.blk hx.no_b8 21 (.slice none 0 0)).mono (Nat.le_of_eq (by simp)))
    (fun k hk w1 F1 sa sc h1 hs => by
      match k, hk with
      | 0, _ => exact Item_set bs22 (by decide) w1 h1
      | 1, _ => exact Item_get w1 h1 rfl rfl 1 (by decide) (by decide) rfl false [132] [47] (fun a b => run_132 a b) (by decide) (by decide) (.inl rfl) (by decide +kernel) (by decide +kernel) rfl rfl (by decide +kernel) (by decide +kernel) (by decide +kernel) (by decide +kernel) (by decide +kernel) (by decide +kernel) (by decide +kernel))
  exact hT
theorem getO (w : World) : Calls Tryz.prog 26 #[.int .i64 1, .string ⟨#[47]⟩, .bool false] w fun r w' => r = .returned (getV 1 4 dS) ∧ Below w.heap.size w w' := by
  have h := Get_any 1 [47] (.inl rfl) false w
  rw [getX_dS] at h
  exact h
theorem bytesO {g : Nat} (w : World) (hg : Blk w g 34 #[.int .i64 1, .int .i64 4, .int .i64 1, S dS, .int .i64 0, .slice none 0 0, .int .i64 0, .int .i64 0, .int .i64 0, .int .i64 0, .int .i64 0, .bool false]) : Calls Tryz.prog 25 #[.slice (some ⟨g, 0, none⟩) 1 1] w (OutC (frB 1 4 1 dS) w) :=
  Bytes_one (frB 1 4 1 dS) w hg (by rw [frB_length]; omega) (by rw [frB_length]; decide) (fun w1 => by rw [frB_length]; exact put_HdS4 1 (by decide) dS (by decide) w1)
end Go.Proofs.YtlkfmhbmcicmfaaGreatDoor

namespace Go.Proofs.YtlkfmhbmcicmfaaGreatDoor
open Go Go.RowKit Go.Dr

def gpad (ks : Bytes) (i : Nat) : Bool := if h : i < ks.length then decide (ks[i].toNat % 2 = 1) else false
def gfl (ks : Bytes) (i : Nat) : Nat := if gpad ks i then 8 else 0
def gp (ks : Bytes) (i : Nat) : Nat := if gpad ks i then (ks.getD i 0).toNat else 0
theorem gk_of (xs : List Bytes) (ks : Bytes) (i : Nat) (h : (xs.getD i []).length ≤ 700) : Gk (gfl ks i) (gp ks i) (xs.getD i []) := by
  refine ⟨?_, h⟩
  unfold gfl gp
  split
  · have := (ks.getD i 0).toNat_lt
    exact .inr ⟨rfl, by omega⟩
  · exact .inl ⟨rfl, rfl⟩
def gouts (xs : List Bytes) (ks : Bytes) (k : Nat) : List (Bytes × Fr) := (List.range k).flatMap fun i => gout (gfl ks i) (gp ks i) (xs.getD i [])
def gsum (xs : List Bytes) (ks : Bytes) (k : Nat) : Nat := ((List.range k).map fun i => gN (gfl ks i) (gp ks i) (xs.getD i [])).sum
def gcat (xs : List Bytes) (k : Nat) : Bytes := (List.range k).flatMap fun i => xs.getD i []
theorem gouts_succ (xs : List Bytes) (ks : Bytes) (k : Nat) : gouts xs ks (k + 1) = gouts xs ks k ++ gout (gfl ks k) (gp ks k) (xs.getD k []) := by simp [gouts, List.range_succ]
theorem gsum_succ (xs : List Bytes) (ks : Bytes) (k : Nat) : gsum xs ks (k + 1) = gsum xs ks k + gN (gfl ks k) (gp ks k) (xs.getD k []) := by simp [gsum, List.range_succ]
theorem gcat_succ (xs : List Bytes) (k : Nat) : gcat xs (k + 1) = gcat xs k ++ xs.getD k [] := by simp [gcat, List.range_succ]
theorem gsum_le (xs : List Bytes) (ks : Bytes) (k : Nat) (h : ∀ j, j < k → (xs.getD j []).length ≤ 700) : gsum xs ks k ≤ 956 * k := by
  induction k with
  | zero => simp [gsum]
  | succ k ih =>
    have h1 := ih (fun j hj => h j (by omega))
    have h2 := (gk_of xs ks k (h k (by omega))).N
    rw [gsum_succ]
    omega
theorem gcat_le (xs : List Bytes) (k : Nat) (h : ∀ j, j < k → (xs.getD j []).length ≤ 700) : (gcat xs k).length ≤ 700 * k := by
  induction k with
  | zero => simp [gcat]
  | succ k ih =>
    have h1 := ih (fun j hj => h j (by omega))
    have h2 := h k (by omega)
    rw [gcat_succ, List.length_append]
    omega
theorem gout_len (fl p : Nat) (d : Bytes) : (gout fl p d).length ≤ 2 ∧ (flatF (gout fl p d)).length ≤ 26 := by
  unfold gout
  split
  · simp [flatF]
  · simp [flatF, frB_length, beP_length]
theorem gouts_len (xs : List Bytes) (ks : Bytes) (k : Nat) : (gouts xs ks k).length ≤ 2 * k := by
  induction k with
  | zero => simp [gouts]
  | succ k ih =>
    have := (gout_len (gfl ks k) (gp ks k) (xs.getD k [])).1
    rw [gouts_succ, List.length_append]
    omega
theorem gouts_bytes (xs : List Bytes) (ks : Bytes) (k : Nat) : (flatF (gouts xs ks k)).length ≤ 26 * k := by
  induction k with
  | zero => simp [gouts, flatF]
  | succ k ih =>
    have := (gout_len (gfl ks k) (gp ks k) (xs.getD k [])).2
    rw [gouts_succ, flatF, List.flatMap_append, List.length_append]
    show (flatF _).length + (flatF _).length ≤ _
    omega
theorem gouts_mem {xs : List Bytes} {ks : Bytes} {k : Nat} (h : ∀ j, j < k → (xs.getD j []).length ≤ 700) {x : Bytes × Fr} (hx : x ∈ gouts xs ks k) : (RTk x.1 x.2 ∧ 0 < x.1.length) ∧ ∃ st inc, inc ≤ 956 ∧ x.2 = { ty := 8, st := st, inc := inc } ∧ (st = 0 ∨ st = 1) := by
  obtain ⟨i, hi, hxi⟩ := List.mem_flatMap.1 hx
  have hN := (gk_of xs ks i (h i (List.mem_range.1 hi))).N
  unfold gout at hxi
  split at hxi
  · cases hxi
  · simp only [List.mem_cons, List.not_mem_nil, or_false] at hxi
    rcases hxi with rfl | rfl
    · exact ⟨⟨rTk_Win 0 _ (by decide) (by omega) (by omega), by show 0 < (frB _ _ _ _).length; rw [frB_length]; omega⟩, 0, _, hN, rfl, .inl rfl⟩
    · exact ⟨⟨rTk_Win 1 _ (by decide) (by omega) (by omega), by show 0 < (frB _ _ _ _).length; rw [frB_length]; omega⟩, 1, _, hN, rfl, .inr rfl⟩
def allF (l : List (Bytes × Fr)) : Nat := (l.map fun x => if x.2.st = 0 then x.2.inc else 0).sum
def ownF (l : List (Bytes × Fr)) : Nat := (l.map fun x => if x.2.st = 0 then 0 else x.2.inc).sum
theorem allF_take (l : List (Bytes × Fr)) (j : Nat) (h : j < l.length) : allF (l.take (j + 1)) = allF (l.take j) + if l[j].2.st = 0 then l[j].2.inc else 0 := by
  rw [List.take_succ_eq_append_getElem h]
  unfold allF
  rw [List.map_append, List.sum_append]
  simp only [List.map_cons, List.map_nil, List.sum_cons, List.sum_nil, Nat.add_zero]
theorem ownF_take (l : List (Bytes × Fr)) (j : Nat) (h : j < l.length) : ownF (l.take (j + 1)) = ownF (l.take j) + if l[j].2.st = 0 then 0 else l[j].2.inc := by
  rw [List.take_succ_eq_append_getElem h]
  unfold ownF
  rw [List.map_append, List.sum_append]
  simp only [List.map_cons, List.map_nil, List.sum_cons, List.sum_nil, Nat.add_zero]
theorem allF_append (a b : List (Bytes × Fr)) : allF (a ++ b) = allF a + allF b := by simp [allF]
theorem ownF_append (a b : List (Bytes × Fr)) : ownF (a ++ b) = ownF a + ownF b := by simp [ownF]
theorem allF_le (l : List (Bytes × Fr)) (j : Nat) : allF (l.take j) ≤ allF l := by
  have := allF_append (l.take j) (l.drop j)
  rw [List.take_append_drop] at this
  omega
theorem ownF_le (l : List (Bytes × Fr)) (j : Nat) : ownF (l.take j) ≤ ownF l := by
  have := ownF_append (l.take j) (l.drop j)
  rw [List.take_append_drop] at this
  omega
theorem gout_sums (fl p : Nat) (d : Bytes) : allF (gout fl p d) = gN fl p d ∧ ownF (gout fl p d) = gN fl p d := by
  unfold gout
  split
  · rename_i h
    rw [h]
    exact ⟨rfl, rfl⟩
  · simp [allF, ownF]
theorem gouts_all (xs : List Bytes) (ks : Bytes) (k : Nat) (_h : ∀ j, j < k → (xs.getD j []).length ≤ 700) : allF (gouts xs ks k) = gsum xs ks k := by
  clear _h
  induction k with
  | zero => rfl
  | succ k ih => rw [gouts_succ, allF_append, ih, (gout_sums _ _ _).1, gsum_succ]
theorem gouts_own (xs : List Bytes) (ks : Bytes) (k : Nat) (_h : ∀ j, j < k → (xs.getD j []).length ≤ 700) : ownF (gouts xs ks k) = gsum xs ks k := by
  clear _h
  induction k with
  | zero => rfl
  | succ k ih => rw [gouts_succ, ownF_append, ih, (gout_sums _ _ _).2, gsum_succ]
theorem byO {w : World} {base : Nat} {v : Value} (h : w.ownsRow base 5 1 v (helloB.length + (frB 1 4 1 dS).length) (helloB.map B8 ++ (frB 1 4 1 dS).map B8)) : By w.heap.size w v (prefB ++ (frB 4 0 0 [] ++ frB 1 4 1 dS)) := by
  refine own_by (base := base) ?_
  rw [← List.append_assoc, List.length_append, List.map_append]
  exact h
end Go.Proofs.YtlkfmhbmcicmfaaGreatDoor

