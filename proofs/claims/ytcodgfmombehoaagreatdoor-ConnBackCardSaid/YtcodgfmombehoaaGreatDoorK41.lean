/- Parts of the proof of bk_root: the texts Cnh1 Cng8. -/
import Derived.Test.YtcodgfmombehoaaGreatDoorK38
import Derived.Test.YtcodgfmombehoaaGreatDoorK40
set_option linter.unusedSimpArgs false
set_option linter.unusedVariables false
set_option linter.unnecessarySimpa false
set_option maxRecDepth 100000
set_option maxHeartbeats 64000000
namespace Go.Proofs.YtcodgfmombehoaaGreatDoor
open Go Go.RowKit Go.Dr
structure Run (body : Bytes) (fs : List (Bytes × Bool)) (pend : Bytes) (fin : Bool) : Prop where
 cat : fs.flatMap (·.1) ++ pend = body
 len : ∀ p ∈ fs, p.1.length ≤ 16384
 pos : ∀ p ∈ fs, p.2 = false → 1 ≤ p.1.length
 mid : fin = false → ∀ p ∈ fs, p.2 = false
 done : fin = true → pend = [] ∧ ∃ fs' d, fs = fs' ++ [(d, true)] ∧ ∀ p ∈ fs', p.2 = false
 cnt : fs.length + pend.length ≤ body.length + (if fin then 1 else 0)
theorem Run.start (body : Bytes) : Run body [] body false := ⟨rfl, fun p hp => (by cases hp), fun p hp => (by cases hp), fun _ p hp => (by cases hp), fun h => (by cases h), by simp⟩
theorem Run.on {body : Bytes} {fs : List (Bytes × Bool)} {pend : Bytes} (h : Run body fs pend false) (k : Nat) (h1 : 1 ≤ k) (h2 : k ≤ 16384) (h3 : k < pend.length) : Run body (fs ++ [(pend.take k, false)]) (pend.drop k) false where
 cat := by rw [List.flatMap_append, List.append_assoc];simp only [List.flatMap_cons, List.flatMap_nil, List.append_nil, List.take_append_drop];exact h.cat
 len := fun p hp => by
  rcases List.mem_append.1 hp with hp | hp
  ·exact h.len p hp
  ·obtain rfl := List.mem_singleton.1 hp
   show (pend.take k).length ≤ _
   rw [List.length_take];omega
 pos := fun p hp hf => by
  rcases List.mem_append.1 hp with hp | hp
  ·exact h.pos p hp hf
  ·obtain rfl := List.mem_singleton.1 hp
   show 1 ≤ (pend.take k).length
   rw [List.length_take];omega
 mid := fun _ p hp => by
  rcases List.mem_append.1 hp with hp | hp
  ·exact h.mid rfl p hp
  ·obtain rfl := List.mem_singleton.1 hp
   rfl
 done := fun h => by cases h
 cnt := by
  have := h.cnt
  simp only [List.length_append, List.length_singleton, List.length_drop, Bool.false_eq_true, if_false] at this ⊢;omega
theorem Run.last {body : Bytes} {fs : List (Bytes × Bool)} {pend : Bytes} (h : Run body fs pend false) (h2 : pend.length ≤ 16384) : Run body (fs ++ [(pend, true)]) [] true where
 cat := by rw [List.flatMap_append];simp only [List.flatMap_cons, List.flatMap_nil, List.append_nil];exact h.cat
 len := fun p hp => by
  rcases List.mem_append.1 hp with hp | hp
  ·exact h.len p hp
  ·obtain rfl := List.mem_singleton.1 hp
   exact h2
 pos := fun p hp hf => by
  rcases List.mem_append.1 hp with hp | hp
  ·exact h.pos p hp hf
  ·obtain rfl := List.mem_singleton.1 hp
   cases hf
 mid := fun h => by cases h
 done := fun _ => ⟨rfl, fs, pend, rfl, h.mid rfl⟩
 cnt := by
  have := h.cnt
  simp only [List.length_append, List.length_singleton, List.length_nil, Bool.false_eq_true, if_false, if_true] at this ⊢;omega
theorem Run.le {body : Bytes} {fs : List (Bytes × Bool)} {pend : Bytes} {fin : Bool} (h : Run body fs pend fin) : pend.length ≤ body.length := by
 rw [← h.cat, List.length_append];omega
abbrev blk6w : Bytes := [136, 64, 1, 97, 1, 98]
def qt (v : Nat) : Cq := ({ qg1 bs22 v with endOf := true } : Cq).asked ((1 : Nat) : Int) [47] true
def fb (fs : List (Bytes × Bool)) : Bytes := fs.flatMap fun p => frB 0 (if p.2 then 1 else 0) 1 p.1
abbrev baseB : Bytes := bs22 ++ frB 4 1 0 [] ++ frB 1 4 1 blk6w
def nw (v : Nat) (ex : Int) : List Value := if ex = 0 then (qt v).news else []
def qs (v : Nat) (M : List Value) (A : Bytes) (L : List (Int × Sp)) (O : List (Int × Int)) (a : Int) : Cq := { qt v with news := M, bytes := A, live := L, off := O, all := a }
abbrev spw (pend : Bytes) : Sp := { st := 2, headed := true, pend := pend, ends := true }
def qr (v : Nat) (ex : Int) (body : Bytes) (fs : List (Bytes × Bool)) (pend : Bytes) (fin : Bool) : Cq :=
 qs v (nw v ex) (baseB ++ fb fs) (if fin then [] else [(((1 : Nat) : Int), spw pend)]) (if fin then [] else [(((1 : Nat) : Int), ex - ((body.length : Int) - (pend.length : Int)))]) (65535 + ex - ((body.length : Int) - (pend.length : Int)))
def Cp (w : World) (c B : Nat) (q : Cq) : Prop := ∃ n F, n.c = c ∧ n.B = B ∧ Cw w n q F
theorem Cp.on {w w' : World} {c B : Nat} {q : Cq} (h : Cp w c B q) (hb : Below w.heap.size w w') : Cp w' c B q := let ⟨n, F, h1, h2, h3⟩ := h;⟨n, F, h1, h2, h3.on hb⟩
theorem Cp.drew {w : World} {c B : Nat} {q : Cq} (h : Cp w c B q) : Cp w.drew c B q := let ⟨n, F, h1, h2, h3⟩ := h;⟨n, F, h1, h2, h3.drew⟩
theorem cp_goes {w w' : World} {n : Nm} {F : Nat → Prop} {q q' : Cq} (h : Cw w n q F) (hB : n.B ≤ w.heap.size) (g : Goes w n F w' q') : Cp w' n.c n.B q' ∧ Below n.B w w' := ⟨let ⟨F', h', _⟩ := g;⟨n, F', rfl, rfl, h'⟩, g.below h hB⟩
theorem fb_app (fs : List (Bytes × Bool)) (p : Bytes × Bool) : fb (fs ++ [p]) = fb fs ++ frB 0 (if p.2 then 1 else 0) 1 p.1 := by simp [fb]
theorem fb_len (fs : List (Bytes × Bool)) : (fb fs).length = 9 * fs.length + (fs.flatMap (·.1)).length := by
 induction fs with
 | nil => rfl
 | cons p l ih =>
  have e : fb (p :: l) = frB 0 (if p.2 then 1 else 0) 1 p.1 ++ fb l := rfl;rw [e, List.length_append, frB_length, ih];simp only [List.length_cons, List.flatMap_cons, List.length_append];omega
theorem base_len : baseB.length = 57 := by decide +kernel
theorem Run.bytes {body : Bytes} {fs : List (Bytes × Bool)} {pend : Bytes} {fin : Bool} (h : Run body fs pend fin) (hb : body.length ≤ 60000) : (baseB ++ fb fs).length ≤ 1000000 := by
 have h1 := h.cnt;have h2 : (fs.flatMap (·.1)).length ≤ body.length := (by rw [← h.cat, List.length_append];omega);rw [List.length_append, base_len, fb_len]
 split at h1 <;> omega
theorem Pull_st {c B v : Nat} {ex : Int} {body : Bytes} {fs : List (Bytes × Bool)} {pend : Bytes} {fin : Bool} (w : World) (h : Cp w c B (qr v ex body fs pend fin)) (hB : B ≤ w.heap.size) (hr : Run body fs pend fin) (hbody : body.length ≤ 60000) (hv : v ≤ 65535) (hex : ex = 0 ∨ ex = 100000) (most : Nat) :
  Calls Tryz.prog 12 #[Ptr c, .int .i64 1, .int .i64 (most : Int)] w fun r w' => ∃ (k : Nat) (ok : Bool) (fs' : List (Bytes × Bool)) (pend' : Bytes) (fin' : Bool), r = .returned (.tuple #[.int .i64 (k : Int), .bool ok]) ∧ Run body fs' pend' fin' ∧ Cp w' c B (qr v ex body fs' pend' fin') ∧ Below B w w' ∧ pend'.length + k = pend.length ∧ k ≤ most ∧ (k : Int) ≤ max 0 ((v : Int) + (ex - ((body.length : Int) - (pend.length : Int)))) ∧ (fin = true → fin' = true) ∧ (16384 ≤ most → 16384 ≤ (v : Int) + (ex - ((body.length : Int) - (pend.length : Int))) → 16384 ≤ 65535 + ex - ((body.length : Int) - (pend.length : Int)) → fin' = true ∨ pend'.length + 16384 ≤ pend.length) := by
 obtain ⟨n, F, rfl, rfl, hC⟩ := h;have hle := hr.le
 cases fin with
 | true =>
  obtain ⟨m, hx, -⟩ := id hC;have hM := May_out w hx ((1 : Nat) : Int) (most : Int) (by decide) (fun p hp => by cases hp);refine (Pull_no w ((1 : Nat) : Int) (most : Int) 0 hM).mono ?_;rintro r w' ⟨rfl, hb⟩;refine ⟨0, false, fs, pend, true, rfl, hr, ⟨n, F, rfl, rfl, hC.on hb⟩, hb.mono hB, rfl, Nat.zero_le _, ?_, fun _ => rfl, fun _ _ _ => .inl rfl⟩
  show (0 : Int) ≤ _
  omega
 | false =>
  obtain ⟨x, ex'⟩ : ∃ x : Int, x = ex - ((body.length : Int) - (pend.length : Int)) := ⟨_, rfl⟩;obtain ⟨al, eal⟩ : ∃ al : Int, al = 65535 + ex - ((body.length : Int) - (pend.length : Int)) := ⟨_, rfl⟩;have eq0 : qr v ex body fs pend false = qs v (nw v ex) (baseB ++ fb fs) [(((1 : Nat) : Int), spw pend)] [(((1 : Nat) : Int), x)] al := (by rw [ex', eal];rfl);obtain ⟨N, hN⟩ : ∃ N : Int, N = max 0 (min (most : Int) (min (pend.length : Int) (min 16384 (max 0 (min ((v : Int) + x) al))))) := ⟨_, rfl⟩;obtain ⟨k, hk⟩ : ∃ k : Nat, (k : Int) = N := ⟨N.toNat, by omega⟩;have hI : I64 ((v : Int) + x) := (by constructor <;> omega);have hbl := hr.bytes hbody;rw [eq0] at hC
  have hMay : ∀ b : Bool, b = (decide (0 < N) || pend.isEmpty) → ∀ m, Cx w n m (qs v (nw v ex) (baseB ++ fb fs) [(((1 : Nat) : Int), spw pend)] [(((1 : Nat) : Int), x)] al) → Calls Tryz.prog 34 #[Ptr n.c, .int .i64 ((1 : Nat) : Int), .int .i64 (most : Int)] w fun r w' => r = .returned (.tuple #[.int .i64 (k : Int), .bool b]) ∧ Below w.heap.size w w' := fun b hb m hx => by
   rw [hk];exact May_live w hx ((1 : Nat) : Int) (most : Int) (by decide) (by decide) (by omega) (s := spw pend) (.head _) rfl rfl rfl (x := x) (.head _) hI rfl N hN b hb
  by_cases hg : 0 < k ∨ pend = []
  ·have hb : true = (decide (0 < N) || pend.isEmpty) := by
    rcases hg with hg | hg
    ·have : decide (0 < N) = true := by simp;omega
     rw [this];rfl
    ·rw [hg];simp
   by_cases hl : k = pend.length
   ·refine (Pull_end w hC 1 (by decide) (by decide) (most : Int) k (s := spw pend) rfl rfl rfl (by show pend.length ≤ 60000;omega) (by show k ≤ pend.length;omega) (by omega) (by show pend.length - k = 0;omega) (x := x) rfl hI (by show (k : Int) ≤ max 0 (min ((v : Int) + x) al);omega) (by constructor <;> omega) (by show I64 (al - (k : Int));constructor <;> omega) hbl rfl (hMay true hb)).mono ?_
    rintro r w' ⟨rfl, hG⟩;obtain ⟨hP, hbw⟩ := cp_goes hC hB hG;have ht : (spw pend).pend.take k = pend := (by rw [hl];exact List.take_length);rw [ht] at hP
    have e2 : qr v ex body (fs ++ [(pend, true)]) [] true = qs v (nw v ex) (baseB ++ fb fs ++ frB 0 1 1 pend) [] [] (al - (k : Int)) := by
     have e3 : al - (k : Int) = 65535 + ex - ((body.length : Int) - (([] : Bytes).length : Int)) := (by simp only [List.length_nil];omega);rw [e3, List.append_assoc];have e4 := fb_app fs (pend, true);unfold qr;rw [e4];rfl
    refine ⟨k, true, fs ++ [(pend, true)], [], true, rfl, hr.last (by omega), ?_, hbw, by simp only [List.length_nil];omega, by omega, by omega, fun h => (by cases h), fun _ _ _ => .inl rfl⟩;rw [e2];exact hP
   ·refine (Pull_on w hC 1 (by decide) (by decide) (most : Int) k (s := spw pend) rfl rfl rfl (by show pend.length ≤ 60000;omega) (by show k ≤ pend.length;omega) (by omega) (by show 0 < pend.length - k;omega) (x := x) rfl hI (by show (k : Int) ≤ max 0 (min ((v : Int) + x) al);omega) (by constructor <;> omega) (by show I64 (al - (k : Int));constructor <;> omega) hbl rfl (hMay true hb)).mono ?_
    rintro r w' ⟨rfl, hG⟩;obtain ⟨hP, hbw⟩ := cp_goes hC hB hG
    have hk1 : 1 ≤ k := by
     rcases hg with hg | hg
     ·exact hg
     ·rw [hg] at hl;simp only [List.length_nil] at hl;omega
    have e2 : qr v ex body (fs ++ [(pend.take k, false)]) (pend.drop k) false = qs v (nw v ex) (baseB ++ fb fs ++ frB 0 0 1 (pend.take k)) [(((1 : Nat) : Int), spw (pend.drop k))] [(((1 : Nat) : Int), x - (k : Int))] (al - (k : Int)) := by
     have e3 : al - (k : Int) = 65535 + ex - ((body.length : Int) - ((pend.drop k).length : Int)) := (by rw [List.length_drop];omega);have e5 : x - (k : Int) = ex - ((body.length : Int) - ((pend.drop k).length : Int)) := (by rw [List.length_drop];omega);rw [e3, e5, List.append_assoc];have e4 := fb_app fs (pend.take k, false);unfold qr;rw [e4];rfl
    refine ⟨k, true, fs ++ [(pend.take k, false)], pend.drop k, false, rfl, hr.on k hk1 (by omega) (by omega), ?_, hbw, by rw [List.length_drop];omega, by omega, by omega, fun h => h, fun h1 h2 h3 => .inr (by rw [List.length_drop];omega)⟩;rw [e2];exact hP
  ·have hb : false = (decide (0 < N) || pend.isEmpty) := by
    have h1 : decide (0 < N) = false := (by simp;omega);have h2 : pend.isEmpty = false := (by simp;exact fun h => hg (.inr h));rw [h1, h2];rfl
   have hk0 : k = 0 := (by omega);obtain ⟨m, hx, -⟩ := id hC;refine (Pull_no w ((1 : Nat) : Int) (most : Int) _ (hMay false hb m hx)).mono ?_;rintro r w' ⟨rfl, hbw⟩;refine ⟨0, false, fs, pend, false, rfl, hr, ⟨n, F, rfl, rfl, ?_⟩, hbw.mono hB, rfl, Nat.zero_le _, by show (0 : Int) ≤ _;omega, fun h => h, fun h1 h2 h3 => ?_⟩
   ·rw [eq0]
    exact hC.on hbw
   ·have : 0 < pend.length := List.length_pos_iff.2 (fun h => hg (.inr h))
    omega
open Go Go.RowKit Go.Dr
variable {w w' : World} {n : Nm} {m : Mm} {q q' : Cq}
theorem Grow_all {F : Nat → Prop} {c1 c3 c4 c5 c6 c7 c9 c10 c11 : Value} (w : World) (h : Cw w n q F) (x : Int) (hx1 : 1 ≤ x) (hx2 : x ≤ 2147483647) (hr : q.all ≤ 2147483647 - x) (ha : -2147483648 ≤ q.all) :
  Calls Tryz.prog 91 #[Ptr n.c, .agg #[.int .i64 8, c1, .int .i64 0, c3, c4, c5, c6, c7, .int .i64 x, c9, c10, c11]] w fun r w' => r = .returned (.tuple #[]) ∧ Goes w n F w' { q with all := q.all + x } := by
 have g0 := GoesF.refl h;obtain ⟨m, hx, rfl⟩ := h;obtain ⟨W, eW⟩ : ∃ W, W = w.alloc (.cells #[.int .i64 8, c1, .int .i64 0, c3, c4, c5, c6, c7, .int .i64 x, c9, c10, c11] 36) := ⟨_, rfl⟩;have hF : Blk W w.heap.size 36 #[.int .i64 8, c1, .int .i64 0, c3, c4, c5, c6, c7, .int .i64 x, c9, c10, c11] := (by rw [eW];exact Blk.new _ _ _);have hb : Below w.heap.size w W := (by rw [eW];exact (Below.refl _ _).alloc (Nat.le_refl _) _);have gW := g0.on hb;have hxW := hx.on hb;have f2 : W.cell? ⟨w.heap.size, 2, none⟩ = some (.int .i64 0) := hF.cell 2;have f8 : W.cell? ⟨w.heap.size, 8, none⟩ = some (.int .i64 x) := hF.cell 8;have y7 : W.cell? ⟨n.c, 7, none⟩ = some (Ptr n.bk) := hxW.blk.cell 7;have hGr := BookGrow_all x W hxW.book hx1 hx2 hr ha;have hGd := BookGrow_all x W.drew hxW.drew.book hx1 hx2 hr ha
 have key : ∀ {W0 w1 : World}, Cx W0 n m q → GoesF w n (Foot n m q) W0 q (Foot n m q) → Blk w1 n.bk 132 #[.int .i64 (q.all + x), .int .i64 q.first, .map (some n.om)] → But (fun k => k = n.bk) W0 w1 → Goes w n (Foot n m q) w1 { q with all := q.all + x } := fun {W0 w1} h0 g0 hB hb => by
  have ho : IMp w1 n.om q.off := h0.off.but hb (fun e => h0.om_bk e.symm);obtain ⟨-, k⟩ := h0.goesO hb (fun g hg => .inr hg) hB ho;exact (g0.comp k).goes
 go_enter Tryz.func91, Tryz.ntmps91
 go_upto_region 2 with fail;rw [← eW];clear eW
 go_region_with (first
  | (go_at_call 125;(with_reducible refine hGd.mono ?_);rintro r w1 ⟨rfl, hB1, hb1⟩;have K := key hxW.drew (gW.on (Below.refl _ _).drew) hB1 hb1)
  | (go_at_call 125;go_must ((with_reducible refine hGr.mono ?_);rintro r w1 ⟨rfl, hB1, hb1⟩;have K := key hxW gW hB1 hb1)))
 all_goals (
  refine post_cut (R := fun X => Goes w n (Foot n m q) X { q with all := q.all + x }) (by first | exact K | exact K.on (Below.refl _ _).drew) ?_;clear K hGr hGd key hxW y7 f2 f8 gW hF hb;rintro W3 g3;go_wp2;refine bodyPost_ret (v := .tuple #[]) (by simp [results, Tryz.results91, go_sem]) rfl ?_
  exact ⟨rfl, g3⟩)
abbrev calmM (s2 : Int) (skip : Bool) : Value := .agg #[.int .i64 s2, .bool skip, .bool false, .int .i64 0, .bool false]
theorem Move_calm (w : World) (i kind st : Int) (e : Bool) (s2 : Int) (skip : Bool) {p : Value}
  (hSt : Calls Tryz.prog 17 #[p, .int .i64 i] (w.alloc (.cells #[.int .i64 0, .bool false, .bool false, .int .i64 0, .bool false] 197)) fun r w' => r = .returned (.int .i64 st) ∧ w' = w.alloc (.cells #[.int .i64 0, .bool false, .bool false, .int .i64 0, .bool false] 197))
  (hCm : ∀ w : World, Calls Tryz.prog 121 #[.int .i64 st, .int .i64 kind, .bool e] w fun r w' => r = .returned (calmM s2 skip) ∧ Below w.heap.size w w') :
  Calls Tryz.prog 122 #[p, .int .i64 i, .int .i64 kind, .bool e] w fun r w' => r = .returned (.tuple #[calmM s2 skip, .bool (!skip)]) ∧ Below w.heap.size w w' := by
 have hbA : Below w.heap.size w (w.alloc (.cells #[.int .i64 0, .bool false, .bool false, .int .i64 0, .bool false] 197)) := (Below.refl _ _).alloc (Nat.le_refl _) _;have hR0 : Blk (w.alloc (.cells #[.int .i64 0, .bool false, .bool false, .int .i64 0, .bool false] 197)) w.heap.size 197 #[.int .i64 0, .bool false, .bool false, .int .i64 0, .bool false] := Blk.new _ _ _;obtain ⟨W, eW⟩ : ∃ W, W = w.alloc (.cells #[.int .i64 0, .bool false, .bool false, .int .i64 0, .bool false] 197) := ⟨_, rfl⟩;rw [← eW] at hSt hbA hR0;have hzW : W.heap.size = w.heap.size + 1 := (by rw [eW];simp);have HZ := Lib.hid hzW;clear hzW;go_enter Tryz.func122, Tryz.ntmps122
 go_upto_region 1 with fail;rw [← eW];clear eW
 go_upto_region 2 with first
  | (go_at_call 17;go_must ((with_reducible refine hSt.mono ?_);rintro r w1 ⟨rfl, e1⟩;have e2 := e1.symm;subst e2))
  | (go_at_call 121;go_must ((with_reducible refine (hCm _).mono ?_);rintro r w2 ⟨rfl, hb2⟩))
 have hz2 : w.heap.size < w2.heap.size := (by have := hb2.size;have := HZ.out;omega);refine wp_cut (R := fun X => Blk X w.heap.size 197 #[.int .i64 0, .bool false, .bool false, .int .i64 0, .bool false] ∧ Blk X w2.heap.size 197 #[.int .i64 s2, .bool skip, .bool false, .int .i64 0, .bool false] ∧ Below w.heap.size w X) ⟨(hR0.on hb2).alloc _, Blk.new _ _ _, (hbA.trans (hb2.mono hbA.size)).alloc (Nat.le_of_lt hz2) _⟩ ?_;clear hSt hbA hR0 hb2;rintro W3 ⟨hR3, hM3, g3⟩;obtain ⟨m0, m1, m2, m3, m4⟩ := hM3.c5;obtain ⟨z0, z1, z2, z3, z4⟩ := hR3.c5;have v0 := hR3.free 0;have v1 := hR3.free 1;have v2 := hR3.free 2;have v3 := hR3.free 3;have v4 := hR3.free 4
 cases skip
 all_goals (
  go_wp2;refine bodyPost_ret (results_cell_tmp Tryz.results122 rfl rfl (run_loadVar_row _ w.heap.size 197 197 _ (0, 0) _ (put5 hR3 _ _ _ _ _) Tryz.underlying197 (by rfl) (by kernel_rfl))) rfl ⟨rfl, ?_⟩
  exact bel5 g3 (Nat.le_refl _) _ _ _ _ _)
theorem Grow_done {F : Nat → Prop} {c1 c3 c4 c5 c6 c7 c8 c9 c10 c11 : Value} (w : World) (h : Cw w n q F) (i : Int) (hi0 : i ≠ 0) (hs : ∀ p ∈ q.how, p.1 ≠ i) (ho : ∀ p ∈ q.live, p.1 ≠ i) (h1 : ¬ i < 1) (h2 : ¬ q.last < i) (h3 : i % 2 = 1) (hl : q.last < 4294967296) :
  Calls Tryz.prog 91 #[Ptr n.c, .agg #[.int .i64 8, c1, .int .i64 i, c3, c4, c5, c6, c7, c8, c9, c10, c11]] w fun r w' => r = .returned (.tuple #[]) ∧ Goes w n F w' q := by
 have g0 := GoesF.refl h;obtain ⟨W, eW⟩ : ∃ W, W = w.alloc (.cells #[.int .i64 8, c1, .int .i64 i, c3, c4, c5, c6, c7, c8, c9, c10, c11] 36) := ⟨_, rfl⟩;have hF : Blk W w.heap.size 36 #[.int .i64 8, c1, .int .i64 i, c3, c4, c5, c6, c7, c8, c9, c10, c11] := (by rw [eW];exact Blk.new _ _ _);have hb : Below w.heap.size w W := (by rw [eW];exact (Below.refl _ _).alloc (Nat.le_refl _) _);have gW := g0.on hb;have f2 : W.cell? ⟨w.heap.size, 2, none⟩ = some (.int .i64 i) := hF.cell 2;have b2 : (i == 0) = false := (by simp [hi0]);have hMv := Move_calm W i 8 4 false 4 true (State_done _ (gW.h.on ((Below.refl _ _).alloc (Nat.le_refl _) _)) i hs ho h1 h2 h3 hl) (fun w => come_4_8_false w);go_enter Tryz.func91, Tryz.ntmps91
 go_upto_region 1 with fail;rw [← eW];clear eW;go_upto_region 5 with (go_at_call 122;go_must ((with_reducible refine hMv.mono ?_);rintro r w3 ⟨rfl, hb3⟩;have g3 := gW.on hb3))
 go_region
 go_wp2;go_end0
 exact ⟨rfl, (g3.goes.on ((Below.refl _ _).alloc (Nat.le_refl _) _)).on (Below.refl _ _).drew⟩
theorem Grow_live {F : Nat → Prop} {c1 c3 c4 c5 c6 c7 c9 c10 c11 : Value} (w : World) (h : Cw w n q F) (i : Int) (hi : I64 i) (x : Int) (hx1 : 1 ≤ x) (hx2 : x ≤ 2147483647) {s : Sp} (hs : (i, s) ∈ q.live) (hst : s.st = 2) (h1 : ¬ i < 1) (h2 : ¬ q.last < i) (h3 : i % 2 = 1) (hl : q.last < 4294967296) {y : Int} (hoff : q.off = [(i, y)]) (hi6 : I64 (q.first + y)) (hr : q.first + y ≤ 2147483647 - x) (hd1 : I64 (y + x)) :
  Calls Tryz.prog 91 #[Ptr n.c, .agg #[.int .i64 8, c1, .int .i64 i, c3, c4, c5, c6, c7, .int .i64 x, c9, c10, c11]] w fun r w' => r = .returned (.tuple #[]) ∧ Goes w n F w' { q with off := [(i, y + x)] } := by
 have g0 := GoesF.refl h;obtain ⟨m, hx, rfl⟩ := h;obtain ⟨W, eW⟩ : ∃ W, W = w.alloc (.cells #[.int .i64 8, c1, .int .i64 i, c3, c4, c5, c6, c7, .int .i64 x, c9, c10, c11] 36) := ⟨_, rfl⟩;have hF : Blk W w.heap.size 36 #[.int .i64 8, c1, .int .i64 i, c3, c4, c5, c6, c7, .int .i64 x, c9, c10, c11] := (by rw [eW];exact Blk.new _ _ _);have hb : Below w.heap.size w W := (by rw [eW];exact (Below.refl _ _).alloc (Nat.le_refl _) _);have gW := g0.on hb;have hxW := hx.on hb;have f2 : W.cell? ⟨w.heap.size, 2, none⟩ = some (.int .i64 i) := hF.cell 2;have hi0 : i ≠ 0 := (by omega);have b2 : (i == 0) = false := (by simp [hi0]);have hSL := State_live (W.alloc (.cells #[.int .i64 0, .bool false, .bool false, .int .i64 0, .bool false] 197)) (gW.h.on ((Below.refl _ _).alloc (Nat.le_refl _) _)) i s hs h1 h2 h3 hl;rw [hst] at hSL;have hMv := Move_calm W i 8 2 false 2 false hSL (fun w => come_2_8_false w)
 have key : ∀ {W0 w1 : World}, Cx W0 n m q → GoesF w n (Foot n m q) W0 q (Foot n m q) → Blk w1 n.bk 132 #[.int .i64 q.all, .int .i64 q.first, .map (some n.om)] → IMp w1 n.om ([] ++ (i, y + x) :: []) → But (fun k => k = n.om) W0 w1 → Goes w n (Foot n m q) w1 { q with off := [(i, y + x)] } := fun {W0 w1} h0 g0 hB ho hb => by
  obtain ⟨-, k⟩ := h0.goesO hb (fun g hg => .inl hg) hB ho;exact (g0.comp k).goes
 go_enter Tryz.func91, Tryz.ntmps91
 go_upto_region 1 with fail;rw [← eW];clear eW;go_upto_region 5 with (go_at_call 122;go_must ((with_reducible refine hMv.mono ?_);rintro r w3 ⟨rfl, hb3⟩))
 have hbA := hb3.alloc hb3.size (.cells #[.int .i64 2, .bool false, .bool false, .int .i64 0, .bool false] 197);refine wp_cut (R := fun X => Blk X w.heap.size 36 #[.int .i64 8, c1, .int .i64 i, c3, c4, c5, c6, c7, .int .i64 x, c9, c10, c11] ∧ Cx X n m q ∧ GoesF w n (Foot n m q) X q (Foot n m q)) ⟨hF.on hbA, hxW.on hbA, gW.on hbA⟩ ?_;clear hF hxW gW hbA hb3 f2 hMv hb;rintro X ⟨hF, hxX, gX⟩;have f2 : X.cell? ⟨w.heap.size, 2, none⟩ = some (.int .i64 i) := hF.cell 2;have f8 : X.cell? ⟨w.heap.size, 8, none⟩ = some (.int .i64 x) := hF.cell 8;have y7 : X.cell? ⟨n.c, 7, none⟩ = some (Ptr n.bk) := hxX.blk.cell 7;have ho : IMp X n.om ([] ++ (i, y) :: []) := (by have := hxX.off;rw [hoff] at this;exact this);have hGr := BookGrow_in (a := []) (c := []) x X (fun e => hxX.om_bk e.symm) hxX.book ho (by simp [maxLen]) hi (by omega) hi6 hx1 hx2 hr hd1;have hGd := BookGrow_in (a := []) (c := []) x X.drew (fun e => hxX.om_bk e.symm) hxX.drew.book ho.drew (by simp [maxLen]) hi (by omega) hi6 hx1 hx2 hr hd1
 go_region_with (first
  | (go_at_call 125;(with_reducible refine hGd.mono ?_);rintro r w1 ⟨rfl, hB1, ho1, hb1⟩;have K := key hxX.drew (gX.on (Below.refl _ _).drew) hB1 ho1 hb1)
  | (go_at_call 125;go_must ((with_reducible refine hGr.mono ?_);rintro r w1 ⟨rfl, hB1, ho1, hb1⟩;have K := key hxX gX hB1 ho1 hb1)))
 all_goals (
  refine post_cut (R := fun X => Goes w n (Foot n m q) X { q with off := [(i, y + x)] }) (by first | exact K | exact K.on (Below.refl _ _).drew) ?_;clear K hGr hGd key hxX y7 f2 f8 gX hF ho;rintro W3 g3;go_wp2;go_end0
  exact ⟨rfl, g3⟩)
end Go.Proofs.YtcodgfmombehoaaGreatDoor
