/- Parts of the proof of DealAsks_holds: the texts Law21a Open7. -/
import Derived.Deep.DeepCutAuto
import Derived.Test.YtahapblgmehngaaGreatDoorA45
import Derived.Test.YtahapblgmehngaaGreatDoorA35
set_option linter.unusedSimpArgs false
set_option linter.unusedVariables false
set_option linter.unnecessarySimpa false
namespace Go.Proofs.YtahapblgmehngaaGreatDoor
open Go.RowKit Go.Dr

theorem blk21 {w w' : World} {g : Nat} {t : TypeId} {xs : Array Value} (h : Keeps21 w w') (hb : Blk w g t xs) (h1 : t ≠ 100) (h2 : t ≠ 97) (h3 : t ≠ 70) (h4 : t ≠ 38) (h5 : t ≠ 72) : Blk w' g t xs := h g t xs h1 h2 h3 h4 h5 hb

set_option maxRecDepth 100000 in
set_option maxHeartbeats 4000000 in
theorem awake21_any (w : World) : Calls Tryz.prog 8 #[] w fun e w' => e = .returned (.bool true) ∧ Below w.heap.size w w' := by
  have HN := New_any 1000 (by omega) (by omega) w
  go_enter Tryz.func8, Tryz.ntmps8
  go_wp2_with fail
  refine HN.mono ?_
  rintro e w1 ⟨rfl, hb1, n1, n2, n3⟩
  have hs1 : Sh w.heap.size w.heap.size w1 (w.heap.size + 2) w.heap.size (w.heap.size + 1) 1000 0 [] := sh_new n1 n2 n3 (Nat.le_refl _) (by omega) (by omega)
  obtain ⟨B, hB0⟩ : ∃ B, B = w.heap.size := ⟨_, rfl⟩
  rw [← hB0] at hs1 hb1
  have HB := Lib.hid hB0
  rw [← hB0]
  clear HN n1 n2 n3 hB0
  have hB1 : B ≤ w1.heap.size := by rw [HB.out]; exact hb1.size
  obtain ⟨w2, e2⟩ : ∃ w2 : World, w2 = w1.alloc (.cells #[S [71, 69, 84], S [104, 116, 116, 112], S [104], S [47], .slice none 0 0] 28) := ⟨_, rfl⟩
  obtain ⟨G, eG⟩ : ∃ G, G = w1.heap.size := ⟨_, rfl⟩
  have hQ2 : Blk w2 G 28 #[S [71, 69, 84], S [104, 116, 116, 112], S [104], S [47], .slice none 0 0] := by rw [e2, eG]; exact Blk.new _ _ _
  have hb2 : Below w1.heap.size w1 w2 := by rw [e2]; exact (Below.refl _ _).alloc (Nat.le_refl _) _
  have HG := Lib.hid eG
  have HW2 := Lib.hid e2
  clear e2 eG
  go_upto_region 3 with fail
  rw [← HG.out, ← HW2.out]
  clear HG HW2
  obtain ⟨w3, e3⟩ : ∃ w3 : World, w3 = w2.alloc (.cells (fcells wakeF).toArray 60) := ⟨_, rfl⟩
  have hF3 : Fs w3.heap.size w3 (.slice (some ⟨w2.heap.size, 0, none⟩) 1 1) wakeF := by
    rw [e3]
    have h1 : Fs (w2.heap.size + 1) (w2.alloc (.cells (fcells wakeF).toArray 60)) (.slice (some ⟨w2.heap.size, 0, none⟩) 1 1) wakeF := Rd.lit w2 60 (fcells wakeF).toArray 3 1 rfl (by decide)
    exact h1.mono (by simp)
  have hb3 : Below w2.heap.size w2 w3 := by rw [e3]; exact (Below.refl _ _).alloc (Nat.le_refl _) _
  have hs3 := (hs1.below hb2).below hb3
  have hQ3 := hQ2.on hb3
  have hw3 : Below B w w3 := hb1.trans ((hb2.mono hB1).trans (hb3.mono (Nat.le_trans hB1 hb2.size)))
  have hK := Keep_any wakeQ 200 (.slice (some ⟨w2.heap.size, 0, none⟩) 1 1) [] wakeF [104, 105] 5 6 w3 (Rd.nil _ _ _) hF3 (by simp [fsum]) (by decide) (by decide)
  simp only [Rq.val] at hK
  (have x0 : w2.cell? ⟨G, 0, none⟩ = some (S [71, 69, 84]) := hQ2.cell 0; have x1 : w2.cell? ⟨G, 1, none⟩ = some (S [104, 116, 116, 112]) := hQ2.cell 1; have x2 : w2.cell? ⟨G, 2, none⟩ = some (S [104]) := hQ2.cell 2; have x3 : w2.cell? ⟨G, 3, none⟩ = some (S [47]) := hQ2.cell 3; have x4 : w2.cell? ⟨G, 4, none⟩ = some (.slice none 0 0) := hQ2.cell 4)
  go_wp2_with fail
  change Calls _ _ _ (w2.alloc (.cells (fcells wakeF).toArray 60)) _
  rw [← e3]
  refine hK.mono ?_
  rintro e w4 ⟨hb4, (⟨hno, -⟩ | ⟨-, v, rfl, hret⟩)⟩
  · rw [wake_kept] at hno
    cases hno
  have hit : itemK 0 wakeQ 200 [] wakeF [104, 105] 5 6 = ⟨0, keyR wakeQ, [], 200, wakeF, [104, 105], 5, 6⟩ := by
    unfold itemK
    rw [wake_pick, wake_strip]
  rw [hit] at hret
  obtain ⟨vp, vf, rfl, o1, o2⟩ := hret
  obtain ⟨ap, kp, rfl, -⟩ := (Fs.own o1).form
  obtain ⟨af, kf, rfl, -⟩ := (Fs.own o2).form
  simp only [List.length_cons, List.length_nil, Nat.zero_add] at o1 o2 ⊢
  have hs4 := hs3.below hb4
  have hQ4 := hQ3.on hb4
  have hB3 : B ≤ w3.heap.size := Nat.le_trans hB1 (Nat.le_trans hb2.size hb3.size)
  have hw4 : Below B w w4 := hw3.trans (hb4.mono hB3)
  clear hs1 hs3 hQ2 hQ3 hF3 hb1 hb2 hb3 hK e3 hit x0 x1 x2 x3 x4
  obtain ⟨w5, e5⟩ : ∃ w5 : World, w5 = w4.alloc (.cells #[S (keyR wakeQ), .slice ap 0 kp, .int .i64 200, .slice af 1 kf, S [104, 105], .int .i64 5, .int .i64 6] 36) := ⟨_, rfl⟩
  obtain ⟨E, eE⟩ : ∃ E, E = w4.heap.size := ⟨_, rfl⟩
  have hE5 : Blk w5 E 36 #[S (keyR wakeQ), .slice ap 0 kp, .int .i64 200, .slice af 1 kf, S [104, 105], .int .i64 5, .int .i64 6] := by rw [e5, eE]; exact Blk.new _ _ _
  have hb5 : Below w4.heap.size w4 w5 := by rw [e5]; exact (Below.refl _ _).alloc (Nat.le_refl _) _
  have HE := Lib.hid eE
  have HW5 := Lib.hid e5
  clear e5 eE
  have hs5 := hs4.below hb5
  have hQ5 := hQ4.on hb5
  have o1' := own_below o1 hb5
  have o2' := own_below o2 hb5
  have hB4 : B ≤ w4.heap.size := Nat.le_trans hB3 hb4.size
  have hw5 : Below B w w5 := hw4.trans (hb5.mono hB4)
  have hD := wake_first hs5
  simp only [Rq.val] at hD
  (have x0 : w5.cell? ⟨G, 0, none⟩ = some (S [71, 69, 84]) := hQ5.cell 0; have x1 : w5.cell? ⟨G, 1, none⟩ = some (S [104, 116, 116, 112]) := hQ5.cell 1; have x2 : w5.cell? ⟨G, 2, none⟩ = some (S [104]) := hQ5.cell 2; have x3 : w5.cell? ⟨G, 3, none⟩ = some (S [47]) := hQ5.cell 3; have x4 : w5.cell? ⟨G, 4, none⟩ = some (.slice none 0 0) := hQ5.cell 4)
  have hrk := run_kind 3 0 (S []) (.slice none 0 0) (.int .i64 0) (.slice none 0 0) (S []) (.int .i64 0) (.int .i64 0)
  go_upto_region 4 with fail
  rw [← HE.out, ← HW5.out]
  clear HE HW5
  go_wp2_with fail
  refine hD.mono ?_
  rintro e w6 ⟨rfl, hs6, hk6, hb6⟩
  have hQ6 := blk21 hk6 hQ5 (by decide) (by decide) (by decide) (by decide) (by decide)
  have hE6 := blk21 hk6 hE5 (by decide) (by decide) (by decide) (by decide) (by decide)
  have p1 := hk6.own o1' (by decide) (by decide) (by decide) (by decide) (by decide)
  have p2 := hk6.own o2' (by decide) (by decide) (by decide) (by decide) (by decide)
  have hB5 : B ≤ w5.heap.size := Nat.le_trans hB4 hb5.size
  have hw6 : Below B w w6 := hw5.trans (hb6.mono hB5)
  have hB6 : B ≤ w6.heap.size := Nat.le_trans hB5 hb6.size
  clear x0 x1 x2 x3 x4 hD hs4 hs5 hQ4 hQ5 hE5 o1 o2 o1' o2' hk6
  (have y0 : w6.cell? ⟨E, 0, none⟩ = some (S (keyR wakeQ)) := hE6.cell 0; have y1 : w6.cell? ⟨E, 1, none⟩ = some (.slice ap 0 kp) := hE6.cell 1; have y2 : w6.cell? ⟨E, 2, none⟩ = some (.int .i64 200) := hE6.cell 2; have y3 : w6.cell? ⟨E, 3, none⟩ = some (.slice af 1 kf) := hE6.cell 3; have y4 : w6.cell? ⟨E, 4, none⟩ = some (S [104, 105]) := hE6.cell 4; have y5 : w6.cell? ⟨E, 5, none⟩ = some (.int .i64 5) := hE6.cell 5; have y6 : w6.cell? ⟨E, 6, none⟩ = some (.int .i64 6) := hE6.cell 6)
  have hP := Put_any B B (B + 2) B (B + 1) 1000 0 [] ⟨keyR wakeQ, .slice ap 0 kp, 200, .slice af 1 kf, [104, 105], 5, 6⟩ [] wakeF w6 hs6 hB6 hB6 (fun w' hb => (Fo.but_s (t := 89) (B := 0) (l := []) (.inr (own_base p1 (Nat.zero_le _))) hs6 (fun _ _ => Nat.zero_le _) (Nat.zero_le _) hb (by decide) (by decide)).fs (Nat.zero_le _)) (fun w' hb => (Fo.but_s (t := 60) (B := 0) (l := wakeF) (.inr (own_base p2 (Nat.zero_le _))) hs6 (fun _ _ => Nat.zero_le _) (Nat.zero_le _) hb (by decide) (by decide)).fs (Nat.zero_le _)) (by show (keyR wakeQ).length ≤ _; decide) (by show ([104, 105] : Bytes).length ≤ _; decide) (by decide) (by decide) (by simp) (by omega) 1000 rfl (by show 64 + (keyR wakeQ).length + ([104, 105] : Bytes).length + fsum wakeF + fsum ([] : List F) ≤ _; decide)
  simp only [En.val] at hP
  go_wp2_with fail
  refine hP.mono ?_
  rintro e w7 ⟨rfl, nd, hnx, -, hs7, hb7⟩
  have hs7 : Sh B B w7 (B + 2) B (B + 1) 1000 1 [nd] := hs7
  have hnx : nd.x = ⟨1, keyR wakeQ, [], 200, wakeF, [104, 105], 5, 6⟩ := hnx
  have hQ7 := hQ6.but hb7 (hs6.off hQ6 (by decide) (by decide))
  have hw7 : Below B w w7 := hw6.trans (hb7.below hs6.base hB6)
  have hB7 : B ≤ w7.heap.size := Nat.le_trans hB6 hb7.size
  have hD := wake_found hs7 hB7 hnx
  simp only [Rq.val] at hD
  clear y0 y1 y2 y3 y4 y5 y6 hP hs6 hE6 hQ6 p1 p2 hb7
  (have x0 : w7.cell? ⟨G, 0, none⟩ = some (S [71, 69, 84]) := hQ7.cell 0; have x1 : w7.cell? ⟨G, 1, none⟩ = some (S [104, 116, 116, 112]) := hQ7.cell 1; have x2 : w7.cell? ⟨G, 2, none⟩ = some (S [104]) := hQ7.cell 2; have x3 : w7.cell? ⟨G, 3, none⟩ = some (S [47]) := hQ7.cell 3; have x4 : w7.cell? ⟨G, 4, none⟩ = some (.slice none 0 0) := hQ7.cell 4)
  go_wp2_with fail
  refine hD.mono ?_
  rintro e w8 ⟨⟨a1, c1, a2, c2, rfl⟩, hk8, hb8⟩
  have hQ8 := blk21 hk8 hQ7 (by decide) (by decide) (by decide) (by decide) (by decide)
  have hw8 : Below B w w8 := hw7.trans hb8
  clear x0 x1 x2 x3 x4 hD hs7 hQ7 hk8 hnx
  obtain ⟨w9, e9⟩ : ∃ w9 : World, w9 = w8.alloc (.cells #[.int .i64 1, .int .i64 1, S (keyR wakeQ), .slice a1 0 c1, .int .i64 200, .slice a2 1 c2, S [104, 105], .int .i64 5, .int .i64 6] 38) := ⟨_, rfl⟩
  obtain ⟨D, eD⟩ : ∃ D, D = w8.heap.size := ⟨_, rfl⟩
  have hD9 : Blk w9 D 38 #[.int .i64 1, .int .i64 1, S (keyR wakeQ), .slice a1 0 c1, .int .i64 200, .slice a2 1 c2, S [104, 105], .int .i64 5, .int .i64 6] := by rw [e9, eD]; exact Blk.new _ _ _
  have hb9 : Below w8.heap.size w8 w9 := by rw [e9]; exact (Below.refl _ _).alloc (Nat.le_refl _) _
  have HD := Lib.hid eD
  have HW9 := Lib.hid e9
  clear e9 eD
  have hQ9 := hQ8.on hb9
  have hw9 : Below B w w9 := hw8.trans (hb9.mono (Nat.le_trans hB7 hb8.size))
  have hNil := wake_nil w9
  simp only [Rq.val] at hNil
  go_upto_region 8 with fail
  rw [← HD.out, ← HW9.out]
  clear HD HW9
  (have x0 : w9.cell? ⟨G, 0, none⟩ = some (S [71, 69, 84]) := hQ9.cell 0; have x1 : w9.cell? ⟨G, 1, none⟩ = some (S [104, 116, 116, 112]) := hQ9.cell 1; have x2 : w9.cell? ⟨G, 2, none⟩ = some (S [104]) := hQ9.cell 2; have x3 : w9.cell? ⟨G, 3, none⟩ = some (S [47]) := hQ9.cell 3; have x4 : w9.cell? ⟨G, 4, none⟩ = some (.slice none 0 0) := hQ9.cell 4)
  have y0 : w9.cell? ⟨D, 0, none⟩ = some (.int .i64 1) := hD9.cell 0
  have y6 : w9.cell? ⟨D, 2 + 4, none⟩ = some (S [104, 105]) := hD9.cell 6
  have y6' : w9.cell? ⟨D, 6, none⟩ = some (S [104, 105]) := hD9.cell 6
  go_wp2_with fail
  refine hNil.mono ?_
  rintro e w10 ⟨rfl, hb10⟩
  have hw10 : Below B w w10 := hw9.trans (hb10.mono (Nat.le_trans (Nat.le_trans hB7 hb8.size) hb9.size))
  go_wp2
  go_ret
  exact ⟨rfl, by rw [← HB.out]; exact hw10⟩
end Go.Proofs.YtahapblgmehngaaGreatDoor

namespace Go.Dr
open Go.RowKit Go.ChangeShapes Go.WideShapes Go.Deep Go.Joins
open Go.ChangeMaps (open_string)

/-- An answer that may be kept: its request, what was answered; the fields of both. -/
structure Kv where
  r : Rq
  st : Int
  vf : Value
  body : Bytes
  asked : Int
  came : Int
  lr : List F
  lf : List F
instance : Inhabited Kv := ⟨⟨⟨[], [], [], [], .slice none 0 0⟩, 0, .slice none 0 0, [], 0, 0, [], []⟩⟩
def Kv.cells (k : Kv) : List Value := [S k.r.m, S k.r.s, S k.r.a, S k.r.p, k.r.v, .int .i64 k.st, k.vf, S k.body, .int .i64 k.asked, .int .i64 k.came]
def Kv.val (k : Kv) : Value := .agg #[S k.r.m, S k.r.s, S k.r.a, S k.r.p, k.r.v, .int .i64 k.st, k.vf, S k.body, .int .i64 k.asked, .int .i64 k.came]
def kcells (l : List Kv) : List Value := l.flatMap Kv.cells
def Kv.Ok (k : Kv) : Prop := k.r.Ok ∧ I64 k.st ∧ k.body.length ≤ 140737488351232 ∧ I64 k.asked ∧ I64 k.came ∧ FOk k.lr ∧ FOk k.lf
def Kv.Fss (B : Nat) (w : World) (k : Kv) : Prop := Fs B w k.r.v k.lr ∧ Fs B w k.vf k.lf
def Ks (B : Nat) (w : World) (v : Value) (l : List Kv) : Prop := Rd B w 10 v l.length (kcells l) ∧ ∀ k ∈ l, k.Fss B w
theorem Kv.Fss.below {B : Nat} {w w' : World} {k : Kv} (h : k.Fss B w) (hb : Below B w w') : k.Fss B w' := ⟨h.1.below hb, h.2.below hb⟩
theorem Kv.Fss.mono {B B' : Nat} {w : World} {k : Kv} (h : k.Fss B w) (hb : B ≤ B') : k.Fss B' w := ⟨h.1.mono hb, h.2.mono hb⟩
theorem Ks.below {B : Nat} {w w' : World} {v : Value} {l : List Kv} (h : Ks B w v l) (hb : Below B w w') : Ks B w' v l := ⟨h.1.below hb, fun x hx => (h.2 x hx).below hb⟩
theorem Ks.mono {B B' : Nat} {w : World} {v : Value} {l : List Kv} (h : Ks B w v l) (hb : B ≤ B') : Ks B' w v l := ⟨h.1.mono hb, fun x hx => (h.2 x hx).mono hb⟩
theorem Ks.form {B : Nat} {w : World} {v : Value} {l : List Kv} (h : Ks B w v l) : ∃ a cap, v = .slice a l.length cap ∧ l.length ≤ 9223372036854775807 := by
  obtain ⟨⟨a, cap, h1, h2, h3, _⟩, _⟩ := h
  exact ⟨a, cap, h1, by unfold maxLen at h3; omega⟩
theorem Ks.at {B : Nat} {w : World} {a : Option Addr} {n cap : Nat} {l : List Kv} (h : Ks B w (.slice a n cap) l) (k : Nat) (hk : k < l.length) :
    ∃ b off, a = some ⟨b, off, none⟩ ∧ b < B ∧ w.cell? ⟨b, off + k * 10, none⟩ = some (S l[k].r.m) ∧ w.cell? ⟨b, off + k * 10 + 1, none⟩ = some (S l[k].r.s) ∧ w.cell? ⟨b, off + k * 10 + 2, none⟩ = some (S l[k].r.a) ∧ w.cell? ⟨b, off + k * 10 + 3, none⟩ = some (S l[k].r.p) ∧ w.cell? ⟨b, off + k * 10 + 4, none⟩ = some l[k].r.v ∧ w.cell? ⟨b, off + k * 10 + 5, none⟩ = some (.int .i64 l[k].st) ∧ w.cell? ⟨b, off + k * 10 + 6, none⟩ = some l[k].vf ∧ w.cell? ⟨b, off + k * 10 + 7, none⟩ = some (S l[k].body) ∧ w.cell? ⟨b, off + k * 10 + 8, none⟩ = some (.int .i64 l[k].asked) ∧ w.cell? ⟨b, off + k * 10 + 9, none⟩ = some (.int .i64 l[k].came) := by
  obtain ⟨⟨a', cap', h1, h2, h3, h4, h5, h6⟩, _⟩ := h
  simp only [Value.slice.injEq] at h1
  obtain ⟨rfl, rfl, rfl⟩ := h1
  have hg : ∀ j, j < 10 → (kcells l)[k * 10 + j]? = (l[k].cells)[j]? := fun j hj => flat_get Kv.cells 10 (fun _ => rfl) l k hk j hj
  obtain ⟨b, off, rfl, hb, c0⟩ := h6 (k * 10 + 0) _ (by rw [hg 0 (by omega)]; rfl)
  have hc : ∀ (j : Nat) (u : Value), j < 10 → (l[k].cells)[j]? = some u → w.cell? ⟨b, off + (k * 10 + j), none⟩ = some u := fun j u hj hu => by
    obtain ⟨b1, off1, e1, _, c1⟩ := h6 (k * 10 + j) u (by rw [hg j hj]; exact hu)
    simp only [Option.some.injEq, Addr.mk.injEq, and_true] at e1
    obtain ⟨rfl, rfl⟩ := e1
    exact c1
  refine ⟨b, off, rfl, hb, c0, ?_, ?_, ?_, ?_, ?_, ?_, ?_, ?_, ?_⟩
  · rw [Nat.add_assoc]; exact hc 1 _ (by omega) rfl
  · rw [Nat.add_assoc]; exact hc 2 _ (by omega) rfl
  · rw [Nat.add_assoc]; exact hc 3 _ (by omega) rfl
  · rw [Nat.add_assoc]; exact hc 4 _ (by omega) rfl
  · rw [Nat.add_assoc]; exact hc 5 _ (by omega) rfl
  · rw [Nat.add_assoc]; exact hc 6 _ (by omega) rfl
  · rw [Nat.add_assoc]; exact hc 7 _ (by omega) rfl
  · rw [Nat.add_assoc]; exact hc 8 _ (by omega) rfl
  · rw [Nat.add_assoc]; exact hc 9 _ (by omega) rfl

/-- A request that came in, and its fields. -/
structure Qx where
  q : Rq
  l : List F
instance : Inhabited Qx := ⟨⟨⟨[], [], [], [], .slice none 0 0⟩, []⟩⟩
def Qx.cells (x : Qx) : List Value := [S x.q.m, S x.q.s, S x.q.a, S x.q.p, x.q.v]
def qcells (l : List Qx) : List Value := l.flatMap Qx.cells
def Qx.Ok (x : Qx) : Prop := x.q.Ok ∧ FOk x.l
def Qs (B : Nat) (w : World) (v : Value) (l : List Qx) : Prop := Rd B w 5 v l.length (qcells l) ∧ ∀ x ∈ l, Fs B w x.q.v x.l
theorem Qs.below {B : Nat} {w w' : World} {v : Value} {l : List Qx} (h : Qs B w v l) (hb : Below B w w') : Qs B w' v l := ⟨h.1.below hb, fun x hx => (h.2 x hx).below hb⟩
theorem Qs.mono {B B' : Nat} {w : World} {v : Value} {l : List Qx} (h : Qs B w v l) (hb : B ≤ B') : Qs B' w v l := ⟨h.1.mono hb, fun x hx => (h.2 x hx).mono hb⟩
theorem Qs.form {B : Nat} {w : World} {v : Value} {l : List Qx} (h : Qs B w v l) : ∃ a cap, v = .slice a l.length cap ∧ l.length ≤ 9223372036854775807 := by
  obtain ⟨⟨a, cap, h1, h2, h3, _⟩, _⟩ := h
  exact ⟨a, cap, h1, by unfold maxLen at h3; omega⟩
theorem Qs.at {B : Nat} {w : World} {a : Option Addr} {n cap : Nat} {l : List Qx} (h : Qs B w (.slice a n cap) l) (k : Nat) (hk : k < l.length) :
    ∃ b off, a = some ⟨b, off, none⟩ ∧ b < B ∧ w.cell? ⟨b, off + k * 5, none⟩ = some (S l[k].q.m) ∧ w.cell? ⟨b, off + k * 5 + 1, none⟩ = some (S l[k].q.s) ∧ w.cell? ⟨b, off + k * 5 + 2, none⟩ = some (S l[k].q.a) ∧ w.cell? ⟨b, off + k * 5 + 3, none⟩ = some (S l[k].q.p) ∧ w.cell? ⟨b, off + k * 5 + 4, none⟩ = some l[k].q.v := by
  obtain ⟨⟨a', cap', h1, h2, h3, h4, h5, h6⟩, _⟩ := h
  simp only [Value.slice.injEq] at h1
  obtain ⟨rfl, rfl, rfl⟩ := h1
  have hg : ∀ j, j < 5 → (qcells l)[k * 5 + j]? = (l[k].cells)[j]? := fun j hj => flat_get Qx.cells 5 (fun _ => rfl) l k hk j hj
  obtain ⟨b, off, rfl, hb, c0⟩ := h6 (k * 5 + 0) _ (by rw [hg 0 (by omega)]; rfl)
  have hc : ∀ (j : Nat) (u : Value), j < 5 → (l[k].cells)[j]? = some u → w.cell? ⟨b, off + (k * 5 + j), none⟩ = some u := fun j u hj hu => by
    obtain ⟨b1, off1, e1, _, c1⟩ := h6 (k * 5 + j) u (by rw [hg j hj]; exact hu)
    simp only [Option.some.injEq, Addr.mk.injEq, and_true] at e1
    obtain ⟨rfl, rfl⟩ := e1
    exact c1
  refine ⟨b, off, rfl, hb, c0, ?_, ?_, ?_, ?_⟩
  · rw [Nat.add_assoc]; exact hc 1 _ (by omega) rfl
  · rw [Nat.add_assoc]; exact hc 2 _ (by omega) rfl
  · rw [Nat.add_assoc]; exact hc 3 _ (by omega) rfl
  · rw [Nat.add_assoc]; exact hc 4 _ (by omega) rfl

section
variable {H : Type} {enc : TypeId × Value → H} {P : Program} {w : World} {base : Nat} {spare : Nat → Bool} {held : Bool}

end
end Go.Dr

