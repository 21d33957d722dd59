/- Parts of the proof of pt_root: the texts Snt3 Enc1 Enc2 Enc3. -/
import Derived.Great.BuildSlice
import Derived.Great.Walk
import Derived.Test.YtkeeofhjdffhbaaGreatDoorT27
import Derived.Test.YtkeeofhjdffhbaaGreatDoorT25
import Derived.Test.YtkeeofhjdffhbaaGreatDoorT26
set_option linter.unusedSimpArgs false
set_option linter.unusedVariables false
set_option linter.unnecessarySimpa false
namespace Go.Proofs.YtkeeofhjdffhbaaGreatDoor
open Go.RowKit Go.Dr
/-- a new peer, its parts named -/
structure P1 (w : World) (p fo fi o d m t : Nat) (pre : Nat) (beg sets : Int) : Prop where
 blk : Blk w p 97 (px fo fi o d m 65535 beg sets 0 (.slice none 0 0) true 0 false (.slice none 0 0) 2147483647 0)
 map : w.heap[m]? = some (.map #[] 0)
 off : w.heap[o]? = some (.map #[] 0)
 out : Blk w fo 158 (feedC 16384 pre (.slice none 0 0) false)
 feed : Blk w fi 158 (feedC 16777215 24 (.slice none 0 0) false)
 ne : fo ≠ fi
 mo : m ≠ o
 decB : Blk w d 163 #[.int .i64 65536, .int .i64 1099511627776, Ptr t, .bool false]
 tab : ∃ a b, Blk w t 210 #[.int .i64 4096, .int .i64 0, .slice none 0 0, .int .i64 0, a, b]
theorem kp_but {p o fo : Nat} {w w2 : World} {ps fs : Array Value} {ms : Array MapEntry} {n : Nat} {S : Nat → Prop} (hb : But S w w2) (hS : ∀ g, S g → g = p ∨ g = fo ∨ ∃ ms n, w.heap[g]? = some (.map ms n)) (hP : Blk w p 97 ps) (hF : Blk w fo 158 fs) : Kp w w2 :=
 Kp.of hb fun g cur tt ht hg e => by
  rcases hS g e with e | e | ⟨ms, n, e⟩
  ·have h5 := blk_type (e ▸ hg) hP
   rcases ht with rfl | rfl | rfl <;> exact absurd h5 (by decide)
  ·have h5 := blk_type (e ▸ hg) hF
   rcases ht with rfl | rfl | rfl <;> exact absurd h5 (by decide)
  ·rw [e] at hg;simp at hg
variable {p fo fi o d m t s : Nat}
set_option maxRecDepth 100000 in
set_option maxHeartbeats 4000000 in
/-- the preface, settings, a request -/
theorem Sent_hello (n : Nat) (hn : n < 2147483648) (l : Bytes) (hl : l.length ≤ 16384) (vb : Value) (w : World) (h : P1 w p fo fi o d m t 0 65535 0) (hB : By w.heap.size w vb (prefB ++ (frB 4 0 0 (beP 4 2 ++ beP n 4) ++ frB 1 5 1 l))) :
  Calls Tryz.prog 9 #[Ptr p, vb] w fun e w' => e = .returned (.tuple #[]) ∧ But (fun g => g = p ∨ g = o ∨ g = fo ∨ g = m) w w' ∧ ∃ s, w.heap.size ≤ s ∧ Pw w' p fo fi o d m t s ⟨65535, n, 1, 0, true, false, [], 0⟩ := by
 have hlen : (frB 4 0 0 (beP 4 2 ++ beP n 4) ++ frB 1 5 1 l).length = 24 + l.length := by simp only [List.length_append, frB_length, beP_length _ _ (show 2 ≤ 4 by decide), beP_length _ _ (show 4 ≤ 4 by decide)];omega
 have hR := itemsF_2 (k := (frB 4 0 0 (beP 4 2 ++ beP n 4) ++ frB 1 5 1 l).length + 1) (tk_set1 (most := 16384) (n := n) (by decide) hn) (tk_head l hl 5 (.inr rfl)) (by decide) (by omega)
 have hT := Feed_first (fb := fo) (most := 16384) _ vb w (by decide) h.out hB (by omega)
 rw [hR] at hT
 have ty' : ∀ {g b : Nat} {t t' : TypeId} {xs ys : Array Value} {w : World}, Blk w g t xs → Blk w b t' ys → t ≠ t' → g ≠ b := fun h1 h2 hne e => hne (blk_type (e ▸ h1) h2)
 have keep : ∀ {w w' : World} {pre : Nat} {beg sets : Int} {S : Nat → Prop}, P1 w p fo fi o d m t pre beg sets → But S w w' → (∀ g, S g → g = p ∨ g = fo) → ∀ {pre' : Nat} {beg' sets' : Int}, Blk w' p 97 (px fo fi o d m 65535 beg' sets' 0 (.slice none 0 0) true 0 false (.slice none 0 0) 2147483647 0) → Blk w' fo 158 (feedC 16384 pre' (.slice none 0 0) false) → P1 w' p fo fi o d m t pre' beg' sets' := by
  intro w w' pre beg sets S h hb hS pre' beg' sets' hP hF
  obtain ⟨a, b, hT⟩ := h.tab
  refine ⟨hP, (hb.block m (lt_of_block h.map) fun e => ?_).trans h.map, (hb.block o (lt_of_block h.off) fun e => ?_).trans h.off, hF, h.feed.but hb fun e => ?_, h.ne, h.mo, h.decB.but hb fun e => ?_, a, b, hT.but hb fun e => ?_⟩
  ·rcases hS _ e with e | e
   ·exact map_blk h.map h.blk e
   ·exact map_blk h.map h.out e
  ·rcases hS _ e with e | e
   ·exact map_blk h.off h.blk e
   ·exact map_blk h.off h.out e
  ·rcases hS _ e with e | e
   ·exact ty' h.feed h.blk (by decide) e
   ·exact h.ne e.symm
  ·rcases hS _ e with e | e
   ·exact ty' h.decB h.blk (by decide) e
   ·exact ty' h.decB h.out (by decide) e
  ·rcases hS _ e with e | e
   ·exact ty' hT h.blk (by decide) e
   ·exact ty' hT h.out (by decide) e
 refine (Sent_run vb w (h.blk.cell 0) [({ ty := 4, sets := [(4, n)] }, {}), ({ ty := 1, fl := 5, st := 1, data := l }, {})] (fun w1 => But (fun k => k = fo) w w1 ∧ Blk w1 fo 158 (feedC 16384 24 (.slice none 0 0) false)) ?_
  (fun k w' => But (fun g => g = p ∨ g = o ∨ g = fo ∨ g = m) w w' ∧ (match k with | 0 => P1 w' p fo fi o d m t 24 65535 0 | 1 => P1 w' p fo fi o d m t 24 n 1 | _ => ∃ s, w.heap.size ≤ s ∧ Pw w' p fo fi o d m t s ⟨65535, n, 1, 0, true, false, [], 0⟩)) ?_ ?_ ?_ ?_).mono ?_
 ·refine hT.mono ?_
  rintro e w1 ⟨v, its, v', rfl, hits, hrow, hsets, hfeed, hv', hbut, hz⟩
  obtain rfl := hz rfl
  exact ⟨v, its, rfl, hits, hrow, hsets, hbut, hfeed⟩
 ·rintro w1 ⟨hb1, hF1⟩
  exact ⟨hb1.more fun g hg => .inr (.inr (.inl hg)), keep h hb1 (fun g hg => .inr hg) (h.blk.but hb1 (ty' h.blk h.out (by decide))) hF1⟩
 ·rintro k w' ob ⟨h2, h3⟩
  have hb := (Below.refl w'.heap.size w').alloc (Nat.le_refl _) ob
  have hP1 : ∀ {beg sets : Int}, P1 w' p fo fi o d m t 24 beg sets → P1 (w'.alloc ob) p fo fi o d m t 24 beg sets := fun h => keep (S := fun _ => False) h (But.of_below hb) (fun _ e => e.elim) (h.blk.on hb) (h.out.on hb)
  refine ⟨h2.alloc _, ?_⟩
  match k with
  | 0 => exact hP1 h3
  | 1 => exact hP1 h3
  | _ + 2 => obtain ⟨s, hs, hP⟩ := h3;exact ⟨s, hs, hP.on hb⟩
 ·intro k hk
  match k, hk with
  | 0, _ => rfl
  | 1, _ => rfl
 ·rintro k w' vs ⟨h2, h3⟩ hk ⟨b, hrow⟩
  obtain ⟨sa, sc, rfl⟩ := own_form hrow
  match k, hk with
  | 0, _ =>
   have h3 : P1 w' p fo fi o d m t 24 65535 0 := h3
   refine (sent_set (n := n) w' h3.blk rfl rfl (by decide) (by decide) hrow).mono ?_
   rintro e w2 ⟨rfl, hP2, hb2⟩
   exact ⟨rfl, kp_but (p := p) (o := o) (fo := fo) (ms := #[]) (n := 0) hb2 (fun g hg => .inl hg) h3.blk h3.out, h2.trans (hb2.more fun g hg => .inl hg), keep h3 hb2 (fun g hg => .inl hg) hP2 (h3.out.but hb2 (ty' h3.out h3.blk (by decide)))⟩
  | 1, _ =>
   have h3 : P1 w' p fo fi o d m t 24 n 1 := h3
   obtain ⟨ta, tb, hTb⟩ := h3.tab
   refine (sent_head w' h3.blk rfl rfl rfl h3.map h3.off (fun e => h3.mo e.symm)).mono ?_
   rintro e w2 ⟨rfl, s, hs, hP2, hM2, hS2, hO2, hb2⟩
   have hne : ∀ {g : Nat} {t : TypeId} {xs : Array Value}, Blk w' g t xs → t ≠ 97 → Blk w2 g t xs := fun hG ht => hG.but hb2 (by
    rintro (e | e | e)
    ·exact ty' hG h3.blk ht e
    ·exact map_blk h3.map hG e.symm
    ·exact map_blk h3.off hG e.symm)
   refine ⟨rfl, kp_but (p := p) (o := o) (fo := fo) (ms := #[]) (n := 0) hb2 (fun g hg => ?_) h3.blk h3.out, h2.trans (hb2.more fun g hg => ?_), s, Nat.le_trans h2.size hs, ⟨⟨_, 0, false, _, hP2, rfl, fun _ => rfl⟩, hS2, hM2, hO2, hne h3.out (by decide), hne h3.feed (by decide), h3.ne, h3.mo, fun _ => ⟨hne h3.decB (by decide), ta, tb, hne hTb (by decide)⟩⟩⟩
   ·rcases hg with hg | hg | hg
    ·exact .inl hg
    ·exact .inr (.inr ⟨_, _, hg ▸ h3.map⟩)
    ·exact .inr (.inr ⟨_, _, hg ▸ h3.off⟩)
   ·rcases hg with hg | hg | hg
    ·exact .inl hg
    ·exact .inr (.inr (.inr hg))
    ·exact .inr (.inl hg)
 ·rintro e w' ⟨rfl, h2, h3⟩
  exact ⟨rfl, h2, h3⟩
end Go.Proofs.YtkeeofhjdffhbaaGreatDoor
namespace Go.Proofs.YtkeeofhjdffhbaaGreatDoor
open Go.RowKit Go.Dr
set_option maxRecDepth 100000 in
set_option maxHeartbeats 4000000 in
theorem rPutInt_eight (w : World) : Calls Tryz.prog 42 #[.int .u8 128, .int .i64 7, .int .u32 8] w fun e w' => ∃ v, e = .returned v ∧ w'.ownsRow w.heap.size 5 1 v 1 [.int .u8 136] ∧ Below w.heap.size w w' := by
 go_enter Tryz.func42, Tryz.ntmps42
 go_wp2
 refine wp_loop_rounds 8 ?_
 rw [rounds_succ]
 go_wp2
 rw [rounds_succ]
 go_wp2
 rw [rounds_succ]
 go_wp2
 rw [rounds_succ]
 go_wp2
 rw [rounds_succ]
 go_wp2
 rw [rounds_succ]
 go_wp2
 rw [rounds_succ]
 go_wp2
 rw [rounds_succ]
 go_wp2
 go_ret
 exact ⟨_, rfl, World.ownsRow_lit (base := w.heap.size) (e := 5) (size := 1) w #[.int .u8 136] 1 (Nat.le_refl _) (by decide) rfl, (Below.refl _ _).alloc (Nat.le_refl _) _⟩
set_option maxRecDepth 100000 in
set_option maxHeartbeats 4000000 in
theorem rNewEnc (w : World) : Calls Tryz.prog 11 #[.int .i64 4096] w fun e w' => e = .returned (Ptr w.heap.size) ∧ Blk w' w.heap.size 109 #[.int .i64 4096, .int .i64 4096, .int .i64 4096, .int .i64 4096, .slice none 0 0] ∧ Below w.heap.size w w' := by
 go_enter Tryz.func11, Tryz.ntmps11
 go_wp2
 go_ret
 exact ⟨rfl, Blk.new _ _ _, (Below.refl _ _).alloc (Nat.le_refl _) _⟩
def refC : Array Value := (statL.flatMap fun p => [S p.1, S p.2, .bool false]).toArray
def refParts : Array (Nat × Operand) := ((List.range 61).map fun i => (i, Operand.tmp (i + 1))).toArray
theorem eval_put {a : Act} {t : Tmp} {v : Value} (h : t < a.tmps.size) : (a.put (some t) v).eval (.tmp t) = v := by
 simp [Act.put, Act.eval, h]
set_option maxRecDepth 100000 in
set_option maxHeartbeats 4000000 in
theorem rStatic (w : World) : Calls Tryz.prog 81 #[] w fun e w' => e = .returned (.slice (some ⟨w.heap.size, 0, none⟩) 61 61) ∧ w' = w.alloc (.cells refC 41) := by
 obtain ⟨ie, hie, hz, hsz, -⟩ := info_parts (P := Tryz.prog) (e := 41) (z := .agg #[S [], S [], .bool false]) (size := 3) (bytes := 40) (by kernel_rfl)
 go_enter Tryz.func81, Tryz.ntmps81
 go_upto_region 1 with fail
 refine wp_region_lit ?_
 refine wpList_builds (fun a => (Instr.fill (fun i => some (i * 3, 3)) ((Array.range (61 * 3)).map ((#[S [], S [], .bool false] : Array Value)[· % 3]!)) (refParts.map fun (i, x) => (i, a.eval x)).toList, a.tmps.size, a.defers)) (some refC, 63, []) 61 _ _ (by kernel_rfl) ?_
 intro a' ha
 simp only [Prod.mk.injEq] at ha
 obtain ⟨k1, k2, k3⟩ := ha
 have ev : (a'.put (some 62) (.slice (some ⟨w.heap.size, 0, none⟩) 61 61)).eval (.tmp 62) = .slice (some ⟨w.heap.size, 0, none⟩) 61 61 := eval_put (by rw [k2];decide)
 obtain ⟨a2, ea2⟩ : ∃ a2, a2 = a'.put (some 62) (.slice (some ⟨w.heap.size, 0, none⟩) 61 61) := ⟨_, rfl⟩
 have s2 : a2.tmps.size = 63 := by rw [ea2];simp [Act.put, k2]
 have d2 : a2.defers = [] := by rw [ea2];exact k3
 rw [← ea2] at ev
 refine Go.wpList_buildSlice rfl 42 41 61 refParts (by kernel_rfl) refC ie _ Tryz.underlying42 hie hz (by rw [hsz];decide) (by rw [hsz];decide) (by rw [hsz];exact k1) ?_
 rw [← ea2]
 refine Great.wpList_readTo rfl (some 0) rfl (.slice (some ⟨w.heap.size, 0, none⟩) 61 61) (by simp [execOp, ev]) ?_
 refine wpList_nil ?_
 obtain ⟨a3, ea3⟩ : ∃ a3, a3 = a2.put (some 0) (.slice (some ⟨w.heap.size, 0, none⟩) 61 61) := ⟨_, rfl⟩
 have t3 : a3.tmps.getD 0 undef = .slice (some ⟨w.heap.size, 0, none⟩) 61 61 := by rw [ea3];simp [Act.put, s2]
 have d3 : a3.defers = [] := by rw [ea3];exact d2
 rw [← ea3]
 clear ea3 ea2 ev s2 d2 k1 k2 k3
 go_wp2
 refine bodyPost_ret (results_tmp Tryz.results81 _ _ _) d3 ⟨by rw [t3], rfl⟩
end Go.Proofs.YtkeeofhjdffhbaaGreatDoor
namespace Go.Proofs.YtkeeofhjdffhbaaGreatDoor
open Go.RowKit Go.Dr
theorem own_cell {w : World} {base : Nat} {e : TypeId} {size n c : Nat} {a : Option Addr} {xs : List Value} (h : w.ownsRow base e size (.slice a n c) n xs) (hn : 0 < n) : ∃ g, a = some ⟨g, 0, none⟩ ∧ ∀ (j : Nat) (u : Value), xs[j]? = some u → w.cell? ⟨g, j, none⟩ = some u := by
 rcases h.2 with ⟨-, h0⟩ | ⟨g, cap, cur, hv, -, hg, -, -, -, ht⟩
 ·omega
 ·simp only [Value.slice.injEq] at hv
  refine ⟨g, hv.1, fun j u hu => ?_⟩
  have hj : j < n * size := by rw [← h.1];exact (List.getElem?_eq_some_iff.1 hu).1
  simp only [World.cell?, hg]
  rw [← ht, List.getElem?_take_of_lt hj] at hu
  simpa using hu
set_option maxRecDepth 100000 in
set_option maxHeartbeats 4000000 in
theorem rFind_eight {eb : Nat} {c0 c1 c2 c3 : Value} (w : World) (hE : Blk w eb 109 #[c0, c1, c2, c3, .slice none 0 0]) :
  Calls Tryz.prog 43 #[.pointer (some ⟨eb, 3, none⟩), .agg stat8] w fun e w' => e = .returned (.tuple #[.int .i64 8, .bool true]) ∧ Below w.heap.size w w' := by
 obtain ⟨W, eW⟩ : ∃ W, W = w.alloc (.cells stat8 41) := ⟨_, rfl⟩
 have hb : Below w.heap.size w W := by rw [eW];exact (Below.refl _ _).alloc (Nat.le_refl _) _
 have hF : Blk W w.heap.size 41 stat8 := by rw [eW];exact Blk.new _ _ _
 have hEW := hE.on hb
 have hWl := hF.lt
 have x4 : W.cell? ⟨eb, 4, none⟩ = some (.slice none 0 0) := hEW.cell 4
 have x4a : ∀ ob, (W.alloc ob).cell? ⟨eb, 4, none⟩ = some (.slice none 0 0) := fun ob => (hEW.alloc ob).cell 4
 have hO : (W.drew.alloc (.cells refC 41)).ownsRow W.heap.size 41 3 (.slice (some ⟨W.drew.heap.size, 0, none⟩) 61 61) 61 refC.toList := World.ownsRow_lit (base := W.heap.size) (e := 41) (size := 3) W.drew refC 61 (Nat.le_refl _) (by decide) (by kernel_rfl)
 go_enter Tryz.func43, Tryz.ntmps43
 go_upto_region 1 with fail
 rw [← eW]
 clear eW
 go_region_law (first
  | (go_simp;go_at_call 81;(with_reducible refine (rStatic _).mono ?_);rintro e w2 ⟨rfl, hw2⟩)
  | (refine step_of ?_ (by rfl);refine wp_appG _ _ 42 rfl W.heap.size 41 (.agg #[.string ByteArray.empty, .string ByteArray.empty, .bool false]) 3 40 Tryz.underlying42 (by kernel_rfl) rfl (by decide) _ _ _ rfl hO _ _ _ [] rfl (Rd.nil 0 _ 3) (by simp) (by decide) (by decide) (by simp) ?_;intro a3 c3 w3 hown3 hb3 hg3))
 all_goals (
  have hF3 : Blk w3 w.heap.size 41 stat8 := Blk.below (hF.alloc _).drew hb3 hWl
  obtain ⟨g, rfl, hc⟩ := own_cell hown3 (by decide)
  have m0 : w3.cell? ⟨g, 0, none⟩ = some (S [58, 97, 117, 116, 104, 111, 114, 105, 116, 121]) := hc 0 _ (by kernel_rfl)
  have m1 : w3.cell? ⟨g, 3, none⟩ = some (S [58, 109, 101, 116, 104, 111, 100]) := hc 3 _ (by kernel_rfl)
  have m2 : w3.cell? ⟨g, 6, none⟩ = some (S [58, 109, 101, 116, 104, 111, 100]) := hc 6 _ (by kernel_rfl)
  have m3 : w3.cell? ⟨g, 9, none⟩ = some (S [58, 112, 97, 116, 104]) := hc 9 _ (by kernel_rfl)
  have m4 : w3.cell? ⟨g, 12, none⟩ = some (S [58, 112, 97, 116, 104]) := hc 12 _ (by kernel_rfl)
  have m5 : w3.cell? ⟨g, 15, none⟩ = some (S [58, 115, 99, 104, 101, 109, 101]) := hc 15 _ (by kernel_rfl)
  have m6 : w3.cell? ⟨g, 18, none⟩ = some (S [58, 115, 99, 104, 101, 109, 101]) := hc 18 _ (by kernel_rfl)
  have m7 : w3.cell? ⟨g, 21, none⟩ = some (S [58, 115, 116, 97, 116, 117, 115]) := hc 21 _ (by kernel_rfl)
  have m8 : w3.cell? ⟨g, 22, none⟩ = some (S [50, 48, 48]) := hc 22 _ (by kernel_rfl)
  have k0 : w3.cell? ⟨w.heap.size, 0, none⟩ = some (S [58, 115, 116, 97, 116, 117, 115]) := hF3.cell 0
  have k1 : w3.cell? ⟨w.heap.size, 1, none⟩ = some (S [50, 48, 48]) := hF3.cell 1
  have hb03 : Below w.heap.size w w3 := (hb.alloc hb.size _).drew.trans (hb3.mono hb.size)
  clear hc hown3 hO x4a x4 hE hEW hg3 hw2 hF
  go_wp2
  refine wp_loop_rounds 9 ?_
  iterate 7 (
   rw [rounds_succ]
   go_wp2
   go_region
   go_wp2)
  rw [rounds_succ]
  go_wp2
  go_region
  go_wp2
  go_region
  go_wp2
  go_ret2
  exact ⟨rfl, hb03.drew.drew.drew.drew.drew.drew.drew.drew.drew⟩)
end Go.Proofs.YtkeeofhjdffhbaaGreatDoor
namespace Go.Proofs.YtkeeofhjdffhbaaGreatDoor
open Go.RowKit Go.Dr
abbrev enc0 : Array Value := #[.int .i64 4096, .int .i64 4096, .int .i64 4096, .int .i64 4096, .slice none 0 0]
end Go.Proofs.YtkeeofhjdffhbaaGreatDoor
