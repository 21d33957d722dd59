/- Parts of the proof of bk_root: the texts Enc7 Enc8 Law22a. -/
import Derived.Lib.SlBytesConst
import Derived.Test.YtcodgfmombehoaaGreatDoorK29
import Derived.Test.YtcodgfmombehoaaGreatDoorK28
set_option linter.unusedSimpArgs false
set_option linter.unusedVariables false
set_option linter.unnecessarySimpa false
set_option maxRecDepth 100000
set_option maxHeartbeats 64000000
namespace Go.Dr
open Go.Proofs.YtcodgfmombehoaaGreatDoor
def encB (f : F) : Bytes := if (findR f.n f.v statF 0 0).2 then [UInt8.ofNat (128 + (findR f.n f.v statF 0 0).1)] else UInt8.ofNat (findR f.n f.v statF 0 0).1 :: UInt8.ofNat f.v.length :: f.v
structure EncOk (f : F) : Prop where
 m : f.m = false
 n1 : (f.n == [97, 117, 116, 104, 111, 114, 105, 122, 97, 116, 105, 111, 110]) = false
 n2 : (f.n == [115, 101, 116, 45, 99, 111, 111, 107, 105, 101]) = false
 w1 : (findR f.n f.v statF 0 0).2 = true → (findR f.n f.v statF 0 0).1 < 127
 w2 : (findR f.n f.v statF 0 0).2 = false → 0 < (findR f.n f.v statF 0 0).1 ∧ (findR f.n f.v statF 0 0).1 < 15 ∧ f.v.length < 127 ∧ f.v.length ≤ huffN f.v
end Go.Dr
namespace Go.Proofs.YtcodgfmombehoaaGreatDoor
open Go.RowKit Go.Dr
abbrev encZ (told least : Int) : Array Value := #[.int .i64 0, .int .i64 told, .int .i64 least, .int .i64 0, .slice none 0 0]
theorem rCost_any (f : F) (hn : f.n.length ≤ 1048576) (hv : f.v.length ≤ 1048576) (w : World) : Calls Tryz.prog 43 #[.agg #[S f.n, S f.v, .bool f.m]] w fun e w' => e = .returned (.int .i64 ((f.n.length + f.v.length + 32 : Nat) : Int)) ∧ Below w.heap.size w w' := by
 have hA := Blk.new w 45 #[S f.n, S f.v, .bool f.m];have a0 := hA.cell 0;have a1 := hA.cell 1;go_enter Tryz.func43, Tryz.ntmps43
 go_wp2;go_ret;exact ⟨ret_int (by omega), (Below.refl _ _).alloc (Nat.le_refl _) _⟩
theorem row_eq {w : World} {base n c : Nat} {a : Option Addr} {X Y t : Bytes} {xs : List Value} (h : Y = X ++ t) (ho : w.ownsRow base 5 1 (.slice a n c) n xs) (hn : n = X.length + t.length) (hx : xs = X.map B8 ++ t.map B8) : w.ownsRow base 5 1 (.slice a Y.length c) Y.length (Y.map B8) := by
 subst h hn hx;rw [List.length_append, List.map_append];exact ho
theorem b8_nat (n : Nat) (h : n < 256) : B8 (UInt8.ofNat n) = .int .u8 (n : Int) := by
 rw [b8_of]
 congr 1
 omega
theorem u32_small (n : Nat) (h : n < 4294967296) : IntKind.u32.wrap (n : Int) = (n : Int) := by simp [IntKind.wrap, IntKind.signed, IntKind.bits];omega
theorem rEncode_zero {eb : Nat} {la : Value} (l : List F) (hl : ∀ f ∈ l, EncOk f) (hs : ∀ f ∈ l, f.n.length ≤ 1048576 ∧ f.v.length ≤ 126) (hk : l.length ≤ 1000) (w : World) (hE : Blk w eb 149 (encZ 4096 0)) (hL : Fs w.heap.size w la l) (hne : ∀ a c, la = .slice a l.length c → ∀ b off, a = some ⟨b, off, none⟩ → b ≠ eb) :
  Calls Tryz.prog 29 #[Ptr eb, la] w fun e w' => ∃ v, e = .returned v ∧ w'.ownsRow w.heap.size 5 1 v (32 :: l.flatMap encB).length ((32 :: l.flatMap encB).map B8) ∧ But (fun k => k = eb) w w' := by
 obtain ⟨lv, lc, rfl, hcap⟩ := hL.form;have y1 : w.cell? ⟨eb, 1, none⟩ = some (.int .i64 4096) := hE.cell 1;have y2 : w.cell? ⟨eb, 2, none⟩ = some (.int .i64 0) := hE.cell 2;have y3 : w.cell? ⟨eb, 3, none⟩ = some (.int .i64 0) := hE.cell 3;have f1 := hE.free 1;have f2 := hE.free 2;have hP := rPutInt_small 32 5 0 (by decide) (by decide) (by decide);go_enter Tryz.func29, Tryz.ntmps29
 go_upto_region 3 with fail
 go_region
 have hED := hE.drew
 go_upto_region 10 with first
  | (go_at_call 59;go_must (refine (hP _).mono ?_);rintro e w1 ⟨v1, rfl, hr1, hb1⟩;obtain ⟨a1, c1, rfl⟩ := own_form hr1)
  | (at_builtin;go_must (refine wpList_appRd rfl _ _ 39 rfl w.heap.size 5 (.int .u8 0) 1 1 Tryz.underlying39 (by kernel_rfl) rfl (by decide) _ _ _ rfl (World.ownsRow_nil _ _ _ _) _ _ _ _ rfl (Rd.own hr1) (by intro u hu;simp at hu;subst hu;rfl) (by decide) (by decide) hb1.size ?_);intro a2 c2 w2 hr2 hb2;have hE2 := hED.on (hb1.trans hb2);have g1 := hE2.free 1;have g2 := hE2.free 2;have z1 : w2.cell? ⟨eb, 1, none⟩ = some (.int .i64 4096) := hE2.cell 1;have z2 : w2.cell? ⟨eb, 2, none⟩ = some (.int .i64 0) := hE2.cell 2)
 have heb := hE.lt;have hE3 : Blk ((w2.setCell ⟨eb, 1, none⟩ (.int .i64 0)).setCell ⟨eb, 2, none⟩ (.int .i64 0)) eb 149 (encZ 0 0) := (hE2.set 1 _).set 2 _;have hr3 := ownsRow_setCell_below (a := ⟨eb, 2, none⟩) (ownsRow_setCell_below (a := ⟨eb, 1, none⟩) hr2 heb (.int .i64 0)) heb (.int .i64 0);have hb02 : Below w.heap.size w w2 := (Below.refl _ _).drew.trans (hb1.trans hb2);have hu3 : But (fun k => k = eb) w ((w2.setCell ⟨eb, 1, none⟩ (.int .i64 0)).setCell ⟨eb, 2, none⟩ (.int .i64 0)) := ((But.of_below (S := fun k => k = eb) hb02).setCell (p := ⟨eb, 1, none⟩) (.inl rfl) _).setCell (p := ⟨eb, 2, none⟩) (.inl rfl) _;obtain ⟨w3, e3⟩ : ∃ w3, w3 = ((w2.setCell ⟨eb, 1, none⟩ (.int .i64 0)).setCell ⟨eb, 2, none⟩ (.int .i64 0)) := ⟨_, rfl⟩;rw [← e3] at hE3 hr3 hu3 ⊢
 have hLo : ∀ wx, But (fun k => k = eb) w wx → Fs w.heap.size wx (.slice lv l.length lc) l := by
  intro wx hu;obtain ⟨a', cap', h1, h2, h3, h4, h5, h6⟩ := hL;refine ⟨a', cap', h1, h2, h3, h4, h5, fun j u hu' => ?_⟩;obtain ⟨b, off, e1, q2, q3⟩ := h6 j u hu';refine ⟨b, off, e1, q2, ?_⟩;have hne2 := hne a' cap' h1 b off e1;simp only [World.cell?, hu.block b q2 hne2] at q3 ⊢;exact q3
 have HL := Lib.hid hLo;clear e3 hr2 hE2 hb02 hED hr1 hb1 hb2 g1 g2 z1 z2 y1 y2 y3 f1 f2 hL hP hE hne hLo;go_wp2
 go_loopw [5, 7] (fun out i wr => ∃ k : Nat, k ≤ l.length ∧ i = .int .i64 (k : Int) ∧ ∃ X a c, Hid (X = 32 :: (l.take k).flatMap encB) ∧ X.length ≤ 1 + 128 * k ∧ out = .slice a X.length c ∧ wr.ownsRow w.heap.size 5 1 (.slice a X.length c) X.length (X.map B8) ∧ Blk wr eb 149 (encZ 0 0) ∧ But (fun k => k = eb) w wr) (fun _ i _ => l.length - (intOf i).toNat)
 case atStart => exact ⟨0, Nat.zero_le _, rfl, [32], a2, c2, rfl, by decide, rfl, hr3, hE3, hu3⟩
 case round =>
  obtain ⟨k, hkl, rfl, X, a, c, HX, hXl, rfl, hr, hEr, hur⟩ := hrel;by_cases hlt : k < l.length
  ·obtain ⟨g, off, rfl, hg, c0, c1, c2⟩ := (HL.out wr hur).at k hlt
   have HS := Lib.hid (show (32 :: (l.take (k + 1)).flatMap encB : Bytes) = (32 :: (l.take k).flatMap encB) ++ encB l[k] by rw [take_snoc l k hlt, List.flatMap_append, List.flatMap_cons, List.flatMap_nil, List.append_nil];rfl);obtain ⟨f, ef⟩ : ∃ f, f = l[k] := ⟨_, rfl⟩;have hf := hl f (ef ▸ List.getElem_mem _);have hsf := hs f (ef ▸ List.getElem_mem _);rw [← ef] at c0 c1 c2 HS;clear ef;obtain ⟨hfn, hfv⟩ := hsf;have n1 := hf.n1;have n2 := hf.n2;have hfm := hf.m;obtain ⟨W1, eW1⟩ : ∃ W1, W1 = wr.alloc (.cells #[S f.n, S f.v, .bool false] 45) := ⟨_, rfl⟩;have hb1 : Below wr.heap.size wr W1 := (by rw [eW1];exact (Below.refl _ _).alloc (Nat.le_refl _) _);have hF1 : Blk W1 wr.heap.size 45 #[S f.n, S f.v, .bool false] := (by rw [eW1];exact Blk.new _ _ _);have hE1 := hEr.on hb1;have hr1 := own_below hr hb1;have hu1 := hur.trans (But.of_below (S := fun k => k = eb) hb1);have k0 : W1.cell? ⟨wr.heap.size, 0, none⟩ = some (S f.n) := hF1.cell 0;have k1 : W1.cell? ⟨wr.heap.size, 1, none⟩ = some (S f.v) := hF1.cell 1;have k2 : W1.cell? ⟨wr.heap.size, 2, none⟩ = some (.bool false) := hF1.cell 2;have hFi := refFind_any [] f W1.drew (hE1.drew.cell 4) (Rd.nil _ _ _) (by decide) hE1.lt;have hCo := fun w => rCost_any f hfn (Nat.le_trans hfv (by decide)) w
   rw [List.append_nil, hfm] at hFi;rw [hfm] at c2 hCo;have w1 := hf.w1;have w2 := hf.w2;have HE : Hid (encB f = if (findR f.n f.v statF 0 0).2 then [UInt8.ofNat (128 + (findR f.n f.v statF 0 0).1)] else UInt8.ofNat (findR f.n f.v statF 0 0).1 :: UInt8.ofNat f.v.length :: f.v) := rfl;clear hfm hf;generalize findR f.n f.v statF 0 0 = r at hFi w1 w2 HE;obtain ⟨p, b⟩ := r;simp only at hFi w1 w2 HE;go_upto_region 14 with fail;rw [← eW1];clear eW1
   go_region_with (go_at_call 60;go_must (refine hFi.mono ?_);rintro e w4 ⟨rfl, hb4⟩)
   all_goals
    have hF4 := hF1.drew.on hb4;have hE4 := hE1.drew.on hb4;have hr4 := own_below (show W1.drew.ownsRow w.heap.size 5 1 (.slice a X.length c) X.length (X.map B8) from hr1) hb4;have hu4 := hu1.drew.trans (But.of_below (S := fun k => k = eb) hb4);have m0 : w4.cell? ⟨wr.heap.size, 0, none⟩ = some (S f.n) := hF4.cell 0;have m1 : w4.cell? ⟨wr.heap.size, 1, none⟩ = some (S f.v) := hF4.cell 1;have m2 : w4.cell? ⟨wr.heap.size, 2, none⟩ = some (.bool false) := hF4.cell 2;clear k0 k1 k2 c0 c1 c2 hFi hb4 hF1 hE1 hr1 hu1
    cases b with
    | true =>
     have hp := w1 rfl;have hP := rPutInt_small 128 7 p (by decide) (by show p + 1 < 128;omega) (by omega);have hq := u32_small p (by omega);rw [if_pos rfl] at HE;clear w1 w2 hCo
     go_wp2_with first
      | (go_at_call 59;go_must (refine (hP _).mono ?_);rintro e w5 ⟨v5, rfl, hr5, hb5⟩;obtain ⟨a5, c5, rfl⟩ := own_form hr5)
      | (at_builtin;go_must (refine wpList_appRd rfl _ _ 39 rfl w.heap.size 5 (.int .u8 0) 1 1 Tryz.underlying39 (by kernel_rfl) rfl (by decide) _ _ _ rfl (own_below hr4 hb5) _ _ _ _ rfl (Rd.own hr5) (by intro u hu;simp at hu;subst hu;rfl) (by unfold maxLen;omega) (by omega) (Nat.le_trans hu4.size hb5.size) ?_);intro a6 c6 w6 hr6 hb6)
     go_roundw
     case rel =>
      have hu6 := but_on (hu4.trans (But.of_below (S := fun k => k = eb) hb5)) hb6;have hE6 := (hE4.on hb5).below hb6 heb;exact ⟨k + 1, hlt, by go_num, X ++ [UInt8.ofNat (128 + p)], a6, c6, Lib.hid (by rw [HS.out, ← HX.out, HE.out]), by rw [List.length_append, List.length_singleton];omega, by rw [List.length_append];rfl, row_eq rfl hr6 rfl (by rw [List.map_cons, List.map_nil, b8_nat _ (by omega)]), hE6, hu6⟩
     case measure => simp [intOf];omega
    | false =>
     obtain ⟨p0, p1, p2, p3⟩ := w2 rfl;have hP := rPutInt_small 0 4 p (by decide) (by show p + 1 < 16;omega) (by omega);have hT := rPutText_raw f.v p2 p3;have hq := u32_small p (by omega);have hp0 : ((p : Int) == 0) = false := (by simp;omega);have hc0 : ¬ (((f.n.length + f.v.length + 32 : Nat) : Int) ≤ 0) := (by omega);have hc1 : decide (((f.n.length + f.v.length + 32 : Nat) : Int) ≤ 0) = false := (by rw [decide_eq_false_iff_not];exact hc0);rw [if_neg (by decide)] at HE;clear w1 w2;have k3 : w4.cell? ⟨eb, 3, none⟩ = some (.int .i64 0) := hE4.cell 3;go_upto_region 18 with fail
     go_cut [12] (fun s12 wx => s12 = .bool false ∧ Below w4.heap.size w4 wx)
     case first =>
      have hCd := hCo w4.drew;have k3d : w4.drew.cell? ⟨eb, 3, none⟩ = some (.int .i64 0) := k3
      go_region_held3 (fun w' => w'.cell? ⟨wr.heap.size, 0, none⟩ = some (S f.n) ∧ w'.cell? ⟨wr.heap.size, 1, none⟩ = some (S f.v) ∧ w'.cell? ⟨wr.heap.size, 2, none⟩ = some (.bool false) ∧ w'.cell? ⟨eb, 3, none⟩ = some (.int .i64 0))
       (first | go_keep)
       ((go_at_call 43;refine (hCo _).mono ?_;rintro e w5 ⟨rfl, hb5⟩;have hF5 := hF4.drew.on hb5;have x0 : w5.cell? ⟨wr.heap.size, 0, none⟩ = some (S f.n) := hF5.cell 0;have x1 : w5.cell? ⟨wr.heap.size, 1, none⟩ = some (S f.v) := hF5.cell 1;have x2 : w5.cell? ⟨wr.heap.size, 2, none⟩ = some (.bool false) := hF5.cell 2;have x3 : w5.cell? ⟨eb, 3, none⟩ = some (.int .i64 0) := (hE4.drew.on hb5).cell 3))
      all_goals (go_wp2;go_meet;exact ⟨rfl, (Below.refl _ _).drew.trans hb5⟩)
     case rest =>
      obtain ⟨rfl, hb5⟩ := hcut;obtain ⟨w5, rfl⟩ : ∃ w5, w5 = wc := ⟨_, rfl⟩;have hF5 := hF4.on hb5;have hE5 := hE4.on hb5;have hr5 := own_below hr4 hb5;have hu5 := hu4.trans (But.of_below (S := fun k => k = eb) hb5);clear hCo hc0 hc1 m0 m1 m2 k3 hF4 hE4 hr4 hu4 hb5;have m0 : w5.cell? ⟨wr.heap.size, 0, none⟩ = some (S f.n) := hF5.cell 0;have m1 : w5.cell? ⟨wr.heap.size, 1, none⟩ = some (S f.v) := hF5.cell 1
      go_wp2_with first
       | (at_builtin;have tok := hr8;go_must (refine wpList_appRd rfl _ _ 39 rfl w.heap.size 5 (.int .u8 0) 1 1 Tryz.underlying39 (by kernel_rfl) rfl (by decide) _ _ _ rfl (own_below hr7 hb8) _ _ _ _ rfl (Rd.own hr8) (b8_one2 _) (by unfold maxLen;omega) (by omega) (by have := hu5.size;have := hb6.size;have := hb7.size;have := hb8.size;omega) ?_);intro a9 c9 w9 hr9 hb9)
       | (at_builtin;go_must (refine wpList_plain rfl fun K hK => ?_;refine wp_appG _ _ 39 rfl w.heap.size 5 (.int .u8 0) 1 1 Tryz.underlying39 (by kernel_rfl) rfl (by decide) _ _ _ rfl (own_below hr5 hb6) _ _ _ _ rfl (Rd.own hr6) (by intro u hu;simp at hu;subst hu;rfl) (by unfold maxLen;omega) (by omega) (Nat.le_trans hu5.size hb6.size) ?_);intro a7 c7 w7 hr7 hb7 hg7;refine hK _ _ ?_;have hF7 := (hF5.on hb6).grow hg7 (own_ne hr (Nat.le_refl _));have m7 : w7.cell? ⟨wr.heap.size, 1, none⟩ = some (S f.v) := hF7.cell 1;have hu7 := but_on (hu5.trans (But.of_below (S := fun k => k = eb) hb6)) hb7;have hE7 := (hE5.on hb6).below hb7 heb)
       | (go_at_call 61;go_must (refine (hT _).mono ?_);rintro e w8 ⟨v8, rfl, hr8, hb8⟩;obtain ⟨a8, c8, rfl⟩ := own_form hr8)
       | (go_at_call 59;go_must (refine (hP _).mono ?_);rintro e w6 ⟨v6, rfl, hr6, hb6⟩;obtain ⟨a6, c6, rfl⟩ := own_form hr6)
      go_roundw
      case rel =>
       have hu9 := but_on (hu7.trans (But.of_below (S := fun k => k = eb) hb8)) hb9;have hE9 := (hE7.on hb8).below hb9 heb;have eY : X.length + 1 + (1 + f.v.length) = (X ++ (UInt8.ofNat p :: UInt8.ofNat f.v.length :: f.v)).length := (by simp;omega);exact ⟨k + 1, hlt, by go_num, X ++ (UInt8.ofNat p :: UInt8.ofNat f.v.length :: f.v), a9, c9, Lib.hid (by rw [HS.out, ← HX.out, HE.out]), by rw [← eY];omega, by rw [← eY], row_eq rfl hr9 (by simp;omega) (by simp only [List.map_cons, Nat.zero_add, b8_nat p (show p < 256 by omega), List.append_assoc, List.singleton_append]), hE9, hu9⟩
      case measure => simp [intOf];omega
  ·obtain rfl : k = l.length := by omega
   rw [List.take_length] at HX;go_wp2;go_ret;exact ⟨.slice a X.length c, rfl, (by have e := HX.out;have e2 : (l.flatMap encB).length + 1 = X.length := (by rw [e];rfl);first | (rw [e2, ← e];exact hr) | (simp only [List.length_cons, e2, ← e];exact hr)), hur⟩
open Go.RowKit Go.Dr
theorem rNewEnc_zero (w : World) : Calls Tryz.prog 28 #[.int .i64 0] w fun e w' => e = .returned (Ptr w.heap.size) ∧ Blk w' w.heap.size 149 (encZ 4096 0) ∧ Below w.heap.size w w' := by
 go_enter Tryz.func28, Tryz.ntmps28
 go_wp2;go_ret;exact ⟨rfl, Blk.new _ _ _, (Below.refl _ _).alloc (Nat.le_refl _) _⟩
def getX (path : Bytes) : List F := [⟨[58, 109, 101, 116, 104, 111, 100], [71, 69, 84], false⟩, ⟨[58, 115, 99, 104, 101, 109, 101], [104, 116, 116, 112], false⟩, ⟨[58, 97, 117, 116, 104, 111, 114, 105, 116, 121], [104], false⟩, ⟨[58, 112, 97, 116, 104], path, false⟩]
theorem getX_x : (32 :: (getX [47, 120]).flatMap encB) = [32, 130, 134, 1, 1, 104, 4, 2, 47, 120] := by decide +kernel
theorem getX_ok : ∀ p, p = [47] ∨ p = [47, 120] → ∀ f ∈ getX p, EncOk f := by
 rintro p (rfl | rfl) f hf <;> simp only [getX, List.mem_cons, List.not_mem_nil, or_false] at hf <;> rcases hf with rfl | rfl | rfl | rfl <;> exact ⟨rfl, by decide +kernel, by decide +kernel, by decide +kernel, by decide +kernel⟩
open Go Go.RowKit Go.Dr
abbrev limV : Value := .agg #[.int .i64 3, .int .i64 1000, .int .i64 4096, .int .i64 4000]
theorem Limits_any (w : World) : Calls Tryz.prog 6 #[] w fun e w' => e = .returned limV ∧ Below w.heap.size w w' := by
 go_enter Tryz.func6, Tryz.ntmps6
 go_wp2;refine bodyPost_ret (results_cell1 Tryz.results6 rfl (run_loadVar_row _ w.heap.size 30 30 _ (0, 0) _ (Blk.new _ _ _) Tryz.underlying30 (by rfl) (by kernel_rfl))) rfl ⟨rfl, (Below.refl _ _).alloc (Nat.le_refl _) _⟩
abbrev getV (st fl : Int) (d : Bytes) : Value := .agg #[.int .i64 1, .int .i64 fl, .int .i64 st, S d, .int .i64 0, .slice none 0 0, .int .i64 0, .int .i64 0, .int .i64 0, .int .i64 0, .int .i64 0, .bool false]
theorem own_get {w : World} {B b : Nat} {p : Bytes} (h : Blk w b 45 #[S [58, 109, 101, 116, 104, 111, 100], S [71, 69, 84], .bool false, S [58, 115, 99, 104, 101, 109, 101], S [104, 116, 116, 112], .bool false, S [58, 97, 117, 116, 104, 111, 114, 105, 116, 121], S [104], .bool false, S [58, 112, 97, 116, 104], S p, .bool false]) (hB : B ≤ b) : w.ownsRow B 45 3 (.slice (some ⟨b, 0, none⟩) 4 4) 4 (fcells (getX p)) := own_of_blk (xs := #[S [58, 109, 101, 116, 104, 111, 100], S [71, 69, 84], .bool false, S [58, 115, 99, 104, 101, 109, 101], S [104, 116, 116, 112], .bool false, S [58, 97, 117, 116, 104, 111, 114, 105, 116, 121], S [104], .bool false, S [58, 112, 97, 116, 104], S p, .bool false]) h hB rfl rfl (by unfold maxLen;omega)
theorem Get_any (st : Int) (p : Bytes) (hp : p = [47] ∨ p = [47, 120]) (e : Bool) (w : World) : Calls Tryz.prog 9 #[.int .i64 st, S p, .bool e] w fun r w' => r = .returned (getV st (if e then 5 else 4) (32 :: (getX p).flatMap encB)) ∧ Below w.heap.size w w' := by
 obtain ⟨W, eW⟩ : ∃ W, W = w.alloc (.cells #[.int .i64 0, .int .i64 0, .int .i64 0, S [], .int .i64 0, .slice none 0 0, .int .i64 0, .int .i64 0, .int .i64 0, .int .i64 0, .int .i64 0, .bool false] 36) := ⟨_, rfl⟩;have hR : Blk W w.heap.size 36 #[.int .i64 0, .int .i64 0, .int .i64 0, S [], .int .i64 0, .slice none 0 0, .int .i64 0, .int .i64 0, .int .i64 0, .int .i64 0, .int .i64 0, .bool false] := (by rw [eW];exact Blk.new _ _ _);have hb : Below w.heap.size w W := (by rw [eW];exact (Below.refl _ _).alloc (Nat.le_refl _) _);have hpl : p.length ≤ 2 := (by rcases hp with rfl | rfl <;> decide);have hok := getX_ok p hp;have hwz : W.heap.size = w.heap.size + 1 := (by rw [eW];simp);generalize hd : (32 :: (getX p).flatMap encB) = d
 cases e
 all_goals (
  go_enter Tryz.func9, Tryz.ntmps9
  go_wp2_with first
   | (go_at_call 28;go_must (rw [show (w.alloc (.cells #[.int .i64 0, .int .i64 0, .int .i64 0, .string ⟨#[]⟩, .int .i64 0, .slice none 0 0, .int .i64 0, .int .i64 0, .int .i64 0, .int .i64 0, .int .i64 0, .bool false] 36)) = W from eW.symm];clear eW;(with_reducible refine (rNewEnc_zero _).mono ?_);rintro r w1 ⟨rfl, hE1, hb1⟩;rw [hwz] at hE1;have hR1 := hR.on hb1;have hb01 := hb.trans (hb1.mono hb.size);obtain ⟨W2, eW2⟩ : ∃ W2, W2 = w1.alloc (.cells #[S [58, 109, 101, 116, 104, 111, 100], S [71, 69, 84], .bool false, S [58, 115, 99, 104, 101, 109, 101], S [104, 116, 116, 112], .bool false, S [58, 97, 117, 116, 104, 111, 114, 105, 116, 121], S [104], .bool false, S [58, 112, 97, 116, 104], S p, .bool false] 45) := ⟨_, rfl⟩;have hL2 : Blk W2 w1.heap.size 45 #[S [58, 109, 101, 116, 104, 111, 100], S [71, 69, 84], .bool false, S [58, 115, 99, 104, 101, 109, 101], S [104, 116, 116, 112], .bool false, S [58, 97, 117, 116, 104, 111, 114, 105, 116, 121], S [104], .bool false, S [58, 112, 97, 116, 104], S p, .bool false] := (by rw [eW2];exact Blk.new _ _ _);have hb2 : Below w1.heap.size w1 W2 := (by rw [eW2];exact (Below.refl _ _).alloc (Nat.le_refl _) _);have hel := hE1.lt;have hEn := rEncode_zero (getX p) hok (by intro f hf;simp only [getX, List.mem_cons, List.not_mem_nil, or_false] at hf;rcases hf with rfl | rfl | rfl | rfl <;> simp <;> omega) (by simp [getX]) W2 (hE1.on hb2) (Fs.own (own_get hL2 (Nat.zero_le _))) (by intro a c e b off e2;simp only [Value.slice.injEq] at e;rw [e2] at e;simp at e;omega);rw [hd] at hEn))
   | (go_at_call 29;go_must (rw [show (w1.alloc (.cells #[.string ⟨#[58, 109, 101, 116, 104, 111, 100]⟩, .string ⟨#[71, 69, 84]⟩, .bool false, .string ⟨#[58, 115, 99, 104, 101, 109, 101]⟩, .string ⟨#[104, 116, 116, 112]⟩, .bool false, .string ⟨#[58, 97, 117, 116, 104, 111, 114, 105, 116, 121]⟩, .string ⟨#[104]⟩, .bool false, .string ⟨#[58, 112, 97, 116, 104]⟩, .string ⟨p.toArray⟩, .bool false] 45)) = W2 from eW2.symm];clear eW2;(with_reducible refine hEn.mono ?_);rintro r w3 ⟨v, rfl, hrow, hb3⟩;have hcv := (own_by hrow).text (P := Tryz.prog) 39 9 5 Tryz.underlying39 Tryz.underlying5 Tryz.underlying9;have hR3 := (hR1.on hb2).but hb3 (by omega);(have z0 : w3.cell? ⟨w.heap.size, 0, none⟩ = some (.int .i64 0) := hR3.cell 0;have z1 : w3.cell? ⟨w.heap.size, 1, none⟩ = some (.int .i64 0) := hR3.cell 1;have z2 : w3.cell? ⟨w.heap.size, 2, none⟩ = some (.int .i64 0) := hR3.cell 2;have z3 : w3.cell? ⟨w.heap.size, 3, none⟩ = some (S []) := hR3.cell 3;have z4 : w3.cell? ⟨w.heap.size, 4, none⟩ = some (.int .i64 0) := hR3.cell 4;have z5 : w3.cell? ⟨w.heap.size, 5, none⟩ = some (.slice none 0 0) := hR3.cell 5;have z6 : w3.cell? ⟨w.heap.size, 6, none⟩ = some (.int .i64 0) := hR3.cell 6;have z7 : w3.cell? ⟨w.heap.size, 7, none⟩ = some (.int .i64 0) := hR3.cell 7;have z8 : w3.cell? ⟨w.heap.size, 8, none⟩ = some (.int .i64 0) := hR3.cell 8;have z9 : w3.cell? ⟨w.heap.size, 9, none⟩ = some (.int .i64 0) := hR3.cell 9;have z10 : w3.cell? ⟨w.heap.size, 10, none⟩ = some (.int .i64 0) := hR3.cell 10;have z11 : w3.cell? ⟨w.heap.size, 11, none⟩ = some (.bool false) := hR3.cell 11);have v0 := hR3.free 0;have v1 := hR3.free 1;have v2 := hR3.free 2;have v3 := hR3.free 3;have v4 := hR3.free 4;have v5 := hR3.free 5;have v6 := hR3.free 6;have v7 := hR3.free 7;have v8 := hR3.free 8;have v9 := hR3.free 9;have v10 := hR3.free 10;have v11 := hR3.free 11;have hz3 := hb3.size;have hb03 : Below w.heap.size w w3 := hb01.trans ((hb2.mono hb01.size).trans (hb3.below (by intro k hk;omega) (by have := hb2.size;have := hb01.size;omega)))))
  refine bodyPost_ret (results_cell1 Tryz.results9 rfl (run_loadVar_row _ w.heap.size 36 36 _ (0, 0) _ (set12 hR3 _ _ _ _ _ _ _ _ _ _ _ _) Tryz.underlying36 (by rfl) (by kernel_rfl))) rfl ⟨rfl, bel12 hb03 (Nat.le_refl _) _ _ _ _ _ _ _ _ _ _ _ _⟩)
end Go.Proofs.YtcodgfmombehoaaGreatDoor
