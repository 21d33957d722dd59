/- Parts of the proof of DealDecides_holds: the texts Rdt6 Rdt7. -/
import Derived.Test.YtahapblgmehngaaGreatDoorE9
set_option linter.unusedSimpArgs false
set_option linter.unusedVariables false
set_option linter.unnecessarySimpa false
set_option maxRecDepth 100000
set_option maxHeartbeats 64000000
namespace Go.Dr
theorem lTab_get (k : Nat) (h : k < 7) : longTab[k]? = some (longF k) := by
 match k, h with
 | 0, _ | 1, _ | 2, _ | 3, _ | 4, _ | 5, _ | 6, _ => rfl
theorem mTab_get (k : Nat) (h : k < 12) : monTab[k]? = some (monF k) := by
 match k, h with
 | 0, _ | 1, _ | 2, _ | 3, _ | 4, _ | 5, _ | 6, _ | 7, _ | 8, _ | 9, _ | 10, _ | 11, _ => rfl
theorem mon_len (k : Nat) (h : k < 12) : (monF k).length = 3 := by
 match k, h with
 | 0, _ | 1, _ | 2, _ | 3, _ | 4, _ | 5, _ | 6, _ | 7, _ | 8, _ | 9, _ | 10, _ | 11, _ => rfl
theorem Ss.get {B : Nat} {w : World} {a : Option Addr} {n cap : Nat} {l : List Bytes} (h : Ss B w (.slice a n cap) l) (k : Nat) (x : Bytes) (hx : l[k]? = some x) : ∃ b off, a = some ⟨b, off, none⟩ ∧ b < B ∧ w.cell? ⟨b, off + k, none⟩ = some (S x) := by
 obtain ⟨hk, e⟩ := List.getElem?_eq_some_iff.1 hx;obtain ⟨b, off, h1, h2, h3⟩ := h.at k hk;exact ⟨b, off, h1, h2, by rw [h3, e]⟩
end Go.Dr
namespace Go.Proofs.YtahapblgmehngaaGreatDoor
open Go.RowKit Go.Dr
theorem add_at (a b c : Bytes) (hc : c = a ++ b) (hl : a.length + b.length ≤ 1000) : ∀ w' : World, (Op.stringOp .add ⟨a.toArray⟩ ⟨b.toArray⟩).run Tryz.prog w' = .ok (S c) w' := fun w' => by
 have := run_string_add_sum (P := Tryz.prog) (w := w') ⟨a.toArray⟩ ⟨b.toArray⟩ (by simp [ByteArray.size];omega)
 rw [this, ba_append, hc]
theorem slice3 (l q : Bytes) (hq : q = l.take 3) (h : 3 ≤ l.length) : ∀ w' : World, (Instr.slice 9 (S l) none (some (.int .i64 3)) none).run Tryz.prog w' = .ok (S q) w' := fun w' => by
 rw [run_slice_string_h w' 9 ⟨l.toArray⟩ Tryz.underlying9 .i64 3 (by decide) (by simp [ByteArray.size];omega), ba_extract, hq];rfl
theorem slice3' (l q : Bytes) (hq : q = l.take 3) (h : 3 ≤ l.length) : ∀ w' : World, (Instr.sliceAt 9 (S l) none (some (.int .i64 3)) none).run Tryz.prog w' = .ok (S q) w' := fun w' => by
 rw [run_sliceAt_string w' 9 _ _ _ _ Tryz.underlying9];exact slice3 l q hq h w'
theorem texts_raw (y m d h mi s wk : Nat) (hy0 : 1000 ≤ y) (hy : y < 10000) (hm : m < 12) (hd : d < 100) (hh : h < 100) (hmi : mi < 100) (hs : s < 100) (hw : wk < 7) (low : Bytes) (hlow : low = if d < 10 then [32] ++ (padF d 2).drop 1 else padF d 2) (ck : Bytes) (hck : ck = (((padF h 2 ++ [58]) ++ padF mi 2) ++ [58]) ++ padF s 2) (T0 T1 T2 : Bytes)
  (h0 : T0 = ((((((((((longF wk).take 3) ++ [44, 32]) ++ padF d 2) ++ [32]) ++ monF m) ++ [32]) ++ padF y 4) ++ [32]) ++ ck) ++ [32, 71, 77, 84])
  (h1 : T1 = (((((((((longF wk) ++ [44, 32]) ++ padF d 2) ++ [45]) ++ monF m) ++ [45]) ++ padF (y % 100) 2) ++ [32]) ++ ck) ++ [32, 71, 77, 84])
  (h2 : T2 = ((((((((longF wk).take 3) ++ [32]) ++ monF m) ++ [32]) ++ low) ++ [32]) ++ ck) ++ [32] ++ padF y 4) (w : World) :
  Calls Tryz.prog 135 #[.agg #[.int .i64 y, .int .i64 ((m : Int) + 1), .int .i64 d, .int .i64 h, .int .i64 mi, .int .i64 s, .int .i64 wk]] w (RetSs 9 w [T0, T1, T2]) := by
 have lwk := long_short wk;have lwk3 := long_len wk hw;have gw := show longTab[wk]? = some (longF wk) from lTab_get wk hw
 have gm := show monTab[m]? = some (monF m) from mTab_get m hm
 have lmo := mon_len m hm;have ly4 : (padF y 4).length = 4 := (by rw [padF_4 y hy0 hy];rfl);have ly2 : (padF (y % 100) 2).length = 2 := (by rw [padF_2 _ (by omega)];rfl);have ldd : (padF d 2).length = 2 := (by rw [padF_2 _ (by omega)];rfl);have lhh : (padF h 2).length = 2 := (by rw [padF_2 _ (by omega)];rfl);have lmm : (padF mi 2).length = 2 := (by rw [padF_2 _ (by omega)];rfl);have lss : (padF s 2).length = 2 := (by rw [padF_2 _ (by omega)];rfl);have P1 := Lib.hid (fun w => refPad2 h w (by omega));have P2 := Lib.hid (fun w => refPad2 mi w (by omega));have P3 := Lib.hid (fun w => refPad2 s w (by omega));have P4 := Lib.hid (fun w => refPad2 d w (by omega));have P5 := Lib.hid (fun w => refPad4 y w (by omega));have P6 := Lib.hid (fun w => refPad2 (y % 100) w (by omega));have cm : ((y : Int) % 100) = ((y % 100 : Nat) : Int) := (by omega);generalize padF y 4 = y4 at *;generalize padF (y % 100) 2 = y2 at *;generalize padF d 2 = dd at *;generalize padF h 2 = ph at *;generalize padF mi 2 = pm at *;generalize padF s 2 = ps at *;generalize longF wk = lw at *;generalize monF m = mo at *;obtain ⟨wq, hwq⟩ : ∃ wq, wq = lw.take 3 := ⟨_, rfl⟩;have lwq : wq.length ≤ 3 := (by rw [hwq];simp;omega);rw [← hwq] at h0 h2;obtain ⟨c1, hc1⟩ : ∃ c : Bytes, c = ph ++ [58] := ⟨_, rfl⟩;rw [← hc1] at hck;have lc1 : c1.length = ph.length + ([58] : Bytes).length := (by rw [hc1, List.length_append]);obtain ⟨c2, hc2⟩ : ∃ c : Bytes, c = c1 ++ pm := ⟨_, rfl⟩;rw [← hc2] at hck;have lc2 : c2.length = c1.length + (pm : Bytes).length := (by rw [hc2, List.length_append]);obtain ⟨c3, hc3⟩ : ∃ c : Bytes, c = c2 ++ [58] := ⟨_, rfl⟩;rw [← hc3] at hck;have lc3 : c3.length = c2.length + ([58] : Bytes).length := (by rw [hc3, List.length_append]);have lck : ck.length = c3.length + (ps : Bytes).length := (by rw [hck, List.length_append]);have llow : low.length ≤ 3 := (by rw [hlow];by_cases hq : d < 10 <;> simp only [hq, if_true, if_false, List.length_append, List.length_drop, List.length_cons, List.length_nil] <;> omega);obtain ⟨a1, ha1⟩ : ∃ c : Bytes, c = wq ++ [44, 32] := ⟨_, rfl⟩;rw [← ha1] at h0;have la1 : a1.length = wq.length + ([44, 32] : Bytes).length := (by rw [ha1, List.length_append]);obtain ⟨a2, ha2⟩ : ∃ c : Bytes, c = a1 ++ dd := ⟨_, rfl⟩;rw [← ha2] at h0;have la2 : a2.length = a1.length + (dd : Bytes).length := (by rw [ha2, List.length_append]);obtain ⟨a3, ha3⟩ : ∃ c : Bytes, c = a2 ++ [32] := ⟨_, rfl⟩;rw [← ha3] at h0;have la3 : a3.length = a2.length + ([32] : Bytes).length := (by rw [ha3, List.length_append]);obtain ⟨a4, ha4⟩ : ∃ c : Bytes, c = a3 ++ mo := ⟨_, rfl⟩;rw [← ha4] at h0;have la4 : a4.length = a3.length + (mo : Bytes).length := (by rw [ha4, List.length_append]);obtain ⟨a5, ha5⟩ : ∃ c : Bytes, c = a4 ++ [32] := ⟨_, rfl⟩;rw [← ha5] at h0;have la5 : a5.length = a4.length + ([32] : Bytes).length := (by rw [ha5, List.length_append]);obtain ⟨a6, ha6⟩ : ∃ c : Bytes, c = a5 ++ y4 := ⟨_, rfl⟩;rw [← ha6] at h0;have la6 : a6.length = a5.length + (y4 : Bytes).length := (by rw [ha6, List.length_append])
 obtain ⟨a7, ha7⟩ : ∃ c : Bytes, c = a6 ++ [32] := ⟨_, rfl⟩;rw [← ha7] at h0;have la7 : a7.length = a6.length + ([32] : Bytes).length := (by rw [ha7, List.length_append]);obtain ⟨a8, ha8⟩ : ∃ c : Bytes, c = a7 ++ ck := ⟨_, rfl⟩;rw [← ha8] at h0;have la8 : a8.length = a7.length + (ck : Bytes).length := (by rw [ha8, List.length_append]);have lT0 : T0.length = a8.length + ([32, 71, 77, 84] : Bytes).length := (by rw [h0, List.length_append]);obtain ⟨b1, hb1⟩ : ∃ c : Bytes, c = lw ++ [44, 32] := ⟨_, rfl⟩;rw [← hb1] at h1;have lb1 : b1.length = lw.length + ([44, 32] : Bytes).length := (by rw [hb1, List.length_append]);obtain ⟨b2, hb2⟩ : ∃ c : Bytes, c = b1 ++ dd := ⟨_, rfl⟩;rw [← hb2] at h1;have lb2 : b2.length = b1.length + (dd : Bytes).length := (by rw [hb2, List.length_append]);obtain ⟨b3, hb3⟩ : ∃ c : Bytes, c = b2 ++ [45] := ⟨_, rfl⟩;rw [← hb3] at h1;have lb3 : b3.length = b2.length + ([45] : Bytes).length := (by rw [hb3, List.length_append]);obtain ⟨b4, hb4⟩ : ∃ c : Bytes, c = b3 ++ mo := ⟨_, rfl⟩;rw [← hb4] at h1;have lb4 : b4.length = b3.length + (mo : Bytes).length := (by rw [hb4, List.length_append]);obtain ⟨b5, hb5⟩ : ∃ c : Bytes, c = b4 ++ [45] := ⟨_, rfl⟩;rw [← hb5] at h1;have lb5 : b5.length = b4.length + ([45] : Bytes).length := (by rw [hb5, List.length_append]);obtain ⟨b6, hb6⟩ : ∃ c : Bytes, c = b5 ++ y2 := ⟨_, rfl⟩;rw [← hb6] at h1;have lb6 : b6.length = b5.length + (y2 : Bytes).length := (by rw [hb6, List.length_append]);obtain ⟨b7, hb7⟩ : ∃ c : Bytes, c = b6 ++ [32] := ⟨_, rfl⟩;rw [← hb7] at h1;have lb7 : b7.length = b6.length + ([32] : Bytes).length := (by rw [hb7, List.length_append]);obtain ⟨b8, hb8⟩ : ∃ c : Bytes, c = b7 ++ ck := ⟨_, rfl⟩;rw [← hb8] at h1;have lb8 : b8.length = b7.length + (ck : Bytes).length := (by rw [hb8, List.length_append]);have lT1 : T1.length = b8.length + ([32, 71, 77, 84] : Bytes).length := (by rw [h1, List.length_append]);obtain ⟨e1, he1⟩ : ∃ c : Bytes, c = wq ++ [32] := ⟨_, rfl⟩;rw [← he1] at h2;have le1 : e1.length = wq.length + ([32] : Bytes).length := (by rw [he1, List.length_append]);obtain ⟨e2, he2⟩ : ∃ c : Bytes, c = e1 ++ mo := ⟨_, rfl⟩;rw [← he2] at h2;have le2 : e2.length = e1.length + (mo : Bytes).length := (by rw [he2, List.length_append]);obtain ⟨e3, he3⟩ : ∃ c : Bytes, c = e2 ++ [32] := ⟨_, rfl⟩;rw [← he3] at h2;have le3 : e3.length = e2.length + ([32] : Bytes).length := (by rw [he3, List.length_append]);obtain ⟨e4, he4⟩ : ∃ c : Bytes, c = e3 ++ low := ⟨_, rfl⟩;rw [← he4] at h2;have le4 : e4.length = e3.length + (low : Bytes).length := (by rw [he4, List.length_append]);obtain ⟨e5, he5⟩ : ∃ c : Bytes, c = e4 ++ [32] := ⟨_, rfl⟩;rw [← he5] at h2;have le5 : e5.length = e4.length + ([32] : Bytes).length := (by rw [he5, List.length_append]);obtain ⟨e6, he6⟩ : ∃ c : Bytes, c = e5 ++ ck := ⟨_, rfl⟩;rw [← he6] at h2;have le6 : e6.length = e5.length + (ck : Bytes).length := (by rw [he6, List.length_append]);obtain ⟨e7, he7⟩ : ∃ c : Bytes, c = e6 ++ [32] := ⟨_, rfl⟩
 rw [← he7] at h2;have le7 : e7.length = e6.length + ([32] : Bytes).length := (by rw [he7, List.length_append]);have lT2 : T2.length = e7.length + (y4 : Bytes).length := (by rw [h2, List.length_append]);simp only [List.length_cons, List.length_nil] at lck lc1 lc2 lc3 la1 la2 la3 la4 la5 la6 la7 la8 lT0 lb1 lb2 lb3 lb4 lb5 lb6 lb7 lb8 lT1 le1 le2 le3 le4 le5 le6 le7 lT2;have Hsc1 := Lib.hid (add_at ph [58] c1 hc1 (by first | omega | (simp only [List.length_cons, List.length_nil];omega)));have Hsc2 := Lib.hid (add_at c1 pm c2 hc2 (by first | omega | (simp only [List.length_cons, List.length_nil];omega)));have Hsc3 := Lib.hid (add_at c2 [58] c3 hc3 (by first | omega | (simp only [List.length_cons, List.length_nil];omega)));have Hsck := Lib.hid (add_at c3 ps ck hck (by first | omega | (simp only [List.length_cons, List.length_nil];omega)));have Hsa1 := Lib.hid (add_at wq [44, 32] a1 ha1 (by first | omega | (simp only [List.length_cons, List.length_nil];omega)));have Hsa2 := Lib.hid (add_at a1 dd a2 ha2 (by first | omega | (simp only [List.length_cons, List.length_nil];omega)));have Hsa3 := Lib.hid (add_at a2 [32] a3 ha3 (by first | omega | (simp only [List.length_cons, List.length_nil];omega)));have Hsa4 := Lib.hid (add_at a3 mo a4 ha4 (by first | omega | (simp only [List.length_cons, List.length_nil];omega)));have Hsa5 := Lib.hid (add_at a4 [32] a5 ha5 (by first | omega | (simp only [List.length_cons, List.length_nil];omega)));have Hsa6 := Lib.hid (add_at a5 y4 a6 ha6 (by first | omega | (simp only [List.length_cons, List.length_nil];omega)));have Hsa7 := Lib.hid (add_at a6 [32] a7 ha7 (by first | omega | (simp only [List.length_cons, List.length_nil];omega)));have Hsa8 := Lib.hid (add_at a7 ck a8 ha8 (by first | omega | (simp only [List.length_cons, List.length_nil];omega)));have HsT0 := Lib.hid (add_at a8 [32, 71, 77, 84] T0 h0 (by first | omega | (simp only [List.length_cons, List.length_nil];omega)));have Hsb1 := Lib.hid (add_at lw [44, 32] b1 hb1 (by first | omega | (simp only [List.length_cons, List.length_nil];omega)));have Hsb2 := Lib.hid (add_at b1 dd b2 hb2 (by first | omega | (simp only [List.length_cons, List.length_nil];omega)));have Hsb3 := Lib.hid (add_at b2 [45] b3 hb3 (by first | omega | (simp only [List.length_cons, List.length_nil];omega)));have Hsb4 := Lib.hid (add_at b3 mo b4 hb4 (by first | omega | (simp only [List.length_cons, List.length_nil];omega)));have Hsb5 := Lib.hid (add_at b4 [45] b5 hb5 (by first | omega | (simp only [List.length_cons, List.length_nil];omega)));have Hsb6 := Lib.hid (add_at b5 y2 b6 hb6 (by first | omega | (simp only [List.length_cons, List.length_nil];omega)));have Hsb7 := Lib.hid (add_at b6 [32] b7 hb7 (by first | omega | (simp only [List.length_cons, List.length_nil];omega)));have Hsb8 := Lib.hid (add_at b7 ck b8 hb8 (by first | omega | (simp only [List.length_cons, List.length_nil];omega)));have HsT1 := Lib.hid (add_at b8 [32, 71, 77, 84] T1 h1 (by first | omega | (simp only [List.length_cons, List.length_nil];omega)))
 have Hse1 := Lib.hid (add_at wq [32] e1 he1 (by first | omega | (simp only [List.length_cons, List.length_nil];omega)));have Hse2 := Lib.hid (add_at e1 mo e2 he2 (by first | omega | (simp only [List.length_cons, List.length_nil];omega)));have Hse3 := Lib.hid (add_at e2 [32] e3 he3 (by first | omega | (simp only [List.length_cons, List.length_nil];omega)));have Hse4 := Lib.hid (add_at e3 low e4 he4 (by first | omega | (simp only [List.length_cons, List.length_nil];omega)));have Hse5 := Lib.hid (add_at e4 [32] e5 he5 (by first | omega | (simp only [List.length_cons, List.length_nil];omega)));have Hse6 := Lib.hid (add_at e5 ck e6 he6 (by first | omega | (simp only [List.length_cons, List.length_nil];omega)));have Hse7 := Lib.hid (add_at e6 [32] e7 he7 (by first | omega | (simp only [List.length_cons, List.length_nil];omega)));have HsT2 := Lib.hid (add_at e7 y4 T2 h2 (by first | omega | (simp only [List.length_cons, List.length_nil];omega)));clear hc1 hc2 hc3 ha1 ha2 ha3 ha4 ha5 ha6 ha7 ha8 hb1 hb2 hb3 hb4 hb5 hb6 hb7 hb8 he1 he2 he3 he4 he5 he6 he7 h0 h1 h2 hck lc1 lc2 lc3 la1 la2 la3 la4 la5 la6 la7 la8 lT0 lb1 lb2 lb3 lb4 lb5 lb6 lb7 lb8 lT1 le1 le2 le3 le4 le5 le6 le7 lT2 lck;have hX := Blk.new w 165 #[.int .i64 y, .int .i64 ((m : Int) + 1), .int .i64 d, .int .i64 h, .int .i64 mi, .int .i64 s, .int .i64 wk];have hb0 : Below w.heap.size w (w.alloc (.cells #[.int .i64 y, .int .i64 ((m : Int) + 1), .int .i64 d, .int .i64 h, .int .i64 mi, .int .i64 s, .int .i64 wk] 165)) := (Below.refl _ _).alloc (Nat.le_refl _) _;go_enter Tryz.func135, Tryz.ntmps135
 go_wp2_with fail;generalize w.alloc (.cells #[.int .i64 y, .int .i64 ((m : Int) + 1), .int .i64 d, .int .i64 h, .int .i64 mi, .int .i64 s, .int .i64 wk] 165) = w0 at *;have hwi : (wk : Int) < 7 := (by omega);have hmi2 : (m : Int) < 12 := (by omega);have hwr : IntKind.i64.wrap (m : Int) = (m : Int) := (by rw [IntKind.wrap_i64];omega);have hl7 : longTab.length = 7 := rfl;have hl12 : monTab.length = 12 := rfl;have k6 : w0.cell? ⟨w.heap.size, 6, none⟩ = some (.int .i64 wk) := hX.cell 6;refine wp_region_held_drew (S := fun w' => w'.cell? ⟨w.heap.size, 6, none⟩ = some (.int .i64 wk)) (by kernel_rfl) k6 (fun hH => ?_);refine wpAnyH_take (i := 1) (v := ?_) (by rfl) (by kernel_rfl) (by kernel_rfl) (by kernel_rfl) (by exact fun _ _ _ h => h) (Or.inl ⟨by rfl, ?_⟩) hH ?_
 rotate_left
 ·(intro w hSw;(try dsimp only at hSw);go_simp;try with_reducible rfl)
 simp only [Act.put, List.setIfInBounds_toArray, List.set_cons_zero, List.set_cons_succ];refine wpAnyH_take (i := 2) (v := ?_) (by rfl) (by kernel_rfl) (by kernel_rfl) (by kernel_rfl) (by exact fun _ _ _ h => h) (Or.inl ⟨by rfl, ?_⟩) hH ?_
 rotate_left
 ·(intro w hSw;(try dsimp only at hSw);go_simp;try with_reducible rfl)
 simp only [Act.put, List.setIfInBounds_toArray, List.set_cons_zero, List.set_cons_succ];refine tC 0 (fun K hK => ?_);go_simp
 (go_at_call 156;refine (Weekdays_any _).mono ?_;rintro e wa ⟨va, rfl, hoa, hba⟩;have hb0a : Below w0.heap.size w0 wa := (by first | exact Bl.undrew hba | exact hba);have hXa := hX.on hb0a;have hwa := Bl.tr hb0 hb0a;have hra : Ss wa.heap.size wa va longTab := Ss.own hoa;have k61 : wa.cell? ⟨w.heap.size, 6, none⟩ = some (.int .i64 wk) := hXa.cell 6;obtain ⟨pa, ca, rfl, -⟩ := hra.form;obtain ⟨ba, oa, rfl, hlta, c0⟩ := hra.get wk lw gw)
 refine hK.out _ _ k61 (fun hH => ?_);clear hK K
 try simp only [Act.put, List.setIfInBounds_toArray, List.set_cons_zero, List.set_cons_succ]
 refine wpAnyH_take (i := 3) (v := ?_) (by rfl) (by kernel_rfl) (by kernel_rfl) (by kernel_rfl) (by exact fun _ _ _ h => h) (Or.inl ⟨by rfl, ?_⟩) hH ?_
 rotate_left
 ·(intro w hSw;(try dsimp only at hSw);go_simp;try with_reducible rfl)
 simp only [Act.put, List.setIfInBounds_toArray, List.set_cons_zero, List.set_cons_succ];refine tC 4 (fun K hK => ?_);go_simp
 skip;refine hK.out _ _ k61 (fun hH => ?_);clear hK K
 try simp only [Act.put, List.setIfInBounds_toArray, List.set_cons_zero, List.set_cons_succ]
 refine wpAnyH_take (i := 5) (v := ?_) (by rfl) (by kernel_rfl) (by kernel_rfl) (by kernel_rfl) (by exact fun _ _ _ h => h) (Or.inl ⟨by rfl, ?_⟩) hH ?_
 rotate_left
 ·(intro w hSw;(try dsimp only at hSw);go_simp;try with_reducible rfl)
 simp only [Act.put, List.setIfInBounds_toArray, List.set_cons_zero, List.set_cons_succ];(try simp only [PT]);refine wpAnyH_done (by kernel_rfl) ?_ _;go_wp2_with fail;have k1 : wa.cell? ⟨w.heap.size, 1, none⟩ = some (.int .i64 ((m : Int) + 1)) := hXa.cell 1;refine wp_region_held_drew (S := fun w' => w'.cell? ⟨w.heap.size, 1, none⟩ = some (.int .i64 ((m : Int) + 1))) (by kernel_rfl) k1 (fun hH => ?_);refine wpAnyH_take (i := 1) (v := ?_) (by rfl) (by kernel_rfl) (by kernel_rfl) (by kernel_rfl) (by exact fun _ _ _ h => h) (Or.inl ⟨by rfl, ?_⟩) hH ?_
 rotate_left
 ·(intro w hSw;(try dsimp only at hSw);go_simp;try with_reducible rfl)
 simp only [Act.put, List.setIfInBounds_toArray, List.set_cons_zero, List.set_cons_succ];refine wpAnyH_take (i := 2) (v := ?_) (by rfl) (by kernel_rfl) (by kernel_rfl) (by kernel_rfl) (by exact fun _ _ _ h => h) (Or.inl ⟨by rfl, ?_⟩) hH ?_
 rotate_left
 ·(intro w hSw;(try dsimp only at hSw);go_simp;try with_reducible rfl)
 simp only [Act.put, List.setIfInBounds_toArray, List.set_cons_zero, List.set_cons_succ];refine wpAnyH_take (i := 3) (v := ?_) (by rfl) (by kernel_rfl) (by kernel_rfl) (by kernel_rfl) (by exact fun _ _ _ h => h) (Or.inl ⟨by rfl, ?_⟩) hH ?_
 rotate_left
 ·(intro w hSw;(try dsimp only at hSw);go_simp;try with_reducible rfl)
 simp only [Act.put, List.setIfInBounds_toArray, List.set_cons_zero, List.set_cons_succ];refine tC 0 (fun K hK => ?_);go_simp
 (go_at_call 157;refine (Months_any _).mono ?_;rintro e wb ⟨vb, rfl, hob, hbb⟩;have hbab : Below wa.heap.size wa wb := (by first | exact Bl.undrew hbb | exact hbb);have hXb := hXa.on hbab;have hwb := Bl.tr hwa hbab;have hrb : Ss wb.heap.size wb vb monTab := Ss.own hob;have k1b : wb.cell? ⟨w.heap.size, 1, none⟩ = some (.int .i64 ((m : Int) + 1)) := hXb.cell 1;obtain ⟨pb, cb, rfl, -⟩ := hrb.form;obtain ⟨bb, ob, rfl, hltb, d0⟩ := hrb.get m mo gm)
 refine hK.out _ _ k1b (fun hH => ?_);clear hK K
 try simp only [Act.put, List.setIfInBounds_toArray, List.set_cons_zero, List.set_cons_succ]
 refine wpAnyH_take (i := 4) (v := ?_) (by rfl) (by kernel_rfl) (by kernel_rfl) (by kernel_rfl) (by exact fun _ _ _ h => h) (Or.inl ⟨by rfl, ?_⟩) hH ?_
 rotate_left
 ·(intro w hSw;(try dsimp only at hSw);go_simp;try with_reducible rfl)
 simp only [Act.put, List.setIfInBounds_toArray, List.set_cons_zero, List.set_cons_succ];refine tC 5 (fun K hK => ?_);go_simp
 skip;refine hK.out _ _ k1b (fun hH => ?_);clear hK K
 try simp only [Act.put, List.setIfInBounds_toArray, List.set_cons_zero, List.set_cons_succ]
 refine wpAnyH_take (i := 6) (v := ?_) (by rfl) (by kernel_rfl) (by kernel_rfl) (by kernel_rfl) (by exact fun _ _ _ h => h) (Or.inl ⟨by rfl, ?_⟩) hH ?_
 rotate_left
 ·(intro w hSw;(try dsimp only at hSw);go_simp;try with_reducible rfl)
 simp only [Act.put, List.setIfInBounds_toArray, List.set_cons_zero, List.set_cons_succ];(try simp only [PT]);refine wpAnyH_done (by kernel_rfl) ?_ _;go_wp2_with fail;have sc1 := Hsc1.out;have sc2 := Hsc2.out;have sc3 := Hsc3.out;have sck := Hsck.out;have q3 : wb.cell? ⟨w.heap.size, 3, none⟩ = some (.int .i64 h) := hXb.cell 3;have q4 : wb.cell? ⟨w.heap.size, 4, none⟩ = some (.int .i64 mi) := hXb.cell 4;have q5 : wb.cell? ⟨w.heap.size, 5, none⟩ = some (.int .i64 s) := hXb.cell 5;have HLOW := Lib.hid hlow;have HW3 := Lib.hid hwq;clear hlow hwq gw gm hwi hmi2 hwr hl7 hl12 k61 k1 k1b c0 d0 hra hrb hoa hob hX hXa hb0 hwa
 go_region_held3 (fun w' => w'.cell? ⟨w.heap.size, 3, none⟩ = some (.int .i64 h) ∧ w'.cell? ⟨w.heap.size, 4, none⟩ = some (.int .i64 mi) ∧ w'.cell? ⟨w.heap.size, 5, none⟩ = some (.int .i64 s))
  (first | go_keep)
  (first
   | (go_at_call 158;have tok := hw4;refine (P3.out _).mono ?_;rintro e w5 ⟨rfl, hb5⟩;have hX5 := hX4.on hb5;have hw5 := Bl.tr hw4 hb5;have q3 : w5.cell? ⟨w.heap.size, 3, none⟩ = some (.int .i64 h) := hX5.cell 3;have q4 : w5.cell? ⟨w.heap.size, 4, none⟩ = some (.int .i64 mi) := hX5.cell 4;have q5 : w5.cell? ⟨w.heap.size, 5, none⟩ = some (.int .i64 s) := hX5.cell 5)
   | (go_at_call 158;have tok := hw3;refine (P2.out _).mono ?_;rintro e w4 ⟨rfl, hb4⟩;have hX4 := hX3.on hb4;have hw4 := Bl.tr hw3 hb4;have q3 : w4.cell? ⟨w.heap.size, 3, none⟩ = some (.int .i64 h) := hX4.cell 3;have q4 : w4.cell? ⟨w.heap.size, 4, none⟩ = some (.int .i64 mi) := hX4.cell 4;have q5 : w4.cell? ⟨w.heap.size, 5, none⟩ = some (.int .i64 s) := hX4.cell 5)
   | (go_at_call 158;refine (P1.out _).mono ?_;rintro e w3 ⟨rfl, hb3⟩;replace hb3 := Bl.undrew hb3;have hX3 := hXb.on hb3;have hw3 := Bl.tr hwb hb3;have q3 : w3.cell? ⟨w.heap.size, 3, none⟩ = some (.int .i64 h) := hX3.cell 3;have q4 : w3.cell? ⟨w.heap.size, 4, none⟩ = some (.int .i64 mi) := hX3.cell 4;have q5 : w3.cell? ⟨w.heap.size, 5, none⟩ = some (.int .i64 s) := hX3.cell 5))
 clear sc1 sc2 sc3 sck q3 q4 q5;have q2 : w5.cell? ⟨w.heap.size, 2, none⟩ = some (.int .i64 d) := hX5.cell 2;go_wp2_with fail;refine (P4.out w5).mono ?_;rintro e w6 ⟨rfl, hb6⟩;have hX6 := hX5.on hb6;have hw6 := Bl.tr hw5 hb6;have q2 : w6.cell? ⟨w.heap.size, 2, none⟩ = some (.int .i64 d) := hX6.cell 2
 obtain ⟨x1, x2, rfl⟩ : ∃ x1 x2, dd = [x1, x2] := by
  match dd, ldd with
  | [x1, x2], _ => exact ⟨x1, x2, rfl⟩
 clear ldd hX5 hw5 hb6;go_wp2_with fail
 ·have HL3 : low = [32, x2] := by rw [HLOW.out, if_pos (by omega)];rfl
  subst HL3;clear HLOW;clear q2;have hq3 := slice3 lw wq HW3.out lwk3;have hq4 := slice3' lw wq HW3.out lwk3;have sa1 := Hsa1.out;have sa2 := Hsa2.out;have sa3 := Hsa3.out;have sa4 := Hsa4.out;have sa5 := Hsa5.out;have sa6 := Hsa6.out;have sa7 := Hsa7.out;have sa8 := Hsa8.out;have sT0 := HsT0.out;have sb1 := Hsb1.out;have sb2 := Hsb2.out;have sb3 := Hsb3.out;have sb4 := Hsb4.out;have sb5 := Hsb5.out;have sb6 := Hsb6.out;have sb7 := Hsb7.out;have sb8 := Hsb8.out;have sT1 := HsT1.out;have se1 := Hse1.out;have se2 := Hse2.out;have se3 := Hse3.out;have se4 := Hse4.out;have se5 := Hse5.out;have se6 := Hse6.out;have se7 := Hse7.out;have sT2 := HsT2.out;have q0 : w6.cell? ⟨w.heap.size, 0, none⟩ = some (.int .i64 y) := hX6.cell 0
  go_region_held3 (fun w' => w'.cell? ⟨w.heap.size, 0, none⟩ = some (.int .i64 y))
   (first | go_keep)
   (first
    | (go_at_call 158;have tok := hw8;refine (P5.out _).mono ?_;rintro e w9 ⟨rfl, hb9⟩;have hX9 := hX8.on hb9;have hw9 := Bl.tr hw8 hb9;have q0 : w9.cell? ⟨w.heap.size, 0, none⟩ = some (.int .i64 y) := hX9.cell 0)
    | (go_at_call 158;have tok := hw7;refine (P6.out _).mono ?_;rintro e w8 ⟨rfl, hb8⟩;have hX8 := hX7.on hb8;have hw8 := Bl.tr hw7 hb8;have q0 : w8.cell? ⟨w.heap.size, 0, none⟩ = some (.int .i64 y) := hX8.cell 0)
    | (go_at_call 158;refine (P5.out _).mono ?_;rintro e w7 ⟨rfl, hb7⟩;replace hb7 := Bl.undrew hb7;have hX7 := hX6.on hb7;have hw7 := Bl.tr hw6 hb7;have q0 : w7.cell? ⟨w.heap.size, 0, none⟩ = some (.int .i64 y) := hX7.cell 0))
  go_wp2;go_ret;exact ⟨_, rfl, World.ownsRow_lit (base := w.heap.size) (e := 9) (size := 1) _ ([T0, T1, T2].map S).toArray 3 hw9.size (by decide) rfl, (hw9.alloc hw9.size _)⟩
 ·have HL3 : low = [x1, x2] := by rw [HLOW.out, if_neg (by omega)]
  subst HL3;clear HLOW;clear q2;have hq3 := slice3 lw wq HW3.out lwk3;have hq4 := slice3' lw wq HW3.out lwk3;have sa1 := Hsa1.out;have sa2 := Hsa2.out;have sa3 := Hsa3.out;have sa4 := Hsa4.out;have sa5 := Hsa5.out;have sa6 := Hsa6.out;have sa7 := Hsa7.out;have sa8 := Hsa8.out;have sT0 := HsT0.out;have sb1 := Hsb1.out;have sb2 := Hsb2.out;have sb3 := Hsb3.out;have sb4 := Hsb4.out;have sb5 := Hsb5.out;have sb6 := Hsb6.out;have sb7 := Hsb7.out;have sb8 := Hsb8.out;have sT1 := HsT1.out;have se1 := Hse1.out;have se2 := Hse2.out;have se3 := Hse3.out;have se4 := Hse4.out;have se5 := Hse5.out;have se6 := Hse6.out;have se7 := Hse7.out;have sT2 := HsT2.out;have q0 : w6.cell? ⟨w.heap.size, 0, none⟩ = some (.int .i64 y) := hX6.cell 0
  go_region_held3 (fun w' => w'.cell? ⟨w.heap.size, 0, none⟩ = some (.int .i64 y))
   (first | go_keep)
   (first
    | (go_at_call 158;have tok := hw8;refine (P5.out _).mono ?_;rintro e w9 ⟨rfl, hb9⟩;have hX9 := hX8.on hb9;have hw9 := Bl.tr hw8 hb9;have q0 : w9.cell? ⟨w.heap.size, 0, none⟩ = some (.int .i64 y) := hX9.cell 0)
    | (go_at_call 158;have tok := hw7;refine (P6.out _).mono ?_;rintro e w8 ⟨rfl, hb8⟩;have hX8 := hX7.on hb8;have hw8 := Bl.tr hw7 hb8;have q0 : w8.cell? ⟨w.heap.size, 0, none⟩ = some (.int .i64 y) := hX8.cell 0)
    | (go_at_call 158;refine (P5.out _).mono ?_;rintro e w7 ⟨rfl, hb7⟩;replace hb7 := Bl.undrew hb7;have hX7 := hX6.on hb7;have hw7 := Bl.tr hw6 hb7;have q0 : w7.cell? ⟨w.heap.size, 0, none⟩ = some (.int .i64 y) := hX7.cell 0))
  go_wp2;go_ret;exact ⟨_, rfl, World.ownsRow_lit (base := w.heap.size) (e := 9) (size := 1) _ ([T0, T1, T2].map S).toArray 3 hw9.size (by decide) rfl, (hw9.alloc hw9.size _)⟩
end Go.Proofs.YtahapblgmehngaaGreatDoor
namespace Go.Dr
theorem monthF_out {s : Bytes} {a : Int} (h : a < 0 ∨ (s.length : Int) < a + 3) : monthF s a = 0 := by
 unfold monthF;rw [if_neg];omega
theorem monthF_none {s : Bytes} {k : Nat} (hno : ∀ j (hj : j < 12), monTab[j]'hj ≠ (s.drop k).take 3) : monthF s (k : Int) = 0 := by
 unfold monthF;rw [if_neg];intro e;have h := e.2.2;rw [Int.toNat_natCast] at h;have e3 := List.findIdx_getElem (p := fun t => t == (s.drop k).take 3) (xs := monTab) (w := h);simp only [beq_iff_eq] at e3;exact hno _ h e3
theorem monthF_at {s : Bytes} {k i : Nat} (hk : k + 3 ≤ s.length) (hi : i < 12) (h : monTab[i]'hi = (s.drop k).take 3) (hno : ∀ j (hj : j < i), monTab[j]'(Nat.lt_trans hj hi) ≠ (s.drop k).take 3) : monthF s (k : Int) = i + 1 := by
 have e : monTab.findIdx (fun t => t == (s.drop k).take 3) = i := by
  rw [List.findIdx_eq (xs := monTab) (i := i) hi];exact ⟨by simp [h], fun j hj => by rw [beq_eq_false_iff_ne];exact hno j hj⟩
 unfold monthF;rw [Int.toNat_natCast, e, if_pos ⟨by omega, by omega, hi⟩]
end Go.Dr
namespace Go.Proofs.YtahapblgmehngaaGreatDoor
open Go.RowKit Go.Dr
theorem slice_mid (l q : Bytes) (k : Nat) (hq : q = (l.drop k).take 3) (h : k + 3 ≤ l.length) : ∀ w' : World, (Instr.slice 9 (S l) (some (.int .i64 (k : Int))) (some (.int .i64 ((k : Int) + 3))) none).run Tryz.prog w' = .ok (S q) w' := fun w' => by
 have hj : 0 ≤ (k : Int) + 3 ∧ (k : Int) + 3 ≤ ((⟨l.toArray⟩ : ByteArray).size : Int) := ⟨by omega, by simp [ByteArray.size];omega⟩;have hi : 0 ≤ (k : Int) ∧ (k : Int) ≤ (k : Int) + 3 := ⟨by omega, by omega⟩;rw [run_slice_string_if w' 9 ⟨l.toArray⟩ .i64 .i64 _ _ Tryz.underlying9, if_pos hj, if_pos hi, ba_extract, hq];rw [show ((k : Int) + 3).toNat = k + 3 by omega, Int.toNat_natCast, List.drop_take, show k + 3 - k = 3 by omega]
theorem slice_mid' (l q : Bytes) (k : Nat) (hq : q = (l.drop k).take 3) (h : k + 3 ≤ l.length) : ∀ w' : World, (Instr.sliceAt 9 (S l) (some (.int .i64 (k : Int))) (some (.int .i64 ((k : Int) + 3))) none).run Tryz.prog w' = .ok (S q) w' := fun w' => by
 rw [run_sliceAt_string w' 9 _ _ _ _ Tryz.underlying9];exact slice_mid l q k hq h w'
theorem refMonth_any (s : Bytes) (a : Int) (w : World) (hs : s.length ≤ 1099511627776) (ha : -1000 ≤ a) (ha2 : a ≤ 2199023255552) : Calls Tryz.prog 152 #[S s, .int .i64 a] w fun e w' => e = .returned (.int .i64 (monthF s a : Nat)) ∧ Below w.heap.size w w' := by
 by_cases hout : a < 0 ∨ (s.length : Int) < a + 3
 ·have H := Lib.hid (monthF_out (s := s) hout)
  by_cases h0 : a < 0
  ·clear hout
   have g0 : decide (0 ≤ a) = false := (by simp;omega);go_enter Tryz.func152, Tryz.ntmps152
   go_wp2
   go_loopw [5] (fun i wr => ∃ k : Nat, i = .int .i64 k ∧ k ≤ 12 ∧ Below w.heap.size w wr) (fun i _ => 12 - (intOf i).toNat)
   case atStart => exact ⟨0, rfl, by omega, Below.refl _ _⟩
   case round =>
    obtain ⟨k, rfl, hk, hbel⟩ := hrel;by_cases hlt : k < 12
    ·go_wp2
     go_quiet (fail)
     go_wp2
     go_roundw
     case rel => exact ⟨k + 1, by go_num, by omega, below_drewN hbel _⟩
     case measure => simp [intOf];omega
    ·go_wp2
     go_ret;exact ⟨ret_int (by rw [H.out];rfl), hbel⟩
  ·have h1 : (s.length : Int) < a + 3 := by omega
   have g0 : decide (0 ≤ a) = true := (by simp;omega);have g1 : decide (a + 3 ≤ (s.length : Int)) = false := (by simp;omega);clear hout h0;go_enter Tryz.func152, Tryz.ntmps152
   go_wp2
   go_loopw [5] (fun i wr => ∃ k : Nat, i = .int .i64 k ∧ k ≤ 12 ∧ Below w.heap.size w wr) (fun i _ => 12 - (intOf i).toNat)
   case atStart => exact ⟨0, rfl, by omega, Below.refl _ _⟩
   case round =>
    obtain ⟨k, rfl, hk, hbel⟩ := hrel;by_cases hlt : k < 12
    ·go_wp2
     go_quiet (fail)
     go_wp2
     go_roundw
     case rel => exact ⟨k + 1, by go_num, by omega, below_drewN hbel _⟩
     case measure => simp [intOf];omega
    ·go_wp2
     go_ret;exact ⟨ret_int (by rw [H.out];rfl), hbel⟩
 ·obtain ⟨k, hak⟩ := Int.eq_ofNat_of_zero_le (show 0 ≤ a by omega)
  have hk3 : k + 3 ≤ s.length := (by omega);obtain ⟨q, hq⟩ : ∃ q, q = (s.drop k).take 3 := ⟨_, rfl⟩;have hsl := slice_mid s q k hq hk3;have hsl' := slice_mid' s q k hq hk3
  have HN := Lib.hid (fun hno => monthF_none (s := s) (k := k) hno);have HAt := fun i hi h hno => Lib.hid (monthF_at (s := s) (k := k) (i := i) hk3 hi h hno)
  rw [← hq] at HN HAt;rw [← hak] at HN HAt hsl hsl';have HAT := Lib.hid HAt;have g0 : decide (0 ≤ a) = true := (by simp;omega);have g1 : decide (a + 3 ≤ (s.length : Int)) = true := (by simp;omega);have hwr : IntKind.i64.wrap (a + 3) = a + 3 := (by rw [IntKind.wrap_i64];omega);clear HAt hout hq hak hk3;generalize monthF s a = mf at *;go_enter Tryz.func152, Tryz.ntmps152
  go_wp2
  go_loopw [5] (fun i wr => ∃ i' : Nat, i = .int .i64 i' ∧ i' ≤ 12 ∧ Hid (∀ j (hj : j < 12), j < i' → monTab[j]'hj ≠ q) ∧ Below w.heap.size w wr) (fun i _ => 12 - (intOf i).toNat)
  case atStart => exact ⟨0, rfl, by omega, fun j hj h => by omega, Below.refl _ _⟩
  case round =>
   obtain ⟨i, rfl, hi, HNO, hbel⟩ := hrel;by_cases hlt : i < 12
   ·obtain ⟨mo, hmo⟩ : ∃ mo, mo = monTab[i]'hlt := ⟨_, rfl⟩
    have gm : monTab[i]? = some mo := (by rw [hmo];exact List.getElem?_eq_getElem hlt);have hi12 : (i : Int) < 12 := (by omega);have hl12 : monTab.length = 12 := rfl;by_cases heq : q = mo
    ·have g2 : (q == mo) = true := by simp [heq]
     have HF := Lib.hid ((HAT.out i hlt (by rw [← hmo, heq]) (fun j hj => HNO.out j (Nat.lt_trans hj hlt) hj)).out);clear heq HNO HN HAT hmo;go_wp2_with fail;refine wp_region_held_drew (S := fun _ => True) (by kernel_rfl) trivial (fun hH => ?_);refine tA 0 ?_ ?_ hH ?_;rotate_left;(intro w h;go_simp;try rfl);simp only [PT];refine tA 1 ?_ ?_ hH ?_;rotate_left;(intro w h;go_simp;try rfl);simp only [PT];refine tA 2 ?_ ?_ hH ?_;rotate_left;(intro w h;go_simp;try rfl);simp only [PT];refine tA 3 ?_ ?_ hH ?_;rotate_left;(intro w h;go_simp;try rfl);simp only [PT];refine tA 4 ?_ ?_ hH ?_;rotate_left;(intro w h;go_simp;try rfl);simp only [PT];refine tA 5 ?_ ?_ hH ?_;rotate_left;(intro w h;go_simp;try rfl);simp only [PT];refine tA 6 ?_ ?_ hH ?_;rotate_left;(intro w h;go_simp;try rfl);simp only [PT];refine tA 7 ?_ ?_ hH ?_;rotate_left;(intro w h;go_simp;try rfl);simp only [PT];refine tA 8 ?_ ?_ hH ?_;rotate_left;(intro w h;go_simp;try rfl);simp only [PT];refine tA 9 ?_ ?_ hH ?_;rotate_left;(intro w h;go_simp;try rfl);simp only [PT];refine tA 10 ?_ ?_ hH ?_;rotate_left;(intro w h;go_simp;try rfl);simp only [PT];refine tA 11 ?_ ?_ hH ?_;rotate_left;(intro w h;go_simp;try rfl);simp only [PT];refine tA 12 ?_ ?_ hH ?_;rotate_left;(intro w h;go_simp;try rfl);simp only [PT];refine tA 13 ?_ ?_ hH ?_;rotate_left;(intro w h;go_simp;try rfl);simp only [PT];refine tA 14 ?_ ?_ hH ?_;rotate_left;(intro w h;go_simp;try rfl);simp only [PT];refine tA 16 ?_ ?_ hH ?_;rotate_left;(intro w h;go_simp;try rfl);simp only [PT];refine tC 15 (fun K hK => ?_);go_simp
     (go_at_call 157;refine (Months_any _).mono ?_;rintro e wb ⟨vb, rfl, hob, hbb⟩;have hbr : Below wr.heap.size wr wb := (by first | exact Bl.undrew hbb | exact hbb);have hrb : Ss wb.heap.size wb vb monTab := Ss.own hob;obtain ⟨pb, cb, rfl, -⟩ := hrb.form;obtain ⟨bb, ob, rfl, hltb, d0⟩ := hrb.get i mo gm)
     refine hK.out _ _ trivial (fun hH => ?_);clear hK K;(try simp only [PT]);refine tA 17 ?_ ?_ hH ?_;rotate_left;(intro w h;go_simp;try rfl);simp only [PT];refine tC 18 (fun K hK => ?_);go_simp
     skip;refine hK.out _ _ trivial (fun hH => ?_);clear hK K;(try simp only [PT]);refine tA 19 ?_ ?_ hH ?_;rotate_left;(intro w h;go_simp;try rfl);simp only [PT];refine tA 20 ?_ ?_ hH ?_;rotate_left;(intro w h;go_simp;try rfl);simp only [PT];(try simp only [PT]);refine wpAnyH_done (by kernel_rfl) ?_ _;go_wp2;go_ret;exact ⟨ret_int (by rw [HF.out];push_cast;rfl), hbel.trans (hbr.mono hbel.size)⟩
    ·have g2 : (q == mo) = false := by simp [heq]
     have HNO2 : Hid (∀ j (hj : j < 12), j < i + 1 → monTab[j]'hj ≠ q) := fun j hj h => by
      by_cases e : j = i
      ·subst e;rw [← hmo];exact fun e2 => heq e2.symm
      ·exact HNO.out j hj (by omega)
     clear heq HNO hmo;go_wp2_with fail;refine wp_region_held_drew (S := fun _ => True) (by kernel_rfl) trivial (fun hH => ?_);refine tA 0 ?_ ?_ hH ?_;rotate_left;(intro w h;go_simp;try rfl);simp only [PT];refine tA 1 ?_ ?_ hH ?_;rotate_left;(intro w h;go_simp;try rfl);simp only [PT];refine tA 2 ?_ ?_ hH ?_;rotate_left;(intro w h;go_simp;try rfl);simp only [PT];refine tA 3 ?_ ?_ hH ?_;rotate_left;(intro w h;go_simp;try rfl);simp only [PT];refine tA 4 ?_ ?_ hH ?_;rotate_left;(intro w h;go_simp;try rfl);simp only [PT];refine tA 5 ?_ ?_ hH ?_;rotate_left;(intro w h;go_simp;try rfl);simp only [PT];refine tA 6 ?_ ?_ hH ?_;rotate_left;(intro w h;go_simp;try rfl);simp only [PT];refine tA 7 ?_ ?_ hH ?_;rotate_left;(intro w h;go_simp;try rfl);simp only [PT];refine tA 8 ?_ ?_ hH ?_;rotate_left;(intro w h;go_simp;try rfl);simp only [PT];refine tA 9 ?_ ?_ hH ?_;rotate_left;(intro w h;go_simp;try rfl);simp only [PT];refine tA 10 ?_ ?_ hH ?_;rotate_left;(intro w h;go_simp;try rfl);simp only [PT];refine tA 11 ?_ ?_ hH ?_;rotate_left;(intro w h;go_simp;try rfl);simp only [PT];refine tA 12 ?_ ?_ hH ?_;rotate_left;(intro w h;go_simp;try rfl);simp only [PT];refine tA 13 ?_ ?_ hH ?_;rotate_left;(intro w h;go_simp;try rfl);simp only [PT];refine tA 14 ?_ ?_ hH ?_;rotate_left;(intro w h;go_simp;try rfl);simp only [PT];refine tA 16 ?_ ?_ hH ?_;rotate_left;(intro w h;go_simp;try rfl);simp only [PT];refine tC 15 (fun K hK => ?_);go_simp
     (go_at_call 157;refine (Months_any _).mono ?_;rintro e wb ⟨vb, rfl, hob, hbb⟩;have hbr : Below wr.heap.size wr wb := (by first | exact Bl.undrew hbb | exact hbb);have hrb : Ss wb.heap.size wb vb monTab := Ss.own hob;obtain ⟨pb, cb, rfl, -⟩ := hrb.form;obtain ⟨bb, ob, rfl, hltb, d0⟩ := hrb.get i mo gm)
     refine hK.out _ _ trivial (fun hH => ?_);clear hK K;(try simp only [PT]);refine tA 17 ?_ ?_ hH ?_;rotate_left;(intro w h;go_simp;try rfl);simp only [PT];refine tC 18 (fun K hK => ?_);go_simp
     skip;refine hK.out _ _ trivial (fun hH => ?_);clear hK K;(try simp only [PT]);refine tA 19 ?_ ?_ hH ?_;rotate_left;(intro w h;go_simp;try rfl);simp only [PT];refine tA 20 ?_ ?_ hH ?_;rotate_left;(intro w h;go_simp;try rfl);simp only [PT];(try simp only [PT]);refine wpAnyH_done (by kernel_rfl) ?_ _;go_wp2
     go_roundw
     case rel => exact ⟨i + 1, by go_num, by omega, HNO2, hbel.trans (hbr.mono hbel.size)⟩
     case measure => simp [intOf];omega
   ·obtain rfl : i = 12 := by omega
    have HF := Lib.hid (HN.out (fun j hj => HNO.out j hj hj));clear hlt;go_wp2;go_ret;exact ⟨ret_int (by rw [HF.out];rfl), hbel⟩
end Go.Proofs.YtahapblgmehngaaGreatDoor
