
/- The walks of layer 20: the answer to a client that has it already, where nothing is old. -/
import Derived.Test.YtghggooaaefdcaaDoorRen5
namespace Go.Proofs.YtghggooaaefdcaaDoor
open Go.RowKit Go.Dr

def ageF0 : F := ⟨ageT, [48], false⟩
def Ret304 (w : World) (l : List F) (e : Ending) (w' : World) : Prop := ∃ v, e = .returned (.tuple #[.int .i64 304, v, S []]) ∧ Fs w'.heap.size w' v l ∧ Below w.heap.size w w'
set_option maxRecDepth 100000 in
set_option maxHeartbeats 8000000 in
theorem AnswerMet0 (r : Rq) (key body : Bytes) (vp vf : Value) (lr lf : List F) (who : Bytes) (hm : r.m = [71, 69, 84] ∨ r.m = [72, 69, 65, 68]) (hi : hasB lr ifNoneT = true) (hM : metT (allOf lr ifNoneT) (oneB (values lf etagT)) (oneV (values lf etagT)) = true) (hd : values lf dateT = []) (ha : values lf ageT = [])
    (w : World) (hr : Fs w.heap.size w r.v lr) (hf : Fs w.heap.size w vf lf) (hl : fsum lr ≤ 1099511627776) (hl2 : fsum lf ≤ 549755813888) (hw : who.length ≤ 1000) :
    Calls Tryd.prog 35 #[r.val, .agg #[S key, vp, .int .i64 200, vf, S body, .int .i64 0, .int .i64 0], .int .i64 0, S who] w (Ret304 w (lf.filter toldB ++ [ageF0] ++ [viaF ([49, 46, 49, 32] ++ who)])) := by
  obtain ⟨pr, cr, hrv, -⟩ := hr.form
  obtain ⟨pf, cf, rfl, -⟩ := hf.form
  have hmet := fun w h1 h2 => metTag_any r ⟨key, vp, 200, .slice pf lf.length cf, body, 0, 0⟩ lr lf hm rfl hi w h1 h2 hl (by omega)
  rw [hM] at hmet
  obtain ⟨rm, rs, ra, rp, rv⟩ := r
  simp only at hrv hr hm
  subst hrv
  simp only [Rq.val, En.val] at hmet ⊢
  have HMet := Lib.hid hmet
  have HD := Lib.hid hd
  have HA := Lib.hid ha
  clear hmet hM hm hi hd ha
  have hfl := fsum_filter lf toldB
  have hR := Blk.new w 67 #[S rm, S rs, S ra, S rp, .slice pr lr.length cr]
  have hbx : Below w.heap.size w (w.alloc (.cells #[S rm, S rs, S ra, S rp, .slice pr lr.length cr] 67)) := (Below.refl _ _).alloc (Nat.le_refl _) _
  have hQ := Blk.new (w.alloc (.cells #[S rm, S rs, S ra, S rp, .slice pr lr.length cr] 67)) 28 #[S key, vp, .int .i64 200, .slice pf lf.length cf, S body, .int .i64 0, .int .i64 0]
  have hby := hbx.alloc hbx.size (.cells #[S key, vp, .int .i64 200, .slice pf lf.length cf, S body, .int .i64 0, .int .i64 0] 28)
  have hsz : (w.alloc (.cells #[S rm, S rs, S ra, S rp, .slice pr lr.length cr] 67)).heap.size = w.heap.size + 1 := by simp
  rw [hsz] at hQ
  have hR2 := hR.alloc (.cells #[S key, vp, .int .i64 200, .slice pf lf.length cf, S body, .int .i64 0, .int .i64 0] 28)
  have hr2 := (hr.below hby).mono hby.size
  have hf2 := (hf.below hby).mono hby.size
  clear hsz hR hbx hr hf
  go_enter Tryd.func35, Tryd.ntmps35
  go_wp2_with fail
  generalize ((w.alloc (.cells #[S rm, S rs, S ra, S rp, .slice pr lr.length cr] 67)).alloc (.cells #[S key, vp, .int .i64 200, .slice pf lf.length cf, S body, .int .i64 0, .int .i64 0] 28)) = w2 at *
  refine (AgeNone_any key body vp _ 200 lf HD.out HA.out w2 hf2 (by omega)).mono ?_
  rintro e w3 ⟨rfl, hb3⟩
  have hw3 := Bl.tr hby hb3
  replace hr2 := (hr2.below hb3).mono hb3.size
  replace hf2 := (hf2.below hb3).mono hb3.size
  replace hQ := hQ.on hb3
  replace hR2 := hR2.on hb3
  clear hby hb3
  go_wp2_with fail
  refine (DigitsZero_any w3).mono ?_
  rintro e w4 ⟨rfl, hb4⟩
  have hw4 := Bl.tr hw3 hb4
  replace hr2 := (hr2.below hb4).mono hb4.size
  replace hf2 := (hf2.below hb4).mono hb4.size
  replace hQ := hQ.on hb4
  replace hR2 := hR2.on hb4
  clear hw3 hb4
  have hal : Below w4.heap.size w4 (w4.alloc (.cells #[S ageT, S [48], .bool false] 45)) := (Below.refl _ _).alloc (Nat.le_refl _) _
  have hG := Blk.new w4 45 #[S ageT, S [48], .bool false]
  have hr5 := (hr2.below hal).mono hal.size
  have hf5 := (hf2.below hal).mono hal.size
  have hQ5 := hQ.on hal
  have hR5 := hR2.on hal
  have hw5 := Bl.tr hw4 hal
  have ql := hQ.lt
  have rl := hR2.lt
  have q0 := hQ.cell 0
  have q1 := hQ.cell 1
  have q2 := hQ.cell 2
  have q3 := hQ.cell 3
  have q4 := hQ.cell 4
  have q5 := hQ.cell 5
  have q6 := hQ.cell 6
  have r0 := hR2.cell 0
  have r1 := hR2.cell 1
  have r2 := hR2.cell 2
  have r3 := hR2.cell 3
  have r4 := hR2.cell 4
  simp at q0 q1 q2 q3 q4 q5 q6 r0 r1 r2 r3 r4
  clear hal hr2 hf2 hQ hR2 hw4
  go_wp2_with fail
  change Calls _ _ _ (w4.alloc (.cells #[S ageT, S [48], .bool false] 45)) _
  have g3 := hQ5.cell 3
  have a0 := hG.cell 0
  have a1 := hG.cell 1
  have a2 := hG.cell 2
  simp at g3 a0 a1 a2
  clear q0 q1 q2 q3 q4 q5 q6 r0 r1 r2 r3 r4
  generalize w4.alloc (.cells #[S ageT, S [48], .bool false] 45) = w5 at *
  generalize w4.heap.size = bG at *
  refine (HMet.out w5 hr5 hf5).mono ?_
  rintro e w6 ⟨rfl, hb6⟩
  have hw6 := Bl.tr hw5 hb6
  have hf6 := (hf5.below hb6).mono hb6.size
  have hQ6 := hQ5.on hb6
  have hG6 := hG.on hb6
  clear hr5 hf5 hQ5 hR5 hG hb6 g3 a0 a1 a2
  have g3 := hQ6.cell 3
  have a0 := hG6.cell 0
  have a1 := hG6.cell 1
  have a2 := hG6.cell 2
  simp at g3 a0 a1 a2
  have hGl := hG6.lt
  have hQl := hQ6.lt
  have hfw := fsum_append (lf.filter toldB) [ageF0]
  have hfa : fsum [ageF0] = 36 := by decide
  have hcc : 4 + who.length ≤ 9223372036854775807 := by omega
  have hcl : (([49, 46, 49, 32] : Bytes) ++ who).length ≤ 9223372036854775807 := by simp; omega
  have hfll := fsum_length (lf.filter toldB)
  have hadd : ∀ w' : World, (Op.stringOp .add ⟨#[49, 46, 49, 32]⟩ ⟨who.toArray⟩).run Tryd.prog w' = .ok (S ([49, 46, 49, 32] ++ who)) w' := fun w' => by
    have := run_string_add_sum (P := Tryd.prog) (w := w') ⟨#[49, 46, 49, 32]⟩ ⟨who.toArray⟩ (by simp [ByteArray.size]; omega)
    rw [this]
    rw [show (⟨#[49, 46, 49, 32]⟩ : ByteArray) = ⟨([49, 46, 49, 32] : Bytes).toArray⟩ from rfl, ba_append]
  go_wp2_with fail
  go_region_held3 (fun w' => w'.cell? ⟨w.heap.size + 1, 3, none⟩ = some (.slice pf lf.length cf) ∧ w'.cell? ⟨bG, 0, none⟩ = some (S ageT) ∧ w'.cell? ⟨bG, 1, none⟩ = some (S [48]) ∧ w'.cell? ⟨bG, 2, none⟩ = some (.bool false))
    (first | go_keep)
    ((first
      | (go_at_call 65; refine (onlyTold_any lf _ _ (by first | exact hf6.drew | exact ((hf6.drew).below ((Below.refl _ _).alloc (Nat.le_refl _) _)).mono (by simp)) (by omega)).mono ?_; rintro e w7 ⟨v7, rfl, ho7, hb7⟩; have hb67 : Below w6.heap.size w6 w7 := (by first | exact Bl.undrew hb7 | exact (((Below.refl w6.heap.size w6).drew).alloc (Nat.le_refl _) _).trans (hb7.mono (by simp))); have ho7' : w7.ownsRow w6.heap.size 45 3 v7 (lf.filter toldB).length (fcells (lf.filter toldB)) := own_base ho7 (by first | exact Nat.le_refl _ | simp); have hQ7 := hQ6.on hb67; have hG7 := hG6.on hb67; have hz7 := hb67.size; have g3 := hQ7.cell 3; have a0 := hG7.cell 0; have a1 := hG7.cell 1; have a2 := hG7.cell 2; simp at g3 a0 a1 a2)
      | (refine step_of ?_ (by rfl); refine wp_appG _ _ 100 rfl w6.heap.size 45 (.agg #[.string ByteArray.empty, .string ByteArray.empty, .bool false]) 3 40 Tryd.underlying100 (by kernel_rfl) rfl (by decide) _ _ _ rfl (by first | exact ho7'.alloc _ | exact ho7') _ _ _ _ rfl (by first | exact (show Rd _ _ 3 _ 1 (fcells [ageF0]) from Rd.lit w7 45 #[S ageT, S [48], .bool false] 3 1 rfl (by decide)) | exact (show Rd _ _ 3 _ 1 (fcells [ageF0]) from (Rd.lit_at w6.drew w6.heap.size rfl 45 #[S ageT, S [48], .bool false] 3 1 rfl (by decide)).below (hb7.mono (by simp)))) (fcells_one _) (by unfold maxLen; omega) (by omega) (by first | omega | (simp; omega)) ?_; intro a9 c9 w9 hown9 hb9 hg9; have hb69 : Below w6.heap.size w6 w9 := (by first | exact (hb67.alloc hz7 _).trans hb9 | exact hb67.trans hb9); have hQ9 := hQ6.on hb69; have hG9 := hG6.on hb69; have hF9 : Fs w9.heap.size w9 (.slice a9 ((lf.filter toldB).length + 1) c9) (lf.filter toldB ++ [ageF0]) := (by have := Rd.own hown9; unfold Fs; rw [fcells_append, List.length_append]; exact this); have g3 := hQ9.cell 3; have a0 := hG9.cell 0; have a1 := hG9.cell 1; have a2 := hG9.cell 2; simp at g3 a0 a1 a2)
      | (go_at_call 64; refine (Via_any (lf.filter toldB ++ [ageF0]) _ _ _ (by exact hF9) (by omega)).mono ?_; rintro e w10 ⟨v10, rfl, ho10, hb10⟩; have hQ10 := hQ9.on hb10; have hG10 := hG9.on hb10; have g3 := hQ10.cell 3; have a0 := hG10.cell 0; have a1 := hG10.cell 1; have a2 := hG10.cell 2; simp at g3 a0 a1 a2)))
  all_goals
    go_wp2
    go_ret3
    exact ⟨v10, rfl, Fs.own ho10, Bl.tr hw6 (Bl.tr hb69 hb10)⟩
end Go.Proofs.YtghggooaaefdcaaDoor
