
/- The walks of layer 20: what is given of an entry, in general (printed by ansgen.py). -/
import Derived.Test.YtghggooaaefdcaaDoorAns
namespace Go.Dr
def ageFld (n : Nat) : F := ⟨ageT, digs n, false⟩
theorem ageFld_sum (n : Nat) (h : n ≤ 1099511627776) : fsum [ageFld n] ≤ 100 := by
  have := digs_length n 12 (by omega)
  simp only [fsum, ageFld, List.map_cons, List.map_nil, List.sum_cons, List.sum_nil, ageT]
  simp
  omega
end Go.Dr
namespace Go.Proofs.YtghggooaaefdcaaDoor
open Go.RowKit Go.Dr

def viaT (who : Bytes) : Bytes := [49, 46, 49, 32] ++ who
def RetAns (w : World) (n : Int) (l : List F) (b : Bytes) (e : Ending) (w' : World) : Prop := ∃ v, e = .returned (.tuple #[.int .i64 n, v, S b]) ∧ Fs w'.heap.size w' v l ∧ Below w.heap.size w w'
set_option linter.unusedVariables false in
set_option maxRecDepth 100000 in
set_option maxHeartbeats 8000000 in
theorem AnswerMet (r : Rq) (key body : Bytes) (vp vf : Value) (st asked came now : Int) (lr lf : List F) (who : Bytes) (hM : metF r.m st lr lf came = true)
    (w : World) (hr : Fs w.heap.size w r.v lr) (hf : Fs w.heap.size w vf lf) (hl : fsum lr ≤ 1099511627776) (hl2 : fsum lf ≤ 549755813888) (hb : body.length ≤ 1099511627776) (hw : who.length ≤ 1000) :
    Calls Tryd.prog 35 #[r.val, .agg #[S key, vp, .int .i64 st, vf, S body, .int .i64 asked, .int .i64 came], .int .i64 now, S who] w (RetAns w 304 (lf.filter toldB ++ [ageFld (ageF lf asked came now)] ++ [viaF (viaT who)]) []) := by
  obtain ⟨pr, cr, hrv, -⟩ := hr.form
  obtain ⟨pf, cf, rfl, -⟩ := hf.form
  have hmet := fun w h1 h2 => Met_any r ⟨key, vp, st, .slice pf lf.length cf, body, asked, came⟩ lr lf w h1 h2 hl (by omega)
  have hage := fun w h => Age_any ⟨key, vp, st, .slice pf lf.length cf, body, asked, came⟩ lf now w h (by omega)
  simp only at hmet hage
  rw [hM] at hmet
  obtain ⟨rm, rs, ra, rp, rv⟩ := r
  simp only at hrv hr hM
  subst hrv
  simp only [Rq.val, En.val] at hmet hage ⊢
  have hAl := ageF_le lf asked came now
  generalize ageF lf asked came now = A at *
  have hAs := ageFld_sum A hAl
  have HMet := Lib.hid hmet
  have HAge := Lib.hid hage
  clear hmet hage hM
  have hfl := fsum_filter lf toldB
  have hR := Blk.new w 67 #[S rm, S rs, S ra, S rp, .slice pr lr.length cr]
  have hbx : Below w.heap.size w (w.alloc (.cells #[S rm, S rs, S ra, S rp, .slice pr lr.length cr] 67)) := (Below.refl _ _).alloc (Nat.le_refl _) _
  have hQ := Blk.new (w.alloc (.cells #[S rm, S rs, S ra, S rp, .slice pr lr.length cr] 67)) 28 #[S key, vp, .int .i64 st, .slice pf lf.length cf, S body, .int .i64 asked, .int .i64 came]
  have hby := hbx.alloc hbx.size (.cells #[S key, vp, .int .i64 st, .slice pf lf.length cf, S body, .int .i64 asked, .int .i64 came] 28)
  have hsz : (w.alloc (.cells #[S rm, S rs, S ra, S rp, .slice pr lr.length cr] 67)).heap.size = w.heap.size + 1 := by simp
  rw [hsz] at hQ
  have hR2 := hR.alloc (.cells #[S key, vp, .int .i64 st, .slice pf lf.length cf, S body, .int .i64 asked, .int .i64 came] 28)
  have hr2 := (hr.below hby).mono hby.size
  have hf2 := (hf.below hby).mono hby.size
  clear hsz hR hbx hr hf
  go_enter Tryd.func35, Tryd.ntmps35
  go_wp2_with fail
  generalize ((w.alloc (.cells #[S rm, S rs, S ra, S rp, .slice pr lr.length cr] 67)).alloc (.cells #[S key, vp, .int .i64 st, .slice pf lf.length cf, S body, .int .i64 asked, .int .i64 came] 28)) = w2 at *
  refine (HAge.out w2 hf2).mono ?_
  rintro e w3 ⟨rfl, hb3⟩
  have hw3 := Bl.tr hby hb3
  replace hr2 := (hr2.below hb3).mono hb3.size
  replace hf2 := (hf2.below hb3).mono hb3.size
  replace hQ := hQ.on hb3
  replace hR2 := hR2.on hb3
  clear hby hb3 HAge
  go_wp2_with fail
  refine (Digits_any A w3 (by omega)).mono ?_
  rintro e w4 ⟨rfl, hb4⟩
  have hw4 := Bl.tr hw3 hb4
  replace hr2 := (hr2.below hb4).mono hb4.size
  replace hf2 := (hf2.below hb4).mono hb4.size
  replace hQ := hQ.on hb4
  replace hR2 := hR2.on hb4
  clear hw3 hb4
  have hal : Below w4.heap.size w4 (w4.alloc (.cells #[S ageT, S (digs A), .bool false] 45)) := (Below.refl _ _).alloc (Nat.le_refl _) _
  have hG := Blk.new w4 45 #[S ageT, S (digs A), .bool false]
  have hr5 := (hr2.below hal).mono hal.size
  have hf5 := (hf2.below hal).mono hal.size
  have hQ5 := hQ.on hal
  have hR5 := hR2.on hal
  have hw5 := Bl.tr hw4 hal
  have ql := hQ.lt
  have rl := hR2.lt
  (have q0 : w4.cell? ⟨w.heap.size + 1, 0, none⟩ = some (S key) := hQ.cell 0; have q1 : w4.cell? ⟨w.heap.size + 1, 1, none⟩ = some (vp) := hQ.cell 1; have q2 : w4.cell? ⟨w.heap.size + 1, 2, none⟩ = some (.int .i64 st) := hQ.cell 2; have q3 : w4.cell? ⟨w.heap.size + 1, 3, none⟩ = some (.slice pf lf.length cf) := hQ.cell 3; have q4 : w4.cell? ⟨w.heap.size + 1, 4, none⟩ = some (S body) := hQ.cell 4; have q5 : w4.cell? ⟨w.heap.size + 1, 5, none⟩ = some (.int .i64 asked) := hQ.cell 5; have q6 : w4.cell? ⟨w.heap.size + 1, 6, none⟩ = some (.int .i64 came) := hQ.cell 6)
  (have r0 : w4.cell? ⟨w.heap.size, 0, none⟩ = some (S rm) := hR2.cell 0; have r1 : w4.cell? ⟨w.heap.size, 1, none⟩ = some (S rs) := hR2.cell 1; have r2 : w4.cell? ⟨w.heap.size, 2, none⟩ = some (S ra) := hR2.cell 2; have r3 : w4.cell? ⟨w.heap.size, 3, none⟩ = some (S rp) := hR2.cell 3; have r4 : w4.cell? ⟨w.heap.size, 4, none⟩ = some (.slice pr lr.length cr) := hR2.cell 4)
  have hGlt := hG.lt
  have hne : w4.heap.size ≠ w.heap.size + 1 := Nat.ne_of_gt ql
  clear hal hr2 hf2 hQ hR2 hw4
  go_wp2_with fail
  change Calls _ _ _ (w4.alloc (.cells #[S ageT, S (digs A), .bool false] 45)) _
  clear q0 q1 q2 q3 q4 q5 q6 r0 r1 r2 r3 r4
  generalize w4.alloc (.cells #[S ageT, S (digs A), .bool false] 45) = w5 at *
  generalize w4.heap.size = bG at *
  refine (HMet.out w5 hr5 hf5).mono ?_
  rintro e w6 ⟨rfl, hb6⟩
  have hw6 := Bl.tr hw5 hb6
  have hf6 := (hf5.below hb6).mono hb6.size
  have hQ6 := hQ5.on hb6
  have hR6 := hR5.on hb6
  have hG6 := hG.on hb6
  clear hr5 hf5 hQ5 hR5 hG hb6 HMet ql hGlt rl
  have hGl := hG6.lt
  have hQl := hQ6.lt
  have hRl := hR6.lt
  have hcc : 4 + who.length ≤ 9223372036854775807 := by omega
  have hcl : (viaT who).length ≤ 9223372036854775807 := by simp [viaT]; omega
  have hcl2 : (viaT who).length ≤ 2000 := by simp [viaT]; omega
  have hadd : ∀ w' : World, (Op.stringOp .add ⟨#[49, 46, 49, 32]⟩ ⟨who.toArray⟩).run Tryd.prog w' = .ok (S (viaT who)) w' := fun w' => by
    have := run_string_add_sum (P := Tryd.prog) (w := w') ⟨#[49, 46, 49, 32]⟩ ⟨who.toArray⟩ (by simp [ByteArray.size]; omega)
    rw [this]
    rw [show (⟨#[49, 46, 49, 32]⟩ : ByteArray) = ⟨([49, 46, 49, 32] : Bytes).toArray⟩ from rfl, ba_append]
    rfl
  have a0 : w6.cell? ⟨bG, 0, none⟩ = some (S ageT) := hG6.cell 0
  have a1 : w6.cell? ⟨bG, 1, none⟩ = some (S (digs A)) := hG6.cell 1
  have a2 : w6.cell? ⟨bG, 2, none⟩ = some (.bool false) := hG6.cell 2
  have g3 : w6.cell? ⟨w.heap.size + 1, 3, none⟩ = some (.slice pf lf.length cf) := hQ6.cell 3
  have hfw := fsum_append (lf.filter toldB) [ageFld A]
  have hfll := fsum_length (lf.filter toldB)
  go_wp2_with fail
  go_region_held3 (fun w' => w'.cell? ⟨w.heap.size + 1, 3, none⟩ = some (.slice pf lf.length cf) ∧ w'.cell? ⟨bG, 0, none⟩ = some (S ageT) ∧ w'.cell? ⟨bG, 1, none⟩ = some (S (digs A)) ∧ w'.cell? ⟨bG, 2, none⟩ = some (.bool false))
    (first | go_keep)
    ((first
      | (go_at_call 65; refine (onlyTold_any lf _ _ (by first | exact hf6.drew | exact ((hf6.drew).below ((Below.refl _ _).alloc (Nat.le_refl _) _)).mono (by simp)) (by omega)).mono ?_; rintro e w7 ⟨v7, rfl, ho7, hb7⟩; have hb67 : Below w6.heap.size w6 w7 := (by first | exact Bl.undrew hb7 | exact (((Below.refl w6.heap.size w6).drew).alloc (Nat.le_refl _) _).trans (hb7.mono (by simp))); have ho7' : w7.ownsRow w6.heap.size 45 3 v7 (lf.filter toldB).length (fcells (lf.filter toldB)) := own_base ho7 (by first | exact Nat.le_refl _ | simp); have hQ7 := hQ6.on hb67; have hG7 := hG6.on hb67; have hz7 := hb67.size; have g3 : w7.cell? ⟨w.heap.size + 1, 3, none⟩ = some (.slice pf lf.length cf) := hQ7.cell 3; have a0 : w7.cell? ⟨bG, 0, none⟩ = some (S ageT) := hG7.cell 0; have a1 : w7.cell? ⟨bG, 1, none⟩ = some (S (digs A)) := hG7.cell 1; have a2 : w7.cell? ⟨bG, 2, none⟩ = some (.bool false) := hG7.cell 2)
      | (refine step_of ?_ (by rfl); refine wp_appG _ _ 100 rfl w6.heap.size 45 (.agg #[.string ByteArray.empty, .string ByteArray.empty, .bool false]) 3 40 Tryd.underlying100 (by kernel_rfl) rfl (by decide) _ _ _ rfl (by first | exact ho7'.alloc _ | exact ho7') _ _ _ _ rfl (by first | exact (show Rd _ _ 3 _ 1 (fcells [ageFld A]) from Rd.lit w7 45 #[S ageT, S (digs A), .bool false] 3 1 rfl (by decide)) | exact (show Rd _ _ 3 _ 1 (fcells [ageFld A]) from (Rd.lit_at w6.drew w6.heap.size rfl 45 #[S ageT, S (digs A), .bool false] 3 1 rfl (by decide)).below (hb7.mono (by simp)))) (fcells_one _) (by unfold maxLen; omega) (by omega) (by first | omega | (simp; omega)) ?_; intro a9 c9 w9 hown9 hb9 hg9; have hb69 : Below w6.heap.size w6 w9 := (by first | exact (hb67.alloc hz7 _).trans hb9 | exact hb67.trans hb9); have hQ9 := hQ6.on hb69; have hG9 := hG6.on hb69; have hF9 : Fs w9.heap.size w9 (.slice a9 ((lf.filter toldB).length + 1) c9) (lf.filter toldB ++ [ageFld A]) := (by have := Rd.own hown9; unfold Fs; rw [fcells_append, List.length_append]; exact this); have g3 : w9.cell? ⟨w.heap.size + 1, 3, none⟩ = some (.slice pf lf.length cf) := hQ9.cell 3; have a0 : w9.cell? ⟨bG, 0, none⟩ = some (S ageT) := hG9.cell 0; have a1 : w9.cell? ⟨bG, 1, none⟩ = some (S (digs A)) := hG9.cell 1; have a2 : w9.cell? ⟨bG, 2, none⟩ = some (.bool false) := hG9.cell 2)
      | (go_at_call 64; refine (Via_any (lf.filter toldB ++ [ageFld A]) (viaT who) _ _ (by exact hF9) (by omega)).mono ?_; rintro e w10 ⟨v10, rfl, ho10, hb10⟩; have hQ10 := hQ9.on hb10; have hG10 := hG9.on hb10; have g3 : w10.cell? ⟨w.heap.size + 1, 3, none⟩ = some (.slice pf lf.length cf) := hQ10.cell 3; have a0 : w10.cell? ⟨bG, 0, none⟩ = some (S ageT) := hG10.cell 0; have a1 : w10.cell? ⟨bG, 1, none⟩ = some (S (digs A)) := hG10.cell 1; have a2 : w10.cell? ⟨bG, 2, none⟩ = some (.bool false) := hG10.cell 2)))
  all_goals
    go_wp2
    go_ret3
    exact ⟨v10, rfl, Fs.own ho10, Bl.tr hw6 (Bl.tr hb69 hb10)⟩

end Go.Proofs.YtghggooaaefdcaaDoor
