
/- The walks of the statements of layer 20: what is fixed, and what is small. -/
import Derived.Test.YtghggooaaefdcaaDoorRen7
import Derived.Test.YtghggooaaefdcaaDoorOct
import Derived.Test.YtghggooaaefdcaaDoorBase
namespace Go.Proofs.YtghggooaaefdcaaDoor
open Go.RowKit Go.Dr

def wakeE : List F := [⟨etagT, [34, 97, 34], false⟩]
def wakeR : List F := [⟨ifNoneT, [87, 47, 34, 97, 34], false⟩]
def wakeF : List F := [⟨etagT, [98], false⟩]
theorem wake_asks : asksF wakeE = [⟨ifNoneT, [34, 97, 34], false⟩] := by decide +kernel
theorem wake_has : hasB wakeR ifNoneT = true := by decide +kernel
theorem wake_met : metT (allOf wakeR ifNoneT) (oneB (values wakeE etagT)) (oneV (values wakeE etagT)) = true := by decide +kernel
theorem wake_date : values wakeE dateT = [] := by decide +kernel
theorem wake_age : values wakeE ageT = [] := by decide +kernel
theorem wake_told : wakeE.filter toldB ++ [ageF0] ++ [viaF ([49, 46, 49, 32] ++ [120])] = [⟨etagT, [34, 97, 34], false⟩, ageF0, viaF [49, 46, 49, 32, 120]] := by decide +kernel
theorem wake_fits : fitsB wakeF wakeE = false := by decide +kernel

/-- Few enough. -/
def smallB (l : List F) : Bool := decide (fbytes l < 8192)
theorem smallB_sum {l : List F} (h : smallB l = true) : fsum l ≤ 8191 := by
  have h1 : fbytes l < 8192 := by simpa [smallB] using h
  rw [fbytes_sum l (by omega)]
  omega

set_option maxRecDepth 100000 in
set_option maxHeartbeats 2000000 in
theorem small20_any (a b : List F) (va vb : Value) (w : World) (ha : Fs w.heap.size w va a) (hb : Fs w.heap.size w vb b) (hab : FOk a) (hbb : FOk b) :
    Calls Tryd.prog 33 #[va, vb] w fun e w' => e = .returned (.bool (smallB a && smallB b)) ∧ Below w.heap.size w w' := by
  have HA := Lib.hid hab
  have HB := Lib.hid hbb
  clear hab hbb
  cases hs : smallB a with
  | false =>
    have g : decide ((fbytes a : Int) < 8192) = false := by have : ¬ fbytes a < 8192 := by simpa [smallB] using hs
                                                            rw [decide_eq_false_iff_not]; omega
    clear hs
    go_enter Tryd.func33, Tryd.ntmps33
    go_wp2_with fail
    refine (FBytes_any a va _ ha (fun f hf => by have := HA.out.1 f hf; omega)).mono ?_
    rintro e w1 ⟨rfl, hb1⟩
    go_wp2
    go_ret
    exact ⟨rfl, hb1⟩
  | true =>
    have g : decide ((fbytes a : Int) < 8192) = true := by have : fbytes a < 8192 := by simpa [smallB] using hs
                                                           rw [decide_eq_true_iff]; omega
    have HS : Hid (decide ((fbytes b : Int) < 8192) = smallB b) := by show _ = _; rw [smallB]; congr 1; simp <;> omega
    clear hs
    go_enter Tryd.func33, Tryd.ntmps33
    go_wp2_with fail
    refine (FBytes_any a va _ ha (fun f hf => by have := HA.out.1 f hf; omega)).mono ?_
    rintro e w1 ⟨rfl, hb1⟩
    go_wp2_with fail
    refine (FBytes_any b vb _ ((hb.below hb1).mono hb1.size) (fun f hf => by have := HB.out.1 f hf; omega)).mono ?_
    rintro e w2 ⟨rfl, hb2⟩
    go_wp2
    go_ret
    exact ⟨ret_bool (by rw [← HS.out]; simp), Bl.tr hb1 hb2⟩

set_option maxRecDepth 100000 in
set_option maxHeartbeats 4000000 in
theorem awake20_any (w : World) : Calls Tryd.prog 32 #[] w fun e w' => e = .returned (.bool true) ∧ Below w.heap.size w w' := by
  have hal : Below w.heap.size w (w.alloc (.cells (fcells wakeE).toArray 45)) := (Below.refl _ _).alloc (Nat.le_refl _) _
  have hE : Fs (w.alloc (.cells (fcells wakeE).toArray 45)).heap.size (w.alloc (.cells (fcells wakeE).toArray 45)) (.slice (some ⟨w.heap.size, 0, none⟩) 1 1) wakeE := (Rd.lit w 45 (fcells wakeE).toArray 3 1 rfl (by decide)).mono (by simp)
  have hsz : (w.alloc (.cells (fcells wakeE).toArray 45)).heap.size = w.heap.size + 1 := by simp
  have hQ := Blk.new (w.alloc (.cells (fcells wakeE).toArray 45)) 28 #[S [], .slice none 0 0, .int .i64 200, .slice (some ⟨w.heap.size, 0, none⟩) 1 1, S [104, 105], .int .i64 0, .int .i64 0]
  have hal2 := hal.alloc hal.size (.cells #[S [], .slice none 0 0, .int .i64 200, .slice (some ⟨w.heap.size, 0, none⟩) 1 1, S [104, 105], .int .i64 0, .int .i64 0] 28)
  have hE2 : Fs ((w.alloc (.cells (fcells wakeE).toArray 45)).alloc (.cells #[S [], .slice none 0 0, .int .i64 200, .slice (some ⟨w.heap.size, 0, none⟩) 1 1, S [104, 105], .int .i64 0, .int .i64 0] 28)).heap.size ((w.alloc (.cells (fcells wakeE).toArray 45)).alloc (.cells #[S [], .slice none 0 0, .int .i64 200, .slice (some ⟨w.heap.size, 0, none⟩) 1 1, S [104, 105], .int .i64 0, .int .i64 0] 28)) (.slice (some ⟨w.heap.size, 0, none⟩) 1 1) wakeE := (hE.below ((Below.refl _ _).alloc (Nat.le_refl _) _)).mono (by simp)
  rw [hsz] at hQ
  clear hsz hE hal
  go_enter Tryd.func32, Tryd.ntmps32
  go_wp2_with fail
  change Calls _ _ _ ((w.alloc (.cells (fcells wakeE).toArray 45)).alloc (.cells #[S [], .slice none 0 0, .int .i64 200, .slice (some ⟨w.heap.size, 0, none⟩) 1 1, S [104, 105], .int .i64 0, .int .i64 0] 28)) _
  generalize ((w.alloc (.cells (fcells wakeE).toArray 45)).alloc (.cells #[S [], .slice none 0 0, .int .i64 200, .slice (some ⟨w.heap.size, 0, none⟩) 1 1, S [104, 105], .int .i64 0, .int .i64 0] 28)) = w2 at *
  refine (Asks_any ⟨[], .slice none 0 0, 200, .slice (some ⟨w.heap.size, 0, none⟩) 1 1, [104, 105], 0, 0⟩ wakeE w2 hE2 (by decide)).mono ?_
  rintro e w3 ⟨v3, rfl, hv3, hb3⟩
  rw [wake_asks] at hv3
  have r3 := Fs.own hv3
  have hw3 := Bl.tr hal2 hb3
  have hE3 := (hE2.below hb3).mono hb3.size
  have hQ3 := hQ.on hb3
  clear hal2 hE2 hQ hb3 hv3
  obtain ⟨p3, c3, rfl, -⟩ := r3.form
  have ql := hQ3.lt
  have q0 := hQ3.cell 0
  have q1 := hQ3.cell 1
  have q2 := hQ3.cell 2
  have q3 := hQ3.cell 3
  have q4 := hQ3.cell 4
  have q5 := hQ3.cell 5
  have q6 := hQ3.cell 6
  simp at q0 q1 q2 q3 q4 q5 q6
  have hal : Below w3.heap.size w3 (w3.alloc (.cells (fcells wakeR).toArray 45)) := (Below.refl _ _).alloc (Nat.le_refl _) _
  have hR : Fs (w3.alloc (.cells (fcells wakeR).toArray 45)).heap.size (w3.alloc (.cells (fcells wakeR).toArray 45)) (.slice (some ⟨w3.heap.size, 0, none⟩) 1 1) wakeR := (Rd.lit w3 45 (fcells wakeR).toArray 3 1 rfl (by decide)).mono (by simp)
  have hE4 := (hE3.below hal).mono hal.size
  have hQ4 := hQ3.on hal
  have r4 := (r3.below hal).mono hal.size
  have hw4 := Bl.tr hw3 hal
  clear hal hE3 hQ3 hw3 r3
  go_wp2_with fail
  change Calls _ _ _ (w3.alloc (.cells (fcells wakeR).toArray 45)) _
  clear ql q0 q1 q2 q3 q4 q5 q6
  generalize (w3.alloc (.cells (fcells wakeR).toArray 45)) = w4 at *
  refine (AnswerMet0 ⟨[71, 69, 84], [], [], [], .slice (some ⟨w3.heap.size, 0, none⟩) 1 1⟩ [] [104, 105] (.slice none 0 0) _ wakeR wakeE [120] (.inl rfl) wake_has wake_met wake_date wake_age w4 hR hE4 (by decide) (by decide) (by decide)).mono ?_
  rintro e w5 ⟨v5, rfl, h5, hb5⟩
  rw [wake_told] at h5
  obtain ⟨p5, c5, rfl, -⟩ := h5.form
  have hw5 := Bl.tr hw4 hb5
  have hE5 := (hE4.below hb5).mono hb5.size
  have hQ5 := hQ4.on hb5
  have r5 := (r4.below hb5).mono hb5.size
  clear hR hE4 hQ4 r4 hw4 hb5 h5
  obtain ⟨b5, o5, rfl, -, n5, -, -⟩ := r5.at 0 (by decide)
  simp at n5
  have ql := hQ5.lt
  have q0 := hQ5.cell 0
  have q1 := hQ5.cell 1
  have q2 := hQ5.cell 2
  have q3 := hQ5.cell 3
  have q4 := hQ5.cell 4
  have q5 := hQ5.cell 5
  have q6 := hQ5.cell 6
  simp at q0 q1 q2 q3 q4 q5 q6
  have hal : Below w5.heap.size w5 (w5.alloc (.cells (fcells wakeF).toArray 45)) := (Below.refl _ _).alloc (Nat.le_refl _) _
  have hF : Fs (w5.alloc (.cells (fcells wakeF).toArray 45)).heap.size (w5.alloc (.cells (fcells wakeF).toArray 45)) (.slice (some ⟨w5.heap.size, 0, none⟩) 1 1) wakeF := (Rd.lit w5 45 (fcells wakeF).toArray 3 1 rfl (by decide)).mono (by simp)
  have hE6 := (hE5.below hal).mono hal.size
  have hw6 := Bl.tr hw5 hal
  clear hal hw5 hE5
  go_wp2_with fail
  change Calls _ _ _ (w5.alloc (.cells (fcells wakeF).toArray 45)) _
  clear ql q0 q1 q2 q3 q4 q5 q6
  generalize (w5.alloc (.cells (fcells wakeF).toArray 45)) = w6 at *
  refine (Fits_any ⟨[], .slice none 0 0, 200, .slice (some ⟨w.heap.size, 0, none⟩) 1 1, [104, 105], 0, 0⟩ wakeF wakeE _ _ wake_fits w6 hF hE6 (by decide) (by decide)).mono ?_
  rintro e w7 ⟨rfl, hb7⟩
  go_wp2
  go_ret
  exact ⟨rfl, Bl.tr hw6 hb7⟩
end Go.Proofs.YtghggooaaefdcaaDoor
