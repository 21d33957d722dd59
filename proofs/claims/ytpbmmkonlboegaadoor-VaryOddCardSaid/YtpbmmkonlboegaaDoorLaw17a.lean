
/- The walks of the statements of layer 17: what is fixed, and what is small. -/
import Derived.Test.YtpbmmkonlboegaaDoorVar4
import Derived.Test.YtpbmmkonlboegaaDoorOct2
import Derived.Test.YtpbmmkonlboegaaDoorHlaw
namespace Go.Proofs.YtpbmmkonlboegaaDoor
open Go.RowKit Go.Dr

theorem Names_lit (l : List F) (vs : List Bytes) (b : Bool) (hs : starred (namesOf l) = b) (hn : namesR (namesOf l) = vs) (v : Value) (w : World) (h : Fs w.heap.size w v l) (hl : fsum l ≤ 1099511627776) :
    Calls Tryd.prog 22 #[v] w fun e w' => ∃ v, e = .returned (.tuple #[v, .bool b]) ∧ w'.ownsRow w.heap.size 9 1 v vs.length (vs.map S) ∧ Below w.heap.size w w' := by
  refine (Names_any l v w h hl).mono ?_
  rintro e w' ⟨v, rfl, h1, h2⟩
  rw [hs]
  rw [hn] at h1
  exact ⟨v, rfl, h1, h2⟩

def wake17 : List F := [⟨[118, 97, 114, 121], [98, 44, 32, 65], false⟩, ⟨[86, 97, 114, 121], [97], false⟩]
theorem names_wake : namesOf wake17 = [[98], [65], [97]] := by decide +kernel
theorem starred_wake : starred (namesOf wake17) = false := by rw [names_wake]; decide
theorem namesR_wake : namesR (namesOf wake17) = [[97], [98]] := by
  rw [names_wake]
  unfold namesR
  rw [if_neg (by decide), rising_eq]
  decide +kernel
theorem fsum_wake17 : fsum wake17 ≤ 1099511627776 := by decide

set_option maxRecDepth 100000 in
set_option maxHeartbeats 1000000 in
theorem awake17_any (w : World) : Calls Tryd.prog 20 #[] w fun e w' => e = .returned (.bool true) ∧ Below w.heap.size w w' := by
  have hk := fun w => Key_any ⟨[], [104, 116, 116, 112], [104], [47, 120], .slice none 0 0⟩ w (by decide)
  simp only [Rq.val] at hk
  have HK := Lib.hid hk
  clear hk
  have hal : Below w.heap.size w (w.alloc (.cells (fcells wake17).toArray 31)) := (Below.refl _ _).alloc (Nat.le_refl _) _
  go_enter Tryd.func20, Tryd.ntmps20
  go_wp2_with fail
  refine (Names_lit wake17 _ _ starred_wake namesR_wake _ _ (Fs.own (World.ownsRow_lit (base := w.heap.size) (e := 31) (size := 3) w (fcells wake17).toArray 2 (Nat.le_refl _) (by decide) rfl)) fsum_wake17).mono ?_
  rintro e w1 ⟨v1, rfl, hv1, hb1⟩
  have hr1 : Ss w1.heap.size w1 v1 [[97], [98]] := Ss.own hv1
  have hw1 := Bl.tr hal hb1
  obtain ⟨p1, c1, rfl, -⟩ := hr1.form
  obtain ⟨b1, o1, rfl, hlt1, ce1⟩ := hr1.at 0 (by decide)
  simp at ce1
  clear hal hb1 hv1
  go_wp2_with fail
  refine (HK.out _).mono ?_
  rintro e w2 ⟨rfl, hb2⟩
  go_wp2
  go_ret
  exact ⟨rfl, Bl.tr hw1 hb2⟩

/-- Few enough. -/
def smallB (l : List F) : Bool := decide (fbytes l < 8192)
theorem smallB_sum {l : List F} (h : smallB l = true) : fsum l ≤ 8191 := by
  have h1 : fbytes l < 8192 := by simpa [smallB] using h
  rw [fbytes_sum l (by omega)]
  omega

set_option maxRecDepth 100000 in
theorem small17_any (l : List F) (b : Bool) (hs : smallB l = b) (v : Value) (w : World) (h : Fs w.heap.size w v l) (hb : FOk l) :
    Calls Tryd.prog 21 #[v] w fun e w' => e = .returned (.bool b) ∧ Below w.heap.size w w' := by
  have HS : Hid (decide ((fbytes l : Int) < 8192) = b) := by rw [← hs, smallB]; congr 1; simp <;> omega
  clear hs
  go_enter Tryd.func21, Tryd.ntmps21
  go_wp2_with fail
  refine (FBytes_any l v _ h (fun f hf => by have := hb.1 f hf; omega)).mono ?_
  rintro e w1 ⟨rfl, hb1⟩
  go_wp2
  go_ret
  exact ⟨ret_bool HS.out, hb1⟩
end Go.Proofs.YtpbmmkonlboegaaDoor
