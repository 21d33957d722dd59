
/- The walk of Sent: each frame that the client sent is told. -/
import Derived.Test.YtmbakobindjjmaaGreatDoorSnt1
namespace Go.Proofs.YtmbakobindjjmaaGreatDoor
open Go.RowKit Go.Dr

abbrev frameV (f : Fr) (vs : Value) : Value := .agg #[.int .i64 (f.ty : Nat), .int .i64 (f.fl : Nat), .int .i64 (f.st : Nat), S f.data, .int .i64 (f.pad : Nat), vs, .int .i64 (f.code : Nat), .int .i64 (f.last : Nat), .int .i64 (f.inc : Nat), .int .i64 (f.dep : Nat), .int .i64 (f.wt : Nat), .bool f.sole]

set_option maxRecDepth 100000 in
set_option maxHeartbeats 8000000 in
theorem Sent_run {p fo : Nat} (vb : Value) (w : World) (hin : w.cell? ⟨p, 0, none⟩ = some (Ptr fo)) (q : List (Fr × Ft)) (X : World → Prop)
    (hT : Calls Tryz.prog 22 #[Ptr fo, vb] w fun e w1 => ∃ v its, e = .returned v ∧ its.map (fun i => (Itm.f i, Itm.x i)) = q ∧ w1.ownsRow w.heap.size 75 15 v its.length (itcells its) ∧ (∀ i ∈ its, w1.ownsRow w.heap.size 52 2 i.vs i.f.sets.length (scells i.f.sets)) ∧ X w1)
    (K : Nat → World → Prop) (hK0 : ∀ w1, X w1 → K 0 w1) (hKa : ∀ k w' o, K k w' → K k (w'.alloc o)) (hok : ∀ k (hk : k < q.length), (q[k].2).is = false)
    (hKs : ∀ k w' vs, K k w' → ∀ hk : k < q.length, (∃ b, w'.ownsRow b 52 2 vs q[k].1.sets.length (scells q[k].1.sets)) →
      Calls Tryz.prog 23 #[Ptr p, frameV q[k].1 vs] w' fun e w2 => e = .returned (.tuple #[]) ∧ Kp w' w2 ∧ K (k + 1) w2) :
    Calls Tryz.prog 9 #[Ptr p, vb] w fun e w' => e = .returned (.tuple #[]) ∧ K q.length w' := by
  go_enter Tryz.func9, Tryz.ntmps9
  go_wp2_with (go_at_call 22; refine hT.mono ?_; rintro e w1 ⟨v, its, rfl, hits, hrow, hsets, hX⟩; obtain ⟨ar, cr, rfl⟩ := own_form hrow)
  have hK := hK0 w1 hX
  have HN := Lib.hid (show its.length = q.length by rw [← hits]; simp)
  have hmx : its.length ≤ 9223372036854775807 := (Rd.own hrow).len
  go_loopw [15] (fun i wr => ∃ k : Nat, k ≤ q.length ∧ i = .int .i64 (k : Int) ∧ Kp w1 wr ∧ K k wr) (fun i _ => q.length - (intOf i).toNat)
  case atStart => exact ⟨0, Nat.zero_le _, rfl, Kp.refl _, hK⟩
  case round =>
    obtain ⟨k, hk, rfl, hkp, hKk⟩ := hrel
    by_cases hlt : k < q.length
    · have hlt2 : k < its.length := by rw [HN.out]; exact hlt
      obtain ⟨⟨f, x, vs⟩, hi⟩ : ∃ i, i = its[k] := ⟨_, rfl⟩
      have hvs := hsets ⟨f, x, vs⟩ (hi ▸ List.getElem_mem _)
      dsimp only at hvs
      obtain ⟨sa, sc, rfl⟩ := own_form hvs
      have hqi : q[k] = (f, x) := by subst hits; rw [List.getElem_map, ← hi]
      have hx0 : x.is = false := by have := hok k hlt; rw [hqi] at this; exact this
      obtain ⟨g, rfl, hcell⟩ := its_at (own_block hrow fun g cur hg _ => (hkp.2 g cur _ (.inl rfl) hg).trans hg.symm) k hlt2
      rw [← hi] at hcell
      have y0 : wr.cell? ⟨g, k * 15, none⟩ = some (.int .i64 (f.ty : Nat)) := hcell 0 (by decide)
      have y1 : wr.cell? ⟨g, k * 15 + 1, none⟩ = some (.int .i64 (f.fl : Nat)) := hcell 1 (by decide)
      have y2 : wr.cell? ⟨g, k * 15 + 2, none⟩ = some (.int .i64 (f.st : Nat)) := hcell 2 (by decide)
      have y3 : wr.cell? ⟨g, k * 15 + 3, none⟩ = some (S f.data) := hcell 3 (by decide)
      have y4 : wr.cell? ⟨g, k * 15 + 4, none⟩ = some (.int .i64 (f.pad : Nat)) := hcell 4 (by decide)
      have y5 : wr.cell? ⟨g, k * 15 + 5, none⟩ = some (.slice sa f.sets.length sc) := hcell 5 (by decide)
      have y6 : wr.cell? ⟨g, k * 15 + 6, none⟩ = some (.int .i64 (f.code : Nat)) := hcell 6 (by decide)
      have y7 : wr.cell? ⟨g, k * 15 + 7, none⟩ = some (.int .i64 (f.last : Nat)) := hcell 7 (by decide)
      have y8 : wr.cell? ⟨g, k * 15 + 8, none⟩ = some (.int .i64 (f.inc : Nat)) := hcell 8 (by decide)
      have y9 : wr.cell? ⟨g, k * 15 + 9, none⟩ = some (.int .i64 (f.dep : Nat)) := hcell 9 (by decide)
      have y10 : wr.cell? ⟨g, k * 15 + 10, none⟩ = some (.int .i64 (f.wt : Nat)) := hcell 10 (by decide)
      have y11 : wr.cell? ⟨g, k * 15 + 11, none⟩ = some (.bool f.sole) := hcell 11 (by decide)
      have y13 : wr.cell? ⟨g, k * 15 + 13, none⟩ = some (.int .i64 (x.code : Nat)) := hcell 13 (by decide)
      have y14 : wr.cell? ⟨g, k * 15 + 14, none⟩ = some (.int .i64 (x.st : Nat)) := hcell 14 (by decide)
      have y12 : wr.cell? ⟨g, k * 15 + 12, none⟩ = some (.bool false) := by rw [hcell 12 (by decide), ← hx0]; rfl
      obtain ⟨wr1, ewr⟩ : ∃ wr1, wr1 = wr.alloc (.cells #[.int .i64 (f.ty : Nat), .int .i64 (f.fl : Nat), .int .i64 (f.st : Nat), S f.data, .int .i64 (f.pad : Nat), .slice sa f.sets.length sc, .int .i64 (f.code : Nat), .int .i64 (f.last : Nat), .int .i64 (f.inc : Nat), .int .i64 (f.dep : Nat), .int .i64 (f.wt : Nat), .bool f.sole, .bool false, .int .i64 (x.code : Nat), .int .i64 (x.st : Nat)] 75) := ⟨_, rfl⟩
      have hkp1 : Kp wr wr1 := by rw [ewr]; exact Kp.alloc _ _
      have hS : ∃ b, wr1.ownsRow b 52 2 (.slice sa f.sets.length sc) f.sets.length (scells f.sets) := ⟨_, own_block hvs fun g cur hg _ => ((hkp.trans hkp1).2 g cur _ (.inr (.inl rfl)) hg).trans hg.symm⟩
      have hI1 : Blk wr1 wr.heap.size 75 #[.int .i64 (f.ty : Nat), .int .i64 (f.fl : Nat), .int .i64 (f.st : Nat), S f.data, .int .i64 (f.pad : Nat), .slice sa f.sets.length sc, .int .i64 (f.code : Nat), .int .i64 (f.last : Nat), .int .i64 (f.inc : Nat), .int .i64 (f.dep : Nat), .int .i64 (f.wt : Nat), .bool f.sole, .bool false, .int .i64 (x.code : Nat), .int .i64 (x.st : Nat)] := by rw [ewr]; exact Blk.new _ _ _
      have hK1 : K k wr1 := by rw [ewr]; exact hKa k wr _ hKk
      have hC := hKs k wr1 (.slice sa f.sets.length sc) hK1 hlt
      rw [hqi] at hC
      dsimp only at hC
      have hC := hC hS
      have z0 : wr1.cell? ⟨wr.heap.size, 0, none⟩ = some (.int .i64 (f.ty : Nat)) := hI1.cell 0
      have z1 : wr1.cell? ⟨wr.heap.size, 1, none⟩ = some (.int .i64 (f.fl : Nat)) := hI1.cell 1
      have z2 : wr1.cell? ⟨wr.heap.size, 2, none⟩ = some (.int .i64 (f.st : Nat)) := hI1.cell 2
      have z3 : wr1.cell? ⟨wr.heap.size, 3, none⟩ = some (S f.data) := hI1.cell 3
      have z4 : wr1.cell? ⟨wr.heap.size, 4, none⟩ = some (.int .i64 (f.pad : Nat)) := hI1.cell 4
      have z5 : wr1.cell? ⟨wr.heap.size, 5, none⟩ = some (.slice sa f.sets.length sc) := hI1.cell 5
      have z6 : wr1.cell? ⟨wr.heap.size, 6, none⟩ = some (.int .i64 (f.code : Nat)) := hI1.cell 6
      have z7 : wr1.cell? ⟨wr.heap.size, 7, none⟩ = some (.int .i64 (f.last : Nat)) := hI1.cell 7
      have z8 : wr1.cell? ⟨wr.heap.size, 8, none⟩ = some (.int .i64 (f.inc : Nat)) := hI1.cell 8
      have z9 : wr1.cell? ⟨wr.heap.size, 9, none⟩ = some (.int .i64 (f.dep : Nat)) := hI1.cell 9
      have z10 : wr1.cell? ⟨wr.heap.size, 10, none⟩ = some (.int .i64 (f.wt : Nat)) := hI1.cell 10
      have z11 : wr1.cell? ⟨wr.heap.size, 11, none⟩ = some (.bool f.sole) := hI1.cell 11
      have z12 : wr1.cell? ⟨wr.heap.size, 12, none⟩ = some (.bool false) := hI1.cell 12
      have z13 : wr1.cell? ⟨wr.heap.size, 13, none⟩ = some (.int .i64 (x.code : Nat)) := hI1.cell 13
      have z14 : wr1.cell? ⟨wr.heap.size, 14, none⟩ = some (.int .i64 (x.st : Nat)) := hI1.cell 14
      clear hcell hi hqi hrow hsets hvs hits hS hI1 hT
      go_upto_region 4 with fail
      rw [← ewr]
      clear ewr
      go_wp2_with (go_at_call 23; refine hC.mono ?_; rintro e w2 ⟨rfl, hkp2, hK2⟩)
      refine ⟨⟨k + 1, by omega, by go_num, hkp.trans (hkp1.trans hkp2), hK2⟩, ?_⟩
      simp [intOf]
      omega
    · obtain rfl : k = q.length := by omega
      have hn' : ¬ (q.length < its.length) := by rw [HN.out]; omega
      go_wp2
      go_end0
      exact ⟨rfl, hKk⟩
end Go.Proofs.YtmbakobindjjmaaGreatDoor
