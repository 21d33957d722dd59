/- Parts of the proof of pt_root: the texts Snt1 Snt2. -/
import Derived.Test.YtkeeofhjdffhbaaGreatDoorT15
import Derived.Test.YtkeeofhjdffhbaaGreatDoorT21
set_option linter.unusedSimpArgs false
set_option linter.unusedVariables false
set_option linter.unnecessarySimpa false
namespace Go.Proofs.YtkeeofhjdffhbaaGreatDoor
open Go.RowKit Go.Dr
set_option maxRecDepth 100000 in
set_option maxHeartbeats 4000000 in
theorem sent_set {p b n sc : Nat} {xs : Array Value} {sts st pad code la inc dep wt : Int} {da : Bytes} {sole : Bool} {u : Value} {sa : Option Addr} (w : World) (hP : Blk w p 97 xs) (h6 : xs[8]? = some (.int .i64 sts)) (h3 : xs[3]? = some u) (hs0 : 0 ≤ sts) (hs1 : sts < 4294967296)
  (hr : w.ownsRow b 31 2 (.slice sa 1 sc) 1 (scells [(4, n)])) :
  Calls Tryz.prog 41 #[Ptr p, .agg #[.int .i64 4, .int .i64 0, .int .i64 st, S da, .int .i64 pad, .slice sa 1 sc, .int .i64 code, .int .i64 la, .int .i64 inc, .int .i64 dep, .int .i64 wt, .bool sole]] w fun e w' => e = .returned (.tuple #[]) ∧ Blk w' p 97 ((xs.setIfInBounds 8 (.int .i64 (sts + 1))).setIfInBounds 3 (.int .i64 (n : Int))) ∧ But (fun k => k = p) w w' := by
 obtain ⟨g, rfl, hgp, hgl, c0, c1⟩ : ∃ g, sa = some ⟨g, 0, none⟩ ∧ g ≠ p ∧ g < w.heap.size ∧ w.cell? ⟨g, 0, none⟩ = some (.int .i64 4) ∧ w.cell? ⟨g, 1, none⟩ = some (.int .i64 (n : Int)) := by
  rcases hr.2 with ⟨-, h0⟩ | ⟨g, cap, cur, hv, -, hg, -, -, -, ht⟩
  ·omega
  ·simp only [Value.slice.injEq] at hv
   have e : ∀ j, j < 2 → cur[j]? = (scells [(4, n)])[j]? := fun j hj => by
    rw [← ht, List.getElem?_take_of_lt (by omega)]
    simp
   refine ⟨g, hv.1, fun e2 => ?_, lt_of_block hg, ?_, ?_⟩
   ·have h5 := blk_type (e2 ▸ hg) hP
    revert h5
    decide
   ·simp only [World.cell?, hg];exact e 0 (by decide)
   ·simp only [World.cell?, hg];exact e 1 (by decide)
 obtain ⟨W, eW⟩ : ∃ W, W = w.alloc (.cells #[.int .i64 4, .int .i64 0, .int .i64 st, S da, .int .i64 pad, .slice (some ⟨g, 0, none⟩) 1 sc, .int .i64 code, .int .i64 la, .int .i64 inc, .int .i64 dep, .int .i64 wt, .bool sole] 34) := ⟨_, rfl⟩
 have hb : Below w.heap.size w W := by rw [eW];exact (Below.refl _ _).alloc (Nat.le_refl _) _
 have hF : Blk W w.heap.size 34 #[.int .i64 4, .int .i64 0, .int .i64 st, S da, .int .i64 pad, .slice (some ⟨g, 0, none⟩) 1 sc, .int .i64 code, .int .i64 la, .int .i64 inc, .int .i64 dep, .int .i64 wt, .bool sole] := by rw [eW];exact Blk.new _ _ _
 have hPW := hP.on hb
 have hz : W.heap.size = w.heap.size + 1 := by rw [eW];simp
 have hpl := hP.lt
 have y6 : W.cell? ⟨p, 8, none⟩ = some (.int .i64 sts) := (hPW.cell 8).trans h6
 have f6 := hPW.free 8
 have g0 : W.cell? ⟨w.heap.size, 0, none⟩ = some (.int .i64 4) := hF.cell 0
 have g1 : W.cell? ⟨w.heap.size, 1, none⟩ = some (.int .i64 0) := hF.cell 1
 have g5 : W.cell? ⟨w.heap.size, 5, none⟩ = some (.slice (some ⟨g, 0, none⟩) 1 sc) := hF.cell 5
 have eg : W.heap[g]? = w.heap[g]? := hb.block g hgl
 have c0' : W.cell? ⟨g, 0, none⟩ = some (.int .i64 4) := by simp only [World.cell?, eg];exact c0
 have c1' : W.cell? ⟨g, 1, none⟩ = some (.int .i64 (n : Int)) := by simp only [World.cell?, eg];exact c1
 have n1 : w.heap.size ≠ p := by omega
 have n2 : ¬ w.heap.size = p := n1
 have n3 : ¬ p = w.heap.size := fun e => n1 e.symm
 have n4 : ¬ g = p := hgp
 have n5 : ¬ p = g := fun e => hgp e.symm
 obtain ⟨W2, eW2⟩ : ∃ W2, W2 = W.setCell ⟨p, 8, none⟩ (.int .i64 (sts + 1)) := ⟨_, rfl⟩
 have hP2 : Blk W2 p 97 (xs.setIfInBounds 8 (.int .i64 (sts + 1))) := by rw [eW2];exact hPW.set 8 _
 have hF2 : Blk W2 w.heap.size 34 #[.int .i64 4, .int .i64 0, .int .i64 st, S da, .int .i64 pad, .slice (some ⟨g, 0, none⟩) 1 sc, .int .i64 code, .int .i64 la, .int .i64 inc, .int .i64 dep, .int .i64 wt, .bool sole] := by rw [eW2];exact hF.other n1 _
 have eg2 : W2.heap[g]? = W.heap[g]? := by rw [eW2];exact Below.heap_setCell _ _ _ _ hgp
 have c02 : W2.cell? ⟨g, 0, none⟩ = some (.int .i64 4) := by simp only [World.cell?, eg2];exact c0'
 have c12 : W2.cell? ⟨g, 1, none⟩ = some (.int .i64 (n : Int)) := by simp only [World.cell?, eg2];exact c1'
 have k5 : W2.cell? ⟨w.heap.size, 5, none⟩ = some (.slice (some ⟨g, 0, none⟩) 1 sc) := hF2.cell 5
 have hS := Set_win (p := p) (n := (n : Int)) (u := u) (W2.alloc (.cells #[.int .i64 4, .int .i64 (n : Int)] 31)) (hP2.alloc _) ((Array.getElem?_setIfInBounds_ne (by decide)).trans h3)
 have hu2 : But (fun k => k = p) w W2 := by rw [eW2];exact (But.of_below (S := fun k => k = p) hb).setCell (p := ⟨p, 8, none⟩) (.inl rfl) _
 have hbt : bits .and .i64 0 1 = 0 := by decide
 go_enter Tryz.func41, Tryz.ntmps41
 go_upto_region 3 with fail
 rw [← eW]
 clear eW
 go_upto_region 4 with fail
 rw [← eW2]
 clear eW2
 go_wp2
 refine wp_loop_rounds 2 ?_
 rw [rounds_succ]
 go_wp2_with (go_at_call 79;refine hS.mono ?_;rintro e w3 ⟨rfl, hP3, hb3⟩)
 rw [rounds_succ]
 go_wp2
 go_end0
 exact ⟨rfl, hP3, (hu2.alloc _).trans hb3⟩
set_option maxRecDepth 100000 in
set_option maxHeartbeats 4000000 in
theorem sent_head {p o m sn sc : Nat} {xs : Array Value} {pad code la inc dep wt : Int} {da : Bytes} {sole : Bool} {sa : Option Addr} (w : World) (hP : Blk w p 97 xs) (h4 : xs[4]? = some (.map (some o))) (h10 : xs[10]? = some (.int .i64 0)) (h11 : xs[11]? = some (.map (some m))) (hm : w.heap[m]? = some (.map #[] 0)) (ho : w.heap[o]? = some (.map #[] 0)) (hom : o ≠ m) :
  Calls Tryz.prog 41 #[Ptr p, .agg #[.int .i64 1, .int .i64 5, .int .i64 1, S da, .int .i64 pad, .slice sa sn sc, .int .i64 code, .int .i64 la, .int .i64 inc, .int .i64 dep, .int .i64 wt, .bool sole]] w fun e w' => e = .returned (.tuple #[]) ∧ ∃ s, w.heap.size ≤ s ∧ Blk w' p 97 (xs.setIfInBounds 10 (.int .i64 1)) ∧ PMap Tryz.prog 3 w' m [(1, s)] ∧ Blk w' s 118 #[.int .i64 1, .int .i64 0, .slice none 0 0, S [], .bool false, .bool false, .int .i64 0, .int .i64 0, .int .i64 0, .bool false] ∧ OM w' o 0 ∧ But (fun k => k = p ∨ k = m ∨ k = o) w w' := by
 obtain ⟨W, eW⟩ : ∃ W, W = w.alloc (.cells #[.int .i64 1, .int .i64 5, .int .i64 1, S da, .int .i64 pad, .slice sa sn sc, .int .i64 code, .int .i64 la, .int .i64 inc, .int .i64 dep, .int .i64 wt, .bool sole] 34) := ⟨_, rfl⟩
 have hb : Below w.heap.size w W := by rw [eW];exact (Below.refl _ _).alloc (Nat.le_refl _) _
 have hz : W.heap.size = w.heap.size + 1 := by rw [eW];simp
 have hF : Blk W w.heap.size 34 #[.int .i64 1, .int .i64 5, .int .i64 1, S da, .int .i64 pad, .slice sa sn sc, .int .i64 code, .int .i64 la, .int .i64 inc, .int .i64 dep, .int .i64 wt, .bool sole] := by rw [eW];exact Blk.new _ _ _
 have hPW := hP.on hb
 have hpl := hP.lt
 have n1 : w.heap.size ≠ p := by omega
 have y10 : W.cell? ⟨p, 10, none⟩ = some (.int .i64 0) := (hPW.cell 10).trans h10
 have f10 := hPW.free 10
 have g0 : W.cell? ⟨w.heap.size, 0, none⟩ = some (.int .i64 1) := hF.cell 0
 have g1 : W.cell? ⟨w.heap.size, 1, none⟩ = some (.int .i64 5) := hF.cell 1
 have g2 : W.cell? ⟨w.heap.size, 2, none⟩ = some (.int .i64 1) := hF.cell 2
 have hbt : bits .and .i64 5 1 = 1 := by decide
 have hop : o ≠ p := fun e => by
  have := (e ▸ ho).symm.trans (show w.heap[p]? = _ from hP)
  simp at this
 have hmp : m ≠ p := fun e => by
  have := (e ▸ hm).symm.trans (show w.heap[p]? = _ from hP)
  simp at this
 obtain ⟨W2, eW2⟩ : ∃ W2, W2 = (W.setCell ⟨p, 10, none⟩ (.int .i64 1)).drew := ⟨_, rfl⟩
 have hu2 : But (fun k => k = p ∨ k = m ∨ k = o) w W2 := by rw [eW2];exact ((But.of_below hb).setCell (p := ⟨p, 10, none⟩) (.inl (.inl rfl)) _).drew
 have hP2 : Blk W2 p 97 (xs.setIfInBounds 10 (.int .i64 1)) := by rw [eW2];exact (hPW.set 10 _).drew
 have hF2 : Blk W2 w.heap.size 34 #[.int .i64 1, .int .i64 5, .int .i64 1, S da, .int .i64 pad, .slice sa sn sc, .int .i64 code, .int .i64 la, .int .i64 inc, .int .i64 dep, .int .i64 wt, .bool sole] := by rw [eW2];exact (hF.other n1 _).drew
 have hk2 : ∀ (k : Nat) (ob : Obj), k ≠ p → W.heap[k]? = some ob → W2.heap[k]? = some ob := fun k ob hk ho => by rw [eW2];exact (Below.heap_setCell _ _ _ _ hk).trans ho
 have hz2 : W2.heap.size = W.heap.size := by rw [eW2];show (W.setCell _ _).heap.size = _;rw [World.size_setCell]
 have hm2 := hk2 m _ hmp ((hb.block m (lt_of_block hm)).trans hm)
 have ho2 := hk2 o _ hop ((hb.block o (lt_of_block ho)).trans ho)
 have y11 : W2.cell? ⟨p, 11, none⟩ = some (.map (some m)) := (hP2.cell 11).trans ((Array.getElem?_setIfInBounds_ne (by decide)).trans h11)
 have k2 : W2.cell? ⟨w.heap.size, 2, none⟩ = some (.int .i64 1) := hF2.cell 2
 have k2a : ∀ ob, (W2.alloc ob).cell? ⟨w.heap.size, 2, none⟩ = some (.int .i64 1) := fun ob => (hF2.alloc ob).cell 2
 have y11a : ∀ ob, (W2.alloc ob).cell? ⟨p, 11, none⟩ = some (.map (some m)) := fun ob => ((hP2.alloc ob).cell 11).trans ((Array.getElem?_setIfInBounds_ne (by decide)).trans h11)
 obtain ⟨W3, eW3⟩ : ∃ W3, W3 = (W2.alloc (.cells #[.int .i64 1, .int .i64 0, .slice none 0 0, .string ⟨#[]⟩, .bool false, .bool false, .int .i64 0, .int .i64 0, .int .i64 0, .bool false] 118)).drew := ⟨_, rfl⟩
 have hs3 : Blk W3 W2.heap.size 118 #[.int .i64 1, .int .i64 0, .slice none 0 0, S [], .bool false, .bool false, .int .i64 0, .int .i64 0, .int .i64 0, .bool false] := by rw [eW3];exact (Blk.new W2 _ _).drew
 have hb3 : Below W2.heap.size W2 W3 := by rw [eW3];exact ((Below.refl _ W2).alloc (Nat.le_refl _) _).drew
 have hm3 := (hb3.block m (lt_of_block hm2)).trans hm2
 obtain ⟨w4, hput, hM4, ht4⟩ := (PMap.made (P := Tryz.prog) (kt := 3) hm3).put (t := 90) (et := 119) Tryz.underlying3 Tryz.underlying90 1 W2.heap.size (by decide) (by simp) (by decide)
 rw [eW3] at hput
 have hu4 := but_turned ht4
 have hk4 : ∀ (k : Nat) (ob : Obj), k ≠ m → W2.heap[k]? = some ob → w4.heap[k]? = some ob := fun k ob hk ho => (hu4.block k (lt_of_block ((hb3.block k (lt_of_block ho)).trans ho)) hk).trans ((hb3.block k (lt_of_block ho)).trans ho)
 have hP4 : Blk w4 p 97 (xs.setIfInBounds 10 (.int .i64 1)) := hk4 p _ hmp.symm hP2
 have hF4 : Blk w4 w.heap.size 34 #[.int .i64 1, .int .i64 5, .int .i64 1, S da, .int .i64 pad, .slice sa sn sc, .int .i64 code, .int .i64 la, .int .i64 inc, .int .i64 dep, .int .i64 wt, .bool sole] := hk4 _ _ (by have := lt_of_block hm;omega) hF2
 have ho4 := hk4 o _ hom ho2
 have hsm : W2.heap.size ≠ m := by have := lt_of_block hm2;omega
 have hs4 : Blk w4 W2.heap.size 118 #[.int .i64 1, .int .i64 0, .slice none 0 0, S [], .bool false, .bool false, .int .i64 0, .int .i64 0, .int .i64 0, .bool false] := (hu4.block _ hs3.lt hsm).trans hs3
 have y4 : w4.cell? ⟨p, 4, none⟩ = some (.map (some o)) := (hP4.cell 4).trans ((Array.getElem?_setIfInBounds_ne (by decide)).trans h4)
 have q2 : w4.cell? ⟨w.heap.size, 2, none⟩ = some (.int .i64 1) := hF4.cell 2
 obtain ⟨w5, hput5, hO5, ht5⟩ := OM.new (w := w4.drew) ho4 0
 have hu5 := but_turned ht5
 have hk5 : ∀ (k : Nat) (ob : Obj), k ≠ o → w4.heap[k]? = some ob → w5.heap[k]? = some ob := fun k ob hk ho => (hu5.block k (lt_of_block ho) hk).trans ho
 go_enter Tryz.func41, Tryz.ntmps41
 go_upto_region 13 with fail
 rw [← eW]
 clear eW
 go_region
 go_upto_region 15 with fail
 rw [← eW2]
 clear eW2 hz2 hz
 go_region
 go_upto_region 16 with fail
 go_region
 go_wp2
 go_end0
 refine ⟨rfl, W2.heap.size, hu2.size, hk5 p _ hop.symm hP4, hM4.block ?_, hk5 _ _ ?_ hs4, hO5, ?_⟩
 ·exact hu5.block m hM4.lt (fun e => hom e.symm)
 ·have := lt_of_block ho2
  omega
 ·exact ((hu2.trans (But.of_below hb3)).trans (hu4.more fun k hk => .inr (.inl hk))).trans ((((But.refl _ w4).drew).trans hu5).more fun k hk => .inr (.inr hk))
end Go.Proofs.YtkeeofhjdffhbaaGreatDoor
namespace Go.Proofs.YtkeeofhjdffhbaaGreatDoor
open Go.RowKit Go.Dr
abbrev frameV (f : Fr) (vs : Value) : Value := .agg #[.int .i64 (f.ty : Nat), .int .i64 (f.fl : Nat), .int .i64 (f.st : Nat), S f.data, .int .i64 (f.pad : Nat), vs, .int .i64 (f.code : Nat), .int .i64 (f.last : Nat), .int .i64 (f.inc : Nat), .int .i64 (f.dep : Nat), .int .i64 (f.wt : Nat), .bool f.sole]
set_option maxRecDepth 100000 in
set_option maxHeartbeats 8000000 in
theorem Sent_run {p fo : Nat} (vb : Value) (w : World) (hin : w.cell? ⟨p, 0, none⟩ = some (Ptr fo)) (q : List (Fr × Ft)) (X : World → Prop)
  (hT : Calls Tryz.prog 40 #[Ptr fo, vb] w fun e w1 => ∃ v its, e = .returned v ∧ its.map (fun i => (Itm.f i, Itm.x i)) = q ∧ w1.ownsRow w.heap.size 74 15 v its.length (itcells its) ∧ (∀ i ∈ its, w1.ownsRow w.heap.size 31 2 i.vs i.f.sets.length (scells i.f.sets)) ∧ X w1)
  (K : Nat → World → Prop) (hK0 : ∀ w1, X w1 → K 0 w1) (hKa : ∀ k w' o, K k w' → K k (w'.alloc o)) (hok : ∀ k (hk : k < q.length), (q[k].2).is = false)
  (hKs : ∀ k w' vs, K k w' → ∀ hk : k < q.length, (∃ b, w'.ownsRow b 31 2 vs q[k].1.sets.length (scells q[k].1.sets)) →
   Calls Tryz.prog 41 #[Ptr p, frameV q[k].1 vs] w' fun e w2 => e = .returned (.tuple #[]) ∧ Kp w' w2 ∧ K (k + 1) w2) :
  Calls Tryz.prog 9 #[Ptr p, vb] w fun e w' => e = .returned (.tuple #[]) ∧ K q.length w' := by
 go_enter Tryz.func9, Tryz.ntmps9
 go_wp2_with (go_at_call 40;refine hT.mono ?_;rintro e w1 ⟨v, its, rfl, hits, hrow, hsets, hX⟩;obtain ⟨ar, cr, rfl⟩ := own_form hrow)
 have hK := hK0 w1 hX
 have HN := Lib.hid (show its.length = q.length by rw [← hits];simp)
 have hmx : its.length ≤ 9223372036854775807 := (Rd.own hrow).len
 go_loopw [15] (fun i wr => ∃ k : Nat, k ≤ q.length ∧ i = .int .i64 (k : Int) ∧ Kp w1 wr ∧ K k wr) (fun i _ => q.length - (intOf i).toNat)
 case atStart => exact ⟨0, Nat.zero_le _, rfl, Kp.refl _, hK⟩
 case round =>
  obtain ⟨k, hk, rfl, hkp, hKk⟩ := hrel
  by_cases hlt : k < q.length
  ·have hlt2 : k < its.length := by rw [HN.out];exact hlt
   obtain ⟨⟨f, x, vs⟩, hi⟩ : ∃ i, i = its[k] := ⟨_, rfl⟩
   have hvs := hsets ⟨f, x, vs⟩ (hi ▸ List.getElem_mem _)
   dsimp only at hvs
   obtain ⟨sa, sc, rfl⟩ := own_form hvs
   have hqi : q[k] = (f, x) := by subst hits;rw [List.getElem_map, ← hi]
   have hx0 : x.is = false := by have := hok k hlt;rw [hqi] at this;exact this
   obtain ⟨g, rfl, hcell⟩ := its_at (own_block hrow fun g cur hg _ => (hkp.2 g cur _ (.inl rfl) hg).trans hg.symm) k hlt2
   rw [← hi] at hcell
   have y0 : wr.cell? ⟨g, k * 15, none⟩ = some (.int .i64 (f.ty : Nat)) := hcell 0 (by decide)
   have y1 : wr.cell? ⟨g, k * 15 + 1, none⟩ = some (.int .i64 (f.fl : Nat)) := hcell 1 (by decide)
   have y2 : wr.cell? ⟨g, k * 15 + 2, none⟩ = some (.int .i64 (f.st : Nat)) := hcell 2 (by decide)
   have y3 : wr.cell? ⟨g, k * 15 + 3, none⟩ = some (S f.data) := hcell 3 (by decide)
   have y4 : wr.cell? ⟨g, k * 15 + 4, none⟩ = some (.int .i64 (f.pad : Nat)) := hcell 4 (by decide)
   have y5 : wr.cell? ⟨g, k * 15 + 5, none⟩ = some (.slice sa f.sets.length sc) := hcell 5 (by decide)
   have y6 : wr.cell? ⟨g, k * 15 + 6, none⟩ = some (.int .i64 (f.code : Nat)) := hcell 6 (by decide)
   have y7 : wr.cell? ⟨g, k * 15 + 7, none⟩ = some (.int .i64 (f.last : Nat)) := hcell 7 (by decide)
   have y8 : wr.cell? ⟨g, k * 15 + 8, none⟩ = some (.int .i64 (f.inc : Nat)) := hcell 8 (by decide)
   have y9 : wr.cell? ⟨g, k * 15 + 9, none⟩ = some (.int .i64 (f.dep : Nat)) := hcell 9 (by decide)
   have y10 : wr.cell? ⟨g, k * 15 + 10, none⟩ = some (.int .i64 (f.wt : Nat)) := hcell 10 (by decide)
   have y11 : wr.cell? ⟨g, k * 15 + 11, none⟩ = some (.bool f.sole) := hcell 11 (by decide)
   have y13 : wr.cell? ⟨g, k * 15 + 13, none⟩ = some (.int .i64 (x.code : Nat)) := hcell 13 (by decide)
   have y14 : wr.cell? ⟨g, k * 15 + 14, none⟩ = some (.int .i64 (x.st : Nat)) := hcell 14 (by decide)
   have y12 : wr.cell? ⟨g, k * 15 + 12, none⟩ = some (.bool false) := by rw [hcell 12 (by decide), ← hx0];rfl
   obtain ⟨wr1, ewr⟩ : ∃ wr1, wr1 = wr.alloc (.cells #[.int .i64 (f.ty : Nat), .int .i64 (f.fl : Nat), .int .i64 (f.st : Nat), S f.data, .int .i64 (f.pad : Nat), .slice sa f.sets.length sc, .int .i64 (f.code : Nat), .int .i64 (f.last : Nat), .int .i64 (f.inc : Nat), .int .i64 (f.dep : Nat), .int .i64 (f.wt : Nat), .bool f.sole, .bool false, .int .i64 (x.code : Nat), .int .i64 (x.st : Nat)] 74) := ⟨_, rfl⟩
   have hkp1 : Kp wr wr1 := by rw [ewr];exact Kp.alloc _ _
   have hS : ∃ b, wr1.ownsRow b 31 2 (.slice sa f.sets.length sc) f.sets.length (scells f.sets) := ⟨_, own_block hvs fun g cur hg _ => ((hkp.trans hkp1).2 g cur _ (.inr (.inl rfl)) hg).trans hg.symm⟩
   have hI1 : Blk wr1 wr.heap.size 74 #[.int .i64 (f.ty : Nat), .int .i64 (f.fl : Nat), .int .i64 (f.st : Nat), S f.data, .int .i64 (f.pad : Nat), .slice sa f.sets.length sc, .int .i64 (f.code : Nat), .int .i64 (f.last : Nat), .int .i64 (f.inc : Nat), .int .i64 (f.dep : Nat), .int .i64 (f.wt : Nat), .bool f.sole, .bool false, .int .i64 (x.code : Nat), .int .i64 (x.st : Nat)] := by rw [ewr];exact Blk.new _ _ _
   have hK1 : K k wr1 := by rw [ewr];exact hKa k wr _ hKk
   have hC := hKs k wr1 (.slice sa f.sets.length sc) hK1 hlt
   rw [hqi] at hC
   dsimp only at hC
   have hC := hC hS
   have z0 : wr1.cell? ⟨wr.heap.size, 0, none⟩ = some (.int .i64 (f.ty : Nat)) := hI1.cell 0
   have z1 : wr1.cell? ⟨wr.heap.size, 1, none⟩ = some (.int .i64 (f.fl : Nat)) := hI1.cell 1
   have z2 : wr1.cell? ⟨wr.heap.size, 2, none⟩ = some (.int .i64 (f.st : Nat)) := hI1.cell 2
   have z3 : wr1.cell? ⟨wr.heap.size, 3, none⟩ = some (S f.data) := hI1.cell 3
   have z4 : wr1.cell? ⟨wr.heap.size, 4, none⟩ = some (.int .i64 (f.pad : Nat)) := hI1.cell 4
   have z5 : wr1.cell? ⟨wr.heap.size, 5, none⟩ = some (.slice sa f.sets.length sc) := hI1.cell 5
   have z6 : wr1.cell? ⟨wr.heap.size, 6, none⟩ = some (.int .i64 (f.code : Nat)) := hI1.cell 6
   have z7 : wr1.cell? ⟨wr.heap.size, 7, none⟩ = some (.int .i64 (f.last : Nat)) := hI1.cell 7
   have z8 : wr1.cell? ⟨wr.heap.size, 8, none⟩ = some (.int .i64 (f.inc : Nat)) := hI1.cell 8
   have z9 : wr1.cell? ⟨wr.heap.size, 9, none⟩ = some (.int .i64 (f.dep : Nat)) := hI1.cell 9
   have z10 : wr1.cell? ⟨wr.heap.size, 10, none⟩ = some (.int .i64 (f.wt : Nat)) := hI1.cell 10
   have z11 : wr1.cell? ⟨wr.heap.size, 11, none⟩ = some (.bool f.sole) := hI1.cell 11
   have z12 : wr1.cell? ⟨wr.heap.size, 12, none⟩ = some (.bool false) := hI1.cell 12
   have z13 : wr1.cell? ⟨wr.heap.size, 13, none⟩ = some (.int .i64 (x.code : Nat)) := hI1.cell 13
   have z14 : wr1.cell? ⟨wr.heap.size, 14, none⟩ = some (.int .i64 (x.st : Nat)) := hI1.cell 14
   clear hcell hi hqi hrow hsets hvs hits hS hI1 hT
   go_upto_region 4 with fail
   rw [← ewr]
   clear ewr
   go_wp2_with (go_at_call 41;refine hC.mono ?_;rintro e w2 ⟨rfl, hkp2, hK2⟩)
   refine ⟨⟨k + 1, by omega, by go_num, hkp.trans (hkp1.trans hkp2), hK2⟩, ?_⟩
   simp [intOf]
   omega
  ·obtain rfl : k = q.length := by omega
   have hn' : ¬ (q.length < its.length) := by rw [HN.out];omega
   go_wp2
   go_end0
   exact ⟨rfl, hKk⟩
end Go.Proofs.YtkeeofhjdffhbaaGreatDoor
