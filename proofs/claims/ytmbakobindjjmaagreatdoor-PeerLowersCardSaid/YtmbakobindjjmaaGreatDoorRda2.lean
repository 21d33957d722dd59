
/- The walk of an answer's head of one field: what is gathered. -/
import Derived.Test.YtmbakobindjjmaaGreatDoorRda1
import Derived.Test.YtmbakobindjjmaaGreatDoorWin2
import Derived.Laws.EntriesVeiled
namespace Go.Proofs.YtmbakobindjjmaaGreatDoor
open Go.RowKit Go.Dr

set_option maxRecDepth 100000 in
set_option maxHeartbeats 4000000 in
theorem Pseudo_stat (w : World) : Calls Tryz.prog 98 #[.agg stat8] w fun e w' => e = .returned (.bool true) ∧ Below w.heap.size w w' := by
  go_enter Tryz.func98, Tryz.ntmps98
  go_wp2
  go_ret
  exact ⟨rfl, (Below.refl _ _).alloc (Nat.le_refl _) _⟩
set_option maxRecDepth 100000 in
set_option maxHeartbeats 4000000 in
theorem Known_stat {b3 b7 nb mb : Nat} (w : World) (h3 : w.cell? ⟨b3, 0, none⟩ = some (.slice (some ⟨nb, 0, none⟩) 1 1)) (hn : w.cell? ⟨nb, 0, none⟩ = some (S statB)) (h7 : w.cell? ⟨b7, 0, none⟩ = some (.map (some mb))) (hm : w.heap[mb]? = some (.map #[] 0)) :
    Calls Tryz.prog 96 #[S statB, Ptr b3, Ptr b7] w fun e w' => e = .returned (.bool true) ∧ Below w.heap.size w w' := by
  have hl := SM.none hm
  go_enter Tryz.func96, Tryz.ntmps96
  go_wp2
  refine wp_loop_rounds 2 ?_
  rw [rounds_succ]
  go_wp2
  go_ret
  exact ⟨rfl, (Below.refl _ _).alloc (Nat.le_refl _) _⟩

set_option maxRecDepth 100000 in
set_option maxHeartbeats 4000000 in
theorem Ask_stat {b3 b7 b8 b9 nb mb : Nat} {t3 t7 t8 t9 tn : TypeId} (w : World) (h3 : Blk w b3 t3 #[.slice (some ⟨nb, 0, none⟩) 1 1]) (hn : Blk w nb tn #[S statB]) (h7 : Blk w b7 t7 #[.map (some mb)]) (hm : w.heap[mb]? = some (.map #[] 0)) (h8 : Blk w b8 t8 #[.slice none 0 0]) (h9 : Blk w b9 t9 #[.func (.func 96) #[] #[Ptr b3, Ptr b7]]) :
    Calls Tryz.prog 97 #[.agg stat8, Ptr b8, Ptr b9, Ptr b7] w fun e w' => e = .returned (.int .i64 0) ∧ SM w' mb [50, 48, 48] ∧ But (fun k => k = mb) w w' := by
  obtain ⟨W, eW⟩ : ∃ W, W = w.alloc (.cells stat8 38) := ⟨_, rfl⟩
  have hb : Below w.heap.size w W := by rw [eW]; exact (Below.refl _ _).alloc (Nat.le_refl _) _
  have hF : Blk W w.heap.size 38 stat8 := by rw [eW]; exact Blk.new _ _ _
  have g0 : W.cell? ⟨w.heap.size, 0, none⟩ = some (S statB) := hF.cell 0
  have g1 : W.cell? ⟨w.heap.size, 1, none⟩ = some (S [50, 48, 48]) := hF.cell 1
  have g2 : W.cell? ⟨w.heap.size, 2, none⟩ = some (.bool false) := hF.cell 2
  go_enter Tryz.func97, Tryz.ntmps97
  go_upto_region 1 with fail
  rw [← eW]
  clear eW
  go_wp2_with first
    | (go_at_call 98; (with_reducible refine (Pseudo_stat _).mono ?_); rintro e w2 ⟨rfl, hb2⟩; have hb02 := hb.trans (hb2.mono hb.size); have hF2 := hF.on hb2; have x8 : w2.cell? ⟨b8, 0, none⟩ = some (.slice none 0 0) := ((h8.on hb02).cell 0); have x9 : w2.cell? ⟨b9, 0, none⟩ = some (.func (.func 96) #[] #[Ptr b3, Ptr b7]) := ((h9.on hb02).cell 0); have k0 : w2.cell? ⟨w.heap.size, 0, none⟩ = some (S statB) := hF2.cell 0; have hK := Known_stat w2 ((h3.on hb02).cell 0) ((hn.on hb02).cell 0) ((h7.on hb02).cell 0) (obj_below hm hb02 (lt_of_block hm)))
    | (go_at_call 96; (with_reducible refine hK.mono ?_); rintro e w3 ⟨rfl, hb3⟩; have hb03 := hb02.trans (hb3.mono hb02.size); have hF3 := hF2.on hb3; have x7 : w3.cell? ⟨b7, 0, none⟩ = some (.map (some mb)) := ((h7.on hb03).cell 0); have q0 : w3.cell? ⟨w.heap.size, 0, none⟩ = some (S statB) := hF3.cell 0; have q1 : w3.cell? ⟨w.heap.size, 1, none⟩ = some (S [50, 48, 48]) := hF3.cell 1; obtain ⟨w4, hput, hS4, ht4⟩ := SM.new (obj_below hm hb03 (lt_of_block hm)) [50, 48, 48])
  go_ret
  exact ⟨rfl, hS4, (But.of_below hb03).trans (but_turned ht4)⟩

theorem SM.block {w w' : World} {b : Nat} {l : Bytes} (h : SM w b l) (hb : w'.heap[b]? = w.heap[b]?) : SM w' b l := by
  obtain ⟨es, clock, h1, F, h2, h3⟩ := h
  exact ⟨es, clock, hb.trans h1, F, h2, h3⟩
/-- a row of one field, read -/
theorem field_row {w : World} {B : Nat} {a : Option Addr} {c : Nat} (h : w.ownsRow B 38 3 (.slice a 1 c) 1 stat8.toList) : ∃ g, a = some ⟨g, 0, none⟩ ∧ g < w.heap.size ∧ w.cell? ⟨g, 0, none⟩ = some (S statB) ∧ w.cell? ⟨g, 1, none⟩ = some (S [50, 48, 48]) ∧ w.cell? ⟨g, 2, none⟩ = some (.bool false) := by
  rcases h.2 with ⟨-, h0⟩ | ⟨g, cap, cur, hv, -, hg, -, -, -, ht⟩
  · omega
  · simp only [Value.slice.injEq] at hv
    have e : ∀ j, j < 3 → cur[j]? = stat8.toList[j]? := fun j hj => by
      rw [← ht, List.getElem?_take_of_lt (by omega)]
      simp
    refine ⟨g, hv.1, lt_of_block hg, ?_, ?_, ?_⟩
    · simp only [World.cell?, hg]; exact e 0 (by decide)
    · simp only [World.cell?, hg]; exact e 1 (by decide)
    · simp only [World.cell?, hg]; exact e 2 (by decide)

theorem gather_made (w : World) (nb N : Nat) (hN : w.heap.size = N) :
    let W := (((((w.alloc (.cells #[.slice (some ⟨nb, 0, none⟩) 1 1] 64)).alloc (.map #[] 0)).alloc (.cells #[.map (some (N + 1))] 160)).alloc (.cells #[.slice none 0 0] 39)).alloc (.cells #[Value.func (.func 96) #[] #[Ptr N, Ptr (N + 1 + 1)]] 181))
    Blk W N 64 #[.slice (some ⟨nb, 0, none⟩) 1 1] ∧ W.heap[N + 1]? = some (.map #[] 0) ∧ Blk W (N + 1 + 1) 160 #[.map (some (N + 1))] ∧ Blk W (N + 1 + 1 + 1) 39 #[.slice none 0 0] ∧ Blk W (N + 1 + 1 + 1 + 1) 181 #[Value.func (.func 96) #[] #[Ptr N, Ptr (N + 1 + 1)]] ∧ Below w.heap.size w W ∧ W.heap.size = N + 5 := by
  intro W
  refine ⟨((((bnew_at w _ _ _ hN).alloc _).alloc _).alloc _).alloc _, obj_alloc (obj_alloc (obj_alloc (obj_new _ _ _ (by simp [hN])) _) _) _, ((bnew_at _ _ _ _ (by simp [hN])).alloc _).alloc _, (bnew_at _ _ _ _ (by simp [hN])).alloc _, bnew_at _ _ _ _ (by simp [hN]), ?_, by simp [W, hN]⟩
  exact (((((Below.refl _ _).alloc (Nat.le_refl _) _).alloc (by simp) _).alloc (by simp; omega) _).alloc (by simp; omega) _).alloc (by simp; omega) _

set_option maxRecDepth 100000 in
set_option maxHeartbeats 4000000 in
theorem Gather_stat {B nb c : Nat} {a : Option Addr} {tn : TypeId} (w : World) (h : w.ownsRow B 38 3 (.slice a 1 c) 1 stat8.toList) (hn : Blk w nb tn #[S statB]) :
    Calls Tryz.prog 85 #[.slice a 1 c, .slice (some ⟨nb, 0, none⟩) 1 1] w fun e w' => ∃ mb, e = .returned (.tuple #[.map (some mb), .slice none 0 0, .int .i64 0]) ∧ SM w' mb [50, 48, 48] ∧ Below w.heap.size w w' := by
  obtain ⟨g, rfl, hgl, c0, c1, c2⟩ := field_row h
  have hmm := @run_makeMap Tryz.prog
  have hmf : ∀ (fn : Fn) (first cap : Array Value) (w : World), (Instr.makeFunc fn first cap).run Tryz.prog w = .ok (.func fn first cap) w := fun _ _ _ _ => rfl
  obtain ⟨hA, hM, hB, hC, hD, hb, hz⟩ := gather_made w nb w.heap.size rfl
  obtain ⟨W, eW⟩ : ∃ W, W = (((((w.alloc (.cells #[.slice (some ⟨nb, 0, none⟩) 1 1] 64)).alloc (.map #[] 0)).alloc (.cells #[.map (some (w.heap.size + 1))] 160)).alloc (.cells #[.slice none 0 0] 39)).alloc (.cells #[Value.func (.func 96) #[] #[Ptr w.heap.size, Ptr (w.heap.size + 1 + 1)]] 181)) := ⟨_, rfl⟩
  rw [← eW] at hA hM hB hC hD hb hz
  obtain ⟨W1, eW1⟩ : ∃ W1, W1 = W.alloc (.cells stat8 38) := ⟨_, rfl⟩
  have hb1 : Below W.heap.size W W1 := by rw [eW1]; exact (Below.refl _ _).alloc (Nat.le_refl _) _
  have hw1 : Below w.heap.size w W1 := hb.trans (hb1.mono hb.size)
  have hn1 : Blk W1 nb tn #[S statB] := hn.on hw1
  have hF1 : Blk W1 W.heap.size 38 stat8 := by rw [eW1]; exact Blk.new _ _ _
  have hM1 := obj_below hM hb1 (lt_of_block hM)
  have hAsk := Ask_stat W1 (hA.on hb1) hn1 (hB.on hb1) hM1 (hC.on hb1) (hD.on hb1)
  have eg := hb.block g hgl
  have d0 : W.cell? ⟨g, 0, none⟩ = some (S statB) := by simp only [World.cell?, eg] at c0 ⊢; exact c0
  have d1 : W.cell? ⟨g, 1, none⟩ = some (S [50, 48, 48]) := by simp only [World.cell?, eg] at c1 ⊢; exact c1
  have d2 : W.cell? ⟨g, 2, none⟩ = some (.bool false) := by simp only [World.cell?, eg] at c2 ⊢; exact c2
  have k0 : W1.cell? ⟨W.heap.size, 0, none⟩ = some (S statB) := hF1.cell 0
  have k1 : W1.cell? ⟨W.heap.size, 1, none⟩ = some (S [50, 48, 48]) := hF1.cell 1
  have k2 : W1.cell? ⟨W.heap.size, 2, none⟩ = some (.bool false) := hF1.cell 2
  have HZ := Lib.hid hz
  clear hz c0 c1 c2 eg h
  go_enter Tryz.func85, Tryz.ntmps85
  go_upto_region 5 with fail
  rw [← eW]
  clear eW
  go_wp2
  refine wp_loop_rounds 2 ?_
  rw [rounds_succ]
  go_upto_region 8 with fail
  rw [← eW1]
  clear eW1
  go_wp2_with (go_at_call 97; (with_reducible refine hAsk.mono ?_); rintro e w2 ⟨rfl, hS2, hb2⟩; have e7 : w2.cell? ⟨w.heap.size + 1 + 1, 0, none⟩ = some (.map (some (w.heap.size + 1))) := Blk.cell (show Blk w2 _ _ _ from (hb2.block _ (hB.on hb1).lt (by show ¬ _ = _; omega)).trans (hB.on hb1)) 0; have e8 : w2.cell? ⟨w.heap.size + 1 + 1 + 1, 0, none⟩ = some (.slice none 0 0) := Blk.cell (show Blk w2 _ _ _ from (hb2.block _ (hC.on hb1).lt (by show ¬ _ = _; omega)).trans (hC.on hb1)) 0)
  rw [rounds_succ]
  go_wp2
  go_region
  go_wp2
  go_ret3
  exact ⟨w.heap.size + 1, rfl, hS2.block rfl, (hw1.trans (hb2.below (fun k hk => by omega) hw1.size)).drew⟩

set_option maxRecDepth 100000 in
set_option maxHeartbeats 4000000 in
/-- an answer's head of one field: 200, no fields -/
theorem ReadAnswer_stat {B c : Nat} {a : Option Addr} (w : World) (h : w.ownsRow B 38 3 (.slice a 1 c) 1 stat8.toList) :
    Calls Tryz.prog 69 #[.slice a 1 c] w fun e w' => e = .returned (.tuple #[.int .i64 200, .slice none 0 0, .int .i64 0]) ∧ Below w.heap.size w w' := by
  obtain ⟨W, eW⟩ : ∃ W, W = w.alloc (.cells #[.string ⟨#[58, 115, 116, 97, 116, 117, 115]⟩] 9) := ⟨_, rfl⟩
  have hb : Below w.heap.size w W := by rw [eW]; exact (Below.refl _ _).alloc (Nat.le_refl _) _
  have hn : Blk W w.heap.size 9 #[S statB] := by rw [eW]; exact Blk.new _ _ _
  have hG := Gather_stat W (own_below h hb) hn
  have hfd : ∀ w' : World, (Instr.field 164 (.agg #[S [50, 48, 48]]) 0).run Tryz.prog w' = .ok (S [50, 48, 48]) w' := fun w' => by kernel_rfl
  go_enter Tryz.func69, Tryz.ntmps69
  go_wp2_with first
    | (go_at_call 85; rw [← eW]; (with_reducible refine hG.mono ?_); rintro e w2 ⟨mb, rfl, hS2, hb2⟩; have hl : (Instr.lookup 160 (.map (some mb)) (.string ⟨#[58, 115, 116, 97, 116, 117, 115]⟩) false).run Tryz.prog w2 = .ok (.agg #[S [50, 48, 48]]) w2 := hS2.get; have hb02 := hb.trans (hb2.mono hb.size))
    | (go_at_call 86; (with_reducible refine (Decimal_200 _).mono ?_); rintro e w3 ⟨rfl, rfl⟩)
    | (go_at_call 70; (with_reducible refine (Length_nil _).mono ?_); rintro e w3 ⟨rfl, rfl⟩)
  go_ret3
  exact ⟨rfl, hb02⟩
end Go.Proofs.YtmbakobindjjmaaGreatDoor
