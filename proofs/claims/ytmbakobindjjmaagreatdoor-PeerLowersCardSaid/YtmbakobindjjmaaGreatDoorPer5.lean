
/- What a peer asks of data and of a head of a stream that began. Printed by pergen3.py. -/
import Derived.Test.YtmbakobindjjmaaGreatDoorPer4
namespace Go.Proofs.YtmbakobindjjmaaGreatDoor
open Go.RowKit Go.Dr

theorem one_get {w : World} {m s : Nat} (h : PMap Tryz.prog 3 w m [(1, s)]) : (Instr.lookup 59 (.map (some m)) (.int .i64 1) false).run Tryz.prog w = .ok (Ptr s) w := by
  rcases PMap.get h (t := 59) Tryz.underlying3 Tryz.underlying59 (zeroSide w) 1 (by decide) with ⟨b, hm, e⟩ | ⟨hn, -⟩
  · simp at hm
    subst hm
    exact e
  · exact absurd rfl (hn (1, s) (by simp))
theorem pmap_below {w w' : World} {m s : Nat} (h : PMap Tryz.prog 3 w m [(1, s)]) (hb : Below w.heap.size w w') : PMap Tryz.prog 3 w' m [(1, s)] := h.block (hb.block m h.lt)

set_option maxRecDepth 100000 in
set_option maxHeartbeats 4000000 in
theorem streams_dat {p m s sn sc : Nat} {ps ss : Array Value} {pad code la inc dep wt xc xs : Int} {sole xi : Bool} {da : Bytes} {sa : Option Addr} (w : World) (h : Blk w p 67 ps) (h11 : ps[11]? = some (.map (some m))) (hm : PMap Tryz.prog 3 w m [(1, s)]) (hs : Blk w s 92 ss) (h4 : ss[4]? = some (.bool false)) (h5 : ss[5]? = some (.bool false)) (h7 : ss[7]? = some (.int .i64 1)) :
    Calls Tryz.prog 33 #[Ptr p, .agg #[.int .i64 0, .int .i64 0, .int .i64 1, S da, .int .i64 pad, .slice sa sn sc, .int .i64 code, .int .i64 la, .int .i64 inc, .int .i64 dep, .int .i64 wt, .bool sole, .bool xi, .int .i64 xc, .int .i64 xs]] w fun e w' => e = .returned (.int .i64 0) ∧ Below w.heap.size w w' := by
  obtain ⟨W, eW⟩ : ∃ W, W = (w.alloc (.cells #[.int .i64 0, .int .i64 0, .int .i64 1, S da, .int .i64 pad, .slice sa sn sc, .int .i64 code, .int .i64 la, .int .i64 inc, .int .i64 dep, .int .i64 wt, .bool sole, .bool xi, .int .i64 xc, .int .i64 xs] 75)).alloc (.cells #[.int .i64 0, .int .i64 0, .int .i64 1, S da, .int .i64 pad, .slice sa sn sc, .int .i64 code, .int .i64 la, .int .i64 inc, .int .i64 dep, .int .i64 wt, .bool sole] 33) := ⟨_, rfl⟩
  have hb : Below w.heap.size w W := by rw [eW]; exact ((Below.refl _ _).alloc (Nat.le_refl _) _).alloc (by simp) _
  have hF : Blk W (w.heap.size + 1) 33 #[.int .i64 0, .int .i64 0, .int .i64 1, S da, .int .i64 pad, .slice sa sn sc, .int .i64 code, .int .i64 la, .int .i64 inc, .int .i64 dep, .int .i64 wt, .bool sole] := by rw [eW, ← World.size_alloc]; exact Blk.new _ _ _
  have hP := h.on hb
  have hS := hs.on hb
  have y11 : W.cell? ⟨p, 11, none⟩ = some (.map (some m)) := (hP.cell 11).trans h11
  have u0 : W.cell? ⟨w.heap.size + 1, 0, none⟩ = some (.int .i64 0) := hF.cell 0
  have u1 : W.cell? ⟨w.heap.size + 1, 1, none⟩ = some (.int .i64 0) := hF.cell 1
  have u2 : W.cell? ⟨w.heap.size + 1, 2, none⟩ = some (.int .i64 1) := hF.cell 2
  have q4 : W.cell? ⟨s, 4, none⟩ = some (.bool false) := (hS.cell 4).trans h4
  have q5 : W.cell? ⟨s, 5, none⟩ = some (.bool false) := (hS.cell 5).trans h5
  have q7 : W.cell? ⟨s, 7, none⟩ = some (.int .i64 1) := (hS.cell 7).trans h7
  have k1 := one_get (pmap_below hm hb)
  have k2 := one_get (show PMap Tryz.prog 3 W.drew m [(1, s)] from (pmap_below hm hb).block rfl)
  have bt : bits .and .i64 0 1 = 0 := by decide
  go_enter Tryz.func33, Tryz.ntmps33
  go_upto_region 10 with fail
  rw [← eW]
  clear eW
  go_region_with (fail)
  all_goals go_wp2
  all_goals go_ret
  all_goals exact ⟨rfl, hb.drew⟩

set_option maxRecDepth 100000 in
set_option maxHeartbeats 4000000 in
theorem streams_head {p m s sn sc : Nat} {ps ss : Array Value} {pad code la inc dep wt xc xs : Int} {sole xi : Bool} {da : Bytes} {sa : Option Addr} (w : World) (h : Blk w p 67 ps) (h11 : ps[11]? = some (.map (some m))) (hm : PMap Tryz.prog 3 w m [(1, s)]) (hs : Blk w s 92 ss) (h4 : ss[4]? = some (.bool false)) (h5 : ss[5]? = some (.bool false)) (h7 : ss[7]? = some (.int .i64 0)) :
    Calls Tryz.prog 33 #[Ptr p, .agg #[.int .i64 1, .int .i64 4, .int .i64 1, S da, .int .i64 pad, .slice sa sn sc, .int .i64 code, .int .i64 la, .int .i64 inc, .int .i64 dep, .int .i64 wt, .bool sole, .bool xi, .int .i64 xc, .int .i64 xs]] w fun e w' => e = .returned (.int .i64 0) ∧ Below w.heap.size w w' := by
  obtain ⟨W, eW⟩ : ∃ W, W = (w.alloc (.cells #[.int .i64 1, .int .i64 4, .int .i64 1, S da, .int .i64 pad, .slice sa sn sc, .int .i64 code, .int .i64 la, .int .i64 inc, .int .i64 dep, .int .i64 wt, .bool sole, .bool xi, .int .i64 xc, .int .i64 xs] 75)).alloc (.cells #[.int .i64 1, .int .i64 4, .int .i64 1, S da, .int .i64 pad, .slice sa sn sc, .int .i64 code, .int .i64 la, .int .i64 inc, .int .i64 dep, .int .i64 wt, .bool sole] 33) := ⟨_, rfl⟩
  have hb : Below w.heap.size w W := by rw [eW]; exact ((Below.refl _ _).alloc (Nat.le_refl _) _).alloc (by simp) _
  have hF : Blk W (w.heap.size + 1) 33 #[.int .i64 1, .int .i64 4, .int .i64 1, S da, .int .i64 pad, .slice sa sn sc, .int .i64 code, .int .i64 la, .int .i64 inc, .int .i64 dep, .int .i64 wt, .bool sole] := by rw [eW, ← World.size_alloc]; exact Blk.new _ _ _
  have hP := h.on hb
  have hS := hs.on hb
  have y11 : W.cell? ⟨p, 11, none⟩ = some (.map (some m)) := (hP.cell 11).trans h11
  have u0 : W.cell? ⟨w.heap.size + 1, 0, none⟩ = some (.int .i64 1) := hF.cell 0
  have u1 : W.cell? ⟨w.heap.size + 1, 1, none⟩ = some (.int .i64 4) := hF.cell 1
  have u2 : W.cell? ⟨w.heap.size + 1, 2, none⟩ = some (.int .i64 1) := hF.cell 2
  have q4 : W.cell? ⟨s, 4, none⟩ = some (.bool false) := (hS.cell 4).trans h4
  have q5 : W.cell? ⟨s, 5, none⟩ = some (.bool false) := (hS.cell 5).trans h5
  have q7 : W.cell? ⟨s, 7, none⟩ = some (.int .i64 0) := (hS.cell 7).trans h7
  have k1 := one_get (pmap_below hm hb)
  have k2 := one_get (show PMap Tryz.prog 3 W.drew m [(1, s)] from (pmap_below hm hb).block rfl)
  have bt : bits .and .i64 4 1 = 0 := by decide
  go_enter Tryz.func33, Tryz.ntmps33
  go_upto_region 10 with fail
  rw [← eW]
  clear eW
  go_region_with (fail)
  all_goals go_wp2
  all_goals go_ret
  all_goals exact ⟨rfl, hb.drew⟩
end Go.Proofs.YtmbakobindjjmaaGreatDoor
