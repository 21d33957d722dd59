
/- The walk of the law's own helpers: bytes, sets, noughts. -/
import Derived.Test.YtmbakobindjjmaaGreatDoorPut3
import Derived.Test.YtmbakobindjjmaaGreatDoorPer3
import Derived.Test.YtmbakobindjjmaaGreatDoorPut4
import Derived.Test.YtmbakobindjjmaaGreatDoorPut5
import Derived.Test.YtmbakobindjjmaaGreatDoorPut6
import Derived.Test.YtmbakobindjjmaaGreatDoorTkp
namespace Go.Proofs.YtmbakobindjjmaaGreatDoor
open Go.RowKit Go.Dr

/-- answers these bytes, in memory of its own -/
def OutB (l : Bytes) (w : World) (e : Ending) (w' : World) : Prop := ∃ v, e = .returned v ∧ w'.ownsRow w.heap.size 5 1 v l.length (l.map B8) ∧ Below w.heap.size w w'

set_option maxRecDepth 100000 in
set_option maxHeartbeats 4000000 in
theorem bytes_any {c0 c1 c2 c3 c4 c5 c6 c7 c8 c9 c10 c11 : Value} (l : Bytes) (w : World)
    (hP : ∀ w1, Below w.heap.size w w1 → Calls Tryz.prog 19 #[.agg #[c0, c1, c2, c3, c4, c5, c6, c7, c8, c9, c10, c11]] w1 fun e w' => ∃ v, e = .returned (.tuple #[v, .int .i64 0]) ∧ w'.ownsRow w1.heap.size 5 1 v l.length (l.map B8) ∧ Below w1.heap.size w1 w') :
    Calls Tryz.prog 11 #[.agg #[c0, c1, c2, c3, c4, c5, c6, c7, c8, c9, c10, c11]] w (OutB l w) := by
  have hb := (Below.refl w.heap.size w).alloc (Nat.le_refl _) (.cells #[c0, c1, c2, c3, c4, c5, c6, c7, c8, c9, c10, c11] 33)
  have hP1 := hP _ hb
  have hsz := hb.size
  go_enter Tryz.func11, Tryz.ntmps11
  go_wp2_with (go_at_call 19; (with_reducible refine hP1.mono ?_); rintro e w2 ⟨v, rfl, hown, hb2⟩)
  go_ret
  exact ⟨_, rfl, own_base hown hsz, hb.trans (hb2.mono hsz)⟩

abbrev frame0 (ty fl st : Int) (d : Value) (vs : Value) (inc : Int) : Value := .agg #[.int .i64 ty, .int .i64 fl, .int .i64 st, d, .int .i64 0, vs, .int .i64 0, .int .i64 0, .int .i64 inc, .int .i64 0, .int .i64 0, .bool false]
theorem bytes_Set0 (w : World) : Calls Tryz.prog 11 #[frame0 4 0 0 (S []) (.slice none 0 0) 0] w (OutB (frB 4 0 0 []) w) := bytes_any _ w fun w1 _ => put_Set0 w1
theorem bytes_Hd4 (l : Bytes) (hl : l.length ≤ 16384) (w : World) : Calls Tryz.prog 11 #[frame0 1 4 1 (S l) (.slice none 0 0) 0] w (OutB (frB 1 4 1 l) w) := bytes_any _ w fun w1 _ => by rw [frB_length]; exact put_Hd4 l hl w1
theorem bytes_Hd5 (l : Bytes) (hl : l.length ≤ 16384) (w : World) : Calls Tryz.prog 11 #[frame0 1 5 1 (S l) (.slice none 0 0) 0] w (OutB (frB 1 5 1 l) w) := bytes_any _ w fun w1 _ => by rw [frB_length]; exact put_Hd5 l hl w1
theorem bytes_Dat0 (l : Bytes) (hl : l.length ≤ 16384) (w : World) : Calls Tryz.prog 11 #[frame0 0 0 1 (S l) (.slice none 0 0) 0] w (OutB (frB 0 0 1 l) w) := bytes_any _ w fun w1 _ => by rw [frB_length]; exact put_Dat0 l hl w1
theorem bytes_Win1 (n : Nat) (hn : n < 2147483648) (w : World) : Calls Tryz.prog 11 #[frame0 8 0 1 (S []) (.slice none 0 0) n] w (OutB (frB 8 0 1 (beP n 4)) w) := bytes_any _ w fun w1 _ => put_Win1 n hn w1
theorem bytes_Set1 (sb n : Nat) (hn : n < 4294967296) (w : World) (hs : Blk w sb 52 #[.int .i64 4, .int .i64 (n : Int)]) : Calls Tryz.prog 11 #[frame0 4 0 0 (S []) (.slice (some ⟨sb, 0, none⟩) 1 1) 0] w (OutB (frB 4 0 0 (beP 4 2 ++ beP n 4)) w) := bytes_any _ w fun w1 hb => put_Set1 sb n hn w1 (hs.on hb)

set_option maxRecDepth 100000 in
set_option maxHeartbeats 4000000 in
theorem sets_any (n : Nat) (hn : n < 65536) (w : World) : Calls Tryz.prog 10 #[.int .u16 (n : Int)] w (OutB (frB 4 0 0 (beP 4 2 ++ beP n 4)) w) := by
  have hb := (Below.refl w.heap.size w).alloc (Nat.le_refl _) (.cells #[.int .i64 4, .int .i64 (n : Int)] 52)
  have hsz := hb.size
  have hB := bytes_Set1 w.heap.size n (by omega) _ (Blk.new w 52 #[.int .i64 4, .int .i64 (n : Int)])
  go_enter Tryz.func10, Tryz.ntmps10
  go_wp2_with (go_at_call 11; (with_reducible refine hB.mono ?_); rintro e w2 ⟨v, rfl, hown, hb2⟩)
  go_ret
  exact ⟨_, rfl, own_base hown hsz, hb.trans (hb2.mono hsz)⟩

set_option maxRecDepth 100000 in
set_option maxHeartbeats 4000000 in
theorem noughts_any (n : Nat) (hn : n ≤ 16384) (w : World) : Calls Tryz.prog 15 #[.int .i64 (n : Int)] w (OutB (frB 0 0 1 (List.replicate n 0)) w) := by
  have hl : (List.replicate n (0 : UInt8)).length ≤ 16384 := by simpa using hn
  obtain ⟨w1, hM1, ⟨hR1, -⟩, hb1⟩ : ∃ w1, (Instr.makeSlice 28 (.int .i64 (n : Int)) (.int .i64 (n : Int))).run Tryz.prog w = .ok (.slice (some ⟨w.heap.size, 0, none⟩) n n) w1 ∧ (w1.heap[w.heap.size]? = some (.cells (Go.madeCells #[.int .u8 0] n) 5 (0, 0)) ∧ True) ∧ Below w.heap.size w w1 := by
    obtain ⟨i, hi, hz, hsz, hby⟩ := info_parts (P := Tryz.prog) (e := 5) (z := .int .u8 0) (size := 1) (bytes := 1) (by kernel_rfl)
    have hr := Go.run_makeSlice (P := Tryz.prog) w 28 5 i (.int .u8 0) Tryz.underlying28 hi hz .i64 .i64 (n : Int) (n : Int) (by omega) (by omega) (by rw [hsz]; simp; omega) (by rw [hby]; simp; omega) (by omega)
    rw [hsz, Int.toNat_natCast, Nat.mul_one] at hr
    refine ⟨_, hr, ⟨?_, trivial⟩, (Below.refl _ _).alloc (Nat.le_refl _) _⟩
    exact obj_new w _ _ rfl
  have hcell : ∀ j (hj : j < (List.replicate n (0 : UInt8)).length), w1.cell? ((⟨w.heap.size, 0, none⟩ : Addr).add j) = some (.int .u8 (((List.replicate n (0 : UInt8))[j]).toNat : Int)) := by
    intro j hj
    have hj' : j < n := by simpa using hj
    rw [Addr.add_lit, Nat.zero_add]
    have e1 : (Go.madeCells #[.int .u8 0] n)[j]? = some (.int .u8 0) := by
      rw [← Array.getElem?_toList, Go.toList_madeCells_one, List.getElem?_replicate, if_pos hj']
    simp [World.cell?, hR1, e1]
  have hC := Go.run_convert_bytes_back (P := Tryz.prog) w1 28 9 5 ⟨w.heap.size, 0, none⟩ n _ Tryz.underlying28 (by kernel_rfl) Tryz.underlying9 hcell
  rw [List.length_replicate] at hC
  clear hcell
  have hB := bytes_Dat0 _ hl w1
  have hsz := hb1.size
  generalize List.replicate n (0 : UInt8) = l at hB hC ⊢
  clear hl
  go_enter Tryz.func15, Tryz.ntmps15
  go_wp2_with (go_at_call 11; (with_reducible refine hB.mono ?_); rintro e w2 ⟨v, rfl, hown, hb2⟩)
  go_ret
  exact ⟨_, rfl, own_base hown hsz, hb1.trans (hb2.mono hsz)⟩
end Go.Proofs.YtmbakobindjjmaaGreatDoor
