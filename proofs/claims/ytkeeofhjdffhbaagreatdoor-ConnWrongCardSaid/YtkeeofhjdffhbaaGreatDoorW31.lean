/- Parts of the proof of wr_root: the texts Law22q Law22r Law22s Law22t. -/
import Derived.Test.YtkeeofhjdffhbaaGreatDoorW30
set_option linter.unusedSimpArgs false
set_option linter.unusedVariables false
set_option linter.unnecessarySimpa false
namespace Go.Proofs.YtkeeofhjdffhbaaGreatDoor
open Go Go.RowKit Go.Dr
set_option maxRecDepth 100000 in
set_option maxHeartbeats 8000000 in
theorem Bytes_two {g : Nat} (w : World) (hg : Blk w g 34 #[.int .i64 1, .int .i64 5, .int .i64 1, S dS, .int .i64 0, .slice none 0 0, .int .i64 0, .int .i64 0, .int .i64 0, .int .i64 0, .int .i64 0, .bool false, .int .i64 1, .int .i64 5, .int .i64 3, S dS, .int .i64 0, .slice none 0 0, .int .i64 0, .int .i64 0, .int .i64 0, .int .i64 0, .int .i64 0, .bool false]) :
  Calls Tryz.prog 20 #[.slice (some ⟨g, 0, none⟩) 2 2] w (OutC (frB 1 5 1 dS ++ frB 1 5 3 dS) w) := by
 obtain ⟨l1, e1⟩ : ∃ l, l = frB 1 5 1 dS := ⟨_, rfl⟩
 obtain ⟨l3, e3⟩ : ∃ l, l = frB 1 5 3 dS := ⟨_, rfl⟩
 have n1 : l1.length = 9 + dS.length := by rw [e1, frB_length]
 have n3 : l3.length = 9 + dS.length := by rw [e3, frB_length]
 have nd : dS.length = 7 := by decide
 have hP1 : ∀ w1, Calls Tryz.prog 8 #[.agg #[.int .i64 1, .int .i64 5, .int .i64 1, S dS, .int .i64 0, .slice none 0 0, .int .i64 0, .int .i64 0, .int .i64 0, .int .i64 0, .int .i64 0, .bool false]] w1 fun e w' => ∃ v, e = .returned (.tuple #[v, .int .i64 0]) ∧ w'.ownsRow w1.heap.size 5 1 v l1.length (l1.map B8) ∧ Below w1.heap.size w1 w' := fun w1 => by rw [e1, frB_length];exact put_HdS5 1 (by decide) dS (by decide) w1
 have hP3 : ∀ w1, Calls Tryz.prog 8 #[.agg #[.int .i64 1, .int .i64 5, .int .i64 3, S dS, .int .i64 0, .slice none 0 0, .int .i64 0, .int .i64 0, .int .i64 0, .int .i64 0, .int .i64 0, .bool false]] w1 fun e w' => ∃ v, e = .returned (.tuple #[v, .int .i64 0]) ∧ w'.ownsRow w1.heap.size 5 1 v l3.length (l3.map B8) ∧ Below w1.heap.size w1 w' := fun w1 => by rw [e3, frB_length];exact put_HdS5 3 (by decide) dS (by decide) w1
 rw [← e1, ← e3]
 have hl1 : l1.length ≤ 100 := by omega
 have hl3 : l3.length ≤ 100 := by omega
 clear n1 n3 nd
 have E1 := Lib.hid e1
 have E3 := Lib.hid e3
 clear e1 e3
 (have z0 : w.cell? ⟨g, 0, none⟩ = some (.int .i64 1) := hg.cell 0;have z1 : w.cell? ⟨g, 1, none⟩ = some (.int .i64 5) := hg.cell 1;have z2 : w.cell? ⟨g, 2, none⟩ = some (.int .i64 1) := hg.cell 2;have z3 : w.cell? ⟨g, 3, none⟩ = some (S dS) := hg.cell 3;have z4 : w.cell? ⟨g, 4, none⟩ = some (.int .i64 0) := hg.cell 4;have z5 : w.cell? ⟨g, 5, none⟩ = some (.slice none 0 0) := hg.cell 5;have z6 : w.cell? ⟨g, 6, none⟩ = some (.int .i64 0) := hg.cell 6;have z7 : w.cell? ⟨g, 7, none⟩ = some (.int .i64 0) := hg.cell 7;have z8 : w.cell? ⟨g, 8, none⟩ = some (.int .i64 0) := hg.cell 8;have z9 : w.cell? ⟨g, 9, none⟩ = some (.int .i64 0) := hg.cell 9;have z10 : w.cell? ⟨g, 10, none⟩ = some (.int .i64 0) := hg.cell 10;have z11 : w.cell? ⟨g, 11, none⟩ = some (.bool false) := hg.cell 11;have z12 : w.cell? ⟨g, 12, none⟩ = some (.int .i64 1) := hg.cell 12;have z13 : w.cell? ⟨g, 13, none⟩ = some (.int .i64 5) := hg.cell 13;have z14 : w.cell? ⟨g, 14, none⟩ = some (.int .i64 3) := hg.cell 14;have z15 : w.cell? ⟨g, 15, none⟩ = some (S dS) := hg.cell 15;have z16 : w.cell? ⟨g, 16, none⟩ = some (.int .i64 0) := hg.cell 16;have z17 : w.cell? ⟨g, 17, none⟩ = some (.slice none 0 0) := hg.cell 17;have z18 : w.cell? ⟨g, 18, none⟩ = some (.int .i64 0) := hg.cell 18;have z19 : w.cell? ⟨g, 19, none⟩ = some (.int .i64 0) := hg.cell 19;have z20 : w.cell? ⟨g, 20, none⟩ = some (.int .i64 0) := hg.cell 20;have z21 : w.cell? ⟨g, 21, none⟩ = some (.int .i64 0) := hg.cell 21;have z22 : w.cell? ⟨g, 22, none⟩ = some (.int .i64 0) := hg.cell 22;have z23 : w.cell? ⟨g, 23, none⟩ = some (.bool false) := hg.cell 23)
 go_enter Tryz.func20, Tryz.ntmps20
 go_wp2
 refine wp_loop_rounds 3 ?_
 rw [rounds_succ]
 go_wp2_with first
  | (go_at_call 8;go_must ((with_reducible refine (hP1 _).mono ?_);rintro r w2 ⟨v, rfl, hrow, hb2⟩))
  | (at_builtin;refine wpList_appAt rfl _ _ 26 rfl w.heap.size 5 (.int .u8 0) 1 1 Tryz.underlying26 (by kernel_rfl) rfl (by decide) _ _ _ rfl (World.ownsRow_nil _ _ _ _) w2.heap.size _ l1.length (l1.map B8) rfl (Rd.own hrow) (b8_one2 _) (by unfold maxLen;omega) (by omega) hb2.size ?_;intro a5 c5 w5 hown5 hg5 hat5)
 have hb5 : Below w.heap.size w w5 := hb2.trans ((but_grow hg5).below (fun k hk => by cases hk) hb2.size)
 simp only [Nat.zero_add, List.nil_append] at hown5
 rw [rounds_succ]
 refine wp_cut (R := fun X => X.ownsRow w.heap.size 5 1 (.slice a5 l1.length c5) l1.length (l1.map B8) ∧ Blk X g 34 #[.int .i64 1, .int .i64 5, .int .i64 1, S dS, .int .i64 0, .slice none 0 0, .int .i64 0, .int .i64 0, .int .i64 0, .int .i64 0, .int .i64 0, .bool false, .int .i64 1, .int .i64 5, .int .i64 3, S dS, .int .i64 0, .slice none 0 0, .int .i64 0, .int .i64 0, .int .i64 0, .int .i64 0, .int .i64 0, .bool false] ∧ Below w.heap.size w X) ⟨hown5, hg.on hb5, hb5⟩ ?_
 clear hown5 hb5 hrow hb2 hg5 hat5 z0 z1 z2 z3 z4 z5 z6 z7 z8 z9 z10 z11 z12 z13 z14 z15 z16 z17 z18 z19 z20 z21 z22 z23
 rintro X ⟨hownX, hgX, hbX⟩
 (have z0 : X.cell? ⟨g, 0, none⟩ = some (.int .i64 1) := hgX.cell 0;have z1 : X.cell? ⟨g, 1, none⟩ = some (.int .i64 5) := hgX.cell 1;have z2 : X.cell? ⟨g, 2, none⟩ = some (.int .i64 1) := hgX.cell 2;have z3 : X.cell? ⟨g, 3, none⟩ = some (S dS) := hgX.cell 3;have z4 : X.cell? ⟨g, 4, none⟩ = some (.int .i64 0) := hgX.cell 4;have z5 : X.cell? ⟨g, 5, none⟩ = some (.slice none 0 0) := hgX.cell 5;have z6 : X.cell? ⟨g, 6, none⟩ = some (.int .i64 0) := hgX.cell 6;have z7 : X.cell? ⟨g, 7, none⟩ = some (.int .i64 0) := hgX.cell 7;have z8 : X.cell? ⟨g, 8, none⟩ = some (.int .i64 0) := hgX.cell 8;have z9 : X.cell? ⟨g, 9, none⟩ = some (.int .i64 0) := hgX.cell 9;have z10 : X.cell? ⟨g, 10, none⟩ = some (.int .i64 0) := hgX.cell 10;have z11 : X.cell? ⟨g, 11, none⟩ = some (.bool false) := hgX.cell 11;have z12 : X.cell? ⟨g, 12, none⟩ = some (.int .i64 1) := hgX.cell 12;have z13 : X.cell? ⟨g, 13, none⟩ = some (.int .i64 5) := hgX.cell 13;have z14 : X.cell? ⟨g, 14, none⟩ = some (.int .i64 3) := hgX.cell 14;have z15 : X.cell? ⟨g, 15, none⟩ = some (S dS) := hgX.cell 15;have z16 : X.cell? ⟨g, 16, none⟩ = some (.int .i64 0) := hgX.cell 16;have z17 : X.cell? ⟨g, 17, none⟩ = some (.slice none 0 0) := hgX.cell 17;have z18 : X.cell? ⟨g, 18, none⟩ = some (.int .i64 0) := hgX.cell 18;have z19 : X.cell? ⟨g, 19, none⟩ = some (.int .i64 0) := hgX.cell 19;have z20 : X.cell? ⟨g, 20, none⟩ = some (.int .i64 0) := hgX.cell 20;have z21 : X.cell? ⟨g, 21, none⟩ = some (.int .i64 0) := hgX.cell 21;have z22 : X.cell? ⟨g, 22, none⟩ = some (.int .i64 0) := hgX.cell 22;have z23 : X.cell? ⟨g, 23, none⟩ = some (.bool false) := hgX.cell 23)
 go_wp2_with first
  | (go_at_call 8;go_must ((with_reducible refine (hP3 _).mono ?_);rintro r w6 ⟨v6, rfl, hrow6, hb6⟩;have hown6 := own_below hownX hb6))
  | (at_builtin;refine wpList_appAt rfl _ _ 26 rfl w.heap.size 5 (.int .u8 0) 1 1 Tryz.underlying26 (by kernel_rfl) rfl (by decide) _ _ _ rfl hown6 w6.heap.size _ l3.length (l3.map B8) rfl (Rd.own hrow6) (b8_one2 _) (by unfold maxLen;omega) (by omega) (Nat.le_trans hbX.size hb6.size) ?_;intro a7 c7 w7 hown7 hg7 hat7)
 rw [rounds_succ]
 go_wp2
 go_ret
 exact ⟨_, rfl, by simpa using hown7, (hbX.trans (hb6.mono hbX.size)).trans ((but_grow hg7).below (fun k hk => by exact (own_lt hown6 hk).1) (Nat.le_trans hbX.size hb6.size))⟩
end Go.Proofs.YtkeeofhjdffhbaaGreatDoor
namespace Go.Proofs.YtkeeofhjdffhbaaGreatDoor
open Go Go.RowKit Go.Dr
theorem tkW_0 : Tk 16384 1 5 2 dS { ty := 1, fl := 5, st := 2, data := dS } := tk_headS 2 (by decide) (by decide) dS (by decide) 5 (.inr rfl)
theorem byW_0 {g : Nat} (w : World) (hg : Blk w g 34 #[.int .i64 1, .int .i64 5, .int .i64 2, S dS, .int .i64 0, .slice none 0 0, .int .i64 0, .int .i64 0, .int .i64 0, .int .i64 0, .int .i64 0, .bool false]) : Calls Tryz.prog 20 #[.slice (some ⟨g, 0, none⟩) 1 1] w (OutC (frB 1 5 2 dS) w) :=
 Bytes_of (frB 1 5 2 dS) w hg (by rw [frB_length];omega) (by rw [frB_length];decide) (fun w1 => by rw [frB_length];exact put_HdS5 2 (by decide) dS (by decide) w1)
theorem tkW_1 : Tk 16384 0 0 5 [120] { ty := 0, st := 5, data := [120] } := ⟨by decide, by decide, by decide, by decide, by decide, by decide, by first | rfl | kernel_rfl, by decide, by decide⟩
theorem byW_1 {g : Nat} (w : World) (hg : Blk w g 34 #[.int .i64 0, .int .i64 0, .int .i64 5, S [120], .int .i64 0, .slice none 0 0, .int .i64 0, .int .i64 0, .int .i64 0, .int .i64 0, .int .i64 0, .bool false]) : Calls Tryz.prog 20 #[.slice (some ⟨g, 0, none⟩) 1 1] w (OutC (frB 0 0 5 [120]) w) :=
 Bytes_of (frB 0 0 5 [120]) w hg (by rw [frB_length];omega) (by rw [frB_length];decide) (fun w1 => by rw [frB_length];exact put_DatS 5 (by decide) [120] (by decide) w1)
theorem tkW_2 : Tk 16384 3 0 7 (beP 0 4) { ty := 3, st := 7 } := ⟨by decide, by decide, by decide, by decide, by decide, by decide, by first | rfl | kernel_rfl, by decide, by decide⟩
theorem byW_2 {g : Nat} (w : World) (hg : Blk w g 34 #[.int .i64 3, .int .i64 0, .int .i64 7, S [], .int .i64 0, .slice none 0 0, .int .i64 0, .int .i64 0, .int .i64 0, .int .i64 0, .int .i64 0, .bool false]) : Calls Tryz.prog 20 #[.slice (some ⟨g, 0, none⟩) 1 1] w (OutC (frB 3 0 7 (beP 0 4)) w) :=
 Bytes_of (frB 3 0 7 (beP 0 4)) w hg (by rw [frB_length];omega) (by rw [frB_length];decide) (fun w1 => by rw [frB_length];exact put_RstS 7 (by decide) w1)
theorem tkW_3 : Tk 16384 8 0 9 (beP 1 4) { ty := 8, st := 9, inc := 1 } := ⟨by decide, by decide, by decide, by decide, by decide, by decide, by first | rfl | kernel_rfl, by decide, by decide⟩
theorem byW_3 {g : Nat} (w : World) (hg : Blk w g 34 #[.int .i64 8, .int .i64 0, .int .i64 9, S [], .int .i64 0, .slice none 0 0, .int .i64 0, .int .i64 0, .int .i64 1, .int .i64 0, .int .i64 0, .bool false]) : Calls Tryz.prog 20 #[.slice (some ⟨g, 0, none⟩) 1 1] w (OutC (frB 8 0 9 (beP 1 4)) w) :=
 Bytes_of (frB 8 0 9 (beP 1 4)) w hg (by rw [frB_length];omega) (by rw [frB_length];decide) (fun w1 => by rw [frB_length];exact put_WinS 9 (by decide) 1 (by decide) w1)
theorem tkW_4 : Tk 16384 9 4 1 [] { ty := 9, fl := 4, st := 1 } := ⟨by decide, by decide, by decide, by decide, by decide, by decide, by first | rfl | kernel_rfl, by decide, by decide⟩
theorem byW_4 {g : Nat} (w : World) (hg : Blk w g 34 #[.int .i64 9, .int .i64 4, .int .i64 1, S [], .int .i64 0, .slice none 0 0, .int .i64 0, .int .i64 0, .int .i64 0, .int .i64 0, .int .i64 0, .bool false]) : Calls Tryz.prog 20 #[.slice (some ⟨g, 0, none⟩) 1 1] w (OutC (frB 9 4 1 []) w) :=
 Bytes_of (frB 9 4 1 []) w hg (by rw [frB_length];omega) (by rw [frB_length];decide) (fun w1 => by rw [frB_length];exact put_ConS 1 (by decide) w1)
theorem tkW_5 : Tk 16384 1 5 5 [128] { ty := 1, fl := 5, st := 5, data := [128] } := tk_headS 5 (by decide) (by decide) [128] (by decide) 5 (.inr rfl)
theorem byW_5 {g : Nat} (w : World) (hg : Blk w g 34 #[.int .i64 1, .int .i64 5, .int .i64 5, S [128], .int .i64 0, .slice none 0 0, .int .i64 0, .int .i64 0, .int .i64 0, .int .i64 0, .int .i64 0, .bool false]) : Calls Tryz.prog 20 #[.slice (some ⟨g, 0, none⟩) 1 1] w (OutC (frB 1 5 5 [128]) w) :=
 Bytes_of (frB 1 5 5 [128]) w hg (by rw [frB_length];omega) (by rw [frB_length];decide) (fun w1 => by rw [frB_length];exact put_HdS5 5 (by decide) [128] (by decide) w1)
theorem tkW_6 : Tk 16384 8 0 0 (beP 2147483647 4) { ty := 8, st := 0, inc := 2147483647 } := ⟨by decide, by decide, by decide, by decide, by decide, by decide, by first | rfl | kernel_rfl, by decide, by decide⟩
theorem byW_6 {g : Nat} (w : World) (hg : Blk w g 34 #[.int .i64 8, .int .i64 0, .int .i64 0, S [], .int .i64 0, .slice none 0 0, .int .i64 0, .int .i64 0, .int .i64 2147483647, .int .i64 0, .int .i64 0, .bool false]) : Calls Tryz.prog 20 #[.slice (some ⟨g, 0, none⟩) 1 1] w (OutC (frB 8 0 0 (beP 2147483647 4)) w) :=
 Bytes_of (frB 8 0 0 (beP 2147483647 4)) w hg (by rw [frB_length];omega) (by rw [frB_length];decide) (fun w1 => by rw [frB_length];exact put_WinS 0 (by decide) 2147483647 (by decide) w1)
theorem tkW_7 : Tk 16384 0 0 3 [120] { ty := 0, st := 3, data := [120] } := ⟨by decide, by decide, by decide, by decide, by decide, by decide, by first | rfl | kernel_rfl, by decide, by decide⟩
theorem byW_7 {g : Nat} (w : World) (hg : Blk w g 34 #[.int .i64 0, .int .i64 0, .int .i64 3, S [120], .int .i64 0, .slice none 0 0, .int .i64 0, .int .i64 0, .int .i64 0, .int .i64 0, .int .i64 0, .bool false]) : Calls Tryz.prog 20 #[.slice (some ⟨g, 0, none⟩) 1 1] w (OutC (frB 0 0 3 [120]) w) :=
 Bytes_of (frB 0 0 3 [120]) w hg (by rw [frB_length];omega) (by rw [frB_length];decide) (fun w1 => by rw [frB_length];exact put_DatS 3 (by decide) [120] (by decide) w1)
theorem tkW_8 : Tk 16384 0 0 1 [120] { ty := 0, st := 1, data := [120] } := ⟨by decide, by decide, by decide, by decide, by decide, by decide, by first | rfl | kernel_rfl, by decide, by decide⟩
theorem byW_8 {g : Nat} (w : World) (hg : Blk w g 34 #[.int .i64 0, .int .i64 0, .int .i64 1, S [120], .int .i64 0, .slice none 0 0, .int .i64 0, .int .i64 0, .int .i64 0, .int .i64 0, .int .i64 0, .bool false]) : Calls Tryz.prog 20 #[.slice (some ⟨g, 0, none⟩) 1 1] w (OutC (frB 0 0 1 [120]) w) :=
 Bytes_of (frB 0 0 1 [120]) w hg (by rw [frB_length];omega) (by rw [frB_length];decide) (fun w1 => by rw [frB_length];exact put_DatS 1 (by decide) [120] (by decide) w1)
theorem tkW_9 : Tk 16384 1 4 1 [130] { ty := 1, fl := 4, st := 1, data := [130] } := tk_headS 1 (by decide) (by decide) [130] (by decide) 4 (.inl rfl)
theorem byW_9 {g : Nat} (w : World) (hg : Blk w g 34 #[.int .i64 1, .int .i64 4, .int .i64 1, S [130], .int .i64 0, .slice none 0 0, .int .i64 0, .int .i64 0, .int .i64 0, .int .i64 0, .int .i64 0, .bool false]) : Calls Tryz.prog 20 #[.slice (some ⟨g, 0, none⟩) 1 1] w (OutC (frB 1 4 1 [130]) w) :=
 Bytes_of (frB 1 4 1 [130]) w hg (by rw [frB_length];omega) (by rw [frB_length];decide) (fun w1 => by rw [frB_length];exact put_HdS4 1 (by decide) [130] (by decide) w1)
end Go.Proofs.YtkeeofhjdffhbaaGreatDoor
namespace Go.Proofs.YtkeeofhjdffhbaaGreatDoor
open Go Go.RowKit Go.Dr
variable {n : Nm}
theorem TakeW_0 {F : Nat → Prop} (w : World) (h : Cw w n qwo F) (vb : Value) (hb : By w.heap.size w vb (frB 1 5 2 dS)) : Calls Tryz.prog 19 #[Ptr n.c, vb] w fun e w' => ∃ v j, e = .returned v ∧ w'.ownsRow n.B 84 10 v j qz0.news ∧ Goes w n F w' qz0 :=
 Take_one tkW_0 w h rfl rfl vb hb qz0 (fun w1 F1 sa sc h1 _ => Bad_0 w1 h1)
theorem newsW_0 : qz0.news = overN 1 := rfl
theorem bytesW_0 : qz0.bytes = awayB 3 1 := rfl
theorem TakeW_1 {F : Nat → Prop} (w : World) (h : Cw w n qwo F) (vb : Value) (hb : By w.heap.size w vb (frB 0 0 5 [120])) : Calls Tryz.prog 19 #[Ptr n.c, vb] w fun e w' => ∃ v j, e = .returned v ∧ w'.ownsRow n.B 84 10 v j qz1.news ∧ Goes w n F w' qz1 :=
 Take_one tkW_1 w h rfl rfl vb hb qz1 (fun w1 F1 sa sc h1 _ => Bad_1 w1 h1)
theorem newsW_1 : qz1.news = overN 1 := rfl
theorem bytesW_1 : qz1.bytes = awayB 3 1 := rfl
theorem TakeW_2 {F : Nat → Prop} (w : World) (h : Cw w n qwo F) (vb : Value) (hb : By w.heap.size w vb (frB 3 0 7 (beP 0 4))) : Calls Tryz.prog 19 #[Ptr n.c, vb] w fun e w' => ∃ v j, e = .returned v ∧ w'.ownsRow n.B 84 10 v j qz2.news ∧ Goes w n F w' qz2 :=
 Take_one tkW_2 w h rfl rfl vb hb qz2 (fun w1 F1 sa sc h1 _ => Bad_2 w1 h1)
theorem newsW_2 : qz2.news = overN 1 := rfl
theorem bytesW_2 : qz2.bytes = awayB 3 1 := rfl
theorem TakeW_3 {F : Nat → Prop} (w : World) (h : Cw w n qwo F) (vb : Value) (hb : By w.heap.size w vb (frB 8 0 9 (beP 1 4))) : Calls Tryz.prog 19 #[Ptr n.c, vb] w fun e w' => ∃ v j, e = .returned v ∧ w'.ownsRow n.B 84 10 v j qz3.news ∧ Goes w n F w' qz3 :=
 Take_one tkW_3 w h rfl rfl vb hb qz3 (fun w1 F1 sa sc h1 _ => Bad_3 w1 h1)
theorem newsW_3 : qz3.news = overN 1 := rfl
theorem bytesW_3 : qz3.bytes = awayB 3 1 := rfl
theorem TakeW_4 {F : Nat → Prop} (w : World) (h : Cw w n qwo F) (vb : Value) (hb : By w.heap.size w vb (frB 9 4 1 [])) : Calls Tryz.prog 19 #[Ptr n.c, vb] w fun e w' => ∃ v j, e = .returned v ∧ w'.ownsRow n.B 84 10 v j qz4.news ∧ Goes w n F w' qz4 :=
 Take_one tkW_4 w h rfl rfl vb hb qz4 (fun w1 F1 sa sc h1 _ => Bad_4 w1 h1)
theorem newsW_4 : qz4.news = overN 1 := rfl
theorem bytesW_4 : qz4.bytes = awayB 3 1 := rfl
theorem TakeW_5 {F : Nat → Prop} (w : World) (h : Cw w n qwo F) (vb : Value) (hb : By w.heap.size w vb (frB 1 5 5 [128])) : Calls Tryz.prog 19 #[Ptr n.c, vb] w fun e w' => ∃ v j, e = .returned v ∧ w'.ownsRow n.B 84 10 v j qz5.news ∧ Goes w n F w' qz5 :=
 Take_one tkW_5 w h rfl rfl vb hb qz5 (fun w1 F1 sa sc h1 _ => Bad_5 w1 h1)
theorem newsW_5 : qz5.news = overN 9 := rfl
theorem bytesW_5 : qz5.bytes = awayB 3 9 := rfl
theorem TakeW_6 {F : Nat → Prop} (w : World) (h : Cw w n qwo F) (vb : Value) (hb : By w.heap.size w vb (frB 8 0 0 (beP 2147483647 4))) : Calls Tryz.prog 19 #[Ptr n.c, vb] w fun e w' => ∃ v j, e = .returned v ∧ w'.ownsRow n.B 84 10 v j qz6.news ∧ Goes w n F w' qz6 :=
 Take_one tkW_6 w h rfl rfl vb hb qz6 (fun w1 F1 sa sc h1 _ => Bad_6 w1 h1)
theorem newsW_6 : qz6.news = overN 3 := rfl
theorem bytesW_6 : qz6.bytes = awayB 3 3 := rfl
theorem TakeW_7 {F : Nat → Prop} (w : World) (h : Cw w n qwo F) (vb : Value) (hb : By w.heap.size w vb (frB 0 0 3 [120])) : Calls Tryz.prog 19 #[Ptr n.c, vb] w fun e w' => ∃ v j, e = .returned v ∧ w'.ownsRow n.B 84 10 v j qz7.news ∧ Goes w n F w' qz7 :=
 Take_one tkW_7 w h rfl rfl vb hb qz7 (fun w1 F1 sa sc h1 _ => Bad_7 w1 h1)
theorem newsW_7 : qz7.news = overN 5 := rfl
theorem bytesW_7 : qz7.bytes = awayB 3 5 := rfl
theorem TakeW_8 {F : Nat → Prop} (w : World) (h : Cw w n qwo F) (vb : Value) (hb : By w.heap.size w vb (frB 0 0 1 [120])) : Calls Tryz.prog 19 #[Ptr n.c, vb] w fun e w' => ∃ v j, e = .returned v ∧ w'.ownsRow n.B 84 10 v j qz8.news ∧ Goes w n F w' qz8 :=
 Take_one tkW_8 w h rfl rfl vb hb qz8 (fun w1 F1 sa sc h1 _ => Bad_8 w1 h1)
theorem newsW_8 : qz8.news = dropN 1 5 := rfl
theorem bytesW_8 : qz8.bytes = frB 8 0 0 (beP ([120] : Bytes).length 4) ++ frB 3 0 1 (beP 5 4) := rfl
theorem TakeW_9 {F : Nat → Prop} (w : World) (h : Cw w n qwo F) (vb : Value) (hb : By w.heap.size w vb (frB 1 4 1 [130])) : Calls Tryz.prog 19 #[Ptr n.c, vb] w fun e w' => ∃ v j, e = .returned v ∧ w'.ownsRow n.B 84 10 v j qz9.news ∧ Goes w n F w' qz9 :=
 Take_one tkW_9 w h rfl rfl vb hb qz9 (fun w1 F1 sa sc h1 _ => Bad_9 w1 h1)
theorem newsW_9 : qz9.news = dropN 1 5 := rfl
theorem bytesW_9 : qz9.bytes = frB 3 0 1 (beP 5 4) := rfl
end Go.Proofs.YtkeeofhjdffhbaaGreatDoor
namespace Go.Proofs.YtkeeofhjdffhbaaGreatDoor
open Go Go.RowKit Go.Dr
variable {n : Nm} {q q' : Cq}
abbrev badC : List Value := [.int .i64 1, .int .i64 5, .int .i64 2, S dS, .int .i64 0, .slice none 0 0, .int .i64 0, .int .i64 0, .int .i64 0, .int .i64 0, .int .i64 0, .bool false, .int .i64 0, .int .i64 0, .int .i64 5, S [120], .int .i64 0, .slice none 0 0, .int .i64 0, .int .i64 0, .int .i64 0, .int .i64 0, .int .i64 0, .bool false, .int .i64 3, .int .i64 0, .int .i64 7, S [], .int .i64 0, .slice none 0 0, .int .i64 0, .int .i64 0, .int .i64 0, .int .i64 0, .int .i64 0, .bool false, .int .i64 8, .int .i64 0, .int .i64 9, S [], .int .i64 0, .slice none 0 0, .int .i64 0, .int .i64 0, .int .i64 1, .int .i64 0, .int .i64 0, .bool false, .int .i64 9, .int .i64 4, .int .i64 1, S [], .int .i64 0, .slice none 0 0, .int .i64 0, .int .i64 0, .int .i64 0, .int .i64 0, .int .i64 0, .bool false, .int .i64 1, .int .i64 5, .int .i64 5, S [128], .int .i64 0, .slice none 0 0, .int .i64 0, .int .i64 0, .int .i64 0, .int .i64 0, .int .i64 0, .bool false, .int .i64 8, .int .i64 0, .int .i64 0, S [], .int .i64 0, .slice none 0 0, .int .i64 0, .int .i64 0, .int .i64 2147483647, .int .i64 0, .int .i64 0, .bool false, .int .i64 0, .int .i64 0, .int .i64 3, S [120], .int .i64 0, .slice none 0 0, .int .i64 0, .int .i64 0, .int .i64 0, .int .i64 0, .int .i64 0, .bool false, .int .i64 0, .int .i64 0, .int .i64 1, S [120], .int .i64 0, .slice none 0 0, .int .i64 0, .int .i64 0, .int .i64 0, .int .i64 0, .int .i64 0, .bool false, .int .i64 1, .int .i64 4, .int .i64 1, S [130], .int .i64 0, .slice none 0 0, .int .i64 0, .int .i64 0, .int .i64 0, .int .i64 0, .int .i64 0, .bool false]
abbrev codeC : List Value := [.int .i64 1, .int .i64 1, .int .i64 1, .int .i64 1, .int .i64 1, .int .i64 9, .int .i64 3, .int .i64 5, .int .i64 5, .int .i64 5]
/-- the law's two lists lie at these blocks -/
def Lists (w : World) (bd : Nat) : Prop := Blk w bd 34 badC.toArray ∧ Blk w (bd + 1) 2 codeC.toArray
theorem Lists.on {w w' : World} {bd : Nat} (h : Lists w bd) (hb : Below w.heap.size w w') : Lists w' bd := ⟨h.1.on hb, h.2.on hb⟩
theorem Lists.lt {w : World} {bd : Nat} (h : Lists w bd) : bd + 1 < w.heap.size := h.2.lt
/-- what stands behind a step of the connection -/
theorem goes_all {w0 w w' : World} {F : Nat → Prop} {bd : Nat} (hC : Cw w n q F) (hL : Lists w bd) (hb : Below w0.heap.size w0 w) (hz : n.B ≤ w.heap.size) (hB : w0.heap.size ≤ n.B) (hl : bd + 1 < n.B) (hG : Goes w n F w' q') : ∃ F', Cw w' n q' F' ∧ Lists w' bd ∧ Below w0.heap.size w0 w' ∧ n.B ≤ w'.heap.size := by
 have h := hG.below hC hz
 obtain ⟨F', hC', -⟩ := hG
 exact ⟨F', hC', ⟨hL.1.below h (by omega), hL.2.below h hl⟩, hb.trans (h.mono hB), Nat.le_trans hz h.size⟩
theorem on_all {w0 w w' : World} {F : Nat → Prop} {bd : Nat} (hC : Cw w n q F) (hL : Lists w bd) (hb : Below w0.heap.size w0 w) (hz : n.B ≤ w.heap.size) (h : Below w.heap.size w w') : Cw w' n q F ∧ Lists w' bd ∧ Below w0.heap.size w0 w' ∧ n.B ≤ w'.heap.size := ⟨hC.on h, hL.on h, hb.trans (h.mono hb.size), Nat.le_trans hz h.size⟩
theorem byThree {w : World} {base : Nat} {v : Value} {l1 l2 : Bytes} (h : w.ownsRow base 5 1 v (l1.length + l2.length) (l1.map B8 ++ l2.map B8)) (e1 : l1 = helloB) (e2 : l2 = frB 1 5 1 dS ++ frB 1 5 3 dS) : By w.heap.size w v (prefB ++ (frB 4 0 0 [] ++ (frB 1 5 1 dS ++ frB 1 5 3 dS))) := by
 refine own_by (base := base) ?_
 have e : prefB ++ (frB 4 0 0 [] ++ (frB 1 5 1 dS ++ frB 1 5 3 dS)) = l1 ++ l2 := by rw [e1, e2, List.append_assoc]
 rw [e, List.length_append, List.map_append]
 exact h
theorem two_len : (frB 1 5 1 dS ++ frB 1 5 3 dS).length ≤ 100 := by rw [List.length_append, frB_length, frB_length];decide
theorem hello_len : helloB.length ≤ 100 := by decide
theorem Lists.drew {w : World} {bd : Nat} (h : Lists w bd) : Lists w.drew bd := ⟨h.1.drew, h.2.drew⟩
set_option maxRecDepth 100000 in
set_option maxHeartbeats 4000000 in
/-- what went is taken;what was told stays -/
theorem Out_at {F : Nat → Prop} {base size k : Nat} {vn : Value} {xs : List Value} (w : World) (h : Cw w n q F) (ho : w.ownsRow base 84 size vn k xs) : Calls Tryz.prog 26 #[Ptr n.c] w fun e w' => ∃ v, e = .returned v ∧ w'.ownsRow n.B 5 1 v q.bytes.length (q.bytes.map B8) ∧ w'.ownsRow base 84 size vn k xs ∧ Goes w n F w' { q with bytes := [] } := by
 obtain ⟨m, hx, rfl⟩ := h
 have y20 : w.cell? ⟨n.c, 20, none⟩ = some m.bv := hx.blk.cell 20
 have v20 := hx.blk.free 20
 obtain ⟨hxW, gW⟩ := hx.goesY
 go_enter Tryz.func26, Tryz.ntmps26
 go_wp2
 go_ret
 obtain ⟨kc, -, -, -, -, -, -, -, -, -, -, -, -, -, kbv, knv, kcv, ksd⟩ := hx.kinds
 refine ⟨m.bv, rfl, own_same hx.bytes fun g hg => ?_, own_same ho fun g hg => ?_, gW.goes⟩
 ·have := kbv g hg
  exact Below.heap_setCell _ _ _ _ (fun e => by rw [e] at this;have e2 : kd w n.c = _ := this;omega)
 ·have h1 := kd_own ho hg
  have h2 := kd_blk hx.blk
  exact Below.heap_setCell _ _ _ _ (fun e => by rw [e] at h1;have e2 : kd w n.c = _ := h1;rw [h2] at e2;exact absurd e2 (by decide))
theorem news0 {w : World} {B g c : Nat} {u : Value} {l : List Value} (h : w.ownsRow B 84 10 (.slice (some ⟨g, 0, none⟩) 1 c) 1 (u :: l)) : w.cell? ⟨g, 0, none⟩ = some u := by
 obtain ⟨g', e, hc⟩ := row_cell h (by decide)
 obtain rfl : g = g' := by simpa using e
 exact hc 0 _ rfl
theorem blk_stays {w w' : World} {F : Nat → Prop} {q q' : Cq} {b : Nat} {xs : Array Value} (hC : Cw w n q F) (h : Blk w b 34 xs) (hG : Goes w n F w' q') : Blk w' b 34 xs := by
 obtain ⟨F1, -, hb, -⟩ := hG
 refine h.block (hb.block b h.lt fun hF => ?_)
 have h1 := kd_blk h
 rcases hC.sort hF with e | e | e | e | e | e | e | e | e | e | e <;> (rw [h1] at e;exact absurd e (by decide))
theorem its_two {its : List Itm} {f1 f2 : Fr} {x1 x2 : Ft} (h : its.map (fun i => (Itm.f i, Itm.x i)) = [(f1, x1), (f2, x2)]) : ∃ v1 v2, its = [⟨f1, x1, v1⟩, ⟨f2, x2, v2⟩] := by
 match its, h with
 | [⟨f', x', vs⟩, ⟨f'', x'', vs'⟩], h =>
  simp only [List.map_cons, List.map_nil, List.cons.injEq, Prod.mk.injEq, and_true] at h
  obtain ⟨⟨rfl, rfl⟩, rfl, rfl⟩ := h
  exact ⟨vs, vs', rfl⟩
end Go.Proofs.YtkeeofhjdffhbaaGreatDoor
