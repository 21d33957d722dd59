/- Parts of the proof of pt_root: the texts Law24f. -/
import Derived.Test.YtkeeofhjdffhbaaGreatDoorT48
set_option linter.unusedSimpArgs false
set_option linter.unusedVariables false
set_option linter.unnecessarySimpa false
namespace Go.Proofs.YtkeeofhjdffhbaaGreatDoor
open Go.RowKit Go.Dr
set_option maxRecDepth 100000 in
set_option maxHeartbeats 8000000 in
theorem tells_yes (body : Bytes) (room : Nat) (s : Int) (hk : Hid (s.tmod 4 = 0 ∨ s.tmod 4 = 1 ∨ s.tmod 4 = 2 ∨ s.tmod 4 = 3)) (h1 : 1 ≤ body.length) (h2 : body.length ≤ 16000) (h3 : body.length ≤ room) (h4 : room < 65536) (w : World) :
  Calls Tryz.prog 3 #[S body, .int .u16 (room : Int), .int .u8 s] w fun e w' => e = .returned (.bool true) ∧ Below w.heap.size w w' := by
 have hA := awake24_any w
 have hL10 : 0 < (frB 4 0 0 (beP 4 2 ++ beP room 4)).length := by rw [frB_length];omega
 have hL1 : (frB 4 0 0 (beP 4 2 ++ beP room 4)).length ≤ 15 := by rw [frB_length];exact Nat.le_refl _
 have hL2 : (frB 1 5 1 [130]).length ≤ 10 := by rw [frB_length];exact Nat.le_refl _
 have hM1 : (frB 4 0 0 []).length ≤ 9 := by rw [frB_length];exact Nat.le_refl _
 have hM2 : (frB 1 4 1 blkAb).length ≤ 15 := by rw [frB_length];exact Nat.le_refl _
 have hM3 : (frB 0 0 1 body).length ≤ 16400 := by rw [frB_length];omega
 have hd1 : decide ((body.length : Int) < 1) = false := by simp;omega
 have hd2 : decide ((16000 : Int) < (body.length : Int)) = false := by simp;omega
 have hd3 : decide (room < body.length) = false := by simp;omega
 have hd4 : ¬ room < body.length := by omega
 have hbl : body.length ≤ 16384 := by omega
 have hwr : IntKind.i64.wrap (room : Int) = (room : Int) := IntWalk.i64_in _ (by omega)
 have hroom : room < 4294967296 := by omega
 have hroom2 : room < 2147483648 := by omega
 have H1 := Lib.hid h1
 have H3 := Lib.hid h3
 have H4 := Lib.hid h4
 clear h1 h2 h3 h4
 go_enter Tryz.func3, Tryz.ntmps3
 go_upto_region 6 with first
  | (go_at_call 6;(with_reducible refine hA.mono ?_);rintro e w1 ⟨rfl, hb1⟩;clear hA)
  | (go_at_call 7;(with_reducible refine (PeerNew_tab _).mono ?_);rintro e w2 ⟨p, fo, fi, o, d, m, t, rfl, hb2, hP2, n1, n2, n3, n4, n5, hT2, nt, t1, t2, t3, t4, t5⟩)
 have hsz2 := hb2.size
 have hPut := put_Set1 w2.heap.size room hroom (w2.alloc (.cells #[.int .i64 4, .int .i64 (room : Int)] 31)) (Blk.new w2 31 #[.int .i64 4, .int .i64 (room : Int)])
 have hba : Below w2.heap.size w2 (w2.alloc (.cells #[.int .i64 4, .int .i64 (room : Int)] 31)) := (Below.refl _ _).alloc (Nat.le_refl _) _
 obtain ⟨W2, eW2⟩ : ∃ W2, W2 = w2.alloc (.cells #[.int .i64 4, .int .i64 (room : Int)] 31) := ⟨_, rfl⟩
 rw [← eW2] at hPut hba
 go_upto_region 7 with (go_at_call 8;go_must (rw [← eW2];refine hPut.mono ?_);rintro e w3 ⟨v3, rfl, hr3, hb3⟩;replace hr3 : w3.ownsRow W2.heap.size 5 1 v3 (frB 4 0 0 (beP 4 2 ++ beP room 4)).length ((frB 4 0 0 (beP 4 2 ++ beP room 4)).map B8) := hr3;obtain ⟨a3, c3, rfl⟩ := own_form hr3)
 have hw3 : Below w2.heap.size w2 w3 := hba.trans (hb3.mono hba.size)
 clear eW2 hPut
 have hba3 : Below w3.heap.size w3 (w3.alloc (.cells prefC 5 (24, 25))) := (Below.refl _ _).alloc (Nat.le_refl _) _
 have hpc := pre_cells w3 (w3.alloc (.cells prefC 5 (24, 25))) (Below.refl _ _)
 have hr3 := own_below hr3 hba3
 obtain ⟨W3, eW3⟩ : ∃ W3, W3 = w3.alloc (.cells prefC 5 (24, 25)) := ⟨_, rfl⟩
 rw [← eW3] at hpc hr3 hba3
 have hw3' := hw3.trans (hba3.mono hw3.size)
 have kc := fun (w : World) (C : Array Value) (n c : Nat) => Lib.run_convert_bytes_const (P := Tryz.prog) w 26 5 C n c Tryz.underlying26 Tryz.underlying5
 go_upto_region 8 with first
  | (go_at_call 10;(with_reducible refine (bytes_Hd5 [130] (by decide) _).mono ?_);rintro e w5 ⟨v5, rfl, hr5, hb5⟩;obtain ⟨a5, c5, rfl⟩ := own_form hr5;have hr4 := own_below hr4 hb5;have hw5 := hb4.trans (hb5.mono hb4.size);have hz5 := hw5.size)
  | (at_builtin;refine wpList_appRd rfl _ _ 26 rfl W3.heap.size 5 (.int .u8 0) 1 1 Tryz.underlying26 (by kernel_rfl) rfl (by decide) _ _ _ rfl hr4 _ _ _ _ rfl (Rd.own hr5) (b8_one2 _) (by unfold maxLen;omega) (by omega) hz5 ?_;intro a6 c6 w6 hr6 hb6;have hw6 := hw3'.trans ((hw5.trans hb6).mono hw3'.size);have hP6 := hP2.on hw6;have hB6 := by_pref hr6;have hS6 := Sent_hello room hroom2 [130] (by decide) _ w6 hP6 hB6)
  | (at_builtin;rw [← eW3];refine wpList_appFull rfl _ _ 26 rfl W3.heap.size 5 (.int .u8 0) 1 1 Tryz.underlying26 (by kernel_rfl) rfl ⟨w3.heap.size, 0, none⟩ 24 prefC.toList rfl rfl hpc _ _ _ _ rfl (Rd.own hr3) hL10 (by unfold maxLen;omega) (by omega) (Nat.le_refl _) ?_;intro a4 c4 w4 hr4 hb4)
  | (go_at_call 9;(with_reducible refine hS6.mono ?_);rintro e w7 ⟨rfl, hb7, sb, hs7, hP7⟩)
 have n1' : w.heap.size ≤ p := Nat.le_trans hb1.size n1
 have n2' : w.heap.size ≤ fo := Nat.le_trans hb1.size n2
 have n3' : w.heap.size ≤ fi := Nat.le_trans hb1.size n3
 have n4' : w.heap.size ≤ o := Nat.le_trans hb1.size n4
 have n5' : w.heap.size ≤ m := Nat.le_trans hb1.size n5
 have hT7 : Tbl0 w7 t := (hT2.on hw6).but hb7 fun g hg => by rcases hg with e | e | e | e <;> omega
 have hw26 : Below w.heap.size w w6 := (hb1.trans (hb2.mono hb1.size)).trans (hw6.mono (Nat.le_trans hb1.size hsz2))
 have hw7 : Below w.heap.size w w7 := hw26.trans (hb7.below (fun k hk => by rcases hk with e | e | e | e <;> omega) hw26.size)
 have hsB : w.heap.size ≤ sb := Nat.le_trans hw26.size hs7
 have hP7 := Pz.of_pw hP7 rfl hT7 nt t4 t5
 have q1 : w.heap.size ≤ t - 2 := by omega
 have q2 : w.heap.size ≤ t - 1 := by omega
 have q3 : w.heap.size ≤ t := by omega
 have hin : ∀ {a b : World}, Below w.heap.size w a → But (fun g => g = p ∨ g = o ∨ g = sb ∨ g = fi ∨ (g = t ∨ g = t - 2 ∨ g = t - 1)) a b → Below w.heap.size w b := fun h hb => h.trans (hb.below (fun k hk => by rcases hk with e | e | e | e | e | e | e <;> (have e' : k = _ := e;rw [e'];assumption)) h.size)
 have hin0 : ∀ {a b : World}, Below w.heap.size w a → But (fun g => g = p ∨ g = o ∨ g = sb ∨ g = fi ∨ False) a b → Below w.heap.size w b := fun h hb => h.trans (hb.below (fun k hk => by rcases hk with e | e | e | e | e <;> first | exact e.elim | (have e' : k = _ := e;rw [e'];assumption)) h.size)
 clear hS6 hB6 hr6 hP6 hb6 hw6 hr5 hr4 hw5 hb5 hb4 hr3 hpc hb3 hP2 hb7 hT7 hT2 hw26 hw3' hba3 hw3 hba kc eW3 hb2 hsz2 n1 n2 n3 n4 n5 t1 t2 t3 t4 t5 hb1 hz5 hs7 hL10 hL1 hL2
 go_upto_region 9 with (go_at_call 11;(with_reducible refine (rNewEnc _).mono ?_);rintro e w8 ⟨rfl, hE8, hb8⟩)
 have hz8 : w7.heap.size < w8.heap.size := hE8.lt
 have hEn := rEncode_ab (w8.alloc (.cells two8 41)) (hE8.alloc _) (Blk.new w8 41 two8) (by omega)
 obtain ⟨W8, eW8⟩ : ∃ W8, W8 = w8.alloc (.cells two8 41) := ⟨_, rfl⟩
 have hw78 : Below w7.heap.size w7 W8 := by rw [eW8];exact hb8.alloc hb8.size _
 rw [← eW8] at hEn
 go_upto_region 10 with first
  | (go_at_call 12;go_must (rw [← eW8];refine hEn.mono ?_);rintro e w9 ⟨v9, rfl, hr9, hb9⟩;have hT9 := (show By w9.heap.size w9 v9 blkAb from Rd.own hr9).text (P := Tryz.prog) 26 9 5 Tryz.underlying26 (by kernel_rfl) Tryz.underlying9;obtain ⟨a9, c9, rfl⟩ := own_form hr9;have hw9 : Below w7.heap.size w7 w9 := hw78.trans (hb9.below (fun k hk => by have e : k = w7.heap.size := hk;omega) hw78.size))
 have hP9 := hP7.on hw9
 have hw9 := hw7.trans (hw9.mono hw7.size)
 clear hEn hb9 hr9 hT9 eW8 hw78 hb8 hE8 hz8 hP7 hw7
 go_upto_region 13 with first
  | (go_at_call 13;go_must (refine hG.mono ?_);rintro e w16 ⟨rfl, hb16, hP16⟩;have hw16 := hin (hw9.trans (hw15.mono hw9.size)) hb16)
  | (at_builtin;have tok := hr14;refine wpList_appRd rfl _ _ 26 rfl w9.heap.size 5 (.int .u8 0) 1 1 Tryz.underlying26 (by kernel_rfl) rfl (by decide) _ _ _ rfl hr13 _ _ _ _ rfl (Rd.own hr14) (b8_one2 _) (by unfold maxLen;omega) (by omega) hw14.size ?_;intro a15 c15 w15 hr15 hb15;have hw15 := hw14.trans hb15;have hG := Got_tells (q := ⟨65535, room, 1, 0, true, false, [], false, 2147483647, false, 0⟩) hbl rfl rfl rfl rfl (by show (body.length : Int) ≤ 65535;omega) (by have := H3.out;show (body.length : Int) = 0 ∨ (body.length : Int) ≤ (room : Int) + 0;omega) (by show (65535 : Int) < 4294967296;omega) (by show (0 : Int) ≤ (room : Int);omega) (by show (room : Int) < 4294967296;omega) (by show (-4294967296 : Int) < 0;omega) (by show (0 : Int) < 4294967296;omega) _ w15 (hP9.on hw15) (by_app3 hr15))
  | (go_at_call 10;have tok := hr13;(with_reducible refine (bytes_Dat0 body hbl _).mono ?_);rintro e w14 ⟨v14, rfl, hr14, hb14⟩;obtain ⟨a14, c14, rfl⟩ := own_form hr14;have hr13 := own_below hr13 hb14;have hw14 := hw13.trans (hb14.mono hw13.size))
  | (at_builtin;have tok := hr12;refine wpList_appRd rfl _ _ 26 rfl w9.heap.size 5 (.int .u8 0) 1 1 Tryz.underlying26 (by kernel_rfl) rfl (by decide) _ _ _ rfl hr11 _ _ _ _ rfl (Rd.own hr12) (b8_one2 _) (by unfold maxLen;omega) (by omega) hw12.size ?_;intro a13 c13 w13 hr13 hb13;have hw13 := hw12.trans hb13)
  | (go_at_call 10;have tok := hr11;(with_reducible refine (bytes_Hd4 blkAb (by decide) _).mono ?_);rintro e w12 ⟨v12, rfl, hr12, hb12⟩;obtain ⟨a12, c12, rfl⟩ := own_form hr12;have hr11 := own_below hr11 hb12;have hw12 := hb11.trans (hb12.mono hb11.size))
  | (go_at_call 10;(with_reducible refine (bytes_Set0 _).mono ?_);rintro e w11 ⟨v11, rfl, hr11, hb11⟩;obtain ⟨a11, c11, rfl⟩ := own_form hr11)
 clear hG hb16 hr15 hb15 hw15 hr14 hb14 hw14 hr13 hb13 hw13 hr12 hb12 hw12 hr11 hb11 hw9 hP9 hin hM1 hM2 hM3
 go_upto_region 14 with (go_at_call 14;go_must (refine (Answers_one w16 hP16 rfl).mono ?_);rintro e w17 ⟨⟨g, cg, af, cf, rfl, z1, z2, z3, z4⟩, hb17⟩)
 replace z3 : w17.cell? ⟨g, 3, none⟩ = some (S body) := z3
 replace z4 : w17.cell? ⟨g, 4, none⟩ = some (.bool false) := z4
 have hP17 := hP16.on hb17
 have hw17 := hw16.trans (hb17.mono hw16.size)
 go_upto_region 16 with fail
 clear z1 z2 z3 z4 hb17 hP16 hw16
 replace hP17 : Pz w17 p fo fi o d m t sb (t - 2) (t - 1) ⟨65535 - body.length, room, 1, 0 - body.length, false, true, body, false, 2147483647, false, 0⟩ := hP17
 clear hd1 hd2 hd3 hd4 hwr n1' n2' n3' n4' n5' q1 q2 q3 nt hsB
 rcases hk.out with hs | hs | hs | hs
 ·obtain ⟨n, hn⟩ : ∃ n, n = room - body.length + 1 := ⟨_, rfl⟩
  have h1 := H1.out
  have h3 := H3.out
  have h4 := H4.out
  have hnn : n ≤ 65536 := by omega
  have hn0 : 0 < n := by omega
  have hni : (n : Int) = (room : Int) - (body.length : Int) + 1 := by omega
  have hwr : IntKind.i64.wrap (room : Int) = (room : Int) := IntWalk.i64_in _ (by omega)
  have hw1 : IntKind.i64.wrap ((room : Int) - (body.length : Int)) = (room : Int) - (body.length : Int) := IntWalk.i64_in _ (by omega)
  have hw2 : IntKind.i64.wrap ((room : Int) - (body.length : Int) + 1) = (room : Int) - (body.length : Int) + 1 := IntWalk.i64_in _ (by omega)
  have hln : (List.replicate n (0 : UInt8)).length = n := List.length_replicate
  obtain ⟨w18, hM, hC, hb18⟩ := mk_noughts n hnn w17
  have hP18 := hP17.on hb18
  have hw18 := hw17.trans (hb18.mono hw17.size)
  rw [hni] at hM
  have hab : n ≤ 16384 → ∀ vb w', Pz w' p fo fi o d m t sb (t - 2) (t - 1) ⟨65535 - body.length, room, 1, 0 - body.length, false, true, body, false, 2147483647, false, 0⟩ → By w'.heap.size w' vb (frB 0 0 1 (List.replicate n 0)) → Calls Tryz.prog 13 #[Ptr p, vb] w' fun e w2 => e = .returned (.int .i64 243) ∧ But (fun g => g = p ∨ g = o ∨ g = sb ∨ g = fi ∨ False) w' w2 := fun hle vb w' hP hB =>
   Got_above (by rw [hln];exact hle) (by rw [hln];exact hn0) rfl rfl rfl rfl rfl (.inr (by rw [hln];show (room : Int) + (0 - body.length) < n;omega)) (by show (0 : Int) ≤ room;omega) (by show (room : Int) < 4294967296;omega) (by show (-4294967296 : Int) < 0 - body.length;omega) (by show (0 - body.length : Int) < 4294967296;omega) vb w' hP hB
  have hHN := Lib.hid hni
  clear hni hn h1 h3 h4 hwr
  have hwr : IntKind.i64.wrap (room : Int) = (room : Int) := IntWalk.i64_in _ (by have := H4.out;omega)
  by_cases hlong : 16384 < n
  ·have hd5 : decide (16384 < n) = true := decide_eq_true hlong
   have hd6 : decide ((16384 : Int) < (n : Int)) = true := by simp;omega
   go_wp2_with first
    | (go_at_call 13;go_must (refine (Got_long (by rw [hln];exact hlong) (by rw [hln];omega) rfl rfl _ w19 (hP18.on hb19) (Rd.own hr19)).mono ?_);rintro e w20 ⟨rfl, hb20⟩)
    | (go_at_call 10;go_must ((with_reducible refine (bytes_DatL (List.replicate n 0) (by rw [hln];exact hnn) _).mono ?_);rintro e w19 ⟨v19, rfl, hr19, hb19⟩;obtain ⟨a19, c19, rfl⟩ := own_form hr19))
   go_ret
   exact ⟨rfl, hin0 (hw18.trans (hb19.mono hw18.size)) hb20⟩
  ·have hd5 : decide (16384 < n) = false := decide_eq_false hlong
   have hd6 : decide ((16384 : Int) < (n : Int)) = false := by simp;omega
   have hab := hab (Nat.le_of_not_lt hlong)
   go_wp2_with first
    | (go_at_call 13;go_must (refine (hab _ w19 (hP18.on hb19) (Rd.own hr19)).mono ?_);rintro e w20 ⟨rfl, hb20⟩)
    | (go_at_call 10;go_must ((with_reducible refine (bytes_DatL (List.replicate n 0) (by rw [hln];exact hnn) _).mono ?_);rintro e w19 ⟨v19, rfl, hr19, hb19⟩;obtain ⟨a19, c19, rfl⟩ := own_form hr19))
   go_ret
   exact ⟨rfl, hin0 (hw18.trans (hb19.mono hw18.size)) hb20⟩
 ·have hG1 : ∀ vb w', Pz w' p fo fi o d m t sb (t - 2) (t - 1) ⟨65535 - body.length, room, 1, 0 - body.length, false, true, body, false, 2147483647, false, 0⟩ → By w'.heap.size w' vb (frB 0 1 1 []) → Calls Tryz.prog 13 #[Ptr p, vb] w' fun e w2 => e = .returned (.int .i64 0) ∧ But (fun g => g = p ∨ g = o ∨ g = sb ∨ g = fi ∨ False) w' w2 ∧ Pz w2 p fo fi o d m t sb (t - 2) (t - 1) (gotE ⟨65535 - body.length, room, 1, 0 - body.length, false, true, body, false, 2147483647, false, 0⟩ [] true) := fun vb w' hP hB => by
   have h3 := H3.out
   have h4 := H4.out
   exact Got_data 1 true (.inr ⟨rfl, rfl⟩) (Nat.zero_le _) rfl rfl rfl rfl rfl (by show body.length ≤ 1048576;omega) (by show (0 : Int) ≤ 65535 - body.length;omega) (.inl rfl) (by show (65535 - body.length : Int) < 4294967296;omega) (by show (0 : Int) ≤ room;omega) (by show (room : Int) < 4294967296;omega) (by show (-4294967296 : Int) < 0 - body.length;omega) (by show (0 - body.length : Int) < 4294967296;omega) vb w' hP hB
  go_wp2_with first
   | (go_at_call 13;have tok := hr21;go_must (refine (Got_dead rfl rfl rfl rfl rfl _ w21 (hP20.on hb21) (Rd.own hr21)).mono ?_);rintro e w22 ⟨rfl, hb22⟩)
   | (go_at_call 10;have tok := hP20;go_must ((with_reducible refine (bytes_DatF _).mono ?_);rintro e w21 ⟨v21, rfl, hr21, hb21⟩;obtain ⟨a21, c21, rfl⟩ := own_form hr21;have hw21 := hw20.trans (hb21.mono hw20.size)))
   | (go_at_call 14;go_must (refine (Answers_one w19 hP19 rfl).mono ?_);rintro e w20 ⟨⟨g2, cg2, af2, cf2, rfl, y1, y2, y3, y4⟩, hb20⟩;replace y4 : w20.cell? ⟨g2, 4, none⟩ = some (.bool true) := y4;have hP20 := hP19.on hb20;have hw20 := hw19.trans (hb20.mono hw19.size))
   | (go_at_call 13;have tok := hr18;go_must (refine (hG1 _ w18 (hP17.on hb18) (Rd.own hr18)).mono ?_);rintro e w19 ⟨rfl, hb19, hP19⟩;have hw19 := hin0 (hw17.trans (hb18.mono hw17.size)) hb19)
   | (go_at_call 10;go_must ((with_reducible refine (bytes_DatF _).mono ?_);rintro e w18 ⟨v18, rfl, hr18, hb18⟩;obtain ⟨a18, c18, rfl⟩ := own_form hr18))
  go_ret
  exact ⟨rfl, hin0 hw21 hb22⟩
 ·go_wp2_with first
   | (go_at_call 13;go_must (refine (Got_other rfl rfl rfl _ w18 (hP17.on hb18) (Rd.own hr18)).mono ?_);rintro e w19 ⟨rfl, hb19⟩)
   | (go_at_call 10;go_must ((with_reducible refine (bytes_Rst3 _).mono ?_);rintro e w18 ⟨v18, rfl, hr18, hb18⟩;obtain ⟨a18, c18, rfl⟩ := own_form hr18))
  go_ret
  exact ⟨rfl, hin0 (hw17.trans (hb18.mono hw17.size)) hb19⟩
 ·go_wp2_with first
   | (go_at_call 13;have tok := hr20;go_must (refine (Got_after rfl rfl _ w20 (hP19.on hb20) (Rd.own hr20)).mono ?_);rintro e w21 ⟨rfl, hb21⟩)
   | (go_at_call 10;have tok := hP19;go_must ((with_reducible refine (bytes_Win0 _).mono ?_);rintro e w20 ⟨v20, rfl, hr20, hb20⟩;obtain ⟨a20, c20, rfl⟩ := own_form hr20))
   | (go_at_call 15;go_must (refine (Closed_pz w19 hP19).mono ?_);rintro e w' ⟨rfl, rfl⟩)
   | (go_at_call 13;have tok := hr18;go_must (refine (Got_away rfl rfl rfl (by show (1 : Int) ≤ 2147483647;omega) _ w18 (hP17.on hb18) (Rd.own hr18)).mono ?_);rintro e w19 ⟨rfl, hb19, hP19⟩;have hw19 := hin0 (hw17.trans (hb18.mono hw17.size)) hb19)
   | (go_at_call 10;go_must ((with_reducible refine (bytes_Away _).mono ?_);rintro e w18 ⟨v18, rfl, hr18, hb18⟩;obtain ⟨a18, c18, rfl⟩ := own_form hr18))
  go_ret
  exact ⟨rfl, hin0 (hw19.trans (hb20.mono hw19.size)) hb21⟩
set_option maxRecDepth 100000 in
set_option maxHeartbeats 4000000 in
theorem tells_no (body : Bytes) (room : Nat) (s : Int) (h : body.length < 1 ∨ 16000 < body.length ∨ room < body.length) (h4 : room < 65536) (w : World) :
  Calls Tryz.prog 3 #[S body, .int .u16 (room : Int), .int .u8 s] w fun e w' => e = .returned (.bool true) ∧ Below w.heap.size w w' := by
 have hA := awake24_any w
 have hwr : IntKind.i64.wrap (room : Int) = (room : Int) := IntWalk.i64_in _ (by omega)
 by_cases h1 : (body.length : Int) < 1
 all_goals by_cases h2 : (16000 : Int) < (body.length : Int)
 all_goals by_cases h3 : room < body.length
 all_goals first | (exfalso;omega) | skip
 all_goals
  go_enter Tryz.func3, Tryz.ntmps3
  go_wp2_with (go_at_call 6;(with_reducible refine hA.mono ?_);rintro e w1 ⟨rfl, hb1⟩)
  go_ret
  exact ⟨rfl, hb1⟩
theorem tells_any (body : Bytes) {room s : Int} (hr : 0 ≤ room ∧ room ≤ 65535) (hs : 0 ≤ s) (w : World) :
  Calls Tryz.prog 3 #[S body, .int .u16 room, .int .u8 s] w fun e w' => e = .returned (.bool true) ∧ Below w.heap.size w w' := by
 obtain ⟨room, rfl⟩ := Int.eq_ofNat_of_zero_le hr.1
 by_cases h : body.length < 1 ∨ 16000 < body.length ∨ room < body.length
 ·exact tells_no body room s h (by omega) w
 ·refine tells_yes body room s (Lib.hid ?_) (by omega) (by omega) (by omega) (by omega) w
  have ht : s.tmod 4 = s % 4 := Int.tmod_eq_emod_of_nonneg hs
  omega
end Go.Proofs.YtkeeofhjdffhbaaGreatDoor
