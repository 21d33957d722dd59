
/- The law PeerLowers. -/
import Derived.Test.YtmbakobindjjmaaGreatDoorLaw24a
import Derived.Test.YtmbakobindjjmaaGreatDoorLaw24c
import Derived.Test.YtmbakobindjjmaaGreatDoorPerA
import Derived.Test.YtmbakobindjjmaaGreatDoorSnt3
import Derived.Test.YtmbakobindjjmaaGreatDoorEnc3
import Derived.Lib.SlBytesConst
import Derived.Deep.RegionLaw
import Derived.Deep.DeepCutAuto
import Derived.IntWalk
namespace Go.Proofs.YtmbakobindjjmaaGreatDoor
open Go.RowKit Go.Dr

abbrev prefC : Array Value := #[.int .u8 80, .int .u8 82, .int .u8 73, .int .u8 32, .int .u8 42, .int .u8 32, .int .u8 72, .int .u8 84, .int .u8 84, .int .u8 80, .int .u8 47, .int .u8 50, .int .u8 46, .int .u8 48, .int .u8 13, .int .u8 10, .int .u8 13, .int .u8 10, .int .u8 83, .int .u8 77, .int .u8 13, .int .u8 10, .int .u8 13, .int .u8 10]
theorem prefC_b8 : prefC.toList = prefB.map B8 := rfl
theorem by_pref {w : World} {base : Nat} {v : Value} {l1 l2 : Bytes} (h : w.ownsRow base 5 1 v (24 + l1.length + l2.length) (prefC.toList ++ l1.map B8 ++ l2.map B8)) : By w.heap.size w v (prefB ++ (l1 ++ l2)) := by
  have h2 := Rd.own h
  unfold By
  rw [prefC_b8, ← List.map_append, ← List.map_append, List.append_assoc] at h2
  have e : (prefB ++ (l1 ++ l2)).length = 24 + l1.length + l2.length := by simp [prefB]; omega
  rw [e]
  exact h2

/-- 'append(s, x...)' where s has no room left: s is read alone -/
theorem wpList_appFull {P : Program} {ops : Array Oper} {rest : List Oper} {o : Oper} {a : Act} {Q : Exit → Act → World → Prop} {w : World} (hgd : o.guard = none) (s x : Operand) (t : TypeId)
    (ho : o.op = .call { callee := .builtin .append, args := #[s, x], argTypes := #[t, t] })
    (base : Nat) (e : TypeId) (z : Value) (size bytes : Nat) (ht : P.underlying t = some (.slice e)) (hi : (P.info? e).map (fun i => (i.zero, i.size, i.bytes)) = some (some z, size, bytes))
    (hzs : z.cells.size = size) (b : Addr) (n : Nat) (olds : List Value) (hs : a.eval s = .slice (some b) n n) (hlo : olds.length = n * size) (holds : ∀ j v, olds[j]? = some v → w.cell? (b.add j) = some v)
    (B : Nat) (vs : Value) (m : Nat) (news : List Value) (hx : a.eval x = vs) (hsrc : Rd B w size vs m news) (hm0 : 0 < m)
    (hm : n + m ≤ maxLen) (hbytes : (n + m) * bytes ≤ 140737488355328) (hbase : base ≤ w.heap.size)
    (h : ∀ a' c' w', w'.ownsRow base e size (.slice a' (n + m) c') (n + m) (olds ++ news) → Below base w w' → wpList P ops Q rest (a.put o.dst (.slice a' (n + m) c')) w') : wpList P ops Q (o :: rest) a w := by
  obtain ⟨ad, cap, rfl, h2, h3, h4, h5, h6⟩ := hsrc
  cases ad with
  | none => have := h5 rfl; omega
  | some ad =>
    obtain ⟨i, hi, hz, hsize, hby⟩ := info_parts hi
    subst hsize hby
    have hsmall : n + m ≤ 9223372036854775807 := by simp only [maxLen] at hm; omega
    have hlen : (olds ++ news).length = (n + m) * i.size := by rw [List.length_append, hlo, h4, Nat.add_mul]
    have hnews : ∀ j u, news[j]? = some u → w.cell? (ad.add j) = some u := by
      intro j u hu
      obtain ⟨b', off, e1, _, e3⟩ := h6 j u hu
      obtain rfl := Option.some.inj e1
      rw [Addr.add_lit]
      exact e3
    have hr := Go.run_append_grow (P := P) w t o.type e i z ht ‹P.info? e = some i› hz b n n olds hlo holds ad m cap news h4 hnews (by omega) (by omega) (Go.growslice_fits (by omega) hbytes)
    have hge := grownCap_ge w (n + m) n e
    have hcm2 : grownCap w (n + m) n e ≤ maxLen := grownCap_le_maxLen w (n + m) n e hm
    refine wpList_plain hgd fun K hK => ?_
    unfold Oper.wp execOp
    simp only [ho, resolve, invoke, builtin, Sem.run_bind, Sem.run_pure, Result.andThen_ok, List.map_toArray, List.map_cons, List.map_nil, hs, hx, hr]
    refine hK _ _ (h _ _ _ ⟨hlen, .inr ⟨w.heap.size, _, _, rfl, hbase, heap_alloc_new w.drew _, hge, hcm2, ?_, ?_⟩⟩ ((Below.refl _ _).drew.alloc hbase _))
    · simp only [Array.size_append, List.size_toArray, Go.size_zeroCells, hzs, hlo, h4, ← Nat.add_mul]
      congr 1
      omega
    · simp only [Array.toList_append, List.append_assoc]
      rw [← List.append_assoc, ← hlen]
      exact List.take_left

set_option maxRecDepth 100000 in
set_option maxHeartbeats 4000000 in
theorem lowers_no (first came : Nat) {x0 x1 : Value} (h1 : first < 65536) (h2 : came < 65536) (hno : first < came ∨ 16000 < came) (w : World) :
    Calls Tryz.prog 3 #[.int .u16 (first : Int), .int .u16 (came : Int), .agg #[x0, x1]] w fun e w' => e = .returned (.bool true) ∧ Below w.heap.size w w' := by
  have hb0 := (Below.refl w.heap.size w).alloc (Nat.le_refl _) (.cells #[x0, x1] 23)
  have hA := awake24_any (w.alloc (.cells #[x0, x1] 23))
  have hI := Blk.new w 23 #[x0, x1]
  by_cases hlt : first < came
  all_goals
    go_enter Tryz.func3, Tryz.ntmps3
    go_wp2_with (go_at_call 7; (with_reducible refine hA.mono ?_); rintro e w1 ⟨rfl, hb1⟩; have hI1 := hI.on hb1; have i0 := hI1.cell 0; have i1 := hI1.cell 1)
    go_ret
    exact ⟨rfl, hb0.trans (hb1.mono hb0.size)⟩

theorem P1.on {w w' : World} {p fo fi o d m t pre : Nat} {beg sets : Int} (h : P1 w p fo fi o d m t pre beg sets) (hb : Below w.heap.size w w') : P1 w' p fo fi o d m t pre beg sets := by
  obtain ⟨a, b, hT⟩ := h.tab
  exact ⟨h.blk.on hb, obj_below h.map hb (lt_of_block h.map), obj_below h.off hb (lt_of_block h.off), h.out.on hb, h.feed.on hb, h.ne, h.mo, h.decB.on hb, a, b, hT.on hb⟩
theorem pre_cells (w w3 : World) (hb : Below (w.alloc (.cells prefC 5 (24, 25))).heap.size (w.alloc (.cells prefC 5 (24, 25))) w3) : ∀ j v, prefC.toList[j]? = some v → w3.cell? ((⟨w.heap.size, 0, none⟩ : Addr).add j) = some v := by
  intro j v hj
  rw [Addr.add_lit, Nat.zero_add, hb.cell (p := ⟨w.heap.size, j, none⟩) (by simp)]
  have e : (w.alloc (.cells prefC 5 (24, 25))).heap[w.heap.size]? = some (.cells prefC 5 (24, 25)) := obj_new w _ _ rfl
  simp only [World.cell?, e]
  simpa using hj

theorem by_app3 {w : World} {base : Nat} {v : Value} {l1 l2 l3 : Bytes} (h : w.ownsRow base 5 1 v (l1.length + l2.length + l3.length) (l1.map B8 ++ l2.map B8 ++ l3.map B8)) : By w.heap.size w v (l1 ++ (l2 ++ l3)) := by
  have h2 := Rd.own h
  unfold By
  rw [← List.map_append, ← List.map_append, List.append_assoc] at h2
  have e : (l1 ++ (l2 ++ l3)).length = l1.length + l2.length + l3.length := by simp; omega
  rw [e]
  exact h2
abbrev hd4 : Array Value := #[.int .i64 1, .int .i64 4, .int .i64 1, S [136], .int .i64 0, .slice none 0 0, .int .i64 0, .int .i64 0, .int .i64 0, .int .i64 0, .int .i64 0, .bool false]

set_option maxRecDepth 100000 in
set_option maxHeartbeats 8000000 in
theorem lowers_yes (first came lower grow : Nat) (h1 : first < 65536) (h2 : came < 65536) (h3 : lower < 65536) (h4 : grow < 65536) (hno : came ≤ first) (hno2 : came ≤ 16000) (w : World) :
    Calls Tryz.prog 3 #[.int .u16 (first : Int), .int .u16 (came : Int), .agg #[.int .u16 (lower : Int), .int .u16 (grow : Int)]] w fun e w' => e = .returned (.bool true) ∧ Below w.heap.size w w' := by
  have hb0 := (Below.refl w.heap.size w).alloc (Nat.le_refl _) (.cells #[.int .u16 (lower : Int), .int .u16 (grow : Int)] 23)
  have hA := awake24_any (w.alloc (.cells #[.int .u16 (lower : Int), .int .u16 (grow : Int)] 23))
  have hI := Blk.new w 23 #[.int .u16 (lower : Int), .int .u16 (grow : Int)]
  have hL10 : 0 < (frB 4 0 0 (beP 4 2 ++ beP first 4)).length := by rw [frB_length]; omega
  have hL1 : (frB 4 0 0 (beP 4 2 ++ beP first 4)).length ≤ 15 := by rw [frB_length]; exact Nat.le_refl _
  have hL2 : (frB 1 5 1 [130]).length ≤ 10 := by rw [frB_length]; exact Nat.le_refl _
  have hd1 : decide (first < came) = false := by simp; omega
  have hd2 : decide ((16000 : Int) < (came : Int)) = false := by simp; omega
  have kc := fun (w : World) (C : Array Value) (n c : Nat) => Lib.run_convert_bytes_const (P := Tryz.prog) w 28 5 C n c Tryz.underlying28 Tryz.underlying5
  go_enter Tryz.func3, Tryz.ntmps3
  go_upto_region 10 with first
    | (go_at_call 7; (with_reducible refine hA.mono ?_); rintro e w1 ⟨rfl, hb1⟩; have hI1 := hI.on hb1; have i0 : w1.cell? ⟨w.heap.size, 0, none⟩ = some (.int .u16 (lower : Int)) := hI1.cell 0; have i1 : w1.cell? ⟨w.heap.size, 1, none⟩ = some (.int .u16 (grow : Int)) := hI1.cell 1; have hb1 := hb0.trans (hb1.mono hb0.size); clear hA hI hI1 hb0)
    | (go_at_call 8; (with_reducible refine (PeerNew_all _).mono ?_); rintro e w2 ⟨p, fo, fi, o, d, m, t, rfl, hb2, hP2, n1, n2, n3, n4, n5⟩)
    | (go_at_call 10; (with_reducible refine (sets_any first h1 _).mono ?_); rintro e w3 ⟨v3, rfl, hr3, hb3⟩; obtain ⟨a3, c3, rfl⟩ := own_form hr3; have hpc := pre_cells w2 w3 hb3; have hw3 : Below w1.heap.size w1 w3 := (hb2.alloc hb2.size _).trans (hb3.mono (by have := hb2.size; simp; omega)); have hP3 := (hP2.on ((Below.refl _ _).alloc (Nat.le_refl _) _)).on hb3; clear hP2)
    | (go_at_call 11; (with_reducible refine (bytes_Hd5 [130] (by decide) _).mono ?_); rintro e w5 ⟨v5, rfl, hr5, hb5⟩; obtain ⟨a5, c5, rfl⟩ := own_form hr5; have hr4 := own_below hr4 hb5; have hw5 := hb4.trans (hb5.mono hb4.size); have hz5 := hw5.size)
    | (at_builtin; refine wpList_appRd rfl _ _ 28 rfl w3.heap.size 5 (.int .u8 0) 1 1 Tryz.underlying28 (by kernel_rfl) rfl (by decide) _ _ _ rfl hr4 _ _ _ _ rfl (Rd.own hr5) (b8_one2 _) (by unfold maxLen; omega) (by omega) hz5 ?_; intro a6 c6 w6 hr6 hb6; have hw6 := hw5.trans hb6; have hP6 := hP3.on hw6; have hB6 := by_pref hr6; have hS6 := Sent_hello first (by omega) [130] (by decide) _ w6 hP6 hB6)
    | (at_builtin; refine wpList_appFull rfl _ _ 28 rfl w3.heap.size 5 (.int .u8 0) 1 1 Tryz.underlying28 (by kernel_rfl) rfl ⟨w2.heap.size, 0, none⟩ 24 prefC.toList rfl rfl hpc _ _ _ _ rfl (Rd.own hr3) hL10 (by unfold maxLen; omega) (by omega) (Nat.le_refl _) ?_; intro a4 c4 w4 hr4 hb4)
    | (go_at_call 9; (with_reducible refine hS6.mono ?_); rintro e w7 ⟨rfl, hb7, s, hs7, hP7⟩; have hw7 : Below w.heap.size w w7 := ((hb1.trans (hw3.mono hb1.size)).trans (hw6.mono (by have := hb1.size; have := hw3.size; omega))).trans (hb7.below (fun k hk => by have := hb1.size; rcases hk with e | e | e | e <;> omega) (by have := hb1.size; have := hw3.size; have := hw6.size; omega)); have hsB : w.heap.size ≤ s := (by have := hb1.size; have := hw3.size; have := hw6.size; omega); clear hS6 hB6 hr6 hP6 hb6 hw6 hr5 hr4 hw5 hb5 hb4 hr3 hpc hb3 hP3 hb7)
    | (go_at_call 12; (with_reducible refine (rNewEnc _).mono ?_); rintro e w8 ⟨rfl, hE8, hb8⟩; have hP8 := hP7.on hb8; have hw8 := hw7.trans (hb8.mono hw7.size))
  have hz8 : w7.heap.size < w8.heap.size := hE8.lt
  have hEn := rEncode_one (w8.alloc (.cells stat8 38)) (hE8.alloc _) (Blk.new w8 38 stat8) (by omega)
  obtain ⟨W8, eW8⟩ : ∃ W8, W8 = w8.alloc (.cells stat8 38) := ⟨_, rfl⟩
  have hw78 : Below w7.heap.size w7 W8 := by rw [eW8]; exact hb8.alloc hb8.size _
  rw [← eW8] at hEn
  go_upto_region 11 with first
    | (go_at_call 13; go_must (rw [← eW8]; refine hEn.mono ?_); rintro e w9 ⟨v9, rfl, hr9, hb9⟩; have hT9 := (show By w9.heap.size w9 v9 [136] from Rd.own hr9).text (P := Tryz.prog) 28 9 5 Tryz.underlying28 (by kernel_rfl) Tryz.underlying9; obtain ⟨a9, c9, rfl⟩ := own_form hr9; have hw9 : Below w7.heap.size w7 w9 := hw78.trans (hb9.below (fun k hk => by have e : k = w7.heap.size := hk; omega) hw78.size))
  have hI := Blk.new w9 33 hd4
  have hw10 := hw9.alloc hw9.size (.cells hd4 33)
  obtain ⟨W, eW⟩ : ∃ W, W = w9.alloc (.cells hd4 33) := ⟨_, rfl⟩
  rw [← eW] at hI hw10 ⊢
  clear eW hEn hb9 hr9 hT9 hw9 eW8 hw78 hP8 hw8 hb8 hE8 hz8 hb2 hw3 hz5 hs7
  have q1 : w.heap.size ≤ p := Nat.le_trans hb1.size n1
  have q2 : w.heap.size ≤ fo := Nat.le_trans hb1.size n2
  have q3 : w.heap.size ≤ fi := Nat.le_trans hb1.size n3
  have q4 : w.heap.size ≤ o := Nat.le_trans hb1.size n4
  clear n1 n2 n3 n4 n5 hb1
  have x : ∀ k, k < 12 → W.cell? ⟨w9.heap.size, k, none⟩ = hd4[k]? := fun k _ => hI.cell k
  have x0 : W.cell? ⟨w9.heap.size, 0, none⟩ = some (.int .i64 1) := hI.cell 0
  have x1 : W.cell? ⟨w9.heap.size, 1, none⟩ = some (.int .i64 4) := hI.cell 1
  have x2 : W.cell? ⟨w9.heap.size, 2, none⟩ = some (.int .i64 1) := hI.cell 2
  have x3 : W.cell? ⟨w9.heap.size, 3, none⟩ = some (S [136]) := hI.cell 3
  have x4 : W.cell? ⟨w9.heap.size, 4, none⟩ = some (.int .i64 0) := hI.cell 4
  have x5 : W.cell? ⟨w9.heap.size, 5, none⟩ = some (.slice none 0 0) := hI.cell 5
  have x6 : W.cell? ⟨w9.heap.size, 6, none⟩ = some (.int .i64 0) := hI.cell 6
  have x7 : W.cell? ⟨w9.heap.size, 7, none⟩ = some (.int .i64 0) := hI.cell 7
  have x8 : W.cell? ⟨w9.heap.size, 8, none⟩ = some (.int .i64 0) := hI.cell 8
  have x9 : W.cell? ⟨w9.heap.size, 9, none⟩ = some (.int .i64 0) := hI.cell 9
  have xA : W.cell? ⟨w9.heap.size, 10, none⟩ = some (.int .i64 0) := hI.cell 10
  have xB : W.cell? ⟨w9.heap.size, 11, none⟩ = some (.bool false) := hI.cell 11
  clear x
  have hM1 : (frB 4 0 0 []).length ≤ 9 := by rw [frB_length]; exact Nat.le_refl _
  have hM2 : (frB 1 4 1 [136]).length ≤ 10 := by rw [frB_length]; exact Nat.le_refl _
  have hM3 : (frB 0 0 1 (List.replicate came 0)).length ≤ 16400 := by rw [frB_length, List.length_replicate]; omega
  have hrl : (List.replicate came (0 : UInt8)).length ≤ 16384 := by rw [List.length_replicate]; omega
  have hri : ((List.replicate came (0 : UInt8)).length : Int) = (came : Int) := by rw [List.length_replicate]
  have HR := Lib.hid hri
  clear hri
  have hwc : IntKind.i64.wrap (came : Int) = (came : Int) := IntWalk.i64_in _ (by omega)
  go_cut [55] (fun s55 wx => s55 = .bool false ∧ Pw wx p fo fi o d m t s ⟨65535 - came, first, 1, 0 - came, false, true, List.replicate came 0, 0⟩ ∧ Below w.heap.size w wx)
  case first =>
    go_region_law (first
      | (go_simp; go_at_call 14; go_must (refine hG.mono ?_); rintro e w16 ⟨rfl, hb16, hP16⟩)
      | (refine step_of ?_ (by rfl); refine wp_appRd _ _ 28 rfl W.heap.size 5 (.int .u8 0) 1 1 Tryz.underlying28 (by kernel_rfl) rfl (by decide) _ _ _ rfl hr13 _ _ _ _ rfl (Rd.own hr14) (b8_one2 _) (by unfold maxLen; omega) (by omega) hw14.size ?_; intro a15 c15 w15 hr15 hb15; have hw15 := hw14.trans hb15; have hG := Got_begin (q := ⟨65535, first, 1, 0, true, false, [], 0⟩) hrl rfl rfl rfl (by rw [HR.out]; show (came : Int) ≤ 65535; omega) (by rw [HR.out]; show (came : Int) = 0 ∨ (came : Int) ≤ (first : Int) + 0; omega) (by show (65535 : Int) < 4294967296; omega) (by show (0 : Int) ≤ (first : Int); omega) (by show (first : Int) < 4294967296; omega) (by show (-4294967296 : Int) < 0; omega) (by show (0 : Int) < 4294967296; omega) _ w15 (hP7.on (hw10.trans (hw15.mono hw10.size))) (by_app3 hr15))
      | (go_simp; go_at_call 15; (with_reducible refine (noughts_any came (by omega) _).mono ?_); rintro e w14 ⟨v14, rfl, hr14, hb14⟩; obtain ⟨a14, c14, rfl⟩ := own_form hr14; have hr13 := own_below hr13 hb14; have hw14 := hw13.trans (hb14.mono hw13.size))
      | (refine step_of ?_ (by rfl); refine wp_appRd _ _ 28 rfl W.heap.size 5 (.int .u8 0) 1 1 Tryz.underlying28 (by kernel_rfl) rfl (by decide) _ _ _ rfl hr11 _ _ _ _ rfl (Rd.own hr12) (b8_one2 _) (by unfold maxLen; omega) (by omega) hw12.size ?_; intro a13 c13 w13 hr13 hb13; have hw13 := hw12.trans hb13)
      | (go_simp; go_at_call 11; (with_reducible refine (bytes_Hd4 [136] (by decide) _).mono ?_); rintro e w12 ⟨v12, rfl, hr12, hb12⟩; obtain ⟨a12, c12, rfl⟩ := own_form hr12; have hr11 := own_below hr11 hb12; have hw12 := hw11.trans (hb12.mono hw11.size))
      | (go_simp; go_at_call 11; (with_reducible refine (bytes_Set0 _).mono ?_); rintro e w11 ⟨v11, rfl, hr11, hb11⟩; obtain ⟨a11, c11, rfl⟩ := own_form hr11; have hw11 : Below W.heap.size W w11 := (Below.refl _ _).drew.trans hb11; have hI11 := hI.on hw11; have y0 : w11.cell? ⟨w9.heap.size, 0, none⟩ = some (.int .i64 1) := hI11.cell 0; have y1 : w11.cell? ⟨w9.heap.size, 1, none⟩ = some (.int .i64 4) := hI11.cell 1; have y2 : w11.cell? ⟨w9.heap.size, 2, none⟩ = some (.int .i64 1) := hI11.cell 2; have y3 : w11.cell? ⟨w9.heap.size, 3, none⟩ = some (S [136]) := hI11.cell 3; have y4 : w11.cell? ⟨w9.heap.size, 4, none⟩ = some (.int .i64 0) := hI11.cell 4; have y5 : w11.cell? ⟨w9.heap.size, 5, none⟩ = some (.slice none 0 0) := hI11.cell 5; have y6 : w11.cell? ⟨w9.heap.size, 6, none⟩ = some (.int .i64 0) := hI11.cell 6; have y7 : w11.cell? ⟨w9.heap.size, 7, none⟩ = some (.int .i64 0) := hI11.cell 7; have y8 : w11.cell? ⟨w9.heap.size, 8, none⟩ = some (.int .i64 0) := hI11.cell 8; have y9 : w11.cell? ⟨w9.heap.size, 9, none⟩ = some (.int .i64 0) := hI11.cell 9; have yA : w11.cell? ⟨w9.heap.size, 10, none⟩ = some (.int .i64 0) := hI11.cell 10; have yB : w11.cell? ⟨w9.heap.size, 11, none⟩ = some (.bool false) := hI11.cell 11))
    all_goals (go_wp2; go_meet)
    all_goals
      rw [HR.out] at hP16
      exact ⟨rfl, hP16, (hw7.trans ((hw10.trans (hw15.mono hw10.size)).mono hw7.size)).trans (hb16.below (fun k hk => by rcases hk with e | e | e | e <;> omega) (by have := hw7.size; have := hw10.size; have := hw15.size; omega))⟩
  case rest =>
    obtain ⟨rfl, hP16, hw16⟩ := hcut
    obtain ⟨w16, rfl⟩ : ∃ w16, w16 = wc := ⟨_, rfl⟩
    clear x0 x1 x2 x3 x4 x5 x6 x7 x8 x9 xA xB hI hw10 hM1 hM2 hM3 hrl HR hP7 hw7 hL1 hL10 hL2 hd1 hd2
    have hfin : ∀ {a b : World}, Below w.heap.size w a → But (fun g => g = p ∨ g = o ∨ g = s ∨ g = fi) a b → Below w.heap.size w b := fun h hb => h.trans (hb.below (fun k hk => by rcases hk with e | e | e | e <;> omega) h.size)
    have hfin2 : ∀ {a b : World}, Below w.heap.size w a → But (fun g => g = p ∨ g = o ∨ g = fo) a b → Below w.heap.size w b := fun h hb => h.trans (hb.below (fun k hk => by rcases hk with e | e | e <;> omega) h.size)
    have hwl : IntKind.i64.wrap (lower : Int) = (lower : Int) := IntWalk.i64_in _ (by omega)
    have hwg : IntKind.i64.wrap (grow : Int) = (grow : Int) := IntWalk.i64_in _ (by omega)
    go_upto_region 14 with first
      | (go_at_call 10; (with_reducible refine (sets_any lower h3 _).mono ?_); rintro e w17 ⟨v17, rfl, hr17, hb17⟩; obtain ⟨a17, c17, rfl⟩ := own_form hr17; have hS18 := Sent_begin lower (by omega) (by show (0 : Int) ≤ 1; omega) (by show (1 : Int) < 4294967296; omega) _ w17 (hP16.on hb17) (Rd.own hr17); have hw17 := hw16.trans (hb17.mono hw16.size))
      | (go_at_call 9; (with_reducible refine hS18.mono ?_); rintro e w18 ⟨rfl, hb18, hP18⟩; have hw18 := hfin2 hw17 hb18; clear hS18 hb18 hr17 hb17 hw17 hP16 hw16)
    by_cases hg : 0 < grow
    case' pos =>
      have hdg : decide ((0 : Int) < (grow : Int)) = true := by simp; omega
      go_upto_region 16 with first
        | (go_at_call 11; (with_reducible refine (bytes_Win1 grow (by omega) _).mono ?_); rintro e w19 ⟨v19, rfl, hr19, hb19⟩; obtain ⟨a19, c19, rfl⟩ := own_form hr19; have hS20 := Sent_more grow hg (by omega) (by show (-4294967296 : Int) < 0 - came; omega) (by show (0 - came : Int) < 4294967296; omega) _ w19 (hP18.on hb19) (Rd.own hr19); have hw19 := hw18.trans (hb19.mono hw18.size))
        | (go_at_call 9; (with_reducible refine hS20.mono ?_); rintro e w20 ⟨rfl, hb20, hP20⟩; have hw20 := hfin2 hw19 hb20; clear hS20 hb20 hr19 hb19 hw19 hP18 hw18)
      replace hP20 : Pw w20 p fo fi o d m t s ⟨65535 - came, lower, 2, (grow : Int) - came, false, true, List.replicate came 0, 0⟩ := by
        have e : (0 : Int) - came + grow = grow - came := by omega
        rw [← e]
        exact hP20
      clear hdg
    case' neg =>
      have hdg : decide ((0 : Int) < (grow : Int)) = false := by simp; omega
      go_upto_region 16 with fail
      obtain ⟨w20, rfl⟩ : ∃ w20, w20 = w18 := ⟨_, rfl⟩
      have hw20 := hw18
      have hP20 : Pw w20 p fo fi o d m t s ⟨65535 - came, lower, 2, (grow : Int) - came, false, true, List.replicate came 0, 0⟩ := by
        have e : (0 : Int) - came = grow - came := by omega
        rw [← e]
        exact hP18
      clear hdg hP18 hw18
    all_goals
      clear hg
      have hsum : IntKind.i64.wrap ((lower : Int) + (grow : Int)) = (lower : Int) + (grow : Int) := IntWalk.i64_in _ (by omega)
      have hdif : IntKind.i64.wrap ((lower : Int) + (grow : Int) - (came : Int)) = (lower : Int) + (grow : Int) - (came : Int) := IntWalk.i64_in _ (by omega)
      have hd65 : IntKind.i64.wrap ((65535 : Int) - (came : Int)) = (65535 : Int) - (came : Int) := IntWalk.i64_in _ (by omega)
      have hbl : (List.replicate came (0 : UInt8)).length ≤ 16384 := by rw [List.length_replicate]; omega
      have hbig : ∀ (w2 : World) (vb : Value), Pw w2 p fo fi o d m t s ⟨65535 - came, lower, 2, (grow : Int) - came, false, true, List.replicate came 0, 0⟩ → (16384 : Int) ≤ lower + grow - came → By w2.heap.size w2 vb (frB 0 0 1 (List.replicate 16384 0)) → Calls Tryz.prog 14 #[Ptr p, vb] w2 fun e w' => e = .returned (.int .i64 0) ∧ But (fun g => g = p ∨ g = o ∨ g = s ∨ g = fi) w2 w' := fun w2 vb hP hr hB =>
        (Got_yes (by rw [List.length_replicate]; exact Nat.le_refl _) rfl rfl rfl (by show (List.replicate came (0 : UInt8)).length ≤ 1048576; omega) (by rw [List.length_replicate]; show (16384 : Int) ≤ 65535 - came; omega) (.inr (by rw [List.length_replicate]; show (16384 : Int) ≤ lower + ((grow : Int) - came); omega)) (by show (65535 - came : Int) < 4294967296; omega) (by show (0 : Int) ≤ lower; omega) (by show (lower : Int) < 4294967296; omega) (by show (-4294967296 : Int) < grow - came; omega) (by show (grow - came : Int) < 4294967296; omega) vb w2 hP hB).mono fun e w' ⟨h1, h2, _⟩ => ⟨h1, h2⟩
      by_cases hA : 65535 < lower + grow
      · have hA' : (65535 : Int) - came < lower + grow - came := by omega
        have hA2 : (16384 : Int) < 65535 - came := by omega
        have hA3 : (16384 : Int) ≤ lower + grow - came := by omega
        go_wp2_with first
          | (go_at_call 15; go_must (refine (noughts_any 16384 (Nat.le_refl _) _).mono ?_); rintro e w21 ⟨v21, rfl, hr21, hb21⟩; obtain ⟨a21, c21, rfl⟩ := own_form hr21; have hG := hbig w21 _ (hP20.on hb21) hA3 (Rd.own hr21); have hw21 := hw20.trans (hb21.mono hw20.size))
          | (go_at_call 14; go_must (refine hG.mono ?_); rintro e w22 ⟨rfl, hb22⟩)
        exact bodyPost_ret (v := .bool true) (by simp [results, Tryz.results3, go_sem]) rfl ⟨rfl, hfin hw21 hb22⟩
      · by_cases hB : (16384 : Int) < lower + grow - came
        · have hA' : ¬ ((65535 : Int) - came < lower + grow - came) := by omega
          have hA3 : (16384 : Int) ≤ lower + grow - came := by omega
          go_wp2_with first
            | (go_at_call 15; go_must (refine (noughts_any 16384 (Nat.le_refl _) _).mono ?_); rintro e w21 ⟨v21, rfl, hr21, hb21⟩; obtain ⟨a21, c21, rfl⟩ := own_form hr21; have hG := hbig w21 _ (hP20.on hb21) hA3 (Rd.own hr21); have hw21 := hw20.trans (hb21.mono hw20.size))
            | (go_at_call 14; go_must (refine hG.mono ?_); rintro e w22 ⟨rfl, hb22⟩)
          exact bodyPost_ret (v := .bool true) (by simp [results, Tryz.results3, go_sem]) rfl ⟨rfl, hfin hw21 hb22⟩
        · have hA' : ¬ ((65535 : Int) - came < lower + grow - came) := by omega
          obtain ⟨n, hn⟩ : ∃ n : Nat, n = (lower + grow : Nat) - came := ⟨_, rfl⟩
          have hnl : n ≤ 16384 := by omega
          have hend : ∀ (w2 : World) (q : Ps), Pw w2 p fo fi o d m t s q → Below w.heap.size w w2 → q.first = false → q.hd = true → q.bad = 0 → q.body.length ≤ 32768 → 0 ≤ q.all → q.all < 4294967296 → q.beg = lower → -4294967296 < q.x → q.x < 4294967296 → q.beg + q.x ≤ 0 → ∀ (vb : Value) (w3 : World), Below w2.heap.size w2 w3 → By w3.heap.size w3 vb (frB 0 0 1 (List.replicate 0 0)) →
              Calls Tryz.prog 14 #[Ptr p, vb] w3 fun e w' => e = .returned (.int .i64 0) ∧ Below w.heap.size w w' ∧ ∀ (vb2 : Value) (w5 : World), Below w'.heap.size w' w5 → By w5.heap.size w5 vb2 (frB 0 0 1 (List.replicate 1 0)) →
                Calls Tryz.prog 14 #[Ptr p, vb2] w5 fun e w6 => e = .returned (.int .i64 243) ∧ Below w.heap.size w w6 := fun w2 q hP hw e1 e2 e3 e4 e5 e6 e7 e8 e9 e10 vb w3 hb3 hB3 =>
            (Got_yes (l := List.replicate 0 0) (Nat.zero_le _) e1 e2 e3 (by omega) (by show (0 : Int) ≤ _; omega) (.inl rfl) e6 (by omega) (by omega) e8 e9 vb w3 (hP.on hb3) hB3).mono fun e w' ⟨h1, h2, h3⟩ => ⟨h1, hfin (hw.trans (hb3.mono hw.size)) h2, fun vb2 w5 hb5 hB5 =>
              (Got_no (q := gotD q (List.replicate 0 0)) (l := List.replicate 1 0) (by decide) (by decide) e1 e2 e3 (.inr (by show q.beg + (q.x - 0) < 1; omega)) (by show 0 ≤ q.beg; omega) (by show q.beg < 4294967296; omega) (by show -4294967296 < q.x - 0; omega) (by show q.x - 0 < 4294967296; omega) vb2 w5 (h3.on hb5) hB5).mono fun e w6 ⟨g1, g2⟩ => ⟨g1, hfin ((hfin (hw.trans (hb3.mono hw.size)) h2).trans (hb5.mono (hfin (hw.trans (hb3.mono hw.size)) h2).size)) g2⟩⟩
          by_cases hC : (0 : Int) < lower + grow - came
          · have hn0 : 0 < n := by omega
            have hni : (n : Int) = lower + grow - came := by omega
            have hNo := fun w => noughts_any n hnl w
            rw [hni] at hNo
            have HN := Lib.hid hni
            clear hni hn
            have hG1 : ∀ (w2 : World) (vb : Value), Pw w2 p fo fi o d m t s ⟨65535 - came, lower, 2, (grow : Int) - came, false, true, List.replicate came 0, 0⟩ → By w2.heap.size w2 vb (frB 0 0 1 (List.replicate n 0)) → Calls Tryz.prog 14 #[Ptr p, vb] w2 fun e w' => e = .returned (.int .i64 0) ∧ But (fun g => g = p ∨ g = o ∨ g = s ∨ g = fi) w2 w' ∧ Pw w' p fo fi o d m t s (gotD ⟨65535 - came, lower, 2, (grow : Int) - came, false, true, List.replicate came 0, 0⟩ (List.replicate n 0)) := fun w2 vb hP hB => by
              have hni := HN.out
              exact Got_yes (by rw [List.length_replicate]; exact hnl) rfl rfl rfl (by show (List.replicate came (0 : UInt8)).length ≤ 1048576; omega) (by rw [List.length_replicate]; show (n : Int) ≤ 65535 - came; omega) (.inr (by rw [List.length_replicate]; show (n : Int) ≤ lower + ((grow : Int) - came); omega)) (by show (65535 - came : Int) < 4294967296; omega) (by show (0 : Int) ≤ lower; omega) (by show (lower : Int) < 4294967296; omega) (by show (-4294967296 : Int) < grow - came; omega) (by show (grow - came : Int) < 4294967296; omega) vb w2 hP hB
            go_wp2_with first
              | (go_at_call 14; have tok := hr25; go_must (refine (hG26 _ _ hb25 (Rd.own hr25)).mono ?_); rintro e w26 ⟨rfl, hw26⟩)
              | (go_at_call 15; have tok := hG26; go_must (refine (noughts_any 1 (by decide) _).mono ?_); rintro e w25 ⟨v25, rfl, hr25, hb25⟩; obtain ⟨a25, c25, rfl⟩ := own_form hr25)
              | (go_at_call 14; have tok := hr23; go_must (refine (hend w22 _ hP22 hw22 rfl rfl rfl hq1 hq2 hq3 rfl hq4 hq5 hq6 _ _ hb23 (Rd.own hr23)).mono ?_); rintro e w24 ⟨rfl, hw24, hG26⟩)
              | (go_at_call 15; have tok := hP22; go_must (refine (noughts_any 0 (by decide) _).mono ?_); rintro e w23 ⟨v23, rfl, hr23, hb23⟩; obtain ⟨a23, c23, rfl⟩ := own_form hr23; have hni := HN.out; have hrl : ((List.replicate n (0 : UInt8)).length : Int) = n := (by rw [List.length_replicate]); have hq1 : (List.replicate came (0 : UInt8) ++ List.replicate n (0 : UInt8)).length ≤ 32768 := (by rw [List.length_append, List.length_replicate, List.length_replicate]; omega); have hq2 : (0 : Int) ≤ 65535 - came - (List.replicate n (0 : UInt8)).length := (by omega); have hq3 : 65535 - came - ((List.replicate n (0 : UInt8)).length : Int) < 4294967296 := (by omega); have hq4 : (-4294967296 : Int) < grow - came - (List.replicate n (0 : UInt8)).length := (by omega); have hq5 : (grow : Int) - came - (List.replicate n (0 : UInt8)).length < 4294967296 := (by omega); have hq6 : (lower : Int) + (grow - came - (List.replicate n (0 : UInt8)).length) ≤ 0 := (by omega); clear hni hrl)
              | (go_at_call 14; have tok := hr21; go_must (refine (hG1 _ _ (hP20.on hb21) (Rd.own hr21)).mono ?_); rintro e w22 ⟨rfl, hb22, hP22⟩; have hw22 := hfin (hw20.trans (hb21.mono hw20.size)) hb22)
              | (go_at_call 15; go_must (refine (hNo _).mono ?_); rintro e w21 ⟨v21, rfl, hr21, hb21⟩; obtain ⟨a21, c21, rfl⟩ := own_form hr21)
            exact bodyPost_ret (v := .bool true) (by simp [results, Tryz.results3, go_sem]) rfl ⟨rfl, hw26⟩
          · clear hn
            have hq6 : (lower : Int) + (grow - came) ≤ 0 := by omega
            go_wp2_with first
              | (go_at_call 14; have tok := hr25; go_must (refine (hG26 _ _ hb25 (Rd.own hr25)).mono ?_); rintro e w26 ⟨rfl, hw26⟩)
              | (go_at_call 15; have tok := hG26; go_must (refine (noughts_any 1 (by decide) _).mono ?_); rintro e w25 ⟨v25, rfl, hr25, hb25⟩; obtain ⟨a25, c25, rfl⟩ := own_form hr25)
              | (go_at_call 14; have tok := hr23; go_must (refine (hend w20 _ hP20 hw20 rfl rfl rfl (by show (List.replicate came (0 : UInt8)).length ≤ 32768; omega) (by show (0 : Int) ≤ 65535 - came; omega) (by show (65535 - came : Int) < 4294967296; omega) rfl (by show (-4294967296 : Int) < grow - came; omega) (by show (grow - came : Int) < 4294967296; omega) hq6 _ _ hb23 (Rd.own hr23)).mono ?_); rintro e w24 ⟨rfl, hw24, hG26⟩)
              | (go_at_call 15; go_must (refine (noughts_any 0 (by decide) _).mono ?_); rintro e w23 ⟨v23, rfl, hr23, hb23⟩; obtain ⟨a23, c23, rfl⟩ := own_form hr23)
            exact bodyPost_ret (v := .bool true) (by simp [results, Tryz.results3, go_sem]) rfl ⟨rfl, hw26⟩

theorem lowers_any {a b c d : Int} (ha : 0 ≤ a ∧ a ≤ 65535) (hb : 0 ≤ b ∧ b ≤ 65535) (hc : 0 ≤ c ∧ c ≤ 65535) (hd : 0 ≤ d ∧ d ≤ 65535) (w : World) :
    Calls Tryz.prog 3 #[.int .u16 a, .int .u16 b, .agg #[.int .u16 c, .int .u16 d]] w fun e w' => e = .returned (.bool true) ∧ Below w.heap.size w w' := by
  obtain ⟨a, rfl⟩ := Int.eq_ofNat_of_zero_le ha.1
  obtain ⟨b, rfl⟩ := Int.eq_ofNat_of_zero_le hb.1
  obtain ⟨c, rfl⟩ := Int.eq_ofNat_of_zero_le hc.1
  obtain ⟨d, rfl⟩ := Int.eq_ofNat_of_zero_le hd.1
  by_cases h : b ≤ a ∧ b ≤ 16000
  · exact lowers_yes a b c d (by omega) (by omega) (by omega) (by omega) h.1 h.2 w
  · exact lowers_no a b (by omega) (by omega) (by omega) w
end Go.Proofs.YtmbakobindjjmaaGreatDoor
