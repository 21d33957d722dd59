/- Parts of the proof of bk_root: the texts Cnh2 Cnh3. -/
import Derived.Test.YtcodgfmombehoaaGreatDoorK41
import Derived.Test.YtcodgfmombehoaaGreatDoorK42
set_option linter.unusedSimpArgs false
set_option linter.unusedVariables false
set_option linter.unnecessarySimpa false
set_option maxRecDepth 100000
set_option maxHeartbeats 64000000
namespace Go.Proofs.YtcodgfmombehoaaGreatDoor
open Go Go.RowKit Go.Dr
variable {n : Nm} {q q' : Cq}
theorem Bytes_pair {g : Nat} {c0 c1 c2 c3 c4 c5 c6 c7 c8 c9 c10 c11 d0 d1 d2 d3 d4 d5 d6 d7 d8 d9 d10 d11 : Value} (l1 l3 : Bytes) (w : World) (hg : Blk w g 36 #[c0, c1, c2, c3, c4, c5, c6, c7, c8, c9, c10, c11, d0, d1, d2, d3, d4, d5, d6, d7, d8, d9, d10, d11]) (hl1 : l1.length ≤ 100) (hl3 : l3.length ≤ 100)
  (hP1 : ∀ w1, Below w.heap.size w w1 → Calls Tryz.prog 27 #[.agg #[c0, c1, c2, c3, c4, c5, c6, c7, c8, c9, c10, c11]] w1 fun e w' => ∃ v, e = .returned (.tuple #[v, .int .i64 0]) ∧ w'.ownsRow w1.heap.size 5 1 v l1.length (l1.map B8) ∧ Below w1.heap.size w1 w')
  (hP3 : ∀ w1, Below w.heap.size w w1 → Calls Tryz.prog 27 #[.agg #[d0, d1, d2, d3, d4, d5, d6, d7, d8, d9, d10, d11]] w1 fun e w' => ∃ v, e = .returned (.tuple #[v, .int .i64 0]) ∧ w'.ownsRow w1.heap.size 5 1 v l3.length (l3.map B8) ∧ Below w1.heap.size w1 w') :
  Calls Tryz.prog 8 #[.slice (some ⟨g, 0, none⟩) 2 2] w (OutC (l1 ++ l3) w) := by
 (have z0 : w.cell? ⟨g, 0, none⟩ = some (c0) := hg.cell 0;have z1 : w.cell? ⟨g, 1, none⟩ = some (c1) := hg.cell 1;have z2 : w.cell? ⟨g, 2, none⟩ = some (c2) := hg.cell 2;have z3 : w.cell? ⟨g, 3, none⟩ = some (c3) := hg.cell 3;have z4 : w.cell? ⟨g, 4, none⟩ = some (c4) := hg.cell 4;have z5 : w.cell? ⟨g, 5, none⟩ = some (c5) := hg.cell 5;have z6 : w.cell? ⟨g, 6, none⟩ = some (c6) := hg.cell 6;have z7 : w.cell? ⟨g, 7, none⟩ = some (c7) := hg.cell 7;have z8 : w.cell? ⟨g, 8, none⟩ = some (c8) := hg.cell 8;have z9 : w.cell? ⟨g, 9, none⟩ = some (c9) := hg.cell 9;have z10 : w.cell? ⟨g, 10, none⟩ = some (c10) := hg.cell 10;have z11 : w.cell? ⟨g, 11, none⟩ = some (c11) := hg.cell 11;have z12 : w.cell? ⟨g, 12, none⟩ = some (d0) := hg.cell 12;have z13 : w.cell? ⟨g, 13, none⟩ = some (d1) := hg.cell 13;have z14 : w.cell? ⟨g, 14, none⟩ = some (d2) := hg.cell 14;have z15 : w.cell? ⟨g, 15, none⟩ = some (d3) := hg.cell 15;have z16 : w.cell? ⟨g, 16, none⟩ = some (d4) := hg.cell 16;have z17 : w.cell? ⟨g, 17, none⟩ = some (d5) := hg.cell 17;have z18 : w.cell? ⟨g, 18, none⟩ = some (d6) := hg.cell 18;have z19 : w.cell? ⟨g, 19, none⟩ = some (d7) := hg.cell 19;have z20 : w.cell? ⟨g, 20, none⟩ = some (d8) := hg.cell 20;have z21 : w.cell? ⟨g, 21, none⟩ = some (d9) := hg.cell 21;have z22 : w.cell? ⟨g, 22, none⟩ = some (d10) := hg.cell 22;have z23 : w.cell? ⟨g, 23, none⟩ = some (d11) := hg.cell 23)
 have hb0 := Below.refl w.heap.size w;go_enter Tryz.func8, Tryz.ntmps8
 go_wp2;refine wp_loop_rounds 3 ?_;rw [rounds_succ]
 go_wp2_with first
  | (go_at_call 27;go_must ((with_reducible refine (hP1 _ hb0).mono ?_);rintro r w2 ⟨v, rfl, hrow, hb2⟩))
  | (at_builtin;refine wpList_appAt rfl _ _ 39 rfl w.heap.size 5 (.int .u8 0) 1 1 Tryz.underlying39 (by kernel_rfl) rfl (by decide) _ _ _ rfl (World.ownsRow_nil _ _ _ _) w2.heap.size _ l1.length (l1.map B8) rfl (Rd.own hrow) (b8_one2 _) (by unfold maxLen;omega) (by omega) hb2.size ?_;intro a5 k5 w5 hown5 hg5 hat5)
 have hb5 : Below w.heap.size w w5 := hb2.trans ((but_grow hg5).below (fun k hk => by cases hk) hb2.size);simp only [Nat.zero_add, List.nil_append] at hown5;rw [rounds_succ];refine wp_cut (R := fun X => X.ownsRow w.heap.size 5 1 (.slice a5 l1.length k5) l1.length (l1.map B8) ∧ Blk X g 36 #[c0, c1, c2, c3, c4, c5, c6, c7, c8, c9, c10, c11, d0, d1, d2, d3, d4, d5, d6, d7, d8, d9, d10, d11] ∧ Below w.heap.size w X) ⟨hown5, hg.on hb5, hb5⟩ ?_;clear hown5 hb5 hrow hb2 hg5 hat5 z0 z1 z2 z3 z4 z5 z6 z7 z8 z9 z10 z11 z12 z13 z14 z15 z16 z17 z18 z19 z20 z21 z22 z23;rintro X ⟨hownX, hgX, hbX⟩
 (have z0 : X.cell? ⟨g, 0, none⟩ = some (c0) := hgX.cell 0;have z1 : X.cell? ⟨g, 1, none⟩ = some (c1) := hgX.cell 1;have z2 : X.cell? ⟨g, 2, none⟩ = some (c2) := hgX.cell 2;have z3 : X.cell? ⟨g, 3, none⟩ = some (c3) := hgX.cell 3;have z4 : X.cell? ⟨g, 4, none⟩ = some (c4) := hgX.cell 4;have z5 : X.cell? ⟨g, 5, none⟩ = some (c5) := hgX.cell 5;have z6 : X.cell? ⟨g, 6, none⟩ = some (c6) := hgX.cell 6;have z7 : X.cell? ⟨g, 7, none⟩ = some (c7) := hgX.cell 7;have z8 : X.cell? ⟨g, 8, none⟩ = some (c8) := hgX.cell 8;have z9 : X.cell? ⟨g, 9, none⟩ = some (c9) := hgX.cell 9;have z10 : X.cell? ⟨g, 10, none⟩ = some (c10) := hgX.cell 10;have z11 : X.cell? ⟨g, 11, none⟩ = some (c11) := hgX.cell 11;have z12 : X.cell? ⟨g, 12, none⟩ = some (d0) := hgX.cell 12;have z13 : X.cell? ⟨g, 13, none⟩ = some (d1) := hgX.cell 13;have z14 : X.cell? ⟨g, 14, none⟩ = some (d2) := hgX.cell 14;have z15 : X.cell? ⟨g, 15, none⟩ = some (d3) := hgX.cell 15;have z16 : X.cell? ⟨g, 16, none⟩ = some (d4) := hgX.cell 16;have z17 : X.cell? ⟨g, 17, none⟩ = some (d5) := hgX.cell 17;have z18 : X.cell? ⟨g, 18, none⟩ = some (d6) := hgX.cell 18;have z19 : X.cell? ⟨g, 19, none⟩ = some (d7) := hgX.cell 19;have z20 : X.cell? ⟨g, 20, none⟩ = some (d8) := hgX.cell 20;have z21 : X.cell? ⟨g, 21, none⟩ = some (d9) := hgX.cell 21;have z22 : X.cell? ⟨g, 22, none⟩ = some (d10) := hgX.cell 22;have z23 : X.cell? ⟨g, 23, none⟩ = some (d11) := hgX.cell 23)
 go_wp2_with first
  | (go_at_call 27;go_must ((with_reducible refine (hP3 _ hbX).mono ?_);rintro r w6 ⟨v6, rfl, hrow6, hb6⟩;have hown6 := own_below hownX hb6))
  | (at_builtin;refine wpList_appAt rfl _ _ 39 rfl w.heap.size 5 (.int .u8 0) 1 1 Tryz.underlying39 (by kernel_rfl) rfl (by decide) _ _ _ rfl hown6 w6.heap.size _ l3.length (l3.map B8) rfl (Rd.own hrow6) (b8_one2 _) (by unfold maxLen;omega) (by omega) (Nat.le_trans hbX.size hb6.size) ?_;intro a7 k7 w7 hown7 hg7 hat7)
 rw [rounds_succ];go_wp2;go_ret;exact ⟨_, rfl, by simpa using hown7, (hbX.trans (hb6.mono hbX.size)).trans ((but_grow hg7).below (fun k hk => by exact (own_lt hown6 hk).1) (Nat.le_trans hbX.size hb6.size))⟩
theorem bytesSet {g sb : Nat} (v : Nat) (hv : v < 4294967296) (w : World) (hs : Blk w sb 33 #[.int .i64 4, .int .i64 (v : Int)]) (hg : Blk w g 36 #[.int .i64 4, .int .i64 0, .int .i64 0, S [], .int .i64 0, .slice (some ⟨sb, 0, none⟩) 1 1, .int .i64 0, .int .i64 0, .int .i64 0, .int .i64 0, .int .i64 0, .bool false, .int .i64 1, .int .i64 5, .int .i64 1, S dS, .int .i64 0, .slice none 0 0, .int .i64 0, .int .i64 0, .int .i64 0, .int .i64 0, .int .i64 0, .bool false]) :
  Calls Tryz.prog 8 #[.slice (some ⟨g, 0, none⟩) 2 2] w (OutC (frB 4 0 0 (beP 4 2 ++ beP v 4) ++ frB 1 5 1 dS) w) := by
 refine Bytes_pair (frB 4 0 0 (beP 4 2 ++ beP v 4)) (frB 1 5 1 dS) w hg (by rw [frB_length];simp [beP]) (by rw [frB_length];decide) (fun w1 hb => ?_) (fun w1 hb => ?_)
 ·rw [frB_length]
  exact put_Set1 sb v hv w1 (hs.on hb)
 ·rw [frB_length]
  exact put_HdS5 1 (by decide) dS (by decide) w1
theorem bytesWin {g : Nat} (w : World) (hg : Blk w g 36 #[.int .i64 8, .int .i64 0, .int .i64 1, S [], .int .i64 0, .slice none 0 0, .int .i64 0, .int .i64 0, .int .i64 100000, .int .i64 0, .int .i64 0, .bool false, .int .i64 8, .int .i64 0, .int .i64 0, S [], .int .i64 0, .slice none 0 0, .int .i64 0, .int .i64 0, .int .i64 100000, .int .i64 0, .int .i64 0, .bool false]) :
  Calls Tryz.prog 8 #[.slice (some ⟨g, 0, none⟩) 2 2] w (OutC (frB 8 0 1 (beP 100000 4) ++ frB 8 0 0 (beP 100000 4)) w) := by
 refine Bytes_pair (frB 8 0 1 (beP 100000 4)) (frB 8 0 0 (beP 100000 4)) w hg (by rw [frB_length];simp [beP]) (by rw [frB_length];simp [beP]) (fun w1 hb => ?_) (fun w1 hb => ?_)
 ·rw [frB_length]
  exact put_WinS 1 (by decide) 100000 (by decide) w1
 ·rw [frB_length]
  exact put_WinS 0 (by decide) 100000 (by decide) w1
theorem tkw_0 : Tk 16384 8 0 0 (beP 100000 4) { ty := 8, st := 0, inc := 100000 } := ⟨by decide, by decide, by decide, by decide, by decide, by decide, by first | rfl | kernel_rfl, by decide, by decide⟩
theorem tkw_1 : Tk 16384 8 0 1 (beP 100000 4) { ty := 8, st := 1, inc := 100000 } := tk_win (by decide) (by decide) (by decide)
def qtk (v : Nat) : Nat → Cq
 | 0 => { q22 bs22 with news := [], pre := 24 }
 | 1 => qg1 bs22 v
 | _ => qt v
theorem Take_set {F : Nat → Prop} (v : Nat) (hv : v ≤ 65535) (vb : Value) (w : World) (h : Cw w n (q22 bs22) F) (hb : By w.heap.size w vb (prefB ++ (frB 4 0 0 (beP 4 2 ++ beP v 4) ++ frB 1 5 1 dS))) :
  Calls Tryz.prog 7 #[Ptr n.c, vb] w fun e w' => ∃ v2 j, e = .returned v2 ∧ w'.ownsRow n.B 68 10 v2 j (qt v).news ∧ Goes w n F w' (qt v) := by
 have hT := Taken_any w h rfl vb [(({ ty := 4, sets := [(4, v)] } : Fr), ({} : Ft)), (({ ty := 1, fl := 5, st := 1, data := dS } : Fr), ({} : Ft))] (qtk v) rfl
  (by intro k hk;match k, hk with | 0, _ => rfl | 1, _ => rfl)
  (fun W F1 hbW eW hW => by
   obtain ⟨m', hx', -⟩ := hW;have hl2 : (frB 4 0 0 (beP 4 2 ++ beP v 4) ++ frB 1 5 1 dS).length = 31 := (by rw [List.length_append, frB_length, frB_length];first | (simp [beP];done) | (simp [beP];decide));refine take_first (l := frB 4 0 0 (beP 4 2 ++ beP v 4) ++ frB 1 5 1 dS) hx'.feed ?_ (by rw [hl2];decide) (itemsF_2 (tk_set1 (by decide) (by omega)) (tk_headS 1 (by decide) (by decide) dS (by decide) 5 (.inr rfl)) (by decide) (by rw [hl2];decide));rw [eW];obtain ⟨m, hx, rfl⟩ := h
   exact (hb.off hx.blk hx.no_b8 21 (.slice none 0 0)).mono (Nat.le_of_eq (by simp)))
  (fun k hk w1 F1 sa sc h1 hs => by
   match k, hk with
   | 0, _ => exact Item_set1 bs22 (by decide +kernel) v (by omega) w1 h1 hs
   | 1, _ => exact Item_get w1 h1 rfl rfl 1 (by decide) (by decide) rfl true [132] [47] (fun a b => run_132 a b) (by decide) (by decide) (.inl rfl) (show (300 : Int) ≤ 4000 by decide) (show (0 : Int) ≤ 4096 by decide) rfl rfl (show ((0 : Nat) : Int) < 3 by decide) (show 0 < 1000 by decide) (show 0 < 1000 by decide) (show 0 ≤ 10000000 by decide) (fun p hp => by cases hp) (fun p hp => by cases hp) (show (0 : Int) < ((1 : Nat) : Int) by decide))
 exact hT
theorem Take_duo {F : Nat → Prop} {ty fl st ty2 fl2 st2 : Nat} {pl pl2 : Bytes} {f f2 : Fr} (hk : Tk 16384 ty fl st pl f) (hk2 : Tk 16384 ty2 fl2 st2 pl2 f2) (hs2 : f2.sets = []) (w : World) (h : Cw w n q F) (hov : q.over = false) (hpre : q.pre = 24) (vb : Value) (hb : By w.heap.size w vb (frB ty fl st pl ++ frB ty2 fl2 st2 pl2)) (q1 q2 : Cq) (hov1 : q1.over = false)
  (hIt : ∀ w1 F1 sa sc, Cw w1 n { q with news := [] } F1 → Calls Tryz.prog 26 #[Ptr n.c, itmV f (.slice sa f.sets.length sc) {}] w1 fun r w' => r = .returned (.tuple #[]) ∧ Goes w1 n F1 w' q1)
  (hIt2 : ∀ w1 F1 sa sc, Cw w1 n q1 F1 → Calls Tryz.prog 26 #[Ptr n.c, itmV f2 (.slice sa f2.sets.length sc) {}] w1 fun r w' => r = .returned (.tuple #[]) ∧ Goes w1 n F1 w' q2) :
  Calls Tryz.prog 7 #[Ptr n.c, vb] w fun e w' => ∃ v j, e = .returned v ∧ w'.ownsRow n.B 68 10 v j q2.news ∧ Goes w n F w' q2 := by
 have hlen := frB_length ty fl st pl;have hlen2 := frB_length ty2 fl2 st2 pl2;have hpl := hk.len;have hpl2 := hk2.len;have hla : (frB ty fl st pl ++ frB ty2 fl2 st2 pl2).length ≤ 40000 := (by rw [List.length_append];omega)
 exact Taken_any w h hov vb [(f, ({} : Ft)), (f2, ({} : Ft))] (fun k => if k = 0 then { q with news := [], pre := 24 } else if k = 1 then q1 else q2) rfl
  (by intro k hk;match k, hk with | 0, _ => exact hov | 1, _ => exact hov1)
  (fun W F1 hbW eW hW => by
   obtain ⟨m', hx', -⟩ := hW;have hfd := hx'.feed;rw [show ({ q with news := [] } : Cq).pre = 24 from hpre] at hfd;refine take_then (l := frB ty fl st pl ++ frB ty2 fl2 st2 pl2) hfd ?_ (by omega) (itemsF_2 hk hk2 (by decide) (by rw [List.length_append];omega));rw [eW];obtain ⟨m, hx, rfl⟩ := h
   exact (hb.off hx.blk hx.no_b8 21 (.slice none 0 0)).mono (Nat.le_of_eq (by simp)))
  (fun k hkl w1 F1 sa sc h1 hs => by
   match k, hkl with
   | 0, _ =>
    have e : ({ q with news := [], pre := 24 } : Cq) = { q with news := [] } := (by rw [← hpre]);exact hIt w1 F1 sa sc (e ▸ h1)
   | 1, _ => exact hIt2 w1 F1 sa sc h1)
theorem Win_item {F : Nat → Prop} {sa : Option Addr} {sc : Nat} {st : Nat} (hst : st = 0 ∨ st = 1) (w : World) (h : Cw w n q F) (hgr : q.greeted = true) (hfo : q.fo = 0) (q' : Cq) (hov : ({ q' with over := q'.over || (q'.drained && q'.live.isEmpty) } : Cq) = q')
  (hG : ∀ w1 F1, Cw w1 n q F1 → Calls Tryz.prog 91 #[Ptr n.c, .agg #[.int .i64 8, .int .i64 0, .int .i64 (st : Int), S [], .int .i64 0, .slice sa 0 sc, .int .i64 0, .int .i64 0, .int .i64 100000, .int .i64 0, .int .i64 0, .bool false]] w1 fun r w' => r = .returned (.tuple #[]) ∧ Goes w1 n F1 w' q') :
  Calls Tryz.prog 26 #[Ptr n.c, itmV { ty := 8, st := st, inc := 100000 } (.slice sa 0 sc) {}] w fun r w' => r = .returned (.tuple #[]) ∧ Goes w n F w' q' := by
 rcases hst with rfl | rfl
 ·exact Item_then (d := []) (x4 := 0) (sa := sa) (sk := 0) (sc := sc) (x6 := 0) (x7 := 0) (x8 := 100000) (x9 := 0) (x10 := 0) (x11 := false) (ty := 8) (fl := 0) (st := 0) (q' := q') w h hgr hfo (by decide) (by decide) 91 rfl (run_en Tryz.func91 (by kernel_rfl) rfl) (fun w1 F1 h1 => hG w1 F1 h1) q' hov
 ·exact Item_then (d := []) (x4 := 0) (sa := sa) (sk := 0) (sc := sc) (x6 := 0) (x7 := 0) (x8 := 100000) (x9 := 0) (x10 := 0) (x11 := false) (ty := 8) (fl := 0) (st := 1) (q' := q') w h hgr hfo (by decide) (by decide) 91 rfl (run_en Tryz.func91 (by kernel_rfl) rfl) (fun w1 F1 h1 => hG w1 F1 h1) q' hov
theorem Take_win {c B v : Nat} {body : Bytes} {fs : List (Bytes × Bool)} {pend : Bytes} {fin : Bool} (w : World) (h : Cp w c B (qr v 0 body fs pend fin)) (hB : B ≤ w.heap.size) (hr : Run body fs pend fin) (hbody : body.length ≤ 60000) (hv : v ≤ 65535) (vb : Value) (hb : By w.heap.size w vb (frB 8 0 1 (beP 100000 4) ++ frB 8 0 0 (beP 100000 4))) :
  Calls Tryz.prog 7 #[Ptr c, vb] w fun e w' => ∃ v2, e = .returned v2 ∧ Cp w' c B (qr v 100000 body fs pend fin) ∧ Below B w w' := by
 obtain ⟨n, F, rfl, rfl, hC⟩ := h;have hle := hr.le;have hn : nw v 100000 = [] := (by simp [nw]);obtain ⟨T, eT⟩ : ∃ T : Int, T = (body.length : Int) - (pend.length : Int) := ⟨_, rfl⟩;have ea : (65535 : Int) + 0 - T + 100000 = 65535 + 100000 - T := (by omega);have eo : (0 : Int) - T + 100000 = 100000 - T := (by omega)
 cases fin with
 | true =>
  have e2 : qr v 100000 body fs pend true = qs v [] (baseB ++ fb fs) [] [] (65535 + 0 - T + 100000) := (by rw [ea, eT, ← hn];rfl)
  have hT := Take_duo (q1 := qs v [] (baseB ++ fb fs) [] [] (65535 + 0 - T)) (q2 := qs v [] (baseB ++ fb fs) [] [] (65535 + 0 - T + 100000)) tkw_1 tkw_0 rfl w hC rfl rfl vb hb rfl
   (fun w1 F1 sa sc h1 => Win_item (.inr rfl) w1 (show Cw w1 n (qs v [] (baseB ++ fb fs) [] [] (65535 + 0 - T)) F1 by rw [eT];exact h1) rfl rfl _ rfl (fun w2 F2 h2 => Grow_done w2 h2 1 (by decide) (fun p hp => by cases hp) (fun p hp => by cases hp) (by decide) (by show ¬ ((1 : Nat) : Int) < 1;decide) (by decide) (by show ((1 : Nat) : Int) < 4294967296;decide)))
   (fun w1 F1 sa sc h1 => Win_item (.inl rfl) w1 h1 rfl rfl _ rfl (fun w2 F2 h2 => Grow_all w2 h2 100000 (by decide) (by decide) (by show (65535 : Int) + 0 - T ≤ _;omega) (by show _ ≤ (65535 : Int) + 0 - T;omega)))
  refine hT.mono ?_;rintro r w' ⟨v2, j, rfl, -, hG⟩;obtain ⟨hP, hbw⟩ := cp_goes hC hB hG;rw [e2];exact ⟨v2, rfl, hP, hbw⟩
 | false =>
  have e2 : qr v 100000 body fs pend false = qs v [] (baseB ++ fb fs) [(((1 : Nat) : Int), spw pend)] [(((1 : Nat) : Int), 0 - T + 100000)] (65535 + 0 - T + 100000) := (by rw [ea, eo, eT, ← hn];rfl)
  have hT := Take_duo (q1 := qs v [] (baseB ++ fb fs) [(((1 : Nat) : Int), spw pend)] [(((1 : Nat) : Int), 0 - T + 100000)] (65535 + 0 - T)) (q2 := qs v [] (baseB ++ fb fs) [(((1 : Nat) : Int), spw pend)] [(((1 : Nat) : Int), 0 - T + 100000)] (65535 + 0 - T + 100000)) tkw_1 tkw_0 rfl w hC rfl rfl vb hb rfl
   (fun w1 F1 sa sc h1 => Win_item (.inr rfl) w1 (show Cw w1 n (qs v [] (baseB ++ fb fs) [(((1 : Nat) : Int), spw pend)] [(((1 : Nat) : Int), 0 - T)] (65535 + 0 - T)) F1 by rw [eT];exact h1) rfl rfl _ rfl (fun w2 F2 h2 => Grow_live w2 h2 ((1 : Nat) : Int) (by decide) 100000 (by decide) (by decide) (s := spw pend) (.head _) rfl (by decide) (by show ¬ ((1 : Nat) : Int) < ((1 : Nat) : Int);decide) (by decide) (by show ((1 : Nat) : Int) < 4294967296;decide) (y := 0 - T) rfl (by show I64 ((v : Int) + (0 - T));constructor <;> omega) (by show (v : Int) + (0 - T) ≤ _;omega) (by constructor <;> omega)))
   (fun w1 F1 sa sc h1 => Win_item (.inl rfl) w1 h1 rfl rfl _ rfl (fun w2 F2 h2 => Grow_all w2 h2 100000 (by decide) (by decide) (by show (65535 : Int) + 0 - T ≤ _;omega) (by show _ ≤ (65535 : Int) + 0 - T;omega)))
  refine hT.mono ?_;rintro r w' ⟨v2, j, rfl, -, hG⟩;obtain ⟨hP, hbw⟩ := cp_goes hC hB hG;rw [e2];exact ⟨v2, rfl, hP, hbw⟩
theorem Head_st {c B sb v : Nat} {body : Bytes} (w : World) {n : Nm} {F : Nat → Prop} (hC : Cw w n (qt v) F) (hc : n.c = c) (hB' : n.B = B) (hB : B ≤ w.heap.size) (hf : n.Fresh) (hS : Blk w sb 45 #[S [97], S [98], .bool false]) :
  Calls Tryz.prog 10 #[Ptr c, .int .i64 1, .int .i64 200, .slice (some ⟨sb, 0, none⟩) 1 1, .bool false] w fun r w' => r = .returned (.int .i64 0) ∧ Cp w' c B (qs v (nw v 0) baseB [(((1 : Nat) : Int), { st := 2, headed := true })] [(((1 : Nat) : Int), 0)] 65535) ∧ Below B w w' := by
 subst hc;subst hB';refine (Head_two w hC hf hS 1 (by decide) (a := []) (c := []) (s := { st := 2 }) rfl rfl rfl rfl rfl rfl (by show (bs22 ++ frB 4 1 0 []).length ≤ _;decide +kernel)).mono ?_;rintro r w' ⟨rfl, n4, h1, h2, hG⟩;refine ⟨rfl, ?_, ?_⟩
 ·obtain ⟨F', h3, -⟩ := hG
  exact ⟨n4, F', h1, h2, h3⟩
 ·obtain ⟨F', -, hb, -⟩ := hG
  exact hb.below (fun k hk => hC.lo hk) hB
theorem Send_st {c B v : Nat} {body : Bytes} (w : World) (h : Cp w c B (qs v (nw v 0) baseB [(((1 : Nat) : Int), { st := 2, headed := true })] [(((1 : Nat) : Int), 0)] 65535)) (hB : B ≤ w.heap.size) (hbody : body.length ≤ 60000) :
  Calls Tryz.prog 11 #[Ptr c, .int .i64 1, S body, .bool true] w fun r w' => r = .returned (.int .i64 0) ∧ Cp w' c B (qr v 0 body [] body false) ∧ Below B w w' := by
 obtain ⟨n, F, rfl, rfl, hC⟩ := h;refine (Send_one w hC ((1 : Nat) : Int) (by decide) (s := { st := 2, headed := true }) rfl rfl rfl rfl rfl body hbody).mono ?_;rintro r w' ⟨rfl, hG⟩;obtain ⟨hP, hbw⟩ := cp_goes hC hB hG
 have e2 : qr v 0 body [] body false = qs v (nw v 0) baseB [(((1 : Nat) : Int), spw body)] [(((1 : Nat) : Int), 0)] 65535 := by
  have e1 : (0 : Int) - ((body.length : Int) - (body.length : Int)) = 0 := (by omega);have e3 : (65535 : Int) + 0 - ((body.length : Int) - (body.length : Int)) = 65535 := (by omega);unfold qr;rw [e1, e3, show fb [] = [] from rfl, List.append_nil];rfl
 rw [e2];exact ⟨rfl, hP, hbw⟩
end Go.Proofs.YtcodgfmombehoaaGreatDoor
namespace Go.Dr
open Go Go.RowKit
theorem wp_appFull {P : Program} {o : Oper} {a : Act} {K : Act → World → Prop} {Q : Exit → Act → World → Prop} {w : World} (s x : Operand) (t : TypeId)
  (ho : o.op = .call { callee := .builtin .append, args := #[s, x], argTypes := #[t, t] })
  (base : Nat) (e : TypeId) (z : Value) (size bytes : Nat) (ht : P.underlying t = some (.slice e)) (hi : (P.info? e).map (fun i => (i.zero, i.size, i.bytes)) = some (some z, size, bytes))
  (hzs : z.cells.size = size) (b : Addr) (n : Nat) (olds : List Value) (hs : a.eval s = .slice (some b) n n) (hlo : olds.length = n * size) (holds : ∀ j v, olds[j]? = some v → w.cell? (b.add j) = some v)
  (B : Nat) (vs : Value) (m : Nat) (news : List Value) (hx : a.eval x = vs) (hsrc : Rd B w size vs m news) (hm0 : 0 < m)
  (hm : n + m ≤ maxLen) (hbytes : (n + m) * bytes ≤ 140737488355328) (hbase : base ≤ w.heap.size)
  (h : ∀ a' c' w', w'.ownsRow base e size (.slice a' (n + m) c') (n + m) (olds ++ news) → Below base w w' → K (a.put o.dst (.slice a' (n + m) c')) w') : Oper.wp P o a w K Q := by
 obtain ⟨ad, cap, rfl, h2, h3, h4, h5, h6⟩ := hsrc
 cases ad with
 | none => have := h5 rfl;omega
 | some ad =>
  obtain ⟨i, hi, hz, hsize, hby⟩ := info_parts hi;subst hsize hby;have hsmall : n + m ≤ 9223372036854775807 := (by simp only [maxLen] at hm;omega);have hlen : (olds ++ news).length = (n + m) * i.size := (by rw [List.length_append, hlo, h4, Nat.add_mul])
  have hnews : ∀ j u, news[j]? = some u → w.cell? (ad.add j) = some u := by
   intro j u hu;obtain ⟨b', off, e1, _, e3⟩ := h6 j u hu;obtain rfl := Option.some.inj e1;rw [Addr.add_lit];exact e3
  have hr := Go.run_append_grow (P := P) w t o.type e i z ht ‹P.info? e = some i› hz b n n olds hlo holds ad m cap news h4 hnews (by omega) (by omega) (Go.growslice_fits (by omega) hbytes);have hge := grownCap_ge w (n + m) n e;have hcm2 : grownCap w (n + m) n e ≤ maxLen := grownCap_le_maxLen w (n + m) n e hm;unfold Oper.wp execOp;simp only [ho, resolve, invoke, builtin, Sem.run_bind, Sem.run_pure, Result.andThen_ok, List.map_toArray, List.map_cons, List.map_nil, hs, hx, hr];refine h _ _ _ ⟨hlen, .inr ⟨w.heap.size, _, _, rfl, hbase, heap_alloc_new w.drew _, hge, hcm2, ?_, ?_⟩⟩ ((Below.refl _ _).drew.alloc hbase _)
  ·simp only [Array.size_append, List.size_toArray, Go.size_zeroCells, hzs, hlo, h4, ← Nat.add_mul]
   congr 1
   omega
  ·simp only [Array.toList_append, List.append_assoc]
   rw [← List.append_assoc, ← hlen];exact List.take_left
theorem heap_al {w : World} {p : Nat} {o : Obj} (h : w.heap[p]? = some o) (o2 : Obj) : (w.alloc o2).heap[p]? = some o := by
 rw [← h]
 first
  | exact heap_alloc_old w o2 (lt_of_block h)
  | exact heap_alloc_old w o2 p (lt_of_block h)
theorem heap_new (w : World) (o : Obj) : (w.alloc o).heap[w.heap.size]? = some o := heap_alloc_new w o
theorem heap_bel {y w : World} {p : Nat} {o : Obj} (h : y.heap[p]? = some o) (k : Below y.heap.size y w) : w.heap[p]? = some o := (k.block p (lt_of_block h)).trans h
theorem conv_at {P : Program} {X : World} (W : World) (g : Nat) (t e : TypeId) (C : Array Value) (ht : P.underlying t = some (.slice e)) (he : P.underlying e = some (.int .u8)) (h : W.heap[g]? = some (.cells C e (0, 0))) (hX : Below X.heap.size X W) (hg : X.heap.size ≤ g) :
  ∃ Wk, (convert t t (.slice (some ⟨g, 0, none⟩) C.size C.size)).run P W = .ok (.slice (some ⟨g, 0, none⟩) C.size C.size) Wk ∧ But (fun k => k = g) W Wk ∧ Wk.heap[g]? = some (.cells C e (C.size, C.size + 1)) ∧ Below X.heap.size X Wk := by
 have hsh : W.shape? g = some (e, C.size) := by
  unfold World.shape?;rw [h]
 have hrun : (convert t t (.slice (some ⟨g, 0, none⟩) C.size C.size)).run P W = .ok (.slice (some ⟨g, 0, none⟩) C.size C.size) (W.freeze ⟨g, C.size, none⟩ 1) := by
  simp [convert, run_underlying ht, run_underlying he, markStringish, hsh]
 have hbut : But (fun k => k = g) W (W.freeze ⟨g, C.size, none⟩ 1) := by
  unfold World.freeze;rw [if_neg (by decide)];refine ⟨rfl, rfl, rfl, by simp, fun i hi hne => ?_⟩;simp only [Array.getElem?_modify];rw [if_neg (fun e => hne e.symm)]
 have hobj : (W.freeze ⟨g, C.size, none⟩ 1).heap[g]? = some (.cells C e (C.size, C.size + 1)) := by
  unfold World.freeze;rw [if_neg (by decide)];simp only [Array.getElem?_modify, if_true, h];rfl
 exact ⟨_, hrun, hbut, hobj, hX.trans (hbut.below (fun k hk => by rw [hk];exact hg) hX.size)⟩
theorem below_al {a w : World} (h : Below a.heap.size a w) (o : Obj) : Below a.heap.size a (w.alloc o) := h.alloc h.size o
theorem below_then {a x y : World} (h : Below a.heap.size a x) (k : Below x.heap.size x y) : Below a.heap.size a y := h.trans (k.mono h.size)
end Go.Dr
namespace Go.Proofs.YtcodgfmombehoaaGreatDoor
open Go Go.RowKit Go.Dr
theorem conv_pref {X : World} (W : World) (g : Nat) (h : W.heap[g]? = some (.cells prefC 5 (0, 0))) (hX : Below X.heap.size X W) (hg : X.heap.size ≤ g) :
 ∃ Wk, (convert 39 39 (.slice (some ⟨g, 0, none⟩) 24 24)).run Tryz.prog W = .ok (.slice (some ⟨g, 0, none⟩) 24 24) Wk ∧ But (fun k => k = g) W Wk ∧ Wk.heap[g]? = some (.cells prefC 5 (24, 25)) ∧ Below X.heap.size X Wk := conv_at W g _ _ prefC Tryz.underlying39 Tryz.underlying5 h hX hg
theorem blk_keeps {w w' : World} {n : Nm} {F : Nat → Prop} {q q' : Cq} {b : Nat} {xs : Array Value} (hC : Cw w n q F) (h : Blk w b 36 xs) (hG : Goes w n F w' q') : Blk w' b 36 xs := by
 obtain ⟨F1, -, hb, -⟩ := hG;refine h.block (hb.block b h.lt fun hF => ?_);have h1 := kd_blk h
 rcases hC.sort hF with e | e | e | e | e | e | e | e | e | e | e <;> (rw [h1] at e;exact absurd e (by decide))
theorem pb_cells {w : World} {p : Nat} (h : w.heap[p]? = some (.cells prefC 5 (24, 25))) : ∀ j v, prefC.toList[j]? = some v → w.cell? ((⟨p, 0, none⟩ : Addr).add j) = some v := by
 intro j v hj;rw [Addr.add_lit, Nat.zero_add];simp only [World.cell?, h];simpa using hj
abbrev setC (sb : Nat) : Array Value := #[.int .i64 4, .int .i64 0, .int .i64 0, S [], .int .i64 0, .slice (some ⟨sb, 0, none⟩) 1 1, .int .i64 0, .int .i64 0, .int .i64 0, .int .i64 0, .int .i64 0, .bool false]
abbrev pairC (sb : Nat) : Array Value := #[.int .i64 4, .int .i64 0, .int .i64 0, S [], .int .i64 0, .slice (some ⟨sb, 0, none⟩) 1 1, .int .i64 0, .int .i64 0, .int .i64 0, .int .i64 0, .int .i64 0, .bool false, .int .i64 1, .int .i64 5, .int .i64 1, S dS, .int .i64 0, .slice none 0 0, .int .i64 0, .int .i64 0, .int .i64 0, .int .i64 0, .int .i64 0, .bool false]
theorem by_set {w : World} {base : Nat} {v : Value} {l : Bytes} (h : w.ownsRow base 5 1 v (24 + l.length) (prefC.toList ++ l.map B8)) : By w.heap.size w v (prefB ++ l) := own_by (base := base) (by_hello h)
theorem by_set2 {w : World} {base : Nat} {v : Value} {l l2 : Bytes} (h : w.ownsRow base 5 1 v (24 + l.length) (prefC.toList ++ l.map B8)) (e : l = l2) : By w.heap.size w v (prefB ++ l2) := e ▸ by_set h
theorem set_len (v : Nat) : 0 < (frB 4 0 0 (beP 4 2 ++ beP v 4) ++ frB 1 5 1 dS).length ∧ (frB 4 0 0 (beP 4 2 ++ beP v 4) ++ frB 1 5 1 dS).length ≤ 100 := by
 have h1 : (beP 4 2 ++ beP v 4).length = 6 := (by simp [beP]);have h2 : dS.length = 7 := (by decide);rw [List.length_append, frB_length, frB_length, h1, h2];omega
end Go.Proofs.YtcodgfmombehoaaGreatDoor
