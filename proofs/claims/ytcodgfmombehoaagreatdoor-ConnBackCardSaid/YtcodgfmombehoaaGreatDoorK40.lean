/- Parts of the proof of bk_root: the texts Cne3 Cne4 Cne5 Oct Cne6 Cng2 Cng7. -/
import Derived.Shelf.Small.Strs
import Derived.Shelf.Small.Utf8
import Derived.Shelf.Strings.AsciiSet
import Derived.Shelf.Strings.Runes
import Derived.Shelf.Strings.Search1
import Derived.Shelf.Strings.SlTrimAscii
import Derived.Shelf.Strings.Trim
import Derived.Shelf.Unicode.DecodeSlow
import Derived.Test.YtcodgfmombehoaaGreatDoorK39
import Derived.Test.YtcodgfmombehoaaGreatDoorProg
import Derived.Test.YtcodgfmombehoaaGreatDoorRows
import Derived.Test.YtcodgfmombehoaaGreatDoorK37
set_option linter.unusedSimpArgs false
set_option linter.unusedVariables false
set_option linter.unnecessarySimpa false
set_option maxRecDepth 100000
set_option maxHeartbeats 64000000
namespace Go.Proofs.YtcodgfmombehoaaGreatDoor
open Go Go.RowKit Go.Dr
structure Enc0 (w : World) (e t m1 m2 : Nat) : Prop where
 enc : Blk w e 129 #[.int .i64 4096, .int .i64 4096, .int .i64 4096, Ptr t]
 tab : Blk w t 176 #[.int .i64 4096, .int .i64 0, .slice none 0 0, .int .i64 0, .map (some m1), .map (some m2)]
 o1 : w.heap[m1]? = some (.map #[] 0)
 o2 : w.heap[m2]? = some (.map #[] 0)
theorem Enc0.on {w w' : World} {e t m1 m2 : Nat} (h : Enc0 w e t m1 m2) (hb : Below w.heap.size w w') : Enc0 w' e t m1 m2 := ⟨h.enc.on hb, h.tab.on hb, obj_below h.o1 hb (lt_of_block h.o1), obj_below h.o2 hb (lt_of_block h.o2)⟩
theorem Enc0.drew {w : World} {e t m1 m2 : Nat} (h : Enc0 w e t m1 m2) : Enc0 w.drew e t m1 m2 := h.on (Below.refl _ _).drew
abbrev abV : Value := .agg #[S [97], S [98], .bool false]
abbrev abP : List Value := [.int .u8 64, .int .u8 1, .int .u8 97, .int .u8 1, .int .u8 98]
theorem Named_ab {e t m1 m2 : Nat} (w : World) (h : Enc0 w e t m1 m2) : Calls Tryz.prog 132 #[Ptr e, .int .u8 64, .int .i64 6, abV] w fun r w' => (∃ v, r = .returned v ∧ w'.ownsRow w.heap.size 5 1 v 5 abP) ∧ Below w.heap.size w w' := by
 obtain ⟨W, eW⟩ : ∃ W, W = w.alloc (.cells #[S [97], S [98], .bool false] 45) := ⟨_, rfl⟩;have hF : Blk W w.heap.size 45 #[S [97], S [98], .bool false] := (by rw [eW];exact Blk.new _ _ _);have hb : Below w.heap.size w W := (by rw [eW];exact (Below.refl _ _).alloc (Nat.le_refl _) _);have hW := h.on hb;have z0 : W.cell? ⟨w.heap.size, 0, none⟩ = some (S [97]) := hF.cell 0;have z1 : W.cell? ⟨w.heap.size, 1, none⟩ = some (S [98]) := hF.cell 1;have z2 : W.cell? ⟨w.heap.size, 2, none⟩ = some (.bool false) := hF.cell 2;have y3 : W.cell? ⟨e, 3, none⟩ = some (Ptr t) := hW.enc.cell 3;have hFi := Find_ab W.drew hW.tab.drew hW.o1 hW.o2;go_enter Tryz.func132, Tryz.ntmps132
 go_upto_region 1 with fail;rw [← eW];clear eW
 go_region_with (go_at_call 102;go_must ((with_reducible refine hFi.mono ?_);rintro r w2 ⟨rfl, hb2⟩;have hb2 := (Below.refl _ W).drew.trans hb2;have hF2 := hF.on hb2;have hz2 := hb2))
 all_goals
  go_wp2_with first
   | (at_builtin;have tok := hr6;go_must (refine wpList_appRd rfl _ _ 39 rfl W.heap.size 5 (.int .u8 0) 1 1 Tryz.underlying39 (by kernel_rfl) rfl (by decide) _ _ _ rfl hr5 _ _ _ _ rfl (Rd.own hr6) (b8_one2 [1, 98]) (by decide) (by decide) hz6.size ?_);intro a7 c7 w7 hr7 hb7)
   | (go_at_call 150;have tok := hr5;go_must ((with_reducible refine (PutText_98 _).mono ?_);rintro r w6 ⟨⟨v6, rfl, hr6⟩, hb6⟩;obtain ⟨a6, c6, rfl⟩ := own_form hr6;have hr5 := own_below hr5 hb6;have hz6 := hz5.trans (hb6.mono hz5.size)))
   | (at_builtin;have tok := hr4;go_must (refine wpList_appRd rfl _ _ 39 rfl W.heap.size 5 (.int .u8 0) 1 1 Tryz.underlying39 (by kernel_rfl) rfl (by decide) _ _ _ rfl hr3 _ _ _ _ rfl (Rd.own hr4) (b8_one2 [1, 97]) (by decide) (by decide) hz4.size ?_);intro a5 c5 w5 hr5 hb5;have hz5 := hz4.trans hb5;have x1 : w5.cell? ⟨w.heap.size, 1, none⟩ = some (S [98]) := (hF4.below hb5 hF.lt).cell 1)
   | (go_at_call 150;have tok := hr3;go_must ((with_reducible refine (PutText_97 _).mono ?_);rintro r w4 ⟨⟨v4, rfl, hr4⟩, hb4⟩;obtain ⟨a4, c4, rfl⟩ := own_form hr4;have hr3 := own_below hr3 hb4;have hz4 := hz3.trans (hb4.mono hz3.size);have hF4 := hF3.on hb4))
   | (go_at_call 100;go_must ((with_reducible refine (Number_forty _).mono ?_);rintro r w3 ⟨rfl, hB3, hb3⟩;have hr3 : w3.ownsRow W.heap.size 5 1 (.slice (some ⟨w2.heap.size, 0, none⟩) 1 1) 1 [.int .u8 64] := own_of_blk hB3 hb2.size rfl rfl (by decide);have hz3 := hz2.trans (hb3.mono hz2.size);have hF3 := hF2.on hb3;have x0 : w3.cell? ⟨w.heap.size, 0, none⟩ = some (S [97]) := hF3.cell 0))
  go_ret;exact ⟨⟨_, rfl, own_base hr7 hb.size⟩, hb.trans ((hz6.trans hb7).mono hb.size)⟩
open Go Go.RowKit Go.Dr
theorem Way_ab {e t m1 m2 : Nat} (w : World) (h : Enc0 w e t m1 m2) : Calls Tryz.prog 65 #[Ptr e, abV] w fun r w' => r = .returned (.func (.func 105) #[Ptr e] #[]) ∧ Below w.heap.size w w' := by
 have hmf : ∀ (fn : Fn) (first cap : Array Value) (w : World), (Instr.makeFunc fn first cap).run Tryz.prog w = .ok (.func fn first cap) w := fun _ _ _ _ => rfl
 obtain ⟨W, eW⟩ : ∃ W, W = w.alloc (.cells #[S [97], S [98], .bool false] 45) := ⟨_, rfl⟩;have hF : Blk W w.heap.size 45 #[S [97], S [98], .bool false] := (by rw [eW];exact Blk.new _ _ _);have hb : Below w.heap.size w W := (by rw [eW];exact (Below.refl _ _).alloc (Nat.le_refl _) _);have hW := h.on hb;have z0 : W.cell? ⟨w.heap.size, 0, none⟩ = some (S [97]) := hF.cell 0;have z1 : W.cell? ⟨w.heap.size, 1, none⟩ = some (S [98]) := hF.cell 1;have z2 : W.cell? ⟨w.heap.size, 2, none⟩ = some (.bool false) := hF.cell 2;have y3 : W.cell? ⟨e, 3, none⟩ = some (Ptr t) := hW.enc.cell 3;have hFi := Find_ab W.drew hW.tab.drew hW.o1 hW.o2;go_enter Tryz.func65, Tryz.ntmps65
 go_upto_region 1 with fail;rw [← eW];clear eW;go_upto_region 3 with fail
 go_cut [6] (fun s6 wx => s6 = .bool false ∧ Below W.heap.size W wx)
 case first =>
  go_region_with (go_at_call 102;go_must ((with_reducible refine hFi.mono ?_);rintro r w2 ⟨rfl, hb2⟩;have hb2 := (Below.refl _ W).drew.trans hb2))
  all_goals (go_wp2;go_meet;exact ⟨rfl, hb2⟩)
 case rest =>
  obtain ⟨rfl, hb2⟩ := hcut;obtain ⟨X, rfl⟩ : ∃ X, X = wc := ⟨_, rfl⟩;have hX := hW.on hb2;have hFX := hF.on hb2;have hbX := hb.trans (hb2.mono hb.size);clear hFi z0 z1 z2 y3 hW hF hb hb2 h;have z0 : X.cell? ⟨w.heap.size, 0, none⟩ = some (S [97]) := hFX.cell 0;have z1 : X.cell? ⟨w.heap.size, 1, none⟩ = some (S [98]) := hFX.cell 1;have y3 : X.cell? ⟨e, 3, none⟩ = some (Ptr t) := hX.enc.cell 3;have hMo := Most_any X.drew (hX.tab.drew.cell 0);go_upto_region 6 with fail
  go_region_with (go_at_call 99;go_must ((with_reducible refine hMo.mono ?_);rintro r w3 ⟨rfl, rfl⟩))
  all_goals
   go_wp2;go_ret;exact ⟨rfl, hbX.trans ((Below.refl _ X).drew.mono hbX.size)⟩
def TabX (w : World) (t m1 m2 : Nat) : Prop := ∃ (x1 : Int) (x2 : Value) (es2 : Array MapEntry) (c2 : Nat) (es3 : Array MapEntry) (c3 : Nat), Blk w t 176 #[.int .i64 4096, .int .i64 x1, x2, .int .i64 0, .map (some m1), .map (some m2)] ∧ w.heap[m1]? = some (.map es2 c2) ∧ w.heap[m2]? = some (.map es3 c3)
theorem Kept_ab {e t m1 m2 : Nat} (w : World) (h : Enc0 w e t m1 m2) (h12 : m1 ≠ m2) : Calls Tryz.prog 105 #[Ptr e, abV] w fun r w' => (∃ v, r = .returned v ∧ w'.ownsRow w.heap.size 5 1 v 5 abP) ∧ But (fun k => k = t ∨ k = m1 ∨ k = m2) w w' ∧ TabX w' t m1 m2 := by
 obtain ⟨W, eW⟩ : ∃ W, W = w.alloc (.cells #[S [97], S [98], .bool false] 45) := ⟨_, rfl⟩;have hF : Blk W w.heap.size 45 #[S [97], S [98], .bool false] := (by rw [eW];exact Blk.new _ _ _);have hb : Below w.heap.size w W := (by rw [eW];exact (Below.refl _ _).alloc (Nat.le_refl _) _);have hW := h.on hb;have hNa := Named_ab W hW;have z0 : W.cell? ⟨w.heap.size, 0, none⟩ = some (S [97]) := hF.cell 0;have z1 : W.cell? ⟨w.heap.size, 1, none⟩ = some (S [98]) := hF.cell 1;have z2 : W.cell? ⟨w.heap.size, 2, none⟩ = some (.bool false) := hF.cell 2;have l1 := h.tab.lt;have l2 := lt_of_block h.o1;have l3 := lt_of_block h.o2;go_enter Tryz.func105, Tryz.ntmps105
 go_upto_region 1 with fail;rw [← eW];clear eW;go_upto_region 2 with (go_at_call 132;go_must ((with_reducible refine hNa.mono ?_);rintro r w2 ⟨⟨v2, rfl, hr2⟩, hb2⟩))
 have hW2 := hW.on hb2;have hF2 := hF.on hb2;have x0 : w2.cell? ⟨w.heap.size, 0, none⟩ = some (S [97]) := hF2.cell 0;have x1 : w2.cell? ⟨w.heap.size, 1, none⟩ = some (S [98]) := hF2.cell 1;have x2 : w2.cell? ⟨w.heap.size, 2, none⟩ = some (.bool false) := hF2.cell 2;have y3 : w2.cell? ⟨e, 3, none⟩ = some (Ptr t) := hW2.enc.cell 3;have hAd := Add_abM w2.drew hW2.tab.drew hW2.o1 hW2.o2 h12;have hz2 := hb.trans (hb2.mono hb.size);obtain ⟨a2, c2, rfl⟩ := own_form hr2;clear z0 z1 z2 hNa
 go_region_with (go_at_call 135;go_must ((with_reducible refine hAd.mono ?_);rintro r w3 ⟨rfl, hT3, hb3, hm3, hn3⟩))
 all_goals
  have hb23 := (But.refl (fun k => k = t ∨ k = m1 ∨ k = m2) w2).drew.trans hb3;go_wp2;go_ret
  refine ⟨⟨_, rfl, own_base (own_same hr2 fun g hg => hb23.block g (own_lt hr2 hg).2 fun e => ?_) hb.size⟩, (But.of_below (S := fun k => k = t ∨ k = m1 ∨ k = m2) hz2).trans hb23, by
   obtain ⟨a, c, hT, -⟩ := hT3;obtain ⟨es, k, hm⟩ := hm3;obtain ⟨es', k', hn⟩ := hn3
   exact ⟨_, _, _, _, _, _, hT, hm, hn⟩⟩
  have := (own_lt hr2 hg).1
  have := hb.size
  rcases e with e | e | e <;> omega
open Go Go.RowKit Go.Dr
abbrev fA8 : F := ⟨[97], [98], false⟩
theorem Enc0.but {w w' : World} {e t m1 m2 : Nat} {S : Nat → Prop} (h : Enc0 w e t m1 m2) (hb : But S w w') (s1 : ¬ S e) (s2 : ¬ S t) (s3 : ¬ S m1) (s4 : ¬ S m2) : Enc0 w' e t m1 m2 := ⟨h.enc.but hb s1, h.tab.but hb s2, (hb.block _ (lt_of_block h.o1) s3).trans h.o1, (hb.block _ (lt_of_block h.o2) s4).trans h.o2⟩
theorem Enc0.below {w w' : World} {e t m1 m2 B : Nat} (h : Enc0 w e t m1 m2) (hb : Below B w w') (s1 : e < B) (s2 : t < B) (s3 : m1 < B) (s4 : m2 < B) : Enc0 w' e t m1 m2 := ⟨h.enc.below hb s1, h.tab.below hb s2, (hb.block _ s3).trans h.o1, (hb.block _ s4).trans h.o2⟩
theorem Encode_two {e t m1 m2 B : Nat} {v : Value} (w : World) (h : Enc0 w e t m1 m2) (hte : t ≠ e) (h12 : m1 ≠ m2) (hv : w.ownsRow B 45 3 v 2 (fcells [fStat, fA8])) (hB : e < B ∧ t < B ∧ m1 < B ∧ m2 < B) :
  Calls Tryz.prog 32 #[Ptr e, v] w fun r w' => ∃ x, r = .returned x ∧ w'.ownsRow w.heap.size 5 1 x 6 ([136, 64, 1, 97, 1, 98].map B8) ∧ Blk w' e 129 #[.int .i64 4096, .int .i64 4096, .int .i64 4096, Ptr t] ∧ But (fun k => k = e ∨ k = t ∨ k = m1 ∨ k = m2) w w' ∧ TabX w' t m1 m2 := by
 have hSz := Sizes_same w h.enc (h.tab.cell 0) hte;have n1 : m1 ≠ e := mblk h.o1 h.enc;have n2 : m2 ≠ e := mblk h.o2 h.enc;have l0 := h.enc.lt;have l1 := h.tab.lt;have l2 := lt_of_block h.o1;have l3 := lt_of_block h.o2;obtain ⟨va, vc, rfl⟩ := own_form hv;go_enter Tryz.func32, Tryz.ntmps32
 go_wp2_with (go_at_call 64;go_must ((with_reducible refine hSz.mono ?_);rintro r w2 ⟨rfl, hE2, hb2⟩))
 have hv2 := own_same hv (fun g hg => hb2.block g (hv.lt g hg.symm).2 (fun h => by have := (hv.lt g hg.symm).1;omega));have h2 : Enc0 w2 e t m1 m2 := ⟨hE2, h.tab.but hb2 hte, (hb2.block _ l2 n1).trans h.o1, (hb2.block _ l3 n2).trans h.o2⟩;have hz2 := hb2.size;obtain ⟨b, off, eab, hbl, x0, x1, x2⟩ := Fs.at (Fs.own hv2) 0 (by decide);subst eab;rw [Nat.zero_mul, Nat.add_zero] at x0 x1 x2;have x0 : w2.cell? ⟨b, off, none⟩ = some (S fStat.n) := x0;have x1 : w2.cell? ⟨b, off + 1, none⟩ = some (S fStat.v) := x1;have x2 : w2.cell? ⟨b, off + 2, none⟩ = some (.bool false) := x2;obtain ⟨W, eW⟩ : ∃ W, W = w2.alloc (.cells #[S fStat.n, S fStat.v, .bool false] 45) := ⟨_, rfl⟩;have hF : Blk W w2.heap.size 45 #[S fStat.n, S fStat.v, .bool false] := (by rw [eW];exact Blk.new _ _ _);have hb : Below w2.heap.size w2 W := (by rw [eW];exact (Below.refl _ _).alloc (Nat.le_refl _) _);have z0 : W.cell? ⟨w2.heap.size, 0, none⟩ = some (S fStat.n) := hF.cell 0;have z1 : W.cell? ⟨w2.heap.size, 1, none⟩ = some (S fStat.v) := hF.cell 1;have z2 : W.cell? ⟨w2.heap.size, 2, none⟩ = some (.bool false) := hF.cell 2;have hEW := hE2.on hb;have hWy := Way_stat W hEW;refine wp_loop_rounds 3 ?_;rw [rounds_succ];go_upto_region 7 with fail;rw [← eW];clear eW
 go_wp2_with first
  | (go_at_call 65;go_must ((with_reducible refine hWy.mono ?_);rintro r w3 ⟨rfl, hb3⟩;have hF3 := hF.on hb3;have y0 : w3.cell? ⟨w2.heap.size, 0, none⟩ = some (S fStat.n) := hF3.cell 0;have y1 : w3.cell? ⟨w2.heap.size, 1, none⟩ = some (S fStat.v) := hF3.cell 1;have y2 : w3.cell? ⟨w2.heap.size, 2, none⟩ = some (.bool false) := hF3.cell 2;have hFo := Found_stat w3 (hEW.on hb3);have hb23 := hb.trans (hb3.mono hb.size)))
  | (go_at_call 103;go_must ((with_reducible refine hFo.mono ?_);rintro r w4 ⟨g, hg, rfl, hB4, hb4⟩;have hb24 := hb23.trans (hb4.mono hb23.size);have hr4 : w4.ownsRow w3.heap.size 5 1 (.slice (some ⟨g, 0, none⟩) 1 1) 1 [B8 136] := own_of_blk hB4 hg rfl rfl (by decide)))
  | (at_builtin;go_must (refine wpList_appRd rfl _ _ 39 rfl w.heap.size 5 (.int .u8 0) 1 1 Tryz.underlying39 (by kernel_rfl) rfl (by decide) _ _ _ rfl (World.ownsRow_nil _ _ _ _) _ _ _ _ rfl (Rd.own hr4) (b8_one2 [136]) (by decide) (by decide) (Nat.le_trans hz2 hb24.size) ?_);intro a5 c5 w5 hown5 hb5)
 rw [rounds_succ];have h5 : Enc0 w5 e t m1 m2 := (h2.on hb24).below hb5 l0 l1 l2 l3;have hu5 : But (fun k => k = e) w w5 := but_on (hb2.trans (But.of_below (S := fun k => k = e) hb24)) hb5;have hv5 := own_same hv (fun g hg => hu5.block g (hv.lt g hg.symm).2 (fun h => by have := (hv.lt g hg.symm).1;omega));have hz5 := hu5.size;obtain ⟨b', off', eab, hbl', x0', x1', x2'⟩ := Fs.at (Fs.own hv5) 1 (by decide);obtain ⟨rfl, rfl⟩ : b' = b ∧ off' = off := by cases eab;exact ⟨rfl, rfl⟩
 replace hown5 : w5.ownsRow w.heap.size 5 1 (.slice a5 1 c5) 1 [B8 136] := hown5
 refine wp_cut (R := fun X => X.ownsRow w.heap.size 5 1 (.slice a5 1 c5) 1 [B8 136] ∧ Enc0 X e t m1 m2 ∧ But (fun k => k = e) w X ∧ w.heap.size ≤ X.heap.size ∧ X.cell? ⟨b', off' + 1 * 3, none⟩ = some (S [97]) ∧ X.cell? ⟨b', off' + 1 * 3 + 1, none⟩ = some (S [98]) ∧ X.cell? ⟨b', off' + 1 * 3 + 2, none⟩ = some (.bool false)) ⟨hown5, h5, hu5, hz5, x0', x1', x2'⟩ ?_;clear hown5 h5 hu5 hz5 x0' x1' x2' x0 x1 x2 z0 z1 z2 y0 y1 y2 hb5 hr4 hB4 hb24 hb4 hF3 hb3 hFo hb23 hWy hEW hF hb h2 hv2 hv5 hE2 hb2 hz2 hSz h hv;rintro X ⟨hown, hX, hu, hz, x0, x1, x2⟩;obtain ⟨W, eW⟩ : ∃ W, W = X.alloc (.cells #[S [97], S [98], .bool false] 45) := ⟨_, rfl⟩;have hF : Blk W X.heap.size 45 #[S [97], S [98], .bool false] := (by rw [eW];exact Blk.new _ _ _);have hb : Below X.heap.size X W := (by rw [eW];exact (Below.refl _ _).alloc (Nat.le_refl _) _);have z0 : W.cell? ⟨X.heap.size, 0, none⟩ = some (S [97]) := hF.cell 0;have z1 : W.cell? ⟨X.heap.size, 1, none⟩ = some (S [98]) := hF.cell 1;have z2 : W.cell? ⟨X.heap.size, 2, none⟩ = some (.bool false) := hF.cell 2;have hWW := hX.on hb;have hWy := Way_ab W hWW;go_upto_region 7 with fail;rw [← eW];clear eW
 go_wp2_with first
  | (at_builtin;have tok := hr4;go_must (refine wpList_appRd rfl _ _ 39 rfl w.heap.size 5 (.int .u8 0) 1 1 Tryz.underlying39 (by kernel_rfl) rfl (by decide) _ _ _ rfl hown4 _ _ _ _ rfl (Rd.own hr4) (b8_one2 [64, 1, 97, 1, 98]) (by decide) (by decide) hz4 ?_);intro a5 c5 w5 hown5 hb5)
  | (go_at_call 105;go_must ((with_reducible refine hKe.mono ?_);rintro r w4 ⟨⟨v4, rfl, hr4⟩, hb4, hX4⟩;obtain ⟨a4, c4, rfl⟩ := own_form hr4;have hown4 := own_same hown3 (fun g hg => hb4.block g (own_lt hown3 hg).2 (fun e => by have := (own_lt hown3 hg).1;rcases e with e | e | e <;> omega));have hz4 := Nat.le_trans hz3 hb4.size))
  | (go_at_call 65;go_must ((with_reducible refine hWy.mono ?_);rintro r w3 ⟨rfl, hb3⟩;have hF3 := hF.on hb3;have y0 : w3.cell? ⟨X.heap.size, 0, none⟩ = some (S [97]) := hF3.cell 0;have y1 : w3.cell? ⟨X.heap.size, 1, none⟩ = some (S [98]) := hF3.cell 1;have y2 : w3.cell? ⟨X.heap.size, 2, none⟩ = some (.bool false) := hF3.cell 2;have hKe := Kept_ab w3 (hWW.on hb3) h12;have hb13 := hb.trans (hb3.mono hb.size);have hown3 := own_below hown hb13;have hz3 := Nat.le_trans hz hb13.size))
 rw [rounds_succ];go_wp2;go_ret;have hu3 : But (fun k => k = e ∨ k = t ∨ k = m1 ∨ k = m2) w w3 := (hu.trans (But.of_below (S := fun k => k = e) hb13)).more fun g hg => .inl hg
 have hu4 := hu3.trans (hb4.more (S' := fun k => k = e ∨ k = t ∨ k = m1 ∨ k = m2) fun g hg => .inr hg)
 exact ⟨_, rfl, hown5, ((hWW.on hb3).enc.but hb4 (by rintro (e | e | e) <;> omega)).below hb5 l0, but_on hu4 hb5, by
  obtain ⟨x1, x2, es2, c2, es3, c3, t1, t2, t3⟩ := hX4
  exact ⟨x1, x2, es2, c2, es3, c3, t1.below hb5 l1, (hb5.block _ l2).trans t2, (hb5.block _ l3).trans t3⟩⟩
open Go.RowKit Go.Dr
theorem or32n : ∀ n, n < 256 → 65 ≤ n → n ≤ 90 → bits .or .u8 ((n : Nat) : Int) 32 = (n : Int) + 32 := by decide +kernel
theorem or32 (c : UInt8) (h1 : 65 ≤ c.toNat) (h2 : c.toNat ≤ 90) : bits .or .u8 (c.toNat : Int) 32 = (c.toNat : Int) + 32 := or32n _ (UInt8.toNat_lt c) h1 h2
theorem Lower_any (l : Bytes) (w : World) (hl : l.length ≤ maxLen) :
  Calls Tryz.prog 63 #[S l] w fun e w' => e = .returned (S (low l)) ∧ Below w.heap.size w w' := by
 unfold maxLen at hl;obtain ⟨cap, w1, hrun, hcap, hrow, hbel, hsz⟩ := run_bytes_row (P := Tryz.prog) w 9 39 5 l Tryz.underlying9 Tryz.underlying39 Tryz.underlying5;go_enter Tryz.func63, Tryz.ntmps63
 go_wp2;clear hrun
 go_loopw [10] (fun i wr => ∃ k : Nat, k ≤ l.length ∧ i = .int .i64 k ∧ BRow wr 5 w.heap.size (lowTo l k) ∧ Below w.heap.size w wr) (fun i _ => l.length - (intOf i).toNat)
 case atStart => exact ⟨0, Nat.zero_le _, rfl, by rw [lowTo_zero];exact hrow, hbel⟩
 case round =>
  obtain ⟨k, hk, rfl, hrow, hbel⟩ := hrel;by_cases hlt : k < l.length
  ·have c0 := hrow.cell k (by rw [lowTo_length];exact hlt)
   rw [lowTo_get l k hlt] at c0;have f0 := hrow.free k (by rw [lowTo_length];exact hlt);by_cases h1 : 65 ≤ l[k].toNat
   ·by_cases h2 : l[k].toNat ≤ 90
    ·go_wp2
     go_roundw
     case rel =>
      refine ⟨k + 1, by omega, by go_num, ?_, hbel.setCell (Nat.le_refl _) _⟩;rw [← lowTo_set l k hlt];have := hrow.set k (lowB l[k])
      rw [lowB_up _ h1 h2, ← or32 _ h1 h2] at this;exact this
     case measure => simp [intOf];omega
    ·go_wp2
     go_roundw
     case rel => exact ⟨k + 1, by omega, by go_num, by rw [← lowTo_skip l k hlt (lowB_no _ (by omega))];exact hrow, hbel⟩
     case measure => simp [intOf];omega
   ·go_wp2
    go_roundw
    case rel => exact ⟨k + 1, by omega, by go_num, by rw [← lowTo_skip l k hlt (lowB_no _ (by omega))];exact hrow, hbel⟩
    case measure => simp [intOf];omega
  ·have hc := run_string_row (P := Tryz.prog) wr 39 9 5 w.heap.size cap (lowTo l k) Tryz.underlying39 Tryz.underlying5 Tryz.underlying9 hrow
   rw [lowTo_length, lowTo_all l k (by omega)] at hc;go_wp2;go_ret;exact ⟨rfl, hbel⟩
open Go.RowKit Go.Dr
open Go Go.RowKit Go.Dr
theorem Answer_two {sb : Nat} (w : World) (hS : Blk w sb 45 #[S [97], S [98], .bool false]) : Calls Tryz.prog 31 #[.int .i64 200, .slice (some ⟨sb, 0, none⟩) 1 1] w fun e w' => ∃ v, e = .returned (.tuple #[v, .int .i64 0]) ∧ w'.ownsRow w.heap.size 45 3 v 2 (fcells [fStat, fA8]) ∧ Below w.heap.size w w' := by
 have hlo : ∀ w, Calls Tryz.prog 63 #[S [97]] w fun e w' => e = .returned (S [97]) ∧ Below w.heap.size w w' := fun w => Lower_any [97] w (by decide)
 go_enter Tryz.func31, Tryz.ntmps31
 go_upto_region 5 with (go_at_call 62;go_must ((with_reducible refine (Digits_200 _).mono ?_);rintro r w2 ⟨rfl, hb2⟩))
 have hO : (w2.alloc (.cells #[S fStat.n, S fStat.v, .bool false] 45)).ownsRow w2.heap.size 45 3 (.slice (some ⟨w2.heap.size, 0, none⟩) 1 1) 1 (fcells [fStat]) := own_of_blk (Blk.new _ _ _) (Nat.le_refl _) rfl rfl (by unfold maxLen;omega);have hbA : Below w.heap.size w (w2.alloc (.cells #[S fStat.n, S fStat.v, .bool false] 45)) := hb2.alloc hb2.size _;have hSA : Blk (w2.alloc (.cells #[S fStat.n, S fStat.v, .bool false] 45)) sb 45 #[S [97], S [98], .bool false] := (hS.on hb2).alloc _;have hO := own_base hO hb2.size;refine wp_cut (R := fun X => X.ownsRow w.heap.size 45 3 (.slice (some ⟨w2.heap.size, 0, none⟩) 1 1) 1 (fcells [fStat]) ∧ Below w.heap.size w X ∧ Blk X sb 45 #[S [97], S [98], .bool false]) ⟨hO, hbA, hSA⟩ ?_;clear hO hbA hSA;rintro X ⟨hO, hbX, hSX⟩;refine wp_loop_rounds 2 ?_;rw [rounds_succ];have x0 : X.cell? ⟨sb, 0, none⟩ = some (S [97]) := hSX.cell 0;have x1 : X.cell? ⟨sb, 1, none⟩ = some (S [98]) := hSX.cell 1;have x2 : X.cell? ⟨sb, 2, none⟩ = some (.bool false) := hSX.cell 2;have hb3 : Below X.heap.size X (X.alloc (.cells #[S [97], S [98], .bool false] 45)) := (Below.refl _ _).alloc (Nat.le_refl _) _;have hF := Blk.new X 45 #[S [97], S [98], .bool false];obtain ⟨W, eW⟩ : ∃ W, W = X.alloc (.cells #[S [97], S [98], .bool false] 45) := ⟨_, rfl⟩;rw [← eW] at hb3 hF;have z0 : W.cell? ⟨X.heap.size, 0, none⟩ = some (S [97]) := hF.cell 0;go_upto_region 7 with fail;rw [← eW];clear eW;go_upto_region 8 with (go_at_call 63;go_must ((with_reducible refine (hlo _).mono ?_);rintro r w4 ⟨rfl, hb4⟩;have hF4 := hF.on hb4;have y0 : w4.cell? ⟨X.heap.size, 0, none⟩ = some (S [97]) := hF4.cell 0;have f0 := hF4.free 0))
 have hF5 : Blk (w4.setCell ⟨X.heap.size, 0, none⟩ (S [97])) X.heap.size 45 #[S [97], S [98], .bool false] := hF4.set 0 _;have hb5 : Below X.heap.size X (w4.setCell ⟨X.heap.size, 0, none⟩ (S [97])) := (hb3.trans (hb4.mono hb3.size)).setCell (p := ⟨X.heap.size, 0, none⟩) (Nat.le_refl _) _;obtain ⟨W5, eW5⟩ : ∃ W5, W5 = w4.setCell ⟨X.heap.size, 0, none⟩ (S [97]) := ⟨_, rfl⟩;rw [← eW5] at hF5 hb5 ⊢;clear eW5 y0 f0 hF4;have y0 : W5.cell? ⟨X.heap.size, 0, none⟩ = some (S [97]) := hF5.cell 0;have y1 : W5.cell? ⟨X.heap.size, 1, none⟩ = some (S [98]) := hF5.cell 1;have y2 : W5.cell? ⟨X.heap.size, 2, none⟩ = some (.bool false) := hF5.cell 2;have hb6 := hb5.alloc hb5.size (.cells #[S [97], S [98], .bool false] 45);have hO6 := own_below hO hb6;have hz6 := hbX.trans (hb6.mono hbX.size);go_wp2_with (at_builtin;go_must (refine wpList_appRd rfl _ _ 46 rfl w.heap.size 45 (.agg #[.string ByteArray.empty, .string ByteArray.empty, .bool false]) 3 40 Tryz.underlying46 (by kernel_rfl) rfl (by decide) _ _ _ rfl hO6 _ _ _ [S [97], S [98], .bool false] rfl (Rd.lit W5 45 #[S [97], S [98], .bool false] 3 1 rfl (by decide)) (by intro u hu;simp at hu;rcases hu with rfl | rfl | rfl <;> rfl) (by decide) (by decide) hz6.size ?_);intro a7 c7 w7 hr7 hb7)
 rw [rounds_succ];go_wp2;go_ret2;exact ⟨_, rfl, hr7, hz6.trans hb7⟩
open Go Go.RowKit Go.Dr
variable {w w' : World} {n : Nm} {m : Mm} {q q' : Cq}
theorem Cx.upT (h : Cx w n m q) (hf : n.Fresh) (hb : But (fun k => k = n.e ∨ k = n.t2 ∨ k = n.b2 ∨ k = n.n2) w w') (x1 : Int) (x2 : Value) (es2 : Array MapEntry) (c2 : Nat) (es3 : Array MapEntry) (c3 : Nat)
  (he : Blk w' n.e 129 #[.int .i64 4096, .int .i64 q.told, .int .i64 q.least, Ptr n.t2]) (ht : Blk w' n.t2 176 #[.int .i64 4096, .int .i64 x1, x2, .int .i64 0, .map (some n.b2), .map (some n.n2)]) (h2 : w'.heap[n.b2]? = some (.map es2 c2)) (h3 : w'.heap[n.n2]? = some (.map es3 c3)) :
  Cx w' { n with x1 := x1, x2 := x2, es2 := es2, c2 := c2, es3 := es3, c3 := c3 } m q := by
 obtain ⟨kc, kfb, kd1, kt1, ke, kt2, kbk, klm, khm, kom, kb1, kn1, kb2, kn2, kbv, knv, kcv, ksd⟩ := h.kinds;have hSK : ∀ g, (g = n.e ∨ g = n.t2 ∨ g = n.b2 ∨ g = n.n2) → kd w g = 0 ∨ kd w g = 129 + 1 ∨ kd w g = 176 + 1 := fun g hg => by rcases hg with e | e | e | e <;> (rw [e];omega)
 obtain ⟨p1, p2, p3, ⟨p4, p5, p6⟩, ⟨p7, p8, p9⟩, ⟨p10, p11, p12⟩, p13, p14, p15⟩ := h.maps;obtain ⟨d1, d2, d3, d4⟩ := hf.dis;have htt := h.tt
 have hm : ∀ g, kd w g = 0 → g ≠ n.b2 → g ≠ n.n2 → ¬ (g = n.e ∨ g = n.t2 ∨ g = n.b2 ∨ g = n.n2) := fun g hk h1 h2 hg => by
  rcases hg with e | e | e | e
  ·rw [e] at hk;omega
  ·rw [e] at hk;omega
  ·exact h1 e
  ·exact h2 e
 exact {
  blk := h.blk.but hb (fun hs => by have := hSK _ hs;omega),
  feed := h.feed.but hb (fun hs => by have := hSK _ hs;omega),
  dec := h.dec.but hb (fun hs => by have := hSK _ hs;omega),
  t1 := h.t1.but hb (fun hs => by
   rcases hs with e | e | e | e
   ·rw [e] at kt1;omega
   ·exact htt e
   ·rw [e] at kt1;omega
   ·rw [e] at kt1;omega),
  b1 := (hb.block _ (lt_of_block h.b1) (hm _ kb1 d1 d2)).trans h.b1,
  n1 := (hb.block _ (lt_of_block h.n1) (hm _ kn1 d3 d4)).trans h.n1,
  enc := he,
  t2 := ht,
  b2 := h2,
  n2 := h3,
  book := h.book.but hb (fun hs => by have := hSK _ hs;omega),
  off := h.off.but hb (hm _ kom (fun e => p12 e.symm) (fun e => p15 e.symm)),
  how := h.how.but hb (hm _ khm (fun e => p11 e.symm) (fun e => p14 e.symm)),
  live := h.live.block (hb.block _ h.live.lt (hm _ klm (fun e => p10 e.symm) (fun e => p13 e.symm))),
  side := fun p hp => (h.side p hp).but hb (fun hs => by have := hSK _ hs;have := (ksd p hp).1;omega),
  pend := fun p hp => own_same (h.pend p hp) fun g hg => hb.block g (own_lt (h.pend p hp) hg).2 (fun hs => by have := hSK _ hs;have := (ksd p hp).2 g hg;omega),
  bytes := own_same h.bytes fun g hg => hb.block g (own_lt h.bytes hg).2 (fun hs => by have := hSK _ hs;have := kbv g hg;omega),
  news := let ⟨k, hn⟩ := h.news;⟨k, own_same hn fun g hg => hb.block g (own_lt hn hg).2 (fun hs => by have := hSK _ hs;have := knv g hg;omega)⟩,
  closed := own_same h.closed fun g hg => hb.block g (own_lt h.closed hg).2 (fun hs => by have := hSK _ hs;have := kcv g hg;omega),
  tt := h.tt,
  maps := h.maps,
  bp := h.bp,
  ss := h.ss,
  lo := h.lo }
theorem Cx.enc0 (h : Cx w n m q) (hf : n.Fresh) (h1 : q.told = 4096) (h2 : q.least = 4096) : Enc0 w n.e n.t2 n.b2 n.n2 := by
 have henc := h.enc;have ht := h.t2;have hb := h.b2;have hn := h.n2;rw [h1, h2] at henc;rw [hf.x1, hf.x2] at ht;rw [hf.es2, hf.c2] at hb;rw [hf.es3, hf.c3] at hn;exact ⟨henc, ht, hb, hn⟩
open Go Go.RowKit Go.Dr
variable {w w' : World} {n : Nm} {m : Mm} {q q' : Cq}
theorem Head_two {F : Nat → Prop} {sb : Nat} (w : World) (h : Cw w n q F) (hf : n.Fresh) (hSb : Blk w sb 45 #[S [97], S [98], .bool false]) (i : Nat) (hi : i < 2147483648) {a c : List (Int × Sp)} {s : Sp} (hq : q.live = a ++ ((i : Int), s) :: c) (hst : s.st = 2) (hhd : s.headed = false) (htl : q.told = 4096) (hle : q.least = 4096) (hfr : q.frames = 16384) (hbl : q.bytes.length ≤ 1000000) :
  Calls Tryz.prog 10 #[Ptr n.c, .int .i64 (i : Int), .int .i64 200, .slice (some ⟨sb, 0, none⟩) 1 1, .bool false] w fun r w' => r = .returned (.int .i64 0) ∧ ∃ n4 : Nm, n4.c = n.c ∧ n4.B = n.B ∧ Goes w n4 F w' { q with bytes := q.bytes ++ frB 1 4 i [136, 64, 1, 97, 1, 98], live := a ++ ((i : Int), { s with headed := true }) :: c } := by
 have g0 := GoesF.refl h;obtain ⟨m, hx, rfl⟩ := h;have hi64 : I64 (i : Int) := (by constructor <;> omega);have y9 : w.cell? ⟨n.c, 9, none⟩ = some (.map (some n.lm)) := hx.blk.cell 9;have hm : ((i : Int), s) ∈ q.live := (by rw [hq];simp);have hk := (hx.live.inn hi64 (List.mem_map.2 ⟨_, hm, rfl⟩)).1;have hS := hx.side _ hm;have y6 : w.cell? ⟨m.sb i, 6, none⟩ = some (.int .i64 2) := (by rw [← hst];exact hS.cell 6);have y3 : w.cell? ⟨m.sb i, 3, none⟩ = some (.bool false) := (by rw [← hhd];exact hS.cell 3);have hAn := Answering_2 w hx i hi64 hm hst;go_enter Tryz.func10, Tryz.ntmps10
 go_upto_region 10 with first
  | (go_at_call 30;go_must ((with_reducible refine hAn.mono ?_);rintro r w1 ⟨rfl, hb1⟩;have hx1 := hx.on hb1;have z3 : w1.cell? ⟨m.sb i, 3, none⟩ = some (.bool false) := (by rw [← hhd];exact (hx1.side _ hm).cell 3)))
  | (go_at_call 31;go_must ((with_reducible refine (Answer_two _ (hSb.on hb1)).mono ?_);rintro r w2 ⟨v, rfl, hrow, hb2⟩;have hx2 := hx1.on hb2;have x3 : w2.cell? ⟨m.sb i, 3, none⟩ = some (.bool false) := (by rw [← hhd];exact (hx2.side _ hm).cell 3);have v3 := (hx2.side _ hm).free 3))
 have hS2 := hx2.side _ hm;obtain ⟨hx3, k3⟩ := hx2.goesS hq { s with headed := true } ((But.refl (fun g => g = m.sb i) _).setCell (p := ⟨m.sb i, 3, none⟩) (.inl rfl) (.bool true)) (hS2.set 3 _) rfl;have hb02 := hb1.trans (hb2.mono hb1.size);have g3 := (g0.on hb02).comp k3;have hsl : m.sb i < w1.heap.size := (hx1.side _ hm).lt;have hel : n.e < w1.heap.size := hx1.enc.lt;have hrow3 := own_same (w' := w2.setCell ⟨m.sb i, 3, none⟩ (.bool true)) hrow (fun g hg => Below.heap_setCell _ _ _ _ (fun e => by have := (hrow.lt g hg.symm).1;simp only [] at e;omega));obtain ⟨q3, eq3⟩ : ∃ q3 : Cq, q3 = { q with live := a ++ ((i : Int), { s with headed := true }) :: c } := ⟨_, rfl⟩;rw [← eq3] at hx3 g3;refine wp_cut (R := fun W => Cx W n m q3 ∧ GoesF w n (Foot n m q) W q3 (Foot n m q3) ∧ W.ownsRow w1.heap.size 45 3 v 2 (fcells [fStat, fA8])) ⟨hx3, g3, hrow3⟩ ?_;have ht2l : n.t2 < w1.heap.size := hx1.t2.lt;have hb2l : n.b2 < w1.heap.size := lt_of_block hx1.b2;have hn2l : n.n2 < w1.heap.size := lt_of_block hx1.n2;clear hx3 g3 hrow3 k3 hx2 x3 v3 hS2 hb02 hsl hrow hb2 hb1 hx1 z3;rintro W ⟨hx3, g3, hrow3⟩;have y6 : W.cell? ⟨n.c, 6, none⟩ = some (Ptr n.e) := hx3.blk.cell 6;have henc := hx3.enc0 hf (by rw [eq3];exact htl) (by rw [eq3];exact hle)
 have hte : n.t2 ≠ n.e := fun e1 => by
  obtain ⟨-, -, -, -, k1, k2, -⟩ := hx3.kinds;rw [e1] at k2;omega
 have hEn := Encode_two W henc hte hf.ne hrow3 ⟨hel, ht2l, hb2l, hn2l⟩;go_upto_region 14 with (go_at_call 32;go_must ((with_reducible refine hEn.mono ?_);rintro r w4 ⟨x, rfl, hx4r, hE4, hb4, hX4⟩))
 obtain ⟨xa, xc, rfl⟩ := own_form hx4r;have hz4 := hb4.size;obtain ⟨x1, x2, es2, c2, es3, c3, hT4, hm4, hn4⟩ := hX4;have hx4 := hx3.upT hf hb4 x1 x2 es2 c2 es3 c3 (by rw [show q3.told = 4096 by rw [eq3];exact htl, show q3.least = 4096 by rw [eq3];exact hle];exact hE4) hT4 hm4 hn4
 obtain ⟨n4, hnc, hnB, hx4, g4⟩ : ∃ n4 : Nm, n4.c = n.c ∧ n4.B = n.B ∧ Cx w4 n4 m q3 ∧ GoesF w n4 (Foot n m q) w4 q3 (Foot n4 m q3) := ⟨{ n with x1 := x1, x2 := x2, es2 := es2, c2 := c2, es3 := es3, c3 := c3 }, rfl, rfl, hx4, ⟨m, hx4, rfl⟩, g3.b.trans2 (hb4.more (S' := Foot n m q3) (fun g hg => by
  rcases hg with e | e | e | e
  ·rw [e];exact Foot.e
  ·rw [e];exact .inl (by simp)
  ·rw [e];exact .inr (.inl (by simp))
  ·rw [e];exact .inr (.inl (by simp)))) g3.s, fun g hg => g3.s g hg⟩
 have hbA : Below w4.heap.size w4 (w4.alloc (.cells #[.int .i64 1, .int .i64 0, .int .i64 (i : Int), S [], .int .i64 0, .slice none 0 0, .int .i64 0, .int .i64 0, .int .i64 0, .int .i64 0, .int .i64 0, .bool false] 36)) := (Below.refl _ _).alloc (Nat.le_refl _) _;refine wp_cut (R := fun W => Blk W w4.heap.size 36 #[.int .i64 1, .int .i64 0, .int .i64 (i : Int), S [], .int .i64 0, .slice none 0 0, .int .i64 0, .int .i64 0, .int .i64 0, .int .i64 0, .int .i64 0, .bool false] ∧ Cx W n4 m q3 ∧ GoesF w n4 (Foot n m q) W q3 (Foot n4 m q3) ∧ By W.heap.size W (.slice xa 6 xc) [136, 64, 1, 97, 1, 98]) ⟨Blk.new _ _ _, hx4.on hbA, g4.on hbA, own_by (own_below hx4r hbA)⟩ ?_;have hfl4 : ∀ g, Foot n4 m q3 g → g < w4.heap.size := fun g hg => hx4.foot_lt hg
 have hz04 := g4.b.size;clear hx4 g4 hbA hx4r hz4 hb4 hE4 hEn henc hte y6 hx3 g3 hrow3 hT4 hm4 hn4 W;have HC := Lib.hid hnc;have HB := Lib.hid hnB;clear hnc hnB;rintro W ⟨hF, hx5, g5, hx5r⟩;have hby := hx5r.text (P := Tryz.prog) 39 9 5 Tryz.underlying39 Tryz.underlying5 Tryz.underlying9;have y8 : W.cell? ⟨n.c, 8, none⟩ = some (.int .i64 16384) := (by rw [show (Value.int .i64 16384) = .int .i64 q3.frames by rw [eq3];show _ = Value.int .i64 q.frames;rw [hfr], ← HC.out];exact hx5.blk.cell 8);have u1 : W.cell? ⟨w4.heap.size, 1, none⟩ = some (.int .i64 0) := hF.cell 1;have u3 : W.cell? ⟨w4.heap.size, 3, none⟩ = some (S []) := hF.cell 3;have s1 := hF.free 1;have s3 := hF.free 3;have b14 : bits .or .i64 0 4 = 4 := (by decide);refine wp_loop_rounds 1 ?_;rw [rounds_succ];go_upto_region 21 with fail;have hF6 := (hF.set 3 (S [136, 64, 1, 97, 1, 98])).set 1 (.int .i64 4)
 have hx6 : Cx ((W.setCell ⟨w4.heap.size, 3, none⟩ (S [136, 64, 1, 97, 1, 98])).setCell ⟨w4.heap.size, 1, none⟩ (.int .i64 4)) n4 m q3 := hx5.keep (fun g hg => by
  have := hfl4 g hg
  rw [Below.heap_setCell _ _ _ _ (fun e => by simp only [] at e;omega), Below.heap_setCell _ _ _ _ (fun e => by simp only [] at e;omega)])
 have g6 : GoesF w n4 (Foot n m q) ((W.setCell ⟨w4.heap.size, 3, none⟩ (S [136, 64, 1, 97, 1, 98])).setCell ⟨w4.heap.size, 1, none⟩ (.int .i64 4)) q3 (Foot n4 m q3) := ⟨⟨m, hx6, rfl⟩, (g5.b.setCell (p := ⟨w4.heap.size, 3, none⟩) (.inr hz04) _).setCell (p := ⟨w4.heap.size, 1, none⟩) (.inr hz04) _, g5.s⟩;refine wp_cut (R := fun W => Blk W w4.heap.size 36 #[.int .i64 1, .int .i64 4, .int .i64 (i : Int), S [136, 64, 1, 97, 1, 98], .int .i64 0, .slice none 0 0, .int .i64 0, .int .i64 0, .int .i64 0, .int .i64 0, .int .i64 0, .bool false] ∧ GoesF w n4 (Foot n m q) W q3 (Foot n4 m q3)) ⟨hF6, g6⟩ ?_;clear hF6 hx6 g6 hF hx5 g5 hx5r hby y8 u1 u3 s1 s3 W;rintro W ⟨hF, g6⟩;obtain ⟨u0, u1, u2, u3, u4, u5, u6, u7, u8, u9, u10, u11⟩ := hF.c12;have hWr := Write_any (c0 := .int .i64 1) (c1 := .int .i64 4) (c2 := .int .i64 (i : Int)) (c3 := S [136, 64, 1, 97, 1, 98]) (c4 := .int .i64 0) (c5 := .slice none 0 0) (c6 := .int .i64 0) (c7 := .int .i64 0) (c8 := .int .i64 0) (c9 := .int .i64 0) (c10 := .int .i64 0) (c11 := .bool false) W g6.h (frB 1 4 i [136, 64, 1, 97, 1, 98]) (fun w1 _ => pPut_Hdr 4 i [136, 64, 1, 97, 1, 98] (by decide) (by decide) (by decide) hi (by decide) w1) (by rw [frB_length, eq3];simp;omega);rw [HC.out] at hWr
 go_wp2_with first
  | (go_at_call 24;go_must ((with_reducible refine hWr.mono ?_);rintro r w7 ⟨rfl, hg7⟩;obtain ⟨F7, g7⟩ := g6.step hg7;have hWt' := Went_on w7 g7.h i 1 (.inr rfl) hi64 (a := a) (c := c) (s := { s with headed := true }) (by rw [eq3]) hst;have hWt := hWt';rw [HC.out] at hWt))
  | (go_at_call 33;go_must ((with_reducible refine hWt.mono ?_);rintro r w8 ⟨rfl, hg8⟩;obtain ⟨F8, g8⟩ := g7.step hg8))
 go_ret;refine ⟨rfl, n4, HC.out, HB.out, ?_⟩;have g9 := g8.goes;rw [eq3] at g9;exact g9
end Go.Proofs.YtcodgfmombehoaaGreatDoor
