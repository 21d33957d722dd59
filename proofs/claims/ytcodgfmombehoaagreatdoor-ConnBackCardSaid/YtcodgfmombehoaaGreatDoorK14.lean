/- Parts of the proof of bk_root: the texts Hdr1 Hpk4 Hpk5. -/
import Derived.IntWalk
import Derived.Test.YtcodgfmombehoaaGreatDoorK13
set_option linter.unusedSimpArgs false
set_option linter.unusedVariables false
set_option linter.unnecessarySimpa false
set_option maxRecDepth 100000
set_option maxHeartbeats 64000000
namespace Go.Proofs.YtcodgfmombehoaaGreatDoor
open Go Go.RowKit Go.Dr
abbrev TMp (w : World) (b : Nat) (l : List (Bytes × Bytes)) : Prop := GMap Tryz.prog 9 Rw Ls (fun x : Bytes => (.lit (.string x) : DataW Unit)) w b l
theorem keyS {n : Bytes} (h : n.length ≤ maxLen) : keyOf Tryz.prog 9 (S n) = some (Ls n) := Go.WideMaps.keyOf_string_mk Tryz.underlying9 (s := ⟨n.toArray⟩) h
abbrev keyedS : Maps.Keyed Tryz.prog 9 := Maps.string_keyed Tryz.underlying9
section
variable {w : World} {b : Nat} {l : List (Bytes × Bytes)} {i x : Bytes}
theorem TMp.inn (h : TMp w b l) (hi : i.length ≤ maxLen) (hx : (i, x) ∈ l) : (Instr.lookup 243 (.map (some b)) (S i) true).run Tryz.prog w = .ok (.tuple #[.agg #[S x], .bool true]) w ∧ (Instr.lookup 243 (.map (some b)) (S i) false).run Tryz.prog w = .ok (.agg #[S x]) w :=
 GMap.inn h keyedS Tryz.underlying243 (zeroWords w) (zd := .lit (.string [])) (zp := []) rfl (keyS hi) hx (fun _ _ e => Rw_inv e)
theorem TMp.out (h : TMp w b l) (hi : i.length ≤ maxLen) (hx : ∀ p ∈ l, p.1 ≠ i) : (Instr.lookup 243 (.map (some b)) (S i) true).run Tryz.prog w = .ok (.tuple #[.agg #[S []], .bool false]) w ∧ (Instr.lookup 243 (.map (some b)) (S i) false).run Tryz.prog w = .ok (.agg #[S []]) w :=
 GMap.out h keyedS Tryz.underlying243 (zeroWords w) (zd := .lit (.string [])) (zp := []) rfl (keyS hi) hx (fun _ _ e => Rw_inv e)
theorem TMp.put (h : TMp w b l) (hi : i.length ≤ maxLen) (hx : ∀ p ∈ l, p.1 ≠ i) (hn : l.length < maxLen) (x : Bytes) : ∃ w', (Instr.mapUpdate 243 (.map (some b)) (S i) (.agg #[S x])).run Tryz.prog w = .ok () w' ∧ TMp w' b (l ++ [(i, x)]) ∧ w.mapTurned w' b :=
 GMap.put Ls_ne h keyedS Tryz.underlying243 (keyS hi) (Ls_key i) hx hn (show Rw (.agg #[S x]) = some (.lit (.string x), []) from rfl)
end
theorem Known_any {b3 b7 nb mb N : Nat} (ns : List Bytes) (l : List (Bytes × Bytes)) (name : Bytes) (hnl : name.length ≤ maxLen) (hname : name ∈ ns) (hno : ∀ p ∈ l, p.1 ≠ name) (w : World) (h3 : w.cell? ⟨b3, 0, none⟩ = some (.slice (some ⟨nb, 0, none⟩) N N)) (hN : ns.length = N) (hN2 : N ≤ 1000) (hn : ∀ k (hk : k < ns.length), w.cell? ⟨nb, k, none⟩ = some (S ns[k])) (h7 : w.cell? ⟨b7, 0, none⟩ = some (.map (some mb))) (hm : TMp w mb l) :
  Calls Tryz.prog 170 #[S name, Ptr b3, Ptr b7] w fun e w' => e = .returned (.bool true) ∧ Below w.heap.size w w' := by
 have hl := (hm.out hnl hno).1;go_enter Tryz.func170, Tryz.ntmps170
 go_wp2
 go_loopw [11] (fun i wr => ∃ k : Nat, k ≤ N ∧ i = .int .i64 (k : Int) ∧ (∀ j (hj : j < ns.length), j < k → ns[j] ≠ name) ∧ wr = w) (fun i _ => N - (intOf i).toNat)
 case atStart => exact ⟨0, Nat.zero_le _, rfl, fun j _ hj => absurd hj (Nat.not_lt_zero _), rfl⟩
 case round =>
  obtain ⟨k, hk, rfl, hu, rfl⟩ := hrel
  have hkN : k < N := by
   rcases Nat.lt_or_ge k N with h | h
   ·exact h
   ·obtain ⟨j, hj, e⟩ := List.mem_iff_getElem.1 hname
    exact absurd e (hu j hj (by omega))
  have hlt : k < ns.length := (by omega);have x0 := hn k hlt;have HU := Lib.hid hu;clear hu hN
  cases h1 : (ns[k]'hlt == name) with
  | true =>
   go_wp2;go_ret;exact ⟨rfl, (Below.refl _ _).alloc (Nat.le_refl _) _⟩
  | false =>
   have HE := Lib.hid (show ns[k]'hlt ≠ name from by simpa using h1);go_wp2
   go_roundw
   case rel =>
    refine ⟨k + 1, by omega, by go_num, fun j hj hjk => ?_, by first | trivial | rfl⟩;by_cases e : j < k
    ·exact HU.out j hj e
    ·obtain rfl : j = k := by omega
     exact HE.out
   case measure => simp [intOf];omega
theorem Pseudo_any (f : F) (hf : f.n.head? = some 58) (w : World) : Calls Tryz.prog 172 #[.agg #[S f.n, S f.v, .bool f.m]] w fun e w' => e = .returned (.bool true) ∧ Below w.heap.size w w' := by
 obtain ⟨n, v, m⟩ := f
 obtain ⟨c, n', rfl⟩ : ∃ c n', n = c :: n' := by
  cases n with
  | nil => cases hf
  | cons c n' => exact ⟨c, n', rfl⟩
 obtain rfl : c = 58 := by simpa using hf
 go_enter Tryz.func172, Tryz.ntmps172
 go_wp2;go_ret;exact ⟨rfl, (Below.refl _ _).alloc (Nat.le_refl _) _⟩
theorem Ask_any {b3 b7 b8 b9 nb mb N : Nat} {t3 t7 t8 t9 : TypeId} (ns : List Bytes) (l : List (Bytes × Bytes)) (f : F) (hf : f.n.head? = some 58) (hnl : f.n.length ≤ 1000000) (hname : f.n ∈ ns) (hno : ∀ p ∈ l, p.1 ≠ f.n) (hll : l.length < 1000000) (w : World) (h3 : Blk w b3 t3 #[.slice (some ⟨nb, 0, none⟩) N N]) (hN : ns.length = N) (hN2 : N ≤ 1000) {tn : TypeId} (hn : Blk w nb tn (ns.map S).toArray) (h7 : Blk w b7 t7 #[.map (some mb)]) (hm : TMp w mb l) (h8 : Blk w b8 t8 #[.slice none 0 0]) (h9 : Blk w b9 t9 #[.func (.func 170) #[] #[Ptr b3, Ptr b7]]) :
  Calls Tryz.prog 171 #[.agg #[S f.n, S f.v, .bool f.m], Ptr b8, Ptr b9, Ptr b7] w fun e w' => e = .returned (.int .i64 0) ∧ TMp w' mb (l ++ [(f.n, f.v)]) ∧ But (fun k => k = mb) w w' := by
 obtain ⟨W, eW⟩ : ∃ W, W = w.alloc (.cells #[S f.n, S f.v, .bool f.m] 45) := ⟨_, rfl⟩;have hb : Below w.heap.size w W := (by rw [eW];exact (Below.refl _ _).alloc (Nat.le_refl _) _);have hF : Blk W w.heap.size 45 #[S f.n, S f.v, .bool f.m] := (by rw [eW];exact Blk.new _ _ _);have g0 : W.cell? ⟨w.heap.size, 0, none⟩ = some (S f.n) := hF.cell 0;have g1 : W.cell? ⟨w.heap.size, 1, none⟩ = some (S f.v) := hF.cell 1;have g2 : W.cell? ⟨w.heap.size, 2, none⟩ = some (.bool f.m) := hF.cell 2;have hPs := Pseudo_any f hf W;have hml : f.n.length ≤ maxLen := (by unfold maxLen;omega);go_enter Tryz.func171, Tryz.ntmps171
 go_upto_region 1 with fail;rw [← eW];clear eW
 go_wp2_with first
  | (go_at_call 172;(with_reducible refine hPs.mono ?_);rintro e w2 ⟨rfl, hb2⟩;have hb02 := hb.trans (hb2.mono hb.size);have hF2 := hF.on hb2;have x8 : w2.cell? ⟨b8, 0, none⟩ = some (.slice none 0 0) := ((h8.on hb02).cell 0);have x9 : w2.cell? ⟨b9, 0, none⟩ = some (.func (.func 170) #[] #[Ptr b3, Ptr b7]) := ((h9.on hb02).cell 0);have k0 : w2.cell? ⟨w.heap.size, 0, none⟩ = some (S f.n) := hF2.cell 0;have hm2 := hm.on hb02;have hK := Known_any ns l f.n hml hname hno w2 ((h3.on hb02).cell 0) hN hN2 (fun k hk => by rw [(hn.on hb02).cell k];simp [hk]) ((h7.on hb02).cell 0) hm2)
  | (go_at_call 170;go_must ((with_reducible refine hK.mono ?_);rintro e w3 ⟨rfl, hb3⟩;have hb03 := hb02.trans (hb3.mono hb02.size);have hF3 := hF2.on hb3;have x7 : w3.cell? ⟨b7, 0, none⟩ = some (.map (some mb)) := ((h7.on hb03).cell 0);have q0 : w3.cell? ⟨w.heap.size, 0, none⟩ = some (S f.n) := hF3.cell 0;have q1 : w3.cell? ⟨w.heap.size, 1, none⟩ = some (S f.v) := hF3.cell 1;obtain ⟨w4, hput, hS4, ht4⟩ := TMp.put (hm2.on hb3) hml hno (by unfold maxLen;omega) f.v))
 go_ret;exact ⟨rfl, hS4, (But.of_below hb03).trans (but_turned ht4)⟩
theorem Gather_any {nb N : Nat} {tn : TypeId} (ns : List Bytes) (fs : List F) (v : Value) (hfs : ∀ f ∈ fs, f.n.head? = some 58 ∧ f.n.length ≤ 1000000 ∧ f.n ∈ ns) (hnd : (fs.map F.n).Nodup) (hll : fs.length ≤ 1000) (w : World) (h : Fs w.heap.size w v fs) (hN : ns.length = N) (hN2 : N ≤ 1000) (hn : Blk w nb tn (ns.map S).toArray) :
  Calls Tryz.prog 158 #[v, .slice (some ⟨nb, 0, none⟩) N N] w fun e w' => ∃ mb, e = .returned (.tuple #[.map (some mb), .slice none 0 0, .int .i64 0]) ∧ TMp w' mb (fs.map fun f => (f.n, f.v)) ∧ Below w.heap.size w w' := by
 have hmm := @run_makeMap Tryz.prog;have hmf : ∀ (fn : Fn) (first cap : Array Value) (w : World), (Instr.makeFunc fn first cap).run Tryz.prog w = .ok (.func fn first cap) w := fun _ _ _ _ => rfl
 obtain ⟨W, eW⟩ : ∃ W, W = (((((w.alloc (.cells #[.slice (some ⟨nb, 0, none⟩) N N] 250)).alloc (.map #[] 0)).alloc (.cells #[.map (some (w.heap.size + 1))] 243)).alloc (.cells #[.slice none 0 0] 46)).alloc (.cells #[Value.func (.func 170) #[] #[Ptr w.heap.size, Ptr (w.heap.size + 1 + 1)]] 248)) := ⟨_, rfl⟩;have hA : Blk W w.heap.size 250 #[.slice (some ⟨nb, 0, none⟩) N N] := (by rw [eW];exact ((((bnew_at w _ _ _ rfl).alloc _).alloc _).alloc _).alloc _);have hM : W.heap[w.heap.size + 1]? = some (.map #[] 0) := (by rw [eW];exact obj_alloc (obj_alloc (obj_alloc (obj_new _ _ _ (by simp)) _) _) _);have hB : Blk W (w.heap.size + 1 + 1) 243 #[.map (some (w.heap.size + 1))] := (by rw [eW];exact ((bnew_at _ _ _ _ (by simp)).alloc _).alloc _);have hC : Blk W (w.heap.size + 1 + 1 + 1) 46 #[.slice none 0 0] := (by rw [eW];exact (bnew_at _ _ _ _ (by simp)).alloc _);have hD : Blk W (w.heap.size + 1 + 1 + 1 + 1) 248 #[Value.func (.func 170) #[] #[Ptr w.heap.size, Ptr (w.heap.size + 1 + 1)]] := (by rw [eW];exact bnew_at _ _ _ _ (by simp));have hb : Below w.heap.size w W := (by rw [eW];exact (((((Below.refl _ _).alloc (Nat.le_refl _) _).alloc (by simp) _).alloc (by simp;omega) _).alloc (by simp;omega) _).alloc (by simp;omega) _);have hT : TMp W (w.heap.size + 1) [] := GMap.made hM;have hv := h.form;obtain ⟨va, vc, rfl, -⟩ := hv;clear hM;go_enter Tryz.func158, Tryz.ntmps158
 go_upto_region 5 with fail;rw [← eW];clear eW;go_wp2
 go_loopw [19] (fun i wr => ∃ k : Nat, k ≤ fs.length ∧ i = .int .i64 (k : Int) ∧ But (fun g => g = w.heap.size + 1) W wr ∧ TMp wr (w.heap.size + 1) ((fs.take k).map fun f => (f.n, f.v))) (fun i _ => fs.length - (intOf i).toNat)
 case atStart => exact ⟨0, Nat.zero_le _, rfl, But.refl _ _, hT⟩
 case round =>
  obtain ⟨k, hk, rfl, hu, hT⟩ := hrel;have hwr : Below w.heap.size w wr := hb.trans (hu.below (fun j hj => by omega) hb.size);have kp : ∀ {g : Nat} {o : Obj}, W.heap[g]? = some o → g ≠ w.heap.size + 1 → wr.heap[g]? = some o := fun {g o} ho hg => (hu.block g (lt_of_block ho) hg).trans ho
  have hAr : Blk wr _ _ _ := kp hA (by omega);have hBr : Blk wr _ _ _ := kp hB (by omega);have hCr : Blk wr _ _ _ := kp hC (by omega);have hDr : Blk wr _ _ _ := kp hD (by omega);by_cases hlt : k < fs.length
  ·obtain ⟨b, off, eab, hbl, x0, x1, x2⟩ := Fs.at (h.below hwr) k hlt
   subst eab;have hf := hfs _ (List.getElem_mem hlt)
   have hno : ∀ p ∈ (fs.take k).map (fun f => (f.n, f.v)), p.1 ≠ fs[k].n := by
    intro p hp e;obtain ⟨f', hf', rfl⟩ := List.mem_map.1 hp;obtain ⟨j, hj, ej⟩ := List.mem_iff_getElem.1 hf';rw [List.length_take] at hj;rw [List.getElem_take] at ej
    have h1 : (fs.map F.n)[j]'(by simp;omega) = (fs.map F.n)[k]'(by simpa using hlt) := by
     simp only [List.getElem_map, ej];exact e
    have h2 := List.pairwise_iff_getElem.1 (List.nodup_iff_pairwise_ne.1 hnd) j k (by simp;omega) (by simpa using hlt) (by omega);exact h2 h1
   have hsnoc := take_snoc fs k hlt;have HN := Lib.hid hsnoc;have HN0 := Lib.hid hN;clear hsnoc hN;generalize fs[k] = f at *;obtain ⟨W1, eW1⟩ : ∃ W1, W1 = wr.alloc (.cells #[S f.n, S f.v, .bool f.m] 45) := ⟨_, rfl⟩;have hb1 : Below wr.heap.size wr W1 := (by rw [eW1];exact (Below.refl _ _).alloc (Nat.le_refl _) _);have hF1 : Blk W1 wr.heap.size 45 #[S f.n, S f.v, .bool f.m] := (by rw [eW1];exact Blk.new _ _ _);have k0 : W1.cell? ⟨wr.heap.size, 0, none⟩ = some (S f.n) := hF1.cell 0;have k1 : W1.cell? ⟨wr.heap.size, 1, none⟩ = some (S f.v) := hF1.cell 1;have k2 : W1.cell? ⟨wr.heap.size, 2, none⟩ = some (.bool f.m) := hF1.cell 2;have hAsk := Ask_any ns _ f hf.1 hf.2.1 hf.2.2 hno (by rw [List.length_map, List.length_take];omega) W1 (hAr.on hb1) HN0.out hN2 ((hn.on hwr).on hb1) (hBr.on hb1) (hT.on hb1) (hCr.on hb1) (hDr.on hb1);go_upto_region 8 with fail;rw [← eW1];clear eW1;go_wp2_with (go_at_call 171;(with_reducible refine hAsk.mono ?_);rintro e w2 ⟨rfl, hS2, hb2⟩)
   go_roundw
   case rel => exact ⟨k + 1, by omega, by go_num, (hu.trans (But.of_below hb1)).trans hb2, by rw [HN.out, List.map_append];exact hS2⟩
   case measure => simp [intOf];omega
  ·obtain rfl : k = fs.length := by omega
   rw [List.take_length] at hT;have e7 : wr.cell? ⟨w.heap.size + 1 + 1, 0, none⟩ = some (.map (some (w.heap.size + 1))) := hBr.cell 0;have e8 : wr.cell? ⟨w.heap.size + 1 + 1 + 1, 0, none⟩ = some (.slice none 0 0) := hCr.cell 0;clear hN;go_wp2
   go_region
   go_wp2;go_ret3
   exact ⟨w.heap.size + 1, rfl, hT.drew, hwr.drew⟩
open Go.RowKit Go.Dr
theorem TakeInt_byte {B : Nat} {v : Value} (bits k : Nat) (c : UInt8) (rest : Bytes) (hb : bits = 4 ∨ bits = 5 ∨ bits = 6 ∨ bits = 7) (hk : Go.bits .and .i64 (c.toNat : Int) ((2 ^ bits - 1 : Nat) : Int) = (k : Int)) (hk2 : k + 1 < 2 ^ bits) (w : World) (h : By B w v (c :: rest)) :
  Calls Tryz.prog 168 #[v, .int .i64 (bits : Int)] w fun e w' => e = .returned (.tuple #[.int .i64 (k : Int), .int .i64 1, .int .i64 0]) ∧ w' = w := by
 obtain ⟨a, cc, rfl, hc, hcm⟩ := h.form;obtain ⟨b, off, rfl, hb0, x0⟩ := h.at 0 (by simp);have x1 : w.cell? ⟨b, off, none⟩ = some (.int .u8 (c.toNat : Int)) := x0;have hcn := UInt8.toNat_lt c;have hl : 0 < (c :: rest).length := (by simp);clear x0 h;generalize (c :: rest).length = n at *
 rcases hb with rfl | rfl | rfl | rfl
 all_goals
  have hk3 : (k : Int) + 1 < ((2 ^ _ : Nat) : Int) := Int.ofNat_lt.2 hk2;simp only [Nat.reducePow, Nat.reduceSub] at hk3
  first
   | (have hk' : Go.bits .and .i64 (c.toNat : Int) 15 = (k : Int) := hk;have hlt : (k : Int) < 15 := by omega)
   | (have hk' : Go.bits .and .i64 (c.toNat : Int) 31 = (k : Int) := hk;have hlt : (k : Int) < 31 := by omega)
   | (have hk' : Go.bits .and .i64 (c.toNat : Int) 63 = (k : Int) := hk;have hlt : (k : Int) < 63 := by omega)
   | (have hk' : Go.bits .and .i64 (c.toNat : Int) 127 = (k : Int) := hk;have hlt : (k : Int) < 127 := by omega)
  clear hk hk2 hk3;go_enter Tryz.func168, Tryz.ntmps168
  go_wp2;go_ret3
  exact ⟨rfl, rfl⟩
theorem Number_byte {r B : Nat} {v dv fv cv hv : Value} (bits k : Nat) (c : UInt8) (rest : Bytes) (hb : bits = 4 ∨ bits = 5 ∨ bits = 6 ∨ bits = 7) (hk : Go.bits .and .i64 (c.toNat : Int) ((2 ^ bits - 1 : Nat) : Int) = (k : Int)) (hk2 : k + 1 < 2 ^ bits) (w : World) (hR : Blk w r 235 #[dv, v, fv, cv, hv]) (h : By B w v (c :: rest)) (hBr : B ≤ r) :
  Calls Tryz.prog 155 #[Ptr r, .int .i64 (bits : Int)] w fun e w' => e = .returned (.int .i64 (k : Int)) ∧ (∃ v', Blk w' r 235 #[dv, v', fv, cv, hv] ∧ By B w' v' rest) ∧ But (fun k => k = r) w w' := by
 have hT := TakeInt_byte bits k c rest hb hk hk2 w h;obtain ⟨a2, c2, hB2, hs2⟩ := h.from 1 (by simp)
 have hB3 : By B (w.setCell ⟨r, 1, none⟩ (.slice a2 ((c :: rest).length - 1) c2)) (.slice a2 ((c :: rest).length - 1) c2) rest := hB2.below ((Below.refl B w).setCell (p := ⟨r, 1, none⟩) hBr _);have y1 : w.cell? ⟨r, 1, none⟩ = some v := hR.cell 1;have f1 := hR.free 1;have hkI : (k : Int) < 128 := (by rcases hb with rfl | rfl | rfl | rfl <;> (simp at hk2;omega));have hwk : IntKind.i64.wrap (k : Int) = (k : Int) := IntWalk.i64_in _ (by omega);obtain ⟨av, cv2, rfl, hc, hcm⟩ := h.form;simp only [Int.cast_ofNat_Int] at hs2;clear hk hk2 hB2 h;generalize (c :: rest).length = n at *;generalize n - 1 = n1 at *;go_enter Tryz.func155, Tryz.ntmps155
 go_wp2_with (go_at_call 168;go_must (refine hT.mono ?_);rintro e w2 ⟨rfl, rfl⟩)
 all_goals (go_ret;exact ⟨rfl, ⟨_, hR.set 1 _, hB3⟩, (But.refl (fun k => k = r) _).setCell (p := ⟨r, 1, none⟩) (.inl rfl) _⟩)
open Go.RowKit Go.Dr
theorem TakeText_raw {B : Nat} {v : Value} (s rest : Bytes) (hs : s.length < 127) (w : World) (h : By B w v (UInt8.ofNat s.length :: (s ++ rest))) :
  Calls Tryz.prog 182 #[v] w fun e w' => e = .returned (.tuple #[S s, .int .i64 ((1 + s.length : Nat) : Int), .int .i64 0]) ∧ w' = w := by
 have hu : (UInt8.ofNat s.length).toNat = s.length := (by simp;omega)
 have hbt : Go.bits .and .i64 ((UInt8.ofNat s.length).toNat : Int) ((2 ^ 7 - 1 : Nat) : Int) = (s.length : Int) := by
  rw [hu, bits_and _ _ (by omega) (by decide)];have : s.length &&& 2 ^ 7 - 1 = s.length := (by rw [Nat.and_two_pow_sub_one_eq_mod];omega)
  rw [this]
 have hT := TakeInt_byte 7 s.length (UInt8.ofNat s.length) (s ++ rest) (.inr (.inr (.inr rfl))) hbt (by show s.length + 1 < 128;omega) w h;obtain ⟨a2, c2, hB2, hs2⟩ := By.mid h 1 (1 + s.length) (by omega) (by simp;omega);have e2 : ((UInt8.ofNat s.length :: (s ++ rest)).take (1 + s.length)).drop 1 = s := (by rw [Nat.add_comm, List.take_succ_cons];simp);rw [e2] at hB2;have hX := hB2.text (P := Tryz.prog) 39 9 5 Tryz.underlying39 (by kernel_rfl) Tryz.underlying9;have hlen : ((UInt8.ofNat s.length :: (s ++ rest)).length : Int) ≥ 1 + s.length := (by simp;omega);obtain ⟨av, cv, rfl, hc, hcm⟩ := h.form;obtain ⟨b, off, rfl, hb0, x0⟩ := h.at 0 (by simp)
 have x1 : w.cell? ⟨b, off, none⟩ = some (.int .u8 (s.length : Int)) := by
  have e : B8 (UInt8.ofNat s.length :: (s ++ rest))[0] = .int .u8 (s.length : Int) := (by show Value.int .u8 _ = _;rw [List.getElem_cons_zero, hu]);rw [← e];exact x0
 have e3 : 1 + s.length - 1 = s.length := (by omega);rw [e3] at hs2 hX;have hw1 : IntKind.i64.wrap (s.length : Int) = (s.length : Int) := IntWalk.i64_in _ (by omega);have hw2 : IntKind.i64.wrap (1 + (s.length : Int)) = 1 + (s.length : Int) := IntWalk.i64_in _ (by omega);have hs3 : ∀ w' : World, (Instr.slice 39 (.slice (some ⟨b, off, none⟩) (UInt8.ofNat s.length :: (s ++ rest)).length cv) (some (.int .i64 1)) (some (.int .i64 (1 + (s.length : Int)))) none).run Tryz.prog w' = .ok (.slice a2 s.length c2) w' := fun w' => hs2 w'
 clear hs2 hB2 e2 e3 hu hbt x0 h;generalize (UInt8.ofNat s.length :: (s ++ rest)).length = n at *;go_enter Tryz.func182, Tryz.ntmps182
 go_wp2_with (go_at_call 168;go_must (refine hT.mono ?_);rintro e w2 ⟨rfl, rfl⟩)
 go_ret3
 exact ⟨rfl, rfl⟩
theorem Text_raw {r B : Nat} {v dv fv cv hv : Value} (s rest : Bytes) (hs : s.length < 127) (w : World) (hR : Blk w r 235 #[dv, v, fv, cv, hv]) (h : By B w v (UInt8.ofNat s.length :: (s ++ rest))) (hBr : B ≤ r) :
  Calls Tryz.prog 169 #[Ptr r] w fun e w' => e = .returned (S s) ∧ (∃ v', Blk w' r 235 #[dv, v', fv, cv, hv] ∧ By B w' v' rest) ∧ But (fun k => k = r) w w' := by
 have hT := TakeText_raw s rest hs w h;obtain ⟨a2, c2, hB2, hs2⟩ := h.from (1 + s.length) (by simp;omega)
 have e2 : (UInt8.ofNat s.length :: (s ++ rest)).drop (1 + s.length) = rest := (by rw [Nat.add_comm, List.drop_succ_cons];simp);rw [e2] at hB2;have hB3 : By B (w.setCell ⟨r, 1, none⟩ (.slice a2 ((UInt8.ofNat s.length :: (s ++ rest)).length - (1 + s.length)) c2)) (.slice a2 ((UInt8.ofNat s.length :: (s ++ rest)).length - (1 + s.length)) c2) rest := hB2.below ((Below.refl B w).setCell (p := ⟨r, 1, none⟩) hBr _);have y1 : w.cell? ⟨r, 1, none⟩ = some v := hR.cell 1;have f1 := hR.free 1;obtain ⟨av, cv2, rfl, hc, hcm⟩ := h.form;clear hB2 h e2;generalize (UInt8.ofNat s.length :: (s ++ rest)).length = n at *;obtain ⟨q, hq⟩ : ∃ q, q = 1 + s.length := ⟨_, rfl⟩;rw [← hq] at hT hs2 hB3;clear hq;generalize n - q = n1 at *;go_enter Tryz.func169, Tryz.ntmps169
 go_wp2_with (go_at_call 182;go_must (refine hT.mono ?_);rintro e w2 ⟨rfl, rfl⟩)
 all_goals (go_ret;exact ⟨rfl, ⟨_, hR.set 1 _, hB3⟩, (But.refl (fun k => k = r) _).setCell (p := ⟨r, 1, none⟩) (.inl rfl) _⟩)
end Go.Proofs.YtcodgfmombehoaaGreatDoor
