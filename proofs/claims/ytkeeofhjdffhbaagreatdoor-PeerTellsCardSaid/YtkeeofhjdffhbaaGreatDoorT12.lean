/- Parts of the proof of pt_root: the texts Gt1. -/
import Derived.Test.YtkeeofhjdffhbaaGreatDoorT11
set_option linter.unusedSimpArgs false
set_option linter.unusedVariables false
set_option linter.unnecessarySimpa false
namespace Go.Proofs.YtkeeofhjdffhbaaGreatDoor
open Go.RowKit Go.Dr
/-- what no ask turns: items, settings, the row of asks -/
def Kp (w w' : World) : Prop := w.heap.size ≤ w'.heap.size ∧ ∀ (g : Nat) (cur : Array Value) (t : TypeId), (t = 74 ∨ t = 31 ∨ t = 115) → w.heap[g]? = some (.cells cur t (0, 0)) → w'.heap[g]? = some (.cells cur t (0, 0))
theorem Kp.refl (w : World) : Kp w w := ⟨Nat.le_refl _, fun _ _ _ _ h => h⟩
theorem Kp.trans {a b c : World} (h : Kp a b) (h2 : Kp b c) : Kp a c := ⟨Nat.le_trans h.1 h2.1, fun g cur t ht hg => h2.2 g cur t ht (h.2 g cur t ht hg)⟩
theorem Kp.of {S : Nat → Prop} {w w' : World} (h : But S w w') (hS : ∀ (g : Nat) (cur : Array Value) (t : TypeId), (t = 74 ∨ t = 31 ∨ t = 115) → w.heap[g]? = some (.cells cur t (0, 0)) → ¬ S g) : Kp w w' :=
 ⟨h.size, fun g cur t ht hg => (h.block g (lt_of_block hg) (hS g cur t ht hg)).trans hg⟩
theorem Kp.alloc (w : World) (o : Obj) : Kp w (w.alloc o) := ⟨by simp, fun g _ _ _ hg => (Below.heap_alloc w o g (lt_of_block hg)).trans hg⟩
/-- a block of another type has turned -/
theorem Kp.set {w : World} {p : Nat} {t : TypeId} {xs : Array Value} (h : Blk w p t xs) (ht : ¬ (t = 74 ∨ t = 31 ∨ t = 115)) (k : Nat) (v : Value) : Kp w (w.setCell ⟨p, k, none⟩ v) :=
 Kp.of (S := fun k => k = p) ((But.refl (fun k => k = p) w).setCell (p := ⟨p, k, none⟩) (.inl rfl) v) fun g cur t' ht' hg e => by
  have := (show w.heap[p]? = _ from h).symm.trans (e ▸ hg)
  simp only [Option.some.injEq, Obj.cells.injEq] at this
  exact ht (this.2.1 ▸ ht')
theorem Itm.cells_length (i : Itm) : i.cells.length = 15 := rfl
theorem itcells_get (l : List Itm) (k : Nat) (h : k < l.length) (j : Nat) (hj : j < 15) : (itcells l)[k * 15 + j]? = (l[k].cells)[j]? := by
 induction l generalizing k with
 | nil => simp at h
 | cons x l ih =>
  have e : itcells (x :: l) = x.cells ++ itcells l := by simp [itcells]
  cases k with
  | zero => rw [e, List.getElem?_append_left (by rw [Itm.cells_length];omega)];simp
  | succ k =>
   rw [e, List.getElem?_append_right (by rw [Itm.cells_length];omega)]
   simp only [List.getElem_cons_succ]
   rw [← ih k (by simpa using h)]
   congr 1
   rw [Itm.cells_length]
   omega
theorem its_at {w : World} {base : Nat} {ar : Option Addr} {n c : Nat} {its : List Itm} (h : w.ownsRow base 74 15 (.slice ar n c) its.length (itcells its)) (k : Nat) (hk : k < its.length) :
  ∃ g, ar = some ⟨g, 0, none⟩ ∧ ∀ j, j < 15 → w.cell? ⟨g, k * 15 + j, none⟩ = (its[k].cells)[j]? := by
 rcases h.2 with ⟨-, h0⟩ | ⟨g, cap, cur, hv, -, hg, -, -, -, ht⟩
 ·omega
 ·simp only [Value.slice.injEq] at hv
  refine ⟨g, hv.1, fun j hj => ?_⟩
  rw [← itcells_get its k hk j hj, ← ht]
  simp only [World.cell?, hg]
  rw [List.getElem?_take_of_lt (by omega)]
  simp
/-- the asks, in their order -/
def askF : Nat → FuncId
 | 0 => 47
 | 1 => 48
 | 2 => 49
 | 3 => 50
 | 4 => 51
 | 5 => 52
 | _ => 53
abbrev asksC (p : Nat) : Array Value := #[.func (.func 47) #[Ptr p] #[], .func (.func 48) #[Ptr p] #[], .func (.func 49) #[Ptr p] #[], .func (.func 50) #[Ptr p] #[], .func (.func 51) #[Ptr p] #[], .func (.func 52) #[Ptr p] #[], .func (.func 53) #[Ptr p] #[]]
theorem asks_get (p j : Nat) (hj : j < 7) : (asksC p)[j]? = some (.func (.func (askF j)) #[Ptr p] #[]) := by
 match j, hj with
 | 0, _ => rfl
 | 1, _ => rfl
 | 2, _ => rfl
 | 3, _ => rfl
 | 4, _ => rfl
 | 5, _ => rfl
 | 6, _ => rfl
set_option maxRecDepth 100000 in
theorem askF_enter (j : Nat) (args : Array Value) (w : World) : (callFunc (askF j) args).run Tryz.prog w = .ok (.enter (askF j) args) w := by
 match j with
 | 0 => rfl
 | 1 => rfl
 | 2 => rfl
 | 3 => rfl
 | 4 => rfl
 | 5 => rfl
 | _ + 6 => rfl
set_option maxRecDepth 100000 in
set_option maxHeartbeats 8000000 in
theorem Got_run {p fi : Nat} (l : Bytes) (vb : Value) (w : World) (hp : p < w.heap.size) (hin : w.cell? ⟨p, 1, none⟩ = some (Ptr fi)) (hf : Blk w fi 158 (feedC 16777215 24 (.slice none 0 0) false)) (hb : By w.heap.size w vb l) (hl : l.length ≤ 1048576)
  (q : List (Fr × Ft)) (lo : Bytes) (ov : Bool) (eR : itemsF 16777215 (l.length + 1) l = (q, lo, ov)) (K : Nat → Nat → World → Prop)
  (hK0 : ∀ w0 w1 v', Below w.heap.size w w0 → But (fun k => k = fi) w0 w1 → Blk w1 fi 158 (feedC 16777215 24 v' ov) → w1.ownsRow w.heap.size 5 1 v' (if ov then [] else lo).length ((if ov then [] else lo).map B8) → ((if ov then [] else lo) = [] → v' = .slice none 0 0) → K 0 0 w1)
  (hKa : ∀ k w' o, K k 0 w' → K k 0 (w'.alloc o)) (hK7 : ∀ k w', K k 7 w' → K (k + 1) 0 w')
  (hKc : ∀ k j w', K k j w' → ∃ bad : Int, w'.cell? ⟨p, 19, none⟩ = some (.int .i64 bad) ∧ (bad ≠ 0 → K k (j + 1) w'))
  (hKs : ∀ k j w' vs, K k j w' → w'.cell? ⟨p, 19, none⟩ = some (.int .i64 0) → j < 7 → ∀ hk : k < q.length, (∃ b, w'.ownsRow b 31 2 vs q[k].1.sets.length (scells q[k].1.sets)) →
   Calls Tryz.prog (askF j) #[Ptr p, itemV q[k].1 vs q[k].2] w' fun e w2 => ∃ x : Int, e = .returned (.int .i64 x) ∧ Kp w' w2 ∧ (∃ xs, Blk w2 p 97 xs ∧ xs.size = 20) ∧ K k (j + 1) (w2.setCell ⟨p, 19, none⟩ (.int .i64 x))) :
  Calls Tryz.prog 13 #[Ptr p, vb] w fun e w' => ∃ bad : Int, e = .returned (.int .i64 bad) ∧ w'.cell? ⟨p, 19, none⟩ = some (.int .i64 bad) ∧ K q.length 0 w' := by
 have hmf : ∀ (fn : Fn) (first cap : Array Value) (w : World), (Instr.makeFunc fn first cap).run Tryz.prog w = .ok (.func fn first cap) w := fun _ _ _ _ => rfl
 obtain ⟨W, eW⟩ : ∃ W, W = w.alloc (.cells (asksC p) 115) := ⟨_, rfl⟩
 have hWb : Below w.heap.size w W := by rw [eW];exact (Below.refl _ _).alloc (Nat.le_refl _) _
 have hWs : W.heap.size = w.heap.size + 1 := by rw [eW];simp
 have hA : Blk W w.heap.size 115 (asksC p) := by rw [eW];exact Blk.new _ _ _
 have hin' : W.cell? ⟨p, 1, none⟩ = some (Ptr fi) := by
  have e : W.heap[p]? = w.heap[p]? := hWb.block p hp
  unfold World.cell? at hin ⊢
  rw [e]
  exact hin
 have hT := Feed_take l vb W (by decide) (hf.on hWb) ((hb.below hWb).mono hWb.size) hl
 rw [eR] at hT
 dsimp only at hT
 go_enter Tryz.func13, Tryz.ntmps13
 go_wp2_with (go_at_call 40;rw [← eW];refine hT.mono ?_;rintro e w1 ⟨v, its, v', rfl, hits, hrow, hsets, hfeed, hv', hbut, hz⟩;obtain ⟨ar, cr, rfl⟩ := own_form hrow)
 have hK := hK0 W w1 v' hWb hbut hfeed (own_base hv' hWb.size) hz
 have hA1 : Blk w1 w.heap.size 115 (asksC p) := (hbut.block _ (by omega) (fun e => by have h := hf.lt;have e2 : w.heap.size = fi := e;omega)).trans hA
 have HN := Lib.hid (show its.length = q.length by rw [← hits];simp)
 have hmx : its.length ≤ 9223372036854775807 := (Rd.own hrow).len
 go_loopw [34] (fun i wr => ∃ k : Nat, k ≤ q.length ∧ i = .int .i64 (k : Int) ∧ Kp w1 wr ∧ K k 0 wr) (fun i _ => q.length - (intOf i).toNat)
 case atStart => exact ⟨0, Nat.zero_le _, rfl, Kp.refl _, hK⟩
 case round =>
  obtain ⟨k, hk, rfl, hkp, hKk⟩ := hrel
  by_cases hlt : k < q.length
  ·have hlt2 : k < its.length := by rw [HN.out];exact hlt
   obtain ⟨⟨f, x, vs⟩, hi⟩ : ∃ i, i = its[k] := ⟨_, rfl⟩
   have hvs := hsets ⟨f, x, vs⟩ (hi ▸ List.getElem_mem _)
   dsimp only at hvs
   obtain ⟨sa, sc, rfl⟩ := own_form hvs
   have hqi : q[k] = (f, x) := by subst hits;rw [List.getElem_map, ← hi]
   obtain ⟨g, rfl, hcell⟩ := its_at (own_block hrow fun g cur hg _ => (hkp.2 g cur _ (.inl rfl) hg).trans hg.symm) k hlt2
   rw [← hi] at hcell
   have y0 : wr.cell? ⟨g, k * 15, none⟩ = some (.int .i64 (f.ty : Nat)) := hcell 0 (by decide)
   have y1 : wr.cell? ⟨g, k * 15 + 1, none⟩ = some (.int .i64 (f.fl : Nat)) := hcell 1 (by decide)
   have y2 : wr.cell? ⟨g, k * 15 + 2, none⟩ = some (.int .i64 (f.st : Nat)) := hcell 2 (by decide)
   have y3 : wr.cell? ⟨g, k * 15 + 3, none⟩ = some (S f.data) := hcell 3 (by decide)
   have y4 : wr.cell? ⟨g, k * 15 + 4, none⟩ = some (.int .i64 (f.pad : Nat)) := hcell 4 (by decide)
   have y5 : wr.cell? ⟨g, k * 15 + 5, none⟩ = some ((.slice sa f.sets.length sc)) := hcell 5 (by decide)
   have y6 : wr.cell? ⟨g, k * 15 + 6, none⟩ = some (.int .i64 (f.code : Nat)) := hcell 6 (by decide)
   have y7 : wr.cell? ⟨g, k * 15 + 7, none⟩ = some (.int .i64 (f.last : Nat)) := hcell 7 (by decide)
   have y8 : wr.cell? ⟨g, k * 15 + 8, none⟩ = some (.int .i64 (f.inc : Nat)) := hcell 8 (by decide)
   have y9 : wr.cell? ⟨g, k * 15 + 9, none⟩ = some (.int .i64 (f.dep : Nat)) := hcell 9 (by decide)
   have y10 : wr.cell? ⟨g, k * 15 + 10, none⟩ = some (.int .i64 (f.wt : Nat)) := hcell 10 (by decide)
   have y11 : wr.cell? ⟨g, k * 15 + 11, none⟩ = some (.bool f.sole) := hcell 11 (by decide)
   have y12 : wr.cell? ⟨g, k * 15 + 12, none⟩ = some (.bool x.is) := hcell 12 (by decide)
   have y13 : wr.cell? ⟨g, k * 15 + 13, none⟩ = some (.int .i64 (x.code : Nat)) := hcell 13 (by decide)
   have y14 : wr.cell? ⟨g, k * 15 + 14, none⟩ = some (.int .i64 (x.st : Nat)) := hcell 14 (by decide)
   obtain ⟨wr1, ewr⟩ : ∃ wr1, wr1 = wr.alloc (.cells (Itm.mk f x (.slice sa f.sets.length sc)).cells.toArray 74) := ⟨_, rfl⟩
   have hkp1 : Kp w1 wr1 := by rw [ewr];exact hkp.trans (Kp.alloc _ _)
   have hI1 : Blk wr1 wr.heap.size 74 (Itm.mk f x (.slice sa f.sets.length sc)).cells.toArray := by rw [ewr];exact Blk.new _ _ _
   have hK1 : K k 0 wr1 := by rw [ewr];exact hKa k wr _ hKk
   have HQ := Lib.hid hqi
   have HW := Lib.hid ewr
   have hII : ∃ b, wr1.ownsRow b 31 2 (.slice sa f.sets.length sc) f.sets.length (scells f.sets) := ⟨_, own_block (hvs) fun g cur hg _ => (hkp1.2 g cur _ (.inr (.inl rfl)) hg).trans hg.symm⟩
   clear hcell hi hqi ewr hrow hsets hvs hz hv' hfeed hT hb hin' hin hA hits
   go_wp2
   go_loopw [40] (fun y wi => ∃ j : Nat, j ≤ 7 ∧ y = .int .i64 (j : Int) ∧ Kp wr1 wi ∧ K k j wi) (fun y _ => 7 - (intOf y).toNat)
   case atStart => exact ⟨0, by decide, rfl, by rw [HW.out];exact Kp.refl _, by rw [HW.out] at hK1;exact hK1⟩
   case round =>
    obtain ⟨j, hj, rfl, hkpi, hKj⟩ := hrel
    by_cases hj7 : j < 7
    ·have hIi : Blk wr _ _ _ := hkpi.2 _ _ _ (.inl rfl) hI1
     have z0 : wr.cell? ⟨_, 0, none⟩ = some (.int .i64 (f.ty : Nat)) := hIi.cell 0
     have z1 : wr.cell? ⟨_, 1, none⟩ = some (.int .i64 (f.fl : Nat)) := hIi.cell 1
     have z2 : wr.cell? ⟨_, 2, none⟩ = some (.int .i64 (f.st : Nat)) := hIi.cell 2
     have z3 : wr.cell? ⟨_, 3, none⟩ = some (S f.data) := hIi.cell 3
     have z4 : wr.cell? ⟨_, 4, none⟩ = some (.int .i64 (f.pad : Nat)) := hIi.cell 4
     have z5 : wr.cell? ⟨_, 5, none⟩ = some (.slice sa f.sets.length sc) := hIi.cell 5
     have z6 : wr.cell? ⟨_, 6, none⟩ = some (.int .i64 (f.code : Nat)) := hIi.cell 6
     have z7 : wr.cell? ⟨_, 7, none⟩ = some (.int .i64 (f.last : Nat)) := hIi.cell 7
     have z8 : wr.cell? ⟨_, 8, none⟩ = some (.int .i64 (f.inc : Nat)) := hIi.cell 8
     have z9 : wr.cell? ⟨_, 9, none⟩ = some (.int .i64 (f.dep : Nat)) := hIi.cell 9
     have z10 : wr.cell? ⟨_, 10, none⟩ = some (.int .i64 (f.wt : Nat)) := hIi.cell 10
     have z11 : wr.cell? ⟨_, 11, none⟩ = some (.bool f.sole) := hIi.cell 11
     have z12 : wr.cell? ⟨_, 12, none⟩ = some (.bool x.is) := hIi.cell 12
     have z13 : wr.cell? ⟨_, 13, none⟩ = some (.int .i64 (x.code : Nat)) := hIi.cell 13
     have z14 : wr.cell? ⟨_, 14, none⟩ = some (.int .i64 (x.st : Nat)) := hIi.cell 14
     have hAi : Blk wr _ _ _ := hkpi.2 _ _ _ (.inr (.inr rfl)) (hkp1.2 _ _ _ (.inr (.inr rfl)) hA1)
     have hask := (hAi.cell j).trans (asks_get p j hj7)
     have hF := askF_enter j
     have hS : ∃ b, wr.ownsRow b 31 2 (.slice sa f.sets.length sc) f.sets.length (scells f.sets) := hII.imp fun b h => own_block h fun g cur hg _ => (hkpi.2 g cur _ (.inr (.inl rfl)) hg).trans hg.symm
     obtain ⟨bad, hbad, hnb⟩ := hKc k j wr hKj
     have hC := fun h0 => hKs k j wr (.slice sa f.sets.length sc) hKj h0 hj7 hlt
     rw [HQ.out] at hC
     dsimp only at hC
     obtain ⟨F, eF⟩ : ∃ F, F = askF j := ⟨_, rfl⟩
     rw [← eF] at hask hF hC
     clear eF hIi hAi y0 y1 y2 y3 y4 y5 y6 y7 y8 y9 y10 y11 y12 y13 y14
     by_cases hb0 : bad = 0
     ·subst hb0
      have hC := hC hbad hS
      clear hnb hS
      go_wp2_with fail
      refine hC.mono ?_
      rintro e w2 ⟨x2, rfl, hkp2, ⟨xs, hP, hxs⟩, hK2⟩
      clear hC z0 z1 z2 z3 z4 z5 z6 z7 z8 z9 z10 z11 z12 z13 z14 hbad hask
      have c19 : w2.cell? ⟨p, 19, none⟩ = some (xs[19]'(by omega)) := (hP.cell 19).trans (Array.getElem?_eq_getElem (by omega))
      have f19 := hP.free 19
      generalize xs[19]'(by omega) = u19 at c19
      go_wp2
      go_roundw
      case rel =>
       exact ⟨j + 1, by omega, by go_num, hkpi.trans (hkp2.trans (Kp.set hP (by decide) 19 _)), hK2⟩
      case measure => simp [intOf];omega
     ·have hK2 := hnb hb0
      clear hC z0 z1 z2 z3 z4 z5 z6 z7 z8 z9 z10 z11 z12 z13 z14 hnb hS
      go_wp2
      go_roundw
      case rel => exact ⟨j + 1, by omega, by go_num, hkpi, hK2⟩
      case measure => simp [intOf];omega
    ·obtain rfl : j = 7 := by omega
     have hK2 := hK7 k _ hKj
     have hkp2 := hkp1.trans hkpi
     go_wp2
     go_roundw
     case rel => exact ⟨k + 1, by omega, by go_num, hkp2, hK2⟩
     case measure => simp [intOf];omega
  ·obtain rfl : k = q.length := by omega
   obtain ⟨bad, hbad, -⟩ := hKc _ _ _ hKk
   have hn' : ¬ (q.length < its.length) := by rw [HN.out];omega
   go_wp2
   go_ret
   exact ⟨bad, rfl, hbad, hKk⟩
end Go.Proofs.YtkeeofhjdffhbaaGreatDoor
