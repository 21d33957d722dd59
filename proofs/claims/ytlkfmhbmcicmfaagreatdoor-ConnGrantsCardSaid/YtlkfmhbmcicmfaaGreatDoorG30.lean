/- Parts of the proof of gr_root: the texts Law22f Cnc3 Law22h Open Open9 Law22i. -/
import Derived.Maps.RangeWalk
import Derived.ChangeSame
import Derived.Deep.DeepHandedRow
import Derived.Deep.Fields
import Derived.Deep.Slices
import Derived.Deep.Strs
import Derived.LaidMore
import Derived.Lay
import Derived.Lib.SmallJoins
import Derived.OpenShut
import Derived.ProofKit
import Derived.SevenTiedAt
import Derived.Stop.Joined
import Derived.Test.YtlkfmhbmcicmfaaGreatDoorG26
import Derived.Test.YtlkfmhbmcicmfaaGreatDoorG27
import Derived.Test.YtlkfmhbmcicmfaaGreatDoorG29
set_option linter.unusedSimpArgs false
set_option linter.unusedVariables false
set_option linter.unnecessarySimpa false
namespace Go.Proofs.YtlkfmhbmcicmfaaGreatDoor
open Go Go.RowKit Go.Dr
variable {w w' : World} {n : Nm} {q q' : Cq}

/-- the block of a request for '/' -/
abbrev dS : Bytes := getB [132]
theorem getX_dS : (32 :: (getX [47]).flatMap encB) = dS := by decide +kernel
set_option maxHeartbeats 4000000 in
/-- one frame comes -/
theorem Take_one {F : Nat → Prop} {ty fl st : Nat} {pl : Bytes} {f : Fr} (hk : Tk 16384 ty fl st pl f) (w : World) (h : Cw w n q F) (hov : q.over = false) (hpre : q.pre = 24) (vb : Value) (hb : By w.heap.size w vb (frB ty fl st pl)) (q' : Cq)
    (hIt : ∀ w1 F1 sa sc, Cw w1 n { q with news := [] } F1 → (∃ b, w1.ownsRow b 31 2 (.slice sa f.sets.length sc) f.sets.length (scells f.sets)) → Calls Tryz.prog 66 #[Ptr n.c, itmV f (.slice sa f.sets.length sc) {}] w1 fun r w' => r = .returned (.tuple #[]) ∧ Goes w1 n F1 w' q') :
    Calls Tryz.prog 23 #[Ptr n.c, vb] w fun e w' => ∃ v j, e = .returned v ∧ w'.ownsRow n.B 65 10 v j q'.news ∧ Goes w n F w' q' := by
  have hlen := frB_length ty fl st pl
  have hpl := hk.len
  exact Taken_any w h hov vb [(f, ({} : Ft))] (fun k => if k = 0 then { q with news := [], pre := 24 } else q') rfl
    (by intro k hk; obtain rfl : k = 0 := by simpa using hk
        exact hov)
    (fun W F1 hbW eW hW => by
      obtain ⟨m', hx', -⟩ := hW
      have hfd := hx'.feed
      rw [show ({ q with news := [] } : Cq).pre = 24 from hpre] at hfd
      refine take_then (l := frB ty fl st pl) hfd ?_ (by omega) (itemsF_1 hk (by decide) (by omega))
      rw [eW]
      obtain ⟨m, hx, rfl⟩ := h
      exact (hb.off hx.blk hx.no_b8 21 (.slice none 0 0)).mono (Nat.le_of_eq (by simp)))
    (fun k hkl w1 F1 sa sc h1 hs => by
      obtain rfl : k = 0 := by simpa using hkl
      have e : ({ q with news := [], pre := 24 } : Cq) = { q with news := [] } := by rw [← hpre]
      exact hIt w1 F1 sa sc (e ▸ h1) hs)

/-- what becomes of a connection -/
theorem goes_on {w0 w w' : World} {F : Nat → Prop} (hC : Cw w n q F) (hb : Below w0.heap.size w0 w) (hB : w0.heap.size ≤ n.B) (hz : n.B ≤ w.heap.size) (hG : Goes w n F w' q') : ∃ F', Cw w' n q' F' ∧ Below w0.heap.size w0 w' ∧ n.B ≤ w'.heap.size := by
  have h := hG.below hC hz
  obtain ⟨F', hC', -⟩ := hG
  exact ⟨F', hC', hb.trans (h.mono hB), Nat.le_trans hz h.size⟩
theorem cw_on {w0 w w' : World} {F : Nat → Prop} (hC : Cw w n q F) (hb : Below w0.heap.size w0 w) (hz : n.B ≤ w.heap.size) (h : Below w.heap.size w w') : Cw w' n q F ∧ Below w0.heap.size w0 w' ∧ n.B ≤ w'.heap.size := ⟨hC.on h, hb.trans (h.mono hb.size), Nat.le_trans hz h.size⟩
end Go.Proofs.YtlkfmhbmcicmfaaGreatDoor

namespace Go.Proofs.YtlkfmhbmcicmfaaGreatDoor
open Go Go.RowKit Go.Dr
variable {w w' : World} {n : Nm} {m : Mm} {q q' : Cq}

set_option maxHeartbeats 4000000 in
/-- a frame of a greeted connection that is within no block -/
theorem Item_then {F : Nat → Prop} {d : Bytes} {x4 x6 x7 x8 x9 x10 : Int} {x11 : Bool} {sa : Option Addr} {sk sc : Nat} {ty fl st : Int} (w : World) (h : Cw w n q F) (hgr : q.greeted = true) (hfo : q.fo = 0) (hty : I64 ty) (h9 : ty ≠ 9) (k : Nat) (hk : wayV ty = .func (.func k) #[] #[]) (hEn : ∀ (args : Array Value) (w : World), (callFunc k args).run Tryz.prog w = .ok (.enter k args) w)
    (hDo : ∀ w1 F1, Cw w1 n q F1 → Calls Tryz.prog k #[Ptr n.c, .agg #[.int .i64 ty, .int .i64 fl, .int .i64 st, S d, .int .i64 x4, .slice sa sk sc, .int .i64 x6, .int .i64 x7, .int .i64 x8, .int .i64 x9, .int .i64 x10, .bool x11]] w1 fun r w' => r = .returned (.tuple #[]) ∧ Goes w1 n F1 w' q') (q2 : Cq) (hq2 : ({ q' with over := q'.over || (q'.drained && q'.live.isEmpty) } : Cq) = q2) :
    Calls Tryz.prog 66 #[Ptr n.c, .agg #[.int .i64 ty, .int .i64 fl, .int .i64 st, S d, .int .i64 x4, .slice sa sk sc, .int .i64 x6, .int .i64 x7, .int .i64 x8, .int .i64 x9, .int .i64 x10, .bool x11, .bool false, .int .i64 0, .int .i64 0]] w fun r w' => r = .returned (.tuple #[]) ∧ Goes w n F w' q2 := by
  have eg : ({ q with greeted := true } : Cq) = q := by
    cases q
    simp only [] at hgr
    rw [hgr]
  exact Item_do w h hty k hk hEn (fun w1 F1 h1 => Placed_then w1 h1 hgr hfo h9) (fun w1 F1 _ h1 => hDo w1 F1 (eg ▸ h1)) q2 hq2

end Go.Proofs.YtlkfmhbmcicmfaaGreatDoor

namespace Go.Proofs.YtlkfmhbmcicmfaaGreatDoor
open Go Go.RowKit Go.Dr
variable {w w' : World} {n : Nm} {q q' : Cq}

/-- what the blocks of a connection hold -/
theorem Cw.sort {F : Nat → Prop} (h : Cw w n q F) {g : Nat} (hg : F g) : kd w g = 0 ∨ kd w g = 131 + 1 ∨ kd w g = 164 + 1 ∨ kd w g = 169 + 1 ∨ kd w g = 215 + 1 ∨ kd w g = 186 + 1 ∨ kd w g = 188 + 1 ∨ kd w g = 5 + 1 ∨ kd w g = 65 + 1 ∨ kd w g = 3 + 1 ∨ kd w g = 147 + 1 := by
  obtain ⟨m, hx, rfl⟩ := h
  obtain ⟨k1, k2, k3, k4, k5, k6, k7, k8, k9, k10, k11, k12, k13, k14, kbv, knv, kcv, ksd⟩ := hx.kinds
  rcases hg with hg | hg | hg | ⟨p, hp, hg⟩
  · rcases hg with rfl | rfl | rfl | rfl | rfl | rfl | rfl | rfl | rfl | rfl <;> omega
  · rcases hg with rfl | rfl | rfl | rfl <;> omega
  · rcases hg with hg | hg | hg
    · have := kbv g hg; omega
    · have := knv g hg; omega
    · have := kcv g hg; omega
  · rcases hg with rfl | hg
    · have := (ksd p hp).1; omega
    · have := (ksd p hp).2 g hg; omega
set_option maxRecDepth 100000 in
set_option maxHeartbeats 8000000 in
/-- the bytes of one frame -/
theorem Bytes_of {g : Nat} {c0 c1 c2 c3 c4 c5 c6 c7 c8 c9 c10 c11 : Value} (l : Bytes) (w : World) (hg : Blk w g 34 #[c0, c1, c2, c3, c4, c5, c6, c7, c8, c9, c10, c11]) (hl0 : 0 < l.length) (hl : l.length ≤ 1000000)
    (hP : ∀ w1, Calls Tryz.prog 12 #[.agg #[c0, c1, c2, c3, c4, c5, c6, c7, c8, c9, c10, c11]] w1 fun e w' => ∃ v, e = .returned (.tuple #[v, .int .i64 0]) ∧ w'.ownsRow w1.heap.size 5 1 v l.length (l.map B8) ∧ Below w1.heap.size w1 w') :
    Calls Tryz.prog 25 #[.slice (some ⟨g, 0, none⟩) 1 1] w (OutC l w) := by
  (have z0 : w.cell? ⟨g, 0, none⟩ = some (c0) := hg.cell 0; have z1 : w.cell? ⟨g, 1, none⟩ = some (c1) := hg.cell 1; have z2 : w.cell? ⟨g, 2, none⟩ = some (c2) := hg.cell 2; have z3 : w.cell? ⟨g, 3, none⟩ = some (c3) := hg.cell 3; have z4 : w.cell? ⟨g, 4, none⟩ = some (c4) := hg.cell 4; have z5 : w.cell? ⟨g, 5, none⟩ = some (c5) := hg.cell 5; have z6 : w.cell? ⟨g, 6, none⟩ = some (c6) := hg.cell 6; have z7 : w.cell? ⟨g, 7, none⟩ = some (c7) := hg.cell 7; have z8 : w.cell? ⟨g, 8, none⟩ = some (c8) := hg.cell 8; have z9 : w.cell? ⟨g, 9, none⟩ = some (c9) := hg.cell 9; have z10 : w.cell? ⟨g, 10, none⟩ = some (c10) := hg.cell 10; have z11 : w.cell? ⟨g, 11, none⟩ = some (c11) := hg.cell 11)
  go_enter Tryz.func25, Tryz.ntmps25
  go_wp2
  refine wp_loop_rounds 2 ?_
  rw [rounds_succ]
  go_wp2_with first
    | (go_at_call 12; go_must ((with_reducible refine (hP _).mono ?_); rintro r w2 ⟨v, rfl, hrow, hb2⟩))
    | (at_builtin; refine wpList_appAt rfl _ _ 26 rfl w.heap.size 5 (.int .u8 0) 1 1 Tryz.underlying26 (by kernel_rfl) rfl (by decide) _ _ _ rfl (World.ownsRow_nil _ _ _ _) w2.heap.size _ l.length (l.map B8) rfl (Rd.own hrow) (b8_one2 _) (by unfold maxLen; omega) (by omega) hb2.size ?_; intro a5 c5 w5 hown5 hg5 hat5)
  rw [rounds_succ]
  go_wp2
  go_ret
  exact ⟨_, rfl, by simpa using hown5, hb2.trans ((but_grow hg5).below (fun k hk => by cases hk) hb2.size)⟩


end Go.Proofs.YtlkfmhbmcicmfaaGreatDoor

namespace Go.Dr
open Go.RowKit Go.ChangeShapes Go.WideShapes Go.Deep
open Go.ChangeMaps (open_string)

section
variable {H : Type} {enc : TypeId × Value → H} {P : Program}

theorem TrodAll_below (hl : laidOutB P = true) {W W' : World} (hb : Below W.heap.size W W') : ∀ (ts : List TypeId) (vs : List Value) (ds : List (DataW H)) (ps : List MemPlace),
    (ts.all fun t => P.readableRec t && decide (t < P.types.size)) = true → DataW.TrodAll enc P W 0 (fun _ => true) true ts vs ds ps → (∀ x ∈ ps, x.block < W.heap.size) →
    DataW.TrodAll enc P W' 0 (fun b => decide (b < W.heap.size)) true ts vs ds ps
  | [], [], [], _, _, h, _ => h
  | t :: ts, v :: vs, d :: ds, ps, hr, h, hlt => by
    obtain ⟨p, q, h1, h2, rfl⟩ := h
    simp only [List.all_cons, Bool.and_eq_true, decide_eq_true_eq] at hr
    exact ⟨p, q, Below.trod hl hr.1.1 hr.1.2 h1 hb (fun x hx => hlt x (List.mem_append_left _ hx)),
      TrodAll_below hl hb ts vs ds q hr.2 h2 (fun x hx => hlt x (List.mem_append_right _ hx)), rfl⟩

/-- A LAW's POST: it answers true, and below the heap's old size nothing has turned. -/
theorem law_post {f : Func} {s : ChangeSpec} {W W' : World} {args : Array Value} {ds gs : List (DataW H)} {before : List MemPlace} {bt : TypeId}
    (hW : DataW.Whole enc P f.params.toList s.vars false W args.toList ds gs before) (hv : s.vars = []) (hfn : s.fn H (ds ++ gs) = { results := [.lit (.bool true)], args := ds })
    (hres : f.resultTypes = #[bt]) (hbt : P.underlying bt = some .bool) (hl : laidOutB P = true) (hr : (f.params.toList.all fun t => P.readableRec t && decide (t < P.types.size)) = true)
    (hb : Below W.heap.size W W') : s.post enc P f false true false false W args (.bool true) W' := by
  have hlt := fun p hp => DataW.Whole.lt hW p hp
  have hW' := hW
  obtain ⟨p, q, hA, hV, rfl, hfz, hnd⟩ := hW
  rw [hv] at hV
  obtain ⟨rfl, rfl⟩ := trodVars_none hV
  refine ⟨ds, [], _, [], p, [], hW', ?_, ?_, ?_, hb.frame _, fun h => by cases h⟩
  · rw [hfn, hres]
    exact trodAll_mk1 (shut_bool hbt true)
  · rw [hfn]
    exact TrodAll_below hl hb _ _ _ _ hr hA fun x hx => hlt x (by simpa using hx)
  · rw [hfn, hv]
    rfl
variable {w : World} {base : Nat} {spare : Nat → Bool} {held : Bool}

theorem flat_get {α : Type} (cells : α → List Value) (size : Nat) (hlen : ∀ x, (cells x).length = size) (l : List α) (i : Nat) (hi : i < l.length) (j : Nat) (hj : j < size) : (l.flatMap cells)[i * size + j]? = (cells l[i])[j]? := by
  induction l generalizing i with
  | nil => simp at hi
  | cons x l ih =>
    rw [List.flatMap_cons]
    cases i with
    | zero => rw [List.getElem?_append_left (by rw [hlen]; omega)]; simp
    | succ i =>
      have h1 : (i + 1) * size + j = size + (i * size + j) := by rw [Nat.add_mul]; omega
      rw [List.getElem?_append_right (by rw [hlen, h1]; omega), hlen, h1, Nat.add_sub_cancel_left]
      exact ih i (by simpa using hi)
theorem flat_length {α : Type} (cells : α → List Value) (size : Nat) (hlen : ∀ x, (cells x).length = size) (l : List α) : (l.flatMap cells).length = l.length * size := by
  induction l with
  | nil => simp
  | cons x l ih => rw [List.flatMap_cons, List.length_append, hlen, ih, List.length_cons, Nat.add_mul]; omega

theorem weights_at {e : TypeId} {elems : List (DataW H)} (h : (DataW.weightsAll P e elems).all (· ≤ reachBytes) = true) {d : DataW H} (hd : d ∈ elems) : (d.weights P e).all (· ≤ reachBytes) = true := by
  induction elems with
  | nil => cases hd
  | cons y r ih =>
    simp only [DataW.weightsAll, List.all_append, Bool.and_eq_true] at h
    cases hd with
    | head => exact h.1
    | tail _ hd => exact ih h.2 hd

/-- A SLICE, ELEMENT BY ELEMENT: whatever an element's cells are read as. -/
theorem open_seq {α : Type} [Inhabited α] {t e : TypeId} (size : Nat) (cells : α → List Value) (R : α → Prop) (hs0 : 0 < size) (hsize : P.cellsOf e = size) (hlen : ∀ x, (cells x).length = size)
    (hel : ∀ n cs' y, DataW.trod enc P w base spare held n e cs' = some y → (y.1.weights P e).all (· ≤ reachBytes) = true → ∃ x, cs' = cells x ∧ R x)
    {fuel : Nat} {cs : List Value} {x : DataW H × List MemPlace} (ht : P.underlying t = some (.slice e)) (h : DataW.trod enc P w base spare held fuel t cs = some x) (hw : (x.1.weights P t).all (· ≤ reachBytes) = true) :
    ∃ (v : Value) (l : List α), cs = [v] ∧ Rd w.heap.size w size v l.length (l.flatMap cells) ∧ (∀ x ∈ l, R x) ∧ l.length * P.bytesOf e ≤ reachBytes := by
  rcases open_slice ht h with ⟨rfl, rfl⟩ | ⟨a, len, cap, m, n, D, Pl, rfl, hb, hl, hm, hmm, rfl, hi⟩
  · exact ⟨_, [], rfl, Rd.nil _ _ _, by simp, by rw [List.length_nil, Nat.zero_mul]; exact Nat.zero_le _⟩
  · have hlm : len ≤ m := by rw [hmm]; split <;> omega
    simp only [DataW.weights, ht, List.all_cons, List.all_append, Bool.and_eq_true, decide_eq_true_eq] at hw
    have hlb : len * P.bytesOf e ≤ reachBytes := Nat.le_trans (Nat.mul_le_mul_right _ (by simp)) hw.1
    obtain ⟨V, hV⟩ := choose_lt (α := α) (n := len) (p := fun i v => (∀ j, j < size → w.cell? (a.add (i * size + j)) = (cells v)[j]?) ∧ R v) (fun i hil => by
      obtain ⟨cs', h1, h2⟩ := hi i (by omega)
      obtain ⟨v, rfl, hR⟩ := hel _ _ _ h2 (weights_at hw.2.1 (by simp; exact ⟨i, hil, rfl⟩))
      obtain ⟨_, hcl, hat⟩ := World.cells?_some h1
      refine ⟨v, fun j hj => ?_, hR⟩
      rw [← Go.Deep.add_add, ← hsize]
      exact hat j (by omega))
    refine ⟨_, (List.range len).map V, rfl, ?_, ?_, by rw [List.length_map, List.length_range]; exact hlb⟩
    · refine ⟨some a, cap, by simp, by simpa using hl, hm, by rw [flat_length cells size hlen], by simp, fun j u hu => ?_⟩
      have hjl : j < len * size := by
        have := (List.getElem?_eq_some_iff.1 hu).1
        rw [flat_length cells size hlen] at this
        simpa using this
      have hdiv : j / size < len := Nat.div_lt_of_lt_mul (by rw [Nat.mul_comm]; exact hjl)
      have hmod : j % size < size := Nat.mod_lt _ hs0
      have hj : j = j / size * size + j % size := by rw [Nat.mul_comm]; exact (Nat.div_add_mod j size).symm
      have hc := (hV (j / size) hdiv).1 (j % size) hmod
      have hg := flat_get cells size hlen ((List.range len).map V) (j / size) (by simpa using hdiv) (j % size) hmod
      rw [← hj] at hc hg
      rw [hu] at hg
      have hcell : w.cell? (a.add j) = some u := by rw [hc, hg]; simp
      have hblk := World.block_lt_of_cell? w _ hcell
      obtain ⟨b, off, sp⟩ := a
      cases sp with
      | some s =>
        have h00 := (hV 0 (Nat.lt_of_le_of_lt (Nat.zero_le _) hdiv)).1 0 hs0
        have hn : w.cell? ((⟨b, off, some s⟩ : Addr).add (0 * size + 0)) = none := by
          simp only [Nat.zero_mul, Nat.add_zero, Addr.add, if_true, World.cell?]
          split <;> rfl
        rw [hn] at h00
        have h01 := List.getElem?_eq_getElem (l := cells (V 0)) (i := 0) (by rw [hlen]; exact hs0)
        rw [h01] at h00
        cases h00
      | none =>
        rw [Addr.add_lit] at hcell hblk
        exact ⟨b, off, rfl, hblk, hcell⟩
    · intro y hy
      obtain ⟨i, hi', rfl⟩ := List.mem_map.1 hy
      exact (hV i (List.mem_range.1 hi')).2

theorem wf_u8 {n : Int} (h : (Lit.int .u8 n).wf = true) : 0 ≤ n ∧ n ≤ 255 := by
  simpa [Lit.wf, IntKind.min, IntKind.max, IntKind.signed, IntKind.bits] using h
theorem el_S {t : TypeId} (ht : P.underlying t = some .string) (n : Nat) (cs' : List Value) (y : DataW H × List MemPlace) (h : DataW.trod enc P w base spare held n t cs' = some y) (hw : (y.1.weights P t).all (· ≤ reachBytes) = true) :
    ∃ l : Bytes, cs' = [S l] ∧ l.length ≤ 140737488351232 := by
  obtain ⟨s, rfl, rfl, _⟩ := DataW.trod_string ht h
  refine ⟨s.data.toList, rfl, ?_⟩
  simp only [DataW.weights, reachBytes, List.all_cons, List.all_nil, Bool.and_true] at hw
  exact of_decide_eq_true hw

theorem flat_S (l : List Bytes) : l.flatMap (fun l => [S l]) = l.map S := by
  induction l with
  | nil => rfl
  | cons a l ih => rw [List.flatMap_cons, ih]; rfl

/-- A list of texts. -/
theorem open_Ss {r : Reach} {b0 : Nat} {t e : TypeId} {v : Value} {d : DataW H} {ps : List MemPlace} (ht : P.underlying t = some (.slice e)) (he : P.underlying e = some .string) (hC : P.cellsOf e = 1) (hB : P.bytesOf e = 16)
    (hval : Value.okWide P w r b0 t v) (hd : DataW.Trod enc P w base spare held t v d ps) (hw : (d.weights P t).all (· ≤ reachBytes) = true) :
    ∃ l : List Bytes, Ss w.heap.size w v l ∧ (∀ s ∈ l, s.length ≤ 140737488351232) ∧ l.length * 16 ≤ 140737488351232 := by
  obtain ⟨a, len, cap, rfl⟩ := okWide_slice ht hval
  obtain ⟨fuel, hf⟩ := hd
  obtain ⟨v, l, hv, h1, h2, h3⟩ := open_seq (α := Bytes) 1 (fun l => [S l]) (fun l => l.length ≤ 140737488351232) (by decide) hC (fun _ => rfl) (el_S he) ht hf hw
  simp only [Value.cells, List.cons.injEq, and_true] at hv
  subst hv
  rw [hB] at h3
  refine ⟨l, ?_, h2, h3⟩
  rw [flat_S] at h1
  exact h1

end

end Go.Dr
namespace Go.Dr
open Go.RowKit Go.ChangeShapes Go.WideShapes Go.Deep Go.Joins
open Go.ChangeMaps (open_string)

section
variable {H : Type} {enc : TypeId × Value → H} {P : Program} {w : World} {base : Nat} {spare : Nat → Bool} {held : Bool}

/-- A request. -/
structure Rq where
  m : Bytes
  s : Bytes
  a : Bytes
  p : Bytes
  v : Value
def Rq.val (r : Rq) : Value := .agg #[S r.m, S r.s, S r.a, S r.p, r.v]
/-- An answer that is kept. -/
structure En where
  key : Bytes
  vp : Value
  st : Int
  vf : Value
  body : Bytes
  asked : Int
  came : Int
def En.val (e : En) : Value := .agg #[S e.key, e.vp, .int .i64 e.st, e.vf, S e.body, .int .i64 e.asked, .int .i64 e.came]
def I64 (n : Int) : Prop := -9223372036854775808 ≤ n ∧ n ≤ 9223372036854775807
end
end Go.Dr
namespace Go.Dr
open Go.RowKit Go.ChangeShapes Go.WideShapes Go.Deep
section
variable {H : Type} {enc : TypeId × Value → H} {P : Program} {w : World} {base : Nat} {spare : Nat → Bool} {held : Bool}
end
end Go.Dr

namespace Go.Dr
open Go.RowKit Go.ChangeShapes Go.WideShapes Go.Deep Go.Joins
section
variable {H : Type} {enc : TypeId × Value → H} {P : Program} {w : World} {base : Nat} {spare : Nat → Bool} {held : Bool}
theorem flat_B8 (l : Bytes) : l.flatMap (fun n => [B8 n]) = l.map B8 := by
  induction l with
  | nil => rfl
  | cons a l ih => rw [List.flatMap_cons, ih]; rfl
theorem open_Us {r : Reach} {b0 : Nat} {t e : TypeId} {v : Value} {d : DataW H} {ps : List MemPlace} (ht : P.underlying t = some (.slice e)) (he : P.underlying e = some (.int .u8)) (hC : P.cellsOf e = 1)
    (hval : Value.okWide P w r b0 t v) (hd : DataW.Trod enc P w base spare held t v d ps) (hw : (d.weights P t).all (· ≤ reachBytes) = true) :
    ∃ l : Bytes, Rd w.heap.size w 1 v l.length (l.map B8) := by
  obtain ⟨a, len, cap, rfl⟩ := okWide_slice ht hval
  obtain ⟨fuel, hf⟩ := hd
  obtain ⟨v, l, hv, h1, -, -⟩ := open_seq (α := UInt8) (hs0 := by decide) 1 (fun n => [B8 n]) (fun _ => True) hC (fun _ => rfl) (fun m cs' y hy _ => by
    obtain ⟨n, rfl, -, hwf⟩ := DataW.trod_int he hy
    have := wf_u8 hwf
    refine ⟨UInt8.ofNat n.toNat, ?_, trivial⟩
    show _ = [Value.int .u8 (((UInt8.ofNat n.toNat).toNat : Nat) : Int)]
    rw [show (UInt8.ofNat n.toNat).toNat = n.toNat by simp; omega, Int.toNat_of_nonneg this.1]) ht hf hw
  simp only [Value.cells, List.cons.injEq, and_true] at hv
  subst hv
  rw [flat_B8] at h1
  exact ⟨l, h1⟩
end
end Go.Dr

namespace Go.Proofs.YtlkfmhbmcicmfaaGreatDoor
open Go Go.RowKit Go.Dr
variable {w w' : World} {n : Nm} {q q' : Cq}

/-- a ping, or settings without items; whether it is an answer -/
structure Pk (ty fl : Nat) (d : Bytes) : Prop where
  k : ty = 6 ∧ d.length = 8 ∨ ty = 4 ∧ d = []
  f : fl = 0 ∨ fl = 1
theorem Pk.len {ty fl : Nat} {d : Bytes} (h : Pk ty fl d) : d.length ≤ 8 := by
  rcases h.k with ⟨-, h⟩ | ⟨-, rfl⟩
  · omega
  · decide
def pset (ks : Bytes) (i : Nat) : Bool := if h : i < ks.length then decide (1 < ks[i].toNat % 4) else false
def pdat (xs : List Bytes) (i : Nat) : Bytes := ((xs.getD i []) ++ [49, 50, 51, 52, 53, 54, 55, 56]).take 8
def pd (xs : List Bytes) (ks : Bytes) (i : Nat) : Bytes := if pset ks i then [] else pdat xs i
end Go.Proofs.YtlkfmhbmcicmfaaGreatDoor

