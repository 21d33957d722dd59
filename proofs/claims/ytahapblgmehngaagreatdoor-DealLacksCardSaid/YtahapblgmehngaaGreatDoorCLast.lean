/- Parts of the proof of DealLacks_holds: the texts Dea8 Law21e CardDLacks. -/
import Derived.Test.YtahapblgmehngaaGreatDoorC44
import Derived.Test.YtahapblgmehngaaGreatDoorC47
import Derived.Test.YtahapblgmehngaaGreatDoorCards
import Derived.Test.YtahapblgmehngaaGreatDoorC2
import Derived.Test.YtahapblgmehngaaGreatDoorC43
import Derived.Test.YtahapblgmehngaaGreatDoorTie
set_option linter.unusedSimpArgs false
set_option linter.unusedVariables false
set_option linter.unnecessarySimpa false
namespace Go.Proofs.YtahapblgmehngaaGreatDoor
open Go.RowKit Go.Dr

theorem mem_costs {l : List Nd} {n : Nd} (h : n ∈ l) : n.x.cost ≤ costs (l.map Nd.x) := by
  obtain ⟨a, b, rfl⟩ := List.append_of_mem h
  rw [List.map_append, List.map_cons, costs_append, costs_cons]
  omega
theorem Sh.lf_small {fb rb : Nat} {w : World} {s R m : Nat} {most last : Int} {l : List Nd} (h : Sh fb rb w s R m most last l) {n : Nd} (hn : n ∈ l) : fsum n.x.lf ≤ 1048576 := by
  have h1 := mem_costs hn
  have h2 := h.room
  have h3 := h.most1
  unfold It.cost at h1
  omega
/-- What turns only blocks of other kinds leaves a shelf. -/
theorem Sh.but_ty {fb rb : Nat} {w w' : World} {s R m : Nat} {most last : Int} {l : List Nd} {T : Nat → Prop} (h : Sh fb rb w s R m most last l) (hb : But T w w') (hT : ∀ k, T k → ∃ t xs, Blk w k t xs ∧ t ≠ 100 ∧ t ≠ 97 ∧ t ≠ 89 ∧ t ≠ 60) : Sh fb rb w' s R m most last l := by
  have hno : ∀ (g : Nat) (t : TypeId) (cur : Array Value), w.heap[g]? = some (.cells cur t (0, 0)) → (t = 89 ∨ t = 60) → ¬ T g := fun g t cur hg ht ho => by
    obtain ⟨t', xs, hx, -, -, h3, h4⟩ := hT g ho
    unfold Blk at hx
    rw [hx] at hg
    simp only [Option.some.injEq, Obj.cells.injEq] at hg
    rcases ht with ht | ht
    · exact h3 (hg.2.1.trans ht)
    · exact h4 (hg.2.1.trans ht)
  refine h.keep (fun k hk => hb.block k (h.foot_lt hk) fun ho => ?_) fun n hn => (h.rows n hn).block fun g cur hg _ => hb.block g (by rcases hg with hg | hg <;> exact (Array.getElem?_eq_some_iff.1 hg).1) ?_
  · obtain ⟨t, xs, hx, h1, h2, -, -⟩ := hT k ho
    exact h.off hx h1 h2 hk
  · rcases hg with hg | hg
    · exact hno g _ cur hg (.inl rfl)
    · exact hno g _ cur hg (.inr rfl)
theorem own_but21 {w w' : World} {B base : Nat} {e : TypeId} {size : Nat} {v : Value} {n : Nat} {xs : List Value} (ho : w.ownsRow base e size v n xs) (hb : But (fun k => B ≤ k ∧ Own21 w k) w w') (h1 : e ≠ 38) (h2 : e ≠ 72) : w'.ownsRow base e size v n xs :=
  own_block ho fun g cur hg _ => hb.block g (Array.getElem?_eq_some_iff.1 hg).1 fun h => own21_not (show Blk w g e cur from hg) h1 h2 h.2

abbrev enO : En := ⟨[], .slice none 0 0, 0, .slice none 0 0, [], 0, 0⟩
/-- The entry of a link, its lists in memory of their own. -/
def ndOut (n : Nd) (vp vf : Value) : En := ⟨n.x.key, vp, n.x.st, vf, n.x.body, n.x.asked, n.x.came⟩
/-- What is decided over a shelf. -/
def One21 (B : Nat) (l : List Nd) (q : Rq) (lr : List F) (now : Int) (w : World) (e : Ending) (w' : World) : Prop :=
  Below B w w' ∧ Keeps21 w w' ∧
  ((aloneB q.m lr = true ∧ e = .returned (dealZ 5)) ∨
   (aloneB q.m lr = false ∧ bestOf (keyR q) lr l = none ∧ e = .returned (dealOf lr q.m now enO 0 false [])) ∨
   (aloneB q.m lr = false ∧ ∃ n vp vf, bestOf (keyR q) lr l = some n ∧ w'.ownsRow 0 89 3 vp n.x.lp.length (fcells n.x.lp) ∧ w'.ownsRow 0 60 3 vf n.x.lf.length (fcells n.x.lf) ∧ e = .returned (dealOf lr q.m now (ndOut n vp vf) n.x.id true n.x.lf)))
theorem decide_one {R rb : Nat} {w : World} {s g m : Nat} {most last : Int} {l : List Nd} (h : Sh R rb w s g m most last l) (q : Rq) (lr : List F) (now : Int) (hR : R ≤ w.heap.size) (hr : Fo 60 R w q.v lr) (hl : fsum lr ≤ 1099511627776) (hk : q.s.length + q.a.length + q.p.length ≤ 4611686018427387904) :
    Calls Tryz.prog 12 #[Ptr s, q.val, .int .i64 now] w (One21 R l q lr now w) := by
  refine (Decide_by R (fun w2 q' id fd lf => Below R w w2 ∧ ((bestOf (keyR q) lr l = none ∧ q' = enO ∧ id = 0 ∧ fd = false ∧ lf = []) ∨ ∃ n vp vf, bestOf (keyR q) lr l = some n ∧ q' = ndOut n vp vf ∧ id = n.x.id ∧ fd = true ∧ lf = n.x.lf ∧ w2.ownsRow 0 89 3 vp n.x.lp.length (fcells n.x.lp) ∧ w2.ownsRow 0 60 3 vf n.x.lf.length (fcells n.x.lf))) (some ⟨s, 0, none⟩) q lr now w hR hr hl hk ?_).mono ?_
  · intro w1 hb1
    have h1 := h.below hb1
    have hR1 : R ≤ w1.heap.size := Nat.le_trans hR hb1.size
    have hr1 := hr.below hb1 hR
    refine (Find_any R rb s g m most last l (keyR q) q.v lr w1 h1 (hr1.fs hR1) hl).mono ?_
    rintro e w2 (⟨hno, rfl, hb2⟩ | ⟨a, n, b, v, hlab, hbo, rfl, hret, -, hb2⟩)
    · exact ⟨enO, 0, false, [], ⟨_, _, _, rfl⟩, .inl (Rd.nil _ _ _), by simp [fsum], hr1.below hb2 hR1, rfl, Keeps.below hb2, hb2.size, (hb1.mono hR).trans (hb2.mono hR1), .inl ⟨hno, rfl, rfl, rfl, rfl⟩⟩
    · have hn : n ∈ l := by rw [hlab]; simp
      have hsm := h.lf_small hn
      obtain ⟨vp, vf, rfl, o1, o2⟩ := hret
      obtain ⟨ap, kp, hvp, -⟩ := (Fs.own o1).form
      exact ⟨ndOut n vp vf, n.x.id, true, n.x.lf, ⟨_, _, _, hvp⟩, .inr (own_base o2 (Nat.zero_le _)), by omega, hr1.but_s h1 h1.base hR1 hb2 (by decide) (by decide), rfl, Keeps.but_s h1 hb2, hb2.size, (hb1.mono hR).trans (hb2.below h1.base hR1), .inr ⟨n, vp, vf, hbo, rfl, rfl, rfl, rfl, own_base o1 (Nat.zero_le _), own_base o2 (Nat.zero_le _)⟩⟩
  · rintro e w' (⟨ha, rfl, hb⟩ | ⟨ha, w1, w2, q', id, fd, lf, hb1, hk2, ⟨hbw, hc⟩, hb, rfl⟩)
    · exact ⟨hb.mono hR, fun g t xs _ _ _ _ _ h => h.on hb, .inl ⟨ha, rfl⟩⟩
    · refine ⟨hbw.trans (hb.below (fun k hk => Nat.le_trans hR hk.1) (Nat.le_trans hR hbw.size)), Decided.keeps (P := fun _ _ _ _ _ => True) hb1 hk2 hb, .inr ?_⟩
      rcases hc with ⟨hno, rfl, rfl, rfl, rfl⟩ | ⟨n, vp, vf, hbo, rfl, rfl, rfl, rfl, o1, o2⟩
      · exact .inl ⟨ha, hno, rfl⟩
      · exact .inr ⟨ha, n, vp, vf, hbo, own_but21 o1 hb (by decide) (by decide), own_but21 o2 hb (by decide) (by decide), rfl⟩
end Go.Proofs.YtahapblgmehngaaGreatDoor

namespace Go.Proofs.YtahapblgmehngaaGreatDoor
open Go.RowKit Go.Dr

/-- What is decided of a request that wants only what is kept. -/
theorem lacks_deal {B : Nat} {l : List Nd} {q : Rq} {lr : List F} {now : Int} {w w' : World} {e : Ending} (h : One21 B l q lr now w e w') (ho : (saysC lr).oi = true) :
    (aloneB q.m lr = true ∧ e = .returned (dealZ 5)) ∨ (aloneB q.m lr = false ∧ (e = .returned (dealZ 4) ∨ ∃ id key a1 n1 c1 st a2 n2 c2 body asked came, e = .returned (dealV 1 id key (.slice a1 n1 c1) st (.slice a2 n2 c2) body asked came))) := by
  rcases h.2.2 with ⟨ha, rfl⟩ | ⟨ha, -, rfl⟩ | ⟨ha, n, vp, vf, -, o1, o2, rfl⟩
  · exact .inl ⟨ha, rfl⟩
  · refine .inr ⟨ha, .inl ?_⟩
    simp [dealOf, ho]
  · refine .inr ⟨ha, ?_⟩
    obtain ⟨a1, c1, rfl, -⟩ := (Fs.own o1).form
    obtain ⟨a2, c2, rfl, -⟩ := (Fs.own o2).form
    unfold dealOf
    repeat' split
    all_goals first | exact .inr ⟨_, _, _, _, _, _, _, _, _, _, _, _, rfl⟩ | exact .inl rfl | (exfalso; simp_all; done)
set_option maxRecDepth 100000 in
set_option maxHeartbeats 16000000 in
theorem lacks21_law (L : List Kv) (vs : Value) (r : Rq) (lr : List F) (now : Int) (w : World) (hL : Ks w.heap.size w vs L) (hok : ∀ k ∈ L, k.Ok) (hr : Fs w.heap.size w r.v lr) (hro : FOk lr) (hrq : r.Ok) :
    Calls Tryz.prog 6 #[vs, r.val, .int .i64 now] w fun e w' => e = .returned (.bool true) ∧ Below w.heap.size w w' := by
  obtain ⟨pa, pc, rfl, hm⟩ := hL.form
  obtain ⟨pr, cr, hrv, -⟩ := hr.form
  obtain ⟨rm, rs, ra, rp, rv⟩ := r
  obtain ⟨k1, k2, k3, k4⟩ := hrq
  simp only at hrv hr k1 k2 k3 k4
  subst hrv
  simp only [Rq.val]
  obtain ⟨w0, ew0⟩ : ∃ w0 : World, w0 = w.alloc (.cells #[S rm, S rs, S ra, S rp, .slice pr lr.length cr] 28) := ⟨_, rfl⟩
  obtain ⟨G, eG⟩ : ∃ G, G = w.heap.size := ⟨_, rfl⟩
  have hBG : Blk w0 G 28 #[S rm, S rs, S ra, S rp, .slice pr lr.length cr] := by rw [ew0, eG]; exact Blk.new _ _ _
  have hbw0 : Below w.heap.size w w0 := by rw [ew0]; exact (Below.refl _ _).alloc (Nat.le_refl _) _
  have HWw0 := Lib.hid ew0
  have HBG := Lib.hid eG
  clear ew0 eG
  have hQ0 := hBG
  have hr0 := (hr.below hbw0).mono hbw0.size
  have hL0 := (hL.below hbw0).mono hbw0.size
  have HRO := Lib.hid hro
  have HOK := Lib.hid hok
  have hb0 := hbw0
  have hGw : w.heap.size ≤ G := by rw [HBG.out]; omega
  clear hr hro hok hL hBG hbw0
  go_enter Tryz.func6, Tryz.ntmps6
  go_upto_region 1 with fail
  rw [← HBG.out, ← HWw0.out]
  clear HBG HWw0
  go_wp2_with fail
  refine (awake21_any w0).mono ?_
  rintro e w1 ⟨rfl, hb1⟩
  have hQ1 := hQ0.on hb1
  have hr1 := (hr0.below hb1).mono hb1.size
  have hL1 := (hL0.below hb1).mono hb1.size
  have hw1 := Bl.tr hb0 hb1
  clear hQ0 hr0 hL0 hb0 hb1
  have hF := few21_any L (.slice pa L.length pc) ⟨rm, rs, ra, rp, .slice pr lr.length cr⟩ lr w1 hL1 HOK.out hr1 HRO.out
  simp only [Rq.val] at hF
  have x0 : w1.cell? ⟨G, 0, none⟩ = some (S rm) := hQ1.cell 0; have x1 : w1.cell? ⟨G, 1, none⟩ = some (S rs) := hQ1.cell 1; have x2 : w1.cell? ⟨G, 2, none⟩ = some (S ra) := hQ1.cell 2; have x3 : w1.cell? ⟨G, 3, none⟩ = some (S rp) := hQ1.cell 3; have x4 : w1.cell? ⟨G, 4, none⟩ = some (.slice pr lr.length cr) := hQ1.cell 4
  go_wp2_with fail
  refine hF.mono ?_
  rintro e w2 ⟨b, rfl, hsm, hb2⟩
  have hQ2 := hQ1.on hb2
  have hr2 := (hr1.below hb2).mono hb2.size
  have hL2 := (hL1.below hb2).mono hb2.size
  have hw2 := Bl.tr hw1 hb2
  have HSM := Lib.hid hsm
  clear hF hQ1 hr1 hL1 hw1 hb2 hsm x0 x1 x2 x3 x4
  cases b with
  | false =>
    go_wp2
    go_ret
    exact ⟨rfl, hw2⟩
  | true =>
    have hl := (HSM.out rfl).1
    have HSK := Lib.hid (HSM.out rfl).2
    have hll := fsum_length lr
    have hll2 : lr.length ≤ 16384 := by omega
    clear hll
    clear HSM
    have hLay := lay21_any L (.slice pa L.length pc) w2 hL2 HSK.out
    go_wp2_with fail
    refine hLay.mono ?_
    clear hLay
    rintro e w3 ⟨r0, last, v, er, l, rfl, hT, hids, hla, hla2, hld, hb3⟩
    have hQ3 := hQ2.on hb3
    have hr3 := (hr2.below hb3).mono hb3.size
    have hw3 := Bl.tr hw2 hb3
    have hs3 := hT.sh
    obtain ⟨R, eR⟩ : ∃ R, R = w2.heap.size := ⟨_, rfl⟩
    rw [← eR] at hs3
    have hGR : G < R := by rw [eR]; exact hQ2.lt
    have hRw : w.heap.size ≤ R := by rw [eR]; exact hw2.size
    have hR3 : R < w3.heap.size := hs3.rlt
    rw [← eR]
    clear hT hids hla hla2 hld hQ2 hr2 hL2 hw2 hb3 eR
    go_upto_region 8 with fail
    have x4 : w3.cell? ⟨G, 4, none⟩ = some (.slice pr lr.length cr) := hQ3.cell 4
    have hal : Below w3.heap.size w3 (w3.alloc (.cells #[] 60)) := (Below.refl _ _).alloc (Nat.le_refl _) _
    have y4 : (w3.alloc (.cells #[] 60)).cell? ⟨G, 4, none⟩ = some (.slice pr lr.length cr) := (hQ3.alloc _).cell 4
    go_wp2_with (first
      | (at_builtin; refine wpList_appF rfl _ _ 26 rfl w3.heap.size Tryz.underlying26 (by kernel_rfl) _ _ _ rfl hown2 rfl (by omega) (by have := hb7.size; simp at this; omega) rfl ?_; intro an cn w8 hown3 hb8 hz8; have h38 : Below w3.heap.size w3 w8 := (hal.trans hb7).trans hb8; have hQ8 := hQ3.on h38; have q0 : w8.cell? ⟨G, 0, none⟩ = some (S rm) := hQ8.cell 0; have q1 : w8.cell? ⟨G, 1, none⟩ = some (S rs) := hQ8.cell 1; have q2 : w8.cell? ⟨G, 2, none⟩ = some (S ra) := hQ8.cell 2; have q3 : w8.cell? ⟨G, 3, none⟩ = some (S rp) := hQ8.cell 3; have q4 : w8.cell? ⟨G, 4, none⟩ = some (.slice pr lr.length cr) := hQ8.cell 4; have f4 : w8.frozen? ⟨G, 4, none⟩ = false := hQ8.free 4)
      | (at_builtin; refine wpList_appRd rfl _ _ 26 rfl w3.heap.size 60 (.agg #[.string ByteArray.empty, .string ByteArray.empty, .bool false]) 3 40 Tryz.underlying26 (by kernel_rfl) rfl (by decide) _ _ _ rfl (World.ownsRow_lit (base := w3.heap.size) (e := 60) (size := 3) w3 #[] 0 (Nat.le_refl _) (by decide) rfl) _ _ _ _ rfl (hr3.below hal) (fcells_one _) (by unfold maxLen; omega) (by omega) (by simp) ?_; intro a' c' w7 hown2 hb7; simp only [Nat.zero_add, List.nil_append, List.toList_toArray] at hown2))
    obtain ⟨w9, e9⟩ : ∃ w9 : World, w9 = w8.setCell ⟨G, 4, none⟩ (.slice an (lr.length + 1) cn) := ⟨_, rfl⟩
    have hQ9 : Blk w9 G 28 #[S rm, S rs, S ra, S rp, .slice an (lr.length + 1) cn] := by rw [e9]; simpa using hQ8.set 4 (.slice an (lr.length + 1) cn)
    have hst : But (fun k => k = G) w8 w9 := by rw [e9]; exact But.step (S := fun k => k = G) (p := ⟨G, 4, none⟩) rfl _
    have hs9 : Sh R R w9 (R + 2) R (R + 1) (20000 : Nat) last l := (hs3.below h38).but_ty hst fun k hk => ⟨_, _, hk ▸ hQ8, by decide, by decide, by decide, by decide⟩
    have hw8 := Bl.tr hw3 h38
    have hw9 : Below w.heap.size w w9 := hw8.trans (hst.below (fun k hk => by rw [hk]; exact hGw) hw8.size)
    have hown9 : w9.ownsRow 0 60 3 (.slice an (lr.length + 1) cn) (lr ++ [oicF]).length (fcells (lr ++ [oicF])) := by
      rw [fcells_append, List.length_append]
      refine own_block (own_base hown3 (Nat.zero_le _)) fun g cur hg _ => hst.block g (Array.getElem?_eq_some_iff.1 hg).1 fun e => ?_
      have e : g = G := e
      subst e
      unfold Blk at hQ8
      rw [hQ8] at hg
      simp at hg
    have hR9 : R ≤ w9.heap.size := Nat.le_of_lt hs9.rlt
    have hf9 : fsum (lr ++ [oicF]) ≤ 1099511627776 := by
      rw [fsum_append, show fsum [oicF] = 59 by decide +kernel]
      omega
    rw [← e9]
    have hD := decide_one hs9 ⟨rm, rs, ra, rp, .slice an (lr.length + 1) cn⟩ (lr ++ [oicF]) now hR9 (.inr hown9) hf9 (by show rs.length + ra.length + rp.length ≤ _; omega)
    simp only [Rq.val] at hD
    clear q0 q1 q2 q3 q4 f4 e9 hst h38 hb7 hb8 hown2 hown3 hQ8 hQ3 hr3 hs3 hw3 hal x4 y4 hw8 hz8
    refine hD.mono ?_
    clear hD
    rintro e wa hone
    have hQa := hone.2.1 G _ _ (by decide) (by decide) (by decide) (by decide) (by decide) hQ9
    have hwa : Below w.heap.size w wa := hw9.trans (hone.1.mono hRw)
    have hra : Fs wa.heap.size wa (.slice an (lr.length + 1) cn) (lr ++ [oicF]) := Fs.own (hone.2.1.own hown9 (by decide) (by decide) (by decide) (by decide) (by decide))
    have hlk := lacks_deal hone (says_oic lr)
    clear hone hs9 hown9 hw9 hQ9 hR9
    have HAl := Lib.hid (fun w h => refAlone_any ⟨rm, rs, ra, rp, .slice an (lr.length + 1) cn⟩ (lr ++ [oicF]) w h hf9)
    simp only [Rq.val] at HAl
    have hlk : (aloneB rm (lr ++ [oicF]) = true ∧ e = .returned (dealZ 5)) ∨ (aloneB rm (lr ++ [oicF]) = false ∧ (e = .returned (dealZ 4) ∨ ∃ id key a1 n1 c1 st a2 n2 c2 body asked came, e = .returned (dealV 1 id key (.slice a1 n1 c1) st (.slice a2 n2 c2) body asked came))) := hlk
    generalize aloneB rm (lr ++ [oicF]) = al at hlk HAl
    rcases hlk with ⟨rfl, rfl⟩ | ⟨rfl, (rfl | ⟨id, key, a1, n1, c1, st, a2, n2, c2, body, asked, came, rfl⟩)⟩
    · simp only [dealV, dealZ]
      obtain ⟨wb, ewb⟩ : ∃ wb : World, wb = wa.alloc (.cells #[.int .i64 5, .int .i64 0, S [], .slice none 0 0, .int .i64 0, .slice none 0 0, S [], .int .i64 0, .int .i64 0] 38) := ⟨_, rfl⟩
      obtain ⟨D, eD⟩ : ∃ D, D = wa.heap.size := ⟨_, rfl⟩
      have hBD : Blk wb D 38 #[.int .i64 5, .int .i64 0, S [], .slice none 0 0, .int .i64 0, .slice none 0 0, S [], .int .i64 0, .int .i64 0] := by rw [ewb, eD]; exact Blk.new _ _ _
      have hbwb : Below wa.heap.size wa wb := by rw [ewb]; exact (Below.refl _ _).alloc (Nat.le_refl _) _
      have HWwb := Lib.hid ewb
      have HBD := Lib.hid eD
      clear ewb eD
      have hQb := hQa.on hbwb
      have hrb := (hra.below hbwb).mono hbwb.size
      have hwb := Bl.tr hwa hbwb
      clear hQa hra hwa hbwb
      go_upto_region 10 with fail
      rw [← HBD.out, ← HWwb.out]
      clear HBD HWwb
      have x0 : wb.cell? ⟨G, 0, none⟩ = some (S rm) := hQb.cell 0; have x1 : wb.cell? ⟨G, 1, none⟩ = some (S rs) := hQb.cell 1; have x2 : wb.cell? ⟨G, 2, none⟩ = some (S ra) := hQb.cell 2; have x3 : wb.cell? ⟨G, 3, none⟩ = some (S rp) := hQb.cell 3; have x4 : wb.cell? ⟨G, 4, none⟩ = some (.slice an (lr.length + 1) cn) := hQb.cell 4
      go_wp2_with fail
      refine (HAl.out wb hrb).mono ?_
      rintro e wc ⟨rfl, hbc⟩
      have hDc := hBD.on hbc
      have hwc := Bl.tr hwb hbc
      have d0 : wc.cell? ⟨D, 0, none⟩ = some (.int .i64 5) := hDc.cell 0
      have d1 : wc.cell? ⟨D, 1, none⟩ = some (.int .i64 0) := hDc.cell 1
      clear x0 x1 x2 x3 x4
      go_wp2
      go_ret
      exact ⟨rfl, hwc⟩
    · simp only [dealV, dealZ]
      obtain ⟨wb, ewb⟩ : ∃ wb : World, wb = wa.alloc (.cells #[.int .i64 4, .int .i64 0, S [], .slice none 0 0, .int .i64 0, .slice none 0 0, S [], .int .i64 0, .int .i64 0] 38) := ⟨_, rfl⟩
      obtain ⟨D, eD⟩ : ∃ D, D = wa.heap.size := ⟨_, rfl⟩
      have hBD : Blk wb D 38 #[.int .i64 4, .int .i64 0, S [], .slice none 0 0, .int .i64 0, .slice none 0 0, S [], .int .i64 0, .int .i64 0] := by rw [ewb, eD]; exact Blk.new _ _ _
      have hbwb : Below wa.heap.size wa wb := by rw [ewb]; exact (Below.refl _ _).alloc (Nat.le_refl _) _
      have HWwb := Lib.hid ewb
      have HBD := Lib.hid eD
      clear ewb eD
      have hQb := hQa.on hbwb
      have hrb := (hra.below hbwb).mono hbwb.size
      have hwb := Bl.tr hwa hbwb
      clear hQa hra hwa hbwb
      go_upto_region 10 with fail
      rw [← HBD.out, ← HWwb.out]
      clear HBD HWwb
      have x0 : wb.cell? ⟨G, 0, none⟩ = some (S rm) := hQb.cell 0; have x1 : wb.cell? ⟨G, 1, none⟩ = some (S rs) := hQb.cell 1; have x2 : wb.cell? ⟨G, 2, none⟩ = some (S ra) := hQb.cell 2; have x3 : wb.cell? ⟨G, 3, none⟩ = some (S rp) := hQb.cell 3; have x4 : wb.cell? ⟨G, 4, none⟩ = some (.slice an (lr.length + 1) cn) := hQb.cell 4
      go_wp2_with fail
      refine (HAl.out wb hrb).mono ?_
      rintro e wc ⟨rfl, hbc⟩
      have hDc := hBD.on hbc
      have hwc := Bl.tr hwb hbc
      have d0 : wc.cell? ⟨D, 0, none⟩ = some (.int .i64 4) := hDc.cell 0
      have d1 : wc.cell? ⟨D, 1, none⟩ = some (.int .i64 0) := hDc.cell 1
      clear x0 x1 x2 x3 x4
      go_wp2
      go_ret
      exact ⟨rfl, hwc⟩
    · simp only [dealV, dealZ]
      obtain ⟨wb, ewb⟩ : ∃ wb : World, wb = wa.alloc (.cells #[.int .i64 1, .int .i64 id, S key, .slice a1 n1 c1, .int .i64 st, .slice a2 n2 c2, S body, .int .i64 asked, .int .i64 came] 38) := ⟨_, rfl⟩
      obtain ⟨D, eD⟩ : ∃ D, D = wa.heap.size := ⟨_, rfl⟩
      have hBD : Blk wb D 38 #[.int .i64 1, .int .i64 id, S key, .slice a1 n1 c1, .int .i64 st, .slice a2 n2 c2, S body, .int .i64 asked, .int .i64 came] := by rw [ewb, eD]; exact Blk.new _ _ _
      have hbwb : Below wa.heap.size wa wb := by rw [ewb]; exact (Below.refl _ _).alloc (Nat.le_refl _) _
      have HWwb := Lib.hid ewb
      have HBD := Lib.hid eD
      clear ewb eD
      have hQb := hQa.on hbwb
      have hrb := (hra.below hbwb).mono hbwb.size
      have hwb := Bl.tr hwa hbwb
      clear hQa hra hwa hbwb
      go_upto_region 10 with fail
      rw [← HBD.out, ← HWwb.out]
      clear HBD HWwb
      have x0 : wb.cell? ⟨G, 0, none⟩ = some (S rm) := hQb.cell 0; have x1 : wb.cell? ⟨G, 1, none⟩ = some (S rs) := hQb.cell 1; have x2 : wb.cell? ⟨G, 2, none⟩ = some (S ra) := hQb.cell 2; have x3 : wb.cell? ⟨G, 3, none⟩ = some (S rp) := hQb.cell 3; have x4 : wb.cell? ⟨G, 4, none⟩ = some (.slice an (lr.length + 1) cn) := hQb.cell 4
      go_wp2_with fail
      refine (HAl.out wb hrb).mono ?_
      rintro e wc ⟨rfl, hbc⟩
      have hDc := hBD.on hbc
      have hwc := Bl.tr hwb hbc
      have d0 : wc.cell? ⟨D, 0, none⟩ = some (.int .i64 1) := hDc.cell 0
      have d1 : wc.cell? ⟨D, 1, none⟩ = some (.int .i64 id) := hDc.cell 1
      clear x0 x1 x2 x3 x4
      go_wp2
      go_ret
      exact ⟨rfl, hwc⟩
end Go.Proofs.YtahapblgmehngaaGreatDoor

namespace Go.Proofs.YtahapblgmehngaaGreatDoor.cDealLacks
open Go.ChangeShapes Go.WideShapes Go.ChangeAt Go.RowKit Go.Dr Go.ChangeMaps

theorem own : ownKnob Tryz.prog.godebug = none := by kernel_rfl
theorem laidOut : laidOutB Tryz.prog = true := by kernel_rfl
theorem readable : (Tryz.f6.params.toList.all fun t => Tryz.prog.readableRec t && decide (t < Tryz.prog.types.size)) = true := by kernel_rfl
set_option maxRecDepth 100000 in
theorem contract (H : Type) (enc : TypeId × Value → H) (W : World) (base : Nat) (args : Array Value) (ds gs : List (DataW H)) (before : List MemPlace)
    (hval : ∀ (j : Nat) t v, Tryz.f6.params[j]? = some t → args[j]? = some v → Value.okWide Tryz.prog W .any base t v)
    (hW : DataW.Whole enc Tryz.prog Tryz.f6.params.toList Rows.dealLacksSpec.vars false W args.toList ds gs before)
    (hw : (DataW.weightsEach Tryz.prog (Tryz.f6.params.toList ++ (OpenSpec.ofChange Rows.dealLacksSpec).bare.plain.varTypes Tryz.prog) (ds ++ gs)).all (· ≤ reachBytes) = true) :
    Calls Tryz.prog 6 args W fun e W' => ∃ v, e = .returned v ∧ Rows.dealLacksSpec.post enc Tryz.prog Tryz.f6 false true false false W args v W' := by
  have hW' := hW
  obtain ⟨p, q, hA, hV, rfl, -, -⟩ := hW
  rw [Tryz.params6] at hA hval hw
  obtain ⟨v0, vs0, d0, ds0, p0, q0, hargs, rfl, rfl, h0, r0⟩ := trodAll_cons hA
  obtain ⟨v1, vs1, d1, ds1, p1, q1, rfl, rfl, rfl, h1, r1⟩ := trodAll_cons r0
  obtain ⟨v2, vs2, d2, ds2, p2, q2, rfl, rfl, rfl, h2, r2⟩ := trodAll_cons r1
  obtain ⟨rfl, rfl, rfl⟩ := trodAll_nil r2
  obtain rfl : args = #[v0, v1, v2] := by cases args; simp_all
  obtain ⟨rfl, rfl⟩ := trodVars_none hV
  have hvt : (OpenSpec.ofChange Rows.dealLacksSpec).bare.plain.varTypes Tryz.prog = [] := rfl
  rw [hvt] at hw
  simp only [List.cons_append, List.nil_append, List.append_nil, DataW.weightsEach, List.all_append, Bool.and_eq_true] at hw
  obtain ⟨l0, s0, k0⟩ := open_Ks Tryz.underlying22 Tryz.underlying48 (by kernel_rfl) ⟨rfl, rfl, rfl, rfl, rfl, rfl⟩ ⟨rfl, rfl, rfl, rfl, rfl, rfl⟩ (by kernel_rfl) (by kernel_rfl) (by kernel_rfl) Tryz.underlying28 (by kernel_rfl) (by kernel_rfl) ⟨rfl, rfl, rfl, rfl, rfl⟩ ftF Tryz.underlying3 Tryz.underlying2 (hval 0 22 v0 rfl rfl) h0 hw.1
  obtain ⟨q1, l1, rfl, k1, s1, b1⟩ := open_R Tryz.underlying28 (by kernel_rfl) (by kernel_rfl) ⟨rfl, rfl, rfl, rfl, rfl⟩ ftF (hval 1 28 v1 rfl rfl) h1 hw.2.1
  obtain ⟨n2, rfl, -, -, wf2⟩ := open_int Tryz.underlying2 (hval 2 2 v2 rfl rfl) h2
  have b2 := wf_int wf2
  refine (lacks21_law l0 _ q1 l1 n2 _ s0 k0 s1 b1 k1).mono fun e W' ⟨he, hb⟩ => ?_
  subst he
  exact ⟨_, rfl, law_post hW' rfl rfl rfl Tryz.underlying4 laidOut readable hb⟩

theorem laid_met (os : Os) : laidMetH Tryz.prog Rows.dealLacksRow.laid ((World.laidAll Tryz.prog os Rows.dealLacksRow.laid).forCall (fun _ _ => 0) ⟨#[], #[.slice none 0 0, .agg #[.string ByteArray.empty, .string ByteArray.empty, .string ByteArray.empty, .string ByteArray.empty, .slice none 0 0], .int .i64 0], []⟩).memory := by
  rw [MakeChecks.laidMetH_plain _ _ _ (by kernel_rfl)]
  exact laidMet_laidAll _ (by kernel_rfl) (by kernel_rfl)
theorem reads (os : Os) {H : Type} (enc : TypeId × Value → H) : ∃ places, DataW.whole enc Tryz.prog ((World.laidAll Tryz.prog os Rows.dealLacksRow.laid).forCall (fun _ _ => 0) ⟨#[], #[.slice none 0 0, .agg #[.string ByteArray.empty, .string ByteArray.empty, .string ByteArray.empty, .string ByteArray.empty, .slice none 0 0], .int .i64 0], []⟩).memory Tryz.f6.params.toList Rows.dealLacksSpec.vars false (#[.slice none 0 0, .agg #[.string ByteArray.empty, .string ByteArray.empty, .string ByteArray.empty, .string ByteArray.empty, .slice none 0 0], .int .i64 0] : Array Value).toList 8 = some ([.nil, .agg [.lit (.string []), .lit (.string []), .lit (.string []), .lit (.string []), .nil], .lit (.int .i64 0)], [], places) :=
  ⟨[], by kernel_rfl⟩

set_option maxRecDepth 100000 in
theorem lifted (os : Os) (started : os.Started) (H : Type) (enc : TypeId × Value → H) (F : Stop.Interp) :
    ReturnsInHanded {} Tryz.checked os 6 .any ((OpenSpec.ofChange Rows.dealLacksSpec).preRow enc Tryz.prog Tryz.f6 Rows.dealLacksRow.domain false Rows.dealLacksRow.laid) (((OpenSpec.ofChange Rows.dealLacksSpec).at F).post enc Tryz.prog Tryz.f6 false true false false) := by
  obtain ⟨places, hx⟩ := reads os enc
  refine returnsInHanded_of_row (C := Tryz.checked) (s := OpenSpec.ofChange Rows.dealLacksSpec) own started (by kernel_rfl) Tryz.func6
    (witness_row_at (enc := enc) (C := Tryz.checked) false (World.laidAll Tryz.prog os Rows.dealLacksRow.laid) #[.slice none 0 0, .agg #[.string ByteArray.empty, .string ByteArray.empty, .string ByteArray.empty, .string ByteArray.empty, .slice none 0 0], .int .i64 0] (World.laidAll_os _ _ _) (by kernel_rfl) (by kernel_rfl) (by kernel_rfl)
      (OpenSpec.preRow_of_cond 8 hx (by kernel_rfl) (fun k hk => by cases hk) (by kernel_rfl) (laid_met os))) ?_
  intro W base args ds gs before hval hW _ _ hw _ _ _
  exact contract H enc W base args ds gs before hval hW hw

theorem said : Rows.DealLacksSaid :=
  OpenClaim.holds_of_cond 6 Tryz.f6 rfl rfl rfl rfl rfl rfl rfl ⟨rfl, rfl, rfl, rfl, rfl⟩ rfl rfl rfl rfl rfl (by kernel_rfl) Tryz.func6 (by kernel_rfl)
    (of_decide_eq_true (by kernel_rfl)) (by unfold Func.isWrapper; first | (rw [if_pos (by decide +kernel)]; kernel_rfl) | (rw [if_neg (by decide +kernel)]; exact ⟨rfl, rfl⟩))
    (fun os started H enc _ F => by rw [OpenClaim.pre_eq_preRow]; exact lifted os started H enc F)

theorem plain (f : FuncId) (fn : Func) (hf : Tryz.pinned.checked.prog.funcNamed Rows.dealLacksRow.func = some f) (hfn : Tryz.pinned.checked.prog.funcs[f]? = some fn) :
    false = Tryz.pinned.checked.prog.looks [] ∧ ∀ (j : Nat) t, fn.params[j]? = some t → Tryz.pinned.checked.prog.wantsStandIn t = false := by
  obtain rfl : f = 6 := Option.some.inj ((show Tryz.prog.funcNamed Rows.dealLacksRow.func = some 6 by kernel_rfl).symm.trans hf) |>.symm
  obtain rfl : fn = Tryz.f6 := (Option.some.inj (Tryz.func6.symm.trans hfn)).symm
  refine ⟨by kernel_rfl, fun j t ht => ?_⟩
  have hall : (Tryz.f6.params.toList.all fun u => !Tryz.prog.wantsStandIn u) = true := by kernel_rfl
  have hm : t ∈ Tryz.f6.params.toList := by simpa using Array.mem_of_getElem? ht
  exact (show Tryz.prog.wantsStandIn t = false by simpa using List.all_eq_true.1 hall t hm)
end Go.Proofs.YtahapblgmehngaaGreatDoor.cDealLacks
namespace Go.Proofs.YtahapblgmehngaaGreatDoor
/-- THE CARD. -/
theorem DealLacks_holds : Rows.DealLacksCardSaid :=
  Claim7.holds_tied_plain_at .later [] _ _ _ _ cDealLacks.said (fun _ h => by cases h) (by kernel_rfl) (fun _ h => by cases h) dealLacks_row_tie rfl ⟨rfl, rfl⟩ (by kernel_rfl) rfl cDealLacks.plain (by kernel_rfl)
end Go.Proofs.YtahapblgmehngaaGreatDoor


