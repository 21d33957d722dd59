/- Parts of the proof of DealDecides_holds: the texts Shq3 Shq4 Shq5 Shd Open5 Shk Shf4 Shq6 Shq9. -/
import Derived.Laws.StructEq
import Derived.Deep.RegionLaw
import Derived.Test.YtahapblgmehngaaGreatDoorE17
set_option linter.unusedSimpArgs false
set_option linter.unusedVariables false
set_option linter.unnecessarySimpa false
set_option maxRecDepth 100000
set_option maxHeartbeats 64000000
namespace Go.Dr
def roomOf (k : Nat) : List Nd → List Nd
 | [] => []
 | n :: l => if costs ((n :: l).map Nd.x) ≤ k then n :: l else roomOf k l
theorem roomOf_fit {k : Nat} {l : List Nd} (h : costs (l.map Nd.x) ≤ k) : roomOf k l = l := by
 cases l with
 | nil => rfl
 | cons n l => exact if_pos h
theorem roomOf_less {k : Nat} {n : Nd} {l : List Nd} (h : ¬ costs ((n :: l).map Nd.x) ≤ k) : roomOf k (n :: l) = roomOf k l := if_neg h
theorem roomOf_suffix (k : Nat) (l : List Nd) : ∃ d, l = d ++ roomOf k l := by
 induction l with
 | nil => exact ⟨[], rfl⟩
 | cons n l ih =>
  by_cases h : costs ((n :: l).map Nd.x) ≤ k
  ·exact ⟨[], by rw [roomOf_fit h];rfl⟩
  ·obtain ⟨d, e⟩ := ih
   exact ⟨n :: d, by rw [roomOf_less h, List.cons_append, ← e]⟩
theorem costs_len (l : List It) : l.length * 64 ≤ costs l := by
  induction l with
  | nil => exact Nat.zero_le _
  | cons x l ih => rw [costs_cons, List.length_cons];have : 64 ≤ x.cost := by unfold It.cost;omega
                   omega
def bytesIn (w : World) (s : Nat) : Nat := match w.cell? ⟨s, 1, none⟩ with | some (.int _ n) => n.toNat | _ => 0
end Go.Dr
namespace Go.Proofs.YtahapblgmehngaaGreatDoor
open Go.RowKit Go.Dr
theorem lay_long (fb rb s R m : Nat) (most last : Int) (l : List Nd) (id : Int) (q : En) (lp lf : List F) (w : World) (h : Sh fb rb w s R m most last l) (hp : Fs w.heap.size w q.vp lp) (hf : Fs w.heap.size w q.vf lf)
  (hk : q.key.length ≤ 1099511627776) (hb : q.body.length ≤ 1099511627776) (hl : fsum lp ≤ 1099511627776) (hl2 : fsum lf ≤ 1099511627776) (hc : most < (costF q lp lf : Nat)) :
  Calls Tryz.prog 59 #[Ptr s, .int .i64 id, q.val] w fun e w' => e = .returned (.int .i64 2) ∧ Below w.heap.size w w' := by
 have HC := Lib.hid (Cost_any q lp lf);obtain ⟨key, vp, st, vf, body, asked, came⟩ := q;simp only [En.val] at *;obtain ⟨c, ec⟩ : ∃ c, c = costF ⟨key, vp, st, vf, body, asked, came⟩ lp lf := ⟨_, rfl⟩;rw [← ec] at hc HC;clear ec;obtain ⟨w0, ew⟩ : ∃ w0 : World, w0 = w.alloc (.cells #[S key, vp, .int .i64 st, vf, S body, .int .i64 asked, .int .i64 came] 36) := ⟨_, rfl⟩;have hQ0 : Blk w0 w.heap.size 36 #[S key, vp, .int .i64 st, vf, S body, .int .i64 asked, .int .i64 came] := (by rw [ew];exact Blk.new _ _ _);have hb0 : Below w.heap.size w w0 := (by rw [ew];exact (Below.refl _ _).alloc (Nat.le_refl _) _);have hp0 := (hp.below hb0).mono hb0.size;have hf0 := (hf.below hb0).mono hb0.size;have hs0 := h.blk.below hb0 h.blk.lt;obtain ⟨y0, y1, y2, y3, y4, y5, y6⟩ := hQ0.c7;have hlt : decide (most < (c : Int)) = true := (by simpa using hc);go_enter Tryz.func59, Tryz.ntmps59
 go_upto_region 1 with fail;rw [← ew];clear ew hf hp h hc;go_wp2_with fail;refine (HC.out w0 hp0 hf0 hk hb hl hl2).mono ?_;rintro e w1 ⟨rfl, hb1⟩;have x0 : w1.cell? ⟨s, 0, none⟩ = some (.int .i64 most) := (hs0.on hb1).cell 0;have hw1 := Bl.tr hb0 hb1;go_wp2;go_ret;exact ⟨rfl, hw1⟩
theorem lay_any (fb rb s R m : Nat) (most last : Int) (l : List Nd) (id : Int) (q : En) (lp lf : List F) (w : World) (h : Sh fb rb w s R m most last l) (hfb : fb ≤ w.heap.size) (hrb : rb ≤ w.heap.size) (hp : ∀ w', But (Foot s R m l) w w' → Fs w'.heap.size w' q.vp lp) (hf : ∀ w', But (Foot s R m l) w w' → Fs w'.heap.size w' q.vf lf)
  (hk : q.key.length ≤ 1099511627776) (hb : q.body.length ≤ 1099511627776) (hl : fsum lp ≤ 1099511627776) (hl2 : fsum lf ≤ 1099511627776) (hid : ∀ n ∈ l, n.x.id ≠ id) (hidw : (Lit.int .i64 id).wf = true) (M : Nat) (hM : most = (M : Int)) (hc : costF q lp lf ≤ M) :
  Calls Tryz.prog 59 #[Ptr s, .int .i64 id, q.val] w fun e w' => e = .returned (.int .i64 0) ∧ ∃ nd : Nd, nd.x = It.of id q lp lf ∧ w.heap.size ≤ nd.b ∧ Sh fb rb w' s R m most last (roomOf (M - costF q lp lf) l ++ [nd]) ∧ But (Foot s R m l) w w' := by
 subst hM;have HC := Lib.hid (Cost_any q lp lf);have HCP := Lib.hid (fun w hp hf => copied_any q lp lf w hp hf (by have := fsum_length lp;omega) (by have := fsum_length lf;omega));have HIT : Hid (It.of id q lp lf = It.of id q lp lf) := rfl;obtain ⟨key, vp, st, vf, body, asked, came⟩ := q;simp only [En.val] at *;obtain ⟨c, ec⟩ : ∃ c, c = costF ⟨key, vp, st, vf, body, asked, came⟩ lp lf := ⟨_, rfl⟩;rw [← ec] at hc HC ⊢;have HEC := Lib.hid ec;clear ec;obtain ⟨w0, ew⟩ : ∃ w0 : World, w0 = w.alloc (.cells #[S key, vp, .int .i64 st, vf, S body, .int .i64 asked, .int .i64 came] 36) := ⟨_, rfl⟩;have hQ0 : Blk w0 w.heap.size 36 #[S key, vp, .int .i64 st, vf, S body, .int .i64 asked, .int .i64 came] := (by rw [ew];exact Blk.new _ _ _);have hb0 : Below w.heap.size w w0 := (by rw [ew];exact (Below.refl _ _).alloc (Nat.le_refl _) _);have hp0 := hp w0 (But.of_below hb0);have hf0 := hf w0 (But.of_below hb0);have hs0 := h.below hb0;obtain ⟨y0, y1, y2, y3, y4, y5, y6⟩ := hQ0.c7;have hlt : decide (M < c) = false := (by simp;omega);have hmost := h.most1;have hQoff : ¬ Foot s R m l w.heap.size := fun hk => absurd (h.foot_lt hk) (by omega)
 go_enter Tryz.func59, Tryz.ntmps59
 go_upto_region 1 with fail;rw [← ew];clear ew;go_wp2_with fail;refine (HC.out w0 hp0 hf0 hk hb hl hl2).mono ?_;rintro e w1 ⟨rfl, hb1⟩;have hs1 := hs0.below hb1;have hQ1 := hQ0.on hb1;have hw1 := Bl.tr hb0 hb1;have x0 : w1.cell? ⟨s, 0, none⟩ = some (.int .i64 (M : Int)) := hs1.blk.cell 0;clear hs0 hQ0 hp0 hf0 hb1 hb0 y0 y1 y2 y3 y4 y5 y6;go_wp2
 go_loopw [] (fun wr => ∃ rs, roomOf (M - c) rs = roomOf (M - c) l ∧ (∀ n ∈ rs, n ∈ l) ∧ Sh fb rb wr s R m (M : Int) last rs ∧ But (Foot s R m l) w1 wr) (fun wr => bytesIn wr s)
 case atStart => exact ⟨l, rfl, fun _ h => h, hs1, But.refl _ _⟩
 case round =>
  obtain ⟨rs, hr1, hr2, hsr, hbr⟩ := hrel;obtain ⟨cr, ecr⟩ : ∃ cr, cr = costs (rs.map Nd.x) := ⟨_, rfl⟩;have v0 : wr.cell? ⟨s, 0, none⟩ = some (.int .i64 (M : Int)) := hsr.blk.cell 0;have v1 : wr.cell? ⟨s, 1, none⟩ = some (.int .i64 (cr : Nat)) := (by rw [ecr];exact hsr.blk.cell 1);have hcm : (cr : Int) ≤ (M : Int) := (by rw [ecr];exact hsr.room);have hwr : IntKind.i64.wrap ((M : Int) - (c : Int)) = ((M - c : Nat) : Int) := (by rw [IntKind.wrap_i64];omega);have HCR := Lib.hid ecr;clear ecr;by_cases hgt : cr ≤ M - c
  ·have hdec : decide (M - c < cr) = false := by simp only [decide_eq_false_iff_not];omega
   have hfit : roomOf (M - c) rs = rs := roomOf_fit (by rw [← HCR.out];exact hgt);have hsd := hsr.drew;have hbd : But (Foot s R m l) w wr.drew := ((But.of_below hw1).trans hbr).drew;have hQd : Blk wr.drew w.heap.size 36 #[S key, vp, .int .i64 st, vf, S body, .int .i64 asked, .int .i64 came] := (hQ1.but hbr hQoff).drew;have hpd := hp _ hbd;have hfd := hf _ hbd;obtain ⟨y0, y1, y2, y3, y4, y5, y6⟩ := hQd.c7;go_wp2_with fail
   go_region_held3 (fun wx => wx.cell? ⟨s, 0, none⟩ = some (.int .i64 (M : Int)) ∧ wx.cell? ⟨s, 1, none⟩ = some (.int .i64 (cr : Nat)))
    (first | go_keep)
    (fail)
   all_goals
    go_wp2_with fail;refine (HCP.out _ hpd hfd).mono ?_;rintro e w3 ⟨vp', vf', rfl, ho1, ho2, hb3⟩;have hroom : ((cr + (c + 0) : Nat) : Int) ≤ (M : Int) := (by omega);have hcrc : ((cr + (c + 0) : Nat) : Int) = (cr : Int) + (c : Int) := (by omega);have hs3 := hsd.below hb3;obtain ⟨w4, ew4⟩ : ∃ w4 : World, w4 = w3.alloc (.cells #[.int .i64 id, .int .i64 (c : Nat), S key, vp', .int .i64 st, vf', S body, .int .i64 asked, .int .i64 came, .pointer none, .pointer none] 97) := ⟨_, rfl⟩;have hL : Blk w4 w3.heap.size 97 #[.int .i64 id, .int .i64 (c : Nat), S key, vp', .int .i64 st, vf', S body, .int .i64 asked, .int .i64 came, .pointer none, .pointer none] := (by rw [ew4];exact Blk.new _ _ _);have hb4 : Below w3.heap.size w3 w4 := (by rw [ew4];exact (Below.refl _ _).alloc (Nat.le_refl _) _);have hs4 := hs3.below hb4;have h34 : ∀ k, Foot s R m rs k → k ≠ w3.heap.size := fun k hk => by have := hs3.foot_lt hk;omega
    have hla : lastOr (rs.map Nd.n) R = R ∨ ∃ n ∈ rs, n.b = lastOr (rs.map Nd.n) R := last_of rs R;obtain ⟨ka, a1, a2, hA⟩ := ring_cell hs4 hla
    have hfa : Foot s R m rs (lastOr (rs.map Nd.n) R) := by
     rcases hla with e | ⟨n, hn, e⟩
     ·exact .inr (.inr (.inl e))
     ·exact .inr (.inr (.inr (e ▸ List.mem_map_of_mem hn)))
    have hsa : s ≠ lastOr (rs.map Nd.n) R := by
     rcases hla with e | ⟨n, hn, e⟩
     ·rw [e];exact hs4.ne_s.1
     ·rw [← e];exact fun e => (hs4.ne_s.2.2.2 n hn).1 e.symm
    have hma : m ≠ lastOr (rs.map Nd.n) R := by
     rcases hla with e | ⟨n, hn, e⟩
     ·rw [e];exact hs4.ne_s.2.2.1
     ·rw [← e];exact fun e => (hs4.ne_s.2.2.2 n hn).2.1 e.symm
    clear hla
    have hnew : w3.heap.size ∉ R :: (rs.map Nd.n).map (·.1) := by
     rw [nd_blocks, List.mem_cons];rintro (e | e)
     ·exact h34 R (.inr (.inr (.inl rfl))) e.symm
     ·obtain ⟨n, hn, e⟩ := List.mem_map.1 e
      exact h34 n.b (.inr (.inr (.inr (List.mem_map_of_mem hn)))) e
    obtain ⟨nd, end'⟩ : ∃ nd : Nd, nd = ⟨w3.heap.size, vp', vf', It.of id ⟨key, vp, st, vf, body, asked, came⟩ lp lf⟩ := ⟨_, rfl⟩;have hndb : nd.b = w3.heap.size := (by rw [end']);have hndx : nd.x = It.of id ⟨key, vp, st, vf, body, asked, came⟩ lp lf := (by rw [end']);have hcost : nd.x.cost = c := (by rw [hndx, HEC.out];rfl)
    have hr5 := hs4.ring.used (n := nd.n) _ (by show Blk w4 nd.b _ _;rw [hndb];exact hL) (by
     intro p q
     show _ = K.cells nd.k p q
     have : nd.k = ⟨id, c, key, vp', st, vf', body, asked, came⟩ := by
      unfold Nd.k;rw [hcost, end'];rfl
     rw [this]
     simp [K.cells]) (by show nd.b ∉ _;rw [hndb];exact hnew)
    have hnn : nd.n.1 = w3.heap.size := hndb;rw [hnn] at hr5;have hU := used_any s w3.heap.size R (lastOr (rs.map Nd.n) R) (.pointer none) (.pointer none) (Ptr a2) (.int .i64 0) w4 (hs4.blk.cell 3) (hs4.ring.root.cell 9) (hs4.ring.root.free 9) (hL.cell 9) (hL.free 9) (hL.cell 10) (hL.free 10) (hA.cell 10) (hA.free 10) (h34 s (.inl rfl)) (h34 R (.inr (.inr (.inl rfl)))) (h34 _ hfa) hsa hs4.ne_s.1;obtain ⟨w5, ew5⟩ : ∃ w5 : World, w5 = ((((w4.setCell ⟨w3.heap.size, 9, none⟩ (Ptr (lastOr (rs.map Nd.n) R))).setCell ⟨w3.heap.size, 10, none⟩ (Ptr R)).setCell ⟨lastOr (rs.map Nd.n) R, 10, none⟩ (Ptr w3.heap.size)).setCell ⟨R, 9, none⟩ (Ptr w3.heap.size)).drew := ⟨_, rfl⟩;rw [← ew5] at hU
    have hk5 : ∀ k, k ≠ w3.heap.size → k ≠ lastOr (rs.map Nd.n) R → k ≠ R → w5.heap[k]? = w4.heap[k]? := fun k h1 h2 h3 => by
     rw [ew5];exact (Below.heap_setCell _ ⟨R, 9, none⟩ _ k h3).trans ((Below.heap_setCell _ ⟨lastOr (rs.map Nd.n) R, 10, none⟩ _ k h2).trans ((Below.heap_setCell _ ⟨w3.heap.size, 10, none⟩ _ k h1).trans (Below.heap_setCell _ ⟨w3.heap.size, 9, none⟩ _ k h1)))
    have hz5 : w5.heap.size = w4.heap.size := (by rw [ew5];simp [World.setCell]);have hr6 : Ring w5 97 R (rs.map Nd.n ++ [nd.n]) := (by rw [ew5];exact hr5.block fun _ _ => rfl)
    have hb5 : But (Foot s R m l) w w5 := by
     have hf1 : ∀ k, Foot s R m rs k → Foot s R m l k := fun k hk => foot_more hr2 hk
     have h1 : But (Foot s R m l) w w4 := (hbd.trans (But.of_below hb3)).trans (But.of_below hb4);have hww : w.heap.size ≤ w3.heap.size := (hbd.trans (But.of_below hb3)).size;rw [ew5];exact ((((h1.setCell (p := ⟨w3.heap.size, 9, none⟩) (.inr hww) _).setCell (p := ⟨w3.heap.size, 10, none⟩) (.inr hww) _).setCell (p := ⟨lastOr (rs.map Nd.n) R, 10, none⟩) (.inl (hf1 _ hfa)) _).setCell (p := ⟨R, 9, none⟩) (.inl (.inr (.inr (.inl rfl)))) _).drew
    have hsm := hs4.ne_s
    have hs5 : Blk w5 s 100 #[.int .i64 (M : Int), .int .i64 (cr : Nat), .int .i64 last, Ptr R, .map (some m)] := by
     rw [HCR.out];exact hs4.blk.block (hk5 s (h34 s (.inl rfl)) hsa hsm.1)
    have hm5 : PMap Tryz.prog 3 w5 m (rs.map fun n => (n.x.id, n.b)) := hs4.map.block (hk5 m (h34 m (.inr (.inl rfl))) hma hsm.2.2.1);obtain ⟨w6, ew6⟩ : ∃ w6 : World, w6 = w5.setCell ⟨s, 1, none⟩ (.int .i64 ((cr : Int) + (c : Int))) := ⟨_, rfl⟩
    have hs6 : Blk w6 s 100 #[.int .i64 (M : Int), .int .i64 ((cr : Int) + (c : Int)), .int .i64 last, Ptr R, .map (some m)] := by
     rw [ew6];have := hs5.set 1 (.int .i64 ((cr : Int) + (c : Int)))
     simpa using this
    have hm6 : PMap Tryz.prog 3 w6 m (rs.map fun n => (n.x.id, n.b)) := (by rw [ew6];exact hm5.block (Below.heap_setCell w5 ⟨s, 1, none⟩ _ m fun e => hsm.2.1 e.symm));have hb6 : But (Foot s R m l) w w6 := (by rw [ew6];exact hb5.setCell (p := ⟨s, 1, none⟩) (.inl (.inl rfl)) _);have hlen := costs_len (rs.map Nd.x);rw [← HCR.out, List.length_map] at hlen
    obtain ⟨w7, hrun, hm7, ht7⟩ := hm6.put (t := 98) Tryz.underlying3 Tryz.underlying98 id w3.heap.size hidw (fun p hp => by
     obtain ⟨n, hn, rfl⟩ := List.mem_map.1 hp
     exact hid n (hr2 n hn)) (by rw [List.length_map];unfold maxLen;omega)
    have hb7 : But (Foot s R m l) w w7 := hb6.trans (But.grown ht7.grown (.inr (.inl rfl)))
    have hk7 : ∀ k, k ≠ s → k ≠ m → k < w5.heap.size → w7.heap[k]? = w5.heap[k]? := fun k h1 h2 h3 => by
     have e1 : w6.heap.size = w5.heap.size := (by rw [ew6];simp [World.setCell]);refine (ht7.grown.block k (by omega) (by simpa using h2)).trans ?_;rw [ew6];exact Below.heap_setCell w5 ⟨s, 1, none⟩ _ k h1
    have hfin : Sh fb rb w7 s R m (M : Int) last (rs ++ [nd]) := by
     have hww : w.heap.size ≤ wr.drew.heap.size := hbd.size;have hw3 : wr.drew.heap.size ≤ w3.heap.size := hb3.size;refine ⟨?_, ?_, ?_, ?_, ?_, ?_, hmost⟩
     ·rw [List.map_append, costs_append, ← HCR.out]
      show Blk w7 s _ #[_, .int .i64 ((cr + (nd.x.cost + 0) : Nat) : Int), _, _, _]
      rw [hcost, hcrc];exact hs6.block (ht7.grown.block s hs6.lt (by simpa using hsm.2.1))
     ·rw [List.map_append]
      refine hr6.block fun k hk => hk7 k ?_ ?_ (hr6.lt hk)
      ·rw [List.map_append, nd_blocks] at hk
       simp only [List.mem_cons, List.mem_append, List.map_cons, List.map_nil, List.not_mem_nil, or_false] at hk
       rcases hk with e | hk | e
       ·rw [e];exact fun e => hsm.1 e.symm
       ·obtain ⟨n, hn, e⟩ := List.mem_map.1 hk
        rw [← e];exact (hsm.2.2.2 n hn).1
       ·rw [e, hnn];exact fun e => h34 s (.inl rfl) e.symm
      ·rw [List.map_append, nd_blocks] at hk
       simp only [List.mem_cons, List.mem_append, List.map_cons, List.map_nil, List.not_mem_nil, or_false] at hk
       rcases hk with e | hk | e
       ·rw [e];exact fun e => hsm.2.2.1 e.symm
       ·obtain ⟨n, hn, e⟩ := List.mem_map.1 hk
        rw [← e];exact (hsm.2.2.2 n hn).2.1
       ·rw [e, hnn];exact fun e => h34 m (.inr (.inl rfl)) e.symm
     ·rw [List.map_append]
      show PMap _ _ _ _ (_ ++ [(nd.x.id, nd.b)])
      rw [hndb, hndx];exact hm7
     ·have hkk : ∀ (g : Nat) (cur : Array Value), (w4.heap[g]? = some (Obj.cells cur 89 (0, 0)) ∨ w4.heap[g]? = some (Obj.cells cur 60 (0, 0))) → w7.heap[g]? = w4.heap[g]? := fun g cur hg => by
       have hgl : g < w4.heap.size := (by rcases hg with hg | hg <;> exact (Array.getElem?_eq_some_iff.1 hg).1)
       have hoff : ¬ Foot s R m rs g := by
        rcases hg with hg | hg
        ·exact hs4.off hg (by decide) (by decide)
        ·exact hs4.off hg (by decide) (by decide)
       have hg3 : g ≠ w3.heap.size := fun e => by
        subst e;unfold Blk at hL;rw [hL] at hg;simp at hg
       refine (hk7 g (fun e => hoff (.inl e)) (fun e => hoff (.inr (.inl e))) (by rw [hz5];exact hgl)).trans (hk5 g hg3 (fun e => hoff (e ▸ hfa)) fun e => hoff (.inr (.inr (.inl e))))
      intro n hn
      rcases List.mem_append.1 hn with hn | hn
      ·exact (hs4.rows n hn).block fun g cur hg _ => hkk g cur hg
      ·rw [List.mem_singleton.1 hn, end']
       exact ⟨own_base (own_block (own_below ho1 hb4) fun g cur hg _ => hkk g cur (.inl hg)) (by omega), own_base (own_block (own_below ho2 hb4) fun g cur hg _ => hkk g cur (.inr hg)) (by omega)⟩
     ·intro k hk
      rcases hk with e | e | e | hk
      ·exact h.base k (.inl e)
      ·exact h.base k (.inr (.inl e))
      ·exact h.base k (.inr (.inr (.inl e)))
      ·rw [List.map_append] at hk
       rcases List.mem_append.1 hk with hk | hk
       ·exact h.base k (foot_more hr2 (.inr (.inr (.inr hk))))
       ·simp at hk
        rw [hk, hndb];omega
     ·rw [List.map_append, costs_append, ← HCR.out]
      show ((cr + (nd.x.cost + 0) : Nat) : Int) ≤ (M : Int)
      rw [hcost];exact hroom
    have x1 := hs5.k1;have g1 := hs5.free 1;have x4 := hs6.k4;have hww : w.heap.size ≤ w3.heap.size := Nat.le_trans hbd.size hb3.size;have HE4 := Lib.hid ew4;have HE6 := Lib.hid ew6;have HF := Lib.hid (show nd.x = It.of id ⟨key, vp, st, vf, body, asked, came⟩ lp lf ∧ w.heap.size ≤ nd.b ∧ Sh fb rb w7 s R m (M : Int) last (roomOf (M - c) l ++ [nd]) ∧ But (Foot s R m l) w w7 from ⟨hndx, by rw [hndb];exact hww, by rw [← hr1, hfit];exact hfin, hb7⟩);clear ew4 ew5 ew6 hfin hb7 hk7 hm7 ht7 hm6 hb6 hs6 hs5 hm5 hsm hr6 hb5 hk5 hr5 hnn hcost hndx hndb hnew hma hsa hfa hA h34 hs4 hL hb4 hs3 ho1 ho2 hb3 hpd hfd hQd hbd hsd;go_wp2_with fail;rw [← HE4.out];refine hU.mono ?_;rintro e _ ⟨rfl, rfl⟩;go_upto_region 9 with fail;rw [← HE6.out];clear HE6 HE4 hU x1 g1;go_wp2;go_ret;exact ⟨rfl, nd, HF.out⟩
  ·have hdec : decide (M - c < cr) = true := by simp only [decide_eq_true_eq];omega
   cases rs with
   | nil => exact absurd HCR.out (by simp;omega)
   | cons n rs =>
    have hless : roomOf (M - c) (n :: rs) = roomOf (M - c) rs := roomOf_less (by rw [← HCR.out];exact hgt);have hsd := hsr.drew;have d3 : wr.drew.cell? ⟨s, 3, none⟩ = some (Ptr R) := hsd.blk.cell 3;have d10 : wr.drew.cell? ⟨R, 10, none⟩ = some (Ptr n.b) := hsd.ring.root.cell 10;go_wp2_with fail
    go_region_held3 (fun wx => wx.cell? ⟨s, 0, none⟩ = some (.int .i64 (M : Int)) ∧ wx.cell? ⟨s, 1, none⟩ = some (.int .i64 (cr : Nat)))
     (first | go_keep)
     (fail)
    all_goals
     go_wp2_with fail;refine (drop_any fb rb s R m M last [] rs n _ hsd).mono ?_;rintro e w2 ⟨rfl, hs2, hb2⟩;go_wp2
     go_roundw
     case rel => exact ⟨rs, hless.symm.trans hr1, fun x hx => hr2 x (List.mem_cons_of_mem n hx), hs2, hbr.drew.trans (hb2.more fun k hk => foot_more (fun x hx => hr2 x hx) hk)⟩
     case measure =>
      have e1 : bytesIn w2 s = costs (rs.map Nd.x) := by
       unfold bytesIn;rw [show w2.cell? ⟨s, 1, none⟩ = some (.int .i64 (costs (rs.map Nd.x) : Nat)) from hs2.blk.cell 1];rfl
      have e2 : bytesIn wr s = cr := (by unfold bytesIn;rw [v1];rfl);rw [e1, e2, HCR.out, List.map_cons, costs_cons];have : 64 ≤ n.x.cost := (by unfold It.cost;omega)
      omega
open Go.RowKit Go.Dr
theorem structP : Tryz.prog.underlying 89 = some (.struct (Tryz.prog.fieldsOf 89)) := by kernel_rfl
theorem stoodP : Tryz.prog.stoodInHeld 89 = false := by kernel_rfl
theorem neqP (f g : F) (w : World) (c : Bool) (hc : c = !decide (f = g)) : (binOp .neq 89 (.agg #[S f.n, S f.v, .bool f.m]) (.agg #[S g.n, S g.v, .bool g.m])).run Tryz.prog w = .ok (.bool c) w := by
 subst hc;rw [run_neq_struct, show (10000 : Nat) = 9999 + 1 from rfl, run_equalIn_agg w 9999 89 _ _ structP stoodP];simp only [Program.fieldsOf, Tryz.underlying89];go_simp;obtain ⟨fn, fv, fm⟩ := f;obtain ⟨gn, gv, gm⟩ := g;by_cases h1 : fn = gn <;> by_cases h2 : fv = gv <;> by_cases h3 : fm = gm <;> simp [h1, h2, h3]
theorem EqualP_any (a b : List F) (va vb : Value) (w : World) (ha : Fs w.heap.size w va a) (hb : Fs w.heap.size w vb b) :
  Calls Tryz.prog 58 #[va, vb] w fun e w' => e = .returned (.bool (a == b)) ∧ Below w.heap.size w w' := by
 obtain ⟨pa, ca, rfl, hma⟩ := ha.form;obtain ⟨pb, cb, rfl, hmb⟩ := hb.form;by_cases hlen : a.length = b.length
 ·have h2 : ((a.length : Int) != (b.length : Int)) = false := by simp [hlen]
  have HL := Lib.hid hlen;clear hlen;go_enter Tryz.func58, Tryz.ntmps58
  go_wp2
  go_loopw [13] (fun i wr => ∃ k : Nat, k ≤ a.length ∧ i = .int .i64 k ∧ Hid (a.take k = b.take k) ∧ Below w.heap.size w wr) (fun i _ => a.length - (intOf i).toNat)
  case atStart => exact ⟨0, Nat.zero_le _, rfl, rfl, Below.refl _ _⟩
  case round =>
   obtain ⟨k, hk, rfl, HT, hbel⟩ := hrel;by_cases hlt : k < a.length
   ·have hlt' : k < b.length := by rw [← HL.out];exact hlt
    obtain ⟨ba, oa, rfl, hba, hca0, hca1, hca2⟩ := (ha.below hbel).at k hlt;obtain ⟨bb, ob, rfl, hbb, hcb0, hcb1, hcb2⟩ := (hb.below hbel).at k hlt';by_cases he : a[k] = b[k]
    ·have HN := Lib.hid (take_eq_succ hlt hlt' HT.out he)
     have hq := fun w => neqP a[k] b[k] w false (by simp [he])
     clear he;go_wp2_with fail;go_quiet (fail)
     go_wp2
     go_roundw
     case rel => exact ⟨k + 1, by omega, by go_num, HN, below_drewN hbel _⟩
     case measure => simp [intOf];omega
    ·have HN := Lib.hid (ne_of_get hlt hlt' he)
     have hq := fun w => neqP a[k] b[k] w true (by simp [he])
     clear he;go_wp2_with fail;go_quiet (fail)
     go_wp2;go_ret;exact ⟨ret_bool (by symm;rw [beq_eq_false_iff_ne];exact HN.out), below_drewN hbel _⟩
   ·go_wp2
    go_ret;exact ⟨ret_bool (by symm;rw [beq_iff_eq];have := HT.out;rwa [List.take_of_length_le (by omega), List.take_of_length_le (by rw [← HL.out];omega)] at this), hbel⟩
 ·have h2 : ((a.length : Int) != (b.length : Int)) = true := by simp;omega
  go_enter Tryz.func58, Tryz.ntmps58
  go_wp2;go_ret;exact ⟨ret_bool (by symm;rw [beq_eq_false_iff_ne];intro e;exact hlen (by rw [e])), Below.refl _ _⟩
theorem put1_any (n : Nd) (G : Nat) (q : En) (lp : List F) (w : World) (hG : Blk w G 36 #[S q.key, q.vp, .int .i64 q.st, q.vf, S q.body, .int .i64 q.asked, .int .i64 q.came]) (hn : Fs w.heap.size w n.vp n.x.lp) (hp : Fs w.heap.size w q.vp lp) :
  Calls Tryz.prog 57 #[entV n, Ptr G] w fun e w' => e = .returned (.bool (n.x.key == q.key && n.x.lp == lp)) ∧ Below w.heap.size w w' := by
 obtain ⟨w0, ew⟩ : ∃ w0 : World, w0 = w.alloc (.cells #[S n.x.key, n.vp, .int .i64 n.x.st, n.vf, S n.x.body, .int .i64 n.x.asked, .int .i64 n.x.came] 36) := ⟨_, rfl⟩;have hb0 : Below w.heap.size w w0 := (by rw [ew];exact (Below.refl _ _).alloc (Nat.le_refl _) _);have hN : Blk w0 w.heap.size 36 #[S n.x.key, n.vp, .int .i64 n.x.st, n.vf, S n.x.body, .int .i64 n.x.asked, .int .i64 n.x.came] := (by rw [ew];exact Blk.new _ _ _);have hG0 := hG.on hb0;have x0 : w0.cell? ⟨w.heap.size, 0, none⟩ = some (S n.x.key) := hN.cell 0;have x1 : w0.cell? ⟨w.heap.size, 1, none⟩ = some n.vp := hN.cell 1;have y0 := hG0.k0;have y1 : w0.cell? ⟨G, 1, none⟩ = some q.vp := hG0.cell 1;have hn0 := (hn.below hb0).mono hb0.size;have hp0 := (hp.below hb0).mono hb0.size;have HE := EqualP_any n.x.lp lp n.vp q.vp w0 hn0 hp0;obtain ⟨c, ec⟩ : ∃ c, c = (n.x.lp == lp) := ⟨_, rfl⟩;rw [← ec] at HE ⊢;clear ec hn hp hn0 hp0 hG;by_cases hk : n.x.key = q.key
 ·have hr : (n.x.key == q.key) = true := by simp [hk]
  rw [hr, Bool.true_and];clear hk;go_enter Tryz.func57, Tryz.ntmps57
  go_upto_region 1 with fail;rw [← ew];clear ew;go_wp2_with fail;refine HE.mono ?_;rintro e w1 ⟨rfl, hb1⟩;go_wp2;go_ret;exact ⟨rfl, Bl.tr hb0 hb1⟩
 ·have hr : (n.x.key == q.key) = false := by simp [hk]
  rw [hr, Bool.false_and];clear hk;go_enter Tryz.func57, Tryz.ntmps57
  go_upto_region 1 with fail;rw [← ew];clear ew;go_wp2;go_ret;exact ⟨rfl, hb0⟩
open Go.RowKit Go.Dr
theorem enter_of {f : FuncId} {fn : Func} {c : Code} (hf : Tryz.prog.funcs[f]? = some fn) (hname : (fn.name == "runtime.NumGoroutine") = false) (hb : fn.body = some c) (args : Array Value) (w : World) :
  (callFunc f args).run Tryz.prog w = .ok (.enter f args) w := by
 have h1 : fn.name ≠ "runtime.NumGoroutine" := (by simpa using hname);simp [callFunc, hf, h1, hb]
theorem Sh.last {fb rb : Nat} {w : World} {s R m : Nat} {most last : Int} {l : List Nd} (h : Sh fb rb w s R m most last l) (z : Int) : Sh fb rb (w.setCell ⟨s, 2, none⟩ (.int .i64 z)) s R m most z l where
 blk := by
  have := h.blk.set 2 (.int .i64 z)
  simpa using this
 ring := h.ring.block fun k hk => Below.heap_setCell w ⟨s, 2, none⟩ _ k (by
  rw [nd_blocks, List.mem_cons] at hk
  rcases hk with e | hk
  ·rw [e];exact fun e => h.ne_s.1 e.symm
  ·obtain ⟨n, hn, e⟩ := List.mem_map.1 hk
   rw [← e];exact (h.ne_s.2.2.2 n hn).1)
 map := h.map.block (Below.heap_setCell w ⟨s, 2, none⟩ _ m fun e => h.ne_s.2.1 e.symm)
 rows := fun n hn => (h.rows n hn).block fun g cur hg _ => Below.heap_setCell w ⟨s, 2, none⟩ _ g fun e => by
  have := h.blk
  unfold Blk at this;subst e;rw [this] at hg;simp at hg
 base := h.base
 room := h.room
 most1 := h.most1
def alikeP (key : Bytes) (lp : List F) (n : Nd) : Bool := n.x.key == key && n.x.lp == lp
theorem sweepPut (fb rb s R m : Nat) (most last : Int) (l : List Nd) (w : World) (h : Sh fb rb w s R m most last l) (hlen : l.length ≤ 1048576) (G : Nat) (q : En) (lp : List F) (hG : Blk w G 36 #[S q.key, q.vp, .int .i64 q.st, q.vf, S q.body, .int .i64 q.asked, .int .i64 q.came]) (hp : ∀ w', But (Foot s R m l) w w' → Fs w'.heap.size w' q.vp lp) :
  Calls Tryz.prog 56 #[Ptr s, .func (.func 57) #[] #[Ptr G]] w fun e w' => e = .returned (.int .i64 ((l.filter (alikeP q.key lp)).length : Nat)) ∧ Sh fb rb w' s R m most last (l.filter (fun n => !alikeP q.key lp n)) ∧ But (Foot s R m l) w w' := by
 have hGo : ¬ Foot s R m l G := h.off hG (by decide) (by decide);refine sweep_any fb rb s R m most last l w h hlen _ (enter_of Tryz.func57 (by kernel_rfl) rfl) #[Ptr G] (alikeP q.key lp) (fun _ wa => But (Foot s R m l) w wa) (But.refl _ _) ?_ fun _ dn wa wb h1 h2 => h1.trans h2
 intro dn n rs wa hl hs hj;refine (put1_any n G q lp wa (hG.but hj hGo) (Fs.own (hs.rows n (by simp)).1) (hp wa hj)).mono ?_;rintro e wb ⟨rfl, hb⟩;exact ⟨rfl, hs.below hb, hj.trans (But.of_below hb)⟩
theorem Sh.length_le {fb rb : Nat} {w : World} {s R m : Nat} {most last : Int} {l : List Nd} (h : Sh fb rb w s R m most last l) : l.length ≤ 16384 := by
 have h1 := h.room;have h2 := h.most1;have h3 := costs_len (l.map Nd.x);rw [List.length_map] at h3;omega
theorem Put_any (fb rb s R m : Nat) (most last : Int) (l : List Nd) (q : En) (lp lf : List F) (w : World) (h : Sh fb rb w s R m most last l) (hfb : fb ≤ w.heap.size) (hrb : rb ≤ w.heap.size) (hp : ∀ w', But (Foot s R m l) w w' → Fs w'.heap.size w' q.vp lp) (hf : ∀ w', But (Foot s R m l) w w' → Fs w'.heap.size w' q.vf lf)
  (hk : q.key.length ≤ 1099511627776) (hb : q.body.length ≤ 1099511627776) (hl : fsum lp ≤ 1099511627776) (hl2 : fsum lf ≤ 1099511627776) (hid : ∀ n ∈ l, n.x.id ≤ last) (hla : 0 ≤ last ∧ last ≤ 4611686018427387904) (M : Nat) (hM : most = (M : Int)) (hc : costF q lp lf ≤ M) :
  Calls Tryz.prog 28 #[Ptr s, q.val] w fun e w' => e = .returned (.tuple #[.int .i64 (last + 1), .int .i64 0]) ∧ ∃ nd : Nd, nd.x = It.of (last + 1) q lp lf ∧ w.heap.size ≤ nd.b ∧ Sh fb rb w' s R m most (last + 1) (roomOf (M - costF q lp lf) (l.filter (fun n => !alikeP q.key lp n)) ++ [nd]) ∧ But (Foot s R m l) w w' := by
 obtain ⟨w0, ew⟩ : ∃ w0 : World, w0 = w.alloc (.cells #[S q.key, q.vp, .int .i64 q.st, q.vf, S q.body, .int .i64 q.asked, .int .i64 q.came] 36) := ⟨_, rfl⟩;have hb0 : Below w.heap.size w w0 := (by rw [ew];exact (Below.refl _ _).alloc (Nat.le_refl _) _);have hG : Blk w0 w.heap.size 36 #[S q.key, q.vp, .int .i64 q.st, q.vf, S q.body, .int .i64 q.asked, .int .i64 q.came] := (by rw [ew];exact Blk.new _ _ _);have hs0 := h.below hb0;have hlen := h.length_le;have hGo : ¬ Foot s R m l w.heap.size := hs0.off hG (by decide) (by decide);have hC := sweepPut fb rb s R m most last l w0 hs0 (by omega) w.heap.size q lp hG fun w' hb => hp w' ((But.of_below hb0).trans hb)
 have hsub : ∀ n ∈ l.filter (fun n => !alikeP q.key lp n), n ∈ l := fun n hn => (List.mem_filter.1 hn).1
 obtain ⟨c, ec⟩ : ∃ c, c = (l.filter (alikeP q.key lp)).length := ⟨_, rfl⟩;rw [← ec] at hC;clear ec;obtain ⟨l2, el⟩ : ∃ l2, l2 = l.filter (fun n => !alikeP q.key lp n) := ⟨_, rfl⟩;rw [← el] at hC hsub ⊢;clear el;have HL := Lib.hid (fun (w1 : World) (hs : Sh fb rb w1 s R m most last l2) h1 h2 h3 h4 h5 => lay_any fb rb s R m most last l2 (last + 1) q lp lf w1 hs h1 h2 h3 h4 hk hb hl hl2 (fun n hn => by have := hid n (hsub n hn);omega) h5 M hM hc)
 have hwf : (Lit.int .i64 (last + 1)).wf = true := by
  simp [Lit.wf, IntKind.min, IntKind.max, IntKind.signed, IntKind.bits]
  omega
 have hwr : IntKind.i64.wrap (last + 1) = last + 1 := (by rw [IntKind.wrap_i64];omega);have hmf : ∀ (fn : Fn) (first cap : Array Value) (w : World), (Instr.makeFunc fn first cap).run Tryz.prog w = .ok (.func fn first cap) w := fun _ _ _ _ => rfl
 obtain ⟨key, vp, st, vf, body, asked, came⟩ := q;simp only [En.val] at *;obtain ⟨kc, ekc⟩ : ∃ kc, kc = costF ⟨key, vp, st, vf, body, asked, came⟩ lp lf := ⟨_, rfl⟩;rw [← ekc] at HL ⊢;clear ekc hc;go_enter Tryz.func28, Tryz.ntmps28
 go_upto_region 3 with fail;rw [← ew];clear ew;go_wp2_with fail;refine hC.mono ?_;rintro e w1 ⟨rfl, hs1, hb1⟩;have hG1 := hG.but hb1 hGo;have hw1 := (But.of_below (S := Foot s R m l) hb0).trans hb1;have x2 : w1.cell? ⟨s, 2, none⟩ = some (.int .i64 last) := hs1.blk.cell 2;obtain ⟨y0, y1, y2, y3, y4, y5, y6⟩ := hG1.c7;have hsd := hs1.drew;clear hs0 hC hG hG1 hb0 hb1;go_wp2_with fail
 go_region_with (first
  | (go_at_call 59;refine (HL.out w1.drew hsd (Nat.le_trans hfb hw1.size) (Nat.le_trans hrb hw1.size) (fun w' hb => hp w' (hw1.drew.trans (hb.more fun k hk => foot_more hsub hk))) (fun w' hb => hf w' (hw1.drew.trans (hb.more fun k hk => foot_more hsub hk))) hwf).mono ?_;rintro e w2 ⟨rfl, nd, hnx, hnb, hs2, hb2⟩))
 all_goals
  have z2 : w2.cell? ⟨s, 2, none⟩ = some (.int .i64 last) := hs2.blk.cell 2;have g2 := hs2.blk.free 2;have hs3 := hs2.last (last + 1);have hb3 := ((hw1.drew.trans (hb2.more fun k hk => foot_more hsub hk)).setCell (p := ⟨s, 2, none⟩) (.inl (.inl rfl)) (.int .i64 (last + 1)));have hww := hw1.size;clear hs2 hb2 hw1 hsd x2;go_wp2;go_ret2;exact ⟨rfl, nd, hnx, Nat.le_trans hww hnb, hs3, hb3⟩
theorem Put_long (fb rb s R m : Nat) (most last : Int) (l : List Nd) (q : En) (lp lf : List F) (w : World) (h : Sh fb rb w s R m most last l) (hp : ∀ w', But (Foot s R m l) w w' → Fs w'.heap.size w' q.vp lp) (hf : ∀ w', But (Foot s R m l) w w' → Fs w'.heap.size w' q.vf lf)
  (hk : q.key.length ≤ 1099511627776) (hb : q.body.length ≤ 1099511627776) (hl : fsum lp ≤ 1099511627776) (hl2 : fsum lf ≤ 1099511627776) (hla : 0 ≤ last ∧ last ≤ 4611686018427387904) (hc : most < (costF q lp lf : Nat)) :
  Calls Tryz.prog 28 #[Ptr s, q.val] w fun e w' => e = .returned (.tuple #[.int .i64 0, .int .i64 2]) ∧ Sh fb rb w' s R m most last (l.filter (fun n => !alikeP q.key lp n)) ∧ But (Foot s R m l) w w' := by
 obtain ⟨w0, ew⟩ : ∃ w0 : World, w0 = w.alloc (.cells #[S q.key, q.vp, .int .i64 q.st, q.vf, S q.body, .int .i64 q.asked, .int .i64 q.came] 36) := ⟨_, rfl⟩;have hb0 : Below w.heap.size w w0 := (by rw [ew];exact (Below.refl _ _).alloc (Nat.le_refl _) _);have hG : Blk w0 w.heap.size 36 #[S q.key, q.vp, .int .i64 q.st, q.vf, S q.body, .int .i64 q.asked, .int .i64 q.came] := (by rw [ew];exact Blk.new _ _ _);have hs0 := h.below hb0;have hlen := h.length_le;have hGo : ¬ Foot s R m l w.heap.size := hs0.off hG (by decide) (by decide);have hC := sweepPut fb rb s R m most last l w0 hs0 (by omega) w.heap.size q lp hG fun w' hb => hp w' ((But.of_below hb0).trans hb)
 have hsub : ∀ n ∈ l.filter (fun n => !alikeP q.key lp n), n ∈ l := fun n hn => (List.mem_filter.1 hn).1
 obtain ⟨c, ec⟩ : ∃ c, c = (l.filter (alikeP q.key lp)).length := ⟨_, rfl⟩;rw [← ec] at hC;clear ec;obtain ⟨l2, el⟩ : ∃ l2, l2 = l.filter (fun n => !alikeP q.key lp n) := ⟨_, rfl⟩;rw [← el] at hC hsub ⊢;clear el;have HL := Lib.hid (fun (w1 : World) (hs : Sh fb rb w1 s R m most last l2) h1 h2 => lay_long fb rb s R m most last l2 (last + 1) q lp lf w1 hs h1 h2 hk hb hl hl2 hc);have hwr : IntKind.i64.wrap (last + 1) = last + 1 := (by rw [IntKind.wrap_i64];omega);have hmf : ∀ (fn : Fn) (first cap : Array Value) (w : World), (Instr.makeFunc fn first cap).run Tryz.prog w = .ok (.func fn first cap) w := fun _ _ _ _ => rfl
 obtain ⟨key, vp, st, vf, body, asked, came⟩ := q;simp only [En.val] at *;clear hc;go_enter Tryz.func28, Tryz.ntmps28
 go_upto_region 3 with fail;rw [← ew];clear ew;go_wp2_with fail;refine hC.mono ?_;rintro e w1 ⟨rfl, hs1, hb1⟩;have hG1 := hG.but hb1 hGo;have hw1 := (But.of_below (S := Foot s R m l) hb0).trans hb1;have x2 : w1.cell? ⟨s, 2, none⟩ = some (.int .i64 last) := hs1.blk.cell 2;obtain ⟨y0, y1, y2, y3, y4, y5, y6⟩ := hG1.c7;have hsd := hs1.drew;clear hs0 hC hG hG1 hb0 hb1;go_wp2_with fail
 go_region_with (first
  | (go_at_call 59;refine (HL.out w1.drew hsd (hp _ hw1.drew) (hf _ hw1.drew)).mono ?_;rintro e w2 ⟨rfl, hb2⟩))
 all_goals
  have hs3 := hsd.below hb2;have hb3 := hw1.drew.trans (But.of_below hb2);clear hb2 hw1 hsd x2;go_wp2;go_ret2;exact ⟨rfl, hs3, hb3⟩
end Go.Proofs.YtahapblgmehngaaGreatDoor
namespace Go.Dr
open Go.RowKit
theorem fbytes_max (l : List F) (hb : ∀ f ∈ l, f.n.length ≤ 140737488355328 ∧ f.v.length ≤ 140737488355328) : fbytes l ≤ 281476050452512 := by
 have : ∀ (l : List F) (n : Nat), (∀ f ∈ l, f.n.length ≤ 140737488355328 ∧ f.v.length ≤ 140737488355328) → n ≤ 281476050452512 → l.foldl fbStep n ≤ 281476050452512 := by
  intro l
  induction l with
  | nil => exact fun n _ h => h
  | cons f l ih =>
   intro n hb hn;refine ih _ (fun g hg => hb g (List.mem_cons_of_mem _ hg)) ?_;have := hb f (by simp)
   unfold fbStep
   split <;> omega
 exact this l 0 hb (Nat.zero_le _)
open Go.RowKit Go.ChangeShapes Go.WideShapes Go.Deep Go.Joins
open Go.ChangeMaps (open_string)
structure Ex where
 q : En
 lp : List F
 lf : List F
instance : Inhabited Ex := ⟨⟨⟨[], .slice none 0 0, 0, .slice none 0 0, [], 0, 0⟩, [], []⟩⟩
section
variable {H : Type} {enc : TypeId × Value → H} {P : Program} {w : World} {base : Nat} {spare : Nat → Bool} {held : Bool}
end
open Go.RowKit
theorem row_form {w : World} {base : Nat} {e : TypeId} {size : Nat} {v : Value} {n : Nat} {xs : List Value} (h : w.ownsRow base e size v n xs) : ∃ a c, v = .slice a n c := by
 rcases h.2 with ⟨rfl, h0⟩ | ⟨g, cap, cur, rfl, _⟩
 ·exact ⟨none, 0, by rw [h0]⟩
 ·exact ⟨_, _, rfl⟩
end Go.Dr
namespace Go.Proofs.YtahapblgmehngaaGreatDoor
open Go.RowKit Go.Dr
open Go.RowKit Go.Dr
abbrev entZ : Value := .agg #[S [], .slice none 0 0, .int .i64 0, .slice none 0 0, S [], .int .i64 0, .int .i64 0]
theorem Find_nil (k : Bytes) (v : Value) (w : World) : Calls Tryz.prog 33 #[.pointer none, S k, v] w fun e w' => e = .returned (.tuple #[entZ, .int .i64 0, .bool false]) ∧ Below w.heap.size w w' := by
 go_enter Tryz.func33, Tryz.ntmps33
 go_wp2;refine bodyPost_ret (v := .tuple #[entZ, .int .i64 0, .bool false]) (by simp [results, Tryz.results33, go_sem, World.cell?_alloc_mark]) rfl ?_;exact ⟨rfl, by first | exact Below.refl _ _ | exact (Below.refl _ _).alloc (Nat.le_refl _) _⟩
open Go.RowKit Go.Dr
def RetE (x : It) (base : Nat) (v : Value) (w : World) : Prop := ∃ vp vf, v = .agg #[S x.key, vp, .int .i64 x.st, vf, S x.body, .int .i64 x.asked, .int .i64 x.came] ∧ w.ownsRow base 89 3 vp x.lp.length (fcells x.lp) ∧ w.ownsRow base 60 3 vf x.lf.length (fcells x.lf)
theorem RetE.low {x : It} {base base' : Nat} {v : Value} {w : World} (h : RetE x base v w) (hb : base' ≤ base) : RetE x base' v w := by
 obtain ⟨vp, vf, e, h1, h2⟩ := h;exact ⟨vp, vf, e, own_base h1 hb, own_base h2 hb⟩
theorem RetE.put7 {x : It} {base : Nat} {v : Value} {w : World} (h : RetE x base v w) {G : Nat} (hG : G < base) (b0 b1 b2 b3 b4 b5 b6 : Value) : RetE x base v (put7 w G b0 b1 b2 b3 b4 b5 b6) := by
 obtain ⟨vp, vf, e, h1, h2⟩ := h;exact ⟨vp, vf, e, own_block h1 fun g cur _ hg => heap_put7 _ _ _ _ _ _ _ _ _ g (by omega), own_block h2 fun g cur _ hg => heap_put7 _ _ _ _ _ _ _ _ _ g (by omega)⟩
theorem copied_nd {rb : Nat} (n : Nd) (w : World) (h : Rows rb w n) (hc : n.x.cost ≤ 1048576) :
  Calls Tryz.prog 66 #[entV n] w fun e w' => ∃ vp vf, e = .returned (.agg #[S n.x.key, vp, .int .i64 n.x.st, vf, S n.x.body, .int .i64 n.x.asked, .int .i64 n.x.came]) ∧ w'.ownsRow w.heap.size 89 3 vp n.x.lp.length (fcells n.x.lp) ∧ w'.ownsRow w.heap.size 60 3 vf n.x.lf.length (fcells n.x.lf) ∧ Below w.heap.size w w' := by
 have h1 := fsum_length n.x.lp;have h2 := fsum_length n.x.lf;unfold It.cost at hc;exact copied_any n.en n.x.lp n.x.lf w (Fs.own h.1) (Fs.own h.2) (by omega) (by omega)
abbrev Ez : Array Value := #[S [], .slice none 0 0, .int .i64 0, .slice none 0 0, S [], .int .i64 0, .int .i64 0]
open Go.RowKit Go.Dr
structure Ev where
 vp : Value
 vf : Value
 x : It
def Ev.cells (v : Ev) : List Value := [S v.x.key, v.vp, .int .i64 v.x.st, v.vf, S v.x.body, .int .i64 v.x.asked, .int .i64 v.x.came]
theorem Ev.one (v : Ev) (h1 : ∃ a n c, v.vp = .slice a n c) (h2 : ∃ a n c, v.vf = .slice a n c) : ∀ u ∈ v.cells, u.oneCell' = true := by
 obtain ⟨a, n, c, h1⟩ := h1;obtain ⟨a', n', c', h2⟩ := h2;intro u hu;simp only [Ev.cells, List.mem_cons, List.not_mem_nil, or_false, h1, h2] at hu
 rcases hu with rfl | rfl | rfl | rfl | rfl | rfl | rfl <;> rfl
end Go.Proofs.YtahapblgmehngaaGreatDoor
