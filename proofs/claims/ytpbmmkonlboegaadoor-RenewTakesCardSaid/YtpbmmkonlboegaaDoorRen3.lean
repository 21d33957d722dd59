
/- The walks of layer 20, third part: what is told of an answer that the client has; an age that is nothing. -/
import Derived.Test.YtpbmmkonlboegaaDoorRen2
import Derived.Test.YtpbmmkonlboegaaDoorHop3
namespace Go.Dr
def toldNames : List Bytes := [[99, 97, 99, 104, 101, 45, 99, 111, 110, 116, 114, 111, 108], [99, 111, 110, 116, 101, 110, 116, 45, 108, 111, 99, 97, 116, 105, 111, 110], [100, 97, 116, 101], [101, 116, 97, 103], [101, 120, 112, 105, 114, 101, 115], [108, 97, 115, 116, 45, 109, 111, 100, 105, 102, 105, 101, 100], [118, 97, 114, 121]]
def toldB (f : F) : Bool := toldNames.contains (low f.n)
def dateT : Bytes := [100, 97, 116, 101]
def ageT : Bytes := [97, 103, 101]
theorem filter_snoc (p : F → Bool) (l : List F) (k : Nat) (h : k < l.length) : (l.take (k + 1)).filter p = (l.take k).filter p ++ (if p l[k] then [l[k]] else []) := by
  rw [take_snoc l k h, List.filter_append]
  congr 1
  by_cases hs : p l[k] = true <;> simp [hs]
end Go.Dr
namespace Go.Proofs.YtpbmmkonlboegaaDoor
open Go.RowKit Go.Dr

set_option maxRecDepth 100000 in
set_option maxHeartbeats 1000000 in
theorem told_any (f : F) (b : Bool) (hb : toldB f = b) (w : World) (hf : f.n.length ≤ 1099511627776) :
    Calls Tryd.prog 51 #[.agg #[S f.n, S f.v, .bool f.m]] w fun e w' => e = .returned (.bool b) ∧ Below w.heap.size w w' := by
  have HY : Hid ((low f.n == [99, 97, 99, 104, 101, 45, 99, 111, 110, 116, 114, 111, 108] || (low f.n == [99, 111, 110, 116, 101, 110, 116, 45, 108, 111, 99, 97, 116, 105, 111, 110] || (low f.n == [100, 97, 116, 101] || (low f.n == [101, 116, 97, 103] || (low f.n == [101, 120, 112, 105, 114, 101, 115] || (low f.n == [108, 97, 115, 116, 45, 109, 111, 100, 105, 102, 105, 101, 100] || (low f.n == [118, 97, 114, 121] || false))))))) = b) := by
    rw [← hb]; rfl
  clear hb
  have hbx : Below w.heap.size w (w.alloc (.cells #[S f.n, S f.v, .bool f.m] 31)) := (Below.refl _ _).alloc (Nat.le_refl _) _
  go_enter Tryd.func51, Tryd.ntmps51
  go_wp2_with fail
  refine (Lower_any _ _ (by unfold maxLen; omega)).mono ?_
  rintro e w1 ⟨rfl, hb1⟩
  have hw1 := Bl.tr hbx hb1
  clear hbx hb1
  generalize low f.n = q at *
  go_wp2
  all_goals go_ret
  all_goals exact ⟨ret_bool (by rw [← HY.out]; clear HY; first | (simp [*]; done) | (exfalso; simp_all; done)), hw1⟩

set_option maxRecDepth 100000 in
set_option maxHeartbeats 2000000 in
theorem onlyTold_any (l : List F) (v : Value) (w : World) (h : Fs w.heap.size w v l) (hl : fsum l ≤ 1099511627776) :
    Calls Tryd.prog 50 #[v, .func (.func 51) #[] #[]] w (RetFs 31 w (l.filter toldB)) := by
  obtain ⟨pa, ca, rfl, hm⟩ := h.form
  have hll := fsum_length l
  go_enter Tryd.func50, Tryd.ntmps50
  go_wp2
  go_loopw [5, 10] (fun v' i wr => ∃ k : Nat, i = .int .i64 k ∧ k ≤ l.length ∧ wr.ownsRow w.heap.size 31 3 v' ((l.take k).filter toldB).length (fcells ((l.take k).filter toldB)) ∧ Below w.heap.size w wr) (fun _ i _ => l.length - (intOf i).toNat)
  case atStart => exact ⟨0, rfl, Nat.zero_le _, World.ownsRow_nil _ _ _ _, Below.refl _ _⟩
  case round =>
    obtain ⟨k, rfl, hk, hown, hbel⟩ := hrel
    by_cases hlt : k < l.length
    · obtain ⟨b, off, rfl, hbb, c0, c1, c2⟩ := (h.below hbel).at k hlt
      have hf := fsum_mem (List.getElem_mem hlt)
      have HV := Lib.hid (filter_snoc toldB l k hlt)
      have hvl : ((l.take k).filter toldB).length ≤ k := Nat.le_trans (List.length_filter_le _ _) (by simp; omega)
      have hz := hbel.size
      have hZ := Blk.new wr 31 #[S l[k].n, S l[k].v, .bool l[k].m]
      have hal : Below wr.heap.size wr (wr.alloc (.cells #[S l[k].n, S l[k].v, .bool l[k].m] 31)) := (Below.refl _ _).alloc (Nat.le_refl _) _
      generalize (l.take k).filter toldB = out at *
      cases hq : toldB l[k] with
      | true =>
        have HV : Hid ((l.take (k + 1)).filter toldB = out ++ [l[k]]) := by show _ = _; rw [HV.out, hq, if_pos rfl]
        have HQ := Lib.hid hq
        clear hq
        go_wp2_with fail
        refine (told_any l[k] _ HQ.out _ (by omega)).mono ?_
        rintro e w1 ⟨rfl, hb1⟩
        have hZ1 := hZ.on hb1
        have hw1 := Bl.tr hal hb1
        have hown1 := own_below hown hw1
        have hz1 := hw1.size
        have d0 : w1.cell? ⟨wr.heap.size, 0, none⟩ = some (S l[k].n) := hZ1.cell 0
        have d1 : w1.cell? ⟨wr.heap.size, 1, none⟩ = some (S l[k].v) := hZ1.cell 1
        have d2 : w1.cell? ⟨wr.heap.size, 2, none⟩ = some (.bool l[k].m) := hZ1.cell 2
        go_wp2_with (at_builtin; refine wpList_appF rfl _ _ 62 rfl w.heap.size Tryd.underlying62 (by kernel_rfl) _ _ _ rfl hown1 rfl (by omega) (by omega) rfl ?_; intro a2 c2' w2 hown2 hb2 hz2)
        go_roundw
        case rel => exact ⟨k + 1, by go_num, by omega, by rw [HV.out, fcells_append, List.length_append]; exact hown2, (hbel.trans (hw1.mono hz)).trans hb2⟩
        case measure => simp [intOf]; omega
      | false =>
        have HV : Hid ((l.take (k + 1)).filter toldB = out) := by show _ = _; rw [HV.out, hq]; simp
        have HQ := Lib.hid hq
        clear hq
        go_wp2_with fail
        refine (told_any l[k] _ HQ.out _ (by omega)).mono ?_
        rintro e w1 ⟨rfl, hb1⟩
        have hw1 := Bl.tr hal hb1
        have hown1 := own_below hown hw1
        go_wp2
        go_roundw
        case rel => exact ⟨k + 1, by go_num, by omega, by rw [HV.out]; exact hown1, hbel.trans (hw1.mono hz)⟩
        case measure => simp [intOf]; omega
    · have hk' : k = l.length := by omega
      subst hk'
      rw [List.take_length] at *
      go_wp2
      go_ret
      exact ⟨_, rfl, hown, hbel⟩

theorem clampZero_any (w : World) : Calls Tryd.prog 70 #[.int .i64 0] w fun e w' => e = .returned (.int .i64 0) ∧ w' = w := by
  go_enter Tryd.func70, Tryd.ntmps70
  go_wp2
  go_ret
  exact ⟨rfl, rfl⟩

set_option maxRecDepth 100000 in
theorem momentNone_any (q : En) (l : List F) (name : Bytes) (hv : values l name = []) (w : World) (h : Fs w.heap.size w q.vf l) (hl : fsum l ≤ 1099511627776) (hn : name.length ≤ 1099511627776) :
    Calls Tryd.prog 71 #[q.val, S name] w fun e w' => e = .returned (.tuple #[.int .i64 0, .bool false]) ∧ Below w.heap.size w w' := by
  obtain ⟨pf, cf, hfv, -⟩ := h.form
  obtain ⟨key, vp, st, vf, body, asked, came⟩ := q
  simp only at hfv h
  subst hfv
  have HV := Lib.hid hv
  clear hv
  have hQ := Blk.new w 25 (En.cells ⟨key, vp, st, .slice pf l.length cf, body, asked, came⟩)
  have hbx : Below w.heap.size w (w.alloc (.cells (En.cells ⟨key, vp, st, .slice pf l.length cf, body, asked, came⟩) 25)) := (Below.refl _ _).alloc (Nat.le_refl _) _
  have h1 := (h.below hbx).mono hbx.size
  unfold En.val
  go_enter Tryd.func71, Tryd.ntmps71
  go_wp2_with fail
  refine (Values_any l name _ _ h1 hl hn).mono ?_
  rintro e w1 ⟨vv, rfl, hvv, hb1⟩
  rw [HV.out] at hvv
  obtain ⟨pa, ca, rfl, hm⟩ := (Ss.own hvv).form
  go_wp2
  go_ret2
  exact ⟨rfl, Bl.tr hbx hb1⟩

set_option maxRecDepth 100000 in
theorem toldNone_any (q : En) (l : List F) (hv : values l ageT = []) (w : World) (h : Fs w.heap.size w q.vf l) (hl : fsum l ≤ 1099511627776) :
    Calls Tryd.prog 72 #[q.val] w fun e w' => e = .returned (.int .i64 0) ∧ Below w.heap.size w w' := by
  obtain ⟨pf, cf, hfv, -⟩ := h.form
  obtain ⟨key, vp, st, vf, body, asked, came⟩ := q
  simp only at hfv h
  subst hfv
  have HV := Lib.hid hv
  clear hv
  have hQ := Blk.new w 25 (En.cells ⟨key, vp, st, .slice pf l.length cf, body, asked, came⟩)
  have hbx : Below w.heap.size w (w.alloc (.cells (En.cells ⟨key, vp, st, .slice pf l.length cf, body, asked, came⟩) 25)) := (Below.refl _ _).alloc (Nat.le_refl _) _
  have h1 := (h.below hbx).mono hbx.size
  unfold En.val
  go_enter Tryd.func72, Tryd.ntmps72
  go_wp2_with fail
  refine (Values_any l ageT _ _ h1 hl (by decide)).mono ?_
  rintro e w1 ⟨vv, rfl, hvv, hb1⟩
  rw [HV.out] at hvv
  obtain ⟨pa, ca, rfl, hm⟩ := (Ss.own hvv).form
  go_wp2
  go_ret
  exact ⟨rfl, Bl.tr hbx hb1⟩

set_option maxRecDepth 100000 in
set_option maxHeartbeats 1000000 in
theorem AgeNone_any (key body : Bytes) (vp vf : Value) (st : Int) (l : List F) (hd : values l dateT = []) (hv : values l ageT = []) (w : World) (h : Fs w.heap.size w vf l) (hl : fsum l ≤ 1099511627776) :
    Calls Tryd.prog 47 #[.agg #[S key, vp, .int .i64 st, vf, S body, .int .i64 0, .int .i64 0], .int .i64 0] w fun e w' => e = .returned (.int .i64 0) ∧ Below w.heap.size w w' := by
  obtain ⟨pf, cf, rfl, -⟩ := h.form
  have HV := Lib.hid hv
  have HD := Lib.hid hd
  clear hv hd
  have hM := fun w h => momentNone_any ⟨key, vp, st, .slice pf l.length cf, body, 0, 0⟩ l dateT HD.out w h hl (by decide)
  have hT := fun w h => toldNone_any ⟨key, vp, st, .slice pf l.length cf, body, 0, 0⟩ l HV.out w h hl
  simp only [En.val] at hM hT
  have HM := Lib.hid hM
  have HT := Lib.hid hT
  clear hM hT
  have hQ := Blk.new w 25 #[S key, vp, .int .i64 st, .slice pf l.length cf, S body, .int .i64 0, .int .i64 0]
  have hbx : Below w.heap.size w (w.alloc (.cells #[S key, vp, .int .i64 st, .slice pf l.length cf, S body, .int .i64 0, .int .i64 0] 25)) := (Below.refl _ _).alloc (Nat.le_refl _) _
  have h1 := (h.below hbx).mono hbx.size
  go_enter Tryd.func47, Tryd.ntmps47
  go_wp2_with fail
  go_quiet ((go_at_call 70; exact Calls.quiet_of_same (clampZero_any _)))
  go_wp2_with fail
  have h2 := h1.drewN nq
  have hQ2 := hQ.drewN nq
  have hw2 := Bl.drewN hbx nq
  clear hQ h1 hbx h
  generalize (w.alloc (.cells #[S key, vp, .int .i64 st, .slice pf l.length cf, S body, .int .i64 0, .int .i64 0] 25)).drewN nq = w2 at *
  refine (HM.out w2 h2).mono ?_
  rintro e w3 ⟨rfl, hb3⟩
  have h3 := (h2.below hb3).mono hb3.size
  have hQ3 := hQ2.on hb3
  have hw3 := Bl.tr hw2 hb3
  have c0 := hQ3.cell 0
  have c1 := hQ3.cell 1
  have c2 := hQ3.cell 2
  have c3 := hQ3.cell 3
  have c4 := hQ3.cell 4
  have c5 := hQ3.cell 5
  have c6 := hQ3.cell 6
  simp at c0 c1 c2 c3 c4 c5 c6
  clear h2 hQ2 hw2 hb3
  go_wp2_with fail
  refine (HT.out w3 h3).mono ?_
  rintro e w4 ⟨rfl, hb4⟩
  have hw4 := Bl.tr hw3 hb4
  go_wp2_with fail
  refine (clampZero_any w4).mono ?_
  rintro e w5 ⟨rfl, hw5⟩
  obtain rfl : w4 = w5 := hw5.symm
  go_wp2
  go_ret
  exact ⟨rfl, hw4⟩
end Go.Proofs.YtpbmmkonlboegaaDoor
