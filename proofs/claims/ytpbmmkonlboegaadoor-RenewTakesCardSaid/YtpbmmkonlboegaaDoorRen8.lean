
/- The walks of layer 20: an answer with a 304's fields. -/
import Derived.Test.YtpbmmkonlboegaaDoorRen3
import Derived.Test.YtpbmmkonlboegaaDoorHop5
import Derived.Test.YtpbmmkonlboegaaDoorVar1
namespace Go.Dr
def bodyNames : List Bytes := [[99, 111, 110, 116, 101, 110, 116, 45, 108, 101, 110, 103, 116, 104], [99, 111, 110, 116, 101, 110, 116, 45, 101, 110, 99, 111, 100, 105, 110, 103], [99, 111, 110, 116, 101, 110, 116, 45, 116, 121, 112, 101], [99, 111, 110, 116, 101, 110, 116, 45, 114, 97, 110, 103, 101]]
def ofBodyB (f : F) : Bool := bodyNames.contains (low f.n)
def notBody (f : F) : Bool := !ofBodyB f
def notIn (news : List F) (f : F) : Bool := !hasB news f.n
theorem low_bodyNames : bodyNames.map low = bodyNames := by decide +kernel
theorem among_body (n : Bytes) : among n bodyNames = bodyNames.contains (low n) := by rw [← among_map, low_bodyNames]
theorem any_values (news : List F) (n : Bytes) : hasB news n = news.any fun f => same f.n n := by
  induction news with
  | nil => rfl
  | cons f l ih =>
    unfold hasB values at *
    rw [List.filter_cons, List.any_cons]
    cases hs : same f.n n with
    | true => simp
    | false => simp only [Bool.false_or]; rw [← ih]; simp
theorem same_sym (a b : Bytes) : same a b = same b a := by unfold same; exact Bool.beq_comm
theorem olds_eq (le news : List F) : without le (news.map F.n) = le.filter (notIn news) := by
  unfold without
  congr 1
  funext f
  unfold notIn
  rw [any_values]
  congr 1
  unfold among
  rw [List.any_map]
  congr 1
  funext g
  exact same_sym f.n g.n
end Go.Dr
namespace Go.Proofs.YtpbmmkonlboegaaDoor
open Go.RowKit Go.Dr

/-- A 304's fields; an answer's fields with them. -/
def newsOf (l : List F) : List F := (strip l).filter notBody
def renewedF (le l : List F) : List F := le.filter (notIn (newsOf l)) ++ newsOf l

theorem news_eq (l : List F) : without (strip l) bodyNames = newsOf l := by
  have h : (fun f : F => !among f.n bodyNames) = notBody := by
    funext f
    rw [among_body, notBody, ofBodyB]
  rw [without, newsOf, h]
set_option maxRecDepth 100000 in
set_option maxHeartbeats 1000000 in
theorem ofBody_any (f : F) (b : Bool) (hb : ofBodyB f = b) (w : World) (hf : f.n.length ≤ 1099511627776) :
    Calls Tryd.prog 59 #[.agg #[S f.n, S f.v, .bool f.m]] w fun e w' => e = .returned (.bool b) ∧ Below w.heap.size w w' := by
  have HY : Hid ((low f.n == [99, 111, 110, 116, 101, 110, 116, 45, 108, 101, 110, 103, 116, 104] || (low f.n == [99, 111, 110, 116, 101, 110, 116, 45, 101, 110, 99, 111, 100, 105, 110, 103] || (low f.n == [99, 111, 110, 116, 101, 110, 116, 45, 116, 121, 112, 101] || (low f.n == [99, 111, 110, 116, 101, 110, 116, 45, 114, 97, 110, 103, 101] || false)))) = b) := by
    rw [← hb]; rfl
  clear hb
  have hbx : Below w.heap.size w (w.alloc (.cells #[S f.n, S f.v, .bool f.m] 31)) := (Below.refl _ _).alloc (Nat.le_refl _) _
  go_enter Tryd.func59, Tryd.ntmps59
  go_wp2_with fail
  refine (Lower_any _ _ (by unfold maxLen; omega)).mono ?_
  rintro e w1 ⟨rfl, hb1⟩
  have hw1 := Bl.tr hbx hb1
  clear hbx hb1
  generalize low f.n = q at *
  go_wp2
  all_goals go_ret
  all_goals exact ⟨ret_bool (by rw [← HY.out]; clear HY; first | (simp [*]; done) | (exfalso; simp_all; done)), hw1⟩


set_option maxRecDepth 100000 in
theorem stays1_any (f : F) (b : Bool) (hb : notBody f = b) (w : World) (hf : f.n.length ≤ 1099511627776) :
    Calls Tryd.prog 58 #[.agg #[S f.n, S f.v, .bool f.m]] w fun e w' => e = .returned (.bool b) ∧ Below w.heap.size w w' := by
  have HB := Lib.hid hb
  clear hb
  have hbx : Below w.heap.size w (w.alloc (.cells #[S f.n, S f.v, .bool f.m] 31)) := (Below.refl _ _).alloc (Nat.le_refl _) _
  go_enter Tryd.func58, Tryd.ntmps58
  go_wp2_with fail
  refine (ofBody_any f _ rfl _ hf).mono ?_
  rintro e w1 ⟨rfl, hb1⟩
  have hw1 := Bl.tr hbx hb1
  have HY : Hid (notBody f = !ofBodyB f) := rfl
  generalize ofBodyB f = q at *
  go_wp2
  go_ret
  exact ⟨ret_bool (by rw [← HB.out, HY.out]), hw1⟩

set_option maxRecDepth 100000 in
theorem stays2_any (f : F) (news : List F) (vn : Value) (G : Nat) (b : Bool) (hb : notIn news f = b) (w : World) (hG : Dr.One w G 62 vn) (hn : Fs w.heap.size w vn news) (hnl : fsum news ≤ 1099511627776) (hf : f.n.length ≤ 1099511627776) :
    Calls Tryd.prog 60 #[.agg #[S f.n, S f.v, .bool f.m], .pointer (some ⟨G, 0, none⟩)] w fun e w' => e = .returned (.bool b) ∧ Below w.heap.size w w' := by
  obtain ⟨pn, cn, rfl, -⟩ := hn.form
  have HB := Lib.hid hb
  clear hb
  have hbx : Below w.heap.size w (w.alloc (.cells #[S f.n, S f.v, .bool f.m] 31)) := (Below.refl _ _).alloc (Nat.le_refl _) _
  have hn1 := (hn.below hbx).mono hbx.size
  have cG := hG.cell
  have lG := hG.lt
  go_enter Tryd.func60, Tryd.ntmps60
  go_wp2_with fail
  refine (has_any news f.n _ _ hn1 hnl hf).mono ?_
  rintro e w1 ⟨rfl, hb1⟩
  have hw1 := Bl.tr hbx hb1
  have HY : Hid (notIn news f = !hasB news f.n) := rfl
  generalize hasB news f.n = q at *
  go_wp2
  go_ret
  exact ⟨ret_bool (by rw [← HB.out, HY.out]), hw1⟩

set_option maxRecDepth 100000 in
set_option maxHeartbeats 2000000 in
theorem onlyBody_any (l : List F) (v : Value) (w : World) (h : Fs w.heap.size w v l) (hl : fsum l ≤ 1099511627776) :
    Calls Tryd.prog 50 #[v, .func (.func 58) #[] #[]] w (RetFs 31 w (l.filter notBody)) := by
  obtain ⟨pa, ca, rfl, hm⟩ := h.form
  have hll := fsum_length l
  go_enter Tryd.func50, Tryd.ntmps50
  go_wp2
  go_loopw [5, 10] (fun v' i wr => ∃ k : Nat, i = .int .i64 k ∧ k ≤ l.length ∧ wr.ownsRow w.heap.size 31 3 v' ((l.take k).filter notBody).length (fcells ((l.take k).filter notBody)) ∧ Below w.heap.size w wr) (fun _ i _ => l.length - (intOf i).toNat)
  case atStart => exact ⟨0, rfl, Nat.zero_le _, World.ownsRow_nil _ _ _ _, Below.refl _ _⟩
  case round =>
    obtain ⟨k, rfl, hk, hown, hbel⟩ := hrel
    by_cases hlt : k < l.length
    · obtain ⟨b, off, rfl, hbb, c0, c1, c2⟩ := (h.below hbel).at k hlt
      have hf := fsum_mem (List.getElem_mem hlt)
      have HV := Lib.hid (filter_snoc notBody l k hlt)
      have hvl : ((l.take k).filter notBody).length ≤ k := Nat.le_trans (List.length_filter_le _ _) (by simp; omega)
      have hz := hbel.size
      have hZ := Blk.new wr 31 #[S l[k].n, S l[k].v, .bool l[k].m]
      have hal : Below wr.heap.size wr (wr.alloc (.cells #[S l[k].n, S l[k].v, .bool l[k].m] 31)) := (Below.refl _ _).alloc (Nat.le_refl _) _
      generalize (l.take k).filter notBody = out at *
      cases hq : notBody l[k] with
      | true =>
        have HV : Hid ((l.take (k + 1)).filter notBody = out ++ [l[k]]) := by show _ = _; rw [HV.out, hq, if_pos rfl]
        have HQ := Lib.hid hq
        clear hq
        go_wp2_with fail
        refine (stays1_any l[k] _ HQ.out _ (by omega)).mono ?_
        rintro e w1 ⟨rfl, hb1⟩
        have hZ1 := hZ.on hb1
        have hw1 := Bl.tr hal hb1
        have hown1 := own_below hown hw1
        have hz1 := hw1.size
        have d0 : w1.cell? ⟨wr.heap.size, 0, none⟩ = some (S l[k].n) := hZ1.cell 0
        have d1 : w1.cell? ⟨wr.heap.size, 1, none⟩ = some (S l[k].v) := hZ1.cell 1
        have d2 : w1.cell? ⟨wr.heap.size, 2, none⟩ = some (.bool l[k].m) := hZ1.cell 2
        go_wp2_with (at_builtin; refine wpList_appF rfl _ _ 62 rfl w.heap.size Tryd.underlying62 (by kernel_rfl) _ _ _ rfl hown1 rfl (by omega) (by omega) rfl ?_; intro a2 c2' w2 hown2 hb2 hz2)
        go_roundw
        case rel => exact ⟨k + 1, by go_num, by omega, by rw [HV.out, fcells_append, List.length_append]; exact hown2, (hbel.trans (hw1.mono hz)).trans hb2⟩
        case measure => simp [intOf]; omega
      | false =>
        have HV : Hid ((l.take (k + 1)).filter notBody = out) := by show _ = _; rw [HV.out, hq]; simp
        have HQ := Lib.hid hq
        clear hq
        go_wp2_with fail
        refine (stays1_any l[k] _ HQ.out _ (by omega)).mono ?_
        rintro e w1 ⟨rfl, hb1⟩
        have hw1 := Bl.tr hal hb1
        have hown1 := own_below hown hw1
        go_wp2
        go_roundw
        case rel => exact ⟨k + 1, by go_num, by omega, by rw [HV.out]; exact hown1, hbel.trans (hw1.mono hz)⟩
        case measure => simp [intOf]; omega
    · have hk' : k = l.length := by omega
      subst hk'
      rw [List.take_length] at *
      go_wp2
      go_ret
      exact ⟨_, rfl, hown, hbel⟩


set_option maxRecDepth 100000 in
set_option maxHeartbeats 2000000 in
theorem onlyNews_any (l : List F) (v : Value) (w : World) (h : Fs w.heap.size w v l) (hl : fsum l ≤ 1099511627776) (news : List F) (vn : Value) (G : Nat) (hG : Dr.One w G 62 vn) (hn : Fs w.heap.size w vn news) (hnl : fsum news ≤ 1099511627776) :
    Calls Tryd.prog 50 #[v, .func (.func 60) #[] #[.pointer (some ⟨G, 0, none⟩)]] w (RetFs 31 w (l.filter (notIn news))) := by
  obtain ⟨pa, ca, rfl, hm⟩ := h.form
  have hll := fsum_length l
  go_enter Tryd.func50, Tryd.ntmps50
  go_wp2
  go_loopw [5, 10] (fun v' i wr => ∃ k : Nat, i = .int .i64 k ∧ k ≤ l.length ∧ wr.ownsRow w.heap.size 31 3 v' ((l.take k).filter (notIn news)).length (fcells ((l.take k).filter (notIn news))) ∧ Below w.heap.size w wr) (fun _ i _ => l.length - (intOf i).toNat)
  case atStart => exact ⟨0, rfl, Nat.zero_le _, World.ownsRow_nil _ _ _ _, Below.refl _ _⟩
  case round =>
    obtain ⟨k, rfl, hk, hown, hbel⟩ := hrel
    by_cases hlt : k < l.length
    · obtain ⟨b, off, rfl, hbb, c0, c1, c2⟩ := (h.below hbel).at k hlt
      have hf := fsum_mem (List.getElem_mem hlt)
      have HV := Lib.hid (filter_snoc (notIn news) l k hlt)
      have hvl : ((l.take k).filter (notIn news)).length ≤ k := Nat.le_trans (List.length_filter_le _ _) (by simp; omega)
      have hz := hbel.size
      have hGr := hG.below hbel hG.lt
      have hZ := Blk.new wr 31 #[S l[k].n, S l[k].v, .bool l[k].m]
      have hal : Below wr.heap.size wr (wr.alloc (.cells #[S l[k].n, S l[k].v, .bool l[k].m] 31)) := (Below.refl _ _).alloc (Nat.le_refl _) _
      have hnr := (((hn.below hbel).mono hz).below hal).mono hal.size
      generalize (l.take k).filter (notIn news) = out at *
      cases hq : (notIn news) l[k] with
      | true =>
        have HV : Hid ((l.take (k + 1)).filter (notIn news) = out ++ [l[k]]) := by show _ = _; rw [HV.out, hq, if_pos rfl]
        have HQ := Lib.hid hq
        clear hq
        go_wp2_with fail
        refine (stays2_any l[k] news vn G _ HQ.out _ (hGr.alloc _) (by exact hnr) hnl (by omega)).mono ?_
        rintro e w1 ⟨rfl, hb1⟩
        have hZ1 := hZ.on hb1
        have hw1 := Bl.tr hal hb1
        have hown1 := own_below hown hw1
        have hz1 := hw1.size
        have d0 : w1.cell? ⟨wr.heap.size, 0, none⟩ = some (S l[k].n) := hZ1.cell 0
        have d1 : w1.cell? ⟨wr.heap.size, 1, none⟩ = some (S l[k].v) := hZ1.cell 1
        have d2 : w1.cell? ⟨wr.heap.size, 2, none⟩ = some (.bool l[k].m) := hZ1.cell 2
        go_wp2_with (at_builtin; refine wpList_appF rfl _ _ 62 rfl w.heap.size Tryd.underlying62 (by kernel_rfl) _ _ _ rfl hown1 rfl (by omega) (by omega) rfl ?_; intro a2 c2' w2 hown2 hb2 hz2)
        go_roundw
        case rel => exact ⟨k + 1, by go_num, by omega, by rw [HV.out, fcells_append, List.length_append]; exact hown2, (hbel.trans (hw1.mono hz)).trans hb2⟩
        case measure => simp [intOf]; omega
      | false =>
        have HV : Hid ((l.take (k + 1)).filter (notIn news) = out) := by show _ = _; rw [HV.out, hq]; simp
        have HQ := Lib.hid hq
        clear hq
        go_wp2_with fail
        refine (stays2_any l[k] news vn G _ HQ.out _ (hGr.alloc _) (by exact hnr) hnl (by omega)).mono ?_
        rintro e w1 ⟨rfl, hb1⟩
        have hw1 := Bl.tr hal hb1
        have hown1 := own_below hown hw1
        go_wp2
        go_roundw
        case rel => exact ⟨k + 1, by go_num, by omega, by rw [HV.out]; exact hown1, hbel.trans (hw1.mono hz)⟩
        case measure => simp [intOf]; omega
    · have hk' : k = l.length := by omega
      subst hk'
      rw [List.take_length] at *
      go_wp2
      go_ret
      exact ⟨_, rfl, hown, hbel⟩


end Go.Proofs.YtpbmmkonlboegaaDoor
