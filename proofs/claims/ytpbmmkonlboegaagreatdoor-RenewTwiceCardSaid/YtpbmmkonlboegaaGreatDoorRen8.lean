
/- The walks of layer 20: an answer with a 304's fields. -/
import Derived.Test.YtpbmmkonlboegaaGreatDoorRen3
import Derived.Test.YtpbmmkonlboegaaGreatDoorHop3
import Derived.Test.YtpbmmkonlboegaaGreatDoorVarS
import Derived.Test.YtpbmmkonlboegaaGreatDoorOpen
namespace Go.Dr
def bodyNames : List Bytes := [[99, 111, 110, 116, 101, 110, 116, 45, 108, 101, 110, 103, 116, 104], [99, 111, 110, 116, 101, 110, 116, 45, 101, 110, 99, 111, 100, 105, 110, 103], [99, 111, 110, 116, 101, 110, 116, 45, 116, 121, 112, 101], [99, 111, 110, 116, 101, 110, 116, 45, 114, 97, 110, 103, 101]]
def ofBodyB (f : F) : Bool := bodyNames.contains (low f.n)
def notBody (f : F) : Bool := !ofBodyB f
def notIn (news : List F) (f : F) : Bool := !hasB news f.n
theorem low_bodyNames : bodyNames.map low = bodyNames := by decide +kernel
theorem among_body (n : Bytes) : among n bodyNames = bodyNames.contains (low n) := by rw [← among_map, low_bodyNames]
theorem any_values (news : List F) (n : Bytes) : hasB news n = news.any fun f => same f.n n := by
  induction news with
  | nil => rfl
  | cons f l ih =>
    unfold hasB values at *
    rw [List.filter_cons, List.any_cons]
    cases hs : same f.n n with
    | true => simp
    | false => simp only [Bool.false_or]; rw [← ih]; simp
theorem same_sym (a b : Bytes) : same a b = same b a := by unfold same; exact Bool.beq_comm
theorem olds_eq (le news : List F) : without le (news.map F.n) = le.filter (notIn news) := by
  unfold without
  congr 1
  funext f
  unfold notIn
  rw [any_values]
  congr 1
  unfold among
  rw [List.any_map]
  congr 1
  funext g
  exact same_sym f.n g.n
end Go.Dr
namespace Go.Proofs.YtpbmmkonlboegaaGreatDoor
open Go.RowKit Go.Dr

/-- A 304's fields; an answer's fields with them. -/
def newsOf (l : List F) : List F := (strip l).filter notBody
def renewedF (le l : List F) : List F := le.filter (notIn (newsOf l)) ++ newsOf l

theorem news_eq (l : List F) : without (strip l) bodyNames = newsOf l := by
  have h : (fun f : F => !among f.n bodyNames) = notBody := by
    funext f
    rw [among_body, notBody, ofBodyB]
  rw [without, newsOf, h]
set_option maxRecDepth 100000 in
set_option maxHeartbeats 1000000 in
theorem ofBody_any (f : F) (b : Bool) (hb : ofBodyB f = b) (w : World) (hf : f.n.length ≤ 1099511627776) :
    Calls Tryz.prog 48 #[.agg #[S f.n, S f.v, .bool f.m]] w fun e w' => e = .returned (.bool b) ∧ Below w.heap.size w w' := by
  have HY : Hid ((low f.n == [99, 111, 110, 116, 101, 110, 116, 45, 108, 101, 110, 103, 116, 104] || (low f.n == [99, 111, 110, 116, 101, 110, 116, 45, 101, 110, 99, 111, 100, 105, 110, 103] || (low f.n == [99, 111, 110, 116, 101, 110, 116, 45, 116, 121, 112, 101] || (low f.n == [99, 111, 110, 116, 101, 110, 116, 45, 114, 97, 110, 103, 101] || false)))) = b) := by
    rw [← hb]; rfl
  clear hb
  have hbx : Below w.heap.size w (w.alloc (.cells #[S f.n, S f.v, .bool f.m] 37)) := (Below.refl _ _).alloc (Nat.le_refl _) _
  go_enter Tryz.func48, Tryz.ntmps48
  go_wp2_with fail
  refine (Lower_any _ _ (by unfold maxLen; omega)).mono ?_
  rintro e w1 ⟨rfl, hb1⟩
  have hw1 := Bl.tr hbx hb1
  clear hbx hb1
  generalize low f.n = q at *
  go_wp2
  all_goals go_ret
  all_goals exact ⟨ret_bool (by rw [← HY.out]; clear HY; first | (simp [*]; done) | (exfalso; simp_all; done)), hw1⟩


set_option maxRecDepth 100000 in
theorem stays1_any (f : F) (b : Bool) (hb : notBody f = b) (w : World) (hf : f.n.length ≤ 1099511627776) :
    Calls Tryz.prog 47 #[.agg #[S f.n, S f.v, .bool f.m]] w fun e w' => e = .returned (.bool b) ∧ Below w.heap.size w w' := by
  have HB := Lib.hid hb
  clear hb
  have hbx : Below w.heap.size w (w.alloc (.cells #[S f.n, S f.v, .bool f.m] 37)) := (Below.refl _ _).alloc (Nat.le_refl _) _
  go_enter Tryz.func47, Tryz.ntmps47
  go_wp2_with fail
  refine (ofBody_any f _ rfl _ hf).mono ?_
  rintro e w1 ⟨rfl, hb1⟩
  have hw1 := Bl.tr hbx hb1
  have HY : Hid (notBody f = !ofBodyB f) := rfl
  generalize ofBodyB f = q at *
  go_wp2
  go_ret
  exact ⟨ret_bool (by rw [← HB.out, HY.out]), hw1⟩

set_option maxRecDepth 100000 in
theorem stays2_any (f : F) (news : List F) (vn : Value) (G : Nat) (b : Bool) (hb : notIn news f = b) (w : World) (hG : Dr.One w G 49 vn) (hn : Fs w.heap.size w vn news) (hnl : fsum news ≤ 1099511627776) (hf : f.n.length ≤ 1099511627776) :
    Calls Tryz.prog 49 #[.agg #[S f.n, S f.v, .bool f.m], .pointer (some ⟨G, 0, none⟩)] w fun e w' => e = .returned (.bool b) ∧ Below w.heap.size w w' := by
  obtain ⟨pn, cn, rfl, -⟩ := hn.form
  have HB := Lib.hid hb
  clear hb
  have hbx : Below w.heap.size w (w.alloc (.cells #[S f.n, S f.v, .bool f.m] 37)) := (Below.refl _ _).alloc (Nat.le_refl _) _
  have hn1 := (hn.below hbx).mono hbx.size
  have cG := hG.cell
  have lG := hG.lt
  go_enter Tryz.func49, Tryz.ntmps49
  go_wp2_with fail
  refine (has_any news f.n _ _ hn1 hnl hf).mono ?_
  rintro e w1 ⟨rfl, hb1⟩
  have hw1 := Bl.tr hbx hb1
  have HY : Hid (notIn news f = !hasB news f.n) := rfl
  generalize hasB news f.n = q at *
  go_wp2
  go_ret
  exact ⟨ret_bool (by rw [← HB.out, HY.out]), hw1⟩

set_option maxRecDepth 100000 in
set_option maxHeartbeats 2000000 in
theorem onlyBody_any (l : List F) (v : Value) (w : World) (h : Fs w.heap.size w v l) (hl : fsum l ≤ 1099511627776) :
    Calls Tryz.prog 36 #[v, .func (.func 47) #[] #[]] w (RetFs 37 w (l.filter notBody)) := by
  obtain ⟨pa, ca, rfl, hm⟩ := h.form
  have hll := fsum_length l
  go_enter Tryz.func36, Tryz.ntmps36
  go_wp2
  go_loopw [5, 10] (fun v' i wr => ∃ k : Nat, i = .int .i64 k ∧ k ≤ l.length ∧ wr.ownsRow w.heap.size 37 3 v' ((l.take k).filter notBody).length (fcells ((l.take k).filter notBody)) ∧ Below w.heap.size w wr) (fun _ i _ => l.length - (intOf i).toNat)
  case atStart => exact ⟨0, rfl, Nat.zero_le _, World.ownsRow_nil _ _ _ _, Below.refl _ _⟩
  case round =>
    obtain ⟨k, rfl, hk, hown, hbel⟩ := hrel
    by_cases hlt : k < l.length
    · obtain ⟨b, off, rfl, hbb, c0, c1, c2⟩ := (h.below hbel).at k hlt
      have hf := fsum_mem (List.getElem_mem hlt)
      have HV := Lib.hid (filter_snoc notBody l k hlt)
      have hvl : ((l.take k).filter notBody).length ≤ k := Nat.le_trans (List.length_filter_le _ _) (by simp; omega)
      have hz := hbel.size
      have hZ := Blk.new wr 37 #[S l[k].n, S l[k].v, .bool l[k].m]
      have hal : Below wr.heap.size wr (wr.alloc (.cells #[S l[k].n, S l[k].v, .bool l[k].m] 37)) := (Below.refl _ _).alloc (Nat.le_refl _) _
      generalize (l.take k).filter notBody = out at *
      cases hq : notBody l[k] with
      | true =>
        have HV : Hid ((l.take (k + 1)).filter notBody = out ++ [l[k]]) := by show _ = _; rw [HV.out, hq, if_pos rfl]
        have HQ := Lib.hid hq
        clear hq
        go_wp2_with fail
        refine (stays1_any l[k] _ HQ.out _ (by omega)).mono ?_
        rintro e w1 ⟨rfl, hb1⟩
        have hZ1 := hZ.on hb1
        have hw1 := Bl.tr hal hb1
        have hown1 := own_below hown hw1
        have hz1 := hw1.size
        have d0 : w1.cell? ⟨wr.heap.size, 0, none⟩ = some (S l[k].n) := hZ1.cell 0
        have d1 : w1.cell? ⟨wr.heap.size, 1, none⟩ = some (S l[k].v) := hZ1.cell 1
        have d2 : w1.cell? ⟨wr.heap.size, 2, none⟩ = some (.bool l[k].m) := hZ1.cell 2
        go_wp2_with (at_builtin; refine wpList_appF rfl _ _ 49 rfl w.heap.size Tryz.underlying49 (by kernel_rfl) _ _ _ rfl hown1 rfl (by omega) (by omega) rfl ?_; intro a2 c2' w2 hown2 hb2 hz2)
        go_roundw
        case rel => exact ⟨k + 1, by go_num, by omega, by rw [HV.out, fcells_append, List.length_append]; exact hown2, (hbel.trans (hw1.mono hz)).trans hb2⟩
        case measure => simp [intOf]; omega
      | false =>
        have HV : Hid ((l.take (k + 1)).filter notBody = out) := by show _ = _; rw [HV.out, hq]; simp
        have HQ := Lib.hid hq
        clear hq
        go_wp2_with fail
        refine (stays1_any l[k] _ HQ.out _ (by omega)).mono ?_
        rintro e w1 ⟨rfl, hb1⟩
        have hw1 := Bl.tr hal hb1
        have hown1 := own_below hown hw1
        go_wp2
        go_roundw
        case rel => exact ⟨k + 1, by go_num, by omega, by rw [HV.out]; exact hown1, hbel.trans (hw1.mono hz)⟩
        case measure => simp [intOf]; omega
    · have hk' : k = l.length := by omega
      subst hk'
      rw [List.take_length] at *
      go_wp2
      go_ret
      exact ⟨_, rfl, hown, hbel⟩


set_option maxRecDepth 100000 in
set_option maxHeartbeats 2000000 in
theorem onlyNews_any (l : List F) (v : Value) (w : World) (h : Fs w.heap.size w v l) (hl : fsum l ≤ 1099511627776) (news : List F) (vn : Value) (G : Nat) (hG : Dr.One w G 49 vn) (hn : Fs w.heap.size w vn news) (hnl : fsum news ≤ 1099511627776) :
    Calls Tryz.prog 36 #[v, .func (.func 49) #[] #[.pointer (some ⟨G, 0, none⟩)]] w (RetFs 37 w (l.filter (notIn news))) := by
  obtain ⟨pa, ca, rfl, hm⟩ := h.form
  have hll := fsum_length l
  go_enter Tryz.func36, Tryz.ntmps36
  go_wp2
  go_loopw [5, 10] (fun v' i wr => ∃ k : Nat, i = .int .i64 k ∧ k ≤ l.length ∧ wr.ownsRow w.heap.size 37 3 v' ((l.take k).filter (notIn news)).length (fcells ((l.take k).filter (notIn news))) ∧ Below w.heap.size w wr) (fun _ i _ => l.length - (intOf i).toNat)
  case atStart => exact ⟨0, rfl, Nat.zero_le _, World.ownsRow_nil _ _ _ _, Below.refl _ _⟩
  case round =>
    obtain ⟨k, rfl, hk, hown, hbel⟩ := hrel
    by_cases hlt : k < l.length
    · obtain ⟨b, off, rfl, hbb, c0, c1, c2⟩ := (h.below hbel).at k hlt
      have hf := fsum_mem (List.getElem_mem hlt)
      have HV := Lib.hid (filter_snoc (notIn news) l k hlt)
      have hvl : ((l.take k).filter (notIn news)).length ≤ k := Nat.le_trans (List.length_filter_le _ _) (by simp; omega)
      have hz := hbel.size
      have hGr := hG.below hbel hG.lt
      have hZ := Blk.new wr 37 #[S l[k].n, S l[k].v, .bool l[k].m]
      have hal : Below wr.heap.size wr (wr.alloc (.cells #[S l[k].n, S l[k].v, .bool l[k].m] 37)) := (Below.refl _ _).alloc (Nat.le_refl _) _
      have hnr := (((hn.below hbel).mono hz).below hal).mono hal.size
      generalize (l.take k).filter (notIn news) = out at *
      cases hq : (notIn news) l[k] with
      | true =>
        have HV : Hid ((l.take (k + 1)).filter (notIn news) = out ++ [l[k]]) := by show _ = _; rw [HV.out, hq, if_pos rfl]
        have HQ := Lib.hid hq
        clear hq
        go_wp2_with fail
        refine (stays2_any l[k] news vn G _ HQ.out _ (hGr.alloc _) (by exact hnr) hnl (by omega)).mono ?_
        rintro e w1 ⟨rfl, hb1⟩
        have hZ1 := hZ.on hb1
        have hw1 := Bl.tr hal hb1
        have hown1 := own_below hown hw1
        have hz1 := hw1.size
        have d0 : w1.cell? ⟨wr.heap.size, 0, none⟩ = some (S l[k].n) := hZ1.cell 0
        have d1 : w1.cell? ⟨wr.heap.size, 1, none⟩ = some (S l[k].v) := hZ1.cell 1
        have d2 : w1.cell? ⟨wr.heap.size, 2, none⟩ = some (.bool l[k].m) := hZ1.cell 2
        go_wp2_with (at_builtin; refine wpList_appF rfl _ _ 49 rfl w.heap.size Tryz.underlying49 (by kernel_rfl) _ _ _ rfl hown1 rfl (by omega) (by omega) rfl ?_; intro a2 c2' w2 hown2 hb2 hz2)
        go_roundw
        case rel => exact ⟨k + 1, by go_num, by omega, by rw [HV.out, fcells_append, List.length_append]; exact hown2, (hbel.trans (hw1.mono hz)).trans hb2⟩
        case measure => simp [intOf]; omega
      | false =>
        have HV : Hid ((l.take (k + 1)).filter (notIn news) = out) := by show _ = _; rw [HV.out, hq]; simp
        have HQ := Lib.hid hq
        clear hq
        go_wp2_with fail
        refine (stays2_any l[k] news vn G _ HQ.out _ (hGr.alloc _) (by exact hnr) hnl (by omega)).mono ?_
        rintro e w1 ⟨rfl, hb1⟩
        have hw1 := Bl.tr hal hb1
        have hown1 := own_below hown hw1
        go_wp2
        go_roundw
        case rel => exact ⟨k + 1, by go_num, by omega, by rw [HV.out]; exact hown1, hbel.trans (hw1.mono hz)⟩
        case measure => simp [intOf]; omega
    · have hk' : k = l.length := by omega
      subst hk'
      rw [List.take_length] at *
      go_wp2
      go_ret
      exact ⟨_, rfl, hown, hbel⟩


end Go.Proofs.YtpbmmkonlboegaaGreatDoor
namespace Go.Proofs.YtpbmmkonlboegaaGreatDoor
open Go.RowKit Go.Dr

theorem fsum_news (l : List F) : fsum (newsOf l) ≤ fsum l := by
  unfold newsOf strip
  refine Nat.le_trans (fsum_filter _ _) (Nat.le_trans (fsum_filter _ _) (fsum_filter _ _))

/-- What a renewal gives: an answer whose lists are its own. -/
def RetRen (w : World) (key body : Bytes) (st a c : Int) (lp lf : List F) (e : Ending) (w' : World) : Prop :=
  ∃ vp vf, e = .returned (.agg #[S key, vp, .int .i64 st, vf, S body, .int .i64 a, .int .i64 c]) ∧ Fs w'.heap.size w' vp lp ∧ w'.ownsRow w.heap.size 37 3 vf lf.length (fcells lf) ∧ Below w.heap.size w w'

set_option maxRecDepth 100000 in
set_option maxHeartbeats 8000000 in
theorem Renewed_any (key body : Bytes) (vp vf vl : Value) (st asked came a c : Int) (lp le l : List F) (w : World) (hp : Fs w.heap.size w vp lp) (hf : Fs w.heap.size w vf le) (hl : Fs w.heap.size w vl l) (hls : fsum l ≤ 549755813888) (hes : fsum le ≤ 549755813888) (hps : lp.length * 40 ≤ 140737488351232) :
    Calls Tryz.prog 18 #[.agg #[S key, vp, .int .i64 st, vf, S body, .int .i64 asked, .int .i64 came], vl, .int .i64 a, .int .i64 c] w (RetRen w key body st a c lp (renewedF le l)) := by
  obtain ⟨pp, cp, rfl, hmp⟩ := hp.form
  obtain ⟨pf, cf, rfl, -⟩ := hf.form
  have hmf : ∀ (fn : Fn) (first cap : Array Value) (w : World), (Instr.makeFunc fn first cap).run Tryz.prog w = .ok (.func fn first cap) w := fun _ _ _ _ => rfl
  have hQ := Blk.new w 27 #[S key, .slice pp lp.length cp, .int .i64 st, .slice pf le.length cf, S body, .int .i64 asked, .int .i64 came]
  have hbx : Below w.heap.size w (w.alloc (.cells #[S key, .slice pp lp.length cp, .int .i64 st, .slice pf le.length cf, S body, .int .i64 asked, .int .i64 came] 27)) := (Below.refl _ _).alloc (Nat.le_refl _) _
  have hZ := Blk.new (w.alloc (.cells #[S key, .slice pp lp.length cp, .int .i64 st, .slice pf le.length cf, S body, .int .i64 asked, .int .i64 came] 27)) 27 #[S [], .slice none 0 0, .int .i64 0, .slice none 0 0, S [], .int .i64 0, .int .i64 0]
  have hsz : (w.alloc (.cells #[S key, .slice pp lp.length cp, .int .i64 st, .slice pf le.length cf, S body, .int .i64 asked, .int .i64 came] 27)).heap.size = w.heap.size + 1 := by simp
  rw [hsz] at hZ
  have hby := hbx.alloc hbx.size (.cells #[S [], .slice none 0 0, .int .i64 0, .slice none 0 0, S [], .int .i64 0, .int .i64 0] 27)
  have hQ1 := hQ.alloc (.cells #[S [], .slice none 0 0, .int .i64 0, .slice none 0 0, S [], .int .i64 0, .int .i64 0] 27)
  have hp1 := (hp.below hby).mono hby.size
  have hf1 := (hf.below hby).mono hby.size
  have hl1 := (hl.below hby).mono hby.size
  have hns := fsum_news l
  have hnf : fsum (strip l) ≤ fsum l := by unfold strip; exact Nat.le_trans (fsum_filter _ _) (fsum_filter _ _)
  clear hbx hQ hsz hf hl
  go_enter Tryz.func18, Tryz.ntmps18
  go_wp2_with fail
  generalize (w.alloc (.cells #[S key, .slice pp lp.length cp, .int .i64 st, .slice pf le.length cf, S body, .int .i64 asked, .int .i64 came] 27)).alloc (.cells #[S [], .slice none 0 0, .int .i64 0, .slice none 0 0, S [], .int .i64 0, .int .i64 0] 27) = w1 at *
  refine (Strip_any l vl w1 hl1 hls).mono ?_
  rintro e w2 ⟨v2, rfl, ho2, hb2⟩
  have hs2 := Fs.own ho2
  have hw2 := Bl.tr hby hb2
  have hQ2 := hQ1.on hb2
  have hZ2 := hZ.on hb2
  have hp2 := (hp1.below hb2).mono hb2.size
  have hf2 := (hf1.below hb2).mono hb2.size
  clear hby hQ1 hZ hp1 hf1 hl1 hb2 ho2
  go_wp2_with fail
  refine (onlyBody_any (strip l) v2 w2 hs2 (by omega)).mono ?_
  rintro e w3 ⟨v3, rfl, ho3, hb3⟩
  have HN : Hid (newsOf l = (strip l).filter notBody) := rfl
  rw [← HN.out] at ho3
  have hn3 := Fs.own ho3
  obtain ⟨pn, cn, rfl, hmn⟩ := hn3.form
  have hw3 := Bl.tr hw2 hb3
  have hQ3 := hQ2.on hb3
  have hZ3 := hZ2.on hb3
  have hp3 := (hp2.below hb3).mono hb3.size
  have hf3 := (hf2.below hb3).mono hb3.size
  have HR : Hid (renewedF le l = le.filter (notIn (newsOf l)) ++ newsOf l) := rfl
  clear hQ2 hZ2 hp2 hf2 hb3 hs2 hw2 ho3 HN hnf
  generalize newsOf l = news at *
  have hal : Below w3.heap.size w3 (w3.alloc (.cells #[.slice pn news.length cn] 49)) := (Below.refl _ _).alloc (Nat.le_refl _) _
  have hG := Dr.One.new w3 49 (.slice pn news.length cn)
  have hw4 := Bl.tr hw3 hal
  have hQ4 := hQ3.on hal
  have hZ4 := hZ3.on hal
  have hp4 := (hp3.below hal).mono hal.size
  have hf4 := (hf3.below hal).mono hal.size
  have hn4 := (hn3.below hal).mono hal.size
  have lQ := hQ3.lt
  have q3 := hQ3.cell 3
  simp at q3
  go_wp2_with fail
  clear hw3 hQ3 hZ3 hp3 hf3 hn3 hal lQ q3
  generalize w3.alloc (.cells #[.slice pn news.length cn] 49) = w4 at *
  generalize w3.heap.size = G at *
  refine (onlyNews_any le _ w4 hf4 (by omega) news _ G hG hn4 (by omega)).mono ?_
  rintro e w5 ⟨v5, rfl, ho5, hb5⟩
  have hw5 := Bl.tr hw4 hb5
  have hQ5 := hQ4.on hb5
  have hZ5 := hZ4.on hb5
  have hp5 := (hp4.below hb5).mono hb5.size
  have hn5 := (hn4.below hb5).mono hb5.size
  have hG5 := hG.below hb5 hG.lt
  have hz4 := hw4.size
  have hqw := hZ4.lt
  have h45 := hb5.size
  have ho5' : w5.ownsRow w4.heap.size 37 3 v5 (le.filter (notIn news)).length (fcells (le.filter (notIn news))) := ho5
  have hfo := fsum_filter le (notIn news)
  have hlo := fsum_length (le.filter (notIn news))
  have hln := fsum_length news
  clear hw4 hQ4 hZ4 hp4 hf4 hn4 hG hb5 ho5
  generalize le.filter (notIn news) = olds at *
  have gG := hG5.cell
  have lQ := hQ5.lt
  have lZ := hZ5.lt
  have lG := hG5.lt
  have fQ := hQ5.free
  have hw45 : w4.heap.size ≤ w5.heap.size := h45
  clear h45
  go_wp2_with (first
    | (at_builtin; refine wpList_appRd rfl _ _ 25 rfl w6.heap.size 90 (.agg #[.string ByteArray.empty, .string ByteArray.empty, .bool false]) 3 40 Tryz.underlying25 (by kernel_rfl) rfl (by decide) _ _ _ rfl (World.ownsRow_nil _ _ _ _) _ _ _ _ rfl (by exact hp7) (fcells_one _) (by unfold maxLen; omega) (by omega) (by simp [World.setCell]) ?_; intro a8 c8 w8 hown8 hb8; simp only [Nat.zero_add, List.nil_append] at hown8; have hQ8 := hQ7.below hb8 (by omega); have hZ8 := hZ7.below hb8 (by omega); have lQ8 := hQ8.lt; have lZ8 := hZ8.lt; have fQ8 := hQ8.free; have fZ8 := hZ8.free; have k0 : w8.cell? ⟨w.heap.size, 0, none⟩ = some (S key) := hQ8.cell 0; have k1 : w8.cell? ⟨w.heap.size, 1, none⟩ = some (.slice pp lp.length cp) := hQ8.cell 1; have k2 : w8.cell? ⟨w.heap.size, 2, none⟩ = some (.int .i64 st) := hQ8.cell 2; have k3 : w8.cell? ⟨w.heap.size, 3, none⟩ = some (.slice a6 (olds.length + news.length) c6) := hQ8.cell 3; have k4 : w8.cell? ⟨w.heap.size, 4, none⟩ = some (S body) := hQ8.cell 4; have k5 : w8.cell? ⟨w.heap.size, 5, none⟩ = some (.int .i64 asked) := hQ8.cell 5; have k6 : w8.cell? ⟨w.heap.size, 6, none⟩ = some (.int .i64 came) := hQ8.cell 6; have z0 : w8.cell? ⟨w.heap.size + 1, 0, none⟩ = some (S []) := hZ8.cell 0; have z1 : w8.cell? ⟨w.heap.size + 1, 1, none⟩ = some (.slice none 0 0) := hZ8.cell 1; have z2 : w8.cell? ⟨w.heap.size + 1, 2, none⟩ = some (.int .i64 0) := hZ8.cell 2; have z3 : w8.cell? ⟨w.heap.size + 1, 3, none⟩ = some (.slice none 0 0) := hZ8.cell 3; have z4 : w8.cell? ⟨w.heap.size + 1, 4, none⟩ = some (S []) := hZ8.cell 4; have z5 : w8.cell? ⟨w.heap.size + 1, 5, none⟩ = some (.int .i64 0) := hZ8.cell 5; have z6 : w8.cell? ⟨w.heap.size + 1, 6, none⟩ = some (.int .i64 0) := hZ8.cell 6; have hb8' : Below (w6.setCell ⟨w.heap.size, 3, none⟩ (.slice a6 (olds.length + news.length) c6)).heap.size (w6.setCell ⟨w.heap.size, 3, none⟩ (.slice a6 (olds.length + news.length) c6)) w8 := hb8.mono (by simp [World.setCell]); clear hb6tok)
    | (at_builtin; refine wpList_appRd rfl _ _ 49 rfl w4.heap.size 37 (.agg #[.string ByteArray.empty, .string ByteArray.empty, .bool false]) 3 40 Tryz.underlying49 (by kernel_rfl) rfl (by decide) _ _ _ rfl ho5' _ _ _ _ rfl hn5 (fcells_one _) (by unfold maxLen; omega) (by omega) (by omega) ?_; intro a6 c6 w6 hown6 hb6; have hb6tok := True.intro; have h56 := hb6.size; have hQ6 := hQ5.below hb6 (by omega); have hZ6 := hZ5.below hb6 hqw; have hQ7 := hQ6.set 3 (.slice a6 (olds.length + news.length) c6); have hZ7 := hZ6.other (p := ⟨w.heap.size, 3, none⟩) (by show w.heap.size + 1 ≠ w.heap.size; omega) (.slice a6 (olds.length + news.length) c6); have hW7 : Below w.heap.size w (w6.setCell ⟨w.heap.size, 3, none⟩ (.slice a6 (olds.length + news.length) c6)) := (hw5.trans (hb6.mono hz4)).setCell (Nat.le_refl _) _; have hp7 := hp.below hW7; have lQ6 := hQ6.lt; have lZ6 := hZ6.lt; have fQ6 := hQ6.free; have k0 : w6.cell? ⟨w.heap.size, 0, none⟩ = some (S key) := hQ6.cell 0; have k1 : w6.cell? ⟨w.heap.size, 1, none⟩ = some (.slice pp lp.length cp) := hQ6.cell 1; have k2 : w6.cell? ⟨w.heap.size, 2, none⟩ = some (.int .i64 st) := hQ6.cell 2; have k3 : w6.cell? ⟨w.heap.size, 3, none⟩ = some (.slice pf le.length cf) := hQ6.cell 3; have k4 : w6.cell? ⟨w.heap.size, 4, none⟩ = some (S body) := hQ6.cell 4; have k5 : w6.cell? ⟨w.heap.size, 5, none⟩ = some (.int .i64 asked) := hQ6.cell 5; have k6 : w6.cell? ⟨w.heap.size, 6, none⟩ = some (.int .i64 came) := hQ6.cell 6))
  have hne : w.heap.size + 1 ≠ w.heap.size := by omega
  have hZa := ((hZ8.other (p := ⟨w.heap.size, 1, none⟩) hne (.slice a8 lp.length c8)).other (p := ⟨w.heap.size, 5, none⟩) hne (.int .i64 a)).other (p := ⟨w.heap.size, 6, none⟩) hne (.int .i64 c)
  have hZf := (((((((hZa.set 0 (S key)).set 1 (.slice a8 lp.length c8)).set 2 (.int .i64 st)).set 3 (.slice a6 (olds.length + news.length) c6)).set 4 (S body)).set 5 (.int .i64 a)).set 6 (.int .i64 c))
  have f0 := hZf.cell 0
  have f1 := hZf.cell 1
  have f2 := hZf.cell 2
  have f3 := hZf.cell 3
  have f4 := hZf.cell 4
  have f5 := hZf.cell 5
  have f6 := hZf.cell 6
  simp at f0 f1 f2 f3 f4 f5 f6
  have hW8 := hW7.trans (hb8.mono (by omega))
  have hWf : Below w.heap.size w ((((((((((w8.setCell ⟨w.heap.size, 1, none⟩ (.slice a8 lp.length c8)).setCell ⟨w.heap.size, 5, none⟩ (.int .i64 a)).setCell ⟨w.heap.size, 6, none⟩ (.int .i64 c)).setCell ⟨w.heap.size + 1, 0, none⟩ (S key)).setCell ⟨w.heap.size + 1, 1, none⟩ (.slice a8 lp.length c8)).setCell ⟨w.heap.size + 1, 2, none⟩ (.int .i64 st)).setCell ⟨w.heap.size + 1, 3, none⟩ (.slice a6 (olds.length + news.length) c6)).setCell ⟨w.heap.size + 1, 4, none⟩ (S body)).setCell ⟨w.heap.size + 1, 5, none⟩ (.int .i64 a)).setCell ⟨w.heap.size + 1, 6, none⟩ (.int .i64 c)) := by
    refine Below.setCell ?_ (by dsimp only; omega) _
    refine Below.setCell ?_ (by dsimp only; omega) _
    refine Below.setCell ?_ (by dsimp only; omega) _
    refine Below.setCell ?_ (by dsimp only; omega) _
    refine Below.setCell ?_ (by dsimp only; omega) _
    refine Below.setCell ?_ (by dsimp only; omega) _
    refine Below.setCell ?_ (by dsimp only; omega) _
    refine Below.setCell ?_ (by dsimp only; omega) _
    refine Below.setCell ?_ (by dsimp only; omega) _
    refine Below.setCell ?_ (by dsimp only; omega) _
    exact hW8
  have hPf : ((((((((((w8.setCell ⟨w.heap.size, 1, none⟩ (.slice a8 lp.length c8)).setCell ⟨w.heap.size, 5, none⟩ (.int .i64 a)).setCell ⟨w.heap.size, 6, none⟩ (.int .i64 c)).setCell ⟨w.heap.size + 1, 0, none⟩ (S key)).setCell ⟨w.heap.size + 1, 1, none⟩ (.slice a8 lp.length c8)).setCell ⟨w.heap.size + 1, 2, none⟩ (.int .i64 st)).setCell ⟨w.heap.size + 1, 3, none⟩ (.slice a6 (olds.length + news.length) c6)).setCell ⟨w.heap.size + 1, 4, none⟩ (S body)).setCell ⟨w.heap.size + 1, 5, none⟩ (.int .i64 a)).setCell ⟨w.heap.size + 1, 6, none⟩ (.int .i64 c)).ownsRow w6.heap.size 90 3 (.slice a8 lp.length c8) lp.length (fcells lp) := by
    refine ownsRow_setCell_below ?_ (by dsimp only; omega) _
    refine ownsRow_setCell_below ?_ (by dsimp only; omega) _
    refine ownsRow_setCell_below ?_ (by dsimp only; omega) _
    refine ownsRow_setCell_below ?_ (by dsimp only; omega) _
    refine ownsRow_setCell_below ?_ (by dsimp only; omega) _
    refine ownsRow_setCell_below ?_ (by dsimp only; omega) _
    refine ownsRow_setCell_below ?_ (by dsimp only; omega) _
    refine ownsRow_setCell_below ?_ (by dsimp only; omega) _
    refine ownsRow_setCell_below ?_ (by dsimp only; omega) _
    refine ownsRow_setCell_below ?_ (by dsimp only; omega) _
    exact hown8
  have hown8' : w8.ownsRow w4.heap.size 37 3 (.slice a6 (olds.length + news.length) c6) (olds.length + news.length) (fcells olds ++ fcells news) := by
    refine own_below ?_ hb8'
    exact ownsRow_setCell_below hown6 (by show w.heap.size < w4.heap.size; omega) _
  have hFf : ((((((((((w8.setCell ⟨w.heap.size, 1, none⟩ (.slice a8 lp.length c8)).setCell ⟨w.heap.size, 5, none⟩ (.int .i64 a)).setCell ⟨w.heap.size, 6, none⟩ (.int .i64 c)).setCell ⟨w.heap.size + 1, 0, none⟩ (S key)).setCell ⟨w.heap.size + 1, 1, none⟩ (.slice a8 lp.length c8)).setCell ⟨w.heap.size + 1, 2, none⟩ (.int .i64 st)).setCell ⟨w.heap.size + 1, 3, none⟩ (.slice a6 (olds.length + news.length) c6)).setCell ⟨w.heap.size + 1, 4, none⟩ (S body)).setCell ⟨w.heap.size + 1, 5, none⟩ (.int .i64 a)).setCell ⟨w.heap.size + 1, 6, none⟩ (.int .i64 c)).ownsRow w4.heap.size 37 3 (.slice a6 (olds.length + news.length) c6) (olds.length + news.length) (fcells olds ++ fcells news) := by
    refine ownsRow_setCell_below ?_ (by dsimp only; omega) _
    refine ownsRow_setCell_below ?_ (by dsimp only; omega) _
    refine ownsRow_setCell_below ?_ (by dsimp only; omega) _
    refine ownsRow_setCell_below ?_ (by dsimp only; omega) _
    refine ownsRow_setCell_below ?_ (by dsimp only; omega) _
    refine ownsRow_setCell_below ?_ (by dsimp only; omega) _
    refine ownsRow_setCell_below ?_ (by dsimp only; omega) _
    refine ownsRow_setCell_below ?_ (by dsimp only; omega) _
    refine ownsRow_setCell_below ?_ (by dsimp only; omega) _
    refine ownsRow_setCell_below ?_ (by dsimp only; omega) _
    exact hown8'
  clear hZf hZa hQ8 hZ8 hown8 hown8' hW8 hb8 hb8' hQ5 hZ5 hQ6 hZ6 hQ7 hZ7 hp7 hW7 fQ8 fZ8 k0 k1 k2 k3 k4 k5 k6 z0 z1 z2 z3 z4 z5 z6
  generalize ((((((((((w8.setCell ⟨w.heap.size, 1, none⟩ (.slice a8 lp.length c8)).setCell ⟨w.heap.size, 5, none⟩ (.int .i64 a)).setCell ⟨w.heap.size, 6, none⟩ (.int .i64 c)).setCell ⟨w.heap.size + 1, 0, none⟩ (S key)).setCell ⟨w.heap.size + 1, 1, none⟩ (.slice a8 lp.length c8)).setCell ⟨w.heap.size + 1, 2, none⟩ (.int .i64 st)).setCell ⟨w.heap.size + 1, 3, none⟩ (.slice a6 (olds.length + news.length) c6)).setCell ⟨w.heap.size + 1, 4, none⟩ (S body)).setCell ⟨w.heap.size + 1, 5, none⟩ (.int .i64 a)).setCell ⟨w.heap.size + 1, 6, none⟩ (.int .i64 c)) = wf at *
  refine bodyPost_ret (v := .agg #[S key, .slice a8 lp.length c8, .int .i64 st, .slice a6 (olds.length + news.length) c6, S body, .int .i64 a, .int .i64 c]) (by simp [results, Tryz.results18, go_sem, f0, f1, f2, f3, f4, f5, f6]) rfl ⟨(.slice a8 lp.length c8), (.slice a6 (olds.length + news.length) c6), rfl, Rd.own hPf, ?_, hWf⟩
  rw [HR.out, List.length_append, fcells_append]
  exact own_base hFf hz4
end Go.Proofs.YtpbmmkonlboegaaGreatDoor
namespace Go.Proofs.YtpbmmkonlboegaaGreatDoor
open Go.RowKit Go.Dr

theorem ssum_names (l : List F) : ssum (l.map F.n) ≤ fsum l := by
  induction l with
  | nil => simp [ssum]
  | cons f l ih => simp only [List.map_cons, ssum_cons, fsum, List.sum_cons] at *; omega

end Go.Proofs.YtpbmmkonlboegaaGreatDoor
namespace Go.Dr
open Go.RowKit
/-- A row of the call's own may be written over, cell by cell. -/
theorem own_poke {w : World} {base : Nat} {e : TypeId} {size : Nat} {v : Value} {n : Nat} {xs : List Value} (h : w.ownsRow base e size v n xs) (hn : 0 < n) :
    ∃ g cap, v = .slice (some ⟨g, 0, none⟩) n cap ∧ base ≤ g ∧ g < w.heap.size ∧ n ≤ cap ∧ ∀ j, j < n * size → (∃ u, w.cell? ⟨g, j, none⟩ = some u) ∧ w.frozen? ⟨g, j, none⟩ = false ∧ ∀ u, ∃ xs', (w.setCell ⟨g, j, none⟩ u).ownsRow base e size v n xs' := by
  rcases h.2 with ⟨_, h0⟩ | ⟨g, cap, cur, rfl, hb, hg, h1, h2, h3, h4⟩
  · omega
  · have hle := Nat.mul_le_mul_right size h1
    refine ⟨g, cap, rfl, hb, (Array.getElem?_eq_some_iff.1 hg).1, h1, fun j hj => ⟨⟨cur[j]'(by omega), ?_⟩, ?_, fun u => ⟨((cur.setIfInBounds j u).toList.take (n * size)), ?_⟩⟩⟩
    · rw [cell_of_row w g j cur e (0, 0) hg]
      exact Array.getElem?_eq_getElem (by omega)
    · simp [World.frozen?, hg]
    · refine ⟨by simp; omega, .inr ⟨g, cap, cur.setIfInBounds j u, rfl, hb, ?_, h1, h2, by simpa using h3, rfl⟩⟩
      simp only [World.setCell, Array.getElem?_modify, if_true, hg]
      simp
end Go.Dr
namespace Go.Proofs.YtpbmmkonlboegaaGreatDoor
open Go.RowKit Go.Dr

theorem PSame_at20 (a : List F) (va vb : Value) (w : World) (ha : Fs w.heap.size w va a) (hb : Fs w.heap.size w vb a) :
    Calls Tryz.prog 50 #[va, vb] w fun e w' => e = .returned (.bool true) ∧ Below w.heap.size w w' :=
  (PSame_any a a va vb w ha hb).mono fun _ _ ⟨h1, h2⟩ => ⟨by rw [h1, beq_self_eq_true], h2⟩
theorem Fields_at20 (a : List F) (va vb : Value) (w : World) (ha : Fs w.heap.size w va a) (hb : Fs w.heap.size w vb a) :
    Calls Tryz.prog 13 #[va, vb] w fun e w' => e = .returned (.bool true) ∧ Below w.heap.size w w' :=
  (Fields_any a a va vb w ha hb).mono fun _ _ ⟨h1, h2⟩ => ⟨by rw [h1, beq_self_eq_true], h2⟩

set_option maxRecDepth 100000 in
set_option maxHeartbeats 4000000 in
theorem EntSame_at (key body : Bytes) (st a c : Int) (lp lf : List F) (vp1 vf1 vp2 vf2 : Value) (w : World) (hp1 : Fs w.heap.size w vp1 lp) (hf1 : Fs w.heap.size w vf1 lf) (hp2 : Fs w.heap.size w vp2 lp) (hf2 : Fs w.heap.size w vf2 lf) :
    Calls Tryz.prog 19 #[.agg #[S key, vp1, .int .i64 st, vf1, S body, .int .i64 a, .int .i64 c], .agg #[S key, vp2, .int .i64 st, vf2, S body, .int .i64 a, .int .i64 c]] w fun e w' => e = .returned (.bool true) ∧ Below w.heap.size w w' := by
  obtain ⟨p1, k1, rfl, -⟩ := hp1.form
  obtain ⟨f1, m1, rfl, -⟩ := hf1.form
  obtain ⟨p2, k2, rfl, -⟩ := hp2.form
  obtain ⟨f2, m2, rfl, -⟩ := hf2.form
  have hA := Blk.new w 27 #[S key, .slice p1 lp.length k1, .int .i64 st, .slice f1 lf.length m1, S body, .int .i64 a, .int .i64 c]
  have hbx : Below w.heap.size w (w.alloc (.cells #[S key, .slice p1 lp.length k1, .int .i64 st, .slice f1 lf.length m1, S body, .int .i64 a, .int .i64 c] 27)) := (Below.refl _ _).alloc (Nat.le_refl _) _
  have hB := Blk.new (w.alloc (.cells #[S key, .slice p1 lp.length k1, .int .i64 st, .slice f1 lf.length m1, S body, .int .i64 a, .int .i64 c] 27)) 27 #[S key, .slice p2 lp.length k2, .int .i64 st, .slice f2 lf.length m2, S body, .int .i64 a, .int .i64 c]
  have hsz : (w.alloc (.cells #[S key, .slice p1 lp.length k1, .int .i64 st, .slice f1 lf.length m1, S body, .int .i64 a, .int .i64 c] 27)).heap.size = w.heap.size + 1 := by simp
  rw [hsz] at hB
  have hby := hbx.alloc hbx.size (.cells #[S key, .slice p2 lp.length k2, .int .i64 st, .slice f2 lf.length m2, S body, .int .i64 a, .int .i64 c] 27)
  have hA1 := hA.alloc (.cells #[S key, .slice p2 lp.length k2, .int .i64 st, .slice f2 lf.length m2, S body, .int .i64 a, .int .i64 c] 27)
  have hp1' := (hp1.below hby).mono hby.size
  have hp2' := (hp2.below hby).mono hby.size
  have hf1' := (hf1.below hby).mono hby.size
  have hf2' := (hf2.below hby).mono hby.size
  clear hbx hA hsz hp1 hf1 hp2 hf2
  go_enter Tryz.func19, Tryz.ntmps19
  go_wp2_with fail
  generalize (w.alloc (.cells #[S key, .slice p1 lp.length k1, .int .i64 st, .slice f1 lf.length m1, S body, .int .i64 a, .int .i64 c] 27)).alloc (.cells #[S key, .slice p2 lp.length k2, .int .i64 st, .slice f2 lf.length m2, S body, .int .i64 a, .int .i64 c] 27) = w1 at *
  refine (PSame_at20 lp _ _ w1 hp1' hp2').mono ?_
  rintro e w2 ⟨rfl, hb2⟩
  have hw2 := Bl.tr hby hb2
  have hA2 := hA1.on hb2
  have hB2 := hB.on hb2
  have g1 := (hf1'.below hb2).mono hb2.size
  have g2 := (hf2'.below hb2).mono hb2.size
  clear hby hA1 hB hp1' hp2' hf1' hf2' hb2
  have x0 : w2.cell? ⟨w.heap.size, 0, none⟩ = some (S key) := hA2.cell 0
  have x1 : w2.cell? ⟨w.heap.size, 1, none⟩ = some (.slice p1 lp.length k1) := hA2.cell 1
  have x2 : w2.cell? ⟨w.heap.size, 2, none⟩ = some (.int .i64 st) := hA2.cell 2
  have x3 : w2.cell? ⟨w.heap.size, 3, none⟩ = some (.slice f1 lf.length m1) := hA2.cell 3
  have x4 : w2.cell? ⟨w.heap.size, 4, none⟩ = some (S body) := hA2.cell 4
  have x5 : w2.cell? ⟨w.heap.size, 5, none⟩ = some (.int .i64 a) := hA2.cell 5
  have x6 : w2.cell? ⟨w.heap.size, 6, none⟩ = some (.int .i64 c) := hA2.cell 6
  have y0 : w2.cell? ⟨w.heap.size + 1, 0, none⟩ = some (S key) := hB2.cell 0
  have y1 : w2.cell? ⟨w.heap.size + 1, 1, none⟩ = some (.slice p2 lp.length k2) := hB2.cell 1
  have y2 : w2.cell? ⟨w.heap.size + 1, 2, none⟩ = some (.int .i64 st) := hB2.cell 2
  have y3 : w2.cell? ⟨w.heap.size + 1, 3, none⟩ = some (.slice f2 lf.length m2) := hB2.cell 3
  have y4 : w2.cell? ⟨w.heap.size + 1, 4, none⟩ = some (S body) := hB2.cell 4
  have y5 : w2.cell? ⟨w.heap.size + 1, 5, none⟩ = some (.int .i64 a) := hB2.cell 5
  have y6 : w2.cell? ⟨w.heap.size + 1, 6, none⟩ = some (.int .i64 c) := hB2.cell 6
  go_wp2_with fail
  refine (Fields_at20 lf _ _ w2 g1 g2).mono ?_
  rintro e w3 ⟨rfl, hb3⟩
  have hw3 := Bl.tr hw2 hb3
  have hA3 := hA2.on hb3
  have hB3 := hB2.on hb3
  clear hw2 hA2 hB2 g1 g2 hb3 x0 x1 x2 x3 x4 x5 x6 y0 y1 y2 y3 y4 y5 y6
  have x0 : w3.cell? ⟨w.heap.size, 0, none⟩ = some (S key) := hA3.cell 0
  have x1 : w3.cell? ⟨w.heap.size, 1, none⟩ = some (.slice p1 lp.length k1) := hA3.cell 1
  have x2 : w3.cell? ⟨w.heap.size, 2, none⟩ = some (.int .i64 st) := hA3.cell 2
  have x3 : w3.cell? ⟨w.heap.size, 3, none⟩ = some (.slice f1 lf.length m1) := hA3.cell 3
  have x4 : w3.cell? ⟨w.heap.size, 4, none⟩ = some (S body) := hA3.cell 4
  have x5 : w3.cell? ⟨w.heap.size, 5, none⟩ = some (.int .i64 a) := hA3.cell 5
  have x6 : w3.cell? ⟨w.heap.size, 6, none⟩ = some (.int .i64 c) := hA3.cell 6
  have y0 : w3.cell? ⟨w.heap.size + 1, 0, none⟩ = some (S key) := hB3.cell 0
  have y1 : w3.cell? ⟨w.heap.size + 1, 1, none⟩ = some (.slice p2 lp.length k2) := hB3.cell 1
  have y2 : w3.cell? ⟨w.heap.size + 1, 2, none⟩ = some (.int .i64 st) := hB3.cell 2
  have y3 : w3.cell? ⟨w.heap.size + 1, 3, none⟩ = some (.slice f2 lf.length m2) := hB3.cell 3
  have y4 : w3.cell? ⟨w.heap.size + 1, 4, none⟩ = some (S body) := hB3.cell 4
  have y5 : w3.cell? ⟨w.heap.size + 1, 5, none⟩ = some (.int .i64 a) := hB3.cell 5
  have y6 : w3.cell? ⟨w.heap.size + 1, 6, none⟩ = some (.int .i64 c) := hB3.cell 6
  go_wp2
  go_ret
  exact ⟨rfl, hw3⟩
end Go.Proofs.YtpbmmkonlboegaaGreatDoor
