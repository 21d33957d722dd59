/- Parts of the proof of DealDecides_holds: the texts Shj Rf19 Rs1. -/
import Derived.Test.YtahapblgmehngaaGreatDoorE20
set_option linter.unusedSimpArgs false
set_option linter.unusedVariables false
set_option linter.unnecessarySimpa false
set_option maxRecDepth 100000
set_option maxHeartbeats 64000000
namespace Go.Proofs.YtahapblgmehngaaGreatDoor
open Go.RowKit Go.Dr
def fits19 (key : Bytes) (list : List F) (x : It) : Bool := x.key == key && matchP x.lp list
def bestAt (key : Bytes) (list : List F) : List It → Option Nat
 | [] => none
 | x :: l => match bestAt key list l with
  | none => if fits19 key list x then some 0 else none
  | some j => if fits19 key list x && decide ((l[j]?.map It.came).getD 0 < x.came) then some 0 else some (j + 1)
theorem bestAt_lt {key : Bytes} {list : List F} : ∀ {l : List It} {j : Nat}, bestAt key list l = some j → j < l.length
  | [], j, h => by simp [bestAt] at h
  | x :: l, j, h => by
    unfold bestAt at h
    split at h
    · split at h
      · simp only [Option.some.injEq] at h;subst h;simp
      · simp at h
    · rename_i k hk
      have := bestAt_lt hk
      split at h
      · simp only [Option.some.injEq] at h;subst h;simp
      · simp only [Option.some.injEq] at h;subst h;simpa using this
def over (b : Option Nd) (o : Option Nd) : Option Nd := match o with
 | none => b
 | some n => match b with
  | none => some n
  | some m => if m.x.came ≤ n.x.came then some n else some m
theorem fold_best (key : Bytes) (list : List F) : ∀ (l : List Nd) (b : Option Nd), l.foldl (better key list) b = over b ((bestAt key list (l.map Nd.x)).bind (l[·]?))
  | [], b => by simp [bestAt, over]
  | n :: l, b => by
    rw [List.foldl_cons, fold_best key list l, List.map_cons]
    conv => rhs;unfold bestAt
    cases hb : bestAt key list (l.map Nd.x) with
    | none =>
      show over (better key list b n) none = _
      by_cases hf : fits19 key list n.x = true
      · rw [if_pos hf]
        unfold fits19 at hf;rw [Bool.and_eq_true] at hf
        cases b with
        | none => simp [over, better, takes, hf.1, hf.2]
        | some m =>
          by_cases hc : m.x.came ≤ n.x.came <;> simp [over, better, takes, hf.1, hf.2, hc]
      · rw [if_neg hf]
        have : takes key list b n = false := by
          unfold takes;unfold fits19 at hf
          cases h1 : n.x.key == key <;> cases h2 : matchP n.x.lp list <;> simp_all
        simp [over, better, this]
    | some j =>
      have hj := bestAt_lt hb;rw [List.length_map] at hj;have e1 : (some j).bind (fun k => l[k]?) = some l[j] := (by simp [List.getElem?_eq_getElem hj]);have e2 : (Option.map It.came (l.map Nd.x)[j]?).getD 0 = l[j].x.came := (by simp [List.getElem?_eq_getElem hj]);simp only;rw [e1, e2];generalize hx : l[j] = y;have e3 : (n :: l)[j + 1]? = some y := (by rw [List.getElem?_cons_succ, List.getElem?_eq_getElem hj, hx]);by_cases hf : fits19 key list n.x = true
      · have hf' := hf
        unfold fits19 at hf';rw [Bool.and_eq_true] at hf';by_cases hc : y.x.came < n.x.came
        · rw [if_pos (by simp [hf, hc])]
          cases b with
          | none => simp [over, better, takes, hf'.1, hf'.2];omega
          | some m =>
            by_cases hm : m.x.came ≤ n.x.came
            · simp [over, better, takes, hf'.1, hf'.2, hm];omega
            · simp [over, better, takes, hf'.1, hf'.2, hm];omega
        · rw [if_neg (by simp [hf];omega), Option.bind_some, e3]
          cases b with
          | none => simp [over, better, takes, hf'.1, hf'.2];omega
          | some m =>
            by_cases hm : m.x.came ≤ n.x.came
            · simp [over, better, takes, hf'.1, hf'.2, hm]
              rw [if_pos (by omega), if_pos (by omega)]
            · simp [over, better, takes, hf'.1, hf'.2, hm]
      · rw [if_neg (by simp [hf]), Option.bind_some, e3]
        have : takes key list b n = false := by
          unfold takes;unfold fits19 at hf
          cases h1 : n.x.key == key <;> cases h2 : matchP n.x.lp list <;> simp_all
        simp [over, better, this]
theorem bestOf_at (key : Bytes) (list : List F) (l : List Nd) : bestOf key list l = (bestAt key list (l.map Nd.x)).bind (l[·]?) := by
 unfold bestOf;rw [fold_best]
 cases (bestAt key list (l.map Nd.x)).bind (l[·]?) <;> rfl
theorem join_filter {er : List Ev} {l : List Nd} (h : er.map Ev.x = l.map Nd.x) (p : It → Bool) : (er.filter (fun e => p e.x)).map Ev.x = (l.filter (fun n => p n.x)).map Nd.x := by
 have h1 : (er.map Ev.x).filter p = (er.filter (fun e => p e.x)).map Ev.x := (by rw [List.filter_map];rfl);have h2 : (l.map Nd.x).filter p = (l.filter (fun n => p n.x)).map Nd.x := (by rw [List.filter_map];rfl);rw [← h1, ← h2, h]
theorem join_len {er : List Ev} {l : List Nd} (h : er.map Ev.x = l.map Nd.x) : er.length = l.length := by
 have := congrArg List.length h
 simpa using this
theorem join_get {er : List Ev} {l : List Nd} (h : er.map Ev.x = l.map Nd.x) (k : Nat) (hk : k < er.length) (hk' : k < l.length) : er[k].x = l[k].x := by
 have h1 : (er.map Ev.x)[k]? = (l.map Nd.x)[k]? := (by rw [h]);rw [List.getElem?_map, List.getElem?_map, List.getElem?_eq_getElem hk, List.getElem?_eq_getElem hk'] at h1;simpa using h1
theorem join_split {er : List Ev} {a b : List Nd} {n : Nd} (h : er.map Ev.x = (a ++ n :: b).map Nd.x) : ∃ hk : a.length < er.length, er[a.length].x = n.x ∧ (er.take a.length).map Ev.x = a.map Nd.x ∧ (er.drop (a.length + 1)).map Ev.x = b.map Nd.x := by
 have hl := join_len h;have hk : a.length < er.length := (by rw [hl];simp);refine ⟨hk, ?_, ?_, ?_⟩
 ·rw [join_get h a.length hk (by simp)]
  simp
 ·rw [List.map_take, h, ← List.map_take]
  simp
 ·rw [List.map_drop, h, ← List.map_drop]
  congr 1
  rw [show a ++ n :: b = (a ++ [n]) ++ b from by simp, List.drop_left' (by simp)]
theorem join_out {er : List Ev} {a b : List Nd} {n : Nd} (h : er.map Ev.x = (a ++ n :: b).map Nd.x) : (er.take a.length ++ er.drop (a.length + 1)).map Ev.x = (a ++ b).map Nd.x := by
 obtain ⟨hk, -, h1, h2⟩ := join_split h;rw [List.map_append, List.map_append, h1, h2]
theorem join_none {er : List Ev} {l : List Nd} {i : Int} (h : er.map Ev.x = l.map Nd.x) (hl : ∀ n ∈ l, n.x.id ≠ i) : ∀ e ∈ er, e.x.id ≠ i := by
 intro e he hi;have : e.x ∈ l.map Nd.x := (by rw [← h];exact List.mem_map_of_mem he)
 obtain ⟨y, hy, e'⟩ := List.mem_map.1 this;exact hl y hy (by rw [e'];exact hi)
theorem join_best {er : List Ev} {a b : List Nd} {n : Nd} {key : Bytes} {list : List F} (h : er.map Ev.x = (a ++ n :: b).map Nd.x) (hid : ((a ++ n :: b).map fun n => n.x.id).Nodup) (hb : bestOf key list (a ++ n :: b) = some n) : bestAt key list (er.map Ev.x) = some a.length := by
 rw [bestOf_at, ← h] at hb
 cases hj : bestAt key list (er.map Ev.x) with
 | none => rw [hj] at hb;simp at hb
 | some j =>
  rw [hj, Option.bind_some] at hb;obtain ⟨hj1, hj2⟩ := List.getElem?_eq_some_iff.1 hb;have h1 : ((a ++ n :: b).map fun n => n.x.id)[j]'(by simpa using hj1) = n.x.id := (by simp only [List.getElem_map];rw [hj2]);have h2 : ((a ++ n :: b).map fun n => n.x.id)[a.length]'(by simp) = n.x.id := (by simp);have hp := List.pairwise_iff_getElem.1 hid
  rcases Nat.lt_trichotomy j a.length with hlt | he | hlt
  ·exact absurd (h1.trans h2.symm) (hp j a.length (by simpa using hj1) (by simp) hlt)
  ·rw [he]
  ·exact absurd (h2.trans h1.symm) (hp a.length j (by simp) (by simpa using hj1) hlt)
theorem join_lost {er : List Ev} {l : List Nd} {key : Bytes} {list : List F} (h : er.map Ev.x = l.map Nd.x) (hb : bestOf key list l = none) : bestAt key list (er.map Ev.x) = none := by
 rw [bestOf_at, ← h] at hb
 cases hj : bestAt key list (er.map Ev.x) with
 | none => rfl
 | some j =>
  exfalso
  have := bestAt_lt hj
  rw [h, List.length_map] at this;rw [hj, Option.bind_some, List.getElem?_eq_getElem this] at hb
  cases hb
structure Two (w : World) (R r : Nat) (M : Nat) (last : Int) (v : Value) (er : List Ev) (l : List Nd) : Prop where
 sh : Sh R R w (R + 2) R (R + 1) (M : Int) last l
 rs : Rs R w r (M : Int) last v er
 eq : er.map Ev.x = l.map Nd.x
theorem Two.below {w w' : World} {R r M : Nat} {last : Int} {v : Value} {er : List Ev} {l : List Nd} (h : Two w R r M last v er l) (hb : Below w.heap.size w w') : Two w' R r M last v er l := ⟨h.sh.below hb, h.rs.below hb, h.eq⟩
end Go.Proofs.YtahapblgmehngaaGreatDoor
namespace Go.Dr
open Go.RowKit
theorem fbytes_small (l : List F) (h : fsum l ≤ 1048576) : fbytes l = fsum l := by
 have : ∀ (l : List F) (n : Nat), n + fsum l ≤ 1048576 → l.foldl fbStep n = n + fsum l := by
  intro l
  induction l with
  | nil => intro n _;simp [fsum]
  | cons f l ih =>
   intro n hn;have e : fsum (f :: l) = f.n.length + f.v.length + 32 + fsum l := (by simp [fsum]);rw [e] at hn ⊢;have e2 : fbStep n f = n + f.n.length + f.v.length + 32 := (by unfold fbStep;rw [if_pos (by omega)]);rw [List.foldl_cons, e2, ih _ (by omega)];omega
 have := this l 0 (by omega)
 unfold fbytes;omega
end Go.Dr
namespace Go.Proofs.YtahapblgmehngaaGreatDoor
open Go.RowKit Go.Dr
theorem refCost_any (q : En) (lp lf : List F) (w : World) (hp : Fs w.heap.size w q.vp lp) (hf : Fs w.heap.size w q.vf lf) (hk : q.key.length ≤ 1099511627776) (hb : q.body.length ≤ 1099511627776) (hl : fsum lp ≤ 1099511627776) (hl2 : fsum lf ≤ 1048576) :
  Calls Tryz.prog 21 #[q.val] w fun e w' => e = .returned (.int .i64 (costF q lp lf : Nat)) ∧ Below w.heap.size w w' := by
 obtain ⟨pf, cf, hfv, -⟩ := hf.form;obtain ⟨pp, cp, hpv, -⟩ := hp.form;obtain ⟨key, vp, st, vf, body, asked, came⟩ := q;simp only at hfv hpv hf hp hk hb;subst hfv hpv;have HC : Hid (costF ⟨key, .slice pp lp.length cp, st, .slice pf lf.length cf, body, asked, came⟩ lp lf = 64 + key.length + body.length + fsum lf + fsum lp) := rfl;simp only [En.val];generalize costF ⟨key, .slice pp lp.length cp, st, .slice pf lf.length cf, body, asked, came⟩ lp lf = C at *;obtain ⟨w0, ew⟩ : ∃ w0 : World, w0 = w.alloc (.cells #[S key, .slice pp lp.length cp, .int .i64 st, .slice pf lf.length cf, S body, .int .i64 asked, .int .i64 came] 36) := ⟨_, rfl⟩;have hQ0 : Blk w0 w.heap.size 36 #[S key, .slice pp lp.length cp, .int .i64 st, .slice pf lf.length cf, S body, .int .i64 asked, .int .i64 came] := (by rw [ew];exact Blk.new _ _ _);have hb0 : Below w.heap.size w w0 := (by rw [ew];exact (Below.refl _ _).alloc (Nat.le_refl _) _);have hf0 := (hf.below hb0).mono hb0.size;have hp0 := (hp.below hb0).mono hb0.size;have y0 : w0.cell? ⟨w.heap.size, 0, none⟩ = some (S key) := hQ0.cell 0;have y3 : w0.cell? ⟨w.heap.size, 3, none⟩ = some (.slice pf lf.length cf) := hQ0.cell 3;have y4 : w0.cell? ⟨w.heap.size, 4, none⟩ = some (S body) := hQ0.cell 4;have hfb : ∀ f ∈ lf, f.n.length ≤ 140737488355328 ∧ f.v.length ≤ 140737488355328 := fun f hm => by have := fsum_mem hm;omega
 have HF : Hid (∀ w, Fs w.heap.size w (.slice pf lf.length cf) lf → Calls Tryz.prog 29 #[.slice pf lf.length cf] w fun e w' => e = .returned (.int .i64 (fsum lf : Nat)) ∧ Below w.heap.size w w') := fun w h => by
  have := FBytes_any lf (.slice pf lf.length cf) w h hfb
  rwa [fbytes_small lf hl2] at this
 have HFd := Lib.hid (show Fs w0.drew.heap.size w0.drew (.slice pf lf.length cf) lf from hf0);have HQ := Lib.hid hQ0;obtain ⟨sf, esf⟩ : ∃ sf, sf = fsum lf := ⟨_, rfl⟩;rw [← esf] at HC HF hl2;clear esf;go_enter Tryz.func21, Tryz.ntmps21
 go_upto_region 1 with fail;rw [← ew];clear ew hf hp hfb
 go_region_held3 (fun wx => wx.cell? ⟨w.heap.size, 0, none⟩ = some (S key) ∧ wx.cell? ⟨w.heap.size, 3, none⟩ = some (.slice pf lf.length cf) ∧ wx.cell? ⟨w.heap.size, 4, none⟩ = some (S body))
  (first | go_keep)
  ((go_at_call 29;(with_reducible refine (HF.out w0.drew HFd.out).mono ?_);rintro e w2 ⟨rfl, hb2⟩;replace hb2 := Bl.undrew hb2;have hQ2 := HQ.out.on hb2;have z0 : w2.cell? ⟨w.heap.size, 0, none⟩ = some (S key) := hQ2.cell 0;have z3 : w2.cell? ⟨w.heap.size, 3, none⟩ = some (.slice pf lf.length cf) := hQ2.cell 3;have z4 : w2.cell? ⟨w.heap.size, 4, none⟩ = some (S body) := hQ2.cell 4;have hp2 := (hp0.below hb2).mono hb2.size;have hw2 := Bl.tr hb0 hb2))
 all_goals
  have y1 : w2.cell? ⟨w.heap.size, 1, none⟩ = some (.slice pp lp.length cp) := hQ2.cell 1
  have e1 : IntKind.i64.wrap (IntKind.i64.wrap (IntKind.i64.wrap (64 + (key.length : Int)) + (body.length : Int)) + (sf : Int)) = ((64 + key.length + body.length + sf : Nat) : Int) := by
   rw [IntWalk.i64_in (64 + (key.length : Int)) (by omega), IntWalk.i64_in (64 + (key.length : Int) + (body.length : Int)) (by omega), IntWalk.i64_in _ (by omega)];omega
  try rw [e1]
  clear e1;obtain ⟨T, eT⟩ : ∃ T, T = 64 + key.length + body.length + sf := ⟨_, rfl⟩;rw [← eT];have HT := Lib.hid eT;have hT : T ≤ 3298535932416 := (by omega);clear eT;have hln := fsum_length lp;go_wp2
  go_loopw [3, 4] (fun n i wr => ∃ k : Nat, i = .int .i64 k ∧ k ≤ lp.length ∧ n = .int .i64 ((T + fsum (lp.take k) : Nat) : Int) ∧ Below w2.heap.size w2 wr) (fun _ i _ => lp.length - (intOf i).toNat)
  case atStart => exact ⟨0, rfl, Nat.zero_le _, by simp [fsum], Below.refl _ _⟩
  case round =>
   obtain ⟨k, rfl, hk', rfl, hbel⟩ := hrel;have hbd := fsum_take lp k;have k1 : wr.cell? ⟨w.heap.size, 1, none⟩ = some (.slice pp lp.length cp) := (hQ2.on hbel).cell 1;by_cases hlt : k < lp.length
   ·obtain ⟨b, off, rfl, hbb, c0, c1, c2⟩ := (hp2.below hbel).at k hlt
    have hff := fsum_mem (List.getElem_mem hlt);have HS : Hid (fsum (lp.take (k + 1)) = fsum (lp.take k) + (lp[k].n.length + lp[k].v.length + 32)) := (by show _ = _;rw [take_snoc lp k hlt, fsum_append];simp [fsum]);generalize fsum (lp.take k) = s at *;generalize lp[k] = g at *
    have e2 : IntKind.i64.wrap (IntKind.i64.wrap (IntKind.i64.wrap ((T : Int) + (s : Int) + (g.n.length : Int)) + (g.v.length : Int)) + 32) = ((T + (s + (g.n.length + g.v.length + 32)) : Nat) : Int) := by
     rw [IntWalk.i64_in ((T : Int) + (s : Int) + (g.n.length : Int)) (by omega), IntWalk.i64_in ((T : Int) + (s : Int) + (g.n.length : Int) + (g.v.length : Int)) (by omega), IntWalk.i64_in _ (by omega)];omega
    go_wp2_with fail
    go_region_held3 (fun wx => wx.cell? ⟨w.heap.size, 1, none⟩ = some (.slice (some ⟨b, off, none⟩) lp.length cp) ∧ wx.cell? ⟨b, off + k * 3, none⟩ = some (S g.n) ∧ wx.cell? ⟨b, off + k * 3 + 1, none⟩ = some (S g.v))
     (first | go_keep)
     (fail)
    all_goals
     try rw [e2]
     go_wp2
     go_roundw
     case rel => exact ⟨k + 1, by go_num, by omega, by rw [HS.out];exact congrArg (Value.int .i64) (by omega), hbel.drew⟩
     case measure => simp [intOf];omega
   ·have e : k = lp.length := by omega
    subst e;rw [List.take_length] at *;go_wp2;go_ret;exact ⟨ret_int (by rw [HC.out, HT.out]), Bl.tr hw2 hbel⟩
theorem refSame_eq (q : En) (vp' vf' : Value) (lp lf : List F) (w : World) (hp : Fs w.heap.size w q.vp lp) (hf : Fs w.heap.size w q.vf lf) (hp' : Fs w.heap.size w vp' lp) (hf' : Fs w.heap.size w vf' lf) :
  Calls Tryz.prog 22 #[q.val, .agg #[S q.key, vp', .int .i64 q.st, vf', S q.body, .int .i64 q.asked, .int .i64 q.came]] w fun e w' => e = .returned (.bool true) ∧ Below w.heap.size w w' := by
 obtain ⟨key, vp, st, vf, body, asked, came⟩ := q;simp only [En.val] at *;obtain ⟨w1, ew1⟩ : ∃ w1 : World, w1 = w.alloc (.cells #[S key, vp, .int .i64 st, vf, S body, .int .i64 asked, .int .i64 came] 36) := ⟨_, rfl⟩;have hs1 : w1.heap.size = w.heap.size + 1 := (by rw [ew1];simp);obtain ⟨w0, ew⟩ : ∃ w0 : World, w0 = w1.alloc (.cells #[S key, vp', .int .i64 st, vf', S body, .int .i64 asked, .int .i64 came] 36) := ⟨_, rfl⟩;have hA : Blk w0 w.heap.size 36 #[S key, vp, .int .i64 st, vf, S body, .int .i64 asked, .int .i64 came] := (by rw [ew, ew1];exact (Blk.new _ _ _).alloc _)
 have hB : Blk w0 (w.heap.size + 1) 36 #[S key, vp', .int .i64 st, vf', S body, .int .i64 asked, .int .i64 came] := by
  rw [ew];have := Blk.new w1 36 #[S key, vp', .int .i64 st, vf', S body, .int .i64 asked, .int .i64 came]
  rwa [hs1] at this
 have hb0 : Below w.heap.size w w0 := (by rw [ew, ew1];exact ((Below.refl _ _).alloc (Nat.le_refl _) _).alloc (by simp) _);rw [ew1] at ew;clear ew1 hs1 w1;have hp0 := (hp.below hb0).mono hb0.size;have hp0' := (hp'.below hb0).mono hb0.size
 have hf0 := (hf.below hb0).mono hb0.size;have hf0' := (hf'.below hb0).mono hb0.size
 have HP := PSame_any lp lp vp vp' w0 hp0 hp0';have HF := Lib.hid (fun w h1 h2 => Fields_any lf lf vf vf' w h1 h2);rw [show (lp == lp) = true from by simp] at HP;rw [show (lf == lf) = true from by simp] at HF;clear hp hp' hf hf' hp0 hp0';go_enter Tryz.func22, Tryz.ntmps22
 go_upto_region 1 with fail;rw [← ew];clear ew;obtain ⟨x0, x1, x2, x3, x4, x5, x6⟩ := hA.c7;obtain ⟨y0, y1, y2, y3, y4, y5, y6⟩ := hB.c7;go_wp2_with fail;refine HP.mono ?_;rintro e w2 ⟨rfl, hb2⟩;have hA2 := hA.on hb2;have hB2 := hB.on hb2;have hw2 := Bl.tr hb0 hb2;have hf2 := (hf0.below hb2).mono hb2.size;have hf2' := (hf0'.below hb2).mono hb2.size
 clear x0 x1 x2 x3 x4 x5 x6 y0 y1 y2 y3 y4 y5 y6;obtain ⟨x0, x1, x2, x3, x4, x5, x6⟩ := hA2.c7;obtain ⟨y0, y1, y2, y3, y4, y5, y6⟩ := hB2.c7;go_wp2_with fail;refine (HF.out w2 hf2 hf2').mono ?_;rintro e w3 ⟨rfl, hb3⟩;have hA3 := hA2.on hb3;have hB3 := hB2.on hb3;have hw3 := Bl.tr hw2 hb3;clear x0 x1 x2 x3 x4 x5 x6 y0 y1 y2 y3 y4 y5 y6;obtain ⟨x0, x1, x2, x3, x4, x5, x6⟩ := hA3.c7;obtain ⟨y0, y1, y2, y3, y4, y5, y6⟩ := hB3.c7;go_wp2;go_ret;exact ⟨rfl, hw3⟩
open Go.RowKit Go.Dr
abbrev Itz : Array Value := #[.int .i64 0, S [], .slice none 0 0, .int .i64 0, .slice none 0 0, S [], .int .i64 0, .int .i64 0]
theorem costs_take (l : List It) (k : Nat) : costs (l.take k) ≤ costs l := by
 conv => rhs;rw [← List.take_append_drop k l, costs_append]
 omega
theorem refBytes_any {B r : Nat} {most last : Int} {v : Value} {er : List Ev} (w : World) (h : Rs B w r most last v er) :
  Calls Tryz.prog 103 #[Ptr r] w fun e w' => e = .returned (.int .i64 (costs (er.map Ev.x) : Nat)) ∧ Below w.heap.size w w' := by
 obtain ⟨a, c, hv⟩ := row_form h.row;subst hv;have hlen := h.len
 have hrm : costs (er.map Ev.x) ≤ 1048576 := by
  have := h.room
  have := h.most1
  omega
 go_enter Tryz.func103, Tryz.ntmps103
 go_wp2
 go_loopw [3, 4] (fun n i wr => ∃ k : Nat, n = .int .i64 (costs ((er.take k).map Ev.x) : Nat) ∧ i = .int .i64 k ∧ k ≤ er.length ∧ Below w.heap.size w wr) (fun _ i _ => er.length - (intOf i).toNat)
 case atStart => exact ⟨0, rfl, rfl, Nat.zero_le _, Below.refl _ _⟩
 case round =>
  obtain ⟨k, rfl, rfl, hk, hbr⟩ := hrel;have hr := h.below hbr;have x2 : wr.cell? ⟨r, 2, none⟩ = some (.slice a er.length c) := hr.blk.cell 2;obtain ⟨N, eN⟩ : ∃ N, N = costs ((er.take k).map Ev.x) := ⟨_, rfl⟩;rw [← eN];by_cases hlt : k < er.length
  ·have hsn : costs ((er.take (k + 1)).map Ev.x) = costs ((er.take k).map Ev.x) + er[k].x.cost := by
    rw [take_snoc er k hlt, List.map_append, costs_append];simp [costs]
   have hle := costs_take (er.map Ev.x) (k + 1);rw [← List.map_take, hsn, ← eN] at hle;rw [← eN] at hsn;have HEN := Lib.hid eN;clear eN;obtain ⟨b, off, rfl, hbb, c0, c1, c2, c3, c4, c5, c6, c7⟩ := it_at (Rd.own hr.row) k hlt;have hl := hr.lists er[k] (List.getElem_mem hlt);have hco := hr.cost (List.getElem_mem hlt);obtain ⟨e, ee⟩ : ∃ e, e = er[k] := ⟨_, rfl⟩;rw [← ee] at c0 c1 c2 c3 c4 c5 c6 c7 hl hco;have HE := Lib.hid ee;clear ee;obtain ⟨vp, vf, ⟨eid, key, lp, st, lf, body, asked, came⟩⟩ := e;obtain ⟨ap, kp, hvp, -⟩ := hl.1.form;obtain ⟨af, kf, hvf, -⟩ := hl.2.form;simp only at c0 c1 c2 c3 c4 c5 c6 c7 hvp hvf;subst hvp hvf;have hlp : Fo 89 B wr (.slice ap lp.length kp) lp := hl.1;have hlf : Fo 60 B wr (.slice af lf.length kf) lf := hl.2;have hcn : 64 + key.length + body.length + fsum lf + fsum lp ≤ 1048576 := hco;have d2 : wr.cell? ⟨b, off + k * 8 + 1 + 1, none⟩ = some (.slice ap lp.length kp) := c2;have d3 : wr.cell? ⟨b, off + k * 8 + 1 + 2, none⟩ = some (.int .i64 st) := c3;have d4 : wr.cell? ⟨b, off + k * 8 + 1 + 3, none⟩ = some (.slice af lf.length kf) := c4;have d5 : wr.cell? ⟨b, off + k * 8 + 1 + 4, none⟩ = some (S body) := c5;have d6 : wr.cell? ⟨b, off + k * 8 + 1 + 5, none⟩ = some (.int .i64 asked) := c6;have d7 : wr.cell? ⟨b, off + k * 8 + 1 + 6, none⟩ = some (.int .i64 came) := c7;clear hl hco;rw [← HE.out] at hsn hle;have hcf : costF ⟨key, .slice ap lp.length kp, st, .slice af lf.length kf, body, asked, came⟩ lp lf = It.cost ⟨eid, key, lp, st, lf, body, asked, came⟩ := rfl;have hBw : B ≤ wr.heap.size := Nat.le_of_lt hr.at;have hC := refCost_any ⟨key, .slice ap lp.length kp, st, .slice af lf.length kf, body, asked, came⟩ lp lf wr (hlp.fs hBw) (hlf.fs hBw) (by show key.length ≤ _;omega) (by show body.length ≤ _;omega) (by omega) (by omega);simp only [En.val] at hC;rw [hcf] at hC;simp only at hsn hle;obtain ⟨C, eC⟩ : ∃ C, C = It.cost ⟨eid, key, lp, st, lf, body, asked, came⟩ := ⟨_, rfl⟩;rw [← eC] at hC hsn hle;have HSN := Lib.hid hsn;clear eC hsn hcf;go_wp2_with fail;refine hC.mono ?_;rintro e w2 ⟨rfl, hb2⟩;go_wp2
   go_roundw
   case rel => exact ⟨k + 1, by rw [HSN.out];go_num, by go_num, by omega, hbr.trans (hb2.mono hbr.size)⟩
   case measure => simp [intOf];omega
  ·obtain rfl : k = er.length := by omega
   rw [List.take_length] at eN;go_wp2;go_ret;exact ⟨by rw [← eN];rfl, hbr⟩
theorem without_any (er : List Ev) (v : Value) (w : World) (k B : Nat) (hrow : w.ownsRow B 105 8 v er.length (icells er)) (hl : ∀ e ∈ er, EvFs B w e) (hk : k < er.length) (hlen : er.length ≤ 16384) :
  Calls Tryz.prog 70 #[v, .int .i64 k] w fun e w' => ∃ v', e = .returned v' ∧ w'.ownsRow w.heap.size 105 8 v' (er.take k ++ er.drop (k + 1)).length (icells (er.take k ++ er.drop (k + 1))) ∧ Below w.heap.size w w' := by
 obtain ⟨a, c, hv⟩ := row_form hrow;subst hv;have hR := Rd.own hrow
 have hT : Rd w.heap.size w 8 (.slice a k c) k (icells (er.take k)) := by
  have := hR.upto (Nat.le_of_lt hk)
  rwa [icells_take er k (Nat.le_of_lt hk)] at this
 have hD : Rd w.heap.size w 8 (sliced a (k + 1) er.length c 8) (er.length - (k + 1)) (icells (er.drop (k + 1))) := by
  have := hR.sliced (k := k + 1) hk
  rwa [icells_drop er (k + 1) hk] at this
 have h1 : ∀ u ∈ icells (er.take k), u.oneCell' = true := icells_one fun e he => hl e (List.mem_of_mem_take he)
 have h2 : ∀ u ∈ icells (er.drop (k + 1)), u.oneCell' = true := icells_one fun e he => hl e (List.mem_of_mem_drop he)
 have hn1 : (er.take k).length = k := (by rw [List.length_take];omega);have hln : (er.take k ++ er.drop (k + 1)).length = k + (er.length - (k + 1)) := (by rw [List.length_append, hn1, List.length_drop]);have hca : icells (er.take k ++ er.drop (k + 1)) = icells (er.take k) ++ icells (er.drop (k + 1)) := (by rw [icells_append])
 have hcap : er.length ≤ c := by
  obtain ⟨a', c', e1, e2, -⟩ := hR;simp only [Value.slice.injEq, true_and] at e1;omega
 rw [hln, hca];obtain ⟨I1, e1⟩ : ∃ I1, I1 = icells (er.take k) := ⟨_, rfl⟩;obtain ⟨I2, e2⟩ : ∃ I2, I2 = icells (er.drop (k + 1)) := ⟨_, rfl⟩;rw [← e1] at hT h1 ⊢;rw [← e2] at hD h2 ⊢;clear e1 e2 hrow hl hR hn1 hln hca;obtain ⟨n, en⟩ : ∃ n, n = er.length := ⟨_, rfl⟩;rw [← en] at hD hk hlen hcap ⊢;clear en;have t1 : IntKind.i64.wrap ((k : Int) + 1) = (k : Int) + 1 := IntWalk.i64_in _ (by omega);have t2 : (k : Int) ≤ (c : Int) := (by omega);have t3 : (k : Int) + 1 ≤ (n : Int) := (by omega);have t4 : ((k : Int) + 1).toNat = k + 1 := (by omega);have t5 : k ≤ c := (by omega);have t6 : (0 : Int) ≤ (k : Int) + 1 := (by omega);go_enter Tryz.func70, Tryz.ntmps70
 go_wp2_with fail;refine wp_region_held_drew (S := (fun _ => True)) (by kernel_rfl) trivial (fun hH => ?_);refine tA 1 ?_ ?_ hH ?_;rotate_left;(intro w h;go_simp;try rfl);simp only [PT];refine tA 2 ?_ ?_ hH ?_;rotate_left;(intro w h;go_simp;try rfl);simp only [PT];refine tA 3 ?_ ?_ hH ?_;rotate_left;(intro w h;go_simp;try rfl);simp only [PT];refine tA 5 ?_ ?_ hH ?_;rotate_left;(intro w h;go_simp;try rfl);simp only [PT];refine tA 6 ?_ ?_ hH ?_;rotate_left;(intro w h;go_simp;try rfl);simp only [PT];refine tA 7 ?_ ?_ hH ?_;rotate_left;(intro w h;go_simp;try rfl);simp only [PT];refine tA 8 ?_ ?_ hH ?_;rotate_left;(intro w h;go_simp;try rfl);simp only [PT];refine tC 0 (fun K hK => ?_);go_simp
 skip;refine hK.out _ _ trivial (fun hH => ?_);clear hK K;(try simp only [PT]);refine tC 4 (fun K hK => ?_)
 (refine step_of ?_ (by rfl);refine wp_appG0 _ _ 68 rfl w.heap.size 105 (.agg Itz) 8 112 Tryz.underlying68 (by kernel_rfl) rfl (by decide) _ rfl (own_lit w.drew w.heap.size rfl w.heap.size (Nat.le_refl _) _ _) _ _ _ _ rfl (hT.below ((Below.refl _ _).drew.alloc (Nat.le_refl _) _)) h1 (by unfold maxLen;omega) (by omega) (by simp) ?_;intro a3 c3 w3 hown3 hb3 hg3;have hb13 : Below w.heap.size w w3 := ((Below.refl w.heap.size w).drew.alloc (Nat.le_refl _) _).trans hb3)
 refine hK.out _ _ trivial (fun hH => ?_);clear hK K;(try simp only [PT]);refine tC 9 (fun K hK => ?_)
 (refine step_of ?_ (by rfl);refine wp_appG _ _ 68 rfl w.heap.size 105 (.agg Itz) 8 112 Tryz.underlying68 (by kernel_rfl) rfl (by decide) _ _ _ rfl hown3 _ _ _ _ rfl (hD.below hb13) h2 (by unfold maxLen;omega) (by omega) hb13.size ?_;intro a4 c4 w4 hown4 hb4 hg4)
 refine hK.out _ _ trivial (fun hH => ?_);clear hK K;(try simp only [PT]);refine tA 10 ?_ ?_ hH ?_;rotate_left;(intro w h;go_simp;try rfl);simp only [PT];(try simp only [PT]);refine wpAnyH_done (by kernel_rfl) ?_ _;go_wp2
 all_goals
  go_ret;exact ⟨_, rfl, hown4, hb13.trans hb4⟩
def Ev.val (e : Ev) : Value := .agg #[S e.x.key, e.vp, .int .i64 e.x.st, e.vf, S e.x.body, .int .i64 e.x.asked, .int .i64 e.x.came]
end Go.Proofs.YtahapblgmehngaaGreatDoor
