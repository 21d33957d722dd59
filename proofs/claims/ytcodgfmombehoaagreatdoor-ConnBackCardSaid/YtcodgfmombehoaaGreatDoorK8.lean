/- Parts of the proof of bk_root: the texts Chp3. -/
import Derived.Shelf.Abstract
import Derived.Test.YtcodgfmombehoaaGreatDoorK7
set_option linter.unusedSimpArgs false
set_option linter.unusedVariables false
set_option linter.unnecessarySimpa false
set_option maxRecDepth 100000
set_option maxHeartbeats 64000000
namespace Go.Proofs.YtcodgfmombehoaaGreatDoor
open Go.RowKit Go.Dr
attribute [local go_sem] Oper.semAt_some
abbrev feedC (most pre : Nat) (v : Value) (o : Bool) : Array Value := #[.int .i64 (most : Int), .int .i64 (pre : Int), v, .bool o]
theorem ChNew_any (most : Nat) (b : Bool) (w : World) (hm : most ≤ 16777215) :
  Calls Tryz.prog 20 #[.int .i64 (most : Int), .bool b] w fun e w' => e = .returned (Ptr w.heap.size) ∧ Blk w' w.heap.size 122 (feedC most (if b then 0 else 24) (.slice none 0 0) false) ∧ Below w.heap.size w w' := by
 have hmx : max (most : Int) 0 = (most : Int) := (by omega);have hA : Blk (w.alloc (.cells #[.int .i64 (most : Int), .int .i64 24, .slice none 0 0, .bool false] 122)) w.heap.size 122 #[.int .i64 (most : Int), .int .i64 24, .slice none 0 0, .bool false] := Blk.new _ _ _
 cases b with
 | true =>
  go_enter Tryz.func20, Tryz.ntmps20
  go_wp2
  all_goals first
   | (go_ret;exact ⟨rfl, Blk.new _ _ _, (Below.refl _ _).alloc (Nat.le_refl _) _⟩)
   | (exfalso;simp at *)
 | false =>
  go_enter Tryz.func20, Tryz.ntmps20
  go_wp2
  all_goals first
   | (go_ret;exact ⟨rfl, Blk.new _ _ _, (Below.refl _ _).alloc (Nat.le_refl _) _⟩)
   | (exfalso;simp at *)
theorem Over_any {fb most pre : Nat} {v : Value} {o : Bool} (w : World) (h : Blk w fb 122 (feedC most pre v o)) :
  Calls Tryz.prog 46 #[Ptr fb] w fun e w' => e = .returned (.bool o) ∧ w' = w := by
 have y3 : w.cell? ⟨fb, 3, none⟩ = some (.bool o) := h.cell 3;go_enter Tryz.func46, Tryz.ntmps46
 go_wp2;go_ret;exact ⟨rfl, rfl⟩
theorem Greet_done {fb most : Nat} {v vb : Value} {o : Bool} (w : World) (h : Blk w fb 122 (feedC most 24 v o)) :
  Calls Tryz.prog 47 #[Ptr fb, vb] w fun e w' => e = .returned (.tuple #[vb, .bool true]) ∧ w' = w := by
 have y1 : w.cell? ⟨fb, 1, none⟩ = some (.int .i64 24) := h.cell 1;go_enter Tryz.func47, Tryz.ntmps47
 go_wp2
 go_loopw [1] (fun x wr => x = vb ∧ wr = w) (fun _ _ => 0)
 case atStart => exact ⟨rfl, rfl⟩
 case round =>
  obtain ⟨rfl, rfl⟩ := hrel;go_wp2;go_ret2;exact ⟨rfl, rfl⟩
theorem Items_mk (fb : Nat) (w : World) : Calls Tryz.prog 48 #[Ptr fb] w fun e w' => e = .returned (.func (.func 81) #[] #[Ptr w.heap.size]) ∧ w' = w.alloc (.cells #[Ptr fb] 69) := by
 have hmf : ∀ (fn : Fn) (first cap : Array Value) (w : World), (Instr.makeFunc fn first cap).run Tryz.prog w = .ok (.func fn first cap) w := fun _ _ _ _ => rfl
 go_enter Tryz.func48, Tryz.ntmps48
 go_wp2;go_ret;exact ⟨rfl, rfl⟩
theorem b8_one (l : Bytes) : ∀ u ∈ l.map B8, u.oneCell' = true := by
 intro u hu;obtain ⟨c, -, rfl⟩ := List.mem_map.1 hu;rfl
theorem news_at (w : World) (t : TypeId) (xs : List Value) : ∀ j u, xs[j]? = some u → (w.alloc (.cells xs.toArray t)).cell? ((⟨w.heap.size, 0, none⟩ : Addr).add j) = some u := by
 intro j u hj;rw [Addr.add_lit, Nat.zero_add, (Blk.new w t xs.toArray).cell j];simpa using hj
theorem item_one (f : Fr) (x : Ft) (sa : Option Addr) (sc : Nat) : ∀ u ∈ [.int .i64 (f.ty : Nat), .int .i64 (f.fl : Nat), .int .i64 (f.st : Nat), S f.data, .int .i64 (f.pad : Nat), .slice sa f.sets.length sc, .int .i64 (f.code : Nat), .int .i64 (f.last : Nat), .int .i64 (f.inc : Nat), .int .i64 (f.dep : Nat), .int .i64 (f.wt : Nat), .bool f.sole, .bool x.is, .int .i64 (x.code : Nat), .int .i64 (x.st : Nat)], u.oneCell' = true := by
 intro u hu;simp only [List.mem_cons, List.not_mem_nil, or_false] at hu
 rcases hu with rfl | rfl | rfl | rfl | rfl | rfl | rfl | rfl | rfl | rfl | rfl | rfl | rfl | rfl | rfl <;> rfl
theorem bel_put {B : Nat} {a w : World} (h : Below B a w) (l : Nat) (o : Obj) (hB : B ≤ w.heap.size) (hl : B ≤ l) : Below B a (w.putObj l o) := h.grown (grownBy_putObj' w l o) hB (fun k e => by cases e;exact hl)
theorem own_kind {w : World} {base : Nat} {e : TypeId} {size : Nat} {v : Value} {n : Nat} {xs : List Value} {g : Nat} (h : w.ownsRow base e size v n xs) (hv : v.ownBlock = some g) : ∃ cur, w.heap[g]? = some (.cells cur e (0, 0)) := by
 rcases h.2 with ⟨rfl, h0⟩ | ⟨g', cap, cur, rfl, hb, hg, -⟩
 ·cases hv
 ·have e1 : some g' = some g := hv
  cases e1
  exact ⟨cur, hg⟩
theorem but_put {S : Nat → Prop} {a w : World} (h : But S a w) (l : Nat) (o : Obj) (hl : a.heap.size ≤ l) : But S a (w.putObj l o) := by
 have q := bel_put (Below.refl a.heap.size w) l o h.size hl;exact ⟨q.os.trans h.os, q.tape.trans h.tape, q.output.trans h.output, Nat.le_trans h.size q.size, fun i hi hn => (q.block i hi).trans (h.block i hi hn)⟩
theorem itemsF_len (most : Nat) : ∀ (k : Nat) (l : Bytes), (itemsF most k l).2.1.length ≤ l.length
  | 0, _ => Nat.le_refl _
  | k + 1, l => by
    unfold itemsF
    split
    · exact Nat.le_refl _
    · split
      · simp
      · refine Nat.le_trans (itemsF_len most k _) ?_
        simp
theorem wpList_appRdZ {P : Program} {ops : Array Oper} {rest : List Oper} {o : Oper} {a : Act} {Q : Exit → Act → World → Prop} {w : World} (hgd : o.guard = none) (s x : Operand) (t : TypeId)
  (ho : o.op = .call { callee := .builtin .append, args := #[s, x], argTypes := #[t, t] })
  (base : Nat) (e : TypeId) (z : Value) (size bytes : Nat) (ht : P.underlying t = some (.slice e)) (hi : (P.info? e).map (fun i => (i.zero, i.size, i.bytes)) = some (some z, size, bytes))
  (hzs : z.cells.size = size) (hsz : 0 < size)
  (v : Value) (n : Nat) (xs : List Value) (hs : a.eval s = v) (hown : w.ownsRow base e size v n xs)
  (B : Nat) (vs : Value) (m : Nat) (news : List Value) (hx : a.eval x = vs) (hsrc : Rd B w size vs m news) (h1 : ∀ u ∈ news, u.oneCell' = true)
  (hm : n + m ≤ maxLen) (hbytes : (n + m) * bytes ≤ 140737488355328) (hbase : base ≤ w.heap.size)
  (h : ∀ a' c' w', w'.ownsRow base e size (.slice a' (n + m) c') (n + m) (xs ++ news) → Below base w w' → (m = 0 → v = .slice none 0 0 → Value.slice a' (n + m) c' = .slice none 0 0) → wpList P ops Q rest (a.put o.dst (.slice a' (n + m) c')) w') : wpList P ops Q (o :: rest) a w := by
 obtain ⟨ad, cap, rfl, h2, h3, h4, h5, h6⟩ := hsrc
 cases ad with
 | none =>
  obtain rfl := h5 rfl;obtain rfl : m = 0 := by omega
  have hn : news = [] := List.eq_nil_of_length_eq_zero (by simpa using h4);subst hn;obtain ⟨i, hi, hz, hsize, hby⟩ := info_parts hi;refine wpList_plain hgd fun K hK => ?_
  have hrun := run_append_owned_none (P := P) (w := w) base t o.type e i size ht hi v n xs hown;unfold Oper.wp;simp [execOp, ho, resolve, invoke, builtin, hs, hx, hrun, Result.andThen]
  obtain ⟨a', c', rfl⟩ : ∃ a' c', v = .slice a' n c' := by
   rcases hown.2 with ⟨rfl, rfl⟩ | ⟨g, cap, cur, rfl, _⟩
   ·exact ⟨_, _, rfl⟩
   ·exact ⟨_, _, rfl⟩
  have := h a' c' w (by simpa using hown) (Below.refl _ _) (fun _ h => by simpa using h)
  exact hK _ _ this
 | some ad =>
  refine wpList_app hgd s x t ho base e z size bytes ht hi hzs hsz v n xs hs hown ad m cap news hx h4 ?_ h1 hm hbytes hbase fun v' w' ho' hg hz' => ?_
  ·intro j u hu
   obtain ⟨b, off, e1, _, e3⟩ := h6 j u hu;obtain rfl := Option.some.inj e1;rw [Addr.add_lit];exact e3
  ·obtain ⟨a', c', rfl⟩ : ∃ a' c', v' = .slice a' (n + m) c' := by
    rcases ho'.2 with ⟨rfl, h0⟩ | ⟨g, cap, cur, rfl, _⟩
    ·rw [h0];exact ⟨_, _, rfl⟩
    ·exact ⟨_, _, rfl⟩
   exact h a' c' w' ho' (Bl.grown (Below.refl base w) hown hg hbase (Nat.le_refl _)) (fun hm0 hv => hz'.2 ⟨hv, hm0⟩)
structure Itm where
 f : Fr
 x : Ft
 vs : Value
def Itm.cells (i : Itm) : List Value := (i.f.cells i.vs).toList ++ [.bool i.x.is, .int .i64 (i.x.code : Nat), .int .i64 (i.x.st : Nat)]
def itcells (l : List Itm) : List Value := l.flatMap Itm.cells
theorem Feed_take {fb most : Nat} (l : Bytes) (vb : Value) (w : World) (hm : most ≤ 16777215) (hf : Blk w fb 122 (feedC most 24 (.slice none 0 0) false)) (hb : By w.heap.size w vb l) (hl : l.length ≤ 1048576) :
  Calls Tryz.prog 25 #[Ptr fb, vb] w fun e w' => ∃ v its v', e = .returned v ∧ its.map (fun i => (Itm.f i, Itm.x i)) = (itemsF most (l.length + 1) l).1 ∧ w'.ownsRow w.heap.size 59 15 v its.length (itcells its) ∧ (∀ i ∈ its, w'.ownsRow w.heap.size 33 2 i.vs i.f.sets.length (scells i.f.sets)) ∧
   Blk w' fb 122 (feedC most 24 v' (itemsF most (l.length + 1) l).2.2) ∧ w'.ownsRow w.heap.size 5 1 v' (if (itemsF most (l.length + 1) l).2.2 then [] else (itemsF most (l.length + 1) l).2.1).length ((if (itemsF most (l.length + 1) l).2.2 then [] else (itemsF most (l.length + 1) l).2.1).map B8) ∧ But (fun k => k = fb) w w' ∧ ((if (itemsF most (l.length + 1) l).2.2 then [] else (itemsF most (l.length + 1) l).2.1) = [] → v' = .slice none 0 0) := by
 obtain ⟨q, l', o, eR⟩ : ∃ q l' o, itemsF most (l.length + 1) l = (q, l', o) := ⟨_, _, _, rfl⟩;rw [eR]
 dsimp only
 have HR := Lib.hid eR;clear eR;have hO := Over_any w hf;have hG := Greet_done (vb := vb) w hf;have y2 : w.cell? ⟨fb, 2, none⟩ = some (.slice none 0 0) := hf.cell 2;have f2 := hf.free 2;obtain ⟨ab, cb, rfl, hcb, hcbm⟩ := hb.form;refine callsIn_wide.1 (callsIn_of_wp_marks (F := Fence.wide) (n := 3) Tryz.func25 rfl trivial ?_ rfl);simp only [Tryz.ntmps25, List.size_toArray, List.length_cons, List.length_nil, Nat.reduceAdd, Nat.reduceSub, Array.replicate_succ, Array.replicate_zero, List.push_toArray, List.append_toArray, List.nil_append, List.cons_append];refine wpIn_wide.2 ?_
 go_wp2_with (first
  | (go_at_call 46;refine hO.mono ?_;rintro e w ⟨rfl, rfl⟩)
  | (go_at_call 48;refine (Items_mk fb _).mono ?_;rintro e w3 ⟨rfl, hw3⟩)
  | (go_at_call 47;refine hG.mono ?_;rintro e w ⟨rfl, rfl⟩)
  | (at_builtin;refine wpList_appRd rfl _ _ 39 rfl w.heap.size 5 (.int .u8 0) 1 1 Tryz.underlying39 (by kernel_rfl) rfl (by decide) _ _ _ rfl (World.ownsRow_nil _ _ _ _) _ _ _ _ rfl hb (b8_one l) (by unfold maxLen;omega) (by omega) (Nat.le_refl _) ?_;intro a1 c1 w1 hown1 hb1;have hf1 := hf.on hb1;have z2 : w1.cell? ⟨fb, 2, none⟩ = some (.slice none 0 0) := hf1.cell 2;have g2 := hf1.free 2))
 subst hw3;obtain ⟨ob, eob⟩ : ∃ ob, ob = w1.heap.size := ⟨_, rfl⟩;rw [← eob];rw [Nat.zero_add, List.nil_append] at hown1;obtain ⟨w4, e4⟩ : ∃ w4, w4 = ((w1.setCell ⟨fb, 2, none⟩ (.slice a1 l.length c1)).alloc (.cells #[.slice none 0 0] 50)).alloc (.cells #[Ptr fb] 69) := ⟨_, rfl⟩;rw [← e4];have hfb0 : fb < w.heap.size := hf.lt;have hob0 : w.heap.size ≤ ob := (by rw [eob];exact hb1.size);have hfc4 : Blk w4 fb 122 (feedC most 24 (.slice a1 l.length c1) false) := (by rw [e4];exact ((hf1.set 2 _).alloc _).alloc _)
 have hob4 : One w4 ob 50 (.slice none 0 0) := by
  have q := One.new (w1.setCell ⟨fb, 2, none⟩ (.slice a1 l.length c1)) 50 (.slice none 0 0);rw [World.size_setCell, ← eob] at q;rw [e4];exact q.alloc _
 have hpb4 : One w4 (ob + 1) 69 (Ptr fb) := by
  have q := One.new ((w1.setCell ⟨fb, 2, none⟩ (.slice a1 l.length c1)).alloc (.cells #[.slice none 0 0] 50)) 69 (Ptr fb);rw [World.size_alloc, World.size_setCell, ← eob] at q;rw [e4];exact q
 have hsz4 : w4.heap.size = ob + 2 := (by rw [e4, World.size_alloc, World.size_alloc, World.size_setCell, eob])
 have hby4 : By ob w4 (.slice a1 l.length c1) l := by
  have q : By w1.heap.size w1 (.slice a1 l.length c1) l := Rd.own hown1;rw [← eob] at q;have q2 := q.feed hf1 2 (.slice a1 l.length c1);rw [e4];exact (q2.below ((Below.refl ob _).alloc (by rw [World.size_setCell, eob];exact Nat.le_refl _) _)).below ((Below.refl ob _).alloc (by rw [World.size_alloc, World.size_setCell, eob];exact Nat.le_succ _) _)
 have hu4 : But (fun k => k = fb) w w4 := (by rw [e4];exact ((But.setCell (S := fun k => k = fb) (But.of_below hb1) (p := ⟨fb, 2, none⟩) (.inl rfl) _).alloc _).alloc _);clear e4;refine wp_range (gf := 81) (lb := #[Ptr (ob + 1)]) rfl (enters_of Tryz.func81 (by kernel_rfl) rfl) ?_;intro fn rec W1 hrec hW1 hL1 hD1;have hsz1 : W1.heap.size = ob + 4 := (by rw [hW1, World.size_alloc, World.size_alloc, hsz4]);obtain ⟨i0, hi0, hz0, hz1, hz2⟩ := info_parts (P := Tryz.prog) (e := 59) (z := .agg #[.int .i64 0, .int .i64 0, .int .i64 0, .string ByteArray.empty, .int .i64 0, .slice none 0 0, .int .i64 0, .int .i64 0, .int .i64 0, .int .i64 0, .int .i64 0, .bool false, .bool false, .int .i64 0, .int .i64 0]) (size := 15) (bytes := 144) (by kernel_rfl);obtain ⟨J, hJd⟩ : ∃ J : List (Fr × Ft) → World → Prop, J = fun q W => (∃ its v, its.map (fun i => (Itm.f i, Itm.x i)) = q ∧ One W ob 50 v ∧ W.ownsRow ob 59 15 v its.length (itcells its) ∧ ∀ i ∈ its, W.ownsRow ob 33 2 i.vs i.f.sets.length (scells i.f.sets)) ∧ W.heap[w4.heap.size + 1]? = some (.loop (rec .ready none)) ∧ W.heap[w4.heap.size]? = some (.deferred (some [])) ∧ But (fun k => k = fb) w W := ⟨_, rfl⟩
 have hb41 : Below ob w4 W1 := (by rw [hW1];exact ((Below.refl ob w4).alloc (by omega) _).alloc (by rw [World.size_alloc];omega) _);have hpb1 : One W1 (ob + 1) 69 (Ptr fb) := (by rw [hW1];exact (hpb4.alloc _).alloc _);have hob1 : One W1 ob 50 (.slice none 0 0) := (by rw [hW1];exact (hob4.alloc _).alloc _);have hfc1 : Blk W1 fb 122 (feedC most 24 (.slice a1 l.length c1) false) := (by rw [hW1];exact (hfc4.alloc _).alloc _);have hu1 : But (fun k => k = fb) w W1 := (by rw [hW1];exact (hu4.alloc _).alloc _);refine (items_any (N := ob) (most := most) (pre := 24) (L := w4.heap.size + 1) (pb := ob + 1) (.slice a1 l.length c1) l W1 J hm (by omega) (by omega) hpb1 (by omega) hfc1 (hby4.below hb41) (by rw [hJd];exact ⟨⟨[], _, rfl, hob1, World.ownsRow_nil _ _ _ _, by simp⟩, hL1, hD1, hu1⟩) ?hJ ?hY).mono ?done
 case hJ =>
  rw [hJd];rintro q W W' ⟨⟨its, v, h1, h2, h3, h4⟩, h5, h6, h7⟩ hbut;have hk : ∀ k (o : Obj), ob ≤ k → W.heap[k]? = some o → W'.heap[k]? = some o := fun k o hk ho => (hbut.block k (Array.getElem?_eq_some_iff.1 ho).1 (by omega)).trans ho
  exact ⟨⟨its, v, h1, hk ob _ (Nat.le_refl _) h2, own_block h3 fun g cur hg hge => (hk g _ hge hg).trans hg.symm, fun i hi => own_block (h4 i hi) fun g cur hg hge => (hk g _ hge hg).trans hg.symm⟩, hk _ _ (by omega) h5, hk _ _ (by omega) h6, h7.trans hbut⟩
 case hY =>
  intro q f vs x W hJW hql hp hsz hvs;rw [hJd] at hJW;obtain ⟨⟨its, v, h1, h2, h3, h4⟩, h5, h6, h7⟩ := hJW;refine yield_round (D := w4.heap.size) (R := fun W' => J (q ++ [(f, x)]) W' ∧ Below ob W W' ∧ One W' (ob + 1) 69 (Ptr fb) ∧ W.heap.size ≤ W'.heap.size) hrec h5 rfl ?_;obtain ⟨sa, sc, rfl⟩ := own_form hvs;have HSZ := Lib.hid hsz4;have HS1 := Lib.hid hsz1;have EOB := Lib.hid eob;have hbz : ob + 4 ≤ W.heap.size := (by omega);obtain ⟨av, cv, rfl⟩ := own_form h3;have g0 : W.cell? ⟨ob, 0, none⟩ = some (.slice av its.length cv) := h2.cell;simp only [itemV];have HREC := Lib.hid hrec;have HJD := Lib.hid hJd;clear hsz4 hsz1 eob hW1 hrec hJd
  gi_wp2
  have hL5 := (Array.getElem?_eq_some_iff.1 h5).1;have h5a : (W.alloc (.cells #[.int .i64 (f.ty : Nat), .int .i64 (f.fl : Nat), .int .i64 (f.st : Nat), (.string ⟨f.data.toArray⟩), .int .i64 (f.pad : Nat), .slice sa f.sets.length sc, .int .i64 (f.code : Nat), .int .i64 (f.last : Nat), .int .i64 (f.inc : Nat), .int .i64 (f.dep : Nat), .int .i64 (f.wt : Nat), .bool f.sole, .bool x.is, .int .i64 (x.code : Nat), .int .i64 (x.st : Nat)] 59)).heap[w4.heap.size + 1]? = some (.loop (rec .ready none)) := (Below.heap_alloc _ _ _ hL5).trans h5;refine ⟨h5a, ?_⟩;have hDL : w4.heap.size + 1 < ob + 4 := (by have := HSZ.out;omega);have hD4 : ob + 2 ≤ w4.heap.size := (by have := HSZ.out;omega);obtain ⟨W5, e5⟩ : ∃ W5, W5 = (W.alloc (.cells #[.int .i64 (f.ty : Nat), .int .i64 (f.fl : Nat), .int .i64 (f.st : Nat), (.string ⟨f.data.toArray⟩), .int .i64 (f.pad : Nat), .slice sa f.sets.length sc, .int .i64 (f.code : Nat), .int .i64 (f.last : Nat), .int .i64 (f.inc : Nat), .int .i64 (f.dep : Nat), .int .i64 (f.wt : Nat), .bool f.sole, .bool x.is, .int .i64 (x.code : Nat), .int .i64 (x.st : Nat)] 59)).putObj (w4.heap.size + 1) (.loop (rec .busy none)) := ⟨_, rfl⟩;have hk5 : ∀ k (o : Obj), k ≠ w4.heap.size + 1 → (W.alloc (.cells #[.int .i64 (f.ty : Nat), .int .i64 (f.fl : Nat), .int .i64 (f.st : Nat), (.string ⟨f.data.toArray⟩), .int .i64 (f.pad : Nat), .slice sa f.sets.length sc, .int .i64 (f.code : Nat), .int .i64 (f.last : Nat), .int .i64 (f.inc : Nat), .int .i64 (f.dep : Nat), .int .i64 (f.wt : Nat), .bool f.sole, .bool x.is, .int .i64 (x.code : Nat), .int .i64 (x.st : Nat)] 59)).heap[k]? = some o → W5.heap[k]? = some o := fun k o hk ho => by rw [e5];exact (World.putObj_heap_other hk).trans ho
  have hb5 : Below ob W W5 := (by rw [e5];exact bel_put ((Below.refl ob W).alloc (by omega) _) _ _ (by rw [World.size_alloc];omega) (by omega));have hsz5 : W5.heap.size = W.heap.size + 1 := (by rw [e5, World.putObj_size, World.size_alloc]);have hi5 : Blk W5 W.heap.size 59 #[.int .i64 (f.ty : Nat), .int .i64 (f.fl : Nat), .int .i64 (f.st : Nat), (.string ⟨f.data.toArray⟩), .int .i64 (f.pad : Nat), .slice sa f.sets.length sc, .int .i64 (f.code : Nat), .int .i64 (f.last : Nat), .int .i64 (f.inc : Nat), .int .i64 (f.dep : Nat), .int .i64 (f.wt : Nat), .bool f.sole, .bool x.is, .int .i64 (x.code : Nat), .int .i64 (x.st : Nat)] := hk5 _ _ (by omega) (Blk.new W _ _);have ho5 : One W5 ob 50 (.slice av its.length cv) := hk5 _ _ (by omega) (h2.alloc _);have hr5 : W5.ownsRow ob 59 15 (.slice av its.length cv) its.length (itcells its) := own_block (h3.alloc (.cells #[.int .i64 (f.ty : Nat), .int .i64 (f.fl : Nat), .int .i64 (f.st : Nat), (.string ⟨f.data.toArray⟩), .int .i64 (f.pad : Nat), .slice sa f.sets.length sc, .int .i64 (f.code : Nat), .int .i64 (f.last : Nat), .int .i64 (f.inc : Nat), .int .i64 (f.dep : Nat), .int .i64 (f.wt : Nat), .bool f.sole, .bool x.is, .int .i64 (x.code : Nat), .int .i64 (x.st : Nat)] 59)) fun g cur hg _ => (hk5 g _ (fun e => by rw [e, h5a] at hg;cases hg) hg).trans hg.symm
  have hp5 : One W5 (ob + 1) 69 (Ptr fb) := hk5 _ _ (by omega) (hp.alloc _);have hlen : its.length ≤ l.length := (by rw [← h1] at hql;simpa using hql);have hl5 : W5.heap[w4.heap.size + 1]? = some (.loop (rec .busy none)) := (by rw [e5];exact World.putObj_heap_same (by rw [World.size_alloc];omega));rw [← e5];have a0 : W5.cell? ⟨ob, 0, none⟩ = some (.slice av its.length cv) := ho5.cell;have af : W5.frozen? ⟨ob, 0, none⟩ = false := ho5.free;have u0 : W5.cell? ⟨W.heap.size, 0, none⟩ = some (.int .i64 (f.ty : Nat)) := hi5.cell 0;have u1 : W5.cell? ⟨W.heap.size, 1, none⟩ = some (.int .i64 (f.fl : Nat)) := hi5.cell 1;have u2 : W5.cell? ⟨W.heap.size, 2, none⟩ = some (.int .i64 (f.st : Nat)) := hi5.cell 2;have u3 : W5.cell? ⟨W.heap.size, 3, none⟩ = some (S f.data) := hi5.cell 3;have u4 : W5.cell? ⟨W.heap.size, 4, none⟩ = some (.int .i64 (f.pad : Nat)) := hi5.cell 4;have u5 : W5.cell? ⟨W.heap.size, 5, none⟩ = some (.slice sa f.sets.length sc) := hi5.cell 5;have u6 : W5.cell? ⟨W.heap.size, 6, none⟩ = some (.int .i64 (f.code : Nat)) := hi5.cell 6;have u7 : W5.cell? ⟨W.heap.size, 7, none⟩ = some (.int .i64 (f.last : Nat)) := hi5.cell 7;have u8 : W5.cell? ⟨W.heap.size, 8, none⟩ = some (.int .i64 (f.inc : Nat)) := hi5.cell 8;have u9 : W5.cell? ⟨W.heap.size, 9, none⟩ = some (.int .i64 (f.dep : Nat)) := hi5.cell 9;have u10 : W5.cell? ⟨W.heap.size, 10, none⟩ = some (.int .i64 (f.wt : Nat)) := hi5.cell 10;have u11 : W5.cell? ⟨W.heap.size, 11, none⟩ = some (.bool f.sole) := hi5.cell 11;have u12 : W5.cell? ⟨W.heap.size, 12, none⟩ = some (.bool x.is) := hi5.cell 12;have u13 : W5.cell? ⟨W.heap.size, 13, none⟩ = some (.int .i64 (x.code : Nat)) := hi5.cell 13;have u14 : W5.cell? ⟨W.heap.size, 14, none⟩ = some (.int .i64 (x.st : Nat)) := hi5.cell 14;have HS5 := Lib.hid hsz5;have hoz5 : ob ≤ W5.heap.size := (by omega)
  have hne5 : some ob ≠ (Value.slice av its.length cv).ownBlock := fun e => by
   obtain ⟨cur, hcur⟩ := own_kind hr5 e.symm;rw [show W5.heap[ob]? = _ from ho5] at hcur;simp at hcur
  clear e5 hsz5;have a1' : ∀ o, (W5.alloc o).cell? ⟨ob, 0, none⟩ = some (.slice av its.length cv) := fun o => (ho5.alloc o).cell
  gi_wp2_with (gi_at_builtin;(refine wpListIn_append_own _ rfl _ _ 50 rfl ob 59 i0 (.agg #[.int .i64 0, .int .i64 0, .int .i64 0, .string ByteArray.empty, .int .i64 0, .slice none 0 0, .int .i64 0, .int .i64 0, .int .i64 0, .int .i64 0, .int .i64 0, .bool false, .bool false, .int .i64 0, .int .i64 0]) 15 144 Tryz.underlying50 hi0 hz0 hz1 hz2 rfl (by decide) _ _ _ rfl (hr5.alloc _) ⟨W5.heap.size, 0, none⟩ 1 1 [.int .i64 (f.ty : Nat), .int .i64 (f.fl : Nat), .int .i64 (f.st : Nat), S f.data, .int .i64 (f.pad : Nat), .slice sa f.sets.length sc, .int .i64 (f.code : Nat), .int .i64 (f.last : Nat), .int .i64 (f.inc : Nat), .int .i64 (f.dep : Nat), .int .i64 (f.wt : Nat), .bool f.sole, .bool x.is, .int .i64 (x.code : Nat), .int .i64 (x.st : Nat)] rfl rfl (news_at W5 _ _) (item_one f x sa sc) (by unfold maxLen;omega) (by omega) (by rw [World.size_alloc];exact Nat.le_succ_of_le hoz5) ?_;intro v7 w7 hown7 hg7 _;obtain ⟨a7, c7, rfl⟩ := own_form hown7;have ho7 : One w7 ob 50 (.slice av its.length cv) := (hg7.block ob (by rw [World.size_alloc];have := ho5.lt;omega) hne5).trans (ho5.alloc _);have z7 := ho7.cell;have f7 := ho7.free))
  have hz7 : W5.heap.size ≤ w7.heap.size := (by have := hg7.size;rw [World.size_alloc] at this;omega);obtain ⟨w8, e8⟩ : ∃ w8, w8 = w7.setCell ⟨ob, 0, none⟩ (.slice a7 (its.length + 1) c7) := ⟨_, rfl⟩;rw [← e8];have hk8 : ∀ k (o : Obj), k ≠ ob → w7.heap[k]? = some o → w8.heap[k]? = some o := fun k o hk ho => by rw [e8];exact (Below.heap_setCell _ _ _ _ hk).trans ho
  have hk57 : ∀ k (o : Obj), (∀ cur, o ≠ .cells cur 59 (0, 0)) → W5.heap[k]? = some o → w7.heap[k]? = some o := fun k o hc ho => by
   have hlt := (Array.getElem?_eq_some_iff.1 ho).1;refine (hg7.block k (by rw [World.size_alloc];omega) (fun e => ?_)).trans ((Below.heap_alloc _ _ _ hlt).trans ho);obtain ⟨cur, hcur⟩ := own_kind hr5 e.symm;rw [ho] at hcur;exact hc cur (Option.some.inj hcur)
  have hL7 := hk57 _ _ (fun cur h => by cases h) hl5;have hL8 := hk8 _ _ (by omega) hL7;refine ⟨hL8, ?_⟩;have hsz8 : w8.heap.size = w7.heap.size := (by rw [e8, World.size_setCell]);obtain ⟨w9, e9⟩ : ∃ w9, w9 = w8.putObj (w4.heap.size + 1) (.loop (rec .ready none)) := ⟨_, rfl⟩;rw [← e9];have hk9 : ∀ k (o : Obj), k ≠ w4.heap.size + 1 → w8.heap[k]? = some o → w9.heap[k]? = some o := fun k o hk ho => by rw [e9];exact (World.putObj_heap_other hk).trans ho
  have hkW : ∀ k (o : Obj), k ≠ ob → k ≠ w4.heap.size + 1 → (∀ cur, o ≠ .cells cur 59 (0, 0)) → W.heap[k]? = some o → w9.heap[k]? = some o := fun k o h1 h2 hc ho => hk9 k o h2 (hk8 k o h1 (hk57 k o hc (hk5 k o h2 ((Below.heap_alloc _ _ _ (Array.getElem?_eq_some_iff.1 ho).1).trans ho))))
  have hb9 : Below ob W w9 := by
   have q1 : Below ob W (W5.alloc (.cells #[.int .i64 (f.ty : Nat), .int .i64 (f.fl : Nat), .int .i64 (f.st : Nat), S f.data, .int .i64 (f.pad : Nat), .slice sa f.sets.length sc, .int .i64 (f.code : Nat), .int .i64 (f.last : Nat), .int .i64 (f.inc : Nat), .int .i64 (f.dep : Nat), .int .i64 (f.wt : Nat), .bool f.sole, .bool x.is, .int .i64 (x.code : Nat), .int .i64 (x.st : Nat)] 59)) := hb5.alloc hoz5 _;have q2 : Below ob W w7 := Bl.grown q1 (hr5.alloc _) hg7 (by rw [World.size_alloc];omega) (Nat.le_refl _);rw [e9, e8];exact bel_put (q2.setCell (p := ⟨ob, 0, none⟩) (Nat.le_refl _) _) _ _ (by rw [World.size_setCell];omega) (by omega)
  have ho9 : One w9 ob 50 (.slice a7 (its.length + 1) c7) := hk9 _ _ (by omega) (by rw [e8];exact ho7.set _);rw [HJD.out];refine ⟨⟨⟨its ++ [⟨f, x, .slice sa f.sets.length sc⟩], .slice a7 (its.length + 1) c7, by rw [List.map_append, h1];rfl, ho9, ?_, ?_⟩, ?_, hkW _ _ (by omega) (by omega) (fun cur h => by cases h) h6, ?_⟩, hb9, hkW _ _ (by omega) (by omega) (fun cur h => by cases h) hp, by rw [← hsz8];exact Nat.le_trans hb9.size (by rw [e9, World.putObj_size];exact Nat.le_refl _)⟩
  ·have q : itcells (its ++ [⟨f, x, .slice sa f.sets.length sc⟩]) = itcells its ++ [.int .i64 (f.ty : Nat), .int .i64 (f.fl : Nat), .int .i64 (f.st : Nat), S f.data, .int .i64 (f.pad : Nat), .slice sa f.sets.length sc, .int .i64 (f.code : Nat), .int .i64 (f.last : Nat), .int .i64 (f.inc : Nat), .int .i64 (f.dep : Nat), .int .i64 (f.wt : Nat), .bool f.sole, .bool x.is, .int .i64 (x.code : Nat), .int .i64 (x.st : Nat)] := by simp [itcells, Itm.cells, Fr.cells]
   rw [List.length_append, List.length_singleton, q];refine own_block hown7 fun g cur hg _ => ?_
   have g1 : g ≠ ob := fun e => by rw [e, show w7.heap[ob]? = _ from ho7] at hg;simp at hg
   have g2 : g ≠ w4.heap.size + 1 := fun e => by rw [e, hL7] at hg;cases hg
   exact (hk9 g _ g2 (hk8 g _ g1 hg)).trans hg.symm
  ·intro i hi
   rcases List.mem_append.1 hi with hi | hi
   ·refine own_block (h4 i hi) fun g cur hg _ => ?_
    exact (hkW g _ (fun e => by rw [e, show W.heap[ob]? = _ from h2] at hg;simp at hg) (fun e => by rw [e, h5] at hg;cases hg) (fun cu h => by simp at h) hg).trans hg.symm
   ·obtain rfl := List.mem_singleton.1 hi
    refine own_block (own_base hvs (base' := ob) (by have := HS1.out;omega)) fun g cur hg _ => ?_
    exact (hkW g _ (fun e => by rw [e, show W.heap[ob]? = _ from h2] at hg;simp at hg) (fun e => by rw [e, h5] at hg;cases hg) (fun cu h => by simp at h) hg).trans hg.symm
  ·rw [e9];exact World.putObj_heap_same (Array.getElem?_eq_some_iff.1 hL8).1
  ·exact ⟨hb9.os.trans h7.os, hb9.tape.trans h7.tape, hb9.output.trans h7.output, Nat.le_trans h7.size hb9.size, fun i hi hn => (hb9.block i (by omega)).trans (h7.block i hi hn)⟩
 case done =>
  rintro e W2 ⟨⟨v, rfl⟩, hJW, hp, v', hf', hb'⟩;rw [hJd] at hJW;obtain ⟨⟨its, v2, h1, h2, h3, h4⟩, h5, h6, h7⟩ := hJW;refine ⟨⟨_, rfl⟩, h5, ?_⟩;rw [HR.out] at h1 hf' hb'
  dsimp only at h1 hf' hb'
  obtain ⟨W3, e3⟩ : ∃ W3, W3 = W2.putObj (w4.heap.size + 1) (.loop (rec .exhausted none)) := ⟨_, rfl⟩;rw [← e3];have hk3 : ∀ k (o : Obj), k ≠ w4.heap.size + 1 → W2.heap[k]? = some o → W3.heap[k]? = some o := fun k o hk ho => by rw [e3];exact (World.putObj_heap_other hk).trans ho
  have hL5 : w4.heap.size + 1 < W2.heap.size := (Array.getElem?_eq_some_iff.1 h5).1;have hb3 : Below ob W2 W3 := (by rw [e3];exact bel_put (Below.refl _ _) _ _ (by omega) (by omega));have hu3 : But (fun k => k = fb) w W3 := (by rw [e3];exact but_put h7 _ _ (by omega));have ho3 : One W3 ob 50 v2 := hk3 _ _ (by omega) h2;have hr3 : W3.ownsRow ob 59 15 v2 its.length (itcells its) := own_block h3 fun g cur hg _ => (hk3 g _ (fun e => by rw [e, h5] at hg;cases hg) hg).trans hg.symm
  have hs3 : ∀ i ∈ its, W3.ownsRow ob 33 2 i.vs i.f.sets.length (scells i.f.sets) := fun i hi => own_block (h4 i hi) fun g cur hg _ => (hk3 g _ (fun e => by rw [e, h5] at hg;cases hg) hg).trans hg.symm
  have hf3 : Blk W3 fb 122 (feedC most 24 v' o) := hk3 _ _ (by omega) hf';have hy3 : By ob W3 v' l' := hb'.below hb3;have hD3 : W3.heap[w4.heap.size]? = some (.deferred (some [])) := hk3 _ _ (by omega) h6;have hoz3 : ob + 4 ≤ W3.heap.size := (by have := hb3.size;omega);obtain ⟨D, eD⟩ : ∃ D, D = w4.heap.size := ⟨_, rfl⟩;rw [← eD] at hD3 ⊢;have hDob : ob + 2 ≤ D := (by omega);obtain ⟨av, cv, rfl⟩ := own_form hr3;obtain ⟨a', c', rfl, hc', hcm'⟩ := hy3.form;have hl' : l'.length ≤ l.length := (by have := itemsF_len most (l.length + 1) l;rw [HR.out] at this;exact this)
  have k0 : W3.cell? ⟨ob, 0, none⟩ = some (.slice av its.length cv) := ho3.cell;have k2 : W3.cell? ⟨fb, 2, none⟩ = some (.slice a' l'.length c') := hf3.cell 2;have kf2 := hf3.free 2;clear e3 eD hsz4 hsz1 eob hW1 hrec hJd hk3 hb3 h2 h3 h4 h5 h6 h7 hf' hb' hp hL5 hi0 hz0 hz1 hz2 hL1 hD1 hb41 hpb1 hob1 hfc1 hu1 hfc4 hob4 hpb4 hby4 hu4;have H1 := Lib.hid h1;clear h1
  have fin : ∀ (X : World) (v6 : Value) (n6 : Nat) (xs6 : List Value), Below W3.heap.size W3 X → X.ownsRow ob 5 1 v6 n6 xs6 → (X.setCell ⟨fb, 2, none⟩ v6).heap[D]? = some (.deferred (some [])) ∧ ∀ w6, w6 = (X.setCell ⟨fb, 2, none⟩ v6).putObj D (.deferred none) →
    w6.ownsRow w.heap.size 59 15 (.slice av its.length cv) its.length (itcells its) ∧ (∀ i ∈ its, w6.ownsRow w.heap.size 33 2 i.vs i.f.sets.length (scells i.f.sets)) ∧ Blk w6 fb 122 (feedC most 24 v6 o) ∧ w6.ownsRow w.heap.size 5 1 v6 n6 xs6 ∧ But (fun k => k = fb) w w6 := by
   intro X v6 n6 xs6 hX h6;have hD6 : X.heap[D]? = some (.deferred (some [])) := (hX.block D (Array.getElem?_eq_some_iff.1 hD3).1).trans hD3;refine ⟨(Below.heap_setCell _ _ _ _ (by show D ≠ fb;omega)).trans hD6, ?_⟩;rintro w6 rfl;have hk : ∀ k, k ≠ fb → k ≠ D → ((X.setCell ⟨fb, 2, none⟩ v6).putObj D (.deferred none)).heap[k]? = X.heap[k]? := fun k h1 h2 => (World.putObj_heap_other h2).trans (Below.heap_setCell _ _ _ _ h1)
   have hkk : ∀ k (o : Obj), W3.heap[k]? = some o → X.heap[k]? = some o := fun k o ho => (hX.block k (Array.getElem?_eq_some_iff.1 ho).1).trans ho
   have hg : ∀ g cur e, X.heap[g]? = some (.cells cur e (0, 0)) → ob ≤ g → ((X.setCell ⟨fb, 2, none⟩ v6).putObj D (.deferred none)).heap[g]? = X.heap[g]? := fun g cur e hg hge => hk g (by omega) (fun e => by rw [e, hD6] at hg;cases hg)
   have hX3 : ∀ {e size v n xs}, W3.ownsRow ob e size v n xs → ((X.setCell ⟨fb, 2, none⟩ v6).putObj D (.deferred none)).ownsRow w.heap.size e size v n xs := fun h => own_base (own_block (own_below h hX) fun g cur hgg hge => hg g cur _ hgg hge) hob0
   exact ⟨hX3 hr3, fun i hi => hX3 (hs3 i hi), (World.putObj_heap_other (by omega)).trans ((hf3.on hX).set 2 v6), own_base (own_block h6 fun g cur hgg hge => hg g cur _ hgg hge) hob0, but_put ((hu3.trans (But.of_below hX)).setCell (p := ⟨fb, 2, none⟩) (.inl rfl) _) _ _ (by omega)⟩
  by_cases ho : o = true
  ·have k3 : W3.cell? ⟨fb, 3, none⟩ = some (.bool true) := by rw [hf3.cell 3, ho];rfl
   obtain ⟨hK, fin⟩ := fin W3 (.slice none 0 0) 0 [] (Below.refl _ _) (World.ownsRow_nil _ _ _ _);subst ho;go_wp2;refine ⟨by simp, .inl ⟨_, _, rfl, run_takeDeferred hK, ?_⟩⟩;obtain ⟨r1, r2, r3, r4, r5⟩ := fin _ rfl;exact ⟨.slice av its.length cv, by simp [results, Tryz.results25, go_sem], _, rfl, its, H1.out, r1, r2, _, r3, r4, r5, rfl⟩
  ·have ho : o = false := by simpa using ho
   have k3 : W3.cell? ⟨fb, 3, none⟩ = some (.bool false) := (by rw [hf3.cell 3, ho];rfl);subst ho;go_wp2_with (at_builtin;refine wpList_appRdZ rfl _ _ 39 rfl W3.heap.size 5 (.int .u8 0) 1 1 Tryz.underlying39 (by kernel_rfl) rfl (by decide) _ _ _ rfl (World.ownsRow_nil _ _ _ _) _ _ _ _ rfl hy3 (b8_one l') (by unfold maxLen;omega) (by omega) (Nat.le_refl _) ?_;intro a5 c5 w5 hown5 hb5 hz5;have hf5 := hf3.on hb5;have q2 : w5.cell? ⟨fb, 2, none⟩ = some (.slice a' l'.length c') := hf5.cell 2;have qf2 := hf5.free 2;have ho5 := ho3.below hb5 ho3.lt;have q0 := ho5.cell)
   have hz6 : l' = [] → Value.slice a5 l'.length c5 = .slice none 0 0 := fun e => by have := hz5 (by rw [e];rfl) rfl;rw [Nat.zero_add] at this;exact this
   rw [Nat.zero_add, List.nil_append] at hown5;obtain ⟨hK, fin⟩ := fin w5 (.slice a5 l'.length c5) _ _ hb5 (own_base hown5 (by omega));refine ⟨by simp, .inl ⟨_, _, rfl, run_takeDeferred hK, ?_⟩⟩;obtain ⟨r1, r2, r3, r4, r5⟩ := fin _ rfl;exact ⟨.slice av its.length cv, by simp [results, Tryz.results25, go_sem], _, rfl, its, H1.out, r1, r2, _, r3, r4, r5, hz6⟩
end Go.Proofs.YtcodgfmombehoaaGreatDoor
