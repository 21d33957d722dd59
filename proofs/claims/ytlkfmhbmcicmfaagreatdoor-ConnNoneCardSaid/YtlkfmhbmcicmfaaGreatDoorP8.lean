/- Parts of the proof of ConnNone_holds: the texts Chp3 Per3 Tab1 Hpk3 Win1 Rda1 Win2 Rda2. -/
import Derived.Shelf.Abstract
import Derived.Laws.Tables
import Derived.Defers
import Derived.Recover
import Derived.StringKeys
import Derived.Laws.EntriesVeiled
import Derived.Test.YtlkfmhbmcicmfaaGreatDoorP7
set_option linter.unusedSimpArgs false
set_option linter.unusedVariables false
set_option linter.unnecessarySimpa false
namespace Go.Proofs.YtlkfmhbmcicmfaaGreatDoor
open Go.RowKit Go.Dr
attribute [local go_sem] Oper.semAt_some

abbrev feedC (most pre : Nat) (v : Value) (o : Bool) : Array Value := #[.int .i64 (most : Int), .int .i64 (pre : Int), v, .bool o]

theorem ChNew_any (most : Nat) (b : Bool) (w : World) (hm : most ≤ 16777215) :
    Calls Tryz.prog 43 #[.int .i64 (most : Int), .bool b] w fun e w' => e = .returned (Ptr w.heap.size) ∧ Blk w' w.heap.size 164 (feedC most (if b then 0 else 24) (.slice none 0 0) false) ∧ Below w.heap.size w w' := by
  have hmx : max (most : Int) 0 = (most : Int) := by omega
  have hA : Blk (w.alloc (.cells #[.int .i64 (most : Int), .int .i64 24, .slice none 0 0, .bool false] 164)) w.heap.size 164 #[.int .i64 (most : Int), .int .i64 24, .slice none 0 0, .bool false] := Blk.new _ _ _
  cases b with
  | true =>
    go_enter Tryz.func43, Tryz.ntmps43
    go_wp2
    all_goals first
      | (go_ret; exact ⟨rfl, Blk.new _ _ _, (Below.refl _ _).alloc (Nat.le_refl _) _⟩)
      | (exfalso; simp at *)
  | false =>
    go_enter Tryz.func43, Tryz.ntmps43
    go_wp2
    all_goals first
      | (go_ret; exact ⟨rfl, Blk.new _ _ _, (Below.refl _ _).alloc (Nat.le_refl _) _⟩)
      | (exfalso; simp at *)

theorem Over_any {fb most pre : Nat} {v : Value} {o : Bool} (w : World) (h : Blk w fb 164 (feedC most pre v o)) :
    Calls Tryz.prog 86 #[Ptr fb] w fun e w' => e = .returned (.bool o) ∧ w' = w := by
  have y3 : w.cell? ⟨fb, 3, none⟩ = some (.bool o) := h.cell 3
  go_enter Tryz.func86, Tryz.ntmps86
  go_wp2
  go_ret
  exact ⟨rfl, rfl⟩

theorem Items_mk (fb : Nat) (w : World) : Calls Tryz.prog 88 #[Ptr fb] w fun e w' => e = .returned (.func (.func 124) #[] #[Ptr w.heap.size]) ∧ w' = w.alloc (.cells #[Ptr fb] 94) := by
  have hmf : ∀ (fn : Fn) (first cap : Array Value) (w : World), (Instr.makeFunc fn first cap).run Tryz.prog w = .ok (.func fn first cap) w := fun _ _ _ _ => rfl
  go_enter Tryz.func88, Tryz.ntmps88
  go_wp2
  go_ret
  exact ⟨rfl, rfl⟩

theorem b8_one (l : Bytes) : ∀ u ∈ l.map B8, u.oneCell' = true := by
  intro u hu
  obtain ⟨c, -, rfl⟩ := List.mem_map.1 hu
  rfl

theorem news_at (w : World) (t : TypeId) (xs : List Value) : ∀ j u, xs[j]? = some u → (w.alloc (.cells xs.toArray t)).cell? ((⟨w.heap.size, 0, none⟩ : Addr).add j) = some u := by
  intro j u hj
  rw [Addr.add_lit, Nat.zero_add, (Blk.new w t xs.toArray).cell j]
  simpa using hj
theorem item_one (f : Fr) (x : Ft) (sa : Option Addr) (sc : Nat) : ∀ u ∈ [.int .i64 (f.ty : Nat), .int .i64 (f.fl : Nat), .int .i64 (f.st : Nat), S f.data, .int .i64 (f.pad : Nat), .slice sa f.sets.length sc, .int .i64 (f.code : Nat), .int .i64 (f.last : Nat), .int .i64 (f.inc : Nat), .int .i64 (f.dep : Nat), .int .i64 (f.wt : Nat), .bool f.sole, .bool x.is, .int .i64 (x.code : Nat), .int .i64 (x.st : Nat)], u.oneCell' = true := by
  intro u hu
  simp only [List.mem_cons, List.not_mem_nil, or_false] at hu
  rcases hu with rfl | rfl | rfl | rfl | rfl | rfl | rfl | rfl | rfl | rfl | rfl | rfl | rfl | rfl | rfl <;> rfl
theorem bel_put {B : Nat} {a w : World} (h : Below B a w) (l : Nat) (o : Obj) (hB : B ≤ w.heap.size) (hl : B ≤ l) : Below B a (w.putObj l o) := h.grown (grownBy_putObj' w l o) hB (fun k e => by cases e; exact hl)
theorem own_kind {w : World} {base : Nat} {e : TypeId} {size : Nat} {v : Value} {n : Nat} {xs : List Value} {g : Nat} (h : w.ownsRow base e size v n xs) (hv : v.ownBlock = some g) : ∃ cur, w.heap[g]? = some (.cells cur e (0, 0)) := by
  rcases h.2 with ⟨rfl, h0⟩ | ⟨g', cap, cur, rfl, hb, hg, -⟩
  · cases hv
  · have e1 : some g' = some g := hv
    cases e1
    exact ⟨cur, hg⟩

theorem but_put {S : Nat → Prop} {a w : World} (h : But S a w) (l : Nat) (o : Obj) (hl : a.heap.size ≤ l) : But S a (w.putObj l o) := by
  have q := bel_put (Below.refl a.heap.size w) l o h.size hl
  exact ⟨q.os.trans h.os, q.tape.trans h.tape, q.output.trans h.output, Nat.le_trans h.size q.size, fun i hi hn => (q.block i hi).trans (h.block i hi hn)⟩
theorem itemsF_len (most : Nat) : ∀ (k : Nat) (l : Bytes), (itemsF most k l).2.1.length ≤ l.length
  | 0, _ => Nat.le_refl _
  | k + 1, l => by
    unfold itemsF
    split
    · exact Nat.le_refl _
    · split
      · simp
      · refine Nat.le_trans (itemsF_len most k _) ?_
        simp

theorem wpList_appRdZ {P : Program} {ops : Array Oper} {rest : List Oper} {o : Oper} {a : Act} {Q : Exit → Act → World → Prop} {w : World} (hgd : o.guard = none) (s x : Operand) (t : TypeId)
    (ho : o.op = .call { callee := .builtin .append, args := #[s, x], argTypes := #[t, t] })
    (base : Nat) (e : TypeId) (z : Value) (size bytes : Nat) (ht : P.underlying t = some (.slice e)) (hi : (P.info? e).map (fun i => (i.zero, i.size, i.bytes)) = some (some z, size, bytes))
    (hzs : z.cells.size = size) (hsz : 0 < size)
    (v : Value) (n : Nat) (xs : List Value) (hs : a.eval s = v) (hown : w.ownsRow base e size v n xs)
    (B : Nat) (vs : Value) (m : Nat) (news : List Value) (hx : a.eval x = vs) (hsrc : Rd B w size vs m news) (h1 : ∀ u ∈ news, u.oneCell' = true)
    (hm : n + m ≤ maxLen) (hbytes : (n + m) * bytes ≤ 140737488355328) (hbase : base ≤ w.heap.size)
    (h : ∀ a' c' w', w'.ownsRow base e size (.slice a' (n + m) c') (n + m) (xs ++ news) → Below base w w' → (m = 0 → v = .slice none 0 0 → Value.slice a' (n + m) c' = .slice none 0 0) → wpList P ops Q rest (a.put o.dst (.slice a' (n + m) c')) w') : wpList P ops Q (o :: rest) a w := by
  obtain ⟨ad, cap, rfl, h2, h3, h4, h5, h6⟩ := hsrc
  cases ad with
  | none =>
    obtain rfl := h5 rfl
    obtain rfl : m = 0 := by omega
    have hn : news = [] := List.eq_nil_of_length_eq_zero (by simpa using h4)
    subst hn
    obtain ⟨i, hi, hz, hsize, hby⟩ := info_parts hi
    refine wpList_plain hgd fun K hK => ?_
    have hrun := run_append_owned_none (P := P) (w := w) base t o.type e i size ht hi v n xs hown
    unfold Oper.wp
    simp [execOp, ho, resolve, invoke, builtin, hs, hx, hrun, Result.andThen]
    obtain ⟨a', c', rfl⟩ : ∃ a' c', v = .slice a' n c' := by
      rcases hown.2 with ⟨rfl, rfl⟩ | ⟨g, cap, cur, rfl, _⟩
      · exact ⟨_, _, rfl⟩
      · exact ⟨_, _, rfl⟩
    have := h a' c' w (by simpa using hown) (Below.refl _ _) (fun _ h => by simpa using h)
    exact hK _ _ this
  | some ad =>
    refine wpList_app hgd s x t ho base e z size bytes ht hi hzs hsz v n xs hs hown ad m cap news hx h4 ?_ h1 hm hbytes hbase fun v' w' ho' hg hz' => ?_
    · intro j u hu
      obtain ⟨b, off, e1, _, e3⟩ := h6 j u hu
      obtain rfl := Option.some.inj e1
      rw [Addr.add_lit]
      exact e3
    · obtain ⟨a', c', rfl⟩ : ∃ a' c', v' = .slice a' (n + m) c' := by
        rcases ho'.2 with ⟨rfl, h0⟩ | ⟨g, cap, cur, rfl, _⟩
        · rw [h0]; exact ⟨_, _, rfl⟩
        · exact ⟨_, _, rfl⟩
      exact h a' c' w' ho' (Bl.grown (Below.refl base w) hown hg hbase (Nat.le_refl _)) (fun hm0 hv => hz'.2 ⟨hv, hm0⟩)


/-- an item in memory -/
structure Itm where
  f : Fr
  x : Ft
  vs : Value
def Itm.cells (i : Itm) : List Value := (i.f.cells i.vs).toList ++ [.bool i.x.is, .int .i64 (i.x.code : Nat), .int .i64 (i.x.st : Nat)]
def itcells (l : List Itm) : List Value := l.flatMap Itm.cells

end Go.Proofs.YtlkfmhbmcicmfaaGreatDoor

namespace Go.Proofs.YtlkfmhbmcicmfaaGreatDoor
open Go.RowKit Go.Dr

theorem obj_alloc {w : World} {b : Nat} {o' : Obj} (h : w.heap[b]? = some o') (o : Obj) : (w.alloc o).heap[b]? = some o' := (Below.heap_alloc w o b (Array.getElem?_eq_some_iff.1 h).1).trans h
theorem obj_new (w : World) (o : Obj) (g : Nat) (hg : w.heap.size = g) : (w.alloc o).heap[g]? = some o := by subst hg; exact heap_alloc_new w o
theorem obj_below {B : Nat} {w w' : World} {b : Nat} {o' : Obj} (h : w.heap[b]? = some o') (hb : Below B w w') (hB : b < B) : w'.heap[b]? = some o' := (hb.block b hB).trans h

/-- a table in memory that holds nothing -/
structure Tbl0 (w : World) (t : Nat) : Prop where
  m1 : w.heap[t - 2]? = some (.map #[] 0)
  m2 : w.heap[t - 1]? = some (.map #[] 0)
  blk : Blk w t 215 #[.int .i64 4096, .int .i64 0, .slice none 0 0, .int .i64 0, .map (some (t - 2)), .map (some (t - 1))]

end Go.Proofs.YtlkfmhbmcicmfaaGreatDoor

namespace Go.Proofs.YtlkfmhbmcicmfaaGreatDoor
open Go.RowKit Go.Dr

/-- the fixed rows: names and values -/
def statL : List (Bytes × Bytes) := [
  ([58, 97, 117, 116, 104, 111, 114, 105, 116, 121], []),
  ([58, 109, 101, 116, 104, 111, 100], [71, 69, 84]),
  ([58, 109, 101, 116, 104, 111, 100], [80, 79, 83, 84]),
  ([58, 112, 97, 116, 104], [47]),
  ([58, 112, 97, 116, 104], [47, 105, 110, 100, 101, 120, 46, 104, 116, 109, 108]),
  ([58, 115, 99, 104, 101, 109, 101], [104, 116, 116, 112]),
  ([58, 115, 99, 104, 101, 109, 101], [104, 116, 116, 112, 115]),
  ([58, 115, 116, 97, 116, 117, 115], [50, 48, 48]),
  ([58, 115, 116, 97, 116, 117, 115], [50, 48, 52]),
  ([58, 115, 116, 97, 116, 117, 115], [50, 48, 54]),
  ([58, 115, 116, 97, 116, 117, 115], [51, 48, 52]),
  ([58, 115, 116, 97, 116, 117, 115], [52, 48, 48]),
  ([58, 115, 116, 97, 116, 117, 115], [52, 48, 52]),
  ([58, 115, 116, 97, 116, 117, 115], [53, 48, 48]),
  ([97, 99, 99, 101, 112, 116, 45, 99, 104, 97, 114, 115, 101, 116], []),
  ([97, 99, 99, 101, 112, 116, 45, 101, 110, 99, 111, 100, 105, 110, 103], [103, 122, 105, 112, 44, 32, 100, 101, 102, 108, 97, 116, 101]),
  ([97, 99, 99, 101, 112, 116, 45, 108, 97, 110, 103, 117, 97, 103, 101], []),
  ([97, 99, 99, 101, 112, 116, 45, 114, 97, 110, 103, 101, 115], []),
  ([97, 99, 99, 101, 112, 116], []),
  ([97, 99, 99, 101, 115, 115, 45, 99, 111, 110, 116, 114, 111, 108, 45, 97, 108, 108, 111, 119, 45, 111, 114, 105, 103, 105, 110], []),
  ([97, 103, 101], []),
  ([97, 108, 108, 111, 119], []),
  ([97, 117, 116, 104, 111, 114, 105, 122, 97, 116, 105, 111, 110], []),
  ([99, 97, 99, 104, 101, 45, 99, 111, 110, 116, 114, 111, 108], []),
  ([99, 111, 110, 116, 101, 110, 116, 45, 100, 105, 115, 112, 111, 115, 105, 116, 105, 111, 110], []),
  ([99, 111, 110, 116, 101, 110, 116, 45, 101, 110, 99, 111, 100, 105, 110, 103], []),
  ([99, 111, 110, 116, 101, 110, 116, 45, 108, 97, 110, 103, 117, 97, 103, 101], []),
  ([99, 111, 110, 116, 101, 110, 116, 45, 108, 101, 110, 103, 116, 104], []),
  ([99, 111, 110, 116, 101, 110, 116, 45, 108, 111, 99, 97, 116, 105, 111, 110], []),
  ([99, 111, 110, 116, 101, 110, 116, 45, 114, 97, 110, 103, 101], []),
  ([99, 111, 110, 116, 101, 110, 116, 45, 116, 121, 112, 101], []),
  ([99, 111, 111, 107, 105, 101], []),
  ([100, 97, 116, 101], []),
  ([101, 116, 97, 103], []),
  ([101, 120, 112, 101, 99, 116], []),
  ([101, 120, 112, 105, 114, 101, 115], []),
  ([102, 114, 111, 109], []),
  ([104, 111, 115, 116], []),
  ([105, 102, 45, 109, 97, 116, 99, 104], []),
  ([105, 102, 45, 109, 111, 100, 105, 102, 105, 101, 100, 45, 115, 105, 110, 99, 101], []),
  ([105, 102, 45, 110, 111, 110, 101, 45, 109, 97, 116, 99, 104], []),
  ([105, 102, 45, 114, 97, 110, 103, 101], []),
  ([105, 102, 45, 117, 110, 109, 111, 100, 105, 102, 105, 101, 100, 45, 115, 105, 110, 99, 101], []),
  ([108, 97, 115, 116, 45, 109, 111, 100, 105, 102, 105, 101, 100], []),
  ([108, 105, 110, 107], []),
  ([108, 111, 99, 97, 116, 105, 111, 110], []),
  ([109, 97, 120, 45, 102, 111, 114, 119, 97, 114, 100, 115], []),
  ([112, 114, 111, 120, 121, 45, 97, 117, 116, 104, 101, 110, 116, 105, 99, 97, 116, 101], []),
  ([112, 114, 111, 120, 121, 45, 97, 117, 116, 104, 111, 114, 105, 122, 97, 116, 105, 111, 110], []),
  ([114, 97, 110, 103, 101], []),
  ([114, 101, 102, 101, 114, 101, 114], []),
  ([114, 101, 102, 114, 101, 115, 104], []),
  ([114, 101, 116, 114, 121, 45, 97, 102, 116, 101, 114], []),
  ([115, 101, 114, 118, 101, 114], []),
  ([115, 101, 116, 45, 99, 111, 111, 107, 105, 101], []),
  ([115, 116, 114, 105, 99, 116, 45, 116, 114, 97, 110, 115, 112, 111, 114, 116, 45, 115, 101, 99, 117, 114, 105, 116, 121], []),
  ([116, 114, 97, 110, 115, 102, 101, 114, 45, 101, 110, 99, 111, 100, 105, 110, 103], []),
  ([117, 115, 101, 114, 45, 97, 103, 101, 110, 116], []),
  ([118, 97, 114, 121], []),
  ([118, 105, 97], []),
  ([119, 119, 119, 45, 97, 117, 116, 104, 101, 110, 116, 105, 99, 97, 116, 101], [])]
def statC : Array Value := (statL.flatMap fun p => [S p.1, S p.2]).toArray
def runBuilds (P : Program) : List Oper → Act → Option Act
  | [], a => some a
  | o :: l, a => match o.guard, o.op with
    | none, .build t parts => match P.built t (parts.map fun (i, x) => (i, a.eval x)).toList with
      | some cells => runBuilds P l (a.put o.dst (.agg cells))
      | none => none
    | _, _ => none
theorem wpList_builds {P : Program} {ops : Array Oper} {Q : Exit → Act → World → Prop} {w : World} {α : Type} (f : Act → α) (v : α) : ∀ (n : Nat) (l : List Oper) (a : Act), (runBuilds P (l.take n) a).map f = some v → (∀ a', f a' = v → wpList P ops Q (l.drop n) a' w) → wpList P ops Q l a w := by
  intro n
  induction n with
  | zero =>
    intro l a h hk
    simp only [List.take_zero, runBuilds, Option.map_some, Option.some.injEq] at h
    exact hk a h
  | succ n ih =>
    intro l a h hk
    cases l with
    | nil =>
      simp only [List.take_nil, runBuilds, Option.map_some, Option.some.injEq] at h
      exact hk a h
    | cons o l =>
      simp only [List.take_succ_cons, runBuilds] at h
      split at h
      · rename_i t parts hg ho
        split at h
        · rename_i cells hc
          refine wpList_plain hg fun K hK => ?_
          refine wp_build t parts ho (by rw [hc]; rfl) (hK _ _ ?_)
          rw [hc]
          exact ih l _ h hk
        · simp at h
      · simp at h

theorem results_cell1 {fn : Func} {a : Tmp} {t : TypeId} (h : fn.results = #[.cell a t]) {tmps : Array Value} {P : Program} {w : World} {p : Addr} {v : Value} (hp : tmps.getD a undef = .pointer (some p)) (hl : (loadVar t p).run P w = .ok v w) :
    (results fn tmps).run P w = .ok v w := by
  rw [Array.getD_eq_getD_getElem?] at hp
  simp [results, h, hp, asAddr, hl]

theorem results_cell_tmp {fn : Func} {a b : Tmp} {t : TypeId} (h : fn.results = #[.cell a t, .tmp b]) {tmps : Array Value} {P : Program} {w : World} {p : Addr} {v u : Value} (hp : tmps.getD a undef = .pointer (some p)) (hu : tmps.getD b undef = u) (hl : (loadVar t p).run P w = .ok v w) :
    (results fn tmps).run P w = .ok (.tuple #[v, u]) w := by
  rw [Array.getD_eq_getD_getElem?] at hp hu
  simp [results, h, hp, hu, asAddr, hl]

theorem row_below (w : World) (cs cs' : Array Value) (t : TypeId) : Below w.heap.size w ((w.alloc (.cells cs t)).setRow w.heap.size cs') := by
  refine ⟨rfl, rfl, rfl, by simp, fun k hk => ?_⟩
  rw [setRow_other _ _ _ _ (by omega)]
  exact Below.heap_alloc w _ k hk

set_option maxRecDepth 100000 in
set_option maxHeartbeats 4000000 in
theorem Fixed_any (w : World) :
    Calls Tryz.prog 197 #[] w fun e w' => e = .returned (.agg statC) ∧ Below w.heap.size w w' := by
  have h0 : (w.alloc (.cells Tryz.zeroCells279 279)).heap[w.heap.size]? = some (.cells Tryz.zeroCells279 279 (0, 0)) := heap_alloc_new w _
  obtain ⟨W, eW⟩ : ∃ W, W = (w.alloc (.cells Tryz.zeroCells279 279)).setRow w.heap.size statC := ⟨_, rfl⟩
  have h1 : W.heap[w.heap.size]? = some (.cells statC 279 (0, 0)) := by rw [eW]; exact setRow_heap _ _ _ _ _ _ h0
  have hb : Below w.heap.size w W := by
    rw [eW]
    refine ⟨rfl, rfl, rfl, by simp, fun k hk => ?_⟩
    rw [setRow_other _ _ _ _ (by omega)]
    exact Below.heap_alloc w _ k hk
  have hl := run_loadVar_row (P := Tryz.prog) W w.heap.size 279 279 statC (0, 0) _ h1 Tryz.underlying279 (by rfl) (by kernel_rfl)
  go_enter Tryz.func197, Tryz.ntmps197
  go_upto_region 1 with fail
  refine wp_region_lit ?_
  refine wpList_builds (fun a => (a.tmps[0]?, a.eval (.tmp 0), a.eval (.tmp 62), a.defers)) (some (.pointer (some ⟨w.heap.size, 0, none⟩)), .pointer (some ⟨w.heap.size, 0, none⟩), .agg statC, []) 62 _ _ (by kernel_rfl) ?_
  intro a' ha
  simp only [Prod.mk.injEq] at ha
  obtain ⟨k1, k2, k3, k4⟩ := ha
  refine wpList_store_row rfl _ _ _ rfl w.heap.size statC k2 k3 279 _ h0 (by kernel_rfl) (by kernel_rfl) (by kernel_rfl) ?_
  refine wpList_nil ?_
  rw [← eW]
  show Exit.then _ _ Exit.normal a' W
  clear eW h0
  go_wp2
  refine bodyPost_ret (v := .agg statC) ?_ k4 ⟨rfl, hb⟩
  exact results_cell1 Tryz.results197 (by rw [Array.getD_eq_getD_getElem?, k1]; rfl) hl


end Go.Proofs.YtlkfmhbmcicmfaaGreatDoor

namespace Go.Proofs.YtlkfmhbmcicmfaaGreatDoor
open Go.RowKit Go.Dr

theorem catch_idle (p0 p1 p2 : Value) (w : World) :
    CallsD Tryz.prog 128 #[p0, p1, p2] .returning w fun e u' w' => e = .returned (.tuple #[]) ∧ u' = .returning ∧ w' = w := by
  refine callsD_of_wpS Tryz.func128 rfl fun c₀ cs hu => ?_
  apply wpS_seq
  apply wpS_region
  simp [wpOpsS, go_sem, recoverD, hu, Tryz.ntmps128, Exit.thenS]
  apply wpS_seq
  apply wpS_region
  simp [wpOpsS, go_sem, Exit.thenS, Array.replicate]
  refine wpS_cond (t := false) (by simp [Act.eval]) ?_
  simp only [Bool.false_eq_true, if_false]
  refine wpS_of_wp (wp_skip ?_)
  cases c₀
  simp_all [bodyPostS, results, Tryz.results128]

end Go.Proofs.YtlkfmhbmcicmfaaGreatDoor

namespace Go.Proofs.YtlkfmhbmcicmfaaGreatDoor
open Go.RowKit Go.Dr

/-- How a number reads. -/
def Rn : Value → Option (DataW Unit × List MemPlace)
  | .int .i64 x => some (.lit (.int .i64 x), [])
  | _ => none
theorem Rn_int (x : Int) : Rn (.int .i64 x) = some (.lit (.int .i64 x), []) := rfl
/-- the map that leads from 1 to a number, and from nothing else -/
def OM (w : World) (o : Nat) (x : Int) : Prop := w.ownsMap Tryz.prog 3 Rn o 1 (.map [(.int .i64 1, .lit (.int .i64 x))])
theorem OM.put {w : World} {o : Nat} {x : Int} (h : OM w o x) (y : Int) : ∃ w', (Instr.mapUpdate 97 (.map (some o)) (.int .i64 1) (.int .i64 y)).run Tryz.prog w = .ok () w' ∧ OM w' o y ∧ w.mapTurned w' o := by
  obtain ⟨w', hrun, ho, hm⟩ := h.store (Maps.int_keyed Tryz.underlying3) Tryz.underlying97 (by decide) (Maps.keyOf_int_mk Tryz.underlying3 (show (Lit.int .i64 1).wf = true by decide)) (Rn_int y)
  refine ⟨w', hrun, ?_, hm⟩
  have := World.ownsMap.tight ho
  exact this
theorem OM.new {w : World} {o : Nat} (h : w.heap[o]? = some (.map #[] 0)) (y : Int) : ∃ w', (Instr.mapUpdate 97 (.map (some o)) (.int .i64 1) (.int .i64 y)).run Tryz.prog w = .ok () w' ∧ OM w' o y ∧ w.mapTurned w' o := by
  have h0 : w.ownsMap Tryz.prog 3 Rn o 0 (.map []) := ⟨#[], 0, h, ⟨by simp, MapKept.stamped_empty 0, by simp⟩, Nat.le_refl _, rfl⟩
  obtain ⟨w', hrun, ho, hm⟩ := h0.store (Maps.int_keyed Tryz.underlying3) Tryz.underlying97 (by decide) (Maps.keyOf_int_mk Tryz.underlying3 (show (Lit.int .i64 1).wf = true by decide)) (Rn_int y)
  exact ⟨w', hrun, ho, hm⟩
theorem OM.block {w w' : World} {o : Nat} {x : Int} (h : OM w o x) (hb : w'.heap[o]? = w.heap[o]?) : OM w' o x := by
  obtain ⟨es, clock, h1, F, h2, h3⟩ := h
  exact ⟨es, clock, hb.trans h1, F, h2, h3⟩
theorem OM.lt {w : World} {o : Nat} {x : Int} (h : OM w o x) : o < w.heap.size := by
  obtain ⟨es, clock, h1, -⟩ := h
  exact lt_of_block h1
theorem OM.obj {w : World} {o : Nat} {x : Int} (h : OM w o x) : ∃ es clock, w.heap[o]? = some (.map es clock) := by
  obtain ⟨es, clock, h1, -⟩ := h
  exact ⟨es, clock, h1⟩
end Go.Proofs.YtlkfmhbmcicmfaaGreatDoor

namespace Go.Proofs.YtlkfmhbmcicmfaaGreatDoor
open Go.RowKit Go.Dr

set_option maxRecDepth 100000 in
set_option maxHeartbeats 4000000 in
theorem Length_nil (w : World) : Calls Tryz.prog 133 #[.slice none 0 0] w fun e w' => e = .returned (.tuple #[.int .i64 0, .bool false, .int .i64 0]) ∧ w' = w := by
  go_enter Tryz.func133, Tryz.ntmps133
  go_wp2
  refine wp_loop_rounds 1 ?_
  rw [rounds_succ]
  go_wp2
  go_ret3
  exact ⟨rfl, rfl⟩

abbrev statB : Bytes := [58, 115, 116, 97, 116, 117, 115]
/-- How a struct of one text reads. -/
def Rw : Value → Option (DataW Unit × List MemPlace)
  | .agg cs => match cs.toList with
    | [.string x] => some (.lit (.string x.data.toList), [])
    | _ => none
  | _ => none
theorem Rw_inv {v : Value} {l : Bytes} {ps : List MemPlace} (h : Rw v = some (.lit (.string l), ps)) : v = .agg #[S l] := by
  unfold Rw at h
  split at h
  · split at h
    · rename_i cs _ x hx
      simp only [Option.some.injEq, Prod.mk.injEq, DataW.lit.injEq, Lit.string.injEq] at h
      have e : cs = #[.string x] := by rw [← Array.toArray_toList (xs := cs), hx]
      rw [e, ← h.1]
    · cases h
  · cases h
theorem zeroWords (w : World) : (zeroValue 261).run Tryz.prog w = .ok (.agg #[S []]) w := by kernel_rfl
/-- the map that leads from ':status' to a text, and from nothing else -/
def SM (w : World) (b : Nat) (l : Bytes) : Prop := w.ownsMap Tryz.prog 9 Rw b 1 (.map [(.string statB, .lit (.string l))])
theorem key_stat : keyOf Tryz.prog 9 (S statB) = some (.string statB) := Go.WideMaps.keyOf_string_mk Tryz.underlying9 (s := ⟨statB.toArray⟩) (by decide)
theorem SM.new {w : World} {b : Nat} (h : w.heap[b]? = some (.map #[] 0)) (l : Bytes) : ∃ w', (Instr.mapUpdate 257 (.map (some b)) (S statB) (.agg #[S l])).run Tryz.prog w = .ok () w' ∧ SM w' b l ∧ w.mapTurned w' b := by
  have h0 : w.ownsMap Tryz.prog 9 Rw b 0 (.map []) := ⟨#[], 0, h, ⟨by simp, MapKept.stamped_empty 0, by simp⟩, Nat.le_refl _, rfl⟩
  obtain ⟨w', hrun, ho, hm⟩ := h0.store (Maps.string_keyed Tryz.underlying9) Tryz.underlying257 (by decide) key_stat (show Rw (.agg #[S l]) = some (.lit (.string l), []) from rfl)
  exact ⟨w', hrun, ho, hm⟩
theorem SM.none {w : World} {b : Nat} (h : w.heap[b]? = some (.map #[] 0)) : (Instr.lookup 257 (.map (some b)) (S statB) true).run Tryz.prog w = .ok (.tuple #[.agg #[S []], .bool false]) w := by
  have h0 : w.ownsMap Tryz.prog 9 Rw b 0 (.map []) := ⟨#[], 0, h, ⟨by simp, MapKept.stamped_empty 0, by simp⟩, Nat.le_refl _, rfl⟩
  obtain ⟨v, ps, hrun, hv⟩ := h0.look_ok (Maps.string_keyed Tryz.underlying9) Tryz.underlying257 (zeroWords w) (zd := .lit (.string [])) (zp := []) rfl key_stat
  have hv := Rw_inv (l := []) hv
  subst hv
  exact hrun
end Go.Proofs.YtlkfmhbmcicmfaaGreatDoor

namespace Go.Proofs.YtlkfmhbmcicmfaaGreatDoor
open Go.RowKit Go.Dr

theorem but_turned {w w' : World} {o : Nat} (h : w.mapTurned w' o) : But (fun k => k = o) w w' := But.grown h.grown rfl

end Go.Proofs.YtlkfmhbmcicmfaaGreatDoor

namespace Go.Proofs.YtlkfmhbmcicmfaaGreatDoor
open Go.RowKit Go.Dr

theorem SM.block {w w' : World} {b : Nat} {l : Bytes} (h : SM w b l) (hb : w'.heap[b]? = w.heap[b]?) : SM w' b l := by
  obtain ⟨es, clock, h1, F, h2, h3⟩ := h
  exact ⟨es, clock, hb.trans h1, F, h2, h3⟩
end Go.Proofs.YtlkfmhbmcicmfaaGreatDoor

