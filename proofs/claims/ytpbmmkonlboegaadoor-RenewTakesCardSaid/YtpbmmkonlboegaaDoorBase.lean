
/- Small words and laws that all walks of this seat share: texts as lists of bytes, slices that are read, slices that are owned. No program in sight. -/
import Derived.WalkKit
import Derived.WalkSpells
import Derived.WalkLawsBesides
import Derived.WalkSmall
import Derived.BigQuiet
import Derived.Deep.QuietTactic
import Derived.Lib.Hide
namespace Go.Dr
open Go.RowKit

abbrev Bytes := List UInt8

/-- A text as a value. -/
abbrev S (l : Bytes) : Value := .string ⟨l.toArray⟩

theorem ba_get (l : Bytes) (i : Nat) (h : i < (⟨l.toArray⟩ : ByteArray).size) : (⟨l.toArray⟩ : ByteArray)[i] = l[i]'h := rfl
theorem ba_extract (l : Bytes) (a b : Nat) : (⟨l.toArray⟩ : ByteArray).extract a b = ⟨((l.take b).drop a).toArray⟩ := by
  rw [ByteArray.extract_mk, List.drop_take]
theorem ba_append (a b : Bytes) : (⟨a.toArray⟩ : ByteArray) ++ ⟨b.toArray⟩ = ⟨(a ++ b).toArray⟩ := by
  apply ByteArray.ext
  simp
theorem ba_inj {a b : Bytes} (h : (⟨a.toArray⟩ : ByteArray) = ⟨b.toArray⟩) : a = b := by
  have := congrArg (fun x => x.data.toList) h
  simpa using this
attribute [go_sem] ba_get ba_extract ba_append

/-- A slice value reads as n elements, whose cells are xs; where there are any, they lie below block B. -/
def Rd (B : Nat) (w : World) (size : Nat) (v : Value) (n : Nat) (xs : List Value) : Prop :=
  ∃ a cap, v = .slice a n cap ∧ n ≤ cap ∧ cap ≤ maxLen ∧ xs.length = n * size ∧ (a = none → cap = 0) ∧
    ∀ j u, xs[j]? = some u → ∃ b off, a = some ⟨b, off, none⟩ ∧ b < B ∧ w.cell? ⟨b, off + j, none⟩ = some u

theorem Rd.nil (B : Nat) (w : World) (size : Nat) : Rd B w size (.slice none 0 0) 0 [] :=
  ⟨none, 0, rfl, Nat.le_refl _, by unfold maxLen; omega, by simp, fun _ => rfl, by simp⟩

theorem Rd.mono {B B' : Nat} {w : World} {size : Nat} {v : Value} {n : Nat} {xs : List Value} (h : Rd B w size v n xs) (hB : B ≤ B') : Rd B' w size v n xs := by
  obtain ⟨a, cap, h1, h2, h3, h4, h5, h6⟩ := h
  exact ⟨a, cap, h1, h2, h3, h4, h5, fun j u hu => let ⟨b, off, e1, e2, e3⟩ := h6 j u hu; ⟨b, off, e1, by omega, e3⟩⟩

theorem Rd.below {B : Nat} {w w' : World} {size : Nat} {v : Value} {n : Nat} {xs : List Value} (h : Rd B w size v n xs) (hb : Below B w w') : Rd B w' size v n xs := by
  obtain ⟨a, cap, h1, h2, h3, h4, h5, h6⟩ := h
  refine ⟨a, cap, h1, h2, h3, h4, h5, fun j u hu => ?_⟩
  obtain ⟨b, off, e1, e2, e3⟩ := h6 j u hu
  exact ⟨b, off, e1, e2, by rw [hb.cell (p := ⟨b, off + j, none⟩) e2]; exact e3⟩

theorem Rd.len {B : Nat} {w : World} {size : Nat} {v : Value} {n : Nat} {xs : List Value} (h : Rd B w size v n xs) : n ≤ maxLen := by
  obtain ⟨a, cap, h1, h2, h3, h4, h5, h6⟩ := h
  omega

/-- What is owned is read. -/
theorem Rd.own {base : Nat} {w : World} {e : TypeId} {size : Nat} {v : Value} {n : Nat} {xs : List Value} (h : w.ownsRow base e size v n xs) : Rd w.heap.size w size v n xs := by
  obtain ⟨hl, h⟩ := h
  rcases h with ⟨rfl, rfl⟩ | ⟨g, cap, cur, rfl, hb, hg, hnc, hcm, hcs, htake⟩
  · have : xs = [] := List.eq_nil_of_length_eq_zero (by simpa using hl)
    subst this
    exact Rd.nil _ _ _
  · refine ⟨_, cap, rfl, hnc, hcm, hl, by simp, fun j u hu => ⟨g, 0, rfl, (Array.getElem?_eq_some_iff.1 hg).1, ?_⟩⟩
    rw [Nat.zero_add, cell_of_row w g j cur e (0, 0) hg]
    rw [← htake, List.getElem?_take] at hu
    split at hu
    · simpa using hu
    · cases hu

/-- What is owned stays owned while nothing below a greater block turns. -/
theorem own_below {base : Nat} {w w' : World} {e : TypeId} {size : Nat} {v : Value} {n : Nat} {xs : List Value} (h : w.ownsRow base e size v n xs) (hb : Below w.heap.size w w') : w'.ownsRow base e size v n xs := by
  refine ⟨h.1, ?_⟩
  rcases h.2 with hn | ⟨g, cap, cur, rfl, hbg, hgg, rest⟩
  · exact .inl hn
  · exact .inr ⟨g, cap, cur, rfl, hbg, by rw [hb.block g (Array.getElem?_eq_some_iff.1 hgg).1]; exact hgg, rest⟩

/-- A field of a list: its name, its value, its mark. -/
structure F where
  n : Bytes
  v : Bytes
  m : Bool
  deriving DecidableEq, Inhabited

def F.cells (f : F) : List Value := [S f.n, S f.v, .bool f.m]
def fcells (l : List F) : List Value := l.flatMap F.cells
theorem fcells_length (l : List F) : (fcells l).length = l.length * 3 := by
  induction l with
  | nil => rfl
  | cons f l ih => simp only [fcells, List.flatMap_cons, List.length_append, List.length_cons] at *; simp [F.cells, ih]; omega
theorem fcells_append (a b : List F) : fcells (a ++ b) = fcells a ++ fcells b := by simp [fcells]
theorem fcells_get (l : List F) (k : Nat) (h : k < l.length) (j : Nat) (hj : j < 3) : (fcells l)[k * 3 + j]? = (l[k].cells)[j]? := by
  induction l generalizing k with
  | nil => simp at h
  | cons f l ih =>
    simp only [fcells, List.flatMap_cons]
    cases k with
    | zero => rw [List.getElem?_append_left (by simp [F.cells]; omega)]; simp
    | succ k =>
      rw [List.getElem?_append_right (by simp [F.cells]; omega)]
      have := ih k (by simpa using h)
      simp only [fcells] at this
      simp only [List.getElem_cons_succ]
      rw [← this]
      congr 1
      simp [F.cells]; omega

/-- The fields of a slice, read. -/
def Fs (B : Nat) (w : World) (v : Value) (l : List F) : Prop := Rd B w 3 v l.length (fcells l)
/-- The texts of a slice, read. -/
def Ss (B : Nat) (w : World) (v : Value) (l : List Bytes) : Prop := Rd B w 1 v l.length (l.map S)

theorem Fs.at {B : Nat} {w : World} {a : Option Addr} {n cap : Nat} {l : List F} (h : Fs B w (.slice a n cap) l) (k : Nat) (hk : k < l.length) :
    ∃ b off, a = some ⟨b, off, none⟩ ∧ b < B ∧ w.cell? ⟨b, off + k * 3, none⟩ = some (S l[k].n) ∧ w.cell? ⟨b, off + k * 3 + 1, none⟩ = some (S l[k].v) ∧ w.cell? ⟨b, off + k * 3 + 2, none⟩ = some (.bool l[k].m) := by
  obtain ⟨a', cap', h1, h2, h3, h4, h5, h6⟩ := h
  simp only [Value.slice.injEq] at h1
  obtain ⟨rfl, rfl, rfl⟩ := h1
  obtain ⟨b, off, rfl, hb, c0⟩ := h6 (k * 3 + 0) _ (by rw [fcells_get l k hk 0 (by omega)]; rfl)
  obtain ⟨b1, off1, e1, _, c1⟩ := h6 (k * 3 + 1) _ (by rw [fcells_get l k hk 1 (by omega)]; rfl)
  obtain ⟨b2, off2, e2, _, c2⟩ := h6 (k * 3 + 2) _ (by rw [fcells_get l k hk 2 (by omega)]; rfl)
  simp only [Option.some.injEq, Addr.mk.injEq, and_true] at e1 e2
  obtain ⟨rfl, rfl⟩ := e1
  obtain ⟨rfl, rfl⟩ := e2
  exact ⟨b, off, rfl, hb, c0, by rw [Nat.add_assoc]; exact c1, by rw [Nat.add_assoc]; exact c2⟩

theorem Ss.at {B : Nat} {w : World} {a : Option Addr} {n cap : Nat} {l : List Bytes} (h : Ss B w (.slice a n cap) l) (k : Nat) (hk : k < l.length) :
    ∃ b off, a = some ⟨b, off, none⟩ ∧ b < B ∧ w.cell? ⟨b, off + k, none⟩ = some (S l[k]) := by
  obtain ⟨a', cap', h1, h2, h3, h4, h5, h6⟩ := h
  simp only [Value.slice.injEq] at h1
  obtain ⟨rfl, rfl, rfl⟩ := h1
  obtain ⟨b, off, rfl, hb, c0⟩ := h6 k _ (by rw [List.getElem?_map, List.getElem?_eq_getElem hk]; rfl)
  exact ⟨b, off, rfl, hb, c0⟩

theorem Fs.below {B : Nat} {w w' : World} {v : Value} {l : List F} (h : Fs B w v l) (hb : Below B w w') : Fs B w' v l := Rd.below h hb
theorem Ss.below {B : Nat} {w w' : World} {v : Value} {l : List Bytes} (h : Ss B w v l) (hb : Below B w w') : Ss B w' v l := Rd.below h hb
theorem Fs.mono {B B' : Nat} {w : World} {v : Value} {l : List F} (h : Fs B w v l) (hB : B ≤ B') : Fs B' w v l := Rd.mono h hB
theorem Ss.mono {B B' : Nat} {w : World} {v : Value} {l : List Bytes} (h : Ss B w v l) (hB : B ≤ B') : Ss B' w v l := Rd.mono h hB
theorem Fs.form {B : Nat} {w : World} {v : Value} {l : List F} (h : Fs B w v l) : ∃ a cap, v = .slice a l.length cap ∧ l.length ≤ 9223372036854775807 := by
  obtain ⟨a, cap, h1, h2, h3, h4, h5, h6⟩ := h
  exact ⟨a, cap, h1, by unfold maxLen at h3; omega⟩
theorem Ss.form {B : Nat} {w : World} {v : Value} {l : List Bytes} (h : Ss B w v l) : ∃ a cap, v = .slice a l.length cap ∧ l.length ≤ 9223372036854775807 := by
  obtain ⟨a, cap, h1, h2, h3, h4, h5, h6⟩ := h
  exact ⟨a, cap, h1, by unfold maxLen at h3; omega⟩

/-- Block b holds the bytes bs at its head (cells of type e), none of them frozen. -/
def BRow (w : World) (e : TypeId) (b : Nat) (bs : Bytes) : Prop :=
  ∃ C fr, w.heap[b]? = some (.cells C e fr) ∧ bs.length ≤ fr.1 ∧ ∀ i (h : i < bs.length), C[i]? = some (.int .u8 (bs[i].toNat : Int))

theorem BRow.lt {w : World} {e : TypeId} {b : Nat} {bs : Bytes} (h : BRow w e b bs) : b < w.heap.size := by
  obtain ⟨C, fr, hb, _⟩ := h
  exact (Array.getElem?_eq_some_iff.1 hb).1
theorem BRow.cell {w : World} {e : TypeId} {b : Nat} {bs : Bytes} (h : BRow w e b bs) (i : Nat) (hi : i < bs.length) : w.cell? ⟨b, i, none⟩ = some (.int .u8 (bs[i].toNat : Int)) := by
  obtain ⟨C, fr, hb, _, hc⟩ := h
  simp [World.cell?, hb, hc i hi]
theorem BRow.free {w : World} {e : TypeId} {b : Nat} {bs : Bytes} (h : BRow w e b bs) (i : Nat) (hi : i < bs.length) : w.frozen? ⟨b, i, none⟩ = false := by
  obtain ⟨C, ⟨lo, hi'⟩, hb, hf, hc⟩ := h
  simp only at hf
  simp [World.frozen?, hb]
  omega
theorem BRow.set {w : World} {e : TypeId} {b : Nat} {bs : Bytes} (h : BRow w e b bs) (i : Nat) (x : UInt8) : BRow (w.setCell ⟨b, i, none⟩ (.int .u8 (x.toNat : Int))) e b (bs.set i x) := by
  obtain ⟨C, fr, hb, hf, hc⟩ := h
  refine ⟨C.setIfInBounds i (.int .u8 (x.toNat : Int)), fr, ?_, by simpa using hf, fun j hj => ?_⟩
  · simp only [World.setCell, Array.getElem?_modify, if_true, hb]
    simp
  · have hj' : j < bs.length := by simpa using hj
    have hC : j < C.size := (Array.getElem?_eq_some_iff.1 (hc j hj')).1
    rw [Array.getElem?_setIfInBounds]
    by_cases e1 : i = j
    · subst e1
      simp [hC]
    · simp only [e1, if_false]
      rw [hc j hj']
      simp [e1]
theorem BRow.below {w w' : World} {e : TypeId} {b : Nat} {bs : Bytes} (h : BRow w e b bs) (hb : Below w.heap.size w w') : BRow w' e b bs := by
  have hlt := h.lt
  obtain ⟨C, fr, h1, h2⟩ := h
  exact ⟨C, fr, by rw [hb.block b hlt]; exact h1, h2⟩

/-- '[]byte(s)'. -/
theorem run_bytes_row {P : Program} (w : World) (src dst e : TypeId) (l : Bytes) (hs : P.underlying src = some .string) (hd : P.underlying dst = some (.slice e)) (he : P.underlying e = some (.int .u8)) :
    ∃ cap w1, (convert src dst (S l)).run P w = .ok (.slice (some ⟨w.heap.size, 0, none⟩) l.length cap) w1 ∧ l.length ≤ cap ∧ BRow w1 e w.heap.size l ∧ Below w.heap.size w w1 ∧ w1.heap.size = w.heap.size + 1 := by
  refine ⟨_, _, run_bytes_of_string w src dst e ⟨l.toArray⟩ hs hd he, grownCap_ge _ _ _ _, ⟨_, _, heap_alloc_new _ _, ?_, fun i hi => ?_⟩, (Below.refl _ _).drew.alloc (Nat.le_refl _) _, by simp⟩
  · simp [bytesRow, ByteArray.size]
  · exact bytesRow_at ⟨l.toArray⟩ _ i (by simpa using hi)

theorem wpList_bytes {P : Program} (w : World) {ops : Array Oper} {rest : List Oper} {o : Oper} {a : Act} {Q : Exit → Act → World → Prop}
    (hg : o.guard = none) (src dst : TypeId) (x : Operand) (hop : o.op = Op.convert src dst x) (e : TypeId) (l : Bytes) (hx : a.eval x = S l)
    (hs : P.underlying src = some .string) (hd : P.underlying dst = some (.slice e)) (he : P.underlying e = some (.int .u8))
    (hK : ∀ cap w1, l.length ≤ cap → BRow w1 e w.heap.size l → Below w.heap.size w w1 → w1.heap.size = w.heap.size + 1 → wpList P ops Q rest (a.put o.dst (.slice (some ⟨w.heap.size, 0, none⟩) l.length cap)) w1) :
    wpList P ops Q (o :: rest) a w := by
  refine wpList_plain hg fun K hK' => ?_
  obtain ⟨cap, w1, hrun, h1, h2, h3, h4⟩ := run_bytes_row (P := P) w src dst e l hs hd he
  unfold Oper.wp
  simp [execOp, hop, hx, hrun, Result.andThen]
  exact hK' _ _ (hK cap w1 h1 h2 h3 h4)

/-- 'string(b)' over a row of bytes. -/
theorem run_string_row {P : Program} (w : World) (src dst e : TypeId) (b cap : Nat) (l : Bytes) (hs : P.underlying src = some (.slice e)) (he : P.underlying e = some (.int .u8)) (hd : P.underlying dst = some .string)
    (h : BRow w e b l) : (convert src dst (.slice (some ⟨b, 0, none⟩) l.length cap)).run P w = .ok (S l) w :=
  run_convert_bytes_back w src dst e ⟨b, 0, none⟩ cap l hs he hd fun j hj => by
    rw [Addr.add_lit, Nat.zero_add]
    exact h.cell j hj

/-- What a callee leaves, seen from where the call began. -/
theorem Bl.tr {w a b : World} (h : Below w.heap.size w a) (k : Below a.heap.size a b) : Below w.heap.size w b := h.trans (k.mono h.size)
theorem Bl.on {B : Nat} {w a b : World} (h : Below B w a) (hB : B ≤ a.heap.size) (k : Below a.heap.size a b) : Below B w b := h.trans (k.mono hB)

theorem ret_bool {a b : Bool} (h : a = b) : Ending.returned (.bool a) = Ending.returned (.bool b) := by rw [h]
theorem ret_S {a b : Bytes} (h : a = b) : Ending.returned (S a) = Ending.returned (S b) := by rw [h]
theorem ret_int {k : IntKind} {a b : Int} (h : a = b) : Ending.returned (.int k a) = Ending.returned (.int k b) := by rw [h]

theorem take_eq_succ {α : Type} {a b : List α} {k : Nat} (hk : k < a.length) (hk' : k < b.length) (h : a.take k = b.take k) (e : a[k] = b[k]) : a.take (k + 1) = b.take (k + 1) := by
  rw [List.take_succ_eq_append_getElem hk, List.take_succ_eq_append_getElem hk', h, e]
theorem ne_of_get {α : Type} {a b : List α} {k : Nat} (hk : k < a.length) (hk' : k < b.length) (e : a[k] ≠ b[k]) : a ≠ b := by
  intro h
  subst h
  exact e rfl
theorem take_snoc {α : Type} (a : List α) (k : Nat) (hk : k < a.length) : a.take (k + 1) = a.take k ++ [a[k]] := List.take_succ_eq_append_getElem hk

/-- 'append(s, x...)' onto what the call owns: the law on append with the row of the element's type as one closed fact. -/
theorem wpList_app {P : Program} {ops : Array Oper} {rest : List Oper} {o : Oper} {a : Act} {Q : Exit → Act → World → Prop} {w : World} (hgd : o.guard = none) (s x : Operand) (t : TypeId)
    (ho : o.op = .call { callee := .builtin .append, args := #[s, x], argTypes := #[t, t] })
    (base : Nat) (e : TypeId) (z : Value) (size bytes : Nat) (ht : P.underlying t = some (.slice e)) (hi : (P.info? e).map (fun i => (i.zero, i.size, i.bytes)) = some (some z, size, bytes))
    (hzs : z.cells.size = size) (hsz : 0 < size)
    (v : Value) (n : Nat) (xs : List Value) (hs : a.eval s = v) (hown : w.ownsRow base e size v n xs)
    (ad : Addr) (m c : Nat) (news : List Value) (hx : a.eval x = .slice (some ad) m c) (hl : news.length = m * size) (hnews : ∀ j u, news[j]? = some u → w.cell? (ad.add j) = some u) (h1 : ∀ u ∈ news, u.oneCell' = true)
    (hm : n + m ≤ maxLen) (hbytes : (n + m) * bytes ≤ 140737488355328) (hbase : base ≤ w.heap.size)
    (h : ∀ v' w', w'.ownsRow base e size v' (n + m) (xs ++ news) → w.grownBy w' v.ownBlock → (v' = .slice none 0 0 ↔ v = .slice none 0 0 ∧ m = 0) → wpList P ops Q rest (a.put o.dst v') w') : wpList P ops Q (o :: rest) a w := by
  obtain ⟨i, hi, hz, hsize, hby⟩ := info_parts hi
  exact wpList_append_own w hgd s x t ho base e i z size bytes ht hi hz hsize hby hzs hsz v n xs hs hown ad m c news hx hl hnews h1 hm hbytes hbase h

/-- What an append of the call's own leaves below. -/
theorem Bl.grown {B base : Nat} {w0 w w' : World} {e : TypeId} {size : Nat} {v : Value} {n : Nat} {xs : List Value} (h : Below B w0 w) (hown : w.ownsRow base e size v n xs) (hg : w.grownBy w' v.ownBlock) (hB : B ≤ w.heap.size) (hb : B ≤ base) : Below B w0 w' :=
  h.grown hg hB fun k hk => Nat.le_trans hb (hown.lt k hk).1

theorem cell_at_new (w : World) (u : Value) (t : TypeId) : ∀ j x, [u][j]? = some x → (w.alloc (.cells #[u] t)).cell? ((⟨w.heap.size, 0, none⟩ : Addr).add j) = some x := by
  intro j x hx
  cases j with
  | zero =>
    simp at hx
    subst hx
    rw [Addr.add_lit]
    simp [World.cell?_alloc_mark]
  | succ j => simp at hx

/-- A byte as a value. -/
abbrev B8 (c : UInt8) : Value := .int .u8 (c.toNat : Int)

/-- 'string(b)' over what the call owns. -/
theorem run_string_own {P : Program} (w : World) (src dst e : TypeId) (base : Nat) (v : Value) (l : Bytes) (hs : P.underlying src = some (.slice e)) (he : P.underlying e = some (.int .u8)) (hd : P.underlying dst = some .string)
    (h : w.ownsRow base e 1 v l.length (l.map B8)) : (convert src dst v).run P w = .ok (S l) w := by
  rcases h.2 with ⟨rfl, hn⟩ | ⟨g, cap, cur, rfl, rest⟩
  · have : l = [] := List.eq_nil_of_length_eq_zero hn
    subst this
    exact run_convert_bytes_nil w src e hs he 0 0 dst hd
  · exact run_convert_bytes_back w src dst e ⟨g, 0, none⟩ cap l hs he hd fun j hj => by
      refine h.cells (g := g) rfl j _ ?_
      rw [List.getElem?_map, List.getElem?_eq_getElem hj]
      rfl

/-- 'append(s, x)' of one value of one cell, behind the literal's block. -/
theorem wpList_app1 {P : Program} {ops : Array Oper} {rest : List Oper} {o : Oper} {a : Act} {Q : Exit → Act → World → Prop} {w : World} {u : Value} {e : TypeId} (hgd : o.guard = none) (s x : Operand) (t : TypeId)
    (ho : o.op = .call { callee := .builtin .append, args := #[s, x], argTypes := #[t, t] })
    (base : Nat) (z : Value) (bytes : Nat) (ht : P.underlying t = some (.slice e)) (hi : (P.info? e).map (fun i => (i.zero, i.size, i.bytes)) = some (some z, 1, bytes))
    (hzs : z.cells.size = 1) (h1 : u.oneCell' = true)
    (v : Value) (n : Nat) (xs : List Value) (hs : a.eval s = v) (hown : w.ownsRow base e 1 v n xs)
    (hx : a.eval x = .slice (some ⟨w.heap.size, 0, none⟩) 1 1)
    (hbytes : (n + 1) * bytes ≤ 140737488355328) (hb0 : 0 < bytes) (hbase : base ≤ w.heap.size)
    (h : ∀ a' c' w', w'.ownsRow base e 1 (.slice a' (n + 1) c') (n + 1) (xs ++ [u]) → Below base w w' → w.heap.size ≤ w'.heap.size → wpList P ops Q rest (a.put o.dst (.slice a' (n + 1) c')) w') : wpList P ops Q (o :: rest) a (w.alloc (.cells #[u] e)) := by
  have hmul : n + 1 ≤ (n + 1) * bytes := Nat.le_mul_of_pos_right _ hb0
  refine wpList_app hgd s x t ho base e z 1 bytes ht hi hzs (by decide) v n xs hs (hown.alloc _) ⟨w.heap.size, 0, none⟩ 1 1 [u] hx rfl (cell_at_new w u e) (by simpa using h1)
    (by unfold maxLen; omega) hbytes (by simp; omega) fun v' w' ho' hg _ => ?_
  obtain ⟨a', c', rfl⟩ : ∃ a' c', v' = .slice a' (n + 1) c' := by
    rcases ho'.2 with ⟨_, h0⟩ | ⟨g, cap, cur, rfl, _⟩
    · omega
    · exact ⟨_, _, rfl⟩
  refine h a' c' w' ho' ?_ ?_
  · exact Bl.grown ((Below.refl base w).alloc hbase _) (hown.alloc _) hg (by simp; omega) (Nat.le_refl _)
  · have := hg.size
    simp at this
    omega

/-- What a call answers that gives texts in a list of its own (e: the number of the type string). -/
def RetSs (ts : TypeId) (w : World) (l : List Bytes) (e : Ending) (w' : World) : Prop := ∃ v, e = .returned v ∧ w'.ownsRow w.heap.size ts 1 v l.length (l.map S) ∧ Below w.heap.size w w'
/-- .. fields in a list of its own. -/
def RetFs (tf : TypeId) (w : World) (l : List F) (e : Ending) (w' : World) : Prop := ∃ v, e = .returned v ∧ w'.ownsRow w.heap.size tf 3 v l.length (fcells l) ∧ Below w.heap.size w w'
theorem drop_take_one (l : Bytes) (k : Nat) (h : k < l.length) : (l.take (k + 1)).drop k = [l[k]] := by
  rw [List.take_succ_eq_append_getElem h, List.drop_append_of_le_length (by simp; omega)]
  simp
theorem u8_ne {c d : UInt8} (h : c ≠ d) : ((c.toNat : Int) == (d.toNat : Int)) = false := by
  rw [beq_eq_false_iff_ne]
  intro e
  exact h (UInt8.toNat_inj.1 (by omega))
theorem u8_nb {c d : UInt8} (h : c ≠ d) : ((c.toNat : Int) != (d.toNat : Int)) = true := by rw [bne, u8_ne h]; rfl
theorem u8_eq {c d : UInt8} (h : c = d) : ((c.toNat : Int) == (d.toNat : Int)) = true := by rw [h]; simp
theorem u8_eb {c d : UInt8} (h : c = d) : ((c.toNat : Int) != (d.toNat : Int)) = false := by rw [h]; simp
theorem i_eq {a b : Nat} (h : a = b) : ((a : Int) == (b : Int)) = true := by rw [h]; simp
theorem i_ne {a b : Nat} (h : a ≠ b) : ((a : Int) == (b : Int)) = false := by
  rw [beq_eq_false_iff_ne]
  omega

/-- A variable of one cell (captured, or boxed). -/
def One (w : World) (b : Nat) (t : TypeId) (v : Value) : Prop := w.heap[b]? = some (.cells #[v] t (0, 0))
theorem One.lt {w : World} {b : Nat} {t : TypeId} {v : Value} (h : One w b t v) : b < w.heap.size := lt_of_block h
theorem One.cell {w : World} {b : Nat} {t : TypeId} {v : Value} (h : One w b t v) : w.cell? ⟨b, 0, none⟩ = some v := cell_of_one h
theorem One.free {w : World} {b : Nat} {t : TypeId} {v : Value} (h : One w b t v) : w.frozen? ⟨b, 0, none⟩ = false := free_of_one h
theorem One.below {B : Nat} {w w' : World} {b : Nat} {t : TypeId} {v : Value} (h : One w b t v) (hb : Below B w w') (hB : b < B) : One w' b t v := (hb.block b hB).trans h
theorem One.set {w : World} {b : Nat} {t : TypeId} {v : Value} (h : One w b t v) (u : Value) : One (w.setCell ⟨b, 0, none⟩ u) b t u := one_setCell h
theorem One.other {w : World} {b : Nat} {t : TypeId} {v : Value} (h : One w b t v) {p : Addr} (hp : b ≠ p.block) (u : Value) : One (w.setCell p u) b t v := (Below.heap_setCell w p u b hp).trans h
theorem One.alloc {w : World} {b : Nat} {t : TypeId} {v : Value} (h : One w b t v) (o : Obj) : One (w.alloc o) b t v := (Below.heap_alloc w o b h.lt).trans h
theorem One.new (w : World) (t : TypeId) (v : Value) : One (w.alloc (.cells #[v] t)) w.heap.size t v := heap_alloc_new w _

theorem own_base {base base' : Nat} {w : World} {e : TypeId} {size : Nat} {v : Value} {n : Nat} {xs : List Value} (h : w.ownsRow base e size v n xs) (hb : base' ≤ base) : w.ownsRow base' e size v n xs := by
  refine ⟨h.1, ?_⟩
  rcases h.2 with hn | ⟨g, cap, cur, rfl, hbg, rest⟩
  · exact .inl hn
  · exact .inr ⟨g, cap, cur, rfl, Nat.le_trans hb hbg, rest⟩

/-- 'append(s, f)' of one field, behind the literal's block. -/
theorem wpList_appF {P : Program} {ops : Array Oper} {rest : List Oper} {o : Oper} {a : Act} {Q : Exit → Act → World → Prop} {w : World} {u0 u1 u2 : Value} {e : TypeId} (hgd : o.guard = none) (s x : Operand) (t : TypeId)
    (ho : o.op = .call { callee := .builtin .append, args := #[s, x], argTypes := #[t, t] })
    (base : Nat) (ht : P.underlying t = some (.slice e)) (hi : (P.info? e).map (fun i => (i.zero, i.size, i.bytes)) = some (some (.agg #[.string ByteArray.empty, .string ByteArray.empty, .bool false]), 3, 40))
    (v : Value) (n : Nat) (xs : List Value) (hs : a.eval s = v) (hown : w.ownsRow base e 3 v n xs)
    (hx : a.eval x = .slice (some ⟨w.heap.size, 0, none⟩) 1 1)
    (hbytes : (n + 1) * 40 ≤ 140737488355328) (hbase : base ≤ w.heap.size)
    (h1 : (u0.oneCell' && u1.oneCell' && u2.oneCell') = true)
    (h : ∀ a' c' w', w'.ownsRow base e 3 (.slice a' (n + 1) c') (n + 1) (xs ++ [u0, u1, u2]) → Below base w w' → w.heap.size ≤ w'.heap.size → wpList P ops Q rest (a.put o.dst (.slice a' (n + 1) c')) w') : wpList P ops Q (o :: rest) a (w.alloc (.cells #[u0, u1, u2] e)) := by
  simp only [Bool.and_eq_true] at h1
  refine wpList_app hgd s x t ho base e _ 3 40 ht hi rfl (by decide) v n xs hs (hown.alloc _) ⟨w.heap.size, 0, none⟩ 1 1 [u0, u1, u2] hx rfl ?_ (by simp [h1])
    (by unfold maxLen; omega) hbytes (by simp; omega) fun v' w' ho' hg _ => ?_
  · intro j y hy
    rw [Addr.add_lit, Nat.zero_add, World.cell?_alloc_mark]
    simpa using hy
  obtain ⟨a', c', rfl⟩ : ∃ a' c', v' = .slice a' (n + 1) c' := by
    rcases ho'.2 with ⟨_, h0⟩ | ⟨g, cap, cur, rfl, _⟩
    · omega
    · exact ⟨_, _, rfl⟩
  refine h a' c' w' ho' ?_ ?_
  · exact Bl.grown ((Below.refl base w).alloc hbase _) (hown.alloc _) hg (by simp; omega) (Nat.le_refl _)
  · have := hg.size
    simp at this
    omega

/-- A list's cost: what bounds all that is made of it. -/
def fsum (l : List F) : Nat := (l.map fun f => f.n.length + f.v.length + 32).sum
theorem fsum_append (a b : List F) : fsum (a ++ b) = fsum a + fsum b := by simp [fsum]
theorem fsum_mem {l : List F} {f : F} (h : f ∈ l) : f.n.length + f.v.length + 32 ≤ fsum l := by
  induction l with
  | nil => cases h
  | cons g l ih =>
    simp only [fsum, List.map_cons, List.sum_cons] at *
    cases h with
    | head => omega
    | tail _ h => have := ih h; omega
theorem fsum_length (l : List F) : l.length * 32 ≤ fsum l := by
  induction l with
  | nil => simp [fsum]
  | cons g l ih => simp only [fsum, List.map_cons, List.sum_cons, List.length_cons] at *; omega
theorem fsum_take (l : List F) (k : Nat) : fsum (l.take k) ≤ fsum l := by
  conv => rhs; rw [← List.take_append_drop k l]
  rw [fsum_append]
  omega
theorem fsum_filter (l : List F) (p : F → Bool) : fsum (l.filter p) ≤ fsum l := by
  induction l with
  | nil => simp
  | cons g l ih =>
    rw [List.filter_cons]
    split <;> simp only [fsum, List.map_cons, List.sum_cons] at * <;> omega

/-- All old cells and marks read as before: two rules for the walk. -/
theorem bcell {W w1 : World} (hb : Below W.heap.size W w1) : (∀ b o, b < W.heap.size → w1.cell? ⟨b, o, none⟩ = W.cell? ⟨b, o, none⟩) ∧ (∀ b o, b < W.heap.size → w1.frozen? ⟨b, o, none⟩ = W.frozen? ⟨b, o, none⟩) :=
  ⟨fun b o h => hb.cell (p := ⟨b, o, none⟩) h, fun b o h => hb.frozen (p := ⟨b, o, none⟩) h⟩

/-- The sum of a list's bytes, as the document reckons it. -/
def fbStep (n : Nat) (f : F) : Nat := if n < 1073741824 then n + f.n.length + f.v.length + 32 else n
def fbytes (l : List F) : Nat := l.foldl fbStep 0
theorem fbytes_snoc (l : List F) (f : F) : fbytes (l ++ [f]) = fbStep (fbytes l) f := by simp [fbytes]

end Go.Dr
