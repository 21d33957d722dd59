/- Parts of the proof of bk_root: the texts Base. -/
import Derived.BigQuiet
import Derived.Deep.QuietTactic
import Derived.Lib.Hide
import Derived.Maps.OwnSet
import Derived.WalkKit
import Derived.WalkLawsBesides
import Derived.WalkSmall
import Derived.WalkSpells
import Derived.Deep.RegionHeld3
set_option linter.unusedSimpArgs false
set_option linter.unusedVariables false
set_option linter.unnecessarySimpa false
set_option maxRecDepth 100000
set_option maxHeartbeats 64000000
namespace Go.Dr
open Go.RowKit
abbrev Bytes := List UInt8
abbrev S (l : Bytes) : Value := .string ⟨l.toArray⟩
theorem ba_get (l : Bytes) (i : Nat) (h : i < (⟨l.toArray⟩ : ByteArray).size) : (⟨l.toArray⟩ : ByteArray)[i] = l[i]'h := rfl
theorem ba_extract (l : Bytes) (a b : Nat) : (⟨l.toArray⟩ : ByteArray).extract a b = ⟨((l.take b).drop a).toArray⟩ := by
 rw [ByteArray.extract_mk, List.drop_take]
theorem ba_append (a b : Bytes) : (⟨a.toArray⟩ : ByteArray) ++ ⟨b.toArray⟩ = ⟨(a ++ b).toArray⟩ := by
 apply ByteArray.ext
 simp
attribute [go_sem] ba_get ba_extract ba_append
def Rd (B : Nat) (w : World) (size : Nat) (v : Value) (n : Nat) (xs : List Value) : Prop :=
 ∃ a cap, v = .slice a n cap ∧ n ≤ cap ∧ cap ≤ maxLen ∧ xs.length = n * size ∧ (a = none → cap = 0) ∧
  ∀ j u, xs[j]? = some u → ∃ b off, a = some ⟨b, off, none⟩ ∧ b < B ∧ w.cell? ⟨b, off + j, none⟩ = some u
theorem Rd.nil (B : Nat) (w : World) (size : Nat) : Rd B w size (.slice none 0 0) 0 [] :=
 ⟨none, 0, rfl, Nat.le_refl _, by unfold maxLen;omega, by simp, fun _ => rfl, by simp⟩
theorem Rd.mono {B B' : Nat} {w : World} {size : Nat} {v : Value} {n : Nat} {xs : List Value} (h : Rd B w size v n xs) (hB : B ≤ B') : Rd B' w size v n xs := by
 obtain ⟨a, cap, h1, h2, h3, h4, h5, h6⟩ := h;exact ⟨a, cap, h1, h2, h3, h4, h5, fun j u hu => let ⟨b, off, e1, e2, e3⟩ := h6 j u hu;⟨b, off, e1, by omega, e3⟩⟩
theorem Rd.below {B : Nat} {w w' : World} {size : Nat} {v : Value} {n : Nat} {xs : List Value} (h : Rd B w size v n xs) (hb : Below B w w') : Rd B w' size v n xs := by
 obtain ⟨a, cap, h1, h2, h3, h4, h5, h6⟩ := h;refine ⟨a, cap, h1, h2, h3, h4, h5, fun j u hu => ?_⟩;obtain ⟨b, off, e1, e2, e3⟩ := h6 j u hu;exact ⟨b, off, e1, e2, by rw [hb.cell (p := ⟨b, off + j, none⟩) e2];exact e3⟩
theorem Rd.len {B : Nat} {w : World} {size : Nat} {v : Value} {n : Nat} {xs : List Value} (h : Rd B w size v n xs) : n ≤ maxLen := by
 obtain ⟨a, cap, h1, h2, h3, h4, h5, h6⟩ := h;omega
theorem Rd.own {base : Nat} {w : World} {e : TypeId} {size : Nat} {v : Value} {n : Nat} {xs : List Value} (h : w.ownsRow base e size v n xs) : Rd w.heap.size w size v n xs := by
 obtain ⟨hl, h⟩ := h
 rcases h with ⟨rfl, rfl⟩ | ⟨g, cap, cur, rfl, hb, hg, hnc, hcm, hcs, htake⟩
 ·have : xs = [] := List.eq_nil_of_length_eq_zero (by simpa using hl)
  subst this;exact Rd.nil _ _ _
 ·refine ⟨_, cap, rfl, hnc, hcm, hl, by simp, fun j u hu => ⟨g, 0, rfl, (Array.getElem?_eq_some_iff.1 hg).1, ?_⟩⟩
  rw [Nat.zero_add, cell_of_row w g j cur e (0, 0) hg];rw [← htake, List.getElem?_take] at hu
  split at hu
  ·simpa using hu
  ·cases hu
theorem own_below {base : Nat} {w w' : World} {e : TypeId} {size : Nat} {v : Value} {n : Nat} {xs : List Value} (h : w.ownsRow base e size v n xs) (hb : Below w.heap.size w w') : w'.ownsRow base e size v n xs := by
 refine ⟨h.1, ?_⟩
 rcases h.2 with hn | ⟨g, cap, cur, rfl, hbg, hgg, rest⟩
 ·exact .inl hn
 ·exact .inr ⟨g, cap, cur, rfl, hbg, by rw [hb.block g (Array.getElem?_eq_some_iff.1 hgg).1];exact hgg, rest⟩
structure F where
 n : Bytes
 v : Bytes
 m : Bool
 deriving DecidableEq, Inhabited
def F.cells (f : F) : List Value := [S f.n, S f.v, .bool f.m]
def fcells (l : List F) : List Value := l.flatMap F.cells
theorem fcells_append (a b : List F) : fcells (a ++ b) = fcells a ++ fcells b := by simp [fcells]
theorem fcells_get (l : List F) (k : Nat) (h : k < l.length) (j : Nat) (hj : j < 3) : (fcells l)[k * 3 + j]? = (l[k].cells)[j]? := by
 induction l generalizing k with
 | nil => simp at h
 | cons f l ih =>
  simp only [fcells, List.flatMap_cons]
  cases k with
  | zero => rw [List.getElem?_append_left (by simp [F.cells];omega)];simp
  | succ k =>
   rw [List.getElem?_append_right (by simp [F.cells];omega)];have := ih k (by simpa using h)
   simp only [fcells] at this;simp only [List.getElem_cons_succ];rw [← this]
   congr 1
   simp [F.cells];omega
def Fs (B : Nat) (w : World) (v : Value) (l : List F) : Prop := Rd B w 3 v l.length (fcells l)
def Ss (B : Nat) (w : World) (v : Value) (l : List Bytes) : Prop := Rd B w 1 v l.length (l.map S)
theorem Fs.at {B : Nat} {w : World} {a : Option Addr} {n cap : Nat} {l : List F} (h : Fs B w (.slice a n cap) l) (k : Nat) (hk : k < l.length) :
  ∃ b off, a = some ⟨b, off, none⟩ ∧ b < B ∧ w.cell? ⟨b, off + k * 3, none⟩ = some (S l[k].n) ∧ w.cell? ⟨b, off + k * 3 + 1, none⟩ = some (S l[k].v) ∧ w.cell? ⟨b, off + k * 3 + 2, none⟩ = some (.bool l[k].m) := by
 obtain ⟨a', cap', h1, h2, h3, h4, h5, h6⟩ := h;simp only [Value.slice.injEq] at h1;obtain ⟨rfl, rfl, rfl⟩ := h1;obtain ⟨b, off, rfl, hb, c0⟩ := h6 (k * 3 + 0) _ (by rw [fcells_get l k hk 0 (by omega)];rfl);obtain ⟨b1, off1, e1, _, c1⟩ := h6 (k * 3 + 1) _ (by rw [fcells_get l k hk 1 (by omega)];rfl);obtain ⟨b2, off2, e2, _, c2⟩ := h6 (k * 3 + 2) _ (by rw [fcells_get l k hk 2 (by omega)];rfl);simp only [Option.some.injEq, Addr.mk.injEq, and_true] at e1 e2;obtain ⟨rfl, rfl⟩ := e1;obtain ⟨rfl, rfl⟩ := e2;exact ⟨b, off, rfl, hb, c0, by rw [Nat.add_assoc];exact c1, by rw [Nat.add_assoc];exact c2⟩
theorem Ss.at {B : Nat} {w : World} {a : Option Addr} {n cap : Nat} {l : List Bytes} (h : Ss B w (.slice a n cap) l) (k : Nat) (hk : k < l.length) :
  ∃ b off, a = some ⟨b, off, none⟩ ∧ b < B ∧ w.cell? ⟨b, off + k, none⟩ = some (S l[k]) := by
 obtain ⟨a', cap', h1, h2, h3, h4, h5, h6⟩ := h;simp only [Value.slice.injEq] at h1;obtain ⟨rfl, rfl, rfl⟩ := h1;obtain ⟨b, off, rfl, hb, c0⟩ := h6 k _ (by rw [List.getElem?_map, List.getElem?_eq_getElem hk];rfl);exact ⟨b, off, rfl, hb, c0⟩
theorem Fs.below {B : Nat} {w w' : World} {v : Value} {l : List F} (h : Fs B w v l) (hb : Below B w w') : Fs B w' v l := Rd.below h hb
theorem Ss.below {B : Nat} {w w' : World} {v : Value} {l : List Bytes} (h : Ss B w v l) (hb : Below B w w') : Ss B w' v l := Rd.below h hb
theorem Fs.mono {B B' : Nat} {w : World} {v : Value} {l : List F} (h : Fs B w v l) (hB : B ≤ B') : Fs B' w v l := Rd.mono h hB
theorem Ss.mono {B B' : Nat} {w : World} {v : Value} {l : List Bytes} (h : Ss B w v l) (hB : B ≤ B') : Ss B' w v l := Rd.mono h hB
theorem Fs.form {B : Nat} {w : World} {v : Value} {l : List F} (h : Fs B w v l) : ∃ a cap, v = .slice a l.length cap ∧ l.length ≤ 9223372036854775807 := by
 obtain ⟨a, cap, h1, h2, h3, h4, h5, h6⟩ := h;exact ⟨a, cap, h1, by unfold maxLen at h3;omega⟩
theorem Ss.form {B : Nat} {w : World} {v : Value} {l : List Bytes} (h : Ss B w v l) : ∃ a cap, v = .slice a l.length cap ∧ l.length ≤ 9223372036854775807 := by
 obtain ⟨a, cap, h1, h2, h3, h4, h5, h6⟩ := h;exact ⟨a, cap, h1, by unfold maxLen at h3;omega⟩
def BRow (w : World) (e : TypeId) (b : Nat) (bs : Bytes) : Prop :=
 ∃ C fr, w.heap[b]? = some (.cells C e fr) ∧ bs.length ≤ fr.1 ∧ ∀ i (h : i < bs.length), C[i]? = some (.int .u8 (bs[i].toNat : Int))
theorem BRow.lt {w : World} {e : TypeId} {b : Nat} {bs : Bytes} (h : BRow w e b bs) : b < w.heap.size := by
 obtain ⟨C, fr, hb, _⟩ := h;exact (Array.getElem?_eq_some_iff.1 hb).1
theorem BRow.cell {w : World} {e : TypeId} {b : Nat} {bs : Bytes} (h : BRow w e b bs) (i : Nat) (hi : i < bs.length) : w.cell? ⟨b, i, none⟩ = some (.int .u8 (bs[i].toNat : Int)) := by
 obtain ⟨C, fr, hb, _, hc⟩ := h;simp [World.cell?, hb, hc i hi]
theorem BRow.free {w : World} {e : TypeId} {b : Nat} {bs : Bytes} (h : BRow w e b bs) (i : Nat) (hi : i < bs.length) : w.frozen? ⟨b, i, none⟩ = false := by
 obtain ⟨C, ⟨lo, hi'⟩, hb, hf, hc⟩ := h;simp only at hf;simp [World.frozen?, hb]
 omega
theorem BRow.set {w : World} {e : TypeId} {b : Nat} {bs : Bytes} (h : BRow w e b bs) (i : Nat) (x : UInt8) : BRow (w.setCell ⟨b, i, none⟩ (.int .u8 (x.toNat : Int))) e b (bs.set i x) := by
 obtain ⟨C, fr, hb, hf, hc⟩ := h;refine ⟨C.setIfInBounds i (.int .u8 (x.toNat : Int)), fr, ?_, by simpa using hf, fun j hj => ?_⟩
 ·simp only [World.setCell, Array.getElem?_modify, if_true, hb]
  simp
 ·have hj' : j < bs.length := by simpa using hj
  have hC : j < C.size := (Array.getElem?_eq_some_iff.1 (hc j hj')).1;rw [Array.getElem?_setIfInBounds];by_cases e1 : i = j
  ·subst e1
   simp [hC]
  ·simp only [e1, if_false]
   rw [hc j hj'];simp [e1]
theorem BRow.below {w w' : World} {e : TypeId} {b : Nat} {bs : Bytes} (h : BRow w e b bs) (hb : Below w.heap.size w w') : BRow w' e b bs := by
 have hlt := h.lt;obtain ⟨C, fr, h1, h2⟩ := h;exact ⟨C, fr, by rw [hb.block b hlt];exact h1, h2⟩
theorem run_bytes_row {P : Program} (w : World) (src dst e : TypeId) (l : Bytes) (hs : P.underlying src = some .string) (hd : P.underlying dst = some (.slice e)) (he : P.underlying e = some (.int .u8)) :
  ∃ cap w1, (convert src dst (S l)).run P w = .ok (.slice (some ⟨w.heap.size, 0, none⟩) l.length cap) w1 ∧ l.length ≤ cap ∧ BRow w1 e w.heap.size l ∧ Below w.heap.size w w1 ∧ w1.heap.size = w.heap.size + 1 := by
 refine ⟨_, _, run_bytes_of_string w src dst e ⟨l.toArray⟩ hs hd he, grownCap_ge _ _ _ _, ⟨_, _, heap_alloc_new _ _, ?_, fun i hi => ?_⟩, (Below.refl _ _).drew.alloc (Nat.le_refl _) _, by simp⟩
 ·simp [bytesRow, ByteArray.size]
 ·exact bytesRow_at ⟨l.toArray⟩ _ i (by simpa using hi)
theorem run_string_row {P : Program} (w : World) (src dst e : TypeId) (b cap : Nat) (l : Bytes) (hs : P.underlying src = some (.slice e)) (he : P.underlying e = some (.int .u8)) (hd : P.underlying dst = some .string)
  (h : BRow w e b l) : (convert src dst (.slice (some ⟨b, 0, none⟩) l.length cap)).run P w = .ok (S l) w :=
 run_convert_bytes_back w src dst e ⟨b, 0, none⟩ cap l hs he hd fun j hj => by
  rw [Addr.add_lit, Nat.zero_add];exact h.cell j hj
theorem Bl.tr {w a b : World} (h : Below w.heap.size w a) (k : Below a.heap.size a b) : Below w.heap.size w b := h.trans (k.mono h.size)
theorem Bl.on {B : Nat} {w a b : World} (h : Below B w a) (hB : B ≤ a.heap.size) (k : Below a.heap.size a b) : Below B w b := h.trans (k.mono hB)
theorem ret_bool {a b : Bool} (h : a = b) : Ending.returned (.bool a) = Ending.returned (.bool b) := by rw [h]
theorem ret_S {a b : Bytes} (h : a = b) : Ending.returned (S a) = Ending.returned (S b) := by rw [h]
theorem ret_int {k : IntKind} {a b : Int} (h : a = b) : Ending.returned (.int k a) = Ending.returned (.int k b) := by rw [h]
theorem take_snoc {α : Type} (a : List α) (k : Nat) (hk : k < a.length) : a.take (k + 1) = a.take k ++ [a[k]] := List.take_succ_eq_append_getElem hk
theorem wpList_app {P : Program} {ops : Array Oper} {rest : List Oper} {o : Oper} {a : Act} {Q : Exit → Act → World → Prop} {w : World} (hgd : o.guard = none) (s x : Operand) (t : TypeId)
  (ho : o.op = .call { callee := .builtin .append, args := #[s, x], argTypes := #[t, t] })
  (base : Nat) (e : TypeId) (z : Value) (size bytes : Nat) (ht : P.underlying t = some (.slice e)) (hi : (P.info? e).map (fun i => (i.zero, i.size, i.bytes)) = some (some z, size, bytes))
  (hzs : z.cells.size = size) (hsz : 0 < size)
  (v : Value) (n : Nat) (xs : List Value) (hs : a.eval s = v) (hown : w.ownsRow base e size v n xs)
  (ad : Addr) (m c : Nat) (news : List Value) (hx : a.eval x = .slice (some ad) m c) (hl : news.length = m * size) (hnews : ∀ j u, news[j]? = some u → w.cell? (ad.add j) = some u) (h1 : ∀ u ∈ news, u.oneCell' = true)
  (hm : n + m ≤ maxLen) (hbytes : (n + m) * bytes ≤ 140737488355328) (hbase : base ≤ w.heap.size)
  (h : ∀ v' w', w'.ownsRow base e size v' (n + m) (xs ++ news) → w.grownBy w' v.ownBlock → (v' = .slice none 0 0 ↔ v = .slice none 0 0 ∧ m = 0) → wpList P ops Q rest (a.put o.dst v') w') : wpList P ops Q (o :: rest) a w := by
 obtain ⟨i, hi, hz, hsize, hby⟩ := info_parts hi;exact wpList_append_own w hgd s x t ho base e i z size bytes ht hi hz hsize hby hzs hsz v n xs hs hown ad m c news hx hl hnews h1 hm hbytes hbase h
theorem Bl.grown {B base : Nat} {w0 w w' : World} {e : TypeId} {size : Nat} {v : Value} {n : Nat} {xs : List Value} (h : Below B w0 w) (hown : w.ownsRow base e size v n xs) (hg : w.grownBy w' v.ownBlock) (hB : B ≤ w.heap.size) (hb : B ≤ base) : Below B w0 w' :=
 h.grown hg hB fun k hk => Nat.le_trans hb (hown.lt k hk).1
abbrev B8 (c : UInt8) : Value := .int .u8 (c.toNat : Int)
theorem i_ne {a b : Nat} (h : a ≠ b) : ((a : Int) == (b : Int)) = false := by
 rw [beq_eq_false_iff_ne];omega
def One (w : World) (b : Nat) (t : TypeId) (v : Value) : Prop := w.heap[b]? = some (.cells #[v] t (0, 0))
theorem One.lt {w : World} {b : Nat} {t : TypeId} {v : Value} (h : One w b t v) : b < w.heap.size := lt_of_block h
theorem One.cell {w : World} {b : Nat} {t : TypeId} {v : Value} (h : One w b t v) : w.cell? ⟨b, 0, none⟩ = some v := cell_of_one h
theorem One.free {w : World} {b : Nat} {t : TypeId} {v : Value} (h : One w b t v) : w.frozen? ⟨b, 0, none⟩ = false := free_of_one h
theorem One.below {B : Nat} {w w' : World} {b : Nat} {t : TypeId} {v : Value} (h : One w b t v) (hb : Below B w w') (hB : b < B) : One w' b t v := (hb.block b hB).trans h
theorem One.set {w : World} {b : Nat} {t : TypeId} {v : Value} (h : One w b t v) (u : Value) : One (w.setCell ⟨b, 0, none⟩ u) b t u := one_setCell h
theorem One.other {w : World} {b : Nat} {t : TypeId} {v : Value} (h : One w b t v) {p : Addr} (hp : b ≠ p.block) (u : Value) : One (w.setCell p u) b t v := (Below.heap_setCell w p u b hp).trans h
theorem One.alloc {w : World} {b : Nat} {t : TypeId} {v : Value} (h : One w b t v) (o : Obj) : One (w.alloc o) b t v := (Below.heap_alloc w o b h.lt).trans h
theorem One.new (w : World) (t : TypeId) (v : Value) : One (w.alloc (.cells #[v] t)) w.heap.size t v := heap_alloc_new w _
theorem own_base {base base' : Nat} {w : World} {e : TypeId} {size : Nat} {v : Value} {n : Nat} {xs : List Value} (h : w.ownsRow base e size v n xs) (hb : base' ≤ base) : w.ownsRow base' e size v n xs := by
 refine ⟨h.1, ?_⟩
 rcases h.2 with hn | ⟨g, cap, cur, rfl, hbg, rest⟩
 ·exact .inl hn
 ·exact .inr ⟨g, cap, cur, rfl, Nat.le_trans hb hbg, rest⟩
def lowB (c : UInt8) : UInt8 := if 65 ≤ c.toNat ∧ c.toNat ≤ 90 then c + 32 else c
def low (l : Bytes) : Bytes := l.map lowB
def lowTo (l : Bytes) (k : Nat) : Bytes := low (l.take k) ++ l.drop k
theorem lowTo_length (l : Bytes) (k : Nat) : (lowTo l k).length = l.length := by
 simp [lowTo, low]
 omega
theorem lowTo_zero (l : Bytes) : lowTo l 0 = l := by simp [lowTo, low]
theorem lowTo_all (l : Bytes) (k : Nat) (h : l.length ≤ k) : lowTo l k = low l := by
 simp [lowTo, List.take_of_length_le h, List.drop_eq_nil_of_le h]
theorem lowTo_get (l : Bytes) (k : Nat) (h : k < l.length) : (lowTo l k)[k]'(by rw [lowTo_length];exact h) = l[k] := by
 have e : min k l.length = k := (by omega);simp [lowTo, low, e]
theorem lowTo_set (l : Bytes) (k : Nat) (h : k < l.length) : (lowTo l k).set k (lowB l[k]) = lowTo l (k + 1) := by
 have hlen : (low (l.take k)).length = k := (by simp [low];omega);have h1 : l.take (k + 1) = l.take k ++ [l[k]] := (by rw [List.take_succ_eq_append_getElem h]);have h2 : l.drop k = l[k] :: l.drop (k + 1) := List.drop_eq_getElem_cons h;unfold lowTo;rw [h1, h2, List.set_append_right _ _ (by omega), hlen, Nat.sub_self, List.set_cons_zero];simp only [low, List.map_append, List.map_cons, List.map_nil, List.append_assoc, List.singleton_append]
theorem lowTo_skip (l : Bytes) (k : Nat) (h : k < l.length) (h1 : lowB l[k] = l[k]) : lowTo l k = lowTo l (k + 1) := by
 rw [← lowTo_set l k h, h1];apply List.ext_getElem?
 intro j;rw [List.getElem?_set];by_cases e : k = j
 ·subst e
  have := lowTo_get l k h
  simp [lowTo_length, h, this]
 ·simp [e]
theorem lowB_up (c : UInt8) (h1 : 65 ≤ c.toNat) (h2 : c.toNat ≤ 90) : ((lowB c).toNat : Int) = c.toNat + 32 := by
 unfold lowB;rw [if_pos ⟨h1, h2⟩, UInt8.toNat_add];have : (32 : UInt8).toNat = 32 := rfl
 omega
theorem lowB_no (c : UInt8) (h : ¬ (65 ≤ c.toNat ∧ c.toNat ≤ 90)) : lowB c = c := if_neg h
def isBlank (c : UInt8) : Bool := c == 32 || c == 9
def trimL (l : Bytes) : Bytes := l.dropWhile isBlank
def trimR (l : Bytes) : Bytes := (l.reverse.dropWhile isBlank).reverse
def trim (l : Bytes) : Bytes := trimR (trimL l)
def fin (s : Bytes) : List Bytes := if trim s = [] then [] else [trim s]
def el (q t : Bool) (s : Bytes) : Bytes → List Bytes
 | [] => fin s
 | c :: r =>
  if t then el q false (s ++ [c]) r
  else if q && c == 92 then el q true (s ++ [c]) r
  else if c == 34 then el (!q) false (s ++ [c]) r
  else if c == 44 && !q then fin s ++ el false false [] r
  else el q false (s ++ [c]) r
def elems (l : Bytes) : List Bytes := el false false [] l
theorem drop_get (l : Bytes) (k : Nat) (h : k < l.length) : l.drop k = l[k] :: l.drop (k + 1) := List.drop_eq_getElem_cons h
open Go.RowKit
theorem fcells_one (l : List F) : ∀ u ∈ fcells l, u.oneCell' = true := by
 intro u hu;obtain ⟨f, _, hf⟩ := List.mem_flatMap.1 hu;simp only [F.cells, List.mem_cons, List.not_mem_nil, or_false] at hf
 rcases hf with rfl | rfl | rfl <;> rfl
theorem wpList_appRd {P : Program} {ops : Array Oper} {rest : List Oper} {o : Oper} {a : Act} {Q : Exit → Act → World → Prop} {w : World} (hgd : o.guard = none) (s x : Operand) (t : TypeId)
  (ho : o.op = .call { callee := .builtin .append, args := #[s, x], argTypes := #[t, t] })
  (base : Nat) (e : TypeId) (z : Value) (size bytes : Nat) (ht : P.underlying t = some (.slice e)) (hi : (P.info? e).map (fun i => (i.zero, i.size, i.bytes)) = some (some z, size, bytes))
  (hzs : z.cells.size = size) (hsz : 0 < size)
  (v : Value) (n : Nat) (xs : List Value) (hs : a.eval s = v) (hown : w.ownsRow base e size v n xs)
  (B : Nat) (vs : Value) (m : Nat) (news : List Value) (hx : a.eval x = vs) (hsrc : Rd B w size vs m news) (h1 : ∀ u ∈ news, u.oneCell' = true)
  (hm : n + m ≤ maxLen) (hbytes : (n + m) * bytes ≤ 140737488355328) (hbase : base ≤ w.heap.size)
  (h : ∀ a' c' w', w'.ownsRow base e size (.slice a' (n + m) c') (n + m) (xs ++ news) → Below base w w' → wpList P ops Q rest (a.put o.dst (.slice a' (n + m) c')) w') : wpList P ops Q (o :: rest) a w := by
 obtain ⟨ad, cap, rfl, h2, h3, h4, h5, h6⟩ := hsrc
 cases ad with
 | none =>
  obtain rfl := h5 rfl;obtain rfl : m = 0 := by omega
  have hn : news = [] := List.eq_nil_of_length_eq_zero (by simpa using h4);subst hn;obtain ⟨i, hi, hz, hsize, hby⟩ := info_parts hi;refine wpList_plain hgd fun K hK => ?_
  have hrun := run_append_owned_none (P := P) (w := w) base t o.type e i size ht hi v n xs hown;unfold Oper.wp;simp [execOp, ho, resolve, invoke, builtin, hs, hx, hrun, Result.andThen]
  obtain ⟨a', c', rfl⟩ : ∃ a' c', v = .slice a' n c' := by
   rcases hown.2 with ⟨rfl, rfl⟩ | ⟨g, cap, cur, rfl, _⟩
   ·exact ⟨_, _, rfl⟩
   ·exact ⟨_, _, rfl⟩
  have := h a' c' w (by simpa using hown) (Below.refl _ _)
  exact hK _ _ this
 | some ad =>
  refine wpList_app hgd s x t ho base e z size bytes ht hi hzs hsz v n xs hs hown ad m cap news hx h4 ?_ h1 hm hbytes hbase fun v' w' ho' hg _ => ?_
  ·intro j u hu
   obtain ⟨b, off, e1, _, e3⟩ := h6 j u hu;obtain rfl := Option.some.inj e1;rw [Addr.add_lit];exact e3
  ·obtain ⟨a', c', rfl⟩ : ∃ a' c', v' = .slice a' (n + m) c' := by
    rcases ho'.2 with ⟨rfl, h0⟩ | ⟨g, cap, cur, rfl, _⟩
    ·rw [h0];exact ⟨_, _, rfl⟩
    ·exact ⟨_, _, rfl⟩
   exact h a' c' w' ho' (Bl.grown (Below.refl base w) hown hg hbase (Nat.le_refl _))
def MapSet (w : World) (P : Program) (kt et : TypeId) (b : Nat) (ks : List Bytes) : Prop :=
 ∃ (n : Nat) (D : DataW Unit), n ≤ ks.length ∧ w.ownsMap P kt (plainElem P et) b n D ∧ Maps.IsMap D ∧ ∀ k : Bytes, Maps.has D (.string k) = ks.contains k
theorem MapSet.made (w : World) (P : Program) (kt et : TypeId) : MapSet (w.alloc (.map #[] 0)) P kt et w.heap.size [] :=
 ⟨0, .map [], Nat.le_refl _, World.ownsMap_made _ _ _ _, Maps.isMap_empty, fun _ => rfl⟩
theorem MapSet.lt {w : World} {P : Program} {kt et : TypeId} {b : Nat} {ks : List Bytes} (h : MapSet w P kt et b ks) : b < w.heap.size := by
 obtain ⟨n, D, _, h, _⟩ := h;exact h.lt
theorem MapSet.block {w w' : World} {P : Program} {kt et : TypeId} {b : Nat} {ks : List Bytes} (h : MapSet w P kt et b ks) (hb : w'.heap[b]? = w.heap[b]?) : MapSet w' P kt et b ks := by
 obtain ⟨n, D, hn, ⟨es, clock, h1, h2⟩, hD⟩ := h;exact ⟨n, D, hn, ⟨es, clock, hb.trans h1, h2⟩, hD⟩
theorem MapSet.below {B : Nat} {w w' : World} {P : Program} {kt et : TypeId} {b : Nat} {ks : List Bytes} (h : MapSet w P kt et b ks) (hb : Below B w w') (hB : b < B) : MapSet w' P kt et b ks := h.block (hb.block b hB)
theorem MapSet.alloc {w : World} {P : Program} {kt et : TypeId} {b : Nat} {ks : List Bytes} (h : MapSet w P kt et b ks) (o : Obj) : MapSet (w.alloc o) P kt et b ks := h.block (Below.heap_alloc w o b h.lt)
theorem MapSet.setCell {w : World} {P : Program} {kt et : TypeId} {b : Nat} {ks : List Bytes} (h : MapSet w P kt et b ks) {p : Addr} (hp : b ≠ p.block) (u : Value) : MapSet (w.setCell p u) P kt et b ks := h.block (Below.heap_setCell w p u b hp)
theorem MapSet.drew {w : World} {P : Program} {kt et : TypeId} {b : Nat} {ks : List Bytes} (h : MapSet w P kt et b ks) : MapSet w.drew P kt et b ks := h.block rfl
theorem One.drew {w : World} {b : Nat} {t : TypeId} {v : Value} (h : One w b t v) : One w.drew b t v := h
theorem lit_ne {k k' : Bytes} (h : k' ≠ k) : (Lit.string k') ≠ .string k := fun e => h (by cases e;rfl)
theorem MapSet.store {P : Program} {w : World} {kt et : TypeId} {b : Nat} {ks : List Bytes} (h : MapSet w P kt et b ks) {t : TypeId} {q : IntKind} (hk : P.underlying kt = some .string) (he : P.underlying et = some (.int q)) (ht : P.underlying t = some (.map kt et))
  (k : Bytes) (i : Int) (hw : (Lit.int q i).wf = true) (hkl : k.length ≤ maxLen) (hn : ks.length < maxLen) :
  ∃ w', (Instr.mapUpdate t (.map (some b)) (S k) (.int q i)).run P w = .ok () w' ∧ MapSet w' P kt et b (ks ++ [k]) ∧ w.grownBy w' (some b) := by
 obtain ⟨n, D, hnn, hown, hD, hhas⟩ := h;have hkey : keyOf P kt (S k) = some (.string k) := WideMaps.keyOf_string_mk hk hkl;obtain ⟨w', hrun, ho, hgr⟩ := hown.update (Maps.string_keyed hk) ht (by omega) hkey (plainElem_int he hw);refine ⟨w', hrun, ⟨n + 1, _, by simp;omega, ho, hD.put _ _, fun k' => ?_⟩, hgr⟩;by_cases e : k' = k
 ·subst e
  rw [Maps.has_put_same hD (by trivial)];simp
 ·rw [Maps.has_put_other (lit_ne e), hhas]
  simp [e]
theorem Ss.own {base : Nat} {w : World} {e : TypeId} {v : Value} {l : List Bytes} (h : w.ownsRow base e 1 v l.length (l.map S)) : Ss w.heap.size w v l := Rd.own h
theorem Fs.own {base : Nat} {w : World} {e : TypeId} {v : Value} {l : List F} (h : w.ownsRow base e 3 v l.length (fcells l)) : Fs w.heap.size w v l := Rd.own h
theorem Rd.upto {B : Nat} {w : World} {size : Nat} {a : Option Addr} {n cap : Nat} {xs : List Value} (h : Rd B w size (.slice a n cap) n xs) {k : Nat} (hk : k ≤ n) : Rd B w size (.slice a k cap) k (xs.take (k * size)) := by
 obtain ⟨a', cap', h1, h2, h3, h4, h5, h6⟩ := h;simp only [Value.slice.injEq] at h1;obtain ⟨rfl, -, rfl⟩ := h1;have hm := Nat.mul_le_mul_right size hk;refine ⟨_, _, rfl, by omega, h3, by simp;omega, h5, fun j u hu => ?_⟩;rw [List.getElem?_take] at hu
 split at hu
 ·exact h6 j u hu
 ·cases hu
theorem Rd.from {B : Nat} {w : World} {size b off n cap : Nat} {xs : List Value} (h : Rd B w size (.slice (some ⟨b, off, none⟩) n cap) n xs) {k : Nat} (hk : k ≤ n) : Rd B w size (.slice (some ⟨b, off + k * size, none⟩) (n - k) (cap - k)) (n - k) (xs.drop (k * size)) := by
 obtain ⟨a', cap', h1, h2, h3, h4, h5, h6⟩ := h;simp only [Value.slice.injEq] at h1;obtain ⟨rfl, -, rfl⟩ := h1;refine ⟨_, _, rfl, by omega, by omega, by simp [h4, Nat.sub_mul], by simp, fun j u hu => ?_⟩;rw [List.getElem?_drop] at hu;obtain ⟨b', off', e1, e2, e3⟩ := h6 _ u hu;simp only [Option.some.injEq, Addr.mk.injEq, and_true] at e1;obtain ⟨rfl, rfl⟩ := e1;exact ⟨_, _, rfl, e2, by rw [Nat.add_assoc];exact e3⟩
theorem fcells_take (l : List F) (k : Nat) : (fcells l).take (k * 3) = fcells (l.take k) := by
 induction l generalizing k with
 | nil => simp [fcells]
 | cons f l ih =>
  cases k with
  | zero => simp [fcells]
  | succ k =>
   have e : (k + 1) * 3 = (F.cells f).length + k * 3 := (by simp [F.cells];omega);have e2 : fcells (f :: l) = F.cells f ++ fcells l := rfl;rw [e2, e, List.take_length_add_append, ih];rfl
theorem fcells_drop (l : List F) (k : Nat) : (fcells l).drop (k * 3) = fcells (l.drop k) := by
 induction l generalizing k with
 | nil => simp [fcells]
 | cons f l ih =>
  cases k with
  | zero => simp
  | succ k =>
   have e : (k + 1) * 3 = (F.cells f).length + k * 3 := (by simp [F.cells];omega);have e2 : fcells (f :: l) = F.cells f ++ fcells l := rfl;rw [e2, e, List.drop_length_add_append, ih];rfl
theorem Fs.upto {B : Nat} {w : World} {a : Option Addr} {n cap : Nat} {l : List F} (h : Fs B w (.slice a n cap) l) {k : Nat} (hk : k ≤ l.length) : Fs B w (.slice a k cap) (l.take k) := by
 obtain ⟨_, _, e, _⟩ := h.form;simp only [Value.slice.injEq] at e;obtain ⟨-, rfl, -⟩ := e;have := Rd.upto h hk
 unfold Fs;rw [fcells_take] at this;rw [List.length_take, Nat.min_eq_left hk];exact this
theorem Fs.from {B : Nat} {w : World} {b off n cap : Nat} {l : List F} (h : Fs B w (.slice (some ⟨b, off, none⟩) n cap) l) {k : Nat} (hk : k ≤ l.length) : Fs B w (.slice (some ⟨b, off + k * 3, none⟩) (n - k) (cap - k)) (l.drop k) := by
 obtain ⟨_, _, e, _⟩ := h.form;simp only [Value.slice.injEq] at e;obtain ⟨-, rfl, -⟩ := e;have := Rd.from h hk
 unfold Fs;rw [fcells_drop] at this;rw [List.length_drop];exact this
def Blk (w : World) (b : Nat) (t : TypeId) (xs : Array Value) : Prop := w.heap[b]? = some (.cells xs t (0, 0))
theorem Blk.lt {w : World} {b : Nat} {t : TypeId} {xs : Array Value} (h : Blk w b t xs) : b < w.heap.size := lt_of_block h
theorem Blk.cell {w : World} {b : Nat} {t : TypeId} {xs : Array Value} (h : Blk w b t xs) (k : Nat) : w.cell? ⟨b, k, none⟩ = xs[k]? := by
 simp [World.cell?, show w.heap[b]? = _ from h]
theorem Blk.free {w : World} {b : Nat} {t : TypeId} {xs : Array Value} (h : Blk w b t xs) (k : Nat) : w.frozen? ⟨b, k, none⟩ = false := by
 simp [World.frozen?, show w.heap[b]? = _ from h]
theorem Blk.block {w w' : World} {b : Nat} {t : TypeId} {xs : Array Value} (h : Blk w b t xs) (hb : w'.heap[b]? = w.heap[b]?) : Blk w' b t xs := hb.trans h
theorem Blk.below {B : Nat} {w w' : World} {b : Nat} {t : TypeId} {xs : Array Value} (h : Blk w b t xs) (hb : Below B w w') (hB : b < B) : Blk w' b t xs := (hb.block b hB).trans h
theorem Blk.on {w w' : World} {b : Nat} {t : TypeId} {xs : Array Value} (h : Blk w b t xs) (hb : Below w.heap.size w w') : Blk w' b t xs := h.below hb h.lt
theorem Blk.set {w : World} {b : Nat} {t : TypeId} {xs : Array Value} (h : Blk w b t xs) (k : Nat) (v : Value) : Blk (w.setCell ⟨b, k, none⟩ v) b t (xs.setIfInBounds k v) := by
 unfold Blk at *;simp only [World.setCell, Array.getElem?_modify, if_true, h];simp
theorem Blk.other {w : World} {b : Nat} {t : TypeId} {xs : Array Value} (h : Blk w b t xs) {p : Addr} (hp : b ≠ p.block) (u : Value) : Blk (w.setCell p u) b t xs := (Below.heap_setCell w p u b hp).trans h
theorem Blk.alloc {w : World} {b : Nat} {t : TypeId} {xs : Array Value} (h : Blk w b t xs) (o : Obj) : Blk (w.alloc o) b t xs := (Below.heap_alloc w o b h.lt).trans h
theorem Blk.drew {w : World} {b : Nat} {t : TypeId} {xs : Array Value} (h : Blk w b t xs) : Blk w.drew b t xs := h
theorem Blk.new (w : World) (t : TypeId) (xs : Array Value) : Blk (w.alloc (.cells xs t)) w.heap.size t xs := heap_alloc_new w _
open Go.RowKit
theorem wp_appRd {P : Program} {o : Oper} {a : Act} {K : Act → World → Prop} {Q : Exit → Act → World → Prop} {w : World} (s x : Operand) (t : TypeId)
  (ho : o.op = .call { callee := .builtin .append, args := #[s, x], argTypes := #[t, t] })
  (base : Nat) (e : TypeId) (z : Value) (size bytes : Nat) (ht : P.underlying t = some (.slice e)) (hi : (P.info? e).map (fun i => (i.zero, i.size, i.bytes)) = some (some z, size, bytes))
  (hzs : z.cells.size = size) (hsz : 0 < size)
  (v : Value) (n : Nat) (xs : List Value) (hs : a.eval s = v) (hown : w.ownsRow base e size v n xs)
  (B : Nat) (vs : Value) (m : Nat) (news : List Value) (hx : a.eval x = vs) (hsrc : Rd B w size vs m news) (h1 : ∀ u ∈ news, u.oneCell' = true)
  (hm : n + m ≤ maxLen) (hbytes : (n + m) * bytes ≤ 140737488355328) (hbase : base ≤ w.heap.size)
  (h : ∀ a' c' w', w'.ownsRow base e size (.slice a' (n + m) c') (n + m) (xs ++ news) → Below base w w' → K (a.put o.dst (.slice a' (n + m) c')) w') : Oper.wp P o a w K Q := by
 obtain ⟨ad, cap, rfl, h2, h3, h4, h5, h6⟩ := hsrc;obtain ⟨i, hi, hz, hsize, hby⟩ := info_parts hi
 cases ad with
 | none =>
  obtain rfl := h5 rfl;obtain rfl : m = 0 := by omega
  have hn : news = [] := List.eq_nil_of_length_eq_zero (by simpa using h4);subst hn;have hrun := run_append_owned_none (P := P) (w := w) base t o.type e i size ht hi v n xs hown;unfold Oper.wp;simp [execOp, ho, resolve, invoke, builtin, hs, hx, hrun, Result.andThen]
  obtain ⟨a', c', rfl⟩ : ∃ a' c', v = .slice a' n c' := by
   rcases hown.2 with ⟨rfl, rfl⟩ | ⟨g, cap, cur, rfl, _⟩
   ·exact ⟨_, _, rfl⟩
   ·exact ⟨_, _, rfl⟩
  have := h a' c' w (by simpa using hown) (Below.refl _ _)
  exact this
 | some ad =>
  refine wp_append_own w s x t ho base e i z size bytes ht hi hz hsize hby hzs hsz v n xs hs hown ad m cap news hx h4 ?_ h1 hm hbytes hbase fun v' w' ho' hg _ => ?_
  ·intro j u hu
   obtain ⟨b, off, e1, _, e3⟩ := h6 j u hu;obtain rfl := Option.some.inj e1;rw [Addr.add_lit];exact e3
  ·obtain ⟨a', c', rfl⟩ : ∃ a' c', v' = .slice a' (n + m) c' := by
    rcases ho'.2 with ⟨rfl, h0⟩ | ⟨g, cap, cur, rfl, _⟩
    ·rw [h0];exact ⟨_, _, rfl⟩
    ·exact ⟨_, _, rfl⟩
   exact h a' c' w' ho' (Bl.grown (Below.refl base w) hown hg hbase (Nat.le_refl _))
theorem wp_appG {P : Program} {o : Oper} {a : Act} {K : Act → World → Prop} {Q : Exit → Act → World → Prop} {w : World} (s x : Operand) (t : TypeId)
  (ho : o.op = .call { callee := .builtin .append, args := #[s, x], argTypes := #[t, t] })
  (base : Nat) (e : TypeId) (z : Value) (size bytes : Nat) (ht : P.underlying t = some (.slice e)) (hi : (P.info? e).map (fun i => (i.zero, i.size, i.bytes)) = some (some z, size, bytes))
  (hzs : z.cells.size = size) (hsz : 0 < size)
  (v : Value) (n : Nat) (xs : List Value) (hs : a.eval s = v) (hown : w.ownsRow base e size v n xs)
  (B : Nat) (vs : Value) (m : Nat) (news : List Value) (hx : a.eval x = vs) (hsrc : Rd B w size vs m news) (h1 : ∀ u ∈ news, u.oneCell' = true)
  (hm : n + m ≤ maxLen) (hbytes : (n + m) * bytes ≤ 140737488355328) (hbase : base ≤ w.heap.size)
  (h : ∀ a' c' w', w'.ownsRow base e size (.slice a' (n + m) c') (n + m) (xs ++ news) → Below base w w' → w.grownBy w' v.ownBlock → K (a.put o.dst (.slice a' (n + m) c')) w') : Oper.wp P o a w K Q := by
 obtain ⟨ad, cap, rfl, h2, h3, h4, h5, h6⟩ := hsrc;obtain ⟨i, hi, hz, hsize, hby⟩ := info_parts hi
 cases ad with
 | none =>
  obtain rfl := h5 rfl;obtain rfl : m = 0 := by omega
  have hn : news = [] := List.eq_nil_of_length_eq_zero (by simpa using h4);subst hn;have hrun := run_append_owned_none (P := P) (w := w) base t o.type e i size ht hi v n xs hown;unfold Oper.wp;simp [execOp, ho, resolve, invoke, builtin, hs, hx, hrun, Result.andThen]
  obtain ⟨a', c', rfl⟩ : ∃ a' c', v = .slice a' n c' := by
   rcases hown.2 with ⟨rfl, rfl⟩ | ⟨g, cap, cur, rfl, _⟩
   ·exact ⟨_, _, rfl⟩
   ·exact ⟨_, _, rfl⟩
  have := h a' c' w (by simpa using hown) (Below.refl _ _) (World.grownBy.refl _ _)
  exact this
 | some ad =>
  refine wp_append_own w s x t ho base e i z size bytes ht hi hz hsize hby hzs hsz v n xs hs hown ad m cap news hx h4 ?_ h1 hm hbytes hbase fun v' w' ho' hg _ => ?_
  ·intro j u hu
   obtain ⟨b, off, e1, _, e3⟩ := h6 j u hu;obtain rfl := Option.some.inj e1;rw [Addr.add_lit];exact e3
  ·obtain ⟨a', c', rfl⟩ : ∃ a' c', v' = .slice a' (n + m) c' := by
    rcases ho'.2 with ⟨rfl, h0⟩ | ⟨g, cap, cur, rfl, _⟩
    ·rw [h0];exact ⟨_, _, rfl⟩
    ·exact ⟨_, _, rfl⟩
   exact h a' c' w' ho' (Bl.grown (Below.refl base w) hown hg hbase (Nat.le_refl _)) hg
theorem step_of {P : Program} {ops : Array Oper} {o : Oper} {a : Act} {K : Act → World → Prop} {Q : Exit → Act → World → Prop} {E : Prop} {w : World} (h : Oper.wp P o a w K Q) (hgd : o.guard = none) :
  if Region.wanted o (yielded ops a.tmps) = true then Oper.wp P o a w K Q else E := by
 have hw : Region.wanted o (yielded ops a.tmps) = true := (by simp [Region.wanted, hgd]);rw [if_pos hw];exact h
theorem Rd.sliced {B : Nat} {w : World} {size : Nat} {a : Option Addr} {n cap : Nat} {xs : List Value} (h : Rd B w size (.slice a n cap) n xs) {k : Nat} (hk : k ≤ n) : Rd B w size (sliced a k n cap size) (n - k) (xs.drop (k * size)) := by
 obtain ⟨a', cap', h1, h2, h3, h4, h5, h6⟩ := h;simp only [Value.slice.injEq] at h1;obtain ⟨rfl, -, rfl⟩ := h1;unfold Go.sliced;by_cases hc : cap = k
 ·rw [if_pos hc]
  have : xs.drop (k * size) = [] := List.drop_eq_nil_of_le (by rw [h4];exact Nat.mul_le_mul_right size (by omega))
  rw [this];exact ⟨_, _, rfl, by omega, by omega, by rw [show n - k = 0 by omega];simp, by intro _;omega, by simp⟩
 ·rw [if_neg hc]
  refine ⟨_, _, rfl, by omega, by omega, by simp [h4, Nat.sub_mul], fun hn => ?_, fun j u hu => ?_⟩
  ·have : a = none := by cases a <;> simp_all
   have := h5 this
   omega
  ·rw [List.getElem?_drop] at hu
   obtain ⟨b', off', rfl, e2, e3⟩ := h6 _ u hu;exact ⟨b', off' + k * size, by simp [Addr.add_lit], e2, by rw [Nat.add_assoc];exact e3⟩
theorem Rd.block {B B' : Nat} {w w' : World} {size b off n cap : Nat} {xs : List Value} (h : Rd B w size (.slice (some ⟨b, off, none⟩) n cap) n xs) (hb : w'.heap[b]? = w.heap[b]?) (hB : b < B') : Rd B' w' size (.slice (some ⟨b, off, none⟩) n cap) n xs := by
 obtain ⟨a', cap', h1, h2, h3, h4, h5, h6⟩ := h;simp only [Value.slice.injEq] at h1;obtain ⟨rfl, -, rfl⟩ := h1;refine ⟨_, _, rfl, h2, h3, h4, by simp, fun j u hu => ?_⟩;obtain ⟨b', off', e1, e2, e3⟩ := h6 _ u hu;simp only [Option.some.injEq, Addr.mk.injEq, and_true] at e1;obtain ⟨rfl, rfl⟩ := e1;exact ⟨_, _, rfl, hB, by rw [World.cell?_of_block hb];exact e3⟩
theorem Rd.lit (w : World) (t : TypeId) (cs : Array Value) (size m : Nat) (hl : cs.size = m * size) (hm : m ≤ maxLen) : Rd (w.heap.size + 1) (w.alloc (.cells cs t)) size (.slice (some ⟨w.heap.size, 0, none⟩) m m) m cs.toList := by
 refine ⟨_, _, rfl, Nat.le_refl _, hm, by simpa using hl, by simp, fun j u hu => ⟨_, _, rfl, by omega, ?_⟩⟩;rw [Nat.zero_add, cell_of_row _ w.heap.size j cs t (0, 0) (heap_alloc_new w _)];simpa using hu
theorem own_lit (w : World) (g : Nat) (hg : w.heap.size = g) (base : Nat) (hb : base ≤ g) (e : TypeId) (size : Nat) : (w.alloc (.cells #[] e)).ownsRow base e size (.slice (some ⟨g, 0, none⟩) 0 0) 0 [] := by
 subst hg;exact World.ownsRow_lit (base := base) (e := e) (size := size) w #[] 0 hb (by simp) (by simp)
open Go.RowKit
theorem Rd.drew {B : Nat} {w : World} {size : Nat} {v : Value} {n : Nat} {xs : List Value} (h : Rd B w size v n xs) : Rd B w.drew size v n xs := h
theorem Ss.drew {w : World} {v : Value} {l : List Bytes} (h : Ss w.heap.size w v l) : Ss w.drew.heap.size w.drew v l := h
theorem Fs.drew {w : World} {v : Value} {l : List F} (h : Fs w.heap.size w v l) : Fs w.drew.heap.size w.drew v l := h
theorem Blk.grow {w w' : World} {b : Nat} {t : TypeId} {xs : Array Value} (h : Blk w b t xs) {row : Option Nat} (hg : w.grownBy w' row) (hne : some b ≠ row) : Blk w' b t xs := h.block (hg.block b h.lt hne)
theorem own_ne {base : Nat} {w : World} {e : TypeId} {size : Nat} {v : Value} {n : Nat} {xs : List Value} (h : w.ownsRow base e size v n xs) {b : Nat} (hb : w.heap.size ≤ b) : some b ≠ v.ownBlock := fun e1 => by
 have := (h.lt b e1.symm).2
 omega
end Go.Dr
namespace Go.Dr
section
open Go
variable {P : Program} {md : Region.Mode} {ops : Array Oper} {Q : Exit → Act → World → Prop} {S : World → Prop}
theorem tA {oi : Oper} {fuel : Nat} {listed : Array Bool} {a : Act} {w : World} (i : Nat) (v : Value) (hy : ∀ w, S w → (execOp a.eval oi).run P w = .ok (.value v) w) (hS : S w) (h : wpAnyH P md ops Q S fuel (listed.setIfInBounds i true) (a.put oi.dst v) w)
 (hi : ops[i]? = some oi := by rfl) (hs : Region.noSelect ops = true := by kernel_rfl) (hf : Region.free md ops listed i = true := by kernel_rfl) (hr : (Region.ready md ops listed).contains i = true := by kernel_rfl) (hQ : ∀ c a w, Q (.panic c) (a.put oi.dst v) w → Q (.panic c) a w := by exact fun _ _ _ h => h) (hg : Region.wanted oi (yielded ops a.tmps) = true := by rfl) :
 wpAnyH P md ops Q S (fuel + 1) listed a w := wpAnyH_take hi hs hf hr hQ (Or.inl ⟨hg, hy⟩) hS h
theorem tB {oi : Oper} {fuel : Nat} {listed : Array Bool} {a : Act} {w : World} (i : Nat) (hS : S w) (h : wpAnyH P md ops Q S fuel (listed.setIfInBounds i true) (a.put oi.dst undef) w)
 (hi : ops[i]? = some oi := by rfl) (hs : Region.noSelect ops = true := by kernel_rfl) (hf : Region.free md ops listed i = true := by kernel_rfl) (hr : (Region.ready md ops listed).contains i = true := by kernel_rfl) (hQ : ∀ c a w, Q (.panic c) (a.put oi.dst undef) w → Q (.panic c) a w := by exact fun _ _ _ h => h) (hg : Region.wanted oi (yielded ops a.tmps) = false := by rfl) :
 wpAnyH P md ops Q S (fuel + 1) listed a w := wpAnyH_take hi hs hf hr hQ (Or.inr ⟨hg, rfl⟩) hS h
theorem tC {o : Oper} {fuel : Nat} {listed : Array Bool} {a : Act} {w : World} (i : Nat) (h : ∀ K' : Act → World → Prop, Shut (∀ a w, S w → (S w → wpAnyH P md ops Q S fuel (listed.setIfInBounds i true) a w) → K' a w) → if Region.wanted o (yielded ops a.tmps) = true then Oper.wp P o a w K' Q else K' (a.put o.dst undef) w)
 (ho : ops[i]? = some o := by rfl) (hr : Region.ready md ops listed = [i] := by kernel_rfl) : wpAnyH P md ops Q S (fuel + 1) listed a w := wpAnyH_ready hr (by simp) (AllReadyH.cons ho h AllReadyH.nil)
end
theorem PT : (∀ (a : Act) (d : Tmp) (v : Value), a.put (some d) v = { a with tmps := a.tmps.setIfInBounds d v }) ∧ (∀ (a : Act) (v : Value), a.put none v = a) ∧ (∀ {α : Type} {xs : List α} {i : Nat} (h : i < xs.toArray.size), xs.toArray[i] = xs[i]'(by simpa using h)) ∧ (∀ {α : Type} (a : α) (as : List α) (i : Nat) (h : i + 1 < (a :: as).length), (a :: as)[i + 1] = as[i]'(Nat.lt_of_succ_lt_succ h)) ∧ (∀ {α : Type} (a : α) (as : List α) (h : 0 < (a :: as).length), (a :: as)[0] = a) ∧ (∀ {α : Type} (l : List α) (i : Nat) (a : α), l.toArray.setIfInBounds i a = (l.set i a).toArray) ∧ (∀ {α : Type} {x : α} {xs : List α} {a : α}, (x :: xs).set 0 a = a :: xs) ∧ (∀ {α : Type} {x : α} {xs : List α} {i : Nat} {a : α}, (x :: xs).set (i + 1) a = x :: xs.set i a) := ⟨fun _ _ _ => rfl, fun _ _ => rfl, fun h => List.getElem_toArray h, fun a as i h => List.getElem_cons_succ a as i h, fun a as h => List.getElem_cons_zero a as h, fun l i a => List.setIfInBounds_toArray l i a, List.set_cons_zero, List.set_cons_succ⟩
theorem Blk.c3 {w : World} {b : Nat} {t : TypeId} {v0 v1 v2 : Value} {r : List Value} (h : Blk w b t (List.toArray (v0 :: v1 :: v2 :: r))) : w.cell? ⟨b, 0, none⟩ = some v0 ∧ w.cell? ⟨b, 1, none⟩ = some v1 ∧ w.cell? ⟨b, 2, none⟩ = some v2 := ⟨h.cell 0, h.cell 1, h.cell 2⟩
theorem Blk.c4 {w : World} {b : Nat} {t : TypeId} {v0 v1 v2 v3 : Value} {r : List Value} (h : Blk w b t (List.toArray (v0 :: v1 :: v2 :: v3 :: r))) : w.cell? ⟨b, 0, none⟩ = some v0 ∧ w.cell? ⟨b, 1, none⟩ = some v1 ∧ w.cell? ⟨b, 2, none⟩ = some v2 ∧ w.cell? ⟨b, 3, none⟩ = some v3 := ⟨h.cell 0, h.cell 1, h.cell 2, h.cell 3⟩
theorem Blk.c5 {w : World} {b : Nat} {t : TypeId} {v0 v1 v2 v3 v4 : Value} {r : List Value} (h : Blk w b t (List.toArray (v0 :: v1 :: v2 :: v3 :: v4 :: r))) : w.cell? ⟨b, 0, none⟩ = some v0 ∧ w.cell? ⟨b, 1, none⟩ = some v1 ∧ w.cell? ⟨b, 2, none⟩ = some v2 ∧ w.cell? ⟨b, 3, none⟩ = some v3 ∧ w.cell? ⟨b, 4, none⟩ = some v4 := ⟨h.cell 0, h.cell 1, h.cell 2, h.cell 3, h.cell 4⟩
theorem Blk.c10 {w : World} {b : Nat} {t : TypeId} {v0 v1 v2 v3 v4 v5 v6 v7 v8 v9 : Value} {r : List Value} (h : Blk w b t (List.toArray (v0 :: v1 :: v2 :: v3 :: v4 :: v5 :: v6 :: v7 :: v8 :: v9 :: r))) : w.cell? ⟨b, 0, none⟩ = some v0 ∧ w.cell? ⟨b, 1, none⟩ = some v1 ∧ w.cell? ⟨b, 2, none⟩ = some v2 ∧ w.cell? ⟨b, 3, none⟩ = some v3 ∧ w.cell? ⟨b, 4, none⟩ = some v4 ∧ w.cell? ⟨b, 5, none⟩ = some v5 ∧ w.cell? ⟨b, 6, none⟩ = some v6 ∧ w.cell? ⟨b, 7, none⟩ = some v7 ∧ w.cell? ⟨b, 8, none⟩ = some v8 ∧ w.cell? ⟨b, 9, none⟩ = some v9 := ⟨h.cell 0, h.cell 1, h.cell 2, h.cell 3, h.cell 4, h.cell 5, h.cell 6, h.cell 7, h.cell 8, h.cell 9⟩
theorem Blk.c12 {w : World} {b : Nat} {t : TypeId} {v0 v1 v2 v3 v4 v5 v6 v7 v8 v9 v10 v11 : Value} {r : List Value} (h : Blk w b t (List.toArray (v0 :: v1 :: v2 :: v3 :: v4 :: v5 :: v6 :: v7 :: v8 :: v9 :: v10 :: v11 :: r))) : w.cell? ⟨b, 0, none⟩ = some v0 ∧ w.cell? ⟨b, 1, none⟩ = some v1 ∧ w.cell? ⟨b, 2, none⟩ = some v2 ∧ w.cell? ⟨b, 3, none⟩ = some v3 ∧ w.cell? ⟨b, 4, none⟩ = some v4 ∧ w.cell? ⟨b, 5, none⟩ = some v5 ∧ w.cell? ⟨b, 6, none⟩ = some v6 ∧ w.cell? ⟨b, 7, none⟩ = some v7 ∧ w.cell? ⟨b, 8, none⟩ = some v8 ∧ w.cell? ⟨b, 9, none⟩ = some v9 ∧ w.cell? ⟨b, 10, none⟩ = some v10 ∧ w.cell? ⟨b, 11, none⟩ = some v11 := ⟨h.cell 0, h.cell 1, h.cell 2, h.cell 3, h.cell 4, h.cell 5, h.cell 6, h.cell 7, h.cell 8, h.cell 9, h.cell 10, h.cell 11⟩
end Go.Dr
