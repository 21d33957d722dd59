/- Parts of the proof of DealLacks_holds: the texts Shd Open5 Shk Shf4 Shq6 Shq9 Shb. -/
import Derived.Maps.OwnSet
import Derived.Deep.RegionLaw
import Derived.Deep.RegionWith
import Derived.Test.YtahapblgmehngaaGreatDoorC2
import Derived.Test.YtahapblgmehngaaGreatDoorC27
import Derived.Test.YtahapblgmehngaaGreatDoorC28
import Derived.Test.YtahapblgmehngaaGreatDoorC3
import Derived.Test.YtahapblgmehngaaGreatDoorC22
set_option linter.unusedSimpArgs false
set_option linter.unusedVariables false
set_option linter.unnecessarySimpa false
namespace Go.Dr
open Go.RowKit

/-- A step of a script for a shelf. -/
structure Dv where
  kind : Int
  num : Int
  q : En
  vl : Value
  lp : List F
  lf : List F
  ll : List F
def Dv.cells (d : Dv) : List Value := [.int .i64 d.kind, .int .i64 d.num, S d.q.key, d.q.vp, .int .i64 d.q.st, d.q.vf, S d.q.body, .int .i64 d.q.asked, .int .i64 d.q.came, d.vl]
def dcells (l : List Dv) : List Value := l.flatMap Dv.cells
theorem dcells_get (l : List Dv) (k : Nat) (h : k < l.length) (j : Nat) (hj : j < 10) : (dcells l)[k * 10 + j]? = (l[k].cells)[j]? := by
  induction l generalizing k with
  | nil => simp at h
  | cons f l ih =>
    simp only [dcells, List.flatMap_cons]
    cases k with
    | zero => rw [List.getElem?_append_left (by simp [Dv.cells]; omega)]; simp
    | succ k =>
      rw [List.getElem?_append_right (by simp [Dv.cells]; omega)]
      have := ih k (by simpa using h)
      simp only [dcells] at this
      simp only [List.getElem_cons_succ]
      rw [← this]
      congr 1
      simp [Dv.cells]; omega
/-- A script that is read: its steps, and the lists that they lead to. -/
def Ds (B : Nat) (w : World) (v : Value) (l : List Dv) : Prop := Rd B w 10 v l.length (dcells l) ∧ ∀ d ∈ l, Fs B w d.q.vp d.lp ∧ Fs B w d.q.vf d.lf ∧ Fs B w d.vl d.ll
theorem Ds.below {B : Nat} {w w' : World} {v : Value} {l : List Dv} (h : Ds B w v l) (hb : Below B w w') : Ds B w' v l := ⟨h.1.below hb, fun d hd => ⟨(h.2 d hd).1.below hb, (h.2 d hd).2.1.below hb, (h.2 d hd).2.2.below hb⟩⟩
theorem Ds.mono {B B' : Nat} {w : World} {v : Value} {l : List Dv} (h : Ds B w v l) (hB : B ≤ B') : Ds B' w v l := ⟨h.1.mono hB, fun d hd => ⟨(h.2 d hd).1.mono hB, (h.2 d hd).2.1.mono hB, (h.2 d hd).2.2.mono hB⟩⟩
theorem Ds.form {B : Nat} {w : World} {v : Value} {l : List Dv} (h : Ds B w v l) : ∃ a cap, v = .slice a l.length cap ∧ l.length ≤ 9223372036854775807 := by
  obtain ⟨⟨a, cap, h1, h2, h3, _⟩, _⟩ := h
  exact ⟨a, cap, h1, by unfold maxLen at h3; omega⟩
theorem Ds.at {B : Nat} {w : World} {a : Option Addr} {n cap : Nat} {l : List Dv} (h : Ds B w (.slice a n cap) l) (k : Nat) (hk : k < l.length) :
    ∃ b off, a = some ⟨b, off, none⟩ ∧ b < B ∧ w.cell? ⟨b, off + k * 10, none⟩ = some (.int .i64 l[k].kind) ∧ w.cell? ⟨b, off + k * 10 + 1, none⟩ = some (.int .i64 l[k].num) ∧ w.cell? ⟨b, off + k * 10 + 2, none⟩ = some (S l[k].q.key) ∧ w.cell? ⟨b, off + k * 10 + 3, none⟩ = some l[k].q.vp ∧ w.cell? ⟨b, off + k * 10 + 4, none⟩ = some (.int .i64 l[k].q.st) ∧ w.cell? ⟨b, off + k * 10 + 5, none⟩ = some l[k].q.vf ∧ w.cell? ⟨b, off + k * 10 + 6, none⟩ = some (S l[k].q.body) ∧ w.cell? ⟨b, off + k * 10 + 7, none⟩ = some (.int .i64 l[k].q.asked) ∧ w.cell? ⟨b, off + k * 10 + 8, none⟩ = some (.int .i64 l[k].q.came) ∧ w.cell? ⟨b, off + k * 10 + 9, none⟩ = some l[k].vl := by
  obtain ⟨⟨a', cap', h1, h2, h3, h4, h5, h6⟩, _⟩ := h
  simp only [Value.slice.injEq] at h1
  obtain ⟨rfl, rfl, rfl⟩ := h1
  obtain ⟨b, off, rfl, hb, c0⟩ := h6 (k * 10 + 0) _ (by rw [dcells_get l k hk 0 (by omega)]; rfl)
  have hc : ∀ j u, j < 10 → (l[k].cells)[j]? = some u → w.cell? ⟨b, off + (k * 10 + j), none⟩ = some u := fun j u hj hu => by
    obtain ⟨b1, off1, e1, _, c1⟩ := h6 (k * 10 + j) u (by rw [dcells_get l k hk j hj]; exact hu)
    simp only [Option.some.injEq, Addr.mk.injEq, and_true] at e1
    obtain ⟨rfl, rfl⟩ := e1
    exact c1
  refine ⟨b, off, rfl, hb, c0, ?_, ?_, ?_, ?_, ?_, ?_, ?_, ?_, ?_⟩
  · rw [Nat.add_assoc]; exact hc 1 _ (by omega) rfl
  · rw [Nat.add_assoc]; exact hc 2 _ (by omega) rfl
  · rw [Nat.add_assoc]; exact hc 3 _ (by omega) rfl
  · rw [Nat.add_assoc]; exact hc 4 _ (by omega) rfl
  · rw [Nat.add_assoc]; exact hc 5 _ (by omega) rfl
  · rw [Nat.add_assoc]; exact hc 6 _ (by omega) rfl
  · rw [Nat.add_assoc]; exact hc 7 _ (by omega) rfl
  · rw [Nat.add_assoc]; exact hc 8 _ (by omega) rfl
  · rw [Nat.add_assoc]; exact hc 9 _ (by omega) rfl

theorem fbytes_max (l : List F) (hb : ∀ f ∈ l, f.n.length ≤ 140737488355328 ∧ f.v.length ≤ 140737488355328) : fbytes l ≤ 281476050452512 := by
  have : ∀ (l : List F) (n : Nat), (∀ f ∈ l, f.n.length ≤ 140737488355328 ∧ f.v.length ≤ 140737488355328) → n ≤ 281476050452512 → l.foldl fbStep n ≤ 281476050452512 := by
    intro l
    induction l with
    | nil => exact fun n _ h => h
    | cons f l ih =>
      intro n hb hn
      refine ih _ (fun g hg => hb g (List.mem_cons_of_mem _ hg)) ?_
      have := hb f (by simp)
      unfold fbStep
      split <;> omega
  exact this l 0 hb (Nat.zero_le _)

/-- What 'few' grants of a step. -/
structure Small (d : Dv) : Prop where
  key : d.q.key.length ≤ 65536
  body : d.q.body.length ≤ 2097152
  lp : d.lp.length ≤ 50
  lpe : ∀ p ∈ d.lp, p.n.length ≤ 1000 ∧ p.v.length ≤ 10000
  lf : fsum d.lf ≤ 131072
  ll : fsum d.ll ≤ 131072
theorem Small.sum {d : Dv} (h : Small d) : fsum d.lp ≤ 551600 := by
  have : ∀ l : List F, (∀ p ∈ l, p.n.length ≤ 1000 ∧ p.v.length ≤ 10000) → fsum l ≤ l.length * 11032 := by
    intro l
    induction l with
    | nil => intro _; simp [fsum]
    | cons f l ih =>
      intro h
      have h1 := ih fun p hp => h p (List.mem_cons_of_mem _ hp)
      have h2 := h f (by simp)
      simp only [fsum, List.map_cons, List.sum_cons, List.length_cons] at *
      omega
  have h1 := this d.lp h.lpe
  have h2 := h.lp
  omega
/-- What is known of a step that came in. -/
def Dv.Ok (d : Dv) : Prop := d.q.key.length ≤ 140737488355328 ∧ d.q.body.length ≤ 140737488355328 ∧ (∀ f ∈ d.lp, f.n.length ≤ 140737488355328 ∧ f.v.length ≤ 140737488355328) ∧ (∀ f ∈ d.lf, f.n.length ≤ 140737488355328 ∧ f.v.length ≤ 140737488355328) ∧ (∀ f ∈ d.ll, f.n.length ≤ 140737488355328 ∧ f.v.length ≤ 140737488355328)
end Go.Dr

namespace Go.Dr
open Go.RowKit Go.ChangeShapes Go.WideShapes Go.Deep Go.Joins
open Go.ChangeMaps (open_string)

/-- An entry of a list that came in: its cells, its two lists. -/
structure Ex where
  q : En
  lp : List F
  lf : List F
instance : Inhabited Ex := ⟨⟨⟨[], .slice none 0 0, 0, .slice none 0 0, [], 0, 0⟩, [], []⟩⟩
def Ex.cells (x : Ex) : List Value := [S x.q.key, x.q.vp, .int .i64 x.q.st, x.q.vf, S x.q.body, .int .i64 x.q.asked, .int .i64 x.q.came]
def xcells (l : List Ex) : List Value := l.flatMap Ex.cells
/-- A list of entries that is read. -/
def Xs (B : Nat) (w : World) (v : Value) (l : List Ex) : Prop := Rd B w 7 v l.length (xcells l) ∧ ∀ x ∈ l, Fs B w x.q.vp x.lp ∧ Fs B w x.q.vf x.lf
def Ex.Ok (x : Ex) : Prop := x.q.Ok ∧ FOk x.lp ∧ FOk x.lf
theorem Xs.below {B : Nat} {w w' : World} {v : Value} {l : List Ex} (h : Xs B w v l) (hb : Below B w w') : Xs B w' v l := ⟨h.1.below hb, fun x hx => ⟨(h.2 x hx).1.below hb, (h.2 x hx).2.below hb⟩⟩
theorem Xs.form {B : Nat} {w : World} {v : Value} {l : List Ex} (h : Xs B w v l) : ∃ a cap, v = .slice a l.length cap ∧ l.length ≤ 9223372036854775807 := by
  obtain ⟨⟨a, cap, h1, h2, h3, _⟩, _⟩ := h
  exact ⟨a, cap, h1, by unfold maxLen at h3; omega⟩
theorem Xs.at {B : Nat} {w : World} {a : Option Addr} {n cap : Nat} {l : List Ex} (h : Xs B w (.slice a n cap) l) (k : Nat) (hk : k < l.length) :
    ∃ b off, a = some ⟨b, off, none⟩ ∧ b < B ∧ w.cell? ⟨b, off + k * 7, none⟩ = some (S l[k].q.key) ∧ w.cell? ⟨b, off + k * 7 + 1, none⟩ = some l[k].q.vp ∧ w.cell? ⟨b, off + k * 7 + 2, none⟩ = some (.int .i64 l[k].q.st) ∧ w.cell? ⟨b, off + k * 7 + 3, none⟩ = some l[k].q.vf ∧ w.cell? ⟨b, off + k * 7 + 4, none⟩ = some (S l[k].q.body) ∧ w.cell? ⟨b, off + k * 7 + 5, none⟩ = some (.int .i64 l[k].q.asked) ∧ w.cell? ⟨b, off + k * 7 + 6, none⟩ = some (.int .i64 l[k].q.came) := by
  obtain ⟨⟨a', cap', h1, h2, h3, h4, h5, h6⟩, _⟩ := h
  simp only [Value.slice.injEq] at h1
  obtain ⟨rfl, rfl, rfl⟩ := h1
  have hg : ∀ j, j < 7 → (xcells l)[k * 7 + j]? = (l[k].cells)[j]? := fun j hj => flat_get Ex.cells 7 (fun _ => rfl) l k hk j hj
  obtain ⟨b, off, rfl, hb, c0⟩ := h6 (k * 7 + 0) _ (by rw [hg 0 (by omega)]; rfl)
  have hc : ∀ (j : Nat) (u : Value), j < 7 → (l[k].cells)[j]? = some u → w.cell? ⟨b, off + (k * 7 + j), none⟩ = some u := fun j u hj hu => by
    obtain ⟨b1, off1, e1, _, c1⟩ := h6 (k * 7 + j) u (by rw [hg j hj]; exact hu)
    simp only [Option.some.injEq, Addr.mk.injEq, and_true] at e1
    obtain ⟨rfl, rfl⟩ := e1
    exact c1
  refine ⟨b, off, rfl, hb, c0, ?_, ?_, ?_, ?_, ?_, ?_⟩
  · rw [Nat.add_assoc]; exact hc 1 _ (by omega) rfl
  · rw [Nat.add_assoc]; exact hc 2 _ (by omega) rfl
  · rw [Nat.add_assoc]; exact hc 3 _ (by omega) rfl
  · rw [Nat.add_assoc]; exact hc 4 _ (by omega) rfl
  · rw [Nat.add_assoc]; exact hc 5 _ (by omega) rfl
  · rw [Nat.add_assoc]; exact hc 6 _ (by omega) rfl

section
variable {H : Type} {enc : TypeId × Value → H} {P : Program} {w : World} {base : Nat} {spare : Nat → Bool} {held : Bool}

end
end Go.Dr

namespace Go.Dr
open Go.RowKit
theorem costs_filter (l : List Nd) (p : Nd → Bool) : costs ((l.filter p).map Nd.x) ≤ costs (l.map Nd.x) := by
  induction l with
  | nil => exact Nat.le_refl _
  | cons n l ih =>
    rw [List.filter_cons, List.map_cons, costs_cons]
    split
    · rw [List.map_cons, costs_cons]; omega
    · omega
theorem row_form {w : World} {base : Nat} {e : TypeId} {size : Nat} {v : Value} {n : Nat} {xs : List Value} (h : w.ownsRow base e size v n xs) : ∃ a c, v = .slice a n c := by
  rcases h.2 with ⟨rfl, h0⟩ | ⟨g, cap, cur, rfl, _⟩
  · exact ⟨none, 0, by rw [h0]⟩
  · exact ⟨_, _, rfl⟩
theorem Dv.one (d : Dv) (h1 : ∃ a n c, d.q.vp = .slice a n c) (h2 : ∃ a n c, d.q.vf = .slice a n c) (h3 : ∃ a n c, d.vl = .slice a n c) : ∀ u ∈ d.cells, u.oneCell' = true := by
  obtain ⟨a, n, c, h1⟩ := h1
  obtain ⟨a', n', c', h2⟩ := h2
  obtain ⟨a'', n'', c'', h3⟩ := h3
  intro u hu
  simp only [Dv.cells, List.mem_cons, List.not_mem_nil, or_false, h1, h2, h3] at hu
  rcases hu with rfl | rfl | rfl | rfl | rfl | rfl | rfl | rfl | rfl | rfl <;> rfl
end Go.Dr
namespace Go.Proofs.YtahapblgmehngaaGreatDoor
open Go.RowKit Go.Dr
/-- The one link of a key that stays. -/
structure Keep (l : List Nd) (nd : Nd) (key : Bytes) (last : Int) (C : Nat) : Prop where
  mem : nd ∈ l
  isKey : nd.x.key = key
  only : ∀ n ∈ l, n.x.key = key → n = nd
  ids : ∀ n ∈ l, n.x.id ≤ last
  cost : costs (l.map Nd.x) ≤ C
theorem Keep.put {l : List Nd} {nd : Nd} {key : Bytes} {last : Int} {C : Nat} (h : Keep l nd key last C) {q : En} {lp lf : List F} (hk : q.key ≠ key) {M : Nat} (hM : C + costF q lp lf ≤ M) {nd' : Nd} (hx : nd'.x = It.of (last + 1) q lp lf) :
    roomOf (M - costF q lp lf) (l.filter fun n => !alikeP q.key lp n) = l.filter (fun n => !alikeP q.key lp n) ∧ Keep (l.filter (fun n => !alikeP q.key lp n) ++ [nd']) nd key (last + 1) (C + costF q lp lf) := by
  have hc := costs_filter l fun n => !alikeP q.key lp n
  have hcc := h.cost
  refine ⟨roomOf_fit (by omega), List.mem_append.2 (.inl (List.mem_filter.2 ⟨h.mem, ?_⟩)), h.isKey, fun n hn e => ?_, fun n hn => ?_, ?_⟩
  · unfold alikeP
    rw [h.isKey]
    have : (key == q.key) = false := by simpa using fun e => hk e.symm
    rw [this]
    rfl
  · rcases List.mem_append.1 hn with hn | hn
    · exact h.only n (List.mem_filter.1 hn).1 e
    · rw [List.mem_singleton.1 hn, hx] at e
      exact absurd e hk
  · rcases List.mem_append.1 hn with hn | hn
    · have := h.ids n (List.mem_filter.1 hn).1
      omega
    · rw [List.mem_singleton.1 hn, hx]
      exact Int.le_refl _
  · rw [List.map_append, costs_append]
    have : costs ([nd'].map Nd.x) = costF q lp lf := by
      show nd'.x.cost + 0 = _
      rw [hx]
      rfl
    omega
end Go.Proofs.YtahapblgmehngaaGreatDoor

namespace Go.Proofs.YtahapblgmehngaaGreatDoor
open Go.RowKit Go.Dr

/-- The empty entry. -/
abbrev entZ : Value := .agg #[S [], .slice none 0 0, .int .i64 0, .slice none 0 0, S [], .int .i64 0, .int .i64 0]
theorem Find_nil (k : Bytes) (v : Value) (w : World) : Calls Tryz.prog 33 #[.pointer none, S k, v] w fun e w' => e = .returned (.tuple #[entZ, .int .i64 0, .bool false]) ∧ Below w.heap.size w w' := by
  go_enter Tryz.func33, Tryz.ntmps33
  go_wp2
  refine bodyPost_ret (v := .tuple #[entZ, .int .i64 0, .bool false]) (by simp [results, Tryz.results33, go_sem, World.cell?_alloc_mark]) rfl ?_
  exact ⟨rfl, by first | exact Below.refl _ _ | exact (Below.refl _ _).alloc (Nat.le_refl _) _⟩
end Go.Proofs.YtahapblgmehngaaGreatDoor

namespace Go.Proofs.YtahapblgmehngaaGreatDoor
open Go.RowKit Go.Dr

/-- What an entry reads as that is answered: its lists lie in rows of their own. -/
def RetE (x : It) (base : Nat) (v : Value) (w : World) : Prop := ∃ vp vf, v = .agg #[S x.key, vp, .int .i64 x.st, vf, S x.body, .int .i64 x.asked, .int .i64 x.came] ∧ w.ownsRow base 89 3 vp x.lp.length (fcells x.lp) ∧ w.ownsRow base 60 3 vf x.lf.length (fcells x.lf)

theorem RetE.low {x : It} {base base' : Nat} {v : Value} {w : World} (h : RetE x base v w) (hb : base' ≤ base) : RetE x base' v w := by
  obtain ⟨vp, vf, e, h1, h2⟩ := h
  exact ⟨vp, vf, e, own_base h1 hb, own_base h2 hb⟩
theorem RetE.below {x : It} {base : Nat} {v : Value} {w w' : World} (h : RetE x base v w) (hb : Below w.heap.size w w') : RetE x base v w' := by
  obtain ⟨vp, vf, e, h1, h2⟩ := h
  exact ⟨vp, vf, e, own_below h1 hb, own_below h2 hb⟩
theorem RetE.put7 {x : It} {base : Nat} {v : Value} {w : World} (h : RetE x base v w) {G : Nat} (hG : G < base) (b0 b1 b2 b3 b4 b5 b6 : Value) : RetE x base v (put7 w G b0 b1 b2 b3 b4 b5 b6) := by
  obtain ⟨vp, vf, e, h1, h2⟩ := h
  exact ⟨vp, vf, e, own_block h1 fun g cur _ hg => heap_put7 _ _ _ _ _ _ _ _ _ g (by omega), own_block h2 fun g cur _ hg => heap_put7 _ _ _ _ _ _ _ _ _ g (by omega)⟩

/-- A link's entry is copied. -/
theorem copied_nd {rb : Nat} (n : Nd) (w : World) (h : Rows rb w n) (hc : n.x.cost ≤ 1048576) :
    Calls Tryz.prog 66 #[entV n] w fun e w' => ∃ vp vf, e = .returned (.agg #[S n.x.key, vp, .int .i64 n.x.st, vf, S n.x.body, .int .i64 n.x.asked, .int .i64 n.x.came]) ∧ w'.ownsRow w.heap.size 89 3 vp n.x.lp.length (fcells n.x.lp) ∧ w'.ownsRow w.heap.size 60 3 vf n.x.lf.length (fcells n.x.lf) ∧ Below w.heap.size w w' := by
  have h1 := fsum_length n.x.lp
  have h2 := fsum_length n.x.lf
  unfold It.cost at hc
  exact copied_any n.en n.x.lp n.x.lf w (Fs.own h.1) (Fs.own h.2) (by omega) (by omega)

abbrev Ez : Array Value := #[S [], .slice none 0 0, .int .i64 0, .slice none 0 0, S [], .int .i64 0, .int .i64 0]

end Go.Proofs.YtahapblgmehngaaGreatDoor

namespace Go.Proofs.YtahapblgmehngaaGreatDoor
open Go.RowKit Go.Dr

/-- An entry in a row that is answered: its two lists, what it is. -/
structure Ev where
  vp : Value
  vf : Value
  x : It
def Ev.cells (v : Ev) : List Value := [S v.x.key, v.vp, .int .i64 v.x.st, v.vf, S v.x.body, .int .i64 v.x.asked, .int .i64 v.x.came]
def ecells (l : List Ev) : List Value := l.flatMap Ev.cells
theorem Ev.one (v : Ev) (h1 : ∃ a n c, v.vp = .slice a n c) (h2 : ∃ a n c, v.vf = .slice a n c) : ∀ u ∈ v.cells, u.oneCell' = true := by
  obtain ⟨a, n, c, h1⟩ := h1
  obtain ⟨a', n', c', h2⟩ := h2
  intro u hu
  simp only [Ev.cells, List.mem_cons, List.not_mem_nil, or_false, h1, h2] at hu
  rcases hu with rfl | rfl | rfl | rfl | rfl | rfl | rfl <;> rfl
def EvRows (base : Nat) (w : World) (v : Ev) : Prop := w.ownsRow base 89 3 v.vp v.x.lp.length (fcells v.x.lp) ∧ w.ownsRow base 60 3 v.vf v.x.lf.length (fcells v.x.lf)
theorem EvRows.low {base base' : Nat} {w : World} {v : Ev} (h : EvRows base w v) (hb : base' ≤ base) : EvRows base' w v := ⟨own_base h.1 hb, own_base h.2 hb⟩
theorem EvRows.block {base : Nat} {w w' : World} {v : Ev} (h : EvRows base w v) (hb : ∀ (g : Nat) (cur : Array Value), (w.heap[g]? = some (Obj.cells cur 89 (0, 0)) ∨ w.heap[g]? = some (Obj.cells cur 60 (0, 0))) → w'.heap[g]? = w.heap[g]?) : EvRows base w' v :=
  ⟨own_block h.1 fun g cur hg _ => hb g cur (.inl hg), own_block h.2 fun g cur hg _ => hb g cur (.inr hg)⟩

/-- The entries that are answered: their row, their lists. -/
structure Evs (base : Nat) (w : World) (v : Value) (l : List It) (evs : List Ev) : Prop where
  items : evs.map Ev.x = l
  row : w.ownsRow base 36 7 v evs.length (ecells evs)
  lists : ∀ e ∈ evs, EvRows base w e

end Go.Proofs.YtahapblgmehngaaGreatDoor

namespace Go.Proofs.YtahapblgmehngaaGreatDoor
open Go.RowKit Go.Dr

/-- What there was up to some place, but for what is replaced, is what went and what stays up to some place. -/
def Ends (p : Nd → Bool) (W D : List Nd) (H K : Nat) : Prop := ∃ E, (W.take H).filter (fun n => !p n) = E ++ D.take K
theorem Ends.skip {p : Nd → Bool} {W D : List Nd} {H K : Nat} (h : Ends p W D (H + 1) K) (hH : H < W.length) (hp : p W[H] = true) : Ends p W D H K := by
  obtain ⟨E, e⟩ := h
  refine ⟨E, ?_⟩
  rw [take_snoc W H hH, List.filter_append, List.filter_cons, hp] at e
  simpa using e
theorem Ends.step {p : Nd → Bool} {W D : List Nd} {H K : Nat} (h : Ends p W D (H + 1) (K + 1)) (hH : H < W.length) (hK : K < D.length) (hp : p W[H] = false) : W[H] = D[K] ∧ Ends p W D H K := by
  obtain ⟨E, e⟩ := h
  rw [take_snoc W H hH, take_snoc D K hK, List.filter_append, List.filter_cons, hp, ← List.append_assoc] at e
  simp only [Bool.not_false, if_true, List.filter_nil] at e
  obtain ⟨e1, e2⟩ := List.append_inj' e rfl
  exact ⟨by simpa using e2, E, e1⟩
theorem Evs.below {base : Nat} {w w' : World} {v : Value} {l : List It} {evs : List Ev} (h : Evs base w v l evs) (hb : Below w.heap.size w w') : Evs base w' v l evs := ⟨h.items, own_below h.row hb, fun e he => ⟨own_below (h.lists e he).1 hb, own_below (h.lists e he).2 hb⟩⟩
/-- The answered entries stay while the shelf turns. -/
theorem Evs.but {base fb rb : Nat} {w w' : World} {s R m : Nat} {most last : Int} {ls : List Nd} {v : Value} {l : List It} {evs : List Ev} (h : Evs base w v l evs) (hs : Sh fb rb w s R m most last ls) (hb : But (Foot s R m ls) w w') : Evs base w' v l evs :=
  ⟨h.items, own_block h.row fun g cur hg _ => hb.block g (Array.getElem?_eq_some_iff.1 hg).1 (hs.off hg (by decide) (by decide)), fun e he => (h.lists e he).block fun g cur hg => hb.block g (by rcases hg with hg | hg <;> exact (Array.getElem?_eq_some_iff.1 hg).1) (by
    rcases hg with hg | hg
    · exact hs.off hg (by decide) (by decide)
    · exact hs.off hg (by decide) (by decide))⟩
theorem Evs.len {base : Nat} {w : World} {v : Value} {l : List Nd} {evs : List Ev} (h : Evs base w v (l.map Nd.x) evs) : evs.length = l.length := by
  have := congrArg List.length h.items
  simpa using this
theorem Evs.get {base : Nat} {w : World} {v : Value} {l : List Nd} {evs : List Ev} (h : Evs base w v (l.map Nd.x) evs) (k : Nat) (hk : k < evs.length) (hk' : k < l.length) : evs[k].x = l[k].x := by
  have h1 : (evs.map Ev.x)[k]? = (l.map Nd.x)[k]? := by rw [h.items]
  rw [List.getElem?_map, List.getElem?_map, List.getElem?_eq_getElem hk, List.getElem?_eq_getElem hk'] at h1
  simpa using h1
end Go.Proofs.YtahapblgmehngaaGreatDoor

