/- Parts of the proof of bk_root: the texts Per3 Gmp Cns. -/
import Derived.StringKeys
import Derived.Test.YtcodgfmombehoaaGreatDoorK8
set_option linter.unusedSimpArgs false
set_option linter.unusedVariables false
set_option linter.unnecessarySimpa false
set_option maxRecDepth 100000
set_option maxHeartbeats 64000000
namespace Go.Proofs.YtcodgfmombehoaaGreatDoor
open Go.RowKit Go.Dr
theorem obj_alloc {w : World} {b : Nat} {o' : Obj} (h : w.heap[b]? = some o') (o : Obj) : (w.alloc o).heap[b]? = some o' := (Below.heap_alloc w o b (Array.getElem?_eq_some_iff.1 h).1).trans h
theorem obj_new (w : World) (o : Obj) (g : Nat) (hg : w.heap.size = g) : (w.alloc o).heap[g]? = some o := by subst hg;exact heap_alloc_new w o
theorem obj_below {B : Nat} {w w' : World} {b : Nat} {o' : Obj} (h : w.heap[b]? = some o') (hb : Below B w w') (hB : b < B) : w'.heap[b]? = some o' := (hb.block b hB).trans h
structure Tbl0 (w : World) (t : Nat) : Prop where
 m1 : w.heap[t - 2]? = some (.map #[] 0)
 m2 : w.heap[t - 1]? = some (.map #[] 0)
 blk : Blk w t 176 #[.int .i64 4096, .int .i64 0, .slice none 0 0, .int .i64 0, .map (some (t - 2)), .map (some (t - 1))]
end Go.Proofs.YtcodgfmombehoaaGreatDoor
namespace Go.Dr
open Go Go.RowKit
section
variable {κ β : Type} [DecidableEq κ]
def GMap (P : Program) (kt : TypeId) (R : Value → Option (DataW Unit × List MemPlace)) (L : κ → Lit) (E : β → DataW Unit) (w : World) (m : Nat) (l : List (κ × β)) : Prop :=
 ∃ D : DataW Unit, w.ownsMap P kt R m l.length D ∧ Maps.Tidy D ∧ Maps.size D = l.length ∧ (l.map (·.1)).Nodup ∧ (∀ i : κ, Maps.has D (L i) = l.any fun p => p.1 == i) ∧ ∀ p ∈ l, ∀ z, D.atKey (L p.1) z = E p.2
variable {P : Program} {kt et t : TypeId} {R : Value → Option (DataW Unit × List MemPlace)} {L : κ → Lit} {E : β → DataW Unit} {w : World} {m : Nat} {l : List (κ × β)}
theorem GMap.made (h : w.heap[m]? = some (.map #[] 0)) : GMap P kt R L E w m [] :=
 ⟨.map [], ⟨#[], 0, h, ⟨by simp, MapKept.stamped_empty 0, by simp⟩, Nat.le_refl _, rfl⟩, Maps.tidy_empty, rfl, by simp, fun _ => rfl, by simp⟩
theorem GMap.lt (h : GMap P kt R L E w m l) : m < w.heap.size := by
 obtain ⟨D, h, _⟩ := h;exact h.lt
theorem GMap.obj (h : GMap P kt R L E w m l) : ∃ es clock, w.heap[m]? = some (.map es clock) := by
 obtain ⟨D, ⟨es, clock, h, _⟩, _⟩ := h;exact ⟨es, clock, h⟩
theorem GMap.block {w' : World} (h : GMap P kt R L E w m l) (hb : w'.heap[m]? = w.heap[m]?) : GMap P kt R L E w' m l := by
 obtain ⟨D, ⟨es, clock, h1, h2⟩, hD⟩ := h;exact ⟨D, ⟨es, clock, hb.trans h1, h2⟩, hD⟩
theorem GMap.drew (h : GMap P kt R L E w m l) : GMap P kt R L E w.drew m l := h.block rfl
theorem GMap.on {w' : World} (h : GMap P kt R L E w m l) (hb : Below w.heap.size w w') : GMap P kt R L E w' m l := h.block (hb.block m h.lt)
theorem GMap.but {S : Nat → Prop} {w' : World} (h : GMap P kt R L E w m l) (hf : But S w w') (hS : ¬ S m) : GMap P kt R L E w' m l := h.block (hf.block m h.lt hS)
theorem GMap.far (h : GMap P kt R L E w m l) {a : Addr} (ha : m ≠ a.block) (u : Value) : GMap P kt R L E (w.setCell a u) m l := h.block (Below.heap_setCell _ _ _ _ ha)
theorem GMap.nodup (h : GMap P kt R L E w m l) : (l.map (·.1)).Nodup := by
 obtain ⟨D, h1, h2, h3, h4, _⟩ := h;exact h4
theorem GMap.inn (h : GMap P kt R L E w m l) (K : Maps.Keyed P kt) (ht : P.underlying t = some (.map kt et)) {z0 : Value} (hz : (zeroValue et).run P w = .ok z0 w) {zd : DataW Unit} {zp : List MemPlace} (hzd : R z0 = some (zd, zp)) {kv : Value} {i : κ} (hkey : keyOf P kt kv = some (L i)) {b : β} (hm : (i, b) ∈ l) {V : Value} (inv : ∀ v ps, R v = some (E b, ps) → v = V) :
  (Instr.lookup t (.map (some m)) kv true).run P w = .ok (.tuple #[V, .bool true]) w ∧ (Instr.lookup t (.map (some m)) kv false).run P w = .ok V w := by
 obtain ⟨D, h1, h2, h3, h4, h6, h7⟩ := h;have hh : Maps.has D (L i) = true := (by rw [h6, List.any_eq_true];exact ⟨_, hm, by simp⟩)
 constructor
 ·obtain ⟨v, ps, hrun, hv⟩ := h1.look_ok K ht hz hzd hkey
  rw [h7 _ hm] at hv;rw [inv _ _ hv, hh] at hrun;exact hrun
 ·obtain ⟨v, ps, hrun, hv⟩ := h1.lookup K ht hz hzd hkey
  rw [h7 _ hm] at hv;rw [inv _ _ hv] at hrun;exact hrun
theorem GMap.out (h : GMap P kt R L E w m l) (K : Maps.Keyed P kt) (ht : P.underlying t = some (.map kt et)) {z0 : Value} (hz : (zeroValue et).run P w = .ok z0 w) {zd : DataW Unit} {zp : List MemPlace} (hzd : R z0 = some (zd, zp)) {kv : Value} {i : κ} (hkey : keyOf P kt kv = some (L i)) (hm : ∀ p ∈ l, p.1 ≠ i) (inv : ∀ v ps, R v = some (zd, ps) → v = z0) :
  (Instr.lookup t (.map (some m)) kv true).run P w = .ok (.tuple #[z0, .bool false]) w ∧ (Instr.lookup t (.map (some m)) kv false).run P w = .ok z0 w := by
 obtain ⟨D, h1, h2, h3, h4, h6, h7⟩ := h;have hh : Maps.has D (L i) = false := (by rw [h6, List.any_eq_false];intro p hp;simpa using hm p hp)
 constructor
 ·obtain ⟨v, ps, hrun, hv⟩ := h1.look_ok K ht hz hzd hkey
  rw [Maps.atKey_of_not_has hh] at hv;rw [inv _ _ hv, hh] at hrun;exact hrun
 ·obtain ⟨v, ps, hrun, hv⟩ := h1.lookup K ht hz hzd hkey
  rw [Maps.atKey_of_not_has hh] at hv;rw [inv _ _ hv] at hrun;exact hrun
theorem GMap.put (hL : ∀ i j, i ≠ j → L i ≠ L j) (h : GMap P kt R L E w m l) (K : Maps.Keyed P kt) (ht : P.underlying t = some (.map kt et)) {kv : Value} {i : κ} (hkey : keyOf P kt kv = some (L i)) (hkl : WideAt.IsKeyLit (L i)) (hi : ∀ p ∈ l, p.1 ≠ i) (hn : l.length < maxLen) {b : β} {V : Value} {ps : List MemPlace} (hV : R V = some (E b, ps)) :
  ∃ w', (Instr.mapUpdate t (.map (some m)) kv V).run P w = .ok () w' ∧ GMap P kt R L E w' m (l ++ [(i, b)]) ∧ w.mapTurned w' m := by
 obtain ⟨D, h1, h2, h3, h4, h6, h7⟩ := h;obtain ⟨w', hrun, ho, hm⟩ := h1.store K ht hn hkey hV;have hh : Maps.has D (L i) = false := (by rw [h6, List.any_eq_false];intro p hp;simpa using hi p hp);have hs2 : Maps.size (D.put (L i) (E b)) = l.length + 1 := (by rw [Maps.size_put h2, hh, h3];simp);refine ⟨w', hrun, ⟨_, by simpa using ho, h2.put hkl _, by simpa using hs2, ?_, fun j => ?_, fun q hq z => ?_⟩, hm⟩
 ·rw [List.map_append, List.nodup_append]
  refine ⟨h4, by simp, fun x hx y hy e => ?_⟩;simp only [List.map_cons, List.map_nil, List.mem_singleton] at hy;obtain ⟨p, hp, e2⟩ := List.mem_map.1 hx;exact hi p hp (by rw [e2, e, hy])
 ·by_cases e : j = i
  ·subst e
   rw [Maps.has_put_same h2.isMap hkl];simp
  ·rw [Maps.has_put_other (hL _ _ e), h6]
   have : (i == j) = false := (by simpa using fun e1 => e e1.symm)
   simp [this]
 ·rcases List.mem_append.1 hq with hq | hq
  ·rw [Maps.atKey_put_other (hL _ _ (hi q hq))]
   exact h7 q hq z
  ·simp at hq
   rw [hq];exact Maps.atKey_put_same h2.isMap hkl _ _
omit [DecidableEq κ] in
theorem nodup_mid {a b : List (κ × β)} {p : κ × β} (h : ((a ++ p :: b).map (·.1)).Nodup) : ∀ q ∈ a ++ b, q.1 ≠ p.1 := by
 intro q hq e;simp only [List.map_append, List.map_cons, List.nodup_append, List.nodup_cons, List.mem_append, List.mem_cons] at h hq;obtain ⟨-, ⟨h8, -⟩, h9⟩ := h
 rcases hq with hq | hq
 ·exact h9 q.1 (List.mem_map_of_mem hq) p.1 (by simp) e
 ·exact h8 (e ▸ List.mem_map_of_mem hq)
theorem GMap.set (hL : ∀ i j, i ≠ j → L i ≠ L j) {a c : List (κ × β)} {i : κ} {b0 : β} (h : GMap P kt R L E w m (a ++ (i, b0) :: c)) (K : Maps.Keyed P kt) (ht : P.underlying t = some (.map kt et)) {kv : Value} (hkey : keyOf P kt kv = some (L i)) (hkl : WideAt.IsKeyLit (L i)) (hn : (a ++ (i, b0) :: c).length < maxLen) {b : β} {V : Value} {ps : List MemPlace} (hV : R V = some (E b, ps)) :
  ∃ w', (Instr.mapUpdate t (.map (some m)) kv V).run P w = .ok () w' ∧ GMap P kt R L E w' m (a ++ (i, b) :: c) ∧ w.mapTurned w' m := by
 obtain ⟨D, h1, h2, h3, h4, h6, h7⟩ := h;obtain ⟨w', hrun, ho, hm⟩ := h1.store K ht hn hkey hV;have hh : Maps.has D (L i) = true := (by rw [h6, List.any_eq_true];exact ⟨(i, b0), by simp, by simp⟩);have hs2 : Maps.size (D.put (L i) (E b)) = (a ++ (i, b) :: c).length := (by rw [Maps.size_put h2, hh, h3];simp);have hnd := nodup_mid h4;refine ⟨w', hrun, ⟨_, by rw [← hs2];exact World.ownsMap.tight ho, h2.put hkl _, hs2, by simpa using h4, fun j => ?_, fun q hq z => ?_⟩, hm⟩
 ·by_cases e : j = i
  ·subst e
   rw [Maps.has_put_same h2.isMap hkl];simp
  ·rw [Maps.has_put_other (hL _ _ e), h6]
   simp
 ·rcases List.mem_append.1 hq with hq | hq
  ·rw [Maps.atKey_put_other (hL _ _ (hnd q (List.mem_append.2 (.inl hq))))]
   exact h7 q (List.mem_append.2 (.inl hq)) z
  ·rcases List.mem_cons.1 hq with rfl | hq
   ·exact Maps.atKey_put_same h2.isMap hkl _ _
   ·rw [Maps.atKey_put_other (hL _ _ (hnd q (List.mem_append.2 (.inr hq))))]
    exact h7 q (List.mem_append.2 (.inr (.tail _ hq))) z
theorem GMap.drop (hL : ∀ i j, i ≠ j → L i ≠ L j) {a c : List (κ × β)} {i : κ} {b0 : β} (h : GMap P kt R L E w m (a ++ (i, b0) :: c)) (K : Maps.Keyed P kt) (ht : P.underlying t = some (.map kt et)) {kv : Value} (hkey : keyOf P kt kv = some (L i)) (ty : TypeId) :
  ∃ w', (Builtin.delete_ #[t, kt] ty #[.map (some m), kv]).run P w = .ok (.tuple #[]) w' ∧ GMap P kt R L E w' m (a ++ c) ∧ w.mapTurned w' m := by
 obtain ⟨D, h1, h2, h3, h4, h6, h7⟩ := h;obtain ⟨w', hrun, ho, hm⟩ := h1.drop K ht hkey ty;have hh : Maps.has D (L i) = true := (by rw [h6, List.any_eq_true];exact ⟨(i, b0), by simp, by simp⟩);have hsz := Maps.size_del (k := L i) h2;rw [hh] at hsz;have hs2 : Maps.size (D.del (L i)) = (a ++ c).length := (by simp at h3 hsz ⊢;omega);have hnd := nodup_mid h4;refine ⟨w', hrun, ⟨_, by rw [← hs2];exact World.ownsMap.tight ho, h2.del _, hs2, ?_, fun j => ?_, fun q hq z => ?_⟩, hm⟩
 ·simp only [List.map_append, List.map_cons, List.nodup_append, List.nodup_cons, List.mem_cons] at h4 ⊢
  exact ⟨h4.1, h4.2.1.2, fun x hx y hy => h4.2.2 x hx y (.inr hy)⟩
 ·by_cases e : j = i
  ·subst e
   rw [Maps.has_del_same];exact (List.any_eq_false.2 fun q hq => by simpa using hnd q hq).symm
  ·rw [Maps.has_del_other (hL _ _ e), h6]
   have : (i == j) = false := (by simpa using fun e1 => e e1.symm)
   simp [this]
 ·rw [Maps.atKey_del_other (hL _ _ (hnd q hq))]
  rcases List.mem_append.1 hq with hq | hq
  ·exact h7 q (List.mem_append.2 (.inl hq)) z
  ·exact h7 q (List.mem_append.2 (.inr (.tail _ hq))) z
theorem GMap.dropNone (hL : ∀ i j, i ≠ j → L i ≠ L j) {i : κ} (h : GMap P kt R L E w m l) (hi : ∀ p ∈ l, p.1 ≠ i) (K : Maps.Keyed P kt) (ht : P.underlying t = some (.map kt et)) {kv : Value} (hkey : keyOf P kt kv = some (L i)) (ty : TypeId) :
  ∃ w', (Builtin.delete_ #[t, kt] ty #[.map (some m), kv]).run P w = .ok (.tuple #[]) w' ∧ GMap P kt R L E w' m l ∧ w.mapTurned w' m := by
 obtain ⟨D, h1, h2, h3, h4, h6, h7⟩ := h;obtain ⟨w', hrun, ho, hm⟩ := h1.drop K ht hkey ty;have hh : Maps.has D (L i) = false := (by rw [h6, List.any_eq_false];intro p hp;simpa using hi p hp);have hsz := Maps.size_del (k := L i) h2;rw [hh] at hsz;have hs2 : Maps.size (D.del (L i)) = l.length := (by simp at h3 hsz ⊢;omega);refine ⟨w', hrun, ⟨_, by rw [← hs2];exact World.ownsMap.tight ho, h2.del _, hs2, h4, fun j => ?_, fun q hq z => ?_⟩, hm⟩
 ·by_cases e : j = i
  ·subst e
   rw [Maps.has_del_same];exact (List.any_eq_false.2 fun q hq => by simpa using hi q hq).symm
  ·rw [Maps.has_del_other (hL _ _ e), h6]
 ·rw [Maps.atKey_del_other (hL _ _ (hi q hq))]
  exact h7 q hq z
theorem GMap.len (h : GMap P kt R L E w m l) (ht : P.underlying t = some (.map kt et)) (ty : TypeId) : (Builtin.len_ #[t] ty #[.map (some m)]).run P w = .ok (.int .i64 (l.length : Nat)) w := by
 obtain ⟨D, h1, h2, h3, _⟩ := h;rw [← h3];exact h1.len ht ty
end
abbrev Li : Int → Lit := Lit.int .i64
theorem Li_ne : ∀ i j : Int, i ≠ j → Li i ≠ Li j := fun _ _ h e => h (by cases e;rfl)
theorem Li_key (i : Int) : WideAt.IsKeyLit (Li i) := by trivial
abbrev Ls : Bytes → Lit := Lit.string
theorem Ls_ne : ∀ i j : Bytes, i ≠ j → Ls i ≠ Ls j := fun _ _ h e => h (by cases e;rfl)
theorem Ls_key (i : Bytes) : WideAt.IsKeyLit (Ls i) := by trivial
def Ri : Value → Option (DataW Unit × List MemPlace)
 | .int .i64 x => some (.lit (.int .i64 x), [])
 | _ => none
theorem Ri_inv {v : Value} {x : Int} {ps : List MemPlace} (h : Ri v = some (.lit (.int .i64 x), ps)) : v = .int .i64 x := by
 unfold Ri at h
 split at h
 ·simp only [Option.some.injEq, Prod.mk.injEq, DataW.lit.injEq, Lit.int.injEq, true_and] at h
  rw [h.1]
 ·cases h
abbrev Ei : Int → DataW Unit := fun x => .lit (.int .i64 x)
abbrev En' : Nat → DataW Unit := fun x => .lit (.int .i64 (x : Int))
theorem wf_small {i : Int} (h0 : -9223372036854775808 ≤ i) (h1 : i < 9223372036854775808) : (Lit.int .i64 i).wf = true := by
 simp [Lit.wf, IntKind.min, IntKind.max, IntKind.bits, IntKind.signed]
 omega
end Go.Dr
namespace Go.Proofs.YtcodgfmombehoaaGreatDoor
open Go Go.RowKit Go.Dr
structure Sp where
 came : Int := 0
 said : Int := 0
 told : Bool := false
 headed : Bool := false
 pend : Bytes := []
 ends : Bool := false
 st : Int
 deriving DecidableEq
def Sp.cells (s : Sp) (pv : Value) : Array Value := #[.int .i64 s.came, .int .i64 s.said, .bool s.told, .bool s.headed, pv, .bool s.ends, .int .i64 s.st]
structure Cq where
 str : Int
 win : Int
 tab : Int
 lst : Int
 frames : Int := 16384
 live : List (Int × Sp) := []
 closed : List Int := []
 how : List (Int × Int) := []
 last : Int := 0
 fo : Int := 0
 endOf : Bool := false
 greeted : Bool := false
 drained : Bool := false
 floor : Int := 0
 over : Bool := false
 bytes : Bytes := []
 news : List Value := []
 pre : Nat := 0
 all : Int := 65535
 first : Int := 65535
 off : List (Int × Int) := []
 tm : Int := 4096
 brk : Bool := false
 told : Int := 4096
 least : Int := 4096
structure Nm where
 B : Nat
 c : Nat
 fb : Nat
 d : Nat
 t1 : Nat
 e : Nat
 t2 : Nat
 bk : Nat
 lm : Nat
 hm : Nat
 om : Nat
 b1 : Nat
 n1 : Nat
 b2 : Nat
 n2 : Nat
 x1 : Int := 0
 x2 : Value := .slice none 0 0
 es2 : Array MapEntry := #[]
 c2 : Nat := 0
 es3 : Array MapEntry := #[]
 c3 : Nat := 0
structure Nm.Fresh (n : Nm) : Prop where
 x1 : n.x1 = 0
 x2 : n.x2 = .slice none 0 0
 es2 : n.es2 = #[]
 c2 : n.c2 = 0
 es3 : n.es3 = #[]
 c3 : n.c3 = 0
 ne : n.b2 ≠ n.n2
 dis : n.b1 ≠ n.b2 ∧ n.b1 ≠ n.n2 ∧ n.n1 ≠ n.b2 ∧ n.n1 ≠ n.n2
structure Mm where
 bv : Value := .slice none 0 0
 nv : Value := .slice none 0 0
 cv : Value := .slice none 0 0
 sb : Int → Nat
 sv : Int → Value
def ccells (n : Nm) (m : Mm) (q : Cq) : Array Value := #[.int .i64 q.str, .int .i64 q.win, .int .i64 q.tab, .int .i64 q.lst, Ptr n.fb, Ptr n.d, Ptr n.e, Ptr n.bk, .int .i64 q.frames, .map (some n.lm), m.cv, .map (some n.hm), .int .i64 q.last, .slice none 0 0, .int .i64 q.fo, .bool q.endOf, .bool q.greeted, .bool q.drained, .int .i64 q.floor, .bool q.over, m.bv, m.nv]
def Foot (n : Nm) (m : Mm) (q : Cq) (g : Nat) : Prop :=
 (g = n.c ∨ g = n.fb ∨ g = n.d ∨ g = n.t1 ∨ g = n.e ∨ g = n.t2 ∨ g = n.bk ∨ g = n.lm ∨ g = n.hm ∨ g = n.om) ∨ (g = n.b1 ∨ g = n.n1 ∨ g = n.b2 ∨ g = n.n2) ∨ (some g = m.bv.ownBlock ∨ some g = m.nv.ownBlock ∨ some g = m.cv.ownBlock) ∨ ∃ p ∈ q.live, g = m.sb p.1 ∨ some g = (m.sv p.1).ownBlock
def kd (w : World) (g : Nat) : Nat := match w.heap[g]? with
 | some (.cells _ t _) => t + 1
 | some (.map _ _) => 0
 | _ => 1000000
theorem kd_blk {w : World} {g : Nat} {t : TypeId} {xs : Array Value} (h : Blk w g t xs) : kd w g = t + 1 := by
 have h' : w.heap[g]? = some (.cells xs t (0, 0)) := h
 simp only [kd, h']
theorem kd_map {w : World} {g n : Nat} {es : Array MapEntry} (h : w.heap[g]? = some (.map es n)) : kd w g = 0 := by simp only [kd, h]
theorem own_kin {w : World} {base : Nat} {e : TypeId} {size : Nat} {v : Value} {n : Nat} {xs : List Value} {g : Nat} (h : w.ownsRow base e size v n xs) (hv : v.ownBlock = some g) : ∃ cur, w.heap[g]? = some (.cells cur e (0, 0)) := by
 rcases h.2 with ⟨rfl, _⟩ | ⟨g', cap, cur, rfl, _, hg, _⟩
 ·cases hv
 ·cases hv
  exact ⟨cur, hg⟩
theorem kd_own {w : World} {base : Nat} {e : TypeId} {size : Nat} {v : Value} {n : Nat} {xs : List Value} (h : w.ownsRow base e size v n xs) {g : Nat} (hg : some g = v.ownBlock) : kd w g = e + 1 := by
 obtain ⟨cur, hc⟩ := own_kin h hg.symm;simp only [kd, hc]
theorem own_lt {w : World} {base : Nat} {e : TypeId} {size : Nat} {v : Value} {n : Nat} {xs : List Value} (h : w.ownsRow base e size v n xs) {g : Nat} (hg : some g = v.ownBlock) : base ≤ g ∧ g < w.heap.size := h.lt g hg.symm
theorem own_same {w w' : World} {base : Nat} {e : TypeId} {size : Nat} {v : Value} {n : Nat} {xs : List Value} (h : w.ownsRow base e size v n xs) (hb : ∀ g, some g = v.ownBlock → w'.heap[g]? = w.heap[g]?) : w'.ownsRow base e size v n xs := by
 refine ⟨h.1, ?_⟩
 rcases h.2 with hn | ⟨g, cap, cur, rfl, hbg, hgg, rest⟩
 ·exact .inl hn
 ·exact .inr ⟨g, cap, cur, rfl, hbg, (hb g rfl).trans hgg, rest⟩
abbrev LMp (w : World) (m : Nat) (l : List (Int × Nat)) : Prop := GMap Tryz.prog 3 Rp Li En' w m l
abbrev IMp (w : World) (m : Nat) (l : List (Int × Int)) : Prop := GMap Tryz.prog 3 Ri Li Ei w m l
structure Cx (w : World) (n : Nm) (m : Mm) (q : Cq) : Prop where
 blk : Blk w n.c 78 (ccells n m q)
 feed : Blk w n.fb 122 #[.int .i64 ((16384 : Nat) : Int), .int .i64 (q.pre : Int), .slice none 0 0, .bool false]
 dec : Blk w n.d 127 #[.int .i64 q.tab, .int .i64 q.lst, Ptr n.t1, .bool q.brk]
 t1 : Blk w n.t1 176 #[.int .i64 q.tm, .int .i64 0, .slice none 0 0, .int .i64 0, .map (some n.b1), .map (some n.n1)]
 b1 : w.heap[n.b1]? = some (.map #[] 0)
 n1 : w.heap[n.n1]? = some (.map #[] 0)
 enc : Blk w n.e 129 #[.int .i64 4096, .int .i64 q.told, .int .i64 q.least, Ptr n.t2]
 t2 : Blk w n.t2 176 #[.int .i64 4096, .int .i64 n.x1, n.x2, .int .i64 0, .map (some n.b2), .map (some n.n2)]
 b2 : w.heap[n.b2]? = some (.map n.es2 n.c2)
 n2 : w.heap[n.n2]? = some (.map n.es3 n.c3)
 book : Blk w n.bk 132 #[.int .i64 q.all, .int .i64 q.first, .map (some n.om)]
 off : IMp w n.om q.off
 how : IMp w n.hm q.how
 live : LMp w n.lm (q.live.map fun p => (p.1, m.sb p.1))
 side : ∀ p ∈ q.live, Blk w (m.sb p.1) 101 (p.2.cells (m.sv p.1))
 pend : ∀ p ∈ q.live, w.ownsRow n.B 5 1 (m.sv p.1) p.2.pend.length (p.2.pend.map B8)
 bytes : w.ownsRow n.B 5 1 m.bv q.bytes.length (q.bytes.map B8)
 news : ∃ k, w.ownsRow n.B 68 10 m.nv k q.news
 closed : w.ownsRow n.B 3 1 m.cv q.closed.length (q.closed.map fun x => .int .i64 x)
 tt : n.t1 ≠ n.t2
 maps : n.lm ≠ n.hm ∧ n.lm ≠ n.om ∧ n.hm ≠ n.om ∧ (n.b1 ≠ n.lm ∧ n.b1 ≠ n.hm ∧ n.b1 ≠ n.om) ∧ (n.n1 ≠ n.lm ∧ n.n1 ≠ n.hm ∧ n.n1 ≠ n.om) ∧ (n.b2 ≠ n.lm ∧ n.b2 ≠ n.hm ∧ n.b2 ≠ n.om) ∧ (n.n2 ≠ n.lm ∧ n.n2 ≠ n.hm ∧ n.n2 ≠ n.om)
 bp : ∀ p ∈ q.live, ∀ g, some g = (m.sv p.1).ownBlock → some g ≠ m.bv.ownBlock
 ss : ∀ p ∈ q.live, ∀ p' ∈ q.live, p.1 ≠ p'.1 → m.sb p.1 ≠ m.sb p'.1 ∧ ∀ g, some g = (m.sv p.1).ownBlock → some g ≠ (m.sv p'.1).ownBlock
 lo : ∀ g, Foot n m q g → n.B ≤ g
variable {w w' : World} {n : Nm} {m : Mm} {q : Cq}
theorem Cx.foot_lt (h : Cx w n m q) {g : Nat} (hg : Foot n m q g) : g < w.heap.size := by
 rcases hg with hg | hg | hg | ⟨p, hp, hg⟩
 ·rcases hg with rfl | rfl | rfl | rfl | rfl | rfl | rfl | rfl | rfl | rfl
  ·exact h.blk.lt
  ·exact h.feed.lt
  ·exact h.dec.lt
  ·exact h.t1.lt
  ·exact h.enc.lt
  ·exact h.t2.lt
  ·exact h.book.lt
  ·exact h.live.lt
  ·exact h.how.lt
  ·exact h.off.lt
 ·rcases hg with rfl | rfl | rfl | rfl
  ·exact lt_of_block h.b1
  ·exact lt_of_block h.n1
  ·exact lt_of_block h.b2
  ·exact lt_of_block h.n2
 ·obtain ⟨k, hn⟩ := h.news
  rcases hg with hg | hg | hg
  ·exact (own_lt h.bytes hg).2
  ·exact (own_lt hn hg).2
  ·exact (own_lt h.closed hg).2
 ·rcases hg with rfl | hg
  ·exact (h.side p hp).lt
  ·exact (own_lt (h.pend p hp) hg).2
theorem Foot.c (n : Nm) (m : Mm) (q : Cq) : Foot n m q n.c := .inl (.inl rfl)
theorem Cx.keep (h : Cx w n m q) (hk : ∀ g, Foot n m q g → w'.heap[g]? = w.heap[g]?) : Cx w' n m q where
 blk := h.blk.block (hk _ (.inl (by simp)))
 feed := h.feed.block (hk _ (.inl (by simp)))
 dec := h.dec.block (hk _ (.inl (by simp)))
 t1 := h.t1.block (hk _ (.inl (by simp)))
 b1 := (hk _ (.inr (.inl (by simp)))).trans h.b1
 n1 := (hk _ (.inr (.inl (by simp)))).trans h.n1
 enc := h.enc.block (hk _ (.inl (by simp)))
 t2 := h.t2.block (hk _ (.inl (by simp)))
 b2 := (hk _ (.inr (.inl (by simp)))).trans h.b2
 n2 := (hk _ (.inr (.inl (by simp)))).trans h.n2
 book := h.book.block (hk _ (.inl (by simp)))
 off := h.off.block (hk _ (.inl (by simp)))
 how := h.how.block (hk _ (.inl (by simp)))
 live := h.live.block (hk _ (.inl (by simp)))
 side := fun p hp => (h.side p hp).block (hk _ (.inr (.inr (.inr ⟨p, hp, .inl rfl⟩))))
 pend := fun p hp => own_same (h.pend p hp) fun g hg => hk _ (.inr (.inr (.inr ⟨p, hp, .inr hg⟩)))
 bytes := own_same h.bytes fun g hg => hk _ (.inr (.inr (.inl (.inl hg))))
 news := let ⟨k, hn⟩ := h.news;⟨k, own_same hn fun g hg => hk _ (.inr (.inr (.inl (.inr (.inl hg)))))⟩
 closed := own_same h.closed fun g hg => hk _ (.inr (.inr (.inl (.inr (.inr hg)))))
 tt := h.tt
 maps := h.maps
 bp := h.bp
 ss := h.ss
 lo := h.lo
theorem Cx.on (h : Cx w n m q) (hb : Below w.heap.size w w') : Cx w' n m q := h.keep fun g hg => hb.block g (h.foot_lt hg)
theorem Cx.drew (h : Cx w n m q) : Cx w.drew n m q := h.keep fun _ _ => rfl
theorem Cx.kinds (h : Cx w n m q) : kd w n.c = 78 + 1 ∧ kd w n.fb = 122 + 1 ∧ kd w n.d = 127 + 1 ∧ kd w n.t1 = 176 + 1 ∧ kd w n.e = 129 + 1 ∧ kd w n.t2 = 176 + 1 ∧ kd w n.bk = 132 + 1 ∧ kd w n.lm = 0 ∧ kd w n.hm = 0 ∧ kd w n.om = 0 ∧ kd w n.b1 = 0 ∧ kd w n.n1 = 0 ∧ kd w n.b2 = 0 ∧ kd w n.n2 = 0 ∧ (∀ g, some g = m.bv.ownBlock → kd w g = 5 + 1) ∧ (∀ g, some g = m.nv.ownBlock → kd w g = 68 + 1) ∧ (∀ g, some g = m.cv.ownBlock → kd w g = 3 + 1) ∧ (∀ p ∈ q.live, kd w (m.sb p.1) = 101 + 1 ∧ ∀ g, some g = (m.sv p.1).ownBlock → kd w g = 5 + 1) := by
 obtain ⟨k, hn⟩ := h.news;obtain ⟨_, _, hl⟩ := h.live.obj;obtain ⟨_, _, hh⟩ := h.how.obj;obtain ⟨_, _, ho⟩ := h.off.obj;exact ⟨kd_blk h.blk, kd_blk h.feed, kd_blk h.dec, kd_blk h.t1, kd_blk h.enc, kd_blk h.t2, kd_blk h.book, kd_map hl, kd_map hh, kd_map ho, kd_map h.b1, kd_map h.n1, kd_map h.b2, kd_map h.n2, fun g hg => kd_own h.bytes hg, fun g hg => kd_own hn hg, fun g hg => kd_own h.closed hg, fun p hp => ⟨kd_blk (h.side p hp), fun g hg => kd_own (h.pend p hp) hg⟩⟩
def Cw (w : World) (n : Nm) (q : Cq) (F : Nat → Prop) : Prop := ∃ m, Cx w n m q ∧ F = Foot n m q
theorem Cw.on {F : Nat → Prop} (h : Cw w n q F) (hb : Below w.heap.size w w') : Cw w' n q F := let ⟨m, h1, h2⟩ := h;⟨m, h1.on hb, h2⟩
theorem Cw.drew {F : Nat → Prop} (h : Cw w n q F) : Cw w.drew n q F := let ⟨m, h1, h2⟩ := h;⟨m, h1.drew, h2⟩
theorem Cw.lt {F : Nat → Prop} (h : Cw w n q F) {g : Nat} (hg : F g) : g < w.heap.size := by
 obtain ⟨m, h1, rfl⟩ := h;exact h1.foot_lt hg
theorem Cw.lo {F : Nat → Prop} (h : Cw w n q F) {g : Nat} (hg : F g) : n.B ≤ g := by
 obtain ⟨m, h1, rfl⟩ := h;exact h1.lo g hg
def Goes (w : World) (n : Nm) (F : Nat → Prop) (w' : World) (q' : Cq) : Prop := ∃ F', Cw w' n q' F' ∧ But F w w' ∧ ∀ g, F' g → F g ∨ w.heap.size ≤ g
theorem Goes.trans {a b c : World} {n : Nm} {F : Nat → Prop} {q q' : Cq} (h : Goes a n F b q) (k : ∀ F1, Cw b n q F1 → Goes b n F1 c q') : Goes a n F c q' := by
 obtain ⟨F1, h1, h2, h3⟩ := h;obtain ⟨F2, k1, k2, k3⟩ := k F1 h1;refine ⟨F2, k1, h2.trans2 k2 h3, fun g hg => ?_⟩
 rcases k3 g hg with hg | hg
 ·exact h3 g hg
 ·exact .inr (Nat.le_trans h2.size hg)
theorem Goes.refl {F : Nat → Prop} (h : Cw w n q F) : Goes w n F w q := ⟨F, h, But.refl _ _, fun _ hg => .inl hg⟩
theorem Goes.on {F : Nat → Prop} {w1 w2 : World} (h : Goes w n F w1 q) (hb : Below w1.heap.size w1 w2) : Goes w n F w2 q := by
 obtain ⟨F1, h1, h2, h3⟩ := h;exact ⟨F1, h1.on hb, h2.trans (But.of_below hb), h3⟩
theorem Goes.first {F : Nat → Prop} {w1 w2 : World} (h : Cw w n q F) (hb : Below w.heap.size w w1) {q' : Cq} (hg : Goes w1 n F w2 q') : Goes w n F w2 q' := by
 obtain ⟨F1, h1, h2, h3⟩ := hg;refine ⟨F1, h1, (But.of_below hb).trans h2, fun g hg => ?_⟩
 rcases h3 g hg with hg | hg
 ·exact .inl hg
 ·exact .inr (Nat.le_trans hb.size hg)
theorem Goes.below {F : Nat → Prop} (h0 : Cw w n q F) {q' : Cq} (h : Goes w n F w' q') (hB : n.B ≤ w.heap.size) : Below n.B w w' := by
 obtain ⟨F1, h1, h2, h3⟩ := h;exact h2.below (fun k hk => h0.lo hk) hB
structure GoesF (w : World) (n : Nm) (F : Nat → Prop) (w' : World) (q' : Cq) (F' : Nat → Prop) : Prop where
 h : Cw w' n q' F'
 b : But F w w'
 s : ∀ g, F' g → F g ∨ w.heap.size ≤ g
theorem GoesF.goes {F F' : Nat → Prop} (h : GoesF w n F w' q F') : Goes w n F w' q := ⟨F', h.h, h.b, h.s⟩
theorem GoesF.refl {F : Nat → Prop} (h : Cw w n q F) : GoesF w n F w q F := ⟨h, But.refl _ _, fun _ hg => .inl hg⟩
theorem GoesF.step {F F1 : Nat → Prop} {w1 w2 : World} {q1 q2 : Cq} (h : GoesF w n F w1 q1 F1) (k : Goes w1 n F1 w2 q2) : ∃ F2, GoesF w n F w2 q2 F2 := by
 obtain ⟨F2, k1, k2, k3⟩ := k;refine ⟨F2, k1, h.b.trans2 k2 h.s, fun g hg => ?_⟩
 rcases k3 g hg with hg | hg
 ·exact h.s g hg
 ·exact .inr (Nat.le_trans h.b.size hg)
theorem GoesF.on {F F1 : Nat → Prop} {w1 w2 : World} (h : GoesF w n F w1 q F1) (hb : Below w1.heap.size w1 w2) : GoesF w n F w2 q F1 := ⟨h.h.on hb, h.b.trans (But.of_below hb), h.s⟩
theorem GoesF.comp {F F1 F2 : Nat → Prop} {w1 w2 : World} {q1 q2 : Cq} (h : GoesF w n F w1 q1 F1) (k : GoesF w1 n F1 w2 q2 F2) : GoesF w n F w2 q2 F2 := ⟨k.h, h.b.trans2 k.b h.s, fun g hg => by
 rcases k.s g hg with hg | hg
 ·exact h.s g hg
 ·exact .inr (Nat.le_trans h.b.size hg)⟩
end Go.Proofs.YtcodgfmombehoaaGreatDoor
