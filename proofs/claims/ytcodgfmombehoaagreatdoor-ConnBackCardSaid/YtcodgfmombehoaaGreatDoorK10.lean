/- Parts of the proof of bk_root: the texts Cns2. -/
import Derived.Maps.AppendAt
import Derived.Test.YtcodgfmombehoaaGreatDoorK9
set_option linter.unusedSimpArgs false
set_option linter.unusedVariables false
set_option linter.unnecessarySimpa false
set_option maxRecDepth 100000
set_option maxHeartbeats 64000000
namespace Go.Dr
open Go Go.RowKit
theorem wpList_appAt {P : Program} {ops : Array Oper} {rest : List Oper} {o : Oper} {a : Act} {Q : Exit → Act → World → Prop} {w : World} (hgd : o.guard = none) (s x : Operand) (t : TypeId)
  (ho : o.op = .call { callee := .builtin .append, args := #[s, x], argTypes := #[t, t] })
  (base : Nat) (e : TypeId) (z : Value) (size bytes : Nat) (ht : P.underlying t = some (.slice e)) (hi : (P.info? e).map (fun i => (i.zero, i.size, i.bytes)) = some (some z, size, bytes))
  (hzs : z.cells.size = size) (hsz : 0 < size)
  (v : Value) (n : Nat) (xs : List Value) (hs : a.eval s = v) (hown : w.ownsRow base e size v n xs)
  (B : Nat) (vs : Value) (m : Nat) (news : List Value) (hx : a.eval x = vs) (hsrc : Rd B w size vs m news) (h1 : ∀ u ∈ news, u.oneCell' = true)
  (hm : n + m ≤ maxLen) (hbytes : (n + m) * bytes ≤ 140737488355328) (hbase : base ≤ w.heap.size)
  (h : ∀ a' c' w', w'.ownsRow base e size (.slice a' (n + m) c') (n + m) (xs ++ news) → w.grownBy w' v.ownBlock → ((Value.slice a' (n + m) c').ownBlock = v.ownBlock ∨ (Value.slice a' (n + m) c').ownBlock = some w.heap.size) → wpList P ops Q rest (a.put o.dst (.slice a' (n + m) c')) w') : wpList P ops Q (o :: rest) a w := by
 obtain ⟨ad, cap, rfl, h2, h3, h4, h5, h6⟩ := hsrc;obtain ⟨i, hi, hz, hsize, hby⟩ := info_parts hi
 cases ad with
 | none =>
  obtain rfl := h5 rfl;obtain rfl : m = 0 := by omega
  have hn : news = [] := List.eq_nil_of_length_eq_zero (by simpa using h4);subst hn;have hrun := run_append_owned_none (P := P) (w := w) base t o.type e i size ht hi v n xs hown;refine wpList_plain hgd fun K hK => ?_
  unfold Oper.wp;simp [execOp, ho, resolve, invoke, builtin, hs, hx, hrun, Result.andThen]
  obtain ⟨a', c', rfl⟩ : ∃ a' c', v = .slice a' n c' := by
   rcases hown.2 with ⟨rfl, rfl⟩ | ⟨g, cap, cur, rfl, _⟩
   ·exact ⟨_, _, rfl⟩
   ·exact ⟨_, _, rfl⟩
  exact hK _ _ (h a' c' w (by simpa using hown) (World.grownBy.refl _ _) (.inl rfl))
 | some ad =>
  refine wpList_append_own_at w hgd s x t ho base e i z size bytes ht hi hz hsize hby hzs hsz v n xs hs hown ad m cap news hx h4 ?_ h1 hm hbytes hbase fun v' w' ho' hg _ hat => ?_
  ·intro j u hu
   obtain ⟨b, off, e1, _, e3⟩ := h6 j u hu;obtain rfl := Option.some.inj e1;rw [Addr.add_lit];exact e3
  ·obtain ⟨a', c', rfl⟩ : ∃ a' c', v' = .slice a' (n + m) c' := by
    rcases ho'.2 with ⟨rfl, h0⟩ | ⟨g, cap, cur, rfl, _⟩
    ·rw [h0];exact ⟨_, _, rfl⟩
    ·exact ⟨_, _, rfl⟩
   exact h a' c' w' ho' hg hat
theorem wp_appAt {P : Program} {o : Oper} {a : Act} {K : Act → World → Prop} {Q : Exit → Act → World → Prop} {w : World} (s x : Operand) (t : TypeId)
  (ho : o.op = .call { callee := .builtin .append, args := #[s, x], argTypes := #[t, t] })
  (base : Nat) (e : TypeId) (z : Value) (size bytes : Nat) (ht : P.underlying t = some (.slice e)) (hi : (P.info? e).map (fun i => (i.zero, i.size, i.bytes)) = some (some z, size, bytes))
  (hzs : z.cells.size = size) (hsz : 0 < size)
  (v : Value) (n : Nat) (xs : List Value) (hs : a.eval s = v) (hown : w.ownsRow base e size v n xs)
  (B : Nat) (vs : Value) (m : Nat) (news : List Value) (hx : a.eval x = vs) (hsrc : Rd B w size vs m news) (h1 : ∀ u ∈ news, u.oneCell' = true)
  (hm : n + m ≤ maxLen) (hbytes : (n + m) * bytes ≤ 140737488355328) (hbase : base ≤ w.heap.size)
  (h : ∀ a' c' w', w'.ownsRow base e size (.slice a' (n + m) c') (n + m) (xs ++ news) → w.grownBy w' v.ownBlock → ((Value.slice a' (n + m) c').ownBlock = v.ownBlock ∨ (Value.slice a' (n + m) c').ownBlock = some w.heap.size) → K (a.put o.dst (.slice a' (n + m) c')) w') : Oper.wp P o a w K Q := by
 obtain ⟨ad, cap, rfl, h2, h3, h4, h5, h6⟩ := hsrc;obtain ⟨i, hi, hz, hsize, hby⟩ := info_parts hi
 cases ad with
 | none =>
  obtain rfl := h5 rfl;obtain rfl : m = 0 := by omega
  have hn : news = [] := List.eq_nil_of_length_eq_zero (by simpa using h4);subst hn;have hrun := run_append_owned_none (P := P) (w := w) base t o.type e i size ht hi v n xs hown;unfold Oper.wp;simp [execOp, ho, resolve, invoke, builtin, hs, hx, hrun, Result.andThen]
  obtain ⟨a', c', rfl⟩ : ∃ a' c', v = .slice a' n c' := by
   rcases hown.2 with ⟨rfl, rfl⟩ | ⟨g, cap, cur, rfl, _⟩
   ·exact ⟨_, _, rfl⟩
   ·exact ⟨_, _, rfl⟩
  exact h a' c' w (by simpa using hown) (World.grownBy.refl _ _) (.inl rfl)
 | some ad =>
  obtain ⟨v', w', hr, h2', h3', h4', h5'⟩ := run_append_own_at (P := P) w base t o.type e i z size bytes ht hi hz hsize hby hzs hsz v n xs hown ad m cap news h4 (by
   intro j u hu;obtain ⟨b, off, e1, _, e3⟩ := h6 j u hu;obtain rfl := Option.some.inj e1;rw [Addr.add_lit]
   exact e3) h1 hm hbytes hbase
  obtain ⟨a', c', rfl⟩ : ∃ a' c', v' = .slice a' (n + m) c' := by
   rcases h2'.2 with ⟨rfl, h0⟩ | ⟨g, cap, cur, rfl, _⟩
   ·rw [h0];exact ⟨_, _, rfl⟩
   ·exact ⟨_, _, rfl⟩
  unfold Oper.wp execOp;simp only [ho, resolve, invoke, builtin, Sem.run_bind, Sem.run_pure, Result.andThen_ok, List.map_toArray, List.map_cons, List.map_nil, hs, hx, hr];exact h a' c' w' h2' h3' h5'
end Go.Dr
namespace Go.Proofs.YtcodgfmombehoaaGreatDoor
open Go Go.RowKit Go.Dr
theorem pair_map (l : List (Int × Sp)) (f : Int → Nat) : (l.map (·.1)).map (fun i => (i, f i)) = l.map fun p => (p.1, f p.1) := by simp
theorem live_ids (l l' : List (Int × Sp)) (f : Int → Nat) (h : l.map (·.1) = l'.map (·.1)) : (l.map fun p => (p.1, f p.1)) = l'.map fun p => (p.1, f p.1) := by rw [← pair_map, ← pair_map, h]
variable {w w' : World} {n : Nm} {m : Mm} {q : Cq} {S : Nat → Prop}
theorem Cx.upC (h : Cx w n m q) (hb : But S w w') (hSk : ∀ g, S g → kd w g = 78 + 1 ∨ kd w g = 5 + 1 ∨ kd w g = 68 + 1 ∨ kd w g = 3 + 1) (m' : Mm) (q' : Cq) (hc : Blk w' n.c 78 (ccells n m' q')) (hbv : w'.ownsRow n.B 5 1 m'.bv q'.bytes.length (q'.bytes.map B8)) (hnv : ∃ k, w'.ownsRow n.B 68 10 m'.nv k q'.news) (hcv : w'.ownsRow n.B 3 1 m'.cv q'.closed.length (q'.closed.map fun x => .int .i64 x))
  (hp : ∀ p ∈ q.live, ∀ g, some g = (m.sv p.1).ownBlock → ¬ S g ∧ some g ≠ m'.bv.ownBlock) (hsb : m'.sb = m.sb) (hsv : m'.sv = m.sv)
  (hq : (q'.tab, q'.lst, q'.live, q'.how, q'.pre, q'.all, q'.first, q'.off, q'.tm, q'.brk, q'.told, q'.least) = (q.tab, q.lst, q.live, q.how, q.pre, q.all, q.first, q.off, q.tm, q.brk, q.told, q.least)) : Cx w' n m' q' := by
 obtain ⟨kc, kfb, kd1, kt1, ke, kt2, kbk, klm, khm, kom, kb1, kn1, kb2, kn2, kbv, knv, kcv, ksd⟩ := h.kinds;simp only [Prod.mk.injEq] at hq;obtain ⟨e1, e2, e3, e4, e5, e6, e7, e8, e9, e10, e11, e12⟩ := hq
 exact {
  blk := hc,
  feed := by rw [e5];exact h.feed.but hb (fun hs => by have := hSk _ hs;omega),
  dec := by rw [e1, e2, e10];exact h.dec.but hb (fun hs => by have := hSk _ hs;omega),
  t1 := by rw [e9];exact h.t1.but hb (fun hs => by have := hSk _ hs;omega),
  b1 := (hb.block _ (lt_of_block h.b1) (fun hs => by have := hSk _ hs;omega)).trans h.b1,
  n1 := (hb.block _ (lt_of_block h.n1) (fun hs => by have := hSk _ hs;omega)).trans h.n1,
  enc := by rw [e11, e12];exact h.enc.but hb (fun hs => by have := hSk _ hs;omega),
  t2 := h.t2.but hb (fun hs => by have := hSk _ hs;omega),
  b2 := (hb.block _ (lt_of_block h.b2) (fun hs => by have := hSk _ hs;omega)).trans h.b2,
  n2 := (hb.block _ (lt_of_block h.n2) (fun hs => by have := hSk _ hs;omega)).trans h.n2,
  book := by rw [e6, e7];exact h.book.but hb (fun hs => by have := hSk _ hs;omega),
  off := by rw [e8];exact h.off.but hb (fun hs => by have := hSk _ hs;omega),
  how := by rw [e4];exact h.how.but hb (fun hs => by have := hSk _ hs;omega),
  live := by rw [e3, hsb];exact h.live.block (hb.block _ h.live.lt (fun hs => by have := hSk _ hs;omega)),
  side := by rw [e3, hsb, hsv];exact fun p hp => (h.side p hp).but hb (fun hs => by have := hSk _ hs;have := (ksd p hp).1;omega),
  pend := by rw [e3, hsv];exact fun p hq => own_same (h.pend p hq) fun g hg => hb.block g (own_lt (h.pend p hq) hg).2 (hp p hq g hg).1,
  bytes := hbv,
  news := hnv,
  closed := hcv,
  tt := h.tt,
  maps := h.maps,
  bp := by rw [e3, hsv];exact fun p hq g hg => (hp p hq g hg).2,
  ss := by rw [e3, hsb, hsv];exact h.ss,
  lo := fun g hg => by
   rcases hg with hg | hg | hg | ⟨p, hq, hg⟩
   ·exact h.lo g (.inl hg)
   ·exact h.lo g (.inr (.inl hg))
   ·obtain ⟨k, hn⟩ := hnv
    rcases hg with hg | hg | hg
    ·exact (own_lt hbv hg).1
    ·exact (own_lt hn hg).1
    ·exact (own_lt hcv hg).1
   ·rw [hsb, hsv] at hg
    exact h.lo g (.inr (.inr (.inr ⟨p, e3 ▸ hq, hg⟩))) }
theorem Cx.upF (h : Cx w n m q) (hb : But S w w') (hSk : ∀ g, S g → kd w g = 122 + 1) (pre : Nat) (hf : Blk w' n.fb 122 #[.int .i64 ((16384 : Nat) : Int), .int .i64 (pre : Int), .slice none 0 0, .bool false]) : Cx w' n m { q with pre := pre } := by
 obtain ⟨kc, kfb, kd1, kt1, ke, kt2, kbk, klm, khm, kom, kb1, kn1, kb2, kn2, kbv, knv, kcv, ksd⟩ := h.kinds
 exact {
  blk := h.blk.but hb (fun hs => by have := hSk _ hs;omega),
  feed := hf,
  dec := h.dec.but hb (fun hs => by have := hSk _ hs;omega),
  t1 := h.t1.but hb (fun hs => by have := hSk _ hs;omega),
  b1 := (hb.block _ (lt_of_block h.b1) (fun hs => by have := hSk _ hs;omega)).trans h.b1,
  n1 := (hb.block _ (lt_of_block h.n1) (fun hs => by have := hSk _ hs;omega)).trans h.n1,
  enc := h.enc.but hb (fun hs => by have := hSk _ hs;omega),
  t2 := h.t2.but hb (fun hs => by have := hSk _ hs;omega),
  b2 := (hb.block _ (lt_of_block h.b2) (fun hs => by have := hSk _ hs;omega)).trans h.b2,
  n2 := (hb.block _ (lt_of_block h.n2) (fun hs => by have := hSk _ hs;omega)).trans h.n2,
  book := h.book.but hb (fun hs => by have := hSk _ hs;omega),
  off := h.off.but hb (fun hs => by have := hSk _ hs;omega),
  how := h.how.but hb (fun hs => by have := hSk _ hs;omega),
  live := h.live.block (hb.block _ h.live.lt (fun hs => by have := hSk _ hs;omega)),
  side := fun p hp => (h.side p hp).but hb (fun hs => by have := hSk _ hs;have := (ksd p hp).1;omega),
  pend := fun p hp => own_same (h.pend p hp) fun g hg => hb.block g (own_lt (h.pend p hp) hg).2 (fun hs => by have := hSk _ hs;have := (ksd p hp).2 g hg;omega),
  bytes := own_same h.bytes fun g hg => hb.block g (own_lt h.bytes hg).2 (fun hs => by have := hSk _ hs;have := kbv g hg;omega),
  news := let ⟨k, hn⟩ := h.news;⟨k, own_same hn fun g hg => hb.block g (own_lt hn hg).2 (fun hs => by have := hSk _ hs;have := knv g hg;omega)⟩,
  closed := own_same h.closed fun g hg => hb.block g (own_lt h.closed hg).2 (fun hs => by have := hSk _ hs;have := kcv g hg;omega),
  tt := h.tt,
  maps := h.maps,
  bp := h.bp,
  ss := h.ss,
  lo := h.lo }
theorem Cx.upD (h : Cx w n m q) (hb : But S w w') (hSk : ∀ g, S g → kd w g = 127 + 1 ∨ kd w g = 176 + 1) (hSt : ¬ S n.t2) (tm : Int) (brk : Bool) (hd : Blk w' n.d 127 #[.int .i64 q.tab, .int .i64 q.lst, Ptr n.t1, .bool brk]) (ht : Blk w' n.t1 176 #[.int .i64 tm, .int .i64 0, .slice none 0 0, .int .i64 0, .map (some n.b1), .map (some n.n1)]) : Cx w' n m { q with tm := tm, brk := brk } := by
 obtain ⟨kc, kfb, kd1, kt1, ke, kt2, kbk, klm, khm, kom, kb1, kn1, kb2, kn2, kbv, knv, kcv, ksd⟩ := h.kinds
 exact {
  blk := h.blk.but hb (fun hs => by have := hSk _ hs;omega),
  feed := h.feed.but hb (fun hs => by have := hSk _ hs;omega),
  dec := hd,
  t1 := ht,
  b1 := (hb.block _ (lt_of_block h.b1) (fun hs => by have := hSk _ hs;omega)).trans h.b1,
  n1 := (hb.block _ (lt_of_block h.n1) (fun hs => by have := hSk _ hs;omega)).trans h.n1,
  enc := h.enc.but hb (fun hs => by have := hSk _ hs;omega),
  t2 := h.t2.but hb hSt,
  b2 := (hb.block _ (lt_of_block h.b2) (fun hs => by have := hSk _ hs;omega)).trans h.b2,
  n2 := (hb.block _ (lt_of_block h.n2) (fun hs => by have := hSk _ hs;omega)).trans h.n2,
  book := h.book.but hb (fun hs => by have := hSk _ hs;omega),
  off := h.off.but hb (fun hs => by have := hSk _ hs;omega),
  how := h.how.but hb (fun hs => by have := hSk _ hs;omega),
  live := h.live.block (hb.block _ h.live.lt (fun hs => by have := hSk _ hs;omega)),
  side := fun p hp => (h.side p hp).but hb (fun hs => by have := hSk _ hs;have := (ksd p hp).1;omega),
  pend := fun p hp => own_same (h.pend p hp) fun g hg => hb.block g (own_lt (h.pend p hp) hg).2 (fun hs => by have := hSk _ hs;have := (ksd p hp).2 g hg;omega),
  bytes := own_same h.bytes fun g hg => hb.block g (own_lt h.bytes hg).2 (fun hs => by have := hSk _ hs;have := kbv g hg;omega),
  news := let ⟨k, hn⟩ := h.news;⟨k, own_same hn fun g hg => hb.block g (own_lt hn hg).2 (fun hs => by have := hSk _ hs;have := knv g hg;omega)⟩,
  closed := own_same h.closed fun g hg => hb.block g (own_lt h.closed hg).2 (fun hs => by have := hSk _ hs;have := kcv g hg;omega),
  tt := h.tt,
  maps := h.maps,
  bp := h.bp,
  ss := h.ss,
  lo := h.lo }
theorem Cx.upE (h : Cx w n m q) (hb : But S w w') (hSk : ∀ g, S g → kd w g = 129 + 1) (told least : Int) (he : Blk w' n.e 129 #[.int .i64 4096, .int .i64 told, .int .i64 least, Ptr n.t2]) : Cx w' n m { q with told := told, least := least } := by
 obtain ⟨kc, kfb, kd1, kt1, ke, kt2, kbk, klm, khm, kom, kb1, kn1, kb2, kn2, kbv, knv, kcv, ksd⟩ := h.kinds
 exact {
  blk := h.blk.but hb (fun hs => by have := hSk _ hs;omega),
  feed := h.feed.but hb (fun hs => by have := hSk _ hs;omega),
  dec := h.dec.but hb (fun hs => by have := hSk _ hs;omega),
  t1 := h.t1.but hb (fun hs => by have := hSk _ hs;omega),
  b1 := (hb.block _ (lt_of_block h.b1) (fun hs => by have := hSk _ hs;omega)).trans h.b1,
  n1 := (hb.block _ (lt_of_block h.n1) (fun hs => by have := hSk _ hs;omega)).trans h.n1,
  enc := he,
  t2 := h.t2.but hb (fun hs => by have := hSk _ hs;omega),
  b2 := (hb.block _ (lt_of_block h.b2) (fun hs => by have := hSk _ hs;omega)).trans h.b2,
  n2 := (hb.block _ (lt_of_block h.n2) (fun hs => by have := hSk _ hs;omega)).trans h.n2,
  book := h.book.but hb (fun hs => by have := hSk _ hs;omega),
  off := h.off.but hb (fun hs => by have := hSk _ hs;omega),
  how := h.how.but hb (fun hs => by have := hSk _ hs;omega),
  live := h.live.block (hb.block _ h.live.lt (fun hs => by have := hSk _ hs;omega)),
  side := fun p hp => (h.side p hp).but hb (fun hs => by have := hSk _ hs;have := (ksd p hp).1;omega),
  pend := fun p hp => own_same (h.pend p hp) fun g hg => hb.block g (own_lt (h.pend p hp) hg).2 (fun hs => by have := hSk _ hs;have := (ksd p hp).2 g hg;omega),
  bytes := own_same h.bytes fun g hg => hb.block g (own_lt h.bytes hg).2 (fun hs => by have := hSk _ hs;have := kbv g hg;omega),
  news := let ⟨k, hn⟩ := h.news;⟨k, own_same hn fun g hg => hb.block g (own_lt hn hg).2 (fun hs => by have := hSk _ hs;have := knv g hg;omega)⟩,
  closed := own_same h.closed fun g hg => hb.block g (own_lt h.closed hg).2 (fun hs => by have := hSk _ hs;have := kcv g hg;omega),
  tt := h.tt,
  maps := h.maps,
  bp := h.bp,
  ss := h.ss,
  lo := h.lo }
theorem Cx.upO (h : Cx w n m q) (hb : But S w w') (hSk : ∀ g, S g → g = n.om ∨ g = n.bk) (all first : Int) (off : List (Int × Int)) (hbk : Blk w' n.bk 132 #[.int .i64 all, .int .i64 first, .map (some n.om)]) (ho : IMp w' n.om off) : Cx w' n m { q with all := all, first := first, off := off } := by
 obtain ⟨kc, kfb, kd1, kt1, ke, kt2, kbk, klm, khm, kom, kb1, kn1, kb2, kn2, kbv, knv, kcv, ksd⟩ := h.kinds;have hSK : ∀ g, S g → kd w g = 0 ∨ kd w g = 132 + 1 := fun g hg => by rcases hSk g hg with e | e <;> (rw [e];omega)
 exact {
  blk := h.blk.but hb (fun hs => by have := hSK _ hs;omega),
  feed := h.feed.but hb (fun hs => by have := hSK _ hs;omega),
  dec := h.dec.but hb (fun hs => by have := hSK _ hs;omega),
  t1 := h.t1.but hb (fun hs => by have := hSK _ hs;omega),
  b1 := (hb.block _ (lt_of_block h.b1) (fun hs => by rcases hSk _ hs with e | e;all_goals (first | (rw [e] at kb1;omega) | (have := h.maps;omega)))).trans h.b1,
  n1 := (hb.block _ (lt_of_block h.n1) (fun hs => by rcases hSk _ hs with e | e;all_goals (first | (rw [e] at kn1;omega) | (have := h.maps;omega)))).trans h.n1,
  enc := h.enc.but hb (fun hs => by have := hSK _ hs;omega),
  t2 := h.t2.but hb (fun hs => by have := hSK _ hs;omega),
  b2 := (hb.block _ (lt_of_block h.b2) (fun hs => by rcases hSk _ hs with e | e;all_goals (first | (rw [e] at kb2;omega) | (have := h.maps;omega)))).trans h.b2,
  n2 := (hb.block _ (lt_of_block h.n2) (fun hs => by rcases hSk _ hs with e | e;all_goals (first | (rw [e] at kn2;omega) | (have := h.maps;omega)))).trans h.n2,
  book := hbk,
  off := ho,
  how := h.how.but hb (fun hs => by rcases hSk _ hs with e | e;all_goals (first | (rw [e] at khm;omega) | (have := h.maps;omega))),
  live := h.live.block (hb.block _ h.live.lt (fun hs => by rcases hSk _ hs with e | e;all_goals (first | (rw [e] at klm;omega) | (have := h.maps;omega)))),
  side := fun p hp => (h.side p hp).but hb (fun hs => by have := hSK _ hs;have := (ksd p hp).1;omega),
  pend := fun p hp => own_same (h.pend p hp) fun g hg => hb.block g (own_lt (h.pend p hp) hg).2 (fun hs => by have := hSK _ hs;have := (ksd p hp).2 g hg;omega),
  bytes := own_same h.bytes fun g hg => hb.block g (own_lt h.bytes hg).2 (fun hs => by have := hSK _ hs;have := kbv g hg;omega),
  news := let ⟨k, hn⟩ := h.news;⟨k, own_same hn fun g hg => hb.block g (own_lt hn hg).2 (fun hs => by have := hSK _ hs;have := knv g hg;omega)⟩,
  closed := own_same h.closed fun g hg => hb.block g (own_lt h.closed hg).2 (fun hs => by have := hSK _ hs;have := kcv g hg;omega),
  tt := h.tt,
  maps := h.maps,
  bp := h.bp,
  ss := h.ss,
  lo := h.lo }
theorem Cx.upL (h : Cx w n m q) (hb : But S w w') (hSk : ∀ g, S g → g = n.lm ∨ g = n.lm) (m' : Mm) (live : List (Int × Sp)) (hm : (m'.bv, m'.nv, m'.cv) = (m.bv, m.nv, m.cv)) (hl : LMp w' n.lm (live.map fun p => (p.1, m'.sb p.1))) (hs : ∀ p ∈ live, Blk w' (m'.sb p.1) 101 (p.2.cells (m'.sv p.1))) (hp : ∀ p ∈ live, w'.ownsRow n.B 5 1 (m'.sv p.1) p.2.pend.length (p.2.pend.map B8))
  (hbp : ∀ p ∈ live, ∀ g, some g = (m'.sv p.1).ownBlock → some g ≠ m.bv.ownBlock) (hss : ∀ p ∈ live, ∀ p' ∈ live, p.1 ≠ p'.1 → m'.sb p.1 ≠ m'.sb p'.1 ∧ ∀ g, some g = (m'.sv p.1).ownBlock → some g ≠ (m'.sv p'.1).ownBlock) (hlo : ∀ p ∈ live, n.B ≤ m'.sb p.1) : Cx w' n m' { q with live := live } := by
 obtain ⟨kc, kfb, kd1, kt1, ke, kt2, kbk, klm, khm, kom, kb1, kn1, kb2, kn2, kbv, knv, kcv, ksd⟩ := h.kinds;have hSK : ∀ g, S g → kd w g = 0 := fun g hg => by rcases hSk g hg with e | e <;> (rw [e];omega)
 simp only [Prod.mk.injEq] at hm;obtain ⟨e1, e2, e3⟩ := hm
 exact {
  blk := by rw [show ccells n m' { q with live := live } = ccells n m q by simp only [ccells, e1, e2, e3]];exact h.blk.but hb (fun hs => by have := hSK _ hs;omega),
  feed := h.feed.but hb (fun hs => by have := hSK _ hs;omega),
  dec := h.dec.but hb (fun hs => by have := hSK _ hs;omega),
  t1 := h.t1.but hb (fun hs => by have := hSK _ hs;omega),
  b1 := (hb.block _ (lt_of_block h.b1) (fun hs => by rcases hSk _ hs with e | e;all_goals (obtain ⟨p1, p2, p3, ⟨p4, p5, p6⟩, ⟨p7, p8, p9⟩, ⟨p10, p11, p12⟩, p13, p14, p15⟩ := h.maps;omega))).trans h.b1,
  n1 := (hb.block _ (lt_of_block h.n1) (fun hs => by rcases hSk _ hs with e | e;all_goals (obtain ⟨p1, p2, p3, ⟨p4, p5, p6⟩, ⟨p7, p8, p9⟩, ⟨p10, p11, p12⟩, p13, p14, p15⟩ := h.maps;omega))).trans h.n1,
  enc := h.enc.but hb (fun hs => by have := hSK _ hs;omega),
  t2 := h.t2.but hb (fun hs => by have := hSK _ hs;omega),
  b2 := (hb.block _ (lt_of_block h.b2) (fun hs => by rcases hSk _ hs with e | e;all_goals (obtain ⟨p1, p2, p3, ⟨p4, p5, p6⟩, ⟨p7, p8, p9⟩, ⟨p10, p11, p12⟩, p13, p14, p15⟩ := h.maps;omega))).trans h.b2,
  n2 := (hb.block _ (lt_of_block h.n2) (fun hs => by rcases hSk _ hs with e | e;all_goals (obtain ⟨p1, p2, p3, ⟨p4, p5, p6⟩, ⟨p7, p8, p9⟩, ⟨p10, p11, p12⟩, p13, p14, p15⟩ := h.maps;omega))).trans h.n2,
  book := h.book.but hb (fun hs => by have := hSK _ hs;omega),
  off := h.off.but hb (fun hs => by rcases hSk _ hs with e | e;all_goals (obtain ⟨p1, p2, p3, ⟨p4, p5, p6⟩, ⟨p7, p8, p9⟩, ⟨p10, p11, p12⟩, p13, p14, p15⟩ := h.maps;omega)),
  how := h.how.but hb (fun hs => by rcases hSk _ hs with e | e;all_goals (obtain ⟨p1, p2, p3, ⟨p4, p5, p6⟩, ⟨p7, p8, p9⟩, ⟨p10, p11, p12⟩, p13, p14, p15⟩ := h.maps;omega)),
  live := hl,
  side := hs,
  pend := hp,
  bytes := by rw [e1];exact own_same h.bytes fun g hg => hb.block g (own_lt h.bytes hg).2 (fun hs => by have := hSK _ hs;have := kbv g hg;omega),
  news := by rw [e2];exact let ⟨k, hn⟩ := h.news;⟨k, own_same hn fun g hg => hb.block g (own_lt hn hg).2 (fun hs => by have := hSK _ hs;have := knv g hg;omega)⟩,
  closed := by rw [e3];exact own_same h.closed fun g hg => hb.block g (own_lt h.closed hg).2 (fun hs => by have := hSK _ hs;have := kcv g hg;omega),
  tt := h.tt,
  maps := h.maps,
  bp := by rw [e1];exact hbp,
  ss := hss,
  lo := fun g hg => by
   rcases hg with hg | hg | hg | ⟨p, hq, hg⟩
   ·exact h.lo g (.inl hg)
   ·exact h.lo g (.inr (.inl hg))
   ·rw [e1, e2, e3] at hg
    exact h.lo g (.inr (.inr (.inl hg)))
   ·rcases hg with rfl | hg
    ·exact hlo p hq
    ·exact (own_lt (hp p hq) hg).1 }
theorem Cx.upS (h : Cx w n m q) (hb : But S w w') (hSk : ∀ g, S g → kd w g = 101 + 1 ∨ kd w g = 5 + 1) (m' : Mm) (live : List (Int × Sp)) (hm : (m'.bv, m'.nv, m'.cv, m'.sb) = (m.bv, m.nv, m.cv, m.sb)) (hids : live.map (·.1) = q.live.map (·.1)) (hbv : ∀ g, some g = m.bv.ownBlock → ¬ S g) (hs : ∀ p ∈ live, Blk w' (m.sb p.1) 101 (p.2.cells (m'.sv p.1))) (hp : ∀ p ∈ live, w'.ownsRow n.B 5 1 (m'.sv p.1) p.2.pend.length (p.2.pend.map B8))
  (hbp : ∀ p ∈ live, ∀ g, some g = (m'.sv p.1).ownBlock → some g ≠ m.bv.ownBlock) (hss : ∀ p ∈ live, ∀ p' ∈ live, p.1 ≠ p'.1 → m.sb p.1 ≠ m.sb p'.1 ∧ ∀ g, some g = (m'.sv p.1).ownBlock → some g ≠ (m'.sv p'.1).ownBlock) : Cx w' n m' { q with live := live } := by
 obtain ⟨kc, kfb, kd1, kt1, ke, kt2, kbk, klm, khm, kom, kb1, kn1, kb2, kn2, kbv, knv, kcv, ksd⟩ := h.kinds;simp only [Prod.mk.injEq] at hm;obtain ⟨e1, e2, e3, e4⟩ := hm
 exact {
  blk := by rw [show ccells n m' { q with live := live } = ccells n m q by simp only [ccells, e1, e2, e3]];exact h.blk.but hb (fun hs => by have := hSk _ hs;omega),
  feed := h.feed.but hb (fun hs => by have := hSk _ hs;omega),
  dec := h.dec.but hb (fun hs => by have := hSk _ hs;omega),
  t1 := h.t1.but hb (fun hs => by have := hSk _ hs;omega),
  b1 := (hb.block _ (lt_of_block h.b1) (fun hs => by have := hSk _ hs;omega)).trans h.b1,
  n1 := (hb.block _ (lt_of_block h.n1) (fun hs => by have := hSk _ hs;omega)).trans h.n1,
  enc := h.enc.but hb (fun hs => by have := hSk _ hs;omega),
  t2 := h.t2.but hb (fun hs => by have := hSk _ hs;omega),
  b2 := (hb.block _ (lt_of_block h.b2) (fun hs => by have := hSk _ hs;omega)).trans h.b2,
  n2 := (hb.block _ (lt_of_block h.n2) (fun hs => by have := hSk _ hs;omega)).trans h.n2,
  book := h.book.but hb (fun hs => by have := hSk _ hs;omega),
  off := h.off.but hb (fun hs => by have := hSk _ hs;omega),
  how := h.how.but hb (fun hs => by have := hSk _ hs;omega),
  live := by rw [show (live.map fun p => (p.1, m'.sb p.1)) = q.live.map fun p => (p.1, m.sb p.1) by rw [e4];exact live_ids _ _ _ hids];exact h.live.block (hb.block _ h.live.lt (fun hs => by have := hSk _ hs;omega)),
  side := by rw [e4];exact hs,
  pend := hp,
  bytes := by rw [e1];exact own_same h.bytes fun g hg => hb.block g (own_lt h.bytes hg).2 (hbv g hg),
  news := by rw [e2];exact let ⟨k, hn⟩ := h.news;⟨k, own_same hn fun g hg => hb.block g (own_lt hn hg).2 (fun hs => by have := hSk _ hs;have := knv g hg;omega)⟩,
  closed := by rw [e3];exact own_same h.closed fun g hg => hb.block g (own_lt h.closed hg).2 (fun hs => by have := hSk _ hs;have := kcv g hg;omega),
  tt := h.tt,
  maps := h.maps,
  bp := by rw [e1];exact hbp,
  ss := by rw [e4];exact hss,
  lo := fun g hg => by
   rcases hg with hg | hg | hg | ⟨p, hq, hg⟩
   ·exact h.lo g (.inl hg)
   ·exact h.lo g (.inr (.inl hg))
   ·rw [e1, e2, e3] at hg
    exact h.lo g (.inr (.inr (.inl hg)))
   ·rcases hg with hg | hg
    ·obtain ⟨p0, hp0, e0⟩ := List.mem_map.1 (show p.1 ∈ q.live.map (·.1) by rw [← hids];exact List.mem_map_of_mem hq)
     exact h.lo g (.inr (.inr (.inr ⟨p0, hp0, .inl (by rw [hg, e4, e0])⟩)))
    ·exact (own_lt (hp p hq) hg).1 }
end Go.Proofs.YtcodgfmombehoaaGreatDoor
