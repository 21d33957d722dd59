/- Parts of the proof of pt_root: the texts Rda2 Per7 Per8 Per9. -/
import Derived.Laws.EntriesVeiled
import Derived.Test.YtkeeofhjdffhbaaGreatDoorT24
import Derived.Test.YtkeeofhjdffhbaaGreatDoorT23
set_option linter.unusedSimpArgs false
set_option linter.unusedVariables false
set_option linter.unnecessarySimpa false
namespace Go.Proofs.YtkeeofhjdffhbaaGreatDoor
open Go.RowKit Go.Dr
set_option maxRecDepth 100000 in
set_option maxHeartbeats 4000000 in
theorem Pseudo_stat (w : World) : Calls Tryz.prog 209 #[.agg stat8] w fun e w' => e = .returned (.bool true) ∧ Below w.heap.size w w' := by
 go_enter Tryz.func209, Tryz.ntmps209
 go_wp2
 go_ret
 exact ⟨rfl, (Below.refl _ _).alloc (Nat.le_refl _) _⟩
set_option maxRecDepth 100000 in
set_option maxHeartbeats 4000000 in
theorem Known_stat {b3 b7 nb mb : Nat} (w : World) (h3 : w.cell? ⟨b3, 0, none⟩ = some (.slice (some ⟨nb, 0, none⟩) 1 1)) (hn : w.cell? ⟨nb, 0, none⟩ = some (S statB)) (h7 : w.cell? ⟨b7, 0, none⟩ = some (.map (some mb))) (hm : w.heap[mb]? = some (.map #[] 0)) :
  Calls Tryz.prog 207 #[S statB, Ptr b3, Ptr b7] w fun e w' => e = .returned (.bool true) ∧ Below w.heap.size w w' := by
 have hl := SM.none hm
 go_enter Tryz.func207, Tryz.ntmps207
 go_wp2
 refine wp_loop_rounds 2 ?_
 rw [rounds_succ]
 go_wp2
 go_ret
 exact ⟨rfl, (Below.refl _ _).alloc (Nat.le_refl _) _⟩
set_option maxRecDepth 100000 in
set_option maxHeartbeats 4000000 in
theorem Ask_stat {b3 b7 b8 b9 nb mb : Nat} {t3 t7 t8 t9 tn : TypeId} (w : World) (h3 : Blk w b3 t3 #[.slice (some ⟨nb, 0, none⟩) 1 1]) (hn : Blk w nb tn #[S statB]) (h7 : Blk w b7 t7 #[.map (some mb)]) (hm : w.heap[mb]? = some (.map #[] 0)) (h8 : Blk w b8 t8 #[.slice none 0 0]) (h9 : Blk w b9 t9 #[.func (.func 207) #[] #[Ptr b3, Ptr b7]]) :
  Calls Tryz.prog 208 #[.agg stat8, Ptr b8, Ptr b9, Ptr b7] w fun e w' => e = .returned (.int .i64 0) ∧ SM w' mb [50, 48, 48] ∧ But (fun k => k = mb) w w' := by
 obtain ⟨W, eW⟩ : ∃ W, W = w.alloc (.cells stat8 41) := ⟨_, rfl⟩
 have hb : Below w.heap.size w W := by rw [eW];exact (Below.refl _ _).alloc (Nat.le_refl _) _
 have hF : Blk W w.heap.size 41 stat8 := by rw [eW];exact Blk.new _ _ _
 have g0 : W.cell? ⟨w.heap.size, 0, none⟩ = some (S statB) := hF.cell 0
 have g1 : W.cell? ⟨w.heap.size, 1, none⟩ = some (S [50, 48, 48]) := hF.cell 1
 have g2 : W.cell? ⟨w.heap.size, 2, none⟩ = some (.bool false) := hF.cell 2
 go_enter Tryz.func208, Tryz.ntmps208
 go_upto_region 1 with fail
 rw [← eW]
 clear eW
 go_wp2_with first
  | (go_at_call 209;(with_reducible refine (Pseudo_stat _).mono ?_);rintro e w2 ⟨rfl, hb2⟩;have hb02 := hb.trans (hb2.mono hb.size);have hF2 := hF.on hb2;have x8 : w2.cell? ⟨b8, 0, none⟩ = some (.slice none 0 0) := ((h8.on hb02).cell 0);have x9 : w2.cell? ⟨b9, 0, none⟩ = some (.func (.func 207) #[] #[Ptr b3, Ptr b7]) := ((h9.on hb02).cell 0);have k0 : w2.cell? ⟨w.heap.size, 0, none⟩ = some (S statB) := hF2.cell 0;have hK := Known_stat w2 ((h3.on hb02).cell 0) ((hn.on hb02).cell 0) ((h7.on hb02).cell 0) (obj_below hm hb02 (lt_of_block hm)))
  | (go_at_call 207;(with_reducible refine hK.mono ?_);rintro e w3 ⟨rfl, hb3⟩;have hb03 := hb02.trans (hb3.mono hb02.size);have hF3 := hF2.on hb3;have x7 : w3.cell? ⟨b7, 0, none⟩ = some (.map (some mb)) := ((h7.on hb03).cell 0);have q0 : w3.cell? ⟨w.heap.size, 0, none⟩ = some (S statB) := hF3.cell 0;have q1 : w3.cell? ⟨w.heap.size, 1, none⟩ = some (S [50, 48, 48]) := hF3.cell 1;obtain ⟨w4, hput, hS4, ht4⟩ := SM.new (obj_below hm hb03 (lt_of_block hm)) [50, 48, 48])
 go_ret
 exact ⟨rfl, hS4, (But.of_below hb03).trans (but_turned ht4)⟩
theorem SM.block {w w' : World} {b : Nat} {l : Bytes} (h : SM w b l) (hb : w'.heap[b]? = w.heap[b]?) : SM w' b l := by
 obtain ⟨es, clock, h1, F, h2, h3⟩ := h
 exact ⟨es, clock, hb.trans h1, F, h2, h3⟩
theorem gather_made (w : World) (nb N : Nat) (hN : w.heap.size = N) :
  let W := (((((w.alloc (.cells #[.slice (some ⟨nb, 0, none⟩) 1 1] 95)).alloc (.map #[] 0)).alloc (.cells #[.map (some (N + 1))] 252)).alloc (.cells #[.slice none 0 0] 42)).alloc (.cells #[Value.func (.func 207) #[] #[Ptr N, Ptr (N + 1 + 1)]] 293))
  Blk W N 95 #[.slice (some ⟨nb, 0, none⟩) 1 1] ∧ W.heap[N + 1]? = some (.map #[] 0) ∧ Blk W (N + 1 + 1) 252 #[.map (some (N + 1))] ∧ Blk W (N + 1 + 1 + 1) 42 #[.slice none 0 0] ∧ Blk W (N + 1 + 1 + 1 + 1) 293 #[Value.func (.func 207) #[] #[Ptr N, Ptr (N + 1 + 1)]] ∧ Below w.heap.size w W ∧ W.heap.size = N + 5 := by
 intro W
 refine ⟨((((bnew_at w _ _ _ hN).alloc _).alloc _).alloc _).alloc _, obj_alloc (obj_alloc (obj_alloc (obj_new _ _ _ (by simp [hN])) _) _) _, ((bnew_at _ _ _ _ (by simp [hN])).alloc _).alloc _, (bnew_at _ _ _ _ (by simp [hN])).alloc _, bnew_at _ _ _ _ (by simp [hN]), ?_, by simp [W, hN]⟩
 exact (((((Below.refl _ _).alloc (Nat.le_refl _) _).alloc (by simp) _).alloc (by simp;omega) _).alloc (by simp;omega) _).alloc (by simp;omega) _
end Go.Proofs.YtkeeofhjdffhbaaGreatDoor
namespace Go.Proofs.YtkeeofhjdffhbaaGreatDoor
open Go.RowKit Go.Dr
/-- what is told of a stream whose answer began -/
def sd0 : Array Value := #[.int .i64 1, .int .i64 0, .slice none 0 0, S [], .bool false, .bool false, .int .i64 0, .int .i64 0, .int .i64 0, .bool false]
def sd1 (b : Bytes) (ends : Bool) : Array Value := #[.int .i64 1, .int .i64 200, .slice none 0 0, S b, .bool ends, .bool false, .int .i64 0, .int .i64 1, .int .i64 0, .bool false]
end Go.Proofs.YtkeeofhjdffhbaaGreatDoor
namespace Go.Proofs.YtkeeofhjdffhbaaGreatDoor
open Go.RowKit Go.Dr
/-- 'append(b, s...)' of a text, at the operation -/
theorem wp_appStr {P : Program} {o : Oper} {a : Act} {K : Act → World → Prop} {Q : Exit → Act → World → Prop} {w : World} (s x : Operand) (t u : TypeId)
  (ho : o.op = .call { callee := .builtin .append, args := #[s, x], argTypes := #[t, u] })
  (base : Nat) (e : TypeId) (ht : P.underlying t = some (.slice e)) (hu : P.underlying u = some .string) (hi : (P.info? e).map (fun i => (i.zero, i.size, i.bytes)) = some (some (.int .u8 0), 1, 1))
  (v : Value) (n : Nat) (xs : List Value) (hs : a.eval s = v) (hown : w.ownsRow base e 1 v n xs) (l : Bytes) (hx : a.eval x = S l)
  (hm : n + l.length ≤ 140737488355328) (hbase : base ≤ w.heap.size)
  (h : ∀ a' c' w', w'.ownsRow base e 1 (.slice a' (n + l.length) c') (n + l.length) (xs ++ l.map B8) → Below base w w' → K (a.put o.dst (.slice a' (n + l.length) c')) w') : Oper.wp P o a w K Q := by
 obtain ⟨i, hi, hz, hsize, hby⟩ := info_parts hi
 obtain ⟨v', w', hr, h2, h3, h4⟩ := Go.Lib.run_append_own_string (P := P) w base t u o.type e i ht hu hi hz hsize hby v n xs hown ⟨l.toArray⟩ (by unfold maxLen;show n + l.length ≤ _;omega) hm hbase
 have hx' : a.eval x = .string ⟨l.toArray⟩ := hx
 unfold Oper.wp execOp
 simp only [ho, resolve, invoke, builtin, Sem.run_bind, Sem.run_pure, Result.andThen_ok, List.map_toArray, List.map_cons, List.map_nil, hs, hx', hr]
 rw [strCells_b8] at h2
 have ho2 : w'.ownsRow base e 1 v' (n + l.length) (xs ++ l.map B8) := h2
 obtain ⟨a', c', rfl⟩ := own_form ho2
 exact h a' c' w' ho2 (Bl.grown (Below.refl base w) hown h3 hbase (Nat.le_refl _))
/-- a peer's cells -/
abbrev px (fo fi o d m : Nat) (all beg sets last : Int) (order : Value) (first : Bool) (of : Int) (ends : Bool) (block : Value) (away bad : Int) : Array Value := #[Ptr fo, Ptr fi, .int .i64 all, .int .i64 beg, .map (some o), Ptr d, .int .i64 16384, .int .i64 4096, .int .i64 sets, .slice none 0 0, .int .i64 last, .map (some m), order, .bool first, .int .i64 of, .bool ends, block, .int .i64 away, .bool false, .int .i64 bad]
end Go.Proofs.YtkeeofhjdffhbaaGreatDoor
namespace Go.Proofs.YtkeeofhjdffhbaaGreatDoor
open Go.RowKit Go.Dr
/-- how a peer with one stream stands -/
structure Ps where
 all : Int
 beg : Int
 sets : Int
 x : Int
 first : Bool
 hd : Bool
 body : Bytes
 bad : Int
structure Pw (w : World) (p fo fi o d m t s : Nat) (q : Ps) : Prop where
 blk : ∃ order of ends block, Blk w p 97 (px fo fi o d m q.all q.beg q.sets 1 order q.first of ends block 2147483647 q.bad) ∧ of = 0 ∧ (q.hd = false → order = .slice none 0 0)
 side : Blk w s 118 (if q.hd then sd1 q.body false else sd0)
 map : PMap Tryz.prog 3 w m [(1, s)]
 off : OM w o q.x
 out : Blk w fo 158 (feedC 16384 24 (.slice none 0 0) false)
 feed : Blk w fi 158 (feedC 16777215 24 (.slice none 0 0) false)
 ne : fo ≠ fi
 mo : m ≠ o
 dec : q.hd = false → Blk w d 163 #[.int .i64 65536, .int .i64 1099511627776, Ptr t, .bool false] ∧ ∃ a b, Blk w t 210 #[.int .i64 4096, .int .i64 0, .slice none 0 0, .int .i64 0, a, b]
theorem map_blk {w : World} {m b : Nat} {es : Array MapEntry} {n : Nat} {t : TypeId} {xs : Array Value} (h : w.heap[m]? = some (.map es n)) (hb : Blk w b t xs) : m ≠ b := fun e => by
 have := (e ▸ h).symm.trans (show w.heap[b]? = _ from hb)
 simp at this
theorem Pw.turnO {w w' : World} {p fo fi o d m t s : Nat} {q q' : Ps} {S : Nat → Prop} (h : Pw w p fo fi o d m t s q) (hb : But S w w') (hS : ∀ g, S g → g = p ∨ g = o ∨ g = s ∨ g = fi ∨ g = fo) (hd : q'.hd = false → q.hd = false)
  (hP : ∃ order of ends block, Blk w' p 97 (px fo fi o d m q'.all q'.beg q'.sets 1 order q'.first of ends block 2147483647 q'.bad) ∧ of = 0 ∧ (q'.hd = false → order = .slice none 0 0))
  (hs : Blk w' s 118 (if q'.hd then sd1 q'.body false else sd0)) (ho : OM w' o q'.x) (hf : Blk w' fi 158 (feedC 16777215 24 (.slice none 0 0) false)) (hout : Blk w' fo 158 (feedC 16384 24 (.slice none 0 0) false)) : Pw w' p fo fi o d m t s q' := by
 obtain ⟨or, of, en, bl, hP0, -, -⟩ := h.blk
 obtain ⟨es, c, hm⟩ := h.map.obj
 obtain ⟨es2, c2, hom⟩ := h.off.obj
 have ty : ∀ {g b : Nat} {t t' : TypeId} {xs ys : Array Value}, Blk w g t xs → Blk w b t' ys → t ≠ t' → g ≠ b := fun h1 h2 hne e => hne (blk_type (e ▸ h1) h2)
 refine ⟨hP, hs, h.map.block (hb.block m h.map.lt ?_), ho, hout, hf, h.ne, h.mo, ?_⟩
 ·intro e
  rcases hS _ e with e | e | e | e | e
  ·exact map_blk hm hP0 e
  ·exact h.mo e
  ·exact map_blk hm h.side e
  ·exact map_blk hm h.feed e
  ·exact map_blk hm h.out e
 ·intro h0
  obtain ⟨hD, a, b, hT⟩ := h.dec (hd h0)
  refine ⟨hD.but hb ?_, a, b, hT.but hb ?_⟩
  ·intro e
   rcases hS _ e with e | e | e | e | e
   ·exact ty hD hP0 (by decide) e
   ·exact map_blk hom hD e.symm
   ·exact ty hD h.side (by decide) e
   ·exact ty hD h.feed (by decide) e
   ·exact ty hD h.out (by decide) e
  ·intro e
   rcases hS _ e with e | e | e | e | e
   ·exact ty hT hP0 (by decide) e
   ·exact map_blk hom hT e.symm
   ·exact ty hT h.side (by decide) e
   ·exact ty hT h.feed (by decide) e
   ·exact ty hT h.out (by decide) e
theorem Pw.turn {w w' : World} {p fo fi o d m t s : Nat} {q q' : Ps} {S : Nat → Prop} (h : Pw w p fo fi o d m t s q) (hb : But S w w') (hS : ∀ g, S g → g = p ∨ g = o ∨ g = s ∨ g = fi) (hd : q'.hd = false → q.hd = false)
  (hP : ∃ order of ends block, Blk w' p 97 (px fo fi o d m q'.all q'.beg q'.sets 1 order q'.first of ends block 2147483647 q'.bad) ∧ of = 0 ∧ (q'.hd = false → order = .slice none 0 0))
  (hs : Blk w' s 118 (if q'.hd then sd1 q'.body false else sd0)) (ho : OM w' o q'.x) (hf : Blk w' fi 158 (feedC 16777215 24 (.slice none 0 0) false)) : Pw w' p fo fi o d m t s q' := by
 obtain ⟨or, of, en, bl, hP0, -, -⟩ := h.blk
 obtain ⟨es2, c2, hom⟩ := h.off.obj
 have ty : ∀ {g b : Nat} {t t' : TypeId} {xs ys : Array Value}, Blk w g t xs → Blk w b t' ys → t ≠ t' → g ≠ b := fun h1 h2 hne e => hne (blk_type (e ▸ h1) h2)
 refine h.turnO hb (fun g hg => by rcases hS g hg with e | e | e | e;exact .inl e;exact .inr (.inl e);exact .inr (.inr (.inl e));exact .inr (.inr (.inr (.inl e)))) hd hP hs ho hf (h.out.but hb ?_)
 intro e
 rcases hS _ e with e | e | e | e
 ·exact ty h.out hP0 (by decide) e
 ·exact map_blk hom h.out e.symm
 ·exact ty h.out h.side (by decide) e
 ·exact h.ne e
theorem Pw.on {w w' : World} {p fo fi o d m t s : Nat} {q : Ps} (h : Pw w p fo fi o d m t s q) (hb : Below w.heap.size w w') : Pw w' p fo fi o d m t s q := by
 obtain ⟨or, of, en, bl, hP0, h1, h2⟩ := h.blk
 exact h.turn (S := fun _ => False) (But.of_below hb) (fun _ e => e.elim) id ⟨or, of, en, bl, hP0.on hb, h1, h2⟩ (h.side.on hb) (h.off.block (hb.block o h.off.lt)) (h.feed.on hb)
theorem Pw.dist {w : World} {p fo fi o d m t s : Nat} {q : Ps} (h : Pw w p fo fi o d m t s q) : s ≠ p ∧ fi ≠ p ∧ fi ≠ s ∧ o ≠ p ∧ o ≠ s ∧ o ≠ fi ∧ p < w.heap.size ∧ fi < w.heap.size ∧ s < w.heap.size := by
 obtain ⟨or, of, en, bl, hP0, -, -⟩ := h.blk
 obtain ⟨es2, c2, hom⟩ := h.off.obj
 have ty : ∀ {g b : Nat} {t t' : TypeId} {xs ys : Array Value}, Blk w g t xs → Blk w b t' ys → t ≠ t' → g ≠ b := fun h1 h2 hne e => hne (blk_type (e ▸ h1) h2)
 exact ⟨ty h.side hP0 (by decide), ty h.feed hP0 (by decide), ty h.feed h.side (by decide), map_blk hom hP0, map_blk hom h.side, map_blk hom h.feed, hP0.lt, h.feed.lt, h.side.lt⟩
/-- the last answer of an ask is kept -/
theorem Pw.put {w : World} {p fo fi o d m t s : Nat} {q : Ps} {x : Int} (h : Pw w p fo fi o d m t s { q with bad := 0 }) (e : q.bad = x) : Pw (w.setCell ⟨p, 19, none⟩ (.int .i64 x)) p fo fi o d m t s q := by
 subst e
 obtain ⟨d1, d2, d3, d4, d5, d6, -⟩ := h.dist
 obtain ⟨or, of, en, bl, hP0, h1, h2⟩ := h.blk
 refine h.turn (q' := q) (S := fun g => g = p) ((But.refl (fun k => k = p) w).setCell (p := ⟨p, 19, none⟩) (.inl rfl) _) (fun _ e => .inl e) id ⟨or, of, en, bl, hP0.set 19 _, h1, h2⟩ (h.side.other d1 _) (h.off.block (Below.heap_setCell _ _ _ _ d4)) (h.feed.other d2 _)
end Go.Proofs.YtkeeofhjdffhbaaGreatDoor
