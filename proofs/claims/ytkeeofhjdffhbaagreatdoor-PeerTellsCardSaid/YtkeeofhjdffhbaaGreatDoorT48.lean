/- Parts of the proof of pt_root: the texts Law24e. -/
import Derived.Lib.SlBytesConst
import Derived.Test.YtkeeofhjdffhbaaGreatDoorT47
import Derived.Test.YtkeeofhjdffhbaaGreatDoorT18
import Derived.Test.YtkeeofhjdffhbaaGreatDoorT29
set_option linter.unusedSimpArgs false
set_option linter.unusedVariables false
set_option linter.unnecessarySimpa false
namespace Go.Proofs.YtkeeofhjdffhbaaGreatDoor
open Go.RowKit Go.Dr
abbrev prefC : Array Value := #[.int .u8 80, .int .u8 82, .int .u8 73, .int .u8 32, .int .u8 42, .int .u8 32, .int .u8 72, .int .u8 84, .int .u8 84, .int .u8 80, .int .u8 47, .int .u8 50, .int .u8 46, .int .u8 48, .int .u8 13, .int .u8 10, .int .u8 13, .int .u8 10, .int .u8 83, .int .u8 77, .int .u8 13, .int .u8 10, .int .u8 13, .int .u8 10]
theorem prefC_b8 : prefC.toList = prefB.map B8 := rfl
theorem by_pref {w : World} {base : Nat} {v : Value} {l1 l2 : Bytes} (h : w.ownsRow base 5 1 v (24 + l1.length + l2.length) (prefC.toList ++ l1.map B8 ++ l2.map B8)) : By w.heap.size w v (prefB ++ (l1 ++ l2)) := by
 have h2 := Rd.own h
 unfold By
 rw [prefC_b8, ← List.map_append, ← List.map_append, List.append_assoc] at h2
 have e : (prefB ++ (l1 ++ l2)).length = 24 + l1.length + l2.length := by simp [prefB];omega
 rw [e]
 exact h2
/-- 'append(s, x...)' where s has no room left: s is read alone -/
theorem wpList_appFull {P : Program} {ops : Array Oper} {rest : List Oper} {o : Oper} {a : Act} {Q : Exit → Act → World → Prop} {w : World} (hgd : o.guard = none) (s x : Operand) (t : TypeId)
  (ho : o.op = .call { callee := .builtin .append, args := #[s, x], argTypes := #[t, t] })
  (base : Nat) (e : TypeId) (z : Value) (size bytes : Nat) (ht : P.underlying t = some (.slice e)) (hi : (P.info? e).map (fun i => (i.zero, i.size, i.bytes)) = some (some z, size, bytes))
  (hzs : z.cells.size = size) (b : Addr) (n : Nat) (olds : List Value) (hs : a.eval s = .slice (some b) n n) (hlo : olds.length = n * size) (holds : ∀ j v, olds[j]? = some v → w.cell? (b.add j) = some v)
  (B : Nat) (vs : Value) (m : Nat) (news : List Value) (hx : a.eval x = vs) (hsrc : Rd B w size vs m news) (hm0 : 0 < m)
  (hm : n + m ≤ maxLen) (hbytes : (n + m) * bytes ≤ 140737488355328) (hbase : base ≤ w.heap.size)
  (h : ∀ a' c' w', w'.ownsRow base e size (.slice a' (n + m) c') (n + m) (olds ++ news) → Below base w w' → wpList P ops Q rest (a.put o.dst (.slice a' (n + m) c')) w') : wpList P ops Q (o :: rest) a w := by
 obtain ⟨ad, cap, rfl, h2, h3, h4, h5, h6⟩ := hsrc
 cases ad with
 | none => have := h5 rfl;omega
 | some ad =>
  obtain ⟨i, hi, hz, hsize, hby⟩ := info_parts hi
  subst hsize hby
  have hsmall : n + m ≤ 9223372036854775807 := by simp only [maxLen] at hm;omega
  have hlen : (olds ++ news).length = (n + m) * i.size := by rw [List.length_append, hlo, h4, Nat.add_mul]
  have hnews : ∀ j u, news[j]? = some u → w.cell? (ad.add j) = some u := by
   intro j u hu
   obtain ⟨b', off, e1, _, e3⟩ := h6 j u hu
   obtain rfl := Option.some.inj e1
   rw [Addr.add_lit]
   exact e3
  have hr := Go.run_append_grow (P := P) w t o.type e i z ht ‹P.info? e = some i› hz b n n olds hlo holds ad m cap news h4 hnews (by omega) (by omega) (Go.growslice_fits (by omega) hbytes)
  have hge := grownCap_ge w (n + m) n e
  have hcm2 : grownCap w (n + m) n e ≤ maxLen := grownCap_le_maxLen w (n + m) n e hm
  refine wpList_plain hgd fun K hK => ?_
  unfold Oper.wp execOp
  simp only [ho, resolve, invoke, builtin, Sem.run_bind, Sem.run_pure, Result.andThen_ok, List.map_toArray, List.map_cons, List.map_nil, hs, hx, hr]
  refine hK _ _ (h _ _ _ ⟨hlen, .inr ⟨w.heap.size, _, _, rfl, hbase, heap_alloc_new w.drew _, hge, hcm2, ?_, ?_⟩⟩ ((Below.refl _ _).drew.alloc hbase _))
  ·simp only [Array.size_append, List.size_toArray, Go.size_zeroCells, hzs, hlo, h4, ← Nat.add_mul]
   congr 1
   omega
  ·simp only [Array.toList_append, List.append_assoc]
   rw [← List.append_assoc, ← hlen]
   exact List.take_left
theorem P1.on {w w' : World} {p fo fi o d m t pre : Nat} {beg sets : Int} (h : P1 w p fo fi o d m t pre beg sets) (hb : Below w.heap.size w w') : P1 w' p fo fi o d m t pre beg sets := by
 obtain ⟨a, b, hT⟩ := h.tab
 exact ⟨h.blk.on hb, obj_below h.map hb (lt_of_block h.map), obj_below h.off hb (lt_of_block h.off), h.out.on hb, h.feed.on hb, h.ne, h.mo, h.decB.on hb, a, b, hT.on hb⟩
theorem pre_cells (w w3 : World) (hb : Below (w.alloc (.cells prefC 5 (24, 25))).heap.size (w.alloc (.cells prefC 5 (24, 25))) w3) : ∀ j v, prefC.toList[j]? = some v → w3.cell? ((⟨w.heap.size, 0, none⟩ : Addr).add j) = some v := by
 intro j v hj
 rw [Addr.add_lit, Nat.zero_add, hb.cell (p := ⟨w.heap.size, j, none⟩) (by simp)]
 have e : (w.alloc (.cells prefC 5 (24, 25))).heap[w.heap.size]? = some (.cells prefC 5 (24, 25)) := obj_new w _ _ rfl
 simp only [World.cell?, e]
 simpa using hj
theorem by_app3 {w : World} {base : Nat} {v : Value} {l1 l2 l3 : Bytes} (h : w.ownsRow base 5 1 v (l1.length + l2.length + l3.length) (l1.map B8 ++ l2.map B8 ++ l3.map B8)) : By w.heap.size w v (l1 ++ (l2 ++ l3)) := by
 have h2 := Rd.own h
 unfold By
 rw [← List.map_append, ← List.map_append, List.append_assoc] at h2
 have e : (l1 ++ (l2 ++ l3)).length = l1.length + l2.length + l3.length := by simp;omega
 rw [e]
 exact h2
theorem bytes_DatF (w : World) : Calls Tryz.prog 10 #[frame0 0 1 1 (S []) (.slice none 0 0) 0] w (OutB (frB 0 1 1 []) w) := bytes_any _ w fun w1 _ => put_Dat1 [] (Nat.zero_le _) w1
theorem bytes_Rst3 (w : World) : Calls Tryz.prog 10 #[frame0 3 0 3 (S []) (.slice none 0 0) 0] w (OutB (frB 3 0 3 (beP 0 4)) w) := bytes_any _ w fun w1 _ => put_Rst3 w1
theorem bytes_Away (w : World) : Calls Tryz.prog 10 #[.agg #[.int .i64 7, .int .i64 0, .int .i64 0, S [], .int .i64 0, .slice none 0 0, .int .i64 1, .int .i64 1, .int .i64 0, .int .i64 0, .int .i64 0, .bool false]] w (OutB (frB 7 0 0 (beP 1 4 ++ beP 1 4)) w) := bytes_any _ w fun w1 _ => put_Away w1
theorem bytes_Win0 (w : World) : Calls Tryz.prog 10 #[frame0 8 0 0 (S []) (.slice none 0 0) 1] w (OutB (frB 8 0 0 (beP 1 4)) w) := bytes_any _ w fun w1 _ => put_Win0 w1
theorem bytes_DatL (l : Bytes) (hl : l.length ≤ 65536) (w : World) : Calls Tryz.prog 10 #[frame0 0 0 1 (S l) (.slice none 0 0) 0] w (OutB (frB 0 0 1 l) w) := bytes_any _ w fun w1 _ => by rw [frB_length];exact put_DatL l hl w1
set_option maxRecDepth 100000 in
theorem Closed_pz {p fo fi o d m t s m1 m2 : Nat} {q : Pt} (w : World) (h : Pz w p fo fi o d m t s m1 m2 q) :
  Calls Tryz.prog 15 #[Ptr p] w fun e w' => e = .returned (.bool q.closed) ∧ w' = w := by
 obtain ⟨or, en, bl, hP0, -⟩ := h.blk
 have c := hP0.cell 18
 replace c : w.cell? ⟨p, 18, none⟩ = some (.bool q.closed) := c
 go_enter Tryz.func15, Tryz.ntmps15
 go_wp2
 go_ret
 exact ⟨rfl, rfl⟩
/-- 'make([]byte, n)' and its text -/
theorem mk_noughts (n : Nat) (hn : n ≤ 65536) (w : World) : ∃ w1, (Instr.makeSlice 26 (.int .i64 (n : Int)) (.int .i64 (n : Int))).run Tryz.prog w = .ok (.slice (some ⟨w.heap.size, 0, none⟩) n n) w1 ∧
  (Go.convert 26 9 (.slice (some ⟨w.heap.size, 0, none⟩) n n)).run Tryz.prog w1 = .ok (S (List.replicate n 0)) w1 ∧ Below w.heap.size w w1 := by
 obtain ⟨w1, hM1, ⟨hR1, -⟩, hb1⟩ : ∃ w1, (Instr.makeSlice 26 (.int .i64 (n : Int)) (.int .i64 (n : Int))).run Tryz.prog w = .ok (.slice (some ⟨w.heap.size, 0, none⟩) n n) w1 ∧ (w1.heap[w.heap.size]? = some (.cells (Go.madeCells #[.int .u8 0] n) 5 (0, 0)) ∧ True) ∧ Below w.heap.size w w1 := by
  obtain ⟨i, hi, hz, hsz, hby⟩ := info_parts (P := Tryz.prog) (e := 5) (z := .int .u8 0) (size := 1) (bytes := 1) (by kernel_rfl)
  have hr := Go.run_makeSlice (P := Tryz.prog) w 26 5 i (.int .u8 0) Tryz.underlying26 hi hz .i64 .i64 (n : Int) (n : Int) (by omega) (by omega) (by rw [hsz];simp;omega) (by rw [hby];simp;omega) (by omega)
  rw [hsz, Int.toNat_natCast, Nat.mul_one] at hr
  refine ⟨_, hr, ⟨?_, trivial⟩, (Below.refl _ _).alloc (Nat.le_refl _) _⟩
  exact obj_new w _ _ rfl
 have hcell : ∀ j (hj : j < (List.replicate n (0 : UInt8)).length), w1.cell? ((⟨w.heap.size, 0, none⟩ : Addr).add j) = some (.int .u8 (((List.replicate n (0 : UInt8))[j]).toNat : Int)) := by
  intro j hj
  have hj' : j < n := by simpa using hj
  rw [Addr.add_lit, Nat.zero_add]
  have e1 : (Go.madeCells #[.int .u8 0] n)[j]? = some (.int .u8 0) := by
   rw [← Array.getElem?_toList, Go.toList_madeCells_one, List.getElem?_replicate, if_pos hj']
  simp [World.cell?, hR1, e1]
 have hC := Go.run_convert_bytes_back (P := Tryz.prog) w1 26 9 5 ⟨w.heap.size, 0, none⟩ n _ Tryz.underlying26 (by kernel_rfl) Tryz.underlying9 hcell
 rw [List.length_replicate] at hC
 exact ⟨w1, hM1, hC, hb1⟩
end Go.Proofs.YtkeeofhjdffhbaaGreatDoor
