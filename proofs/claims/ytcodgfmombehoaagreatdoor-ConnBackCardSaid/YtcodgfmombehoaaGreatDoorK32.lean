/- Parts of the proof of bk_root: the texts Law22b Law22c Law22d. -/
import Derived.Test.YtcodgfmombehoaaGreatDoorK30
import Derived.Test.YtcodgfmombehoaaGreatDoorK31
set_option linter.unusedSimpArgs false
set_option linter.unusedVariables false
set_option linter.unnecessarySimpa false
set_option maxRecDepth 100000
set_option maxHeartbeats 64000000
namespace Go.Proofs.YtcodgfmombehoaaGreatDoor
open Go Go.RowKit Go.Dr
abbrev OutC (l : Bytes) (w : World) (e : Ending) (w' : World) : Prop := ∃ v, e = .returned v ∧ w'.ownsRow w.heap.size 5 1 v l.length (l.map B8) ∧ Below w.heap.size w w'
theorem Bytes_one {g : Nat} {st fl : Int} {d : Bytes} (l : Bytes) (w : World) (hg : Blk w g 36 #[.int .i64 1, .int .i64 fl, .int .i64 st, S d, .int .i64 0, .slice none 0 0, .int .i64 0, .int .i64 0, .int .i64 0, .int .i64 0, .int .i64 0, .bool false]) (hl0 : 0 < l.length) (hl : l.length ≤ 1000000)
  (hP : ∀ w1, Calls Tryz.prog 27 #[getV st fl d] w1 fun e w' => ∃ v, e = .returned (.tuple #[v, .int .i64 0]) ∧ w'.ownsRow w1.heap.size 5 1 v l.length (l.map B8) ∧ Below w1.heap.size w1 w') :
  Calls Tryz.prog 8 #[.slice (some ⟨g, 0, none⟩) 1 1] w (OutC l w) := by
 obtain ⟨z0, z1, z2, z3, z4, z5, z6, z7, z8, z9, z10, z11⟩ := hg.c12;go_enter Tryz.func8, Tryz.ntmps8
 go_wp2;refine wp_loop_rounds 2 ?_;rw [rounds_succ]
 go_wp2_with first
  | (go_at_call 27;go_must ((with_reducible refine (hP _).mono ?_);rintro r w2 ⟨v, rfl, hrow, hb2⟩))
  | (at_builtin;refine wpList_appAt rfl _ _ 39 rfl w.heap.size 5 (.int .u8 0) 1 1 Tryz.underlying39 (by kernel_rfl) rfl (by decide) _ _ _ rfl (World.ownsRow_nil _ _ _ _) w2.heap.size _ l.length (l.map B8) rfl (Rd.own hrow) (b8_one2 _) (by unfold maxLen;omega) (by omega) hb2.size ?_;intro a5 c5 w5 hown5 hg5 hat5)
 rw [rounds_succ];go_wp2;go_ret;exact ⟨_, rfl, by simpa using hown5, hb2.trans ((but_grow hg5).below (fun k hk => by cases hk) hb2.size)⟩
abbrev prefC : Array Value := #[.int .u8 80, .int .u8 82, .int .u8 73, .int .u8 32, .int .u8 42, .int .u8 32, .int .u8 72, .int .u8 84, .int .u8 84, .int .u8 80, .int .u8 47, .int .u8 50, .int .u8 46, .int .u8 48, .int .u8 13, .int .u8 10, .int .u8 13, .int .u8 10, .int .u8 83, .int .u8 77, .int .u8 13, .int .u8 10, .int .u8 13, .int .u8 10]
theorem prefC_b8 : prefC.toList = prefB.map B8 := rfl
theorem wpList_appFull {P : Program} {ops : Array Oper} {rest : List Oper} {o : Oper} {a : Act} {Q : Exit → Act → World → Prop} {w : World} (hgd : o.guard = none) (s x : Operand) (t : TypeId)
  (ho : o.op = .call { callee := .builtin .append, args := #[s, x], argTypes := #[t, t] })
  (base : Nat) (e : TypeId) (z : Value) (size bytes : Nat) (ht : P.underlying t = some (.slice e)) (hi : (P.info? e).map (fun i => (i.zero, i.size, i.bytes)) = some (some z, size, bytes))
  (hzs : z.cells.size = size) (b : Addr) (n : Nat) (olds : List Value) (hs : a.eval s = .slice (some b) n n) (hlo : olds.length = n * size) (holds : ∀ j v, olds[j]? = some v → w.cell? (b.add j) = some v)
  (B : Nat) (vs : Value) (m : Nat) (news : List Value) (hx : a.eval x = vs) (hsrc : Rd B w size vs m news) (hm0 : 0 < m)
  (hm : n + m ≤ maxLen) (hbytes : (n + m) * bytes ≤ 140737488355328) (hbase : base ≤ w.heap.size)
  (h : ∀ a' c' w', w'.ownsRow base e size (.slice a' (n + m) c') (n + m) (olds ++ news) → Below base w w' → wpList P ops Q rest (a.put o.dst (.slice a' (n + m) c')) w') : wpList P ops Q (o :: rest) a w := by
 obtain ⟨ad, cap, rfl, h2, h3, h4, h5, h6⟩ := hsrc
 cases ad with
 | none => have := h5 rfl;omega
 | some ad =>
  obtain ⟨i, hi, hz, hsize, hby⟩ := info_parts hi;subst hsize hby;have hsmall : n + m ≤ 9223372036854775807 := (by simp only [maxLen] at hm;omega);have hlen : (olds ++ news).length = (n + m) * i.size := (by rw [List.length_append, hlo, h4, Nat.add_mul])
  have hnews : ∀ j u, news[j]? = some u → w.cell? (ad.add j) = some u := by
   intro j u hu;obtain ⟨b', off, e1, _, e3⟩ := h6 j u hu;obtain rfl := Option.some.inj e1;rw [Addr.add_lit];exact e3
  have hr := Go.run_append_grow (P := P) w t o.type e i z ht ‹P.info? e = some i› hz b n n olds hlo holds ad m cap news h4 hnews (by omega) (by omega) (Go.growslice_fits (by omega) hbytes);have hge := grownCap_ge w (n + m) n e;have hcm2 : grownCap w (n + m) n e ≤ maxLen := grownCap_le_maxLen w (n + m) n e hm;refine wpList_plain hgd fun K hK => ?_
  unfold Oper.wp execOp;simp only [ho, resolve, invoke, builtin, Sem.run_bind, Sem.run_pure, Result.andThen_ok, List.map_toArray, List.map_cons, List.map_nil, hs, hx, hr];refine hK _ _ (h _ _ _ ⟨hlen, .inr ⟨w.heap.size, _, _, rfl, hbase, heap_alloc_new w.drew _, hge, hcm2, ?_, ?_⟩⟩ ((Below.refl _ _).drew.alloc hbase _))
  ·simp only [Array.size_append, List.size_toArray, Go.size_zeroCells, hzs, hlo, h4, ← Nat.add_mul]
   congr 1
   omega
  ·simp only [Array.toList_append, List.append_assoc]
   rw [← List.append_assoc, ← hlen];exact List.take_left
theorem pre_cells (w w3 : World) (hb : Below (w.alloc (.cells prefC 5 (24, 25))).heap.size (w.alloc (.cells prefC 5 (24, 25))) w3) : ∀ j v, prefC.toList[j]? = some v → w3.cell? ((⟨w.heap.size, 0, none⟩ : Addr).add j) = some v := by
 intro j v hj;rw [Addr.add_lit, Nat.zero_add, hb.cell (p := ⟨w.heap.size, j, none⟩) (by simp)];have e : (w.alloc (.cells prefC 5 (24, 25))).heap[w.heap.size]? = some (.cells prefC 5 (24, 25)) := obj_new w _ _ rfl;simp only [World.cell?, e];simpa using hj
abbrev helloB : Bytes := prefB ++ frB 4 0 0 []
theorem by_hello {w : World} {base : Nat} {v : Value} {l1 : Bytes} (h : w.ownsRow base 5 1 v (24 + l1.length) (prefC.toList ++ l1.map B8)) : w.ownsRow base 5 1 v (prefB ++ l1).length ((prefB ++ l1).map B8) := by
 have e : (prefB ++ l1).length = 24 + l1.length := (by rw [List.length_append];rfl);rw [e, List.map_append, ← prefC_b8];exact h
theorem Hello_any (w : World) : Calls Tryz.prog 19 #[] w (OutC helloB w) := by
 have kc := fun (w : World) (C : Array Value) (n c : Nat) => Lib.run_convert_bytes_const (P := Tryz.prog) w 39 5 C n c Tryz.underlying39 Tryz.underlying5
 have hS0 : ∀ w1 : World, Calls Tryz.prog 27 #[.agg #[.int .i64 4, .int .i64 0, .int .i64 0, S [], .int .i64 0, .slice none 0 0, .int .i64 0, .int .i64 0, .int .i64 0, .int .i64 0, .int .i64 0, .bool false]] w1 fun e w' => ∃ v, e = .returned (.tuple #[v, .int .i64 0]) ∧ w'.ownsRow w1.heap.size 5 1 v 9 ((frB 4 0 0 []).map B8) ∧ Below w1.heap.size w1 w' := fun w1 => put_Set0 w1
 go_enter Tryz.func19, Tryz.ntmps19
 go_wp2_with first
  | (go_at_call 27;go_must ((with_reducible refine (hS0 _).mono ?_);rintro r w2 ⟨v, rfl, hrow, hb2⟩;have hb3 : Below w2.heap.size w2 (w2.alloc (.cells prefC 5 (24, 25))) := (Below.refl _ _).alloc (Nat.le_refl _) _;have hrow3 := own_below hrow hb3;have hb23 := hb2.trans (hb3.mono hb2.size);have hpc := pre_cells w2 _ (Below.refl _ _)))
  | (at_builtin;refine wpList_appFull rfl _ _ 39 rfl w.heap.size 5 (.int .u8 0) 1 1 Tryz.underlying39 (by kernel_rfl) rfl ⟨w2.heap.size, 0, none⟩ 24 prefC.toList rfl rfl hpc _ _ _ _ rfl (Rd.own hrow3) (by decide) (by decide) (by decide) hb23.size ?_;intro a4 c4 w4 hr4 hb4)
 go_ret;exact ⟨_, rfl, by_hello hr4, hb23.trans hb4⟩
open Go Go.RowKit Go.Dr
variable {w w' : World} {n : Nm} {m : Mm} {q q' : Cq}
theorem run_en {k : Nat} {fn : Func} {c : Code} (hf : Tryz.prog.funcs[k]? = some fn) (hname : (fn.name == "runtime.NumGoroutine") = false) (hb : fn.body = some c) (args : Array Value) (w : World) : (callFunc k args).run Tryz.prog w = .ok (.enter k args) w := by
 have h1 : fn.name ≠ "runtime.NumGoroutine" := (by simpa using hname);simp [callFunc, hf, h1, hb]
abbrev q22 (bs : Bytes) : Cq := { str := 3, win := 1000, tab := 4096, lst := 4000, bytes := bs }
abbrev q22a (bs : Bytes) : Cq := { q22 bs with greeted := true, bytes := bs ++ frB 4 1 0 [], pre := 24 }
theorem Item_set {F : Nat → Prop} {sa : Option Addr} {sc : Nat} (bs : Bytes) (hbs : bs.length ≤ 1000000) (w : World) (h : Cw w n { q22 bs with pre := 24 } F) :
  Calls Tryz.prog 26 #[Ptr n.c, itmV { ty := 4 } (.slice sa 0 sc) {}] w fun r w' => r = .returned (.tuple #[]) ∧ Goes w n F w' (q22a bs) :=
 Item_do (d := []) (ty := 4) (fl := 0) (st := 0) (x4 := 0) (x6 := 0) (x7 := 0) (x8 := 0) (x9 := 0) (x10 := 0) (x11 := false) (q' := q22a bs) w h (by decide) 89 rfl (run_en Tryz.func89 (by kernel_rfl) rfl)
  (fun w1 F1 h1 => Placed_first w1 h1 rfl) (fun w1 F1 _ h1 => Settings_none w1 h1 hbs) (q22a bs) rfl
theorem over_same (q : Cq) (h : q.drained = false) : ({ q with over := q.over || (q.drained && q.live.isEmpty) } : Cq) = q := by
 cases q
 simp only [] at h;subst h;simp
theorem Item_get {F : Nat → Prop} {sa : Option Addr} {sc : Nat} (w : World) (h : Cw w n q F) (hgr : q.greeted = true) (hfo : q.fo = 0) (i : Nat) (hi : i < 2147483648) (hi1 : 1 ≤ i) (hodd : i % 2 = 1) (e : Bool) (lb p : Bytes) (hL : ∀ a b, PartRun a b lb (fPath p)) (hlb : lb ≠ []) (hlbl : lb.length ≤ 50) (hp : p = [47] ∨ p = [47, 120]) (hlst : 300 ≤ q.lst) (htab : 0 ≤ q.tab) (hbrk : q.brk = false)
  (hdr : q.drained = false) (hr : (q.live.length : Int) < q.str) (hll : q.live.length < 1000) (hol : q.off.length < 1000) (hnl : q.news.length ≤ 10000000) (hni : ∀ p ∈ q.live, p.1 ≠ (i : Int)) (hno : ∀ p ∈ q.off, p.1 ≠ (i : Int)) (hlast : q.last < i) :
  Calls Tryz.prog 26 #[Ptr n.c, itmV { ty := 1, fl := if e then 5 else 4, st := i, data := getB lb } (.slice sa 0 sc) {}] w fun r w' => r = .returned (.tuple #[]) ∧ Goes w n F w' ({ q with endOf := e }.asked i p e) := by
 have eg : ({ q with greeted := true } : Cq) = q := by
  cases q
  simp only [] at hgr;rw [hgr]
 have hI := Item_do (F := F) (d := getB lb) (ty := 1) (fl := if e then 5 else 4) (st := (i : Int)) (x4 := 0) (sa := sa) (sk := 0) (sc := sc) (x6 := 0) (x7 := 0) (x8 := 0) (x9 := 0) (x10 := 0) (x11 := false) (q' := { q with endOf := e }.asked i p e) w h (by decide) 87 rfl (run_en Tryz.func87 (by kernel_rfl) rfl)
  (fun w1 F1 h1 => Placed_then w1 h1 hgr hfo (by decide))
  (fun w1 F1 _ h1 => Headers_ok w1 (eg ▸ h1) i (by constructor <;> omega) (by omega) (by rw [Int.tmod_eq_emod_of_nonneg (by omega)];omega) e lb p _ rfl hL hlb hlbl hp hlst htab hbrk hdr hr hll hol hnl hni hno hlast) _ (over_same ({ q with endOf := e }.asked i p e) hdr)
 cases e <;> exact hI
theorem Cx.no_b8 (hx : Cx w n m q) (j : Nat) (c : UInt8) : (ccells n m q)[j]? ≠ some (B8 c) := by
 intro e;obtain ⟨k, hn⟩ := hx.news;obtain ⟨a1, c1, e1⟩ := own_form hx.bytes;obtain ⟨a2, c2, e2⟩ := own_form hn;obtain ⟨a3, c3, e3⟩ := own_form hx.closed;have hm := Array.mem_of_getElem? e;simp [ccells, e1, e2, e3] at hm
abbrev dX : Bytes := getB [4, 2, 47, 120]
theorem getX_dX : (32 :: (getX [47, 120]).flatMap encB) = dX := getX_x
abbrev q22b (bs : Bytes) : Cq := { q22a bs with endOf := true }.asked 1 [47, 120] true
def qs22 (bs : Bytes) : Nat → Cq
 | 0 => { q22 bs with news := [], pre := 24 }
 | 1 => q22a bs
 | _ => q22b bs
theorem Take_get {F : Nat → Prop} (bs : Bytes) (hbs : bs.length ≤ 1000000) (vb : Value) (w : World) (h : Cw w n (q22 bs) F) (hb : By w.heap.size w vb (prefB ++ (frB 4 0 0 [] ++ frB 1 5 1 dX))) :
  Calls Tryz.prog 7 #[Ptr n.c, vb] w fun e w' => ∃ v j, e = .returned v ∧ w'.ownsRow n.B 68 10 v j (q22b bs).news ∧ Goes w n F w' (q22b bs) := by
 have hT := Taken_any w h rfl vb [(({ ty := 4 } : Fr), ({} : Ft)), (({ ty := 1, fl := 5, st := 1, data := dX } : Fr), ({} : Ft))] (qs22 bs) rfl
  (by intro k hk;match k, hk with | 0, _ => rfl | 1, _ => rfl)
  (fun W F1 hbW eW hW => by
   obtain ⟨m', hx', -⟩ := hW;refine take_first (l := frB 4 0 0 [] ++ frB 1 5 1 dX) hx'.feed ?_ (by rw [List.length_append, frB_length, frB_length];decide) (itemsF_2 tk_set0 (tk_head dX (by decide) 5 (.inr rfl)) (by decide) (by rw [List.length_append, frB_length, frB_length];decide));rw [eW];obtain ⟨m, hx, rfl⟩ := h
   exact (hb.off hx.blk hx.no_b8 21 (.slice none 0 0)).mono (Nat.le_of_eq (by simp)))
  (fun k hk w1 F1 sa sc h1 hs => by
   match k, hk with
   | 0, _ => exact Item_set bs hbs w1 h1
   | 1, _ => exact Item_get w1 h1 rfl rfl 1 (by decide) (by decide) rfl true [4, 2, 47, 120] [47, 120] (fun a b => run_x a b) (by decide) (by decide) (.inr rfl) (show (300 : Int) ≤ 4000 by decide) (show (0 : Int) ≤ 4096 by decide) rfl rfl (show ((0 : Nat) : Int) < 3 by decide) (show 0 < 1000 by decide) (show 0 < 1000 by decide) (show 0 ≤ 10000000 by decide) (fun p hp => by cases hp) (fun p hp => by cases hp) (show (0 : Int) < ((1 : Nat) : Int) by decide))
 exact hT
open Go Go.RowKit Go.Dr
abbrev bs22 : Bytes := frB 4 0 0 (setsB [(1, 4096), (3, 3), (4, 1000), (6, 4000)])
theorem new22F (w : World) : Calls Tryz.prog 5 #[limV] w fun e w' => ∃ n F, e = .returned (.tuple #[Ptr n.c, .int .i64 0]) ∧ n.B = w.heap.size ∧ n.Fresh ∧ Cw w' n (q22 bs22) F ∧ Below w.heap.size w w' := ConnNew_anyF 3 1000 4000 (by decide) (by decide) (by decide) (by decide) w
theorem new22 (w : World) : Calls Tryz.prog 5 #[limV] w fun e w' => ∃ n F, e = .returned (.tuple #[Ptr n.c, .int .i64 0]) ∧ n.B = w.heap.size ∧ Cw w' n (q22 bs22) F ∧ Below w.heap.size w w' := ConnNew_any 3 1000 4000 (by decide) (by decide) (by decide) (by decide) w
theorem get22 (w : World) : Calls Tryz.prog 9 #[.int .i64 1, .string ⟨#[47, 120]⟩, .bool true] w fun r w' => r = .returned (getV 1 5 dX) ∧ Below w.heap.size w w' := by
 have h := Get_any 1 [47, 120] (.inr rfl) true w;rw [getX_dX] at h;exact h
theorem bytes22 {g : Nat} (w : World) (hg : Blk w g 36 #[.int .i64 1, .int .i64 5, .int .i64 1, S dX, .int .i64 0, .slice none 0 0, .int .i64 0, .int .i64 0, .int .i64 0, .int .i64 0, .int .i64 0, .bool false]) : Calls Tryz.prog 8 #[.slice (some ⟨g, 0, none⟩) 1 1] w (OutC (frB 1 5 1 dX) w) :=
 Bytes_one (frB 1 5 1 dX) w hg (by rw [frB_length];omega) (by rw [frB_length];decide) (fun w1 => by rw [frB_length];exact put_Hd5 dX (by decide) w1)
theorem row_cell {w : World} {B : Nat} {e : TypeId} {size n c : Nat} {a : Option Addr} {xs : List Value} (h : w.ownsRow B e size (.slice a n c) n xs) (h0 : 0 < n) : ∃ g, a = some ⟨g, 0, none⟩ ∧ ∀ (j : Nat) (u : Value), xs[j]? = some u → w.cell? ⟨g, j, none⟩ = some u := by
 have hl := h.1
 rcases h.2 with ⟨e1, h0'⟩ | ⟨g, cap, cur, hv, -, hg, -, -, -, ht⟩
 ·omega
 ·simp only [Value.slice.injEq] at hv
  refine ⟨g, hv.1, fun j u hu => ?_⟩;have hj := (List.getElem?_eq_some_iff.1 hu).1;rw [← ht, List.getElem?_take_of_lt (by omega)] at hu;simp only [World.cell?, hg];simpa using hu
abbrev getL : Bytes := frB 1 5 1 dX
theorem by22 {w : World} {base : Nat} {v : Value} (h : w.ownsRow base 5 1 v (helloB.length + getL.length) (helloB.map B8 ++ getL.map B8)) : By w.heap.size w v (prefB ++ (frB 4 0 0 [] ++ frB 1 5 1 dX)) := by
 refine own_by (base := base) ?_;rw [← List.append_assoc, List.length_append, List.map_append];exact h
abbrev q22c (bs : Bytes) : Cq := { q22b bs with bytes := (q22b bs).bytes ++ frB 1 5 1 [136], live := [] ++ [], off := sans (q22b bs).off 1, over := (q22b bs).over || ((q22b bs).drained && (([] : List (Int × Sp)) ++ []).isEmpty) }
theorem head22 {n : Nm} {F : Nat → Prop} (bs : Bytes) (hbs : bs.length ≤ 100000) (w : World) (h : Cw w n (q22b bs) F) : Calls Tryz.prog 10 #[Ptr n.c, .int .i64 1, .int .i64 200, .slice none 0 0, .bool true] w fun r w' => r = .returned (.int .i64 0) ∧ Goes w n F w' (q22c bs) :=
 Head_ok w h 1 (by decide) (a := []) (c := []) (s := { st := 2 }) rfl rfl rfl rfl rfl rfl (by show (bs ++ frB 4 1 0 []).length ≤ _;rw [List.length_append, frB_length];simp;omega)
theorem out22 {n : Nm} {F : Nat → Prop} (w : World) (h : Cw w n (q22c bs22) F) : Calls Tryz.prog 14 #[Ptr n.c] w fun r w' => ∃ a c, r = .returned (.slice a 52 c) ∧ ∃ q', Goes w n F w' q' := by
 refine (Out_any w h).mono ?_;rintro r w' ⟨v, rfl, hr, -, hg⟩;obtain ⟨a, c, rfl⟩ := own_form hr;exact ⟨a, c, rfl, _, hg⟩
theorem awake22_any (w : World) : Calls Tryz.prog 4 #[] w fun e w' => e = .returned (.bool true) ∧ Below w.heap.size w w' := by
 go_enter Tryz.func4, Tryz.ntmps4
 go_wp2_with first
  | (go_at_call 6;go_must ((with_reducible refine (Limits_any _).mono ?_);rintro r w1 ⟨rfl, hb1⟩))
  | (go_at_call 5;go_must ((with_reducible refine (new22 _).mono ?_);rintro r w2 ⟨n, F, rfl, hnB, hC2, hb2⟩;have hb02 := hb1.trans (hb2.mono hb1.size)))
  | (go_at_call 19;go_must ((with_reducible refine (Hello_any _).mono ?_);rintro r w3 ⟨v3, rfl, hr3, hb3⟩))
  | (go_at_call 9;go_must ((with_reducible refine (get22 _).mono ?_);rintro r w4 ⟨rfl, hb4⟩;have hb5 : Below w4.heap.size w4 (w4.alloc (.cells #[.int .i64 1, .int .i64 5, .int .i64 1, S dX, .int .i64 0, .slice none 0 0, .int .i64 0, .int .i64 0, .int .i64 0, .int .i64 0, .int .i64 0, .bool false] 36)) := (Below.refl _ _).alloc (Nat.le_refl _) _;have hb25 := (hb3.trans (hb4.mono hb3.size)).trans (hb5.mono (hb3.trans (hb4.mono hb3.size)).size)))
  | (go_at_call 8;go_must ((with_reducible refine (bytes22 _ (Blk.new _ _ _)).mono ?_);rintro r w6 ⟨v6, rfl, hr6, hb6⟩;have hb26 := hb25.trans (hb6.mono hb25.size);have hr36 := own_below hr3 ((hb4.trans (hb5.mono hb4.size)).trans (hb6.mono (hb4.trans (hb5.mono hb4.size)).size))))
  | (at_builtin;refine wpList_appAt rfl _ _ 39 rfl w2.heap.size 5 (.int .u8 0) 1 1 Tryz.underlying39 (by kernel_rfl) rfl (by decide) _ _ _ rfl hr36 _ _ _ _ rfl (Rd.own hr6) (b8_one2 _) (by decide) (by decide) hb26.size ?_;intro a7 c7 w7 hown7 hg7 hat7;have hb67 : Below w2.heap.size w6 w7 := (but_grow hg7).below (fun k hk => (hr36.lt k hk.symm).1) hb26.size;have hb27 := hb26.trans hb67;have hC7 := hC2.on hb27;have hTk : Calls Tryz.prog 7 #[Ptr n.c, .slice a7 (prefB.length + (frB 4 0 0 []).length + (frB 1 5 1 dX).length) c7] w7 _ := Take_get bs22 (by decide) _ w7 hC7 (by22 hown7);have hb07 := hb02.trans (hb27.mono hb02.size))
  | (go_at_call 7;go_must ((with_reducible refine hTk.mono ?_);rintro r w8 ⟨v8, j8, rfl, hn8, hG8⟩;obtain rfl : j8 = 1 := (by have h1 := hn8.1;have e : (q22b bs22).news.length = 10 := rfl;omega);obtain ⟨a8, c8, rfl⟩ := own_form hn8;obtain ⟨g8, rfl, hcell⟩ := row_cell hn8 (by decide);have k0 : w8.cell? ⟨g8, 0, none⟩ = some (.int .i64 1) := hcell 0 _ rfl;have k5 : w8.cell? ⟨g8, 5, none⟩ = some (S [47, 120]) := hcell 5 _ rfl;have hz7 : n.B ≤ w7.heap.size := (by have := hb2.size;have := hb27.size;omega);have hb78 := hG8.below hC7 hz7;obtain ⟨F8, hC8, hB8, hs8⟩ := hG8;have hHd := head22 bs22 (by decide) w8 hC8))
  | (go_at_call 10;go_must ((with_reducible refine hHd.mono ?_);rintro r w9 ⟨rfl, hG9⟩;have hb89 := hG9.below hC8 (Nat.le_trans hz7 hb78.size);obtain ⟨F9, hC9, hB9, hs9⟩ := hG9;have hSt := State_done w9 hC9 1 (fun p hp => by cases hp) (fun p hp => by cases hp) (by decide) (show ¬ ((1 : Nat) : Int) < 1 by decide) (by decide) (show ((1 : Nat) : Int) < 4294967296 by decide);have hOu := out22 w9 hC9))
  | (go_at_call 17;go_must ((with_reducible refine hSt.mono ?_);rintro r w10 ⟨rfl, e10⟩;subst e10))
  | (go_at_call 14;go_must ((with_reducible refine hOu.mono ?_);rintro r w11 ⟨a11, c11, rfl, q11, hG11⟩))
 go_ret;have hwB : w.heap.size ≤ n.B := (by have := hb1.size;omega);have hb911 := hG11.below hC9 (Nat.le_trans (Nat.le_trans hz7 hb78.size) hb89.size);exact ⟨rfl, ((hb07.trans (hb78.mono hwB)).trans (hb89.mono hwB)).trans (hb911.mono hwB)⟩
end Go.Proofs.YtcodgfmombehoaaGreatDoor
