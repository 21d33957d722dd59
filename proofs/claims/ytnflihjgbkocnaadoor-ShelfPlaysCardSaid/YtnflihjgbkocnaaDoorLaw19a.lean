
/- The walk of layer 19's law: whether a script is small enough. -/
import Derived.Test.YtnflihjgbkocnaaDoorOct
import Derived.Test.YtnflihjgbkocnaaDoorShd
import Derived.Deep.DeepCutAuto
import Derived.Deep.RegionHeld3
namespace Go.Proofs.YtnflihjgbkocnaaDoor
open Go.RowKit Go.Dr

set_option linter.unusedSimpArgs false in
set_option linter.unusedVariables false in
set_option linter.unnecessarySimpa false in
set_option maxRecDepth 100000 in
set_option maxHeartbeats 4000000 in
theorem few19_any (l : List Dv) (v : Value) (w : World) (h : Ds w.heap.size w v l) (hok : ∀ d ∈ l, d.Ok) :
    Calls Tryd.prog 5 #[v] w fun e w' => ∃ b, e = .returned (.bool b) ∧ (b = true → ∀ d ∈ l.take 60, Small d) ∧ Below w.heap.size w w' := by
  obtain ⟨pa, ca, rfl, hm⟩ := h.form
  go_enter Tryd.func5, Tryd.ntmps5
  go_wp2
  go_loopw [3, 4] (fun n i wr => ∃ k N : Nat, n = .int .i64 (N : Nat) ∧ i = .int .i64 k ∧ k ≤ l.length ∧ k ≤ 60 ∧ N ≤ 131072 ∧ (∀ d ∈ l.take k, Small d) ∧ Below w.heap.size w wr) (fun _ i _ => l.length - (intOf i).toNat)
  case atStart => exact ⟨0, 0, rfl, rfl, Nat.zero_le _, by omega, by omega, by simp, Below.refl _ _⟩
  case round =>
    obtain ⟨k, N, rfl, rfl, hk, hk60, hN, hsm, hbel⟩ := hrel
    by_cases hlt : k < l.length
    · by_cases h60 : k < 60
      · obtain ⟨b, off, rfl, hbb, c0, c1, c2, c3, c4, c5, c6, c7, c8, c9⟩ := (h.below hbel).at k hlt
        have hd := (h.below hbel).2 l[k] (List.getElem_mem hlt)
        have hdo := hok l[k] (List.getElem_mem hlt)
        have hsn : l.take (k + 1) = l.take k ++ [l[k]] := take_snoc l k hlt
        have hz := hbel.size
        generalize l[k] = d at *
        obtain ⟨kind, num, ⟨key, vp, st, vf, body, asked, came⟩, vl, lp, lf, ll⟩ := d
        simp only at *
        obtain ⟨ap, kp, rfl, hlpm⟩ := hd.1.form
        obtain ⟨af, kf, rfl, hlfm⟩ := hd.2.1.form
        obtain ⟨al, kl, rfl, hllm⟩ := hd.2.2.form
        obtain ⟨wq, ewq⟩ : ∃ wq : World, wq = wr.alloc (.cells #[.int .i64 kind, .int .i64 num, S key, .slice ap lp.length kp, .int .i64 st, .slice af lf.length kf, S body, .int .i64 asked, .int .i64 came, .slice al ll.length kl] 38) := ⟨_, rfl⟩
        have hQ : Blk wq wr.heap.size 38 #[.int .i64 kind, .int .i64 num, S key, .slice ap lp.length kp, .int .i64 st, .slice af lf.length kf, S body, .int .i64 asked, .int .i64 came, .slice al ll.length kl] := by rw [ewq]; exact Blk.new _ _ _
        have hbq : Below wr.heap.size wr wq := by rw [ewq]; exact (Below.refl _ _).alloc (Nat.le_refl _) _
        have hwq := Bl.on hbel hz hbq
        have hlpq := ((hd.1.mono hz).below hbq).mono hbq.size
        have hlfq := ((hd.2.1.mono hz).below hbq).mono hbq.size
        have hllq := ((hd.2.2.mono hz).below hbq).mono hbq.size
        go_upto_region 6 with fail
        rw [← ewq]
        clear ewq c0 c1 c2 c3 c4 c5 c6 c7 c8 c9 hd
        obtain ⟨g, eg⟩ : ∃ g, g = wr.heap.size := ⟨_, rfl⟩
        rw [← eg] at hQ ⊢
        have hgz : g < wq.heap.size := hQ.lt
        clear eg hbq
        (have y0 : wq.cell? ⟨g, 0, none⟩ = some (.int .i64 kind) := hQ.cell 0; have y1 : wq.cell? ⟨g, 1, none⟩ = some (.int .i64 num) := hQ.cell 1; have y2 : wq.cell? ⟨g, 2, none⟩ = some (S key) := hQ.cell 2; have y3 : wq.cell? ⟨g, 3, none⟩ = some (.slice ap lp.length kp) := hQ.cell 3; have y4 : wq.cell? ⟨g, 4, none⟩ = some (.int .i64 st) := hQ.cell 4; have y5 : wq.cell? ⟨g, 5, none⟩ = some (.slice af lf.length kf) := hQ.cell 5; have y6 : wq.cell? ⟨g, 6, none⟩ = some (S body) := hQ.cell 6; have y7 : wq.cell? ⟨g, 7, none⟩ = some (.int .i64 asked) := hQ.cell 7; have y8 : wq.cell? ⟨g, 8, none⟩ = some (.int .i64 came) := hQ.cell 8; have y9 : wq.cell? ⟨g, 9, none⟩ = some (.slice al ll.length kl) := hQ.cell 9)
        by_cases k1 : key.length ≤ 65536
        · by_cases k2 : body.length ≤ 2097152
          · by_cases k3 : lp.length ≤ 50
            · have t1 : decide ((65536 : Int) < (key.length : Int)) = false := by simp; omega
              have t2 : decide ((2097152 : Int) < (body.length : Int)) = false := by simp; omega
              have t3 : decide ((50 : Int) < (lp.length : Int)) = false := by simp; omega
              obtain ⟨wo, rfl⟩ : ∃ wo : World, wo = wr := ⟨_, rfl⟩
              clear t1 t2 t3
              obtain ⟨_, hob, hop, hof, hol⟩ := hdo
              have hB1 := fbytes_max lf hof
              have hB2 := fbytes_max ll hol
              have HF1 := Lib.hid (fun w h => FBytes_any lf (.slice af lf.length kf) w h hof)
              have HF2 := Lib.hid (fun w h => FBytes_any ll (.slice al ll.length kl) w h hol)
              have HS1 := Lib.hid (fbytes_sum lf)
              have HS2 := Lib.hid (fbytes_sum ll)
              obtain ⟨B1, eB1⟩ : ∃ B1, B1 = fbytes lf := ⟨_, rfl⟩
              obtain ⟨B2, eB2⟩ : ∃ B2, B2 = fbytes ll := ⟨_, rfl⟩
              rw [← eB1] at hB1 HF1 HS1
              rw [← eB2] at hB2 HF2 HS2
              clear eB1 eB2
              have HK := Lib.hid (fun (h1 : ∀ p ∈ lp, p.n.length ≤ 1000 ∧ p.v.length ≤ 10000) (h2 : fsum lf ≤ 131072) (h3 : fsum ll ≤ 131072) => (show Small (⟨kind, num, ⟨key, .slice ap lp.length kp, st, .slice af lf.length kf, body, asked, came⟩, .slice al ll.length kl, lp, lf, ll⟩ : Dv) from ⟨k1, k2, k3, h1, h2, h3⟩))
              clear hof hol
              go_wp2
              go_loopw [6] (fun i wx => ∃ j : Nat, i = .int .i64 j ∧ j ≤ lp.length ∧ (∀ p ∈ lp.take j, p.n.length ≤ 1000 ∧ p.v.length ≤ 10000) ∧ wx = wq) (fun i _ => lp.length - (intOf i).toNat)
              case atStart => exact ⟨0, rfl, Nat.zero_le _, by simp, rfl⟩
              case round =>
                obtain ⟨j, rfl, hj, hjs, rfl⟩ := hrel
                by_cases hjl : j < lp.length
                · obtain ⟨bp, op, rfl, hbp, p0, p1, p2⟩ := hlpq.at j hjl
                  have hpo := hop lp[j] (List.getElem_mem hjl)
                  have hsj : lp.take (j + 1) = lp.take j ++ [lp[j]] := take_snoc lp j hjl
                  have HJ : Hid (lp[j].n.length ≤ 1000 → lp[j].v.length ≤ 10000 → ∀ p ∈ lp.take (j + 1), p.n.length ≤ 1000 ∧ p.v.length ≤ 10000) := by
                    intro q1 q2 p hp
                    rw [hsj] at hp
                    rcases List.mem_append.1 hp with hp | hp
                    · exact hjs p hp
                    · rw [List.mem_singleton.1 hp]; exact ⟨q1, q2⟩
                  generalize lp[j] = pj at *
                  by_cases q1 : pj.n.length ≤ 1000
                  · by_cases q2 : pj.v.length ≤ 10000
                    · have t1 : decide ((1000 : Int) < (pj.n.length : Int)) = false := by simp; omega
                      have t2 : decide ((10000 : Int) < (pj.v.length : Int)) = false := by simp; omega
                      go_wp2
                      go_roundw
                      case rel => exact ⟨j + 1, by go_num, by omega, HJ.out q1 q2, trivial⟩
                      case measure => simp [intOf]; omega
                    · have t1 : decide ((1000 : Int) < (pj.n.length : Int)) = false := by simp; omega
                      have t2 : decide ((10000 : Int) < (pj.v.length : Int)) = true := by simp; omega
                      go_wp2
                      go_ret
                      exact ⟨false, rfl, by simp, hwq⟩
                  · have t1 : decide ((1000 : Int) < (pj.n.length : Int)) = true := by simp; omega
                    go_wp2
                    go_ret
                    exact ⟨false, rfl, by simp, hwq⟩
                · have ej : j = lp.length := by omega
                  subst ej
                  rw [List.take_length] at hjs
                  have hk2 : body.length / 100 ≤ 20972 := by omega
                  have HY := Lib.hid hQ
                  go_wp2_with fail
                  go_region_held3 (fun wx => wx.cell? ⟨g, 2, none⟩ = some (S key) ∧ wx.cell? ⟨g, 5, none⟩ = some (.slice af lf.length kf) ∧ wx.cell? ⟨g, 6, none⟩ = some (S body) ∧ wx.cell? ⟨g, 9, none⟩ = some (.slice al ll.length kl))
                    (first | go_keep)
                    (first
                      | (go_at_call 22; (with_reducible refine (HF1.out wr.drew hlfq.drew).mono ?_); rintro e w2 ⟨rfl, hb2⟩; replace hb2 := Bl.undrew hb2; have hQ2 := HY.out.on hb2; have z2 : w2.cell? ⟨g, 2, none⟩ = some (S key) := hQ2.cell 2; have z5 : w2.cell? ⟨g, 5, none⟩ = some (.slice af lf.length kf) := hQ2.cell 5; have z6 : w2.cell? ⟨g, 6, none⟩ = some (S body) := hQ2.cell 6; have z9 : w2.cell? ⟨g, 9, none⟩ = some (.slice al ll.length kl) := hQ2.cell 9; have hll2 := (hllq.below hb2).mono hb2.size)
                      | (go_at_call 22; (with_reducible refine (HF2.out w2 hll2).mono ?_); rintro e w3 ⟨rfl, hb3⟩; have hQ3 := hQ2.on hb3; have z2 : w3.cell? ⟨g, 2, none⟩ = some (S key) := hQ3.cell 2; have z5 : w3.cell? ⟨g, 5, none⟩ = some (.slice af lf.length kf) := hQ3.cell 5; have z6 : w3.cell? ⟨g, 6, none⟩ = some (S body) := hQ3.cell 6; have z9 : w3.cell? ⟨g, 9, none⟩ = some (.slice al ll.length kl) := hQ3.cell 9))
                  all_goals
                    have hwr : IntKind.i64.wrap (IntKind.i64.wrap (IntKind.i64.wrap (IntKind.i64.wrap ((N : Int) + (key.length : Int)) + IntKind.i64.wrap ((body.length : Int) / 100)) + (B1 : Int)) + (B2 : Int)) = ((N + key.length + body.length / 100 + B1 + B2 : Nat) : Int) := by
                      have e1 : IntKind.i64.wrap ((N : Int) + (key.length : Int)) = (N : Int) + (key.length : Int) := IntWalk.i64_in _ (by omega)
                      have e2 : IntKind.i64.wrap ((body.length : Int) / 100) = (body.length : Int) / 100 := IntWalk.i64_in _ (by omega)
                      rw [e1, e2]
                      have e3 : IntKind.i64.wrap ((N : Int) + (key.length : Int) + (body.length : Int) / 100) = (N : Int) + (key.length : Int) + (body.length : Int) / 100 := IntWalk.i64_in _ (by omega)
                      rw [e3]
                      have e4 : IntKind.i64.wrap ((N : Int) + (key.length : Int) + (body.length : Int) / 100 + (B1 : Int)) = (N : Int) + (key.length : Int) + (body.length : Int) / 100 + (B1 : Int) := IntWalk.i64_in _ (by omega)
                      rw [e4]
                      have e5 : IntKind.i64.wrap ((N : Int) + (key.length : Int) + (body.length : Int) / 100 + (B1 : Int) + (B2 : Int)) = (N : Int) + (key.length : Int) + (body.length : Int) / 100 + (B1 : Int) + (B2 : Int) := IntWalk.i64_in _ (by omega)
                      rw [e5]
                      omega
                    rw [hwr]
                    clear hwr
                    obtain ⟨T, eT⟩ : ∃ T, T = N + key.length + body.length / 100 + B1 + B2 := ⟨_, rfl⟩
                    rw [← eT]
                    have hw3 : Below w.heap.size w w3 := (hwq.trans (hb2.mono hwq.size)).trans (hb3.mono (Nat.le_trans hwq.size hb2.size))
                    by_cases hT : T ≤ 131072
                    · have t4 : decide ((131072 : Int) < (T : Int)) = false := by simp; omega
                      have hsm2 : ∀ d ∈ l.take (k + 1), Small d := fun d hd => by
                        rw [hsn] at hd
                        rcases List.mem_append.1 hd with hd | hd
                        · exact hsm d hd
                        · rw [List.mem_singleton.1 hd]
                          exact HK.out hjs (by rw [HS1.out (by omega)]; omega) (by rw [HS2.out (by omega)]; omega)
                      have HSM := Lib.hid hsm2
                      clear hsm2 eT HK hjs hsn
                      go_wp2
                      go_roundw
                      case rel => exact ⟨k + 1, T, rfl, by go_num, by omega, by omega, hT, HSM.out, hw3⟩
                      case measure => simp [intOf]; omega
                    · have t4 : decide ((131072 : Int) < (T : Int)) = true := by simp; omega
                      clear eT
                      go_wp2
                      go_ret
                      exact ⟨false, rfl, by simp, hw3⟩
            · have t1 : decide ((65536 : Int) < (key.length : Int)) = false := by simp; omega
              have t2 : decide ((2097152 : Int) < (body.length : Int)) = false := by simp; omega
              have t3 : decide ((50 : Int) < (lp.length : Int)) = true := by simp; omega
              go_wp2
              go_ret
              exact ⟨false, rfl, by simp, hwq⟩
          · have t1 : decide ((65536 : Int) < (key.length : Int)) = false := by simp; omega
            have t2 : decide ((2097152 : Int) < (body.length : Int)) = true := by simp; omega
            go_wp2
            go_ret
            exact ⟨false, rfl, by simp, hwq⟩
        · have t1 : decide ((65536 : Int) < (key.length : Int)) = true := by simp; omega
          go_wp2
          go_ret
          exact ⟨false, rfl, by simp, hwq⟩
      · have e : k = 60 := by omega
        subst e
        go_wp2
        go_ret
        exact ⟨true, rfl, fun _ => hsm, hbel⟩
    · have e : k = l.length := by omega
      subst e
      go_wp2
      go_ret
      exact ⟨true, rfl, fun _ d hd => hsm d (by rw [List.take_length]; exact List.mem_of_mem_take hd), hbel⟩
end Go.Proofs.YtnflihjgbkocnaaDoor
