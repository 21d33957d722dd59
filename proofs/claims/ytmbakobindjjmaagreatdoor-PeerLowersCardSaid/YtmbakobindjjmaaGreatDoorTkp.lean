
/- Plain laws: what is taken of the bytes of frames that were written one behind the other. -/
import Derived.Test.YtmbakobindjjmaaGreatDoorFrm6
import Derived.Test.YtmbakobindjjmaaGreatDoorPut1
import Derived.Test.YtmbakobindjjmaaGreatDoorChp2
namespace Go.Proofs.YtmbakobindjjmaaGreatDoor
open Go.RowKit Go.Dr

/-- a frame's bytes -/
def frB (ty fl st : Nat) (pl : Bytes) : Bytes := beP pl.length 3 ++ [UInt8.ofNat ty, UInt8.ofNat fl] ++ beP st 4 ++ pl

theorem u8_nat (n : Nat) : (UInt8.ofNat n).toNat = n % 256 := by simp
theorem beN_beP2 (n : Nat) (h : n < 65536) : beN (beP n 2) = n := by
  simp [beN, beP]
  omega
theorem beN_beP3 (n : Nat) (h : n < 16777216) : beN (beP n 3) = n := by
  simp [beN, beP]
  omega
theorem beN_beP4 (n : Nat) (h : n < 4294967296) : beN (beP n 4) = n := by
  simp [beN, beP]
  omega
theorem frB_length (ty fl st : Nat) (pl : Bytes) : (frB ty fl st pl).length = 9 + pl.length := by
  simp [frB, beP]
  omega

theorem takeF_frB (ty fl st : Nat) (pl rest : Bytes) (most : Nat) (f : Fr) (hty : ty < 256) (hfl : fl < 256) (hst : st < 2147483648) (hm : pl.length ≤ most) (hm2 : most ≤ 16777215) (hmis : misF ty st = false) (hsz : sizeF ty fl pl.length = false)
    (ho : openF ty fl st pl = some f) (h8 : ¬ (ty = 8 ∧ f.inc = 0)) (hu : unfF f.sets = none) : takeF (frB ty fl st pl ++ rest) most = (f, 9 + pl.length, {}) := by
  have hlen : (frB ty fl st pl ++ rest).length = 9 + pl.length + rest.length := by rw [List.length_append, frB_length]
  have e3 : (frB ty fl st pl ++ rest).take 3 = beP pl.length 3 := by simp [frB, beP]
  have eb : beN ((frB ty fl st pl ++ rest).take 3) = pl.length := by rw [e3, beN_beP3 _ (by omega)]
  have ety : (((frB ty fl st pl ++ rest).drop 3).headD 0).toNat = ty := by
    have : ((frB ty fl st pl ++ rest).drop 3).headD 0 = UInt8.ofNat ty := by simp [frB, beP]
    rw [this, u8_nat]; omega
  have efl : (((frB ty fl st pl ++ rest).drop 4).headD 0).toNat = fl := by
    have : ((frB ty fl st pl ++ rest).drop 4).headD 0 = UInt8.ofNat fl := by simp [frB, beP]
    rw [this, u8_nat]; omega
  have est : numF (frB ty fl st pl ++ rest) 5 % 2147483648 = st := by
    have : ((frB ty fl st pl ++ rest).drop 5).take 4 = beP st 4 := by simp [frB, beP]
    rw [numF, this, beN_beP4 _ (by omega)]
    omega
  have epl : ((frB ty fl st pl ++ rest).take (9 + pl.length)).drop 9 = pl := by
    have e1 : (frB ty fl st pl ++ rest).take (9 + pl.length) = frB ty fl st pl := by rw [← frB_length ty fl st pl]; simp
    rw [e1]
    simp [frB, beP]
  unfold takeF
  rw [if_neg (by omega), eb, if_neg (by omega), if_neg (by omega), ety, efl, est, hmis, epl, hsz, ho]
  simp only [Bool.false_eq_true, if_false]
  rw [if_neg h8, hu]

/-- frames that are taken as they were written -/
structure Tk (most : Nat) (ty fl st : Nat) (pl : Bytes) (f : Fr) : Prop where
  hty : ty < 256
  hfl : fl < 256
  hst : st < 2147483648
  len : pl.length ≤ most
  mis : misF ty st = false
  siz : sizeF ty fl pl.length = false
  opn : openF ty fl st pl = some f
  inc : ¬ (ty = 8 ∧ f.inc = 0)
  unf : unfF f.sets = none

theorem itemsF_nil (most k : Nat) : itemsF most (k + 1) [] = ([], [], false) := by
  have e : takeF [] most = ({}, 0, {}) := by unfold takeF; rw [if_pos (by decide)]
  simp [itemsF, e]
theorem itemsF_cons {most ty fl st : Nat} {pl : Bytes} {f : Fr} (h : Tk most ty fl st pl f) (hm : most ≤ 16777215) (k : Nat) (rest : Bytes) :
    itemsF most (k + 1) (frB ty fl st pl ++ rest) = ((f, {}) :: (itemsF most k rest).1, (itemsF most k rest).2) := by
  have e := takeF_frB ty fl st pl rest most f h.hty h.hfl h.hst h.len hm h.mis h.siz h.opn h.inc h.unf
  have ed : (frB ty fl st pl ++ rest).drop (9 + pl.length) = rest := by rw [← frB_length ty fl st pl]; simp
  rw [itemsF, e]
  simp only [ed]
  rw [if_neg (by rintro ⟨h1, -⟩; omega), if_neg (by rintro ⟨h1, -⟩; cases h1)]

theorem itemsF_1 {most ty fl st k : Nat} {pl : Bytes} {f : Fr} (h : Tk most ty fl st pl f) (hm : most ≤ 16777215) (hk : 2 ≤ k) : itemsF most k (frB ty fl st pl) = ([(f, {})], [], false) := by
  obtain ⟨j, rfl⟩ : ∃ j, k = j + 1 + 1 := ⟨k - 2, by omega⟩
  have e := itemsF_cons h hm (j + 1) []
  rw [List.append_nil, itemsF_nil] at e
  exact e
theorem itemsF_2 {most ty fl st ty2 fl2 st2 k : Nat} {pl pl2 : Bytes} {f f2 : Fr} (h : Tk most ty fl st pl f) (h2 : Tk most ty2 fl2 st2 pl2 f2) (hm : most ≤ 16777215) (hk : 3 ≤ k) : itemsF most k (frB ty fl st pl ++ frB ty2 fl2 st2 pl2) = ([(f, {}), (f2, {})], [], false) := by
  obtain ⟨j, rfl⟩ : ∃ j, k = j + 1 := ⟨k - 1, by omega⟩
  rw [itemsF_cons h hm, itemsF_1 h2 hm (by omega)]
theorem itemsF_3 {most ty fl st ty2 fl2 st2 ty3 fl3 st3 k : Nat} {pl pl2 pl3 : Bytes} {f f2 f3 : Fr} (h : Tk most ty fl st pl f) (h2 : Tk most ty2 fl2 st2 pl2 f2) (h3 : Tk most ty3 fl3 st3 pl3 f3) (hm : most ≤ 16777215) (hk : 4 ≤ k) :
    itemsF most k (frB ty fl st pl ++ (frB ty2 fl2 st2 pl2 ++ frB ty3 fl3 st3 pl3)) = ([(f, {}), (f2, {}), (f3, {})], [], false) := by
  obtain ⟨j, rfl⟩ : ∃ j, k = j + 1 := ⟨k - 1, by omega⟩
  rw [itemsF_cons h hm, itemsF_2 h2 h3 hm (by omega)]

theorem tk_set0 {most : Nat} : Tk most 4 0 0 [] { ty := 4 } := ⟨by decide, by decide, by decide, Nat.zero_le _, rfl, rfl, rfl, by decide, rfl⟩
theorem tk_set1 {most n : Nat} (hm : 6 ≤ most) (hn : n < 2147483648) : Tk most 4 0 0 (beP 4 2 ++ beP n 4) { ty := 4, sets := [(4, n)] } := by
  refine ⟨by decide, by decide, by decide, hm, rfl, by simp [sizeF, beP], ?_, (by rintro ⟨h, -⟩; cases h), ?_⟩
  · have e : setsK (beP 4 2 ++ beP n 4) 1 = [(4, n)] := by
      have e1 : beN (((beP 4 2 ++ beP n 4).drop (6 * 0)).take 2) = 4 := rfl
      have e2 : numF (beP 4 2 ++ beP n 4) (6 * 0 + 2) = n := by
        have : ((beP 4 2 ++ beP n 4).drop (6 * 0 + 2)).take 4 = beP n 4 := by simp [beP]
        rw [numF, this, beN_beP4 _ (by omega)]
      simp only [setsK, List.range_succ, List.range_zero, List.nil_append, List.map_cons, List.map_nil, set1, e1, e2]
    show openF 4 0 0 _ = _
    have el : (beP 4 2 ++ beP n 4).length = 6 := rfl
    simp [openF, el, e]
  · simp [unfF, unf1]
    omega
theorem dhF_plain (ty fl : Nat) (l : Bytes) (h1 : fl &&& 8 = 0) (h2 : fl &&& 32 = 0) : dhF ty fl 1 l = some { ty := ty, fl := fl, st := 1, data := l } := by
  simp [dhF, h1, h2]
theorem tk_dat {most : Nat} (l : Bytes) (hl : l.length ≤ most) (fl : Nat) (hfl : fl = 0 ∨ fl = 1) : Tk most 0 fl 1 l { fl := fl, st := 1, data := l } := by
  rcases hfl with rfl | rfl <;> exact ⟨by decide, by decide, by decide, hl, rfl, by simp [sizeF, aheadF], (by rw [openF, if_pos (.inl rfl)]; exact dhF_plain _ _ _ rfl rfl), (by rintro ⟨h, -⟩; cases h), rfl⟩
theorem tk_head {most : Nat} (l : Bytes) (hl : l.length ≤ most) (fl : Nat) (hfl : fl = 4 ∨ fl = 5) : Tk most 1 fl 1 l { ty := 1, fl := fl, st := 1, data := l } := by
  rcases hfl with rfl | rfl <;> exact ⟨by decide, by decide, by decide, hl, rfl, by simp [sizeF, aheadF], (by rw [openF, if_pos (.inr rfl)]; exact dhF_plain _ _ _ rfl rfl), (by rintro ⟨h, -⟩; cases h), rfl⟩
theorem tk_win {most n : Nat} (hm : 4 ≤ most) (h0 : 0 < n) (hn : n < 2147483648) : Tk most 8 0 1 (beP n 4) { ty := 8, st := 1, inc := n } := by
  have e2 : numF (beP n 4) 0 = n := by
    have : ((beP n 4).drop 0).take 4 = beP n 4 := by simp [beP]
    rw [numF, this, beN_beP4 _ (by omega)]
  refine ⟨by decide, by decide, by decide, hm, rfl, rfl, ?_, ?_, rfl⟩
  · simp only [openF, e2]
    simp
    omega
  · rintro ⟨-, h⟩
    simp at h
    omega
end Go.Proofs.YtmbakobindjjmaaGreatDoor
