
/- The walks of layer 11 (hop) and of its reference, third part. -/
import Derived.Test.YtnflihjgbkocnaaDoorHop
import Derived.Deep.RegionHeld3
namespace Go.Proofs.YtnflihjgbkocnaaDoor
open Go.RowKit Go.Dr

theorem any_take_succ {α : Type} (p : α → Bool) (l : List α) (k : Nat) (h : k < l.length) (h1 : (l.take k).any p = false) (h2 : p l[k] = false) : (l.take (k + 1)).any p = false := by
  rw [take_snoc l k h, List.any_append, h1]
  simp [h2]
theorem any_hit {α : Type} (p : α → Bool) (l : List α) (k : Nat) (h : k < l.length) (h2 : p l[k] = true) : l.any p = true := by
  rw [List.any_eq_true]
  exact ⟨_, List.getElem_mem h, h2⟩

/-- The texts of the names of fields of a connection alone. -/
def connection : Bytes := [99, 111, 110, 110, 101, 99, 116, 105, 111, 110]
def own : List Bytes := [connection,
  [112, 114, 111, 120, 121, 45, 99, 111, 110, 110, 101, 99, 116, 105, 111, 110],
  [107, 101, 101, 112, 45, 97, 108, 105, 118, 101],
  [116, 114, 97, 110, 115, 102, 101, 114, 45, 101, 110, 99, 111, 100, 105, 110, 103],
  [117, 112, 103, 114, 97, 100, 101], [116, 101], [116, 114, 97, 105, 108, 101, 114],
  [112, 114, 111, 120, 121, 45, 97, 117, 116, 104, 101, 110, 116, 105, 99, 97, 116, 101],
  [112, 114, 111, 120, 121, 45, 97, 117, 116, 104, 111, 114, 105, 122, 97, 116, 105, 111, 110]]
def strip (l : List F) : List F := without (without l (allOf l connection)) own
def viaF (who : Bytes) : F := ⟨[118, 105, 97], who, false⟩
theorem ssum_own : ssum own = 115 := by decide

end Go.Proofs.YtnflihjgbkocnaaDoor
namespace Go.Proofs.YtnflihjgbkocnaaDoor
open Go.RowKit Go.Dr

theorem zeroInt (w : World) : (zeroValue 3).run Tryd.prog w = .ok (.int .i64 0) w := by kernel_rfl

theorem map_low_snoc (names : List Bytes) (k : Nat) (h : k < names.length) : (names.take (k + 1)).map low = (names.take k).map low ++ [low names[k]] := by
  rw [take_snoc names k h, List.map_append]
  rfl

end Go.Proofs.YtnflihjgbkocnaaDoor
namespace Go.Proofs.YtnflihjgbkocnaaDoor
open Go.RowKit Go.Dr

theorem without_both (l : List F) (a b : List Bytes) : without l (a ++ b) = without (without l b) a := by
  simp only [without, List.filter_filter, among, List.any_append]
  congr 1
  funext f
  simp [Bool.not_or]

end Go.Proofs.YtnflihjgbkocnaaDoor
