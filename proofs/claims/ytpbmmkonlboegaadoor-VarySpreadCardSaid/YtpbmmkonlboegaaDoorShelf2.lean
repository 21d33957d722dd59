/- Contracts of Go's library, laid over this translation by the kit's own tools (lay-shelf, lay-plain); those alone that the proofs use. -/
import Derived.Shelf.Strings.Builder1
import Derived.Shelf.Strings.Builder2
import Derived.Shelf.Strings.OnBuilder
import Derived.Shelf.Strings.Trim
import Derived.Shelf.Small.Utf8
import Derived.Shelf.Small.Strs
import Derived.Shelf.Small.Wraps
import Derived.Shelf.Strings.Search1
import Derived.Shelf.Sort.Plain
import Derived.Shelf.Strings.Prefix
import Derived.Shelf.Strings.Runes
import Derived.Shelf.Strings.AsciiSet
import Derived.Shelf.Unicode.DecodeSlow
import Derived.Shelf.Slices.CompactS
import Derived.Shelf.Slices.Cells
import Derived.Shelf.Slices.In.SortNone
import Derived.Test.YtpbmmkonlboegaaDoorProg
namespace Go.Proofs
open Go.Shelf
def Tryd.lays190_ren : Go.Shelf.Ren := ⟨fun | 190 => 76 | 125 => 91 | 258 => 90 | 128 => 112 | 129 => 113 | 302 => 103 | 303 => 104 | 304 => 105 | 305 => 106 | 306 => 107 | 307 => 108 | 308 => 109 | 309 => 110 | 310 => 111 | 333 => 134 | 329 => 135 | 330 => 136 | 334 => 137 | 335 => 138 | 336 => 139 | 344 => 146 | n => n, fun | 31 => 39 | 9 => 9 | 3 => 3 | 46 => 114 | 0 => 0 | 51 => 131 | 53 => 133 | 4 => 4 | 183 => 125 | 182 => 124 | 131 => 93 | 5 => 5 | 218 => 151 | 222 => 155 | 228 => 164 | 229 => 165 | n => n, fun | n => n⟩
theorem Tryd.lays190 : Go.Proofs.Lays.n190 Tryd.prog Tryd.lays190_ren := {
  mixed := by kernel_rfl
  f125 := Tryd.func91.trans (congrArg some (by kernel_rfl))
  f128 := Tryd.func112.trans (congrArg some (by kernel_rfl))
  f129 := Tryd.func113.trans (congrArg some (by kernel_rfl))
  f190 := Tryd.func76.trans (congrArg some (by kernel_rfl))
  f258 := Tryd.func90.trans (congrArg some (by kernel_rfl))
  f302 := Tryd.func103.trans (congrArg some (by kernel_rfl))
  f303 := Tryd.func104.trans (congrArg some (by kernel_rfl))
  f304 := Tryd.func105.trans (congrArg some (by kernel_rfl))
  f305 := Tryd.func106.trans (congrArg some (by kernel_rfl))
  f306 := Tryd.func107.trans (congrArg some (by kernel_rfl))
  f307 := Tryd.func108.trans (congrArg some (by kernel_rfl))
  f308 := Tryd.func109.trans (congrArg some (by kernel_rfl))
  f309 := Tryd.func110.trans (congrArg some (by kernel_rfl))
  f310 := Tryd.func111.trans (congrArg some (by kernel_rfl))
  f329 := Tryd.func135.trans (congrArg some (by kernel_rfl))
  f330 := Tryd.func136.trans (congrArg some (by kernel_rfl))
  f333 := Tryd.func134.trans (congrArg some (by kernel_rfl))
  f334 := Tryd.func137.trans (congrArg some (by kernel_rfl))
  f335 := Tryd.func138.trans (congrArg some (by kernel_rfl))
  f336 := Tryd.func139.trans (congrArg some (by kernel_rfl))
  f344 := Tryd.func146.trans (congrArg some (by kernel_rfl))
  t0 := Tryd.underlying0
  a0 := Tryd.isAgg0
  z0 := Tryd.sizeOf0
  v0 := Tryd.zeroValue0
  t3 := Tryd.underlying3
  a3 := Tryd.isAgg3
  z3 := Tryd.sizeOf3
  v3 := Tryd.zeroValue3
  t4 := Tryd.underlying4
  a4 := Tryd.isAgg4
  z4 := Tryd.sizeOf4
  v4 := Tryd.zeroValue4
  t5 := Tryd.underlying5
  a5 := Tryd.isAgg5
  z5 := Tryd.sizeOf5
  v5 := Tryd.zeroValue5
  t9 := Tryd.underlying9
  a9 := Tryd.isAgg9
  z9 := Tryd.sizeOf9
  v9 := Tryd.zeroValue9
  t31 := Tryd.underlying39
  a31 := Tryd.isAgg39
  z31 := Tryd.sizeOf39
  v31 := Tryd.zeroValue39
  t46 := Tryd.underlying114
  a46 := Tryd.isAgg114
  z46 := Tryd.sizeOf114
  v46 := Tryd.zeroValue114
  t51 := Tryd.underlying131
  a51 := Tryd.isAgg131
  z51 := Tryd.sizeOf131
  v51 := Tryd.zeroValue131
  t53 := Tryd.underlying133
  a53 := Tryd.isAgg133
  z53 := Tryd.sizeOf133
  v53 := Tryd.zeroValue133
  t131 := Tryd.underlying93
  a131 := Tryd.isAgg93
  z131 := Tryd.sizeOf93
  v131 := Tryd.zeroValue93
  t182 := Tryd.underlying124
  a182 := Tryd.isAgg124
  z182 := Tryd.sizeOf124
  v182 := Tryd.zeroValue124
  t183 := Tryd.underlying125
  a183 := Tryd.isAgg125
  z183 := Tryd.sizeOf125
  v183 := Tryd.zeroValue125
  t218 := Tryd.underlying151
  a218 := Tryd.isAgg151
  z218 := Tryd.sizeOf151
  v218 := Tryd.zeroValue151
  t222 := Tryd.underlying155
  a222 := Tryd.isAgg155
  z222 := Tryd.sizeOf155
  v222 := Tryd.zeroValue155
  t228 := Tryd.underlying164
  a228 := Tryd.isAgg164
  z228 := Tryd.sizeOf164
  v228 := Tryd.zeroValue164
  t229 := Tryd.underlying165
  a229 := Tryd.isAgg165
  z229 := Tryd.sizeOf165
  v229 := Tryd.zeroValue165 }
open Go.Sort Go.RowKit in
theorem Tryd.slices_Sort_string (blk off cap : Nat) (ss : List (List UInt8)) (w : World) (hH : Holds encStr w blk off ss.toArray) (hblk : blk < w.heap.size) (hsz : ss.length < 4611686018427387904) :
    Calls Tryd.prog 76 #[.slice (some ⟨blk, off, none⟩) ss.length cap] w fun e w' =>
      e = .returned (.tuple #[]) ∧ ∃ n os, w' = grow (putRow encStr (Sort.ahead w n) blk off (ss.mergeSort fun x y => decide (x ≤ y)).toArray) os := Any.slices_Sort_string Tryd.lays190 blk off cap ss w hH hblk hsz
open Go.RowKit Go.Sort in
theorem Tryd.slices_Sort_string_none (p : Option Addr) (cap : Nat) (w : World) :
    Calls Tryd.prog 76 #[.slice p 0 cap] w fun e w' => e = .returned (.tuple #[]) ∧ w' = w := Any.slices_Sort_string_none Tryd.lays190 p cap w
end Go.Proofs
