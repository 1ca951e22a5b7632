/-
  DERIVED: THE SHELF's CONTRACTS AT THIS DUMP, IN PLAIN WORDS (tools/lay-plain.mjs out of 'TryShelfS.lean', which tools/lay-shelf.mjs wrote): THE SAME DECLARATIONS UNDER THE SAME NAMES: 'import', 'namespace', 'open', 'def', 'theorem' AND NOTHING ELSE: no command of the shelf's: FOR A HAND-IN. Each laying: the table of numbers ('.._ren') and one theorem, a field a fact of the dump's own or the kernel's comparison; each contract: ONE APPLICATION.
-/
import Derived.Test.YtimjhehagimcaaaYE1
import Derived.Ground.SlgnProg
import Derived.Shelf.SortG.Plain
import Derived.Shelf.SortG.SortNone
import Derived.Test.YtimjhehagimcaaaProg
namespace Go.Proofs
open Go.Shelf
def Try.laysSortI_ren : Go.Shelf.Ren := ⟨fun | 53 => 83 | 64 => 116 | 63 => 115 | 78 => 142 | 79 => 143 | 70 => 133 | 71 => 134 | 72 => 135 | 73 => 136 | 74 => 137 | 75 => 138 | 59 => 139 | 76 => 140 | 77 => 141 | 88 => 156 | 89 => 157 | 90 => 158 | 91 => 159 | 92 => 160 | 68 => 154 | 96 => 172 | n => n, fun | 22 => 55 | 23 => 2 | 3 => 3 | 51 => 130 | 0 => 0 | 67 => 155 | 69 => 112 | 4 => 4 | 61 => 147 | 60 => 146 | 44 => 152 | 5 => 5 | 9 => 9 | 75 => 163 | 79 => 167 | 83 => 176 | 84 => 177 | n => n, fun | n => n⟩
theorem Try.laysSortI : Go.Proofs.SlLaysN.n53 Try.prog Try.laysSortI_ren := {
  mixed := by kernel_rfl
  f53 := ⟨Try.f83.name, by decide, Try.func83.trans (congrArg some (by kernel_rfl))⟩
  f59 := ⟨Try.f139.name, by decide, Try.func139.trans (congrArg some (by kernel_rfl))⟩
  f63 := ⟨Try.f115.name, by decide, Try.func115.trans (congrArg some (by kernel_rfl))⟩
  f64 := Try.func116.trans (congrArg some (by kernel_rfl))
  f68 := ⟨Try.f154.name, by decide, Try.func154.trans (congrArg some (by kernel_rfl))⟩
  f70 := ⟨Try.f133.name, by decide, Try.func133.trans (congrArg some (by kernel_rfl))⟩
  f71 := ⟨Try.f134.name, by decide, Try.func134.trans (congrArg some (by kernel_rfl))⟩
  f72 := ⟨Try.f135.name, by decide, Try.func135.trans (congrArg some (by kernel_rfl))⟩
  f73 := ⟨Try.f136.name, by decide, Try.func136.trans (congrArg some (by kernel_rfl))⟩
  f74 := ⟨Try.f137.name, by decide, Try.func137.trans (congrArg some (by kernel_rfl))⟩
  f75 := ⟨Try.f138.name, by decide, Try.func138.trans (congrArg some (by kernel_rfl))⟩
  f76 := ⟨Try.f140.name, by decide, Try.func140.trans (congrArg some (by kernel_rfl))⟩
  f77 := ⟨Try.f141.name, by decide, Try.func141.trans (congrArg some (by kernel_rfl))⟩
  f78 := Try.func142.trans (congrArg some (by kernel_rfl))
  f79 := Try.func143.trans (congrArg some (by kernel_rfl))
  f88 := ⟨Try.f156.name, by decide, Try.func156.trans (congrArg some (by kernel_rfl))⟩
  f89 := Try.func157.trans (congrArg some (by kernel_rfl))
  f90 := Try.func158.trans (congrArg some (by kernel_rfl))
  f91 := ⟨Try.f159.name, by decide, Try.func159.trans (congrArg some (by kernel_rfl))⟩
  f92 := ⟨Try.f160.name, by decide, Try.func160.trans (congrArg some (by kernel_rfl))⟩
  f96 := ⟨Try.f172.name, by decide, Try.func172.trans (congrArg some (by kernel_rfl))⟩
  t0 := Try.underlying0
  a0 := Try.isAgg0
  z0 := Try.sizeOf0
  v0 := Try.zeroValue0
  t3 := Try.underlying3
  a3 := Try.isAgg3
  z3 := Try.sizeOf3
  v3 := Try.zeroValue3
  t4 := Try.underlying4
  a4 := Try.isAgg4
  z4 := Try.sizeOf4
  v4 := Try.zeroValue4
  t5 := Try.underlying5
  a5 := Try.isAgg5
  z5 := Try.sizeOf5
  v5 := Try.zeroValue5
  t9 := Try.underlying9
  a9 := Try.isAgg9
  z9 := Try.sizeOf9
  v9 := Try.zeroValue9
  t22 := Try.underlying55
  a22 := Try.isAgg55
  z22 := Try.sizeOf55
  v22 := Try.zeroValue55
  t23 := Try.underlying2
  a23 := Try.isAgg2
  z23 := Try.sizeOf2
  v23 := Try.zeroValue2
  t44 := Try.underlying152
  a44 := Try.isAgg152
  z44 := Try.sizeOf152
  v44 := Try.zeroValue152
  t51 := Try.underlying130
  a51 := Try.isAgg130
  z51 := Try.sizeOf130
  v51 := Try.zeroValue130
  t60 := Try.underlying146
  a60 := Try.isAgg146
  z60 := Try.sizeOf146
  v60 := Try.zeroValue146
  t61 := Try.underlying147
  a61 := Try.isAgg147
  z61 := Try.sizeOf147
  v61 := Try.zeroValue147
  t67 := Try.underlying155
  a67 := Try.isAgg155
  z67 := Try.sizeOf155
  v67 := Try.zeroValue155
  t69 := Try.underlying112
  a69 := Try.isAgg112
  z69 := Try.sizeOf112
  v69 := Try.zeroValue112
  t75 := Try.underlying163
  a75 := Try.isAgg163
  z75 := Try.sizeOf163
  v75 := Try.zeroValue163
  t79 := Try.underlying167
  a79 := Try.isAgg167
  z79 := Try.sizeOf167
  v79 := Try.zeroValue167
  t83 := Try.underlying176
  a83 := Try.isAgg176
  z83 := Try.sizeOf176
  v83 := Try.zeroValue176
  t84 := Try.underlying177
  a84 := Try.isAgg177
  z84 := Try.sizeOf177
  v84 := Try.zeroValue177 }
open Go.RowKit Go.Lib Go.Sort in
theorem Try.slices_SortI (blk off cap : Nat) (zs : List Int) (w : World) (hH : Holds (Value.int .i64) w blk off zs.toArray) (hblk : blk < w.heap.size) (hsz : zs.length < 4611686018427387904) :
    Calls Try.prog 83 #[.slice (some ⟨blk, off, none⟩) zs.length cap] w fun e w' =>
      e = .returned (.tuple #[]) ∧ ∃ n os, w' = grow (putRow (Value.int .i64) (Sort.ahead w n) blk off (zs.mergeSort fun x y => decide (x ≤ y)).toArray) os := AnyG.slices_Sort_int Try.laysSortI blk off cap zs w hH hblk hsz
end Go.Proofs
