/-
  DERIVED: THE SHELF's CONTRACTS AT THIS DUMP, IN PLAIN WORDS (tools/lay-plain.mjs out of 'TryzIter.lean', which tools/lay-shelf.mjs wrote): THE SAME DECLARATIONS UNDER THE SAME NAMES: 'import', 'namespace', 'open', 'def', 'theorem' AND NOTHING ELSE: no command of the shelf's: FOR A HAND-IN. Each laying: the table of numbers ('.._ren') and one theorem, a field a fact of the dump's own or the kernel's comparison; each contract: ONE APPLICATION.
-/
import Derived.Shelf.SlIterI.Nil
import Derived.Shelf.SlIterI.Sorted
import Derived.Ground.GgzProg
import Derived.Test.YtffbcfcoddacmaaGreatProg
namespace Go.Proofs
open Go.Shelf
def Tryz.keys98_ren : Go.Shelf.Ren := ⟨fun | 7 => 98 | 10 => 142 | n => n, fun | 23 => 141 | 26 => 3 | 3 => 26 | 28 => 156 | 0 => 0 | 27 => 155 | 33 => 82 | 4 => 4 | n => n, fun | n => n⟩
theorem Tryz.keys98 : Go.Proofs.SlLaysZI.n7 Tryz.prog Tryz.keys98_ren := {
  mixed := by kernel_rfl
  f7 := ⟨Tryz.f98.name, by decide, Tryz.func98.trans (congrArg some (by kernel_rfl))⟩
  f10 := ⟨Tryz.f142.name, by decide, Tryz.func142.trans (congrArg some (by kernel_rfl))⟩
  t0 := Tryz.underlying0
  a0 := Tryz.isAgg0
  z0 := Tryz.sizeOf0
  v0 := Tryz.zeroValue0
  t4 := Tryz.underlying4
  a4 := Tryz.isAgg4
  z4 := Tryz.sizeOf4
  v4 := Tryz.zeroValue4
  t23 := Tryz.underlying141
  a23 := Tryz.isAgg141
  z23 := Tryz.sizeOf141
  v23 := Tryz.zeroValue141
  t26 := Tryz.underlying3
  a26 := Tryz.isAgg3
  z26 := Tryz.sizeOf3
  v26 := Tryz.zeroValue3
  t27 := Tryz.underlying155
  a27 := Tryz.isAgg155
  z27 := Tryz.sizeOf155
  v27 := Tryz.zeroValue155
  t28 := Tryz.underlying156
  a28 := Tryz.isAgg156
  z28 := Tryz.sizeOf156
  v28 := Tryz.zeroValue156
  t33 := Tryz.underlying82
  a33 := Tryz.isAgg82
  z33 := Tryz.sizeOf82
  v33 := Tryz.zeroValue82 }
def Tryz.sorted97_ren : Go.Shelf.Ren := ⟨fun | 6 => 97 | 8 => 140 | 9 => 141 | 11 => 172 | 13 => 158 | 12 => 173 | 23 => 192 | 24 => 193 | 14 => 207 | 15 => 208 | 16 => 209 | 17 => 210 | 18 => 211 | 19 => 212 | 20 => 194 | 21 => 213 | 22 => 214 | 25 => 236 | 26 => 223 | 27 => 224 | 28 => 237 | 29 => 238 | 30 => 161 | 31 => 256 | n => n, fun | 26 => 3 | 28 => 156 | 24 => 22 | 0 => 0 | 3 => 3 | 37 => 193 | 48 => 225 | 50 => 36 | 4 => 4 | 40 => 218 | 39 => 217 | 45 => 133 | 5 => 5 | 9 => 9 | 51 => 251 | 55 => 255 | 57 => 273 | 58 => 274 | 33 => 82 | n => n, fun | n => n⟩
theorem Tryz.sorted97 : Go.Proofs.SlLaysZI.n6 Tryz.prog Tryz.sorted97_ren := {
  mixed := by kernel_rfl
  f6 := ⟨Tryz.f97.name, by decide, Tryz.func97.trans (congrArg some (by kernel_rfl))⟩
  f8 := ⟨Tryz.f140.name, by decide, Tryz.func140.trans (congrArg some (by kernel_rfl))⟩
  f11 := ⟨Tryz.f172.name, by decide, Tryz.func172.trans (congrArg some (by kernel_rfl))⟩
  t0 := Tryz.underlying0
  a0 := Tryz.isAgg0
  z0 := Tryz.sizeOf0
  v0 := Tryz.zeroValue0
  t24 := Tryz.underlying22
  a24 := Tryz.isAgg22
  z24 := Tryz.sizeOf22
  v24 := Tryz.zeroValue22
  t26 := Tryz.underlying3
  a26 := Tryz.isAgg3
  z26 := Tryz.sizeOf3
  v26 := Tryz.zeroValue3
  t28 := Tryz.underlying156
  a28 := Tryz.isAgg156
  z28 := Tryz.sizeOf156
  v28 := Tryz.zeroValue156
  i26 := by kernel_rfl }
end Go.Proofs
