/- What the claim stands on, part 1. Of own lemmas only those that it reaches. -/
import Derived.Test.YthbjfhhiajihfaaGreatKs0
namespace Go.Proofs
open Go.Shelf
def Tryz.lays213_ren : Go.Shelf.Ren := ⟨fun | 213 => 270 | 265 => 294 | n => n, fun | 9 => 9 | 3 => 3 | n => n, fun | n => n⟩
def Tryz.lays106_ren : Go.Shelf.Ren := ⟨fun | 106 => 232 | 213 => 270 | 265 => 294 | n => n, fun | 9 => 9 | 3 => 3 | n => n, fun | n => n⟩
theorem Tryz.lays106 : Go.Proofs.Lays.n106 Tryz.prog Tryz.lays106_ren := {
  mixed := by kernel_rfl
  f106 := Tryz.func232.trans (congrArg some (by kernel_rfl))
  f213 := Tryz.func270.trans (congrArg some (by kernel_rfl))
  f265 := Tryz.func294.trans (congrArg some (by kernel_rfl))
  t3 := Tryz.underlying3
  a3 := Tryz.isAgg3
  z3 := Tryz.sizeOf3
  v3 := Tryz.zeroValue3
  t9 := Tryz.underlying9
  a9 := Tryz.isAgg9
  z9 := Tryz.sizeOf9
  v9 := Tryz.zeroValue9 }
open Go.RowKit in
theorem Tryz.strings_Compare (a b : ByteArray) (w : World) :
    Calls Tryz.prog 232 #[.string a, .string b] w fun e w' => e = .returned (.int .i64 (Lib.compareBytes a.data.toList b.data.toList)) ∧ w' = w := Any.strings_Compare Tryz.lays106 a b w
def Tryz.lays137_ren : Go.Shelf.Ren := ⟨fun | 137 => 327 | 217 => 329 | 266 => 330 | n => n, fun | 9 => 9 | 5 => 5 | 3 => 3 | n => n, fun | n => n⟩
theorem Tryz.lays137 : Go.Proofs.Lays.n137 Tryz.prog Tryz.lays137_ren := {
  mixed := by kernel_rfl
  f137 := Tryz.func327.trans (congrArg some (by kernel_rfl))
  f217 := Tryz.func329.trans (congrArg some (by kernel_rfl))
  f266 := Tryz.func330.trans (congrArg some (by kernel_rfl))
  t3 := Tryz.underlying3
  a3 := Tryz.isAgg3
  z3 := Tryz.sizeOf3
  v3 := Tryz.zeroValue3
  t5 := Tryz.underlying5
  a5 := Tryz.isAgg5
  z5 := Tryz.sizeOf5
  v5 := Tryz.zeroValue5
  t9 := Tryz.underlying9
  a9 := Tryz.isAgg9
  z9 := Tryz.sizeOf9
  v9 := Tryz.zeroValue9 }
open Go.RowKit in
theorem Tryz.strings_IndexByte (s : ByteArray) (c : Int) (w : World) :
    Calls Tryz.prog 327 #[.string s, .int .u8 c] w fun e w' => e = .returned (.int .i64 (Lib.indexByte s.data.toList c.toNat.toUInt8)) ∧ w' = w := Any.strings_IndexByte Tryz.lays137 s c w
def Tryz.lays215_ren : Go.Shelf.Ren := ⟨fun | 215 => 213 | n => n, fun | 3 => 3 | 4 => 4 | n => n, fun | n => n⟩
def Tryz.lays122_ren : Go.Shelf.Ren := ⟨fun | 122 => 160 | 215 => 213 | n => n, fun | 3 => 3 | 4 => 4 | n => n, fun | n => n⟩
theorem Tryz.lays122 : Go.Proofs.Lays.n122 Tryz.prog Tryz.lays122_ren := {
  mixed := by kernel_rfl
  f122 := Tryz.func160.trans (congrArg some (by kernel_rfl))
  f215 := Tryz.func213.trans (congrArg some (by kernel_rfl))
  t3 := Tryz.underlying3
  a3 := Tryz.isAgg3
  z3 := Tryz.sizeOf3
  v3 := Tryz.zeroValue3
  t4 := Tryz.underlying4
  a4 := Tryz.isAgg4
  z4 := Tryz.sizeOf4
  v4 := Tryz.zeroValue4 }
open Go.RowKit in
theorem Tryz.cmp_Compare_int (x y : Int) (w : World) :
    Calls Tryz.prog 160 #[.int .i64 x, .int .i64 y] w fun e w' => e = .returned (.int .i64 (Lib.compareInt x y)) ∧ w' = w := Any.cmp_Compare_int Tryz.lays122 x y w
def Tryz.lays189_ren : Go.Shelf.Ren := ⟨fun | 189 => 145 | 125 => 200 | 257 => 199 | 128 => 249 | 129 => 250 | 294 => 240 | 295 => 241 | 296 => 242 | 297 => 243 | 298 => 244 | 299 => 245 | 216 => 246 | 300 => 247 | 301 => 248 | 328 => 273 | 329 => 274 | 330 => 275 | 331 => 276 | 332 => 277 | 215 => 213 | 343 => 296 | n => n, fun | 28 => 37 | 3 => 3 | 46 => 248 | 0 => 0 | 51 => 291 | 53 => 66 | 4 => 4 | 183 => 284 | 182 => 283 | 131 => 164 | 5 => 5 | 9 => 9 | 218 => 310 | 222 => 314 | 228 => 330 | 229 => 331 | n => n, fun | n => n⟩
theorem Tryz.lays189 : Go.Proofs.Lays.n189 Tryz.prog Tryz.lays189_ren := {
  mixed := by kernel_rfl
  f125 := Tryz.func200.trans (congrArg some (by kernel_rfl))
  f128 := Tryz.func249.trans (congrArg some (by kernel_rfl))
  f129 := Tryz.func250.trans (congrArg some (by kernel_rfl))
  f189 := Tryz.func145.trans (congrArg some (by kernel_rfl))
  f215 := Tryz.func213.trans (congrArg some (by kernel_rfl))
  f216 := Tryz.func246.trans (congrArg some (by kernel_rfl))
  f257 := Tryz.func199.trans (congrArg some (by kernel_rfl))
  f294 := Tryz.func240.trans (congrArg some (by kernel_rfl))
  f295 := Tryz.func241.trans (congrArg some (by kernel_rfl))
  f296 := Tryz.func242.trans (congrArg some (by kernel_rfl))
  f297 := Tryz.func243.trans (congrArg some (by kernel_rfl))
  f298 := Tryz.func244.trans (congrArg some (by kernel_rfl))
  f299 := Tryz.func245.trans (congrArg some (by kernel_rfl))
  f300 := Tryz.func247.trans (congrArg some (by kernel_rfl))
  f301 := Tryz.func248.trans (congrArg some (by kernel_rfl))
  f328 := Tryz.func273.trans (congrArg some (by kernel_rfl))
  f329 := Tryz.func274.trans (congrArg some (by kernel_rfl))
  f330 := Tryz.func275.trans (congrArg some (by kernel_rfl))
  f331 := Tryz.func276.trans (congrArg some (by kernel_rfl))
  f332 := Tryz.func277.trans (congrArg some (by kernel_rfl))
  f343 := Tryz.func296.trans (congrArg some (by kernel_rfl))
  t0 := Tryz.underlying0
  a0 := Tryz.isAgg0
  z0 := Tryz.sizeOf0
  v0 := Tryz.zeroValue0
  t3 := Tryz.underlying3
  a3 := Tryz.isAgg3
  z3 := Tryz.sizeOf3
  v3 := Tryz.zeroValue3
  t4 := Tryz.underlying4
  a4 := Tryz.isAgg4
  z4 := Tryz.sizeOf4
  v4 := Tryz.zeroValue4
  t5 := Tryz.underlying5
  a5 := Tryz.isAgg5
  z5 := Tryz.sizeOf5
  v5 := Tryz.zeroValue5
  t9 := Tryz.underlying9
  a9 := Tryz.isAgg9
  z9 := Tryz.sizeOf9
  v9 := Tryz.zeroValue9
  t28 := Tryz.underlying37
  a28 := Tryz.isAgg37
  z28 := Tryz.sizeOf37
  v28 := Tryz.zeroValue37
  t46 := Tryz.underlying248
  a46 := Tryz.isAgg248
  z46 := Tryz.sizeOf248
  v46 := Tryz.zeroValue248
  t51 := Tryz.underlying291
  a51 := Tryz.isAgg291
  z51 := Tryz.sizeOf291
  v51 := Tryz.zeroValue291
  t53 := Tryz.underlying66
  a53 := Tryz.isAgg66
  z53 := Tryz.sizeOf66
  v53 := Tryz.zeroValue66
  t131 := Tryz.underlying164
  a131 := Tryz.isAgg164
  z131 := Tryz.sizeOf164
  v131 := Tryz.zeroValue164
  t182 := Tryz.underlying283
  a182 := Tryz.isAgg283
  z182 := Tryz.sizeOf283
  v182 := Tryz.zeroValue283
  t183 := Tryz.underlying284
  a183 := Tryz.isAgg284
  z183 := Tryz.sizeOf284
  v183 := Tryz.zeroValue284
  t218 := Tryz.underlying310
  a218 := Tryz.isAgg310
  z218 := Tryz.sizeOf310
  v218 := Tryz.zeroValue310
  t222 := Tryz.underlying314
  a222 := Tryz.isAgg314
  z222 := Tryz.sizeOf314
  v222 := Tryz.zeroValue314
  t228 := Tryz.underlying330
  a228 := Tryz.isAgg330
  z228 := Tryz.sizeOf330
  v228 := Tryz.zeroValue330
  t229 := Tryz.underlying331
  a229 := Tryz.isAgg331
  z229 := Tryz.sizeOf331
  v229 := Tryz.zeroValue331 }
open Go.Sort Go.RowKit in
theorem Tryz.slices_Sort_int (blk off cap : Nat) (zs : List Int) (w : World) (hH : Holds (Value.int .i64) w blk off zs.toArray) (hblk : blk < w.heap.size) (hsz : zs.length < 4611686018427387904) :
    Calls Tryz.prog 145 #[.slice (some ⟨blk, off, none⟩) zs.length cap] w fun e w' =>
      e = .returned (.tuple #[]) ∧ ∃ n os, w' = grow (putRow (Value.int .i64) (Sort.ahead w n) blk off (zs.mergeSort fun x y => decide (x ≤ y)).toArray) os := Any.slices_Sort_int Tryz.lays189 blk off cap zs w hH hblk hsz
def Tryz.lays107_ren : Go.Shelf.Ren := ⟨fun | 107 => 252 | 108 => 278 | n => n, fun | 28 => 37 | 3 => 3 | 4 => 4 | 0 => 0 | n => n, fun | n => n⟩
theorem Tryz.lays107 : Go.Proofs.Lays.n107 Tryz.prog Tryz.lays107_ren := {
  mixed := by kernel_rfl
  f107 := Tryz.func252.trans (congrArg some (by kernel_rfl))
  f108 := Tryz.func278.trans (congrArg some (by kernel_rfl))
  t0 := Tryz.underlying0
  a0 := Tryz.isAgg0
  z0 := Tryz.sizeOf0
  v0 := Tryz.zeroValue0
  t3 := Tryz.underlying3
  a3 := Tryz.isAgg3
  z3 := Tryz.sizeOf3
  v3 := Tryz.zeroValue3
  t4 := Tryz.underlying4
  a4 := Tryz.isAgg4
  z4 := Tryz.sizeOf4
  v4 := Tryz.zeroValue4
  t28 := Tryz.underlying37
  a28 := Tryz.isAgg37
  z28 := Tryz.sizeOf37
  v28 := Tryz.zeroValue37 }
open Go.Lib in
theorem Tryz.slices_Contains_int (b off n c : Nat) (zs : List Int) (x : Int) (w : World) (hz : n ≤ zs.length) (hbig : n ≤ 9223372036854775807) (hc : ∀ j, j < zs.length → w.cell? ⟨b, off + j, none⟩ = some (.int .i64 (zs.getD j 0))) :
    Calls Tryz.prog 252 #[.slice (some ⟨b, off, none⟩) n c, .int .i64 x] w fun e w' => e = .returned (.bool ((zs.take n).contains x)) ∧ w' = w := Any.slices_Contains_int Tryz.lays107 b off n c zs x w hz hbig hc
open Go.Lib in
theorem Tryz.slices_Contains_int_empty (a : Option Addr) (c : Nat) (x : Int) (w : World) :
    Calls Tryz.prog 252 #[.slice a 0 c, .int .i64 x] w fun e w' => e = .returned (.bool false) ∧ w' = w := Any.slices_Contains_int_empty Tryz.lays107 a c x w
def Tryz.laysNm220_ren : Go.Shelf.Ren := ⟨fun | 20 => 146 | n => n, fun | 22 => 37 | 3 => 3 | 4 => 4 | 0 => 0 | n => n, fun | n => n⟩
theorem Tryz.laysNm220 : Go.Proofs.Lays2.n20 Tryz.prog Tryz.laysNm220_ren := {
  mixed := by kernel_rfl
  f20 := Tryz.func146.trans (congrArg some (by kernel_rfl))
  t0 := Tryz.underlying0
  a0 := Tryz.isAgg0
  z0 := Tryz.sizeOf0
  v0 := Tryz.zeroValue0
  t3 := Tryz.underlying3
  a3 := Tryz.isAgg3
  z3 := Tryz.sizeOf3
  v3 := Tryz.zeroValue3
  t4 := Tryz.underlying4
  a4 := Tryz.isAgg4
  z4 := Tryz.sizeOf4
  v4 := Tryz.zeroValue4
  t22 := Tryz.underlying37
  a22 := Tryz.isAgg37
  z22 := Tryz.sizeOf37
  v22 := Tryz.zeroValue37
  i3 := by kernel_rfl }
open Go.RowKit Go.Lib Go.Sort in
theorem Tryz.slices_Compact_int (blk off cap : Nat) (zs : List Int) (w : World) (hH : Holds (Value.int .i64) w blk off zs.toArray) (hsz : zs.length ≤ 9223372036854775807) (hcap : zs.length ≤ cap) :
    Calls Tryz.prog 146 #[.slice (some ⟨blk, off, none⟩) zs.length cap] w fun e w' => e = .returned (.slice (some ⟨blk, off, none⟩) (Lib.compact zs).length cap) ∧ ∃ q, w' = putRow (Value.int .i64) (Sort.ahead w q) blk off (Lib.compact zs ++ List.replicate (zs.length - (Lib.compact zs).length) 0).toArray := Any.slices_Compact_int Tryz.laysNm220 blk off cap zs w hH hsz hcap
open Go.RowKit Go.Lib Go.Sort in
theorem Tryz.slices_Compact_int_empty (a : Option Addr) (cap : Nat) (w : World) :
    Calls Tryz.prog 146 #[.slice a 0 cap] w fun e w' => e = .returned (.slice a 0 cap) ∧ w' = w := Any.slices_Compact_int_empty Tryz.laysNm220 a cap w
def Tryz.laysNm225_ren : Go.Shelf.Ren := ⟨fun | 25 => 214 | 31 => 246 | 32 => 261 | 37 => 213 | n => n, fun | 22 => 37 | 3 => 3 | 4 => 4 | 40 => 248 | 0 => 0 | n => n, fun | n => n⟩
theorem Tryz.laysNm225 : Go.Proofs.Lays2.n25 Tryz.prog Tryz.laysNm225_ren := {
  mixed := by kernel_rfl
  f25 := Tryz.func214.trans (congrArg some (by kernel_rfl))
  f31 := Tryz.func246.trans (congrArg some (by kernel_rfl))
  f32 := Tryz.func261.trans (congrArg some (by kernel_rfl))
  f37 := Tryz.func213.trans (congrArg some (by kernel_rfl))
  t0 := Tryz.underlying0
  a0 := Tryz.isAgg0
  z0 := Tryz.sizeOf0
  v0 := Tryz.zeroValue0
  t3 := Tryz.underlying3
  a3 := Tryz.isAgg3
  z3 := Tryz.sizeOf3
  v3 := Tryz.zeroValue3
  t4 := Tryz.underlying4
  a4 := Tryz.isAgg4
  z4 := Tryz.sizeOf4
  v4 := Tryz.zeroValue4
  t22 := Tryz.underlying37
  a22 := Tryz.isAgg37
  z22 := Tryz.sizeOf37
  v22 := Tryz.zeroValue37
  t40 := Tryz.underlying248
  a40 := Tryz.isAgg248
  z40 := Tryz.sizeOf248
  v40 := Tryz.zeroValue248 }
open Go.RowKit Go.Lib in
theorem Tryz.slices_BinarySearch_int (b off n c : Nat) (zs : List Int) (x : Int) (w : World) (hz : n ≤ zs.length) (hbig : n < 4611686018427387904) (hc : ∀ j, j < zs.length → w.cell? ⟨b, off + j, none⟩ = some (.int .i64 (zs.getD j 0))) (hs : (zs.take n).Pairwise (· ≤ ·)) :
    Calls Tryz.prog 214 #[.slice (some ⟨b, off, none⟩) n c, .int .i64 x] w fun e w' => e = .returned (.tuple #[.int .i64 ((zs.take n).countP (· < x) : Nat), .bool ((zs.take n).contains x)]) ∧ ∃ q, w' = w.drewN q := Any.slices_BinarySearch_int Tryz.laysNm225 b off n c zs x w hz hbig hc hs
open Go.RowKit Go.Sort in
theorem Tryz.slices_Sort_int_none (p : Option Addr) (cap : Nat) (w : World) :
    Calls Tryz.prog 145 #[.slice p 0 cap] w fun e w' => e = .returned (.tuple #[]) ∧ w' = w := Any.slices_Sort_int_none Tryz.lays189 p cap w
open Go.RowKit Go.Lib in
theorem Tryz.slices_BinarySearch_int_empty (a : Option Addr) (c : Nat) (x : Int) (w : World) :
    Calls Tryz.prog 214 #[.slice a 0 c, .int .i64 x] w fun e w' => e = .returned (.tuple #[.int .i64 0, .bool false]) ∧ w' = w := Any.slices_BinarySearch_int_empty Tryz.laysNm225 a c x w
end Go.Proofs
set_option linter.unusedVariables false
set_option linter.unusedSimpArgs false
set_option maxHeartbeats 400000
set_option maxRecDepth 100000
namespace Go.Proofs.YthbjfhhiajihfaaGreat
open Go Go.X
@[irreducible] def letS (c : Int) : Bool := decide (97 ≤ c ∧ c ≤ 122 ∨ 65 ≤ c ∧ c ≤ 90 ∨ c = 95)
theorem letter_ok (c : Int) (w : World) : Fx Tryz.prog 266 [.int .u8 c] w (fun v w' => v = .bool (letS c) ∧ w = w') := by
  refine enter Tryz.func266 rfl rfl rfl _ (Pick.sub (l := [0]) (.cons rfl .nil)) ?_
  refine RK.seq ?_
  refine RK.region ?_
  refine RL.p rfl rfl ?_
  refine RL.done ?_
  refine RK.seq ?_
  refine RK.region ?_
  iterate 3 refine RL.p rfl rfl ?_
  first | refine RL.splitD (d := 5) rfl rfl (fun h5 => ?_) (fun h5 => ?_) | refine RL.splitN (d := 5) rfl rfl (fun h5 => ?_) (fun h5 => ?_) | refine RL.split (d := 5) rfl rfl (fun h5 => ?_) (fun h5 => ?_)
  · iterate 2 refine RL.q (.yes rfl rfl rfl) rfl rfl (Yld.pure rfl) ?_
    iterate 2 refine RL.p rfl rfl ?_
    first | refine RL.splitD (d := 9) rfl rfl (fun h9 => ?_) (fun h9 => ?_) | refine RL.splitN (d := 9) rfl rfl (fun h9 => ?_) (fun h9 => ?_) | refine RL.split (d := 9) rfl rfl (fun h9 => ?_) (fun h9 => ?_)
    · iterate 6 refine RL.no (.no rfl rfl rfl rfl) rfl rfl ?_
      iterate 2 refine RL.p rfl rfl ?_
      iterate 2 refine RL.no (.no rfl rfl rfl rfl) rfl rfl ?_
      iterate 2 refine RL.p rfl rfl ?_
      refine RL.done ?_
      refine RK.ret_of Tryz.func266 (res1 rfl rfl) ?_ _
      exact ⟨_, rfl, congrArg _ (by rw [Bool.eq_iff_iff]; simp [letS]; omega), rfl⟩
    · iterate 3 refine RL.q (.yes rfl rfl rfl) rfl rfl (Yld.pure rfl) ?_
      first | refine RL.splitD (d := 12) rfl rfl (fun h12 => ?_) (fun h12 => ?_) | refine RL.splitN (d := 12) rfl rfl (fun h12 => ?_) (fun h12 => ?_) | refine RL.split (d := 12) rfl rfl (fun h12 => ?_) (fun h12 => ?_)
      · iterate 3 refine RL.q (.yes rfl rfl rfl) rfl rfl (Yld.pure rfl) ?_
        iterate 2 refine RL.p rfl rfl ?_
        first | refine RL.splitD (d := 17) rfl rfl (fun h17 => ?_) (fun h17 => ?_) | refine RL.splitN (d := 17) rfl rfl (fun h17 => ?_) (fun h17 => ?_) | refine RL.split (d := 17) rfl rfl (fun h17 => ?_) (fun h17 => ?_)
        · iterate 2 refine RL.no (.no rfl rfl rfl rfl) rfl rfl ?_
          iterate 2 refine RL.p rfl rfl ?_
          refine RL.done ?_
          refine RK.ret_of Tryz.func266 (res1 rfl rfl) ?_ _
          exact ⟨_, rfl, congrArg _ (by rw [Bool.eq_iff_iff]; simp [letS]; omega), rfl⟩
        · iterate 2 refine RL.q (.yes rfl rfl rfl) rfl rfl (Yld.pure rfl) ?_
          iterate 2 refine RL.p rfl rfl ?_
          refine RL.done ?_
          refine RK.ret_of Tryz.func266 (res1 rfl rfl) ?_ _
          exact ⟨_, rfl, congrArg _ (by rw [Bool.eq_iff_iff]; simp [letS]; omega), rfl⟩
      · iterate 2 refine RL.no (.no rfl rfl rfl rfl) rfl rfl ?_
        refine RL.q (.yes rfl rfl rfl) rfl rfl (Yld.pure rfl) ?_
        iterate 2 refine RL.p rfl rfl ?_
        iterate 2 refine RL.q (.yes rfl rfl rfl) rfl rfl (Yld.pure rfl) ?_
        iterate 2 refine RL.p rfl rfl ?_
        refine RL.done ?_
        refine RK.ret_of Tryz.func266 (res1 rfl rfl) ?_ _
        exact ⟨_, rfl, congrArg _ (by rw [Bool.eq_iff_iff]; simp [letS]; omega), rfl⟩
  · iterate 2 refine RL.no (.no rfl rfl rfl rfl) rfl rfl ?_
    iterate 2 refine RL.p rfl rfl ?_
    iterate 3 refine RL.q (.yes rfl rfl rfl) rfl rfl (Yld.pure rfl) ?_
    first | refine RL.splitD (d := 12) rfl rfl (fun h12 => ?_) (fun h12 => ?_) | refine RL.splitN (d := 12) rfl rfl (fun h12 => ?_) (fun h12 => ?_) | refine RL.split (d := 12) rfl rfl (fun h12 => ?_) (fun h12 => ?_)
    · iterate 3 refine RL.q (.yes rfl rfl rfl) rfl rfl (Yld.pure rfl) ?_
      iterate 2 refine RL.p rfl rfl ?_
      first | refine RL.splitD (d := 17) rfl rfl (fun h17 => ?_) (fun h17 => ?_) | refine RL.splitN (d := 17) rfl rfl (fun h17 => ?_) (fun h17 => ?_) | refine RL.split (d := 17) rfl rfl (fun h17 => ?_) (fun h17 => ?_)
      · iterate 2 refine RL.no (.no rfl rfl rfl rfl) rfl rfl ?_
        iterate 2 refine RL.p rfl rfl ?_
        refine RL.done ?_
        refine RK.ret_of Tryz.func266 (res1 rfl rfl) ?_ _
        exact ⟨_, rfl, congrArg _ (by rw [Bool.eq_iff_iff]; simp [letS]; omega), rfl⟩
      · iterate 2 refine RL.q (.yes rfl rfl rfl) rfl rfl (Yld.pure rfl) ?_
        iterate 2 refine RL.p rfl rfl ?_
        refine RL.done ?_
        refine RK.ret_of Tryz.func266 (res1 rfl rfl) ?_ _
        exact ⟨_, rfl, congrArg _ (by rw [Bool.eq_iff_iff]; simp [letS]; omega), rfl⟩
    · iterate 2 refine RL.no (.no rfl rfl rfl rfl) rfl rfl ?_
      refine RL.q (.yes rfl rfl rfl) rfl rfl (Yld.pure rfl) ?_
      iterate 2 refine RL.p rfl rfl ?_
      iterate 2 refine RL.q (.yes rfl rfl rfl) rfl rfl (Yld.pure rfl) ?_
      iterate 2 refine RL.p rfl rfl ?_
      refine RL.done ?_
      refine RK.ret_of Tryz.func266 (res1 rfl rfl) ?_ _
      exact ⟨_, rfl, congrArg _ (by rw [Bool.eq_iff_iff]; simp [letS]; omega), rfl⟩
@[irreducible] def valS (s : ByteArray) : Bool := decide (1 ≤ s.size ∧ s.size ≤ 24)
theorem value_ok (s : ByteArray) (w : World) : Fx Tryz.prog 220 [.string s] w (fun v w' => v = .bool (valS s) ∧ w = w') := by
  refine enter Tryz.func220 rfl rfl rfl _ (Pick.sub (l := [0]) (.cons rfl .nil)) ?_
  refine RK.seq ?_
  refine RK.region ?_
  refine RL.p rfl rfl ?_
  refine RL.done ?_
  refine RK.seq ?_
  refine RK.region ?_
  refine RL.p rfl rfl ?_
  refine RL.q (.free rfl) rfl rfl (Yld.lenStr u9 rfl) ?_
  iterate 2 refine RL.p rfl rfl ?_
  first | refine RL.splitD (d := 6) rfl rfl (fun h6 => ?_) (fun h6 => ?_) | refine RL.splitN (d := 6) rfl rfl (fun h6 => ?_) (fun h6 => ?_) | refine RL.split (d := 6) rfl rfl (fun h6 => ?_) (fun h6 => ?_)
  · refine RL.q (.yes rfl rfl rfl) rfl rfl (Yld.pure rfl) ?_
    refine RL.q (.yes rfl rfl rfl) rfl rfl (Yld.lenStr u9 rfl) ?_
    refine RL.q (.yes rfl rfl rfl) rfl rfl (Yld.pure rfl) ?_
    iterate 2 refine RL.p rfl rfl ?_
    refine RL.done ?_
    refine RK.ret_of Tryz.func220 (res1 rfl rfl) ?_ _
    exact ⟨_, rfl, congrArg _ (by rw [Bool.eq_iff_iff]; simp [valS]; omega), rfl⟩
  · iterate 3 refine RL.no (.no rfl rfl rfl rfl) rfl rfl ?_
    iterate 2 refine RL.p rfl rfl ?_
    refine RL.done ?_
    refine RK.ret_of Tryz.func220 (res1 rfl rfl) ?_ _
    exact ⟨_, rfl, congrArg _ (by rw [Bool.eq_iff_iff]; simp [valS]; omega), rfl⟩
@[irreducible] def chS (c : Int) : Bool := letS c || decide (48 ≤ c ∧ c ≤ 57)
@[irreducible] def nameS (s : ByteArray) : Bool := decide (1 ≤ s.size ∧ s.size ≤ 12) && letS (bt s 0).toNat && (List.range s.size).all fun i => chS (bt s i).toNat
theorem name_no1 {s : ByteArray} (h : ¬ (1 ≤ s.size ∧ s.size ≤ 12)) : nameS s = false := by simp [nameS, h]
theorem name_no2 {s : ByteArray} (h : letS (bt s 0).toNat = false) : nameS s = false := by simp [nameS, h]
theorem name_no3 {s : ByteArray} {i : Nat} (hi : i < s.size) (h : chS (bt s i).toNat = false) : nameS s = false := by
  simp only [nameS, Bool.and_eq_false_iff]
  refine .inr ?_
  rw [List.all_eq_false]
  exact ⟨i, List.mem_range.2 hi, by simp [h]⟩
theorem name_yes {s : ByteArray} (h1 : 1 ≤ s.size) (h2 : s.size ≤ 12) (h3 : letS (bt s 0).toNat = true) (h : ∀ i, i < s.size → chS (bt s i).toNat = true) : nameS s = true := by
  simp only [nameS, Bool.and_eq_true, decide_eq_true_eq, List.all_eq_true, List.mem_range]
  exact ⟨⟨⟨h1, h2⟩, h3⟩, h⟩
theorem name_ok (s : ByteArray) (w : World) : Fx Tryz.prog 219 [.string s] w (fun v w' => v = .bool (nameS s) ∧ w = w') := by
  refine enter Tryz.func219 rfl rfl rfl _ (Pick.sub (l := [0]) (.cons rfl .nil)) ?_
  refine RK.seq ?_
  refine RK.region ?_
  refine RL.p rfl rfl ?_
  refine RL.done ?_
  iterate 2 refine RK.seq ?_
  refine RK.region ?_
  refine RL.p rfl rfl ?_
  refine RL.q (.free rfl) rfl rfl (Yld.lenStr u9 rfl) ?_
  iterate 2 refine RL.p rfl rfl ?_
  first | refine RL.splitD (d := 7) rfl rfl (fun h7 => ?_) (fun h7 => ?_) | refine RL.splitN (d := 7) rfl rfl (fun h7 => ?_) (fun h7 => ?_) | refine RL.split (d := 7) rfl rfl (fun h7 => ?_) (fun h7 => ?_)
  · iterate 3 refine RL.no (.no rfl rfl rfl rfl) rfl rfl ?_
    iterate 2 refine RL.p rfl rfl ?_
    iterate 4 refine RL.no (.no rfl rfl rfl rfl) rfl rfl ?_
    refine RL.p rfl rfl ?_
    refine RL.done ?_
    refine RK.condT rfl ?_
    refine RK.seq ?_
    refine RK.region ?_
    refine RL.p rfl rfl ?_
    refine RL.done ?_
    refine RK.ret_of Tryz.func219 (res1 rfl rfl) ?_ _
    exact ⟨_, rfl, congrArg _ (by first
        | exact (name_no1 (by omega)).symm
        | exact (name_no3 (i := k) (by omega) (by simp at h28; simp [chS, h28]; omega)).symm
        | exact (name_yes (by omega) (by omega) (by simpa using h17) fun i hi => hall i (by omega)).symm
        | exact (name_no2 (by simpa using h17)).symm), rfl⟩
  · refine RL.q (.yes rfl rfl rfl) rfl rfl (Yld.pure rfl) ?_
    refine RL.q (.yes rfl rfl rfl) rfl rfl (Yld.lenStr u9 rfl) ?_
    refine RL.q (.yes rfl rfl rfl) rfl rfl (Yld.pure rfl) ?_
    iterate 2 refine RL.p rfl rfl ?_
    first | refine RL.splitD (d := 12) rfl rfl (fun h12 => ?_) (fun h12 => ?_) | refine RL.splitN (d := 12) rfl rfl (fun h12 => ?_) (fun h12 => ?_) | refine RL.split (d := 12) rfl rfl (fun h12 => ?_) (fun h12 => ?_)
    · iterate 4 refine RL.no (.no rfl rfl rfl rfl) rfl rfl ?_
      refine RL.p rfl rfl ?_
      refine RL.done ?_
      refine RK.condT rfl ?_
      refine RK.seq ?_
      refine RK.region ?_
      refine RL.p rfl rfl ?_
      refine RL.done ?_
      refine RK.ret_of Tryz.func219 (res1 rfl rfl) ?_ _
      exact ⟨_, rfl, congrArg _ (by first
          | exact (name_no1 (by omega)).symm
          | exact (name_no3 (i := k) (by omega) (by simp at h28; simp [chS, h28]; omega)).symm
          | exact (name_yes (by omega) (by omega) (by simpa using h17) fun i hi => hall i (by omega)).symm
          | exact (name_no2 (by simpa using h17)).symm), rfl⟩
    · refine RL.q (.yes rfl rfl rfl) rfl rfl (Yld.pure rfl) ?_
      refine RL.q (.yes rfl rfl rfl) rfl rfl (Yld.idxStr u9 rfl rfl (by omega) (by omega)) ?_
      refine RL.op (.yes rfl rfl rfl) rfl rfl (Does.call rfl e266 (letter_ok _ _)) ?_
      rintro _ _ ⟨rfl, rfl⟩
      refine RL.q (.yes rfl rfl rfl) rfl rfl (Yld.pure rfl) ?_
      refine RL.p rfl rfl ?_
      refine RL.done ?_
      first | refine RK.condD rfl (fun h17 => ?_) (fun h17 => ?_) | refine RK.condN rfl (fun h17 => ?_) (fun h17 => ?_) | refine RK.cond rfl (fun h17 => ?_) (fun h17 => ?_)
      · refine RK.seq ?_
        refine RK.region ?_
        refine RL.p rfl rfl ?_
        refine RL.done ?_
        refine RK.ret_of Tryz.func219 (res1 rfl rfl) ?_ _
        exact ⟨_, rfl, congrArg _ (by first
            | exact (name_no1 (by omega)).symm
            | exact (name_no3 (i := k) (by omega) (by simp at h28; simp [chS, h28]; omega)).symm
            | exact (name_yes (by omega) (by omega) (by simpa using h17) fun i hi => hall i (by omega)).symm
            | exact (name_no2 (by simpa using h17)).symm), rfl⟩
      · refine RK.skip ?_
        iterate 2 refine RK.seq ?_
        refine RK.region ?_
        refine RL.p rfl rfl ?_
        refine RL.q (.free rfl) rfl rfl (Yld.lenStr u9 rfl) ?_
        refine RL.p rfl rfl ?_
        refine RL.done ?_
        refine RK.block ?_
        refine RK.loop (fun k : Nat => [(0, .string s), (19, .int .i64 s.size), (20, .int .i64 k)]) (fun k w' => w = w' ∧ k ≤ s.size ∧ ∀ i, i < k → chS (bt s i).toNat = true) (fun k => s.size - k) 0 ⟨rfl, rfl, rfl, trivial⟩ ⟨rfl, by omega, fun i hi => by omega⟩ (fun k w' hI ih => ?_)
        obtain ⟨rfl, hk, hall⟩ := hI
        refine RK.seq ?_
        refine RK.region ?_
        refine RL.p rfl rfl ?_
        refine RL.done ?_
        refine RK.seq ?_
        first | refine RK.condD rfl (fun h21 => ?_) (fun h21 => ?_) | refine RK.condN rfl (fun h21 => ?_) (fun h21 => ?_) | refine RK.cond rfl (fun h21 => ?_) (fun h21 => ?_)
        · refine RK.skip ?_
          refine RK.seq ?_
          refine RK.block ?_
          refine RK.seq ?_
          refine RK.region ?_
          iterate 2 refine RL.p rfl rfl ?_
          refine RL.done ?_
          refine RK.seq ?_
          refine RK.region ?_
          iterate 2 refine RL.p rfl rfl ?_
          refine RL.q (.free rfl) rfl rfl (Yld.idxStrN u9 rfl rfl (by omega)) ?_
          refine RL.op (.free rfl) rfl rfl (Does.call rfl e266 (letter_ok _ _)) ?_
          rintro _ _ ⟨rfl, rfl⟩
          iterate 2 refine RL.p rfl rfl ?_
          first | refine RL.splitD (d := 28) rfl rfl (fun h28 => ?_) (fun h28 => ?_) | refine RL.splitN (d := 28) rfl rfl (fun h28 => ?_) (fun h28 => ?_) | refine RL.split (d := 28) rfl rfl (fun h28 => ?_) (fun h28 => ?_)
          · iterate 2 refine RL.q (.yes rfl rfl rfl) rfl rfl (Yld.pure rfl) ?_
            refine RL.q (.yes rfl rfl rfl) rfl rfl (Yld.idxStrN u9 rfl rfl (by omega)) ?_
            iterate 2 refine RL.q (.yes rfl rfl rfl) rfl rfl (Yld.pure rfl) ?_
            first | refine RL.splitD (d := 33) rfl rfl (fun h33 => ?_) (fun h33 => ?_) | refine RL.splitN (d := 33) rfl rfl (fun h33 => ?_) (fun h33 => ?_) | refine RL.split (d := 33) rfl rfl (fun h33 => ?_) (fun h33 => ?_)
            · iterate 4 refine RL.no (.no rfl rfl rfl rfl) rfl rfl ?_
              refine RL.q (.yes rfl rfl rfl) rfl rfl (Yld.pure rfl) ?_
              refine RL.p rfl rfl ?_
              refine RL.done ?_
              refine RK.condT rfl ?_
              refine RK.seq ?_
              refine RK.region ?_
              refine RL.p rfl rfl ?_
              refine RL.done ?_
              refine RK.ret_of Tryz.func219 (res1 rfl rfl) ?_ _
              exact ⟨_, rfl, congrArg _ (by first
                  | exact (name_no1 (by omega)).symm
                  | exact (name_no3 (i := k) (by omega) (by simp at h28; simp [chS, h28]; omega)).symm
                  | exact (name_yes (by omega) (by omega) (by simpa using h17) fun i hi => hall i (by omega)).symm
                  | exact (name_no2 (by simpa using h17)).symm), rfl⟩
            · iterate 2 refine RL.q (.yes rfl rfl rfl) rfl rfl (Yld.pure rfl) ?_
              refine RL.q (.yes rfl rfl rfl) rfl rfl (Yld.idxStrN u9 rfl rfl (by omega)) ?_
              iterate 2 refine RL.q (.yes rfl rfl rfl) rfl rfl (Yld.pure rfl) ?_
              refine RL.p rfl rfl ?_
              refine RL.done ?_
              first | refine RK.condD rfl (fun h39 => ?_) (fun h39 => ?_) | refine RK.condN rfl (fun h39 => ?_) (fun h39 => ?_) | refine RK.cond rfl (fun h39 => ?_) (fun h39 => ?_)
              · refine RK.seq ?_
                refine RK.region ?_
                refine RL.p rfl rfl ?_
                refine RL.done ?_
                refine RK.ret_of Tryz.func219 (res1 rfl rfl) ?_ _
                exact ⟨_, rfl, congrArg _ (by first
                    | exact (name_no1 (by omega)).symm
                    | exact (name_no3 (i := k) (by omega) (by simp at h28; simp [chS, h28]; omega)).symm
                    | exact (name_yes (by omega) (by omega) (by simpa using h17) fun i hi => hall i (by omega)).symm
                    | exact (name_no2 (by simpa using h17)).symm), rfl⟩
              · refine RK.skip ?_
                refine RK.inBlock ?_
                refine RK.region ?_
                iterate 2 refine RL.p rfl rfl ?_
                refine RL.re (d := 20) rfl rfl (succ_i64 (by omega)) ?_
                refine RL.done ?_
                exact RK.back (ih (k + 1) _ ⟨rfl, by omega, fun i hi => by by_cases e : i = k; (subst e; simp at h28; simp [chS, h28]; try omega); exact hall i (by omega)⟩ (by omega)) ⟨rfl, rfl, rfl, trivial⟩
          · iterate 10 refine RL.no (.no rfl rfl rfl rfl) rfl rfl ?_
            refine RL.p rfl rfl ?_
            refine RL.done ?_
            refine RK.condF rfl ?_
            refine RK.skip ?_
            refine RK.inBlock ?_
            refine RK.region ?_
            iterate 2 refine RL.p rfl rfl ?_
            refine RL.re (d := 20) rfl rfl (succ_i64 (by omega)) ?_
            refine RL.done ?_
            exact RK.back (ih (k + 1) _ ⟨rfl, by omega, fun i hi => by by_cases e : i = k; (subst e; simp at h28; simp [chS, h28]; try omega); exact hall i (by omega)⟩ (by omega)) ⟨rfl, rfl, rfl, trivial⟩
        · refine RK.exit rfl ?_
          refine RK.seq ?_
          refine RK.region ?_
          refine RL.p rfl rfl ?_
          refine RL.done ?_
          refine RK.ret_of Tryz.func219 (res1 rfl rfl) ?_ _
          exact ⟨_, rfl, congrArg _ (by first
              | exact (name_no1 (by omega)).symm
              | exact (name_no3 (i := k) (by omega) (by simp at h28; simp [chS, h28]; omega)).symm
              | exact (name_yes (by omega) (by omega) (by simpa using h17) fun i hi => hall i (by omega)).symm
              | exact (name_no2 (by simpa using h17)).symm), rfl⟩
@[irreducible] def nanS (b : Nat) : Bool := Ieee.double.order b b != some .eq
theorem no_ok (b : Nat) (w : World) : Fx Tryz.prog 221 [.float .f64 b] w (fun v w' => v = .bool (nanS b) ∧ w = w') := by
  refine enter Tryz.func221 rfl rfl rfl _ (Pick.sub (l := [0]) (.cons rfl .nil)) ?_
  refine RK.seq ?_
  refine RK.region ?_
  refine RL.p rfl rfl ?_
  refine RL.done ?_
  refine RK.seq ?_
  refine RK.region ?_
  iterate 4 refine RL.p rfl rfl ?_
  refine RL.done ?_
  refine RK.ret_of Tryz.func221 (res1 rfl rfl) ?_ _
  exact ⟨_, rfl, by unfold nanS; rfl, rfl⟩
def bitsS (b : Nat) : Int := if nanS b then 9221120237041090561 else b
theorem bits_ok (b : Nat) (w : World) : Fx Tryz.prog 173 [.float .f64 b] w (fun v w' => v = .int .u64 (bitsS b) ∧ w = w') := by
  refine enter Tryz.func173 rfl rfl rfl _ (Pick.sub (l := [0]) (.cons rfl .nil)) ?_
  refine RK.seq ?_
  refine RK.region ?_
  refine RL.p rfl rfl ?_
  refine RL.done ?_
  iterate 2 refine RK.seq ?_
  refine RK.region ?_
  refine RL.p rfl rfl ?_
  refine RL.op (.free rfl) rfl rfl (Does.call rfl e221 (no_ok b _)) ?_
  rintro _ _ ⟨rfl, rfl⟩
  refine RL.done ?_
  first | refine RK.condD rfl (fun h4 => ?_) (fun h4 => ?_) | refine RK.condN rfl (fun h4 => ?_) (fun h4 => ?_) | refine RK.cond rfl (fun h4 => ?_) (fun h4 => ?_)
  · refine RK.seq ?_
    refine RK.region ?_
    refine RL.p rfl rfl ?_
    refine RL.done ?_
    refine RK.ret_of Tryz.func173 (res1 rfl rfl) ?_ _
    exact ⟨_, rfl, by simp_all [bitsS], rfl⟩
  · refine RK.skip ?_
    refine RK.seq ?_
    refine RK.region ?_
    refine RL.p rfl rfl ?_
    refine RL.q (.free rfl) rfl rfl (Yld.callx rfl (fun w => x169 _ w)) ?_
    refine RL.p rfl rfl ?_
    refine RL.done ?_
    refine RK.ret_of Tryz.func173 (res1 rfl rfl) ?_ _
    exact ⟨_, rfl, by simp_all [bitsS], rfl⟩
end Go.Proofs.YthbjfhhiajihfaaGreat
set_option linter.unusedVariables false
set_option linter.unusedSimpArgs false
set_option maxHeartbeats 400000
set_option maxRecDepth 100000
namespace Go.Proofs.YthbjfhhiajihfaaGreat
open Go Go.X
structure Lab where
  name : ByteArray
  value : ByteArray
  deriving DecidableEq, Inhabited
def labC (l : Lab) : List Value := [.string l.name, .string l.value]
theorem labC_len (l : Lab) : (labC l).length = 2 := rfl
abbrev SlL (M : Nat → Prop) (w : World) (v : Value) (ls : List Lab) : Prop := Sl M w v 2 ls.length (ls.flatMap labC)
@[irreducible] def okAt (ls : List Lab) (i : Nat) : Bool := match ls[i]? with
  | none => true
  | some x => nameS x.name && valS x.value && match i with
    | 0 => true
    | j + 1 => match ls[j]? with
      | none => true
      | some y => slt y.name x.name
@[irreducible] def isS (ls : List Lab) : Bool := decide (1 ≤ ls.length ∧ ls.length ≤ 6) && (List.range ls.length).all (okAt ls)
theorem is_no1 {ls : List Lab} (h : ¬ (1 ≤ ls.length ∧ ls.length ≤ 6)) : isS ls = false := by simp [isS, h]
theorem is_no2 {ls : List Lab} {i : Nat} (hi : i < ls.length) (h : okAt ls i = false) : isS ls = false := by
  simp only [isS, Bool.and_eq_false_iff]
  exact .inr (List.all_eq_false.2 ⟨i, List.mem_range.2 hi, by simp [h]⟩)
theorem is_yes {ls : List Lab} (h1 : 1 ≤ ls.length) (h2 : ls.length ≤ 6) (h : ∀ i, i < ls.length → okAt ls i = true) : isS ls = true := by
  simp only [isS, Bool.and_eq_true, decide_eq_true_eq, List.all_eq_true, List.mem_range]
  exact ⟨⟨h1, h2⟩, h⟩
theorem okAt_no1 {ls : List Lab} {k : Nat} {x : Lab} (hx : ls[k]? = some x) (h : (!nameS x.name) = true) : okAt ls k = false := by simp at h; simp [okAt, hx, h]
theorem okAt_no2 {ls : List Lab} {k : Nat} {x : Lab} (hx : ls[k]? = some x) (h : (!valS x.value) = true) : okAt ls k = false := by simp at h; simp [okAt, hx, h]
theorem okAt_no3 {ls : List Lab} {k j : Nat} {x y : Lab} (hx : ls[k]? = some x) (hj : k = j + 1) (hy : ls[j]? = some y) (h : sle x.name y.name = true) : okAt ls k = false := by
  subst hj
  rw [sle_not] at h
  simp at h
  simp [okAt, hx, hy, h]
theorem okAt_yes0 {ls : List Lab} {k : Nat} {x : Lab} (hx : ls[k]? = some x) (h1 : (!nameS x.name) = false) (h2 : (!valS x.value) = false) (hk : k = 0) : okAt ls k = true := by
  subst hk; simp at h1 h2; simp [okAt, hx, h1, h2]
theorem okAt_yes1 {ls : List Lab} {k j : Nat} {x y : Lab} (hx : ls[k]? = some x) (h1 : (!nameS x.name) = false) (h2 : (!valS x.value) = false) (hj : k = j + 1) (hy : ls[j]? = some y) (h : sle x.name y.name = false) : okAt ls k = true := by
  subst hj
  rw [sle_not] at h
  simp at h h1 h2
  simp [okAt, hx, hy, h, h1, h2]
theorem ok_snoc {ls : List Lab} {k : Nat} (h : ∀ i, i < k → okAt ls i = true) (hk : okAt ls k = true) : ∀ i, i < k + 1 → okAt ls i = true := fun i hi => by
  by_cases e : i = k
  · rw [e]; exact hk
  · exact h i (by omega)
theorem is_ok (M : Nat → Prop) (ls : List Lab) (v : Value) (w : World) (hv : SlL M w v ls) : Fx Tryz.prog 171 [v] w (fun u w' => u = .bool (isS ls) ∧ Grow w w') := by
  obtain ⟨ad, c, rfl⟩ := hv.shape
  refine enter Tryz.func171 rfl rfl rfl _ (Pick.sub (l := [0]) (.cons rfl .nil)) ?_
  refine RK.seq ?_
  refine RK.region ?_
  refine RL.p rfl rfl ?_
  refine RL.done ?_
  iterate 2 refine RK.seq ?_
  refine RK.region ?_
  refine RL.p rfl rfl ?_
  refine RL.q (.free rfl) rfl rfl (Yld.lenSl u33 rfl) ?_
  iterate 2 refine RL.p rfl rfl ?_
  first | refine RL.splitD (d := 8) rfl rfl (fun h8 => ?_) (fun h8 => ?_) | refine RL.splitN (d := 8) rfl rfl (fun h8 => ?_) (fun h8 => ?_) | refine RL.split (d := 8) rfl rfl (fun h8 => ?_) (fun h8 => ?_)
  · iterate 3 refine RL.no (.no rfl rfl rfl rfl) rfl rfl ?_
    refine RL.p rfl rfl ?_
    refine RL.done ?_
    refine RK.condT rfl ?_
    refine RK.seq ?_
    refine RK.region ?_
    refine RL.p rfl rfl ?_
    refine RL.done ?_
    refine RK.ret_of Tryz.func171 (res1 rfl rfl) ?_ _
    exact ⟨_, rfl, congrArg _ (by first
        | exact (is_no1 (by omega)).symm
        | exact (is_no2 (i := k) (by omega) (okAt_no1 hx h24)).symm
        | exact (is_no2 (i := k) (by omega) (okAt_no2 hx h30)).symm
        | exact (is_no2 (i := k) (by omega) (okAt_no3 hx hj hy h44)).symm
        | exact (is_yes (by omega) (by omega) fun i hi => hall i (by omega)).symm), by first
        | exact Mod.refl _ _
        | exact hg2.trans (Mod.drew _ _)
        | exact hg⟩
  · refine RL.q (.yes rfl rfl rfl) rfl rfl (Yld.pure rfl) ?_
    refine RL.q (.yes rfl rfl rfl) rfl rfl (Yld.lenSl u33 rfl) ?_
    refine RL.q (.yes rfl rfl rfl) rfl rfl (Yld.pure rfl) ?_
    refine RL.p rfl rfl ?_
    refine RL.done ?_
    first | refine RK.condD rfl (fun h12 => ?_) (fun h12 => ?_) | refine RK.condN rfl (fun h12 => ?_) (fun h12 => ?_) | refine RK.cond rfl (fun h12 => ?_) (fun h12 => ?_)
    · refine RK.seq ?_
      refine RK.region ?_
      refine RL.p rfl rfl ?_
      refine RL.done ?_
      refine RK.ret_of Tryz.func171 (res1 rfl rfl) ?_ _
      exact ⟨_, rfl, congrArg _ (by first
          | exact (is_no1 (by omega)).symm
          | exact (is_no2 (i := k) (by omega) (okAt_no1 hx h24)).symm
          | exact (is_no2 (i := k) (by omega) (okAt_no2 hx h30)).symm
          | exact (is_no2 (i := k) (by omega) (okAt_no3 hx hj hy h44)).symm
          | exact (is_yes (by omega) (by omega) fun i hi => hall i (by omega)).symm), by first
          | exact Mod.refl _ _
          | exact hg2.trans (Mod.drew _ _)
          | exact hg⟩
    · refine RK.skip ?_
      iterate 2 refine RK.seq ?_
      refine RK.region ?_
      refine RL.p rfl rfl ?_
      refine RL.q (.free rfl) rfl rfl (Yld.lenSl u33 rfl) ?_
      refine RL.p rfl rfl ?_
      refine RL.done ?_
      refine RK.block ?_
      refine RK.loop (fun k : Nat => [(0, .slice ad ls.length c), (13, .slice ad ls.length c), (14, .int .i64 ls.length), (15, .int .i64 k)]) (fun k w' => Grow w w' ∧ k ≤ ls.length ∧ ∀ i, i < k → okAt ls i = true) (fun k => ls.length - k) 0 ⟨rfl, rfl, rfl, rfl, trivial⟩ ⟨Mod.refl _ _, by omega, fun i hi => by omega⟩ (fun k w' hI ih => ?_)
      obtain ⟨hg, hk, hall⟩ := hI
      refine RK.seq ?_
      refine RK.region ?_
      refine RL.p rfl rfl ?_
      refine RL.done ?_
      refine RK.seq ?_
      first | refine RK.condD rfl (fun h16 => ?_) (fun h16 => ?_) | refine RK.condN rfl (fun h16 => ?_) (fun h16 => ?_) | refine RK.cond rfl (fun h16 => ?_) (fun h16 => ?_)
      · obtain ⟨x, hx⟩ : ∃ x, ls[k]? = some x := ⟨ls[k]'(by omega), List.getElem?_eq_getElem (by omega)⟩
        obtain ⟨b, o, c', he, hb, hkl, hcell⟩ := hv.elem labC_len hx
        cases he
        refine RK.skip ?_
        refine RK.seq ?_
        refine RK.block ?_
        refine RK.seq ?_
        refine RK.region ?_
        refine RL.p rfl rfl ?_
        refine RL.q (.free rfl) rfl rfl (Yld.indexAddrN u33 i79 rfl rfl (by omega)) ?_
        refine RL.q (.free rfl) rfl rfl (Yld.loadN (cs := [.string x.name, .string x.value]) a79 rfl (atN (fun j u hj => hg.cell (hcell j u hj) (fun h => h)))) ?_
        refine RL.op (.free rfl) rfl rfl (Does.alloc i79) ?_
        rintro _ w1 ⟨b1, rfl, hn1⟩
        refine RL.p rfl rfl ?_
        refine RL.op' (.free rfl) rfl (Does.storeN i79 rfl rfl rfl rfl hn1.blk (Nat.le_refl 2)) ?_
        rintro _ w2 ⟨hb2, hm2, _⟩
        have hB : Blk w2 b1 79 [.string x.name, .string x.value] := hb2
        have hg2 : Grow w w2 := (hg.trans hn1.grow).then hm2 (fun y hy e => by have := hn1.at_; have := hg.size; omega)
        refine RL.done ?_
        refine RK.seq ?_
        refine RK.drawM No [(0, false), (1, false), (2, true), (3, false), (4, false), (5, false), (6, false), (7, true), (8, false), (9, false), (10, false), (11, false), (12, false), (13, false), (14, false), (15, false), (16, false), (17, false), (18, false), (19, false), (20, false), (21, false), (22, false), (23, false), (24, false)] [] mixed (by kernel_rfl) ?_
        refine DL.qf rfl (.free rfl) rfl rfl (Yld.fieldAddr fo79_0 rfl) ?_
        refine DL.q rfl (.free rfl) rfl rfl rfl (Yld.load p9 rfl (atM (hB.cell rfl) id)) (Mod.drew _ _) ?_
        refine DL.op rfl (.free rfl) rfl rfl (Does.call rfl e219 (name_ok _ _)) ?_
        rintro _ _ ⟨rfl, rfl⟩
        refine ⟨Mod.drew _ _, ?_⟩
        iterate 2 refine DL.p rfl rfl rfl ?_
        first | refine DL.splitD (d := 24) rfl rfl (fun h24 => ?_) (fun h24 => ?_) | refine DL.splitN (d := 24) rfl rfl (fun h24 => ?_) (fun h24 => ?_) | refine DL.split (d := 24) rfl rfl (fun h24 => ?_) (fun h24 => ?_)
        · iterate 2 refine DL.no rfl (.no rfl rfl rfl rfl) rfl rfl ?_
          refine DL.lno rfl (.no rfl rfl rfl rfl) rfl rfl ?_
          refine DL.no rfl (.no rfl rfl rfl rfl) rfl rfl ?_
          iterate 2 refine DL.p rfl rfl rfl ?_
          iterate 13 refine DL.no rfl (.no rfl rfl rfl rfl) rfl rfl ?_
          refine DL.p rfl rfl rfl ?_
          refine DL.done ?_
          refine RK.condT rfl ?_
          refine RK.seq ?_
          refine RK.region ?_
          refine RL.p rfl rfl ?_
          refine RL.done ?_
          refine RK.ret_of Tryz.func171 (res1 rfl rfl) ?_ _
          exact ⟨_, rfl, congrArg _ (by first
              | exact (is_no1 (by omega)).symm
              | exact (is_no2 (i := k) (by omega) (okAt_no1 hx h24)).symm
              | exact (is_no2 (i := k) (by omega) (okAt_no2 hx h30)).symm
              | exact (is_no2 (i := k) (by omega) (okAt_no3 hx hj hy h44)).symm
              | exact (is_yes (by omega) (by omega) fun i hi => hall i (by omega)).symm), by first
              | exact Mod.refl _ _
              | exact hg2.trans (Mod.drew _ _)
              | exact hg⟩
        · refine DL.qf rfl (.yes rfl rfl rfl) rfl rfl (Yld.fieldAddr fo79_1 rfl) ?_
          refine DL.q rfl (.yes rfl rfl rfl) rfl rfl rfl (Yld.load p9 rfl (atM (hB.cell rfl) id)) (Mod.drew _ _) ?_
          refine DL.op rfl (.yes rfl rfl rfl) rfl rfl (Does.call rfl e220 (value_ok _ _)) ?_
          rintro _ _ ⟨rfl, rfl⟩
          refine ⟨Mod.drew _ _, ?_⟩
          refine DL.qf rfl (.yes rfl rfl rfl) rfl rfl (Yld.pure rfl) ?_
          iterate 2 refine DL.p rfl rfl rfl ?_
          first | refine DL.splitD (d := 30) rfl rfl (fun h30 => ?_) (fun h30 => ?_) | refine DL.splitN (d := 30) rfl rfl (fun h30 => ?_) (fun h30 => ?_) | refine DL.split (d := 30) rfl rfl (fun h30 => ?_) (fun h30 => ?_)
          · iterate 13 refine DL.no rfl (.no rfl rfl rfl rfl) rfl rfl ?_
            refine DL.p rfl rfl rfl ?_
            refine DL.done ?_
            refine RK.condT rfl ?_
            refine RK.seq ?_
            refine RK.region ?_
            refine RL.p rfl rfl ?_
            refine RL.done ?_
            refine RK.ret_of Tryz.func171 (res1 rfl rfl) ?_ _
            exact ⟨_, rfl, congrArg _ (by first
                | exact (is_no1 (by omega)).symm
                | exact (is_no2 (i := k) (by omega) (okAt_no1 hx h24)).symm
                | exact (is_no2 (i := k) (by omega) (okAt_no2 hx h30)).symm
                | exact (is_no2 (i := k) (by omega) (okAt_no3 hx hj hy h44)).symm
                | exact (is_yes (by omega) (by omega) fun i hi => hall i (by omega)).symm), by first
                | exact Mod.refl _ _
                | exact hg2.trans (Mod.drew _ _)
                | exact hg⟩
          · iterate 3 refine DL.qf rfl (.yes rfl rfl rfl) rfl rfl (Yld.pure rfl) ?_
            first | refine DL.splitD (d := 33) rfl rfl (fun h33 => ?_) (fun h33 => ?_) | refine DL.splitN (d := 33) rfl rfl (fun h33 => ?_) (fun h33 => ?_) | refine DL.split (d := 33) rfl rfl (fun h33 => ?_) (fun h33 => ?_)
            · obtain ⟨j, hj⟩ : ∃ j, k = j + 1 := ⟨k - 1, by omega⟩
              obtain ⟨y, hy⟩ : ∃ y, ls[j]? = some y := ⟨ls[j]'(by omega), List.getElem?_eq_getElem (by omega)⟩
              obtain ⟨b', o', c', he, hb', hkl', hcell'⟩ := hv.elem labC_len hy
              cases he
              refine DL.qf rfl (.yes rfl rfl rfl) rfl rfl (Yld.fieldAddr fo79_0 rfl) ?_
              refine DL.q rfl (.yes rfl rfl rfl) rfl rfl rfl (Yld.load p9 rfl (atM (hB.cell rfl) id)) (Mod.drew _ _) ?_
              iterate 3 refine DL.qf rfl (.yes rfl rfl rfl) rfl rfl (Yld.pure rfl) ?_
              refine DL.re (d := 38) rfl rfl (sub_i64 (z := (j : Int)) (by omega) (by omega) (by omega)) ?_
              refine DL.qf rfl (.yes rfl rfl rfl) rfl rfl (Yld.indexAddrN u33 i79 rfl rfl (by omega)) ?_
              refine DL.qf rfl (.yes rfl rfl rfl) rfl rfl (Yld.fieldAddr fo79_0 rfl) ?_
              refine DL.q rfl (.yes rfl rfl rfl) rfl rfl rfl (Yld.load p9 rfl (atM (hg2.cell (hcell' 0 _ rfl) (fun h => h)) id)) (Mod.drew _ _) ?_
              iterate 2 refine DL.qf rfl (.yes rfl rfl rfl) rfl rfl (Yld.pure rfl) ?_
              refine DL.p rfl rfl rfl ?_
              refine DL.done ?_
              first | refine RK.condD rfl (fun h44 => ?_) (fun h44 => ?_) | refine RK.condN rfl (fun h44 => ?_) (fun h44 => ?_) | refine RK.cond rfl (fun h44 => ?_) (fun h44 => ?_)
              · refine RK.seq ?_
                refine RK.region ?_
                refine RL.p rfl rfl ?_
                refine RL.done ?_
                refine RK.ret_of Tryz.func171 (res1 rfl rfl) ?_ _
                exact ⟨_, rfl, congrArg _ (by first
                    | exact (is_no1 (by omega)).symm
                    | exact (is_no2 (i := k) (by omega) (okAt_no1 hx h24)).symm
                    | exact (is_no2 (i := k) (by omega) (okAt_no2 hx h30)).symm
                    | exact (is_no2 (i := k) (by omega) (okAt_no3 hx hj hy h44)).symm
                    | exact (is_yes (by omega) (by omega) fun i hi => hall i (by omega)).symm), by first
                    | exact Mod.refl _ _
                    | exact hg2.trans (Mod.drew _ _)
                    | exact hg⟩
              · refine RK.skip ?_
                refine RK.inBlock ?_
                refine RK.region ?_
                refine RL.p rfl rfl ?_
                refine RL.re (d := 45) rfl rfl (succ_i64 (by omega)) ?_
                refine RL.p rfl rfl ?_
                refine RL.done ?_
                exact RK.back (ih (k + 1) _ ⟨hg2.trans (Mod.drew _ _), by omega, ok_snoc hall (by first | exact okAt_yes1 hx h24 h30 hj hy h44 | exact okAt_yes0 hx h24 h30 (by omega))⟩ (by omega)) ⟨rfl, rfl, rfl, rfl, trivial⟩
            · iterate 9 refine DL.no rfl (.no rfl rfl rfl rfl) rfl rfl ?_
              refine DL.qf rfl (.yes rfl rfl rfl) rfl rfl (Yld.pure rfl) ?_
              refine DL.p rfl rfl rfl ?_
              refine DL.done ?_
              refine RK.condF rfl ?_
              refine RK.skip ?_
              refine RK.inBlock ?_
              refine RK.region ?_
              refine RL.p rfl rfl ?_
              refine RL.re (d := 45) rfl rfl (succ_i64 (by omega)) ?_
              refine RL.p rfl rfl ?_
              refine RL.done ?_
              exact RK.back (ih (k + 1) _ ⟨hg2.trans (Mod.drew _ _), by omega, ok_snoc hall (by first | exact okAt_yes1 hx h24 h30 hj hy h44 | exact okAt_yes0 hx h24 h30 (by omega))⟩ (by omega)) ⟨rfl, rfl, rfl, rfl, trivial⟩
      · refine RK.exit rfl ?_
        refine RK.seq ?_
        refine RK.region ?_
        refine RL.p rfl rfl ?_
        refine RL.done ?_
        refine RK.ret_of Tryz.func171 (res1 rfl rfl) ?_ _
        exact ⟨_, rfl, congrArg _ (by first
            | exact (is_no1 (by omega)).symm
            | exact (is_no2 (i := k) (by omega) (okAt_no1 hx h24)).symm
            | exact (is_no2 (i := k) (by omega) (okAt_no2 hx h30)).symm
            | exact (is_no2 (i := k) (by omega) (okAt_no3 hx hj hy h44)).symm
            | exact (is_yes (by omega) (by omega) fun i hi => hall i (by omega)).symm), by first
            | exact Mod.refl _ _
            | exact hg2.trans (Mod.drew _ _)
            | exact hg⟩
end Go.Proofs.YthbjfhhiajihfaaGreat
set_option linter.unusedVariables false
set_option linter.unusedSimpArgs false
set_option maxHeartbeats 400000
set_option maxRecDepth 100000
namespace Go.Proofs.YthbjfhhiajihfaaGreat
open Go Go.X
theorem allOne_ints (xs : List Int) : (xs.map (Value.int .i64)).all (·.oneCell') = true := by simp [Value.oneCell']
theorem allOne_labs (ls : List Lab) : (ls.flatMap labC).all (·.oneCell') = true := by
  rw [List.all_eq_true]
  intro u hu
  simp only [List.mem_flatMap, labC] at hu
  obtain ⟨x, _, hu⟩ := hu
  simp at hu
  rcases hu with rfl | rfl <;> rfl
theorem cloneI_ok (M : Nat → Prop) (xs : List Int) (v : Value) (w : World) (hv : Sl M w v 1 xs.length (xs.map (.int .i64))) (hb : xs.length * 8 ≤ 140737488355328) :
    Fx Tryz.prog 144 [v] w (fun u w' => Row w' 3 1 u xs.length (xs.map (.int .i64)) ∧ Fresh w.heap.size u ∧ Grow w w') := by
  obtain ⟨ad, c, b, o, rfl, hf⟩ := hv.open
  refine enter Tryz.func144 rfl rfl rfl _ (Pick.sub (l := [0]) (.cons rfl .nil)) ?_
  refine RK.seq ?_
  refine RK.region ?_
  refine RL.p rfl rfl ?_
  refine RL.done ?_
  iterate 2 refine RK.seq ?_
  refine RK.region ?_
  refine RL.p rfl rfl ?_
  refine RL.q (.free rfl) rfl rfl (Yld.eqNil u37 rfl rfl) ?_
  refine RL.done ?_
  first | refine RK.condD rfl (fun h4 => ?_) (fun h4 => ?_) | refine RK.condN rfl (fun h4 => ?_) (fun h4 => ?_) | refine RK.cond rfl (fun h4 => ?_) (fun h4 => ?_)
  · refine RK.seq ?_
    refine RK.region ?_
    refine RL.p rfl rfl ?_
    refine RL.done ?_
    refine RK.ret_of Tryz.func144 (res1 rfl rfl) ?_ _
    exact ⟨_, rfl, by cases ad with | none => (have h0 : xs.length = 0 := by (rcases Nat.eq_zero_or_pos xs.length with h | h; exact h; exact absurd (hf h).1 (by simp))); have : xs = [] := List.eq_nil_of_length_eq_zero h0; subst this; exact ⟨Row.nil _ _ _, fun b hb => by simp [Value.ownBlock] at hb, Mod.refl _ _⟩ | some a => simp at h4⟩
  · refine RK.skip ?_
    refine RK.seq ?_
    refine RK.region ?_
    refine RL.op (.free rfl) rfl rfl (Does.slice0 u37 i3) ?_
    rintro _ w1 ⟨b1, rfl, hn1⟩
    refine RL.p rfl rfl ?_
    refine RL.op (.free rfl) rfl rfl (Does.append u37 i3 rfl rfl rfl rfl rfl (Row.new hn1 1 0 rfl (by omega)) ((hv.mod (Mod.any' hn1.grow)).noM) (allOne_ints xs) (by omega)) ?_
    rintro u w2 ⟨hr, hm, hu⟩
    refine RL.p rfl rfl ?_
    refine RL.done ?_
    refine RK.ret_of Tryz.func144 (res1 rfl rfl) ?_ _
    exact ⟨_, rfl, by simpa using hr, fun b hb => by rcases hu with hu | hu <;> rw [hu] at hb <;> simp [Value.ownBlock] at hb <;> (have := hn1.at_; have := hn1.size; omega), hn1.grow.then hm (fun x hx e => by simp [Value.ownBlock] at e; have := hn1.at_; omega)⟩
end Go.Proofs.YthbjfhhiajihfaaGreat
set_option linter.unusedVariables false
set_option linter.unusedSimpArgs false
set_option maxHeartbeats 400000
set_option maxRecDepth 100000
namespace Go.Proofs.YthbjfhhiajihfaaGreat
open Go Go.X
abbrev ints (xs : List Int) : List Value := xs.map (Value.int .i64)
theorem compact_le (xs : List Int) : (Lib.compact xs).length ≤ xs.length := by
  unfold Lib.compact Lib.compactUpTo
  rw [List.length_map]
  exact Nat.le_trans (List.length_filter_le _ _) (by simp)
def sortI (xs : List Int) : List Int := xs.mergeSort fun x y => decide (x ≤ y)
theorem sortI_len (xs : List Int) : (sortI xs).length = xs.length := by simp [sortI]
theorem sort_ok (xs : List Int) (v : Value) (w : World) (hv : Row w 3 1 v xs.length (ints xs)) (hb : xs.length < 4611686018427387904) :
    Fx Tryz.prog 145 [v] w (fun u w' => u = .tuple #[] ∧ Row w' 3 1 v xs.length (ints (sortI xs)) ∧ Mod (fun b => v.ownBlock = some b) w w') := by
  rcases hv.2 with ⟨rfl, h0⟩ | ⟨g, cap, cur, rfl, _, hg, hn, hcap, hcs, htk⟩
  · have : xs = [] := List.eq_nil_of_length_eq_zero h0
    subst this
    refine Calls.mono (Tryz.slices_Sort_int_none none 0 w) ?_
    rintro e w' ⟨rfl, rfl⟩
    exact ⟨_, rfl, rfl, by simpa [sortI] using Row.nil w' _ _, Mod.refl _ _⟩
  · rw [Nat.mul_one] at htk
    refine Calls.mono (Tryz.slices_Sort_int g 0 cap xs w (holds_of_blockI hg htk) (Array.getElem?_eq_some_iff.1 hg).1 hb) ?_
    rintro e w' ⟨rfl, n, os, rfl⟩
    exact ⟨_, rfl, rfl, ownsRow_sortedI (by simp) (Nat.zero_le _) hg hn hcap hcs, Mod.grownBy (grownBy_sortedI _) (fun k h => by cases h; rfl)⟩
theorem compact_ok (xs : List Int) (v : Value) (w : World) (hv : Row w 3 1 v xs.length (ints xs)) :
    Fx Tryz.prog 146 [v] w (fun u w' => Row w' 3 1 u (Lib.compact xs).length (ints (Lib.compact xs)) ∧ u.ownBlock = v.ownBlock ∧ Mod (fun b => v.ownBlock = some b) w w') := by
  rcases hv.2 with ⟨rfl, h0⟩ | ⟨g, cap, cur, rfl, _, hg, hn, hcap, hcs, htk⟩
  · have : xs = [] := List.eq_nil_of_length_eq_zero h0
    subst this
    refine Calls.mono (Tryz.slices_Compact_int_empty none 0 w) ?_
    rintro e w' ⟨rfl, rfl⟩
    exact ⟨_, rfl, Row.nil w' _ _, rfl, Mod.refl _ _⟩
  · rw [Nat.mul_one] at htk
    refine Calls.mono (Tryz.slices_Compact_int g 0 cap xs w (holds_of_blockI hg htk) (by simp only [maxLen] at hcap; omega) hn) ?_
    rintro e w' ⟨rfl, q, rfl⟩
    have hle : (Lib.compact xs).length ≤ xs.length := compact_le xs
    have hh := heap_sortedI (n := q) (os := #[]) (Lib.compact xs ++ List.replicate (xs.length - (Lib.compact xs).length) 0).toArray hg
    have hgb := grownBy_sortedI (w := w) (g := g) (n := q) (os := #[]) (Lib.compact xs ++ List.replicate (xs.length - (Lib.compact xs).length) 0).toArray
    simp only [Sort.grow_empty] at hh hgb
    refine ⟨_, rfl, ⟨by simp, .inr ⟨g, cap, _, rfl, Nat.zero_le _, hh, by omega, hcap, by simp [Sort.putCells, hcs], ?_⟩⟩, rfl, Mod.grownBy hgb (fun k h => by cases h; rfl)⟩
    have := take_putCellsI cur (Lib.compact xs ++ List.replicate (xs.length - (Lib.compact xs).length) 0) (by simp; omega)
    have h2 := congrArg (List.take (Lib.compact xs).length) this
    rw [List.take_take, Nat.min_eq_left (by simp)] at h2
    rw [Nat.mul_one, h2]
    simp
theorem growNil_ok (m : Nat) (w : World) (hb : m * 8 ≤ 140737488355328) :
    Fx Tryz.prog 218 [.slice none 0 0, .int .i64 m] w (fun u w' => Row w' 3 1 u 0 [] ∧ Fresh w.heap.size u ∧ Grow w w') := by
  refine enter Tryz.func218 rfl rfl rfl _ (Pick.sub (l := [0, 1]) (.cons rfl (.cons rfl .nil))) ?_
  refine RK.seq ?_
  refine RK.region ?_
  refine RL.p rfl rfl ?_
  refine RL.done ?_
  iterate 2 refine RK.seq ?_
  refine RK.region ?_
  iterate 2 refine RL.p rfl rfl ?_
  refine RL.done ?_
  refine RK.condF (hcF rfl (decide_eq_false (by omega))) ?_
  refine RK.skip ?_
  iterate 2 refine RK.seq ?_
  refine RK.region ?_
  iterate 2 refine RL.p rfl rfl ?_
  refine RL.q (.free rfl) rfl rfl (Yld.capSl u37 rfl) ?_
  refine RL.p rfl rfl ?_
  refine RL.q (.free rfl) rfl rfl (Yld.lenSl u37 rfl) ?_
  refine RL.p rfl rfl ?_
  refine RL.re (d := 13) rfl rfl (sub_i64 (z := 0) (by omega) (by omega) (by omega)) ?_
  refine RL.p rfl rfl ?_
  refine RL.re (d := 14) rfl rfl (sub_i64 (z := (m : Int)) (by omega) (by omega) (by omega)) ?_
  refine RL.p rfl rfl ?_
  refine RL.done ?_
  refine RK.seq ?_
  refine RK.region ?_
  iterate 2 refine RL.p rfl rfl ?_
  refine RL.done ?_
  first | refine RK.condD rfl (fun h16 => ?_) (fun h16 => ?_) | refine RK.condN rfl (fun h16 => ?_) (fun h16 => ?_) | refine RK.cond rfl (fun h16 => ?_) (fun h16 => ?_)
  · refine RK.region ?_
    iterate 2 refine RL.p rfl rfl ?_
    refine RL.q (.free rfl) rfl rfl (Yld.capSl u37 rfl) ?_
    refine RL.q (.free rfl) rfl rfl (Yld.sliceHi u37 i3 (m := 0) rfl rfl (by omega)) ?_
    refine RL.p rfl rfl ?_
    refine RL.op (.free rfl) rfl rfl (Does.appendZ u37 Tryz.underlying3 i3 rfl rfl (m := m) (c := 0) rfl rfl (by omega) hb) ?_
    rintro _ w1 ⟨b1, cap1, cur1, rfl, hb1, hh1, hc1, hm1, hs1, hg1⟩
    refine RL.p rfl rfl ?_
    refine RL.q (.free rfl) rfl rfl (Yld.lenSl u37 rfl) ?_
    refine RL.q (.free rfl) rfl rfl (Yld.sliceHi u37 i3 (m := 0) rfl rfl (by omega)) ?_
    refine RL.p rfl rfl ?_
    refine RL.done ?_
    refine RK.seq ?_
    refine RK.region ?_
    iterate 2 refine RL.p rfl rfl ?_
    refine RL.done ?_
    refine RK.ret_of Tryz.func218 (res1 rfl rfl) ?_ _
    exact ⟨_, rfl, ⟨by simp, .inr ⟨b1, cap1, cur1, rfl, Nat.zero_le _, hh1, by omega, hm1, hs1, by simp⟩⟩, fun b hb => by simp [Value.ownBlock] at hb; omega, hg1⟩
  · refine RK.skip ?_
    refine RK.seq ?_
    refine RK.region ?_
    iterate 2 refine RL.p rfl rfl ?_
    refine RL.done ?_
    refine RK.ret_of Tryz.func218 (res1 rfl rfl) ?_ _
    exact ⟨_, rfl, Row.nil _ _ _, fun b hb => by simp [Value.ownBlock] at hb, Mod.refl _ _⟩
def total (pr : List (Value × List Int)) : Nat := (pr.map fun p => p.2.length).sum
theorem total_take {pr : List (Value × List Int)} {k : Nat} {p : Value × List Int} (h : pr[k]? = some p) : total (pr.take (k + 1)) = total (pr.take k) + p.2.length := by
  have hk : k < pr.length := (List.getElem?_eq_some_iff.1 h).1
  rw [List.take_succ_eq_append_getElem hk]
  have : pr[k] = p := (List.getElem?_eq_some_iff.1 h).2
  simp [total, this]
theorem total_le (pr : List (Value × List Int)) (k : Nat) : total (pr.take k) ≤ total pr := by
  have : total pr = total (pr.take k) + total (pr.drop k) := by
    unfold total
    rw [← List.sum_append, ← List.map_append, List.take_append_drop]
  omega
theorem concat_ok (M : Nat → Prop) (pr : List (Value × List Int)) (v : Value) (w : World) (hv : Sl M w v 1 pr.length (pr.map (·.1))) (hs : ∀ p ∈ pr, Sl M w p.1 1 p.2.length (ints p.2)) (hb : total pr * 8 ≤ 140737488355328) :
    Fx Tryz.prog 170 [v] w (fun u w' => Row w' 3 1 u (pr.flatMap (·.2)).length (ints (pr.flatMap (·.2))) ∧ Fresh w.heap.size u ∧ Grow w w') := by
  obtain ⟨ad, c, b, o, rfl, hf⟩ := hv.open
  refine enter Tryz.func170 rfl rfl rfl _ (Pick.sub (l := [0]) (.cons rfl .nil)) ?_
  refine RK.seq ?_
  refine RK.region ?_
  refine RL.p rfl rfl ?_
  refine RL.done ?_
  refine RK.seq ?_
  refine RK.region ?_
  refine RL.p rfl rfl ?_
  refine RL.done ?_
  iterate 2 refine RK.seq ?_
  refine RK.region ?_
  refine RL.p rfl rfl ?_
  refine RL.q (.free rfl) rfl rfl (Yld.lenSl u266 rfl) ?_
  refine RL.p rfl rfl ?_
  refine RL.done ?_
  refine RK.block ?_
  refine RK.loop (fun k : Nat => [(0, .slice ad pr.length c), (9, .slice ad pr.length c), (10, .int .i64 pr.length), (11, .int .i64 k), (3, .int .i64 (total (pr.take k)))]) (fun k w' => w = w' ∧ k ≤ pr.length) (fun k => pr.length - k) 0 ⟨rfl, rfl, rfl, rfl, rfl, trivial⟩ ⟨rfl, by omega⟩ (fun k w' hI ih => ?_)
  obtain ⟨rfl, hk⟩ := hI
  refine RK.seq ?_
  refine RK.region ?_
  refine RL.p rfl rfl ?_
  refine RL.done ?_
  refine RK.seq ?_
  first | refine RK.condD rfl (fun h12 => ?_) (fun h12 => ?_) | refine RK.condN rfl (fun h12 => ?_) (fun h12 => ?_) | refine RK.cond rfl (fun h12 => ?_) (fun h12 => ?_)
  · obtain ⟨p, hp⟩ : ∃ p, pr[k]? = some p := ⟨pr[k]'(by omega), List.getElem?_eq_getElem (by omega)⟩
    obtain ⟨rfl, hbM, hc⟩ := hf (by omega)
    have hsp := hs p (List.mem_of_getElem? hp)
    obtain ⟨adp, cp, hpv⟩ := hsp.shape
    have ht := total_take hp
    have htl := total_le pr (k + 1)
    refine RK.skip ?_
    refine RK.seq ?_
    refine RK.block ?_
    refine RK.seq ?_
    refine RK.region ?_
    refine RL.q (.free rfl) rfl rfl (Yld.indexAddrN u266 i37 rfl rfl (by omega)) ?_
    refine RL.q (.free rfl) rfl rfl (Yld.load p37 rfl (at1 (by have := hc k p.1 (by simp [hp]); rw [hpv] at this; simpa using this))) ?_
    refine RL.p rfl rfl ?_
    refine RL.done ?_
    refine RK.seq ?_
    refine RK.region ?_
    iterate 2 refine RL.p rfl rfl ?_
    refine RL.q (.free rfl) rfl rfl (Yld.lenSl u37 rfl) ?_
    refine RL.p rfl rfl ?_
    refine RL.re (d := 18) rfl rfl (add_i64 (z := ((total (pr.take (k + 1)) : Nat) : Int)) (by rw [ht]; simp) (by omega) (by omega)) ?_
    refine RL.p rfl rfl ?_
    refine RL.done ?_
    refine RK.seq ?_
    refine RK.region ?_
    iterate 2 refine RL.p rfl rfl ?_
    refine RL.done ?_
    refine RK.condF (hcF rfl (decide_eq_false (by omega))) ?_
    refine RK.skip ?_
    refine RK.inBlock ?_
    refine RK.region ?_
    refine RL.p rfl rfl ?_
    refine RL.re (d := 22) rfl rfl (succ_i64 (by have := hv.big; omega)) ?_
    refine RL.p rfl rfl ?_
    refine RL.done ?_
    exact RK.back (ih (k + 1) _ ⟨rfl, by omega⟩ (by omega)) ⟨rfl, rfl, rfl, rfl, rfl, trivial⟩
  · have ek : pr.take k = pr := List.take_of_length_le (by omega)
    rw [ek]
    refine RK.exit rfl ?_
    refine RK.seq ?_
    refine RK.region ?_
    refine RL.p rfl rfl ?_
    refine RL.op (.free rfl) rfl rfl (Does.call rfl e218 (growNil_ok (total pr) _ hb)) ?_
    rintro u0 w1 ⟨hr1, hf1, hg1⟩
    refine RL.p rfl rfl ?_
    refine RL.done ?_
    iterate 2 refine RK.seq ?_
    refine RK.region ?_
    refine RL.p rfl rfl ?_
    refine RL.q (.free rfl) rfl rfl (Yld.lenSl u266 rfl) ?_
    refine RL.p rfl rfl ?_
    refine RL.done ?_
    refine RK.block ?_
    refine RK.loop (fun (s : Nat × Value) => [(25, .slice ad pr.length c), (26, .int .i64 pr.length), (27, .int .i64 s.1), (6, s.2)]) (fun s w' => Row w' 3 1 s.2 ((pr.take s.1).flatMap (·.2)).length (ints ((pr.take s.1).flatMap (·.2))) ∧ Fresh w.heap.size s.2 ∧ Grow w w' ∧ s.1 ≤ pr.length) (fun s => pr.length - s.1) (0, u0) ⟨rfl, rfl, rfl, rfl, trivial⟩ ⟨by simpa using hr1, hf1, hg1, by omega⟩ (fun s w' hI ih => ?_)
    obtain ⟨k2, u⟩ := s
    obtain ⟨hr, hfr, hg, hk2⟩ := hI
    simp only at hr hfr hk2
    refine RK.seq ?_
    refine RK.region ?_
    refine RL.p rfl rfl ?_
    refine RL.done ?_
    refine RK.seq ?_
    first | refine RK.condD rfl (fun h28 => ?_) (fun h28 => ?_) | refine RK.condN rfl (fun h28 => ?_) (fun h28 => ?_) | refine RK.cond rfl (fun h28 => ?_) (fun h28 => ?_)
    · obtain ⟨p, hp⟩ : ∃ p, pr[k2]? = some p := ⟨pr[k2]'(by omega), List.getElem?_eq_getElem (by omega)⟩
      obtain ⟨rfl, hbM, hc⟩ := hf (by omega)
      have hsp := hs p (List.mem_of_getElem? hp)
      have ht := total_take hp
      have htl := total_le pr (k2 + 1)
      have e1 : ((pr.take k2).flatMap (·.2)).length = total (pr.take k2) := by simp [total, List.length_flatMap]
      have e2 : (pr.take (k2 + 1)).flatMap (·.2) = (pr.take k2).flatMap (·.2) ++ p.2 := by rw [List.take_succ_eq_append_getElem (by omega)]; simp [(List.getElem?_eq_some_iff.1 hp).2]
      refine RK.skip ?_
      refine RK.seq ?_
      refine RK.block ?_
      refine RK.seq ?_
      refine RK.region ?_
      refine RL.q (.free rfl) rfl rfl (Yld.indexAddrN u266 i37 rfl rfl (by omega)) ?_
      refine RL.q (.free rfl) rfl rfl (Yld.load p37 rfl (at1 (hg.cell (by have := hc k2 p.1 (by simp [hp]); simpa using this) (fun h => h)))) ?_
      refine RL.p rfl rfl ?_
      refine RL.done ?_
      refine RK.region ?_
      iterate 2 refine RL.p rfl rfl ?_
      refine RL.op (.free rfl) rfl rfl (Does.append u37 i3 rfl rfl rfl rfl rfl (hr) ((hsp.mod (Mod.any' hg)).noM) (allOne_ints _) (by rw [e1]; omega)) ?_
      rintro u2 w2 ⟨hr2, hm2, hu2⟩
      refine RL.p rfl rfl ?_
      refine RL.done ?_
      refine RK.inBlock ?_
      refine RK.region ?_
      refine RL.p rfl rfl ?_
      refine RL.re (d := 34) rfl rfl (succ_i64 (by have := hv.big; omega)) ?_
      refine RL.p rfl rfl ?_
      refine RL.done ?_
      exact RK.back (ih (k2 + 1, u2) _ ⟨by rw [e2]; simpa using hr2, fun b hb => by rcases hu2 with h | h <;> rw [h] at hb; exact hfr b hb; (cases hb; exact hg.size), hg.then hm2 (fun x hx e => by have := hfr x e; omega), by simp; omega⟩ (by simp; omega)) ⟨rfl, rfl, rfl, rfl, trivial⟩
    · have ek2 : pr.take k2 = pr := List.take_of_length_le (by omega)
      rw [ek2] at hr
      refine RK.exit rfl ?_
      refine RK.seq ?_
      refine RK.region ?_
      iterate 2 refine RL.p rfl rfl ?_
      refine RL.done ?_
      refine RK.ret_of Tryz.func170 (res1 rfl rfl) ?_ _
      exact ⟨_, rfl, hr, hfr, hg⟩
end Go.Proofs.YthbjfhhiajihfaaGreat
set_option linter.unusedVariables false
set_option linter.unusedSimpArgs false
set_option maxHeartbeats 400000
set_option maxRecDepth 100000
namespace Go.Proofs.YthbjfhhiajihfaaGreat
open Go Go.X
def mkRow (xs : List Int) : List Int := Lib.compact (sortI xs)
theorem mkRow_le (xs : List Int) : (mkRow xs).length ≤ xs.length := by
  have := compact_le (sortI xs)
  rw [sortI_len] at this
  exact this
theorem make_ok (M : Nat → Prop) (xs : List Int) (v : Value) (w : World) (hv : Sl M w v 1 xs.length (ints xs)) (hb : xs.length * 8 ≤ 140737488355328) :
    Fx Tryz.prog 78 [v] w (fun u w' => Row w' 3 1 u (mkRow xs).length (ints (mkRow xs)) ∧ Fresh w.heap.size u ∧ Grow w w') := by
  refine enter Tryz.func78 rfl rfl rfl _ (Pick.sub (l := [0]) (.cons rfl .nil)) ?_
  refine RK.seq ?_
  refine RK.region ?_
  refine RL.p rfl rfl ?_
  refine RL.done ?_
  refine RK.seq ?_
  refine RK.region ?_
  refine RL.p rfl rfl ?_
  refine RL.op (.free rfl) rfl rfl (Does.call rfl e144 (cloneI_ok M xs v _ hv hb)) ?_
  rintro u1 w1 ⟨hr1, hf1, hg1⟩
  refine RL.p rfl rfl ?_
  refine RL.done ?_
  refine RK.seq ?_
  refine RK.region ?_
  refine RL.p rfl rfl ?_
  refine RL.op (.free rfl) rfl rfl (Does.call rfl e145 (sort_ok xs u1 _ hr1 (by omega))) ?_
  rintro _ w2 ⟨rfl, hr2, hm2⟩
  refine RL.done ?_
  refine RK.seq ?_
  refine RK.region ?_
  refine RL.p rfl rfl ?_
  refine RL.op (.free rfl) rfl rfl (Does.call rfl e146 (compact_ok (sortI xs) u1 _ (by rw [sortI_len]; exact hr2))) ?_
  rintro u3 w3 ⟨hr3, hu3, hm3⟩
  refine RL.p rfl rfl ?_
  refine RL.done ?_
  refine RK.ret_of Tryz.func78 (res1 rfl rfl) ?_ _
  exact ⟨_, rfl, hr3, fun b hb => hf1 b (by rw [← hu3]; exact hb), (hg1.then hm2 (fun x hx e => by have := hf1 x e; omega)).then hm3 (fun x hx e => by have := hf1 x e; omega)⟩
theorem or_ok (M : Nat → Prop) (xs ys : List Int) (va vb : Value) (w : World) (ha : Sl M w va 1 xs.length (ints xs)) (hbv : Sl M w vb 1 ys.length (ints ys)) (hb : (xs.length + ys.length) * 8 ≤ 140737488355328) :
    Fx Tryz.prog 123 [va, vb] w (fun u w' => Row w' 3 1 u (mkRow (xs ++ ys)).length (ints (mkRow (xs ++ ys))) ∧ Fresh w.heap.size u ∧ Grow w w') := by
  obtain ⟨ad, c, rfl⟩ := ha.shape
  obtain ⟨ad', c', rfl⟩ := hbv.shape
  refine enter Tryz.func123 rfl rfl rfl _ (Pick.sub (l := [0, 1]) (.cons rfl (.cons rfl .nil))) ?_
  refine RK.seq ?_
  refine RK.region ?_
  refine RL.p rfl rfl ?_
  refine RL.done ?_
  refine RK.seq ?_
  refine RK.region ?_
  iterate 2 refine RL.p rfl rfl ?_
  refine RL.op (.free rfl) rfl rfl (Does.bslice (el := 37) ([.slice ad xs.length c, .slice ad' ys.length c']) rfl (fun w => by kernel_rfl)) ?_
  rintro _ w1 ⟨b1, rfl, hn1⟩
  refine RL.op (.free rfl) rfl rfl (Does.call rfl e170 (concat_ok No [(.slice ad xs.length c, xs), (.slice ad' ys.length c', ys)] _ _ (Sl.new hn1 1 2 rfl (by omega) (fun h => h)) (by intro p hp; simp at hp; rcases hp with rfl | rfl; exact (ha.mod (Mod.any' hn1.grow)).noM; exact (hbv.mod (Mod.any' hn1.grow)).noM) (by simp [total]; omega))) ?_
  rintro u2 w2 ⟨hr2, hf2, hg2⟩
  simp only [List.flatMap_cons, List.flatMap_nil, List.append_nil] at hr2
  refine RL.op (.free rfl) rfl rfl (Does.call rfl e78 (make_ok No (xs ++ ys) u2 _ (Sl.own hr2 (fun _ _ h => h)) (by simp; omega))) ?_
  rintro u3 w3 ⟨hr3, hf3, hg3⟩
  refine RL.p rfl rfl ?_
  refine RL.done ?_
  refine RK.ret_of Tryz.func123 (res1 rfl rfl) ?_ _
  exact ⟨_, rfl, hr3, fun b hb => by have := hf3 b hb; have := hg2.size; have := hn1.grow.size; omega, (hn1.grow.trans hg2).trans hg3⟩
theorem put_ok (M : Nat → Prop) (xs : List Int) (x : Int) (v : Value) (w : World) (hv : Sl M w v 1 xs.length (ints xs)) (hb : (xs.length + 1) * 8 ≤ 140737488355328) :
    Fx Tryz.prog 77 [v, .int .i64 x] w (fun u w' => Row w' 3 1 u (mkRow (xs ++ [x])).length (ints (mkRow (xs ++ [x]))) ∧ Fresh w.heap.size u ∧ Grow w w') := by
  refine enter Tryz.func77 rfl rfl rfl _ (Pick.sub (l := [0, 1]) (.cons rfl (.cons rfl .nil))) ?_
  refine RK.seq ?_
  refine RK.region ?_
  refine RL.p rfl rfl ?_
  refine RL.done ?_
  refine RK.seq ?_
  refine RK.region ?_
  iterate 2 refine RL.p rfl rfl ?_
  refine RL.op (.free rfl) rfl rfl (Does.slice1 u37 i3 rfl rfl rfl rfl rfl) ?_
  rintro _ w1 ⟨b1, rfl, hn1⟩
  refine RL.op (.free rfl) rfl rfl (Does.call rfl e123 (or_ok No xs [x] v _ _ (hv.mod (Mod.any' hn1.grow)).noM (Sl.new hn1 1 1 rfl (by omega) (fun h => h)) (by simpa using hb))) ?_
  rintro u2 w2 ⟨hr2, hf2, hg2⟩
  refine RL.p rfl rfl ?_
  refine RL.done ?_
  refine RK.ret_of Tryz.func77 (res1 rfl rfl) ?_ _
  exact ⟨_, rfl, hr2, fun b hb => by have := hf2 b hb; have := hn1.grow.size; omega, hn1.grow.trans hg2⟩
structure PoolAt (w : World) (p : Nat) (most last : Int) (out : List Int) (v : Value) : Prop where
  blk : Blk w p 205 [.int .i64 most, .int .i64 last, v]
  row : Row w 3 1 v out.length (ints out)
  ne : v.ownBlock ≠ some p
theorem poolNew_ok (m : Int) (w : World) : Fx Tryz.prog 96 [.int .i64 m] w (fun u w' => ∃ p, u = pp p ∧ p = w.heap.size ∧ PoolAt w' p (if 0 > m then 0 else m) 0 [] (.slice none 0 0) ∧ Grow w w' ∧ w'.heap.size = w.heap.size + 1) := by
  refine enter Tryz.func96 rfl rfl rfl _ (Pick.sub (l := [0]) (.cons rfl .nil)) ?_
  refine RK.seq ?_
  refine RK.region ?_
  refine RL.p rfl rfl ?_
  refine RL.done ?_
  refine RK.seq ?_
  refine RK.region ?_
  refine RL.p rfl rfl ?_
  refine RL.q (.free rfl) rfl rfl (Yld.max2 rfl rfl) ?_
  refine RL.q (.free rfl) rfl rfl (Yld.build (v := .agg #[.int .i64 (if 0 > m then 0 else m), .int .i64 0, .slice none 0 0]) rfl (fun w => by kernel_rfl)) ?_
  refine RL.op (.free rfl) rfl rfl (Does.box rfl) ?_
  rintro _ w1 ⟨b1, rfl, hn1⟩
  refine RL.p rfl rfl ?_
  refine RL.done ?_
  refine RK.ret_of Tryz.func96 (res1 rfl rfl) ?_ _
  exact ⟨_, rfl, b1, rfl, hn1.at_, ⟨hn1.blk, Row.nil _ _ _, by simp [Value.ownBlock]⟩, hn1.grow, hn1.size⟩
end Go.Proofs.YthbjfhhiajihfaaGreat
set_option linter.unusedVariables false
set_option linter.unusedSimpArgs false
set_option maxHeartbeats 400000
set_option maxRecDepth 100000
namespace Go.Proofs.YthbjfhhiajihfaaGreat
open Go Go.X
def canS (b : Nat) : Nat := if nanS b then 9221120237041090561 else b
theorem isNaNu_ok (a : Int) (w : World) : Fx Tryz.prog 268 [.int .u64 a] w (fun u w' => u = .bool false ∧ w = w') := by
  refine enter Tryz.func268 rfl rfl rfl _ (Pick.sub (l := [0]) (.cons rfl .nil)) ?_
  refine RK.seq ?_
  refine RK.region ?_
  refine RL.p rfl rfl ?_
  refine RL.done ?_
  refine RK.seq ?_
  refine RK.region ?_
  iterate 4 refine RL.p rfl rfl ?_
  refine RL.done ?_
  refine RK.ret_of Tryz.func268 (res1 rfl rfl) ?_ _
  exact ⟨_, rfl, by simp, rfl⟩
def cmpI (a b : Int) : Int := if a < b then -1 else if b < a then 1 else 0
theorem compare_ok (a b : Int) (w : World) : Fx Tryz.prog 224 [.int .u64 a, .int .u64 b] w (fun u w' => u = .int .i64 (cmpI a b) ∧ w = w') := by
  refine enter Tryz.func224 rfl rfl rfl _ (Pick.sub (l := [0, 1]) (.cons rfl (.cons rfl .nil))) ?_
  refine RK.seq ?_
  refine RK.region ?_
  refine RL.p rfl rfl ?_
  refine RL.done ?_
  refine RK.seq ?_
  refine RK.region ?_
  refine RL.p rfl rfl ?_
  refine RL.op (.free rfl) rfl rfl (Does.call rfl e268 (isNaNu_ok _ _)) ?_
  rintro _ _ ⟨rfl, rfl⟩
  refine RL.p rfl rfl ?_
  refine RL.done ?_
  refine RK.seq ?_
  refine RK.region ?_
  refine RL.p rfl rfl ?_
  refine RL.op (.free rfl) rfl rfl (Does.call rfl e268 (isNaNu_ok _ _)) ?_
  rintro _ _ ⟨rfl, rfl⟩
  refine RL.p rfl rfl ?_
  refine RL.done ?_
  iterate 2 refine RK.seq ?_
  refine RK.region ?_
  refine RL.p rfl rfl ?_
  refine RL.done ?_
  refine RK.condF (hcF rfl (rfl)) ?_
  refine RK.skip ?_
  iterate 2 refine RK.seq ?_
  refine RK.region ?_
  refine RL.p rfl rfl ?_
  refine RL.done ?_
  refine RK.condF (hcF rfl (rfl)) ?_
  refine RK.skip ?_
  iterate 2 refine RK.seq ?_
  refine RK.region ?_
  iterate 3 refine RL.p rfl rfl ?_
  refine RL.done ?_
  first | refine RK.condD rfl (fun h16 => ?_) (fun h16 => ?_) | refine RK.condN rfl (fun h16 => ?_) (fun h16 => ?_) | refine RK.cond rfl (fun h16 => ?_) (fun h16 => ?_)
  · refine RK.seq ?_
    refine RK.region ?_
    refine RL.p rfl rfl ?_
    refine RL.done ?_
    refine RK.ret_of Tryz.func224 (res1 rfl rfl) ?_ _
    exact ⟨_, rfl, congrArg _ (by unfold cmpI; simp [*]), rfl⟩
  · refine RK.skip ?_
    iterate 2 refine RK.seq ?_
    refine RK.region ?_
    iterate 3 refine RL.p rfl rfl ?_
    refine RL.done ?_
    first | refine RK.condD rfl (fun h19 => ?_) (fun h19 => ?_) | refine RK.condN rfl (fun h19 => ?_) (fun h19 => ?_) | refine RK.cond rfl (fun h19 => ?_) (fun h19 => ?_)
    · refine RK.seq ?_
      refine RK.region ?_
      refine RL.p rfl rfl ?_
      refine RL.done ?_
      refine RK.ret_of Tryz.func224 (res1 rfl rfl) ?_ _
      exact ⟨_, rfl, congrArg _ (by unfold cmpI; simp [*]), rfl⟩
    · refine RK.skip ?_
      refine RK.seq ?_
      refine RK.region ?_
      refine RL.p rfl rfl ?_
      refine RL.done ?_
      refine RK.ret_of Tryz.func224 (res1 rfl rfl) ?_ _
      exact ⟨_, rfl, congrArg _ (by unfold cmpI; simp [*]), rfl⟩
theorem nan_ok (w : World) : Fx Tryz.prog 38 [] w (fun u w' => u = .float .f64 9221120237041090561 ∧ w = w') := by
  refine enter Tryz.func38 rfl rfl rfl _ (Pick.sub (l := []) .nil) ?_
  refine RK.seq ?_
  refine RK.region ?_
  refine RL.p rfl rfl ?_
  refine RL.done ?_
  refine RK.seq ?_
  refine RK.region ?_
  refine RL.q (.free rfl) rfl rfl (Yld.callx rfl (fun w => x95 _ w)) ?_
  refine RL.p rfl rfl ?_
  refine RL.done ?_
  refine RK.ret_of Tryz.func38 (res1 rfl rfl) ?_ _
  exact ⟨_, rfl, rfl, rfl⟩
end Go.Proofs.YthbjfhhiajihfaaGreat
set_option linter.unusedVariables false
set_option linter.unusedSimpArgs false
set_option maxHeartbeats 400000
set_option maxRecDepth 100000
namespace Go.Proofs.YthbjfhhiajihfaaGreat
open Go Go.X
section
variable {α : Type}
def pos (lt : α → α → Bool) (x : α) (L : List α) : Nat := L.length - (L.reverse.takeWhile (lt x)).length
theorem SetAt.of : ∀ {l : List Value} {i : Nat} {v : Value}, i < l.length → SetAt l i v (l.set i v)
  | u :: l, 0, v, _ => .z
  | u :: l, i + 1, v, h => .s (SetAt.of (by simpa using h))
end
end Go.Proofs.YthbjfhhiajihfaaGreat
set_option linter.unusedVariables false
set_option linter.unusedSimpArgs false
set_option maxHeartbeats 400000
set_option maxRecDepth 100000
namespace Go.Proofs.YthbjfhhiajihfaaGreat
open Go Go.X
end Go.Proofs.YthbjfhhiajihfaaGreat
set_option linter.unusedVariables false
set_option linter.unusedSimpArgs false
set_option maxHeartbeats 400000
set_option maxRecDepth 100000
namespace Go.Proofs.YthbjfhhiajihfaaGreat
open Go Go.X
theorem cloneL_ok (M : Nat → Prop) (ls : List Lab) (v : Value) (w : World) (hv : SlL M w v ls) (hb : ls.length ≤ 1000) :
    Fx Tryz.prog 178 [v] w (fun u w' => Row w' 79 2 u ls.length (ls.flatMap labC) ∧ Fresh w.heap.size u ∧ Grow w w') := by
  obtain ⟨ad, c, b, o, rfl, hf⟩ := hv.open
  refine enter Tryz.func178 rfl rfl rfl _ (Pick.sub (l := [0]) (.cons rfl .nil)) ?_
  refine RK.seq ?_
  refine RK.region ?_
  refine RL.p rfl rfl ?_
  refine RL.done ?_
  iterate 2 refine RK.seq ?_
  refine RK.region ?_
  refine RL.p rfl rfl ?_
  refine RL.q (.free rfl) rfl rfl (Yld.eqNil u33 rfl rfl) ?_
  refine RL.done ?_
  first | refine RK.condD rfl (fun h4 => ?_) (fun h4 => ?_) | refine RK.condN rfl (fun h4 => ?_) (fun h4 => ?_) | refine RK.cond rfl (fun h4 => ?_) (fun h4 => ?_)
  · refine RK.seq ?_
    refine RK.region ?_
    refine RL.p rfl rfl ?_
    refine RL.done ?_
    refine RK.ret_of Tryz.func178 (res1 rfl rfl) ?_ _
    exact ⟨_, rfl, by cases ad with | none => (have h0 : ls.length = 0 := by (rcases Nat.eq_zero_or_pos ls.length with h | h; exact h; exact absurd (hf h).1 (by simp))); have : ls = [] := List.eq_nil_of_length_eq_zero h0; subst this; exact ⟨Row.nil _ _ _, fun b hb => by simp [Value.ownBlock] at hb, Mod.refl _ _⟩ | some a => simp at h4⟩
  · refine RK.skip ?_
    refine RK.seq ?_
    refine RK.region ?_
    refine RL.op (.free rfl) rfl rfl (Does.slice0 u33 i79) ?_
    rintro _ w1 ⟨b1, rfl, hn1⟩
    refine RL.p rfl rfl ?_
    refine RL.op (.free rfl) rfl rfl (Does.append u33 i79 rfl rfl rfl rfl rfl (Row.new hn1 2 0 rfl (by omega)) ((hv.mod (Mod.any' hn1.grow)).noM) (allOne_labs ls) (by omega)) ?_
    rintro u w2 ⟨hr, hm, hu⟩
    refine RL.p rfl rfl ?_
    refine RL.done ?_
    refine RK.ret_of Tryz.func178 (res1 rfl rfl) ?_ _
    exact ⟨_, rfl, by simpa using hr, fun b hb => by rcases hu with hu | hu <;> rw [hu] at hb <;> simp [Value.ownBlock] at hb <;> (have := hn1.at_; have := hn1.size; omega), hn1.grow.then hm (fun x hx e => by simp [Value.ownBlock] at e; have := hn1.at_; omega)⟩
theorem take_snoc_eq {α : Type} {l1 l2 : List α} {k : Nat} {x : α} (h : l1.take k = l2.take k) (h1 : l1[k]? = some x) (h2 : l2[k]? = some x) : l1.take (k + 1) = l2.take (k + 1) := by
  rw [List.take_add_one, List.take_add_one, h, h1, h2]
theorem sameInts_ok (M : Nat → Prop) (l1 l2 : List Int) (v1 v2 : Value) (w : World) (hv1 : Sl M w v1 1 l1.length (ints l1)) (hv2 : Sl M w v2 1 l2.length (ints l2)) :
    Fx Tryz.prog 23 [v1, v2] w (fun u w' => u = .bool (decide (l1 = l2)) ∧ Grow w w') := by
  obtain ⟨a1, c1, rfl⟩ := hv1.shape
  obtain ⟨a2, c2, rfl⟩ := hv2.shape
  have hbig := hv1.big
  refine enter Tryz.func23 rfl rfl rfl _ (Pick.sub (l := [0, 1]) (.cons rfl (.cons rfl .nil))) ?_
  refine RK.seq ?_
  refine RK.region ?_
  refine RL.p rfl rfl ?_
  refine RL.done ?_
  iterate 2 refine RK.seq ?_
  refine RK.region ?_
  refine RL.p rfl rfl ?_
  refine RL.q (.free rfl) rfl rfl (Yld.lenSl u37 rfl) ?_
  refine RL.p rfl rfl ?_
  refine RL.q (.free rfl) rfl rfl (Yld.lenSl u37 rfl) ?_
  refine RL.p rfl rfl ?_
  refine RL.done ?_
  first | refine RK.condD rfl (fun h10 => ?_) (fun h10 => ?_) | refine RK.condN rfl (fun h10 => ?_) (fun h10 => ?_) | refine RK.cond rfl (fun h10 => ?_) (fun h10 => ?_)
  · refine RK.seq ?_
    refine RK.region ?_
    refine RL.p rfl rfl ?_
    refine RL.done ?_
    refine RK.ret_of Tryz.func23 (res1 rfl rfl) ?_ _
    exact ⟨_, rfl, congrArg _ (by rw [eq_comm, decide_eq_false_iff_not]; rintro rfl; simp at h10), Mod.refl _ _⟩
  · refine RK.skip ?_
    iterate 2 refine RK.seq ?_
    refine RK.region ?_
    refine RL.p rfl rfl ?_
    refine RL.done ?_
    refine RK.block ?_
    refine RK.loop (fun k : Nat => [(0, .slice a1 l1.length c1), (1, .slice a2 l2.length c2), (5, .int .i64 k)]) (fun k w' => Grow w w' ∧ k ≤ l1.length ∧ l1.take k = l2.take k) (fun k => l1.length - k) 0 ⟨rfl, rfl, rfl, trivial⟩ ⟨Mod.refl _ _, by omega, by simp⟩ (fun k w' hI ih => ?_)
    obtain ⟨hg, hk, htk⟩ := hI
    have hl : l1.length = l2.length := by simp at h10; omega
    iterate 2 refine RK.seq ?_
    refine RK.region ?_
    iterate 2 refine RL.p rfl rfl ?_
    refine RL.q (.free rfl) rfl rfl (Yld.lenSl u37 rfl) ?_
    refine RL.p rfl rfl ?_
    refine RL.done ?_
    first | refine RK.condD rfl (fun h14 => ?_) (fun h14 => ?_) | refine RK.condN rfl (fun h14 => ?_) (fun h14 => ?_) | refine RK.cond rfl (fun h14 => ?_) (fun h14 => ?_)
    · obtain ⟨x, hx⟩ : ∃ x, l1[k]? = some x := ⟨l1[k]'(by omega), List.getElem?_eq_getElem (by omega)⟩
      obtain ⟨y, hy⟩ : ∃ y, l2[k]? = some y := ⟨l2[k]'(by omega), List.getElem?_eq_getElem (by omega)⟩
      obtain ⟨b1, o1, c1', he1, _, _, hc1⟩ := hv1.elem1 (k := k) (u := .int .i64 x) (by simp [hx])
      obtain ⟨b2, o2, c2', he2, _, _, hc2⟩ := hv2.elem1 (k := k) (u := .int .i64 y) (by simp [hy])
      cases he1
      cases he2
      refine RK.skip ?_
      refine RK.seq ?_
      refine RK.block ?_
      refine RK.seq ?_
      refine RK.drawM No [(0, false), (1, false), (2, false), (3, false), (4, false), (5, false), (6, false), (7, false), (8, false)] [] mixed (by kernel_rfl) ?_
      iterate 2 refine DL.p rfl rfl rfl ?_
      refine DL.qf rfl (.free rfl) rfl rfl (Yld.indexAddrN u37 i3 rfl rfl (by omega)) ?_
      refine DL.q rfl (.free rfl) rfl rfl rfl (Yld.load p3 rfl (atM (hg.cell (hc1 k (.int .i64 x) (by simp [hx])) (fun h => h)) (id))) (Mod.drew _ _) ?_
      iterate 2 refine DL.p rfl rfl rfl ?_
      refine DL.qf rfl (.free rfl) rfl rfl (Yld.indexAddrN u37 i3 rfl rfl (by omega)) ?_
      refine DL.q rfl (.free rfl) rfl rfl rfl (Yld.load p3 rfl (atM (hg.cell (hc2 k (.int .i64 y) (by simp [hy])) (fun h => h)) (id))) (Mod.drew _ _) ?_
      refine DL.p rfl rfl rfl ?_
      refine DL.done ?_
      first | refine RK.condD rfl (fun h25 => ?_) (fun h25 => ?_) | refine RK.condN rfl (fun h25 => ?_) (fun h25 => ?_) | refine RK.cond rfl (fun h25 => ?_) (fun h25 => ?_)
      · refine RK.seq ?_
        refine RK.region ?_
        refine RL.p rfl rfl ?_
        refine RL.done ?_
        refine RK.ret_of Tryz.func23 (res1 rfl rfl) ?_ _
        exact ⟨_, rfl, congrArg _ (by rw [eq_comm, decide_eq_false_iff_not]; rintro rfl; rw [hx] at hy; cases hy; simp at h25), hg.trans (Mod.drew _ _)⟩
      · refine RK.skip ?_
        refine RK.inBlock ?_
        refine RK.region ?_
        iterate 2 refine RL.p rfl rfl ?_
        refine RL.re (d := 16) rfl rfl (succ_i64 (by omega)) ?_
        refine RL.p rfl rfl ?_
        refine RL.done ?_
        exact RK.back (ih (k + 1) _ ⟨hg.trans (Mod.drew _ _), by omega, take_snoc_eq htk hx (by
            have : x = y := by simpa using h25
            rw [this]; exact hy)⟩ (by omega)) ⟨rfl, rfl, rfl, trivial⟩
    · refine RK.exit rfl ?_
      refine RK.seq ?_
      refine RK.region ?_
      refine RL.p rfl rfl ?_
      refine RL.done ?_
      refine RK.ret_of Tryz.func23 (res1 rfl rfl) ?_ _
      exact ⟨_, rfl, congrArg _ (by
          have e1 : k = l1.length := by omega
          have h1 : l1.take k = l1 := List.take_of_length_le (by omega)
          have h2 : l2.take k = l2 := List.take_of_length_le (by omega)
          rw [h1, h2] at htk; simp [htk]), hg⟩
structure Al where
  id : Int
  ls : List Lab
  val : Nat
  v : Value
def alC (a : Al) : List Value := [.int .i64 a.id, a.v, .float .f64 a.val]
def findS (l : List (List Lab)) (ls : List Lab) : Option Nat := l.findIdx? fun x => decide (x = ls)
def optI : Option Nat → Int
  | some i => i
  | none => -1
end Go.Proofs.YthbjfhhiajihfaaGreat
set_option linter.unusedVariables false
set_option linter.unusedSimpArgs false
set_option maxHeartbeats 400000
set_option maxRecDepth 100000
namespace Go.Proofs.YthbjfhhiajihfaaGreat
open Go Go.X
theorem take_ok (w : World) (p : Nat) (most last : Int) (out : List Int) (v : Value) (hp : PoolAt w p most last out v) (h1 : out.length < most) (h2 : last ≠ 2147483647) (h3 : 0 ≤ last) (h4 : last ≤ 2147483647) (h5 : out.length ≤ 1000000) :
    Fx Tryz.prog 100 [pp p] w (fun u w' => u = .tuple #[.int .i64 (last + 1), .bool true] ∧ ∃ v', PoolAt w' p most (last + 1) (out ++ [last + 1]) v' ∧ Mod (fun b => b = p ∨ v.ownBlock = some b) w w' ∧ (∀ b, v'.ownBlock = some b → v.ownBlock = some b ∨ w.heap.size ≤ b)) := by
  obtain ⟨ad, c, rfl⟩ := hp.row.slice
  refine enter Tryz.func100 rfl rfl rfl _ (Pick.sub (l := [0]) (.cons rfl .nil)) ?_
  refine RK.seq ?_
  refine RK.region ?_
  iterate 2 refine RL.p rfl rfl ?_
  refine RL.done ?_
  iterate 2 refine RK.seq ?_
  refine RK.drawM No [(0, false), (1, false), (2, false), (3, false), (4, false), (5, false), (6, false), (7, false), (8, false), (9, false), (10, false), (11, false), (12, false), (13, false), (14, false), (15, false), (16, false)] [] mixed (by kernel_rfl) ?_
  iterate 2 refine DL.p rfl rfl rfl ?_
  refine DL.qf rfl (.free rfl) rfl rfl (Yld.fieldAddr fo205_2 rfl) ?_
  refine DL.q rfl (.free rfl) rfl rfl rfl (Yld.load p37 rfl (atM (hp.blk.cell rfl) id)) (Mod.drew _ _) ?_
  refine DL.q rfl (.free rfl) rfl rfl rfl (Yld.lenSl u37 rfl) (Mod.drew _ _) ?_
  iterate 2 refine DL.p rfl rfl rfl ?_
  refine DL.qf rfl (.free rfl) rfl rfl (Yld.fieldAddr fo205_0 rfl) ?_
  refine DL.q rfl (.free rfl) rfl rfl rfl (Yld.load p3 rfl (atM (hp.blk.cell rfl) id)) (Mod.drew _ _) ?_
  iterate 2 refine DL.p rfl rfl rfl ?_
  refine DL.knownF (d := 14) rfl rfl (decide_eq_false (by omega)) ?_
  iterate 2 refine DL.qf rfl (.yes rfl rfl rfl) rfl rfl (Yld.pure rfl) ?_
  refine DL.qf rfl (.yes rfl rfl rfl) rfl rfl (Yld.fieldAddr fo205_1 rfl) ?_
  refine DL.q rfl (.yes rfl rfl rfl) rfl rfl rfl (Yld.load p3 rfl (atM (hp.blk.cell rfl) id)) (Mod.drew _ _) ?_
  refine DL.qf rfl (.yes rfl rfl rfl) rfl rfl (Yld.pure rfl) ?_
  refine DL.p rfl rfl rfl ?_
  refine DL.done ?_
  refine RK.condF (hcF rfl (decide_eq_false (by omega))) ?_
  refine RK.skip ?_
  refine RK.seq ?_
  refine RK.region ?_
  iterate 2 refine RL.p rfl rfl ?_
  refine RL.q (.free rfl) rfl rfl (Yld.fieldAddr fo205_1 rfl) ?_
  refine RL.q (.free rfl) rfl rfl (Yld.load p3 rfl (at1 (hp.blk.cell rfl))) ?_
  refine RL.p rfl rfl ?_
  refine RL.re (d := 25) rfl rfl (add_i64 (z := last + 1) rfl (by omega) (by omega)) ?_
  refine RL.p rfl rfl ?_
  refine RL.q (.free rfl) rfl rfl (Yld.fieldAddr fo205_1 rfl) ?_
  refine RL.op' (.free rfl) rfl (Does.store i3 rfl rfl rfl hp.blk (.s .z)) ?_
  rintro _ w1 ⟨hb1, hm1, hs1⟩
  have hr1 := (hp.row.mod (Mod.drew No _) (fun _ _ h => h)).mod hm1 (fun b e h => hp.ne (h ▸ e))
  refine RL.done ?_
  refine RK.seq ?_
  refine RK.drawM (fun b => (Value.slice ad out.length c).ownBlock = some b) [(0, false), (1, false), (2, false), (3, false), (4, false), (5, false), (6, false), (7, false), (8, false), (9, true), (10, true), (11, false), (12, false), (13, true)] [13] mixed (by kernel_rfl) ?_
  iterate 3 refine DL.p rfl rfl rfl ?_
  refine DL.qf rfl (.free rfl) rfl rfl (Yld.fieldAddr fo205_2 rfl) ?_
  refine DL.q rfl (.free rfl) rfl rfl rfl (Yld.load p37 rfl (atM (hb1.cell rfl) (fun h => hp.ne h))) (Mod.drew _ _) ?_
  iterate 2 refine DL.p rfl rfl rfl ?_
  refine DL.qf rfl (.free rfl) rfl rfl (Yld.fieldAddr fo205_1 rfl) ?_
  refine DL.q rfl (.free rfl) rfl rfl rfl (Yld.load p3 rfl (atM (hb1.cell rfl) (fun h => hp.ne h))) (Mod.drew _ _) ?_
  refine DL.op rfl (.free rfl) rfl rfl (Does.slice1 u37 i3 rfl rfl rfl rfl rfl) ?_
  rintro _ w2 ⟨b2, rfl, hn2⟩
  refine ⟨(Mod.drew _ _).trans (Mod.any' hn2.grow), ?_⟩
  refine DL.op rfl (.free rfl) rfl rfl (Does.append u37 i3 rfl rfl rfl rfl rfl ((hr1.mod (Mod.drew No _) (fun _ _ h => h)).mod hn2.grow (fun _ _ h => h)) (Sl.new hn2 1 1 rfl (by omega) (fun h => h)) (rfl) (by omega)) ?_
  rintro u3 w3 ⟨hr3, hm3, hu3⟩
  refine ⟨((Mod.drew _ _).trans (Mod.any' hn2.grow)).trans hm3, ?_⟩
  have hpl := hp.blk.lt
  have hu3' : ∀ b, u3.ownBlock = some b → b ≠ p ∧ ((Value.slice ad out.length c).ownBlock = some b ∨ w.heap.size ≤ b) := fun b e => by
      rcases hu3 with h | h
      · rw [h] at e; exact ⟨fun hh => hp.ne (hh ▸ e), .inl e⟩
      · rw [h] at e; cases e; have h1 := hn2.size; have h2 := hm1.size; simp only [World.drew] at h1 h2 hn2; exact ⟨by omega, .inr (by omega)⟩
  obtain ⟨ad3, c3, rfl⟩ := hr3.slice
  have hb3 := ((hb1.mod (Mod.drew No _) (fun h => h)).mod hn2.grow (fun h => h)).mod hm3 (fun e => hp.ne e)
  refine DL.p rfl rfl rfl ?_
  refine DL.qf rfl (.free rfl) rfl rfl (Yld.fieldAddr fo205_2 rfl) ?_
  refine DL.opT rfl (.free rfl) rfl rfl (Does.store i37 rfl rfl rfl hb3 (.s (.s .z))) ?_
  rintro _ w4 ⟨hb4, hm4, hs4⟩
  refine DL.done ?_
  refine RK.seq ?_
  refine RK.region ?_
  iterate 2 refine RL.p rfl rfl ?_
  refine RL.q (.free rfl) rfl rfl (Yld.fieldAddr fo205_1 rfl) ?_
  refine RL.q (.free rfl) rfl rfl (Yld.load p3 rfl (at1 (hb4.cell rfl))) ?_
  iterate 2 refine RL.p rfl rfl ?_
  refine RL.done ?_
  refine RK.ret_of Tryz.func100 (res2 rfl rfl rfl) ?_ _
  exact ⟨_, rfl, rfl, _, ⟨hb4, by (show Row _ _ _ _ (out ++ [last + 1]).length (List.map _ (out ++ [last + 1]))); rw [List.map_append, List.length_append]; exact hr3.mod hm4 (fun b e h => (hu3' b e).1 h), fun e => (hu3' p e).1 rfl⟩, ((((Mod.drew _ _).trans (hm1.mono fun b _ h => .inl h)).trans ((Mod.drew _ _).trans (Mod.any' hn2.grow))).trans (hm3.mono fun b _ h => .inr h)).trans (hm4.mono fun b _ h => .inl h), fun b e => (hu3' b e).2⟩
abbrev LabK := ByteArray × ByteArray
def labK (x : Lab) : LabK := (x.name, x.value)
structure IdxAt (M : Nat → Prop) (w : World) (ix mh mr : Nat) (has : List (Int × List Lab)) (rows : List (LabK × List Int)) : Prop where
  blk : Blk w ix 240 [.map (some mh), .map (some mr)]
  ne : mh ≠ mr
  hl : ∃ l : List (Int × (List Lab × Value)), l.map (fun t => (t.1, t.2.1)) = has ∧ MapAt (Value.int .i64) w mh (l.map fun t => (t.1, t.2.2)) ∧ ∀ t ∈ l, SlL M w t.2.2 t.2.1
  rl : ∃ r : List (LabK × (List Int × Value)), r.map (fun t => (t.1, t.2.1)) = rows ∧ MapAt pairV w mr (r.map fun t => (t.1, t.2.2)) ∧ ∀ t ∈ r, Sl M w t.2.2 1 t.2.1.length (ints t.2.1)
theorem IdxAt.mod {M M0 : Nat → Prop} {w w' : World} {ix mh mr : Nat} {has : List (Int × List Lab)} {rows : List (LabK × List Int)} (h : IdxAt M w ix mh mr has rows) (hm : Mod M0 w w') (h0 : ∀ b, b < w.heap.size → M0 b → M b) (n1 : ¬ M0 ix) (n2 : ¬ M0 mh) (n3 : ¬ M0 mr) : IdxAt M w' ix mh mr has rows := by
  obtain ⟨l, hl1, hl2, hl3⟩ := h.hl
  obtain ⟨r, hr1, hr2, hr3⟩ := h.rl
  exact ⟨h.blk.mod hm n1, h.ne, ⟨l, hl1, hl2.mod hm n2, fun t ht => (hl3 t ht).mod (hm.mono h0)⟩, ⟨r, hr1, hr2.mod hm n3, fun t ht => (hr3 t ht).mod (hm.mono h0)⟩⟩
theorem IdxAt.off {M M' : Nat → Prop} {w : World} {ix mh mr : Nat} {has : List (Int × List Lab)} {rows : List (LabK × List Int)} (h : IdxAt M w ix mh mr has rows) (hM : ∀ b, b < w.heap.size → M' b → M b) : IdxAt M' w ix mh mr has rows := by
  obtain ⟨l, hl1, hl2, hl3⟩ := h.hl
  obtain ⟨r, hr1, hr2, hr3⟩ := h.rl
  exact ⟨h.blk, h.ne, ⟨l, hl1, hl2, fun t ht => (hl3 t ht).off (by omega) hM⟩, ⟨r, hr1, hr2, fun t ht => (hr3 t ht).off (by omega) hM⟩⟩
theorem idxLen_ok (M : Nat → Prop) (w : World) (ix mh mr : Nat) (has : List (Int × List Lab)) (rows : List (LabK × List Int)) (h : IdxAt M w ix mh mr has rows) : Fx Tryz.prog 180 [pp ix] w (fun u w' => u = .int .i64 rows.length ∧ w = w') := by
  obtain ⟨r, hr1, hr2, hr3⟩ := h.rl
  refine enter Tryz.func180 rfl rfl rfl _ (Pick.sub (l := [0]) (.cons rfl .nil)) ?_
  refine RK.seq ?_
  refine RK.region ?_
  refine RL.p rfl rfl ?_
  refine RL.done ?_
  refine RK.seq ?_
  refine RK.region ?_
  iterate 2 refine RL.p rfl rfl ?_
  refine RL.q (.free rfl) rfl rfl (Yld.fieldAddr fo240_1 rfl) ?_
  refine RL.q (.free rfl) rfl rfl (Yld.load p238 rfl (at1 (h.blk.cell rfl))) ?_
  refine RL.q (.free rfl) rfl rfl (Yld.lenMap Tryz.underlying238 rfl (fun w' e => e ▸ hr2)) ?_
  refine RL.p rfl rfl ?_
  refine RL.done ?_
  refine RK.ret_of Tryz.func180 (res1 rfl rfl) ?_ _
  exact ⟨_, rfl, by rw [← hr1]; simp, rfl⟩
end Go.Proofs.YthbjfhhiajihfaaGreat
set_option linter.unusedVariables false
set_option linter.unusedSimpArgs false
set_option maxHeartbeats 400000
set_option maxRecDepth 100000
namespace Go.Proofs.YthbjfhhiajihfaaGreat
open Go Go.X
def addRow1 (id : Int) (r : List (LabK × List Int)) (x : Lab) : List (LabK × List Int) := putM r (labK x) (mkRow ((lookM r (labK x)).getD [] ++ [id]))
def addRows (rows : List (LabK × List Int)) (id : Int) (ls : List Lab) : List (LabK × List Int) := ls.foldl (addRow1 id) rows
theorem addRows_snoc (rows : List (LabK × List Int)) (id : Int) (ls : List Lab) (x : Lab) : addRows rows id (ls ++ [x]) = addRow1 id (addRows rows id ls) x := by simp [addRows]
theorem look_bound {r : List (LabK × List Int)} {B : Nat} (h : ∀ t ∈ r, t.2.length ≤ B) (k : LabK) : ((lookM r k).getD []).length ≤ B := by
  cases hl : lookM r k with
  | none => simp
  | some a => exact h _ (lookM_mem hl)
theorem addRow1_bound {r : List (LabK × List Int)} {B : Nat} (h : ∀ t ∈ r, t.2.length ≤ B) (id : Int) (x : Lab) : ∀ t ∈ addRow1 id r x, t.2.length ≤ B + 1 := by
  intro t ht
  rcases mem_putM ht with h1 | rfl
  · have := h t h1; omega
  · have := mkRow_le ((lookM r (labK x)).getD [] ++ [id])
    have h2 := look_bound h (labK x)
    simp at this ⊢
    omega
theorem addRows_bound {r : List (LabK × List Int)} {B : Nat} (h : ∀ t ∈ r, t.2.length ≤ B) (id : Int) (ls : List Lab) : ∀ t ∈ addRows r id ls, t.2.length ≤ B + ls.length := by
  induction ls generalizing r B with
  | nil => exact h
  | cons x ls ih =>
    intro t ht
    have := ih (addRow1_bound h id x) t ht
    simp; omega
theorem isS_len {ls : List Lab} (h : isS ls = true) : 1 ≤ ls.length ∧ ls.length ≤ 6 := by
  simp only [isS, Bool.and_eq_true, decide_eq_true_eq] at h
  exact h.1
theorem add_ok (M : Nat → Prop) (w : World) (ix mh mr : Nat) (has : List (Int × List Lab)) (rows : List (LabK × List Int)) (h : IdxAt M w ix mh mr has rows) (hMh : M mh) (hMr : M mr) (hM : ∀ b, M b → b < w.heap.size) (id : Int) (ls : List Lab) (v : Value) (hv : SlL M w v ls)
    (hnew : lookM has id = none) (his : isS ls = true) (hB : ∀ t ∈ rows, t.2.length ≤ 100000000000) :
    Fx Tryz.prog 177 [pp ix, .int .i64 id, v] w (fun u w' => u = .bool true ∧ IdxAt M w' ix mh mr (putM has id ls) (addRows rows id ls) ∧ Mod (fun b => b = mh ∨ b = mr) w w') := by
  obtain ⟨ad, c, rfl⟩ := hv.shape
  obtain ⟨l, hl1, hl2, hl3⟩ := h.hl
  have hlk : lookM (l.map fun t => (t.1, t.2.2)) id = none := by
    have e1 := lookM_map (fun a : List Lab × Value => a.1) id l
    have e2 := lookM_map (fun a : List Lab × Value => a.2) id l
    rw [hl1, hnew] at e1
    have : lookM l id = none := by cases hh : lookM l id with
      | none => rfl
      | some a => rw [hh] at e1; simp at e1
    rw [this] at e2
    exact e2
  obtain ⟨h61, h66⟩ := isS_len his
  have n1 : ix ≠ mh := h.blk.ty.nem hl2.mp
  have n2 : ix ≠ mr := by obtain ⟨r, _, hr2, _⟩ := h.rl; exact h.blk.ty.nem hr2.mp
  refine enter Tryz.func177 rfl rfl rfl _ (Pick.sub (l := [0, 1, 2]) (.cons rfl (.cons rfl (.cons rfl .nil)))) ?_
  refine RK.seq ?_
  refine RK.region ?_
  refine RL.p rfl rfl ?_
  refine RL.done ?_
  iterate 2 refine RK.seq ?_
  refine RK.region ?_
  iterate 2 refine RL.p rfl rfl ?_
  refine RL.q (.free rfl) rfl rfl (Yld.fieldAddr fo240_0 rfl) ?_
  refine RL.q (.free rfl) rfl rfl (Yld.load p237 rfl (at1 (h.blk.cell rfl))) ?_
  refine RL.p rfl rfl ?_
  refine RL.q (.free rfl) rfl rfl (Yld.lookup Tryz.underlying237 key3 i33 rfl rfl (fun w' e => e ▸ hl2)) ?_
  refine RL.p rfl rfl ?_
  refine RL.re (d := 11) rfl rfl (show _ = Value.tuple #[.slice none 0 0, .bool false] by rw [hlk]; rfl) ?_
  iterate 4 refine RL.p rfl rfl ?_
  refine RL.done ?_
  refine RK.seq ?_
  refine RK.region ?_
  iterate 2 refine RL.p rfl rfl ?_
  refine RL.knownF (d := 21) rfl rfl (rfl) ?_
  refine RL.q (.yes rfl rfl rfl) rfl rfl (Yld.pure rfl) ?_
  refine RL.op (.yes rfl rfl rfl) rfl rfl (Does.call rfl e171 (is_ok M ls _ _ hv)) ?_
  rintro _ w2 ⟨rfl, hg2⟩
  refine RL.q (.yes rfl rfl rfl) rfl rfl (Yld.pure rfl) ?_
  refine RL.p rfl rfl ?_
  refine RL.done ?_
  refine RK.condF (hcF rfl (by rw [his]; rfl)) ?_
  refine RK.skip ?_
  refine RK.seq ?_
  refine RK.drawM No [(0, false), (1, false), (2, false), (3, false), (4, false), (5, false), (6, true), (7, true)] [7] mixed (by kernel_rfl) ?_
  iterate 2 refine DL.p rfl rfl rfl ?_
  refine DL.qf rfl (.free rfl) rfl rfl (Yld.fieldAddr fo240_0 rfl) ?_
  refine DL.q rfl (.free rfl) rfl rfl rfl (Yld.load p237 rfl (atM ((h.blk.mod hg2 (fun h => h)).cell rfl) (fun h => h))) (Mod.drew _ _) ?_
  iterate 2 refine DL.p rfl rfl rfl ?_
  refine DL.op rfl (.free rfl) rfl rfl (Does.call rfl e178 (cloneL_ok M ls _ _ ((hv.mod (Mod.any' hg2)).mod (Mod.drew M _)) (by omega))) ?_
  rintro u3 w3 ⟨hr3, hf3, hg3⟩
  refine ⟨(Mod.drew _ _).trans hg3, ?_⟩
  obtain ⟨ad3, c3, rfl⟩ := hr3.slice
  have hg03 : Grow w w3 := (hg2.trans (Mod.drew _ _)).trans hg3
  refine DL.opT rfl (.free rfl) rfl rfl (Does.mapUpdate Tryz.underlying237 key3 rfl rfl rfl (hl2.mod hg03 (fun h => h))) ?_
  rintro _ w4 ⟨hm4, hmod4, hs4⟩
  have hmod04 : Mod (· = mh) w w4 := (Mod.any' hg03).trans hmod4
  have hu3 : SlL M w4 (.slice ad3 ls.length c3) ls := (Sl.own hr3 (fun k e hk => by have h1 := hf3 k e; have h2 := hM k hk; have h3 := hg2.size; simp only [World.drew] at h1; omega)).mod (hmod4.mono fun b _ e => e ▸ hMh)
  have hidx4 : IdxAt M w4 ix mh mr (putM has id ls) rows := by
      obtain ⟨r, hr1, hr2, hr3⟩ := h.rl
      refine ⟨h.blk.mod hmod04 n1, h.ne, ⟨putM l id (ls, .slice ad3 ls.length c3), ?_, ?_, fun t ht => ?_⟩, ⟨r, hr1, hr2.mod hmod04 h.ne.symm, fun t ht => (hr3 t ht).mod (hmod04.mono fun b _ e => e ▸ hMh)⟩⟩
      · rw [← hl1]; exact (putM_map (fun a : List Lab × Value => a.1) id (ls, .slice ad3 ls.length c3) l).symm
      · rw [← putM_map (fun a : List Lab × Value => a.2) id (ls, .slice ad3 ls.length c3) l]; exact hm4
      · rcases mem_putM ht with h1 | rfl
        · exact (hl3 t h1).mod (hmod04.mono fun b _ e => e ▸ hMh)
        · exact hu3
  have hmodA : Mod (fun b => b = mh ∨ b = mr) w w4 := hmod04.mono fun b _ e => .inl e
  refine DL.done ?_
  iterate 2 refine RK.seq ?_
  refine RK.region ?_
  refine RL.p rfl rfl ?_
  refine RL.q (.free rfl) rfl rfl (Yld.lenSl u33 rfl) ?_
  refine RL.p rfl rfl ?_
  refine RL.done ?_
  refine RK.block ?_
  refine RK.loop (fun k : Nat => [(0, pp ix), (1, .int .i64 id), (33, .slice ad ls.length c), (34, .int .i64 ls.length), (35, .int .i64 k)]) (fun k w' => IdxAt M w' ix mh mr (putM has id ls) (addRows rows id (ls.take k)) ∧ Mod (fun b => b = mh ∨ b = mr) w w' ∧ k ≤ ls.length) (fun k => ls.length - k) 0 ⟨rfl, rfl, rfl, rfl, rfl, trivial⟩ ⟨by simpa [addRows] using hidx4, hmodA, by omega⟩ (fun k w' hI ih => ?_)
  obtain ⟨hi, hmod, hk⟩ := hI
  refine RK.seq ?_
  refine RK.region ?_
  refine RL.p rfl rfl ?_
  refine RL.done ?_
  refine RK.seq ?_
  first | refine RK.condD rfl (fun h36 => ?_) (fun h36 => ?_) | refine RK.condN rfl (fun h36 => ?_) (fun h36 => ?_) | refine RK.cond rfl (fun h36 => ?_) (fun h36 => ?_)
  · obtain ⟨x, hx⟩ : ∃ x, ls[k]? = some x := ⟨ls[k]'(by omega), List.getElem?_eq_getElem (by omega)⟩
    obtain ⟨bx, ox, cx, he, hbM, hkl, hcell⟩ := hv.elem labC_len hx
    cases he
    obtain ⟨r, hr1, hr2, hr3⟩ := hi.rl
    have hmodM : Mod M w w' := hmod.mono fun b _ e => by rcases e with rfl | rfl <;> assumption
    have htk : ls.take (k + 1) = ls.take k ++ [x] := by rw [List.take_succ_eq_append_getElem (by omega)]; congr 2; exact (List.getElem?_eq_some_iff.1 hx).2
    have hbnd : ((lookM (addRows rows id (ls.take k)) (labK x)).getD []).length ≤ 100000000000 + 6 := Nat.le_trans (look_bound (addRows_bound hB id (ls.take k)) (labK x)) (by simp; omega)
    obtain ⟨vv, hval, hsl⟩ : ∃ vv, (lookM (r.map fun t => (t.1, t.2.2)) (labK x)).getD (.slice none 0 0) = vv ∧ Sl M w' vv 1 ((lookM (addRows rows id (ls.take k)) (labK x)).getD []).length (ints ((lookM (addRows rows id (ls.take k)) (labK x)).getD [])) := by
        have e1 := lookM_map (fun a : List Int × Value => a.1) (labK x) r
        have e2 := lookM_map (fun a : List Int × Value => a.2) (labK x) r
        rw [hr1] at e1
        rw [e1, e2]
        cases hh : lookM r (labK x) with
        | none => exact ⟨_, rfl, Sl.nil _ _ _ _ _⟩
        | some a => exact ⟨_, rfl, hr3 _ (lookM_mem hh)⟩
    refine RK.skip ?_
    refine RK.seq ?_
    refine RK.block ?_
    refine RK.seq ?_
    refine RK.region ?_
    refine RL.q (.free rfl) rfl rfl (Yld.indexAddrN u33 i79 rfl rfl (by omega)) ?_
    refine RL.q (.free rfl) rfl rfl (Yld.loadN (cs := [.string x.name, .string x.value]) a79 rfl (atN (fun j u hj => hmodM.cell (hcell j u hj) hbM))) ?_
    refine RL.op (.free rfl) rfl rfl (Does.alloc i79) ?_
    rintro _ w5 ⟨b1, rfl, hn1⟩
    refine RL.op' (.free rfl) rfl (Does.storeN i79 rfl rfl rfl rfl hn1.blk (Nat.le_refl 2)) ?_
    rintro _ w6 ⟨hb6, hm6, _⟩
    have hB6 : Blk w6 b1 79 [.string x.name, .string x.value] := hb6
    have hg6 : Grow w' w6 := hn1.grow.then hm6 (fun y hy e => by have e' : y = b1 := e; have := hn1.at_; omega)
    refine RL.done ?_
    refine RK.drawM No [(0, false), (1, false), (2, false), (3, false), (4, false), (5, false), (6, false), (7, false), (8, false), (9, false), (10, false), (11, false), (12, true), (13, true)] [13] mixed (by kernel_rfl) ?_
    iterate 2 refine DL.p rfl rfl rfl ?_
    refine DL.qf rfl (.free rfl) rfl rfl (Yld.fieldAddr fo240_1 rfl) ?_
    refine DL.q rfl (.free rfl) rfl rfl rfl (Yld.load p238 rfl (atM ((hi.blk.mod hg6 (fun h => h)).cell rfl) (fun h => h))) (Mod.drew _ _) ?_
    refine DL.q rfl (.free rfl) rfl rfl rfl (Yld.loadN (cs := [.string x.name, .string x.value]) a79 rfl (atNM (fun j u hj => by rw [Nat.zero_add]; exact hB6.cell' hj) (fun h => h))) (Mod.drew _ _) ?_
    iterate 2 refine DL.p rfl rfl rfl ?_
    refine DL.qf rfl (.free rfl) rfl rfl (Yld.fieldAddr fo240_1 rfl) ?_
    refine DL.q rfl (.free rfl) rfl rfl rfl (Yld.load p238 rfl (atM ((hi.blk.mod hg6 (fun h => h)).cell rfl) (fun h => h))) (Mod.drew _ _) ?_
    refine DL.q rfl (.free rfl) rfl rfl rfl (Yld.loadN (cs := [.string x.name, .string x.value]) a79 rfl (atNM (fun j u hj => by rw [Nat.zero_add]; exact hB6.cell' hj) (fun h => h))) (Mod.drew _ _) ?_
    refine DL.q rfl (.free rfl) rfl rfl rfl (Yld.lookup Tryz.underlying238 key79 i37 (k := labK x) rfl rfl (fun w' hm => (hr2.mod hg6 (fun h => h)).mod hm (fun h => h))) (Mod.drew _ _) ?_
    refine DL.re (d := 49) rfl rfl (hval) ?_
    refine DL.p rfl rfl rfl ?_
    refine DL.op rfl (.free rfl) rfl rfl (Does.call rfl e77 (put_ok M _ id vv _ ((hsl.mod (Mod.any' hg6)).mod (Mod.drew M _)) (by omega))) ?_
    rintro u7 w7 ⟨hr7, hf7, hg7⟩
    refine ⟨(Mod.drew _ _).trans hg7, ?_⟩
    have hg07 : Grow w' w7 := (hg6.trans (Mod.drew _ _)).trans hg7
    refine DL.opT rfl (.free rfl) rfl rfl (Does.mapUpdate Tryz.underlying238 key79 (k := labK x) rfl rfl rfl (hr2.mod hg07 (fun h => h))) ?_
    rintro _ w8 ⟨hm8, hmod8, hs8⟩
    have hmodk : Mod (· = mr) w' w8 := (Mod.any' hg07).trans hmod8
    have hu7 : Sl M w8 u7 1 (mkRow ((lookM (addRows rows id (ls.take k)) (labK x)).getD [] ++ [id])).length (ints (mkRow ((lookM (addRows rows id (ls.take k)) (labK x)).getD [] ++ [id]))) := (Sl.own hr7 (fun b e hb => by have h1 := hf7 b e; have h2 := hM b hb; have h3 := hg6.size; have h4 := hmod.size; simp only [World.drew] at h1; omega)).mod (hmod8.mono fun b _ e => e ▸ hMr)
    have hidx8 : IdxAt M w8 ix mh mr (putM has id ls) (addRows rows id (ls.take (k + 1))) := by
        obtain ⟨l', hl1', hl2', hl3'⟩ := hi.hl
        refine ⟨hi.blk.mod hmodk n2, hi.ne, ⟨l', hl1', hl2'.mod hmodk hi.ne, fun t ht => (hl3' t ht).mod (hmodk.mono fun b _ e => e ▸ hMr)⟩, ⟨putM r (labK x) (mkRow ((lookM (addRows rows id (ls.take k)) (labK x)).getD [] ++ [id]), u7), ?_, ?_, fun t ht => ?_⟩⟩
        · rw [htk, addRows_snoc, addRow1, ← hr1]; exact (putM_map (fun a : List Int × Value => a.1) (labK x) (_, u7) r).symm
        · rw [← putM_map (fun a : List Int × Value => a.2) (labK x) (_, u7) r]; exact hm8
        · rcases mem_putM ht with h1 | rfl
          · exact (hr3 t h1).mod (hmodk.mono fun b _ e => e ▸ hMr)
          · exact hu7
    refine DL.done ?_
    refine RK.inBlock ?_
    refine RK.region ?_
    refine RL.p rfl rfl ?_
    refine RL.re (d := 52) rfl rfl (succ_i64 (by omega)) ?_
    refine RL.p rfl rfl ?_
    refine RL.done ?_
    exact RK.back (ih (k + 1) _ ⟨hidx8, hmod.trans (hmodk.mono fun b _ e => .inr e), by omega⟩ (by omega)) ⟨rfl, rfl, rfl, rfl, rfl, trivial⟩
  · have ek : ls.take k = ls := List.take_of_length_le (by omega)
    rw [ek] at hi
    refine RK.exit rfl ?_
    refine RK.seq ?_
    refine RK.region ?_
    refine RL.p rfl rfl ?_
    refine RL.done ?_
    refine RK.ret_of Tryz.func177 (res1 rfl rfl) ?_ _
    exact ⟨_, rfl, rfl, hi, hmod⟩
end Go.Proofs.YthbjfhhiajihfaaGreat
set_option linter.unusedVariables false
set_option linter.unusedSimpArgs false
set_option maxHeartbeats 400000
set_option maxRecDepth 100000
namespace Go.Proofs.YthbjfhhiajihfaaGreat
open Go Go.X
structure St where
  most : Int
  last : Int
  out : List Int
  al : List (Int × List Lab × Nat)
  has : List (Int × List Lab)
  rows : List (LabK × List Int)
def own (p q ix mh mr : Nat) (vo vl : Value) : Nat → Prop := fun b => b = p ∨ b = q ∨ b = mh ∨ b = mr ∨ vo.ownBlock = some b ∨ vl.ownBlock = some b ∨ b = ix
def pub (a : Al) : Int × List Lab × Nat := (a.id, a.ls, a.val)
structure SA (w : World) (p : Nat) (s : St) (M : Nat → Prop) (q ix mh mr : Nat) (vo vl : Value) (al : List Al) : Prop where
  blk : Blk w p 190 [pp q, pp ix, vl]
  pool : PoolAt w q s.most s.last s.out vo
  idx : IdxAt M w ix mh mr s.has s.rows
  row : Row w 35 3 vl al.length (al.flatMap alC)
  als : al.map pub = s.al
  sls : ∀ a ∈ al, SlL M w a.v a.ls
  ownM : ∀ b, own p q ix mh mr vo vl b → M b
  ltM : ∀ b, M b → b < w.heap.size
def StoreX (O M : Nat → Prop) (w : World) (p : Nat) (s : St) : Prop := ∃ q ix mh mr vo vl al, (∀ b, O b ↔ own p q ix mh mr vo vl b) ∧ SA w p s M q ix mh mr vo vl al
abbrev StoreAt (w : World) (p : Nat) (s : St) (M : Nat → Prop) : Prop := StoreX M M w p s
theorem IdxAt.mps {M : Nat → Prop} {w : World} {ix mh mr : Nat} {has : List (Int × List Lab)} {rows : List (LabK × List Int)} (h : IdxAt M w ix mh mr has rows) : Mp w mh ∧ Mp w mr := by
  obtain ⟨l, _, h2, _⟩ := h.hl
  obtain ⟨r, _, h3, _⟩ := h.rl
  exact ⟨h2.mp, h3.mp⟩
theorem SA.lt {w : World} {p : Nat} {s : St} {M : Nat → Prop} {q ix mh mr : Nat} {vo vl : Value} {al : List Al} (h : SA w p s M q ix mh mr vo vl al) {b : Nat} (hb : M b) : b < w.heap.size := h.ltM b hb
theorem StoreX.lt {w : World} {p : Nat} {s : St} {O M : Nat → Prop} (h : StoreX O M w p s) {b : Nat} (hb : M b) : b < w.heap.size := by
  obtain ⟨q, ix, mh, mr, vo, vl, al, hO, h⟩ := h
  exact h.lt hb
theorem PoolAt.mod {w w' : World} {p : Nat} {most last : Int} {out : List Int} {v : Value} {M0 : Nat → Prop} (h : PoolAt w p most last out v) (hm : Mod M0 w w') (n1 : ¬ M0 p) (n2 : ∀ b, v.ownBlock = some b → ¬ M0 b) : PoolAt w' p most last out v :=
  ⟨h.blk.mod hm n1, h.row.mod hm n2, h.ne⟩
theorem SA.grow {w w' : World} {p : Nat} {s : St} {M : Nat → Prop} {q ix mh mr : Nat} {vo vl : Value} {al : List Al} (h : SA w p s M q ix mh mr vo vl al) (hg : Grow w w') : SA w' p s M q ix mh mr vo vl al :=
  ⟨h.blk.mod hg (fun h => h), h.pool.mod hg (fun h => h) (fun _ _ h => h), h.idx.mod hg (fun _ _ h => h.elim) (fun h => h) (fun h => h) (fun h => h), h.row.mod hg (fun _ _ h => h), h.als, fun a ha => (h.sls a ha).mod (Mod.any' hg), h.ownM, fun b hb => Nat.lt_of_lt_of_le (h.ltM b hb) hg.size⟩
theorem StoreX.grow {w w' : World} {p : Nat} {s : St} {O M : Nat → Prop} (h : StoreX O M w p s) (hg : Grow w w') : StoreX O M w' p s := by
  obtain ⟨q, ix, mh, mr, vo, vl, al, hO, h⟩ := h
  exact ⟨q, ix, mh, mr, vo, vl, al, hO, h.grow hg⟩
theorem StoreX.sub {w : World} {p : Nat} {s : St} {O M : Nat → Prop} (h : StoreX O M w p s) {b : Nat} (hb : O b) : M b := by
  obtain ⟨q, ix, mh, mr, vo, vl, al, hO, h⟩ := h
  exact h.ownM b ((hO b).1 hb)
theorem StoreX.off {w : World} {p : Nat} {s : St} {O M M' : Nat → Prop} (h : StoreX O M w p s) (h1 : ∀ b, O b → M' b) (h2 : ∀ b, M' b → M b) : StoreX O M' w p s := by
  obtain ⟨q, ix, mh, mr, vo, vl, al, hO, h⟩ := h
  exact ⟨q, ix, mh, mr, vo, vl, al, hO, h.blk, h.pool, h.idx.off fun b _ e => h2 b e, h.row, h.als, fun a ha => (h.sls a ha).off (by omega) (fun b _ e => h2 b e), fun b e => h1 b ((hO b).2 e), fun b e => h.ltM b (h2 b e)⟩
theorem StoreX.at_ {w : World} {p : Nat} {s : St} {O M : Nat → Prop} (h : StoreX O M w p s) : StoreAt w p s O := h.off (fun _ e => e) (fun _ e => h.sub e)
theorem StoreX.mod {w w' : World} {p : Nat} {s : St} {O M N : Nat → Prop} (h : StoreX O M w p s) (hm : Mod N w w') (h1 : ∀ b, O b → ¬ N b) (h2 : ∀ b, N b → b < w.heap.size → M b) : StoreX O M w' p s := by
  obtain ⟨q, ix, mh, mr, vo, vl, al, hO, h⟩ := h
  have h3 : ∀ b, own p q ix mh mr vo vl b → ¬ N b := fun b e => h1 b ((hO b).2 e)
  exact ⟨q, ix, mh, mr, vo, vl, al, hO, h.blk.mod hm (h3 p (.inl rfl)), h.pool.mod hm (h3 q (.inr (.inl rfl))) (fun b e => h3 b (.inr (.inr (.inr (.inr (.inl e)))))), h.idx.mod hm (fun b hb e => h2 b e hb) (h3 ix (.inr (.inr (.inr (.inr (.inr (.inr rfl))))))) (h3 mh (.inr (.inr (.inl rfl)))) (h3 mr (.inr (.inr (.inr (.inl rfl))))), h.row.mod hm (fun b e => h3 b (.inr (.inr (.inr (.inr (.inr (.inl e))))))), h.als, fun a ha => (h.sls a ha).mod (hm.mono fun b hb e => h2 b e hb), h.ownM, fun b e => Nat.lt_of_lt_of_le (h.ltM b e) hm.size⟩
def capS (m : Int) : Int := if 16 < (if 1 > m then 1 else m) then 16 else if 1 > m then 1 else m
def St.new (m : Int) : St := ⟨capS m, 0, [], [], [], []⟩
theorem alertLen_ok (w : World) (p : Nat) (s : St) (M : Nat → Prop) (h : StoreAt w p s M) : Fx Tryz.prog 130 [pp p] w (fun u w' => u = .int .i64 s.al.length ∧ w = w') := by
  obtain ⟨q, ix, mh, mr, vo, vl, al, hO, h⟩ := h
  obtain ⟨ad, c, rfl⟩ := h.row.slice
  refine enter Tryz.func130 rfl rfl rfl _ (Pick.sub (l := [0]) (.cons rfl .nil)) ?_
  refine RK.seq ?_
  refine RK.region ?_
  refine RL.p rfl rfl ?_
  refine RL.done ?_
  refine RK.seq ?_
  refine RK.region ?_
  iterate 2 refine RL.p rfl rfl ?_
  refine RL.q (.free rfl) rfl rfl (Yld.fieldAddr fo190_2 rfl) ?_
  refine RL.q (.free rfl) rfl rfl (Yld.load p49 rfl (at1 (h.blk.cell rfl))) ?_
  refine RL.q (.free rfl) rfl rfl (Yld.lenSl u49 rfl) ?_
  refine RL.p rfl rfl ?_
  refine RL.done ?_
  refine RK.ret_of Tryz.func130 (res1 rfl rfl) ?_ _
  exact ⟨_, rfl, by rw [← h.als]; simp, rfl⟩
end Go.Proofs.YthbjfhhiajihfaaGreat
set_option linter.unusedVariables false
set_option linter.unusedSimpArgs false
set_option maxHeartbeats 400000
set_option maxRecDepth 100000
namespace Go.Proofs.YthbjfhhiajihfaaGreat
open Go Go.X
end Go.Proofs.YthbjfhhiajihfaaGreat
set_option linter.unusedVariables false
set_option linter.unusedSimpArgs false
set_option maxHeartbeats 400000
set_option maxRecDepth 100000
namespace Go.Proofs.YthbjfhhiajihfaaGreat
open Go Go.X
def fullS (most last : Int) (out : List Int) : Bool := decide (most ≤ out.length ∨ last = 2147483647)
structure Ok (s : St) : Prop where
  last0 : 0 ≤ s.last
  last1 : s.last ≤ 2147483647
  most : s.most ≤ 16
  outLe : (s.out.length : Int) ≤ s.most
  alOut : s.al.length = s.out.length
  has : ∀ t ∈ s.has, t.1 ≤ s.last
  rows : ∀ t ∈ s.rows, (t.2.length : Int) ≤ 6 * s.last
  vals : ∀ a ∈ s.al, a.2.2 < 18446744073709551616
def postS (s : St) (ls : List Lab) (val : Nat) : St × Int × Bool × Int :=
  if isS ls = false then (s, 0, false, 1) else
  match findS (s.al.map (·.2.1)) ls with
  | some i => ({ s with al := s.al.modify i fun a => (a.1, a.2.1, canS val) }, ((s.al[i]?).map (·.1)).getD 0, false, 0)
  | none => if fullS s.most s.last s.out then (s, 0, false, 10) else
    ({ most := s.most, last := s.last + 1, out := s.out ++ [s.last + 1], al := s.al ++ [(s.last + 1, ls, canS val)], has := putM s.has (s.last + 1) ls, rows := addRows s.rows (s.last + 1) ls }, s.last + 1, true, 0)
theorem Ok.new (m : Int) : Ok (St.new m) := by
  refine ⟨by simp [St.new], by simp [St.new], ?_, ?_, rfl, by simp [St.new], by simp [St.new], by simp [St.new]⟩
  · simp only [St.new, capS]; split <;> omega
  · simp only [St.new, capS]; simp; split <;> omega
end Go.Proofs.YthbjfhhiajihfaaGreat
set_option linter.unusedVariables false
set_option linter.unusedSimpArgs false
set_option maxHeartbeats 400000
set_option maxRecDepth 100000
namespace Go.Proofs.YthbjfhhiajihfaaGreat
open Go Go.X
end Go.Proofs.YthbjfhhiajihfaaGreat
set_option linter.unusedVariables false
set_option linter.unusedSimpArgs false
set_option maxHeartbeats 400000
set_option maxRecDepth 100000
namespace Go.Proofs.YthbjfhhiajihfaaGreat
open Go Go.X
def At (w0 w : World) (p : Nat) (s : St) : Prop := ∃ M, StoreAt w p s M ∧ (∀ b, M b → w0.heap.size ≤ b) ∧ Grow w0 w ∧ Ok s
theorem At.grow {w0 w w' : World} {p : Nat} {s : St} (h : At w0 w p s) (hg : Grow w w') : At w0 w' p s := by
  obtain ⟨M, h1, h2, h3, h4⟩ := h
  exact ⟨M, h1.grow hg, h2, h3.trans hg, h4⟩
theorem At.all {w0 w : World} {p : Nat} {s : St} (h : At w0 w p s) : Grow w0 w := by
  obtain ⟨M, h1, h2, h3, h4⟩ := h
  exact h3
theorem At.len {w0 w : World} {p : Nat} {s : St} (h : At w0 w p s) : Fx Tryz.prog 130 [pp p] w (fun u w' => u = .int .i64 s.al.length ∧ w = w') := by
  obtain ⟨M, h1, h2, h3, h4⟩ := h
  exact alertLen_ok w p s M h1
end Go.Proofs.YthbjfhhiajihfaaGreat
set_option linter.unusedVariables false
namespace Go.X
open Go Go.RowKit Go.WideShapes Go.ChangeShapes
section
variable {H : Type} {enc : TypeId × Value → H} {P : Program} {W : World} {base : Nat} {sp : Nat → Bool} {held : Bool}
end
end Go.X
namespace Go.X
open Ieee
end Go.X
set_option linter.unusedVariables false
set_option linter.unusedSimpArgs false
namespace Go.X
open Go Go.RowKit
section
variable {P : Program} {n : Nat} {e : Env} {w : World} {C : World → Prop}
def fromAt (ad : Option Addr) (cap m sz : Nat) : Option Addr := ad.map fun a => if cap = m then a else a.add (m * sz)
theorem Yld.sliceFrom {d : Option Tmp} {t el : Nat} {x h : Operand} {ty : TypeId} {pos : String} {af : Array Edge} {g : Option (Nat × Bool)} (hT : SlT P t el) {z : Value} {sz by' : Nat} (hE : TI P el z sz by') {ad : Option Addr} {len cap m : Nat} {k : IntKind} (hx : ev e x = some (.slice ad len cap)) (hh : ev e h = some (.int k (m : Int))) (hm : m ≤ len) :
    Yld P n C e ⟨d, .slice t x (some h) none none, ty, pos, af, g⟩ (.slice (fromAt ad cap m sz) (len - m) (cap - m)) := by
  intro a ha w _
  have h1 : (m : Int) ≤ len := by omega
  cases ad with
  | none => simp [execOp, ha.ev hx, ha.ev hh, Instr.sliceAt, Instr.slice, run_underlying hT, Instr.sliceBounds, Instr.sliceBound, asIntOf, hE.sizeOf w, h1, hm, fromAt]
  | some ad => by_cases hcm : cap = m <;> simp [execOp, ha.ev hx, ha.ev hh, Instr.sliceAt, Instr.slice, run_underlying hT, Instr.sliceBounds, Instr.sliceBound, asIntOf, hE.sizeOf w, h1, hm, hcm, fromAt]
end
theorem Sl.take {M : Nat → Prop} {w : World} {ad : Option Addr} {n c : Nat} {cs : List Value} (h : Sl M w (.slice ad n c) 1 n cs) {j : Nat} (hj : j ≤ n) : Sl M w (.slice ad j c) 1 j (cs.take j) := by
  have hl := h.len
  have hb := h.big
  obtain ⟨ad', c', he, hf⟩ := h.form
  cases he
  refine ⟨by simp; omega, by omega, _, _, rfl, fun h0 => ?_⟩
  obtain ⟨b, o, ha, hM, hc⟩ := hf (by omega)
  refine ⟨b, o, ha, hM, fun i u hi => hc i u ?_⟩
  rw [List.getElem?_take] at hi
  split at hi
  · exact hi
  · cases hi
theorem Row.cap {w : World} {t : TypeId} {sz : Nat} {v : Value} {k : Nat} {xs : List Value} (h : Row w t sz v k xs) : ∃ ad c, v = .slice ad k c ∧ k ≤ c := by
  rcases h.2 with ⟨rfl, rfl⟩ | ⟨g, cap, cur, rfl, _, _, hnc, _⟩
  · exact ⟨_, _, rfl, Nat.le_refl _⟩
  · exact ⟨_, _, rfl, hnc⟩
end Go.X
set_option linter.unusedVariables false
namespace Go.X
open Go Go.RowKit
def Fork (P : Program) (ops : Array Oper) (S : World → Prop) (tl : List Nat) (Q : Exit → Act → World → Prop) (p q : List (Nat × Bool)) : Exit → Act → World → Prop := fun x a w => x = .normal ∧ wpOrd P ops S tl Q p a w ∧ wpOrd P ops S tl Q q a w
section
variable {P : Program} {f : FuncId} {n : Nat} {R : Ending → World → Prop} {k : List Item} {e : Env} {w : World}
theorem DL.fork {ops : List Oper} {S : World → Prop} {tl : List Nat} {Q : Exit → Act → World → Prop} {p q : List (Nat × Bool)} (h1 : DL P n ops S tl p e w Q) (h2 : DL P n ops S tl q e w Q) : DL P n ops S tl [] e w (Fork P ops.toArray S tl Q p q) := fun a ha => ⟨rfl, h1 a ha, h2 a ha⟩
end
end Go.X
set_option linter.unusedVariables false
set_option linter.unusedSimpArgs false
namespace Go.X
open Go Go.RowKit
section
variable {κ α : Type} [DecidableEq κ]
theorem cutM_nil (k : κ) : cutM ([] : List (κ × α)) k = [] := rfl
theorem cutM_cons (k j : κ) (v : α) (l : List (κ × α)) : cutM ((j, v) :: l) k = if k = j then l else (j, v) :: cutM l k := by
  unfold cutM
  simp only [placeM]
  by_cases h : k = j
  · simp [h]
  · simp only [if_neg h]
    cases placeM k l with
    | none => rfl
    | some p => rfl
theorem lookM_cons (k j : κ) (v : α) (l : List (κ × α)) : lookM ((j, v) :: l) k = if k = j then some v else lookM l k := by
  unfold lookM
  simp only [placeM]
  by_cases h : k = j
  · simp [h]
  · simp only [if_neg h, Option.map_map]
    cases placeM k l <;> rfl
theorem putM_cons (k j : κ) (u v : α) (l : List (κ × α)) : putM ((j, v) :: l) k u = if k = j then (j, u) :: l else (j, v) :: putM l k u := by
  unfold putM
  simp only [placeM]
  by_cases h : k = j
  · simp [h]
  · simp only [if_neg h]
    cases placeM k l with
    | none => rfl
    | some p => simp
theorem lookM_putM (k k' : κ) (v : α) : ∀ l : List (κ × α), lookM (putM l k v) k' = if k' = k then some v else lookM l k'
  | [] => by
    have : putM ([] : List (κ × α)) k v = [(k, v)] := rfl
    rw [this, lookM_cons]
  | (j, u) :: l => by
    rw [putM_cons]
    by_cases h : k = j
    · subst h
      rw [if_pos rfl, lookM_cons, lookM_cons]
      by_cases h' : k' = k <;> simp [h']
    · rw [if_neg h, lookM_cons, lookM_cons, lookM_putM k k' v l]
      by_cases h' : k' = j
      · rw [if_pos h', if_pos h', if_neg (fun e => h (e.symm.trans h'))]
      · rw [if_neg h', if_neg h']
theorem lookM_none {k : κ} {l : List (κ × α)} : lookM l k = none ↔ k ∉ l.map (·.1) := by
  unfold lookM
  rw [Option.map_eq_none_iff, placeM_none]
theorem putM_new {k : κ} {l : List (κ × α)} (h : lookM l k = none) (v : α) : putM l k v = l ++ [(k, v)] := by
  have : placeM k l = none := by unfold lookM at h; exact Option.map_eq_none_iff.1 h
  unfold putM; rw [this]
theorem mem_cutM {k : κ} {t : κ × α} : ∀ {l : List (κ × α)}, (l.map (·.1)).Nodup → (t ∈ cutM l k ↔ t ∈ l ∧ t.1 ≠ k)
  | [], _ => by simp [cutM_nil]
  | (j, v) :: l, h => by
    rw [List.map_cons, List.nodup_cons] at h
    rw [cutM_cons]
    by_cases hk : k = j
    · subst hk
      rw [if_pos rfl, List.mem_cons]
      constructor
      · intro ht
        exact ⟨.inr ht, fun e => h.1 (List.mem_map.2 ⟨t, ht, e⟩)⟩
      · rintro ⟨rfl | ht, hn⟩
        · exact absurd rfl hn
        · exact ht
    · rw [if_neg hk, List.mem_cons, mem_cutM h.2, List.mem_cons]
      constructor
      · rintro (rfl | ⟨ht, hn⟩)
        · exact ⟨.inl rfl, fun e => hk e.symm⟩
        · exact ⟨.inr ht, hn⟩
      · rintro ⟨rfl | ht, hn⟩
        · exact .inl rfl
        · exact .inr ⟨ht, hn⟩
theorem cutM_sub (k : κ) : ∀ l : List (κ × α), (cutM l k).Sublist l
  | [] => List.Sublist.refl _
  | (j, v) :: l => by
    rw [cutM_cons]
    by_cases hk : k = j
    · rw [if_pos hk]; exact List.sublist_cons_self _ _
    · rw [if_neg hk]; exact (cutM_sub k l).cons_cons _
theorem cutM_nodup {k : κ} {l : List (κ × α)} (h : (l.map (·.1)).Nodup) : ((cutM l k).map (·.1)).Nodup := h.sublist ((cutM_sub k l).map _)
theorem putM_nodup {k : κ} {v : α} {l : List (κ × α)} (h : (l.map (·.1)).Nodup) : ((putM l k v).map (·.1)).Nodup := by
  rw [putM_keys]
  split
  · exact h
  · rename_i hk
    rw [List.nodup_append]
    exact ⟨h, by simp, fun a ha b hb e => hk (by simp at hb; subst hb; exact e ▸ ha)⟩
theorem lookM_iff {k : κ} {v : α} : ∀ {l : List (κ × α)}, (l.map (·.1)).Nodup → (lookM l k = some v ↔ (k, v) ∈ l)
  | [], _ => by simp [lookM, placeM]
  | (j, u) :: l, h => by
    rw [List.map_cons, List.nodup_cons] at h
    rw [lookM_cons, List.mem_cons]
    by_cases hk : k = j
    · subst hk
      rw [if_pos rfl]
      constructor
      · intro e; cases e; exact .inl rfl
      · rintro (e | e)
        · cases e; rfl
        · exact absurd (List.mem_map_of_mem (f := (·.1)) e) h.1
    · rw [if_neg hk, lookM_iff h.2]
      constructor
      · exact .inr
      · rintro (e | e)
        · cases e; exact absurd rfl hk
        · exact e
theorem lookM_cutM {k k' : κ} {l : List (κ × α)} (h : (l.map (·.1)).Nodup) : lookM (cutM l k) k' = if k' = k then none else lookM l k' := by
  by_cases hk : k' = k
  · rw [if_pos hk, lookM_none]
    intro hm
    obtain ⟨t, ht, e⟩ := List.mem_map.1 hm
    exact ((mem_cutM h).1 ht).2 (by simpa [hk] using e)
  · rw [if_neg hk]
    apply Option.ext
    intro v
    rw [lookM_iff (cutM_nodup h), lookM_iff h, mem_cutM h]
    exact ⟨fun h => h.1, fun h => ⟨h, hk⟩⟩
end
theorem map_eraseIdx' {α β : Type} (f : α → β) : ∀ (l : List α) (i : Nat), (l.eraseIdx i).map f = (l.map f).eraseIdx i
  | [], i => by simp
  | x :: l, 0 => by simp
  | x :: l, i + 1 => by simp [map_eraseIdx' f l i]
section
variable {P : Program} {n : Nat} {e : Env} {w : World} {κ : Type} [DecidableEq κ] {enc : κ → Value}
theorem Does.delete {d : Option Tmp} {t tk kt el : Nat} {x i : Operand} {ty : TypeId} {pos : String} {af : Array Edge} {g : Option (Nat × Bool)} (hT : P.underlying t = some (.map kt el)) (hK : KeyLaw P kt enc) {m : Nat} {k : κ} {l : List (κ × Value)}
    (hx : ev e x = some (.map (some m))) (hi : ev e i = some (enc k)) (hm : MapAt enc w m l) :
    Does P n e w ⟨d, .call { callee := .builtin .delete, args := #[x, i], argTypes := #[t, tk] }, ty, pos, af, g⟩ (fun _ w' => MapAt enc w' m (cutM l k) ∧ Mod (· = m) w w' ∧ w'.heap.size = w.heap.size) := by
  obtain ⟨es, c, h1, h2, h3, h4⟩ := hm.out
  have hlt : m < w.heap.size := (Array.getElem?_eq_some_iff.1 h1).1
  have hf := hK.find k es.toList l w h2
  have hg : (getObj m).run P w = .ok (.map es c) w := by simp [getObj, Sem.run, h1]
  have hset : ∀ o, (setObj m o).run P w = .ok () { w with heap := w.heap.setIfInBounds m o } := fun o => by simp [setObj, Sem.run, h1]
  have hmod : ∀ o, Mod (· = m) w { w with heap := w.heap.setIfInBounds m o } := fun o => ⟨rfl, rfl, rfl, by simp, fun k hk hn => by simp [Array.getElem?_setIfInBounds_ne (Ne.symm hn)]⟩
  have hat : ∀ o, ({ w with heap := w.heap.setIfInBounds m o } : World).heap[m]? = some o := fun o => by simp [hlt]
  cases hp : placeM k l with
  | some q =>
    obtain ⟨i0, v0⟩ := q
    refine Does.of_run (v := .tuple #[]) (w' := { w with heap := w.heap.setIfInBounds m (.map (es.eraseIdxIfInBounds i0) c) }) (fun a ha => ?_) ⟨⟨_, c, hat _, ?_, ?_, ?_⟩, hmod _, by simp⟩
    · simp [execOp, resolve, invoke, builtin, ha.ev hx, ha.ev hi, Builtin.delete_, run_underlying hT, hg, hK.check, hf, hp, hset]
    · simp only [cutM, hp, Array.toList_eraseIdxIfInBounds]
      rw [map_eraseIdx', h2, map_eraseIdx']
    · simp only [Array.toList_eraseIdxIfInBounds]
      exact h3.sublist ((List.eraseIdx_sublist _ _).map _)
    · intro x hx'
      simp only [Array.toList_eraseIdxIfInBounds] at hx'
      exact h4 x (List.mem_of_mem_eraseIdx hx')
  | none =>
    refine Does.of_run (v := .tuple #[]) (w' := { w with heap := w.heap.setIfInBounds m (.map es c) }) (fun a ha => ?_) ⟨⟨_, c, hat _, ?_, h3, h4⟩, hmod _, by simp⟩
    · simp [execOp, resolve, invoke, builtin, ha.ev hx, ha.ev hi, Builtin.delete_, run_underlying hT, hg, hK.check, hf, hp, hset]
    · simp only [cutM, hp]; exact h2
end
end Go.X
set_option linter.unusedVariables false
set_option linter.unusedSimpArgs false
namespace Go.X
open Go Go.RowKit
theorem Row.whole {w : World} {t : TypeId} {sz : Nat} {v : Value} {k : Nat} {xs : List Value} (h : Row w t sz v k xs) (hk : 0 < k) : ∃ g cap cs, v = .slice (some ⟨g, 0, none⟩) k cap ∧ Blk w g t cs ∧ cs.length = cap * sz ∧ k ≤ cap ∧ cap ≤ maxLen ∧ cs.take (k * sz) = xs := by
  rcases h.2 with ⟨rfl, rfl⟩ | ⟨g, cap, cur, rfl, _, hg, h1, h2, h3, h4⟩
  · omega
  · exact ⟨g, cap, cur.toList, rfl, by unfold Blk; simpa using hg, by simpa using h3, h1, h2, h4⟩
theorem Row.shut {w : World} {t g sz cap k : Nat} {cs : List Value} (h : Blk w g t cs) (hl : cs.length = cap * sz) (hk : k ≤ cap) (hc : cap ≤ maxLen) : Row w t sz (.slice (some ⟨g, 0, none⟩) k cap) k (cs.take (k * sz)) :=
  ⟨by rw [List.length_take, hl]; exact Nat.min_eq_left (Nat.mul_le_mul_right _ hk), .inr ⟨g, cap, cs.toArray, rfl, Nat.zero_le _, h, hk, hc, by simpa using hl, by simp⟩⟩
section
variable {P : Program} {n : Nat} {e : Env} {w : World} {C : World → Prop}
theorem Blk.setRow {g t : Nat} {cs cs' : List Value} (h : Blk w g t cs) : Blk (w.setRow g cs'.toArray) g t cs' ∧ Mod (· = g) w (w.setRow g cs'.toArray) ∧ (w.setRow g cs'.toArray).heap.size = w.heap.size := by
  have hlt := h.lt
  unfold Blk at h
  have e : w.setRow g cs'.toArray = { w with heap := w.heap.setIfInBounds g (.cells cs'.toArray t (0, 0)) } := by
    have h' : w.heap[g] = Obj.cells cs.toArray t := (Array.getElem?_eq_some_iff.1 h).2
    simp [World.setRow, Array.modify, Array.modifyM, hlt, h', Array.setIfInBounds]
  rw [e]
  exact ⟨by simp [Blk, hlt], ⟨rfl, rfl, rfl, by simp, fun k hk hn => by simp [Array.getElem?_setIfInBounds_ne (Ne.symm hn)]⟩, by simp⟩
theorem Does.appendIn {d : Option Tmp} {t el : Nat} {s x : Operand} {ty : TypeId} {pos : String} {af : Array Edge} {g' : Option (Nat × Bool)} (ht : SlT P t el) {z : Value} {sz by' : Nat} (hT : TI P el z sz by')
    {g i cap m : Nat} {u : Value} {cs news : List Value} (hs : ev e s = some (.slice (some ⟨g, 0, none⟩) i cap)) (hx : ev e x = some u) (hb : Blk w g el cs) (hl : cs.length = cap * sz) (hu : Sl No w u sz m news) (h1 : news.all (·.oneCell') = true) (hroom : i + m ≤ cap) :
    Does P n e w ⟨d, .call { callee := .builtin .append, args := #[s, x], argTypes := #[t, t] }, ty, pos, af, g'⟩
      (fun v' w' => v' = .slice (some ⟨g, 0, none⟩) (i + m) cap ∧ (∃ cs', Blk w' g el cs' ∧ cs'.length = cs.length ∧ cs'.take ((i + m) * sz) = cs.take (i * sz) ++ news) ∧ Mod (· = g) w w' ∧ w'.heap.size = w.heap.size) := by
  obtain ⟨q, hi, hz, hs', hby⟩ := hT.out
  obtain ⟨ad, c, rfl, hf⟩ := hu.form
  have hln := hu.len
  by_cases hm : m = 0
  · subst hm
    have hn : news = [] := List.eq_nil_of_length_eq_zero (by simpa using hln)
    subst hn
    refine Does.of_run (v := .slice (some ⟨g, 0, none⟩) (i + 0) cap) (w' := w) (fun a ha => ?_) ⟨rfl, ⟨cs, hb, rfl, by simp⟩, Mod.refl _ _, rfl⟩
    have hroom' : i ≤ cap := by omega
    cases ad <;> simp [execOp, resolve, invoke, builtin, ha.ev hs, ha.ev hx, Builtin.append_, run_underlying ht, sizeOf, typeInfo, hi, Builtin.lenOf, Builtin.firstCells, hroom', storeCells, loadCells, loadCellsFrom]
  · obtain ⟨b, o, rfl, _, hc⟩ := hf (by omega)
    have hfit : i * sz + news.length ≤ cs.length := by rw [hln, hl, ← Nat.add_mul]; exact Nat.mul_le_mul_right _ hroom
    have hr := run_append_room (P := P) (w := w) t ty el q ht hi g i cap cs.toArray hb ⟨b, o, none⟩ m c news (by rw [hln, hs']) (fun j u hj => by rw [add_none]; exact hc j u hj) (List.all_eq_true.1 h1) hroom (by rw [hs']; simpa using hfit)
    obtain ⟨g1, g2, g3⟩ := hb.setRow (cs' := (cs.toArray.toList.take (i * q.size) ++ news ++ cs.toArray.toList.drop (i * q.size + news.length)))
    refine Does.of_run (v := _) (w' := _) (fun a ha => ?_) ⟨rfl, ⟨_, g1, ?_, ?_⟩, g2, g3⟩
    · simp only [execOp, resolve, invoke, builtin, Array.map, ha.ev hs, ha.ev hx]
      simp [ha.ev hs, ha.ev hx, hr]
    · rw [hs']
      simp only [List.length_append, List.length_take, List.length_drop]
      omega
    · rw [hs']
      have e1 : (cs.take (i * sz) ++ news).length = (i + m) * sz := by
        rw [List.length_append, List.length_take, hln, Nat.min_eq_left (by omega), Nat.add_mul]
      simp only []
      rw [← e1, List.take_left]
theorem Yld.sliceLH {d : Option Tmp} {t el : Nat} {x l h : Operand} {ty : TypeId} {pos : String} {af : Array Edge} {g : Option (Nat × Bool)} (hT : SlT P t el) {z : Value} {sz by' : Nat} (hE : TI P el z sz by') {ad : Option Addr} {len cap lo hi : Nat} {k k' : IntKind} (hx : ev e x = some (.slice ad len cap)) (hl : ev e l = some (.int k (lo : Int))) (hh : ev e h = some (.int k' (hi : Int))) (h1 : lo ≤ hi) (h2 : hi ≤ cap) :
    Yld P n C e ⟨d, .slice t x (some l) (some h) none, ty, pos, af, g⟩ (.slice (fromAt ad cap lo sz) (hi - lo) (cap - lo)) := by
  intro a ha w _
  have e1 : (hi : Int) ≤ cap := by omega
  have e2 : (lo : Int) ≤ hi := by omega
  cases ad with
  | none => simp [execOp, ha.ev hx, ha.ev hl, ha.ev hh, Instr.sliceAt, Instr.slice, run_underlying hT, Instr.sliceBounds, Instr.sliceBound, asIntOf, hE.sizeOf w, e1, e2, h1, h2, fromAt]
  | some ad =>
    by_cases hcm : cap = lo
    · subst hcm
      obtain rfl : hi = cap := by omega
      simp [execOp, ha.ev hx, ha.ev hl, ha.ev hh, Instr.sliceAt, Instr.slice, run_underlying hT, Instr.sliceBounds, Instr.sliceBound, asIntOf, hE.sizeOf w, fromAt]
    · simp [execOp, ha.ev hx, ha.ev hl, ha.ev hh, Instr.sliceAt, Instr.slice, run_underlying hT, Instr.sliceBounds, Instr.sliceBound, asIntOf, hE.sizeOf w, e1, e2, h1, h2, hcm, fromAt]
theorem Yld.slice3 {d : Option Tmp} {t el : Nat} {x l h m : Operand} {ty : TypeId} {pos : String} {af : Array Edge} {g : Option (Nat × Bool)} (hT : SlT P t el) {z : Value} {sz by' : Nat} (hE : TI P el z sz by') {ad : Option Addr} {len cap lo hi mx : Nat} {k k' k2 : IntKind} (hx : ev e x = some (.slice ad len cap)) (hl : ev e l = some (.int k (lo : Int))) (hh : ev e h = some (.int k' (hi : Int))) (hm : ev e m = some (.int k2 (mx : Int))) (h1 : lo ≤ hi) (h2 : hi ≤ mx) (h3 : mx ≤ cap) :
    Yld P n C e ⟨d, .slice t x (some l) (some h) (some m), ty, pos, af, g⟩ (.slice (fromAt ad mx lo sz) (hi - lo) (mx - lo)) := by
  intro a ha w _
  have e1 : (hi : Int) ≤ mx := by omega
  have e2 : (lo : Int) ≤ hi := by omega
  have e3 : (mx : Int) ≤ cap := by omega
  cases ad with
  | none => simp [execOp, ha.ev hx, ha.ev hl, ha.ev hh, ha.ev hm, Instr.sliceAt, Instr.slice, run_underlying hT, Instr.sliceBounds, Instr.sliceBound, asIntOf, hE.sizeOf w, e1, e2, e3, h1, h2, h3, fromAt]
  | some ad =>
    by_cases hcm : mx = lo
    · subst hcm
      obtain rfl : hi = mx := by omega
      simp [execOp, ha.ev hx, ha.ev hl, ha.ev hh, ha.ev hm, Instr.sliceAt, Instr.slice, run_underlying hT, Instr.sliceBounds, Instr.sliceBound, asIntOf, hE.sizeOf w, e3, h3, fromAt]
    · simp [execOp, ha.ev hx, ha.ev hl, ha.ev hh, ha.ev hm, Instr.sliceAt, Instr.slice, run_underlying hT, Instr.sliceBounds, Instr.sliceBound, asIntOf, hE.sizeOf w, e1, e2, e3, h1, h2, h3, hcm, fromAt]
theorem Does.clear {d : Option Tmp} {t el : Nat} {x : Operand} {ty : TypeId} {pos : String} {af : Array Edge} {g' : Option (Nat × Bool)} (ht : SlT P t el) {z : Value} {sz by' : Nat} (hT : TI P el z sz by') (hzs : z.cells.size = sz) (hz1 : z.cells.all (·.oneCell') = true)
    {g lo m cap c : Nat} {cs : List Value} (hx : ev e x = some (.slice (fromAt (some ⟨g, 0, none⟩) cap lo sz) m c)) (hb : Blk w g el cs) (hl : cs.length = cap * sz) (hroom : lo + m ≤ cap) :
    Does P n e w ⟨d, .call { callee := .builtin .clear, args := #[x], argTypes := #[t] }, ty, pos, af, g'⟩
      (fun _ w' => (∃ cs', Blk w' g el cs' ∧ cs'.length = cs.length ∧ cs'.take (lo * sz) = cs.take (lo * sz)) ∧ Mod (· = g) w w' ∧ w'.heap.size = w.heap.size) := by
  by_cases hm : m = 0
  · subst hm
    refine Does.of_run (v := .tuple #[]) (w' := w) (fun a ha => ?_) ⟨⟨cs, hb, rfl, rfl⟩, Mod.refl _ _, rfl⟩
    simp only [fromAt, Option.map_some] at hx
    simp [execOp, resolve, invoke, builtin, ha.ev hx, Builtin.clear_, run_underlying ht]
  · have hne : ¬ cap = lo := by omega
    simp only [fromAt, Option.map_some, if_neg hne, add_none, Nat.zero_add] at hx
    have hsz : (Builtin.zeroCells z.cells m).toList.length = m * sz := by simp [Builtin.zeroCells, hzs]
    have hone : ∀ v ∈ (Builtin.zeroCells z.cells m).toList, v.oneCell' = true := fun v hv => by
      simp only [Builtin.zeroCells, Array.toList_map, List.mem_map] at hv
      obtain ⟨i, hi, rfl⟩ := hv
      have hi' : i < m * sz := by simpa [hzs] using hi
      have h0 : 0 < sz := by rcases Nat.eq_zero_or_pos sz with h | h; (rw [h] at hi'; omega); exact h
      have hlt : i % z.cells.size < z.cells.size := Nat.mod_lt _ (by omega)
      rw [getElem!_pos z.cells _ hlt]
      exact Array.all_eq_true.1 hz1 _ hlt
    have hfit : lo * sz + 0 + (Builtin.zeroCells z.cells m).toList.length ≤ cs.toArray.size := by
      rw [hsz, Nat.add_zero, ← Nat.add_mul]
      simp only [List.size_toArray, hl]
      exact Nat.mul_le_mul_right _ hroom
    have hr := run_storeCells_at (P := P) g (lo * sz) el (Builtin.zeroCells z.cells m).toList 0 cs.toArray w hb hfit hone
    obtain ⟨g1, g2, g3⟩ := hb.setRow (cs' := (cs.toArray.toList.take (lo * sz + 0) ++ (Builtin.zeroCells z.cells m).toList ++ cs.toArray.toList.drop (lo * sz + 0 + (Builtin.zeroCells z.cells m).toList.length)))
    rw [hsz] at hfit
    simp only [List.size_toArray] at hfit
    refine Does.of_run (v := .tuple #[]) (w' := _) (fun a ha => ?_) ⟨⟨_, g1, ?_, ?_⟩, g2, g3⟩
    · obtain ⟨q, rfl⟩ : ∃ q, m = q + 1 := ⟨m - 1, by omega⟩
      simp [execOp, resolve, invoke, builtin, ha.ev hx, Builtin.clear_, run_underlying ht, hT.zero w, hr]
    · simp only [List.length_append, List.length_take, List.length_drop, hsz]
      omega
    · simp only [Nat.add_zero]
      have e1 : (cs.take (lo * sz)).length = lo * sz := by rw [List.length_take]; omega
      rw [List.append_assoc, List.take_append_of_le_length (by omega), List.take_take]
      simp
end
end Go.X
namespace Go.X
open Go Go.RowKit
theorem Sl.ofBlk {M : Nat → Prop} {w : World} {g t sz cap lo m c : Nat} {cs : List Value} (h : Blk w g t cs) (hl : cs.length = cap * sz) (hr : lo + m ≤ cap) (hM : ¬ M g) (hb : m ≤ 9223372036854775807) : Sl M w (.slice (fromAt (some ⟨g, 0, none⟩) cap lo sz) m c) sz m ((cs.drop (lo * sz)).take (m * sz)) := by
  have h1 : (lo + m) * sz ≤ cap * sz := Nat.mul_le_mul_right _ hr
  rw [Nat.add_mul] at h1
  refine ⟨by rw [List.length_take, List.length_drop, hl]; omega, hb, _, _, rfl, fun h0 => ?_⟩
  have hne : ¬ cap = lo := by omega
  refine ⟨g, lo * sz, ?_, hM, fun i u hi => ?_⟩
  · simp [fromAt, hne, add_none]
  · rw [List.getElem?_take] at hi
    split at hi
    · rw [List.getElem?_drop] at hi
      exact h.cell' hi
    · cases hi
theorem flat_take {α : Type} (f : α → List Value) (sz : Nat) (hf : ∀ x, (f x).length = sz) : ∀ (xs : List α) (i : Nat), (xs.flatMap f).take (i * sz) = (xs.take i).flatMap f
  | [], i => by simp
  | x :: xs, 0 => by simp
  | x :: xs, i + 1 => by
    have e : (i + 1) * sz = (f x).length + i * sz := by rw [hf, Nat.add_mul]; omega
    rw [List.flatMap_cons, e, List.take_length_add_append, flat_take f sz hf xs i, List.take_succ_cons, List.flatMap_cons]
theorem flat_drop {α : Type} (f : α → List Value) (sz : Nat) (hf : ∀ x, (f x).length = sz) : ∀ (xs : List α) (i : Nat), (xs.flatMap f).drop (i * sz) = (xs.drop i).flatMap f
  | [], i => by simp
  | x :: xs, 0 => by simp
  | x :: xs, i + 1 => by
    have e : (i + 1) * sz = (f x).length + i * sz := by rw [hf, Nat.add_mul]; omega
    rw [List.flatMap_cons, e, List.drop_length_add_append, flat_drop f sz hf xs i, List.drop_succ_cons]
end Go.X
set_option linter.unusedVariables false
set_option linter.unusedSimpArgs false
namespace Go.X
open Go Go.RowKit
section
variable {P : Program} {n : Nat} {e : Env} {w : World} {C : World → Prop}
theorem wrap_u64 {x : Nat} (h : x < 18446744073709551616) : IntKind.u64.wrap (x : Int) = x := by rw [IntKind.wrap_u64]; omega
theorem wrap_u8 {x : Nat} (h : x < 256) : IntKind.u8.wrap (x : Int) = x := by
  have : IntKind.u8.wrap (x : Int) = (x : Int) % 256 := by rfl
  rw [this]; omega
theorem u64_and {a b : Nat} (ha : a < 18446744073709551616) (hb : b < 18446744073709551616) : IntKind.u64.wrap ((BitVec.ofInt 64 (a : Int) &&& BitVec.ofInt 64 (b : Int)).toNat : Int) = ((a &&& b : Nat) : Int) := by
  have e1 : (BitVec.ofInt 64 (a : Int)).toNat = a := by rw [BitVec.toNat_ofInt]; omega
  have e2 : (BitVec.ofInt 64 (b : Int)).toNat = b := by rw [BitVec.toNat_ofInt]; omega
  rw [BitVec.toNat_and, e1, e2]
  have : a &&& b ≤ a := Nat.and_le_left
  exact wrap_u64 (by omega)
theorem u64_or {a b : Nat} (ha : a < 18446744073709551616) (hb : b < 18446744073709551616) : IntKind.u64.wrap ((BitVec.ofInt 64 (a : Int) ||| BitVec.ofInt 64 (b : Int)).toNat : Int) = ((a ||| b : Nat) : Int) := by
  have e1 : (BitVec.ofInt 64 (a : Int)).toNat = a := by rw [BitVec.toNat_ofInt]; omega
  have e2 : (BitVec.ofInt 64 (b : Int)).toNat = b := by rw [BitVec.toNat_ofInt]; omega
  rw [BitVec.toNat_or, e1, e2]
  have : a ||| b < 2 ^ 64 := Nat.or_lt_two_pow (by omega) (by omega)
  exact wrap_u64 (by omega)
theorem Yld.shr {d : Option Tmp} {t : Nat} {x y : Operand} {t' ty : TypeId} {pos : String} {af : Array Edge} {g : Option (Nat × Bool)} {k k' : IntKind} {a s : Nat} (hx : ev e x = some (.int k (a : Int))) (hy : ev e y = some (.int k' (s : Int))) (hs : s ≤ k.bits) :
    Yld P n C e ⟨d, .binOp .shr t x y t', ty, pos, af, g⟩ (.int k ((a >>> s : Nat) : Int)) := by
  intro ac ha w _
  have h0 : ¬ ((s : Int) < 0) := by omega
  have h1 : min s k.bits = s := Nat.min_eq_left hs
  have h2 : (a : Int).fdiv (2 ^ s) = ((a >>> s : Nat) : Int) := by
    rw [Nat.shiftRight_eq_div_pow, Int.fdiv_eq_ediv_of_nonneg _ (by exact Int.le_of_lt (Int.pow_pos (by decide)))]
    simp
  simp [execOp, ha.ev hx, ha.ev hy, eqGuard, binOp, Op.shift, h0, h1]
  simpa using h2
theorem Yld.shl {d : Option Tmp} {t : Nat} {x y : Operand} {t' ty : TypeId} {pos : String} {af : Array Edge} {g : Option (Nat × Bool)} {k k' : IntKind} {a s : Nat} (hx : ev e x = some (.int k (a : Int))) (hy : ev e y = some (.int k' (s : Int))) (hs : s ≤ k.bits) :
    Yld P n C e ⟨d, .binOp .shl t x y t', ty, pos, af, g⟩ (.int k (k.wrap ((a <<< s : Nat) : Int))) := by
  intro ac ha w _
  have h0 : ¬ ((s : Int) < 0) := by omega
  have h1 : min s k.bits = s := Nat.min_eq_left hs
  have h2 : (a : Int) * 2 ^ s = ((a <<< s : Nat) : Int) := by
    rw [Nat.shiftLeft_eq]; simp
  simp [execOp, ha.ev hx, ha.ev hy, eqGuard, binOp, Op.shift, h0, h1]
  have := congrArg k.wrap h2
  simpa using this
theorem Yld.quo {d : Option Tmp} {t : Nat} {x y : Operand} {t' ty : TypeId} {pos : String} {af : Array Edge} {g : Option (Nat × Bool)} {k : IntKind} {a b : Int} (hx : ev e x = some (.int k a)) (hy : ev e y = some (.int k b)) (hb : b ≠ 0) :
    Yld P n C e ⟨d, .binOp .quo t x y t', ty, pos, af, g⟩ (.int k (k.wrap (a.tdiv b))) := by
  intro ac ha w _
  simp [execOp, ha.ev hx, ha.ev hy, eqGuard, binOp, Op.intDiv, hb]
theorem Yld.rem {d : Option Tmp} {t : Nat} {x y : Operand} {t' ty : TypeId} {pos : String} {af : Array Edge} {g : Option (Nat × Bool)} {k : IntKind} {a b : Int} (hx : ev e x = some (.int k a)) (hy : ev e y = some (.int k b)) (hb : b ≠ 0) :
    Yld P n C e ⟨d, .binOp .rem t x y t', ty, pos, af, g⟩ (.int k (a.tmod b)) := by
  intro ac ha w _
  simp [execOp, ha.ev hx, ha.ev hy, eqGuard, binOp, Op.intDiv, hb]
end
end Go.X
set_option linter.unusedVariables false
set_option linter.unusedSimpArgs false
namespace Go.X
open Go Go.RowKit
section
variable {P : Program} {n : Nat} {e : Env} {w : World}
theorem loadVarN {t b o : Nat} {cs : List Value} (hT : Agg P t cs.length) (hc : ∀ j v, cs[j]? = some v → w.cell? ⟨b, o + j, none⟩ = some v) : (loadVar t ⟨b, o, none⟩).run P w = .ok (.agg cs.toArray) w := by
  have := run_loadCells_list (P := P) w ⟨b, o, none⟩ cs (fun j v hj => by rw [add_none]; exact hc j v hj)
  simp [loadVar, hT.agg w, hT.size w, this]
theorem resC {fn : Func} {a t : Nat} (h : fn.results = #[.cell a t]) {b : Nat} (ha : get e a = some (.pointer (some ⟨b, 0, none⟩))) {cs : List Value} (hT : Agg P t cs.length) {T : Nat} (hc : Blk w b T cs) : ∀ ac, Fits e n ac → (results fn ac.tmps).run P w = .ok (.agg cs.toArray) w := fun ac hac => by
  have h1 := hac.look a _ ha
  rw [Array.getD_eq_getD_getElem?] at h1
  have h2 := loadVarN (P := P) (w := w) (b := b) (o := 0) hT (fun j v hj => by rw [Nat.zero_add]; exact hc.cell' hj)
  simp [results, h, h1, asAddr, h2]
theorem resCT {fn : Func} {a t u : Nat} (h : fn.results = #[.cell a t, .tmp u]) {b : Nat} (ha : get e a = some (.pointer (some ⟨b, 0, none⟩))) {cs : List Value} (hT : Agg P t cs.length) {T : Nat} (hc : Blk w b T cs) {v : Value} (hv : get e u = some v) : ∀ ac, Fits e n ac → (results fn ac.tmps).run P w = .ok (.tuple #[.agg cs.toArray, v]) w := fun ac hac => by
  have h1 := hac.look a _ ha
  have h3 := hac.look u _ hv
  rw [Array.getD_eq_getD_getElem?] at h1 h3
  have h2 := loadVarN (P := P) (w := w) (b := b) (o := 0) hT (fun j v hj => by rw [Nat.zero_add]; exact hc.cell' hj)
  simp [results, h, h1, h3, asAddr, h2]
end
end Go.X
set_option linter.unusedVariables false
set_option linter.unusedSimpArgs false
namespace Go.X
open Go Go.RowKit
section
variable {P : Program} {n : Nat} {e : Env} {w : World} {C : World → Prop}
end
theorem Sl.pass {M M' : Nat → Prop} {w w' : World} {v : Value} {sz n : Nat} {cs : List Value} (h : Sl M w v sz n cs) (hsz : 0 < sz) (hm : Mod M w w') (hM : ∀ b, M' b → M b ∨ w.heap.size ≤ b) : Sl M' w' v sz n cs := by
  have h1 : Sl (fun b => M b ∨ M' b) w v sz n cs := h.off hsz (fun b hb e => by
    rcases e with e | e
    · exact e
    · rcases hM b e with h2 | h2
      · exact h2
      · omega)
  exact (h1.mod (hm.mono fun b _ e => .inl e)).off hsz (fun b _ e => .inr e)
end Go.X
set_option linter.unusedVariables false
set_option linter.unusedSimpArgs false
namespace Go.X
open Go Go.RowKit
inductive OT where
  | nil
  | op (i : Nat) (loud : Bool) (t : OT)
  | fork (i : Nat) (p : OT) (j : Nat) (q : OT)
  | fork3 (i : Nat) (p : OT) (j : Nat) (q : OT) (m : Nat) (r : OT)
def OT.len : OT → Nat
  | .nil => 0
  | .op _ _ t => t.len + 1
  | .fork _ p _ _ => p.len + 1
  | .fork3 _ p _ _ _ _ => p.len + 1
def wpOT (P : Program) (ops : Array Oper) (S : World → Prop) (tl : List Nat) (Q : Exit → Act → World → Prop) : OT → Act → World → Prop
  | .nil, a, w => Q .normal a w
  | .op i false t, a, w => ∃ o v, ops[i]? = some o ∧ (YieldsIf P ops (fun _ => True) o v a ∨ tailOk ops tl i = true ∧ YieldsIf P ops S o v a ∧ S w) ∧ wpOT P ops S tl Q t (a.put o.dst v) w
  | .op i true t, a, w => wpOp P ops Q i (fun a' w' => (tl.contains i = false → S w → S w') ∧ wpOT P ops S tl Q t a' w') a w
  | .fork i p j q, a, w => wpOp P ops Q i (fun a' w' => (tl.contains i = false → S w → S w') ∧ wpOT P ops S tl Q p a' w') a w ∧ wpOp P ops Q j (fun a' w' => (tl.contains j = false → S w → S w') ∧ wpOT P ops S tl Q q a' w') a w
  | .fork3 i p j q m r, a, w => wpOp P ops Q i (fun a' w' => (tl.contains i = false → S w → S w') ∧ wpOT P ops S tl Q p a' w') a w ∧ wpOp P ops Q j (fun a' w' => (tl.contains j = false → S w → S w') ∧ wpOT P ops S tl Q q a' w') a w ∧ wpOp P ops Q m (fun a' w' => (tl.contains m = false → S w → S w') ∧ wpOT P ops S tl Q r a' w') a w
def DT (P : Program) (n : Nat) (ops : List Oper) (S : World → Prop) (tl : List Nat) (rest : OT) (e : Env) (w : World) (K : Exit → Act → World → Prop) : Prop := ∀ a, Fits e n a → wpOT P ops.toArray S tl K rest a w
section
variable {P : Program} {f : FuncId} {n : Nat} {R : Ending → World → Prop} {k : List Item} {e : Env} {w : World} {ops : List Oper} {rest : OT} {K : Exit → Act → World → Prop} {S : World → Prop} {tl : List Nat}
theorem DT.fork {i j : Nat} {p q : OT} (h1 : DT P n ops S tl (.op i true p) e w K) (h2 : DT P n ops S tl (.op j true q) e w K) : DT P n ops S tl (.fork i p j q) e w K := fun a ha => ⟨h1 a ha, h2 a ha⟩
theorem DT.fork3 {i j m : Nat} {p q r : OT} (h1 : DT P n ops S tl (.op i true p) e w K) (h2 : DT P n ops S tl (.op j true q) e w K) (h3 : DT P n ops S tl (.op m true r) e w K) : DT P n ops S tl (.fork3 i p j q m r) e w K := fun a ha => ⟨h1 a ha, h2 a ha, h3 a ha⟩
theorem DT.done (h : RK P f n R k e w) : DT P n ops S tl .nil e w (post P f R k) := fun a ha => h a ha
theorem DT.q {i : Nat} {o : Oper} {d : Nat} {v : Value} (hi : nth ops i = some o) (hw : Want ops.toArray e o true) (hd : o.dst = some d) (hb : Nat.blt d n = true) (ht : tailOk ops.toArray tl i = true) (hy : Yld P n S e o v) (hS : S w) (h : DT P n ops S tl rest ((d, v) :: e) w K) :
    DT P n ops S tl (.op i false rest) e w K := by
  intro a ha
  refine ⟨o, v, by rw [← nth_eq, hi], .inr ⟨ht, .inl ⟨hw.at_ ha, fun w' hS => hy a ha w' hS⟩, hS⟩, ?_⟩
  rw [hd]
  exact h _ (ha.put hb v)
theorem DT.qf {i : Nat} {o : Oper} {d : Nat} {v : Value} (hi : nth ops i = some o) (hw : Want ops.toArray e o true) (hd : o.dst = some d) (hb : Nat.blt d n = true) (hy : Yld P n (fun _ => True) e o v) (h : DT P n ops S tl rest ((d, v) :: e) w K) :
    DT P n ops S tl (.op i false rest) e w K := by
  intro a ha
  refine ⟨o, v, by rw [← nth_eq, hi], .inl (.inl ⟨hw.at_ ha, fun w' hS => hy a ha w' hS⟩), ?_⟩
  rw [hd]
  exact h _ (ha.put hb v)
theorem DT.no {i : Nat} {o : Oper} {d : Nat} (hi : nth ops i = some o) (hw : Want ops.toArray e o false) (hd : o.dst = some d) (hb : Nat.blt d n = true) (h : DT P n ops S tl rest ((d, undef) :: e) w K) :
    DT P n ops S tl (.op i false rest) e w K := by
  intro a ha
  refine ⟨o, undef, by rw [← nth_eq, hi], .inl (.inr ⟨hw.at_ ha, rfl⟩), ?_⟩
  rw [hd]
  exact h _ (ha.put hb undef)
theorem DT.lno {i : Nat} {o : Oper} {d : Nat} (hi : nth ops i = some o) (hw : Want ops.toArray e o false) (hd : o.dst = some d) (hb : Nat.blt d n = true) (h : DT P n ops S tl rest ((d, undef) :: e) w K) :
    DT P n ops S tl (.op i true rest) e w K := by
  intro a ha
  have hi' : ops.toArray[i]? = some o := by rw [← nth_eq, hi]
  unfold wpOT wpOp
  simp only [hi']
  rw [if_neg (by rw [hw.at_ ha]; decide), hd]
  exact ⟨fun _ h => h, h _ (ha.put hb undef)⟩
theorem DT.op {i : Nat} {o : Oper} {d : Nat} {Q : Value → World → Prop} (hi : nth ops i = some o) (hw : Want ops.toArray e o true) (hd : o.dst = some d) (hb : Nat.blt d n = true) (hy : Does P n e w o Q) (h : ∀ v w', Q v w' → S w' ∧ DT P n ops S tl rest ((d, v) :: e) w' K) :
    DT P n ops S tl (.op i true rest) e w K := by
  intro a ha
  have hi' : ops.toArray[i]? = some o := by rw [← nth_eq, hi]
  unfold wpOT wpOp
  simp only [hi']
  rw [if_pos (hw.at_ ha)]
  refine .inl (hy a ha _ _ fun v w' hv => ⟨fun _ _ => (h v w' hv).1, ?_⟩)
  rw [hd]
  exact (h v w' hv).2 _ (ha.put hb v)
theorem DT.op' {i : Nat} {o : Oper} {Q : Value → World → Prop} (hi : nth ops i = some o) (hw : Want ops.toArray e o true) (hd : o.dst = none) (hy : Does P n e w o Q) (h : ∀ v w', Q v w' → S w' ∧ DT P n ops S tl rest e w' K) :
    DT P n ops S tl (.op i true rest) e w K := by
  intro a ha
  have hi' : ops.toArray[i]? = some o := by rw [← nth_eq, hi]
  unfold wpOT wpOp
  simp only [hi']
  rw [if_pos (hw.at_ ha)]
  refine .inl (hy a ha _ _ fun v w' hv => ⟨fun _ _ => (h v w' hv).1, ?_⟩)
  rw [hd]
  exact (h v w' hv).2 _ ha
theorem DT.opT {i : Nat} {o : Oper} {Q : Value → World → Prop} (hi : nth ops i = some o) (hw : Want ops.toArray e o true) (hd : o.dst = none) (hT : tl.contains i = true) (hy : Does P n e w o Q) (h : ∀ v w', Q v w' → DT P n ops S tl rest e w' K) :
    DT P n ops S tl (.op i true rest) e w K := by
  intro a ha
  have hi' : ops.toArray[i]? = some o := by rw [← nth_eq, hi]
  unfold wpOT wpOp
  simp only [hi']
  rw [if_pos (hw.at_ ha)]
  refine .inl (hy a ha _ _ fun v w' hv => ⟨fun h0 => (by rw [hT] at h0; cases h0), ?_⟩)
  rw [hd]
  exact (h v w' hv) _ ha
theorem DT.p {ops : List Oper} {rest : OT} {S : World → Prop} {tl : List Nat} {i d : Nat} {op : Op} {t : TypeId} {pos : String} {af : Array Edge} {v : Value} (hi : nth ops i = some ⟨some d, op, t, pos, af, none⟩) (hp : pureOp e op = some v) (hb : Nat.blt d n = true) (h : DT P n ops S tl rest ((d, v) :: e) w K) :
    DT P n ops S tl (.op i false rest) e w K := DT.qf hi (.free rfl) rfl hb (Yld.pure hp) h
theorem DT.re {ops : List Oper} {rest : OT} {S : World → Prop} {tl : List Nat} {d : Nat} {v v' : Value} (hg : get e d = some v) (hb : Nat.blt d n = true) (hv : v = v') (h : DT P n ops S tl rest ((d, v') :: e) w K) : DT P n ops S tl rest e w K := fun a ha => h a (ha.again hg hv)
theorem DT.split {ops : List Oper} {rest : OT} {S : World → Prop} {tl : List Nat} {d : Nat} {t : Bool} (hg : get e d = some (.bool t)) (hb : Nat.blt d n = true) (h1 : t = true → DT P n ops S tl rest ((d, .bool true) :: e) w K) (h2 : t = false → DT P n ops S tl rest ((d, .bool false) :: e) w K) : DT P n ops S tl rest e w K := by
  cases t with
  | true => exact DT.re hg hb rfl (h1 rfl)
  | false => exact DT.re hg hb rfl (h2 rfl)
theorem DT.knownT {ops : List Oper} {rest : OT} {S : World → Prop} {tl : List Nat} {d : Nat} {t : Bool} (hg : get e d = some (.bool t)) (hb : Nat.blt d n = true) (ht : t = true) (h1 : DT P n ops S tl rest ((d, .bool true) :: e) w K) : DT P n ops S tl rest e w K := DT.re hg hb (by rw [ht]) h1
theorem DT.knownF {ops : List Oper} {rest : OT} {S : World → Prop} {tl : List Nat} {d : Nat} {t : Bool} (hg : get e d = some (.bool t)) (hb : Nat.blt d n = true) (ht : t = false) (h1 : DT P n ops S tl rest ((d, .bool false) :: e) w K) : DT P n ops S tl rest e w K := DT.re hg hb (by rw [ht]) h1
theorem DT.splitD {ops : List Oper} {rest : OT} {S : World → Prop} {tl : List Nat} {d : Nat} {p : Prop} [hp : Decidable p] (hg : get e d = some (.bool (decide p))) (hb : Nat.blt d n = true) (h1 : p → DT P n ops S tl rest ((d, .bool true) :: e) w K) (h2 : ¬ p → DT P n ops S tl rest ((d, .bool false) :: e) w K) : DT P n ops S tl rest e w K :=
  DT.split hg hb (fun h => h1 (of_decide_eq_true h)) (fun h => h2 (of_decide_eq_false h))
theorem DT.splitN {ops : List Oper} {rest : OT} {S : World → Prop} {tl : List Nat} {d : Nat} {p : Prop} [hp : Decidable p] (hg : get e d = some (.bool (!decide p))) (hb : Nat.blt d n = true) (h1 : ¬ p → DT P n ops S tl rest ((d, .bool true) :: e) w K) (h2 : p → DT P n ops S tl rest ((d, .bool false) :: e) w K) : DT P n ops S tl rest e w K :=
  DT.split hg hb (fun h => h1 (by simpa using h)) (fun h => h2 (by simpa using h))
end
end Go.X
