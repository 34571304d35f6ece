/- What the claim stands on, part 2. Of own lemmas only those that it reaches. -/
import Derived.Test.YtnnmgfnhblbolaaGreatDoorKc1
namespace Go.Proofs
open Go.Shelf
def Tryz.lays213_ren : Go.Shelf.Ren := ⟨fun | 213 => 294 | 265 => 317 | n => n, fun | 9 => 9 | 3 => 3 | n => n, fun | n => n⟩
def Tryz.lays106_ren : Go.Shelf.Ren := ⟨fun | 106 => 257 | 213 => 294 | 265 => 317 | n => n, fun | 9 => 9 | 3 => 3 | n => n, fun | n => n⟩
theorem Tryz.lays106 : Go.Proofs.Lays.n106 Tryz.prog Tryz.lays106_ren := {
  mixed := by kernel_rfl
  f106 := Tryz.func257.trans (congrArg some (by kernel_rfl))
  f213 := Tryz.func294.trans (congrArg some (by kernel_rfl))
  f265 := Tryz.func317.trans (congrArg some (by kernel_rfl))
  t3 := Tryz.underlying3
  a3 := Tryz.isAgg3
  z3 := Tryz.sizeOf3
  v3 := Tryz.zeroValue3
  t9 := Tryz.underlying9
  a9 := Tryz.isAgg9
  z9 := Tryz.sizeOf9
  v9 := Tryz.zeroValue9 }
open Go.RowKit in
theorem Tryz.strings_Compare (a b : ByteArray) (w : World) :
    Calls Tryz.prog 257 #[.string a, .string b] w fun e w' => e = .returned (.int .i64 (Lib.compareBytes a.data.toList b.data.toList)) ∧ w' = w := Any.strings_Compare Tryz.lays106 a b w
def Tryz.lays137_ren : Go.Shelf.Ren := ⟨fun | 137 => 361 | 217 => 364 | 266 => 365 | n => n, fun | 9 => 9 | 5 => 5 | 3 => 3 | n => n, fun | n => n⟩
theorem Tryz.lays137 : Go.Proofs.Lays.n137 Tryz.prog Tryz.lays137_ren := {
  mixed := by kernel_rfl
  f137 := Tryz.func361.trans (congrArg some (by kernel_rfl))
  f217 := Tryz.func364.trans (congrArg some (by kernel_rfl))
  f266 := Tryz.func365.trans (congrArg some (by kernel_rfl))
  t3 := Tryz.underlying3
  a3 := Tryz.isAgg3
  z3 := Tryz.sizeOf3
  v3 := Tryz.zeroValue3
  t5 := Tryz.underlying5
  a5 := Tryz.isAgg5
  z5 := Tryz.sizeOf5
  v5 := Tryz.zeroValue5
  t9 := Tryz.underlying9
  a9 := Tryz.isAgg9
  z9 := Tryz.sizeOf9
  v9 := Tryz.zeroValue9 }
open Go.RowKit in
theorem Tryz.strings_IndexByte (s : ByteArray) (c : Int) (w : World) :
    Calls Tryz.prog 361 #[.string s, .int .u8 c] w fun e w' => e = .returned (.int .i64 (Lib.indexByte s.data.toList c.toNat.toUInt8)) ∧ w' = w := Any.strings_IndexByte Tryz.lays137 s c w
def Tryz.lays215_ren : Go.Shelf.Ren := ⟨fun | 215 => 249 | n => n, fun | 3 => 3 | 4 => 4 | n => n, fun | n => n⟩
def Tryz.lays122_ren : Go.Shelf.Ren := ⟨fun | 122 => 188 | 215 => 249 | n => n, fun | 3 => 3 | 4 => 4 | n => n, fun | n => n⟩
theorem Tryz.lays122 : Go.Proofs.Lays.n122 Tryz.prog Tryz.lays122_ren := {
  mixed := by kernel_rfl
  f122 := Tryz.func188.trans (congrArg some (by kernel_rfl))
  f215 := Tryz.func249.trans (congrArg some (by kernel_rfl))
  t3 := Tryz.underlying3
  a3 := Tryz.isAgg3
  z3 := Tryz.sizeOf3
  v3 := Tryz.zeroValue3
  t4 := Tryz.underlying4
  a4 := Tryz.isAgg4
  z4 := Tryz.sizeOf4
  v4 := Tryz.zeroValue4 }
open Go.RowKit in
theorem Tryz.cmp_Compare_int (x y : Int) (w : World) :
    Calls Tryz.prog 188 #[.int .i64 x, .int .i64 y] w fun e w' => e = .returned (.int .i64 (Lib.compareInt x y)) ∧ w' = w := Any.cmp_Compare_int Tryz.lays122 x y w
def Tryz.lays189_ren : Go.Shelf.Ren := ⟨fun | 189 => 270 | 125 => 237 | 257 => 303 | 128 => 283 | 129 => 284 | 294 => 326 | 295 => 327 | 296 => 328 | 297 => 329 | 298 => 330 | 299 => 331 | 216 => 290 | 300 => 332 | 301 => 333 | 328 => 347 | 329 => 305 | 330 => 306 | 331 => 348 | 332 => 349 | 215 => 249 | 343 => 355 | n => n, fun | 28 => 41 | 3 => 3 | 46 => 248 | 0 => 0 | 51 => 253 | 53 => 24 | 4 => 4 | 183 => 349 | 182 => 348 | 131 => 95 | 5 => 5 | 9 => 9 | 218 => 369 | 222 => 372 | 228 => 392 | 229 => 393 | n => n, fun | n => n⟩
theorem Tryz.lays189 : Go.Proofs.Lays.n189 Tryz.prog Tryz.lays189_ren := {
  mixed := by kernel_rfl
  f125 := Tryz.func237.trans (congrArg some (by kernel_rfl))
  f128 := Tryz.func283.trans (congrArg some (by kernel_rfl))
  f129 := Tryz.func284.trans (congrArg some (by kernel_rfl))
  f189 := Tryz.func270.trans (congrArg some (by kernel_rfl))
  f215 := Tryz.func249.trans (congrArg some (by kernel_rfl))
  f216 := Tryz.func290.trans (congrArg some (by kernel_rfl))
  f257 := Tryz.func303.trans (congrArg some (by kernel_rfl))
  f294 := Tryz.func326.trans (congrArg some (by kernel_rfl))
  f295 := Tryz.func327.trans (congrArg some (by kernel_rfl))
  f296 := Tryz.func328.trans (congrArg some (by kernel_rfl))
  f297 := Tryz.func329.trans (congrArg some (by kernel_rfl))
  f298 := Tryz.func330.trans (congrArg some (by kernel_rfl))
  f299 := Tryz.func331.trans (congrArg some (by kernel_rfl))
  f300 := Tryz.func332.trans (congrArg some (by kernel_rfl))
  f301 := Tryz.func333.trans (congrArg some (by kernel_rfl))
  f328 := Tryz.func347.trans (congrArg some (by kernel_rfl))
  f329 := Tryz.func305.trans (congrArg some (by kernel_rfl))
  f330 := Tryz.func306.trans (congrArg some (by kernel_rfl))
  f331 := Tryz.func348.trans (congrArg some (by kernel_rfl))
  f332 := Tryz.func349.trans (congrArg some (by kernel_rfl))
  f343 := Tryz.func355.trans (congrArg some (by kernel_rfl))
  t0 := Tryz.underlying0
  a0 := Tryz.isAgg0
  z0 := Tryz.sizeOf0
  v0 := Tryz.zeroValue0
  t3 := Tryz.underlying3
  a3 := Tryz.isAgg3
  z3 := Tryz.sizeOf3
  v3 := Tryz.zeroValue3
  t4 := Tryz.underlying4
  a4 := Tryz.isAgg4
  z4 := Tryz.sizeOf4
  v4 := Tryz.zeroValue4
  t5 := Tryz.underlying5
  a5 := Tryz.isAgg5
  z5 := Tryz.sizeOf5
  v5 := Tryz.zeroValue5
  t9 := Tryz.underlying9
  a9 := Tryz.isAgg9
  z9 := Tryz.sizeOf9
  v9 := Tryz.zeroValue9
  t28 := Tryz.underlying41
  a28 := Tryz.isAgg41
  z28 := Tryz.sizeOf41
  v28 := Tryz.zeroValue41
  t46 := Tryz.underlying248
  a46 := Tryz.isAgg248
  z46 := Tryz.sizeOf248
  v46 := Tryz.zeroValue248
  t51 := Tryz.underlying253
  a51 := Tryz.isAgg253
  z51 := Tryz.sizeOf253
  v51 := Tryz.zeroValue253
  t53 := Tryz.underlying24
  a53 := Tryz.isAgg24
  z53 := Tryz.sizeOf24
  v53 := Tryz.zeroValue24
  t131 := Tryz.underlying95
  a131 := Tryz.isAgg95
  z131 := Tryz.sizeOf95
  v131 := Tryz.zeroValue95
  t182 := Tryz.underlying348
  a182 := Tryz.isAgg348
  z182 := Tryz.sizeOf348
  v182 := Tryz.zeroValue348
  t183 := Tryz.underlying349
  a183 := Tryz.isAgg349
  z183 := Tryz.sizeOf349
  v183 := Tryz.zeroValue349
  t218 := Tryz.underlying369
  a218 := Tryz.isAgg369
  z218 := Tryz.sizeOf369
  v218 := Tryz.zeroValue369
  t222 := Tryz.underlying372
  a222 := Tryz.isAgg372
  z222 := Tryz.sizeOf372
  v222 := Tryz.zeroValue372
  t228 := Tryz.underlying392
  a228 := Tryz.isAgg392
  z228 := Tryz.sizeOf392
  v228 := Tryz.zeroValue392
  t229 := Tryz.underlying393
  a229 := Tryz.isAgg393
  z229 := Tryz.sizeOf393
  v229 := Tryz.zeroValue393 }
open Go.Sort Go.RowKit in
theorem Tryz.slices_Sort_int (blk off cap : Nat) (zs : List Int) (w : World) (hH : Holds (Value.int .i64) w blk off zs.toArray) (hblk : blk < w.heap.size) (hsz : zs.length < 4611686018427387904) :
    Calls Tryz.prog 270 #[.slice (some ⟨blk, off, none⟩) zs.length cap] w fun e w' =>
      e = .returned (.tuple #[]) ∧ ∃ n os, w' = grow (putRow (Value.int .i64) (Sort.ahead w n) blk off (zs.mergeSort fun x y => decide (x ≤ y)).toArray) os := Any.slices_Sort_int Tryz.lays189 blk off cap zs w hH hblk hsz
def Tryz.lays107_ren : Go.Shelf.Ren := ⟨fun | 107 => 299 | 108 => 321 | n => n, fun | 28 => 41 | 3 => 3 | 4 => 4 | 0 => 0 | n => n, fun | n => n⟩
theorem Tryz.lays107 : Go.Proofs.Lays.n107 Tryz.prog Tryz.lays107_ren := {
  mixed := by kernel_rfl
  f107 := Tryz.func299.trans (congrArg some (by kernel_rfl))
  f108 := Tryz.func321.trans (congrArg some (by kernel_rfl))
  t0 := Tryz.underlying0
  a0 := Tryz.isAgg0
  z0 := Tryz.sizeOf0
  v0 := Tryz.zeroValue0
  t3 := Tryz.underlying3
  a3 := Tryz.isAgg3
  z3 := Tryz.sizeOf3
  v3 := Tryz.zeroValue3
  t4 := Tryz.underlying4
  a4 := Tryz.isAgg4
  z4 := Tryz.sizeOf4
  v4 := Tryz.zeroValue4
  t28 := Tryz.underlying41
  a28 := Tryz.isAgg41
  z28 := Tryz.sizeOf41
  v28 := Tryz.zeroValue41 }
open Go.Lib in
theorem Tryz.slices_Contains_int (b off n c : Nat) (zs : List Int) (x : Int) (w : World) (hz : n ≤ zs.length) (hbig : n ≤ 9223372036854775807) (hc : ∀ j, j < zs.length → w.cell? ⟨b, off + j, none⟩ = some (.int .i64 (zs.getD j 0))) :
    Calls Tryz.prog 299 #[.slice (some ⟨b, off, none⟩) n c, .int .i64 x] w fun e w' => e = .returned (.bool ((zs.take n).contains x)) ∧ w' = w := Any.slices_Contains_int Tryz.lays107 b off n c zs x w hz hbig hc
open Go.Lib in
theorem Tryz.slices_Contains_int_empty (a : Option Addr) (c : Nat) (x : Int) (w : World) :
    Calls Tryz.prog 299 #[.slice a 0 c, .int .i64 x] w fun e w' => e = .returned (.bool false) ∧ w' = w := Any.slices_Contains_int_empty Tryz.lays107 a c x w
def Tryz.laysNm220_ren : Go.Shelf.Ren := ⟨fun | 20 => 271 | n => n, fun | 22 => 41 | 3 => 3 | 4 => 4 | 0 => 0 | n => n, fun | n => n⟩
theorem Tryz.laysNm220 : Go.Proofs.Lays2.n20 Tryz.prog Tryz.laysNm220_ren := {
  mixed := by kernel_rfl
  f20 := Tryz.func271.trans (congrArg some (by kernel_rfl))
  t0 := Tryz.underlying0
  a0 := Tryz.isAgg0
  z0 := Tryz.sizeOf0
  v0 := Tryz.zeroValue0
  t3 := Tryz.underlying3
  a3 := Tryz.isAgg3
  z3 := Tryz.sizeOf3
  v3 := Tryz.zeroValue3
  t4 := Tryz.underlying4
  a4 := Tryz.isAgg4
  z4 := Tryz.sizeOf4
  v4 := Tryz.zeroValue4
  t22 := Tryz.underlying41
  a22 := Tryz.isAgg41
  z22 := Tryz.sizeOf41
  v22 := Tryz.zeroValue41
  i3 := by kernel_rfl }
open Go.RowKit Go.Lib Go.Sort in
theorem Tryz.slices_Compact_int (blk off cap : Nat) (zs : List Int) (w : World) (hH : Holds (Value.int .i64) w blk off zs.toArray) (hsz : zs.length ≤ 9223372036854775807) (hcap : zs.length ≤ cap) :
    Calls Tryz.prog 271 #[.slice (some ⟨blk, off, none⟩) zs.length cap] w fun e w' => e = .returned (.slice (some ⟨blk, off, none⟩) (Lib.compact zs).length cap) ∧ ∃ q, w' = putRow (Value.int .i64) (Sort.ahead w q) blk off (Lib.compact zs ++ List.replicate (zs.length - (Lib.compact zs).length) 0).toArray := Any.slices_Compact_int Tryz.laysNm220 blk off cap zs w hH hsz hcap
open Go.RowKit Go.Lib Go.Sort in
theorem Tryz.slices_Compact_int_empty (a : Option Addr) (cap : Nat) (w : World) :
    Calls Tryz.prog 271 #[.slice a 0 cap] w fun e w' => e = .returned (.slice a 0 cap) ∧ w' = w := Any.slices_Compact_int_empty Tryz.laysNm220 a cap w
open Go.RowKit Go.Sort in
theorem Tryz.slices_Sort_int_none (p : Option Addr) (cap : Nat) (w : World) :
    Calls Tryz.prog 270 #[.slice p 0 cap] w fun e w' => e = .returned (.tuple #[]) ∧ w' = w := Any.slices_Sort_int_none Tryz.lays189 p cap w
end Go.Proofs
set_option linter.unusedVariables false
set_option linter.unusedSimpArgs false
set_option maxHeartbeats 400000
set_option maxRecDepth 100000
namespace Go.Proofs.YtnnmgfnhblbolaaGreatDoor
open Go Go.X
@[irreducible] def letS (c : Int) : Bool := decide (97 ≤ c ∧ c ≤ 122 ∨ 65 ≤ c ∧ c ≤ 90 ∨ c = 95)
theorem letter_ok (c : Int) (w : World) : Fx Tryz.prog 285 [.int .u8 c] w (fun v w' => v = .bool (letS c) ∧ w = w') := by
  refine enter Tryz.func285 rfl rfl rfl _ (Pick.sub (l := [0]) (.cons rfl .nil)) ?_
  refine RK.seq ?_
  refine RK.region ?_
  refine RL.p rfl rfl ?_
  refine RL.done ?_
  refine RK.seq ?_
  refine RK.region ?_
  iterate 3 refine RL.p rfl rfl ?_
  first | refine RL.splitD (d := 5) rfl rfl (fun h5 => ?_) (fun h5 => ?_) | refine RL.splitN (d := 5) rfl rfl (fun h5 => ?_) (fun h5 => ?_) | refine RL.split (d := 5) rfl rfl (fun h5 => ?_) (fun h5 => ?_)
  · iterate 2 refine RL.q (.yes rfl rfl rfl) rfl rfl (Yld.pure rfl) ?_
    iterate 2 refine RL.p rfl rfl ?_
    first | refine RL.splitD (d := 9) rfl rfl (fun h9 => ?_) (fun h9 => ?_) | refine RL.splitN (d := 9) rfl rfl (fun h9 => ?_) (fun h9 => ?_) | refine RL.split (d := 9) rfl rfl (fun h9 => ?_) (fun h9 => ?_)
    · iterate 6 refine RL.no (.no rfl rfl rfl rfl) rfl rfl ?_
      iterate 2 refine RL.p rfl rfl ?_
      iterate 2 refine RL.no (.no rfl rfl rfl rfl) rfl rfl ?_
      iterate 2 refine RL.p rfl rfl ?_
      refine RL.done ?_
      refine RK.ret_of Tryz.func285 (res1 rfl rfl) ?_ _
      exact ⟨_, rfl, congrArg _ (by rw [Bool.eq_iff_iff]; simp [letS]; omega), rfl⟩
    · iterate 3 refine RL.q (.yes rfl rfl rfl) rfl rfl (Yld.pure rfl) ?_
      first | refine RL.splitD (d := 12) rfl rfl (fun h12 => ?_) (fun h12 => ?_) | refine RL.splitN (d := 12) rfl rfl (fun h12 => ?_) (fun h12 => ?_) | refine RL.split (d := 12) rfl rfl (fun h12 => ?_) (fun h12 => ?_)
      · iterate 3 refine RL.q (.yes rfl rfl rfl) rfl rfl (Yld.pure rfl) ?_
        iterate 2 refine RL.p rfl rfl ?_
        first | refine RL.splitD (d := 17) rfl rfl (fun h17 => ?_) (fun h17 => ?_) | refine RL.splitN (d := 17) rfl rfl (fun h17 => ?_) (fun h17 => ?_) | refine RL.split (d := 17) rfl rfl (fun h17 => ?_) (fun h17 => ?_)
        · iterate 2 refine RL.no (.no rfl rfl rfl rfl) rfl rfl ?_
          iterate 2 refine RL.p rfl rfl ?_
          refine RL.done ?_
          refine RK.ret_of Tryz.func285 (res1 rfl rfl) ?_ _
          exact ⟨_, rfl, congrArg _ (by rw [Bool.eq_iff_iff]; simp [letS]; omega), rfl⟩
        · iterate 2 refine RL.q (.yes rfl rfl rfl) rfl rfl (Yld.pure rfl) ?_
          iterate 2 refine RL.p rfl rfl ?_
          refine RL.done ?_
          refine RK.ret_of Tryz.func285 (res1 rfl rfl) ?_ _
          exact ⟨_, rfl, congrArg _ (by rw [Bool.eq_iff_iff]; simp [letS]; omega), rfl⟩
      · iterate 2 refine RL.no (.no rfl rfl rfl rfl) rfl rfl ?_
        refine RL.q (.yes rfl rfl rfl) rfl rfl (Yld.pure rfl) ?_
        iterate 2 refine RL.p rfl rfl ?_
        iterate 2 refine RL.q (.yes rfl rfl rfl) rfl rfl (Yld.pure rfl) ?_
        iterate 2 refine RL.p rfl rfl ?_
        refine RL.done ?_
        refine RK.ret_of Tryz.func285 (res1 rfl rfl) ?_ _
        exact ⟨_, rfl, congrArg _ (by rw [Bool.eq_iff_iff]; simp [letS]; omega), rfl⟩
  · iterate 2 refine RL.no (.no rfl rfl rfl rfl) rfl rfl ?_
    iterate 2 refine RL.p rfl rfl ?_
    iterate 3 refine RL.q (.yes rfl rfl rfl) rfl rfl (Yld.pure rfl) ?_
    first | refine RL.splitD (d := 12) rfl rfl (fun h12 => ?_) (fun h12 => ?_) | refine RL.splitN (d := 12) rfl rfl (fun h12 => ?_) (fun h12 => ?_) | refine RL.split (d := 12) rfl rfl (fun h12 => ?_) (fun h12 => ?_)
    · iterate 3 refine RL.q (.yes rfl rfl rfl) rfl rfl (Yld.pure rfl) ?_
      iterate 2 refine RL.p rfl rfl ?_
      first | refine RL.splitD (d := 17) rfl rfl (fun h17 => ?_) (fun h17 => ?_) | refine RL.splitN (d := 17) rfl rfl (fun h17 => ?_) (fun h17 => ?_) | refine RL.split (d := 17) rfl rfl (fun h17 => ?_) (fun h17 => ?_)
      · iterate 2 refine RL.no (.no rfl rfl rfl rfl) rfl rfl ?_
        iterate 2 refine RL.p rfl rfl ?_
        refine RL.done ?_
        refine RK.ret_of Tryz.func285 (res1 rfl rfl) ?_ _
        exact ⟨_, rfl, congrArg _ (by rw [Bool.eq_iff_iff]; simp [letS]; omega), rfl⟩
      · iterate 2 refine RL.q (.yes rfl rfl rfl) rfl rfl (Yld.pure rfl) ?_
        iterate 2 refine RL.p rfl rfl ?_
        refine RL.done ?_
        refine RK.ret_of Tryz.func285 (res1 rfl rfl) ?_ _
        exact ⟨_, rfl, congrArg _ (by rw [Bool.eq_iff_iff]; simp [letS]; omega), rfl⟩
    · iterate 2 refine RL.no (.no rfl rfl rfl rfl) rfl rfl ?_
      refine RL.q (.yes rfl rfl rfl) rfl rfl (Yld.pure rfl) ?_
      iterate 2 refine RL.p rfl rfl ?_
      iterate 2 refine RL.q (.yes rfl rfl rfl) rfl rfl (Yld.pure rfl) ?_
      iterate 2 refine RL.p rfl rfl ?_
      refine RL.done ?_
      refine RK.ret_of Tryz.func285 (res1 rfl rfl) ?_ _
      exact ⟨_, rfl, congrArg _ (by rw [Bool.eq_iff_iff]; simp [letS]; omega), rfl⟩
@[irreducible] def valS (s : ByteArray) : Bool := decide (1 ≤ s.size ∧ s.size ≤ 24)
theorem value_ok (s : ByteArray) (w : World) : Fx Tryz.prog 244 [.string s] w (fun v w' => v = .bool (valS s) ∧ w = w') := by
  refine enter Tryz.func244 rfl rfl rfl _ (Pick.sub (l := [0]) (.cons rfl .nil)) ?_
  refine RK.seq ?_
  refine RK.region ?_
  refine RL.p rfl rfl ?_
  refine RL.done ?_
  refine RK.seq ?_
  refine RK.region ?_
  refine RL.p rfl rfl ?_
  refine RL.q (.free rfl) rfl rfl (Yld.lenStr u9 rfl) ?_
  iterate 2 refine RL.p rfl rfl ?_
  first | refine RL.splitD (d := 6) rfl rfl (fun h6 => ?_) (fun h6 => ?_) | refine RL.splitN (d := 6) rfl rfl (fun h6 => ?_) (fun h6 => ?_) | refine RL.split (d := 6) rfl rfl (fun h6 => ?_) (fun h6 => ?_)
  · refine RL.q (.yes rfl rfl rfl) rfl rfl (Yld.pure rfl) ?_
    refine RL.q (.yes rfl rfl rfl) rfl rfl (Yld.lenStr u9 rfl) ?_
    refine RL.q (.yes rfl rfl rfl) rfl rfl (Yld.pure rfl) ?_
    iterate 2 refine RL.p rfl rfl ?_
    refine RL.done ?_
    refine RK.ret_of Tryz.func244 (res1 rfl rfl) ?_ _
    exact ⟨_, rfl, congrArg _ (by rw [Bool.eq_iff_iff]; simp [valS]; omega), rfl⟩
  · iterate 3 refine RL.no (.no rfl rfl rfl rfl) rfl rfl ?_
    iterate 2 refine RL.p rfl rfl ?_
    refine RL.done ?_
    refine RK.ret_of Tryz.func244 (res1 rfl rfl) ?_ _
    exact ⟨_, rfl, congrArg _ (by rw [Bool.eq_iff_iff]; simp [valS]; omega), rfl⟩
@[irreducible] def chS (c : Int) : Bool := letS c || decide (48 ≤ c ∧ c ≤ 57)
@[irreducible] def nameS (s : ByteArray) : Bool := decide (1 ≤ s.size ∧ s.size ≤ 12) && letS (bt s 0).toNat && (List.range s.size).all fun i => chS (bt s i).toNat
theorem name_no1 {s : ByteArray} (h : ¬ (1 ≤ s.size ∧ s.size ≤ 12)) : nameS s = false := by simp [nameS, h]
theorem name_no2 {s : ByteArray} (h : letS (bt s 0).toNat = false) : nameS s = false := by simp [nameS, h]
theorem name_no3 {s : ByteArray} {i : Nat} (hi : i < s.size) (h : chS (bt s i).toNat = false) : nameS s = false := by
  simp only [nameS, Bool.and_eq_false_iff]
  refine .inr ?_
  rw [List.all_eq_false]
  exact ⟨i, List.mem_range.2 hi, by simp [h]⟩
theorem name_yes {s : ByteArray} (h1 : 1 ≤ s.size) (h2 : s.size ≤ 12) (h3 : letS (bt s 0).toNat = true) (h : ∀ i, i < s.size → chS (bt s i).toNat = true) : nameS s = true := by
  simp only [nameS, Bool.and_eq_true, decide_eq_true_eq, List.all_eq_true, List.mem_range]
  exact ⟨⟨⟨h1, h2⟩, h3⟩, h⟩
theorem name_ok (s : ByteArray) (w : World) : Fx Tryz.prog 243 [.string s] w (fun v w' => v = .bool (nameS s) ∧ w = w') := by
  refine enter Tryz.func243 rfl rfl rfl _ (Pick.sub (l := [0]) (.cons rfl .nil)) ?_
  refine RK.seq ?_
  refine RK.region ?_
  refine RL.p rfl rfl ?_
  refine RL.done ?_
  iterate 2 refine RK.seq ?_
  refine RK.region ?_
  refine RL.p rfl rfl ?_
  refine RL.q (.free rfl) rfl rfl (Yld.lenStr u9 rfl) ?_
  iterate 2 refine RL.p rfl rfl ?_
  first | refine RL.splitD (d := 7) rfl rfl (fun h7 => ?_) (fun h7 => ?_) | refine RL.splitN (d := 7) rfl rfl (fun h7 => ?_) (fun h7 => ?_) | refine RL.split (d := 7) rfl rfl (fun h7 => ?_) (fun h7 => ?_)
  · iterate 3 refine RL.no (.no rfl rfl rfl rfl) rfl rfl ?_
    iterate 2 refine RL.p rfl rfl ?_
    iterate 4 refine RL.no (.no rfl rfl rfl rfl) rfl rfl ?_
    refine RL.p rfl rfl ?_
    refine RL.done ?_
    refine RK.condT rfl ?_
    refine RK.seq ?_
    refine RK.region ?_
    refine RL.p rfl rfl ?_
    refine RL.done ?_
    refine RK.ret_of Tryz.func243 (res1 rfl rfl) ?_ _
    exact ⟨_, rfl, congrArg _ (by first
        | exact (name_no1 (by omega)).symm
        | exact (name_no3 (i := k) (by omega) (by simp at h28; simp [chS, h28]; omega)).symm
        | exact (name_yes (by omega) (by omega) (by simpa using h17) fun i hi => hall i (by omega)).symm
        | exact (name_no2 (by simpa using h17)).symm), rfl⟩
  · refine RL.q (.yes rfl rfl rfl) rfl rfl (Yld.pure rfl) ?_
    refine RL.q (.yes rfl rfl rfl) rfl rfl (Yld.lenStr u9 rfl) ?_
    refine RL.q (.yes rfl rfl rfl) rfl rfl (Yld.pure rfl) ?_
    iterate 2 refine RL.p rfl rfl ?_
    first | refine RL.splitD (d := 12) rfl rfl (fun h12 => ?_) (fun h12 => ?_) | refine RL.splitN (d := 12) rfl rfl (fun h12 => ?_) (fun h12 => ?_) | refine RL.split (d := 12) rfl rfl (fun h12 => ?_) (fun h12 => ?_)
    · iterate 4 refine RL.no (.no rfl rfl rfl rfl) rfl rfl ?_
      refine RL.p rfl rfl ?_
      refine RL.done ?_
      refine RK.condT rfl ?_
      refine RK.seq ?_
      refine RK.region ?_
      refine RL.p rfl rfl ?_
      refine RL.done ?_
      refine RK.ret_of Tryz.func243 (res1 rfl rfl) ?_ _
      exact ⟨_, rfl, congrArg _ (by first
          | exact (name_no1 (by omega)).symm
          | exact (name_no3 (i := k) (by omega) (by simp at h28; simp [chS, h28]; omega)).symm
          | exact (name_yes (by omega) (by omega) (by simpa using h17) fun i hi => hall i (by omega)).symm
          | exact (name_no2 (by simpa using h17)).symm), rfl⟩
    · refine RL.q (.yes rfl rfl rfl) rfl rfl (Yld.pure rfl) ?_
      refine RL.q (.yes rfl rfl rfl) rfl rfl (Yld.idxStr u9 rfl rfl (by omega) (by omega)) ?_
      refine RL.op (.yes rfl rfl rfl) rfl rfl (Does.call rfl e285 (letter_ok _ _)) ?_
      rintro _ _ ⟨rfl, rfl⟩
      refine RL.q (.yes rfl rfl rfl) rfl rfl (Yld.pure rfl) ?_
      refine RL.p rfl rfl ?_
      refine RL.done ?_
      first | refine RK.condD rfl (fun h17 => ?_) (fun h17 => ?_) | refine RK.condN rfl (fun h17 => ?_) (fun h17 => ?_) | refine RK.cond rfl (fun h17 => ?_) (fun h17 => ?_)
      · refine RK.seq ?_
        refine RK.region ?_
        refine RL.p rfl rfl ?_
        refine RL.done ?_
        refine RK.ret_of Tryz.func243 (res1 rfl rfl) ?_ _
        exact ⟨_, rfl, congrArg _ (by first
            | exact (name_no1 (by omega)).symm
            | exact (name_no3 (i := k) (by omega) (by simp at h28; simp [chS, h28]; omega)).symm
            | exact (name_yes (by omega) (by omega) (by simpa using h17) fun i hi => hall i (by omega)).symm
            | exact (name_no2 (by simpa using h17)).symm), rfl⟩
      · refine RK.skip ?_
        iterate 2 refine RK.seq ?_
        refine RK.region ?_
        refine RL.p rfl rfl ?_
        refine RL.q (.free rfl) rfl rfl (Yld.lenStr u9 rfl) ?_
        refine RL.p rfl rfl ?_
        refine RL.done ?_
        refine RK.block ?_
        refine RK.loop (fun k : Nat => [(0, .string s), (19, .int .i64 s.size), (20, .int .i64 k)]) (fun k w' => w = w' ∧ k ≤ s.size ∧ ∀ i, i < k → chS (bt s i).toNat = true) (fun k => s.size - k) 0 ⟨rfl, rfl, rfl, trivial⟩ ⟨rfl, by omega, fun i hi => by omega⟩ (fun k w' hI ih => ?_)
        obtain ⟨rfl, hk, hall⟩ := hI
        refine RK.seq ?_
        refine RK.region ?_
        refine RL.p rfl rfl ?_
        refine RL.done ?_
        refine RK.seq ?_
        first | refine RK.condD rfl (fun h21 => ?_) (fun h21 => ?_) | refine RK.condN rfl (fun h21 => ?_) (fun h21 => ?_) | refine RK.cond rfl (fun h21 => ?_) (fun h21 => ?_)
        · refine RK.skip ?_
          refine RK.seq ?_
          refine RK.block ?_
          refine RK.seq ?_
          refine RK.region ?_
          iterate 2 refine RL.p rfl rfl ?_
          refine RL.done ?_
          refine RK.seq ?_
          refine RK.region ?_
          iterate 2 refine RL.p rfl rfl ?_
          refine RL.q (.free rfl) rfl rfl (Yld.idxStrN u9 rfl rfl (by omega)) ?_
          refine RL.op (.free rfl) rfl rfl (Does.call rfl e285 (letter_ok _ _)) ?_
          rintro _ _ ⟨rfl, rfl⟩
          iterate 2 refine RL.p rfl rfl ?_
          first | refine RL.splitD (d := 28) rfl rfl (fun h28 => ?_) (fun h28 => ?_) | refine RL.splitN (d := 28) rfl rfl (fun h28 => ?_) (fun h28 => ?_) | refine RL.split (d := 28) rfl rfl (fun h28 => ?_) (fun h28 => ?_)
          · iterate 2 refine RL.q (.yes rfl rfl rfl) rfl rfl (Yld.pure rfl) ?_
            refine RL.q (.yes rfl rfl rfl) rfl rfl (Yld.idxStrN u9 rfl rfl (by omega)) ?_
            iterate 2 refine RL.q (.yes rfl rfl rfl) rfl rfl (Yld.pure rfl) ?_
            first | refine RL.splitD (d := 33) rfl rfl (fun h33 => ?_) (fun h33 => ?_) | refine RL.splitN (d := 33) rfl rfl (fun h33 => ?_) (fun h33 => ?_) | refine RL.split (d := 33) rfl rfl (fun h33 => ?_) (fun h33 => ?_)
            · iterate 4 refine RL.no (.no rfl rfl rfl rfl) rfl rfl ?_
              refine RL.q (.yes rfl rfl rfl) rfl rfl (Yld.pure rfl) ?_
              refine RL.p rfl rfl ?_
              refine RL.done ?_
              refine RK.condT rfl ?_
              refine RK.seq ?_
              refine RK.region ?_
              refine RL.p rfl rfl ?_
              refine RL.done ?_
              refine RK.ret_of Tryz.func243 (res1 rfl rfl) ?_ _
              exact ⟨_, rfl, congrArg _ (by first
                  | exact (name_no1 (by omega)).symm
                  | exact (name_no3 (i := k) (by omega) (by simp at h28; simp [chS, h28]; omega)).symm
                  | exact (name_yes (by omega) (by omega) (by simpa using h17) fun i hi => hall i (by omega)).symm
                  | exact (name_no2 (by simpa using h17)).symm), rfl⟩
            · iterate 2 refine RL.q (.yes rfl rfl rfl) rfl rfl (Yld.pure rfl) ?_
              refine RL.q (.yes rfl rfl rfl) rfl rfl (Yld.idxStrN u9 rfl rfl (by omega)) ?_
              iterate 2 refine RL.q (.yes rfl rfl rfl) rfl rfl (Yld.pure rfl) ?_
              refine RL.p rfl rfl ?_
              refine RL.done ?_
              first | refine RK.condD rfl (fun h39 => ?_) (fun h39 => ?_) | refine RK.condN rfl (fun h39 => ?_) (fun h39 => ?_) | refine RK.cond rfl (fun h39 => ?_) (fun h39 => ?_)
              · refine RK.seq ?_
                refine RK.region ?_
                refine RL.p rfl rfl ?_
                refine RL.done ?_
                refine RK.ret_of Tryz.func243 (res1 rfl rfl) ?_ _
                exact ⟨_, rfl, congrArg _ (by first
                    | exact (name_no1 (by omega)).symm
                    | exact (name_no3 (i := k) (by omega) (by simp at h28; simp [chS, h28]; omega)).symm
                    | exact (name_yes (by omega) (by omega) (by simpa using h17) fun i hi => hall i (by omega)).symm
                    | exact (name_no2 (by simpa using h17)).symm), rfl⟩
              · refine RK.skip ?_
                refine RK.inBlock ?_
                refine RK.region ?_
                iterate 2 refine RL.p rfl rfl ?_
                refine RL.re (d := 20) rfl rfl (succ_i64 (by omega)) ?_
                refine RL.done ?_
                exact RK.back (ih (k + 1) _ ⟨rfl, by omega, fun i hi => by by_cases e : i = k; (subst e; simp at h28; simp [chS, h28]; try omega); exact hall i (by omega)⟩ (by omega)) ⟨rfl, rfl, rfl, trivial⟩
          · iterate 10 refine RL.no (.no rfl rfl rfl rfl) rfl rfl ?_
            refine RL.p rfl rfl ?_
            refine RL.done ?_
            refine RK.condF rfl ?_
            refine RK.skip ?_
            refine RK.inBlock ?_
            refine RK.region ?_
            iterate 2 refine RL.p rfl rfl ?_
            refine RL.re (d := 20) rfl rfl (succ_i64 (by omega)) ?_
            refine RL.done ?_
            exact RK.back (ih (k + 1) _ ⟨rfl, by omega, fun i hi => by by_cases e : i = k; (subst e; simp at h28; simp [chS, h28]; try omega); exact hall i (by omega)⟩ (by omega)) ⟨rfl, rfl, rfl, trivial⟩
        · refine RK.exit rfl ?_
          refine RK.seq ?_
          refine RK.region ?_
          refine RL.p rfl rfl ?_
          refine RL.done ?_
          refine RK.ret_of Tryz.func243 (res1 rfl rfl) ?_ _
          exact ⟨_, rfl, congrArg _ (by first
              | exact (name_no1 (by omega)).symm
              | exact (name_no3 (i := k) (by omega) (by simp at h28; simp [chS, h28]; omega)).symm
              | exact (name_yes (by omega) (by omega) (by simpa using h17) fun i hi => hall i (by omega)).symm
              | exact (name_no2 (by simpa using h17)).symm), rfl⟩
@[irreducible] def nanS (b : Nat) : Bool := Ieee.double.order b b != some .eq
theorem no_ok (b : Nat) (w : World) : Fx Tryz.prog 180 [.float .f64 b] w (fun v w' => v = .bool (nanS b) ∧ w = w') := by
  refine enter Tryz.func180 rfl rfl rfl _ (Pick.sub (l := [0]) (.cons rfl .nil)) ?_
  refine RK.seq ?_
  refine RK.region ?_
  refine RL.p rfl rfl ?_
  refine RL.done ?_
  refine RK.seq ?_
  refine RK.region ?_
  iterate 4 refine RL.p rfl rfl ?_
  refine RL.done ?_
  refine RK.ret_of Tryz.func180 (res1 rfl rfl) ?_ _
  exact ⟨_, rfl, by unfold nanS; rfl, rfl⟩
def bitsS (b : Nat) : Int := if nanS b then 9221120237041090561 else b
theorem bits_ok (b : Nat) (w : World) : Fx Tryz.prog 106 [.float .f64 b] w (fun v w' => v = .int .u64 (bitsS b) ∧ w = w') := by
  refine enter Tryz.func106 rfl rfl rfl _ (Pick.sub (l := [0]) (.cons rfl .nil)) ?_
  refine RK.seq ?_
  refine RK.region ?_
  refine RL.p rfl rfl ?_
  refine RL.done ?_
  iterate 2 refine RK.seq ?_
  refine RK.region ?_
  refine RL.p rfl rfl ?_
  refine RL.op (.free rfl) rfl rfl (Does.call rfl e180 (no_ok b _)) ?_
  rintro _ _ ⟨rfl, rfl⟩
  refine RL.done ?_
  first | refine RK.condD rfl (fun h4 => ?_) (fun h4 => ?_) | refine RK.condN rfl (fun h4 => ?_) (fun h4 => ?_) | refine RK.cond rfl (fun h4 => ?_) (fun h4 => ?_)
  · refine RK.seq ?_
    refine RK.region ?_
    refine RL.p rfl rfl ?_
    refine RL.done ?_
    refine RK.ret_of Tryz.func106 (res1 rfl rfl) ?_ _
    exact ⟨_, rfl, by simp_all [bitsS], rfl⟩
  · refine RK.skip ?_
    refine RK.seq ?_
    refine RK.region ?_
    refine RL.p rfl rfl ?_
    refine RL.q (.free rfl) rfl rfl (Yld.callx rfl (fun w => x181 _ w)) ?_
    refine RL.p rfl rfl ?_
    refine RL.done ?_
    refine RK.ret_of Tryz.func106 (res1 rfl rfl) ?_ _
    exact ⟨_, rfl, by simp_all [bitsS], rfl⟩
end Go.Proofs.YtnnmgfnhblbolaaGreatDoor
set_option linter.unusedVariables false
set_option linter.unusedSimpArgs false
set_option maxHeartbeats 400000
set_option maxRecDepth 100000
namespace Go.Proofs.YtnnmgfnhblbolaaGreatDoor
open Go Go.X
structure Lab where
  name : ByteArray
  value : ByteArray
  deriving DecidableEq, Inhabited
def labC (l : Lab) : List Value := [.string l.name, .string l.value]
theorem labC_len (l : Lab) : (labC l).length = 2 := rfl
abbrev SlL (M : Nat → Prop) (w : World) (v : Value) (ls : List Lab) : Prop := Sl M w v 2 ls.length (ls.flatMap labC)
@[irreducible] def okAt (ls : List Lab) (i : Nat) : Bool := match ls[i]? with
  | none => true
  | some x => nameS x.name && valS x.value && match i with
    | 0 => true
    | j + 1 => match ls[j]? with
      | none => true
      | some y => slt y.name x.name
@[irreducible] def isS (ls : List Lab) : Bool := decide (1 ≤ ls.length ∧ ls.length ≤ 6) && (List.range ls.length).all (okAt ls)
theorem is_no1 {ls : List Lab} (h : ¬ (1 ≤ ls.length ∧ ls.length ≤ 6)) : isS ls = false := by simp [isS, h]
theorem is_no2 {ls : List Lab} {i : Nat} (hi : i < ls.length) (h : okAt ls i = false) : isS ls = false := by
  simp only [isS, Bool.and_eq_false_iff]
  exact .inr (List.all_eq_false.2 ⟨i, List.mem_range.2 hi, by simp [h]⟩)
theorem is_yes {ls : List Lab} (h1 : 1 ≤ ls.length) (h2 : ls.length ≤ 6) (h : ∀ i, i < ls.length → okAt ls i = true) : isS ls = true := by
  simp only [isS, Bool.and_eq_true, decide_eq_true_eq, List.all_eq_true, List.mem_range]
  exact ⟨⟨h1, h2⟩, h⟩
theorem okAt_no1 {ls : List Lab} {k : Nat} {x : Lab} (hx : ls[k]? = some x) (h : (!nameS x.name) = true) : okAt ls k = false := by simp at h; simp [okAt, hx, h]
theorem okAt_no2 {ls : List Lab} {k : Nat} {x : Lab} (hx : ls[k]? = some x) (h : (!valS x.value) = true) : okAt ls k = false := by simp at h; simp [okAt, hx, h]
theorem okAt_no3 {ls : List Lab} {k j : Nat} {x y : Lab} (hx : ls[k]? = some x) (hj : k = j + 1) (hy : ls[j]? = some y) (h : sle x.name y.name = true) : okAt ls k = false := by
  subst hj
  rw [sle_not] at h
  simp at h
  simp [okAt, hx, hy, h]
theorem okAt_yes0 {ls : List Lab} {k : Nat} {x : Lab} (hx : ls[k]? = some x) (h1 : (!nameS x.name) = false) (h2 : (!valS x.value) = false) (hk : k = 0) : okAt ls k = true := by
  subst hk; simp at h1 h2; simp [okAt, hx, h1, h2]
theorem okAt_yes1 {ls : List Lab} {k j : Nat} {x y : Lab} (hx : ls[k]? = some x) (h1 : (!nameS x.name) = false) (h2 : (!valS x.value) = false) (hj : k = j + 1) (hy : ls[j]? = some y) (h : sle x.name y.name = false) : okAt ls k = true := by
  subst hj
  rw [sle_not] at h
  simp at h h1 h2
  simp [okAt, hx, hy, h, h1, h2]
theorem ok_snoc {ls : List Lab} {k : Nat} (h : ∀ i, i < k → okAt ls i = true) (hk : okAt ls k = true) : ∀ i, i < k + 1 → okAt ls i = true := fun i hi => by
  by_cases e : i = k
  · rw [e]; exact hk
  · exact h i (by omega)
theorem is_ok (M : Nat → Prop) (ls : List Lab) (v : Value) (w : World) (hv : SlL M w v ls) : Fx Tryz.prog 179 [v] w (fun u w' => u = .bool (isS ls) ∧ Grow w w') := by
  obtain ⟨ad, c, rfl⟩ := hv.shape
  refine enter Tryz.func179 rfl rfl rfl _ (Pick.sub (l := [0]) (.cons rfl .nil)) ?_
  refine RK.seq ?_
  refine RK.region ?_
  refine RL.p rfl rfl ?_
  refine RL.done ?_
  iterate 2 refine RK.seq ?_
  refine RK.region ?_
  refine RL.p rfl rfl ?_
  refine RL.q (.free rfl) rfl rfl (Yld.lenSl u37 rfl) ?_
  iterate 2 refine RL.p rfl rfl ?_
  first | refine RL.splitD (d := 8) rfl rfl (fun h8 => ?_) (fun h8 => ?_) | refine RL.splitN (d := 8) rfl rfl (fun h8 => ?_) (fun h8 => ?_) | refine RL.split (d := 8) rfl rfl (fun h8 => ?_) (fun h8 => ?_)
  · iterate 3 refine RL.no (.no rfl rfl rfl rfl) rfl rfl ?_
    refine RL.p rfl rfl ?_
    refine RL.done ?_
    refine RK.condT rfl ?_
    refine RK.seq ?_
    refine RK.region ?_
    refine RL.p rfl rfl ?_
    refine RL.done ?_
    refine RK.ret_of Tryz.func179 (res1 rfl rfl) ?_ _
    exact ⟨_, rfl, congrArg _ (by first
        | exact (is_no1 (by omega)).symm
        | exact (is_no2 (i := k) (by omega) (okAt_no1 hx h24)).symm
        | exact (is_no2 (i := k) (by omega) (okAt_no2 hx h30)).symm
        | exact (is_no2 (i := k) (by omega) (okAt_no3 hx hj hy h44)).symm
        | exact (is_yes (by omega) (by omega) fun i hi => hall i (by omega)).symm), by first
        | exact Mod.refl _ _
        | exact hg2.trans (Mod.drew _ _)
        | exact hg⟩
  · refine RL.q (.yes rfl rfl rfl) rfl rfl (Yld.pure rfl) ?_
    refine RL.q (.yes rfl rfl rfl) rfl rfl (Yld.lenSl u37 rfl) ?_
    refine RL.q (.yes rfl rfl rfl) rfl rfl (Yld.pure rfl) ?_
    refine RL.p rfl rfl ?_
    refine RL.done ?_
    first | refine RK.condD rfl (fun h12 => ?_) (fun h12 => ?_) | refine RK.condN rfl (fun h12 => ?_) (fun h12 => ?_) | refine RK.cond rfl (fun h12 => ?_) (fun h12 => ?_)
    · refine RK.seq ?_
      refine RK.region ?_
      refine RL.p rfl rfl ?_
      refine RL.done ?_
      refine RK.ret_of Tryz.func179 (res1 rfl rfl) ?_ _
      exact ⟨_, rfl, congrArg _ (by first
          | exact (is_no1 (by omega)).symm
          | exact (is_no2 (i := k) (by omega) (okAt_no1 hx h24)).symm
          | exact (is_no2 (i := k) (by omega) (okAt_no2 hx h30)).symm
          | exact (is_no2 (i := k) (by omega) (okAt_no3 hx hj hy h44)).symm
          | exact (is_yes (by omega) (by omega) fun i hi => hall i (by omega)).symm), by first
          | exact Mod.refl _ _
          | exact hg2.trans (Mod.drew _ _)
          | exact hg⟩
    · refine RK.skip ?_
      iterate 2 refine RK.seq ?_
      refine RK.region ?_
      refine RL.p rfl rfl ?_
      refine RL.q (.free rfl) rfl rfl (Yld.lenSl u37 rfl) ?_
      refine RL.p rfl rfl ?_
      refine RL.done ?_
      refine RK.block ?_
      refine RK.loop (fun k : Nat => [(0, .slice ad ls.length c), (13, .slice ad ls.length c), (14, .int .i64 ls.length), (15, .int .i64 k)]) (fun k w' => Grow w w' ∧ k ≤ ls.length ∧ ∀ i, i < k → okAt ls i = true) (fun k => ls.length - k) 0 ⟨rfl, rfl, rfl, rfl, trivial⟩ ⟨Mod.refl _ _, by omega, fun i hi => by omega⟩ (fun k w' hI ih => ?_)
      obtain ⟨hg, hk, hall⟩ := hI
      refine RK.seq ?_
      refine RK.region ?_
      refine RL.p rfl rfl ?_
      refine RL.done ?_
      refine RK.seq ?_
      first | refine RK.condD rfl (fun h16 => ?_) (fun h16 => ?_) | refine RK.condN rfl (fun h16 => ?_) (fun h16 => ?_) | refine RK.cond rfl (fun h16 => ?_) (fun h16 => ?_)
      · obtain ⟨x, hx⟩ : ∃ x, ls[k]? = some x := ⟨ls[k]'(by omega), List.getElem?_eq_getElem (by omega)⟩
        obtain ⟨b, o, c', he, hb, hkl, hcell⟩ := hv.elem labC_len hx
        cases he
        refine RK.skip ?_
        refine RK.seq ?_
        refine RK.block ?_
        refine RK.seq ?_
        refine RK.region ?_
        refine RL.p rfl rfl ?_
        refine RL.q (.free rfl) rfl rfl (Yld.indexAddrN u37 i261 rfl rfl (by omega)) ?_
        refine RL.q (.free rfl) rfl rfl (Yld.loadN (cs := [.string x.name, .string x.value]) a261 rfl (atN (fun j u hj => hg.cell (hcell j u hj) (fun h => h)))) ?_
        refine RL.op (.free rfl) rfl rfl (Does.alloc i261) ?_
        rintro _ w1 ⟨b1, rfl, hn1⟩
        refine RL.p rfl rfl ?_
        refine RL.op' (.free rfl) rfl (Does.storeN i261 rfl rfl rfl rfl hn1.blk (Nat.le_refl 2)) ?_
        rintro _ w2 ⟨hb2, hm2, _⟩
        have hB : Blk w2 b1 261 [.string x.name, .string x.value] := hb2
        have hg2 : Grow w w2 := (hg.trans hn1.grow).then hm2 (fun y hy e => by have := hn1.at_; have := hg.size; omega)
        refine RL.done ?_
        refine RK.seq ?_
        refine RK.drawM No [(0, false), (1, false), (2, true), (3, false), (4, false), (5, false), (6, false), (7, true), (8, false), (9, false), (10, false), (11, false), (12, false), (13, false), (14, false), (15, false), (16, false), (17, false), (18, false), (19, false), (20, false), (21, false), (22, false), (23, false), (24, false)] [] mixed (by kernel_rfl) ?_
        refine DL.qf rfl (.free rfl) rfl rfl (Yld.fieldAddr fo261_0 rfl) ?_
        refine DL.q rfl (.free rfl) rfl rfl rfl (Yld.load p9 rfl (atM (hB.cell rfl) id)) (Mod.drew _ _) ?_
        refine DL.op rfl (.free rfl) rfl rfl (Does.call rfl e243 (name_ok _ _)) ?_
        rintro _ _ ⟨rfl, rfl⟩
        refine ⟨Mod.drew _ _, ?_⟩
        iterate 2 refine DL.p rfl rfl rfl ?_
        first | refine DL.splitD (d := 24) rfl rfl (fun h24 => ?_) (fun h24 => ?_) | refine DL.splitN (d := 24) rfl rfl (fun h24 => ?_) (fun h24 => ?_) | refine DL.split (d := 24) rfl rfl (fun h24 => ?_) (fun h24 => ?_)
        · iterate 2 refine DL.no rfl (.no rfl rfl rfl rfl) rfl rfl ?_
          refine DL.lno rfl (.no rfl rfl rfl rfl) rfl rfl ?_
          refine DL.no rfl (.no rfl rfl rfl rfl) rfl rfl ?_
          iterate 2 refine DL.p rfl rfl rfl ?_
          iterate 13 refine DL.no rfl (.no rfl rfl rfl rfl) rfl rfl ?_
          refine DL.p rfl rfl rfl ?_
          refine DL.done ?_
          refine RK.condT rfl ?_
          refine RK.seq ?_
          refine RK.region ?_
          refine RL.p rfl rfl ?_
          refine RL.done ?_
          refine RK.ret_of Tryz.func179 (res1 rfl rfl) ?_ _
          exact ⟨_, rfl, congrArg _ (by first
              | exact (is_no1 (by omega)).symm
              | exact (is_no2 (i := k) (by omega) (okAt_no1 hx h24)).symm
              | exact (is_no2 (i := k) (by omega) (okAt_no2 hx h30)).symm
              | exact (is_no2 (i := k) (by omega) (okAt_no3 hx hj hy h44)).symm
              | exact (is_yes (by omega) (by omega) fun i hi => hall i (by omega)).symm), by first
              | exact Mod.refl _ _
              | exact hg2.trans (Mod.drew _ _)
              | exact hg⟩
        · refine DL.qf rfl (.yes rfl rfl rfl) rfl rfl (Yld.fieldAddr fo261_1 rfl) ?_
          refine DL.q rfl (.yes rfl rfl rfl) rfl rfl rfl (Yld.load p9 rfl (atM (hB.cell rfl) id)) (Mod.drew _ _) ?_
          refine DL.op rfl (.yes rfl rfl rfl) rfl rfl (Does.call rfl e244 (value_ok _ _)) ?_
          rintro _ _ ⟨rfl, rfl⟩
          refine ⟨Mod.drew _ _, ?_⟩
          refine DL.qf rfl (.yes rfl rfl rfl) rfl rfl (Yld.pure rfl) ?_
          iterate 2 refine DL.p rfl rfl rfl ?_
          first | refine DL.splitD (d := 30) rfl rfl (fun h30 => ?_) (fun h30 => ?_) | refine DL.splitN (d := 30) rfl rfl (fun h30 => ?_) (fun h30 => ?_) | refine DL.split (d := 30) rfl rfl (fun h30 => ?_) (fun h30 => ?_)
          · iterate 13 refine DL.no rfl (.no rfl rfl rfl rfl) rfl rfl ?_
            refine DL.p rfl rfl rfl ?_
            refine DL.done ?_
            refine RK.condT rfl ?_
            refine RK.seq ?_
            refine RK.region ?_
            refine RL.p rfl rfl ?_
            refine RL.done ?_
            refine RK.ret_of Tryz.func179 (res1 rfl rfl) ?_ _
            exact ⟨_, rfl, congrArg _ (by first
                | exact (is_no1 (by omega)).symm
                | exact (is_no2 (i := k) (by omega) (okAt_no1 hx h24)).symm
                | exact (is_no2 (i := k) (by omega) (okAt_no2 hx h30)).symm
                | exact (is_no2 (i := k) (by omega) (okAt_no3 hx hj hy h44)).symm
                | exact (is_yes (by omega) (by omega) fun i hi => hall i (by omega)).symm), by first
                | exact Mod.refl _ _
                | exact hg2.trans (Mod.drew _ _)
                | exact hg⟩
          · iterate 3 refine DL.qf rfl (.yes rfl rfl rfl) rfl rfl (Yld.pure rfl) ?_
            first | refine DL.splitD (d := 33) rfl rfl (fun h33 => ?_) (fun h33 => ?_) | refine DL.splitN (d := 33) rfl rfl (fun h33 => ?_) (fun h33 => ?_) | refine DL.split (d := 33) rfl rfl (fun h33 => ?_) (fun h33 => ?_)
            · obtain ⟨j, hj⟩ : ∃ j, k = j + 1 := ⟨k - 1, by omega⟩
              obtain ⟨y, hy⟩ : ∃ y, ls[j]? = some y := ⟨ls[j]'(by omega), List.getElem?_eq_getElem (by omega)⟩
              obtain ⟨b', o', c', he, hb', hkl', hcell'⟩ := hv.elem labC_len hy
              cases he
              refine DL.qf rfl (.yes rfl rfl rfl) rfl rfl (Yld.fieldAddr fo261_0 rfl) ?_
              refine DL.q rfl (.yes rfl rfl rfl) rfl rfl rfl (Yld.load p9 rfl (atM (hB.cell rfl) id)) (Mod.drew _ _) ?_
              iterate 3 refine DL.qf rfl (.yes rfl rfl rfl) rfl rfl (Yld.pure rfl) ?_
              refine DL.re (d := 38) rfl rfl (sub_i64 (z := (j : Int)) (by omega) (by omega) (by omega)) ?_
              refine DL.qf rfl (.yes rfl rfl rfl) rfl rfl (Yld.indexAddrN u37 i261 rfl rfl (by omega)) ?_
              refine DL.qf rfl (.yes rfl rfl rfl) rfl rfl (Yld.fieldAddr fo261_0 rfl) ?_
              refine DL.q rfl (.yes rfl rfl rfl) rfl rfl rfl (Yld.load p9 rfl (atM (hg2.cell (hcell' 0 _ rfl) (fun h => h)) id)) (Mod.drew _ _) ?_
              iterate 2 refine DL.qf rfl (.yes rfl rfl rfl) rfl rfl (Yld.pure rfl) ?_
              refine DL.p rfl rfl rfl ?_
              refine DL.done ?_
              first | refine RK.condD rfl (fun h44 => ?_) (fun h44 => ?_) | refine RK.condN rfl (fun h44 => ?_) (fun h44 => ?_) | refine RK.cond rfl (fun h44 => ?_) (fun h44 => ?_)
              · refine RK.seq ?_
                refine RK.region ?_
                refine RL.p rfl rfl ?_
                refine RL.done ?_
                refine RK.ret_of Tryz.func179 (res1 rfl rfl) ?_ _
                exact ⟨_, rfl, congrArg _ (by first
                    | exact (is_no1 (by omega)).symm
                    | exact (is_no2 (i := k) (by omega) (okAt_no1 hx h24)).symm
                    | exact (is_no2 (i := k) (by omega) (okAt_no2 hx h30)).symm
                    | exact (is_no2 (i := k) (by omega) (okAt_no3 hx hj hy h44)).symm
                    | exact (is_yes (by omega) (by omega) fun i hi => hall i (by omega)).symm), by first
                    | exact Mod.refl _ _
                    | exact hg2.trans (Mod.drew _ _)
                    | exact hg⟩
              · refine RK.skip ?_
                refine RK.inBlock ?_
                refine RK.region ?_
                refine RL.p rfl rfl ?_
                refine RL.re (d := 45) rfl rfl (succ_i64 (by omega)) ?_
                refine RL.p rfl rfl ?_
                refine RL.done ?_
                exact RK.back (ih (k + 1) _ ⟨hg2.trans (Mod.drew _ _), by omega, ok_snoc hall (by first | exact okAt_yes1 hx h24 h30 hj hy h44 | exact okAt_yes0 hx h24 h30 (by omega))⟩ (by omega)) ⟨rfl, rfl, rfl, rfl, trivial⟩
            · iterate 9 refine DL.no rfl (.no rfl rfl rfl rfl) rfl rfl ?_
              refine DL.qf rfl (.yes rfl rfl rfl) rfl rfl (Yld.pure rfl) ?_
              refine DL.p rfl rfl rfl ?_
              refine DL.done ?_
              refine RK.condF rfl ?_
              refine RK.skip ?_
              refine RK.inBlock ?_
              refine RK.region ?_
              refine RL.p rfl rfl ?_
              refine RL.re (d := 45) rfl rfl (succ_i64 (by omega)) ?_
              refine RL.p rfl rfl ?_
              refine RL.done ?_
              exact RK.back (ih (k + 1) _ ⟨hg2.trans (Mod.drew _ _), by omega, ok_snoc hall (by first | exact okAt_yes1 hx h24 h30 hj hy h44 | exact okAt_yes0 hx h24 h30 (by omega))⟩ (by omega)) ⟨rfl, rfl, rfl, rfl, trivial⟩
      · refine RK.exit rfl ?_
        refine RK.seq ?_
        refine RK.region ?_
        refine RL.p rfl rfl ?_
        refine RL.done ?_
        refine RK.ret_of Tryz.func179 (res1 rfl rfl) ?_ _
        exact ⟨_, rfl, congrArg _ (by first
            | exact (is_no1 (by omega)).symm
            | exact (is_no2 (i := k) (by omega) (okAt_no1 hx h24)).symm
            | exact (is_no2 (i := k) (by omega) (okAt_no2 hx h30)).symm
            | exact (is_no2 (i := k) (by omega) (okAt_no3 hx hj hy h44)).symm
            | exact (is_yes (by omega) (by omega) fun i hi => hall i (by omega)).symm), by first
            | exact Mod.refl _ _
            | exact hg2.trans (Mod.drew _ _)
            | exact hg⟩
end Go.Proofs.YtnnmgfnhblbolaaGreatDoor
set_option linter.unusedVariables false
set_option linter.unusedSimpArgs false
set_option maxHeartbeats 400000
set_option maxRecDepth 100000
namespace Go.Proofs.YtnnmgfnhblbolaaGreatDoor
open Go Go.X
theorem allOne_ints (xs : List Int) : (xs.map (Value.int .i64)).all (·.oneCell') = true := by simp [Value.oneCell']
theorem allOne_labs (ls : List Lab) : (ls.flatMap labC).all (·.oneCell') = true := by
  rw [List.all_eq_true]
  intro u hu
  simp only [List.mem_flatMap, labC] at hu
  obtain ⟨x, _, hu⟩ := hu
  simp at hu
  rcases hu with rfl | rfl <;> rfl
theorem cloneI_ok (M : Nat → Prop) (xs : List Int) (v : Value) (w : World) (hv : Sl M w v 1 xs.length (xs.map (.int .i64))) (hb : xs.length * 8 ≤ 140737488355328) :
    Fx Tryz.prog 172 [v] w (fun u w' => Row w' 3 1 u xs.length (xs.map (.int .i64)) ∧ Fresh w.heap.size u ∧ Grow w w') := by
  obtain ⟨ad, c, b, o, rfl, hf⟩ := hv.open
  refine enter Tryz.func172 rfl rfl rfl _ (Pick.sub (l := [0]) (.cons rfl .nil)) ?_
  refine RK.seq ?_
  refine RK.region ?_
  refine RL.p rfl rfl ?_
  refine RL.done ?_
  iterate 2 refine RK.seq ?_
  refine RK.region ?_
  refine RL.p rfl rfl ?_
  refine RL.q (.free rfl) rfl rfl (Yld.eqNil u41 rfl rfl) ?_
  refine RL.done ?_
  first | refine RK.condD rfl (fun h4 => ?_) (fun h4 => ?_) | refine RK.condN rfl (fun h4 => ?_) (fun h4 => ?_) | refine RK.cond rfl (fun h4 => ?_) (fun h4 => ?_)
  · refine RK.seq ?_
    refine RK.region ?_
    refine RL.p rfl rfl ?_
    refine RL.done ?_
    refine RK.ret_of Tryz.func172 (res1 rfl rfl) ?_ _
    exact ⟨_, rfl, by cases ad with | none => (have h0 : xs.length = 0 := by (rcases Nat.eq_zero_or_pos xs.length with h | h; exact h; exact absurd (hf h).1 (by simp))); have : xs = [] := List.eq_nil_of_length_eq_zero h0; subst this; exact ⟨Row.nil _ _ _, fun b hb => by simp [Value.ownBlock] at hb, Mod.refl _ _⟩ | some a => simp at h4⟩
  · refine RK.skip ?_
    refine RK.seq ?_
    refine RK.region ?_
    refine RL.op (.free rfl) rfl rfl (Does.slice0 u41 i3) ?_
    rintro _ w1 ⟨b1, rfl, hn1⟩
    refine RL.p rfl rfl ?_
    refine RL.op (.free rfl) rfl rfl (Does.append u41 i3 rfl rfl rfl rfl rfl (Row.new hn1 1 0 rfl (by omega)) ((hv.mod (Mod.any' hn1.grow)).noM) (allOne_ints xs) (by omega)) ?_
    rintro u w2 ⟨hr, hm, hu⟩
    refine RL.p rfl rfl ?_
    refine RL.done ?_
    refine RK.ret_of Tryz.func172 (res1 rfl rfl) ?_ _
    exact ⟨_, rfl, by simpa using hr, fun b hb => by rcases hu with hu | hu <;> rw [hu] at hb <;> simp [Value.ownBlock] at hb <;> (have := hn1.at_; have := hn1.size; omega), hn1.grow.then hm (fun x hx e => by simp [Value.ownBlock] at e; have := hn1.at_; omega)⟩
end Go.Proofs.YtnnmgfnhblbolaaGreatDoor
set_option linter.unusedVariables false
set_option linter.unusedSimpArgs false
set_option maxHeartbeats 400000
set_option maxRecDepth 100000
namespace Go.Proofs.YtnnmgfnhblbolaaGreatDoor
open Go Go.X
abbrev ints (xs : List Int) : List Value := xs.map (Value.int .i64)
theorem compact_le (xs : List Int) : (Lib.compact xs).length ≤ xs.length := by
  unfold Lib.compact Lib.compactUpTo
  rw [List.length_map]
  exact Nat.le_trans (List.length_filter_le _ _) (by simp)
def sortI (xs : List Int) : List Int := xs.mergeSort fun x y => decide (x ≤ y)
theorem sortI_len (xs : List Int) : (sortI xs).length = xs.length := by simp [sortI]
theorem sort_ok (xs : List Int) (v : Value) (w : World) (hv : Row w 3 1 v xs.length (ints xs)) (hb : xs.length < 4611686018427387904) :
    Fx Tryz.prog 270 [v] w (fun u w' => u = .tuple #[] ∧ Row w' 3 1 v xs.length (ints (sortI xs)) ∧ Mod (fun b => v.ownBlock = some b) w w') := by
  rcases hv.2 with ⟨rfl, h0⟩ | ⟨g, cap, cur, rfl, _, hg, hn, hcap, hcs, htk⟩
  · have : xs = [] := List.eq_nil_of_length_eq_zero h0
    subst this
    refine Calls.mono (Tryz.slices_Sort_int_none none 0 w) ?_
    rintro e w' ⟨rfl, rfl⟩
    exact ⟨_, rfl, rfl, by simpa [sortI] using Row.nil w' _ _, Mod.refl _ _⟩
  · rw [Nat.mul_one] at htk
    refine Calls.mono (Tryz.slices_Sort_int g 0 cap xs w (holds_of_blockI hg htk) (Array.getElem?_eq_some_iff.1 hg).1 hb) ?_
    rintro e w' ⟨rfl, n, os, rfl⟩
    exact ⟨_, rfl, rfl, ownsRow_sortedI (by simp) (Nat.zero_le _) hg hn hcap hcs, Mod.grownBy (grownBy_sortedI _) (fun k h => by cases h; rfl)⟩
theorem compact_ok (xs : List Int) (v : Value) (w : World) (hv : Row w 3 1 v xs.length (ints xs)) :
    Fx Tryz.prog 271 [v] w (fun u w' => Row w' 3 1 u (Lib.compact xs).length (ints (Lib.compact xs)) ∧ u.ownBlock = v.ownBlock ∧ Mod (fun b => v.ownBlock = some b) w w') := by
  rcases hv.2 with ⟨rfl, h0⟩ | ⟨g, cap, cur, rfl, _, hg, hn, hcap, hcs, htk⟩
  · have : xs = [] := List.eq_nil_of_length_eq_zero h0
    subst this
    refine Calls.mono (Tryz.slices_Compact_int_empty none 0 w) ?_
    rintro e w' ⟨rfl, rfl⟩
    exact ⟨_, rfl, Row.nil w' _ _, rfl, Mod.refl _ _⟩
  · rw [Nat.mul_one] at htk
    refine Calls.mono (Tryz.slices_Compact_int g 0 cap xs w (holds_of_blockI hg htk) (by simp only [maxLen] at hcap; omega) hn) ?_
    rintro e w' ⟨rfl, q, rfl⟩
    have hle : (Lib.compact xs).length ≤ xs.length := compact_le xs
    have hh := heap_sortedI (n := q) (os := #[]) (Lib.compact xs ++ List.replicate (xs.length - (Lib.compact xs).length) 0).toArray hg
    have hgb := grownBy_sortedI (w := w) (g := g) (n := q) (os := #[]) (Lib.compact xs ++ List.replicate (xs.length - (Lib.compact xs).length) 0).toArray
    simp only [Sort.grow_empty] at hh hgb
    refine ⟨_, rfl, ⟨by simp, .inr ⟨g, cap, _, rfl, Nat.zero_le _, hh, by omega, hcap, by simp [Sort.putCells, hcs], ?_⟩⟩, rfl, Mod.grownBy hgb (fun k h => by cases h; rfl)⟩
    have := take_putCellsI cur (Lib.compact xs ++ List.replicate (xs.length - (Lib.compact xs).length) 0) (by simp; omega)
    have h2 := congrArg (List.take (Lib.compact xs).length) this
    rw [List.take_take, Nat.min_eq_left (by simp)] at h2
    rw [Nat.mul_one, h2]
    simp
theorem growNil_ok (m : Nat) (w : World) (hb : m * 8 ≤ 140737488355328) :
    Fx Tryz.prog 272 [.slice none 0 0, .int .i64 m] w (fun u w' => Row w' 3 1 u 0 [] ∧ Fresh w.heap.size u ∧ Grow w w') := by
  refine enter Tryz.func272 rfl rfl rfl _ (Pick.sub (l := [0, 1]) (.cons rfl (.cons rfl .nil))) ?_
  refine RK.seq ?_
  refine RK.region ?_
  refine RL.p rfl rfl ?_
  refine RL.done ?_
  iterate 2 refine RK.seq ?_
  refine RK.region ?_
  iterate 2 refine RL.p rfl rfl ?_
  refine RL.done ?_
  refine RK.condF (hcF rfl (decide_eq_false (by omega))) ?_
  refine RK.skip ?_
  iterate 2 refine RK.seq ?_
  refine RK.region ?_
  iterate 2 refine RL.p rfl rfl ?_
  refine RL.q (.free rfl) rfl rfl (Yld.capSl u41 rfl) ?_
  refine RL.p rfl rfl ?_
  refine RL.q (.free rfl) rfl rfl (Yld.lenSl u41 rfl) ?_
  refine RL.p rfl rfl ?_
  refine RL.re (d := 13) rfl rfl (sub_i64 (z := 0) (by omega) (by omega) (by omega)) ?_
  refine RL.p rfl rfl ?_
  refine RL.re (d := 14) rfl rfl (sub_i64 (z := (m : Int)) (by omega) (by omega) (by omega)) ?_
  refine RL.p rfl rfl ?_
  refine RL.done ?_
  refine RK.seq ?_
  refine RK.region ?_
  iterate 2 refine RL.p rfl rfl ?_
  refine RL.done ?_
  first | refine RK.condD rfl (fun h16 => ?_) (fun h16 => ?_) | refine RK.condN rfl (fun h16 => ?_) (fun h16 => ?_) | refine RK.cond rfl (fun h16 => ?_) (fun h16 => ?_)
  · refine RK.region ?_
    iterate 2 refine RL.p rfl rfl ?_
    refine RL.q (.free rfl) rfl rfl (Yld.capSl u41 rfl) ?_
    refine RL.q (.free rfl) rfl rfl (Yld.sliceHi u41 i3 (m := 0) rfl rfl (by omega)) ?_
    refine RL.p rfl rfl ?_
    refine RL.op (.free rfl) rfl rfl (Does.appendZ u41 Tryz.underlying3 i3 rfl rfl (m := m) (c := 0) rfl rfl (by omega) hb) ?_
    rintro _ w1 ⟨b1, cap1, cur1, rfl, hb1, hh1, hc1, hm1, hs1, hg1⟩
    refine RL.p rfl rfl ?_
    refine RL.q (.free rfl) rfl rfl (Yld.lenSl u41 rfl) ?_
    refine RL.q (.free rfl) rfl rfl (Yld.sliceHi u41 i3 (m := 0) rfl rfl (by omega)) ?_
    refine RL.p rfl rfl ?_
    refine RL.done ?_
    refine RK.seq ?_
    refine RK.region ?_
    iterate 2 refine RL.p rfl rfl ?_
    refine RL.done ?_
    refine RK.ret_of Tryz.func272 (res1 rfl rfl) ?_ _
    exact ⟨_, rfl, ⟨by simp, .inr ⟨b1, cap1, cur1, rfl, Nat.zero_le _, hh1, by omega, hm1, hs1, by simp⟩⟩, fun b hb => by simp [Value.ownBlock] at hb; omega, hg1⟩
  · refine RK.skip ?_
    refine RK.seq ?_
    refine RK.region ?_
    iterate 2 refine RL.p rfl rfl ?_
    refine RL.done ?_
    refine RK.ret_of Tryz.func272 (res1 rfl rfl) ?_ _
    exact ⟨_, rfl, Row.nil _ _ _, fun b hb => by simp [Value.ownBlock] at hb, Mod.refl _ _⟩
def total (pr : List (Value × List Int)) : Nat := (pr.map fun p => p.2.length).sum
theorem total_take {pr : List (Value × List Int)} {k : Nat} {p : Value × List Int} (h : pr[k]? = some p) : total (pr.take (k + 1)) = total (pr.take k) + p.2.length := by
  have hk : k < pr.length := (List.getElem?_eq_some_iff.1 h).1
  rw [List.take_succ_eq_append_getElem hk]
  have : pr[k] = p := (List.getElem?_eq_some_iff.1 h).2
  simp [total, this]
theorem total_le (pr : List (Value × List Int)) (k : Nat) : total (pr.take k) ≤ total pr := by
  have : total pr = total (pr.take k) + total (pr.drop k) := by
    unfold total
    rw [← List.sum_append, ← List.map_append, List.take_append_drop]
  omega
theorem concat_ok (M : Nat → Prop) (pr : List (Value × List Int)) (v : Value) (w : World) (hv : Sl M w v 1 pr.length (pr.map (·.1))) (hs : ∀ p ∈ pr, Sl M w p.1 1 p.2.length (ints p.2)) (hb : total pr * 8 ≤ 140737488355328) :
    Fx Tryz.prog 222 [v] w (fun u w' => Row w' 3 1 u (pr.flatMap (·.2)).length (ints (pr.flatMap (·.2))) ∧ Fresh w.heap.size u ∧ Grow w w') := by
  obtain ⟨ad, c, b, o, rfl, hf⟩ := hv.open
  refine enter Tryz.func222 rfl rfl rfl _ (Pick.sub (l := [0]) (.cons rfl .nil)) ?_
  refine RK.seq ?_
  refine RK.region ?_
  refine RL.p rfl rfl ?_
  refine RL.done ?_
  refine RK.seq ?_
  refine RK.region ?_
  refine RL.p rfl rfl ?_
  refine RL.done ?_
  iterate 2 refine RK.seq ?_
  refine RK.region ?_
  refine RL.p rfl rfl ?_
  refine RL.q (.free rfl) rfl rfl (Yld.lenSl u345 rfl) ?_
  refine RL.p rfl rfl ?_
  refine RL.done ?_
  refine RK.block ?_
  refine RK.loop (fun k : Nat => [(0, .slice ad pr.length c), (9, .slice ad pr.length c), (10, .int .i64 pr.length), (11, .int .i64 k), (3, .int .i64 (total (pr.take k)))]) (fun k w' => w = w' ∧ k ≤ pr.length) (fun k => pr.length - k) 0 ⟨rfl, rfl, rfl, rfl, rfl, trivial⟩ ⟨rfl, by omega⟩ (fun k w' hI ih => ?_)
  obtain ⟨rfl, hk⟩ := hI
  refine RK.seq ?_
  refine RK.region ?_
  refine RL.p rfl rfl ?_
  refine RL.done ?_
  refine RK.seq ?_
  first | refine RK.condD rfl (fun h12 => ?_) (fun h12 => ?_) | refine RK.condN rfl (fun h12 => ?_) (fun h12 => ?_) | refine RK.cond rfl (fun h12 => ?_) (fun h12 => ?_)
  · obtain ⟨p, hp⟩ : ∃ p, pr[k]? = some p := ⟨pr[k]'(by omega), List.getElem?_eq_getElem (by omega)⟩
    obtain ⟨rfl, hbM, hc⟩ := hf (by omega)
    have hsp := hs p (List.mem_of_getElem? hp)
    obtain ⟨adp, cp, hpv⟩ := hsp.shape
    have ht := total_take hp
    have htl := total_le pr (k + 1)
    refine RK.skip ?_
    refine RK.seq ?_
    refine RK.block ?_
    refine RK.seq ?_
    refine RK.region ?_
    refine RL.q (.free rfl) rfl rfl (Yld.indexAddrN u345 i41 rfl rfl (by omega)) ?_
    refine RL.q (.free rfl) rfl rfl (Yld.load p41 rfl (at1 (by have := hc k p.1 (by simp [hp]); rw [hpv] at this; simpa using this))) ?_
    refine RL.p rfl rfl ?_
    refine RL.done ?_
    refine RK.seq ?_
    refine RK.region ?_
    iterate 2 refine RL.p rfl rfl ?_
    refine RL.q (.free rfl) rfl rfl (Yld.lenSl u41 rfl) ?_
    refine RL.p rfl rfl ?_
    refine RL.re (d := 18) rfl rfl (add_i64 (z := ((total (pr.take (k + 1)) : Nat) : Int)) (by rw [ht]; simp) (by omega) (by omega)) ?_
    refine RL.p rfl rfl ?_
    refine RL.done ?_
    refine RK.seq ?_
    refine RK.region ?_
    iterate 2 refine RL.p rfl rfl ?_
    refine RL.done ?_
    refine RK.condF (hcF rfl (decide_eq_false (by omega))) ?_
    refine RK.skip ?_
    refine RK.inBlock ?_
    refine RK.region ?_
    refine RL.p rfl rfl ?_
    refine RL.re (d := 22) rfl rfl (succ_i64 (by have := hv.big; omega)) ?_
    refine RL.p rfl rfl ?_
    refine RL.done ?_
    exact RK.back (ih (k + 1) _ ⟨rfl, by omega⟩ (by omega)) ⟨rfl, rfl, rfl, rfl, rfl, trivial⟩
  · have ek : pr.take k = pr := List.take_of_length_le (by omega)
    rw [ek]
    refine RK.exit rfl ?_
    refine RK.seq ?_
    refine RK.region ?_
    refine RL.p rfl rfl ?_
    refine RL.op (.free rfl) rfl rfl (Does.call rfl e272 (growNil_ok (total pr) _ hb)) ?_
    rintro u0 w1 ⟨hr1, hf1, hg1⟩
    refine RL.p rfl rfl ?_
    refine RL.done ?_
    iterate 2 refine RK.seq ?_
    refine RK.region ?_
    refine RL.p rfl rfl ?_
    refine RL.q (.free rfl) rfl rfl (Yld.lenSl u345 rfl) ?_
    refine RL.p rfl rfl ?_
    refine RL.done ?_
    refine RK.block ?_
    refine RK.loop (fun (s : Nat × Value) => [(25, .slice ad pr.length c), (26, .int .i64 pr.length), (27, .int .i64 s.1), (6, s.2)]) (fun s w' => Row w' 3 1 s.2 ((pr.take s.1).flatMap (·.2)).length (ints ((pr.take s.1).flatMap (·.2))) ∧ Fresh w.heap.size s.2 ∧ Grow w w' ∧ s.1 ≤ pr.length) (fun s => pr.length - s.1) (0, u0) ⟨rfl, rfl, rfl, rfl, trivial⟩ ⟨by simpa using hr1, hf1, hg1, by omega⟩ (fun s w' hI ih => ?_)
    obtain ⟨k2, u⟩ := s
    obtain ⟨hr, hfr, hg, hk2⟩ := hI
    simp only at hr hfr hk2
    refine RK.seq ?_
    refine RK.region ?_
    refine RL.p rfl rfl ?_
    refine RL.done ?_
    refine RK.seq ?_
    first | refine RK.condD rfl (fun h28 => ?_) (fun h28 => ?_) | refine RK.condN rfl (fun h28 => ?_) (fun h28 => ?_) | refine RK.cond rfl (fun h28 => ?_) (fun h28 => ?_)
    · obtain ⟨p, hp⟩ : ∃ p, pr[k2]? = some p := ⟨pr[k2]'(by omega), List.getElem?_eq_getElem (by omega)⟩
      obtain ⟨rfl, hbM, hc⟩ := hf (by omega)
      have hsp := hs p (List.mem_of_getElem? hp)
      have ht := total_take hp
      have htl := total_le pr (k2 + 1)
      have e1 : ((pr.take k2).flatMap (·.2)).length = total (pr.take k2) := by simp [total, List.length_flatMap]
      have e2 : (pr.take (k2 + 1)).flatMap (·.2) = (pr.take k2).flatMap (·.2) ++ p.2 := by rw [List.take_succ_eq_append_getElem (by omega)]; simp [(List.getElem?_eq_some_iff.1 hp).2]
      refine RK.skip ?_
      refine RK.seq ?_
      refine RK.block ?_
      refine RK.seq ?_
      refine RK.region ?_
      refine RL.q (.free rfl) rfl rfl (Yld.indexAddrN u345 i41 rfl rfl (by omega)) ?_
      refine RL.q (.free rfl) rfl rfl (Yld.load p41 rfl (at1 (hg.cell (by have := hc k2 p.1 (by simp [hp]); simpa using this) (fun h => h)))) ?_
      refine RL.p rfl rfl ?_
      refine RL.done ?_
      refine RK.region ?_
      iterate 2 refine RL.p rfl rfl ?_
      refine RL.op (.free rfl) rfl rfl (Does.append u41 i3 rfl rfl rfl rfl rfl (hr) ((hsp.mod (Mod.any' hg)).noM) (allOne_ints _) (by rw [e1]; omega)) ?_
      rintro u2 w2 ⟨hr2, hm2, hu2⟩
      refine RL.p rfl rfl ?_
      refine RL.done ?_
      refine RK.inBlock ?_
      refine RK.region ?_
      refine RL.p rfl rfl ?_
      refine RL.re (d := 34) rfl rfl (succ_i64 (by have := hv.big; omega)) ?_
      refine RL.p rfl rfl ?_
      refine RL.done ?_
      exact RK.back (ih (k2 + 1, u2) _ ⟨by rw [e2]; simpa using hr2, fun b hb => by rcases hu2 with h | h <;> rw [h] at hb; exact hfr b hb; (cases hb; exact hg.size), hg.then hm2 (fun x hx e => by have := hfr x e; omega), by simp; omega⟩ (by simp; omega)) ⟨rfl, rfl, rfl, rfl, trivial⟩
    · have ek2 : pr.take k2 = pr := List.take_of_length_le (by omega)
      rw [ek2] at hr
      refine RK.exit rfl ?_
      refine RK.seq ?_
      refine RK.region ?_
      iterate 2 refine RL.p rfl rfl ?_
      refine RL.done ?_
      refine RK.ret_of Tryz.func222 (res1 rfl rfl) ?_ _
      exact ⟨_, rfl, hr, hfr, hg⟩
end Go.Proofs.YtnnmgfnhblbolaaGreatDoor
set_option linter.unusedVariables false
set_option linter.unusedSimpArgs false
set_option maxHeartbeats 400000
set_option maxRecDepth 100000
namespace Go.Proofs.YtnnmgfnhblbolaaGreatDoor
open Go Go.X
def mkRow (xs : List Int) : List Int := Lib.compact (sortI xs)
theorem mkRow_le (xs : List Int) : (mkRow xs).length ≤ xs.length := by
  have := compact_le (sortI xs)
  rw [sortI_len] at this
  exact this
theorem make_ok (M : Nat → Prop) (xs : List Int) (v : Value) (w : World) (hv : Sl M w v 1 xs.length (ints xs)) (hb : xs.length * 8 ≤ 140737488355328) :
    Fx Tryz.prog 221 [v] w (fun u w' => Row w' 3 1 u (mkRow xs).length (ints (mkRow xs)) ∧ Fresh w.heap.size u ∧ Grow w w') := by
  refine enter Tryz.func221 rfl rfl rfl _ (Pick.sub (l := [0]) (.cons rfl .nil)) ?_
  refine RK.seq ?_
  refine RK.region ?_
  refine RL.p rfl rfl ?_
  refine RL.done ?_
  refine RK.seq ?_
  refine RK.region ?_
  refine RL.p rfl rfl ?_
  refine RL.op (.free rfl) rfl rfl (Does.call rfl e172 (cloneI_ok M xs v _ hv hb)) ?_
  rintro u1 w1 ⟨hr1, hf1, hg1⟩
  refine RL.p rfl rfl ?_
  refine RL.done ?_
  refine RK.seq ?_
  refine RK.region ?_
  refine RL.p rfl rfl ?_
  refine RL.op (.free rfl) rfl rfl (Does.call rfl e270 (sort_ok xs u1 _ hr1 (by omega))) ?_
  rintro _ w2 ⟨rfl, hr2, hm2⟩
  refine RL.done ?_
  refine RK.seq ?_
  refine RK.region ?_
  refine RL.p rfl rfl ?_
  refine RL.op (.free rfl) rfl rfl (Does.call rfl e271 (compact_ok (sortI xs) u1 _ (by rw [sortI_len]; exact hr2))) ?_
  rintro u3 w3 ⟨hr3, hu3, hm3⟩
  refine RL.p rfl rfl ?_
  refine RL.done ?_
  refine RK.ret_of Tryz.func221 (res1 rfl rfl) ?_ _
  exact ⟨_, rfl, hr3, fun b hb => hf1 b (by rw [← hu3]; exact hb), (hg1.then hm2 (fun x hx e => by have := hf1 x e; omega)).then hm3 (fun x hx e => by have := hf1 x e; omega)⟩
theorem or_ok (M : Nat → Prop) (xs ys : List Int) (va vb : Value) (w : World) (ha : Sl M w va 1 xs.length (ints xs)) (hbv : Sl M w vb 1 ys.length (ints ys)) (hb : (xs.length + ys.length) * 8 ≤ 140737488355328) :
    Fx Tryz.prog 142 [va, vb] w (fun u w' => Row w' 3 1 u (mkRow (xs ++ ys)).length (ints (mkRow (xs ++ ys))) ∧ Fresh w.heap.size u ∧ Grow w w') := by
  obtain ⟨ad, c, rfl⟩ := ha.shape
  obtain ⟨ad', c', rfl⟩ := hbv.shape
  refine enter Tryz.func142 rfl rfl rfl _ (Pick.sub (l := [0, 1]) (.cons rfl (.cons rfl .nil))) ?_
  refine RK.seq ?_
  refine RK.region ?_
  refine RL.p rfl rfl ?_
  refine RL.done ?_
  refine RK.seq ?_
  refine RK.region ?_
  iterate 2 refine RL.p rfl rfl ?_
  refine RL.op (.free rfl) rfl rfl (Does.bslice (el := 41) ([.slice ad xs.length c, .slice ad' ys.length c']) rfl (fun w => by kernel_rfl)) ?_
  rintro _ w1 ⟨b1, rfl, hn1⟩
  refine RL.op (.free rfl) rfl rfl (Does.call rfl e222 (concat_ok No [(.slice ad xs.length c, xs), (.slice ad' ys.length c', ys)] _ _ (Sl.new hn1 1 2 rfl (by omega) (fun h => h)) (by intro p hp; simp at hp; rcases hp with rfl | rfl; exact (ha.mod (Mod.any' hn1.grow)).noM; exact (hbv.mod (Mod.any' hn1.grow)).noM) (by simp [total]; omega))) ?_
  rintro u2 w2 ⟨hr2, hf2, hg2⟩
  simp only [List.flatMap_cons, List.flatMap_nil, List.append_nil] at hr2
  refine RL.op (.free rfl) rfl rfl (Does.call rfl e221 (make_ok No (xs ++ ys) u2 _ (Sl.own hr2 (fun _ _ h => h)) (by simp; omega))) ?_
  rintro u3 w3 ⟨hr3, hf3, hg3⟩
  refine RL.p rfl rfl ?_
  refine RL.done ?_
  refine RK.ret_of Tryz.func142 (res1 rfl rfl) ?_ _
  exact ⟨_, rfl, hr3, fun b hb => by have := hf3 b hb; have := hg2.size; have := hn1.grow.size; omega, (hn1.grow.trans hg2).trans hg3⟩
theorem put_ok (M : Nat → Prop) (xs : List Int) (x : Int) (v : Value) (w : World) (hv : Sl M w v 1 xs.length (ints xs)) (hb : (xs.length + 1) * 8 ≤ 140737488355328) :
    Fx Tryz.prog 193 [v, .int .i64 x] w (fun u w' => Row w' 3 1 u (mkRow (xs ++ [x])).length (ints (mkRow (xs ++ [x]))) ∧ Fresh w.heap.size u ∧ Grow w w') := by
  refine enter Tryz.func193 rfl rfl rfl _ (Pick.sub (l := [0, 1]) (.cons rfl (.cons rfl .nil))) ?_
  refine RK.seq ?_
  refine RK.region ?_
  refine RL.p rfl rfl ?_
  refine RL.done ?_
  refine RK.seq ?_
  refine RK.region ?_
  iterate 2 refine RL.p rfl rfl ?_
  refine RL.op (.free rfl) rfl rfl (Does.slice1 u41 i3 rfl rfl rfl rfl rfl) ?_
  rintro _ w1 ⟨b1, rfl, hn1⟩
  refine RL.op (.free rfl) rfl rfl (Does.call rfl e142 (or_ok No xs [x] v _ _ (hv.mod (Mod.any' hn1.grow)).noM (Sl.new hn1 1 1 rfl (by omega) (fun h => h)) (by simpa using hb))) ?_
  rintro u2 w2 ⟨hr2, hf2, hg2⟩
  refine RL.p rfl rfl ?_
  refine RL.done ?_
  refine RK.ret_of Tryz.func193 (res1 rfl rfl) ?_ _
  exact ⟨_, rfl, hr2, fun b hb => by have := hf2 b hb; have := hn1.grow.size; omega, hn1.grow.trans hg2⟩
structure PoolAt (w : World) (p : Nat) (most last : Int) (out : List Int) (v : Value) : Prop where
  blk : Blk w p 120 [.int .i64 most, .int .i64 last, v]
  row : Row w 3 1 v out.length (ints out)
  ne : v.ownBlock ≠ some p
theorem poolNew_ok (m : Int) (w : World) : Fx Tryz.prog 23 [.int .i64 m] w (fun u w' => ∃ p, u = pp p ∧ p = w.heap.size ∧ PoolAt w' p (if 0 > m then 0 else m) 0 [] (.slice none 0 0) ∧ Grow w w' ∧ w'.heap.size = w.heap.size + 1) := by
  refine enter Tryz.func23 rfl rfl rfl _ (Pick.sub (l := [0]) (.cons rfl .nil)) ?_
  refine RK.seq ?_
  refine RK.region ?_
  refine RL.p rfl rfl ?_
  refine RL.done ?_
  refine RK.seq ?_
  refine RK.region ?_
  refine RL.p rfl rfl ?_
  refine RL.q (.free rfl) rfl rfl (Yld.max2 rfl rfl) ?_
  refine RL.q (.free rfl) rfl rfl (Yld.build (v := .agg #[.int .i64 (if 0 > m then 0 else m), .int .i64 0, .slice none 0 0]) rfl (fun w => by kernel_rfl)) ?_
  refine RL.op (.free rfl) rfl rfl (Does.box rfl) ?_
  rintro _ w1 ⟨b1, rfl, hn1⟩
  refine RL.p rfl rfl ?_
  refine RL.done ?_
  refine RK.ret_of Tryz.func23 (res1 rfl rfl) ?_ _
  exact ⟨_, rfl, b1, rfl, hn1.at_, ⟨hn1.blk, Row.nil _ _ _, by simp [Value.ownBlock]⟩, hn1.grow, hn1.size⟩
end Go.Proofs.YtnnmgfnhblbolaaGreatDoor
set_option linter.unusedVariables false
set_option linter.unusedSimpArgs false
set_option maxHeartbeats 400000
set_option maxRecDepth 100000
namespace Go.Proofs.YtnnmgfnhblbolaaGreatDoor
open Go Go.X
def canS (b : Nat) : Nat := if nanS b then 9221120237041090561 else b
end Go.Proofs.YtnnmgfnhblbolaaGreatDoor
set_option linter.unusedVariables false
set_option linter.unusedSimpArgs false
set_option maxHeartbeats 6400000
set_option maxRecDepth 100000
namespace Go.Proofs.YtnnmgfnhblbolaaGreatDoor
open Go Go.X
theorem fldV {w : World} {b t : Nat} {cs : List Value} (h : Blk w b t cs) (k n : Nat) : ∀ j u, ((cs.drop k).take n)[j]? = some u → w.cell? ⟨b, 0 + k + j, none⟩ = some u := fun j u hj => by
  have hj2 : (cs.drop k)[j]? = some u := by
    rw [List.getElem?_take] at hj
    split at hj
    · exact hj
    · cases hj
  rw [List.getElem?_drop] at hj2
  rw [Nat.zero_add]
  exact h.cell' hj2
theorem blkV {w : World} {b t : Nat} {cs : List Value} (h : Blk w b t cs) : ∀ (j : Nat) (u : Value), cs[j]? = some u → w.cell? ⟨b, 0 + j, none⟩ = some u := fun j u hj => by rw [Nat.zero_add]; exact h.cell' hj
@[reducible] def band0 : List Value := [.bool false, .float .f64 0, .float .f64 0]
@[reducible] def reqC (tok : ByteArray) (op : Int) : List Value := [.string tok, .int .i64 op, .int .i64 0, .string ⟨#[]⟩, .int .u64 0, .int .u64 0, .int .i64 0, .slice none 0 0, .bool false, .float .f64 0, .float .f64 0, .slice none 0 0, .slice none 0 0, .bool false, .float .f64 0, .float .f64 0, .slice none 0 0, .slice none 0 0, .float .f64 0]
theorem nought0_ok (w : World) : Fx Tryz.prog 242 [.float .f64 0] w (fun u w' => u = .bool true ∧ w = w') := by
  refine enter Tryz.func242 rfl rfl rfl _ (Pick.sub (l := [0]) (.cons rfl .nil)) ?_
  refine RK.seq ?_
  refine RK.region ?_
  refine RL.p rfl rfl ?_
  refine RL.done ?_
  refine RK.seq ?_
  refine RK.region ?_
  refine RL.p rfl rfl ?_
  refine RL.op (.free rfl) rfl rfl (Does.call rfl e106 (bits_ok 0 _)) ?_
  rintro _ _ ⟨rfl, rfl⟩
  iterate 2 refine RL.p rfl rfl ?_
  refine RL.done ?_
  refine RK.ret_of Tryz.func242 (res1 rfl rfl) ?_ _
  exact ⟨_, rfl, congrArg Value.bool (decide_eq_true (by have h : nanS 0 = false := (by unfold nanS; decide +kernel); unfold bitsS; rw [h]; rfl)), rfl⟩
theorem noBand0_ok (w : World) : Fx Tryz.prog 240 [.agg band0.toArray] w (fun u w' => u = .bool true ∧ Grow w w') := by
  refine enter Tryz.func240 rfl rfl rfl _ (Pick.sub (l := [0]) (.cons rfl .nil)) ?_
  refine RK.seq ?_
  refine RK.region ?_
  refine RL.op (.free rfl) rfl rfl (Does.box rfl) ?_
  rintro _ w1 ⟨b1, rfl, hn1⟩
  have hB : Blk w1 b1 33 band0 := hn1.blk
  refine RL.p rfl rfl ?_
  refine RL.done ?_
  refine RK.seq ?_
  refine RK.region ?_
  refine RL.q (.free rfl) rfl rfl (Yld.fieldAddr fo33_0 rfl) ?_
  refine RL.q (.free rfl) rfl rfl (Yld.load p4 rfl (at1 (hB.cell rfl))) ?_
  iterate 2 refine RL.p rfl rfl ?_
  refine RL.knownT (d := 6) rfl rfl (by first | rfl | decide) ?_
  refine RL.q (.yes rfl rfl rfl) rfl rfl (Yld.fieldAddr fo33_1 rfl) ?_
  refine RL.q (.yes rfl rfl rfl) rfl rfl (Yld.load p31 rfl (at1 (hB.cell rfl))) ?_
  refine RL.op (.yes rfl rfl rfl) rfl rfl (Does.call rfl e242 (nought0_ok _)) ?_
  rintro _ _ ⟨rfl, rfl⟩
  iterate 2 refine RL.p rfl rfl ?_
  refine RL.knownT (d := 11) rfl rfl (by first | rfl | decide) ?_
  refine RL.q (.yes rfl rfl rfl) rfl rfl (Yld.fieldAddr fo33_2 rfl) ?_
  refine RL.q (.yes rfl rfl rfl) rfl rfl (Yld.load p31 rfl (at1 (hB.cell rfl))) ?_
  refine RL.op (.yes rfl rfl rfl) rfl rfl (Does.call rfl e242 (nought0_ok _)) ?_
  rintro _ _ ⟨rfl, rfl⟩
  iterate 2 refine RL.p rfl rfl ?_
  refine RL.done ?_
  refine RK.ret_of Tryz.func240 (res1 rfl rfl) ?_ _
  exact ⟨_, rfl, rfl, hn1.grow⟩
theorem mlist0_ok (w : World) : Fx Tryz.prog 134 [.slice none 0 0] w (fun u w' => u = .bool true ∧ w = w') := by
  refine enter Tryz.func134 rfl rfl rfl _ (Pick.sub (l := [0]) (.cons rfl .nil)) ?_
  refine RK.seq ?_
  refine RK.region ?_
  refine RL.p rfl rfl ?_
  refine RL.done ?_
  iterate 2 refine RK.seq ?_
  refine RK.region ?_
  refine RL.p rfl rfl ?_
  refine RL.q (.free rfl) rfl rfl (Yld.lenSl u30 rfl) ?_
  refine RL.p rfl rfl ?_
  refine RL.done ?_
  refine RK.condF (hcF rfl (rfl)) ?_
  refine RK.skip ?_
  iterate 2 refine RK.seq ?_
  refine RK.region ?_
  refine RL.p rfl rfl ?_
  refine RL.q (.free rfl) rfl rfl (Yld.lenSl u30 rfl) ?_
  refine RL.p rfl rfl ?_
  refine RL.done ?_
  refine RK.block ?_
  refine RK.loop (fun s : Unit => [(9, .int .i64 0), (10, .int .i64 0)]) (fun s w' => w = w') (fun s => 0) () ⟨rfl, rfl, trivial⟩ rfl (fun s w' hI ih => ?_)
  subst hI
  refine RK.seq ?_
  refine RK.region ?_
  refine RL.p rfl rfl ?_
  refine RL.done ?_
  refine RK.seq ?_
  refine RK.condF (hcF rfl (rfl)) ?_
  refine RK.exit rfl ?_
  refine RK.seq ?_
  refine RK.region ?_
  refine RL.p rfl rfl ?_
  refine RL.done ?_
  refine RK.ret_of Tryz.func134 (res1 rfl rfl) ?_ _
  exact ⟨_, rfl, rfl, rfl⟩
end Go.Proofs.YtnnmgfnhblbolaaGreatDoor
set_option linter.unusedVariables false
set_option linter.unusedSimpArgs false
set_option maxHeartbeats 6400000
set_option maxRecDepth 100000
namespace Go.Proofs.YtnnmgfnhblbolaaGreatDoor
open Go Go.X
@[reducible] def respC (code op id now : Int) : List Value := [.int .i64 code, .int .i64 op, .int .i64 id, .slice none 0 0, .slice none 0 0, .slice none 0 0, .slice none 0 0, .int .u8 0, .int .u8 0, .int .u8 0, .int .u8 0, .int .u8 0, .int .u8 0, .int .u8 0, .int .u8 0, .int .u8 0, .int .u8 0, .int .u8 0, .int .u8 0, .int .u8 0, .int .u8 0, .int .u8 0, .int .u8 0, .int .u8 0, .int .u8 0, .int .u8 0, .int .u8 0, .int .u8 0, .int .u8 0, .int .u8 0, .int .u8 0, .int .u8 0, .int .u8 0, .int .u8 0, .int .u8 0, .int .u8 0, .int .u8 0, .int .u8 0, .int .u8 0, .int .u64 now]
end Go.Proofs.YtnnmgfnhblbolaaGreatDoor
set_option linter.unusedVariables false
set_option linter.unusedSimpArgs false
set_option maxHeartbeats 6400000
set_option maxRecDepth 100000
namespace Go.Proofs.YtnnmgfnhblbolaaGreatDoor
open Go Go.X
@[reducible] def root : ByteArray := ⟨#[114, 111, 111, 116]⟩
theorem Does.insert {P : Program} {n : Nat} {e : Env} {w : World} {κ : Type} [DecidableEq κ] {enc : κ → Value} {d : Option Tmp} {t kt el : Nat} {x i y : Operand} {ty : TypeId} {pos : String} {af : Array Edge} {g : Option (Nat × Bool)} (hT : P.underlying t = some (.map kt el)) (hK : KeyLaw P kt enc) {m : Nat} {k : κ} {v : Value} {l : List (κ × Value)}
    (hx : ev e x = some (.map (some m))) (hi : ev e i = some (enc k)) (hy : ev e y = some v) (hm : MapAt enc w m l) :
    Does P n e w ⟨d, .insert t x i y, ty, pos, af, g⟩ (fun _ w' => MapAt enc w' m (putM l k v) ∧ Mod (· = m) w w' ∧ w'.heap.size = w.heap.size) := by
  intro a ha K K' hk
  have h := Does.mapUpdate (P := P) (n := n) (d := d) (ty := ty) (pos := pos) (af := af) (g := g) hT hK hx hi hy hm a ha K K' hk
  unfold Oper.wp at h ⊢
  exact h
abbrev It := Bool × Nat × Value
@[reducible] def itC (x : It) : List Value := [.bool x.1, .int .u64 (x.2.1 : Int), x.2.2]
@[reducible] def placeC (i : Int) (tick asks : Bool) (req : List Value) (owner : Int) (reads : Bool) (resp : List Value) (ok : Bool) (now : Int) : List Value := [.int .i64 i, .bool tick, .bool asks] ++ req ++ [.int .i64 owner, .bool reads] ++ resp ++ [.bool ok, .int .u64 now]
structure Lg (w : World) (vi va : Value) (xs : List It) (qs : List Value) : Prop where
  it : Sl No w vi 3 xs.length (xs.flatMap itC)
  an : Sl No w va 1 qs.length qs
theorem Lg.grow {w w' : World} {vi va : Value} {xs : List It} {qs : List Value} (h : Lg w vi va xs qs) (hg : Grow w w') : Lg w' vi va xs qs := ⟨h.it.mod hg, h.an.mod hg⟩
end Go.Proofs.YtnnmgfnhblbolaaGreatDoor
set_option linter.unusedVariables false
set_option linter.unusedSimpArgs false
set_option maxHeartbeats 6400000
set_option maxRecDepth 100000
namespace Go.Proofs.YtnnmgfnhblbolaaGreatDoor
open Go Go.X
theorem Yld.arrPtr {P : Program} {n : Nat} {e : Env} {C : World → Prop} {d : Option Tmp} {arr len el : Nat} {x : Operand} {ty : TypeId} {pos : String} {af : Array Edge} {g : Option (Nat × Bool)} (hT : P.underlying arr = some (.array len el)) {ad : Option Addr} {k c : Nat} (hx : ev e x = some (.slice ad k c)) (h : len ≤ k) :
    Yld P n C e ⟨d, .sliceToArrayPointer arr x, ty, pos, af, g⟩ (.pointer ad) := by
  intro ac ha w _
  have h1 : ¬ k < len := by omega
  simp [execOp, ha.ev hx, Instr.arrayAt, run_underlying hT, h1]
theorem rem_nat {a : Nat} {b : Nat} : ((a : Int)).tmod (b : Int) = ((a % b : Nat) : Int) := by
  rw [Int.tmod_eq_emod_of_nonneg (by omega)]; simp
theorem quo_nat {a : Nat} {b : Nat} : ((a : Int)).tdiv (b : Int) = ((a / b : Nat) : Int) := by
  rw [Int.tdiv_eq_ediv_of_nonneg (by omega)]; simp
theorem pad_ok (n : Nat) (cs : List Value) (v : Value) (w : World) (hv : Sl No w v 1 n cs) (hw : WW .u8 n cs) (hn : n ≤ 100000) (h0n : 0 < n) : Fx Tryz.prog 173 [v] w (fun u w' => ∃ (g m : Nat) (ps : List Value), u = .slice (some ⟨g, 0, none⟩) m m ∧ Blk w' g 5 ps ∧ WW .u8 m ps ∧ m % 64 = 0 ∧ m ≤ n + 100 ∧ Grow w w') := by
  obtain ⟨ad, c, rfl⟩ := hv.shape
  refine enter Tryz.func173 rfl rfl rfl _ (Pick.sub (l := [0]) (.cons rfl .nil)) ?_
  refine RK.seq ?_
  refine RK.region ?_
  refine RL.p rfl rfl ?_
  refine RL.done ?_
  refine RK.seq ?_
  refine RK.region ?_
  refine RL.p rfl rfl ?_
  refine RL.q (.free rfl) rfl rfl (Yld.lenSl u43 rfl) ?_
  refine RL.p rfl rfl ?_
  refine RL.re (d := 9) rfl rfl (succ_i64 (by omega)) ?_
  refine RL.p rfl rfl ?_
  refine RL.done ?_
  refine RK.seq ?_
  refine RK.block ?_
  refine RK.loop (fun m : Nat => [(0, .slice ad n c), (3, .int .i64 (m : Int))]) (fun m w' => w = w' ∧ n + 1 ≤ m ∧ m + (120 - m % 64) % 64 ≤ n + 66) (fun m => (120 - m % 64) % 64) (n + 1) ⟨rfl, rfl, trivial⟩ ⟨rfl, by omega, by omega⟩ (fun m w' hI ih => ?_)
  obtain ⟨rfl, hm1, hm2⟩ := hI
  iterate 2 refine RK.seq ?_
  refine RK.region ?_
  refine RL.p rfl rfl ?_
  refine RL.q (.free rfl) rfl rfl (Yld.rem rfl rfl (by decide)) ?_
  refine RL.re (d := 11) rfl rfl (congrArg (Value.int .i64) (rem_nat (b := 64))) ?_
  refine RL.p rfl rfl ?_
  refine RL.done ?_
  first | refine RK.condD rfl (fun h12 => ?_) (fun h12 => ?_) | refine RK.condN rfl (fun h12 => ?_) (fun h12 => ?_) | refine RK.cond rfl (fun h12 => ?_) (fun h12 => ?_)
  · refine RK.skip ?_
    refine RK.block ?_
    refine RK.region ?_
    iterate 2 refine RL.p rfl rfl ?_
    refine RL.re (d := 14) rfl rfl (succ_i64 (by omega)) ?_
    refine RL.p rfl rfl ?_
    refine RL.done ?_
    refine RK.inBlock ?_
    exact RK.back (ih (m + 1) _ ⟨rfl, by omega, by omega⟩ (by omega)) ⟨rfl, rfl, trivial⟩
  · have hm64 : m % 64 = 56 := by omega
    refine RK.exit rfl ?_
    refine RK.seq ?_
    refine RK.region ?_
    iterate 2 refine RL.p rfl rfl ?_
    refine RL.re (d := 16) rfl rfl (add_i64 (z := ((m + 8 : Nat) : Int)) (by simp) (by omega) (by omega)) ?_
    refine RL.op (.free rfl) rfl rfl (Does.mkSlice u43 i5 rfl rfl rfl (by omega) (by omega)) ?_
    rintro _ w2 ⟨g, rfl, hng⟩
    have hag := hng.at_
    have hW0 := WW.zero .u8 (m + 8)
    refine RL.p rfl rfl ?_
    refine RL.done ?_
    refine RK.seq ?_
    refine RK.region ?_
    iterate 2 refine RL.p rfl rfl ?_
    refine RL.op (.free rfl) rfl rfl (Does.copyS u43 i5 (m := n) rfl rfl hng.blk (hv.mod (Mod.any' hng.grow)) h0n (by omega) (by have := hW0.1; omega) hw.one) ?_
    rintro _ w3 ⟨_, hb3, hm3, hs3⟩
    obtain ⟨c3, hc3⟩ : ∃ c3 : List Value, c3 = (List.replicate (m + 8) (Value.int .u8 0)).take 0 ++ cs ++ (List.replicate (m + 8) (Value.int .u8 0)).drop (0 + n * 1) := ⟨_, rfl⟩
    rw [← hc3] at hb3
    have hW3 : WW .u8 (m + 8) c3 := by
        rw [hc3, List.take_zero, List.nil_append]
        have h1 := hw.app (hW0.rest (0 + n * 1) (by omega))
        rw [show n + (m + 8 - (0 + n * 1)) = m + 8 by omega] at h1
        exact h1
    refine RL.done ?_
    refine RK.seq ?_
    refine RK.region ?_
    iterate 2 refine RL.p rfl rfl ?_
    refine RL.q (.free rfl) rfl rfl (Yld.lenSl u43 rfl) ?_
    refine RL.q (.free rfl) rfl rfl (Yld.indexAddrN u43 i5 rfl rfl ((by omega : n < m + 8))) ?_
    refine RL.op' (.free rfl) rfl (Does.storeN i5 rfl rfl rfl rfl hb3 (by have := hW3.1; omega)) ?_
    rintro _ w4 ⟨hb4, hm4, hs4⟩
    have hg4 : Grow w w4 := (hng.grow.then hm3 (fun x hx e => by have e' : x = g := e; omega)).then hm4 (fun x hx e => by have e' : x = g := e; omega)
    have hW4 := hW3.st (i := n) (by omega) (x := 128)
    refine RL.done ?_
    refine RK.seq ?_
    refine RK.region ?_
    refine RL.p rfl rfl ?_
    refine RL.q (.free rfl) rfl rfl (Yld.lenSl u43 rfl) ?_
    refine RL.q (.free rfl) rfl rfl (Yld.convI Tryz.underlying3 Tryz.underlying24 rfl) ?_
    iterate 2 refine RL.p rfl rfl ?_
    refine RL.done ?_
    iterate 2 refine RK.seq ?_
    refine RK.region ?_
    refine RL.p rfl rfl ?_
    refine RL.done ?_
    refine RK.block ?_
    refine RK.loop (fun k : Nat => [(3, .int .i64 (m : Int)), (4, .slice (some ⟨g, 0, none⟩) (m + 8) (m + 8)), (5, .int .u64 (IntKind.u64.wrap (IntKind.u64.wrap (n : Int) * 8))), (29, .int .i64 (k : Int))]) (fun k w' => (∃ ps, WW .u8 (m + 8) ps ∧ Blk w' g 5 ps) ∧ Grow w w' ∧ k ≤ 8) (fun k => 8 - k) 0 ⟨rfl, rfl, rfl, rfl, trivial⟩ ⟨⟨_, hW4, hb4⟩, hg4, Nat.zero_le _⟩ (fun k w5 hI ih => ?_)
    obtain ⟨⟨ps, hps, hB⟩, hg, hk⟩ := hI
    refine RK.seq ?_
    refine RK.region ?_
    refine RL.p rfl rfl ?_
    refine RL.done ?_
    refine RK.seq ?_
    first | refine RK.condD rfl (fun h30 => ?_) (fun h30 => ?_) | refine RK.condN rfl (fun h30 => ?_) (fun h30 => ?_) | refine RK.cond rfl (fun h30 => ?_) (fun h30 => ?_)
    · refine RK.skip ?_
      refine RK.seq ?_
      refine RK.block ?_
      refine RK.seq ?_
      refine RK.region ?_
      iterate 2 refine RL.p rfl rfl ?_
      refine RL.done ?_
      refine RK.region ?_
      iterate 4 refine RL.p rfl rfl ?_
      refine RL.re (d := 35) rfl rfl (add_i64 (z := ((m + k : Nat) : Int)) (by simp) (by omega) (by omega)) ?_
      iterate 3 refine RL.p rfl rfl ?_
      refine RL.re (d := 38) rfl rfl (congrArg (Value.int .i64) (by rw [wrap_i64 (by omega) (by omega)]; omega : _ = ((8 * k : Nat) : Int))) ?_
      refine RL.p rfl rfl ?_
      refine RL.re (d := 39) rfl rfl (sub_i64 (z := ((56 - 8 * k : Nat) : Int)) (by omega) (by omega) (by omega)) ?_
      refine RL.q (.free rfl) rfl rfl (Yld.shrI rfl rfl (by omega)) ?_
      refine RL.q (.free rfl) rfl rfl (Yld.convI Tryz.underlying24 Tryz.underlying5 rfl) ?_
      refine RL.q (.free rfl) rfl rfl (Yld.indexAddrN u43 i5 rfl rfl ((by omega : m + k < m + 8))) ?_
      refine RL.op' (.free rfl) rfl (Does.storeN i5 rfl rfl rfl rfl hB (by have := hps.1; omega)) ?_
      rintro _ w9 ⟨hb9, hm9, hs9⟩
      refine RL.done ?_
      refine RK.inBlock ?_
      refine RK.region ?_
      refine RL.p rfl rfl ?_
      refine RL.re (d := 43) rfl rfl (succ_i64 (by omega)) ?_
      refine RL.p rfl rfl ?_
      refine RL.done ?_
      exact RK.back (ih (k + 1) _ ⟨⟨_, hps.st (i := m + k) (by omega), hb9⟩, hg.then hm9 (fun x hx e => by have e' : x = g := e; omega), by omega⟩ (by omega)) ⟨rfl, rfl, rfl, rfl, trivial⟩
    · refine RK.exit rfl ?_
      refine RK.seq ?_
      refine RK.region ?_
      iterate 2 refine RL.p rfl rfl ?_
      refine RL.done ?_
      refine RK.ret_of Tryz.func173 (res1 rfl rfl) ?_ _
      exact ⟨_, rfl, g, m + 8, ps, rfl, hB, hps, by omega, by omega, hg⟩
theorem shaOf_ok (n : Nat) (cs : List Value) (v : Value) (w : World) (hv : Sl No w v 1 n cs) (hw : WW .u8 n cs) (hn : n ≤ 100000) (h0n : 0 < n) (hK : KeysAt w) : Fx Tryz.prog 95 [v] w (fun u w' => ∃ ds, WW .u8 32 ds ∧ u = .agg ds.toArray ∧ Grow w w') := by
  have h0 := hK.pos
  refine enter Tryz.func95 rfl rfl rfl _ (Pick.sub (l := [0]) (.cons rfl .nil)) ?_
  refine RK.seq ?_
  refine RK.region ?_
  refine RL.op (.free rfl) rfl rfl (Does.alloc i44) ?_
  rintro _ w1 ⟨b2, rfl, hn2⟩
  have ha2 := hn2.at_
  have hz2 := hn2.size
  refine RL.done ?_
  refine RK.seq ?_
  refine RK.region ?_
  refine RL.q (.free rfl) rfl rfl (Yld.build (v := .agg #[.int .u32 1779033703, .int .u32 3144134277, .int .u32 1013904242, .int .u32 2773480762, .int .u32 1359893119, .int .u32 2600822924, .int .u32 528734635, .int .u32 1541459225]) rfl (fun w => by kernel_rfl)) ?_
  refine RL.op (.free rfl) rfl rfl (Does.alloc i254) ?_
  rintro _ w2 ⟨b3, rfl, hn3⟩
  have ha3 := hn3.at_
  have hz3 := hn3.size
  refine RL.op' (.free rfl) rfl (Does.storeN i254 rfl rfl rfl rfl hn3.blk (Nat.le_refl 8)) ?_
  rintro _ w3 ⟨hb3, hm3, hs3⟩
  have hB3 : Blk w3 b3 254 [.int .u32 1779033703, .int .u32 3144134277, .int .u32 1013904242, .int .u32 2773480762, .int .u32 1359893119, .int .u32 2600822924, .int .u32 528734635, .int .u32 1541459225] := hb3
  have hg13 : Grow w1 w3 := hn3.grow.then hm3 (fun x hx e => by have e' : x = b3 := e; omega)
  refine RL.done ?_
  iterate 2 refine RK.seq ?_
  refine RK.region ?_
  refine RL.p rfl rfl ?_
  refine RL.op (.free rfl) rfl rfl (Does.call rfl e173 (pad_ok n cs v _ (hv.mod (Mod.any' (hn2.grow.trans hg13))) hw hn h0n)) ?_
  rintro _ w4 ⟨g, m, ps, rfl, hP4, hps, hm64, hmn, hg4⟩
  have hg14 := hg13.trans hg4
  have hB4 := hB3.mod hg4 (fun h => h)
  have hK4 := hK.grow (hn2.grow.trans hg14)
  have hzz := hg14.size
  refine RL.p rfl rfl ?_
  refine RL.done ?_
  refine RK.block ?_
  refine RK.loop (fun s : Nat × Option Addr => [(2, .pointer (some ⟨b2, 0, none⟩)), (3, .pointer (some ⟨b3, 0, none⟩)), (4, .slice s.2 (m - s.1) (m - s.1))]) (fun s w' => (∃ hs, WW .u32 8 hs ∧ Blk w' b3 254 hs) ∧ Mod (· = b3) w4 w' ∧ s.1 % 64 = 0 ∧ s.1 ≤ m ∧ (s.1 < m → s.2 = some ⟨g, s.1, none⟩)) (fun s => m - s.1) (0, some ⟨g, 0, none⟩) ⟨rfl, rfl, rfl, trivial⟩ ⟨⟨_, WW8 _ _ _ _ _ _ _ _, hB4⟩, Mod.refl _ _, rfl, by omega, fun _ => rfl⟩ (fun s w' hI ih => ?_)
  obtain ⟨off, ad⟩ := s
  obtain ⟨⟨hs, hhs, hB⟩, hm, ho64, hom, had⟩ := hI
  simp only at ho64 hom had
  iterate 2 refine RK.seq ?_
  refine RK.region ?_
  refine RL.p rfl rfl ?_
  refine RL.q (.free rfl) rfl rfl (Yld.lenSl u43 rfl) ?_
  refine RL.p rfl rfl ?_
  refine RL.done ?_
  first | refine RK.condD rfl (fun h12 => ?_) (fun h12 => ?_) | refine RK.condN rfl (fun h12 => ?_) (fun h12 => ?_) | refine RK.cond rfl (fun h12 => ?_) (fun h12 => ?_)
  · have hlt : off < m := by omega
    have had' := had hlt
    subst had'
    have h64 : 64 ≤ m - off := by omega
    have hcut := hps.cut off 64 (by omega)
    have hd := Mod.drew No w'
    have hgb : g ≠ b3 := fun e => hP4.ty.ne hB4.ty rfl e
    have hPd := (hP4.mod hm (fun e => hgb e)).mod hd (fun h => h)
    have hBd := hB.mod hd (fun h => h)
    refine RK.skip ?_
    refine RK.seq ?_
    refine RK.block ?_
    refine RK.drawM (fun _ => False) [(0, false), (1, false), (2, false), (3, false), (4, false), (5, true), (6, true)] [6] mixed (by kernel_rfl) ?_
    refine DL.q rfl (.free rfl) rfl rfl rfl (Yld.loadN (cs := hs) (by rw [hhs.1]; exact a254) rfl (atNM (fun j u hj => by rw [Nat.zero_add]; exact hBd.cell' hj) id)) (Mod.drew _ _) ?_
    refine DL.p rfl rfl rfl ?_
    refine DL.qf rfl (.free rfl) rfl rfl (Yld.sliceHi u43 i5 (m := 64) rfl rfl (by omega)) ?_
    refine DL.qf rfl (.free rfl) rfl rfl (Yld.arrPtr Tryz.underlying256 rfl (Nat.le_refl 64)) ?_
    refine DL.q rfl (.free rfl) rfl rfl rfl (Yld.loadN (cs := (ps.drop off).take 64) (by rw [hcut.1]; exact a256) rfl (atNM (fun j u hj => by
        rw [List.getElem?_take] at hj
        split at hj
        · rw [List.getElem?_drop] at hj; exact hPd.cell' hj
        · cases hj) id)) (Mod.drew _ _) ?_
    refine DL.op rfl (.free rfl) rfl rfl (Does.call rfl e174 (round_ok hs _ hhs hcut _ ((hK4.mod hm (fun e => by have e' : 0 = b3 := e; omega)).grow hd))) ?_
    rintro _ w8 ⟨hs', hhs', rfl, hg8⟩
    refine ⟨Mod.any' (hd.trans hg8), ?_⟩
    refine DL.opT rfl (.free rfl) rfl rfl (Does.storeN i254 rfl rfl (show (Value.agg hs'.toArray).cells.size = 8 from by simpa [Value.cells] using hhs'.1) (by simpa [Value.cells] using hhs'.one) (hBd.mod hg8 (fun h => h)) (by have := hhs.1; omega)) ?_
    rintro _ w9 ⟨hb9, hm9, hs9⟩
    refine DL.done ?_
    refine RK.inBlock ?_
    refine RK.region ?_
    refine RL.p rfl rfl ?_
    refine RL.q (.free rfl) rfl rfl (Yld.sliceFrom u43 i5 (m := 64) rfl rfl h64) ?_
    refine RL.p rfl rfl ?_
    refine RL.done ?_
    exact RK.back (ih (off + 64, fromAt (some ⟨g, off, none⟩) (m - off) 64 1) _ ⟨⟨_, hhs', by
        have e : hs.drop (0 + 8) = [] := List.drop_of_length_le (by have := hhs.1; omega)
        rw [e] at hb9
        have h : Blk w9 b3 254 (hs' ++ []) := hb9
        rwa [List.append_nil] at h⟩, ((hm.trans (Mod.any' hd)).trans (Mod.any' hg8)).trans hm9, by simp only; omega, by simp only; omega, fun h => by
        simp only at h ⊢
        have : ¬ m - off = 64 := by omega
        simp [fromAt, this, add_none]⟩ (by simp only; omega)) ⟨rfl, rfl, by simp only [Nat.sub_sub]; rfl, trivial⟩
  · have hb3lt := hB.lt
    refine RK.exit rfl ?_
    refine RK.seq ?_
    refine RK.region ?_
    refine RL.op (.free rfl) rfl rfl (Does.alloc i44) ?_
    rintro _ w5 ⟨b5, rfl, hn5⟩
    have ha5 := hn5.at_
    have hz5 := hn5.size
    have hzm := hm.size
    have hW5 : Blk w5 b5 44 (List.replicate 32 (.int .u8 0)) := hn5.blk
    have hB5 := hB.mod hn5.grow (fun h => h)
    refine RL.done ?_
    iterate 2 refine RK.seq ?_
    refine RK.region ?_
    refine RL.p rfl rfl ?_
    refine RL.done ?_
    refine RK.block ?_
    refine RK.loop (fun k : Nat => [(2, .pointer (some ⟨b2, 0, none⟩)), (3, .pointer (some ⟨b3, 0, none⟩)), (5, .pointer (some ⟨b5, 0, none⟩)), (21, .int .i64 (k : Int))]) (fun k w' => (∃ ds, WW .u8 32 ds ∧ Blk w' b5 44 ds) ∧ Mod (· = b5) w5 w' ∧ k ≤ 32) (fun k => 32 - k) 0 ⟨rfl, rfl, rfl, rfl, trivial⟩ ⟨⟨_, WW.zero .u8 32, hW5⟩, Mod.refl _ _, Nat.zero_le _⟩ (fun k w6 hI ih => ?_)
    obtain ⟨⟨ds, hds, hD⟩, hm5, hk⟩ := hI
    refine RK.seq ?_
    refine RK.region ?_
    refine RL.p rfl rfl ?_
    refine RL.done ?_
    refine RK.seq ?_
    first | refine RK.condD rfl (fun h22 => ?_) (fun h22 => ?_) | refine RK.condN rfl (fun h22 => ?_) (fun h22 => ?_) | refine RK.cond rfl (fun h22 => ?_) (fun h22 => ?_)
    · obtain ⟨xh, hxh⟩ := hhs.2 (k / 4) (by omega)
      have hB6 := hB5.mod hm5 (fun e => by have e' : b3 = b5 := e; omega)
      refine RK.skip ?_
      refine RK.seq ?_
      refine RK.block ?_
      refine RK.seq ?_
      refine RK.region ?_
      iterate 2 refine RL.p rfl rfl ?_
      refine RL.done ?_
      refine RK.region ?_
      iterate 2 refine RL.p rfl rfl ?_
      refine RL.q (.free rfl) rfl rfl (Yld.quo rfl rfl (by decide)) ?_
      refine RL.re (d := 26) rfl rfl (congrArg (Value.int .i64) ((congrArg IntKind.i64.wrap (quo_nat (a := k) (b := 4))).trans (wrap_i64 (by omega) (by omega)))) ?_
      refine RL.q (.free rfl) rfl rfl (Yld.indexArr Tryz.underlying254 i253 rfl rfl ((by omega : k / 4 < 8))) ?_
      refine RL.q (.free rfl) rfl rfl (Yld.load p253 rfl (at1 (hB6.at1 hxh))) ?_
      refine RL.p rfl rfl ?_
      refine RL.q (.free rfl) rfl rfl (Yld.rem rfl rfl (by decide)) ?_
      refine RL.re (d := 30) rfl rfl (congrArg (Value.int .i64) (rem_nat (a := k) (b := 4))) ?_
      refine RL.p rfl rfl ?_
      refine RL.re (d := 31) rfl rfl (congrArg (Value.int .i64) (by rw [wrap_i64 (by omega) (by omega)]; omega : _ = ((8 * (k % 4) : Nat) : Int))) ?_
      refine RL.p rfl rfl ?_
      refine RL.re (d := 32) rfl rfl (sub_i64 (z := ((24 - 8 * (k % 4) : Nat) : Int)) (by omega) (by omega) (by omega)) ?_
      refine RL.q (.free rfl) rfl rfl (Yld.shrI rfl rfl (by omega)) ?_
      refine RL.q (.free rfl) rfl rfl (Yld.convI Tryz.underlying253 Tryz.underlying5 rfl) ?_
      refine RL.q (.free rfl) rfl rfl (Yld.indexArr Tryz.underlying44 i5 rfl rfl ((by omega : k < 32))) ?_
      refine RL.op' (.free rfl) rfl (Does.storeN i5 rfl rfl rfl rfl hD (by have := hds.1; omega)) ?_
      rintro _ w9 ⟨hb9, hm9, hs9⟩
      refine RL.done ?_
      refine RK.inBlock ?_
      refine RK.region ?_
      refine RL.p rfl rfl ?_
      refine RL.re (d := 36) rfl rfl (succ_i64 (by omega)) ?_
      refine RL.p rfl rfl ?_
      refine RL.done ?_
      exact RK.back (ih (k + 1) _ ⟨⟨_, hds.st (i := k) (by omega), hb9⟩, hm5.trans hm9, by omega⟩ (by omega)) ⟨rfl, rfl, rfl, rfl, trivial⟩
    · have hq : Mod (b2 < ·) w1 w6 := (((Mod.any' hg14).trans (hm.mono fun x _ e => by have e' : x = b3 := e; omega)).trans (Mod.any' hn5.grow)).trans (hm5.mono fun x _ e => by have e' : x = b5 := e; omega)
      refine RK.exit rfl ?_
      refine RK.seq ?_
      refine RK.region ?_
      refine RL.q (.free rfl) rfl rfl (Yld.loadN (cs := ds) (by rw [hds.1]; exact a44) rfl (atN (fun j u hj => by rw [Nat.zero_add]; exact hD.cell' hj))) ?_
      refine RL.op' (.free rfl) rfl (Does.storeN i44 rfl rfl (show (Value.agg ds.toArray).cells.size = 32 from by simpa [Value.cells] using hds.1) (by simpa [Value.cells] using hds.one) (hn2.blk.mod hq (fun e => Nat.lt_irrefl _ e)) (Nat.le_refl 32)) ?_
      rintro _ w9 ⟨hb9, hm9, hs9⟩
      have hB9 : Blk w9 b2 44 (ds ++ []) := hb9
      rw [List.append_nil] at hB9
      refine RL.done ?_
      refine RK.ret_of Tryz.func95 (resC (cs := ds) rfl rfl (by rw [hds.1]; exact a44) hB9) ?_ _
      exact ⟨_, rfl, ds, hds, rfl, (((((hn2.grow.trans hg14).then hm (fun x hx e => by have e' : x = b3 := e; omega)).trans hn5.grow).then hm5 (fun x hx e => by have e' : x = b5 := e; omega))).then hm9 (fun x hx e => by have e' : x = b2 := e; omega)⟩
end Go.Proofs.YtnnmgfnhblbolaaGreatDoor
set_option linter.unusedVariables false
set_option linter.unusedSimpArgs false
set_option maxHeartbeats 6400000
set_option maxRecDepth 100000
namespace Go.Proofs.YtnnmgfnhblbolaaGreatDoor
open Go Go.X
theorem slBlk {M : Nat → Prop} {w : World} {g t n c : Nat} {cs : List Value} (h : Blk w g t cs) (hl : cs.length = n) (hn : n ≤ 9223372036854775807) (hM : ¬ M g) : Sl M w (.slice (some ⟨g, 0, none⟩) n c) 1 n cs :=
  ⟨by omega, hn, _, _, rfl, fun _ => ⟨g, 0, rfl, hM, fun j v hj => by rw [Nat.zero_add]; exact h.cell' hj⟩⟩
theorem putWord_ok (x : Int) (w : World) : Fx Tryz.prog 105 [.int .u64 x] w (fun u w' => ∃ (g : Nat) (ps : List Value), u = .slice (some ⟨g, 0, none⟩) 8 8 ∧ Blk w' g 5 ps ∧ WW .u8 8 ps ∧ Grow w w') := by
  refine enter Tryz.func105 rfl rfl rfl _ (Pick.sub (l := [0]) (.cons rfl .nil)) ?_
  refine RK.seq ?_
  refine RK.region ?_
  refine RL.p rfl rfl ?_
  refine RL.done ?_
  refine RK.seq ?_
  refine RK.region ?_
  refine RL.op (.free rfl) rfl rfl (Does.mkSlice u43 i5 rfl (m := 8) rfl rfl (by omega) (by omega)) ?_
  rintro _ w2 ⟨g, rfl, hng⟩
  have hag := hng.at_
  refine RL.p rfl rfl ?_
  refine RL.done ?_
  iterate 2 refine RK.seq ?_
  refine RK.region ?_
  refine RL.p rfl rfl ?_
  refine RL.q (.free rfl) rfl rfl (Yld.lenSl u43 rfl) ?_
  refine RL.p rfl rfl ?_
  refine RL.done ?_
  refine RK.block ?_
  refine RK.loop (fun k : Nat => [(0, .int .u64 x), (3, .slice (some ⟨g, 0, none⟩) 8 8), (7, .int .i64 8), (8, .int .i64 (k : Int))]) (fun k w' => (∃ ps, WW .u8 8 ps ∧ Blk w' g 5 ps) ∧ Grow w w' ∧ k ≤ 8) (fun k => 8 - k) 0 ⟨rfl, rfl, rfl, rfl, trivial⟩ ⟨⟨_, WW.zero .u8 8, hng.blk⟩, hng.grow, Nat.zero_le _⟩ (fun k w5 hI ih => ?_)
  obtain ⟨⟨ps, hps, hB⟩, hg, hk⟩ := hI
  refine RK.seq ?_
  refine RK.region ?_
  refine RL.p rfl rfl ?_
  refine RL.done ?_
  refine RK.seq ?_
  first | refine RK.condD rfl (fun h9 => ?_) (fun h9 => ?_) | refine RK.condN rfl (fun h9 => ?_) (fun h9 => ?_) | refine RK.cond rfl (fun h9 => ?_) (fun h9 => ?_)
  · refine RK.skip ?_
    refine RK.seq ?_
    refine RK.block ?_
    refine RK.seq ?_
    refine RK.region ?_
    iterate 2 refine RL.p rfl rfl ?_
    refine RL.done ?_
    refine RK.region ?_
    iterate 5 refine RL.p rfl rfl ?_
    refine RL.re (d := 15) rfl rfl (congrArg (Value.int .i64) (by rw [wrap_i64 (by omega) (by omega)]; omega : _ = ((8 * k : Nat) : Int))) ?_
    refine RL.p rfl rfl ?_
    refine RL.re (d := 16) rfl rfl (sub_i64 (z := ((56 - 8 * k : Nat) : Int)) (by omega) (by omega) (by omega)) ?_
    refine RL.q (.free rfl) rfl rfl (Yld.shrI rfl rfl (by omega)) ?_
    refine RL.q (.free rfl) rfl rfl (Yld.convI Tryz.underlying24 Tryz.underlying5 rfl) ?_
    refine RL.q (.free rfl) rfl rfl (Yld.indexAddrN u43 i5 rfl rfl ((by omega : k < 8))) ?_
    refine RL.op' (.free rfl) rfl (Does.storeN i5 rfl rfl rfl rfl hB (by have := hps.1; omega)) ?_
    rintro _ w9 ⟨hb9, hm9, hs9⟩
    refine RL.done ?_
    refine RK.inBlock ?_
    refine RK.region ?_
    refine RL.p rfl rfl ?_
    refine RL.re (d := 20) rfl rfl (succ_i64 (by omega)) ?_
    refine RL.p rfl rfl ?_
    refine RL.done ?_
    exact RK.back (ih (k + 1) _ ⟨⟨_, hps.st (i := k) (by omega), hb9⟩, hg.then hm9 (fun x hx e => by have e' : x = g := e; omega), by omega⟩ (by omega)) ⟨rfl, rfl, rfl, rfl, trivial⟩
  · refine RK.exit rfl ?_
    refine RK.seq ?_
    refine RK.region ?_
    iterate 2 refine RL.p rfl rfl ?_
    refine RL.done ?_
    refine RK.ret_of Tryz.func105 (res1 rfl rfl) ?_ _
    exact ⟨_, rfl, g, ps, rfl, hB, hps, hg⟩
theorem genesis_ok (o : Int) (w : World) : Fx Tryz.prog 96 [.int .i64 o] w (fun u w' => ∃ cs, WW .u8 9 cs ∧ Row w' 5 1 u 9 cs ∧ Grow w w') := by
  refine enter Tryz.func96 rfl rfl rfl _ (Pick.sub (l := [0]) (.cons rfl .nil)) ?_
  refine RK.seq ?_
  refine RK.region ?_
  refine RL.p rfl rfl ?_
  refine RL.done ?_
  refine RK.seq ?_
  refine RK.region ?_
  refine RL.op (.free rfl) rfl rfl (Does.slice1 u43 i5 rfl rfl rfl rfl rfl) ?_
  rintro _ w1 ⟨b3, rfl, hn3⟩
  refine RL.p rfl rfl ?_
  refine RL.q (.free rfl) rfl rfl (Yld.convI Tryz.underlying3 Tryz.underlying24 rfl) ?_
  refine RL.op (.free rfl) rfl rfl (Does.call rfl e105 (putWord_ok _ _)) ?_
  rintro _ w2 ⟨g, ps, rfl, hB, hps, hg2⟩
  have hz2 := hg2.size
  have hz3 := hn3.size
  have ha3 := hn3.at_
  refine RL.op (.free rfl) rfl rfl (Does.append u43 i5 rfl rfl rfl rfl rfl ((Row.new hn3 1 1 rfl (by omega)).mod hg2 (fun _ _ h => h)) (slBlk hB hps.1 (by decide) (fun h => h)) (hps.one) (by omega)) ?_
  rintro u4 w4 ⟨hr4, hm4, hu4⟩
  refine RL.p rfl rfl ?_
  refine RL.done ?_
  refine RK.ret_of Tryz.func96 (res1 rfl rfl) ?_ _
  exact ⟨_, rfl, _, by
      have h1 : WW .u8 1 [.int .u8 0] := WW.zero .u8 1
      exact h1.app hps, hr4, (hn3.grow.trans hg2).then hm4 (fun x hx e => by simp [Value.ownBlock] at e; omega)⟩
structure ChAt (w : World) (p : Nat) (most : Int) (n : Nat) (v : Value) (cs ds : List Value) : Prop where
  blk : Blk w p 171 (.int .i64 most :: v :: ds)
  row : Row w 188 4 v n cs
  head : WW .u8 32 ds
theorem ChAt.grow {w w' : World} {p n : Nat} {most : Int} {v : Value} {cs ds : List Value} (h : ChAt w p most n v cs ds) (hg : Grow w w') : ChAt w' p most n v cs ds := ⟨h.blk.mod hg (fun h => h), h.row.mod hg (fun _ _ h => h), h.head⟩
theorem build32 (m : Int) (a0 a1 a2 a3 a4 a5 a6 a7 a8 a9 a10 a11 a12 a13 a14 a15 a16 a17 a18 a19 a20 a21 a22 a23 a24 a25 a26 a27 a28 a29 a30 a31 : Value) (w : World) : (Instr.build 171 #[(0, .int .i64 m), (2, .agg [a0, a1, a2, a3, a4, a5, a6, a7, a8, a9, a10, a11, a12, a13, a14, a15, a16, a17, a18, a19, a20, a21, a22, a23, a24, a25, a26, a27, a28, a29, a30, a31].toArray)]).run Tryz.prog w = .ok (.agg (.int .i64 m :: .slice none 0 0 :: [a0, a1, a2, a3, a4, a5, a6, a7, a8, a9, a10, a11, a12, a13, a14, a15, a16, a17, a18, a19, a20, a21, a22, a23, a24, a25, a26, a27, a28, a29, a30, a31]).toArray) w := by kernel_rfl
theorem buildCh (m : Int) (ds : List Value) (hd : WW .u8 32 ds) (w : World) : (Instr.build 171 #[(0, .int .i64 m), (2, .agg ds.toArray)]).run Tryz.prog w = .ok (.agg (.int .i64 m :: .slice none 0 0 :: ds).toArray) w := by
  have hl := hd.1
  clear hd
  match ds, hl with
  | [a0, a1, a2, a3, a4, a5, a6, a7, a8, a9, a10, a11, a12, a13, a14, a15, a16, a17, a18, a19, a20, a21, a22, a23, a24, a25, a26, a27, a28, a29, a30, a31], _ => exact build32 m a0 a1 a2 a3 a4 a5 a6 a7 a8 a9 a10 a11 a12 a13 a14 a15 a16 a17 a18 a19 a20 a21 a22 a23 a24 a25 a26 a27 a28 a29 a30 a31 w
theorem chainNew_ok (o most : Int) (w : World) (hK : KeysAt w) : Fx Tryz.prog 48 [.int .i64 o, .int .i64 most] w (fun u w' => ∃ p m ds, u = pp p ∧ w.heap.size ≤ p ∧ (1 ≤ most → most ≤ 200 → m = most) ∧ ChAt w' p m 0 (.slice none 0 0) [] ds ∧ Grow w w') := by
  refine enter Tryz.func48 rfl rfl rfl _ (Pick.sub (l := [0, 1]) (.cons rfl (.cons rfl .nil))) ?_
  refine RK.seq ?_
  refine RK.region ?_
  refine RL.p rfl rfl ?_
  refine RL.done ?_
  refine RK.seq ?_
  refine RK.region ?_
  refine RL.p rfl rfl ?_
  refine RL.q (.free rfl) rfl rfl (Yld.max2 rfl rfl) ?_
  refine RL.q (.free rfl) rfl rfl (Yld.min2 rfl rfl) ?_
  refine RL.p rfl rfl ?_
  refine RL.op (.free rfl) rfl rfl (Does.call rfl e96 (genesis_ok o _)) ?_
  rintro u1 w1 ⟨cs, hcs, hr1, hg1⟩
  refine RL.op (.free rfl) rfl rfl (Does.call rfl e95 (shaOf_ok 9 cs u1 _ (Sl.own hr1 (fun _ _ h => h)) hcs (by decide) (by decide) (hK.grow hg1))) ?_
  rintro _ w2 ⟨ds, hds, rfl, hg2⟩
  refine RL.q (.free rfl) rfl rfl (Yld.build rfl (buildCh _ ds hds)) ?_
  refine RL.op (.free rfl) rfl rfl (Does.box rfl) ?_
  rintro _ w3 ⟨b3, rfl, hn3⟩
  have hz1 := hg1.size
  have hz2 := hg2.size
  have ha3 := hn3.at_
  refine RL.p rfl rfl ?_
  refine RL.done ?_
  refine RK.ret_of Tryz.func48 (res1 rfl rfl) ?_ _
  exact ⟨_, rfl, b3, _, ds, rfl, by omega, fun h1 h2 => by rw [if_neg (show ¬ (0 : Int) > most by omega), if_neg (by omega)], ⟨hn3.blk, Row.nil _ _ _, hds⟩, (hg1.trans hg2).trans hn3.grow⟩
theorem full_ok {w : World} {p n : Nat} {most : Int} {v : Value} {cs ds : List Value} (h : ChAt w p most n v cs ds) : Fx Tryz.prog 52 [pp p] w (fun u w' => u = .bool (decide (most ≤ (n : Int))) ∧ Grow w w') := by
  obtain ⟨ad, c, rfl⟩ := h.row.slice
  have hd := Mod.drew No w
  refine enter Tryz.func52 rfl rfl rfl _ (Pick.sub (l := [0]) (.cons rfl .nil)) ?_
  refine RK.seq ?_
  refine RK.region ?_
  refine RL.p rfl rfl ?_
  refine RL.done ?_
  refine RK.seq ?_
  refine RK.drawM No [(0, false), (1, false), (2, false), (3, false), (4, false), (5, false), (6, false), (7, false), (8, false), (9, false), (10, false)] [] mixed (by kernel_rfl) ?_
  iterate 2 refine DL.p rfl rfl rfl ?_
  refine DL.qf rfl (.free rfl) rfl rfl (Yld.fieldAddr fo171_1 rfl) ?_
  refine DL.q rfl (.free rfl) rfl rfl rfl (Yld.load p169 rfl (atM ((h.grow hd).blk.cell rfl) id)) (Mod.drew _ _) ?_
  refine DL.q rfl (.free rfl) rfl rfl rfl (Yld.lenSl u169 rfl) (Mod.drew _ _) ?_
  iterate 2 refine DL.p rfl rfl rfl ?_
  refine DL.qf rfl (.free rfl) rfl rfl (Yld.fieldAddr fo171_0 rfl) ?_
  refine DL.q rfl (.free rfl) rfl rfl rfl (Yld.load p3 rfl (atM ((h.grow hd).blk.cell rfl) id)) (Mod.drew _ _) ?_
  iterate 2 refine DL.p rfl rfl rfl ?_
  refine DL.done ?_
  refine RK.ret_of Tryz.func52 (res1 rfl rfl) ?_ _
  exact ⟨_, rfl, by simp, hd⟩
theorem chLen_ok {w : World} {p n : Nat} {most : Int} {v : Value} {cs ds : List Value} (h : ChAt w p most n v cs ds) : Fx Tryz.prog 72 [pp p] w (fun u w' => u = .int .i64 (n : Int) ∧ w = w') := by
  obtain ⟨ad, c, rfl⟩ := h.row.slice
  refine enter Tryz.func72 rfl rfl rfl _ (Pick.sub (l := [0]) (.cons rfl .nil)) ?_
  refine RK.seq ?_
  refine RK.region ?_
  refine RL.p rfl rfl ?_
  refine RL.done ?_
  refine RK.seq ?_
  refine RK.region ?_
  iterate 2 refine RL.p rfl rfl ?_
  refine RL.q (.free rfl) rfl rfl (Yld.fieldAddr fo171_1 rfl) ?_
  refine RL.q (.free rfl) rfl rfl (Yld.load p169 rfl (at1 (h.blk.cell rfl))) ?_
  refine RL.q (.free rfl) rfl rfl (Yld.lenSl u169 rfl) ?_
  refine RL.p rfl rfl ?_
  refine RL.done ?_
  refine RK.ret_of Tryz.func72 (res1 rfl rfl) ?_ _
  exact ⟨_, rfl, rfl, rfl⟩
structure DoorAt (w : World) (p q : Nat) (owner now most : Int) (n : Nat) (v : Value) (cs ds : List Value) : Prop where
  blk : Blk w p 109 [.int .i64 owner, .int .u64 now, pp q]
  ch : ChAt w q most n v cs ds
theorem DoorAt.grow {w w' : World} {p q n : Nat} {owner now most : Int} {v : Value} {cs ds : List Value} (h : DoorAt w p q owner now most n v cs ds) (hg : Grow w w') : DoorAt w' p q owner now most n v cs ds := ⟨h.blk.mod hg (fun h => h), h.ch.grow hg⟩
theorem doorNew_ok (o most now : Int) (hn : now ≤ 1099511627776) (h1 : 1 ≤ most) (h2 : most ≤ 200) (w : World) (hK : KeysAt w) : Fx Tryz.prog 20 [.int .i64 o, .int .i64 most, .int .u64 now] w (fun u w' => ∃ p q ds, u = pp p ∧ w.heap.size ≤ p ∧ w.heap.size ≤ q ∧ DoorAt w' p q o now most 0 (.slice none 0 0) [] ds ∧ Grow w w') := by
  refine enter Tryz.func20 rfl rfl rfl _ (Pick.sub (l := [0, 1, 2]) (.cons rfl (.cons rfl (.cons rfl .nil)))) ?_
  refine RK.seq ?_
  refine RK.region ?_
  refine RL.p rfl rfl ?_
  refine RL.done ?_
  refine RK.seq ?_
  refine RK.region ?_
  iterate 2 refine RL.p rfl rfl ?_
  refine RL.q (.free rfl) rfl rfl (Yld.min2k rfl rfl) ?_
  iterate 2 refine RL.p rfl rfl ?_
  refine RL.op (.free rfl) rfl rfl (Does.call rfl e48 (chainNew_ok o most _ hK)) ?_
  rintro _ w1 ⟨q, m, ds, rfl, hq, hm, hc, hg1⟩
  obtain rfl := hm h1 h2
  refine RL.q (.free rfl) rfl rfl (Yld.build (v := .agg #[.int .i64 o, .int .u64 (if (1099511627776 : Int) < now then 1099511627776 else now), pp q]) rfl (fun w => by kernel_rfl)) ?_
  refine RL.op (.free rfl) rfl rfl (Does.box rfl) ?_
  rintro _ w2 ⟨b2, rfl, hn2⟩
  have hz1 := hg1.size
  have ha2 := hn2.at_
  refine RL.p rfl rfl ?_
  refine RL.done ?_
  refine RK.ret_of Tryz.func20 (res1 rfl rfl) ?_ _
  exact ⟨_, rfl, b2, q, ds, rfl, by omega, hq, ⟨by
      have h : Blk w2 b2 109 [.int .i64 o, .int .u64 (if (1099511627776 : Int) < now then 1099511627776 else now), pp q] := hn2.blk
      rwa [if_neg (by omega)] at h, hc.grow hn2.grow⟩, hg1.trans hn2.grow⟩
theorem doorRecs_ok {w : World} {p q n : Nat} {owner now most : Int} {v : Value} {cs ds : List Value} (h : DoorAt w p q owner now most n v cs ds) : Fx Tryz.prog 28 [pp p] w (fun u w' => u = .int .i64 (n : Int) ∧ w = w') := by
  refine enter Tryz.func28 rfl rfl rfl _ (Pick.sub (l := [0]) (.cons rfl .nil)) ?_
  refine RK.seq ?_
  refine RK.region ?_
  refine RL.p rfl rfl ?_
  refine RL.done ?_
  refine RK.seq ?_
  refine RK.region ?_
  iterate 2 refine RL.p rfl rfl ?_
  refine RL.q (.free rfl) rfl rfl (Yld.fieldAddr fo109_2 rfl) ?_
  refine RL.q (.free rfl) rfl rfl (Yld.load p106 rfl (at1 (h.blk.cell rfl))) ?_
  refine RL.op (.free rfl) rfl rfl (Does.call rfl e72 (chLen_ok h.ch)) ?_
  rintro _ _ ⟨rfl, rfl⟩
  refine RL.p rfl rfl ?_
  refine RL.done ?_
  refine RK.ret_of Tryz.func28 (res1 rfl rfl) ?_ _
  exact ⟨_, rfl, rfl, rfl⟩
theorem doorNow_ok {w : World} {p q n : Nat} {owner now most : Int} {v : Value} {cs ds : List Value} (h : DoorAt w p q owner now most n v cs ds) : Fx Tryz.prog 111 [pp p] w (fun u w' => u = .int .u64 now ∧ w = w') := by
  refine enter Tryz.func111 rfl rfl rfl _ (Pick.sub (l := [0]) (.cons rfl .nil)) ?_
  refine RK.seq ?_
  refine RK.region ?_
  refine RL.p rfl rfl ?_
  refine RL.done ?_
  refine RK.seq ?_
  refine RK.region ?_
  iterate 2 refine RL.p rfl rfl ?_
  refine RL.q (.free rfl) rfl rfl (Yld.fieldAddr fo109_1 rfl) ?_
  refine RL.q (.free rfl) rfl rfl (Yld.load p24 rfl (at1 (h.blk.cell rfl))) ?_
  refine RL.p rfl rfl ?_
  refine RL.done ?_
  refine RK.ret_of Tryz.func111 (res1 rfl rfl) ?_ _
  exact ⟨_, rfl, rfl, rfl⟩
end Go.Proofs.YtnnmgfnhblbolaaGreatDoor
set_option linter.unusedVariables false
set_option linter.unusedSimpArgs false
set_option maxHeartbeats 6400000
set_option maxRecDepth 100000
namespace Go.Proofs.YtnnmgfnhblbolaaGreatDoor
open Go Go.X
@[reducible] def pl0 : List Value := placeC 0 true false (reqC ⟨#[]⟩ 0) (-1) true (respC 0 0 0 5) false 0
@[reducible] def pl1 : List Value := placeC 1 false true (reqC root 1) 0 true (respC 0 1 1 0) true 5
@[reducible] def pl2 : List Value := placeC 2 false false (reqC ⟨#[]⟩ 0) (-1) true (respC 1 0 0 0) false 5
end Go.Proofs.YtnnmgfnhblbolaaGreatDoor
set_option linter.unusedVariables false
set_option linter.unusedSimpArgs false
set_option maxHeartbeats 6400000
set_option maxRecDepth 100000
namespace Go.Proofs.YtnnmgfnhblbolaaGreatDoor
open Go Go.X
@[reducible] def pl : Nat → List Value
  | 0 => pl0
  | 1 => pl1
  | _ => pl2
section
variable {w : World} {p m : Nat} {vi va : Value}
end
end Go.Proofs.YtnnmgfnhblbolaaGreatDoor
set_option linter.unusedVariables false
set_option linter.unusedSimpArgs false
set_option maxHeartbeats 400000
set_option maxRecDepth 100000
namespace Go.Proofs.YtnnmgfnhblbolaaGreatDoor
open Go Go.X
section
variable {α : Type}
def pos (lt : α → α → Bool) (x : α) (L : List α) : Nat := L.length - (L.reverse.takeWhile (lt x)).length
theorem SetAt.of : ∀ {l : List Value} {i : Nat} {v : Value}, i < l.length → SetAt l i v (l.set i v)
  | u :: l, 0, v, _ => .z
  | u :: l, i + 1, v, h => .s (SetAt.of (by simpa using h))
end
end Go.Proofs.YtnnmgfnhblbolaaGreatDoor
set_option linter.unusedVariables false
set_option linter.unusedSimpArgs false
set_option maxHeartbeats 400000
set_option maxRecDepth 100000
namespace Go.Proofs.YtnnmgfnhblbolaaGreatDoor
open Go Go.X
end Go.Proofs.YtnnmgfnhblbolaaGreatDoor
set_option linter.unusedVariables false
set_option linter.unusedSimpArgs false
set_option maxHeartbeats 400000
set_option maxRecDepth 100000
namespace Go.Proofs.YtnnmgfnhblbolaaGreatDoor
open Go Go.X
theorem cloneL_ok (M : Nat → Prop) (ls : List Lab) (v : Value) (w : World) (hv : SlL M w v ls) (hb : ls.length ≤ 1000) :
    Fx Tryz.prog 200 [v] w (fun u w' => Row w' 261 2 u ls.length (ls.flatMap labC) ∧ Fresh w.heap.size u ∧ Grow w w') := by
  obtain ⟨ad, c, b, o, rfl, hf⟩ := hv.open
  refine enter Tryz.func200 rfl rfl rfl _ (Pick.sub (l := [0]) (.cons rfl .nil)) ?_
  refine RK.seq ?_
  refine RK.region ?_
  refine RL.p rfl rfl ?_
  refine RL.done ?_
  iterate 2 refine RK.seq ?_
  refine RK.region ?_
  refine RL.p rfl rfl ?_
  refine RL.q (.free rfl) rfl rfl (Yld.eqNil u37 rfl rfl) ?_
  refine RL.done ?_
  first | refine RK.condD rfl (fun h4 => ?_) (fun h4 => ?_) | refine RK.condN rfl (fun h4 => ?_) (fun h4 => ?_) | refine RK.cond rfl (fun h4 => ?_) (fun h4 => ?_)
  · refine RK.seq ?_
    refine RK.region ?_
    refine RL.p rfl rfl ?_
    refine RL.done ?_
    refine RK.ret_of Tryz.func200 (res1 rfl rfl) ?_ _
    exact ⟨_, rfl, by cases ad with | none => (have h0 : ls.length = 0 := by (rcases Nat.eq_zero_or_pos ls.length with h | h; exact h; exact absurd (hf h).1 (by simp))); have : ls = [] := List.eq_nil_of_length_eq_zero h0; subst this; exact ⟨Row.nil _ _ _, fun b hb => by simp [Value.ownBlock] at hb, Mod.refl _ _⟩ | some a => simp at h4⟩
  · refine RK.skip ?_
    refine RK.seq ?_
    refine RK.region ?_
    refine RL.op (.free rfl) rfl rfl (Does.slice0 u37 i261) ?_
    rintro _ w1 ⟨b1, rfl, hn1⟩
    refine RL.p rfl rfl ?_
    refine RL.op (.free rfl) rfl rfl (Does.append u37 i261 rfl rfl rfl rfl rfl (Row.new hn1 2 0 rfl (by omega)) ((hv.mod (Mod.any' hn1.grow)).noM) (allOne_labs ls) (by omega)) ?_
    rintro u w2 ⟨hr, hm, hu⟩
    refine RL.p rfl rfl ?_
    refine RL.done ?_
    refine RK.ret_of Tryz.func200 (res1 rfl rfl) ?_ _
    exact ⟨_, rfl, by simpa using hr, fun b hb => by rcases hu with hu | hu <;> rw [hu] at hb <;> simp [Value.ownBlock] at hb <;> (have := hn1.at_; have := hn1.size; omega), hn1.grow.then hm (fun x hx e => by simp [Value.ownBlock] at e; have := hn1.at_; omega)⟩
structure Al where
  id : Int
  ls : List Lab
  val : Nat
  v : Value
def alC (a : Al) : List Value := [.int .i64 a.id, a.v, .float .f64 a.val]
theorem alC_len (a : Al) : (alC a).length = 3 := rfl
def findS (l : List (List Lab)) (ls : List Lab) : Option Nat := l.findIdx? fun x => decide (x = ls)
def optI : Option Nat → Int
  | some i => i
  | none => -1
end Go.Proofs.YtnnmgfnhblbolaaGreatDoor
set_option linter.unusedVariables false
set_option linter.unusedSimpArgs false
set_option maxHeartbeats 400000
set_option maxRecDepth 100000
namespace Go.Proofs.YtnnmgfnhblbolaaGreatDoor
open Go Go.X
theorem take_ok (w : World) (p : Nat) (most last : Int) (out : List Int) (v : Value) (hp : PoolAt w p most last out v) (h1 : out.length < most) (h2 : last ≠ 2147483647) (h3 : 0 ≤ last) (h4 : last ≤ 2147483647) (h5 : out.length ≤ 1000000) :
    Fx Tryz.prog 114 [pp p] w (fun u w' => u = .tuple #[.int .i64 (last + 1), .bool true] ∧ ∃ v', PoolAt w' p most (last + 1) (out ++ [last + 1]) v' ∧ Mod (fun b => b = p ∨ v.ownBlock = some b) w w' ∧ (∀ b, v'.ownBlock = some b → v.ownBlock = some b ∨ w.heap.size ≤ b)) := by
  obtain ⟨ad, c, rfl⟩ := hp.row.slice
  refine enter Tryz.func114 rfl rfl rfl _ (Pick.sub (l := [0]) (.cons rfl .nil)) ?_
  refine RK.seq ?_
  refine RK.region ?_
  iterate 2 refine RL.p rfl rfl ?_
  refine RL.done ?_
  iterate 2 refine RK.seq ?_
  refine RK.drawM No [(0, false), (1, false), (2, false), (3, false), (4, false), (5, false), (6, false), (7, false), (8, false), (9, false), (10, false), (11, false), (12, false), (13, false), (14, false), (15, false), (16, false)] [] mixed (by kernel_rfl) ?_
  iterate 2 refine DL.p rfl rfl rfl ?_
  refine DL.qf rfl (.free rfl) rfl rfl (Yld.fieldAddr fo120_2 rfl) ?_
  refine DL.q rfl (.free rfl) rfl rfl rfl (Yld.load p41 rfl (atM (hp.blk.cell rfl) id)) (Mod.drew _ _) ?_
  refine DL.q rfl (.free rfl) rfl rfl rfl (Yld.lenSl u41 rfl) (Mod.drew _ _) ?_
  iterate 2 refine DL.p rfl rfl rfl ?_
  refine DL.qf rfl (.free rfl) rfl rfl (Yld.fieldAddr fo120_0 rfl) ?_
  refine DL.q rfl (.free rfl) rfl rfl rfl (Yld.load p3 rfl (atM (hp.blk.cell rfl) id)) (Mod.drew _ _) ?_
  iterate 2 refine DL.p rfl rfl rfl ?_
  refine DL.knownF (d := 14) rfl rfl (decide_eq_false (by omega)) ?_
  iterate 2 refine DL.qf rfl (.yes rfl rfl rfl) rfl rfl (Yld.pure rfl) ?_
  refine DL.qf rfl (.yes rfl rfl rfl) rfl rfl (Yld.fieldAddr fo120_1 rfl) ?_
  refine DL.q rfl (.yes rfl rfl rfl) rfl rfl rfl (Yld.load p3 rfl (atM (hp.blk.cell rfl) id)) (Mod.drew _ _) ?_
  refine DL.qf rfl (.yes rfl rfl rfl) rfl rfl (Yld.pure rfl) ?_
  refine DL.p rfl rfl rfl ?_
  refine DL.done ?_
  refine RK.condF (hcF rfl (decide_eq_false (by omega))) ?_
  refine RK.skip ?_
  refine RK.seq ?_
  refine RK.region ?_
  iterate 2 refine RL.p rfl rfl ?_
  refine RL.q (.free rfl) rfl rfl (Yld.fieldAddr fo120_1 rfl) ?_
  refine RL.q (.free rfl) rfl rfl (Yld.load p3 rfl (at1 (hp.blk.cell rfl))) ?_
  refine RL.p rfl rfl ?_
  refine RL.re (d := 25) rfl rfl (add_i64 (z := last + 1) rfl (by omega) (by omega)) ?_
  refine RL.p rfl rfl ?_
  refine RL.q (.free rfl) rfl rfl (Yld.fieldAddr fo120_1 rfl) ?_
  refine RL.op' (.free rfl) rfl (Does.store i3 rfl rfl rfl hp.blk (.s .z)) ?_
  rintro _ w1 ⟨hb1, hm1, hs1⟩
  have hr1 := (hp.row.mod (Mod.drew No _) (fun _ _ h => h)).mod hm1 (fun b e h => hp.ne (h ▸ e))
  refine RL.done ?_
  refine RK.seq ?_
  refine RK.drawM (fun b => (Value.slice ad out.length c).ownBlock = some b) [(0, false), (1, false), (2, false), (3, false), (4, false), (5, false), (6, false), (7, false), (8, false), (9, true), (10, true), (11, false), (12, false), (13, true)] [13] mixed (by kernel_rfl) ?_
  iterate 3 refine DL.p rfl rfl rfl ?_
  refine DL.qf rfl (.free rfl) rfl rfl (Yld.fieldAddr fo120_2 rfl) ?_
  refine DL.q rfl (.free rfl) rfl rfl rfl (Yld.load p41 rfl (atM (hb1.cell rfl) (fun h => hp.ne h))) (Mod.drew _ _) ?_
  iterate 2 refine DL.p rfl rfl rfl ?_
  refine DL.qf rfl (.free rfl) rfl rfl (Yld.fieldAddr fo120_1 rfl) ?_
  refine DL.q rfl (.free rfl) rfl rfl rfl (Yld.load p3 rfl (atM (hb1.cell rfl) (fun h => hp.ne h))) (Mod.drew _ _) ?_
  refine DL.op rfl (.free rfl) rfl rfl (Does.slice1 u41 i3 rfl rfl rfl rfl rfl) ?_
  rintro _ w2 ⟨b2, rfl, hn2⟩
  refine ⟨(Mod.drew _ _).trans (Mod.any' hn2.grow), ?_⟩
  refine DL.op rfl (.free rfl) rfl rfl (Does.append u41 i3 rfl rfl rfl rfl rfl ((hr1.mod (Mod.drew No _) (fun _ _ h => h)).mod hn2.grow (fun _ _ h => h)) (Sl.new hn2 1 1 rfl (by omega) (fun h => h)) (rfl) (by omega)) ?_
  rintro u3 w3 ⟨hr3, hm3, hu3⟩
  refine ⟨((Mod.drew _ _).trans (Mod.any' hn2.grow)).trans hm3, ?_⟩
  have hpl := hp.blk.lt
  have hu3' : ∀ b, u3.ownBlock = some b → b ≠ p ∧ ((Value.slice ad out.length c).ownBlock = some b ∨ w.heap.size ≤ b) := fun b e => by
      rcases hu3 with h | h
      · rw [h] at e; exact ⟨fun hh => hp.ne (hh ▸ e), .inl e⟩
      · rw [h] at e; cases e; have h1 := hn2.size; have h2 := hm1.size; simp only [World.drew] at h1 h2 hn2; exact ⟨by omega, .inr (by omega)⟩
  obtain ⟨ad3, c3, rfl⟩ := hr3.slice
  have hb3 := ((hb1.mod (Mod.drew No _) (fun h => h)).mod hn2.grow (fun h => h)).mod hm3 (fun e => hp.ne e)
  refine DL.p rfl rfl rfl ?_
  refine DL.qf rfl (.free rfl) rfl rfl (Yld.fieldAddr fo120_2 rfl) ?_
  refine DL.opT rfl (.free rfl) rfl rfl (Does.store i41 rfl rfl rfl hb3 (.s (.s .z))) ?_
  rintro _ w4 ⟨hb4, hm4, hs4⟩
  refine DL.done ?_
  refine RK.seq ?_
  refine RK.region ?_
  iterate 2 refine RL.p rfl rfl ?_
  refine RL.q (.free rfl) rfl rfl (Yld.fieldAddr fo120_1 rfl) ?_
  refine RL.q (.free rfl) rfl rfl (Yld.load p3 rfl (at1 (hb4.cell rfl))) ?_
  iterate 2 refine RL.p rfl rfl ?_
  refine RL.done ?_
  refine RK.ret_of Tryz.func114 (res2 rfl rfl rfl) ?_ _
  exact ⟨_, rfl, rfl, _, ⟨hb4, by (show Row _ _ _ _ (out ++ [last + 1]).length (List.map _ (out ++ [last + 1]))); rw [List.map_append, List.length_append]; exact hr3.mod hm4 (fun b e h => (hu3' b e).1 h), fun e => (hu3' p e).1 rfl⟩, ((((Mod.drew _ _).trans (hm1.mono fun b _ h => .inl h)).trans ((Mod.drew _ _).trans (Mod.any' hn2.grow))).trans (hm3.mono fun b _ h => .inr h)).trans (hm4.mono fun b _ h => .inl h), fun b e => (hu3' b e).2⟩
abbrev LabK := ByteArray × ByteArray
def labK (x : Lab) : LabK := (x.name, x.value)
structure IdxAt (M : Nat → Prop) (w : World) (ix mh mr : Nat) (has : List (Int × List Lab)) (rows : List (LabK × List Int)) : Prop where
  blk : Blk w ix 178 [.map (some mh), .map (some mr)]
  ne : mh ≠ mr
  hl : ∃ l : List (Int × (List Lab × Value)), l.map (fun t => (t.1, t.2.1)) = has ∧ MapAt (Value.int .i64) w mh (l.map fun t => (t.1, t.2.2)) ∧ ∀ t ∈ l, SlL M w t.2.2 t.2.1
  rl : ∃ r : List (LabK × (List Int × Value)), r.map (fun t => (t.1, t.2.1)) = rows ∧ MapAt pairV w mr (r.map fun t => (t.1, t.2.2)) ∧ ∀ t ∈ r, Sl M w t.2.2 1 t.2.1.length (ints t.2.1)
theorem IdxAt.mod {M M0 : Nat → Prop} {w w' : World} {ix mh mr : Nat} {has : List (Int × List Lab)} {rows : List (LabK × List Int)} (h : IdxAt M w ix mh mr has rows) (hm : Mod M0 w w') (h0 : ∀ b, b < w.heap.size → M0 b → M b) (n1 : ¬ M0 ix) (n2 : ¬ M0 mh) (n3 : ¬ M0 mr) : IdxAt M w' ix mh mr has rows := by
  obtain ⟨l, hl1, hl2, hl3⟩ := h.hl
  obtain ⟨r, hr1, hr2, hr3⟩ := h.rl
  exact ⟨h.blk.mod hm n1, h.ne, ⟨l, hl1, hl2.mod hm n2, fun t ht => (hl3 t ht).mod (hm.mono h0)⟩, ⟨r, hr1, hr2.mod hm n3, fun t ht => (hr3 t ht).mod (hm.mono h0)⟩⟩
theorem IdxAt.off {M M' : Nat → Prop} {w : World} {ix mh mr : Nat} {has : List (Int × List Lab)} {rows : List (LabK × List Int)} (h : IdxAt M w ix mh mr has rows) (hM : ∀ b, b < w.heap.size → M' b → M b) : IdxAt M' w ix mh mr has rows := by
  obtain ⟨l, hl1, hl2, hl3⟩ := h.hl
  obtain ⟨r, hr1, hr2, hr3⟩ := h.rl
  exact ⟨h.blk, h.ne, ⟨l, hl1, hl2, fun t ht => (hl3 t ht).off (by omega) hM⟩, ⟨r, hr1, hr2, fun t ht => (hr3 t ht).off (by omega) hM⟩⟩
theorem idxNew_ok (w : World) : Fx Tryz.prog 50 [] w (fun u w' => ∃ ix mh mr, u = pp ix ∧ (∀ b, b = ix ∨ b = mh ∨ b = mr → w.heap.size ≤ b) ∧ (∀ M, IdxAt M w' ix mh mr [] []) ∧ Grow w w') := by
  refine enter Tryz.func50 rfl rfl rfl _ (Pick.sub (l := []) .nil) ?_
  refine RK.seq ?_
  refine RK.region ?_
  refine RL.p rfl rfl ?_
  refine RL.done ?_
  refine RK.seq ?_
  refine RK.region ?_
  refine RL.op (.free rfl) rfl rfl (Does.makeMap (Value.int .i64)) ?_
  rintro _ w1 ⟨mh, rfl, hmh, hm1, hg1, hs1⟩
  refine RL.op (.free rfl) rfl rfl (Does.makeMap pairV) ?_
  rintro _ w2 ⟨mr, rfl, hmr, hm2, hg2, hs2⟩
  refine RL.q (.free rfl) rfl rfl (Yld.build (v := .agg #[.map (some mh), .map (some mr)]) rfl (fun w => by kernel_rfl)) ?_
  refine RL.op (.free rfl) rfl rfl (Does.box rfl) ?_
  rintro _ w3 ⟨b3, rfl, hn3⟩
  refine RL.p rfl rfl ?_
  refine RL.done ?_
  refine RK.ret_of Tryz.func50 (res1 rfl rfl) ?_ _
  exact ⟨_, rfl, b3, mh, mr, rfl, fun b h => by have := hn3.at_; omega, fun M => ⟨hn3.blk, by omega, ⟨[], rfl, (hm1.mod hg2 (fun h => h)).mod hn3.grow (fun h => h), by simp⟩, ⟨[], rfl, hm2.mod hn3.grow (fun h => h), by simp⟩⟩, (hg1.trans hg2).trans hn3.grow⟩
theorem idxLen_ok (M : Nat → Prop) (w : World) (ix mh mr : Nat) (has : List (Int × List Lab)) (rows : List (LabK × List Int)) (h : IdxAt M w ix mh mr has rows) : Fx Tryz.prog 73 [pp ix] w (fun u w' => u = .int .i64 rows.length ∧ w = w') := by
  obtain ⟨r, hr1, hr2, hr3⟩ := h.rl
  refine enter Tryz.func73 rfl rfl rfl _ (Pick.sub (l := [0]) (.cons rfl .nil)) ?_
  refine RK.seq ?_
  refine RK.region ?_
  refine RL.p rfl rfl ?_
  refine RL.done ?_
  refine RK.seq ?_
  refine RK.region ?_
  iterate 2 refine RL.p rfl rfl ?_
  refine RL.q (.free rfl) rfl rfl (Yld.fieldAddr fo178_1 rfl) ?_
  refine RL.q (.free rfl) rfl rfl (Yld.load p176 rfl (at1 (h.blk.cell rfl))) ?_
  refine RL.q (.free rfl) rfl rfl (Yld.lenMap Tryz.underlying176 rfl (fun w' e => e ▸ hr2)) ?_
  refine RL.p rfl rfl ?_
  refine RL.done ?_
  refine RK.ret_of Tryz.func73 (res1 rfl rfl) ?_ _
  exact ⟨_, rfl, by rw [← hr1]; simp, rfl⟩
end Go.Proofs.YtnnmgfnhblbolaaGreatDoor
set_option linter.unusedVariables false
set_option linter.unusedSimpArgs false
set_option maxHeartbeats 400000
set_option maxRecDepth 100000
namespace Go.Proofs.YtnnmgfnhblbolaaGreatDoor
open Go Go.X
def addRow1 (id : Int) (r : List (LabK × List Int)) (x : Lab) : List (LabK × List Int) := putM r (labK x) (mkRow ((lookM r (labK x)).getD [] ++ [id]))
def addRows (rows : List (LabK × List Int)) (id : Int) (ls : List Lab) : List (LabK × List Int) := ls.foldl (addRow1 id) rows
theorem addRows_snoc (rows : List (LabK × List Int)) (id : Int) (ls : List Lab) (x : Lab) : addRows rows id (ls ++ [x]) = addRow1 id (addRows rows id ls) x := by simp [addRows]
theorem look_bound {r : List (LabK × List Int)} {B : Nat} (h : ∀ t ∈ r, t.2.length ≤ B) (k : LabK) : ((lookM r k).getD []).length ≤ B := by
  cases hl : lookM r k with
  | none => simp
  | some a => exact h _ (lookM_mem hl)
theorem addRow1_bound {r : List (LabK × List Int)} {B : Nat} (h : ∀ t ∈ r, t.2.length ≤ B) (id : Int) (x : Lab) : ∀ t ∈ addRow1 id r x, t.2.length ≤ B + 1 := by
  intro t ht
  rcases mem_putM ht with h1 | rfl
  · have := h t h1; omega
  · have := mkRow_le ((lookM r (labK x)).getD [] ++ [id])
    have h2 := look_bound h (labK x)
    simp at this ⊢
    omega
theorem addRows_bound {r : List (LabK × List Int)} {B : Nat} (h : ∀ t ∈ r, t.2.length ≤ B) (id : Int) (ls : List Lab) : ∀ t ∈ addRows r id ls, t.2.length ≤ B + ls.length := by
  induction ls generalizing r B with
  | nil => exact h
  | cons x ls ih =>
    intro t ht
    have := ih (addRow1_bound h id x) t ht
    simp; omega
theorem isS_len {ls : List Lab} (h : isS ls = true) : 1 ≤ ls.length ∧ ls.length ≤ 6 := by
  simp only [isS, Bool.and_eq_true, decide_eq_true_eq] at h
  exact h.1
theorem add_ok (M : Nat → Prop) (w : World) (ix mh mr : Nat) (has : List (Int × List Lab)) (rows : List (LabK × List Int)) (h : IdxAt M w ix mh mr has rows) (hMh : M mh) (hMr : M mr) (hM : ∀ b, M b → b < w.heap.size) (id : Int) (ls : List Lab) (v : Value) (hv : SlL M w v ls)
    (hnew : lookM has id = none) (his : isS ls = true) (hB : ∀ t ∈ rows, t.2.length ≤ 100000000000) :
    Fx Tryz.prog 199 [pp ix, .int .i64 id, v] w (fun u w' => u = .bool true ∧ IdxAt M w' ix mh mr (putM has id ls) (addRows rows id ls) ∧ Mod (fun b => b = mh ∨ b = mr) w w') := by
  obtain ⟨ad, c, rfl⟩ := hv.shape
  obtain ⟨l, hl1, hl2, hl3⟩ := h.hl
  have hlk : lookM (l.map fun t => (t.1, t.2.2)) id = none := by
    have e1 := lookM_map (fun a : List Lab × Value => a.1) id l
    have e2 := lookM_map (fun a : List Lab × Value => a.2) id l
    rw [hl1, hnew] at e1
    have : lookM l id = none := by cases hh : lookM l id with
      | none => rfl
      | some a => rw [hh] at e1; simp at e1
    rw [this] at e2
    exact e2
  obtain ⟨h61, h66⟩ := isS_len his
  have n1 : ix ≠ mh := h.blk.ty.nem hl2.mp
  have n2 : ix ≠ mr := by obtain ⟨r, _, hr2, _⟩ := h.rl; exact h.blk.ty.nem hr2.mp
  refine enter Tryz.func199 rfl rfl rfl _ (Pick.sub (l := [0, 1, 2]) (.cons rfl (.cons rfl (.cons rfl .nil)))) ?_
  refine RK.seq ?_
  refine RK.region ?_
  refine RL.p rfl rfl ?_
  refine RL.done ?_
  iterate 2 refine RK.seq ?_
  refine RK.region ?_
  iterate 2 refine RL.p rfl rfl ?_
  refine RL.q (.free rfl) rfl rfl (Yld.fieldAddr fo178_0 rfl) ?_
  refine RL.q (.free rfl) rfl rfl (Yld.load p175 rfl (at1 (h.blk.cell rfl))) ?_
  refine RL.p rfl rfl ?_
  refine RL.q (.free rfl) rfl rfl (Yld.lookup Tryz.underlying175 key3 i37 rfl rfl (fun w' e => e ▸ hl2)) ?_
  refine RL.p rfl rfl ?_
  refine RL.re (d := 11) rfl rfl (show _ = Value.tuple #[.slice none 0 0, .bool false] by rw [hlk]; rfl) ?_
  iterate 4 refine RL.p rfl rfl ?_
  refine RL.done ?_
  refine RK.seq ?_
  refine RK.region ?_
  iterate 2 refine RL.p rfl rfl ?_
  refine RL.knownF (d := 21) rfl rfl (rfl) ?_
  refine RL.q (.yes rfl rfl rfl) rfl rfl (Yld.pure rfl) ?_
  refine RL.op (.yes rfl rfl rfl) rfl rfl (Does.call rfl e179 (is_ok M ls _ _ hv)) ?_
  rintro _ w2 ⟨rfl, hg2⟩
  refine RL.q (.yes rfl rfl rfl) rfl rfl (Yld.pure rfl) ?_
  refine RL.p rfl rfl ?_
  refine RL.done ?_
  refine RK.condF (hcF rfl (by rw [his]; rfl)) ?_
  refine RK.skip ?_
  refine RK.seq ?_
  refine RK.drawM No [(0, false), (1, false), (2, false), (3, false), (4, false), (5, false), (6, true), (7, true)] [7] mixed (by kernel_rfl) ?_
  iterate 2 refine DL.p rfl rfl rfl ?_
  refine DL.qf rfl (.free rfl) rfl rfl (Yld.fieldAddr fo178_0 rfl) ?_
  refine DL.q rfl (.free rfl) rfl rfl rfl (Yld.load p175 rfl (atM ((h.blk.mod hg2 (fun h => h)).cell rfl) (fun h => h))) (Mod.drew _ _) ?_
  iterate 2 refine DL.p rfl rfl rfl ?_
  refine DL.op rfl (.free rfl) rfl rfl (Does.call rfl e200 (cloneL_ok M ls _ _ ((hv.mod (Mod.any' hg2)).mod (Mod.drew M _)) (by omega))) ?_
  rintro u3 w3 ⟨hr3, hf3, hg3⟩
  refine ⟨(Mod.drew _ _).trans hg3, ?_⟩
  obtain ⟨ad3, c3, rfl⟩ := hr3.slice
  have hg03 : Grow w w3 := (hg2.trans (Mod.drew _ _)).trans hg3
  refine DL.opT rfl (.free rfl) rfl rfl (Does.mapUpdate Tryz.underlying175 key3 rfl rfl rfl (hl2.mod hg03 (fun h => h))) ?_
  rintro _ w4 ⟨hm4, hmod4, hs4⟩
  have hmod04 : Mod (· = mh) w w4 := (Mod.any' hg03).trans hmod4
  have hu3 : SlL M w4 (.slice ad3 ls.length c3) ls := (Sl.own hr3 (fun k e hk => by have h1 := hf3 k e; have h2 := hM k hk; have h3 := hg2.size; simp only [World.drew] at h1; omega)).mod (hmod4.mono fun b _ e => e ▸ hMh)
  have hidx4 : IdxAt M w4 ix mh mr (putM has id ls) rows := by
      obtain ⟨r, hr1, hr2, hr3⟩ := h.rl
      refine ⟨h.blk.mod hmod04 n1, h.ne, ⟨putM l id (ls, .slice ad3 ls.length c3), ?_, ?_, fun t ht => ?_⟩, ⟨r, hr1, hr2.mod hmod04 h.ne.symm, fun t ht => (hr3 t ht).mod (hmod04.mono fun b _ e => e ▸ hMh)⟩⟩
      · rw [← hl1]; exact (putM_map (fun a : List Lab × Value => a.1) id (ls, .slice ad3 ls.length c3) l).symm
      · rw [← putM_map (fun a : List Lab × Value => a.2) id (ls, .slice ad3 ls.length c3) l]; exact hm4
      · rcases mem_putM ht with h1 | rfl
        · exact (hl3 t h1).mod (hmod04.mono fun b _ e => e ▸ hMh)
        · exact hu3
  have hmodA : Mod (fun b => b = mh ∨ b = mr) w w4 := hmod04.mono fun b _ e => .inl e
  refine DL.done ?_
  iterate 2 refine RK.seq ?_
  refine RK.region ?_
  refine RL.p rfl rfl ?_
  refine RL.q (.free rfl) rfl rfl (Yld.lenSl u37 rfl) ?_
  refine RL.p rfl rfl ?_
  refine RL.done ?_
  refine RK.block ?_
  refine RK.loop (fun k : Nat => [(0, pp ix), (1, .int .i64 id), (33, .slice ad ls.length c), (34, .int .i64 ls.length), (35, .int .i64 k)]) (fun k w' => IdxAt M w' ix mh mr (putM has id ls) (addRows rows id (ls.take k)) ∧ Mod (fun b => b = mh ∨ b = mr) w w' ∧ k ≤ ls.length) (fun k => ls.length - k) 0 ⟨rfl, rfl, rfl, rfl, rfl, trivial⟩ ⟨by simpa [addRows] using hidx4, hmodA, by omega⟩ (fun k w' hI ih => ?_)
  obtain ⟨hi, hmod, hk⟩ := hI
  refine RK.seq ?_
  refine RK.region ?_
  refine RL.p rfl rfl ?_
  refine RL.done ?_
  refine RK.seq ?_
  first | refine RK.condD rfl (fun h36 => ?_) (fun h36 => ?_) | refine RK.condN rfl (fun h36 => ?_) (fun h36 => ?_) | refine RK.cond rfl (fun h36 => ?_) (fun h36 => ?_)
  · obtain ⟨x, hx⟩ : ∃ x, ls[k]? = some x := ⟨ls[k]'(by omega), List.getElem?_eq_getElem (by omega)⟩
    obtain ⟨bx, ox, cx, he, hbM, hkl, hcell⟩ := hv.elem labC_len hx
    cases he
    obtain ⟨r, hr1, hr2, hr3⟩ := hi.rl
    have hmodM : Mod M w w' := hmod.mono fun b _ e => by rcases e with rfl | rfl <;> assumption
    have htk : ls.take (k + 1) = ls.take k ++ [x] := by rw [List.take_succ_eq_append_getElem (by omega)]; congr 2; exact (List.getElem?_eq_some_iff.1 hx).2
    have hbnd : ((lookM (addRows rows id (ls.take k)) (labK x)).getD []).length ≤ 100000000000 + 6 := Nat.le_trans (look_bound (addRows_bound hB id (ls.take k)) (labK x)) (by simp; omega)
    obtain ⟨vv, hval, hsl⟩ : ∃ vv, (lookM (r.map fun t => (t.1, t.2.2)) (labK x)).getD (.slice none 0 0) = vv ∧ Sl M w' vv 1 ((lookM (addRows rows id (ls.take k)) (labK x)).getD []).length (ints ((lookM (addRows rows id (ls.take k)) (labK x)).getD [])) := by
        have e1 := lookM_map (fun a : List Int × Value => a.1) (labK x) r
        have e2 := lookM_map (fun a : List Int × Value => a.2) (labK x) r
        rw [hr1] at e1
        rw [e1, e2]
        cases hh : lookM r (labK x) with
        | none => exact ⟨_, rfl, Sl.nil _ _ _ _ _⟩
        | some a => exact ⟨_, rfl, hr3 _ (lookM_mem hh)⟩
    refine RK.skip ?_
    refine RK.seq ?_
    refine RK.block ?_
    refine RK.seq ?_
    refine RK.region ?_
    refine RL.q (.free rfl) rfl rfl (Yld.indexAddrN u37 i261 rfl rfl (by omega)) ?_
    refine RL.q (.free rfl) rfl rfl (Yld.loadN (cs := [.string x.name, .string x.value]) a261 rfl (atN (fun j u hj => hmodM.cell (hcell j u hj) hbM))) ?_
    refine RL.op (.free rfl) rfl rfl (Does.alloc i261) ?_
    rintro _ w5 ⟨b1, rfl, hn1⟩
    refine RL.op' (.free rfl) rfl (Does.storeN i261 rfl rfl rfl rfl hn1.blk (Nat.le_refl 2)) ?_
    rintro _ w6 ⟨hb6, hm6, _⟩
    have hB6 : Blk w6 b1 261 [.string x.name, .string x.value] := hb6
    have hg6 : Grow w' w6 := hn1.grow.then hm6 (fun y hy e => by have e' : y = b1 := e; have := hn1.at_; omega)
    refine RL.done ?_
    refine RK.drawM No [(0, false), (1, false), (2, false), (3, false), (4, false), (5, false), (6, false), (7, false), (8, false), (9, false), (10, false), (11, false), (12, true), (13, true)] [13] mixed (by kernel_rfl) ?_
    iterate 2 refine DL.p rfl rfl rfl ?_
    refine DL.qf rfl (.free rfl) rfl rfl (Yld.fieldAddr fo178_1 rfl) ?_
    refine DL.q rfl (.free rfl) rfl rfl rfl (Yld.load p176 rfl (atM ((hi.blk.mod hg6 (fun h => h)).cell rfl) (fun h => h))) (Mod.drew _ _) ?_
    refine DL.q rfl (.free rfl) rfl rfl rfl (Yld.loadN (cs := [.string x.name, .string x.value]) a261 rfl (atNM (fun j u hj => by rw [Nat.zero_add]; exact hB6.cell' hj) (fun h => h))) (Mod.drew _ _) ?_
    iterate 2 refine DL.p rfl rfl rfl ?_
    refine DL.qf rfl (.free rfl) rfl rfl (Yld.fieldAddr fo178_1 rfl) ?_
    refine DL.q rfl (.free rfl) rfl rfl rfl (Yld.load p176 rfl (atM ((hi.blk.mod hg6 (fun h => h)).cell rfl) (fun h => h))) (Mod.drew _ _) ?_
    refine DL.q rfl (.free rfl) rfl rfl rfl (Yld.loadN (cs := [.string x.name, .string x.value]) a261 rfl (atNM (fun j u hj => by rw [Nat.zero_add]; exact hB6.cell' hj) (fun h => h))) (Mod.drew _ _) ?_
    refine DL.q rfl (.free rfl) rfl rfl rfl (Yld.lookup Tryz.underlying176 key261 i41 (k := labK x) rfl rfl (fun w' hm => (hr2.mod hg6 (fun h => h)).mod hm (fun h => h))) (Mod.drew _ _) ?_
    refine DL.re (d := 49) rfl rfl (hval) ?_
    refine DL.p rfl rfl rfl ?_
    refine DL.op rfl (.free rfl) rfl rfl (Does.call rfl e193 (put_ok M _ id vv _ ((hsl.mod (Mod.any' hg6)).mod (Mod.drew M _)) (by omega))) ?_
    rintro u7 w7 ⟨hr7, hf7, hg7⟩
    refine ⟨(Mod.drew _ _).trans hg7, ?_⟩
    have hg07 : Grow w' w7 := (hg6.trans (Mod.drew _ _)).trans hg7
    refine DL.opT rfl (.free rfl) rfl rfl (Does.mapUpdate Tryz.underlying176 key261 (k := labK x) rfl rfl rfl (hr2.mod hg07 (fun h => h))) ?_
    rintro _ w8 ⟨hm8, hmod8, hs8⟩
    have hmodk : Mod (· = mr) w' w8 := (Mod.any' hg07).trans hmod8
    have hu7 : Sl M w8 u7 1 (mkRow ((lookM (addRows rows id (ls.take k)) (labK x)).getD [] ++ [id])).length (ints (mkRow ((lookM (addRows rows id (ls.take k)) (labK x)).getD [] ++ [id]))) := (Sl.own hr7 (fun b e hb => by have h1 := hf7 b e; have h2 := hM b hb; have h3 := hg6.size; have h4 := hmod.size; simp only [World.drew] at h1; omega)).mod (hmod8.mono fun b _ e => e ▸ hMr)
    have hidx8 : IdxAt M w8 ix mh mr (putM has id ls) (addRows rows id (ls.take (k + 1))) := by
        obtain ⟨l', hl1', hl2', hl3'⟩ := hi.hl
        refine ⟨hi.blk.mod hmodk n2, hi.ne, ⟨l', hl1', hl2'.mod hmodk hi.ne, fun t ht => (hl3' t ht).mod (hmodk.mono fun b _ e => e ▸ hMr)⟩, ⟨putM r (labK x) (mkRow ((lookM (addRows rows id (ls.take k)) (labK x)).getD [] ++ [id]), u7), ?_, ?_, fun t ht => ?_⟩⟩
        · rw [htk, addRows_snoc, addRow1, ← hr1]; exact (putM_map (fun a : List Int × Value => a.1) (labK x) (_, u7) r).symm
        · rw [← putM_map (fun a : List Int × Value => a.2) (labK x) (_, u7) r]; exact hm8
        · rcases mem_putM ht with h1 | rfl
          · exact (hr3 t h1).mod (hmodk.mono fun b _ e => e ▸ hMr)
          · exact hu7
    refine DL.done ?_
    refine RK.inBlock ?_
    refine RK.region ?_
    refine RL.p rfl rfl ?_
    refine RL.re (d := 52) rfl rfl (succ_i64 (by omega)) ?_
    refine RL.p rfl rfl ?_
    refine RL.done ?_
    exact RK.back (ih (k + 1) _ ⟨hidx8, hmod.trans (hmodk.mono fun b _ e => .inr e), by omega⟩ (by omega)) ⟨rfl, rfl, rfl, rfl, rfl, trivial⟩
  · have ek : ls.take k = ls := List.take_of_length_le (by omega)
    rw [ek] at hi
    refine RK.exit rfl ?_
    refine RK.seq ?_
    refine RK.region ?_
    refine RL.p rfl rfl ?_
    refine RL.done ?_
    refine RK.ret_of Tryz.func199 (res1 rfl rfl) ?_ _
    exact ⟨_, rfl, rfl, hi, hmod⟩
end Go.Proofs.YtnnmgfnhblbolaaGreatDoor
set_option linter.unusedVariables false
set_option linter.unusedSimpArgs false
set_option maxHeartbeats 6400000
set_option maxRecDepth 100000
namespace Go.Proofs.YtnnmgfnhblbolaaGreatDoor
open Go Go.X
structure Im where
  t : Bool
  n : Nat
  v : Value
  bs : List UInt8
def Im.it (x : Im) : It := (x.t, x.n, x.v)
@[reducible] def imC (x : Im) : List Value := [.bool x.t, .int .u64 (x.n : Int), x.v]
structure LgN (n : Nat) (w : World) (vi va : Value) (ims : List Im) (qs : List Value) : Prop where
  it : Sl No w vi 3 ims.length (ims.flatMap imC)
  an : Sl No w va 1 qs.length qs
  il : ims.length = n
  ql : qs.length = n
  n3 : n ≤ 3
  raw : ∀ x ∈ ims, Sl No w x.v 1 x.bs.length (bytesV x.bs)
  i0 : 0 < n → ims[0]? = some ⟨true, 5, .slice none 0 0, []⟩
  i1 : 1 < n → ∃ a c, ims[1]? = some ⟨false, 0, .slice a 6 c, [4, 114, 111, 111, 116, 1]⟩ ∧ 6 ≤ c
  i2 : 2 < n → ∃ a c, ims[2]? = some ⟨false, 0, .slice a 1 c, [9]⟩ ∧ 1 ≤ c
  q0 : 0 < n → ∃ a c, qs[0]? = some (.slice a 3 c) ∧ 3 ≤ c ∧ Sl No w (.slice a 3 c) 1 3 (bytesV [0, 0, 5])
  q1 : 1 < n → ∃ a c, qs[1]? = some (.slice a 3 c) ∧ 3 ≤ c ∧ Sl No w (.slice a 3 c) 1 3 (bytesV [0, 1, 1])
  q2 : 2 < n → ∃ a c, qs[2]? = some (.slice a 1 c) ∧ 1 ≤ c ∧ Sl No w (.slice a 1 c) 1 1 (bytesV [1])
theorem LgN.grow {n : Nat} {w w' : World} {vi va : Value} {ims : List Im} {qs : List Value} (h : LgN n w vi va ims qs) (hg : Grow w w') : LgN n w' vi va ims qs :=
  ⟨h.it.mod hg, h.an.mod hg, h.il, h.ql, h.n3, fun x hx => (h.raw x hx).mod hg, h.i0, h.i1, h.i2, fun e => by obtain ⟨a, c, h1, h2, h3⟩ := h.q0 e; exact ⟨a, c, h1, h2, h3.mod hg⟩, fun e => by obtain ⟨a, c, h1, h2, h3⟩ := h.q1 e; exact ⟨a, c, h1, h2, h3.mod hg⟩, fun e => by obtain ⟨a, c, h1, h2, h3⟩ := h.q2 e; exact ⟨a, c, h1, h2, h3.mod hg⟩⟩
end Go.Proofs.YtnnmgfnhblbolaaGreatDoor
set_option linter.unusedVariables false
set_option linter.unusedSimpArgs false
set_option maxHeartbeats 6400000
set_option maxRecDepth 100000
namespace Go.Proofs.YtnnmgfnhblbolaaGreatDoor
open Go Go.X
theorem cloneB_ok (M : Nat → Prop) (bs : List UInt8) (v : Value) (w : World) (hv : Sl M w v 1 bs.length (bytesV bs)) (hb : bs.length ≤ 1000) :
    Fx Tryz.prog 108 [v] w (fun u w' => Row w' 5 1 u bs.length (bytesV bs) ∧ Fresh w.heap.size u ∧ Grow w w') := by
  obtain ⟨ad, c, b, o, rfl, hf⟩ := hv.open
  refine enter Tryz.func108 rfl rfl rfl _ (Pick.sub (l := [0]) (.cons rfl .nil)) ?_
  refine RK.seq ?_
  refine RK.region ?_
  refine RL.p rfl rfl ?_
  refine RL.done ?_
  iterate 2 refine RK.seq ?_
  refine RK.region ?_
  refine RL.p rfl rfl ?_
  refine RL.q (.free rfl) rfl rfl (Yld.eqNil u43 rfl rfl) ?_
  refine RL.done ?_
  first | refine RK.condD rfl (fun h4 => ?_) (fun h4 => ?_) | refine RK.condN rfl (fun h4 => ?_) (fun h4 => ?_) | refine RK.cond rfl (fun h4 => ?_) (fun h4 => ?_)
  · refine RK.seq ?_
    refine RK.region ?_
    refine RL.p rfl rfl ?_
    refine RL.done ?_
    refine RK.ret_of Tryz.func108 (res1 rfl rfl) ?_ _
    exact ⟨_, rfl, by cases ad with | none => (have h0 : bs.length = 0 := by (rcases Nat.eq_zero_or_pos bs.length with h | h; exact h; exact absurd (hf h).1 (by simp))); have : bs = [] := List.eq_nil_of_length_eq_zero h0; subst this; exact ⟨Row.nil _ _ _, fun b hb => by simp [Value.ownBlock] at hb, Mod.refl _ _⟩ | some a => simp at h4⟩
  · refine RK.skip ?_
    refine RK.seq ?_
    refine RK.region ?_
    refine RL.op (.free rfl) rfl rfl (Does.slice0 u43 i5) ?_
    rintro _ w1 ⟨b1, rfl, hn1⟩
    refine RL.p rfl rfl ?_
    refine RL.op (.free rfl) rfl rfl (Does.append u43 i5 rfl rfl rfl rfl rfl (Row.new hn1 1 0 rfl (by omega)) ((hv.mod (Mod.any' hn1.grow)).noM) (bytesV_one bs) (by omega)) ?_
    rintro u w2 ⟨hr, hm, hu⟩
    refine RL.p rfl rfl ?_
    refine RL.done ?_
    refine RK.ret_of Tryz.func108 (res1 rfl rfl) ?_ _
    exact ⟨_, rfl, by simpa using hr, fun b hb => by rcases hu with hu | hu <;> rw [hu] at hb <;> simp [Value.ownBlock] at hb <;> (have := hn1.at_; have := hn1.size; omega), hn1.grow.then hm (fun x hx e => by simp [Value.ownBlock] at e; have := hn1.at_; omega)⟩
theorem bytesEq_ok (bs : List UInt8) (v1 v2 : Value) (w : World) (h1 : Sl No w v1 1 bs.length (bytesV bs)) (h2 : Sl No w v2 1 bs.length (bytesV bs)) :
    Fx Tryz.prog 190 [v1, v2] w (fun u w' => u = .bool true ∧ w = w') := by
  refine enter Tryz.func190 rfl rfl rfl _ (Pick.sub (l := [0, 1]) (.cons rfl (.cons rfl .nil))) ?_
  refine RK.seq ?_
  refine RK.region ?_
  refine RL.p rfl rfl ?_
  refine RL.done ?_
  refine RK.seq ?_
  refine RK.region ?_
  refine RL.p rfl rfl ?_
  refine RL.q (.free rfl) rfl rfl (Yld.bytesSl u43 Tryz.underlying5 Tryz.underlying9 rfl (fun w9 h9 => h9 ▸ h1)) ?_
  refine RL.p rfl rfl ?_
  refine RL.q (.free rfl) rfl rfl (Yld.bytesSl u43 Tryz.underlying5 Tryz.underlying9 rfl (fun w9 h9 => h9 ▸ h2)) ?_
  iterate 2 refine RL.p rfl rfl ?_
  refine RL.done ?_
  refine RK.ret_of Tryz.func190 (res1 rfl rfl) ?_ _
  exact ⟨_, rfl, by simp, rfl⟩
end Go.Proofs.YtnnmgfnhblbolaaGreatDoor
