/- What the claim stands on, part 2. Of own lemmas only those that it reaches. -/
import Derived.Test.YtcndimkkojdflaaGreatDoorKs1
namespace Go.Proofs
open Go.Shelf
def Tryz.lays189_ren : Go.Shelf.Ren := ⟨fun | 189 => 280 | 125 => 227 | 257 => 344 | 128 => 300 | 129 => 115 | 294 => 374 | 295 => 375 | 296 => 376 | 297 => 377 | 298 => 378 | 299 => 379 | 216 => 339 | 300 => 380 | 301 => 381 | 328 => 396 | 329 => 350 | 330 => 351 | 331 => 397 | 332 => 398 | 215 => 276 | 343 => 414 | n => n, fun | 28 => 63 | 3 => 3 | 46 => 79 | 0 => 0 | 51 => 181 | 53 => 31 | 4 => 4 | 183 => 389 | 182 => 388 | 131 => 149 | 5 => 5 | 9 => 9 | 218 => 427 | 222 => 430 | 228 => 459 | 229 => 460 | n => n, fun | n => n⟩
theorem Tryz.lays189 : Go.Proofs.Lays.n189 Tryz.prog Tryz.lays189_ren := {
  mixed := by kernel_rfl
  f125 := Tryz.func227.trans (congrArg some (by kernel_rfl))
  f128 := Tryz.func300.trans (congrArg some (by kernel_rfl))
  f129 := Tryz.func115.trans (congrArg some (by kernel_rfl))
  f189 := Tryz.func280.trans (congrArg some (by kernel_rfl))
  f215 := Tryz.func276.trans (congrArg some (by kernel_rfl))
  f216 := Tryz.func339.trans (congrArg some (by kernel_rfl))
  f257 := Tryz.func344.trans (congrArg some (by kernel_rfl))
  f294 := Tryz.func374.trans (congrArg some (by kernel_rfl))
  f295 := Tryz.func375.trans (congrArg some (by kernel_rfl))
  f296 := Tryz.func376.trans (congrArg some (by kernel_rfl))
  f297 := Tryz.func377.trans (congrArg some (by kernel_rfl))
  f298 := Tryz.func378.trans (congrArg some (by kernel_rfl))
  f299 := Tryz.func379.trans (congrArg some (by kernel_rfl))
  f300 := Tryz.func380.trans (congrArg some (by kernel_rfl))
  f301 := Tryz.func381.trans (congrArg some (by kernel_rfl))
  f328 := Tryz.func396.trans (congrArg some (by kernel_rfl))
  f329 := Tryz.func350.trans (congrArg some (by kernel_rfl))
  f330 := Tryz.func351.trans (congrArg some (by kernel_rfl))
  f331 := Tryz.func397.trans (congrArg some (by kernel_rfl))
  f332 := Tryz.func398.trans (congrArg some (by kernel_rfl))
  f343 := Tryz.func414.trans (congrArg some (by kernel_rfl))
  t0 := Tryz.underlying0
  a0 := Tryz.isAgg0
  z0 := Tryz.sizeOf0
  v0 := Tryz.zeroValue0
  t3 := Tryz.underlying3
  a3 := Tryz.isAgg3
  z3 := Tryz.sizeOf3
  v3 := Tryz.zeroValue3
  t4 := Tryz.underlying4
  a4 := Tryz.isAgg4
  z4 := Tryz.sizeOf4
  v4 := Tryz.zeroValue4
  t5 := Tryz.underlying5
  a5 := Tryz.isAgg5
  z5 := Tryz.sizeOf5
  v5 := Tryz.zeroValue5
  t9 := Tryz.underlying9
  a9 := Tryz.isAgg9
  z9 := Tryz.sizeOf9
  v9 := Tryz.zeroValue9
  t28 := Tryz.underlying63
  a28 := Tryz.isAgg63
  z28 := Tryz.sizeOf63
  v28 := Tryz.zeroValue63
  t46 := Tryz.underlying79
  a46 := Tryz.isAgg79
  z46 := Tryz.sizeOf79
  v46 := Tryz.zeroValue79
  t51 := Tryz.underlying181
  a51 := Tryz.isAgg181
  z51 := Tryz.sizeOf181
  v51 := Tryz.zeroValue181
  t53 := Tryz.underlying31
  a53 := Tryz.isAgg31
  z53 := Tryz.sizeOf31
  v53 := Tryz.zeroValue31
  t131 := Tryz.underlying149
  a131 := Tryz.isAgg149
  z131 := Tryz.sizeOf149
  v131 := Tryz.zeroValue149
  t182 := Tryz.underlying388
  a182 := Tryz.isAgg388
  z182 := Tryz.sizeOf388
  v182 := Tryz.zeroValue388
  t183 := Tryz.underlying389
  a183 := Tryz.isAgg389
  z183 := Tryz.sizeOf389
  v183 := Tryz.zeroValue389
  t218 := Tryz.underlying427
  a218 := Tryz.isAgg427
  z218 := Tryz.sizeOf427
  v218 := Tryz.zeroValue427
  t222 := Tryz.underlying430
  a222 := Tryz.isAgg430
  z222 := Tryz.sizeOf430
  v222 := Tryz.zeroValue430
  t228 := Tryz.underlying459
  a228 := Tryz.isAgg459
  z228 := Tryz.sizeOf459
  v228 := Tryz.zeroValue459
  t229 := Tryz.underlying460
  a229 := Tryz.isAgg460
  z229 := Tryz.sizeOf460
  v229 := Tryz.zeroValue460 }
open Go.Sort Go.RowKit in
theorem Tryz.slices_Sort_int (blk off cap : Nat) (zs : List Int) (w : World) (hH : Holds (Value.int .i64) w blk off zs.toArray) (hblk : blk < w.heap.size) (hsz : zs.length < 4611686018427387904) :
    Calls Tryz.prog 280 #[.slice (some ⟨blk, off, none⟩) zs.length cap] w fun e w' =>
      e = .returned (.tuple #[]) ∧ ∃ n os, w' = grow (putRow (Value.int .i64) (Sort.ahead w n) blk off (zs.mergeSort fun x y => decide (x ≤ y)).toArray) os := Any.slices_Sort_int Tryz.lays189 blk off cap zs w hH hblk hsz
def Tryz.lays190_ren : Go.Shelf.Ren := ⟨fun | 190 => 157 | 125 => 227 | 258 => 226 | 128 => 300 | 129 => 115 | 302 => 291 | 303 => 292 | 304 => 293 | 305 => 294 | 306 => 295 | 307 => 296 | 308 => 297 | 309 => 298 | 310 => 299 | 333 => 349 | 329 => 350 | 330 => 351 | 334 => 352 | 335 => 353 | 336 => 354 | 344 => 384 | n => n, fun | 31 => 26 | 9 => 9 | 3 => 3 | 46 => 79 | 0 => 0 | 51 => 181 | 53 => 31 | 4 => 4 | 183 => 389 | 182 => 388 | 131 => 149 | 5 => 5 | 218 => 427 | 222 => 430 | 228 => 459 | 229 => 460 | n => n, fun | n => n⟩
theorem Tryz.lays190 : Go.Proofs.Lays.n190 Tryz.prog Tryz.lays190_ren := {
  mixed := by kernel_rfl
  f125 := Tryz.func227.trans (congrArg some (by kernel_rfl))
  f128 := Tryz.func300.trans (congrArg some (by kernel_rfl))
  f129 := Tryz.func115.trans (congrArg some (by kernel_rfl))
  f190 := Tryz.func157.trans (congrArg some (by kernel_rfl))
  f258 := Tryz.func226.trans (congrArg some (by kernel_rfl))
  f302 := Tryz.func291.trans (congrArg some (by kernel_rfl))
  f303 := Tryz.func292.trans (congrArg some (by kernel_rfl))
  f304 := Tryz.func293.trans (congrArg some (by kernel_rfl))
  f305 := Tryz.func294.trans (congrArg some (by kernel_rfl))
  f306 := Tryz.func295.trans (congrArg some (by kernel_rfl))
  f307 := Tryz.func296.trans (congrArg some (by kernel_rfl))
  f308 := Tryz.func297.trans (congrArg some (by kernel_rfl))
  f309 := Tryz.func298.trans (congrArg some (by kernel_rfl))
  f310 := Tryz.func299.trans (congrArg some (by kernel_rfl))
  f329 := Tryz.func350.trans (congrArg some (by kernel_rfl))
  f330 := Tryz.func351.trans (congrArg some (by kernel_rfl))
  f333 := Tryz.func349.trans (congrArg some (by kernel_rfl))
  f334 := Tryz.func352.trans (congrArg some (by kernel_rfl))
  f335 := Tryz.func353.trans (congrArg some (by kernel_rfl))
  f336 := Tryz.func354.trans (congrArg some (by kernel_rfl))
  f344 := Tryz.func384.trans (congrArg some (by kernel_rfl))
  t0 := Tryz.underlying0
  a0 := Tryz.isAgg0
  z0 := Tryz.sizeOf0
  v0 := Tryz.zeroValue0
  t3 := Tryz.underlying3
  a3 := Tryz.isAgg3
  z3 := Tryz.sizeOf3
  v3 := Tryz.zeroValue3
  t4 := Tryz.underlying4
  a4 := Tryz.isAgg4
  z4 := Tryz.sizeOf4
  v4 := Tryz.zeroValue4
  t5 := Tryz.underlying5
  a5 := Tryz.isAgg5
  z5 := Tryz.sizeOf5
  v5 := Tryz.zeroValue5
  t9 := Tryz.underlying9
  a9 := Tryz.isAgg9
  z9 := Tryz.sizeOf9
  v9 := Tryz.zeroValue9
  t31 := Tryz.underlying26
  a31 := Tryz.isAgg26
  z31 := Tryz.sizeOf26
  v31 := Tryz.zeroValue26
  t46 := Tryz.underlying79
  a46 := Tryz.isAgg79
  z46 := Tryz.sizeOf79
  v46 := Tryz.zeroValue79
  t51 := Tryz.underlying181
  a51 := Tryz.isAgg181
  z51 := Tryz.sizeOf181
  v51 := Tryz.zeroValue181
  t53 := Tryz.underlying31
  a53 := Tryz.isAgg31
  z53 := Tryz.sizeOf31
  v53 := Tryz.zeroValue31
  t131 := Tryz.underlying149
  a131 := Tryz.isAgg149
  z131 := Tryz.sizeOf149
  v131 := Tryz.zeroValue149
  t182 := Tryz.underlying388
  a182 := Tryz.isAgg388
  z182 := Tryz.sizeOf388
  v182 := Tryz.zeroValue388
  t183 := Tryz.underlying389
  a183 := Tryz.isAgg389
  z183 := Tryz.sizeOf389
  v183 := Tryz.zeroValue389
  t218 := Tryz.underlying427
  a218 := Tryz.isAgg427
  z218 := Tryz.sizeOf427
  v218 := Tryz.zeroValue427
  t222 := Tryz.underlying430
  a222 := Tryz.isAgg430
  z222 := Tryz.sizeOf430
  v222 := Tryz.zeroValue430
  t228 := Tryz.underlying459
  a228 := Tryz.isAgg459
  z228 := Tryz.sizeOf459
  v228 := Tryz.zeroValue459
  t229 := Tryz.underlying460
  a229 := Tryz.isAgg460
  z229 := Tryz.sizeOf460
  v229 := Tryz.zeroValue460 }
open Go.Sort Go.RowKit in
theorem Tryz.slices_Sort_string (blk off cap : Nat) (ss : List (List UInt8)) (w : World) (hH : Holds encStr w blk off ss.toArray) (hblk : blk < w.heap.size) (hsz : ss.length < 4611686018427387904) :
    Calls Tryz.prog 157 #[.slice (some ⟨blk, off, none⟩) ss.length cap] w fun e w' =>
      e = .returned (.tuple #[]) ∧ ∃ n os, w' = grow (putRow encStr (Sort.ahead w n) blk off (ss.mergeSort fun x y => decide (x ≤ y)).toArray) os := Any.slices_Sort_string Tryz.lays190 blk off cap ss w hH hblk hsz
def Tryz.lays107_ren : Go.Shelf.Ren := ⟨fun | 107 => 373 | 108 => 395 | n => n, fun | 28 => 63 | 3 => 3 | 4 => 4 | 0 => 0 | n => n, fun | n => n⟩
theorem Tryz.lays107 : Go.Proofs.Lays.n107 Tryz.prog Tryz.lays107_ren := {
  mixed := by kernel_rfl
  f107 := Tryz.func373.trans (congrArg some (by kernel_rfl))
  f108 := Tryz.func395.trans (congrArg some (by kernel_rfl))
  t0 := Tryz.underlying0
  a0 := Tryz.isAgg0
  z0 := Tryz.sizeOf0
  v0 := Tryz.zeroValue0
  t3 := Tryz.underlying3
  a3 := Tryz.isAgg3
  z3 := Tryz.sizeOf3
  v3 := Tryz.zeroValue3
  t4 := Tryz.underlying4
  a4 := Tryz.isAgg4
  z4 := Tryz.sizeOf4
  v4 := Tryz.zeroValue4
  t28 := Tryz.underlying63
  a28 := Tryz.isAgg63
  z28 := Tryz.sizeOf63
  v28 := Tryz.zeroValue63 }
open Go.Lib in
theorem Tryz.slices_Contains_int (b off n c : Nat) (zs : List Int) (x : Int) (w : World) (hz : n ≤ zs.length) (hbig : n ≤ 9223372036854775807) (hc : ∀ j, j < zs.length → w.cell? ⟨b, off + j, none⟩ = some (.int .i64 (zs.getD j 0))) :
    Calls Tryz.prog 373 #[.slice (some ⟨b, off, none⟩) n c, .int .i64 x] w fun e w' => e = .returned (.bool ((zs.take n).contains x)) ∧ w' = w := Any.slices_Contains_int Tryz.lays107 b off n c zs x w hz hbig hc
open Go.Lib in
theorem Tryz.slices_Contains_int_empty (a : Option Addr) (c : Nat) (x : Int) (w : World) :
    Calls Tryz.prog 373 #[.slice a 0 c, .int .i64 x] w fun e w' => e = .returned (.bool false) ∧ w' = w := Any.slices_Contains_int_empty Tryz.lays107 a c x w
def Tryz.laysNm220_ren : Go.Shelf.Ren := ⟨fun | 20 => 281 | n => n, fun | 22 => 63 | 3 => 3 | 4 => 4 | 0 => 0 | n => n, fun | n => n⟩
theorem Tryz.laysNm220 : Go.Proofs.Lays2.n20 Tryz.prog Tryz.laysNm220_ren := {
  mixed := by kernel_rfl
  f20 := Tryz.func281.trans (congrArg some (by kernel_rfl))
  t0 := Tryz.underlying0
  a0 := Tryz.isAgg0
  z0 := Tryz.sizeOf0
  v0 := Tryz.zeroValue0
  t3 := Tryz.underlying3
  a3 := Tryz.isAgg3
  z3 := Tryz.sizeOf3
  v3 := Tryz.zeroValue3
  t4 := Tryz.underlying4
  a4 := Tryz.isAgg4
  z4 := Tryz.sizeOf4
  v4 := Tryz.zeroValue4
  t22 := Tryz.underlying63
  a22 := Tryz.isAgg63
  z22 := Tryz.sizeOf63
  v22 := Tryz.zeroValue63
  i3 := by kernel_rfl }
open Go.RowKit Go.Lib Go.Sort in
theorem Tryz.slices_Compact_int (blk off cap : Nat) (zs : List Int) (w : World) (hH : Holds (Value.int .i64) w blk off zs.toArray) (hsz : zs.length ≤ 9223372036854775807) (hcap : zs.length ≤ cap) :
    Calls Tryz.prog 281 #[.slice (some ⟨blk, off, none⟩) zs.length cap] w fun e w' => e = .returned (.slice (some ⟨blk, off, none⟩) (Lib.compact zs).length cap) ∧ ∃ q, w' = putRow (Value.int .i64) (Sort.ahead w q) blk off (Lib.compact zs ++ List.replicate (zs.length - (Lib.compact zs).length) 0).toArray := Any.slices_Compact_int Tryz.laysNm220 blk off cap zs w hH hsz hcap
open Go.RowKit Go.Lib Go.Sort in
theorem Tryz.slices_Compact_int_empty (a : Option Addr) (cap : Nat) (w : World) :
    Calls Tryz.prog 281 #[.slice a 0 cap] w fun e w' => e = .returned (.slice a 0 cap) ∧ w' = w := Any.slices_Compact_int_empty Tryz.laysNm220 a cap w
open Go.RowKit Go.Sort in
theorem Tryz.slices_Sort_string_none (p : Option Addr) (cap : Nat) (w : World) :
    Calls Tryz.prog 157 #[.slice p 0 cap] w fun e w' => e = .returned (.tuple #[]) ∧ w' = w := Any.slices_Sort_string_none Tryz.lays190 p cap w
open Go.RowKit Go.Sort in
theorem Tryz.slices_Sort_int_none (p : Option Addr) (cap : Nat) (w : World) :
    Calls Tryz.prog 280 #[.slice p 0 cap] w fun e w' => e = .returned (.tuple #[]) ∧ w' = w := Any.slices_Sort_int_none Tryz.lays189 p cap w
end Go.Proofs
set_option linter.unusedVariables false
set_option linter.unusedSimpArgs false
set_option maxHeartbeats 400000
set_option maxRecDepth 100000
namespace Go.Proofs.YtcndimkkojdflaaGreatDoor
open Go Go.X
@[irreducible] def letS (c : Int) : Bool := decide (97 ≤ c ∧ c ≤ 122 ∨ 65 ≤ c ∧ c ≤ 90 ∨ c = 95)
theorem letter_ok (c : Int) (w : World) : Fx Tryz.prog 355 [.int .u8 c] w (fun v w' => v = .bool (letS c) ∧ w = w') := by
  refine enter Tryz.func355 rfl rfl rfl _ (Pick.sub (l := [0]) (.cons rfl .nil)) ?_
  refine RK.seq ?_
  refine RK.region ?_
  refine RL.p rfl rfl ?_
  refine RL.done ?_
  refine RK.seq ?_
  refine RK.region ?_
  iterate 3 refine RL.p rfl rfl ?_
  first | refine RL.splitD (d := 5) rfl rfl (fun h5 => ?_) (fun h5 => ?_) | refine RL.splitN (d := 5) rfl rfl (fun h5 => ?_) (fun h5 => ?_) | refine RL.split (d := 5) rfl rfl (fun h5 => ?_) (fun h5 => ?_)
  · iterate 2 refine RL.q (.yes rfl rfl rfl) rfl rfl (Yld.pure rfl) ?_
    iterate 2 refine RL.p rfl rfl ?_
    first | refine RL.splitD (d := 9) rfl rfl (fun h9 => ?_) (fun h9 => ?_) | refine RL.splitN (d := 9) rfl rfl (fun h9 => ?_) (fun h9 => ?_) | refine RL.split (d := 9) rfl rfl (fun h9 => ?_) (fun h9 => ?_)
    · iterate 6 refine RL.no (.no rfl rfl rfl rfl) rfl rfl ?_
      iterate 2 refine RL.p rfl rfl ?_
      iterate 2 refine RL.no (.no rfl rfl rfl rfl) rfl rfl ?_
      iterate 2 refine RL.p rfl rfl ?_
      refine RL.done ?_
      refine RK.ret_of Tryz.func355 (res1 rfl rfl) ?_ _
      exact ⟨_, rfl, congrArg _ (by rw [Bool.eq_iff_iff]; simp [letS]; omega), rfl⟩
    · iterate 3 refine RL.q (.yes rfl rfl rfl) rfl rfl (Yld.pure rfl) ?_
      first | refine RL.splitD (d := 12) rfl rfl (fun h12 => ?_) (fun h12 => ?_) | refine RL.splitN (d := 12) rfl rfl (fun h12 => ?_) (fun h12 => ?_) | refine RL.split (d := 12) rfl rfl (fun h12 => ?_) (fun h12 => ?_)
      · iterate 3 refine RL.q (.yes rfl rfl rfl) rfl rfl (Yld.pure rfl) ?_
        iterate 2 refine RL.p rfl rfl ?_
        first | refine RL.splitD (d := 17) rfl rfl (fun h17 => ?_) (fun h17 => ?_) | refine RL.splitN (d := 17) rfl rfl (fun h17 => ?_) (fun h17 => ?_) | refine RL.split (d := 17) rfl rfl (fun h17 => ?_) (fun h17 => ?_)
        · iterate 2 refine RL.no (.no rfl rfl rfl rfl) rfl rfl ?_
          iterate 2 refine RL.p rfl rfl ?_
          refine RL.done ?_
          refine RK.ret_of Tryz.func355 (res1 rfl rfl) ?_ _
          exact ⟨_, rfl, congrArg _ (by rw [Bool.eq_iff_iff]; simp [letS]; omega), rfl⟩
        · iterate 2 refine RL.q (.yes rfl rfl rfl) rfl rfl (Yld.pure rfl) ?_
          iterate 2 refine RL.p rfl rfl ?_
          refine RL.done ?_
          refine RK.ret_of Tryz.func355 (res1 rfl rfl) ?_ _
          exact ⟨_, rfl, congrArg _ (by rw [Bool.eq_iff_iff]; simp [letS]; omega), rfl⟩
      · iterate 2 refine RL.no (.no rfl rfl rfl rfl) rfl rfl ?_
        refine RL.q (.yes rfl rfl rfl) rfl rfl (Yld.pure rfl) ?_
        iterate 2 refine RL.p rfl rfl ?_
        iterate 2 refine RL.q (.yes rfl rfl rfl) rfl rfl (Yld.pure rfl) ?_
        iterate 2 refine RL.p rfl rfl ?_
        refine RL.done ?_
        refine RK.ret_of Tryz.func355 (res1 rfl rfl) ?_ _
        exact ⟨_, rfl, congrArg _ (by rw [Bool.eq_iff_iff]; simp [letS]; omega), rfl⟩
  · iterate 2 refine RL.no (.no rfl rfl rfl rfl) rfl rfl ?_
    iterate 2 refine RL.p rfl rfl ?_
    iterate 3 refine RL.q (.yes rfl rfl rfl) rfl rfl (Yld.pure rfl) ?_
    first | refine RL.splitD (d := 12) rfl rfl (fun h12 => ?_) (fun h12 => ?_) | refine RL.splitN (d := 12) rfl rfl (fun h12 => ?_) (fun h12 => ?_) | refine RL.split (d := 12) rfl rfl (fun h12 => ?_) (fun h12 => ?_)
    · iterate 3 refine RL.q (.yes rfl rfl rfl) rfl rfl (Yld.pure rfl) ?_
      iterate 2 refine RL.p rfl rfl ?_
      first | refine RL.splitD (d := 17) rfl rfl (fun h17 => ?_) (fun h17 => ?_) | refine RL.splitN (d := 17) rfl rfl (fun h17 => ?_) (fun h17 => ?_) | refine RL.split (d := 17) rfl rfl (fun h17 => ?_) (fun h17 => ?_)
      · iterate 2 refine RL.no (.no rfl rfl rfl rfl) rfl rfl ?_
        iterate 2 refine RL.p rfl rfl ?_
        refine RL.done ?_
        refine RK.ret_of Tryz.func355 (res1 rfl rfl) ?_ _
        exact ⟨_, rfl, congrArg _ (by rw [Bool.eq_iff_iff]; simp [letS]; omega), rfl⟩
      · iterate 2 refine RL.q (.yes rfl rfl rfl) rfl rfl (Yld.pure rfl) ?_
        iterate 2 refine RL.p rfl rfl ?_
        refine RL.done ?_
        refine RK.ret_of Tryz.func355 (res1 rfl rfl) ?_ _
        exact ⟨_, rfl, congrArg _ (by rw [Bool.eq_iff_iff]; simp [letS]; omega), rfl⟩
    · iterate 2 refine RL.no (.no rfl rfl rfl rfl) rfl rfl ?_
      refine RL.q (.yes rfl rfl rfl) rfl rfl (Yld.pure rfl) ?_
      iterate 2 refine RL.p rfl rfl ?_
      iterate 2 refine RL.q (.yes rfl rfl rfl) rfl rfl (Yld.pure rfl) ?_
      iterate 2 refine RL.p rfl rfl ?_
      refine RL.done ?_
      refine RK.ret_of Tryz.func355 (res1 rfl rfl) ?_ _
      exact ⟨_, rfl, congrArg _ (by rw [Bool.eq_iff_iff]; simp [letS]; omega), rfl⟩
@[irreducible] def valS (s : ByteArray) : Bool := decide (1 ≤ s.size ∧ s.size ≤ 24)
theorem value_ok (s : ByteArray) (w : World) : Fx Tryz.prog 302 [.string s] w (fun v w' => v = .bool (valS s) ∧ w = w') := by
  refine enter Tryz.func302 rfl rfl rfl _ (Pick.sub (l := [0]) (.cons rfl .nil)) ?_
  refine RK.seq ?_
  refine RK.region ?_
  refine RL.p rfl rfl ?_
  refine RL.done ?_
  refine RK.seq ?_
  refine RK.region ?_
  refine RL.p rfl rfl ?_
  refine RL.q (.free rfl) rfl rfl (Yld.lenStr u9 rfl) ?_
  iterate 2 refine RL.p rfl rfl ?_
  first | refine RL.splitD (d := 6) rfl rfl (fun h6 => ?_) (fun h6 => ?_) | refine RL.splitN (d := 6) rfl rfl (fun h6 => ?_) (fun h6 => ?_) | refine RL.split (d := 6) rfl rfl (fun h6 => ?_) (fun h6 => ?_)
  · refine RL.q (.yes rfl rfl rfl) rfl rfl (Yld.pure rfl) ?_
    refine RL.q (.yes rfl rfl rfl) rfl rfl (Yld.lenStr u9 rfl) ?_
    refine RL.q (.yes rfl rfl rfl) rfl rfl (Yld.pure rfl) ?_
    iterate 2 refine RL.p rfl rfl ?_
    refine RL.done ?_
    refine RK.ret_of Tryz.func302 (res1 rfl rfl) ?_ _
    exact ⟨_, rfl, congrArg _ (by rw [Bool.eq_iff_iff]; simp [valS]; omega), rfl⟩
  · iterate 3 refine RL.no (.no rfl rfl rfl rfl) rfl rfl ?_
    iterate 2 refine RL.p rfl rfl ?_
    refine RL.done ?_
    refine RK.ret_of Tryz.func302 (res1 rfl rfl) ?_ _
    exact ⟨_, rfl, congrArg _ (by rw [Bool.eq_iff_iff]; simp [valS]; omega), rfl⟩
@[irreducible] def chS (c : Int) : Bool := letS c || decide (48 ≤ c ∧ c ≤ 57)
@[irreducible] def nameS (s : ByteArray) : Bool := decide (1 ≤ s.size ∧ s.size ≤ 12) && letS (bt s 0).toNat && (List.range s.size).all fun i => chS (bt s i).toNat
theorem name_no1 {s : ByteArray} (h : ¬ (1 ≤ s.size ∧ s.size ≤ 12)) : nameS s = false := by simp [nameS, h]
theorem name_no2 {s : ByteArray} (h : letS (bt s 0).toNat = false) : nameS s = false := by simp [nameS, h]
theorem name_no3 {s : ByteArray} {i : Nat} (hi : i < s.size) (h : chS (bt s i).toNat = false) : nameS s = false := by
  simp only [nameS, Bool.and_eq_false_iff]
  refine .inr ?_
  rw [List.all_eq_false]
  exact ⟨i, List.mem_range.2 hi, by simp [h]⟩
theorem name_yes {s : ByteArray} (h1 : 1 ≤ s.size) (h2 : s.size ≤ 12) (h3 : letS (bt s 0).toNat = true) (h : ∀ i, i < s.size → chS (bt s i).toNat = true) : nameS s = true := by
  simp only [nameS, Bool.and_eq_true, decide_eq_true_eq, List.all_eq_true, List.mem_range]
  exact ⟨⟨⟨h1, h2⟩, h3⟩, h⟩
theorem name_ok (s : ByteArray) (w : World) : Fx Tryz.prog 301 [.string s] w (fun v w' => v = .bool (nameS s) ∧ w = w') := by
  refine enter Tryz.func301 rfl rfl rfl _ (Pick.sub (l := [0]) (.cons rfl .nil)) ?_
  refine RK.seq ?_
  refine RK.region ?_
  refine RL.p rfl rfl ?_
  refine RL.done ?_
  iterate 2 refine RK.seq ?_
  refine RK.region ?_
  refine RL.p rfl rfl ?_
  refine RL.q (.free rfl) rfl rfl (Yld.lenStr u9 rfl) ?_
  iterate 2 refine RL.p rfl rfl ?_
  first | refine RL.splitD (d := 7) rfl rfl (fun h7 => ?_) (fun h7 => ?_) | refine RL.splitN (d := 7) rfl rfl (fun h7 => ?_) (fun h7 => ?_) | refine RL.split (d := 7) rfl rfl (fun h7 => ?_) (fun h7 => ?_)
  · iterate 3 refine RL.no (.no rfl rfl rfl rfl) rfl rfl ?_
    iterate 2 refine RL.p rfl rfl ?_
    iterate 4 refine RL.no (.no rfl rfl rfl rfl) rfl rfl ?_
    refine RL.p rfl rfl ?_
    refine RL.done ?_
    refine RK.condT rfl ?_
    refine RK.seq ?_
    refine RK.region ?_
    refine RL.p rfl rfl ?_
    refine RL.done ?_
    refine RK.ret_of Tryz.func301 (res1 rfl rfl) ?_ _
    exact ⟨_, rfl, congrArg _ (by first
        | exact (name_no1 (by omega)).symm
        | exact (name_no3 (i := k) (by omega) (by simp at h28; simp [chS, h28]; omega)).symm
        | exact (name_yes (by omega) (by omega) (by simpa using h17) fun i hi => hall i (by omega)).symm
        | exact (name_no2 (by simpa using h17)).symm), rfl⟩
  · refine RL.q (.yes rfl rfl rfl) rfl rfl (Yld.pure rfl) ?_
    refine RL.q (.yes rfl rfl rfl) rfl rfl (Yld.lenStr u9 rfl) ?_
    refine RL.q (.yes rfl rfl rfl) rfl rfl (Yld.pure rfl) ?_
    iterate 2 refine RL.p rfl rfl ?_
    first | refine RL.splitD (d := 12) rfl rfl (fun h12 => ?_) (fun h12 => ?_) | refine RL.splitN (d := 12) rfl rfl (fun h12 => ?_) (fun h12 => ?_) | refine RL.split (d := 12) rfl rfl (fun h12 => ?_) (fun h12 => ?_)
    · iterate 4 refine RL.no (.no rfl rfl rfl rfl) rfl rfl ?_
      refine RL.p rfl rfl ?_
      refine RL.done ?_
      refine RK.condT rfl ?_
      refine RK.seq ?_
      refine RK.region ?_
      refine RL.p rfl rfl ?_
      refine RL.done ?_
      refine RK.ret_of Tryz.func301 (res1 rfl rfl) ?_ _
      exact ⟨_, rfl, congrArg _ (by first
          | exact (name_no1 (by omega)).symm
          | exact (name_no3 (i := k) (by omega) (by simp at h28; simp [chS, h28]; omega)).symm
          | exact (name_yes (by omega) (by omega) (by simpa using h17) fun i hi => hall i (by omega)).symm
          | exact (name_no2 (by simpa using h17)).symm), rfl⟩
    · refine RL.q (.yes rfl rfl rfl) rfl rfl (Yld.pure rfl) ?_
      refine RL.q (.yes rfl rfl rfl) rfl rfl (Yld.idxStr u9 rfl rfl (by omega) (by omega)) ?_
      refine RL.op (.yes rfl rfl rfl) rfl rfl (Does.call rfl e355 (letter_ok _ _)) ?_
      rintro _ _ ⟨rfl, rfl⟩
      refine RL.q (.yes rfl rfl rfl) rfl rfl (Yld.pure rfl) ?_
      refine RL.p rfl rfl ?_
      refine RL.done ?_
      first | refine RK.condD rfl (fun h17 => ?_) (fun h17 => ?_) | refine RK.condN rfl (fun h17 => ?_) (fun h17 => ?_) | refine RK.cond rfl (fun h17 => ?_) (fun h17 => ?_)
      · refine RK.seq ?_
        refine RK.region ?_
        refine RL.p rfl rfl ?_
        refine RL.done ?_
        refine RK.ret_of Tryz.func301 (res1 rfl rfl) ?_ _
        exact ⟨_, rfl, congrArg _ (by first
            | exact (name_no1 (by omega)).symm
            | exact (name_no3 (i := k) (by omega) (by simp at h28; simp [chS, h28]; omega)).symm
            | exact (name_yes (by omega) (by omega) (by simpa using h17) fun i hi => hall i (by omega)).symm
            | exact (name_no2 (by simpa using h17)).symm), rfl⟩
      · refine RK.skip ?_
        iterate 2 refine RK.seq ?_
        refine RK.region ?_
        refine RL.p rfl rfl ?_
        refine RL.q (.free rfl) rfl rfl (Yld.lenStr u9 rfl) ?_
        refine RL.p rfl rfl ?_
        refine RL.done ?_
        refine RK.block ?_
        refine RK.loop (fun k : Nat => [(0, .string s), (19, .int .i64 s.size), (20, .int .i64 k)]) (fun k w' => w = w' ∧ k ≤ s.size ∧ ∀ i, i < k → chS (bt s i).toNat = true) (fun k => s.size - k) 0 ⟨rfl, rfl, rfl, trivial⟩ ⟨rfl, by omega, fun i hi => by omega⟩ (fun k w' hI ih => ?_)
        obtain ⟨rfl, hk, hall⟩ := hI
        refine RK.seq ?_
        refine RK.region ?_
        refine RL.p rfl rfl ?_
        refine RL.done ?_
        refine RK.seq ?_
        first | refine RK.condD rfl (fun h21 => ?_) (fun h21 => ?_) | refine RK.condN rfl (fun h21 => ?_) (fun h21 => ?_) | refine RK.cond rfl (fun h21 => ?_) (fun h21 => ?_)
        · refine RK.skip ?_
          refine RK.seq ?_
          refine RK.block ?_
          refine RK.seq ?_
          refine RK.region ?_
          iterate 2 refine RL.p rfl rfl ?_
          refine RL.done ?_
          refine RK.seq ?_
          refine RK.region ?_
          iterate 2 refine RL.p rfl rfl ?_
          refine RL.q (.free rfl) rfl rfl (Yld.idxStrN u9 rfl rfl (by omega)) ?_
          refine RL.op (.free rfl) rfl rfl (Does.call rfl e355 (letter_ok _ _)) ?_
          rintro _ _ ⟨rfl, rfl⟩
          iterate 2 refine RL.p rfl rfl ?_
          first | refine RL.splitD (d := 28) rfl rfl (fun h28 => ?_) (fun h28 => ?_) | refine RL.splitN (d := 28) rfl rfl (fun h28 => ?_) (fun h28 => ?_) | refine RL.split (d := 28) rfl rfl (fun h28 => ?_) (fun h28 => ?_)
          · iterate 2 refine RL.q (.yes rfl rfl rfl) rfl rfl (Yld.pure rfl) ?_
            refine RL.q (.yes rfl rfl rfl) rfl rfl (Yld.idxStrN u9 rfl rfl (by omega)) ?_
            iterate 2 refine RL.q (.yes rfl rfl rfl) rfl rfl (Yld.pure rfl) ?_
            first | refine RL.splitD (d := 33) rfl rfl (fun h33 => ?_) (fun h33 => ?_) | refine RL.splitN (d := 33) rfl rfl (fun h33 => ?_) (fun h33 => ?_) | refine RL.split (d := 33) rfl rfl (fun h33 => ?_) (fun h33 => ?_)
            · iterate 4 refine RL.no (.no rfl rfl rfl rfl) rfl rfl ?_
              refine RL.q (.yes rfl rfl rfl) rfl rfl (Yld.pure rfl) ?_
              refine RL.p rfl rfl ?_
              refine RL.done ?_
              refine RK.condT rfl ?_
              refine RK.seq ?_
              refine RK.region ?_
              refine RL.p rfl rfl ?_
              refine RL.done ?_
              refine RK.ret_of Tryz.func301 (res1 rfl rfl) ?_ _
              exact ⟨_, rfl, congrArg _ (by first
                  | exact (name_no1 (by omega)).symm
                  | exact (name_no3 (i := k) (by omega) (by simp at h28; simp [chS, h28]; omega)).symm
                  | exact (name_yes (by omega) (by omega) (by simpa using h17) fun i hi => hall i (by omega)).symm
                  | exact (name_no2 (by simpa using h17)).symm), rfl⟩
            · iterate 2 refine RL.q (.yes rfl rfl rfl) rfl rfl (Yld.pure rfl) ?_
              refine RL.q (.yes rfl rfl rfl) rfl rfl (Yld.idxStrN u9 rfl rfl (by omega)) ?_
              iterate 2 refine RL.q (.yes rfl rfl rfl) rfl rfl (Yld.pure rfl) ?_
              refine RL.p rfl rfl ?_
              refine RL.done ?_
              first | refine RK.condD rfl (fun h39 => ?_) (fun h39 => ?_) | refine RK.condN rfl (fun h39 => ?_) (fun h39 => ?_) | refine RK.cond rfl (fun h39 => ?_) (fun h39 => ?_)
              · refine RK.seq ?_
                refine RK.region ?_
                refine RL.p rfl rfl ?_
                refine RL.done ?_
                refine RK.ret_of Tryz.func301 (res1 rfl rfl) ?_ _
                exact ⟨_, rfl, congrArg _ (by first
                    | exact (name_no1 (by omega)).symm
                    | exact (name_no3 (i := k) (by omega) (by simp at h28; simp [chS, h28]; omega)).symm
                    | exact (name_yes (by omega) (by omega) (by simpa using h17) fun i hi => hall i (by omega)).symm
                    | exact (name_no2 (by simpa using h17)).symm), rfl⟩
              · refine RK.skip ?_
                refine RK.inBlock ?_
                refine RK.region ?_
                iterate 2 refine RL.p rfl rfl ?_
                refine RL.re (d := 20) rfl rfl (succ_i64 (by omega)) ?_
                refine RL.done ?_
                exact RK.back (ih (k + 1) _ ⟨rfl, by omega, fun i hi => by by_cases e : i = k; (subst e; simp at h28; simp [chS, h28]; try omega); exact hall i (by omega)⟩ (by omega)) ⟨rfl, rfl, rfl, trivial⟩
          · iterate 10 refine RL.no (.no rfl rfl rfl rfl) rfl rfl ?_
            refine RL.p rfl rfl ?_
            refine RL.done ?_
            refine RK.condF rfl ?_
            refine RK.skip ?_
            refine RK.inBlock ?_
            refine RK.region ?_
            iterate 2 refine RL.p rfl rfl ?_
            refine RL.re (d := 20) rfl rfl (succ_i64 (by omega)) ?_
            refine RL.done ?_
            exact RK.back (ih (k + 1) _ ⟨rfl, by omega, fun i hi => by by_cases e : i = k; (subst e; simp at h28; simp [chS, h28]; try omega); exact hall i (by omega)⟩ (by omega)) ⟨rfl, rfl, rfl, trivial⟩
        · refine RK.exit rfl ?_
          refine RK.seq ?_
          refine RK.region ?_
          refine RL.p rfl rfl ?_
          refine RL.done ?_
          refine RK.ret_of Tryz.func301 (res1 rfl rfl) ?_ _
          exact ⟨_, rfl, congrArg _ (by first
              | exact (name_no1 (by omega)).symm
              | exact (name_no3 (i := k) (by omega) (by simp at h28; simp [chS, h28]; omega)).symm
              | exact (name_yes (by omega) (by omega) (by simpa using h17) fun i hi => hall i (by omega)).symm
              | exact (name_no2 (by simpa using h17)).symm), rfl⟩
@[irreducible] def nanS (b : Nat) : Bool := Ieee.double.order b b != some .eq
theorem no_ok (b : Nat) (w : World) : Fx Tryz.prog 284 [.float .f64 b] w (fun v w' => v = .bool (nanS b) ∧ w = w') := by
  refine enter Tryz.func284 rfl rfl rfl _ (Pick.sub (l := [0]) (.cons rfl .nil)) ?_
  refine RK.seq ?_
  refine RK.region ?_
  refine RL.p rfl rfl ?_
  refine RL.done ?_
  refine RK.seq ?_
  refine RK.region ?_
  iterate 4 refine RL.p rfl rfl ?_
  refine RL.done ?_
  refine RK.ret_of Tryz.func284 (res1 rfl rfl) ?_ _
  exact ⟨_, rfl, by unfold nanS; rfl, rfl⟩
def bitsS (b : Nat) : Int := if nanS b then 9221120237041090561 else b
theorem bits_ok (b : Nat) (w : World) : Fx Tryz.prog 220 [.float .f64 b] w (fun v w' => v = .int .u64 (bitsS b) ∧ w = w') := by
  refine enter Tryz.func220 rfl rfl rfl _ (Pick.sub (l := [0]) (.cons rfl .nil)) ?_
  refine RK.seq ?_
  refine RK.region ?_
  refine RL.p rfl rfl ?_
  refine RL.done ?_
  iterate 2 refine RK.seq ?_
  refine RK.region ?_
  refine RL.p rfl rfl ?_
  refine RL.op (.free rfl) rfl rfl (Does.call rfl e284 (no_ok b _)) ?_
  rintro _ _ ⟨rfl, rfl⟩
  refine RL.done ?_
  first | refine RK.condD rfl (fun h4 => ?_) (fun h4 => ?_) | refine RK.condN rfl (fun h4 => ?_) (fun h4 => ?_) | refine RK.cond rfl (fun h4 => ?_) (fun h4 => ?_)
  · refine RK.seq ?_
    refine RK.region ?_
    refine RL.p rfl rfl ?_
    refine RL.done ?_
    refine RK.ret_of Tryz.func220 (res1 rfl rfl) ?_ _
    exact ⟨_, rfl, by simp_all [bitsS], rfl⟩
  · refine RK.skip ?_
    refine RK.seq ?_
    refine RK.region ?_
    refine RL.p rfl rfl ?_
    refine RL.q (.free rfl) rfl rfl (Yld.callx rfl (fun w => x285 _ w)) ?_
    refine RL.p rfl rfl ?_
    refine RL.done ?_
    refine RK.ret_of Tryz.func220 (res1 rfl rfl) ?_ _
    exact ⟨_, rfl, by simp_all [bitsS], rfl⟩
end Go.Proofs.YtcndimkkojdflaaGreatDoor
set_option linter.unusedVariables false
set_option linter.unusedSimpArgs false
set_option maxHeartbeats 400000
set_option maxRecDepth 100000
namespace Go.Proofs.YtcndimkkojdflaaGreatDoor
open Go Go.X
structure Lab where
  name : ByteArray
  value : ByteArray
  deriving DecidableEq, Inhabited
def labC (l : Lab) : List Value := [.string l.name, .string l.value]
theorem labC_len (l : Lab) : (labC l).length = 2 := rfl
abbrev SlL (M : Nat → Prop) (w : World) (v : Value) (ls : List Lab) : Prop := Sl M w v 2 ls.length (ls.flatMap labC)
@[irreducible] def okAt (ls : List Lab) (i : Nat) : Bool := match ls[i]? with
  | none => true
  | some x => nameS x.name && valS x.value && match i with
    | 0 => true
    | j + 1 => match ls[j]? with
      | none => true
      | some y => slt y.name x.name
@[irreducible] def isS (ls : List Lab) : Bool := decide (1 ≤ ls.length ∧ ls.length ≤ 6) && (List.range ls.length).all (okAt ls)
theorem is_no1 {ls : List Lab} (h : ¬ (1 ≤ ls.length ∧ ls.length ≤ 6)) : isS ls = false := by simp [isS, h]
theorem is_no2 {ls : List Lab} {i : Nat} (hi : i < ls.length) (h : okAt ls i = false) : isS ls = false := by
  simp only [isS, Bool.and_eq_false_iff]
  exact .inr (List.all_eq_false.2 ⟨i, List.mem_range.2 hi, by simp [h]⟩)
theorem is_yes {ls : List Lab} (h1 : 1 ≤ ls.length) (h2 : ls.length ≤ 6) (h : ∀ i, i < ls.length → okAt ls i = true) : isS ls = true := by
  simp only [isS, Bool.and_eq_true, decide_eq_true_eq, List.all_eq_true, List.mem_range]
  exact ⟨⟨h1, h2⟩, h⟩
theorem okAt_no1 {ls : List Lab} {k : Nat} {x : Lab} (hx : ls[k]? = some x) (h : (!nameS x.name) = true) : okAt ls k = false := by simp at h; simp [okAt, hx, h]
theorem okAt_no2 {ls : List Lab} {k : Nat} {x : Lab} (hx : ls[k]? = some x) (h : (!valS x.value) = true) : okAt ls k = false := by simp at h; simp [okAt, hx, h]
theorem okAt_no3 {ls : List Lab} {k j : Nat} {x y : Lab} (hx : ls[k]? = some x) (hj : k = j + 1) (hy : ls[j]? = some y) (h : sle x.name y.name = true) : okAt ls k = false := by
  subst hj
  rw [sle_not] at h
  simp at h
  simp [okAt, hx, hy, h]
theorem okAt_yes0 {ls : List Lab} {k : Nat} {x : Lab} (hx : ls[k]? = some x) (h1 : (!nameS x.name) = false) (h2 : (!valS x.value) = false) (hk : k = 0) : okAt ls k = true := by
  subst hk; simp at h1 h2; simp [okAt, hx, h1, h2]
theorem okAt_yes1 {ls : List Lab} {k j : Nat} {x y : Lab} (hx : ls[k]? = some x) (h1 : (!nameS x.name) = false) (h2 : (!valS x.value) = false) (hj : k = j + 1) (hy : ls[j]? = some y) (h : sle x.name y.name = false) : okAt ls k = true := by
  subst hj
  rw [sle_not] at h
  simp at h h1 h2
  simp [okAt, hx, hy, h, h1, h2]
theorem ok_snoc {ls : List Lab} {k : Nat} (h : ∀ i, i < k → okAt ls i = true) (hk : okAt ls k = true) : ∀ i, i < k + 1 → okAt ls i = true := fun i hi => by
  by_cases e : i = k
  · rw [e]; exact hk
  · exact h i (by omega)
theorem is_ok (M : Nat → Prop) (ls : List Lab) (v : Value) (w : World) (hv : SlL M w v ls) : Fx Tryz.prog 232 [v] w (fun u w' => u = .bool (isS ls) ∧ Grow w w') := by
  obtain ⟨ad, c, rfl⟩ := hv.shape
  refine enter Tryz.func232 rfl rfl rfl _ (Pick.sub (l := [0]) (.cons rfl .nil)) ?_
  refine RK.seq ?_
  refine RK.region ?_
  refine RL.p rfl rfl ?_
  refine RL.done ?_
  iterate 2 refine RK.seq ?_
  refine RK.region ?_
  refine RL.p rfl rfl ?_
  refine RL.q (.free rfl) rfl rfl (Yld.lenSl u122 rfl) ?_
  iterate 2 refine RL.p rfl rfl ?_
  first | refine RL.splitD (d := 8) rfl rfl (fun h8 => ?_) (fun h8 => ?_) | refine RL.splitN (d := 8) rfl rfl (fun h8 => ?_) (fun h8 => ?_) | refine RL.split (d := 8) rfl rfl (fun h8 => ?_) (fun h8 => ?_)
  · iterate 3 refine RL.no (.no rfl rfl rfl rfl) rfl rfl ?_
    refine RL.p rfl rfl ?_
    refine RL.done ?_
    refine RK.condT rfl ?_
    refine RK.seq ?_
    refine RK.region ?_
    refine RL.p rfl rfl ?_
    refine RL.done ?_
    refine RK.ret_of Tryz.func232 (res1 rfl rfl) ?_ _
    exact ⟨_, rfl, congrArg _ (by first
        | exact (is_no1 (by omega)).symm
        | exact (is_no2 (i := k) (by omega) (okAt_no1 hx h24)).symm
        | exact (is_no2 (i := k) (by omega) (okAt_no2 hx h30)).symm
        | exact (is_no2 (i := k) (by omega) (okAt_no3 hx hj hy h44)).symm
        | exact (is_yes (by omega) (by omega) fun i hi => hall i (by omega)).symm), by first
        | exact Mod.refl _ _
        | exact hg2.trans (Mod.drew _ _)
        | exact hg⟩
  · refine RL.q (.yes rfl rfl rfl) rfl rfl (Yld.pure rfl) ?_
    refine RL.q (.yes rfl rfl rfl) rfl rfl (Yld.lenSl u122 rfl) ?_
    refine RL.q (.yes rfl rfl rfl) rfl rfl (Yld.pure rfl) ?_
    refine RL.p rfl rfl ?_
    refine RL.done ?_
    first | refine RK.condD rfl (fun h12 => ?_) (fun h12 => ?_) | refine RK.condN rfl (fun h12 => ?_) (fun h12 => ?_) | refine RK.cond rfl (fun h12 => ?_) (fun h12 => ?_)
    · refine RK.seq ?_
      refine RK.region ?_
      refine RL.p rfl rfl ?_
      refine RL.done ?_
      refine RK.ret_of Tryz.func232 (res1 rfl rfl) ?_ _
      exact ⟨_, rfl, congrArg _ (by first
          | exact (is_no1 (by omega)).symm
          | exact (is_no2 (i := k) (by omega) (okAt_no1 hx h24)).symm
          | exact (is_no2 (i := k) (by omega) (okAt_no2 hx h30)).symm
          | exact (is_no2 (i := k) (by omega) (okAt_no3 hx hj hy h44)).symm
          | exact (is_yes (by omega) (by omega) fun i hi => hall i (by omega)).symm), by first
          | exact Mod.refl _ _
          | exact hg2.trans (Mod.drew _ _)
          | exact hg⟩
    · refine RK.skip ?_
      iterate 2 refine RK.seq ?_
      refine RK.region ?_
      refine RL.p rfl rfl ?_
      refine RL.q (.free rfl) rfl rfl (Yld.lenSl u122 rfl) ?_
      refine RL.p rfl rfl ?_
      refine RL.done ?_
      refine RK.block ?_
      refine RK.loop (fun k : Nat => [(0, .slice ad ls.length c), (13, .slice ad ls.length c), (14, .int .i64 ls.length), (15, .int .i64 k)]) (fun k w' => Grow w w' ∧ k ≤ ls.length ∧ ∀ i, i < k → okAt ls i = true) (fun k => ls.length - k) 0 ⟨rfl, rfl, rfl, rfl, trivial⟩ ⟨Mod.refl _ _, by omega, fun i hi => by omega⟩ (fun k w' hI ih => ?_)
      obtain ⟨hg, hk, hall⟩ := hI
      refine RK.seq ?_
      refine RK.region ?_
      refine RL.p rfl rfl ?_
      refine RL.done ?_
      refine RK.seq ?_
      first | refine RK.condD rfl (fun h16 => ?_) (fun h16 => ?_) | refine RK.condN rfl (fun h16 => ?_) (fun h16 => ?_) | refine RK.cond rfl (fun h16 => ?_) (fun h16 => ?_)
      · obtain ⟨x, hx⟩ : ∃ x, ls[k]? = some x := ⟨ls[k]'(by omega), List.getElem?_eq_getElem (by omega)⟩
        obtain ⟨b, o, c', he, hb, hkl, hcell⟩ := hv.elem labC_len hx
        cases he
        refine RK.skip ?_
        refine RK.seq ?_
        refine RK.block ?_
        refine RK.seq ?_
        refine RK.region ?_
        refine RL.p rfl rfl ?_
        refine RL.q (.free rfl) rfl rfl (Yld.indexAddrN u122 i333 rfl rfl (by omega)) ?_
        refine RL.q (.free rfl) rfl rfl (Yld.loadN (cs := [.string x.name, .string x.value]) a333 rfl (atN (fun j u hj => hg.cell (hcell j u hj) (fun h => h)))) ?_
        refine RL.op (.free rfl) rfl rfl (Does.alloc i333) ?_
        rintro _ w1 ⟨b1, rfl, hn1⟩
        refine RL.p rfl rfl ?_
        refine RL.op' (.free rfl) rfl (Does.storeN i333 rfl rfl rfl rfl hn1.blk (Nat.le_refl 2)) ?_
        rintro _ w2 ⟨hb2, hm2, _⟩
        have hB : Blk w2 b1 333 [.string x.name, .string x.value] := hb2
        have hg2 : Grow w w2 := (hg.trans hn1.grow).then hm2 (fun y hy e => by have := hn1.at_; have := hg.size; omega)
        refine RL.done ?_
        refine RK.seq ?_
        refine RK.drawM No [(0, false), (1, false), (2, true), (3, false), (4, false), (5, false), (6, false), (7, true), (8, false), (9, false), (10, false), (11, false), (12, false), (13, false), (14, false), (15, false), (16, false), (17, false), (18, false), (19, false), (20, false), (21, false), (22, false), (23, false), (24, false)] [] mixed (by kernel_rfl) ?_
        refine DL.qf rfl (.free rfl) rfl rfl (Yld.fieldAddr fo333_0 rfl) ?_
        refine DL.q rfl (.free rfl) rfl rfl rfl (Yld.load p9 rfl (atM (hB.cell rfl) id)) (Mod.drew _ _) ?_
        refine DL.op rfl (.free rfl) rfl rfl (Does.call rfl e301 (name_ok _ _)) ?_
        rintro _ _ ⟨rfl, rfl⟩
        refine ⟨Mod.drew _ _, ?_⟩
        iterate 2 refine DL.p rfl rfl rfl ?_
        first | refine DL.splitD (d := 24) rfl rfl (fun h24 => ?_) (fun h24 => ?_) | refine DL.splitN (d := 24) rfl rfl (fun h24 => ?_) (fun h24 => ?_) | refine DL.split (d := 24) rfl rfl (fun h24 => ?_) (fun h24 => ?_)
        · iterate 2 refine DL.no rfl (.no rfl rfl rfl rfl) rfl rfl ?_
          refine DL.lno rfl (.no rfl rfl rfl rfl) rfl rfl ?_
          refine DL.no rfl (.no rfl rfl rfl rfl) rfl rfl ?_
          iterate 2 refine DL.p rfl rfl rfl ?_
          iterate 13 refine DL.no rfl (.no rfl rfl rfl rfl) rfl rfl ?_
          refine DL.p rfl rfl rfl ?_
          refine DL.done ?_
          refine RK.condT rfl ?_
          refine RK.seq ?_
          refine RK.region ?_
          refine RL.p rfl rfl ?_
          refine RL.done ?_
          refine RK.ret_of Tryz.func232 (res1 rfl rfl) ?_ _
          exact ⟨_, rfl, congrArg _ (by first
              | exact (is_no1 (by omega)).symm
              | exact (is_no2 (i := k) (by omega) (okAt_no1 hx h24)).symm
              | exact (is_no2 (i := k) (by omega) (okAt_no2 hx h30)).symm
              | exact (is_no2 (i := k) (by omega) (okAt_no3 hx hj hy h44)).symm
              | exact (is_yes (by omega) (by omega) fun i hi => hall i (by omega)).symm), by first
              | exact Mod.refl _ _
              | exact hg2.trans (Mod.drew _ _)
              | exact hg⟩
        · refine DL.qf rfl (.yes rfl rfl rfl) rfl rfl (Yld.fieldAddr fo333_1 rfl) ?_
          refine DL.q rfl (.yes rfl rfl rfl) rfl rfl rfl (Yld.load p9 rfl (atM (hB.cell rfl) id)) (Mod.drew _ _) ?_
          refine DL.op rfl (.yes rfl rfl rfl) rfl rfl (Does.call rfl e302 (value_ok _ _)) ?_
          rintro _ _ ⟨rfl, rfl⟩
          refine ⟨Mod.drew _ _, ?_⟩
          refine DL.qf rfl (.yes rfl rfl rfl) rfl rfl (Yld.pure rfl) ?_
          iterate 2 refine DL.p rfl rfl rfl ?_
          first | refine DL.splitD (d := 30) rfl rfl (fun h30 => ?_) (fun h30 => ?_) | refine DL.splitN (d := 30) rfl rfl (fun h30 => ?_) (fun h30 => ?_) | refine DL.split (d := 30) rfl rfl (fun h30 => ?_) (fun h30 => ?_)
          · iterate 13 refine DL.no rfl (.no rfl rfl rfl rfl) rfl rfl ?_
            refine DL.p rfl rfl rfl ?_
            refine DL.done ?_
            refine RK.condT rfl ?_
            refine RK.seq ?_
            refine RK.region ?_
            refine RL.p rfl rfl ?_
            refine RL.done ?_
            refine RK.ret_of Tryz.func232 (res1 rfl rfl) ?_ _
            exact ⟨_, rfl, congrArg _ (by first
                | exact (is_no1 (by omega)).symm
                | exact (is_no2 (i := k) (by omega) (okAt_no1 hx h24)).symm
                | exact (is_no2 (i := k) (by omega) (okAt_no2 hx h30)).symm
                | exact (is_no2 (i := k) (by omega) (okAt_no3 hx hj hy h44)).symm
                | exact (is_yes (by omega) (by omega) fun i hi => hall i (by omega)).symm), by first
                | exact Mod.refl _ _
                | exact hg2.trans (Mod.drew _ _)
                | exact hg⟩
          · iterate 3 refine DL.qf rfl (.yes rfl rfl rfl) rfl rfl (Yld.pure rfl) ?_
            first | refine DL.splitD (d := 33) rfl rfl (fun h33 => ?_) (fun h33 => ?_) | refine DL.splitN (d := 33) rfl rfl (fun h33 => ?_) (fun h33 => ?_) | refine DL.split (d := 33) rfl rfl (fun h33 => ?_) (fun h33 => ?_)
            · obtain ⟨j, hj⟩ : ∃ j, k = j + 1 := ⟨k - 1, by omega⟩
              obtain ⟨y, hy⟩ : ∃ y, ls[j]? = some y := ⟨ls[j]'(by omega), List.getElem?_eq_getElem (by omega)⟩
              obtain ⟨b', o', c', he, hb', hkl', hcell'⟩ := hv.elem labC_len hy
              cases he
              refine DL.qf rfl (.yes rfl rfl rfl) rfl rfl (Yld.fieldAddr fo333_0 rfl) ?_
              refine DL.q rfl (.yes rfl rfl rfl) rfl rfl rfl (Yld.load p9 rfl (atM (hB.cell rfl) id)) (Mod.drew _ _) ?_
              iterate 3 refine DL.qf rfl (.yes rfl rfl rfl) rfl rfl (Yld.pure rfl) ?_
              refine DL.re (d := 38) rfl rfl (sub_i64 (z := (j : Int)) (by omega) (by omega) (by omega)) ?_
              refine DL.qf rfl (.yes rfl rfl rfl) rfl rfl (Yld.indexAddrN u122 i333 rfl rfl (by omega)) ?_
              refine DL.qf rfl (.yes rfl rfl rfl) rfl rfl (Yld.fieldAddr fo333_0 rfl) ?_
              refine DL.q rfl (.yes rfl rfl rfl) rfl rfl rfl (Yld.load p9 rfl (atM (hg2.cell (hcell' 0 _ rfl) (fun h => h)) id)) (Mod.drew _ _) ?_
              iterate 2 refine DL.qf rfl (.yes rfl rfl rfl) rfl rfl (Yld.pure rfl) ?_
              refine DL.p rfl rfl rfl ?_
              refine DL.done ?_
              first | refine RK.condD rfl (fun h44 => ?_) (fun h44 => ?_) | refine RK.condN rfl (fun h44 => ?_) (fun h44 => ?_) | refine RK.cond rfl (fun h44 => ?_) (fun h44 => ?_)
              · refine RK.seq ?_
                refine RK.region ?_
                refine RL.p rfl rfl ?_
                refine RL.done ?_
                refine RK.ret_of Tryz.func232 (res1 rfl rfl) ?_ _
                exact ⟨_, rfl, congrArg _ (by first
                    | exact (is_no1 (by omega)).symm
                    | exact (is_no2 (i := k) (by omega) (okAt_no1 hx h24)).symm
                    | exact (is_no2 (i := k) (by omega) (okAt_no2 hx h30)).symm
                    | exact (is_no2 (i := k) (by omega) (okAt_no3 hx hj hy h44)).symm
                    | exact (is_yes (by omega) (by omega) fun i hi => hall i (by omega)).symm), by first
                    | exact Mod.refl _ _
                    | exact hg2.trans (Mod.drew _ _)
                    | exact hg⟩
              · refine RK.skip ?_
                refine RK.inBlock ?_
                refine RK.region ?_
                refine RL.p rfl rfl ?_
                refine RL.re (d := 45) rfl rfl (succ_i64 (by omega)) ?_
                refine RL.p rfl rfl ?_
                refine RL.done ?_
                exact RK.back (ih (k + 1) _ ⟨hg2.trans (Mod.drew _ _), by omega, ok_snoc hall (by first | exact okAt_yes1 hx h24 h30 hj hy h44 | exact okAt_yes0 hx h24 h30 (by omega))⟩ (by omega)) ⟨rfl, rfl, rfl, rfl, trivial⟩
            · iterate 9 refine DL.no rfl (.no rfl rfl rfl rfl) rfl rfl ?_
              refine DL.qf rfl (.yes rfl rfl rfl) rfl rfl (Yld.pure rfl) ?_
              refine DL.p rfl rfl rfl ?_
              refine DL.done ?_
              refine RK.condF rfl ?_
              refine RK.skip ?_
              refine RK.inBlock ?_
              refine RK.region ?_
              refine RL.p rfl rfl ?_
              refine RL.re (d := 45) rfl rfl (succ_i64 (by omega)) ?_
              refine RL.p rfl rfl ?_
              refine RL.done ?_
              exact RK.back (ih (k + 1) _ ⟨hg2.trans (Mod.drew _ _), by omega, ok_snoc hall (by first | exact okAt_yes1 hx h24 h30 hj hy h44 | exact okAt_yes0 hx h24 h30 (by omega))⟩ (by omega)) ⟨rfl, rfl, rfl, rfl, trivial⟩
      · refine RK.exit rfl ?_
        refine RK.seq ?_
        refine RK.region ?_
        refine RL.p rfl rfl ?_
        refine RL.done ?_
        refine RK.ret_of Tryz.func232 (res1 rfl rfl) ?_ _
        exact ⟨_, rfl, congrArg _ (by first
            | exact (is_no1 (by omega)).symm
            | exact (is_no2 (i := k) (by omega) (okAt_no1 hx h24)).symm
            | exact (is_no2 (i := k) (by omega) (okAt_no2 hx h30)).symm
            | exact (is_no2 (i := k) (by omega) (okAt_no3 hx hj hy h44)).symm
            | exact (is_yes (by omega) (by omega) fun i hi => hall i (by omega)).symm), by first
            | exact Mod.refl _ _
            | exact hg2.trans (Mod.drew _ _)
            | exact hg⟩
end Go.Proofs.YtcndimkkojdflaaGreatDoor
set_option linter.unusedVariables false
set_option linter.unusedSimpArgs false
set_option maxHeartbeats 400000
set_option maxRecDepth 100000
namespace Go.Proofs.YtcndimkkojdflaaGreatDoor
open Go Go.X
theorem allOne_ints (xs : List Int) : (xs.map (Value.int .i64)).all (·.oneCell') = true := by simp [Value.oneCell']
theorem allOne_labs (ls : List Lab) : (ls.flatMap labC).all (·.oneCell') = true := by
  rw [List.all_eq_true]
  intro u hu
  simp only [List.mem_flatMap, labC] at hu
  obtain ⟨x, _, hu⟩ := hu
  simp at hu
  rcases hu with rfl | rfl <;> rfl
theorem cloneI_ok (M : Nat → Prop) (xs : List Int) (v : Value) (w : World) (hv : Sl M w v 1 xs.length (xs.map (.int .i64))) (hb : xs.length * 8 ≤ 140737488355328) :
    Fx Tryz.prog 121 [v] w (fun u w' => Row w' 3 1 u xs.length (xs.map (.int .i64)) ∧ Fresh w.heap.size u ∧ Grow w w') := by
  obtain ⟨ad, c, b, o, rfl, hf⟩ := hv.open
  refine enter Tryz.func121 rfl rfl rfl _ (Pick.sub (l := [0]) (.cons rfl .nil)) ?_
  refine RK.seq ?_
  refine RK.region ?_
  refine RL.p rfl rfl ?_
  refine RL.done ?_
  iterate 2 refine RK.seq ?_
  refine RK.region ?_
  refine RL.p rfl rfl ?_
  refine RL.q (.free rfl) rfl rfl (Yld.eqNil u63 rfl rfl) ?_
  refine RL.done ?_
  first | refine RK.condD rfl (fun h4 => ?_) (fun h4 => ?_) | refine RK.condN rfl (fun h4 => ?_) (fun h4 => ?_) | refine RK.cond rfl (fun h4 => ?_) (fun h4 => ?_)
  · refine RK.seq ?_
    refine RK.region ?_
    refine RL.p rfl rfl ?_
    refine RL.done ?_
    refine RK.ret_of Tryz.func121 (res1 rfl rfl) ?_ _
    exact ⟨_, rfl, by cases ad with | none => (have h0 : xs.length = 0 := by (rcases Nat.eq_zero_or_pos xs.length with h | h; exact h; exact absurd (hf h).1 (by simp))); have : xs = [] := List.eq_nil_of_length_eq_zero h0; subst this; exact ⟨Row.nil _ _ _, fun b hb => by simp [Value.ownBlock] at hb, Mod.refl _ _⟩ | some a => simp at h4⟩
  · refine RK.skip ?_
    refine RK.seq ?_
    refine RK.region ?_
    refine RL.op (.free rfl) rfl rfl (Does.slice0 u63 i3) ?_
    rintro _ w1 ⟨b1, rfl, hn1⟩
    refine RL.p rfl rfl ?_
    refine RL.op (.free rfl) rfl rfl (Does.append u63 i3 rfl rfl rfl rfl rfl (Row.new hn1 1 0 rfl (by omega)) ((hv.mod (Mod.any' hn1.grow)).noM) (allOne_ints xs) (by omega)) ?_
    rintro u w2 ⟨hr, hm, hu⟩
    refine RL.p rfl rfl ?_
    refine RL.done ?_
    refine RK.ret_of Tryz.func121 (res1 rfl rfl) ?_ _
    exact ⟨_, rfl, by simpa using hr, fun b hb => by rcases hu with hu | hu <;> rw [hu] at hb <;> simp [Value.ownBlock] at hb <;> (have := hn1.at_; have := hn1.size; omega), hn1.grow.then hm (fun x hx e => by simp [Value.ownBlock] at e; have := hn1.at_; omega)⟩
end Go.Proofs.YtcndimkkojdflaaGreatDoor
set_option linter.unusedVariables false
set_option linter.unusedSimpArgs false
set_option maxHeartbeats 400000
set_option maxRecDepth 100000
namespace Go.Proofs.YtcndimkkojdflaaGreatDoor
open Go Go.X
abbrev ints (xs : List Int) : List Value := xs.map (Value.int .i64)
theorem compact_le (xs : List Int) : (Lib.compact xs).length ≤ xs.length := by
  unfold Lib.compact Lib.compactUpTo
  rw [List.length_map]
  exact Nat.le_trans (List.length_filter_le _ _) (by simp)
def sortI (xs : List Int) : List Int := xs.mergeSort fun x y => decide (x ≤ y)
theorem sortI_len (xs : List Int) : (sortI xs).length = xs.length := by simp [sortI]
theorem sort_ok (xs : List Int) (v : Value) (w : World) (hv : Row w 3 1 v xs.length (ints xs)) (hb : xs.length < 4611686018427387904) :
    Fx Tryz.prog 280 [v] w (fun u w' => u = .tuple #[] ∧ Row w' 3 1 v xs.length (ints (sortI xs)) ∧ Mod (fun b => v.ownBlock = some b) w w') := by
  rcases hv.2 with ⟨rfl, h0⟩ | ⟨g, cap, cur, rfl, _, hg, hn, hcap, hcs, htk⟩
  · have : xs = [] := List.eq_nil_of_length_eq_zero h0
    subst this
    refine Calls.mono (Tryz.slices_Sort_int_none none 0 w) ?_
    rintro e w' ⟨rfl, rfl⟩
    exact ⟨_, rfl, rfl, by simpa [sortI] using Row.nil w' _ _, Mod.refl _ _⟩
  · rw [Nat.mul_one] at htk
    refine Calls.mono (Tryz.slices_Sort_int g 0 cap xs w (holds_of_blockI hg htk) (Array.getElem?_eq_some_iff.1 hg).1 hb) ?_
    rintro e w' ⟨rfl, n, os, rfl⟩
    exact ⟨_, rfl, rfl, ownsRow_sortedI (by simp) (Nat.zero_le _) hg hn hcap hcs, Mod.grownBy (grownBy_sortedI _) (fun k h => by cases h; rfl)⟩
theorem compact_ok (xs : List Int) (v : Value) (w : World) (hv : Row w 3 1 v xs.length (ints xs)) :
    Fx Tryz.prog 281 [v] w (fun u w' => Row w' 3 1 u (Lib.compact xs).length (ints (Lib.compact xs)) ∧ u.ownBlock = v.ownBlock ∧ Mod (fun b => v.ownBlock = some b) w w') := by
  rcases hv.2 with ⟨rfl, h0⟩ | ⟨g, cap, cur, rfl, _, hg, hn, hcap, hcs, htk⟩
  · have : xs = [] := List.eq_nil_of_length_eq_zero h0
    subst this
    refine Calls.mono (Tryz.slices_Compact_int_empty none 0 w) ?_
    rintro e w' ⟨rfl, rfl⟩
    exact ⟨_, rfl, Row.nil w' _ _, rfl, Mod.refl _ _⟩
  · rw [Nat.mul_one] at htk
    refine Calls.mono (Tryz.slices_Compact_int g 0 cap xs w (holds_of_blockI hg htk) (by simp only [maxLen] at hcap; omega) hn) ?_
    rintro e w' ⟨rfl, q, rfl⟩
    have hle : (Lib.compact xs).length ≤ xs.length := compact_le xs
    have hh := heap_sortedI (n := q) (os := #[]) (Lib.compact xs ++ List.replicate (xs.length - (Lib.compact xs).length) 0).toArray hg
    have hgb := grownBy_sortedI (w := w) (g := g) (n := q) (os := #[]) (Lib.compact xs ++ List.replicate (xs.length - (Lib.compact xs).length) 0).toArray
    simp only [Sort.grow_empty] at hh hgb
    refine ⟨_, rfl, ⟨by simp, .inr ⟨g, cap, _, rfl, Nat.zero_le _, hh, by omega, hcap, by simp [Sort.putCells, hcs], ?_⟩⟩, rfl, Mod.grownBy hgb (fun k h => by cases h; rfl)⟩
    have := take_putCellsI cur (Lib.compact xs ++ List.replicate (xs.length - (Lib.compact xs).length) 0) (by simp; omega)
    have h2 := congrArg (List.take (Lib.compact xs).length) this
    rw [List.take_take, Nat.min_eq_left (by simp)] at h2
    rw [Nat.mul_one, h2]
    simp
theorem growNil_ok (m : Nat) (w : World) (hb : m * 8 ≤ 140737488355328) :
    Fx Tryz.prog 371 [.slice none 0 0, .int .i64 m] w (fun u w' => Row w' 3 1 u 0 [] ∧ Fresh w.heap.size u ∧ Grow w w') := by
  refine enter Tryz.func371 rfl rfl rfl _ (Pick.sub (l := [0, 1]) (.cons rfl (.cons rfl .nil))) ?_
  refine RK.seq ?_
  refine RK.region ?_
  refine RL.p rfl rfl ?_
  refine RL.done ?_
  iterate 2 refine RK.seq ?_
  refine RK.region ?_
  iterate 2 refine RL.p rfl rfl ?_
  refine RL.done ?_
  refine RK.condF (hcF rfl (decide_eq_false (by omega))) ?_
  refine RK.skip ?_
  iterate 2 refine RK.seq ?_
  refine RK.region ?_
  iterate 2 refine RL.p rfl rfl ?_
  refine RL.q (.free rfl) rfl rfl (Yld.capSl u63 rfl) ?_
  refine RL.p rfl rfl ?_
  refine RL.q (.free rfl) rfl rfl (Yld.lenSl u63 rfl) ?_
  refine RL.p rfl rfl ?_
  refine RL.re (d := 13) rfl rfl (sub_i64 (z := 0) (by omega) (by omega) (by omega)) ?_
  refine RL.p rfl rfl ?_
  refine RL.re (d := 14) rfl rfl (sub_i64 (z := (m : Int)) (by omega) (by omega) (by omega)) ?_
  refine RL.p rfl rfl ?_
  refine RL.done ?_
  refine RK.seq ?_
  refine RK.region ?_
  iterate 2 refine RL.p rfl rfl ?_
  refine RL.done ?_
  first | refine RK.condD rfl (fun h16 => ?_) (fun h16 => ?_) | refine RK.condN rfl (fun h16 => ?_) (fun h16 => ?_) | refine RK.cond rfl (fun h16 => ?_) (fun h16 => ?_)
  · refine RK.region ?_
    iterate 2 refine RL.p rfl rfl ?_
    refine RL.q (.free rfl) rfl rfl (Yld.capSl u63 rfl) ?_
    refine RL.q (.free rfl) rfl rfl (Yld.sliceHi u63 i3 (m := 0) rfl rfl (by omega)) ?_
    refine RL.p rfl rfl ?_
    refine RL.op (.free rfl) rfl rfl (Does.appendZ u63 Tryz.underlying3 i3 rfl rfl (m := m) (c := 0) rfl rfl (by omega) hb) ?_
    rintro _ w1 ⟨b1, cap1, cur1, rfl, hb1, hh1, hc1, hm1, hs1, hg1⟩
    refine RL.p rfl rfl ?_
    refine RL.q (.free rfl) rfl rfl (Yld.lenSl u63 rfl) ?_
    refine RL.q (.free rfl) rfl rfl (Yld.sliceHi u63 i3 (m := 0) rfl rfl (by omega)) ?_
    refine RL.p rfl rfl ?_
    refine RL.done ?_
    refine RK.seq ?_
    refine RK.region ?_
    iterate 2 refine RL.p rfl rfl ?_
    refine RL.done ?_
    refine RK.ret_of Tryz.func371 (res1 rfl rfl) ?_ _
    exact ⟨_, rfl, ⟨by simp, .inr ⟨b1, cap1, cur1, rfl, Nat.zero_le _, hh1, by omega, hm1, hs1, by simp⟩⟩, fun b hb => by simp [Value.ownBlock] at hb; omega, hg1⟩
  · refine RK.skip ?_
    refine RK.seq ?_
    refine RK.region ?_
    iterate 2 refine RL.p rfl rfl ?_
    refine RL.done ?_
    refine RK.ret_of Tryz.func371 (res1 rfl rfl) ?_ _
    exact ⟨_, rfl, Row.nil _ _ _, fun b hb => by simp [Value.ownBlock] at hb, Mod.refl _ _⟩
def total (pr : List (Value × List Int)) : Nat := (pr.map fun p => p.2.length).sum
theorem total_take {pr : List (Value × List Int)} {k : Nat} {p : Value × List Int} (h : pr[k]? = some p) : total (pr.take (k + 1)) = total (pr.take k) + p.2.length := by
  have hk : k < pr.length := (List.getElem?_eq_some_iff.1 h).1
  rw [List.take_succ_eq_append_getElem hk]
  have : pr[k] = p := (List.getElem?_eq_some_iff.1 h).2
  simp [total, this]
theorem total_le (pr : List (Value × List Int)) (k : Nat) : total (pr.take k) ≤ total pr := by
  have : total pr = total (pr.take k) + total (pr.drop k) := by
    unfold total
    rw [← List.sum_append, ← List.map_append, List.take_append_drop]
  omega
theorem concat_ok (M : Nat → Prop) (pr : List (Value × List Int)) (v : Value) (w : World) (hv : Sl M w v 1 pr.length (pr.map (·.1))) (hs : ∀ p ∈ pr, Sl M w p.1 1 p.2.length (ints p.2)) (hb : total pr * 8 ≤ 140737488355328) :
    Fx Tryz.prog 337 [v] w (fun u w' => Row w' 3 1 u (pr.flatMap (·.2)).length (ints (pr.flatMap (·.2))) ∧ Fresh w.heap.size u ∧ Grow w w') := by
  obtain ⟨ad, c, b, o, rfl, hf⟩ := hv.open
  refine enter Tryz.func337 rfl rfl rfl _ (Pick.sub (l := [0]) (.cons rfl .nil)) ?_
  refine RK.seq ?_
  refine RK.region ?_
  refine RL.p rfl rfl ?_
  refine RL.done ?_
  refine RK.seq ?_
  refine RK.region ?_
  refine RL.p rfl rfl ?_
  refine RL.done ?_
  iterate 2 refine RK.seq ?_
  refine RK.region ?_
  refine RL.p rfl rfl ?_
  refine RL.q (.free rfl) rfl rfl (Yld.lenSl u449 rfl) ?_
  refine RL.p rfl rfl ?_
  refine RL.done ?_
  refine RK.block ?_
  refine RK.loop (fun k : Nat => [(0, .slice ad pr.length c), (9, .slice ad pr.length c), (10, .int .i64 pr.length), (11, .int .i64 k), (3, .int .i64 (total (pr.take k)))]) (fun k w' => w = w' ∧ k ≤ pr.length) (fun k => pr.length - k) 0 ⟨rfl, rfl, rfl, rfl, rfl, trivial⟩ ⟨rfl, by omega⟩ (fun k w' hI ih => ?_)
  obtain ⟨rfl, hk⟩ := hI
  refine RK.seq ?_
  refine RK.region ?_
  refine RL.p rfl rfl ?_
  refine RL.done ?_
  refine RK.seq ?_
  first | refine RK.condD rfl (fun h12 => ?_) (fun h12 => ?_) | refine RK.condN rfl (fun h12 => ?_) (fun h12 => ?_) | refine RK.cond rfl (fun h12 => ?_) (fun h12 => ?_)
  · obtain ⟨p, hp⟩ : ∃ p, pr[k]? = some p := ⟨pr[k]'(by omega), List.getElem?_eq_getElem (by omega)⟩
    obtain ⟨rfl, hbM, hc⟩ := hf (by omega)
    have hsp := hs p (List.mem_of_getElem? hp)
    obtain ⟨adp, cp, hpv⟩ := hsp.shape
    have ht := total_take hp
    have htl := total_le pr (k + 1)
    refine RK.skip ?_
    refine RK.seq ?_
    refine RK.block ?_
    refine RK.seq ?_
    refine RK.region ?_
    refine RL.q (.free rfl) rfl rfl (Yld.indexAddrN u449 i63 rfl rfl (by omega)) ?_
    refine RL.q (.free rfl) rfl rfl (Yld.load p63 rfl (at1 (by have := hc k p.1 (by simp [hp]); rw [hpv] at this; simpa using this))) ?_
    refine RL.p rfl rfl ?_
    refine RL.done ?_
    refine RK.seq ?_
    refine RK.region ?_
    iterate 2 refine RL.p rfl rfl ?_
    refine RL.q (.free rfl) rfl rfl (Yld.lenSl u63 rfl) ?_
    refine RL.p rfl rfl ?_
    refine RL.re (d := 18) rfl rfl (add_i64 (z := ((total (pr.take (k + 1)) : Nat) : Int)) (by rw [ht]; simp) (by omega) (by omega)) ?_
    refine RL.p rfl rfl ?_
    refine RL.done ?_
    refine RK.seq ?_
    refine RK.region ?_
    iterate 2 refine RL.p rfl rfl ?_
    refine RL.done ?_
    refine RK.condF (hcF rfl (decide_eq_false (by omega))) ?_
    refine RK.skip ?_
    refine RK.inBlock ?_
    refine RK.region ?_
    refine RL.p rfl rfl ?_
    refine RL.re (d := 22) rfl rfl (succ_i64 (by have := hv.big; omega)) ?_
    refine RL.p rfl rfl ?_
    refine RL.done ?_
    exact RK.back (ih (k + 1) _ ⟨rfl, by omega⟩ (by omega)) ⟨rfl, rfl, rfl, rfl, rfl, trivial⟩
  · have ek : pr.take k = pr := List.take_of_length_le (by omega)
    rw [ek]
    refine RK.exit rfl ?_
    refine RK.seq ?_
    refine RK.region ?_
    refine RL.p rfl rfl ?_
    refine RL.op (.free rfl) rfl rfl (Does.call rfl e371 (growNil_ok (total pr) _ hb)) ?_
    rintro u0 w1 ⟨hr1, hf1, hg1⟩
    refine RL.p rfl rfl ?_
    refine RL.done ?_
    iterate 2 refine RK.seq ?_
    refine RK.region ?_
    refine RL.p rfl rfl ?_
    refine RL.q (.free rfl) rfl rfl (Yld.lenSl u449 rfl) ?_
    refine RL.p rfl rfl ?_
    refine RL.done ?_
    refine RK.block ?_
    refine RK.loop (fun (s : Nat × Value) => [(25, .slice ad pr.length c), (26, .int .i64 pr.length), (27, .int .i64 s.1), (6, s.2)]) (fun s w' => Row w' 3 1 s.2 ((pr.take s.1).flatMap (·.2)).length (ints ((pr.take s.1).flatMap (·.2))) ∧ Fresh w.heap.size s.2 ∧ Grow w w' ∧ s.1 ≤ pr.length) (fun s => pr.length - s.1) (0, u0) ⟨rfl, rfl, rfl, rfl, trivial⟩ ⟨by simpa using hr1, hf1, hg1, by omega⟩ (fun s w' hI ih => ?_)
    obtain ⟨k2, u⟩ := s
    obtain ⟨hr, hfr, hg, hk2⟩ := hI
    simp only at hr hfr hk2
    refine RK.seq ?_
    refine RK.region ?_
    refine RL.p rfl rfl ?_
    refine RL.done ?_
    refine RK.seq ?_
    first | refine RK.condD rfl (fun h28 => ?_) (fun h28 => ?_) | refine RK.condN rfl (fun h28 => ?_) (fun h28 => ?_) | refine RK.cond rfl (fun h28 => ?_) (fun h28 => ?_)
    · obtain ⟨p, hp⟩ : ∃ p, pr[k2]? = some p := ⟨pr[k2]'(by omega), List.getElem?_eq_getElem (by omega)⟩
      obtain ⟨rfl, hbM, hc⟩ := hf (by omega)
      have hsp := hs p (List.mem_of_getElem? hp)
      have ht := total_take hp
      have htl := total_le pr (k2 + 1)
      have e1 : ((pr.take k2).flatMap (·.2)).length = total (pr.take k2) := by simp [total, List.length_flatMap]
      have e2 : (pr.take (k2 + 1)).flatMap (·.2) = (pr.take k2).flatMap (·.2) ++ p.2 := by rw [List.take_succ_eq_append_getElem (by omega)]; simp [(List.getElem?_eq_some_iff.1 hp).2]
      refine RK.skip ?_
      refine RK.seq ?_
      refine RK.block ?_
      refine RK.seq ?_
      refine RK.region ?_
      refine RL.q (.free rfl) rfl rfl (Yld.indexAddrN u449 i63 rfl rfl (by omega)) ?_
      refine RL.q (.free rfl) rfl rfl (Yld.load p63 rfl (at1 (hg.cell (by have := hc k2 p.1 (by simp [hp]); simpa using this) (fun h => h)))) ?_
      refine RL.p rfl rfl ?_
      refine RL.done ?_
      refine RK.region ?_
      iterate 2 refine RL.p rfl rfl ?_
      refine RL.op (.free rfl) rfl rfl (Does.append u63 i3 rfl rfl rfl rfl rfl (hr) ((hsp.mod (Mod.any' hg)).noM) (allOne_ints _) (by rw [e1]; omega)) ?_
      rintro u2 w2 ⟨hr2, hm2, hu2⟩
      refine RL.p rfl rfl ?_
      refine RL.done ?_
      refine RK.inBlock ?_
      refine RK.region ?_
      refine RL.p rfl rfl ?_
      refine RL.re (d := 34) rfl rfl (succ_i64 (by have := hv.big; omega)) ?_
      refine RL.p rfl rfl ?_
      refine RL.done ?_
      exact RK.back (ih (k2 + 1, u2) _ ⟨by rw [e2]; simpa using hr2, fun b hb => by rcases hu2 with h | h <;> rw [h] at hb; exact hfr b hb; (cases hb; exact hg.size), hg.then hm2 (fun x hx e => by have := hfr x e; omega), by simp; omega⟩ (by simp; omega)) ⟨rfl, rfl, rfl, rfl, trivial⟩
    · have ek2 : pr.take k2 = pr := List.take_of_length_le (by omega)
      rw [ek2] at hr
      refine RK.exit rfl ?_
      refine RK.seq ?_
      refine RK.region ?_
      iterate 2 refine RL.p rfl rfl ?_
      refine RL.done ?_
      refine RK.ret_of Tryz.func337 (res1 rfl rfl) ?_ _
      exact ⟨_, rfl, hr, hfr, hg⟩
end Go.Proofs.YtcndimkkojdflaaGreatDoor
set_option linter.unusedVariables false
set_option linter.unusedSimpArgs false
set_option maxHeartbeats 400000
set_option maxRecDepth 100000
namespace Go.Proofs.YtcndimkkojdflaaGreatDoor
open Go Go.X
def mkRow (xs : List Int) : List Int := Lib.compact (sortI xs)
theorem mkRow_le (xs : List Int) : (mkRow xs).length ≤ xs.length := by
  have := compact_le (sortI xs)
  rw [sortI_len] at this
  exact this
theorem make_ok (M : Nat → Prop) (xs : List Int) (v : Value) (w : World) (hv : Sl M w v 1 xs.length (ints xs)) (hb : xs.length * 8 ≤ 140737488355328) :
    Fx Tryz.prog 215 [v] w (fun u w' => Row w' 3 1 u (mkRow xs).length (ints (mkRow xs)) ∧ Fresh w.heap.size u ∧ Grow w w') := by
  refine enter Tryz.func215 rfl rfl rfl _ (Pick.sub (l := [0]) (.cons rfl .nil)) ?_
  refine RK.seq ?_
  refine RK.region ?_
  refine RL.p rfl rfl ?_
  refine RL.done ?_
  refine RK.seq ?_
  refine RK.region ?_
  refine RL.p rfl rfl ?_
  refine RL.op (.free rfl) rfl rfl (Does.call rfl e121 (cloneI_ok M xs v _ hv hb)) ?_
  rintro u1 w1 ⟨hr1, hf1, hg1⟩
  refine RL.p rfl rfl ?_
  refine RL.done ?_
  refine RK.seq ?_
  refine RK.region ?_
  refine RL.p rfl rfl ?_
  refine RL.op (.free rfl) rfl rfl (Does.call rfl e280 (sort_ok xs u1 _ hr1 (by omega))) ?_
  rintro _ w2 ⟨rfl, hr2, hm2⟩
  refine RL.done ?_
  refine RK.seq ?_
  refine RK.region ?_
  refine RL.p rfl rfl ?_
  refine RL.op (.free rfl) rfl rfl (Does.call rfl e281 (compact_ok (sortI xs) u1 _ (by rw [sortI_len]; exact hr2))) ?_
  rintro u3 w3 ⟨hr3, hu3, hm3⟩
  refine RL.p rfl rfl ?_
  refine RL.done ?_
  refine RK.ret_of Tryz.func215 (res1 rfl rfl) ?_ _
  exact ⟨_, rfl, hr3, fun b hb => hf1 b (by rw [← hu3]; exact hb), (hg1.then hm2 (fun x hx e => by have := hf1 x e; omega)).then hm3 (fun x hx e => by have := hf1 x e; omega)⟩
theorem or_ok (M : Nat → Prop) (xs ys : List Int) (va vb : Value) (w : World) (ha : Sl M w va 1 xs.length (ints xs)) (hbv : Sl M w vb 1 ys.length (ints ys)) (hb : (xs.length + ys.length) * 8 ≤ 140737488355328) :
    Fx Tryz.prog 270 [va, vb] w (fun u w' => Row w' 3 1 u (mkRow (xs ++ ys)).length (ints (mkRow (xs ++ ys))) ∧ Fresh w.heap.size u ∧ Grow w w') := by
  obtain ⟨ad, c, rfl⟩ := ha.shape
  obtain ⟨ad', c', rfl⟩ := hbv.shape
  refine enter Tryz.func270 rfl rfl rfl _ (Pick.sub (l := [0, 1]) (.cons rfl (.cons rfl .nil))) ?_
  refine RK.seq ?_
  refine RK.region ?_
  refine RL.p rfl rfl ?_
  refine RL.done ?_
  refine RK.seq ?_
  refine RK.region ?_
  iterate 2 refine RL.p rfl rfl ?_
  refine RL.op (.free rfl) rfl rfl (Does.bslice (el := 63) ([.slice ad xs.length c, .slice ad' ys.length c']) rfl (fun w => by kernel_rfl)) ?_
  rintro _ w1 ⟨b1, rfl, hn1⟩
  refine RL.op (.free rfl) rfl rfl (Does.call rfl e337 (concat_ok No [(.slice ad xs.length c, xs), (.slice ad' ys.length c', ys)] _ _ (Sl.new hn1 1 2 rfl (by omega) (fun h => h)) (by intro p hp; simp at hp; rcases hp with rfl | rfl; exact (ha.mod (Mod.any' hn1.grow)).noM; exact (hbv.mod (Mod.any' hn1.grow)).noM) (by simp [total]; omega))) ?_
  rintro u2 w2 ⟨hr2, hf2, hg2⟩
  simp only [List.flatMap_cons, List.flatMap_nil, List.append_nil] at hr2
  refine RL.op (.free rfl) rfl rfl (Does.call rfl e215 (make_ok No (xs ++ ys) u2 _ (Sl.own hr2 (fun _ _ h => h)) (by simp; omega))) ?_
  rintro u3 w3 ⟨hr3, hf3, hg3⟩
  refine RL.p rfl rfl ?_
  refine RL.done ?_
  refine RK.ret_of Tryz.func270 (res1 rfl rfl) ?_ _
  exact ⟨_, rfl, hr3, fun b hb => by have := hf3 b hb; have := hg2.size; have := hn1.grow.size; omega, (hn1.grow.trans hg2).trans hg3⟩
theorem put_ok (M : Nat → Prop) (xs : List Int) (x : Int) (v : Value) (w : World) (hv : Sl M w v 1 xs.length (ints xs)) (hb : (xs.length + 1) * 8 ≤ 140737488355328) :
    Fx Tryz.prog 313 [v, .int .i64 x] w (fun u w' => Row w' 3 1 u (mkRow (xs ++ [x])).length (ints (mkRow (xs ++ [x]))) ∧ Fresh w.heap.size u ∧ Grow w w') := by
  refine enter Tryz.func313 rfl rfl rfl _ (Pick.sub (l := [0, 1]) (.cons rfl (.cons rfl .nil))) ?_
  refine RK.seq ?_
  refine RK.region ?_
  refine RL.p rfl rfl ?_
  refine RL.done ?_
  refine RK.seq ?_
  refine RK.region ?_
  iterate 2 refine RL.p rfl rfl ?_
  refine RL.op (.free rfl) rfl rfl (Does.slice1 u63 i3 rfl rfl rfl rfl rfl) ?_
  rintro _ w1 ⟨b1, rfl, hn1⟩
  refine RL.op (.free rfl) rfl rfl (Does.call rfl e270 (or_ok No xs [x] v _ _ (hv.mod (Mod.any' hn1.grow)).noM (Sl.new hn1 1 1 rfl (by omega) (fun h => h)) (by simpa using hb))) ?_
  rintro u2 w2 ⟨hr2, hf2, hg2⟩
  refine RL.p rfl rfl ?_
  refine RL.done ?_
  refine RK.ret_of Tryz.func313 (res1 rfl rfl) ?_ _
  exact ⟨_, rfl, hr2, fun b hb => by have := hf2 b hb; have := hn1.grow.size; omega, hn1.grow.trans hg2⟩
structure PoolAt (w : World) (p : Nat) (most last : Int) (out : List Int) (v : Value) : Prop where
  blk : Blk w p 197 [.int .i64 most, .int .i64 last, v]
  row : Row w 3 1 v out.length (ints out)
  ne : v.ownBlock ≠ some p
theorem poolNew_ok (m : Int) (w : World) : Fx Tryz.prog 71 [.int .i64 m] w (fun u w' => ∃ p, u = pp p ∧ p = w.heap.size ∧ PoolAt w' p (if 0 > m then 0 else m) 0 [] (.slice none 0 0) ∧ Grow w w' ∧ w'.heap.size = w.heap.size + 1) := by
  refine enter Tryz.func71 rfl rfl rfl _ (Pick.sub (l := [0]) (.cons rfl .nil)) ?_
  refine RK.seq ?_
  refine RK.region ?_
  refine RL.p rfl rfl ?_
  refine RL.done ?_
  refine RK.seq ?_
  refine RK.region ?_
  refine RL.p rfl rfl ?_
  refine RL.q (.free rfl) rfl rfl (Yld.max2 rfl rfl) ?_
  refine RL.q (.free rfl) rfl rfl (Yld.build (v := .agg #[.int .i64 (if 0 > m then 0 else m), .int .i64 0, .slice none 0 0]) rfl (fun w => by kernel_rfl)) ?_
  refine RL.op (.free rfl) rfl rfl (Does.box rfl) ?_
  rintro _ w1 ⟨b1, rfl, hn1⟩
  refine RL.p rfl rfl ?_
  refine RL.done ?_
  refine RK.ret_of Tryz.func71 (res1 rfl rfl) ?_ _
  exact ⟨_, rfl, b1, rfl, hn1.at_, ⟨hn1.blk, Row.nil _ _ _, by simp [Value.ownBlock]⟩, hn1.grow, hn1.size⟩
end Go.Proofs.YtcndimkkojdflaaGreatDoor
set_option linter.unusedVariables false
set_option linter.unusedSimpArgs false
set_option maxHeartbeats 400000
set_option maxRecDepth 100000
namespace Go.Proofs.YtcndimkkojdflaaGreatDoor
open Go Go.X
def canS (b : Nat) : Nat := if nanS b then 9221120237041090561 else b
end Go.Proofs.YtcndimkkojdflaaGreatDoor
set_option linter.unusedVariables false
set_option linter.unusedSimpArgs false
set_option maxHeartbeats 6400000
set_option maxRecDepth 100000
namespace Go.Proofs.YtcndimkkojdflaaGreatDoor
open Go Go.X
theorem fldV {w : World} {b t : Nat} {cs : List Value} (h : Blk w b t cs) (k n : Nat) : ∀ j u, ((cs.drop k).take n)[j]? = some u → w.cell? ⟨b, 0 + k + j, none⟩ = some u := fun j u hj => by
  have hj2 : (cs.drop k)[j]? = some u := by
    rw [List.getElem?_take] at hj
    split at hj
    · exact hj
    · cases hj
  rw [List.getElem?_drop] at hj2
  rw [Nat.zero_add]
  exact h.cell' hj2
theorem blkV {w : World} {b t : Nat} {cs : List Value} (h : Blk w b t cs) : ∀ (j : Nat) (u : Value), cs[j]? = some u → w.cell? ⟨b, 0 + j, none⟩ = some u := fun j u hj => by rw [Nat.zero_add]; exact h.cell' hj
@[reducible] def band0 : List Value := [.bool false, .float .f64 0, .float .f64 0]
@[reducible] def rule0 : List Value := [.slice none 0 0, .slice none 0 0, .bool false, .float .f64 0, .float .f64 0, .slice none 0 0]
@[reducible] def reqC (tok : ByteArray) (op : Int) : List Value := [.string tok, .int .i64 op, .int .i64 0, .string ⟨#[]⟩, .int .u64 0, .int .u64 0, .int .i64 0, .slice none 0 0, .bool false, .float .f64 0, .float .f64 0, .slice none 0 0, .slice none 0 0, .bool false, .float .f64 0, .float .f64 0, .slice none 0 0, .slice none 0 0, .float .f64 0]
theorem nought0_ok (w : World) : Fx Tryz.prog 305 [.float .f64 0] w (fun u w' => u = .bool true ∧ w = w') := by
  refine enter Tryz.func305 rfl rfl rfl _ (Pick.sub (l := [0]) (.cons rfl .nil)) ?_
  refine RK.seq ?_
  refine RK.region ?_
  refine RL.p rfl rfl ?_
  refine RL.done ?_
  refine RK.seq ?_
  refine RK.region ?_
  refine RL.p rfl rfl ?_
  refine RL.op (.free rfl) rfl rfl (Does.call rfl e220 (bits_ok 0 _)) ?_
  rintro _ _ ⟨rfl, rfl⟩
  iterate 2 refine RL.p rfl rfl ?_
  refine RL.done ?_
  refine RK.ret_of Tryz.func305 (res1 rfl rfl) ?_ _
  exact ⟨_, rfl, congrArg Value.bool (decide_eq_true (by have h : nanS 0 = false := (by unfold nanS; decide +kernel); unfold bitsS; rw [h]; rfl)), rfl⟩
theorem noBand0_ok (w : World) : Fx Tryz.prog 303 [.agg band0.toArray] w (fun u w' => u = .bool true ∧ Grow w w') := by
  refine enter Tryz.func303 rfl rfl rfl _ (Pick.sub (l := [0]) (.cons rfl .nil)) ?_
  refine RK.seq ?_
  refine RK.region ?_
  refine RL.op (.free rfl) rfl rfl (Does.box rfl) ?_
  rintro _ w1 ⟨b1, rfl, hn1⟩
  have hB : Blk w1 b1 119 band0 := hn1.blk
  refine RL.p rfl rfl ?_
  refine RL.done ?_
  refine RK.seq ?_
  refine RK.region ?_
  refine RL.q (.free rfl) rfl rfl (Yld.fieldAddr fo119_0 rfl) ?_
  refine RL.q (.free rfl) rfl rfl (Yld.load p4 rfl (at1 (hB.cell rfl))) ?_
  iterate 2 refine RL.p rfl rfl ?_
  refine RL.knownT (d := 6) rfl rfl (by first | rfl | decide) ?_
  refine RL.q (.yes rfl rfl rfl) rfl rfl (Yld.fieldAddr fo119_1 rfl) ?_
  refine RL.q (.yes rfl rfl rfl) rfl rfl (Yld.load p117 rfl (at1 (hB.cell rfl))) ?_
  refine RL.op (.yes rfl rfl rfl) rfl rfl (Does.call rfl e305 (nought0_ok _)) ?_
  rintro _ _ ⟨rfl, rfl⟩
  iterate 2 refine RL.p rfl rfl ?_
  refine RL.knownT (d := 11) rfl rfl (by first | rfl | decide) ?_
  refine RL.q (.yes rfl rfl rfl) rfl rfl (Yld.fieldAddr fo119_2 rfl) ?_
  refine RL.q (.yes rfl rfl rfl) rfl rfl (Yld.load p117 rfl (at1 (hB.cell rfl))) ?_
  refine RL.op (.yes rfl rfl rfl) rfl rfl (Does.call rfl e305 (nought0_ok _)) ?_
  rintro _ _ ⟨rfl, rfl⟩
  iterate 2 refine RL.p rfl rfl ?_
  refine RL.done ?_
  refine RK.ret_of Tryz.func303 (res1 rfl rfl) ?_ _
  exact ⟨_, rfl, rfl, hn1.grow⟩
theorem noRule0_ok (w : World) : Fx Tryz.prog 304 [.agg rule0.toArray] w (fun u w' => u = .bool true ∧ Grow w w') := by
  refine enter Tryz.func304 rfl rfl rfl _ (Pick.sub (l := [0]) (.cons rfl .nil)) ?_
  refine RK.seq ?_
  refine RK.region ?_
  refine RL.op (.free rfl) rfl rfl (Does.box rfl) ?_
  rintro _ w1 ⟨b1, rfl, hn1⟩
  have hB : Blk w1 b1 121 rule0 := hn1.blk
  refine RL.p rfl rfl ?_
  refine RL.done ?_
  refine RK.seq ?_
  refine RK.region ?_
  refine RL.q (.free rfl) rfl rfl (Yld.fieldAddr fo121_0 rfl) ?_
  refine RL.q (.free rfl) rfl rfl (Yld.load p116 rfl (at1 (hB.cell rfl))) ?_
  refine RL.q (.free rfl) rfl rfl (Yld.lenSl u116 rfl) ?_
  iterate 2 refine RL.p rfl rfl ?_
  refine RL.knownT (d := 7) rfl rfl (by first | rfl | decide) ?_
  refine RL.q (.yes rfl rfl rfl) rfl rfl (Yld.fieldAddr fo121_1 rfl) ?_
  refine RL.q (.yes rfl rfl rfl) rfl rfl (Yld.load p116 rfl (at1 (hB.cell rfl))) ?_
  refine RL.q (.yes rfl rfl rfl) rfl rfl (Yld.lenSl u116 rfl) ?_
  refine RL.q (.yes rfl rfl rfl) rfl rfl (Yld.pure rfl) ?_
  iterate 2 refine RL.p rfl rfl ?_
  refine RL.knownT (d := 13) rfl rfl (by first | rfl | decide) ?_
  refine RL.q (.yes rfl rfl rfl) rfl rfl (Yld.fieldAddr fo121_3 rfl) ?_
  refine RL.q (.yes rfl rfl rfl) rfl rfl (Yld.load p26 rfl (at1 (hB.cell rfl))) ?_
  refine RL.q (.yes rfl rfl rfl) rfl rfl (Yld.lenSl u26 rfl) ?_
  refine RL.q (.yes rfl rfl rfl) rfl rfl (Yld.pure rfl) ?_
  iterate 2 refine RL.p rfl rfl ?_
  refine RL.knownT (d := 19) rfl rfl (by first | rfl | decide) ?_
  refine RL.q (.yes rfl rfl rfl) rfl rfl (Yld.fieldAddr fo121_2 rfl) ?_
  refine RL.q (.yes rfl rfl rfl) rfl rfl (Yld.loadN (cs := band0) a119 rfl (atN (fldV hB 2 3))) ?_
  refine RL.op (.yes rfl rfl rfl) rfl rfl (Does.call rfl e303 (noBand0_ok _)) ?_
  rintro _ w2 ⟨rfl, hg2⟩
  iterate 2 refine RL.p rfl rfl ?_
  refine RL.done ?_
  refine RK.ret_of Tryz.func304 (res1 rfl rfl) ?_ _
  exact ⟨_, rfl, rfl, hn1.grow.trans hg2⟩
theorem mlist0_ok (w : World) : Fx Tryz.prog 218 [.slice none 0 0] w (fun u w' => u = .bool true ∧ w = w') := by
  refine enter Tryz.func218 rfl rfl rfl _ (Pick.sub (l := [0]) (.cons rfl .nil)) ?_
  refine RK.seq ?_
  refine RK.region ?_
  refine RL.p rfl rfl ?_
  refine RL.done ?_
  iterate 2 refine RK.seq ?_
  refine RK.region ?_
  refine RL.p rfl rfl ?_
  refine RL.q (.free rfl) rfl rfl (Yld.lenSl u116 rfl) ?_
  refine RL.p rfl rfl ?_
  refine RL.done ?_
  refine RK.condF (hcF rfl (rfl)) ?_
  refine RK.skip ?_
  iterate 2 refine RK.seq ?_
  refine RK.region ?_
  refine RL.p rfl rfl ?_
  refine RL.q (.free rfl) rfl rfl (Yld.lenSl u116 rfl) ?_
  refine RL.p rfl rfl ?_
  refine RL.done ?_
  refine RK.block ?_
  refine RK.loop (fun s : Unit => [(9, .int .i64 0), (10, .int .i64 0)]) (fun s w' => w = w') (fun s => 0) () ⟨rfl, rfl, trivial⟩ rfl (fun s w' hI ih => ?_)
  subst hI
  refine RK.seq ?_
  refine RK.region ?_
  refine RL.p rfl rfl ?_
  refine RL.done ?_
  refine RK.seq ?_
  refine RK.condF (hcF rfl (rfl)) ?_
  refine RK.exit rfl ?_
  refine RK.seq ?_
  refine RK.region ?_
  refine RL.p rfl rfl ?_
  refine RL.done ?_
  refine RK.ret_of Tryz.func218 (res1 rfl rfl) ?_ _
  exact ⟨_, rfl, rfl, rfl⟩
theorem reqFields1_ok (w : World) : Fx Tryz.prog 165 [.int .i64 1] w (fun u w' => u = .tuple #[.int .i64 0, .bool true] ∧ w = w') := by
  refine enter Tryz.func165 rfl rfl rfl _ (Pick.sub (l := [0]) (.cons rfl .nil)) ?_
  refine RK.seq ?_
  refine RK.region ?_
  iterate 2 refine RL.p rfl rfl ?_
  refine RL.done ?_
  iterate 2 refine RK.seq ?_
  refine RK.region ?_
  refine RL.p rfl rfl ?_
  refine RL.done ?_
  refine RK.block ?_
  iterate 2 refine RK.seq ?_
  refine RK.region ?_
  iterate 2 refine RL.p rfl rfl ?_
  refine RL.done ?_
  refine RK.condT (hcT rfl (rfl)) ?_
  refine RK.skip ?_
  refine RK.condT (hcT rfl (rfl)) ?_
  refine RK.seq ?_
  refine RK.region ?_
  iterate 2 refine RL.p rfl rfl ?_
  refine RL.done ?_
  refine RK.ret_of Tryz.func165 (res2 rfl rfl rfl) ?_ _
  exact ⟨_, rfl, rfl, rfl⟩
theorem reqFields0_ok (w : World) : Fx Tryz.prog 165 [.int .i64 0] w (fun u w' => u = .tuple #[.int .i64 0, .bool false] ∧ w = w') := by
  refine enter Tryz.func165 rfl rfl rfl _ (Pick.sub (l := [0]) (.cons rfl .nil)) ?_
  refine RK.seq ?_
  refine RK.region ?_
  iterate 2 refine RL.p rfl rfl ?_
  refine RL.done ?_
  iterate 2 refine RK.seq ?_
  refine RK.region ?_
  refine RL.p rfl rfl ?_
  refine RL.done ?_
  refine RK.block ?_
  iterate 2 refine RK.seq ?_
  refine RK.region ?_
  iterate 2 refine RL.p rfl rfl ?_
  refine RL.done ?_
  refine RK.condF (hcF rfl (rfl)) ?_
  refine RK.seq ?_
  refine RK.region ?_
  iterate 2 refine RL.p rfl rfl ?_
  refine RL.done ?_
  refine RK.condF (hcF rfl (rfl)) ?_
  refine RK.seq ?_
  refine RK.region ?_
  iterate 2 refine RL.p rfl rfl ?_
  refine RL.done ?_
  refine RK.condF (hcF rfl (rfl)) ?_
  refine RK.region ?_
  iterate 2 refine RL.p rfl rfl ?_
  refine RL.done ?_
  refine RK.condF (hcF rfl (rfl)) ?_
  iterate 2 refine RK.seq ?_
  refine RK.region ?_
  iterate 2 refine RL.p rfl rfl ?_
  refine RL.done ?_
  refine RK.condF (hcF rfl (rfl)) ?_
  refine RK.seq ?_
  refine RK.region ?_
  iterate 2 refine RL.p rfl rfl ?_
  refine RL.done ?_
  refine RK.condF (hcF rfl (rfl)) ?_
  refine RK.seq ?_
  refine RK.region ?_
  iterate 2 refine RL.p rfl rfl ?_
  refine RL.done ?_
  refine RK.condF (hcF rfl (rfl)) ?_
  refine RK.seq ?_
  refine RK.region ?_
  iterate 2 refine RL.p rfl rfl ?_
  refine RL.done ?_
  refine RK.condF (hcF rfl (rfl)) ?_
  refine RK.region ?_
  iterate 2 refine RL.p rfl rfl ?_
  refine RL.done ?_
  refine RK.condF (hcF rfl (rfl)) ?_
  iterate 2 refine RK.seq ?_
  refine RK.region ?_
  iterate 2 refine RL.p rfl rfl ?_
  refine RL.done ?_
  refine RK.condF (hcF rfl (rfl)) ?_
  refine RK.region ?_
  iterate 2 refine RL.p rfl rfl ?_
  refine RL.done ?_
  refine RK.condF (hcF rfl (rfl)) ?_
  refine RK.seq ?_
  refine RK.region ?_
  iterate 2 refine RL.p rfl rfl ?_
  refine RL.done ?_
  refine RK.condF (hcF rfl (rfl)) ?_
  refine RK.seq ?_
  refine RK.region ?_
  iterate 2 refine RL.p rfl rfl ?_
  refine RL.done ?_
  refine RK.condF (hcF rfl (rfl)) ?_
  refine RK.seq ?_
  refine RK.region ?_
  iterate 2 refine RL.p rfl rfl ?_
  refine RL.done ?_
  refine RK.condF (hcF rfl (rfl)) ?_
  refine RK.seq ?_
  refine RK.region ?_
  iterate 2 refine RL.p rfl rfl ?_
  refine RL.done ?_
  refine RK.condF (hcF rfl (rfl)) ?_
  refine RK.seq ?_
  refine RK.region ?_
  iterate 2 refine RL.p rfl rfl ?_
  refine RL.done ?_
  refine RK.condF (hcF rfl (rfl)) ?_
  refine RK.seq ?_
  refine RK.region ?_
  iterate 2 refine RL.p rfl rfl ?_
  refine RL.done ?_
  refine RK.condF (hcF rfl (rfl)) ?_
  refine RK.skip ?_
  refine RK.inBlock ?_
  refine RK.seq ?_
  refine RK.region ?_
  iterate 2 refine RL.p rfl rfl ?_
  refine RL.done ?_
  refine RK.ret_of Tryz.func165 (res2 rfl rfl rfl) ?_ _
  exact ⟨_, rfl, rfl, rfl⟩
theorem reqZero_ok (op : Int) (w : World) : Fx Tryz.prog 235 [.agg (reqC ⟨#[]⟩ op).toArray, .int .i64 0] w (fun u w' => u = .bool true ∧ Grow w w') := by
  refine enter Tryz.func235 rfl rfl rfl _ (Pick.sub (l := [0, 1]) (.cons rfl (.cons rfl .nil))) ?_
  refine RK.seq ?_
  refine RK.region ?_
  refine RL.op (.free rfl) rfl rfl (Does.box rfl) ?_
  rintro _ w1 ⟨b1, rfl, hn1⟩
  have hB : Blk w1 b1 124 (reqC ⟨#[]⟩ op) := hn1.blk
  refine RL.p rfl rfl ?_
  refine RL.done ?_
  refine RK.seq ?_
  refine RK.region ?_
  iterate 4 refine RL.p rfl rfl ?_
  refine RL.knownF (d := 8) rfl rfl (by first | rfl | decide) ?_
  refine RL.q (.yes rfl rfl rfl) rfl rfl (Yld.fieldAddr fo124_2 rfl) ?_
  refine RL.q (.yes rfl rfl rfl) rfl rfl (Yld.load p3 rfl (at1 (hB.cell rfl))) ?_
  refine RL.q (.yes rfl rfl rfl) rfl rfl (Yld.pure rfl) ?_
  iterate 2 refine RL.p rfl rfl ?_
  refine RL.knownT (d := 13) rfl rfl (by first | rfl | decide) ?_
  iterate 4 refine RL.q (.yes rfl rfl rfl) rfl rfl (Yld.pure rfl) ?_
  refine RL.knownF (d := 17) rfl rfl (by first | rfl | decide) ?_
  refine RL.q (.yes rfl rfl rfl) rfl rfl (Yld.fieldAddr fo124_3 rfl) ?_
  refine RL.q (.yes rfl rfl rfl) rfl rfl (Yld.load p9 rfl (at1 (hB.cell rfl))) ?_
  iterate 2 refine RL.q (.yes rfl rfl rfl) rfl rfl (Yld.pure rfl) ?_
  iterate 2 refine RL.p rfl rfl ?_
  refine RL.knownT (d := 23) rfl rfl (by first | rfl | decide) ?_
  iterate 4 refine RL.q (.yes rfl rfl rfl) rfl rfl (Yld.pure rfl) ?_
  refine RL.knownF (d := 27) rfl rfl (by first | rfl | decide) ?_
  refine RL.q (.yes rfl rfl rfl) rfl rfl (Yld.fieldAddr fo124_4 rfl) ?_
  refine RL.q (.yes rfl rfl rfl) rfl rfl (Yld.load p31 rfl (at1 (hB.cell rfl))) ?_
  iterate 2 refine RL.q (.yes rfl rfl rfl) rfl rfl (Yld.pure rfl) ?_
  refine RL.knownT (d := 31) rfl rfl (by first | rfl | decide) ?_
  refine RL.q (.yes rfl rfl rfl) rfl rfl (Yld.fieldAddr fo124_5 rfl) ?_
  refine RL.q (.yes rfl rfl rfl) rfl rfl (Yld.load p31 rfl (at1 (hB.cell rfl))) ?_
  iterate 3 refine RL.q (.yes rfl rfl rfl) rfl rfl (Yld.pure rfl) ?_
  iterate 2 refine RL.p rfl rfl ?_
  refine RL.knownT (d := 38) rfl rfl (by first | rfl | decide) ?_
  iterate 4 refine RL.q (.yes rfl rfl rfl) rfl rfl (Yld.pure rfl) ?_
  refine RL.knownF (d := 42) rfl rfl (by first | rfl | decide) ?_
  refine RL.q (.yes rfl rfl rfl) rfl rfl (Yld.fieldAddr fo124_6 rfl) ?_
  refine RL.q (.yes rfl rfl rfl) rfl rfl (Yld.load p3 rfl (at1 (hB.cell rfl))) ?_
  iterate 2 refine RL.q (.yes rfl rfl rfl) rfl rfl (Yld.pure rfl) ?_
  iterate 2 refine RL.p rfl rfl ?_
  refine RL.knownT (d := 48) rfl rfl (by first | rfl | decide) ?_
  iterate 4 refine RL.q (.yes rfl rfl rfl) rfl rfl (Yld.pure rfl) ?_
  refine RL.knownF (d := 52) rfl rfl (by first | rfl | decide) ?_
  refine RL.q (.yes rfl rfl rfl) rfl rfl (Yld.fieldAddr fo124_7 rfl) ?_
  refine RL.q (.yes rfl rfl rfl) rfl rfl (Yld.load p116 rfl (at1 (hB.cell rfl))) ?_
  refine RL.q (.yes rfl rfl rfl) rfl rfl (Yld.lenSl u116 rfl) ?_
  iterate 2 refine RL.q (.yes rfl rfl rfl) rfl rfl (Yld.pure rfl) ?_
  iterate 2 refine RL.p rfl rfl ?_
  refine RL.knownT (d := 59) rfl rfl (by first | rfl | decide) ?_
  iterate 4 refine RL.q (.yes rfl rfl rfl) rfl rfl (Yld.pure rfl) ?_
  refine RL.knownF (d := 63) rfl rfl (by first | rfl | decide) ?_
  refine RL.q (.yes rfl rfl rfl) rfl rfl (Yld.fieldAddr fo124_8 rfl) ?_
  refine RL.q (.yes rfl rfl rfl) rfl rfl (Yld.loadN (cs := band0) a119 rfl (atN (fldV hB 8 3))) ?_
  refine RL.op (.yes rfl rfl rfl) rfl rfl (Does.call rfl e303 (noBand0_ok _)) ?_
  rintro _ w2 ⟨rfl, hg2⟩
  have hB2 := hB.mod hg2 (fun h => h)
  refine RL.q (.yes rfl rfl rfl) rfl rfl (Yld.pure rfl) ?_
  iterate 2 refine RL.p rfl rfl ?_
  refine RL.knownT (d := 69) rfl rfl (by first | rfl | decide) ?_
  iterate 4 refine RL.q (.yes rfl rfl rfl) rfl rfl (Yld.pure rfl) ?_
  refine RL.knownF (d := 73) rfl rfl (by first | rfl | decide) ?_
  refine RL.q (.yes rfl rfl rfl) rfl rfl (Yld.fieldAddr fo124_9 rfl) ?_
  refine RL.q (.yes rfl rfl rfl) rfl rfl (Yld.loadN (cs := rule0) a121 rfl (atN (fldV hB2 11 6))) ?_
  refine RL.op (.yes rfl rfl rfl) rfl rfl (Does.call rfl e304 (noRule0_ok _)) ?_
  rintro _ w3 ⟨rfl, hg3⟩
  have hB3 := hB2.mod hg3 (fun h => h)
  refine RL.q (.yes rfl rfl rfl) rfl rfl (Yld.pure rfl) ?_
  iterate 2 refine RL.p rfl rfl ?_
  refine RL.knownT (d := 79) rfl rfl (by first | rfl | decide) ?_
  iterate 4 refine RL.q (.yes rfl rfl rfl) rfl rfl (Yld.pure rfl) ?_
  refine RL.knownF (d := 83) rfl rfl (by first | rfl | decide) ?_
  refine RL.q (.yes rfl rfl rfl) rfl rfl (Yld.fieldAddr fo124_10 rfl) ?_
  refine RL.q (.yes rfl rfl rfl) rfl rfl (Yld.load p122 rfl (at1 (hB3.cell rfl))) ?_
  refine RL.q (.yes rfl rfl rfl) rfl rfl (Yld.lenSl u122 rfl) ?_
  iterate 2 refine RL.q (.yes rfl rfl rfl) rfl rfl (Yld.pure rfl) ?_
  iterate 2 refine RL.p rfl rfl ?_
  refine RL.knownT (d := 90) rfl rfl (by first | rfl | decide) ?_
  iterate 4 refine RL.q (.yes rfl rfl rfl) rfl rfl (Yld.pure rfl) ?_
  refine RL.knownF (d := 94) rfl rfl (by first | rfl | decide) ?_
  refine RL.q (.yes rfl rfl rfl) rfl rfl (Yld.fieldAddr fo124_11 rfl) ?_
  refine RL.q (.yes rfl rfl rfl) rfl rfl (Yld.load p117 rfl (at1 (hB3.cell rfl))) ?_
  refine RL.op (.yes rfl rfl rfl) rfl rfl (Does.call rfl e305 (nought0_ok _)) ?_
  rintro _ _ ⟨rfl, rfl⟩
  refine RL.q (.yes rfl rfl rfl) rfl rfl (Yld.pure rfl) ?_
  iterate 2 refine RL.p rfl rfl ?_
  refine RL.done ?_
  refine RK.ret_of Tryz.func235 (res1 rfl rfl) ?_ _
  exact ⟨_, rfl, rfl, (hn1.grow.trans hg2).trans hg3⟩
theorem reqRight_ok (op : Int) (w : World) : Fx Tryz.prog 236 [.agg (reqC ⟨#[]⟩ op).toArray, .int .i64 0] w (fun u w' => u = .bool true ∧ Grow w w') := by
  refine enter Tryz.func236 rfl rfl rfl _ (Pick.sub (l := [0, 1]) (.cons rfl (.cons rfl .nil))) ?_
  refine RK.seq ?_
  refine RK.region ?_
  refine RL.op (.free rfl) rfl rfl (Does.box rfl) ?_
  rintro _ w1 ⟨b1, rfl, hn1⟩
  have hB : Blk w1 b1 124 (reqC ⟨#[]⟩ op) := hn1.blk
  refine RL.p rfl rfl ?_
  refine RL.done ?_
  refine RK.seq ?_
  refine RK.region ?_
  refine RL.q (.free rfl) rfl rfl (Yld.fieldAddr fo124_2 rfl) ?_
  refine RL.q (.free rfl) rfl rfl (Yld.load p3 rfl (at1 (hB.cell rfl))) ?_
  iterate 2 refine RL.p rfl rfl ?_
  refine RL.knownT (d := 8) rfl rfl (by first | rfl | decide) ?_
  refine RL.q (.yes rfl rfl rfl) rfl rfl (Yld.fieldAddr fo124_2 rfl) ?_
  refine RL.q (.yes rfl rfl rfl) rfl rfl (Yld.load p3 rfl (at1 (hB.cell rfl))) ?_
  refine RL.q (.yes rfl rfl rfl) rfl rfl (Yld.pure rfl) ?_
  iterate 2 refine RL.p rfl rfl ?_
  refine RL.knownT (d := 13) rfl rfl (by first | rfl | decide) ?_
  iterate 4 refine RL.q (.yes rfl rfl rfl) rfl rfl (Yld.pure rfl) ?_
  refine RL.knownT (d := 17) rfl rfl (by first | rfl | decide) ?_
  iterate 3 refine RL.no (.no rfl rfl rfl rfl) rfl rfl ?_
  refine RL.q (.yes rfl rfl rfl) rfl rfl (Yld.pure rfl) ?_
  iterate 2 refine RL.p rfl rfl ?_
  refine RL.q (.yes rfl rfl rfl) rfl rfl (Yld.fieldAddr fo124_4 rfl) ?_
  refine RL.q (.yes rfl rfl rfl) rfl rfl (Yld.load p31 rfl (at1 (hB.cell rfl))) ?_
  refine RL.q (.yes rfl rfl rfl) rfl rfl (Yld.pure rfl) ?_
  iterate 2 refine RL.p rfl rfl ?_
  refine RL.knownT (d := 28) rfl rfl (by first | rfl | decide) ?_
  refine RL.q (.yes rfl rfl rfl) rfl rfl (Yld.fieldAddr fo124_5 rfl) ?_
  refine RL.q (.yes rfl rfl rfl) rfl rfl (Yld.load p31 rfl (at1 (hB.cell rfl))) ?_
  refine RL.q (.yes rfl rfl rfl) rfl rfl (Yld.pure rfl) ?_
  iterate 2 refine RL.p rfl rfl ?_
  refine RL.knownT (d := 33) rfl rfl (by first | rfl | decide) ?_
  refine RL.q (.yes rfl rfl rfl) rfl rfl (Yld.fieldAddr fo124_6 rfl) ?_
  refine RL.q (.yes rfl rfl rfl) rfl rfl (Yld.load p3 rfl (at1 (hB.cell rfl))) ?_
  refine RL.q (.yes rfl rfl rfl) rfl rfl (Yld.pure rfl) ?_
  iterate 2 refine RL.p rfl rfl ?_
  refine RL.knownT (d := 38) rfl rfl (by first | rfl | decide) ?_
  refine RL.q (.yes rfl rfl rfl) rfl rfl (Yld.fieldAddr fo124_6 rfl) ?_
  refine RL.q (.yes rfl rfl rfl) rfl rfl (Yld.load p3 rfl (at1 (hB.cell rfl))) ?_
  refine RL.q (.yes rfl rfl rfl) rfl rfl (Yld.pure rfl) ?_
  iterate 2 refine RL.p rfl rfl ?_
  refine RL.knownT (d := 43) rfl rfl (by first | rfl | decide) ?_
  refine RL.q (.yes rfl rfl rfl) rfl rfl (Yld.fieldAddr fo124_7 rfl) ?_
  refine RL.q (.yes rfl rfl rfl) rfl rfl (Yld.load p116 rfl (at1 (hB.cell rfl))) ?_
  refine RL.op (.yes rfl rfl rfl) rfl rfl (Does.call rfl e218 (mlist0_ok _)) ?_
  rintro _ _ ⟨rfl, rfl⟩
  iterate 2 refine RL.p rfl rfl ?_
  refine RL.knownT (d := 48) rfl rfl (by first | rfl | decide) ?_
  iterate 4 refine RL.q (.yes rfl rfl rfl) rfl rfl (Yld.pure rfl) ?_
  refine RL.knownT (d := 52) rfl rfl (by first | rfl | decide) ?_
  iterate 4 refine RL.no (.no rfl rfl rfl rfl) rfl rfl ?_
  refine RL.q (.yes rfl rfl rfl) rfl rfl (Yld.pure rfl) ?_
  iterate 2 refine RL.p rfl rfl ?_
  iterate 4 refine RL.q (.yes rfl rfl rfl) rfl rfl (Yld.pure rfl) ?_
  refine RL.knownT (d := 63) rfl rfl (by first | rfl | decide) ?_
  iterate 3 refine RL.no (.no rfl rfl rfl rfl) rfl rfl ?_
  refine RL.q (.yes rfl rfl rfl) rfl rfl (Yld.pure rfl) ?_
  iterate 2 refine RL.p rfl rfl ?_
  iterate 4 refine RL.q (.yes rfl rfl rfl) rfl rfl (Yld.pure rfl) ?_
  refine RL.knownT (d := 73) rfl rfl (by first | rfl | decide) ?_
  iterate 3 refine RL.no (.no rfl rfl rfl rfl) rfl rfl ?_
  refine RL.q (.yes rfl rfl rfl) rfl rfl (Yld.pure rfl) ?_
  iterate 2 refine RL.p rfl rfl ?_
  iterate 4 refine RL.q (.yes rfl rfl rfl) rfl rfl (Yld.pure rfl) ?_
  refine RL.knownT (d := 83) rfl rfl (by first | rfl | decide) ?_
  iterate 3 refine RL.no (.no rfl rfl rfl rfl) rfl rfl ?_
  refine RL.q (.yes rfl rfl rfl) rfl rfl (Yld.pure rfl) ?_
  iterate 2 refine RL.p rfl rfl ?_
  refine RL.done ?_
  refine RK.ret_of Tryz.func236 (res1 rfl rfl) ?_ _
  exact ⟨_, rfl, rfl, hn1.grow⟩
theorem reqMay1_ok (w : World) : Fx Tryz.prog 177 [.agg (reqC ⟨#[]⟩ 1).toArray] w (fun u w' => u = .bool true ∧ Grow w w') := by
  refine enter Tryz.func177 rfl rfl rfl _ (Pick.sub (l := [0]) (.cons rfl .nil)) ?_
  refine RK.seq ?_
  refine RK.region ?_
  refine RL.op (.free rfl) rfl rfl (Does.box rfl) ?_
  rintro _ w1 ⟨b1, rfl, hn1⟩
  have hB : Blk w1 b1 124 (reqC ⟨#[]⟩ 1) := hn1.blk
  refine RL.p rfl rfl ?_
  refine RL.done ?_
  refine RK.seq ?_
  refine RK.region ?_
  refine RL.q (.free rfl) rfl rfl (Yld.fieldAddr fo124_1 rfl) ?_
  refine RL.q (.free rfl) rfl rfl (Yld.load p3 rfl (at1 (hB.cell rfl))) ?_
  refine RL.op (.free rfl) rfl rfl (Does.call rfl e165 (reqFields1_ok _)) ?_
  rintro _ _ ⟨rfl, rfl⟩
  iterate 5 refine RL.p rfl rfl ?_
  refine RL.done ?_
  refine RK.seq ?_
  refine RK.region ?_
  iterate 2 refine RL.p rfl rfl ?_
  refine RL.knownT (d := 12) rfl rfl (rfl) ?_
  refine RL.q (.yes rfl rfl rfl) rfl rfl (Yld.loadN (cs := reqC ⟨#[]⟩ 1) a124 rfl (atN (blkV hB))) ?_
  refine RL.q (.yes rfl rfl rfl) rfl rfl (Yld.pure rfl) ?_
  refine RL.op (.yes rfl rfl rfl) rfl rfl (Does.call rfl e235 (reqZero_ok 1 _)) ?_
  rintro _ w2 ⟨rfl, hg2⟩
  iterate 2 refine RL.p rfl rfl ?_
  refine RL.knownT (d := 17) rfl rfl (rfl) ?_
  refine RL.q (.yes rfl rfl rfl) rfl rfl (Yld.loadN (cs := reqC ⟨#[]⟩ 1) a124 rfl (atN (blkV (hB.mod hg2 (fun h => h))))) ?_
  refine RL.q (.yes rfl rfl rfl) rfl rfl (Yld.pure rfl) ?_
  refine RL.op (.yes rfl rfl rfl) rfl rfl (Does.call rfl e236 (reqRight_ok 1 _)) ?_
  rintro _ w3 ⟨rfl, hg3⟩
  iterate 2 refine RL.p rfl rfl ?_
  refine RL.done ?_
  refine RK.ret_of Tryz.func177 (res1 rfl rfl) ?_ _
  exact ⟨_, rfl, rfl, (hn1.grow.trans hg2).trans hg3⟩
theorem reqMay0_ok (w : World) : Fx Tryz.prog 177 [.agg (reqC ⟨#[]⟩ 0).toArray] w (fun u w' => u = .bool false ∧ Grow w w') := by
  refine enter Tryz.func177 rfl rfl rfl _ (Pick.sub (l := [0]) (.cons rfl .nil)) ?_
  refine RK.seq ?_
  refine RK.region ?_
  refine RL.op (.free rfl) rfl rfl (Does.box rfl) ?_
  rintro _ w1 ⟨b1, rfl, hn1⟩
  have hB : Blk w1 b1 124 (reqC ⟨#[]⟩ 0) := hn1.blk
  refine RL.p rfl rfl ?_
  refine RL.done ?_
  refine RK.seq ?_
  refine RK.region ?_
  refine RL.q (.free rfl) rfl rfl (Yld.fieldAddr fo124_1 rfl) ?_
  refine RL.q (.free rfl) rfl rfl (Yld.load p3 rfl (at1 (hB.cell rfl))) ?_
  refine RL.op (.free rfl) rfl rfl (Does.call rfl e165 (reqFields0_ok _)) ?_
  rintro _ _ ⟨rfl, rfl⟩
  iterate 5 refine RL.p rfl rfl ?_
  refine RL.done ?_
  refine RK.seq ?_
  refine RK.region ?_
  iterate 2 refine RL.p rfl rfl ?_
  refine RL.knownF (d := 12) rfl rfl (rfl) ?_
  iterate 3 refine RL.no (.no rfl rfl rfl rfl) rfl rfl ?_
  iterate 2 refine RL.p rfl rfl ?_
  iterate 3 refine RL.no (.no rfl rfl rfl rfl) rfl rfl ?_
  iterate 2 refine RL.p rfl rfl ?_
  refine RL.done ?_
  refine RK.ret_of Tryz.func177 (res1 rfl rfl) ?_ _
  exact ⟨_, rfl, rfl, hn1.grow⟩
theorem reqRead1_ok {N : Nat} {w : World} {p : Nat} {ad : Option Addr} {c : Nat} {bs : List UInt8} {i : Nat} (h : Rd N w p ad c bs i false) (hd : bs.drop i = [1]) : Fx Tryz.prog 125 [pp p] w (fun u w' => u = .agg (reqC ⟨#[]⟩ 1).toArray ∧ Rd N w' p ad c bs (i + 1) false ∧ Mod (· = p) w w') := by
  have hpN := h.pN
  have hplt := h.blk.lt
  refine enter Tryz.func125 rfl rfl rfl _ (Pick.sub (l := [0]) (.cons rfl .nil)) ?_
  refine RK.seq ?_
  refine RK.region ?_
  refine RL.op (.free rfl) rfl rfl (Does.alloc i124) ?_
  rintro _ w2 ⟨b2, rfl, hn2⟩
  have h2 := h.grow hn2.grow
  have ha2 := hn2.at_
  have hz2 := hn2.size
  refine RL.done ?_
  refine RK.seq ?_
  refine RK.region ?_
  refine RL.p rfl rfl ?_
  refine RL.op (.free rfl) rfl rfl (Does.call rfl e164 (byteT_ok h2 1 (by decide) [] hd)) ?_
  rintro _ w3 ⟨rfl, h3, hm3⟩
  have hz3 := hm3.size
  refine RL.q (.free rfl) rfl rfl (Yld.convI Tryz.underlying5 Tryz.underlying3 rfl) ?_
  refine RL.q (.free rfl) rfl rfl (Yld.build (v := .agg (reqC ⟨#[]⟩ 1).toArray) rfl (fun w => by kernel_rfl)) ?_
  refine RL.op (.free rfl) rfl rfl (Does.alloc i124) ?_
  rintro _ w4 ⟨b4, rfl, hn4⟩
  have ha4 := hn4.at_
  have hz4 := hn4.size
  have h4' := h3.grow hn4.grow
  refine RL.op' (.free rfl) rfl (Does.storeN i124 rfl rfl rfl rfl hn4.blk (Nat.le_refl 19)) ?_
  rintro _ w5 ⟨hb5, hm5, hs5⟩
  have hB5 : Blk w5 b4 124 (reqC ⟨#[]⟩ 1) := hb5
  have h5 := h4'.mod hm5 (fun e => by have e' : p = b4 := e; omega) (fun b e => by have e' : b = b4 := e; omega)
  refine RL.done ?_
  refine RK.seq ?_
  refine RK.region ?_
  refine RL.q (.free rfl) rfl rfl (Yld.fieldAddr fo124_1 rfl) ?_
  refine RL.q (.free rfl) rfl rfl (Yld.load p3 rfl (at1 (hB5.cell rfl))) ?_
  refine RL.op (.free rfl) rfl rfl (Does.call rfl e165 (reqFields1_ok _)) ?_
  rintro _ _ ⟨rfl, rfl⟩
  iterate 5 refine RL.p rfl rfl ?_
  refine RL.done ?_
  refine RK.seq ?_
  refine RK.region ?_
  iterate 2 refine RL.p rfl rfl ?_
  refine RL.op (.free rfl) rfl rfl (Does.call rfl e124 (refuseT_ok h5)) ?_
  rintro _ w6 ⟨h6, hm6⟩
  have hB6 := hB5.mod hm6 (fun e => by have e' : b4 = p := e; omega)
  refine RL.done ?_
  iterate 2 refine RK.seq ?_
  refine RK.region ?_
  iterate 3 refine RL.p rfl rfl ?_
  refine RL.done ?_
  refine RK.condF (hcF rfl (by first | rfl | decide)) ?_
  refine RK.skip ?_
  iterate 2 refine RK.seq ?_
  refine RK.region ?_
  iterate 3 refine RL.p rfl rfl ?_
  refine RL.done ?_
  refine RK.condF (hcF rfl (by first | rfl | decide)) ?_
  refine RK.skip ?_
  iterate 2 refine RK.seq ?_
  refine RK.region ?_
  iterate 3 refine RL.p rfl rfl ?_
  refine RL.done ?_
  refine RK.condF (hcF rfl (by first | rfl | decide)) ?_
  refine RK.skip ?_
  iterate 2 refine RK.seq ?_
  refine RK.region ?_
  iterate 3 refine RL.p rfl rfl ?_
  refine RL.done ?_
  refine RK.condF (hcF rfl (by first | rfl | decide)) ?_
  refine RK.skip ?_
  iterate 2 refine RK.seq ?_
  refine RK.region ?_
  iterate 3 refine RL.p rfl rfl ?_
  refine RL.done ?_
  refine RK.condF (hcF rfl (by first | rfl | decide)) ?_
  refine RK.skip ?_
  iterate 2 refine RK.seq ?_
  refine RK.region ?_
  iterate 3 refine RL.p rfl rfl ?_
  refine RL.done ?_
  refine RK.condF (hcF rfl (by first | rfl | decide)) ?_
  refine RK.skip ?_
  iterate 2 refine RK.seq ?_
  refine RK.region ?_
  iterate 3 refine RL.p rfl rfl ?_
  refine RL.done ?_
  refine RK.condF (hcF rfl (by first | rfl | decide)) ?_
  refine RK.skip ?_
  iterate 2 refine RK.seq ?_
  refine RK.region ?_
  iterate 3 refine RL.p rfl rfl ?_
  refine RL.done ?_
  refine RK.condF (hcF rfl (by first | rfl | decide)) ?_
  refine RK.skip ?_
  iterate 2 refine RK.seq ?_
  refine RK.region ?_
  iterate 3 refine RL.p rfl rfl ?_
  refine RL.done ?_
  refine RK.condF (hcF rfl (by first | rfl | decide)) ?_
  refine RK.skip ?_
  refine RK.seq ?_
  refine RK.region ?_
  refine RL.p rfl rfl ?_
  refine RL.q (.free rfl) rfl rfl (Yld.loadN (cs := reqC ⟨#[]⟩ 1) a124 rfl (atN (blkV hB6))) ?_
  refine RL.op (.free rfl) rfl rfl (Does.call rfl e177 (reqMay1_ok _)) ?_
  rintro _ w7 ⟨rfl, hg7⟩
  have hB7 := hB6.mod hg7 (fun h => h)
  refine RL.op (.free rfl) rfl rfl (Does.call rfl e124 (refuseT_ok (h6.grow hg7))) ?_
  rintro _ w8 ⟨h8, hm8⟩
  have hB8 := hB7.mod hm8 (fun e => by have e' : b4 = p := e; omega)
  have hmod : Mod (· = p) w w8 := ((((Mod.any' hn2.grow).trans hm3).trans (Mod.any' hn4.grow)).then hm5 (fun b hb e => by have e' : b = b4 := e; omega)).trans ((hm6.trans (Mod.any' hg7)).trans hm8)
  have hb2' : Blk w8 b2 124 _ := (((((hn2.blk.mod hm3 (fun e => by have e' : b2 = p := e; omega)).mod hn4.grow (fun h => h)).mod hm5 (fun e => by have e' : b2 = b4 := e; omega)).mod hm6 (fun e => by have e' : b2 = p := e; omega)).mod hg7 (fun h => h)).mod hm8 (fun e => by have e' : b2 = p := e; omega)
  refine RL.done ?_
  refine RK.seq ?_
  refine RK.region ?_
  refine RL.q (.free rfl) rfl rfl (Yld.loadN (cs := reqC ⟨#[]⟩ 1) a124 rfl (atN (blkV hB8))) ?_
  refine RL.op' (.free rfl) rfl (Does.storeN i124 rfl rfl rfl rfl hb2' (Nat.le_refl 19)) ?_
  rintro _ w9 ⟨hb9, hm9, hs9⟩
  refine RL.done ?_
  refine RK.ret_of Tryz.func125 (resC (cs := reqC ⟨#[]⟩ 1) rfl rfl a124 hb9) ?_ _
  exact ⟨_, rfl, rfl, h8.mod hm9 (fun e => by have e' : p = b2 := e; omega) (fun b e => by have e' : b = b2 := e; omega), hmod.then hm9 (fun b hb e => by have e' : b = b2 := e; omega)⟩
theorem reqRead0_ok {N : Nat} {w : World} {p : Nat} {ad : Option Addr} {c : Nat} {bs : List UInt8} {i : Nat} (h : Rd N w p ad c bs i true) : Fx Tryz.prog 125 [pp p] w (fun u w' => u = .agg (reqC ⟨#[]⟩ 0).toArray ∧ Rd N w' p ad c bs i true ∧ Mod (· = p) w w') := by
  have hpN := h.pN
  have hplt := h.blk.lt
  refine enter Tryz.func125 rfl rfl rfl _ (Pick.sub (l := [0]) (.cons rfl .nil)) ?_
  refine RK.seq ?_
  refine RK.region ?_
  refine RL.op (.free rfl) rfl rfl (Does.alloc i124) ?_
  rintro _ w2 ⟨b2, rfl, hn2⟩
  have h2 := h.grow hn2.grow
  have ha2 := hn2.at_
  have hz2 := hn2.size
  refine RL.done ?_
  refine RK.seq ?_
  refine RK.region ?_
  refine RL.p rfl rfl ?_
  refine RL.op (.free rfl) rfl rfl (Does.call rfl e164 (byteF_ok h2)) ?_
  rintro _ w3 ⟨rfl, h3, hm3⟩
  have hz3 := hm3.size
  refine RL.q (.free rfl) rfl rfl (Yld.convI Tryz.underlying5 Tryz.underlying3 rfl) ?_
  refine RL.q (.free rfl) rfl rfl (Yld.build (v := .agg (reqC ⟨#[]⟩ 0).toArray) rfl (fun w => by kernel_rfl)) ?_
  refine RL.op (.free rfl) rfl rfl (Does.alloc i124) ?_
  rintro _ w4 ⟨b4, rfl, hn4⟩
  have ha4 := hn4.at_
  have hz4 := hn4.size
  have h4' := h3.grow hn4.grow
  refine RL.op' (.free rfl) rfl (Does.storeN i124 rfl rfl rfl rfl hn4.blk (Nat.le_refl 19)) ?_
  rintro _ w5 ⟨hb5, hm5, hs5⟩
  have hB5 : Blk w5 b4 124 (reqC ⟨#[]⟩ 0) := hb5
  have h5 := h4'.mod hm5 (fun e => by have e' : p = b4 := e; omega) (fun b e => by have e' : b = b4 := e; omega)
  refine RL.done ?_
  refine RK.seq ?_
  refine RK.region ?_
  refine RL.q (.free rfl) rfl rfl (Yld.fieldAddr fo124_1 rfl) ?_
  refine RL.q (.free rfl) rfl rfl (Yld.load p3 rfl (at1 (hB5.cell rfl))) ?_
  refine RL.op (.free rfl) rfl rfl (Does.call rfl e165 (reqFields0_ok _)) ?_
  rintro _ _ ⟨rfl, rfl⟩
  iterate 5 refine RL.p rfl rfl ?_
  refine RL.done ?_
  refine RK.seq ?_
  refine RK.region ?_
  iterate 2 refine RL.p rfl rfl ?_
  refine RL.op (.free rfl) rfl rfl (Does.call rfl e124 (refuseF_ok h5 false (by simp))) ?_
  rintro _ w6 ⟨h6, hm6⟩
  have hB6 := hB5.mod hm6 (fun e => by have e' : b4 = p := e; omega)
  refine RL.done ?_
  iterate 2 refine RK.seq ?_
  refine RK.region ?_
  iterate 3 refine RL.p rfl rfl ?_
  refine RL.done ?_
  refine RK.condF (hcF rfl (by first | rfl | decide)) ?_
  refine RK.skip ?_
  iterate 2 refine RK.seq ?_
  refine RK.region ?_
  iterate 3 refine RL.p rfl rfl ?_
  refine RL.done ?_
  refine RK.condF (hcF rfl (by first | rfl | decide)) ?_
  refine RK.skip ?_
  iterate 2 refine RK.seq ?_
  refine RK.region ?_
  iterate 3 refine RL.p rfl rfl ?_
  refine RL.done ?_
  refine RK.condF (hcF rfl (by first | rfl | decide)) ?_
  refine RK.skip ?_
  iterate 2 refine RK.seq ?_
  refine RK.region ?_
  iterate 3 refine RL.p rfl rfl ?_
  refine RL.done ?_
  refine RK.condF (hcF rfl (by first | rfl | decide)) ?_
  refine RK.skip ?_
  iterate 2 refine RK.seq ?_
  refine RK.region ?_
  iterate 3 refine RL.p rfl rfl ?_
  refine RL.done ?_
  refine RK.condF (hcF rfl (by first | rfl | decide)) ?_
  refine RK.skip ?_
  iterate 2 refine RK.seq ?_
  refine RK.region ?_
  iterate 3 refine RL.p rfl rfl ?_
  refine RL.done ?_
  refine RK.condF (hcF rfl (by first | rfl | decide)) ?_
  refine RK.skip ?_
  iterate 2 refine RK.seq ?_
  refine RK.region ?_
  iterate 3 refine RL.p rfl rfl ?_
  refine RL.done ?_
  refine RK.condF (hcF rfl (by first | rfl | decide)) ?_
  refine RK.skip ?_
  iterate 2 refine RK.seq ?_
  refine RK.region ?_
  iterate 3 refine RL.p rfl rfl ?_
  refine RL.done ?_
  refine RK.condF (hcF rfl (by first | rfl | decide)) ?_
  refine RK.skip ?_
  iterate 2 refine RK.seq ?_
  refine RK.region ?_
  iterate 3 refine RL.p rfl rfl ?_
  refine RL.done ?_
  refine RK.condF (hcF rfl (by first | rfl | decide)) ?_
  refine RK.skip ?_
  refine RK.seq ?_
  refine RK.region ?_
  refine RL.p rfl rfl ?_
  refine RL.q (.free rfl) rfl rfl (Yld.loadN (cs := reqC ⟨#[]⟩ 0) a124 rfl (atN (blkV hB6))) ?_
  refine RL.op (.free rfl) rfl rfl (Does.call rfl e177 (reqMay0_ok _)) ?_
  rintro _ w7 ⟨rfl, hg7⟩
  have hB7 := hB6.mod hg7 (fun h => h)
  refine RL.op (.free rfl) rfl rfl (Does.call rfl e124 (refuseF_ok (h6.grow hg7) false (by simp))) ?_
  rintro _ w8 ⟨h8, hm8⟩
  have hB8 := hB7.mod hm8 (fun e => by have e' : b4 = p := e; omega)
  have hmod : Mod (· = p) w w8 := ((((Mod.any' hn2.grow).trans hm3).trans (Mod.any' hn4.grow)).then hm5 (fun b hb e => by have e' : b = b4 := e; omega)).trans ((hm6.trans (Mod.any' hg7)).trans hm8)
  have hb2' : Blk w8 b2 124 _ := (((((hn2.blk.mod hm3 (fun e => by have e' : b2 = p := e; omega)).mod hn4.grow (fun h => h)).mod hm5 (fun e => by have e' : b2 = b4 := e; omega)).mod hm6 (fun e => by have e' : b2 = p := e; omega)).mod hg7 (fun h => h)).mod hm8 (fun e => by have e' : b2 = p := e; omega)
  refine RL.done ?_
  refine RK.seq ?_
  refine RK.region ?_
  refine RL.q (.free rfl) rfl rfl (Yld.loadN (cs := reqC ⟨#[]⟩ 0) a124 rfl (atN (blkV hB8))) ?_
  refine RL.op' (.free rfl) rfl (Does.storeN i124 rfl rfl rfl rfl hb2' (Nat.le_refl 19)) ?_
  rintro _ w9 ⟨hb9, hm9, hs9⟩
  refine RL.done ?_
  refine RK.ret_of Tryz.func125 (resC (cs := reqC ⟨#[]⟩ 0) rfl rfl a124 hb9) ?_ _
  exact ⟨_, rfl, rfl, h8.mod hm9 (fun e => by have e' : p = b2 := e; omega) (fun b e => by have e' : b = b2 := e; omega), hmod.then hm9 (fun b hb e => by have e' : b = b2 := e; omega)⟩
end Go.Proofs.YtcndimkkojdflaaGreatDoor
set_option linter.unusedVariables false
set_option linter.unusedSimpArgs false
set_option maxHeartbeats 6400000
set_option maxRecDepth 100000
namespace Go.Proofs.YtcndimkkojdflaaGreatDoor
open Go Go.X
theorem Yld.eqK {P : Program} {n : Nat} {e : Env} {C : World → Prop} {d : Option Tmp} {t : Nat} {x y : Operand} {t' ty : TypeId} {pos : String} {af : Array Edge} {g : Option (Nat × Bool)} {vx vy v : Value} (hx : ev e x = some vx) (hy : ev e y = some vy) (hr : ∀ w, ((do eqGuard .eql t x y vx vy; binOp .eql t vx vy) : Sem Value).run P w = .ok v w) : Yld P n C e ⟨d, .binOp .eql t x y t', ty, pos, af, g⟩ v := by
  intro a ha w _
  have h := hr w
  simp only [Sem.run_bind] at h
  simp only [execOp, ha.ev hx, ha.ev hy, Sem.run_bind]
  rw [h]
  simp
@[reducible] def head0 : List Value := [.int .u8 0, .int .u8 0, .int .u8 0, .int .u8 0, .int .u8 0, .int .u8 0, .int .u8 0, .int .u8 0, .int .u8 0, .int .u8 0, .int .u8 0, .int .u8 0, .int .u8 0, .int .u8 0, .int .u8 0, .int .u8 0, .int .u8 0, .int .u8 0, .int .u8 0, .int .u8 0, .int .u8 0, .int .u8 0, .int .u8 0, .int .u8 0, .int .u8 0, .int .u8 0, .int .u8 0, .int .u8 0, .int .u8 0, .int .u8 0, .int .u8 0, .int .u8 0]
@[reducible] def respC (code op id now : Int) : List Value := [.int .i64 code, .int .i64 op, .int .i64 id, .slice none 0 0, .slice none 0 0, .slice none 0 0, .slice none 0 0, .int .u8 0, .int .u8 0, .int .u8 0, .int .u8 0, .int .u8 0, .int .u8 0, .int .u8 0, .int .u8 0, .int .u8 0, .int .u8 0, .int .u8 0, .int .u8 0, .int .u8 0, .int .u8 0, .int .u8 0, .int .u8 0, .int .u8 0, .int .u8 0, .int .u8 0, .int .u8 0, .int .u8 0, .int .u8 0, .int .u8 0, .int .u8 0, .int .u8 0, .int .u8 0, .int .u8 0, .int .u8 0, .int .u8 0, .int .u8 0, .int .u8 0, .int .u8 0, .int .u64 now]
theorem rowsIs0_ok (w : World) : Fx Tryz.prog 214 [.slice none 0 0] w (fun u w' => u = .bool true ∧ w = w') := by
  refine enter Tryz.func214 rfl rfl rfl _ (Pick.sub (l := [0]) (.cons rfl .nil)) ?_
  refine RK.seq ?_
  refine RK.region ?_
  refine RL.p rfl rfl ?_
  refine RL.done ?_
  iterate 2 refine RK.seq ?_
  refine RK.region ?_
  refine RL.p rfl rfl ?_
  refine RL.done ?_
  refine RK.block ?_
  refine RK.loop (fun s : Unit => [(0, .slice none 0 0), (3, .int .i64 1)]) (fun s w' => w = w') (fun s => 0) () ⟨rfl, rfl, trivial⟩ rfl (fun s w' hI ih => ?_)
  subst hI
  iterate 2 refine RK.seq ?_
  refine RK.region ?_
  iterate 2 refine RL.p rfl rfl ?_
  refine RL.q (.free rfl) rfl rfl (Yld.lenSl u63 rfl) ?_
  refine RL.p rfl rfl ?_
  refine RL.done ?_
  refine RK.condF (hcF rfl (rfl)) ?_
  refine RK.exit rfl ?_
  refine RK.seq ?_
  refine RK.region ?_
  refine RL.p rfl rfl ?_
  refine RL.done ?_
  refine RK.ret_of Tryz.func214 (res1 rfl rfl) ?_ _
  exact ⟨_, rfl, rfl, rfl⟩
theorem ixFuncI0_ok (f : Value) (w : World) : Fx Tryz.prog 279 [.slice none 0 0, f] w (fun u w' => u = .int .i64 (-1) ∧ w = w') := by
  refine enter Tryz.func279 rfl rfl rfl _ (Pick.sub (l := [0, 1]) (.cons rfl (.cons rfl .nil))) ?_
  refine RK.seq ?_
  refine RK.region ?_
  refine RL.p rfl rfl ?_
  refine RL.done ?_
  iterate 2 refine RK.seq ?_
  refine RK.region ?_
  refine RL.p rfl rfl ?_
  refine RL.q (.free rfl) rfl rfl (Yld.lenSl u63 rfl) ?_
  refine RL.p rfl rfl ?_
  refine RL.done ?_
  refine RK.block ?_
  refine RK.loop (fun s : Unit => [(7, .int .i64 0), (8, .int .i64 0)]) (fun s w' => w = w') (fun s => 0) () ⟨rfl, rfl, trivial⟩ rfl (fun s w' hI ih => ?_)
  subst hI
  refine RK.seq ?_
  refine RK.region ?_
  refine RL.p rfl rfl ?_
  refine RL.done ?_
  refine RK.seq ?_
  refine RK.condF (hcF rfl (rfl)) ?_
  refine RK.exit rfl ?_
  refine RK.seq ?_
  refine RK.region ?_
  refine RL.p rfl rfl ?_
  refine RL.done ?_
  refine RK.ret_of Tryz.func279 (res1 rfl rfl) ?_ _
  exact ⟨_, rfl, rfl, rfl⟩
theorem conFuncI0_ok (f : Value) (w : World) : Fx Tryz.prog 212 [.slice none 0 0, f] w (fun u w' => u = .bool false ∧ w = w') := by
  refine enter Tryz.func212 rfl rfl rfl _ (Pick.sub (l := [0, 1]) (.cons rfl (.cons rfl .nil))) ?_
  refine RK.seq ?_
  refine RK.region ?_
  refine RL.p rfl rfl ?_
  refine RL.done ?_
  refine RK.seq ?_
  refine RK.region ?_
  iterate 2 refine RL.p rfl rfl ?_
  refine RL.op (.free rfl) rfl rfl (Does.call rfl e279 (ixFuncI0_ok f _)) ?_
  rintro _ _ ⟨rfl, rfl⟩
  iterate 2 refine RL.p rfl rfl ?_
  refine RL.done ?_
  refine RK.ret_of Tryz.func212 (res1 rfl rfl) ?_ _
  exact ⟨_, rfl, rfl, rfl⟩
theorem numbers0_ok (most : Nat) (r : Bool) (w : World) : Fx Tryz.prog 139 [.slice none 0 0, .int .i64 (most : Int), .bool r] w (fun u w' => u = .bool true ∧ w = w') := by
  refine enter Tryz.func139 rfl rfl rfl _ (Pick.sub (l := [0, 1, 2]) (.cons rfl (.cons rfl (.cons rfl .nil)))) ?_
  refine RK.seq ?_
  refine RK.region ?_
  refine RL.p rfl rfl ?_
  refine RL.done ?_
  iterate 2 refine RK.seq ?_
  refine RK.region ?_
  refine RL.p rfl rfl ?_
  refine RL.op (.free rfl) rfl rfl (Does.call rfl e212 (conFuncI0_ok _ _)) ?_
  rintro _ _ ⟨rfl, rfl⟩
  refine RL.p rfl rfl ?_
  refine RL.knownF (d := 9) rfl rfl (rfl) ?_
  refine RL.q (.yes rfl rfl rfl) rfl rfl (Yld.pure rfl) ?_
  refine RL.q (.yes rfl rfl rfl) rfl rfl (Yld.lenSl u63 rfl) ?_
  iterate 2 refine RL.q (.yes rfl rfl rfl) rfl rfl (Yld.pure rfl) ?_
  refine RL.p rfl rfl ?_
  refine RL.done ?_
  refine RK.condF (hcF rfl (decide_eq_false (by omega))) ?_
  refine RK.skip ?_
  refine RK.seq ?_
  refine RK.region ?_
  refine RL.p rfl rfl ?_
  refine RL.op (.free rfl) rfl rfl (Does.call rfl e214 (rowsIs0_ok _)) ?_
  rintro _ _ ⟨rfl, rfl⟩
  refine RL.p rfl rfl ?_
  refine RL.knownT (d := 17) rfl rfl (rfl) ?_
  iterate 10 refine RL.no (.no rfl rfl rfl rfl) rfl rfl ?_
  iterate 2 refine RL.p rfl rfl ?_
  refine RL.done ?_
  refine RK.ret_of Tryz.func139 (res1 rfl rfl) ?_ _
  exact ⟨_, rfl, rfl, rfl⟩
theorem silences0_ok (w : World) : Fx Tryz.prog 140 [.slice none 0 0] w (fun u w' => u = .bool true ∧ w = w') := by
  refine enter Tryz.func140 rfl rfl rfl _ (Pick.sub (l := [0]) (.cons rfl .nil)) ?_
  refine RK.seq ?_
  refine RK.region ?_
  refine RL.p rfl rfl ?_
  refine RL.done ?_
  iterate 2 refine RK.seq ?_
  refine RK.region ?_
  refine RL.p rfl rfl ?_
  refine RL.q (.free rfl) rfl rfl (Yld.lenSl u104 rfl) ?_
  refine RL.p rfl rfl ?_
  refine RL.done ?_
  refine RK.condF (hcF rfl (rfl)) ?_
  refine RK.skip ?_
  iterate 2 refine RK.seq ?_
  refine RK.region ?_
  refine RL.p rfl rfl ?_
  refine RL.q (.free rfl) rfl rfl (Yld.lenSl u104 rfl) ?_
  refine RL.p rfl rfl ?_
  refine RL.done ?_
  refine RK.block ?_
  refine RK.loop (fun s : Unit => [(9, .int .i64 0), (10, .int .i64 0)]) (fun s w' => w = w') (fun s => 0) () ⟨rfl, rfl, trivial⟩ rfl (fun s w' hI ih => ?_)
  subst hI
  refine RK.seq ?_
  refine RK.region ?_
  refine RL.p rfl rfl ?_
  refine RL.done ?_
  refine RK.seq ?_
  refine RK.condF (hcF rfl (rfl)) ?_
  refine RK.exit rfl ?_
  refine RK.seq ?_
  refine RK.region ?_
  refine RL.p rfl rfl ?_
  refine RL.done ?_
  refine RK.ret_of Tryz.func140 (res1 rfl rfl) ?_ _
  exact ⟨_, rfl, rfl, rfl⟩
theorem rFields0_ok (w : World) : Fx Tryz.prog 90 [.int .i64 0] w (fun u w' => u = .tuple #[.int .i64 1, .bool true] ∧ w = w') := by
  refine enter Tryz.func90 rfl rfl rfl _ (Pick.sub (l := [0]) (.cons rfl .nil)) ?_
  refine RK.seq ?_
  refine RK.region ?_
  iterate 2 refine RL.p rfl rfl ?_
  refine RL.done ?_
  iterate 2 refine RK.seq ?_
  refine RK.region ?_
  refine RL.p rfl rfl ?_
  refine RL.done ?_
  refine RK.block ?_
  refine RK.seq ?_
  refine RK.region ?_
  iterate 2 refine RL.p rfl rfl ?_
  refine RL.done ?_
  refine RK.condT (hcT rfl (rfl)) ?_
  refine RK.seq ?_
  refine RK.region ?_
  iterate 2 refine RL.p rfl rfl ?_
  refine RL.done ?_
  refine RK.ret_of Tryz.func90 (res2 rfl rfl rfl) ?_ _
  exact ⟨_, rfl, rfl, rfl⟩
theorem rZeroE_ok (w : World) : Fx Tryz.prog 137 [.agg (respC 1 0 0 0).toArray, .int .i64 0] w (fun u w' => u = .bool true ∧ Grow w w') := by
  refine enter Tryz.func137 rfl rfl rfl _ (Pick.sub (l := [0, 1]) (.cons rfl (.cons rfl .nil))) ?_
  refine RK.seq ?_
  refine RK.region ?_
  refine RL.op (.free rfl) rfl rfl (Does.box rfl) ?_
  rintro _ w1 ⟨b1, rfl, hn1⟩
  have hB : Blk w1 b1 107 (respC 1 0 0 0) := hn1.blk
  refine RL.p rfl rfl ?_
  refine RL.done ?_
  refine RK.seq ?_
  refine RK.region ?_
  iterate 4 refine RL.p rfl rfl ?_
  refine RL.knownF (d := 8) rfl rfl (by first | rfl | decide) ?_
  refine RL.q (.yes rfl rfl rfl) rfl rfl (Yld.fieldAddr fo107_8 rfl) ?_
  refine RL.q (.yes rfl rfl rfl) rfl rfl (Yld.load p31 rfl (at1 (hB.cell rfl))) ?_
  refine RL.q (.yes rfl rfl rfl) rfl rfl (Yld.pure rfl) ?_
  iterate 2 refine RL.p rfl rfl ?_
  refine RL.knownT (d := 13) rfl rfl (by first | rfl | decide) ?_
  iterate 4 refine RL.q (.yes rfl rfl rfl) rfl rfl (Yld.pure rfl) ?_
  refine RL.knownF (d := 17) rfl rfl (by first | rfl | decide) ?_
  refine RL.q (.yes rfl rfl rfl) rfl rfl (Yld.fieldAddr fo107_2 rfl) ?_
  refine RL.q (.yes rfl rfl rfl) rfl rfl (Yld.load p3 rfl (at1 (hB.cell rfl))) ?_
  iterate 2 refine RL.q (.yes rfl rfl rfl) rfl rfl (Yld.pure rfl) ?_
  iterate 2 refine RL.p rfl rfl ?_
  refine RL.knownT (d := 23) rfl rfl (by first | rfl | decide) ?_
  iterate 4 refine RL.q (.yes rfl rfl rfl) rfl rfl (Yld.pure rfl) ?_
  refine RL.knownF (d := 27) rfl rfl (by first | rfl | decide) ?_
  refine RL.q (.yes rfl rfl rfl) rfl rfl (Yld.fieldAddr fo107_3 rfl) ?_
  refine RL.q (.yes rfl rfl rfl) rfl rfl (Yld.load p63 rfl (at1 (hB.cell rfl))) ?_
  refine RL.q (.yes rfl rfl rfl) rfl rfl (Yld.lenSl u63 rfl) ?_
  iterate 2 refine RL.q (.yes rfl rfl rfl) rfl rfl (Yld.pure rfl) ?_
  iterate 2 refine RL.p rfl rfl ?_
  refine RL.knownT (d := 34) rfl rfl (by first | rfl | decide) ?_
  iterate 4 refine RL.q (.yes rfl rfl rfl) rfl rfl (Yld.pure rfl) ?_
  refine RL.knownF (d := 38) rfl rfl (by first | rfl | decide) ?_
  refine RL.q (.yes rfl rfl rfl) rfl rfl (Yld.fieldAddr fo107_4 rfl) ?_
  refine RL.q (.yes rfl rfl rfl) rfl rfl (Yld.load p63 rfl (at1 (hB.cell rfl))) ?_
  refine RL.q (.yes rfl rfl rfl) rfl rfl (Yld.lenSl u63 rfl) ?_
  iterate 2 refine RL.q (.yes rfl rfl rfl) rfl rfl (Yld.pure rfl) ?_
  iterate 2 refine RL.p rfl rfl ?_
  refine RL.knownT (d := 45) rfl rfl (by first | rfl | decide) ?_
  iterate 4 refine RL.q (.yes rfl rfl rfl) rfl rfl (Yld.pure rfl) ?_
  refine RL.knownF (d := 49) rfl rfl (by first | rfl | decide) ?_
  refine RL.q (.yes rfl rfl rfl) rfl rfl (Yld.fieldAddr fo107_5 rfl) ?_
  refine RL.q (.yes rfl rfl rfl) rfl rfl (Yld.load p104 rfl (at1 (hB.cell rfl))) ?_
  refine RL.q (.yes rfl rfl rfl) rfl rfl (Yld.lenSl u104 rfl) ?_
  iterate 2 refine RL.q (.yes rfl rfl rfl) rfl rfl (Yld.pure rfl) ?_
  iterate 2 refine RL.p rfl rfl ?_
  refine RL.knownT (d := 56) rfl rfl (by first | rfl | decide) ?_
  iterate 4 refine RL.q (.yes rfl rfl rfl) rfl rfl (Yld.pure rfl) ?_
  refine RL.knownF (d := 60) rfl rfl (by first | rfl | decide) ?_
  refine RL.q (.yes rfl rfl rfl) rfl rfl (Yld.fieldAddr fo107_6 rfl) ?_
  refine RL.q (.yes rfl rfl rfl) rfl rfl (Yld.load p39 rfl (at1 (hB.cell rfl))) ?_
  refine RL.q (.yes rfl rfl rfl) rfl rfl (Yld.lenSl u39 rfl) ?_
  iterate 2 refine RL.q (.yes rfl rfl rfl) rfl rfl (Yld.pure rfl) ?_
  iterate 2 refine RL.p rfl rfl ?_
  refine RL.knownT (d := 67) rfl rfl (by first | rfl | decide) ?_
  iterate 4 refine RL.q (.yes rfl rfl rfl) rfl rfl (Yld.pure rfl) ?_
  refine RL.knownF (d := 71) rfl rfl (by first | rfl | decide) ?_
  refine RL.q (.yes rfl rfl rfl) rfl rfl (Yld.fieldAddr fo107_7 rfl) ?_
  refine RL.q (.yes rfl rfl rfl) rfl rfl (Yld.loadN (cs := head0) a105 rfl (atN (fldV hB 7 32))) ?_
  refine RL.q (.yes rfl rfl rfl) rfl rfl (Yld.build (v := .agg head0.toArray) rfl (fun w => by kernel_rfl)) ?_
  refine RL.q (.yes rfl rfl rfl) rfl rfl (Yld.eqK (v := .bool true) rfl rfl (fun w => by kernel_rfl)) ?_
  refine RL.q (.yes rfl rfl rfl) rfl rfl (Yld.pure rfl) ?_
  iterate 2 refine RL.p rfl rfl ?_
  refine RL.done ?_
  refine RK.ret_of Tryz.func137 (res1 rfl rfl) ?_ _
  exact ⟨_, rfl, rfl, hn1.grow⟩
theorem rIsE_ok (w : World) : Fx Tryz.prog 89 [.agg (respC 1 0 0 0).toArray] w (fun u w' => u = .bool true ∧ Grow w w') := by
  refine enter Tryz.func89 rfl rfl rfl _ (Pick.sub (l := [0]) (.cons rfl .nil)) ?_
  refine RK.seq ?_
  refine RK.region ?_
  refine RL.op (.free rfl) rfl rfl (Does.box rfl) ?_
  rintro _ w1 ⟨b1, rfl, hn1⟩
  have hB : Blk w1 b1 107 (respC 1 0 0 0) := hn1.blk
  refine RL.p rfl rfl ?_
  refine RL.done ?_
  iterate 2 refine RK.seq ?_
  refine RK.region ?_
  refine RL.q (.free rfl) rfl rfl (Yld.fieldAddr fo107_0 rfl) ?_
  refine RL.q (.free rfl) rfl rfl (Yld.load p22 rfl (at1 (hB.cell rfl))) ?_
  refine RL.p rfl rfl ?_
  refine RL.done ?_
  refine RK.condT (hcT rfl (rfl)) ?_
  refine RK.seq ?_
  refine RK.region ?_
  refine RL.q (.free rfl) rfl rfl (Yld.fieldAddr fo107_0 rfl) ?_
  refine RL.q (.free rfl) rfl rfl (Yld.load p22 rfl (at1 (hB.cell rfl))) ?_
  iterate 2 refine RL.p rfl rfl ?_
  refine RL.knownT (d := 12) rfl rfl (by first | rfl | decide) ?_
  refine RL.q (.yes rfl rfl rfl) rfl rfl (Yld.fieldAddr fo107_0 rfl) ?_
  refine RL.q (.yes rfl rfl rfl) rfl rfl (Yld.load p22 rfl (at1 (hB.cell rfl))) ?_
  refine RL.q (.yes rfl rfl rfl) rfl rfl (Yld.pure rfl) ?_
  iterate 2 refine RL.p rfl rfl ?_
  refine RL.knownT (d := 17) rfl rfl (by first | rfl | decide) ?_
  refine RL.q (.yes rfl rfl rfl) rfl rfl (Yld.fieldAddr fo107_1 rfl) ?_
  refine RL.q (.yes rfl rfl rfl) rfl rfl (Yld.load p3 rfl (at1 (hB.cell rfl))) ?_
  refine RL.q (.yes rfl rfl rfl) rfl rfl (Yld.pure rfl) ?_
  iterate 2 refine RL.p rfl rfl ?_
  refine RL.knownT (d := 22) rfl rfl (by first | rfl | decide) ?_
  refine RL.q (.yes rfl rfl rfl) rfl rfl (Yld.loadN (cs := respC 1 0 0 0) a107 rfl (atN (blkV hB))) ?_
  refine RL.op (.yes rfl rfl rfl) rfl rfl (Does.call rfl e137 (rZeroE_ok _)) ?_
  rintro _ w2 ⟨rfl, hg2⟩
  iterate 2 refine RL.p rfl rfl ?_
  refine RL.done ?_
  refine RK.ret_of Tryz.func89 (res1 rfl rfl) ?_ _
  exact ⟨_, rfl, rfl, hn1.grow.trans hg2⟩
end Go.Proofs.YtcndimkkojdflaaGreatDoor
set_option linter.unusedVariables false
set_option linter.unusedSimpArgs false
set_option maxHeartbeats 6400000
set_option maxRecDepth 100000
namespace Go.Proofs.YtcndimkkojdflaaGreatDoor
open Go Go.X
@[reducible] def root : ByteArray := ⟨#[114, 111, 111, 116]⟩
theorem wholeT_ok {N : Nat} {w : World} {p : Nat} {ad : Option Addr} {c : Nat} {bs : List UInt8} (h : Rd N w p ad c bs bs.length false) (x : Option Addr) (y : Nat) : Fx Tryz.prog 126 [.agg (reqC root 1).toArray, pp p, .slice x bs.length y] w (fun u w' => u = .tuple #[.agg (reqC root 1).toArray, .bool true] ∧ Grow w w') := by
  refine enter Tryz.func126 rfl rfl rfl _ (Pick.sub (l := [0, 1, 2]) (.cons rfl (.cons rfl (.cons rfl .nil)))) ?_
  refine RK.seq ?_
  refine RK.region ?_
  refine RL.op (.free rfl) rfl rfl (Does.box rfl) ?_
  rintro _ w1 ⟨b3, rfl, hn3⟩
  refine RL.op (.free rfl) rfl rfl (Does.alloc i124) ?_
  rintro _ w2 ⟨b6, rfl, hn6⟩
  have hg2 := hn3.grow.trans hn6.grow
  refine RL.p rfl rfl ?_
  refine RL.done ?_
  iterate 2 refine RK.seq ?_
  refine RK.region ?_
  refine RL.p rfl rfl ?_
  refine RL.op (.free rfl) rfl rfl (Does.call rfl e178 (endT_ok (h.grow hg2))) ?_
  rintro _ _ ⟨rfl, rfl⟩
  iterate 5 refine RL.p rfl rfl ?_
  refine RL.done ?_
  refine RK.seq ?_
  refine RK.region ?_
  iterate 3 refine RL.p rfl rfl ?_
  refine RL.knownF (d := 17) rfl rfl (rfl) ?_
  iterate 2 refine RL.q (.yes rfl rfl rfl) rfl rfl (Yld.pure rfl) ?_
  refine RL.q (.yes rfl rfl rfl) rfl rfl (Yld.lenSl u39 rfl) ?_
  refine RL.q (.yes rfl rfl rfl) rfl rfl (Yld.pure rfl) ?_
  refine RL.p rfl rfl ?_
  refine RL.done ?_
  refine RK.condF (hcF rfl (by first | rfl | decide | simp)) ?_
  refine RK.skip ?_
  refine RK.seq ?_
  refine RK.region ?_
  refine RL.q (.free rfl) rfl rfl (Yld.loadN (cs := reqC root 1) a124 rfl (atN (blkV (hn3.blk.mod hn6.grow (fun h => h))))) ?_
  refine RL.op' (.free rfl) rfl (Does.storeN i124 rfl rfl rfl rfl hn6.blk (Nat.le_refl 19)) ?_
  rintro _ w4 ⟨hb4, hm4, hs4⟩
  refine RL.p rfl rfl ?_
  refine RL.done ?_
  refine RK.ret_of Tryz.func126 (resCT (cs := reqC root 1) rfl rfl a124 hb4 rfl) ?_ _
  exact ⟨_, rfl, rfl, hg2.then hm4 (fun b hb e => by have e' : b = b6 := e; have := hn6.at_; have := hn3.grow.size; omega)⟩
theorem wholeF_ok {N : Nat} {w : World} {p : Nat} {ad : Option Addr} {c : Nat} {bs : List UInt8} {i : Nat} (h : Rd N w p ad c bs i true) (v : Value) : Fx Tryz.prog 126 [.agg (reqC ⟨#[]⟩ 0).toArray, pp p, v] w (fun u w' => u = .tuple #[.agg (reqC ⟨#[]⟩ 0).toArray, .bool false] ∧ Grow w w') := by
  refine enter Tryz.func126 rfl rfl rfl _ (Pick.sub (l := [0, 1, 2]) (.cons rfl (.cons rfl (.cons rfl .nil)))) ?_
  refine RK.seq ?_
  refine RK.region ?_
  refine RL.op (.free rfl) rfl rfl (Does.box rfl) ?_
  rintro _ w1 ⟨b3, rfl, hn3⟩
  refine RL.op (.free rfl) rfl rfl (Does.alloc i124) ?_
  rintro _ w2 ⟨b6, rfl, hn6⟩
  have hg2 := hn3.grow.trans hn6.grow
  refine RL.p rfl rfl ?_
  refine RL.done ?_
  iterate 2 refine RK.seq ?_
  refine RK.region ?_
  refine RL.p rfl rfl ?_
  refine RL.op (.free rfl) rfl rfl (Does.call rfl e178 (endF_ok (h.grow hg2))) ?_
  rintro _ _ ⟨rfl, rfl⟩
  iterate 5 refine RL.p rfl rfl ?_
  refine RL.done ?_
  refine RK.seq ?_
  refine RK.region ?_
  iterate 3 refine RL.p rfl rfl ?_
  refine RL.knownT (d := 17) rfl rfl (rfl) ?_
  iterate 4 refine RL.no (.no rfl rfl rfl rfl) rfl rfl ?_
  refine RL.p rfl rfl ?_
  refine RL.done ?_
  refine RK.condT rfl ?_
  refine RK.seq ?_
  refine RK.region ?_
  refine RL.q (.free rfl) rfl rfl (Yld.build (v := .agg (reqC ⟨#[]⟩ 0).toArray) rfl (fun w => by kernel_rfl)) ?_
  refine RL.op' (.free rfl) rfl (Does.storeN i124 rfl rfl rfl rfl hn6.blk (Nat.le_refl 19)) ?_
  rintro _ w4 ⟨hb4, hm4, hs4⟩
  refine RL.p rfl rfl ?_
  refine RL.done ?_
  refine RK.ret_of Tryz.func126 (resCT (cs := reqC ⟨#[]⟩ 0) rfl rfl a124 hb4 rfl) ?_ _
  exact ⟨_, rfl, rfl, hg2.then hm4 (fun b hb e => by have e' : b = b6 := e; have := hn6.at_; have := hn3.grow.size; omega)⟩
theorem reqRd1_ok (w : World) (ad : Option Addr) (c : Nat) (hv : Sl No w (.slice ad 6 c) 1 6 (bytesV [4, 114, 111, 111, 116, 1])) (hcap : 6 ≤ c) : Fx Tryz.prog 81 [.slice ad 6 c] w (fun u w' => u = .tuple #[.agg (reqC root 1).toArray, .bool true] ∧ Grow w w') := by
  have hs := hv.off (M' := (w.heap.size ≤ ·)) (by omega) (fun b hb e => by omega)
  refine enter Tryz.func81 rfl rfl rfl _ (Pick.sub (l := [0]) (.cons rfl .nil)) ?_
  refine RK.seq ?_
  refine RK.region ?_
  refine RL.op (.free rfl) rfl rfl (Does.alloc i124) ?_
  rintro _ w2 ⟨b2, rfl, hn2⟩
  have ha2 := hn2.at_
  have hz2 := hn2.size
  refine RL.p rfl rfl ?_
  refine RL.done ?_
  refine RK.seq ?_
  refine RK.region ?_
  refine RL.p rfl rfl ?_
  refine RL.op (.free rfl) rfl rfl (Does.call rfl e122 (pnew_ok w.heap.size w2 ad c [4, 114, 111, 111, 116, 1] (hs.mod (Mod.any' hn2.grow)) (by omega) hcap)) ?_
  rintro _ w3 ⟨p, rfl, hp, h3, hg3⟩
  have hz3 := hg3.size
  have hplt := h3.blk.lt
  have hg03 := hn2.grow.trans hg3
  have hq3 : Mod (b2 < ·) w2 w3 := Mod.any' hg3
  refine RL.p rfl rfl ?_
  refine RL.done ?_
  refine RK.seq ?_
  refine RK.region ?_
  refine RL.p rfl rfl ?_
  refine RL.op (.free rfl) rfl rfl (Does.call rfl e123 (textT_ok h3 4 (by decide) [114, 111, 111, 116, 1] rfl 16 (by decide) (by decide) (by decide))) ?_
  rintro _ w4 ⟨rfl, h4, hm4⟩
  have hg04 := hg03.then hm4 (fun b hb e => by have e' : b = p := e; omega)
  have hq4 := hq3.trans (hm4.mono fun b _ e => by have e' : b = p := e; omega)
  refine RL.p rfl rfl ?_
  refine RL.done ?_
  refine RK.seq ?_
  refine RK.region ?_
  iterate 2 refine RL.p rfl rfl ?_
  refine RL.op (.free rfl) rfl rfl (Does.call rfl e67 (tokenIs_ok _ _)) ?_
  rintro _ _ ⟨rfl, rfl⟩
  refine RL.op (.free rfl) rfl rfl (Does.call rfl e124 (refuseT_ok h4)) ?_
  rintro _ w5 ⟨h5, hm5⟩
  have hg05 := hg04.then hm5 (fun b hb e => by have e' : b = p := e; omega)
  have hq5 := hq4.trans (hm5.mono fun b _ e => by have e' : b = p := e; omega)
  refine RL.done ?_
  refine RK.seq ?_
  refine RK.region ?_
  refine RL.p rfl rfl ?_
  refine RL.op (.free rfl) rfl rfl (Does.call rfl e125 (reqRead1_ok h5 rfl)) ?_
  rintro _ w6 ⟨rfl, h6, hm6⟩
  have hg06 := hg05.then hm6 (fun b hb e => by have e' : b = p := e; omega)
  have hq6 := hq5.trans (hm6.mono fun b _ e => by have e' : b = p := e; omega)
  have hz6 := hg06.size
  have hz36 := hq6.size
  refine RL.op (.free rfl) rfl rfl (Does.alloc i124) ?_
  rintro _ w7 ⟨b7, rfl, hn7⟩
  have ha7 := hn7.at_
  refine RL.op' (.free rfl) rfl (Does.storeN i124 rfl rfl rfl rfl hn7.blk (Nat.le_refl 19)) ?_
  rintro _ w8 ⟨hb8, hm8, hs8⟩
  have hB8 : Blk w8 b7 124 (reqC ⟨#[]⟩ 1) := hb8
  have hplt6 := h6.blk.lt
  have h8 := (h6.grow hn7.grow).mod hm8 (fun e => by have e' : p = b7 := e; omega) (fun b e => by have e' : b = b7 := e; omega)
  have hg08 := (hg06.trans hn7.grow).then hm8 (fun b hb e => by have e' : b = b7 := e; omega)
  have hq8 := (hq6.trans (Mod.any' hn7.grow)).trans (hm8.mono fun b _ e => by have e' : b = b7 := e; omega)
  refine RL.done ?_
  refine RK.seq ?_
  refine RK.region ?_
  refine RL.p rfl rfl ?_
  refine RL.q (.free rfl) rfl rfl (Yld.fieldAddr fo124_0 rfl) ?_
  refine RL.op' (.free rfl) rfl (Does.store i9 rfl rfl rfl hB8 (.z)) ?_
  rintro _ w9 ⟨hb9, hm9, hs9⟩
  have hB9 : Blk w9 b7 124 (reqC root 1) := hb9
  have h9 := h8.mod hm9 (fun e => by have e' : p = b7 := e; omega) (fun b e => by have e' : b = b7 := e; omega)
  have hg09 := hg08.then hm9 (fun b hb e => by have e' : b = b7 := e; omega)
  have hq9 := hq8.trans (hm9.mono fun b _ e => by have e' : b = b7 := e; omega)
  refine RL.done ?_
  refine RK.seq ?_
  refine RK.region ?_
  refine RL.q (.free rfl) rfl rfl (Yld.loadN (cs := reqC root 1) a124 rfl (atN (blkV hB9))) ?_
  iterate 2 refine RL.p rfl rfl ?_
  refine RL.op (.free rfl) rfl rfl (Does.call rfl e126 (wholeT_ok (bs := [4, 114, 111, 111, 116, 1]) h9 _ _)) ?_
  rintro _ w10 ⟨rfl, hg10⟩
  have hq10 := hq9.trans (Mod.any' hg10)
  have hg010 := hg09.trans hg10
  iterate 2 refine RL.p rfl rfl ?_
  refine RL.op' (.free rfl) rfl (Does.storeN i124 rfl rfl rfl rfl (hn2.blk.mod hq10 (fun e => Nat.lt_irrefl _ e)) (Nat.le_refl 19)) ?_
  rintro _ w11 ⟨hb11, hm11, hs11⟩
  refine RL.p rfl rfl ?_
  refine RL.done ?_
  refine RK.ret_of Tryz.func81 (resCT (cs := reqC root 1) rfl rfl a124 hb11 rfl) ?_ _
  exact ⟨_, rfl, rfl, hg010.then hm11 (fun b hb e => by have e' : b = b2 := e; omega)⟩
theorem reqRd0_ok (w : World) (ad : Option Addr) (c : Nat) (hv : Sl No w (.slice ad 1 c) 1 1 (bytesV [9])) (hcap : 1 ≤ c) : Fx Tryz.prog 81 [.slice ad 1 c] w (fun u w' => u = .tuple #[.agg (reqC ⟨#[]⟩ 0).toArray, .bool false] ∧ Grow w w') := by
  have hs := hv.off (M' := (w.heap.size ≤ ·)) (by omega) (fun b hb e => by omega)
  refine enter Tryz.func81 rfl rfl rfl _ (Pick.sub (l := [0]) (.cons rfl .nil)) ?_
  refine RK.seq ?_
  refine RK.region ?_
  refine RL.op (.free rfl) rfl rfl (Does.alloc i124) ?_
  rintro _ w2 ⟨b2, rfl, hn2⟩
  have ha2 := hn2.at_
  have hz2 := hn2.size
  refine RL.p rfl rfl ?_
  refine RL.done ?_
  refine RK.seq ?_
  refine RK.region ?_
  refine RL.p rfl rfl ?_
  refine RL.op (.free rfl) rfl rfl (Does.call rfl e122 (pnew_ok w.heap.size w2 ad c [9] (hs.mod (Mod.any' hn2.grow)) (by omega) hcap)) ?_
  rintro _ w3 ⟨p, rfl, hp, h3, hg3⟩
  have hz3 := hg3.size
  have hplt := h3.blk.lt
  have hg03 := hn2.grow.trans hg3
  have hq3 : Mod (b2 < ·) w2 w3 := Mod.any' hg3
  refine RL.p rfl rfl ?_
  refine RL.done ?_
  refine RK.seq ?_
  refine RK.region ?_
  refine RL.p rfl rfl ?_
  refine RL.op (.free rfl) rfl rfl (Does.call rfl e123 (textF_ok h3 9 (by decide) [] rfl 16 (by decide) (by decide))) ?_
  rintro _ w4 ⟨rfl, h4, hm4⟩
  have hg04 := hg03.then hm4 (fun b hb e => by have e' : b = p := e; omega)
  have hq4 := hq3.trans (hm4.mono fun b _ e => by have e' : b = p := e; omega)
  refine RL.p rfl rfl ?_
  refine RL.done ?_
  refine RK.seq ?_
  refine RK.region ?_
  iterate 2 refine RL.p rfl rfl ?_
  refine RL.op (.free rfl) rfl rfl (Does.call rfl e67 (tokenIs_ok _ _)) ?_
  rintro _ _ ⟨rfl, rfl⟩
  refine RL.op (.free rfl) rfl rfl (Does.call rfl e124 (refuseF_ok h4 false (by simp))) ?_
  rintro _ w5 ⟨h5, hm5⟩
  have hg05 := hg04.then hm5 (fun b hb e => by have e' : b = p := e; omega)
  have hq5 := hq4.trans (hm5.mono fun b _ e => by have e' : b = p := e; omega)
  refine RL.done ?_
  refine RK.seq ?_
  refine RK.region ?_
  refine RL.p rfl rfl ?_
  refine RL.op (.free rfl) rfl rfl (Does.call rfl e125 (reqRead0_ok h5)) ?_
  rintro _ w6 ⟨rfl, h6, hm6⟩
  have hg06 := hg05.then hm6 (fun b hb e => by have e' : b = p := e; omega)
  have hq6 := hq5.trans (hm6.mono fun b _ e => by have e' : b = p := e; omega)
  have hz6 := hg06.size
  have hz36 := hq6.size
  refine RL.op (.free rfl) rfl rfl (Does.alloc i124) ?_
  rintro _ w7 ⟨b7, rfl, hn7⟩
  have ha7 := hn7.at_
  refine RL.op' (.free rfl) rfl (Does.storeN i124 rfl rfl rfl rfl hn7.blk (Nat.le_refl 19)) ?_
  rintro _ w8 ⟨hb8, hm8, hs8⟩
  have hB8 : Blk w8 b7 124 (reqC ⟨#[]⟩ 0) := hb8
  have hplt6 := h6.blk.lt
  have h8 := (h6.grow hn7.grow).mod hm8 (fun e => by have e' : p = b7 := e; omega) (fun b e => by have e' : b = b7 := e; omega)
  have hg08 := (hg06.trans hn7.grow).then hm8 (fun b hb e => by have e' : b = b7 := e; omega)
  have hq8 := (hq6.trans (Mod.any' hn7.grow)).trans (hm8.mono fun b _ e => by have e' : b = b7 := e; omega)
  refine RL.done ?_
  refine RK.seq ?_
  refine RK.region ?_
  refine RL.p rfl rfl ?_
  refine RL.q (.free rfl) rfl rfl (Yld.fieldAddr fo124_0 rfl) ?_
  refine RL.op' (.free rfl) rfl (Does.store i9 rfl rfl rfl hB8 (.z)) ?_
  rintro _ w9 ⟨hb9, hm9, hs9⟩
  have hB9 : Blk w9 b7 124 (reqC ⟨#[]⟩ 0) := hb9
  have h9 := h8.mod hm9 (fun e => by have e' : p = b7 := e; omega) (fun b e => by have e' : b = b7 := e; omega)
  have hg09 := hg08.then hm9 (fun b hb e => by have e' : b = b7 := e; omega)
  have hq9 := hq8.trans (hm9.mono fun b _ e => by have e' : b = b7 := e; omega)
  refine RL.done ?_
  refine RK.seq ?_
  refine RK.region ?_
  refine RL.q (.free rfl) rfl rfl (Yld.loadN (cs := reqC ⟨#[]⟩ 0) a124 rfl (atN (blkV hB9))) ?_
  iterate 2 refine RL.p rfl rfl ?_
  refine RL.op (.free rfl) rfl rfl (Does.call rfl e126 (wholeF_ok h9 _)) ?_
  rintro _ w10 ⟨rfl, hg10⟩
  have hq10 := hq9.trans (Mod.any' hg10)
  have hg010 := hg09.trans hg10
  iterate 2 refine RL.p rfl rfl ?_
  refine RL.op' (.free rfl) rfl (Does.storeN i124 rfl rfl rfl rfl (hn2.blk.mod hq10 (fun e => Nat.lt_irrefl _ e)) (Nat.le_refl 19)) ?_
  rintro _ w11 ⟨hb11, hm11, hs11⟩
  refine RL.p rfl rfl ?_
  refine RL.done ?_
  refine RK.ret_of Tryz.func81 (resCT (cs := reqC ⟨#[]⟩ 0) rfl rfl a124 hb11 rfl) ?_ _
  exact ⟨_, rfl, rfl, hg010.then hm11 (fun b hb e => by have e' : b = b2 := e; omega)⟩
theorem Does.insert {P : Program} {n : Nat} {e : Env} {w : World} {κ : Type} [DecidableEq κ] {enc : κ → Value} {d : Option Tmp} {t kt el : Nat} {x i y : Operand} {ty : TypeId} {pos : String} {af : Array Edge} {g : Option (Nat × Bool)} (hT : P.underlying t = some (.map kt el)) (hK : KeyLaw P kt enc) {m : Nat} {k : κ} {v : Value} {l : List (κ × Value)}
    (hx : ev e x = some (.map (some m))) (hi : ev e i = some (enc k)) (hy : ev e y = some v) (hm : MapAt enc w m l) :
    Does P n e w ⟨d, .insert t x i y, ty, pos, af, g⟩ (fun _ w' => MapAt enc w' m (putM l k v) ∧ Mod (· = m) w w' ∧ w'.heap.size = w.heap.size) := by
  intro a ha K K' hk
  have h := Does.mapUpdate (P := P) (n := n) (d := d) (ty := ty) (pos := pos) (af := af) (g := g) hT hK hx hi hy hm a ha K K' hk
  unfold Oper.wp at h ⊢
  exact h
abbrev It := Bool × Nat × Value
@[reducible] def itC (x : It) : List Value := [.bool x.1, .int .u64 (x.2.1 : Int), x.2.2]
@[reducible] def wkC (vi va : Value) (m : Nat) (now : Int) : List Value := [.string root, .int .i64 0, .int .i64 0, .int .i64 0, .int .i64 0, .int .i64 0, .int .i64 0, .int .i64 0, .int .u64 0, vi, va, .map (some m), .int .u64 now]
@[reducible] def placeC (i : Int) (tick asks : Bool) (req : List Value) (owner : Int) (reads : Bool) (resp : List Value) (ok : Bool) (now : Int) : List Value := [.int .i64 i, .bool tick, .bool asks] ++ req ++ [.int .i64 owner, .bool reads] ++ resp ++ [.bool ok, .int .u64 now]
structure Lg (w : World) (vi va : Value) (xs : List It) (qs : List Value) : Prop where
  it : Sl No w vi 3 xs.length (xs.flatMap itC)
  an : Sl No w va 1 qs.length qs
theorem Lg.grow {w w' : World} {vi va : Value} {xs : List It} {qs : List Value} (h : Lg w vi va xs qs) (hg : Grow w w') : Lg w' vi va xs qs := ⟨h.it.mod hg, h.an.mod hg⟩
structure WkAt (w : World) (p m : Nat) (vi va : Value) (now : Int) : Prop where
  blk : Blk w p 175 (wkC vi va m now)
  map : MapAt Value.string w m [(root, .int .i64 0)]
theorem WkAt.grow {w w' : World} {p m : Nat} {vi va : Value} {now : Int} (h : WkAt w p m vi va now) (hg : Grow w w') : WkAt w' p m vi va now := ⟨h.blk.mod hg (fun h => h), h.map.mod hg (fun h => h)⟩
end Go.Proofs.YtcndimkkojdflaaGreatDoor
set_option linter.unusedVariables false
set_option linter.unusedSimpArgs false
set_option maxHeartbeats 6400000
set_option maxRecDepth 100000
namespace Go.Proofs.YtcndimkkojdflaaGreatDoor
open Go Go.X
theorem clockTick_ok (now n : Int) (h0 : 0 ≤ now) (hn : 0 ≤ n) (h : now + n ≤ 1099511627776) (w : World) : Fx Tryz.prog 47 [.int .u64 now, .int .u64 n] w (fun u w' => u = .tuple #[.int .u64 (now + n), .bool true] ∧ w = w') := by
  refine enter Tryz.func47 rfl rfl rfl _ (Pick.sub (l := [0, 1]) (.cons rfl (.cons rfl .nil))) ?_
  refine RK.seq ?_
  refine RK.region ?_
  iterate 2 refine RL.p rfl rfl ?_
  refine RL.done ?_
  iterate 2 refine RK.seq ?_
  refine RK.region ?_
  iterate 3 refine RL.p rfl rfl ?_
  refine RL.knownF (d := 8) rfl rfl (decide_eq_false (by omega)) ?_
  iterate 3 refine RL.q (.yes rfl rfl rfl) rfl rfl (Yld.pure rfl) ?_
  refine RL.re (d := 11) rfl rfl (congrArg (Value.int .u64) (by rw [IntKind.wrap_u64]; omega : _ = 1099511627776 - now)) ?_
  refine RL.q (.yes rfl rfl rfl) rfl rfl (Yld.pure rfl) ?_
  refine RL.p rfl rfl ?_
  refine RL.done ?_
  refine RK.condF (hcF rfl (decide_eq_false (by omega))) ?_
  refine RK.skip ?_
  refine RK.seq ?_
  refine RK.region ?_
  iterate 3 refine RL.p rfl rfl ?_
  refine RL.re (d := 16) rfl rfl (congrArg (Value.int .u64) (by rw [IntKind.wrap_u64]; omega : _ = now + n)) ?_
  iterate 2 refine RL.p rfl rfl ?_
  refine RL.done ?_
  refine RK.ret_of Tryz.func47 (res2 rfl rfl rfl) ?_ _
  exact ⟨_, rfl, rfl, rfl⟩
theorem bytesE_ok (w : World) : Fx Tryz.prog 51 [.agg (respC 1 0 0 0).toArray] w (fun u w' => Row w' 5 1 u 1 (bytesV [1]) ∧ Fresh w.heap.size u ∧ Grow w w') := by
  refine enter Tryz.func51 rfl rfl rfl _ (Pick.sub (l := [0]) (.cons rfl .nil)) ?_
  refine RK.seq ?_
  refine RK.region ?_
  refine RL.op (.free rfl) rfl rfl (Does.box rfl) ?_
  rintro _ w1 ⟨b1, rfl, hn1⟩
  have hB : Blk w1 b1 107 (respC 1 0 0 0) := hn1.blk
  refine RL.p rfl rfl ?_
  refine RL.done ?_
  iterate 2 refine RK.seq ?_
  refine RK.region ?_
  refine RL.q (.free rfl) rfl rfl (Yld.loadN (cs := respC 1 0 0 0) a107 rfl (atN (blkV hB))) ?_
  refine RL.op (.free rfl) rfl rfl (Does.call rfl e89 (rIsE_ok _)) ?_
  rintro _ w2 ⟨rfl, hg2⟩
  have hB2 := hB.mod hg2 (fun h => h)
  refine RL.p rfl rfl ?_
  refine RL.done ?_
  refine RK.condF (hcF rfl (rfl)) ?_
  refine RK.skip ?_
  iterate 2 refine RK.seq ?_
  refine RK.region ?_
  refine RL.q (.free rfl) rfl rfl (Yld.fieldAddr fo107_0 rfl) ?_
  refine RL.q (.free rfl) rfl rfl (Yld.load p22 rfl (at1 (hB2.cell rfl))) ?_
  refine RL.p rfl rfl ?_
  refine RL.done ?_
  refine RK.condT (hcT rfl (rfl)) ?_
  refine RK.seq ?_
  refine RK.region ?_
  refine RL.q (.free rfl) rfl rfl (Yld.fieldAddr fo107_0 rfl) ?_
  refine RL.q (.free rfl) rfl rfl (Yld.load p22 rfl (at1 (hB2.cell rfl))) ?_
  refine RL.q (.free rfl) rfl rfl (Yld.convI Tryz.underlying22 Tryz.underlying5 rfl) ?_
  refine RL.op (.free rfl) rfl rfl (Does.slice1 u39 i5 rfl rfl rfl rfl rfl) ?_
  rintro _ w3 ⟨b3, rfl, hn3⟩
  have hz1 := hn1.grow.size
  have hz2 := hg2.size
  have ha3 := hn3.at_
  refine RL.p rfl rfl ?_
  refine RL.done ?_
  refine RK.ret_of Tryz.func51 (res1 rfl rfl) ?_ _
  exact ⟨_, rfl, Row.new hn3 1 1 rfl (by omega), fun b e => by simp [Value.ownBlock] at e; omega, (hn1.grow.trans hg2).trans hn3.grow⟩
theorem refused1_ok (w : World) : Fx Tryz.prog 48 [.int .i64 1] w (fun u w' => Row w' 5 1 u 1 (bytesV [1]) ∧ Fresh w.heap.size u ∧ Grow w w') := by
  refine enter Tryz.func48 rfl rfl rfl _ (Pick.sub (l := [0]) (.cons rfl .nil)) ?_
  refine RK.seq ?_
  refine RK.region ?_
  refine RL.p rfl rfl ?_
  refine RL.done ?_
  refine RK.seq ?_
  refine RK.region ?_
  refine RL.p rfl rfl ?_
  refine RL.q (.free rfl) rfl rfl (Yld.build (v := .agg (respC 1 0 0 0).toArray) rfl (fun w => by kernel_rfl)) ?_
  refine RL.op (.free rfl) rfl rfl (Does.call rfl e51 (bytesE_ok _)) ?_
  rintro u1 w1 ⟨hr1, hf1, hg1⟩
  refine RL.p rfl rfl ?_
  refine RL.done ?_
  refine RK.ret_of Tryz.func48 (res1 rfl rfl) ?_ _
  exact ⟨_, rfl, hr1, hf1, hg1⟩
theorem laySkip_ok (f field : Int) (hz : IntKind.i64.wrap ((BitVec.ofInt IntKind.i64.bits f &&& BitVec.ofInt IntKind.i64.bits field).toNat : Int) = 0) (v : Value) {w : World} {b4 b3 : Nat} (h4 : Blk w b4 3 [.int .i64 f]) : Fx Tryz.prog 91 [.int .i64 field, v, pp b4, pp b3] w (fun u w' => w = w') := by
  refine enter Tryz.func91 rfl rfl rfl _ (Pick.sub (l := [0, 1, 2, 3]) (.cons rfl (.cons rfl (.cons rfl (.cons rfl .nil))))) ?_
  refine RK.seq ?_
  refine RK.region ?_
  refine RL.q (.free rfl) rfl rfl (Yld.load p3 rfl (at1 (h4.cell rfl))) ?_
  iterate 2 refine RL.p rfl rfl ?_
  refine RL.re (d := 8) rfl rfl (congrArg (Value.int .i64) hz) ?_
  refine RL.p rfl rfl ?_
  refine RL.done ?_
  refine RK.condF (hcF rfl (rfl)) ?_
  refine RK.skip ?_
  refine RK.end_of Tryz.func91 (res0 rfl) ?_
  exact ⟨_, rfl, rfl⟩
end Go.Proofs.YtcndimkkojdflaaGreatDoor
