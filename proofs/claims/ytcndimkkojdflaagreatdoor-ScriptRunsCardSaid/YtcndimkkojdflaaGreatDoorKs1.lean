/- What the claim stands on, part 1. Of own lemmas only those that it reaches. -/
import Derived.Test.YtcndimkkojdflaaGreatDoorKs0
namespace Go.Proofs.YtcndimkkojdflaaGreatDoor
open Go Go.X
theorem mixed : Tryz.prog.follows .mixedOrders = true := by kernel_rfl
theorem i2 : TI Tryz.prog 2 (.int .i64 0) 1 8 := TI.mk' (by kernel_rfl)
theorem i3 : TI Tryz.prog 3 (.int .i64 0) 1 8 := TI.mk' (by kernel_rfl)
theorem p3 : Plain Tryz.prog 3 := Plain.of Tryz.underlying3 rfl
theorem u4 : Tryz.prog.underlying 4 = some .bool := Tryz.underlying4
theorem i4 : TI Tryz.prog 4 (.bool false) 1 1 := TI.mk' (by kernel_rfl)
theorem p4 : Plain Tryz.prog 4 := Plain.of Tryz.underlying4 rfl
theorem i5 : TI Tryz.prog 5 (.int .u8 0) 1 1 := TI.mk' (by kernel_rfl)
theorem p5 : Plain Tryz.prog 5 := Plain.of Tryz.underlying5 rfl
theorem i8 : TI Tryz.prog 8 (.agg #[.int .i64 0, .int .i64 0, .bool false, .int .u8 0]) 4 24 := TI.mk' (by kernel_rfl)
theorem a8 : Agg Tryz.prog 8 4 := Agg.of (d := (Tryz.prog.underlying 8).getD .bool) (by kernel_rfl) (by kernel_rfl) i8
theorem u9 : Tryz.prog.underlying 9 = some .string := Tryz.underlying9
theorem i9 : TI Tryz.prog 9 (.string ByteArray.empty) 1 16 := TI.mk' (by kernel_rfl)
theorem p9 : Plain Tryz.prog 9 := Plain.of Tryz.underlying9 rfl
theorem u10 : Tryz.prog.underlying 10 = some .string := Tryz.underlying10
theorem p10 : Plain Tryz.prog 10 := Plain.of Tryz.underlying10 rfl
theorem p11 : Plain Tryz.prog 11 := Plain.of Tryz.underlying11 rfl
theorem i14 : TI Tryz.prog 14 (.agg #[.string ByteArray.empty, .int .u64 0]) 2 24 := TI.mk' (by kernel_rfl)
theorem a14 : Agg Tryz.prog 14 2 := Agg.of (d := (Tryz.prog.underlying 14).getD .bool) (by kernel_rfl) (by kernel_rfl) i14
theorem i19 : TI Tryz.prog 19 (.agg #[.pointer none]) 1 8 := TI.mk' (by kernel_rfl)
theorem a19 : Agg Tryz.prog 19 1 := Agg.of (d := (Tryz.prog.underlying 19).getD .bool) (by kernel_rfl) (by kernel_rfl) i19
theorem p22 : Plain Tryz.prog 22 := Plain.of Tryz.underlying22 rfl
theorem u26 : SlT Tryz.prog 26 9 := Tryz.underlying26
theorem i26 : TI Tryz.prog 26 (.slice none 0 0) 1 24 := TI.mk' (by kernel_rfl)
theorem p26 : Plain Tryz.prog 26 := Plain.of Tryz.underlying26 rfl
theorem i29 : TI Tryz.prog 29 (.pointer none) 1 8 := TI.mk' (by kernel_rfl)
theorem p29 : Plain Tryz.prog 29 := Plain.of Tryz.underlying29 rfl
theorem i30 : TI Tryz.prog 30 (.pointer none) 1 8 := TI.mk' (by kernel_rfl)
theorem i31 : TI Tryz.prog 31 (.int .u64 0) 1 8 := TI.mk' (by kernel_rfl)
theorem p31 : Plain Tryz.prog 31 := Plain.of Tryz.underlying31 rfl
theorem i33 : TI Tryz.prog 33 (.agg #[.string ByteArray.empty, .int .i64 0, .int .i64 0, .int .i64 0, .int .i64 0, .int .i64 0, .int .i64 0, .int .i64 0, .int .u64 0]) 9 80 := TI.mk' (by kernel_rfl)
theorem a33 : Agg Tryz.prog 33 9 := Agg.of (d := (Tryz.prog.underlying 33).getD .bool) (by kernel_rfl) (by kernel_rfl) i33
theorem u34 : SlT Tryz.prog 34 68 := Tryz.underlying34
theorem i34 : TI Tryz.prog 34 (.slice none 0 0) 1 24 := TI.mk' (by kernel_rfl)
theorem p34 : Plain Tryz.prog 34 := Plain.of Tryz.underlying34 rfl
theorem u35 : SlT Tryz.prog 35 39 := Tryz.underlying35
theorem i35 : TI Tryz.prog 35 (.slice none 0 0) 1 24 := TI.mk' (by kernel_rfl)
theorem p35 : Plain Tryz.prog 35 := Plain.of Tryz.underlying35 rfl
theorem i38 : TI Tryz.prog 38 (.pointer none) 1 8 := TI.mk' (by kernel_rfl)
theorem p38 : Plain Tryz.prog 38 := Plain.of Tryz.underlying38 rfl
theorem u39 : SlT Tryz.prog 39 5 := Tryz.underlying39
theorem i39 : TI Tryz.prog 39 (.slice none 0 0) 1 24 := TI.mk' (by kernel_rfl)
theorem p39 : Plain Tryz.prog 39 := Plain.of Tryz.underlying39 rfl
theorem i41 : TI Tryz.prog 41 (.agg #[.pointer none, .slice none 0 0]) 2 32 := TI.mk' (by kernel_rfl)
theorem i54 : TI Tryz.prog 54 (.agg #[.int .i64 0, .int .i64 0, .int .i64 0, .int .i64 0, .int .i64 0, .int .i64 0, .int .i64 0, .int .i64 0, .int .i64 0, .int .i64 0]) 10 80 := TI.mk' (by kernel_rfl)
theorem u63 : SlT Tryz.prog 63 3 := Tryz.underlying63
theorem i63 : TI Tryz.prog 63 (.slice none 0 0) 1 24 := TI.mk' (by kernel_rfl)
theorem p63 : Plain Tryz.prog 63 := Plain.of Tryz.underlying63 rfl
theorem i68 : TI Tryz.prog 68 (.agg #[.bool false, .int .u64 0, .slice none 0 0]) 3 40 := TI.mk' (by kernel_rfl)
theorem a68 : Agg Tryz.prog 68 3 := Agg.of (d := (Tryz.prog.underlying 68).getD .bool) (by kernel_rfl) (by kernel_rfl) i68
theorem p85 : Plain Tryz.prog 85 := Plain.of Tryz.underlying85 rfl
theorem p87 : Plain Tryz.prog 87 := Plain.of Tryz.underlying87 rfl
theorem u90 : SlT Tryz.prog 90 93 := Tryz.underlying90
theorem i90 : TI Tryz.prog 90 (.slice none 0 0) 1 24 := TI.mk' (by kernel_rfl)
theorem p90 : Plain Tryz.prog 90 := Plain.of Tryz.underlying90 rfl
theorem i93 : TI Tryz.prog 93 (.chan none) 1 8 := TI.mk' (by kernel_rfl)
theorem u104 : SlT Tryz.prog 104 221 := Tryz.underlying104
theorem p104 : Plain Tryz.prog 104 := Plain.of Tryz.underlying104 rfl
theorem i105 : TI Tryz.prog 105 (.agg #[.int .u8 0, .int .u8 0, .int .u8 0, .int .u8 0, .int .u8 0, .int .u8 0, .int .u8 0, .int .u8 0, .int .u8 0, .int .u8 0, .int .u8 0, .int .u8 0, .int .u8 0, .int .u8 0, .int .u8 0, .int .u8 0, .int .u8 0, .int .u8 0, .int .u8 0, .int .u8 0, .int .u8 0, .int .u8 0, .int .u8 0, .int .u8 0, .int .u8 0, .int .u8 0, .int .u8 0, .int .u8 0, .int .u8 0, .int .u8 0, .int .u8 0, .int .u8 0]) 32 32 := TI.mk' (by kernel_rfl)
theorem a105 : Agg Tryz.prog 105 32 := Agg.of (d := (Tryz.prog.underlying 105).getD .bool) (by kernel_rfl) (by kernel_rfl) i105
theorem i107 : TI Tryz.prog 107 (.agg #[.int .i64 0, .int .i64 0, .int .i64 0, .slice none 0 0, .slice none 0 0, .slice none 0 0, .slice none 0 0, .int .u8 0, .int .u8 0, .int .u8 0, .int .u8 0, .int .u8 0, .int .u8 0, .int .u8 0, .int .u8 0, .int .u8 0, .int .u8 0, .int .u8 0, .int .u8 0, .int .u8 0, .int .u8 0, .int .u8 0, .int .u8 0, .int .u8 0, .int .u8 0, .int .u8 0, .int .u8 0, .int .u8 0, .int .u8 0, .int .u8 0, .int .u8 0, .int .u8 0, .int .u8 0, .int .u8 0, .int .u8 0, .int .u8 0, .int .u8 0, .int .u8 0, .int .u8 0, .int .u64 0]) 40 160 := TI.mk' (by kernel_rfl)
theorem a107 : Agg Tryz.prog 107 40 := Agg.of (d := (Tryz.prog.underlying 107).getD .bool) (by kernel_rfl) (by kernel_rfl) i107
theorem u116 : SlT Tryz.prog 116 309 := Tryz.underlying116
theorem p116 : Plain Tryz.prog 116 := Plain.of Tryz.underlying116 rfl
theorem p117 : Plain Tryz.prog 117 := Plain.of Tryz.underlying117 rfl
theorem i119 : TI Tryz.prog 119 (.agg #[.bool false, .float .f64 0, .float .f64 0]) 3 24 := TI.mk' (by kernel_rfl)
theorem a119 : Agg Tryz.prog 119 3 := Agg.of (d := (Tryz.prog.underlying 119).getD .bool) (by kernel_rfl) (by kernel_rfl) i119
theorem i121 : TI Tryz.prog 121 (.agg #[.slice none 0 0, .slice none 0 0, .bool false, .float .f64 0, .float .f64 0, .slice none 0 0]) 6 96 := TI.mk' (by kernel_rfl)
theorem a121 : Agg Tryz.prog 121 6 := Agg.of (d := (Tryz.prog.underlying 121).getD .bool) (by kernel_rfl) (by kernel_rfl) i121
theorem u122 : SlT Tryz.prog 122 333 := Tryz.underlying122
theorem i122 : TI Tryz.prog 122 (.slice none 0 0) 1 24 := TI.mk' (by kernel_rfl)
theorem p122 : Plain Tryz.prog 122 := Plain.of Tryz.underlying122 rfl
theorem i124 : TI Tryz.prog 124 (.agg #[.string ByteArray.empty, .int .i64 0, .int .i64 0, .string ByteArray.empty, .int .u64 0, .int .u64 0, .int .i64 0, .slice none 0 0, .bool false, .float .f64 0, .float .f64 0, .slice none 0 0, .slice none 0 0, .bool false, .float .f64 0, .float .f64 0, .slice none 0 0, .slice none 0 0, .float .f64 0]) 19 248 := TI.mk' (by kernel_rfl)
theorem a124 : Agg Tryz.prog 124 19 := Agg.of (d := (Tryz.prog.underlying 124).getD .bool) (by kernel_rfl) (by kernel_rfl) i124
theorem p129 : Plain Tryz.prog 129 := Plain.of Tryz.underlying129 rfl
theorem p133 : Plain Tryz.prog 133 := Plain.of Tryz.underlying133 rfl
theorem p135 : Plain Tryz.prog 135 := Plain.of Tryz.underlying135 rfl
theorem i181 : TI Tryz.prog 181 (.int .u32 0) 1 4 := TI.mk' (by kernel_rfl)
theorem p181 : Plain Tryz.prog 181 := Plain.of Tryz.underlying181 rfl
theorem u193 : SlT Tryz.prog 193 199 := Tryz.underlying193
theorem i193 : TI Tryz.prog 193 (.slice none 0 0) 1 24 := TI.mk' (by kernel_rfl)
theorem p193 : Plain Tryz.prog 193 := Plain.of Tryz.underlying193 rfl
theorem i199 : TI Tryz.prog 199 (.agg #[.string ByteArray.empty, .int .i64 0]) 2 24 := TI.mk' (by kernel_rfl)
theorem i218 : TI Tryz.prog 218 (.agg #[.pointer none, .pointer none, .int .u64 0, .slice none 0 0]) 4 48 := TI.mk' (by kernel_rfl)
theorem a218 : Agg Tryz.prog 218 4 := Agg.of (d := (Tryz.prog.underlying 218).getD .bool) (by kernel_rfl) (by kernel_rfl) i218
theorem i280 : TI Tryz.prog 280 (.agg #[.int .i64 0, .slice none 0 0, .float .f64 0]) 3 40 := TI.mk' (by kernel_rfl)
theorem a280 : Agg Tryz.prog 280 3 := Agg.of (d := (Tryz.prog.underlying 280).getD .bool) (by kernel_rfl) (by kernel_rfl) i280
theorem p288 : Plain Tryz.prog 288 := Plain.of Tryz.underlying288 rfl
theorem u290 : SlT Tryz.prog 290 280 := Tryz.underlying290
theorem p290 : Plain Tryz.prog 290 := Plain.of Tryz.underlying290 rfl
theorem i309 : TI Tryz.prog 309 (.agg #[.int .i64 0, .string ByteArray.empty, .string ByteArray.empty]) 3 40 := TI.mk' (by kernel_rfl)
theorem a309 : Agg Tryz.prog 309 3 := Agg.of (d := (Tryz.prog.underlying 309).getD .bool) (by kernel_rfl) (by kernel_rfl) i309
theorem i319 : TI Tryz.prog 319 (.agg #[.int .u32 0, .int .u32 0, .int .u32 0, .int .u32 0, .int .u32 0, .int .u32 0, .int .u32 0, .int .u32 0]) 8 32 := TI.mk' (by kernel_rfl)
theorem a319 : Agg Tryz.prog 319 8 := Agg.of (d := (Tryz.prog.underlying 319).getD .bool) (by kernel_rfl) (by kernel_rfl) i319
theorem i321 : TI Tryz.prog 321 (.agg #[.int .u8 0, .int .u8 0, .int .u8 0, .int .u8 0, .int .u8 0, .int .u8 0, .int .u8 0, .int .u8 0, .int .u8 0, .int .u8 0, .int .u8 0, .int .u8 0, .int .u8 0, .int .u8 0, .int .u8 0, .int .u8 0, .int .u8 0, .int .u8 0, .int .u8 0, .int .u8 0, .int .u8 0, .int .u8 0, .int .u8 0, .int .u8 0, .int .u8 0, .int .u8 0, .int .u8 0, .int .u8 0, .int .u8 0, .int .u8 0, .int .u8 0, .int .u8 0, .int .u8 0, .int .u8 0, .int .u8 0, .int .u8 0, .int .u8 0, .int .u8 0, .int .u8 0, .int .u8 0, .int .u8 0, .int .u8 0, .int .u8 0, .int .u8 0, .int .u8 0, .int .u8 0, .int .u8 0, .int .u8 0, .int .u8 0, .int .u8 0, .int .u8 0, .int .u8 0, .int .u8 0, .int .u8 0, .int .u8 0, .int .u8 0, .int .u8 0, .int .u8 0, .int .u8 0, .int .u8 0, .int .u8 0, .int .u8 0, .int .u8 0, .int .u8 0]) 64 64 := TI.mk' (by kernel_rfl)
theorem a321 : Agg Tryz.prog 321 64 := Agg.of (d := (Tryz.prog.underlying 321).getD .bool) (by kernel_rfl) (by kernel_rfl) i321
theorem i333 : TI Tryz.prog 333 (.agg #[.string ByteArray.empty, .string ByteArray.empty]) 2 32 := TI.mk' (by kernel_rfl)
theorem a333 : Agg Tryz.prog 333 2 := Agg.of (d := (Tryz.prog.underlying 333).getD .bool) (by kernel_rfl) (by kernel_rfl) i333
theorem p373 : Plain Tryz.prog 373 := Plain.of Tryz.underlying373 rfl
theorem p374 : Plain Tryz.prog 374 := Plain.of Tryz.underlying374 rfl
theorem i384 : TI Tryz.prog 384 (.agg #[.int .u32 0, .int .u32 0, .int .u32 0, .int .u32 0, .int .u32 0, .int .u32 0, .int .u32 0, .int .u32 0, .int .u32 0, .int .u32 0, .int .u32 0, .int .u32 0, .int .u32 0, .int .u32 0, .int .u32 0, .int .u32 0, .int .u32 0, .int .u32 0, .int .u32 0, .int .u32 0, .int .u32 0, .int .u32 0, .int .u32 0, .int .u32 0, .int .u32 0, .int .u32 0, .int .u32 0, .int .u32 0, .int .u32 0, .int .u32 0, .int .u32 0, .int .u32 0, .int .u32 0, .int .u32 0, .int .u32 0, .int .u32 0, .int .u32 0, .int .u32 0, .int .u32 0, .int .u32 0, .int .u32 0, .int .u32 0, .int .u32 0, .int .u32 0, .int .u32 0, .int .u32 0, .int .u32 0, .int .u32 0, .int .u32 0, .int .u32 0, .int .u32 0, .int .u32 0, .int .u32 0, .int .u32 0, .int .u32 0, .int .u32 0, .int .u32 0, .int .u32 0, .int .u32 0, .int .u32 0, .int .u32 0, .int .u32 0, .int .u32 0, .int .u32 0]) 64 256 := TI.mk' (by kernel_rfl)
theorem a384 : Agg Tryz.prog 384 64 := Agg.of (d := (Tryz.prog.underlying 384).getD .bool) (by kernel_rfl) (by kernel_rfl) i384
theorem u449 : SlT Tryz.prog 449 63 := Tryz.underlying449
theorem key3 : KeyLaw Tryz.prog 3 (Value.int .i64) := KeyLaw.int Tryz.underlying3
theorem pair333 : Pair Tryz.prog 333 := Pair.of (by kernel_rfl) (by kernel_rfl) Tryz.underlying333 Tryz.underlying9 rfl rfl rfl rfl (by decide) (by decide)
theorem key333 : KeyLaw Tryz.prog 333 pairV := KeyLaw.pair Tryz.underlying333 Tryz.underlying9 rfl rfl rfl rfl (by decide) (by decide) pair333
theorem fo33_0 : FO Tryz.prog 33 0 0 := fun a w => by kernel_rfl
theorem fo33_1 : FO Tryz.prog 33 1 1 := fun a w => by kernel_rfl
theorem fo33_2 : FO Tryz.prog 33 2 2 := fun a w => by kernel_rfl
theorem fo33_3 : FO Tryz.prog 33 3 3 := fun a w => by kernel_rfl
theorem fo33_4 : FO Tryz.prog 33 4 4 := fun a w => by kernel_rfl
theorem fo33_5 : FO Tryz.prog 33 5 5 := fun a w => by kernel_rfl
theorem fo33_6 : FO Tryz.prog 33 6 6 := fun a w => by kernel_rfl
theorem fo33_7 : FO Tryz.prog 33 7 7 := fun a w => by kernel_rfl
theorem fo33_8 : FO Tryz.prog 33 8 8 := fun a w => by kernel_rfl
theorem fo37_0 : FO Tryz.prog 37 0 0 := fun a w => by kernel_rfl
theorem fo37_1 : FO Tryz.prog 37 1 9 := fun a w => by kernel_rfl
theorem fo37_2 : FO Tryz.prog 37 2 10 := fun a w => by kernel_rfl
theorem fo41_0 : FO Tryz.prog 41 0 0 := fun a w => by kernel_rfl
theorem fo41_1 : FO Tryz.prog 41 1 1 := fun a w => by kernel_rfl
theorem fo43_0 : FO Tryz.prog 43 0 0 := fun a w => by kernel_rfl
theorem fo43_1 : FO Tryz.prog 43 1 1 := fun a w => by kernel_rfl
theorem fo43_2 : FO Tryz.prog 43 2 2 := fun a w => by kernel_rfl
theorem fo43_3 : FO Tryz.prog 43 3 13 := fun a w => by kernel_rfl
theorem fo89_1 : FO Tryz.prog 89 1 9 := fun a w => by kernel_rfl
theorem fo89_2 : FO Tryz.prog 89 2 10 := fun a w => by kernel_rfl
theorem fo89_3 : FO Tryz.prog 89 3 11 := fun a w => by kernel_rfl
theorem fo92_0 : FO Tryz.prog 92 0 0 := fun a w => by kernel_rfl
theorem fo107_0 : FO Tryz.prog 107 0 0 := fun a w => by kernel_rfl
theorem fo107_1 : FO Tryz.prog 107 1 1 := fun a w => by kernel_rfl
theorem fo107_2 : FO Tryz.prog 107 2 2 := fun a w => by kernel_rfl
theorem fo107_3 : FO Tryz.prog 107 3 3 := fun a w => by kernel_rfl
theorem fo107_4 : FO Tryz.prog 107 4 4 := fun a w => by kernel_rfl
theorem fo107_5 : FO Tryz.prog 107 5 5 := fun a w => by kernel_rfl
theorem fo107_6 : FO Tryz.prog 107 6 6 := fun a w => by kernel_rfl
theorem fo107_7 : FO Tryz.prog 107 7 7 := fun a w => by kernel_rfl
theorem fo107_8 : FO Tryz.prog 107 8 39 := fun a w => by kernel_rfl
theorem fo119_0 : FO Tryz.prog 119 0 0 := fun a w => by kernel_rfl
theorem fo119_1 : FO Tryz.prog 119 1 1 := fun a w => by kernel_rfl
theorem fo119_2 : FO Tryz.prog 119 2 2 := fun a w => by kernel_rfl
theorem fo121_0 : FO Tryz.prog 121 0 0 := fun a w => by kernel_rfl
theorem fo121_1 : FO Tryz.prog 121 1 1 := fun a w => by kernel_rfl
theorem fo121_2 : FO Tryz.prog 121 2 2 := fun a w => by kernel_rfl
theorem fo121_3 : FO Tryz.prog 121 3 5 := fun a w => by kernel_rfl
theorem fo124_0 : FO Tryz.prog 124 0 0 := fun a w => by kernel_rfl
theorem fo124_1 : FO Tryz.prog 124 1 1 := fun a w => by kernel_rfl
theorem fo124_2 : FO Tryz.prog 124 2 2 := fun a w => by kernel_rfl
theorem fo124_3 : FO Tryz.prog 124 3 3 := fun a w => by kernel_rfl
theorem fo124_4 : FO Tryz.prog 124 4 4 := fun a w => by kernel_rfl
theorem fo124_5 : FO Tryz.prog 124 5 5 := fun a w => by kernel_rfl
theorem fo124_6 : FO Tryz.prog 124 6 6 := fun a w => by kernel_rfl
theorem fo124_7 : FO Tryz.prog 124 7 7 := fun a w => by kernel_rfl
theorem fo124_8 : FO Tryz.prog 124 8 8 := fun a w => by kernel_rfl
theorem fo124_9 : FO Tryz.prog 124 9 11 := fun a w => by kernel_rfl
theorem fo124_10 : FO Tryz.prog 124 10 17 := fun a w => by kernel_rfl
theorem fo124_11 : FO Tryz.prog 124 11 18 := fun a w => by kernel_rfl
theorem fo140_0 : FO Tryz.prog 140 0 0 := fun a w => by kernel_rfl
theorem fo140_1 : FO Tryz.prog 140 1 1 := fun a w => by kernel_rfl
theorem fo192_1 : FO Tryz.prog 192 1 1 := fun a w => by kernel_rfl
theorem fo195_0 : FO Tryz.prog 195 0 0 := fun a w => by kernel_rfl
theorem fo195_1 : FO Tryz.prog 195 1 1 := fun a w => by kernel_rfl
theorem fo247_0 : FO Tryz.prog 247 0 0 := fun a w => by kernel_rfl
theorem fo247_1 : FO Tryz.prog 247 1 1 := fun a w => by kernel_rfl
theorem fo247_2 : FO Tryz.prog 247 2 2 := fun a w => by kernel_rfl
theorem fo280_1 : FO Tryz.prog 280 1 1 := fun a w => by kernel_rfl
theorem fo292_2 : FO Tryz.prog 292 2 2 := fun a w => by kernel_rfl
theorem fo309_0 : FO Tryz.prog 309 0 0 := fun a w => by kernel_rfl
theorem fo309_1 : FO Tryz.prog 309 1 1 := fun a w => by kernel_rfl
theorem fo309_2 : FO Tryz.prog 309 2 2 := fun a w => by kernel_rfl
theorem fo333_0 : FO Tryz.prog 333 0 0 := fun a w => by kernel_rfl
theorem fo333_1 : FO Tryz.prog 333 1 1 := fun a w => by kernel_rfl
theorem fo376_0 : FO Tryz.prog 376 0 0 := fun a w => by kernel_rfl
theorem fo376_1 : FO Tryz.prog 376 1 1 := fun a w => by kernel_rfl
theorem e2 : Enters Tryz.prog 2 := enters_of Tryz.func2 (by kernel_rfl) rfl
theorem e3 : Enters Tryz.prog 3 := enters_of Tryz.func3 (by kernel_rfl) rfl
theorem e4 : Enters Tryz.prog 4 := enters_of Tryz.func4 (by kernel_rfl) rfl
theorem e5 : Enters Tryz.prog 5 := enters_of Tryz.func5 (by kernel_rfl) rfl
theorem e6 : Enters Tryz.prog 6 := enters_of Tryz.func6 (by kernel_rfl) rfl
theorem e7 : Enters Tryz.prog 7 := enters_of Tryz.func7 (by kernel_rfl) rfl
theorem e8 : Enters Tryz.prog 8 := enters_of Tryz.func8 (by kernel_rfl) rfl
theorem e9 : Enters Tryz.prog 9 := enters_of Tryz.func9 (by kernel_rfl) rfl
theorem e11 : Enters Tryz.prog 11 := enters_of Tryz.func11 (by kernel_rfl) rfl
theorem e14 : Enters Tryz.prog 14 := enters_of Tryz.func14 (by kernel_rfl) rfl
theorem e15 : Enters Tryz.prog 15 := enters_of Tryz.func15 (by kernel_rfl) rfl
theorem e16 : Enters Tryz.prog 16 := enters_of Tryz.func16 (by kernel_rfl) rfl
theorem e17 : Enters Tryz.prog 17 := enters_of Tryz.func17 (by kernel_rfl) rfl
theorem e18 : Enters Tryz.prog 18 := enters_of Tryz.func18 (by kernel_rfl) rfl
theorem e19 : Enters Tryz.prog 19 := enters_of Tryz.func19 (by kernel_rfl) rfl
theorem e20 : Enters Tryz.prog 20 := enters_of Tryz.func20 (by kernel_rfl) rfl
theorem e21 : Enters Tryz.prog 21 := enters_of Tryz.func21 (by kernel_rfl) rfl
theorem e25 : Enters Tryz.prog 25 := enters_of Tryz.func25 (by kernel_rfl) rfl
theorem e26 : Enters Tryz.prog 26 := enters_of Tryz.func26 (by kernel_rfl) rfl
theorem e27 : Enters Tryz.prog 27 := enters_of Tryz.func27 (by kernel_rfl) rfl
theorem e35 : Enters Tryz.prog 35 := enters_of Tryz.func35 (by kernel_rfl) rfl
theorem e36 : Enters Tryz.prog 36 := enters_of Tryz.func36 (by kernel_rfl) rfl
theorem e37 : Enters Tryz.prog 37 := enters_of Tryz.func37 (by kernel_rfl) rfl
theorem e38 : Enters Tryz.prog 38 := enters_of Tryz.func38 (by kernel_rfl) rfl
theorem e39 : Enters Tryz.prog 39 := enters_of Tryz.func39 (by kernel_rfl) rfl
theorem e40 : Enters Tryz.prog 40 := enters_of Tryz.func40 (by kernel_rfl) rfl
theorem e41 : Enters Tryz.prog 41 := enters_of Tryz.func41 (by kernel_rfl) rfl
theorem e45 : Enters Tryz.prog 45 := enters_of Tryz.func45 (by kernel_rfl) rfl
theorem e46 : Enters Tryz.prog 46 := enters_of Tryz.func46 (by kernel_rfl) rfl
theorem e47 : Enters Tryz.prog 47 := enters_of Tryz.func47 (by kernel_rfl) rfl
theorem e48 : Enters Tryz.prog 48 := enters_of Tryz.func48 (by kernel_rfl) rfl
theorem e49 : Enters Tryz.prog 49 := enters_of Tryz.func49 (by kernel_rfl) rfl
theorem e51 : Enters Tryz.prog 51 := enters_of Tryz.func51 (by kernel_rfl) rfl
theorem e61 : Enters Tryz.prog 61 := enters_of Tryz.func61 (by kernel_rfl) rfl
theorem e65 : Enters Tryz.prog 65 := enters_of Tryz.func65 (by kernel_rfl) rfl
theorem e67 : Enters Tryz.prog 67 := enters_of Tryz.func67 (by kernel_rfl) rfl
theorem e68 : Enters Tryz.prog 68 := enters_of Tryz.func68 (by kernel_rfl) rfl
theorem e69 : Enters Tryz.prog 69 := enters_of Tryz.func69 (by kernel_rfl) rfl
theorem e70 : Enters Tryz.prog 70 := enters_of Tryz.func70 (by kernel_rfl) rfl
theorem e71 : Enters Tryz.prog 71 := enters_of Tryz.func71 (by kernel_rfl) rfl
theorem e72 : Enters Tryz.prog 72 := enters_of Tryz.func72 (by kernel_rfl) rfl
theorem e73 : Enters Tryz.prog 73 := enters_of Tryz.func73 (by kernel_rfl) rfl
theorem e74 : Enters Tryz.prog 74 := enters_of Tryz.func74 (by kernel_rfl) rfl
theorem e81 : Enters Tryz.prog 81 := enters_of Tryz.func81 (by kernel_rfl) rfl
theorem e86 : Enters Tryz.prog 86 := enters_of Tryz.func86 (by kernel_rfl) rfl
theorem e87 : Enters Tryz.prog 87 := enters_of Tryz.func87 (by kernel_rfl) rfl
theorem e89 : Enters Tryz.prog 89 := enters_of Tryz.func89 (by kernel_rfl) rfl
theorem e90 : Enters Tryz.prog 90 := enters_of Tryz.func90 (by kernel_rfl) rfl
theorem e91 : Enters Tryz.prog 91 := enters_of Tryz.func91 (by kernel_rfl) rfl
theorem e92 : Enters Tryz.prog 92 := enters_of Tryz.func92 (by kernel_rfl) rfl
theorem e93 : Enters Tryz.prog 93 := enters_of Tryz.func93 (by kernel_rfl) rfl
theorem e94 : Enters Tryz.prog 94 := enters_of Tryz.func94 (by kernel_rfl) rfl
theorem e95 : Enters Tryz.prog 95 := enters_of Tryz.func95 (by kernel_rfl) rfl
theorem e110 : Enters Tryz.prog 110 := enters_of Tryz.func110 (by kernel_rfl) rfl
theorem e111 : Enters Tryz.prog 111 := enters_of Tryz.func111 (by kernel_rfl) rfl
theorem e112 : Enters Tryz.prog 112 := enters_of Tryz.func112 (by kernel_rfl) rfl
theorem e121 : Enters Tryz.prog 121 := enters_of Tryz.func121 (by kernel_rfl) rfl
theorem e122 : Enters Tryz.prog 122 := enters_of Tryz.func122 (by kernel_rfl) rfl
theorem e123 : Enters Tryz.prog 123 := enters_of Tryz.func123 (by kernel_rfl) rfl
theorem e124 : Enters Tryz.prog 124 := enters_of Tryz.func124 (by kernel_rfl) rfl
theorem e125 : Enters Tryz.prog 125 := enters_of Tryz.func125 (by kernel_rfl) rfl
theorem e126 : Enters Tryz.prog 126 := enters_of Tryz.func126 (by kernel_rfl) rfl
theorem e137 : Enters Tryz.prog 137 := enters_of Tryz.func137 (by kernel_rfl) rfl
theorem e139 : Enters Tryz.prog 139 := enters_of Tryz.func139 (by kernel_rfl) rfl
theorem e140 : Enters Tryz.prog 140 := enters_of Tryz.func140 (by kernel_rfl) rfl
theorem e154 : Enters Tryz.prog 154 := enters_of Tryz.func154 (by kernel_rfl) rfl
theorem e155 : Enters Tryz.prog 155 := enters_of Tryz.func155 (by kernel_rfl) rfl
theorem e157 : Enters Tryz.prog 157 := enters_of Tryz.func157 (by kernel_rfl) rfl
theorem e161 : Enters Tryz.prog 161 := enters_of Tryz.func161 (by kernel_rfl) rfl
theorem e162 : Enters Tryz.prog 162 := enters_of Tryz.func162 (by kernel_rfl) rfl
theorem e163 : Enters Tryz.prog 163 := enters_of Tryz.func163 (by kernel_rfl) rfl
theorem e164 : Enters Tryz.prog 164 := enters_of Tryz.func164 (by kernel_rfl) rfl
theorem e165 : Enters Tryz.prog 165 := enters_of Tryz.func165 (by kernel_rfl) rfl
theorem e177 : Enters Tryz.prog 177 := enters_of Tryz.func177 (by kernel_rfl) rfl
theorem e178 : Enters Tryz.prog 178 := enters_of Tryz.func178 (by kernel_rfl) rfl
theorem e211 : Enters Tryz.prog 211 := enters_of Tryz.func211 (by kernel_rfl) rfl
theorem e212 : Enters Tryz.prog 212 := enters_of Tryz.func212 (by kernel_rfl) rfl
theorem e214 : Enters Tryz.prog 214 := enters_of Tryz.func214 (by kernel_rfl) rfl
theorem e215 : Enters Tryz.prog 215 := enters_of Tryz.func215 (by kernel_rfl) rfl
theorem e218 : Enters Tryz.prog 218 := enters_of Tryz.func218 (by kernel_rfl) rfl
theorem e219 : Enters Tryz.prog 219 := enters_of Tryz.func219 (by kernel_rfl) rfl
theorem e220 : Enters Tryz.prog 220 := enters_of Tryz.func220 (by kernel_rfl) rfl
theorem e224 : Enters Tryz.prog 224 := enters_of Tryz.func224 (by kernel_rfl) rfl
theorem e225 : Enters Tryz.prog 225 := enters_of Tryz.func225 (by kernel_rfl) rfl
theorem e228 : Enters Tryz.prog 228 := enters_of Tryz.func228 (by kernel_rfl) rfl
theorem e232 : Enters Tryz.prog 232 := enters_of Tryz.func232 (by kernel_rfl) rfl
theorem e235 : Enters Tryz.prog 235 := enters_of Tryz.func235 (by kernel_rfl) rfl
theorem e236 : Enters Tryz.prog 236 := enters_of Tryz.func236 (by kernel_rfl) rfl
theorem e267 : Enters Tryz.prog 267 := enters_of Tryz.func267 (by kernel_rfl) rfl
theorem e270 : Enters Tryz.prog 270 := enters_of Tryz.func270 (by kernel_rfl) rfl
theorem e278 : Enters Tryz.prog 278 := enters_of Tryz.func278 (by kernel_rfl) rfl
theorem e279 : Enters Tryz.prog 279 := enters_of Tryz.func279 (by kernel_rfl) rfl
theorem e280 : Enters Tryz.prog 280 := enters_of Tryz.func280 (by kernel_rfl) rfl
theorem e281 : Enters Tryz.prog 281 := enters_of Tryz.func281 (by kernel_rfl) rfl
theorem e284 : Enters Tryz.prog 284 := enters_of Tryz.func284 (by kernel_rfl) rfl
theorem e289 : Enters Tryz.prog 289 := enters_of Tryz.func289 (by kernel_rfl) rfl
theorem e290 : Enters Tryz.prog 290 := enters_of Tryz.func290 (by kernel_rfl) rfl
theorem e301 : Enters Tryz.prog 301 := enters_of Tryz.func301 (by kernel_rfl) rfl
theorem e302 : Enters Tryz.prog 302 := enters_of Tryz.func302 (by kernel_rfl) rfl
theorem e303 : Enters Tryz.prog 303 := enters_of Tryz.func303 (by kernel_rfl) rfl
theorem e304 : Enters Tryz.prog 304 := enters_of Tryz.func304 (by kernel_rfl) rfl
theorem e305 : Enters Tryz.prog 305 := enters_of Tryz.func305 (by kernel_rfl) rfl
theorem e313 : Enters Tryz.prog 313 := enters_of Tryz.func313 (by kernel_rfl) rfl
theorem e318 : Enters Tryz.prog 318 := enters_of Tryz.func318 (by kernel_rfl) rfl
theorem e321 : Enters Tryz.prog 321 := enters_of Tryz.func321 (by kernel_rfl) rfl
theorem e323 : Enters Tryz.prog 323 := enters_of Tryz.func323 (by kernel_rfl) rfl
theorem e324 : Enters Tryz.prog 324 := enters_of Tryz.func324 (by kernel_rfl) rfl
theorem e325 : Enters Tryz.prog 325 := enters_of Tryz.func325 (by kernel_rfl) rfl
theorem e326 : Enters Tryz.prog 326 := enters_of Tryz.func326 (by kernel_rfl) rfl
theorem e327 : Enters Tryz.prog 327 := enters_of Tryz.func327 (by kernel_rfl) rfl
theorem e328 : Enters Tryz.prog 328 := enters_of Tryz.func328 (by kernel_rfl) rfl
theorem e337 : Enters Tryz.prog 337 := enters_of Tryz.func337 (by kernel_rfl) rfl
theorem e341 : Enters Tryz.prog 341 := enters_of Tryz.func341 (by kernel_rfl) rfl
theorem e342 : Enters Tryz.prog 342 := enters_of Tryz.func342 (by kernel_rfl) rfl
theorem e343 : Enters Tryz.prog 343 := enters_of Tryz.func343 (by kernel_rfl) rfl
theorem e355 : Enters Tryz.prog 355 := enters_of Tryz.func355 (by kernel_rfl) rfl
theorem e362 : Enters Tryz.prog 362 := enters_of Tryz.func362 (by kernel_rfl) rfl
theorem e364 : Enters Tryz.prog 364 := enters_of Tryz.func364 (by kernel_rfl) rfl
theorem e365 : Enters Tryz.prog 365 := enters_of Tryz.func365 (by kernel_rfl) rfl
theorem e366 : Enters Tryz.prog 366 := enters_of Tryz.func366 (by kernel_rfl) rfl
theorem e367 : Enters Tryz.prog 367 := enters_of Tryz.func367 (by kernel_rfl) rfl
theorem e368 : Enters Tryz.prog 368 := enters_of Tryz.func368 (by kernel_rfl) rfl
theorem e371 : Enters Tryz.prog 371 := enters_of Tryz.func371 (by kernel_rfl) rfl
theorem e372 : Enters Tryz.prog 372 := enters_of Tryz.func372 (by kernel_rfl) rfl
theorem e373 : Enters Tryz.prog 373 := enters_of Tryz.func373 (by kernel_rfl) rfl
theorem x285 : ∀ (b : Nat) (w : World), (callFunc 285 #[.float .f64 b]).run Tryz.prog w = .ok (.value (.int .u64 b)) w := fun b w => by kernel_rfl
end Go.Proofs.YtcndimkkojdflaaGreatDoor
set_option linter.unusedVariables false
namespace Go.X
open Go Go.RowKit Go.WideShapes Go.ChangeShapes
section
variable {H : Type} {enc : TypeId × Value → H} {P : Program} {W : World} {base : Nat} {sp : Nat → Bool} {held : Bool}
end
end Go.X
namespace Go.X
open Ieee
end Go.X
set_option linter.unusedVariables false
set_option linter.unusedSimpArgs false
namespace Go.X
open Go Go.RowKit
section
variable {P : Program} {n : Nat} {e : Env} {w : World} {C : World → Prop}
def fromAt (ad : Option Addr) (cap m sz : Nat) : Option Addr := ad.map fun a => if cap = m then a else a.add (m * sz)
theorem Yld.sliceFrom {d : Option Tmp} {t el : Nat} {x h : Operand} {ty : TypeId} {pos : String} {af : Array Edge} {g : Option (Nat × Bool)} (hT : SlT P t el) {z : Value} {sz by' : Nat} (hE : TI P el z sz by') {ad : Option Addr} {len cap m : Nat} {k : IntKind} (hx : ev e x = some (.slice ad len cap)) (hh : ev e h = some (.int k (m : Int))) (hm : m ≤ len) :
    Yld P n C e ⟨d, .slice t x (some h) none none, ty, pos, af, g⟩ (.slice (fromAt ad cap m sz) (len - m) (cap - m)) := by
  intro a ha w _
  have h1 : (m : Int) ≤ len := by omega
  cases ad with
  | none => simp [execOp, ha.ev hx, ha.ev hh, Instr.sliceAt, Instr.slice, run_underlying hT, Instr.sliceBounds, Instr.sliceBound, asIntOf, hE.sizeOf w, h1, hm, fromAt]
  | some ad => by_cases hcm : cap = m <;> simp [execOp, ha.ev hx, ha.ev hh, Instr.sliceAt, Instr.slice, run_underlying hT, Instr.sliceBounds, Instr.sliceBound, asIntOf, hE.sizeOf w, h1, hm, hcm, fromAt]
end
theorem Sl.take {M : Nat → Prop} {w : World} {ad : Option Addr} {n c : Nat} {cs : List Value} (h : Sl M w (.slice ad n c) 1 n cs) {j : Nat} (hj : j ≤ n) : Sl M w (.slice ad j c) 1 j (cs.take j) := by
  have hl := h.len
  have hb := h.big
  obtain ⟨ad', c', he, hf⟩ := h.form
  cases he
  refine ⟨by simp; omega, by omega, _, _, rfl, fun h0 => ?_⟩
  obtain ⟨b, o, ha, hM, hc⟩ := hf (by omega)
  refine ⟨b, o, ha, hM, fun i u hi => hc i u ?_⟩
  rw [List.getElem?_take] at hi
  split at hi
  · exact hi
  · cases hi
theorem Sl.from {M : Nat → Prop} {w : World} {ad : Option Addr} {n c : Nat} {cs : List Value} (h : Sl M w (.slice ad n c) 1 n cs) {j : Nat} (hj : j ≤ n) (hnc : n ≤ c) : Sl M w (.slice (fromAt ad c j 1) (n - j) (c - j)) 1 (n - j) (cs.drop j) := by
  have hl := h.len
  have hb := h.big
  obtain ⟨ad', c', he, hf⟩ := h.form
  cases he
  refine ⟨by simp; omega, by omega, _, _, rfl, fun h0 => ?_⟩
  obtain ⟨b, o, rfl, hM, hc⟩ := hf (by omega)
  refine ⟨b, o + j, ?_, hM, fun i u hi => ?_⟩
  · have : ¬ c = j := by omega
    simp [fromAt, this, add_none]
  · rw [List.getElem?_drop] at hi
    rw [Nat.add_assoc]
    exact hc _ u hi
theorem Row.cap {w : World} {t : TypeId} {sz : Nat} {v : Value} {k : Nat} {xs : List Value} (h : Row w t sz v k xs) : ∃ ad c, v = .slice ad k c ∧ k ≤ c := by
  rcases h.2 with ⟨rfl, rfl⟩ | ⟨g, cap, cur, rfl, _, _, hnc, _⟩
  · exact ⟨_, _, rfl, Nat.le_refl _⟩
  · exact ⟨_, _, rfl, hnc⟩
end Go.X
set_option linter.unusedVariables false
namespace Go.X
open Go Go.RowKit
def okPre (ops : Array Oper) (fin : Array Bool → Bool) : Array Bool → List (Nat × Bool) → Bool
  | L, [] => fin L
  | L, (i, loud) :: r => (if loud then Region.ready .any ops L == [i] else (Region.ready .any ops L).contains i && Region.free .any ops L i) && okPre ops fin (L.setIfInBounds i true) r
theorem wpOp_exits {P : Program} {ops : Array Oper} {Q E : Exit → Act → World → Prop} (h1 : ∀ c a w, ¬ E (.panic c) a w) (h2 : ¬ LetsOut E) {i : Nat} {K : Act → World → Prop} {a : Act} {w : World} (h : wpOp P ops E i K a w) : wpOp P ops Q i K a w := by
  unfold wpOp at *
  split
  · rename_i ho; simpa [ho] using h
  · rename_i o ho
    simp only [ho] at h
    split
    · rename_i hw
      rw [if_pos hw] at h
      refine .inl ?_
      rcases h with h | ⟨_, h⟩
      · unfold Oper.wp at *
        generalize (execOp a.eval o).run P w = r at *
        unfold Oper.upon at *
        split at h <;> first
          | exact h
          | exact absurd h (h1 _ _ _)
          | exact h.elim
          | (refine Calls.mono h fun e w' he => ?_
             cases e with
             | returned v => exact he
             | panicked c => exact absurd he (h1 _ _ _)
             | outgrown => exact absurd he h2)
      · exact absurd h h2
    · rename_i hw
      rw [if_neg hw] at h
      exact h
theorem wpT_of_pre {P : Program} {ops : Array Oper} {S : World → Prop} {tl : List Nat} {Q E : Exit → Act → World → Prop} (hs : Region.noSelect ops = true) (hQ : ∀ c a w, ¬ Q (.panic c) a w) (hE : ∀ c a w, ¬ E (.panic c) a w) (hE2 : ¬ LetsOut E) {fin : Array Bool → Bool} {f0 : Nat} (hfin : ∀ L a w, fin L = true → E .normal a w → wpT P ops Q S tl.contains f0 L a w) :
    ∀ (l : List (Nat × Bool)) (L : Array Bool) (a : Act) (w : World), okPre ops fin L l = true → wpOrd P ops S tl E l a w → wpT P ops Q S tl.contains (l.length + f0) L a w
  | [], L, a, w, h, hw => by rw [List.length_nil, Nat.zero_add]; exact hfin L a w h hw
  | (i, false) :: r, L, a, w, h, hw => by
    simp only [okPre, Bool.and_eq_true, Bool.false_eq_true, if_false] at h
    obtain ⟨o, v, ho, hy, hr⟩ := hw
    have hrec := wpT_of_pre hs hQ hE hE2 hfin r _ _ _ h.2 hr
    have hfree := Region.free_spec ho h.1.2
    have e : ((i, false) :: r).length + f0 = (r.length + f0) + 1 := by simp; omega
    rw [e]
    rcases hy with hy | ⟨ht, hy, hSw⟩
    · exact wpT_take hs hQ ho (C := fun _ => True) (fun _ _ => trivial) (.inl fun _ => trivial) _ _ _ _ hfree (by simpa using h.1.1) hy trivial (.inl fun _ => trivial) hrec
    · refine wpT_take hs hQ ho (C := S) (fun _ h => h) (.inr fun j oj hj htj => ?_) _ _ _ _ hfree (by simpa using h.1.1) hy hSw (.inr hSw) hrec
      have h1 := List.all_eq_true.1 ht j (by simpa using htj)
      have h2 : nth ops.toList j = some oj := by rw [nth_eq]; simpa using hj
      simp only [h2] at h1
      exact h1
  | (i, true) :: r, L, a, w, h, hw => by
    simp only [okPre, Bool.and_eq_true, if_true, beq_iff_eq] at h
    have e : ((i, true) :: r).length + f0 = (r.length + f0) + 1 := by simp; omega
    rw [e]
    refine ⟨fun h0 => (by rw [h.1] at h0; cases h0), fun j hj => ?_⟩
    rw [h.1] at hj
    simp only [List.mem_singleton] at hj
    subst hj
    exact wpOp_exits hE hE2 (wpOp_mono (fun a' w' h' => ⟨h'.1, wpT_of_pre hs hQ hE hE2 hfin r _ _ _ h.2 h'.2⟩) hw)
def Fork (P : Program) (ops : Array Oper) (S : World → Prop) (tl : List Nat) (Q : Exit → Act → World → Prop) (p q : List (Nat × Bool)) : Exit → Act → World → Prop := fun x a w => x = .normal ∧ wpOrd P ops S tl Q p a w ∧ wpOrd P ops S tl Q q a w
section
variable {P : Program} {f : FuncId} {n : Nat} {R : Ending → World → Prop} {k : List Item} {e : Env} {w : World}
theorem RK.drawF {id : Nat} {l : List Oper} (M : Nat → Prop) (ord : List (Nat × Bool)) (a b : Nat) (p q : List (Nat × Bool)) (tl : List Nat) (hm : P.follows .mixedOrders = true)
    (hb : (Region.noSelect l.toArray && okPre l.toArray (fun L => Region.ready .any l.toArray L == [a, b] && okOrd l.toArray tl (L.setIfInBounds a true) p && okOrd l.toArray tl (L.setIfInBounds b true) q) (Array.replicate l.length false) ord && Nat.beq l.length (ord.length + (p.length + 1)) && Nat.beq p.length q.length) = true)
    (h : DL P n l (Mod M w) tl ord e w.drew (Fork P l.toArray (Mod M w) tl (post P f R k) ((a, true) :: p) ((b, true) :: q))) : RK P f n R (.code (.region id l.toArray true) :: k) e w := by
  intro ac ha
  simp only [Bool.and_eq_true] at hb
  obtain ⟨⟨⟨hs, hpre⟩, hl⟩, hpq⟩ := hb
  have hl : l.length = ord.length + (p.length + 1) := Nat.eq_of_beq_eq_true hl
  have hpq : p.length = q.length := Nat.eq_of_beq_eq_true hpq
  refine Runs.of_wp (wp_region_any hm (wpT_any (S := Mod M w) (T := tl.contains) _ _ _ _ ?_))
  have := wpT_of_pre (P := P) (S := Mod M w) (tl := tl) (Q := post P f R k) (E := Fork P l.toArray (Mod M w) tl (post P f R k) ((a, true) :: p) ((b, true) :: q)) hs (fun c a w h => h) (fun c a w h => by cases h.1) (fun ⟨a, w, h⟩ => by cases h.1) (f0 := p.length + 1) (fun L a' w' hfin hE => ?_) ord _ ac _ hpre (h ac ha)
  · simpa [hl] using this
  · simp only [Bool.and_eq_true, beq_iff_eq] at hfin
    obtain ⟨⟨hr, hp⟩, hq⟩ := hfin
    obtain ⟨_, h1, h2⟩ := hE
    refine ⟨fun h0 => (by rw [hr] at h0; cases h0), fun j hj => ?_⟩
    rw [hr] at hj
    simp only [List.mem_cons, List.not_mem_nil, or_false] at hj
    rcases hj with rfl | rfl
    · exact wpOp_mono (fun a2 w2 h3 => ⟨h3.1, wpT_of_ord hs (fun c a w h => h) p _ _ _ hp h3.2⟩) h1
    · rw [hpq]
      exact wpOp_mono (fun a2 w2 h3 => ⟨h3.1, wpT_of_ord hs (fun c a w h => h) q _ _ _ hq h3.2⟩) h2
theorem DL.fork {ops : List Oper} {S : World → Prop} {tl : List Nat} {Q : Exit → Act → World → Prop} {p q : List (Nat × Bool)} (h1 : DL P n ops S tl p e w Q) (h2 : DL P n ops S tl q e w Q) : DL P n ops S tl [] e w (Fork P ops.toArray S tl Q p q) := fun a ha => ⟨rfl, h1 a ha, h2 a ha⟩
end
end Go.X
set_option linter.unusedVariables false
set_option linter.unusedSimpArgs false
namespace Go.X
open Go Go.RowKit
section
variable {κ α : Type} [DecidableEq κ]
theorem cutM_nil (k : κ) : cutM ([] : List (κ × α)) k = [] := rfl
theorem cutM_cons (k j : κ) (v : α) (l : List (κ × α)) : cutM ((j, v) :: l) k = if k = j then l else (j, v) :: cutM l k := by
  unfold cutM
  simp only [placeM]
  by_cases h : k = j
  · simp [h]
  · simp only [if_neg h]
    cases placeM k l with
    | none => rfl
    | some p => rfl
theorem lookM_cons (k j : κ) (v : α) (l : List (κ × α)) : lookM ((j, v) :: l) k = if k = j then some v else lookM l k := by
  unfold lookM
  simp only [placeM]
  by_cases h : k = j
  · simp [h]
  · simp only [if_neg h, Option.map_map]
    cases placeM k l <;> rfl
theorem putM_cons (k j : κ) (u v : α) (l : List (κ × α)) : putM ((j, v) :: l) k u = if k = j then (j, u) :: l else (j, v) :: putM l k u := by
  unfold putM
  simp only [placeM]
  by_cases h : k = j
  · simp [h]
  · simp only [if_neg h]
    cases placeM k l with
    | none => rfl
    | some p => simp
theorem lookM_putM (k k' : κ) (v : α) : ∀ l : List (κ × α), lookM (putM l k v) k' = if k' = k then some v else lookM l k'
  | [] => by
    have : putM ([] : List (κ × α)) k v = [(k, v)] := rfl
    rw [this, lookM_cons]
  | (j, u) :: l => by
    rw [putM_cons]
    by_cases h : k = j
    · subst h
      rw [if_pos rfl, lookM_cons, lookM_cons]
      by_cases h' : k' = k <;> simp [h']
    · rw [if_neg h, lookM_cons, lookM_cons, lookM_putM k k' v l]
      by_cases h' : k' = j
      · rw [if_pos h', if_pos h', if_neg (fun e => h (e.symm.trans h'))]
      · rw [if_neg h', if_neg h']
theorem lookM_none {k : κ} {l : List (κ × α)} : lookM l k = none ↔ k ∉ l.map (·.1) := by
  unfold lookM
  rw [Option.map_eq_none_iff, placeM_none]
theorem putM_new {k : κ} {l : List (κ × α)} (h : lookM l k = none) (v : α) : putM l k v = l ++ [(k, v)] := by
  have : placeM k l = none := by unfold lookM at h; exact Option.map_eq_none_iff.1 h
  unfold putM; rw [this]
theorem mem_cutM {k : κ} {t : κ × α} : ∀ {l : List (κ × α)}, (l.map (·.1)).Nodup → (t ∈ cutM l k ↔ t ∈ l ∧ t.1 ≠ k)
  | [], _ => by simp [cutM_nil]
  | (j, v) :: l, h => by
    rw [List.map_cons, List.nodup_cons] at h
    rw [cutM_cons]
    by_cases hk : k = j
    · subst hk
      rw [if_pos rfl, List.mem_cons]
      constructor
      · intro ht
        exact ⟨.inr ht, fun e => h.1 (List.mem_map.2 ⟨t, ht, e⟩)⟩
      · rintro ⟨rfl | ht, hn⟩
        · exact absurd rfl hn
        · exact ht
    · rw [if_neg hk, List.mem_cons, mem_cutM h.2, List.mem_cons]
      constructor
      · rintro (rfl | ⟨ht, hn⟩)
        · exact ⟨.inl rfl, fun e => hk e.symm⟩
        · exact ⟨.inr ht, hn⟩
      · rintro ⟨rfl | ht, hn⟩
        · exact .inl rfl
        · exact .inr ⟨ht, hn⟩
theorem cutM_sub (k : κ) : ∀ l : List (κ × α), (cutM l k).Sublist l
  | [] => List.Sublist.refl _
  | (j, v) :: l => by
    rw [cutM_cons]
    by_cases hk : k = j
    · rw [if_pos hk]; exact List.sublist_cons_self _ _
    · rw [if_neg hk]; exact (cutM_sub k l).cons_cons _
theorem cutM_nodup {k : κ} {l : List (κ × α)} (h : (l.map (·.1)).Nodup) : ((cutM l k).map (·.1)).Nodup := h.sublist ((cutM_sub k l).map _)
theorem putM_nodup {k : κ} {v : α} {l : List (κ × α)} (h : (l.map (·.1)).Nodup) : ((putM l k v).map (·.1)).Nodup := by
  rw [putM_keys]
  split
  · exact h
  · rename_i hk
    rw [List.nodup_append]
    exact ⟨h, by simp, fun a ha b hb e => hk (by simp at hb; subst hb; exact e ▸ ha)⟩
theorem lookM_iff {k : κ} {v : α} : ∀ {l : List (κ × α)}, (l.map (·.1)).Nodup → (lookM l k = some v ↔ (k, v) ∈ l)
  | [], _ => by simp [lookM, placeM]
  | (j, u) :: l, h => by
    rw [List.map_cons, List.nodup_cons] at h
    rw [lookM_cons, List.mem_cons]
    by_cases hk : k = j
    · subst hk
      rw [if_pos rfl]
      constructor
      · intro e; cases e; exact .inl rfl
      · rintro (e | e)
        · cases e; rfl
        · exact absurd (List.mem_map_of_mem (f := (·.1)) e) h.1
    · rw [if_neg hk, lookM_iff h.2]
      constructor
      · exact .inr
      · rintro (e | e)
        · cases e; exact absurd rfl hk
        · exact e
theorem lookM_cutM {k k' : κ} {l : List (κ × α)} (h : (l.map (·.1)).Nodup) : lookM (cutM l k) k' = if k' = k then none else lookM l k' := by
  by_cases hk : k' = k
  · rw [if_pos hk, lookM_none]
    intro hm
    obtain ⟨t, ht, e⟩ := List.mem_map.1 hm
    exact ((mem_cutM h).1 ht).2 (by simpa [hk] using e)
  · rw [if_neg hk]
    apply Option.ext
    intro v
    rw [lookM_iff (cutM_nodup h), lookM_iff h, mem_cutM h]
    exact ⟨fun h => h.1, fun h => ⟨h, hk⟩⟩
end
theorem map_eraseIdx' {α β : Type} (f : α → β) : ∀ (l : List α) (i : Nat), (l.eraseIdx i).map f = (l.map f).eraseIdx i
  | [], i => by simp
  | x :: l, 0 => by simp
  | x :: l, i + 1 => by simp [map_eraseIdx' f l i]
section
variable {P : Program} {n : Nat} {e : Env} {w : World} {κ : Type} [DecidableEq κ] {enc : κ → Value}
theorem Does.delete {d : Option Tmp} {t tk kt el : Nat} {x i : Operand} {ty : TypeId} {pos : String} {af : Array Edge} {g : Option (Nat × Bool)} (hT : P.underlying t = some (.map kt el)) (hK : KeyLaw P kt enc) {m : Nat} {k : κ} {l : List (κ × Value)}
    (hx : ev e x = some (.map (some m))) (hi : ev e i = some (enc k)) (hm : MapAt enc w m l) :
    Does P n e w ⟨d, .call { callee := .builtin .delete, args := #[x, i], argTypes := #[t, tk] }, ty, pos, af, g⟩ (fun _ w' => MapAt enc w' m (cutM l k) ∧ Mod (· = m) w w' ∧ w'.heap.size = w.heap.size) := by
  obtain ⟨es, c, h1, h2, h3, h4⟩ := hm.out
  have hlt : m < w.heap.size := (Array.getElem?_eq_some_iff.1 h1).1
  have hf := hK.find k es.toList l w h2
  have hg : (getObj m).run P w = .ok (.map es c) w := by simp [getObj, Sem.run, h1]
  have hset : ∀ o, (setObj m o).run P w = .ok () { w with heap := w.heap.setIfInBounds m o } := fun o => by simp [setObj, Sem.run, h1]
  have hmod : ∀ o, Mod (· = m) w { w with heap := w.heap.setIfInBounds m o } := fun o => ⟨rfl, rfl, rfl, by simp, fun k hk hn => by simp [Array.getElem?_setIfInBounds_ne (Ne.symm hn)]⟩
  have hat : ∀ o, ({ w with heap := w.heap.setIfInBounds m o } : World).heap[m]? = some o := fun o => by simp [hlt]
  cases hp : placeM k l with
  | some q =>
    obtain ⟨i0, v0⟩ := q
    refine Does.of_run (v := .tuple #[]) (w' := { w with heap := w.heap.setIfInBounds m (.map (es.eraseIdxIfInBounds i0) c) }) (fun a ha => ?_) ⟨⟨_, c, hat _, ?_, ?_, ?_⟩, hmod _, by simp⟩
    · simp [execOp, resolve, invoke, builtin, ha.ev hx, ha.ev hi, Builtin.delete_, run_underlying hT, hg, hK.check, hf, hp, hset]
    · simp only [cutM, hp, Array.toList_eraseIdxIfInBounds]
      rw [map_eraseIdx', h2, map_eraseIdx']
    · simp only [Array.toList_eraseIdxIfInBounds]
      exact h3.sublist ((List.eraseIdx_sublist _ _).map _)
    · intro x hx'
      simp only [Array.toList_eraseIdxIfInBounds] at hx'
      exact h4 x (List.mem_of_mem_eraseIdx hx')
  | none =>
    refine Does.of_run (v := .tuple #[]) (w' := { w with heap := w.heap.setIfInBounds m (.map es c) }) (fun a ha => ?_) ⟨⟨_, c, hat _, ?_, h3, h4⟩, hmod _, by simp⟩
    · simp [execOp, resolve, invoke, builtin, ha.ev hx, ha.ev hi, Builtin.delete_, run_underlying hT, hg, hK.check, hf, hp, hset]
    · simp only [cutM, hp]; exact h2
end
end Go.X
set_option linter.unusedVariables false
set_option linter.unusedSimpArgs false
namespace Go.X
open Go Go.RowKit
theorem Row.whole {w : World} {t : TypeId} {sz : Nat} {v : Value} {k : Nat} {xs : List Value} (h : Row w t sz v k xs) (hk : 0 < k) : ∃ g cap cs, v = .slice (some ⟨g, 0, none⟩) k cap ∧ Blk w g t cs ∧ cs.length = cap * sz ∧ k ≤ cap ∧ cap ≤ maxLen ∧ cs.take (k * sz) = xs := by
  rcases h.2 with ⟨rfl, rfl⟩ | ⟨g, cap, cur, rfl, _, hg, h1, h2, h3, h4⟩
  · omega
  · exact ⟨g, cap, cur.toList, rfl, by unfold Blk; simpa using hg, by simpa using h3, h1, h2, h4⟩
theorem Row.shut {w : World} {t g sz cap k : Nat} {cs : List Value} (h : Blk w g t cs) (hl : cs.length = cap * sz) (hk : k ≤ cap) (hc : cap ≤ maxLen) : Row w t sz (.slice (some ⟨g, 0, none⟩) k cap) k (cs.take (k * sz)) :=
  ⟨by rw [List.length_take, hl]; exact Nat.min_eq_left (Nat.mul_le_mul_right _ hk), .inr ⟨g, cap, cs.toArray, rfl, Nat.zero_le _, h, hk, hc, by simpa using hl, by simp⟩⟩
section
variable {P : Program} {n : Nat} {e : Env} {w : World} {C : World → Prop}
theorem Blk.setRow {g t : Nat} {cs cs' : List Value} (h : Blk w g t cs) : Blk (w.setRow g cs'.toArray) g t cs' ∧ Mod (· = g) w (w.setRow g cs'.toArray) ∧ (w.setRow g cs'.toArray).heap.size = w.heap.size := by
  have hlt := h.lt
  unfold Blk at h
  have e : w.setRow g cs'.toArray = { w with heap := w.heap.setIfInBounds g (.cells cs'.toArray t (0, 0)) } := by
    have h' : w.heap[g] = Obj.cells cs.toArray t := (Array.getElem?_eq_some_iff.1 h).2
    simp [World.setRow, Array.modify, Array.modifyM, hlt, h', Array.setIfInBounds]
  rw [e]
  exact ⟨by simp [Blk, hlt], ⟨rfl, rfl, rfl, by simp, fun k hk hn => by simp [Array.getElem?_setIfInBounds_ne (Ne.symm hn)]⟩, by simp⟩
theorem Yld.sliceLH {d : Option Tmp} {t el : Nat} {x l h : Operand} {ty : TypeId} {pos : String} {af : Array Edge} {g : Option (Nat × Bool)} (hT : SlT P t el) {z : Value} {sz by' : Nat} (hE : TI P el z sz by') {ad : Option Addr} {len cap lo hi : Nat} {k k' : IntKind} (hx : ev e x = some (.slice ad len cap)) (hl : ev e l = some (.int k (lo : Int))) (hh : ev e h = some (.int k' (hi : Int))) (h1 : lo ≤ hi) (h2 : hi ≤ cap) :
    Yld P n C e ⟨d, .slice t x (some l) (some h) none, ty, pos, af, g⟩ (.slice (fromAt ad cap lo sz) (hi - lo) (cap - lo)) := by
  intro a ha w _
  have e1 : (hi : Int) ≤ cap := by omega
  have e2 : (lo : Int) ≤ hi := by omega
  cases ad with
  | none => simp [execOp, ha.ev hx, ha.ev hl, ha.ev hh, Instr.sliceAt, Instr.slice, run_underlying hT, Instr.sliceBounds, Instr.sliceBound, asIntOf, hE.sizeOf w, e1, e2, h1, h2, fromAt]
  | some ad =>
    by_cases hcm : cap = lo
    · subst hcm
      obtain rfl : hi = cap := by omega
      simp [execOp, ha.ev hx, ha.ev hl, ha.ev hh, Instr.sliceAt, Instr.slice, run_underlying hT, Instr.sliceBounds, Instr.sliceBound, asIntOf, hE.sizeOf w, fromAt]
    · simp [execOp, ha.ev hx, ha.ev hl, ha.ev hh, Instr.sliceAt, Instr.slice, run_underlying hT, Instr.sliceBounds, Instr.sliceBound, asIntOf, hE.sizeOf w, e1, e2, h1, h2, hcm, fromAt]
theorem Does.clear {d : Option Tmp} {t el : Nat} {x : Operand} {ty : TypeId} {pos : String} {af : Array Edge} {g' : Option (Nat × Bool)} (ht : SlT P t el) {z : Value} {sz by' : Nat} (hT : TI P el z sz by') (hzs : z.cells.size = sz) (hz1 : z.cells.all (·.oneCell') = true)
    {g lo m cap c : Nat} {cs : List Value} (hx : ev e x = some (.slice (fromAt (some ⟨g, 0, none⟩) cap lo sz) m c)) (hb : Blk w g el cs) (hl : cs.length = cap * sz) (hroom : lo + m ≤ cap) :
    Does P n e w ⟨d, .call { callee := .builtin .clear, args := #[x], argTypes := #[t] }, ty, pos, af, g'⟩
      (fun _ w' => (∃ cs', Blk w' g el cs' ∧ cs'.length = cs.length ∧ cs'.take (lo * sz) = cs.take (lo * sz)) ∧ Mod (· = g) w w' ∧ w'.heap.size = w.heap.size) := by
  by_cases hm : m = 0
  · subst hm
    refine Does.of_run (v := .tuple #[]) (w' := w) (fun a ha => ?_) ⟨⟨cs, hb, rfl, rfl⟩, Mod.refl _ _, rfl⟩
    simp only [fromAt, Option.map_some] at hx
    simp [execOp, resolve, invoke, builtin, ha.ev hx, Builtin.clear_, run_underlying ht]
  · have hne : ¬ cap = lo := by omega
    simp only [fromAt, Option.map_some, if_neg hne, add_none, Nat.zero_add] at hx
    have hsz : (Builtin.zeroCells z.cells m).toList.length = m * sz := by simp [Builtin.zeroCells, hzs]
    have hone : ∀ v ∈ (Builtin.zeroCells z.cells m).toList, v.oneCell' = true := fun v hv => by
      simp only [Builtin.zeroCells, Array.toList_map, List.mem_map] at hv
      obtain ⟨i, hi, rfl⟩ := hv
      have hi' : i < m * sz := by simpa [hzs] using hi
      have h0 : 0 < sz := by rcases Nat.eq_zero_or_pos sz with h | h; (rw [h] at hi'; omega); exact h
      have hlt : i % z.cells.size < z.cells.size := Nat.mod_lt _ (by omega)
      rw [getElem!_pos z.cells _ hlt]
      exact Array.all_eq_true.1 hz1 _ hlt
    have hfit : lo * sz + 0 + (Builtin.zeroCells z.cells m).toList.length ≤ cs.toArray.size := by
      rw [hsz, Nat.add_zero, ← Nat.add_mul]
      simp only [List.size_toArray, hl]
      exact Nat.mul_le_mul_right _ hroom
    have hr := run_storeCells_at (P := P) g (lo * sz) el (Builtin.zeroCells z.cells m).toList 0 cs.toArray w hb hfit hone
    obtain ⟨g1, g2, g3⟩ := hb.setRow (cs' := (cs.toArray.toList.take (lo * sz + 0) ++ (Builtin.zeroCells z.cells m).toList ++ cs.toArray.toList.drop (lo * sz + 0 + (Builtin.zeroCells z.cells m).toList.length)))
    rw [hsz] at hfit
    simp only [List.size_toArray] at hfit
    refine Does.of_run (v := .tuple #[]) (w' := _) (fun a ha => ?_) ⟨⟨_, g1, ?_, ?_⟩, g2, g3⟩
    · obtain ⟨q, rfl⟩ : ∃ q, m = q + 1 := ⟨m - 1, by omega⟩
      simp [execOp, resolve, invoke, builtin, ha.ev hx, Builtin.clear_, run_underlying ht, hT.zero w, hr]
    · simp only [List.length_append, List.length_take, List.length_drop, hsz]
      omega
    · simp only [Nat.add_zero]
      have e1 : (cs.take (lo * sz)).length = lo * sz := by rw [List.length_take]; omega
      rw [List.append_assoc, List.take_append_of_le_length (by omega), List.take_take]
      simp
end
end Go.X
namespace Go.X
open Go Go.RowKit
end Go.X
set_option linter.unusedVariables false
set_option linter.unusedSimpArgs false
namespace Go.X
open Go Go.RowKit
section
variable {P : Program} {n : Nat} {e : Env} {w : World} {C : World → Prop}
theorem wrap_u64 {x : Nat} (h : x < 18446744073709551616) : IntKind.u64.wrap (x : Int) = x := by rw [IntKind.wrap_u64]; omega
theorem Yld.shr {d : Option Tmp} {t : Nat} {x y : Operand} {t' ty : TypeId} {pos : String} {af : Array Edge} {g : Option (Nat × Bool)} {k k' : IntKind} {a s : Nat} (hx : ev e x = some (.int k (a : Int))) (hy : ev e y = some (.int k' (s : Int))) (hs : s ≤ k.bits) :
    Yld P n C e ⟨d, .binOp .shr t x y t', ty, pos, af, g⟩ (.int k ((a >>> s : Nat) : Int)) := by
  intro ac ha w _
  have h0 : ¬ ((s : Int) < 0) := by omega
  have h1 : min s k.bits = s := Nat.min_eq_left hs
  have h2 : (a : Int).fdiv (2 ^ s) = ((a >>> s : Nat) : Int) := by
    rw [Nat.shiftRight_eq_div_pow, Int.fdiv_eq_ediv_of_nonneg _ (by exact Int.le_of_lt (Int.pow_pos (by decide)))]
    simp
  simp [execOp, ha.ev hx, ha.ev hy, eqGuard, binOp, Op.shift, h0, h1]
  simpa using h2
theorem Yld.shl {d : Option Tmp} {t : Nat} {x y : Operand} {t' ty : TypeId} {pos : String} {af : Array Edge} {g : Option (Nat × Bool)} {k k' : IntKind} {a s : Nat} (hx : ev e x = some (.int k (a : Int))) (hy : ev e y = some (.int k' (s : Int))) (hs : s ≤ k.bits) :
    Yld P n C e ⟨d, .binOp .shl t x y t', ty, pos, af, g⟩ (.int k (k.wrap ((a <<< s : Nat) : Int))) := by
  intro ac ha w _
  have h0 : ¬ ((s : Int) < 0) := by omega
  have h1 : min s k.bits = s := Nat.min_eq_left hs
  have h2 : (a : Int) * 2 ^ s = ((a <<< s : Nat) : Int) := by
    rw [Nat.shiftLeft_eq]; simp
  simp [execOp, ha.ev hx, ha.ev hy, eqGuard, binOp, Op.shift, h0, h1]
  have := congrArg k.wrap h2
  simpa using this
theorem Yld.quo {d : Option Tmp} {t : Nat} {x y : Operand} {t' ty : TypeId} {pos : String} {af : Array Edge} {g : Option (Nat × Bool)} {k : IntKind} {a b : Int} (hx : ev e x = some (.int k a)) (hy : ev e y = some (.int k b)) (hb : b ≠ 0) :
    Yld P n C e ⟨d, .binOp .quo t x y t', ty, pos, af, g⟩ (.int k (k.wrap (a.tdiv b))) := by
  intro ac ha w _
  simp [execOp, ha.ev hx, ha.ev hy, eqGuard, binOp, Op.intDiv, hb]
theorem Yld.rem {d : Option Tmp} {t : Nat} {x y : Operand} {t' ty : TypeId} {pos : String} {af : Array Edge} {g : Option (Nat × Bool)} {k : IntKind} {a b : Int} (hx : ev e x = some (.int k a)) (hy : ev e y = some (.int k b)) (hb : b ≠ 0) :
    Yld P n C e ⟨d, .binOp .rem t x y t', ty, pos, af, g⟩ (.int k (a.tmod b)) := by
  intro ac ha w _
  simp [execOp, ha.ev hx, ha.ev hy, eqGuard, binOp, Op.intDiv, hb]
end
end Go.X
set_option linter.unusedVariables false
set_option linter.unusedSimpArgs false
namespace Go.X
open Go Go.RowKit
section
variable {P : Program} {n : Nat} {e : Env} {w : World}
theorem loadVarN {t b o : Nat} {cs : List Value} (hT : Agg P t cs.length) (hc : ∀ j v, cs[j]? = some v → w.cell? ⟨b, o + j, none⟩ = some v) : (loadVar t ⟨b, o, none⟩).run P w = .ok (.agg cs.toArray) w := by
  have := run_loadCells_list (P := P) w ⟨b, o, none⟩ cs (fun j v hj => by rw [add_none]; exact hc j v hj)
  simp [loadVar, hT.agg w, hT.size w, this]
theorem resC {fn : Func} {a t : Nat} (h : fn.results = #[.cell a t]) {b : Nat} (ha : get e a = some (.pointer (some ⟨b, 0, none⟩))) {cs : List Value} (hT : Agg P t cs.length) {T : Nat} (hc : Blk w b T cs) : ∀ ac, Fits e n ac → (results fn ac.tmps).run P w = .ok (.agg cs.toArray) w := fun ac hac => by
  have h1 := hac.look a _ ha
  rw [Array.getD_eq_getD_getElem?] at h1
  have h2 := loadVarN (P := P) (w := w) (b := b) (o := 0) hT (fun j v hj => by rw [Nat.zero_add]; exact hc.cell' hj)
  simp [results, h, h1, asAddr, h2]
theorem resCT {fn : Func} {a t u : Nat} (h : fn.results = #[.cell a t, .tmp u]) {b : Nat} (ha : get e a = some (.pointer (some ⟨b, 0, none⟩))) {cs : List Value} (hT : Agg P t cs.length) {T : Nat} (hc : Blk w b T cs) {v : Value} (hv : get e u = some v) : ∀ ac, Fits e n ac → (results fn ac.tmps).run P w = .ok (.tuple #[.agg cs.toArray, v]) w := fun ac hac => by
  have h1 := hac.look a _ ha
  have h3 := hac.look u _ hv
  rw [Array.getD_eq_getD_getElem?] at h1 h3
  have h2 := loadVarN (P := P) (w := w) (b := b) (o := 0) hT (fun j v hj => by rw [Nat.zero_add]; exact hc.cell' hj)
  simp [results, h, h1, h3, asAddr, h2]
end
end Go.X
set_option linter.unusedVariables false
set_option linter.unusedSimpArgs false
namespace Go.X
open Go Go.RowKit
section
variable {P : Program} {n : Nat} {e : Env} {w : World} {C : World → Prop}
end
end Go.X
set_option linter.unusedVariables false
set_option linter.unusedSimpArgs false
namespace Go.X
open Go Go.RowKit
inductive OT where
  | nil
  | op (i : Nat) (loud : Bool) (t : OT)
  | fork (i : Nat) (p : OT) (j : Nat) (q : OT)
  | fork3 (i : Nat) (p : OT) (j : Nat) (q : OT) (m : Nat) (r : OT)
def OT.len : OT → Nat
  | .nil => 0
  | .op _ _ t => t.len + 1
  | .fork _ p _ _ => p.len + 1
  | .fork3 _ p _ _ _ _ => p.len + 1
def okT (ops : Array Oper) (tl : List Nat) : Array Bool → OT → Bool
  | L, .nil => (Region.ready .any ops L).isEmpty
  | L, .op i loud t => (if loud then Region.ready .any ops L == [i] else (Region.ready .any ops L).contains i && Region.free .any ops L i) && okT ops tl (L.setIfInBounds i true) t
  | L, .fork i p j q => Region.ready .any ops L == [i, j] && Nat.beq p.len q.len && okT ops tl (L.setIfInBounds i true) p && okT ops tl (L.setIfInBounds j true) q
  | L, .fork3 i p j q m r => Region.ready .any ops L == [i, j, m] && (Nat.beq p.len q.len && Nat.beq p.len r.len) && okT ops tl (L.setIfInBounds i true) p && okT ops tl (L.setIfInBounds j true) q && okT ops tl (L.setIfInBounds m true) r
def wpOT (P : Program) (ops : Array Oper) (S : World → Prop) (tl : List Nat) (Q : Exit → Act → World → Prop) : OT → Act → World → Prop
  | .nil, a, w => Q .normal a w
  | .op i false t, a, w => ∃ o v, ops[i]? = some o ∧ (YieldsIf P ops (fun _ => True) o v a ∨ tailOk ops tl i = true ∧ YieldsIf P ops S o v a ∧ S w) ∧ wpOT P ops S tl Q t (a.put o.dst v) w
  | .op i true t, a, w => wpOp P ops Q i (fun a' w' => (tl.contains i = false → S w → S w') ∧ wpOT P ops S tl Q t a' w') a w
  | .fork i p j q, a, w => wpOp P ops Q i (fun a' w' => (tl.contains i = false → S w → S w') ∧ wpOT P ops S tl Q p a' w') a w ∧ wpOp P ops Q j (fun a' w' => (tl.contains j = false → S w → S w') ∧ wpOT P ops S tl Q q a' w') a w
  | .fork3 i p j q m r, a, w => wpOp P ops Q i (fun a' w' => (tl.contains i = false → S w → S w') ∧ wpOT P ops S tl Q p a' w') a w ∧ wpOp P ops Q j (fun a' w' => (tl.contains j = false → S w → S w') ∧ wpOT P ops S tl Q q a' w') a w ∧ wpOp P ops Q m (fun a' w' => (tl.contains m = false → S w → S w') ∧ wpOT P ops S tl Q r a' w') a w
theorem wpT_of_ot {P : Program} {ops : Array Oper} {S : World → Prop} {tl : List Nat} {Q : Exit → Act → World → Prop} (hs : Region.noSelect ops = true) (hQ : ∀ c a w, ¬ Q (.panic c) a w) :
    ∀ (t : OT) (L : Array Bool) (a : Act) (w : World), okT ops tl L t = true → wpOT P ops S tl Q t a w → wpT P ops Q S tl.contains t.len L a w
  | .nil, L, a, w, h, hw => ⟨by simpa [okT, List.isEmpty_iff] using h, hw⟩
  | .op i false r, L, a, w, h, hw => by
    simp only [okT, Bool.and_eq_true, Bool.false_eq_true, if_false] at h
    obtain ⟨o, v, ho, hy, hr⟩ := hw
    have hrec := wpT_of_ot hs hQ r _ _ _ h.2 hr
    have hfree := Region.free_spec ho h.1.2
    rcases hy with hy | ⟨ht, hy, hSw⟩
    · exact wpT_take hs hQ ho (C := fun _ => True) (fun _ _ => trivial) (.inl fun _ => trivial) _ _ _ _ hfree (by simpa using h.1.1) hy trivial (.inl fun _ => trivial) hrec
    · refine wpT_take hs hQ ho (C := S) (fun _ h => h) (.inr fun j oj hj htj => ?_) _ _ _ _ hfree (by simpa using h.1.1) hy hSw (.inr hSw) hrec
      have h1 := List.all_eq_true.1 ht j (by simpa using htj)
      have h2 : nth ops.toList j = some oj := by rw [nth_eq]; simpa using hj
      simp only [h2] at h1
      exact h1
  | .op i true r, L, a, w, h, hw => by
    simp only [okT, Bool.and_eq_true, if_true, beq_iff_eq] at h
    refine ⟨fun h0 => (by rw [h.1] at h0; cases h0), fun j hj => ?_⟩
    rw [h.1] at hj
    simp only [List.mem_singleton] at hj
    subst hj
    exact wpOp_mono (fun a' w' h' => ⟨h'.1, wpT_of_ot hs hQ r _ _ _ h.2 h'.2⟩) hw
  | .fork i p j q, L, a, w, h, hw => by
    simp only [okT, Bool.and_eq_true, beq_iff_eq] at h
    obtain ⟨⟨⟨h1, h2⟩, h3⟩, h4⟩ := h
    have hl : p.len = q.len := Nat.eq_of_beq_eq_true h2
    refine ⟨fun h0 => (by rw [h1] at h0; cases h0), fun m hm => ?_⟩
    rw [h1] at hm
    simp only [List.mem_cons, List.not_mem_nil, or_false] at hm
    rcases hm with rfl | rfl
    · exact wpOp_mono (fun a' w' h' => ⟨h'.1, wpT_of_ot hs hQ p _ _ _ h3 h'.2⟩) hw.1
    · exact wpOp_mono (fun a' w' h' => ⟨h'.1, hl ▸ wpT_of_ot hs hQ q _ _ _ h4 h'.2⟩) hw.2
  | .fork3 i p j q m r, L, a, w, h, hw => by
    simp only [okT, Bool.and_eq_true, beq_iff_eq] at h
    obtain ⟨⟨⟨⟨h1, h2⟩, h3⟩, h4⟩, h5⟩ := h
    have hl : p.len = q.len := Nat.eq_of_beq_eq_true h2.1
    have hl2 : p.len = r.len := Nat.eq_of_beq_eq_true h2.2
    refine ⟨fun h0 => (by rw [h1] at h0; cases h0), fun x hx => ?_⟩
    rw [h1] at hx
    simp only [List.mem_cons, List.not_mem_nil, or_false] at hx
    rcases hx with rfl | rfl | rfl
    · exact wpOp_mono (fun a' w' h' => ⟨h'.1, wpT_of_ot hs hQ p _ _ _ h3 h'.2⟩) hw.1
    · exact wpOp_mono (fun a' w' h' => ⟨h'.1, hl ▸ wpT_of_ot hs hQ q _ _ _ h4 h'.2⟩) hw.2.1
    · exact wpOp_mono (fun a' w' h' => ⟨h'.1, hl2 ▸ wpT_of_ot hs hQ r _ _ _ h5 h'.2⟩) hw.2.2
def DT (P : Program) (n : Nat) (ops : List Oper) (S : World → Prop) (tl : List Nat) (rest : OT) (e : Env) (w : World) (K : Exit → Act → World → Prop) : Prop := ∀ a, Fits e n a → wpOT P ops.toArray S tl K rest a w
section
variable {P : Program} {f : FuncId} {n : Nat} {R : Ending → World → Prop} {k : List Item} {e : Env} {w : World} {ops : List Oper} {rest : OT} {K : Exit → Act → World → Prop} {S : World → Prop} {tl : List Nat}
theorem RK.drawT0 {id : Nat} {l : List Oper} (M : Nat → Prop) (t : OT) (tl : List Nat) (hm : P.follows .mixedOrders = true) (hb : (Region.noSelect l.toArray && okT l.toArray tl (Array.replicate l.length false) t && Nat.beq l.length t.len) = true)
    (h : DT P n l (Mod M w) tl t e { w with drawn := w.drawn + 1 } (post P f R k)) : RK P f n R (.code (.region id l.toArray true) :: k) e w := by
  intro a ha
  simp only [Bool.and_eq_true] at hb
  have hl : l.length = t.len := Nat.eq_of_beq_eq_true hb.2
  refine Runs.of_wp (wp_region_any hm (wpT_any (S := Mod M w) (T := tl.contains) _ _ _ _ ?_))
  have := wpT_of_ot (P := P) (S := Mod M w) (Q := post P f R k) hb.1.1 (fun c a w h => h) t _ a _ hb.1.2 (h a ha)
  simpa [hl] using this
theorem RK.drawT {id : Nat} {l : List Oper} (M : Nat → Prop) (t : OT) (tl : List Nat) (hm : P.follows .mixedOrders = true) (hb : (Region.noSelect l.toArray && okT l.toArray tl (Array.replicate l.length false) t && Nat.beq l.length t.len) = true)
    (h : DT P n l (Mod M w) tl t e w.drew (post P f R k)) : RK P f n R (.code (.region id l.toArray true) :: k) e w := RK.drawT0 M t tl hm hb h
theorem DT.fork {i j : Nat} {p q : OT} (h1 : DT P n ops S tl (.op i true p) e w K) (h2 : DT P n ops S tl (.op j true q) e w K) : DT P n ops S tl (.fork i p j q) e w K := fun a ha => ⟨h1 a ha, h2 a ha⟩
theorem DT.done (h : RK P f n R k e w) : DT P n ops S tl .nil e w (post P f R k) := fun a ha => h a ha
theorem DT.q {i : Nat} {o : Oper} {d : Nat} {v : Value} (hi : nth ops i = some o) (hw : Want ops.toArray e o true) (hd : o.dst = some d) (hb : Nat.blt d n = true) (ht : tailOk ops.toArray tl i = true) (hy : Yld P n S e o v) (hS : S w) (h : DT P n ops S tl rest ((d, v) :: e) w K) :
    DT P n ops S tl (.op i false rest) e w K := by
  intro a ha
  refine ⟨o, v, by rw [← nth_eq, hi], .inr ⟨ht, .inl ⟨hw.at_ ha, fun w' hS => hy a ha w' hS⟩, hS⟩, ?_⟩
  rw [hd]
  exact h _ (ha.put hb v)
theorem DT.qf {i : Nat} {o : Oper} {d : Nat} {v : Value} (hi : nth ops i = some o) (hw : Want ops.toArray e o true) (hd : o.dst = some d) (hb : Nat.blt d n = true) (hy : Yld P n (fun _ => True) e o v) (h : DT P n ops S tl rest ((d, v) :: e) w K) :
    DT P n ops S tl (.op i false rest) e w K := by
  intro a ha
  refine ⟨o, v, by rw [← nth_eq, hi], .inl (.inl ⟨hw.at_ ha, fun w' hS => hy a ha w' hS⟩), ?_⟩
  rw [hd]
  exact h _ (ha.put hb v)
theorem DT.no {i : Nat} {o : Oper} {d : Nat} (hi : nth ops i = some o) (hw : Want ops.toArray e o false) (hd : o.dst = some d) (hb : Nat.blt d n = true) (h : DT P n ops S tl rest ((d, undef) :: e) w K) :
    DT P n ops S tl (.op i false rest) e w K := by
  intro a ha
  refine ⟨o, undef, by rw [← nth_eq, hi], .inl (.inr ⟨hw.at_ ha, rfl⟩), ?_⟩
  rw [hd]
  exact h _ (ha.put hb undef)
theorem DT.lno {i : Nat} {o : Oper} {d : Nat} (hi : nth ops i = some o) (hw : Want ops.toArray e o false) (hd : o.dst = some d) (hb : Nat.blt d n = true) (h : DT P n ops S tl rest ((d, undef) :: e) w K) :
    DT P n ops S tl (.op i true rest) e w K := by
  intro a ha
  have hi' : ops.toArray[i]? = some o := by rw [← nth_eq, hi]
  unfold wpOT wpOp
  simp only [hi']
  rw [if_neg (by rw [hw.at_ ha]; decide), hd]
  exact ⟨fun _ h => h, h _ (ha.put hb undef)⟩
theorem DT.op {i : Nat} {o : Oper} {d : Nat} {Q : Value → World → Prop} (hi : nth ops i = some o) (hw : Want ops.toArray e o true) (hd : o.dst = some d) (hb : Nat.blt d n = true) (hy : Does P n e w o Q) (h : ∀ v w', Q v w' → S w' ∧ DT P n ops S tl rest ((d, v) :: e) w' K) :
    DT P n ops S tl (.op i true rest) e w K := by
  intro a ha
  have hi' : ops.toArray[i]? = some o := by rw [← nth_eq, hi]
  unfold wpOT wpOp
  simp only [hi']
  rw [if_pos (hw.at_ ha)]
  refine .inl (hy a ha _ _ fun v w' hv => ⟨fun _ _ => (h v w' hv).1, ?_⟩)
  rw [hd]
  exact (h v w' hv).2 _ (ha.put hb v)
theorem DT.op' {i : Nat} {o : Oper} {Q : Value → World → Prop} (hi : nth ops i = some o) (hw : Want ops.toArray e o true) (hd : o.dst = none) (hy : Does P n e w o Q) (h : ∀ v w', Q v w' → S w' ∧ DT P n ops S tl rest e w' K) :
    DT P n ops S tl (.op i true rest) e w K := by
  intro a ha
  have hi' : ops.toArray[i]? = some o := by rw [← nth_eq, hi]
  unfold wpOT wpOp
  simp only [hi']
  rw [if_pos (hw.at_ ha)]
  refine .inl (hy a ha _ _ fun v w' hv => ⟨fun _ _ => (h v w' hv).1, ?_⟩)
  rw [hd]
  exact (h v w' hv).2 _ ha
theorem DT.opT {i : Nat} {o : Oper} {Q : Value → World → Prop} (hi : nth ops i = some o) (hw : Want ops.toArray e o true) (hd : o.dst = none) (hT : tl.contains i = true) (hy : Does P n e w o Q) (h : ∀ v w', Q v w' → DT P n ops S tl rest e w' K) :
    DT P n ops S tl (.op i true rest) e w K := by
  intro a ha
  have hi' : ops.toArray[i]? = some o := by rw [← nth_eq, hi]
  unfold wpOT wpOp
  simp only [hi']
  rw [if_pos (hw.at_ ha)]
  refine .inl (hy a ha _ _ fun v w' hv => ⟨fun h0 => (by rw [hT] at h0; cases h0), ?_⟩)
  rw [hd]
  exact (h v w' hv) _ ha
theorem DT.p {ops : List Oper} {rest : OT} {S : World → Prop} {tl : List Nat} {i d : Nat} {op : Op} {t : TypeId} {pos : String} {af : Array Edge} {v : Value} (hi : nth ops i = some ⟨some d, op, t, pos, af, none⟩) (hp : pureOp e op = some v) (hb : Nat.blt d n = true) (h : DT P n ops S tl rest ((d, v) :: e) w K) :
    DT P n ops S tl (.op i false rest) e w K := DT.qf hi (.free rfl) rfl hb (Yld.pure hp) h
theorem DT.re {ops : List Oper} {rest : OT} {S : World → Prop} {tl : List Nat} {d : Nat} {v v' : Value} (hg : get e d = some v) (hb : Nat.blt d n = true) (hv : v = v') (h : DT P n ops S tl rest ((d, v') :: e) w K) : DT P n ops S tl rest e w K := fun a ha => h a (ha.again hg hv)
theorem DT.split {ops : List Oper} {rest : OT} {S : World → Prop} {tl : List Nat} {d : Nat} {t : Bool} (hg : get e d = some (.bool t)) (hb : Nat.blt d n = true) (h1 : t = true → DT P n ops S tl rest ((d, .bool true) :: e) w K) (h2 : t = false → DT P n ops S tl rest ((d, .bool false) :: e) w K) : DT P n ops S tl rest e w K := by
  cases t with
  | true => exact DT.re hg hb rfl (h1 rfl)
  | false => exact DT.re hg hb rfl (h2 rfl)
theorem DT.knownT {ops : List Oper} {rest : OT} {S : World → Prop} {tl : List Nat} {d : Nat} {t : Bool} (hg : get e d = some (.bool t)) (hb : Nat.blt d n = true) (ht : t = true) (h1 : DT P n ops S tl rest ((d, .bool true) :: e) w K) : DT P n ops S tl rest e w K := DT.re hg hb (by rw [ht]) h1
theorem DT.knownF {ops : List Oper} {rest : OT} {S : World → Prop} {tl : List Nat} {d : Nat} {t : Bool} (hg : get e d = some (.bool t)) (hb : Nat.blt d n = true) (ht : t = false) (h1 : DT P n ops S tl rest ((d, .bool false) :: e) w K) : DT P n ops S tl rest e w K := DT.re hg hb (by rw [ht]) h1
theorem DT.splitD {ops : List Oper} {rest : OT} {S : World → Prop} {tl : List Nat} {d : Nat} {p : Prop} [hp : Decidable p] (hg : get e d = some (.bool (decide p))) (hb : Nat.blt d n = true) (h1 : p → DT P n ops S tl rest ((d, .bool true) :: e) w K) (h2 : ¬ p → DT P n ops S tl rest ((d, .bool false) :: e) w K) : DT P n ops S tl rest e w K :=
  DT.split hg hb (fun h => h1 (of_decide_eq_true h)) (fun h => h2 (of_decide_eq_false h))
theorem DT.splitN {ops : List Oper} {rest : OT} {S : World → Prop} {tl : List Nat} {d : Nat} {p : Prop} [hp : Decidable p] (hg : get e d = some (.bool (!decide p))) (hb : Nat.blt d n = true) (h1 : ¬ p → DT P n ops S tl rest ((d, .bool true) :: e) w K) (h2 : p → DT P n ops S tl rest ((d, .bool false) :: e) w K) : DT P n ops S tl rest e w K :=
  DT.split hg hb (fun h => h1 (by simpa using h)) (fun h => h2 (by simpa using h))
end
end Go.X
set_option linter.unusedVariables false
set_option linter.unusedSimpArgs false
namespace Go.X
open Go Go.RowKit
section
variable {P : Program} {n : Nat} {e : Env} {w : World}
end
end Go.X
set_option linter.unusedVariables false
set_option linter.unusedSimpArgs false
namespace Go.X
open Go Go.RowKit
def bytesV (l : List UInt8) : List Value := l.map fun b => Value.int .u8 (b.toNat : Int)
theorem bytesV_len (l : List UInt8) : (bytesV l).length = l.length := by simp [bytesV]
theorem bytesV_app (a b : List UInt8) : bytesV (a ++ b) = bytesV a ++ bytesV b := by simp [bytesV]
theorem bytesV_str (s : ByteArray) : Go.Lib.strCells s = bytesV s.data.toList := rfl
theorem bytesV_one (l : List UInt8) : (bytesV l).all (·.oneCell') = true := by
  rw [List.all_eq_true]
  intro u hu
  obtain ⟨b, _, rfl⟩ := List.mem_map.1 hu
  rfl
section
variable {P : Program} {n : Nat} {e : Env} {w : World} {C : World → Prop}
theorem Does.appendStr {d : Option Tmp} {t u el : Nat} {s x : Operand} {ty : TypeId} {pos : String} {af : Array Edge} {g : Option (Nat × Bool)} (ht : SlT P t el) (hu : P.underlying u = some .string) (hT : TI P el (.int .u8 0) 1 1)
    {v : Value} {k base : Nat} {xs : List Value} {str : ByteArray} (hs : ev e s = some v) (hx : ev e x = some (.string str)) (hown : Row w el 1 v k xs) (hf : ∀ b, v.ownBlock = some b → base ≤ b) (hbase : base ≤ w.heap.size) (hb : k + str.size ≤ 140737488355328) :
    Does P n e w ⟨d, .call { callee := .builtin .append, args := #[s, x], argTypes := #[t, u] }, ty, pos, af, g⟩
      (fun v' w' => Row w' el 1 v' (k + str.size) (xs ++ bytesV str.data.toList) ∧ (∀ b, v'.ownBlock = some b → base ≤ b) ∧ Mod (fun b => v.ownBlock = some b) w w') := by
  obtain ⟨i, hi, hz, hs1, hby⟩ := hT.out
  have hown2 : w.ownsRow base el 1 v k xs := by
    refine ⟨hown.1, ?_⟩
    rcases hown.2 with h | ⟨g, cap, cur, rfl, _, r⟩
    · exact .inl h
    · exact .inr ⟨g, cap, cur, rfl, hf g rfl, r⟩
  obtain ⟨v', w', hr, ho, hg, _⟩ := Go.Lib.run_append_own_string (P := P) w base t u ty el i ht hu hi hz hs1 hby v k xs hown2 str (by simp only [maxLen]; omega) hb hbase
  rw [bytesV_str] at ho
  refine Does.of_run (v := v') (w' := w') (fun a ha => ?_) ⟨⟨ho.1, ?_⟩, fun b hb' => ?_, Mod.grownBy hg (fun k h => h)⟩
  · simp [execOp, resolve, invoke, builtin, ha.ev hs, ha.ev hx, hr]
  · rcases ho.2 with h | ⟨g, cap, cur, rfl, _, r⟩
    · exact .inl h
    · exact .inr ⟨g, cap, cur, rfl, Nat.zero_le _, r⟩
  · exact (World.ownsRow.lt ho b hb').1
theorem mkS_data (xs : List Int) : (mkS xs).data.toList = xs.map fun n => UInt8.ofNat n.toNat := by
  unfold mkS
  have key : ∀ (xs : List Int) (s : ByteArray), (xs.foldl (fun r n => r.push (UInt8.ofNat n.toNat)) s).data.toList = s.data.toList ++ xs.map fun n => UInt8.ofNat n.toNat := by
    intro xs
    induction xs with
    | nil => intro s; simp
    | cons x xs ih => intro s; rw [List.foldl_cons, ih]; simp [ByteArray.push]
  rw [key]
  rfl
theorem mkS_bytes (l : List UInt8) : mkS (l.map fun b => (b.toNat : Int)) = ⟨l.toArray⟩ := by
  apply ByteArray.ext
  apply Array.toList_inj.1
  rw [mkS_data, List.map_map]
  show _ = l
  conv => rhs; rw [← List.map_id l]
  apply List.map_congr_left
  intro x _
  simp
theorem Yld.bytesSl {d : Option Tmp} {src dst el : Nat} {x : Operand} {ty : TypeId} {pos : String} {af : Array Edge} {g : Option (Nat × Bool)} (hs : SlT P src el) (he : P.underlying el = some (.int .u8)) (hd : P.underlying dst = some .string) {v : Value} {l : List UInt8} (hx : ev e x = some v) (hv : ∀ w, C w → Sl No w v 1 l.length (bytesV l)) :
    Yld P n C e ⟨d, .convert src dst x, ty, pos, af, g⟩ (.string ⟨l.toArray⟩) := by
  intro ac ha w hw
  obtain ⟨ad, c, rfl, hf⟩ := (hv w hw).form
  have hm : bytesV l = (l.map fun b => (b.toNat : Int)).map (Value.int .u8) := by simp [bytesV]
  cases ad with
  | some a =>
    by_cases hn : 0 < l.length
    · obtain ⟨b, o, ha2, _, hc⟩ := hf hn
      cases ha2
      have h1 := run_loadCells_list (P := P) w ⟨b, o, none⟩ (bytesV l) (fun j v hj => by rw [add_none]; exact hc j v hj)
      have h2 := run_bytesToString (P := P) w ⟨b, o, none⟩ l.length c (l.map fun b => (b.toNat : Int)) (by rw [bytesV_len, hm] at h1; exact h1)
      simp only [execOp, ha.ev hx, Sem.run_bind, run_convert_bytes_string w src dst el _ _ c hs he hd, h2, Result.andThen_ok, Sem.run_pure]
      rw [show (l.map fun b => (b.toNat : Int)).foldl (fun r n => r.push (UInt8.ofNat n.toNat)) ByteArray.empty = mkS (l.map fun b => (b.toNat : Int)) from rfl, mkS_bytes]
    · have hl : l = [] := List.length_eq_zero_iff.1 (by omega)
      subst hl
      have h2 := run_bytesToString (P := P) w a 0 c [] (by simp [loadCells, loadCellsFrom])
      simp only [execOp, ha.ev hx, Sem.run_bind, List.length_nil, run_convert_bytes_string w src dst el _ _ c hs he hd, h2, Result.andThen_ok, Sem.run_pure]
      rfl
  | none =>
    have hl : l = [] := by
      by_cases hn : 0 < l.length
      · obtain ⟨b, o, ha2, _⟩ := hf hn
        cases ha2
      · exact List.length_eq_zero_iff.1 (by omega)
    subst hl
    have h2 := run_convert_bytes_nil (P := P) (w := w) src el hs he 0 c dst hd
    simp only [execOp, ha.ev hx, Sem.run_bind, List.length_nil, h2, Result.andThen_ok, Sem.run_pure]
    rfl
end
end Go.X
set_option linter.unusedVariables false
set_option linter.unusedSimpArgs false
set_option maxHeartbeats 1600000
set_option maxRecDepth 100000
namespace Go.Proofs.YtcndimkkojdflaaGreatDoor
open Go Go.X
theorem and_lo {m : Nat} (h : m < 128) : IntKind.u8.wrap (BitVec.ofInt IntKind.u8.bits (m : Int) &&& BitVec.ofInt IntKind.u8.bits 127).toNat = (m : Int) := by
  have key : ∀ m, m < 128 → IntKind.u8.wrap (BitVec.ofInt IntKind.u8.bits ((m : Nat) : Int) &&& BitVec.ofInt IntKind.u8.bits 127).toNat = ((m : Nat) : Int) := by decide +kernel
  exact key m h
theorem shl_lo {m : Nat} (h : m < 128) : IntKind.u64.wrap ((m <<< 0 : Nat) : Int) = (m : Int) := by
  have key : ∀ m, m < 128 → IntKind.u64.wrap ((m <<< 0 : Nat) : Int) = ((m : Nat) : Int) := by decide +kernel
  exact key m h
theorem or_lo {m : Nat} (h : m < 128) : IntKind.u64.wrap (BitVec.ofInt IntKind.u64.bits 0 ||| BitVec.ofInt IntKind.u64.bits (m : Int)).toNat = (m : Int) := by
  have key : ∀ m, m < 128 → IntKind.u64.wrap (BitVec.ofInt IntKind.u64.bits 0 ||| BitVec.ofInt IntKind.u64.bits ((m : Nat) : Int)).toNat = ((m : Nat) : Int) := by decide +kernel
  exact key m h
theorem w64_lo {m : Nat} (h : m < 128) : IntKind.u64.wrap (m : Int) = (m : Int) := by
  have key : ∀ m, m < 128 → IntKind.u64.wrap ((m : Nat) : Int) = ((m : Nat) : Int) := by decide +kernel
  exact key m h
theorem vget1_ok (c : Nat) (h : c < 128) (cs : List Value) (M : Nat → Prop) (n : Nat) (v : Value) (w : World) (hv : Sl M w v 1 (n + 1) (.int .u8 (c : Int) :: cs)) :
    Fx Tryz.prog 228 [v] w (fun u w' => u = .tuple #[.int .u64 (c : Int), .int .i64 1, .bool true] ∧ w = w') := by
  obtain ⟨ad, ca, rfl⟩ := hv.shape
  refine enter Tryz.func228 rfl rfl rfl _ (Pick.sub (l := [0]) (.cons rfl .nil)) ?_
  refine RK.seq ?_
  refine RK.region ?_
  iterate 3 refine RL.p rfl rfl ?_
  refine RL.done ?_
  refine RK.seq ?_
  refine RK.region ?_
  refine RL.p rfl rfl ?_
  refine RL.done ?_
  iterate 2 refine RK.seq ?_
  refine RK.region ?_
  refine RL.p rfl rfl ?_
  refine RL.q (.free rfl) rfl rfl (Yld.lenSl u39 rfl) ?_
  refine RL.p rfl rfl ?_
  refine RL.done ?_
  refine RK.block ?_
  refine RK.loop (fun s : Unit => [(5, .int .u64 0), (8, .slice ad (n + 1) ca), (9, .int .i64 ((n + 1 : Nat) : Int)), (10, .int .i64 ((0 : Nat) : Int))]) (fun s w' => w = w') (fun s => 0) () ⟨rfl, rfl, rfl, rfl, trivial⟩ rfl (fun s w' hI ih => ?_)
  subst hI
  obtain ⟨b1, o1, c1, he1, _, _, hc1⟩ := hv.elem1 (k := 0) (u := .int .u8 (c : Int)) rfl
  cases he1
  refine RK.seq ?_
  refine RK.region ?_
  refine RL.p rfl rfl ?_
  refine RL.done ?_
  refine RK.seq ?_
  refine RK.condT (hcT rfl (decide_eq_true (by omega))) ?_
  refine RK.skip ?_
  refine RK.seq ?_
  refine RK.block ?_
  refine RK.seq ?_
  refine RK.region ?_
  refine RL.p rfl rfl ?_
  refine RL.q (.free rfl) rfl rfl (Yld.indexAddrN u39 i5 rfl rfl (by omega)) ?_
  refine RL.q (.free rfl) rfl rfl (Yld.load p5 rfl (at1 (hc1 0 (.int .u8 (c : Int)) rfl))) ?_
  iterate 2 refine RL.p rfl rfl ?_
  refine RL.done ?_
  iterate 2 refine RK.seq ?_
  refine RK.region ?_
  iterate 3 refine RL.p rfl rfl ?_
  refine RL.knownF (d := 17) rfl rfl (rfl) ?_
  iterate 2 refine RL.no (.no rfl rfl rfl rfl) rfl rfl ?_
  iterate 2 refine RL.p rfl rfl ?_
  iterate 3 refine RL.q (.yes rfl rfl rfl) rfl rfl (Yld.pure rfl) ?_
  refine RL.knownF (d := 24) rfl rfl (rfl) ?_
  iterate 2 refine RL.no (.no rfl rfl rfl rfl) rfl rfl ?_
  refine RL.q (.yes rfl rfl rfl) rfl rfl (Yld.pure rfl) ?_
  refine RL.p rfl rfl ?_
  refine RL.done ?_
  refine RK.condF rfl ?_
  refine RK.skip ?_
  refine RK.seq ?_
  refine RK.region ?_
  iterate 3 refine RL.p rfl rfl ?_
  refine RL.re (d := 31) rfl rfl (congrArg (Value.int .u8) (and_lo h)) ?_
  refine RL.q (.free rfl) rfl rfl (Yld.convI Tryz.underlying5 Tryz.underlying31 rfl) ?_
  refine RL.re (d := 32) rfl rfl (congrArg (Value.int .u64) (w64_lo h)) ?_
  iterate 2 refine RL.p rfl rfl ?_
  refine RL.q (.free rfl) rfl rfl (Yld.shl (a := c) (s := 0) rfl rfl (by decide)) ?_
  refine RL.re (d := 35) rfl rfl (congrArg (Value.int .u64) (shl_lo h)) ?_
  refine RL.p rfl rfl ?_
  refine RL.re (d := 36) rfl rfl (congrArg (Value.int .u64) (or_lo h)) ?_
  refine RL.p rfl rfl ?_
  refine RL.done ?_
  refine RK.seq ?_
  refine RK.region ?_
  iterate 2 refine RL.p rfl rfl ?_
  refine RL.done ?_
  refine RK.condT (hcT rfl (decide_eq_true (by omega))) ?_
  refine RK.seq ?_
  refine RK.region ?_
  iterate 6 refine RL.p rfl rfl ?_
  refine RL.done ?_
  refine RK.ret_of Tryz.func228 (res3 rfl rfl rfl rfl) ?_ _
  exact ⟨_, rfl, rfl, rfl⟩
theorem vtext1_ok (c : Nat) (h : c < 128) (t : List UInt8) (M : Nat → Prop) (ad : Option Addr) (ca : Nat) (w : World) (hv : Sl M w (.slice ad (t.length + 1) ca) 1 (t.length + 1) (.int .u8 (c : Int) :: bytesV t)) (most : Nat) (hm : c ≤ most) (hm' : most < 1000) (hl : c ≤ t.length) (hca : t.length + 1 ≤ ca) :
    Fx Tryz.prog 161 [.slice ad (t.length + 1) ca, .int .i64 (most : Int)] w (fun u w' => u = .tuple #[.string ⟨(t.take c).toArray⟩, .int .i64 ((1 + c : Nat) : Int), .bool true] ∧ w = w') := by
  have hbig := hv.big
  have hsl : Sl No w (.slice (fromAt ad ca 1 1) ((1 + c) - 1) (ca - 1)) 1 (t.take c).length (bytesV (t.take c)) := by
    have h1 := (hv.noM.from (j := 1) (by omega) hca)
    have h2 := h1.take (j := c) (by omega)
    have e1 : (t.take c).length = c := by simp; omega
    have e2 : bytesV (t.take c) = ((Value.int .u8 (c : Int) :: bytesV t).drop 1).take c := by simp [bytesV]
    rw [e1, e2, show (1 + c) - 1 = c by omega]
    exact h2
  refine enter Tryz.func161 rfl rfl rfl _ (Pick.sub (l := [0, 1]) (.cons rfl (.cons rfl .nil))) ?_
  refine RK.seq ?_
  refine RK.region ?_
  iterate 3 refine RL.p rfl rfl ?_
  refine RL.done ?_
  refine RK.seq ?_
  refine RK.region ?_
  refine RL.p rfl rfl ?_
  refine RL.op (.free rfl) rfl rfl (Does.call rfl e228 (vget1_ok c h _ M _ _ _ hv)) ?_
  rintro _ w1 ⟨rfl, rfl⟩
  iterate 7 refine RL.p rfl rfl ?_
  refine RL.done ?_
  iterate 2 refine RK.seq ?_
  refine RK.region ?_
  iterate 3 refine RL.p rfl rfl ?_
  refine RL.knownF (d := 19) rfl rfl (rfl) ?_
  iterate 2 refine RL.q (.yes rfl rfl rfl) rfl rfl (Yld.pure rfl) ?_
  iterate 2 refine RL.p rfl rfl ?_
  refine RL.knownF (d := 23) rfl rfl (decide_eq_false (by omega)) ?_
  iterate 2 refine RL.q (.yes rfl rfl rfl) rfl rfl (Yld.pure rfl) ?_
  refine RL.q (.yes rfl rfl rfl) rfl rfl (Yld.convI Tryz.underlying3 Tryz.underlying31 rfl) ?_
  refine RL.re (d := 26) rfl rfl (congrArg (Value.int .u64) (wrap_u64 (x := most) (by omega))) ?_
  refine RL.q (.yes rfl rfl rfl) rfl rfl (Yld.pure rfl) ?_
  iterate 2 refine RL.p rfl rfl ?_
  refine RL.knownF (d := 29) rfl rfl (decide_eq_false (by omega)) ?_
  iterate 2 refine RL.q (.yes rfl rfl rfl) rfl rfl (Yld.pure rfl) ?_
  refine RL.q (.yes rfl rfl rfl) rfl rfl (Yld.lenSl u39 rfl) ?_
  iterate 2 refine RL.q (.yes rfl rfl rfl) rfl rfl (Yld.pure rfl) ?_
  refine RL.re (d := 34) rfl rfl (sub_i64 (z := (t.length : Int)) (by simp) (by omega) (by omega)) ?_
  refine RL.q (.yes rfl rfl rfl) rfl rfl (Yld.convI Tryz.underlying3 Tryz.underlying31 rfl) ?_
  refine RL.re (d := 35) rfl rfl (congrArg (Value.int .u64) (wrap_u64 (x := t.length) (by omega))) ?_
  refine RL.q (.yes rfl rfl rfl) rfl rfl (Yld.pure rfl) ?_
  refine RL.p rfl rfl ?_
  refine RL.done ?_
  refine RK.condF (hcF rfl (decide_eq_false (by omega))) ?_
  refine RK.skip ?_
  refine RK.seq ?_
  refine RK.region ?_
  iterate 2 refine RL.p rfl rfl ?_
  refine RL.q (.free rfl) rfl rfl (Yld.convI Tryz.underlying31 Tryz.underlying3 rfl) ?_
  refine RL.re (d := 40) rfl rfl (congrArg (Value.int .i64) (wrap_i64 (x := (c : Int)) (by omega) (by omega))) ?_
  refine RL.p rfl rfl ?_
  refine RL.re (d := 41) rfl rfl (add_i64 (z := ((1 + c : Nat) : Int)) (by simp) (by omega) (by omega)) ?_
  refine RL.p rfl rfl ?_
  refine RL.done ?_
  refine RK.seq ?_
  refine RK.region ?_
  iterate 3 refine RL.p rfl rfl ?_
  refine RL.q (.free rfl) rfl rfl (Yld.sliceLH u39 i5 (lo := 1) (hi := 1 + c) rfl rfl rfl (by omega) (by omega)) ?_
  refine RL.q (.free rfl) rfl rfl (Yld.bytesSl u39 Tryz.underlying5 Tryz.underlying9 rfl (fun w9 h9 => h9 ▸ hsl)) ?_
  iterate 4 refine RL.p rfl rfl ?_
  refine RL.done ?_
  refine RK.ret_of Tryz.func161 (res3 rfl rfl rfl rfl) ?_ _
  exact ⟨_, rfl, rfl, rfl⟩
theorem vtext0_ok (c : Nat) (h : c < 128) (t : List UInt8) (M : Nat → Prop) (ad : Option Addr) (ca : Nat) (w : World) (hv : Sl M w (.slice ad (t.length + 1) ca) 1 (t.length + 1) (.int .u8 (c : Int) :: bytesV t)) (most : Nat) (hm' : most < 1000) (hl : t.length < c) :
    Fx Tryz.prog 161 [.slice ad (t.length + 1) ca, .int .i64 (most : Int)] w (fun u w' => u = .tuple #[.string ⟨#[]⟩, .int .i64 0, .bool false] ∧ w = w') := by
  have hbig := hv.big
  refine enter Tryz.func161 rfl rfl rfl _ (Pick.sub (l := [0, 1]) (.cons rfl (.cons rfl .nil))) ?_
  refine RK.seq ?_
  refine RK.region ?_
  iterate 3 refine RL.p rfl rfl ?_
  refine RL.done ?_
  refine RK.seq ?_
  refine RK.region ?_
  refine RL.p rfl rfl ?_
  refine RL.op (.free rfl) rfl rfl (Does.call rfl e228 (vget1_ok c h _ M _ _ _ hv)) ?_
  rintro _ w1 ⟨rfl, rfl⟩
  iterate 7 refine RL.p rfl rfl ?_
  refine RL.done ?_
  iterate 2 refine RK.seq ?_
  refine RK.region ?_
  iterate 3 refine RL.p rfl rfl ?_
  refine RL.knownF (d := 19) rfl rfl (rfl) ?_
  iterate 2 refine RL.q (.yes rfl rfl rfl) rfl rfl (Yld.pure rfl) ?_
  iterate 2 refine RL.p rfl rfl ?_
  refine RL.knownF (d := 23) rfl rfl (decide_eq_false (by omega)) ?_
  iterate 2 refine RL.q (.yes rfl rfl rfl) rfl rfl (Yld.pure rfl) ?_
  refine RL.q (.yes rfl rfl rfl) rfl rfl (Yld.convI Tryz.underlying3 Tryz.underlying31 rfl) ?_
  refine RL.re (d := 26) rfl rfl (congrArg (Value.int .u64) (wrap_u64 (x := most) (by omega))) ?_
  refine RL.q (.yes rfl rfl rfl) rfl rfl (Yld.pure rfl) ?_
  iterate 2 refine RL.p rfl rfl ?_
  first | refine RL.splitD (d := 29) rfl rfl (fun h29 => ?_) (fun h29 => ?_) | refine RL.splitN (d := 29) rfl rfl (fun h29 => ?_) (fun h29 => ?_) | refine RL.split (d := 29) rfl rfl (fun h29 => ?_) (fun h29 => ?_)
  · iterate 7 refine RL.no (.no rfl rfl rfl rfl) rfl rfl ?_
    refine RL.p rfl rfl ?_
    refine RL.done ?_
    refine RK.condT rfl ?_
    refine RK.seq ?_
    refine RK.region ?_
    iterate 3 refine RL.p rfl rfl ?_
    refine RL.done ?_
    refine RK.ret_of Tryz.func161 (res3 rfl rfl rfl rfl) ?_ _
    exact ⟨_, rfl, rfl, rfl⟩
  · iterate 2 refine RL.q (.yes rfl rfl rfl) rfl rfl (Yld.pure rfl) ?_
    refine RL.q (.yes rfl rfl rfl) rfl rfl (Yld.lenSl u39 rfl) ?_
    iterate 2 refine RL.q (.yes rfl rfl rfl) rfl rfl (Yld.pure rfl) ?_
    refine RL.re (d := 34) rfl rfl (sub_i64 (z := (t.length : Int)) (by simp) (by omega) (by omega)) ?_
    refine RL.q (.yes rfl rfl rfl) rfl rfl (Yld.convI Tryz.underlying3 Tryz.underlying31 rfl) ?_
    refine RL.re (d := 35) rfl rfl (congrArg (Value.int .u64) (wrap_u64 (x := t.length) (by omega))) ?_
    refine RL.q (.yes rfl rfl rfl) rfl rfl (Yld.pure rfl) ?_
    refine RL.p rfl rfl ?_
    refine RL.done ?_
    refine RK.condT (hcT rfl (decide_eq_true (by omega))) ?_
    refine RK.seq ?_
    refine RK.region ?_
    iterate 3 refine RL.p rfl rfl ?_
    refine RL.done ?_
    refine RK.ret_of Tryz.func161 (res3 rfl rfl rfl rfl) ?_ _
    exact ⟨_, rfl, rfl, rfl⟩
end Go.Proofs.YtcndimkkojdflaaGreatDoor
set_option linter.unusedVariables false
set_option linter.unusedSimpArgs false
set_option maxHeartbeats 1600000
set_option maxRecDepth 100000
namespace Go.Proofs.YtcndimkkojdflaaGreatDoor
open Go Go.X
structure Rd (N : Nat) (w : World) (p : Nat) (ad : Option Addr) (c : Nat) (bs : List UInt8) (i : Nat) (bad : Bool) : Prop where
  blk : Blk w p 247 [.slice ad bs.length c, .int .i64 (i : Int), .bool bad]
  sl : Sl (N ≤ ·) w (.slice ad bs.length c) 1 bs.length (bytesV bs)
  pN : N ≤ p
  cap : bs.length ≤ c
  le : i ≤ bs.length
theorem Rd.mod {M : Nat → Prop} {N : Nat} {w w' : World} {p : Nat} {ad : Option Addr} {c : Nat} {bs : List UInt8} {i : Nat} {bad : Bool} (h : Rd N w p ad c bs i bad) (hm : Mod M w w') (hp : ¬ M p) (hM : ∀ b, M b → N ≤ b) : Rd N w' p ad c bs i bad := ⟨h.blk.mod hm hp, h.sl.mod (hm.mono fun b _ e => hM b e), h.pN, h.cap, h.le⟩
theorem Rd.grow {N : Nat} {w w' : World} {p : Nat} {ad : Option Addr} {c : Nat} {bs : List UInt8} {i : Nat} {bad : Bool} (h : Rd N w p ad c bs i bad) (hm : Grow w w') : Rd N w' p ad c bs i bad := h.mod hm (fun h => h) (fun _ h => h.elim)
theorem Rd.big {N : Nat} {w : World} {p : Nat} {ad : Option Addr} {c : Nat} {bs : List UInt8} {i : Nat} {bad : Bool} (h : Rd N w p ad c bs i bad) : bs.length ≤ 9223372036854775807 := h.sl.big
section
variable {N : Nat} {w : World} {p : Nat} {ad : Option Addr} {c : Nat} {bs : List UInt8} {i : Nat} {bad : Bool}
theorem Rd.stM (h : Rd N w p ad c bs i bad) {w1 w' : World} (hm : Mod (· = p) w1 w') : Mod (N ≤ ·) w1 w' := hm.mono fun b _ e => by have := h.pN; have e' : b = p := e; omega
theorem pnew_ok (N : Nat) (w : World) (ad : Option Addr) (c : Nat) (bs : List UInt8) (h : Sl (N ≤ ·) w (.slice ad bs.length c) 1 bs.length (bytesV bs)) (hN : N ≤ w.heap.size) (hc : bs.length ≤ c) : Fx Tryz.prog 122 [.slice ad bs.length c] w (fun u w' => ∃ p, u = pp p ∧ w.heap.size ≤ p ∧ Rd N w' p ad c bs 0 false ∧ Grow w w') := by
  refine enter Tryz.func122 rfl rfl rfl _ (Pick.sub (l := [0]) (.cons rfl .nil)) ?_
  refine RK.seq ?_
  refine RK.region ?_
  refine RL.p rfl rfl ?_
  refine RL.done ?_
  refine RK.seq ?_
  refine RK.region ?_
  refine RL.p rfl rfl ?_
  refine RL.q (.free rfl) rfl rfl (Yld.build (v := .agg #[.slice ad bs.length c, .int .i64 0, .bool false]) rfl (fun w => by kernel_rfl)) ?_
  refine RL.op (.free rfl) rfl rfl (Does.box rfl) ?_
  rintro _ w1 ⟨b1, rfl, hn1⟩
  have ha := hn1.at_
  refine RL.p rfl rfl ?_
  refine RL.done ?_
  refine RK.ret_of Tryz.func122 (res1 rfl rfl) ?_ _
  exact ⟨_, rfl, b1, rfl, by omega, ⟨hn1.blk, h.mod (Mod.any' hn1.grow), by omega, hc, Nat.zero_le _⟩, hn1.grow⟩
theorem rest_ok (h : Rd N w p ad c bs i bad) : Fx Tryz.prog 162 [pp p] w (fun u w' => ∃ ad' c', u = .slice ad' (bs.length - i) c' ∧ Sl (N ≤ ·) w' (.slice ad' (bs.length - i) c') 1 (bs.length - i) (bytesV (bs.drop i)) ∧ bs.length - i ≤ c' ∧ Grow w w') := by
  have hle := h.le
  have hcap := h.cap
  have h1 := h.sl.from h.le h.cap
  have e : (bytesV bs).drop i = bytesV (bs.drop i) := by simp [bytesV]
  rw [e] at h1
  refine enter Tryz.func162 rfl rfl rfl _ (Pick.sub (l := [0]) (.cons rfl .nil)) ?_
  refine RK.seq ?_
  refine RK.region ?_
  refine RL.p rfl rfl ?_
  refine RL.done ?_
  refine RK.seq ?_
  refine RK.drawM No [(0, false), (1, false), (2, false), (3, false), (4, false), (5, false), (6, false), (7, false), (8, false), (9, false)] [] mixed (by kernel_rfl) ?_
  iterate 2 refine DL.p rfl rfl rfl ?_
  refine DL.qf rfl (.free rfl) rfl rfl (Yld.fieldAddr fo247_0 rfl) ?_
  refine DL.q rfl (.free rfl) rfl rfl rfl (Yld.load p39 rfl (atM ((h.blk.mod (Mod.drew No _) (fun h => h)).cell rfl) id)) (Mod.drew _ _) ?_
  iterate 2 refine DL.p rfl rfl rfl ?_
  refine DL.qf rfl (.free rfl) rfl rfl (Yld.fieldAddr fo247_1 rfl) ?_
  refine DL.q rfl (.free rfl) rfl rfl rfl (Yld.load p3 rfl (atM ((h.blk.mod (Mod.drew No _) (fun h => h)).cell rfl) id)) (Mod.drew _ _) ?_
  refine DL.qf rfl (.free rfl) rfl rfl (Yld.sliceFrom u39 i5 (m := i) rfl rfl hle) ?_
  refine DL.p rfl rfl rfl ?_
  refine DL.done ?_
  refine RK.ret_of Tryz.func162 (res1 rfl rfl) ?_ _
  exact ⟨_, rfl, _, _, rfl, h1.mod (Mod.drew _ _), by omega, Mod.drew _ _⟩
theorem one {x : Nat} {t : List UInt8} (h : bs.drop i = UInt8.ofNat x :: t) (hx : x < 256) : bs.length - i = t.length + 1 ∧ bytesV (bs.drop i) = .int .u8 (x : Int) :: bytesV t := by
  have hx' : (UInt8.ofNat x).toNat = x := by simp [UInt8.toNat_ofNat']; omega
  refine ⟨by have := congrArg List.length h; simpa using this, ?_⟩
  rw [h]; simp [bytesV, hx']
theorem tookT_ok (h : Rd N w p ad c bs i false) (n : Nat) (hn : i + n ≤ bs.length) : Fx Tryz.prog 163 [pp p, .int .i64 (n : Int), .bool true] w (fun u w' => u = .bool true ∧ Rd N w' p ad c bs (i + n) false ∧ Mod (· = p) w w') := by
  have hle := h.le
  have hbig := h.big
  refine enter Tryz.func163 rfl rfl rfl _ (Pick.sub (l := [0, 1, 2]) (.cons rfl (.cons rfl (.cons rfl .nil)))) ?_
  refine RK.seq ?_
  refine RK.region ?_
  refine RL.p rfl rfl ?_
  refine RL.done ?_
  refine RK.seq ?_
  refine RK.region ?_
  iterate 3 refine RL.p rfl rfl ?_
  refine RL.q (.free rfl) rfl rfl (Yld.fieldAddr fo247_2 rfl) ?_
  refine RL.q (.free rfl) rfl rfl (Yld.load p4 rfl (at1 (h.blk.cell rfl))) ?_
  refine RL.p rfl rfl ?_
  refine RL.knownF (d := 12) rfl rfl (rfl) ?_
  iterate 2 refine RL.q (.yes rfl rfl rfl) rfl rfl (Yld.pure rfl) ?_
  iterate 2 refine RL.p rfl rfl ?_
  refine RL.q (.free rfl) rfl rfl (Yld.fieldAddr fo247_2 rfl) ?_
  refine RL.op' (.free rfl) rfl (Does.store i4 rfl rfl rfl h.blk (.s (.s .z))) ?_
  rintro _ w1 ⟨hb1, hm1, hs1⟩
  refine RL.done ?_
  iterate 2 refine RK.seq ?_
  refine RK.region ?_
  iterate 2 refine RL.p rfl rfl ?_
  refine RL.q (.free rfl) rfl rfl (Yld.fieldAddr fo247_2 rfl) ?_
  refine RL.q (.free rfl) rfl rfl (Yld.load p4 rfl (at1 (hb1.cell rfl))) ?_
  refine RL.p rfl rfl ?_
  refine RL.done ?_
  refine RK.condT (hcT rfl (rfl)) ?_
  refine RK.region ?_
  iterate 2 refine RL.p rfl rfl ?_
  refine RL.q (.free rfl) rfl rfl (Yld.fieldAddr fo247_1 rfl) ?_
  refine RL.q (.free rfl) rfl rfl (Yld.load p3 rfl (at1 (hb1.cell rfl))) ?_
  iterate 2 refine RL.p rfl rfl ?_
  refine RL.re (d := 28) rfl rfl (add_i64 (z := ((i + n : Nat) : Int)) (by simp) (by omega) (by omega)) ?_
  refine RL.p rfl rfl ?_
  refine RL.q (.free rfl) rfl rfl (Yld.fieldAddr fo247_1 rfl) ?_
  refine RL.op' (.free rfl) rfl (Does.store i3 rfl rfl rfl hb1 (.s .z)) ?_
  rintro _ w2 ⟨hb2, hm2, hs2⟩
  refine RL.done ?_
  refine RK.seq ?_
  refine RK.region ?_
  iterate 2 refine RL.p rfl rfl ?_
  refine RL.q (.free rfl) rfl rfl (Yld.fieldAddr fo247_2 rfl) ?_
  refine RL.q (.free rfl) rfl rfl (Yld.load p4 rfl (at1 (hb2.cell rfl))) ?_
  iterate 2 refine RL.p rfl rfl ?_
  refine RL.done ?_
  refine RK.ret_of Tryz.func163 (res1 rfl rfl) ?_ _
  exact ⟨_, rfl, rfl, ⟨hb2, (h.sl.mod (h.stM hm1)).mod (h.stM hm2), h.pN, h.cap, hn⟩, hm1.trans hm2⟩
theorem tookF_ok (h : Rd N w p ad c bs i bad) (n : Int) (ok : Bool) (hb : (bad || !ok) = true) : Fx Tryz.prog 163 [pp p, .int .i64 n, .bool ok] w (fun u w' => u = .bool false ∧ Rd N w' p ad c bs i true ∧ Mod (· = p) w w') := by
  have hle := h.le
  have hbig := h.big
  cases bad with
  | true =>
    refine enter Tryz.func163 rfl rfl rfl _ (Pick.sub (l := [0, 1, 2]) (.cons rfl (.cons rfl (.cons rfl .nil)))) ?_
    refine RK.seq ?_
    refine RK.region ?_
    refine RL.p rfl rfl ?_
    refine RL.done ?_
    refine RK.seq ?_
    refine RK.region ?_
    iterate 3 refine RL.p rfl rfl ?_
    refine RL.q (.free rfl) rfl rfl (Yld.fieldAddr fo247_2 rfl) ?_
    refine RL.q (.free rfl) rfl rfl (Yld.load p4 rfl (at1 (h.blk.cell rfl))) ?_
    refine RL.p rfl rfl ?_
    refine RL.knownT (d := 12) rfl rfl (rfl) ?_
    iterate 2 refine RL.no (.no rfl rfl rfl rfl) rfl rfl ?_
    iterate 2 refine RL.p rfl rfl ?_
    refine RL.q (.free rfl) rfl rfl (Yld.fieldAddr fo247_2 rfl) ?_
    refine RL.op' (.free rfl) rfl (Does.store i4 rfl rfl rfl h.blk (.s (.s .z))) ?_
    rintro _ w1 ⟨hb1, hm1, hs1⟩
    refine RL.done ?_
    iterate 2 refine RK.seq ?_
    refine RK.region ?_
    iterate 2 refine RL.p rfl rfl ?_
    refine RL.q (.free rfl) rfl rfl (Yld.fieldAddr fo247_2 rfl) ?_
    refine RL.q (.free rfl) rfl rfl (Yld.load p4 rfl (at1 (hb1.cell rfl))) ?_
    refine RL.p rfl rfl ?_
    refine RL.done ?_
    refine RK.condF (hcF rfl (rfl)) ?_
    refine RK.skip ?_
    refine RK.seq ?_
    refine RK.region ?_
    iterate 2 refine RL.p rfl rfl ?_
    refine RL.q (.free rfl) rfl rfl (Yld.fieldAddr fo247_2 rfl) ?_
    refine RL.q (.free rfl) rfl rfl (Yld.load p4 rfl (at1 (hb1.cell rfl))) ?_
    iterate 2 refine RL.p rfl rfl ?_
    refine RL.done ?_
    refine RK.ret_of Tryz.func163 (res1 rfl rfl) ?_ _
    exact ⟨_, rfl, rfl, ⟨hb1, h.sl.mod (h.stM hm1), h.pN, h.cap, hle⟩, hm1⟩
  | false =>
    have e : ok = false := by simpa using hb
    subst e
    refine enter Tryz.func163 rfl rfl rfl _ (Pick.sub (l := [0, 1, 2]) (.cons rfl (.cons rfl (.cons rfl .nil)))) ?_
    refine RK.seq ?_
    refine RK.region ?_
    refine RL.p rfl rfl ?_
    refine RL.done ?_
    refine RK.seq ?_
    refine RK.region ?_
    iterate 3 refine RL.p rfl rfl ?_
    refine RL.q (.free rfl) rfl rfl (Yld.fieldAddr fo247_2 rfl) ?_
    refine RL.q (.free rfl) rfl rfl (Yld.load p4 rfl (at1 (h.blk.cell rfl))) ?_
    refine RL.p rfl rfl ?_
    refine RL.knownF (d := 12) rfl rfl (rfl) ?_
    iterate 2 refine RL.q (.yes rfl rfl rfl) rfl rfl (Yld.pure rfl) ?_
    iterate 2 refine RL.p rfl rfl ?_
    refine RL.q (.free rfl) rfl rfl (Yld.fieldAddr fo247_2 rfl) ?_
    refine RL.op' (.free rfl) rfl (Does.store i4 rfl rfl rfl h.blk (.s (.s .z))) ?_
    rintro _ w1 ⟨hb1, hm1, hs1⟩
    refine RL.done ?_
    iterate 2 refine RK.seq ?_
    refine RK.region ?_
    iterate 2 refine RL.p rfl rfl ?_
    refine RL.q (.free rfl) rfl rfl (Yld.fieldAddr fo247_2 rfl) ?_
    refine RL.q (.free rfl) rfl rfl (Yld.load p4 rfl (at1 (hb1.cell rfl))) ?_
    refine RL.p rfl rfl ?_
    refine RL.done ?_
    refine RK.condF (hcF rfl (rfl)) ?_
    refine RK.skip ?_
    refine RK.seq ?_
    refine RK.region ?_
    iterate 2 refine RL.p rfl rfl ?_
    refine RL.q (.free rfl) rfl rfl (Yld.fieldAddr fo247_2 rfl) ?_
    refine RL.q (.free rfl) rfl rfl (Yld.load p4 rfl (at1 (hb1.cell rfl))) ?_
    iterate 2 refine RL.p rfl rfl ?_
    refine RL.done ?_
    refine RK.ret_of Tryz.func163 (res1 rfl rfl) ?_ _
    exact ⟨_, rfl, rfl, ⟨hb1, h.sl.mod (h.stM hm1), h.pN, h.cap, hle⟩, hm1⟩
theorem refuseT_ok (h : Rd N w p ad c bs i false) : Fx Tryz.prog 124 [pp p, .bool true] w (fun u w' => Rd N w' p ad c bs i false ∧ Mod (· = p) w w') := by
  refine enter Tryz.func124 rfl rfl rfl _ (Pick.sub (l := [0, 1]) (.cons rfl (.cons rfl .nil))) ?_
  refine RK.region ?_
  iterate 2 refine RL.p rfl rfl ?_
  refine RL.op (.free rfl) rfl rfl (Does.call rfl e163 (tookT_ok h 0 (by have := h.le; omega))) ?_
  rintro _ w1 ⟨rfl, h1, hm1⟩
  refine RL.done ?_
  refine RK.end_of Tryz.func124 (res0 rfl) ?_
  exact ⟨_, rfl, h1, hm1⟩
theorem refuseF_ok (h : Rd N w p ad c bs i bad) (ok : Bool) (hb : (bad || !ok) = true) : Fx Tryz.prog 124 [pp p, .bool ok] w (fun u w' => Rd N w' p ad c bs i true ∧ Mod (· = p) w w') := by
  refine enter Tryz.func124 rfl rfl rfl _ (Pick.sub (l := [0, 1]) (.cons rfl (.cons rfl .nil))) ?_
  refine RK.region ?_
  iterate 2 refine RL.p rfl rfl ?_
  refine RL.op (.free rfl) rfl rfl (Does.call rfl e163 (tookF_ok h 0 ok hb)) ?_
  rintro _ w1 ⟨rfl, h1, hm1⟩
  refine RL.done ?_
  refine RK.end_of Tryz.func124 (res0 rfl) ?_
  exact ⟨_, rfl, h1, hm1⟩
theorem textT_ok (h : Rd N w p ad c bs i false) (x : Nat) (hx : x < 128) (t : List UInt8) (hd : bs.drop i = UInt8.ofNat x :: t) (most : Nat) (hm : x ≤ most) (hm' : most < 1000) (ht : x ≤ t.length) : Fx Tryz.prog 123 [pp p, .int .i64 (most : Int)] w (fun u w' => u = .string ⟨(t.take x).toArray⟩ ∧ Rd N w' p ad c bs (i + (1 + x)) false ∧ Mod (· = p) w w') := by
  have hle := h.le
  have hcap := h.cap
  obtain ⟨hl, hby⟩ := one hd (by omega)
  refine enter Tryz.func123 rfl rfl rfl _ (Pick.sub (l := [0, 1]) (.cons rfl (.cons rfl .nil))) ?_
  refine RK.seq ?_
  refine RK.region ?_
  refine RL.p rfl rfl ?_
  refine RL.done ?_
  refine RK.seq ?_
  refine RK.region ?_
  refine RL.p rfl rfl ?_
  refine RL.op (.free rfl) rfl rfl (Does.call rfl e162 (rest_ok h)) ?_
  rintro _ w0 ⟨ad0, c0, rfl, hsl, hca0, hg0⟩
  have h0 := h.grow hg0
  rw [hby, hl] at hsl
  rw [hl]
  refine RL.p rfl rfl ?_
  refine RL.op (.free rfl) rfl rfl (Does.call rfl e161 (vtext1_ok x hx t _ _ _ _ hsl most hm hm' ht (by omega))) ?_
  rintro _ w1 ⟨rfl, rfl⟩
  iterate 7 refine RL.p rfl rfl ?_
  refine RL.done ?_
  iterate 2 refine RK.seq ?_
  refine RK.region ?_
  iterate 3 refine RL.p rfl rfl ?_
  refine RL.op (.free rfl) rfl rfl (Does.call rfl e163 (tookT_ok h0 (1 + x) (by omega))) ?_
  rintro _ w2 ⟨rfl, h2, hm2⟩
  refine RL.p rfl rfl ?_
  refine RL.done ?_
  refine RK.condF (hcF rfl (rfl)) ?_
  refine RK.skip ?_
  refine RK.seq ?_
  refine RK.region ?_
  iterate 2 refine RL.p rfl rfl ?_
  refine RL.done ?_
  refine RK.ret_of Tryz.func123 (res1 rfl rfl) ?_ _
  exact ⟨_, rfl, rfl, h2, (Mod.any' hg0).trans hm2⟩
theorem textF_ok (h : Rd N w p ad c bs i bad) (x : Nat) (hx : x < 128) (t : List UInt8) (hd : bs.drop i = UInt8.ofNat x :: t) (most : Nat) (hm' : most < 1000) (ht : t.length < x) : Fx Tryz.prog 123 [pp p, .int .i64 (most : Int)] w (fun u w' => u = .string ⟨#[]⟩ ∧ Rd N w' p ad c bs i true ∧ Mod (· = p) w w') := by
  have hle := h.le
  have hcap := h.cap
  obtain ⟨hl, hby⟩ := one hd (by omega)
  refine enter Tryz.func123 rfl rfl rfl _ (Pick.sub (l := [0, 1]) (.cons rfl (.cons rfl .nil))) ?_
  refine RK.seq ?_
  refine RK.region ?_
  refine RL.p rfl rfl ?_
  refine RL.done ?_
  refine RK.seq ?_
  refine RK.region ?_
  refine RL.p rfl rfl ?_
  refine RL.op (.free rfl) rfl rfl (Does.call rfl e162 (rest_ok h)) ?_
  rintro _ w0 ⟨ad0, c0, rfl, hsl, hca0, hg0⟩
  have h0 := h.grow hg0
  rw [hby, hl] at hsl
  rw [hl]
  refine RL.p rfl rfl ?_
  refine RL.op (.free rfl) rfl rfl (Does.call rfl e161 (vtext0_ok x hx t _ _ _ _ hsl most hm' ht)) ?_
  rintro _ w1 ⟨rfl, rfl⟩
  iterate 7 refine RL.p rfl rfl ?_
  refine RL.done ?_
  iterate 2 refine RK.seq ?_
  refine RK.region ?_
  iterate 3 refine RL.p rfl rfl ?_
  refine RL.op (.free rfl) rfl rfl (Does.call rfl e163 (tookF_ok h0 0 false (by simp))) ?_
  rintro _ w2 ⟨rfl, h2, hm2⟩
  refine RL.p rfl rfl ?_
  refine RL.done ?_
  refine RK.condT (hcT rfl (rfl)) ?_
  refine RK.seq ?_
  refine RK.region ?_
  refine RL.p rfl rfl ?_
  refine RL.done ?_
  refine RK.ret_of Tryz.func123 (res1 rfl rfl) ?_ _
  exact ⟨_, rfl, rfl, h2, (Mod.any' hg0).trans hm2⟩
theorem byteT_ok (h : Rd N w p ad c bs i false) (x : Nat) (hx : x < 256) (t : List UInt8) (hd : bs.drop i = UInt8.ofNat x :: t) : Fx Tryz.prog 164 [pp p] w (fun u w' => u = .int .u8 (x : Int) ∧ Rd N w' p ad c bs (i + 1) false ∧ Mod (· = p) w w') := by
  have hle := h.le
  obtain ⟨hl, hby⟩ := one hd (by omega)
  refine enter Tryz.func164 rfl rfl rfl _ (Pick.sub (l := [0]) (.cons rfl .nil)) ?_
  refine RK.seq ?_
  refine RK.region ?_
  refine RL.p rfl rfl ?_
  refine RL.done ?_
  refine RK.seq ?_
  refine RK.region ?_
  refine RL.p rfl rfl ?_
  refine RL.op (.free rfl) rfl rfl (Does.call rfl e162 (rest_ok h)) ?_
  rintro _ w0 ⟨ad0, c0, rfl, hsl, hca0, hg0⟩
  have h0 := h.grow hg0
  refine RL.p rfl rfl ?_
  refine RL.done ?_
  iterate 2 refine RK.seq ?_
  refine RK.region ?_
  iterate 2 refine RL.p rfl rfl ?_
  refine RL.q (.free rfl) rfl rfl (Yld.lenSl u39 rfl) ?_
  refine RL.p rfl rfl ?_
  refine RL.re (d := 9) rfl rfl (congrArg Value.bool (decide_eq_true (by omega))) ?_
  refine RL.op (.free rfl) rfl rfl (Does.call rfl e163 (tookT_ok h0 1 (by omega))) ?_
  rintro _ w2 ⟨rfl, h2, hm2⟩
  have hsl2 := hsl.mod (h0.stM hm2)
  rw [hby] at hsl2
  obtain ⟨b1, o1, c1, he1, _, _, hc1⟩ := hsl2.elem1 (k := 0) (u := .int .u8 (x : Int)) rfl
  cases he1
  refine RL.p rfl rfl ?_
  refine RL.done ?_
  refine RK.condF (hcF rfl (rfl)) ?_
  refine RK.skip ?_
  refine RK.seq ?_
  refine RK.region ?_
  refine RL.p rfl rfl ?_
  refine RL.q (.free rfl) rfl rfl (Yld.indexAddrN u39 i5 rfl rfl ((by omega : 0 < bs.length - i))) ?_
  refine RL.q (.free rfl) rfl rfl (Yld.load p5 rfl (at1 (hc1 0 (.int .u8 (x : Int)) rfl))) ?_
  refine RL.p rfl rfl ?_
  refine RL.done ?_
  refine RK.ret_of Tryz.func164 (res1 rfl rfl) ?_ _
  exact ⟨_, rfl, rfl, h2, (Mod.any' hg0).trans hm2⟩
theorem byteF_ok (h : Rd N w p ad c bs i true) : Fx Tryz.prog 164 [pp p] w (fun u w' => u = .int .u8 0 ∧ Rd N w' p ad c bs i true ∧ Mod (· = p) w w') := by
  refine enter Tryz.func164 rfl rfl rfl _ (Pick.sub (l := [0]) (.cons rfl .nil)) ?_
  refine RK.seq ?_
  refine RK.region ?_
  refine RL.p rfl rfl ?_
  refine RL.done ?_
  refine RK.seq ?_
  refine RK.region ?_
  refine RL.p rfl rfl ?_
  refine RL.op (.free rfl) rfl rfl (Does.call rfl e162 (rest_ok h)) ?_
  rintro _ w0 ⟨ad0, c0, rfl, hsl, hca0, hg0⟩
  have h0 := h.grow hg0
  refine RL.p rfl rfl ?_
  refine RL.done ?_
  iterate 2 refine RK.seq ?_
  refine RK.region ?_
  iterate 2 refine RL.p rfl rfl ?_
  refine RL.q (.free rfl) rfl rfl (Yld.lenSl u39 rfl) ?_
  refine RL.p rfl rfl ?_
  refine RL.op (.free rfl) rfl rfl (Does.call rfl e163 (tookF_ok h0 1 _ (by simp))) ?_
  rintro _ w2 ⟨rfl, h2, hm2⟩
  refine RL.p rfl rfl ?_
  refine RL.done ?_
  refine RK.condT (hcT rfl (rfl)) ?_
  refine RK.seq ?_
  refine RK.region ?_
  refine RL.p rfl rfl ?_
  refine RL.done ?_
  refine RK.ret_of Tryz.func164 (res1 rfl rfl) ?_ _
  exact ⟨_, rfl, rfl, h2, (Mod.any' hg0).trans hm2⟩
theorem endT_ok (h : Rd N w p ad c bs i false) : Fx Tryz.prog 178 [pp p] w (fun u w' => u = .tuple #[.int .i64 (i : Int), .bool true] ∧ w = w') := by
  refine enter Tryz.func178 rfl rfl rfl _ (Pick.sub (l := [0]) (.cons rfl .nil)) ?_
  refine RK.seq ?_
  refine RK.region ?_
  iterate 2 refine RL.p rfl rfl ?_
  refine RL.done ?_
  iterate 2 refine RK.seq ?_
  refine RK.region ?_
  iterate 2 refine RL.p rfl rfl ?_
  refine RL.q (.free rfl) rfl rfl (Yld.fieldAddr fo247_2 rfl) ?_
  refine RL.q (.free rfl) rfl rfl (Yld.load p4 rfl (at1 (h.blk.cell rfl))) ?_
  refine RL.done ?_
  refine RK.condF (hcF rfl (rfl)) ?_
  refine RK.skip ?_
  refine RK.seq ?_
  refine RK.region ?_
  iterate 2 refine RL.p rfl rfl ?_
  refine RL.q (.free rfl) rfl rfl (Yld.fieldAddr fo247_1 rfl) ?_
  refine RL.q (.free rfl) rfl rfl (Yld.load p3 rfl (at1 (h.blk.cell rfl))) ?_
  iterate 2 refine RL.p rfl rfl ?_
  refine RL.done ?_
  refine RK.ret_of Tryz.func178 (res2 rfl rfl rfl) ?_ _
  exact ⟨_, rfl, rfl, rfl⟩
theorem endF_ok (h : Rd N w p ad c bs i true) : Fx Tryz.prog 178 [pp p] w (fun u w' => u = .tuple #[.int .i64 0, .bool false] ∧ w = w') := by
  refine enter Tryz.func178 rfl rfl rfl _ (Pick.sub (l := [0]) (.cons rfl .nil)) ?_
  refine RK.seq ?_
  refine RK.region ?_
  iterate 2 refine RL.p rfl rfl ?_
  refine RL.done ?_
  iterate 2 refine RK.seq ?_
  refine RK.region ?_
  iterate 2 refine RL.p rfl rfl ?_
  refine RL.q (.free rfl) rfl rfl (Yld.fieldAddr fo247_2 rfl) ?_
  refine RL.q (.free rfl) rfl rfl (Yld.load p4 rfl (at1 (h.blk.cell rfl))) ?_
  refine RL.done ?_
  refine RK.condT (hcT rfl (rfl)) ?_
  refine RK.seq ?_
  refine RK.region ?_
  iterate 2 refine RL.p rfl rfl ?_
  refine RL.done ?_
  refine RK.ret_of Tryz.func178 (res2 rfl rfl rfl) ?_ _
  exact ⟨_, rfl, rfl, rfl⟩
theorem tokenIs_ok (s : ByteArray) (w : World) : Fx Tryz.prog 67 [.string s] w (fun u w' => u = .bool (decide (4 ≤ s.size ∧ s.size ≤ 16)) ∧ w = w') := by
  refine enter Tryz.func67 rfl rfl rfl _ (Pick.sub (l := [0]) (.cons rfl .nil)) ?_
  refine RK.seq ?_
  refine RK.region ?_
  refine RL.p rfl rfl ?_
  refine RL.done ?_
  refine RK.seq ?_
  refine RK.region ?_
  refine RL.p rfl rfl ?_
  refine RL.q (.free rfl) rfl rfl (Yld.lenStr u9 rfl) ?_
  iterate 2 refine RL.p rfl rfl ?_
  first | refine RL.splitD (d := 6) rfl rfl (fun h6 => ?_) (fun h6 => ?_) | refine RL.splitN (d := 6) rfl rfl (fun h6 => ?_) (fun h6 => ?_) | refine RL.split (d := 6) rfl rfl (fun h6 => ?_) (fun h6 => ?_)
  · refine RL.q (.yes rfl rfl rfl) rfl rfl (Yld.pure rfl) ?_
    refine RL.q (.yes rfl rfl rfl) rfl rfl (Yld.lenStr u9 rfl) ?_
    refine RL.q (.yes rfl rfl rfl) rfl rfl (Yld.pure rfl) ?_
    iterate 2 refine RL.p rfl rfl ?_
    refine RL.done ?_
    refine RK.ret_of Tryz.func67 (res1 rfl rfl) ?_ _
    exact ⟨_, rfl, congrArg _ (decide_eq_decide.2 (by omega)), rfl⟩
  · iterate 3 refine RL.no (.no rfl rfl rfl rfl) rfl rfl ?_
    iterate 2 refine RL.p rfl rfl ?_
    refine RL.done ?_
    refine RK.ret_of Tryz.func67 (res1 rfl rfl) ?_ _
    exact ⟨_, rfl, congrArg _ (decide_eq_false (by omega)).symm, rfl⟩
end
end Go.Proofs.YtcndimkkojdflaaGreatDoor
set_option linter.unusedVariables false
set_option linter.unusedSimpArgs false
namespace Go.X
open Go Go.RowKit
section
variable {P : Program} {n : Nat} {e : Env} {w : World}
theorem run_copyS (w : World) (dT sT ty elem : TypeId) (sz g o dLen dCap : Nat) (a : Addr) (sLen sCap : Nat) (cur : Array Value) (t : TypeId) (cs : List Value) (m : Nat)
    (hu : P.underlying dT = some (.slice elem)) (hs : (P.info? elem).map (·.size) = some sz)
    (hg : w.heap[g]? = some (.cells cur t (0, 0))) (hm : m = Nat.min sLen dLen) (hn : cs.length = m * sz)
    (hsrc : ∀ j v, cs[j]? = some v → w.cell? (a.add j) = some v) (hfit : o + cs.length ≤ cur.size) (h1 : ∀ v ∈ cs, v.oneCell' = true) :
    (Builtin.copy_ #[dT, sT] ty #[.slice (some ⟨g, o, none⟩) dLen dCap, .slice (some a) sLen sCap]).run P w =
      .ok (goInt m) (w.setRow g (cur.toList.take o ++ cs ++ cur.toList.drop (o + cs.length)).toArray) := by
  have hl := run_loadCells_list (P := P) w a cs hsrc
  have hst := run_storeCells_at P g o t cs 0 cur w hg (by simpa using hfit) h1
  cases hq : P.info? elem with
  | none => simp [hq] at hs
  | some i =>
    have hi : i.size = sz := by simpa [hq] using hs
    rw [hn] at hl
    subst hm
    simp [Builtin.copy_, run_underlying hu, Builtin.lenOf, Builtin.firstCells, sizeOf, typeInfo, hq, hi, hl, hst]
theorem Does.copyS {d : Option Tmp} {t t2 el : Nat} {x y : Operand} {ty : TypeId} {pos : String} {af : Array Edge} {g' : Option (Nat × Bool)} (ht : SlT P t el) {z : Value} {sz by' : Nat} (hT : TI P el z sz by') {g o dl dc m T : Nat} {u : Value} {cs news : List Value}
    (hx : ev e x = some (.slice (some ⟨g, o, none⟩) dl dc)) (hy : ev e y = some u) (hb : Blk w g T cs) (hu : Sl No w u sz m news) (hm0 : 0 < m) (hm : m ≤ dl) (hfit : o + m * sz ≤ cs.length) (h1 : news.all (·.oneCell') = true) :
    Does P n e w ⟨d, .call { callee := .builtin .copy, args := #[x, y], argTypes := #[t, t2] }, ty, pos, af, g'⟩
      (fun v' w' => v' = .int .i64 (m : Int) ∧ Blk w' g T (cs.take o ++ news ++ cs.drop (o + m * sz)) ∧ Mod (· = g) w w' ∧ w'.heap.size = w.heap.size) := by
  obtain ⟨q, hi, hz, hs', hby⟩ := hT.out
  obtain ⟨ad, c, rfl, hf⟩ := hu.form
  have hln : news.length = m * sz := hu.len
  have hs1 : (P.info? el).map (·.size) = some sz := by rw [hi]; simp [hs']
  obtain ⟨g1, g2, g3⟩ := hb.setRow (cs' := cs.take o ++ news ++ cs.drop (o + m * sz))
  obtain ⟨b, o', rfl, _, h3⟩ := hf hm0
  have hsrc : ∀ j v, news[j]? = some v → w.cell? ((⟨b, o', none⟩ : Addr).add j) = some v := fun j v hj => by
    rw [add_none]; exact h3 j v hj
  have hr := run_copyS (P := P) w t t2 ty el sz g o dl dc ⟨b, o', none⟩ m c cs.toArray T news m ht hs1 hb (Nat.min_eq_left hm).symm hln hsrc (by rw [hln]; simpa using hfit) (List.all_eq_true.1 h1)
  rw [hln] at hr
  refine Does.of_run (w' := w.setRow g (cs.take o ++ news ++ cs.drop (o + m * sz)).toArray) (v := .int .i64 (m : Int)) (fun a ha => ?_) ⟨rfl, g1, g2, g3⟩
  have hr2 : (Builtin.copy_ #[t, t2] ty #[.slice (some ⟨g, o, none⟩) dl dc, .slice (some ⟨b, o', none⟩) m c]).run P w = .ok (.int .i64 (m : Int)) (w.setRow g (cs.take o ++ news ++ cs.drop (o + m * sz)).toArray) := hr
  simp [execOp, resolve, invoke, builtin, ha.ev hx, ha.ev hy, hr2]
theorem Yld.min2k {C : World → Prop} {d : Option Tmp} {t : Array TypeId} {x y : Operand} {ty : TypeId} {pos : String} {af : Array Edge} {g : Option (Nat × Bool)} {k : IntKind} {p q : Int} (hx : ev e x = some (.int k p)) (hy : ev e y = some (.int k q)) :
    Yld P n C e ⟨d, .call { callee := .builtin .min, args := #[x, y], argTypes := t }, ty, pos, af, g⟩ (.int k (if q < p then q else p)) := by
  intro a ha w _
  simp [execOp, resolve, invoke, builtin, ha.ev hx, ha.ev hy, Builtin.min_, Builtin.min2]
end
end Go.X
set_option linter.unusedVariables false
set_option linter.unusedSimpArgs false
namespace Go.X
open Go Go.RowKit
section
variable {P : Program} {n : Nat} {e : Env} {w : World} {C : World → Prop}
theorem Yld.indexArr {d : Option Tmp} {t len el sz : Nat} {x i : Operand} {ty : TypeId} {pos : String} {af : Array Edge} {g : Option (Nat × Bool)} (hT : P.underlying t = some (.array len el)) {z : Value} {by' : Nat} (hE : TI P el z sz by') {b o : Nat} {k : IntKind} {q : Nat}
    (hx : ev e x = some (.pointer (some ⟨b, o, none⟩))) (hi : ev e i = some (.int k (q : Int))) (h1 : q < len) :
    Yld P n C e ⟨d, .indexAddr t x i, ty, pos, af, g⟩ (.pointer (some ⟨b, o + q * sz, none⟩)) := by
  intro a ha w _
  have h2 : (0 : Int) ≤ q := by omega
  have h3 : (q : Int) < len := by omega
  have h4 : ¬ len ≤ q := by omega
  simp [execOp, ha.ev hx, ha.ev hi, Instr.indexAt, run_underlying hT, asIntOf, hE.sizeOf w, h2, h3, add_none, Instr.sureAddr, h4, h1]
end
end Go.X
set_option linter.unusedVariables false
set_option linter.unusedSimpArgs false
set_option maxHeartbeats 6400000
set_option maxRecDepth 100000
namespace Go.Proofs.YtcndimkkojdflaaGreatDoor
open Go Go.X
theorem Yld.shlI {P : Program} {n : Nat} {e : Env} {C : World → Prop} {d : Option Tmp} {t : Nat} {x y : Operand} {t' ty : TypeId} {pos : String} {af : Array Edge} {g : Option (Nat × Bool)} {k k' : IntKind} {a s : Int} (hx : ev e x = some (.int k a)) (hy : ev e y = some (.int k' s)) (hs : 0 ≤ s) :
    Yld P n C e ⟨d, .binOp .shl t x y t', ty, pos, af, g⟩ (.int k (k.wrap (a * 2 ^ min s.toNat k.bits))) := by
  intro ac ha w _
  have h0 : ¬ (s < 0) := by omega
  simp [execOp, ha.ev hx, ha.ev hy, eqGuard, binOp, Op.shift, h0]
theorem Yld.shrI {P : Program} {n : Nat} {e : Env} {C : World → Prop} {d : Option Tmp} {t : Nat} {x y : Operand} {t' ty : TypeId} {pos : String} {af : Array Edge} {g : Option (Nat × Bool)} {k k' : IntKind} {a s : Int} (hx : ev e x = some (.int k a)) (hy : ev e y = some (.int k' s)) (hs : 0 ≤ s) :
    Yld P n C e ⟨d, .binOp .shr t x y t', ty, pos, af, g⟩ (.int k (a.fdiv (2 ^ min s.toNat k.bits))) := by
  intro ac ha w _
  have h0 : ¬ (s < 0) := by omega
  simp [execOp, ha.ev hx, ha.ev hy, eqGuard, binOp, Op.shift, h0]
theorem wrap64_nn (z : Int) : 0 ≤ IntKind.u64.wrap z := by rw [IntKind.wrap_u64]; omega
def WW (k : IntKind) (n : Nat) (cs : List Value) : Prop := cs.length = n ∧ ∀ i, i < n → ∃ x : Int, cs[i]? = some (.int k x)
theorem WW.zero (k : IntKind) (n : Nat) : WW k n (List.replicate n (.int k 0)) := ⟨by simp, fun i hi => ⟨0, by simp [hi]⟩⟩
theorem WW.put {k : IntKind} {n : Nat} {cs : List Value} (h : WW k n cs) {i : Nat} (hi : i < n) (x : Int) : WW k n (cs.take i ++ [.int k x] ++ cs.drop (i + 1)) := by
  obtain ⟨hl, hc⟩ := h
  have e : cs.take i ++ [.int k x] ++ cs.drop (i + 1) = cs.set i (.int k x) := by
    rw [List.set_eq_take_append_cons_drop, if_pos (by omega)]; simp
  rw [e]
  refine ⟨by simpa using hl, fun j hj => ?_⟩
  rw [List.getElem?_set]
  by_cases hij : i = j
  · subst hij; exact ⟨x, by simp [hl, hi]⟩
  · rw [if_neg hij]; exact hc j hj
theorem WW.st {k : IntKind} {n : Nat} {cs : List Value} (h : WW k n cs) {i : Nat} (hi : i < n) {x : Int} : WW k n (cs.take (0 + i * 1) ++ (Value.int k x).cells.toList ++ cs.drop (0 + i * 1 + 1)) := by
  have e : 0 + i * 1 = i := by omega
  rw [e]
  exact h.put hi x
theorem WW.one {k : IntKind} {n : Nat} {cs : List Value} (h : WW k n cs) : cs.all (·.oneCell') = true := by
  rw [List.all_eq_true]
  intro v hv
  obtain ⟨i, hi⟩ := List.getElem?_of_mem hv
  have hl := (List.getElem?_eq_some_iff.1 hi).1
  obtain ⟨x, hx⟩ := h.2 i (by have := h.1; omega)
  rw [hx] at hi; cases hi; rfl
theorem WW.app {k : IntKind} {n m : Nat} {cs ds : List Value} (h : WW k n cs) (g : WW k m ds) : WW k (n + m) (cs ++ ds) := by
  refine ⟨by rw [List.length_append, h.1, g.1], fun i hi => ?_⟩
  rw [List.getElem?_append]
  split
  · exact h.2 i (by have := h.1; omega)
  · exact g.2 _ (by have := h.1; omega)
theorem WW.cut {k : IntKind} {n : Nat} {cs : List Value} (h : WW k n cs) (a m : Nat) (hm : a + m ≤ n) : WW k m ((cs.drop a).take m) := by
  refine ⟨by rw [List.length_take, List.length_drop, h.1]; omega, fun i hi => ?_⟩
  rw [List.getElem?_take, if_pos hi, List.getElem?_drop]
  exact h.2 _ (by omega)
theorem WW.rest {k : IntKind} {n : Nat} {cs : List Value} (h : WW k n cs) (a : Nat) (hm : a ≤ n) : WW k (n - a) (cs.drop a) := by
  refine ⟨by rw [List.length_drop, h.1], fun i hi => ?_⟩
  rw [List.getElem?_drop]
  exact h.2 _ (by omega)
theorem rotl_ok (x k : Int) (w : World) : Fx Tryz.prog 290 [.int .u32 x, .int .i64 k] w (fun u w' => ∃ y : Int, u = .int .u32 y ∧ w = w') := by
  refine enter Tryz.func290 rfl rfl rfl _ (Pick.sub (l := [0, 1]) (.cons rfl (.cons rfl .nil))) ?_
  refine RK.seq ?_
  refine RK.region ?_
  refine RL.p rfl rfl ?_
  refine RL.done ?_
  refine RK.seq ?_
  refine RK.region ?_
  refine RL.p rfl rfl ?_
  refine RL.q (.free rfl) rfl rfl (Yld.convI Tryz.underlying3 Tryz.underlying79 rfl) ?_
  iterate 2 refine RL.p rfl rfl ?_
  refine RL.done ?_
  refine RK.seq ?_
  refine RK.region ?_
  iterate 2 refine RL.p rfl rfl ?_
  refine RL.q (.free rfl) rfl rfl (Yld.shlI rfl rfl (wrap64_nn _)) ?_
  iterate 3 refine RL.p rfl rfl ?_
  refine RL.q (.free rfl) rfl rfl (Yld.shrI rfl rfl (wrap64_nn _)) ?_
  iterate 2 refine RL.p rfl rfl ?_
  refine RL.done ?_
  refine RK.ret_of Tryz.func290 (res1 rfl rfl) ?_ _
  exact ⟨_, rfl, _, rfl, rfl⟩
theorem spread_ok (bs : List Value) (hb : WW .u8 64 bs) (w : World) : Fx Tryz.prog 289 [.agg bs.toArray] w (fun u w' => ∃ cs, WW .u32 64 cs ∧ u = .agg cs.toArray ∧ Grow w w') := by
  refine enter Tryz.func289 rfl rfl rfl _ (Pick.sub (l := [0]) (.cons rfl .nil)) ?_
  refine RK.seq ?_
  refine RK.region ?_
  refine RL.op (.free rfl) rfl rfl (Does.box rfl) ?_
  rintro _ w1 ⟨b1, rfl, hn1⟩
  have hB1 : Blk w1 b1 321 bs := hn1.blk
  refine RL.op (.free rfl) rfl rfl (Does.alloc i384) ?_
  rintro _ w2 ⟨b2, rfl, hn2⟩
  refine RL.done ?_
  refine RK.seq ?_
  refine RK.region ?_
  refine RL.op (.free rfl) rfl rfl (Does.alloc i384) ?_
  rintro _ w3 ⟨b3, rfl, hn3⟩
  have ha2 := hn2.at_
  have ha3 := hn3.at_
  have hz2 := hn2.size
  have hz3 := hn3.size
  have hB3 : Blk w3 b3 384 (List.replicate 64 (.int .u32 0)) := hn3.blk
  have hB1' := hB1.mod hn2.grow (fun h => h)
  refine RL.done ?_
  iterate 2 refine RK.seq ?_
  refine RK.region ?_
  refine RL.p rfl rfl ?_
  refine RL.done ?_
  refine RK.block ?_
  refine RK.loop (fun k : Nat => [(1, .pointer (some ⟨b1, 0, none⟩)), (2, .pointer (some ⟨b2, 0, none⟩)), (3, .pointer (some ⟨b3, 0, none⟩)), (10, .int .i64 (k : Int))]) (fun k w' => (∃ cs, WW .u32 64 cs ∧ Blk w' b3 384 cs) ∧ Grow w2 w' ∧ k ≤ 16) (fun k => 16 - k) 0 ⟨rfl, rfl, rfl, rfl, trivial⟩ ⟨⟨_, WW.zero .u32 64, hB3⟩, hn3.grow, Nat.zero_le _⟩ (fun k w' hI ih => ?_)
  obtain ⟨⟨cs, hcs, hB⟩, hg, hk⟩ := hI
  refine RK.seq ?_
  refine RK.region ?_
  refine RL.p rfl rfl ?_
  refine RL.done ?_
  refine RK.seq ?_
  first | refine RK.condD rfl (fun h11 => ?_) (fun h11 => ?_) | refine RK.condN rfl (fun h11 => ?_) (fun h11 => ?_) | refine RK.cond rfl (fun h11 => ?_) (fun h11 => ?_)
  · have hI1 := hB1'.mod hg (fun h => h)
    have hd := Mod.drew No w'
    have hI1d := hI1.mod hd (fun h => h)
    have hk16 : k < 16 := by omega
    obtain ⟨x0, hx0⟩ := hb.2 (4 * k) (by omega)
    obtain ⟨x1, hx1⟩ := hb.2 (4 * k + 1) (by omega)
    obtain ⟨x2, hx2⟩ := hb.2 (4 * k + 2) (by omega)
    obtain ⟨x3, hx3⟩ := hb.2 (4 * k + 3) (by omega)
    have hB' := hB.mod hd (fun h => h)
    refine RK.skip ?_
    refine RK.seq ?_
    refine RK.block ?_
    refine RK.seq ?_
    refine RK.region ?_
    iterate 2 refine RL.p rfl rfl ?_
    refine RL.done ?_
    refine RK.drawM (fun _ => False) [(0, false), (1, false), (2, false), (3, false), (4, false), (5, false), (6, false), (7, false), (8, false), (9, false), (10, false), (11, false), (12, false), (13, false), (14, false), (15, false), (16, false), (17, false), (18, false), (19, false), (20, false), (21, false), (22, false), (23, false), (24, false), (25, false), (26, false), (27, false), (28, false), (29, false), (30, false), (31, true)] [31] mixed (by kernel_rfl) ?_
    iterate 3 refine DL.p rfl rfl rfl ?_
    refine DL.re (d := 15) rfl rfl (congrArg (Value.int .i64) (by rw [wrap_i64 (by omega) (by omega)]; omega : _ = ((4 * k : Nat) : Int))) ?_
    refine DL.qf rfl (.free rfl) rfl rfl (Yld.indexArr Tryz.underlying321 i5 rfl rfl (by omega)) ?_
    refine DL.q rfl (.free rfl) rfl rfl rfl (Yld.load p5 rfl (atM (hI1d.at1 hx0) id)) (Mod.drew _ _) ?_
    refine DL.qf rfl (.free rfl) rfl rfl (Yld.convI Tryz.underlying5 Tryz.underlying181 rfl) ?_
    refine DL.qf rfl (.free rfl) rfl rfl (Yld.shlI rfl rfl (by decide)) ?_
    iterate 2 refine DL.p rfl rfl rfl ?_
    refine DL.re (d := 21) rfl rfl (congrArg (Value.int .i64) (by rw [wrap_i64 (by omega) (by omega)]; omega : _ = ((4 * k : Nat) : Int))) ?_
    refine DL.p rfl rfl rfl ?_
    refine DL.re (d := 22) rfl rfl (congrArg (Value.int .i64) (by rw [wrap_i64 (by omega) (by omega)]; omega : _ = ((4 * k + 1 : Nat) : Int))) ?_
    refine DL.qf rfl (.free rfl) rfl rfl (Yld.indexArr Tryz.underlying321 i5 rfl rfl (by omega)) ?_
    refine DL.q rfl (.free rfl) rfl rfl rfl (Yld.load p5 rfl (atM (hI1d.at1 hx1) id)) (Mod.drew _ _) ?_
    refine DL.qf rfl (.free rfl) rfl rfl (Yld.convI Tryz.underlying5 Tryz.underlying181 rfl) ?_
    refine DL.qf rfl (.free rfl) rfl rfl (Yld.shlI rfl rfl (by decide)) ?_
    iterate 3 refine DL.p rfl rfl rfl ?_
    refine DL.re (d := 29) rfl rfl (congrArg (Value.int .i64) (by rw [wrap_i64 (by omega) (by omega)]; omega : _ = ((4 * k : Nat) : Int))) ?_
    refine DL.p rfl rfl rfl ?_
    refine DL.re (d := 30) rfl rfl (congrArg (Value.int .i64) (by rw [wrap_i64 (by omega) (by omega)]; omega : _ = ((4 * k + 2 : Nat) : Int))) ?_
    refine DL.qf rfl (.free rfl) rfl rfl (Yld.indexArr Tryz.underlying321 i5 rfl rfl (by omega)) ?_
    refine DL.q rfl (.free rfl) rfl rfl rfl (Yld.load p5 rfl (atM (hI1d.at1 hx2) id)) (Mod.drew _ _) ?_
    refine DL.qf rfl (.free rfl) rfl rfl (Yld.convI Tryz.underlying5 Tryz.underlying181 rfl) ?_
    refine DL.qf rfl (.free rfl) rfl rfl (Yld.shlI rfl rfl (by decide)) ?_
    iterate 3 refine DL.p rfl rfl rfl ?_
    refine DL.re (d := 37) rfl rfl (congrArg (Value.int .i64) (by rw [wrap_i64 (by omega) (by omega)]; omega : _ = ((4 * k : Nat) : Int))) ?_
    refine DL.p rfl rfl rfl ?_
    refine DL.re (d := 38) rfl rfl (congrArg (Value.int .i64) (by rw [wrap_i64 (by omega) (by omega)]; omega : _ = ((4 * k + 3 : Nat) : Int))) ?_
    refine DL.qf rfl (.free rfl) rfl rfl (Yld.indexArr Tryz.underlying321 i5 rfl rfl (by omega)) ?_
    refine DL.q rfl (.free rfl) rfl rfl rfl (Yld.load p5 rfl (atM (hI1d.at1 hx3) id)) (Mod.drew _ _) ?_
    refine DL.qf rfl (.free rfl) rfl rfl (Yld.convI Tryz.underlying5 Tryz.underlying181 rfl) ?_
    refine DL.p rfl rfl rfl ?_
    refine DL.qf rfl (.free rfl) rfl rfl (Yld.indexArr Tryz.underlying384 i181 rfl rfl (by omega)) ?_
    refine DL.opT rfl (.free rfl) rfl rfl (Does.storeN i181 rfl rfl rfl rfl hB' (by have := hcs.1; omega)) ?_
    rintro _ w9 ⟨hb9, hm9, hs9⟩
    refine DL.done ?_
    refine RK.inBlock ?_
    refine RK.region ?_
    refine RL.p rfl rfl ?_
    refine RL.re (d := 44) rfl rfl (succ_i64 (by omega)) ?_
    refine RL.p rfl rfl ?_
    refine RL.done ?_
    exact RK.back (ih (k + 1) _ ⟨⟨_, hcs.st (i := k) (by omega), hb9⟩, (hg.trans hd).then hm9 (fun x hx e => by have e' : x = b3 := e; omega), by omega⟩ (by omega)) ⟨rfl, rfl, rfl, rfl, trivial⟩
  · obtain rfl : k = 16 := by omega
    refine RK.exit rfl ?_
    iterate 2 refine RK.seq ?_
    refine RK.region ?_
    refine RL.p rfl rfl ?_
    refine RL.done ?_
    refine RK.block ?_
    refine RK.loop (fun k : Nat => [(2, .pointer (some ⟨b2, 0, none⟩)), (3, .pointer (some ⟨b3, 0, none⟩)), (5, .int .i64 (k : Int))]) (fun k w' => (∃ cs, WW .u32 64 cs ∧ Blk w' b3 384 cs) ∧ Grow w2 w' ∧ 16 ≤ k ∧ k ≤ 64) (fun k => 64 - k) 16 ⟨rfl, rfl, rfl, trivial⟩ ⟨⟨cs, hcs, hB⟩, hg, by omega, by omega⟩ (fun k w' hI ih => ?_)
    obtain ⟨⟨cs, hcs, hB⟩, hg, hk1, hk⟩ := hI
    iterate 2 refine RK.seq ?_
    refine RK.region ?_
    iterate 2 refine RL.p rfl rfl ?_
    refine RL.done ?_
    first | refine RK.condD rfl (fun h46 => ?_) (fun h46 => ?_) | refine RK.condN rfl (fun h46 => ?_) (fun h46 => ?_) | refine RK.cond rfl (fun h46 => ?_) (fun h46 => ?_)
    · have hd := Mod.drew No w'
      have hBd := hB.mod hd (fun h => h)
      have hk64 : k < 64 := by omega
      obtain ⟨x15, hx15⟩ := hcs.2 (k - 15) (by omega)
      obtain ⟨x2, hx2⟩ := hcs.2 (k - 2) (by omega)
      obtain ⟨x16, hx16⟩ := hcs.2 (k - 16) (by omega)
      obtain ⟨x7, hx7⟩ := hcs.2 (k - 7) (by omega)
      refine RK.skip ?_
      refine RK.seq ?_
      refine RK.block ?_
      refine RK.seq ?_
      refine RK.drawM No [(0, false), (1, false), (2, false), (3, false), (4, false), (5, false), (6, false), (7, false), (8, false), (9, false)] [] mixed (by kernel_rfl) ?_
      iterate 2 refine DL.p rfl rfl rfl ?_
      refine DL.re (d := 50) rfl rfl (congrArg (Value.int .i64) (by rw [wrap_i64 (by omega) (by omega)]; omega : _ = ((k - 15 : Nat) : Int))) ?_
      refine DL.qf rfl (.free rfl) rfl rfl (Yld.indexArr Tryz.underlying384 i181 rfl rfl (by omega)) ?_
      refine DL.q rfl (.free rfl) rfl rfl rfl (Yld.load p181 rfl (atM (hBd.at1 hx15) id)) (Mod.drew _ _) ?_
      iterate 2 refine DL.p rfl rfl rfl ?_
      refine DL.re (d := 54) rfl rfl (congrArg (Value.int .i64) (by rw [wrap_i64 (by omega) (by omega)]; omega : _ = ((k - 2 : Nat) : Int))) ?_
      refine DL.qf rfl (.free rfl) rfl rfl (Yld.indexArr Tryz.underlying384 i181 rfl rfl (by omega)) ?_
      refine DL.q rfl (.free rfl) rfl rfl rfl (Yld.load p181 rfl (atM (hBd.at1 hx2) id)) (Mod.drew _ _) ?_
      iterate 2 refine DL.p rfl rfl rfl ?_
      refine DL.done ?_
      refine RK.seq ?_
      refine RK.region ?_
      refine RL.p rfl rfl ?_
      refine RL.op (.free rfl) rfl rfl (Does.call rfl e290 (rotl_ok _ _ _)) ?_
      rintro _ _ ⟨y1, rfl, rfl⟩
      refine RL.p rfl rfl ?_
      refine RL.op (.free rfl) rfl rfl (Does.call rfl e290 (rotl_ok _ _ _)) ?_
      rintro _ _ ⟨y2, rfl, rfl⟩
      iterate 2 refine RL.p rfl rfl ?_
      refine RL.q (.free rfl) rfl rfl (Yld.shrI rfl rfl (by decide)) ?_
      iterate 2 refine RL.p rfl rfl ?_
      refine RL.done ?_
      refine RK.seq ?_
      refine RK.region ?_
      refine RL.p rfl rfl ?_
      refine RL.op (.free rfl) rfl rfl (Does.call rfl e290 (rotl_ok _ _ _)) ?_
      rintro _ _ ⟨y3, rfl, rfl⟩
      refine RL.p rfl rfl ?_
      refine RL.op (.free rfl) rfl rfl (Does.call rfl e290 (rotl_ok _ _ _)) ?_
      rintro _ _ ⟨y4, rfl, rfl⟩
      have hd2 := Mod.drew No w'.drew
      have hBd2 := hBd.mod hd2 (fun h => h)
      iterate 2 refine RL.p rfl rfl ?_
      refine RL.q (.free rfl) rfl rfl (Yld.shrI rfl rfl (by decide)) ?_
      iterate 2 refine RL.p rfl rfl ?_
      refine RL.done ?_
      refine RK.drawM (fun _ => False) [(0, false), (1, false), (2, false), (3, false), (4, false), (5, false), (6, false), (7, false), (8, false), (9, false), (10, false), (11, false), (12, false), (13, false), (14, false), (15, true)] [15] mixed (by kernel_rfl) ?_
      iterate 3 refine DL.p rfl rfl rfl ?_
      refine DL.re (d := 75) rfl rfl (congrArg (Value.int .i64) (by rw [wrap_i64 (by omega) (by omega)]; omega : _ = ((k - 16 : Nat) : Int))) ?_
      refine DL.qf rfl (.free rfl) rfl rfl (Yld.indexArr Tryz.underlying384 i181 rfl rfl (by omega)) ?_
      refine DL.q rfl (.free rfl) rfl rfl rfl (Yld.load p181 rfl (atM (hBd2.at1 hx16) id)) (Mod.drew _ _) ?_
      iterate 4 refine DL.p rfl rfl rfl ?_
      refine DL.re (d := 81) rfl rfl (congrArg (Value.int .i64) (by rw [wrap_i64 (by omega) (by omega)]; omega : _ = ((k - 7 : Nat) : Int))) ?_
      refine DL.qf rfl (.free rfl) rfl rfl (Yld.indexArr Tryz.underlying384 i181 rfl rfl (by omega)) ?_
      refine DL.q rfl (.free rfl) rfl rfl rfl (Yld.load p181 rfl (atM (hBd2.at1 hx7) id)) (Mod.drew _ _) ?_
      iterate 3 refine DL.p rfl rfl rfl ?_
      refine DL.qf rfl (.free rfl) rfl rfl (Yld.indexArr Tryz.underlying384 i181 rfl rfl (by omega)) ?_
      refine DL.opT rfl (.free rfl) rfl rfl (Does.storeN i181 rfl rfl rfl rfl hBd2 (by have := hcs.1; omega)) ?_
      rintro _ w9 ⟨hb9, hm9, hs9⟩
      refine DL.done ?_
      refine RK.inBlock ?_
      refine RK.region ?_
      iterate 2 refine RL.p rfl rfl ?_
      refine RL.re (d := 48) rfl rfl (succ_i64 (by omega)) ?_
      refine RL.p rfl rfl ?_
      refine RL.done ?_
      exact RK.back (ih (k + 1) _ ⟨⟨_, hcs.st (i := k) (by omega), hb9⟩, ((hg.trans hd).trans hd2).then hm9 (fun x hx e => by have e' : x = b3 := e; omega), by omega, by omega⟩ (by omega)) ⟨rfl, rfl, rfl, trivial⟩
    · refine RK.exit rfl ?_
      refine RK.seq ?_
      refine RK.region ?_
      refine RL.q (.free rfl) rfl rfl (Yld.loadN (cs := cs) (by rw [hcs.1]; exact a384) rfl (atN (fun j u hj => by rw [Nat.zero_add]; exact hB.cell' hj))) ?_
      refine RL.op' (.free rfl) rfl (Does.storeN i384 rfl rfl (show (Value.agg cs.toArray).cells.size = 64 from by simpa [Value.cells] using hcs.1) (by simpa [Value.cells] using hcs.one) (hn2.blk.mod hg (fun h => h)) (Nat.le_refl 64)) ?_
      rintro _ w9 ⟨hb9, hm9, hs9⟩
      have hB9 : Blk w9 b2 384 (cs ++ []) := hb9
      rw [List.append_nil] at hB9
      refine RL.done ?_
      refine RK.ret_of Tryz.func289 (resC (cs := cs) rfl rfl (by rw [hcs.1]; exact a384) hB9) ?_ _
      exact ⟨_, rfl, cs, hcs, rfl, ((hn1.grow.trans hn2.grow).trans hg).then hm9 (fun x hx e => by have e' : x = b2 := e; have := hn1.size; omega)⟩
end Go.Proofs.YtcndimkkojdflaaGreatDoor
set_option linter.unusedVariables false
set_option linter.unusedSimpArgs false
set_option maxHeartbeats 6400000
set_option maxRecDepth 100000
namespace Go.Proofs.YtcndimkkojdflaaGreatDoor
open Go Go.X
theorem Yld.compl32 {P : Program} {n : Nat} {e : Env} {C : World → Prop} {d : Option Tmp} {t : Nat} {x : Operand} {ty : TypeId} {pos : String} {af : Array Edge} {g : Option (Nat × Bool)} {a : Int} (hx : ev e x = some (.int .u32 a)) :
    Yld P n C e ⟨d, .unOp .xor t x, ty, pos, af, g⟩ (.int .u32 (IntKind.u32.wrap ((BitVec.ofInt IntKind.u32.bits IntKind.u32.max ^^^ BitVec.ofInt IntKind.u32.bits a).toNat : Int))) := by
  intro ac ha w _
  simp only [execOp, ha.ev hx, Op.unary, Op.intBits, Sem.run_bind, Sem.run_pure, Result.andThen_ok]
  have hm : (if IntKind.u32.signed = true then (-1 : Int) else IntKind.u32.max) = IntKind.u32.max := by decide
  rw [hm]
def KeysAt (w : World) : Prop := ∀ i, i < 64 → ∃ x : Int, w.cell? ⟨8, 0 + i * 1, none⟩ = some (.int .u32 x)
theorem KeysAt.pos {w : World} (h : KeysAt w) : 8 < w.heap.size := by
  obtain ⟨x, hx⟩ := h 0 (by decide)
  exact World.block_lt_of_cell? w _ hx
theorem KeysAt.mod {M : Nat → Prop} {w w' : World} (h : KeysAt w) (hm : Mod M w w') (h0 : ¬ M 8) : KeysAt w' := fun i hi => by
  obtain ⟨x, hx⟩ := h i hi
  exact ⟨x, hm.cell hx h0⟩
theorem KeysAt.grow {w w' : World} (h : KeysAt w) (hm : Grow w w') : KeysAt w' := h.mod hm (fun h => h)
theorem WW8 (a b c d e f g h : Int) : WW .u32 8 [.int .u32 a, .int .u32 b, .int .u32 c, .int .u32 d, .int .u32 e, .int .u32 f, .int .u32 g, .int .u32 h] := ⟨rfl, fun i hi => by
  match i, hi with
  | 0, _ => exact ⟨_, rfl⟩
  | 1, _ => exact ⟨_, rfl⟩
  | 2, _ => exact ⟨_, rfl⟩
  | 3, _ => exact ⟨_, rfl⟩
  | 4, _ => exact ⟨_, rfl⟩
  | 5, _ => exact ⟨_, rfl⟩
  | 6, _ => exact ⟨_, rfl⟩
  | 7, _ => exact ⟨_, rfl⟩
  | i + 8, hi => omega⟩
theorem build8 (a b c d e f g h : Int) (w : World) : (Instr.build 319 #[(0, .int .u32 a), (1, .int .u32 b), (2, .int .u32 c), (3, .int .u32 d), (4, .int .u32 e), (5, .int .u32 f), (6, .int .u32 g), (7, .int .u32 h)]).run Tryz.prog w = .ok (.agg #[.int .u32 a, .int .u32 b, .int .u32 c, .int .u32 d, .int .u32 e, .int .u32 f, .int .u32 g, .int .u32 h]) w := by kernel_rfl
theorem round_ok (hs bs : List Value) (hh : WW .u32 8 hs) (hb : WW .u8 64 bs) (w : World) (hK : KeysAt w) : Fx Tryz.prog 225 [.agg hs.toArray, .agg bs.toArray] w (fun u w' => ∃ cs, WW .u32 8 cs ∧ u = .agg cs.toArray ∧ Grow w w') := by
  have h0 := hK.pos
  refine enter Tryz.func225 rfl rfl rfl _ (Pick.sub (l := [0, 1]) (.cons rfl (.cons rfl .nil))) ?_
  refine RK.seq ?_
  refine RK.region ?_
  refine RL.op (.free rfl) rfl rfl (Does.box rfl) ?_
  rintro _ w1 ⟨b2, rfl, hn2⟩
  have hB2 : Blk w1 b2 319 hs := hn2.blk
  refine RL.op (.free rfl) rfl rfl (Does.box rfl) ?_
  rintro _ w2 ⟨b3, rfl, hn3⟩
  have hB3 : Blk w2 b3 321 bs := hn3.blk
  refine RL.op (.free rfl) rfl rfl (Does.alloc i319) ?_
  rintro _ w3 ⟨b4, rfl, hn4⟩
  have hz2 := hn2.size
  have hz3 := hn3.size
  have hz4 := hn4.size
  have ha2 := hn2.at_
  have ha3 := hn3.at_
  have ha4 := hn4.at_
  have hg03 := (hn2.grow.trans hn3.grow).trans hn4.grow
  refine RL.done ?_
  refine RK.seq ?_
  refine RK.region ?_
  refine RL.q (.free rfl) rfl rfl (Yld.loadN (cs := bs) (by rw [hb.1]; exact a321) rfl (atN (fun j u hj => by rw [Nat.zero_add]; exact (hB3.mod hn4.grow (fun h => h)).cell' hj))) ?_
  refine RL.op (.free rfl) rfl rfl (Does.call rfl e289 (spread_ok bs hb _)) ?_
  rintro _ w4 ⟨ws, hws, rfl, hg4⟩
  refine RL.op (.free rfl) rfl rfl (Does.alloc i384) ?_
  rintro _ w5 ⟨b5, rfl, hn5⟩
  have ha5 := hn5.at_
  refine RL.op' (.free rfl) rfl (Does.storeN i384 rfl rfl (show (Value.agg ws.toArray).cells.size = 64 from by simpa [Value.cells] using hws.1) (by simpa [Value.cells] using hws.one) hn5.blk (Nat.le_refl 64)) ?_
  rintro _ w6 ⟨hb6, hm6, hs6⟩
  have hB5 : Blk w6 b5 384 (ws ++ []) := hb6
  rw [List.append_nil] at hB5
  have hg36 : Grow w3 w6 := (hg4.trans hn5.grow).then hm6 (fun x hx e => by have e' : x = b5 := e; have := hg4.size; omega)
  have hB2' := (hB2.mod (hn3.grow.trans hn4.grow) (fun h => h)).mod hg36 (fun h => h)
  refine RL.done ?_
  refine RK.seq ?_
  refine RK.region ?_
  refine RL.q (.free rfl) rfl rfl (Yld.loadN (cs := hs) (by rw [hh.1]; exact a319) rfl (atN (fun j u hj => by rw [Nat.zero_add]; exact hB2'.cell' hj))) ?_
  refine RL.op (.free rfl) rfl rfl (Does.alloc i319) ?_
  rintro _ w7 ⟨b6, rfl, hn6⟩
  have ha6 := hn6.at_
  refine RL.op' (.free rfl) rfl (Does.storeN i319 rfl rfl (show (Value.agg hs.toArray).cells.size = 8 from by simpa [Value.cells] using hh.1) (by simpa [Value.cells] using hh.one) hn6.blk (Nat.le_refl 8)) ?_
  rintro _ w8 ⟨hb8, hm8, hs8⟩
  have hB6 : Blk w8 b6 319 (hs ++ []) := hb8
  rw [List.append_nil] at hB6
  have hz36 := hg36.size
  have hg38 : Grow w3 w8 := (hg36.trans hn6.grow).then hm8 (fun x hx e => by have e' : x = b6 := e; omega)
  have hg68 : Grow w6 w8 := hn6.grow.then hm8 (fun x hx e => by have e' : x = b6 := e; omega)
  have hB5' := hB5.mod hg68 (fun h => h)
  have hB2'' := hB2'.mod hg68 (fun h => h)
  have hK8 := hK.grow (hg03.trans hg38)
  have hl5 := hB5.lt
  refine RL.done ?_
  iterate 2 refine RK.seq ?_
  refine RK.region ?_
  refine RL.p rfl rfl ?_
  refine RL.done ?_
  refine RK.block ?_
  refine RK.loop (fun k : Nat => [(2, .pointer (some ⟨b2, 0, none⟩)), (4, .pointer (some ⟨b4, 0, none⟩)), (5, .pointer (some ⟨b5, 0, none⟩)), (6, .pointer (some ⟨b6, 0, none⟩)), (21, .int .i64 (k : Int))]) (fun k w' => (∃ cs, WW .u32 8 cs ∧ Blk w' b6 319 cs) ∧ Mod (· = b6) w8 w' ∧ k ≤ 64) (fun k => 64 - k) 0 ⟨rfl, rfl, rfl, rfl, rfl, trivial⟩ ⟨⟨_, hh, hB6⟩, Mod.refl _ _, Nat.zero_le _⟩ (fun k w' hI ih => ?_)
  obtain ⟨⟨cs, hcs, hB⟩, hm, hk⟩ := hI
  refine RK.seq ?_
  refine RK.region ?_
  refine RL.p rfl rfl ?_
  refine RL.done ?_
  refine RK.seq ?_
  first | refine RK.condD rfl (fun h22 => ?_) (fun h22 => ?_) | refine RK.condN rfl (fun h22 => ?_) (fun h22 => ?_) | refine RK.cond rfl (fun h22 => ?_) (fun h22 => ?_)
  · have hk64 : k < 64 := by omega
    obtain ⟨x0, hx0⟩ := hcs.2 0 (by decide)
    obtain ⟨x1, hx1⟩ := hcs.2 1 (by decide)
    obtain ⟨x2, hx2⟩ := hcs.2 2 (by decide)
    obtain ⟨x3, hx3⟩ := hcs.2 3 (by decide)
    obtain ⟨x4, hx4⟩ := hcs.2 4 (by decide)
    obtain ⟨x5, hx5⟩ := hcs.2 5 (by decide)
    obtain ⟨x6, hx6⟩ := hcs.2 6 (by decide)
    obtain ⟨x7, hx7⟩ := hcs.2 7 (by decide)
    obtain ⟨xw, hxw⟩ := hws.2 k hk64
    obtain ⟨xk, hxk⟩ := (hK8.mod hm (fun e => by have e' : 8 = b6 := e; have := hg03.size; omega)) k hk64
    have hd := Mod.drew No w'
    have hBd := hB.mod hd (fun h => h)
    have hd2 := Mod.drew No w'.drew
    have hBd2 := hBd.mod hd2 (fun h => h)
    have hW : Blk w' b5 384 ws := hB5'.mod hm (fun e => by have e' : b5 = b6 := e; omega)
    have hWd2 := (hW.mod hd (fun h => h)).mod hd2 (fun h => h)
    refine RK.skip ?_
    refine RK.seq ?_
    refine RK.block ?_
    refine RK.seq ?_
    refine RK.region ?_
    iterate 2 refine RL.p rfl rfl ?_
    refine RL.done ?_
    refine RK.seq ?_
    refine RK.drawM No [(0, false), (1, false), (2, false), (3, false), (4, false), (5, false), (6, false), (7, false), (8, false), (9, false), (10, false), (11, false), (12, false), (13, false), (14, false), (15, false), (16, false), (17, false)] [] mixed (by kernel_rfl) ?_
    refine DL.qf rfl (.free rfl) rfl rfl (Yld.indexArr Tryz.underlying319 i181 rfl rfl ((by decide : 0 < 8))) ?_
    refine DL.q rfl (.free rfl) rfl rfl rfl (Yld.load p181 rfl (atM (hBd.at1 hx0) id)) (Mod.drew _ _) ?_
    refine DL.qf rfl (.free rfl) rfl rfl (Yld.indexArr Tryz.underlying319 i181 rfl rfl ((by decide : 1 < 8))) ?_
    refine DL.q rfl (.free rfl) rfl rfl rfl (Yld.load p181 rfl (atM (hBd.at1 hx1) id)) (Mod.drew _ _) ?_
    refine DL.qf rfl (.free rfl) rfl rfl (Yld.indexArr Tryz.underlying319 i181 rfl rfl ((by decide : 2 < 8))) ?_
    refine DL.q rfl (.free rfl) rfl rfl rfl (Yld.load p181 rfl (atM (hBd.at1 hx2) id)) (Mod.drew _ _) ?_
    refine DL.qf rfl (.free rfl) rfl rfl (Yld.indexArr Tryz.underlying319 i181 rfl rfl ((by decide : 4 < 8))) ?_
    refine DL.q rfl (.free rfl) rfl rfl rfl (Yld.load p181 rfl (atM (hBd.at1 hx4) id)) (Mod.drew _ _) ?_
    refine DL.qf rfl (.free rfl) rfl rfl (Yld.indexArr Tryz.underlying319 i181 rfl rfl ((by decide : 5 < 8))) ?_
    refine DL.q rfl (.free rfl) rfl rfl rfl (Yld.load p181 rfl (atM (hBd.at1 hx5) id)) (Mod.drew _ _) ?_
    refine DL.qf rfl (.free rfl) rfl rfl (Yld.indexArr Tryz.underlying319 i181 rfl rfl ((by decide : 6 < 8))) ?_
    refine DL.q rfl (.free rfl) rfl rfl rfl (Yld.load p181 rfl (atM (hBd.at1 hx6) id)) (Mod.drew _ _) ?_
    iterate 6 refine DL.p rfl rfl rfl ?_
    refine DL.done ?_
    refine RK.seq ?_
    refine RK.region ?_
    refine RL.p rfl rfl ?_
    refine RL.op (.free rfl) rfl rfl (Does.call rfl e290 (rotl_ok _ _ _)) ?_
    rintro _ _ ⟨y1, rfl, rfl⟩
    refine RL.p rfl rfl ?_
    refine RL.op (.free rfl) rfl rfl (Does.call rfl e290 (rotl_ok _ _ _)) ?_
    rintro _ _ ⟨y2, rfl, rfl⟩
    iterate 2 refine RL.p rfl rfl ?_
    refine RL.op (.free rfl) rfl rfl (Does.call rfl e290 (rotl_ok _ _ _)) ?_
    rintro _ _ ⟨y3, rfl, rfl⟩
    iterate 2 refine RL.p rfl rfl ?_
    refine RL.done ?_
    refine RK.seq ?_
    refine RK.drawM No [(0, false), (1, false), (2, false), (3, false), (4, false), (5, false), (6, false), (7, false), (8, false), (9, false), (10, false), (11, false), (12, false), (13, false), (14, false), (15, false), (16, false), (17, false), (18, false), (19, false), (20, false), (21, false)] [] mixed (by kernel_rfl) ?_
    refine DL.qf rfl (.free rfl) rfl rfl (Yld.indexArr Tryz.underlying319 i181 rfl rfl ((by decide : 7 < 8))) ?_
    refine DL.q rfl (.free rfl) rfl rfl rfl (Yld.load p181 rfl (atM (hBd2.at1 hx7) id)) (Mod.drew _ _) ?_
    iterate 6 refine DL.p rfl rfl rfl ?_
    refine DL.qf rfl (.free rfl) rfl rfl (Yld.compl32 rfl) ?_
    iterate 5 refine DL.p rfl rfl rfl ?_
    refine DL.qf rfl (.free rfl) rfl rfl (Yld.indexArr Tryz.underlying384 i181 rfl rfl (hk64)) ?_
    refine DL.q rfl (.free rfl) rfl rfl rfl (Yld.load p181 rfl (atM (hd2.cell (hd.cell hxk (fun h => h)) (fun h => h)) id)) (Mod.drew _ _) ?_
    iterate 2 refine DL.p rfl rfl rfl ?_
    refine DL.qf rfl (.free rfl) rfl rfl (Yld.indexArr Tryz.underlying384 i181 rfl rfl (hk64)) ?_
    refine DL.q rfl (.free rfl) rfl rfl rfl (Yld.load p181 rfl (atM (hWd2.at1 hxw) id)) (Mod.drew _ _) ?_
    iterate 2 refine DL.p rfl rfl rfl ?_
    refine DL.done ?_
    refine RK.seq ?_
    refine RK.region ?_
    refine RL.p rfl rfl ?_
    refine RL.op (.free rfl) rfl rfl (Does.call rfl e290 (rotl_ok _ _ _)) ?_
    rintro _ _ ⟨y4, rfl, rfl⟩
    refine RL.p rfl rfl ?_
    refine RL.op (.free rfl) rfl rfl (Does.call rfl e290 (rotl_ok _ _ _)) ?_
    rintro _ _ ⟨y5, rfl, rfl⟩
    iterate 2 refine RL.p rfl rfl ?_
    refine RL.op (.free rfl) rfl rfl (Does.call rfl e290 (rotl_ok _ _ _)) ?_
    rintro _ _ ⟨y6, rfl, rfl⟩
    iterate 2 refine RL.p rfl rfl ?_
    refine RL.done ?_
    refine RK.seq ?_
    refine RK.region ?_
    iterate 14 refine RL.p rfl rfl ?_
    refine RL.done ?_
    refine RK.region ?_
    iterate 6 refine RL.p rfl rfl ?_
    refine RL.q (.free rfl) rfl rfl (Yld.indexArr Tryz.underlying319 i181 rfl rfl ((by decide : 3 < 8))) ?_
    refine RL.q (.free rfl) rfl rfl (Yld.load p181 rfl (at1 (hBd2.at1 hx3))) ?_
    iterate 5 refine RL.p rfl rfl ?_
    refine RL.q (.free rfl) rfl rfl (Yld.build rfl (build8 _ _ _ _ _ _ _ _)) ?_
    refine RL.op' (.free rfl) rfl (Does.storeN i319 rfl rfl rfl rfl hBd2 (by have := hcs.1; omega)) ?_
    rintro _ w9 ⟨hb9, hm9, hs9⟩
    refine RL.done ?_
    refine RK.inBlock ?_
    refine RK.region ?_
    refine RL.p rfl rfl ?_
    refine RL.re (d := 100) rfl rfl (succ_i64 (by omega)) ?_
    refine RL.p rfl rfl ?_
    refine RL.done ?_
    exact RK.back (ih (k + 1) _ ⟨⟨_, WW8 _ _ _ _ _ _ _ _, by have e : cs.drop (0 + 8) = [] := List.drop_of_length_le (by have := hcs.1; omega); rw [e] at hb9; exact hb9⟩, ((hm.trans (Mod.any' hd)).trans (Mod.any' hd2)).trans hm9, by omega⟩ (by omega)) ⟨rfl, rfl, rfl, rfl, rfl, trivial⟩
  · refine RK.exit rfl ?_
    iterate 2 refine RK.seq ?_
    refine RK.region ?_
    refine RL.p rfl rfl ?_
    refine RL.done ?_
    refine RK.block ?_
    refine RK.loop (fun k : Nat => [(2, .pointer (some ⟨b2, 0, none⟩)), (4, .pointer (some ⟨b4, 0, none⟩)), (6, .pointer (some ⟨b6, 0, none⟩)), (101, .int .i64 (k : Int))]) (fun k w' => (∃ cs, WW .u32 8 cs ∧ Blk w' b6 319 cs) ∧ Mod (· = b6) w8 w' ∧ k ≤ 8) (fun k => 8 - k) 0 ⟨rfl, rfl, rfl, rfl, trivial⟩ ⟨⟨_, hcs, hB⟩, hm, Nat.zero_le _⟩ (fun k w' hI ih => ?_)
    obtain ⟨⟨cs, hcs, hB⟩, hm, hk⟩ := hI
    refine RK.seq ?_
    refine RK.region ?_
    refine RL.p rfl rfl ?_
    refine RL.done ?_
    refine RK.seq ?_
    first | refine RK.condD rfl (fun h102 => ?_) (fun h102 => ?_) | refine RK.condN rfl (fun h102 => ?_) (fun h102 => ?_) | refine RK.cond rfl (fun h102 => ?_) (fun h102 => ?_)
    · have hk8 : k < 8 := by omega
      obtain ⟨xs, hxs⟩ := hcs.2 k hk8
      obtain ⟨xh, hxh⟩ := hh.2 k hk8
      have hd := Mod.drew No w'
      have hBd := hB.mod hd (fun h => h)
      have hH : Blk w' b2 319 hs := hB2''.mod hm (fun e => by have e' : b2 = b6 := e; omega)
      have hHd := hH.mod hd (fun h => h)
      refine RK.skip ?_
      refine RK.seq ?_
      refine RK.block ?_
      refine RK.seq ?_
      refine RK.region ?_
      iterate 2 refine RL.p rfl rfl ?_
      refine RL.done ?_
      refine RK.drawM (fun _ => False) [(0, false), (1, false), (2, false), (3, false), (4, false), (5, false), (6, false), (7, false), (8, true)] [8] mixed (by kernel_rfl) ?_
      refine DL.p rfl rfl rfl ?_
      refine DL.qf rfl (.free rfl) rfl rfl (Yld.indexArr Tryz.underlying319 i181 rfl rfl (hk8)) ?_
      refine DL.q rfl (.free rfl) rfl rfl rfl (Yld.load p181 rfl (atM (hBd.at1 hxs) id)) (Mod.drew _ _) ?_
      refine DL.p rfl rfl rfl ?_
      refine DL.qf rfl (.free rfl) rfl rfl (Yld.indexArr Tryz.underlying319 i181 rfl rfl (hk8)) ?_
      refine DL.q rfl (.free rfl) rfl rfl rfl (Yld.load p181 rfl (atM (hHd.at1 hxh) id)) (Mod.drew _ _) ?_
      refine DL.p rfl rfl rfl ?_
      refine DL.qf rfl (.free rfl) rfl rfl (Yld.indexArr Tryz.underlying319 i181 rfl rfl (hk8)) ?_
      refine DL.opT rfl (.free rfl) rfl rfl (Does.storeN i181 rfl rfl rfl rfl hBd (by have := hcs.1; omega)) ?_
      rintro _ w9 ⟨hb9, hm9, hs9⟩
      refine DL.done ?_
      refine RK.inBlock ?_
      refine RK.region ?_
      refine RL.p rfl rfl ?_
      refine RL.re (d := 112) rfl rfl (succ_i64 (by omega)) ?_
      refine RL.p rfl rfl ?_
      refine RL.done ?_
      exact RK.back (ih (k + 1) _ ⟨⟨_, hcs.st (i := k) hk8, hb9⟩, (hm.trans (Mod.any' hd)).trans hm9, by omega⟩ (by omega)) ⟨rfl, rfl, rfl, rfl, trivial⟩
    · refine RK.exit rfl ?_
      refine RK.seq ?_
      refine RK.region ?_
      refine RL.q (.free rfl) rfl rfl (Yld.loadN (cs := cs) (by rw [hcs.1]; exact a319) rfl (atN (fun j u hj => by rw [Nat.zero_add]; exact hB.cell' hj))) ?_
      refine RL.op' (.free rfl) rfl (Does.storeN i319 rfl rfl (show (Value.agg cs.toArray).cells.size = 8 from by simpa [Value.cells] using hcs.1) (by simpa [Value.cells] using hcs.one) ((hn4.blk.mod hg38 (fun h => h)).mod hm (fun e => by have e' : b4 = b6 := e; omega)) (Nat.le_refl 8)) ?_
      rintro _ w9 ⟨hb9, hm9, hs9⟩
      have hB9 : Blk w9 b4 319 (cs ++ []) := hb9
      rw [List.append_nil] at hB9
      refine RL.done ?_
      refine RK.ret_of Tryz.func225 (resC (cs := cs) rfl rfl (by rw [hcs.1]; exact a319) hB9) ?_ _
      exact ⟨_, rfl, cs, hcs, rfl, ((hg03.trans hg38).then hm (fun x hx e => by have e' : x = b6 := e; omega)).then hm9 (fun x hx e => by have e' : x = b4 := e; omega)⟩
end Go.Proofs.YtcndimkkojdflaaGreatDoor
set_option linter.unusedVariables false
namespace Go.X
open Go Go.RowKit Go.WideShapes Go.ChangeShapes
section
variable {H : Type} {enc : TypeId × Value → H} {P : Program} {W : World} {base : Nat} {sp : Nat → Bool} {held : Bool}
theorem trod_int {s m : Nat} {k : IntKind} {cs : List Value} {y : DataW H × List MemPlace} (hs : P.underlying s = some (.int k)) (h : DataW.trod enc P W base sp held m s cs = some y) : ∃ b : Int, cs = [.int k b] ∧ (Lit.int k b).wf = true := by
  cases m with
  | zero => simp [DataW.trod] at h
  | succ n =>
    unfold DataW.trod at h
    rw [hs] at h
    split at h <;> simp_all
end
end Go.X
namespace Go.Proofs.YtcndimkkojdflaaGreatDoor
open Go Go.X Go.ChangeShapes Go.WideShapes Go.ChangeAt Go.RowKit
theorem gKeys : Tryz.prog.globalNamed "sordine/sha.keys" = some 8 := by kernel_rfl
theorem tKeys : (Tryz.prog.globals[8]?).map (·.type) = some 384 := by kernel_rfl
theorem cKeys : Tryz.prog.cellsOf 181 = 1 := by kernel_rfl
def laid8 : List (String × DataW Unit) := [("math/bits.deBruijn32tab", Rows.laid_math_bits_deBruijn32tab), ("math/bits.deBruijn64tab", Rows.laid_math_bits_deBruijn64tab), ("internal/strconv.uint64pow10", Rows.laid_internal_strconv_uint64pow10), ("sordine/sha.keys", Rows.laid_sordine_sha_keys), ("unicode/utf8.acceptRanges", Rows.laid_unicode_utf8_acceptRanges), ("strconv.ErrRange", Rows.laid_strconv_ErrRange), ("strconv.ErrSyntax", Rows.laid_strconv_ErrSyntax), ("unicode/utf8.first", Rows.laid_unicode_utf8_first)]
theorem keysLaid {W : World} (h : laidMetH Tryz.prog laid8 W) : KeysAt W := by
  rw [MakeChecks.laidMetH_plain _ _ _ (by kernel_rfl)] at h
  obtain ⟨ps, ⟨_, _, _, _, _, _, _, _, _, _, ⟨_, _, _, _, _, _, _, _, _, _, ⟨_, _, _, _, _, _, _, _, _, _, ⟨g0, t0, cs0, f0, p0, q0, hg0, ht0, hv0, hd0, _, _⟩, _⟩, _⟩, _⟩, _, _⟩ := h
  obtain rfl := Option.some.inj (gKeys.symm.trans hg0)
  obtain rfl := Option.some.inj (tKeys.symm.trans ht0)
  obtain ⟨xs, m, _, _, _, hx, hi⟩ := DataW.trod_array Tryz.underlying384 hd0
  intro i hlt
  obtain ⟨y, hy⟩ : ∃ y, xs[i]? = some y := ⟨xs[i]'(by omega), List.getElem?_eq_getElem (by omega)⟩
  have h1 := hi i hlt
  rw [hy, cKeys, Nat.mul_one] at h1
  obtain ⟨b, hb, _⟩ := trod_int Tryz.underlying181 h1
  have h2 : cs0.toList[i]? = some (.int .u32 b) := by
    have := congrArg (fun l => l[0]?) hb
    simpa [List.getElem?_take, List.getElem?_drop] using this
  refine ⟨b, ?_⟩
  have h3 := World.var?_cell hg0 hv0 i
  rw [Nat.zero_add, Nat.mul_one, h3]
  simpa using h2
end Go.Proofs.YtcndimkkojdflaaGreatDoor
