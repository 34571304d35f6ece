/- What the claim stands on, part 2. Of own lemmas only those that it reaches. -/
import Derived.Test.YthbjfhhiajihfaaGreatKf1
namespace Go.Proofs.YthbjfhhiajihfaaGreat
open Go Go.X
theorem mixed : Tryz.prog.follows .mixedOrders = true := by kernel_rfl
theorem i3 : TI Tryz.prog 3 (.int .i64 0) 1 8 := TI.mk' (by kernel_rfl)
theorem p3 : Plain Tryz.prog 3 := Plain.of Tryz.underlying3 rfl
theorem u4 : Tryz.prog.underlying 4 = some .bool := Tryz.underlying4
theorem i4 : TI Tryz.prog 4 (.bool false) 1 1 := TI.mk' (by kernel_rfl)
theorem p4 : Plain Tryz.prog 4 := Plain.of Tryz.underlying4 rfl
theorem p5 : Plain Tryz.prog 5 := Plain.of Tryz.underlying5 rfl
theorem u9 : Tryz.prog.underlying 9 = some .string := Tryz.underlying9
theorem i9 : TI Tryz.prog 9 (.string ByteArray.empty) 1 16 := TI.mk' (by kernel_rfl)
theorem p9 : Plain Tryz.prog 9 := Plain.of Tryz.underlying9 rfl
theorem u10 : Tryz.prog.underlying 10 = some .string := Tryz.underlying10
theorem u11 : Tryz.prog.underlying 11 = some .string := Tryz.underlying11
theorem u24 : SlT Tryz.prog 24 135 := Tryz.underlying24
theorem p24 : Plain Tryz.prog 24 := Plain.of Tryz.underlying24 rfl
theorem i25 : TI Tryz.prog 25 (.float .f64 0) 1 8 := TI.mk' (by kernel_rfl)
theorem p25 : Plain Tryz.prog 25 := Plain.of Tryz.underlying25 rfl
theorem i27 : TI Tryz.prog 27 (.agg #[.bool false, .float .f64 0, .float .f64 0]) 3 24 := TI.mk' (by kernel_rfl)
theorem a27 : Agg Tryz.prog 27 3 := Agg.of (d := (Tryz.prog.underlying 27).getD .bool) (by kernel_rfl) (by kernel_rfl) i27
theorem u33 : SlT Tryz.prog 33 79 := Tryz.underlying33
theorem i33 : TI Tryz.prog 33 (.slice none 0 0) 1 24 := TI.mk' (by kernel_rfl)
theorem p33 : Plain Tryz.prog 33 := Plain.of Tryz.underlying33 rfl
theorem i35 : TI Tryz.prog 35 (.agg #[.int .i64 0, .slice none 0 0, .float .f64 0]) 3 40 := TI.mk' (by kernel_rfl)
theorem a35 : Agg Tryz.prog 35 3 := Agg.of (d := (Tryz.prog.underlying 35).getD .bool) (by kernel_rfl) (by kernel_rfl) i35
theorem u37 : SlT Tryz.prog 37 3 := Tryz.underlying37
theorem i37 : TI Tryz.prog 37 (.slice none 0 0) 1 24 := TI.mk' (by kernel_rfl)
theorem p37 : Plain Tryz.prog 37 := Plain.of Tryz.underlying37 rfl
theorem u42 : SlT Tryz.prog 42 196 := Tryz.underlying42
theorem i46 : TI Tryz.prog 46 (.agg #[.slice none 0 0, .slice none 0 0, .int .i64 0, .float .f64 0, .float .f64 0, .slice none 0 0]) 6 96 := TI.mk' (by kernel_rfl)
theorem a46 : Agg Tryz.prog 46 6 := Agg.of (d := (Tryz.prog.underlying 46).getD .bool) (by kernel_rfl) (by kernel_rfl) i46
theorem u49 : SlT Tryz.prog 49 35 := Tryz.underlying49
theorem i49 : TI Tryz.prog 49 (.slice none 0 0) 1 24 := TI.mk' (by kernel_rfl)
theorem p49 : Plain Tryz.prog 49 := Plain.of Tryz.underlying49 rfl
theorem i64 : TI Tryz.prog 64 (.pointer none) 1 8 := TI.mk' (by kernel_rfl)
theorem i66 : TI Tryz.prog 66 (.int .u64 0) 1 8 := TI.mk' (by kernel_rfl)
theorem p66 : Plain Tryz.prog 66 := Plain.of Tryz.underlying66 rfl
theorem i79 : TI Tryz.prog 79 (.agg #[.string ByteArray.empty, .string ByteArray.empty]) 2 32 := TI.mk' (by kernel_rfl)
theorem a79 : Agg Tryz.prog 79 2 := Agg.of (d := (Tryz.prog.underlying 79).getD .bool) (by kernel_rfl) (by kernel_rfl) i79
theorem u117 : SlT Tryz.prog 117 124 := Tryz.underlying117
theorem i124 : TI Tryz.prog 124 (.agg #[.int .u8 0, .int .i64 0, .slice none 0 0, .float .f64 0]) 4 48 := TI.mk' (by kernel_rfl)
theorem a124 : Agg Tryz.prog 124 4 := Agg.of (d := (Tryz.prog.underlying 124).getD .bool) (by kernel_rfl) (by kernel_rfl) i124
theorem i135 : TI Tryz.prog 135 (.agg #[.int .i64 0, .string ByteArray.empty, .string ByteArray.empty]) 3 40 := TI.mk' (by kernel_rfl)
theorem a135 : Agg Tryz.prog 135 3 := Agg.of (d := (Tryz.prog.underlying 135).getD .bool) (by kernel_rfl) (by kernel_rfl) i135
theorem p156 : Plain Tryz.prog 156 := Plain.of Tryz.underlying156 rfl
theorem p172 : Plain Tryz.prog 172 := Plain.of Tryz.underlying172 rfl
theorem p187 : Plain Tryz.prog 187 := Plain.of Tryz.underlying187 rfl
theorem i196 : TI Tryz.prog 196 (.agg #[.int .i64 0, .int .i64 0, .int .i64 0]) 3 24 := TI.mk' (by kernel_rfl)
theorem a196 : Agg Tryz.prog 196 3 := Agg.of (d := (Tryz.prog.underlying 196).getD .bool) (by kernel_rfl) (by kernel_rfl) i196
theorem i221 : TI Tryz.prog 221 (.agg #[.int .u64 0, .int .u64 0, .int .u64 0, .int .u64 0]) 4 32 := TI.mk' (by kernel_rfl)
theorem a221 : Agg Tryz.prog 221 4 := Agg.of (d := (Tryz.prog.underlying 221).getD .bool) (by kernel_rfl) (by kernel_rfl) i221
theorem u222 : SlT Tryz.prog 222 224 := Tryz.underlying222
theorem p222 : Plain Tryz.prog 222 := Plain.of Tryz.underlying222 rfl
theorem i224 : TI Tryz.prog 224 (.agg #[.int .i64 0, .int .u64 0, .int .u64 0, .int .u64 0, .int .u64 0, .slice none 0 0]) 6 64 := TI.mk' (by kernel_rfl)
theorem a224 : Agg Tryz.prog 224 6 := Agg.of (d := (Tryz.prog.underlying 224).getD .bool) (by kernel_rfl) (by kernel_rfl) i224
theorem u235 : SlT Tryz.prog 235 25 := Tryz.underlying235
theorem p235 : Plain Tryz.prog 235 := Plain.of Tryz.underlying235 rfl
theorem p237 : Plain Tryz.prog 237 := Plain.of Tryz.underlying237 rfl
theorem p238 : Plain Tryz.prog 238 := Plain.of Tryz.underlying238 rfl
theorem u254 : SlT Tryz.prog 254 301 := Tryz.underlying254
theorem p254 : Plain Tryz.prog 254 := Plain.of Tryz.underlying254 rfl
theorem u266 : SlT Tryz.prog 266 37 := Tryz.underlying266
theorem i301 : TI Tryz.prog 301 (.agg #[.int .i64 0, .int .u64 0, .int .u64 0, .int .u64 0, .int .u64 0, .int .i64 0, .int .i64 0]) 7 56 := TI.mk' (by kernel_rfl)
theorem a301 : Agg Tryz.prog 301 7 := Agg.of (d := (Tryz.prog.underlying 301).getD .bool) (by kernel_rfl) (by kernel_rfl) i301
theorem u317 : SlT Tryz.prog 317 4 := Tryz.underlying317
theorem key3 : KeyLaw Tryz.prog 3 (Value.int .i64) := KeyLaw.int Tryz.underlying3
theorem pair79 : Pair Tryz.prog 79 := Pair.of (by kernel_rfl) (by kernel_rfl) Tryz.underlying79 Tryz.underlying9 rfl rfl rfl rfl (by decide) (by decide)
theorem key79 : KeyLaw Tryz.prog 79 pairV := KeyLaw.pair Tryz.underlying79 Tryz.underlying9 rfl rfl rfl rfl (by decide) (by decide) pair79
theorem trip135 : Trip Tryz.prog 135 := Trip.of (by kernel_rfl) (by kernel_rfl) Tryz.underlying135 Tryz.underlying3 Tryz.underlying9 rfl rfl rfl rfl rfl rfl (by decide) (by decide) (by decide)
theorem arr221 : Arr Tryz.prog 221 .u64 4 := Arr.of (by kernel_rfl) Tryz.underlying221 Tryz.underlying66 (by kernel_rfl)
theorem fo35_0 : FO Tryz.prog 35 0 0 := fun a w => by kernel_rfl
theorem fo35_1 : FO Tryz.prog 35 1 1 := fun a w => by kernel_rfl
theorem fo35_2 : FO Tryz.prog 35 2 2 := fun a w => by kernel_rfl
theorem fo79_0 : FO Tryz.prog 79 0 0 := fun a w => by kernel_rfl
theorem fo79_1 : FO Tryz.prog 79 1 1 := fun a w => by kernel_rfl
theorem fo124_0 : FO Tryz.prog 124 0 0 := fun a w => by kernel_rfl
theorem fo124_1 : FO Tryz.prog 124 1 1 := fun a w => by kernel_rfl
theorem fo124_2 : FO Tryz.prog 124 2 2 := fun a w => by kernel_rfl
theorem fo124_3 : FO Tryz.prog 124 3 3 := fun a w => by kernel_rfl
theorem fo135_0 : FO Tryz.prog 135 0 0 := fun a w => by kernel_rfl
theorem fo135_1 : FO Tryz.prog 135 1 1 := fun a w => by kernel_rfl
theorem fo135_2 : FO Tryz.prog 135 2 2 := fun a w => by kernel_rfl
theorem fo190_0 : FO Tryz.prog 190 0 0 := fun a w => by kernel_rfl
theorem fo190_1 : FO Tryz.prog 190 1 1 := fun a w => by kernel_rfl
theorem fo190_2 : FO Tryz.prog 190 2 2 := fun a w => by kernel_rfl
theorem fo192_0 : FO Tryz.prog 192 0 0 := fun a w => by kernel_rfl
theorem fo192_1 : FO Tryz.prog 192 1 1 := fun a w => by kernel_rfl
theorem fo192_2 : FO Tryz.prog 192 2 2 := fun a w => by kernel_rfl
theorem fo196_0 : FO Tryz.prog 196 0 0 := fun a w => by kernel_rfl
theorem fo196_1 : FO Tryz.prog 196 1 1 := fun a w => by kernel_rfl
theorem fo196_2 : FO Tryz.prog 196 2 2 := fun a w => by kernel_rfl
theorem fo205_0 : FO Tryz.prog 205 0 0 := fun a w => by kernel_rfl
theorem fo205_1 : FO Tryz.prog 205 1 1 := fun a w => by kernel_rfl
theorem fo205_2 : FO Tryz.prog 205 2 2 := fun a w => by kernel_rfl
theorem fo224_0 : FO Tryz.prog 224 0 0 := fun a w => by kernel_rfl
theorem fo224_1 : FO Tryz.prog 224 1 1 := fun a w => by kernel_rfl
theorem fo224_2 : FO Tryz.prog 224 2 5 := fun a w => by kernel_rfl
theorem fo240_0 : FO Tryz.prog 240 0 0 := fun a w => by kernel_rfl
theorem fo240_1 : FO Tryz.prog 240 1 1 := fun a w => by kernel_rfl
theorem fo264_0 : FO Tryz.prog 264 0 0 := fun a w => by kernel_rfl
theorem fo264_1 : FO Tryz.prog 264 1 1 := fun a w => by kernel_rfl
theorem fo264_2 : FO Tryz.prog 264 2 2 := fun a w => by kernel_rfl
theorem fo264_3 : FO Tryz.prog 264 3 3 := fun a w => by kernel_rfl
theorem fo301_0 : FO Tryz.prog 301 0 0 := fun a w => by kernel_rfl
theorem fo301_1 : FO Tryz.prog 301 1 1 := fun a w => by kernel_rfl
theorem fo301_2 : FO Tryz.prog 301 2 5 := fun a w => by kernel_rfl
theorem fo301_3 : FO Tryz.prog 301 3 6 := fun a w => by kernel_rfl
theorem fo308_0 : FO Tryz.prog 308 0 0 := fun a w => by kernel_rfl
theorem fo308_1 : FO Tryz.prog 308 1 1 := fun a w => by kernel_rfl
theorem fo308_2 : FO Tryz.prog 308 2 2 := fun a w => by kernel_rfl
theorem e2 : Enters Tryz.prog 2 := enters_of Tryz.func2 (by kernel_rfl) rfl
theorem e3 : Enters Tryz.prog 3 := enters_of Tryz.func3 (by kernel_rfl) rfl
theorem e4 : Enters Tryz.prog 4 := enters_of Tryz.func4 (by kernel_rfl) rfl
theorem e7 : Enters Tryz.prog 7 := enters_of Tryz.func7 (by kernel_rfl) rfl
theorem e9 : Enters Tryz.prog 9 := enters_of Tryz.func9 (by kernel_rfl) rfl
theorem e20 : Enters Tryz.prog 20 := enters_of Tryz.func20 (by kernel_rfl) rfl
theorem e23 : Enters Tryz.prog 23 := enters_of Tryz.func23 (by kernel_rfl) rfl
theorem e29 : Enters Tryz.prog 29 := enters_of Tryz.func29 (by kernel_rfl) rfl
theorem e31 : Enters Tryz.prog 31 := enters_of Tryz.func31 (by kernel_rfl) rfl
theorem e38 : Enters Tryz.prog 38 := enters_of Tryz.func38 (by kernel_rfl) rfl
theorem e55 : Enters Tryz.prog 55 := enters_of Tryz.func55 (by kernel_rfl) rfl
theorem e57 : Enters Tryz.prog 57 := enters_of Tryz.func57 (by kernel_rfl) rfl
theorem e67 : Enters Tryz.prog 67 := enters_of Tryz.func67 (by kernel_rfl) rfl
theorem e68 : Enters Tryz.prog 68 := enters_of Tryz.func68 (by kernel_rfl) rfl
theorem e69 : Enters Tryz.prog 69 := enters_of Tryz.func69 (by kernel_rfl) rfl
theorem e70 : Enters Tryz.prog 70 := enters_of Tryz.func70 (by kernel_rfl) rfl
theorem e71 : Enters Tryz.prog 71 := enters_of Tryz.func71 (by kernel_rfl) rfl
theorem e72 : Enters Tryz.prog 72 := enters_of Tryz.func72 (by kernel_rfl) rfl
theorem e73 : Enters Tryz.prog 73 := enters_of Tryz.func73 (by kernel_rfl) rfl
theorem e77 : Enters Tryz.prog 77 := enters_of Tryz.func77 (by kernel_rfl) rfl
theorem e78 : Enters Tryz.prog 78 := enters_of Tryz.func78 (by kernel_rfl) rfl
theorem e80 : Enters Tryz.prog 80 := enters_of Tryz.func80 (by kernel_rfl) rfl
theorem e81 : Enters Tryz.prog 81 := enters_of Tryz.func81 (by kernel_rfl) rfl
theorem e82 : Enters Tryz.prog 82 := enters_of Tryz.func82 (by kernel_rfl) rfl
theorem e83 : Enters Tryz.prog 83 := enters_of Tryz.func83 (by kernel_rfl) rfl
theorem e84 : Enters Tryz.prog 84 := enters_of Tryz.func84 (by kernel_rfl) rfl
theorem e85 : Enters Tryz.prog 85 := enters_of Tryz.func85 (by kernel_rfl) rfl
theorem e86 : Enters Tryz.prog 86 := enters_of Tryz.func86 (by kernel_rfl) rfl
theorem e89 : Enters Tryz.prog 89 := enters_of Tryz.func89 (by kernel_rfl) rfl
theorem e96 : Enters Tryz.prog 96 := enters_of Tryz.func96 (by kernel_rfl) rfl
theorem e100 : Enters Tryz.prog 100 := enters_of Tryz.func100 (by kernel_rfl) rfl
theorem e104 : Enters Tryz.prog 104 := enters_of Tryz.func104 (by kernel_rfl) rfl
theorem e110 : Enters Tryz.prog 110 := enters_of Tryz.func110 (by kernel_rfl) rfl
theorem e111 : Enters Tryz.prog 111 := enters_of Tryz.func111 (by kernel_rfl) rfl
theorem e116 : Enters Tryz.prog 116 := enters_of Tryz.func116 (by kernel_rfl) rfl
theorem e118 : Enters Tryz.prog 118 := enters_of Tryz.func118 (by kernel_rfl) rfl
theorem e119 : Enters Tryz.prog 119 := enters_of Tryz.func119 (by kernel_rfl) rfl
theorem e120 : Enters Tryz.prog 120 := enters_of Tryz.func120 (by kernel_rfl) rfl
theorem e123 : Enters Tryz.prog 123 := enters_of Tryz.func123 (by kernel_rfl) rfl
theorem e127 : Enters Tryz.prog 127 := enters_of Tryz.func127 (by kernel_rfl) rfl
theorem e128 : Enters Tryz.prog 128 := enters_of Tryz.func128 (by kernel_rfl) rfl
theorem e129 : Enters Tryz.prog 129 := enters_of Tryz.func129 (by kernel_rfl) rfl
theorem e130 : Enters Tryz.prog 130 := enters_of Tryz.func130 (by kernel_rfl) rfl
theorem e131 : Enters Tryz.prog 131 := enters_of Tryz.func131 (by kernel_rfl) rfl
theorem e132 : Enters Tryz.prog 132 := enters_of Tryz.func132 (by kernel_rfl) rfl
theorem e133 : Enters Tryz.prog 133 := enters_of Tryz.func133 (by kernel_rfl) rfl
theorem e134 : Enters Tryz.prog 134 := enters_of Tryz.func134 (by kernel_rfl) rfl
theorem e135 : Enters Tryz.prog 135 := enters_of Tryz.func135 (by kernel_rfl) rfl
theorem e136 : Enters Tryz.prog 136 := enters_of Tryz.func136 (by kernel_rfl) rfl
theorem e137 : Enters Tryz.prog 137 := enters_of Tryz.func137 (by kernel_rfl) rfl
theorem e138 : Enters Tryz.prog 138 := enters_of Tryz.func138 (by kernel_rfl) rfl
theorem e139 : Enters Tryz.prog 139 := enters_of Tryz.func139 (by kernel_rfl) rfl
theorem e140 : Enters Tryz.prog 140 := enters_of Tryz.func140 (by kernel_rfl) rfl
theorem e144 : Enters Tryz.prog 144 := enters_of Tryz.func144 (by kernel_rfl) rfl
theorem e145 : Enters Tryz.prog 145 := enters_of Tryz.func145 (by kernel_rfl) rfl
theorem e146 : Enters Tryz.prog 146 := enters_of Tryz.func146 (by kernel_rfl) rfl
theorem e147 : Enters Tryz.prog 147 := enters_of Tryz.func147 (by kernel_rfl) rfl
theorem e148 : Enters Tryz.prog 148 := enters_of Tryz.func148 (by kernel_rfl) rfl
theorem e149 : Enters Tryz.prog 149 := enters_of Tryz.func149 (by kernel_rfl) rfl
theorem e150 : Enters Tryz.prog 150 := enters_of Tryz.func150 (by kernel_rfl) rfl
theorem e155 : Enters Tryz.prog 155 := enters_of Tryz.func155 (by kernel_rfl) rfl
theorem e156 : Enters Tryz.prog 156 := enters_of Tryz.func156 (by kernel_rfl) rfl
theorem e157 : Enters Tryz.prog 157 := enters_of Tryz.func157 (by kernel_rfl) rfl
theorem e160 : Enters Tryz.prog 160 := enters_of Tryz.func160 (by kernel_rfl) rfl
theorem e162 : Enters Tryz.prog 162 := enters_of Tryz.func162 (by kernel_rfl) rfl
theorem e166 : Enters Tryz.prog 166 := enters_of Tryz.func166 (by kernel_rfl) rfl
theorem e167 : Enters Tryz.prog 167 := enters_of Tryz.func167 (by kernel_rfl) rfl
theorem e168 : Enters Tryz.prog 168 := enters_of Tryz.func168 (by kernel_rfl) rfl
theorem e170 : Enters Tryz.prog 170 := enters_of Tryz.func170 (by kernel_rfl) rfl
theorem e171 : Enters Tryz.prog 171 := enters_of Tryz.func171 (by kernel_rfl) rfl
theorem e172 : Enters Tryz.prog 172 := enters_of Tryz.func172 (by kernel_rfl) rfl
theorem e173 : Enters Tryz.prog 173 := enters_of Tryz.func173 (by kernel_rfl) rfl
theorem e174 : Enters Tryz.prog 174 := enters_of Tryz.func174 (by kernel_rfl) rfl
theorem e175 : Enters Tryz.prog 175 := enters_of Tryz.func175 (by kernel_rfl) rfl
theorem e176 : Enters Tryz.prog 176 := enters_of Tryz.func176 (by kernel_rfl) rfl
theorem e177 : Enters Tryz.prog 177 := enters_of Tryz.func177 (by kernel_rfl) rfl
theorem e178 : Enters Tryz.prog 178 := enters_of Tryz.func178 (by kernel_rfl) rfl
theorem e179 : Enters Tryz.prog 179 := enters_of Tryz.func179 (by kernel_rfl) rfl
theorem e180 : Enters Tryz.prog 180 := enters_of Tryz.func180 (by kernel_rfl) rfl
theorem e181 : Enters Tryz.prog 181 := enters_of Tryz.func181 (by kernel_rfl) rfl
theorem e182 : Enters Tryz.prog 182 := enters_of Tryz.func182 (by kernel_rfl) rfl
theorem e183 : Enters Tryz.prog 183 := enters_of Tryz.func183 (by kernel_rfl) rfl
theorem e184 : Enters Tryz.prog 184 := enters_of Tryz.func184 (by kernel_rfl) rfl
theorem e185 : Enters Tryz.prog 185 := enters_of Tryz.func185 (by kernel_rfl) rfl
theorem e186 : Enters Tryz.prog 186 := enters_of Tryz.func186 (by kernel_rfl) rfl
theorem e187 : Enters Tryz.prog 187 := enters_of Tryz.func187 (by kernel_rfl) rfl
theorem e188 : Enters Tryz.prog 188 := enters_of Tryz.func188 (by kernel_rfl) rfl
theorem e189 : Enters Tryz.prog 189 := enters_of Tryz.func189 (by kernel_rfl) rfl
theorem e190 : Enters Tryz.prog 190 := enters_of Tryz.func190 (by kernel_rfl) rfl
theorem e191 : Enters Tryz.prog 191 := enters_of Tryz.func191 (by kernel_rfl) rfl
theorem e192 : Enters Tryz.prog 192 := enters_of Tryz.func192 (by kernel_rfl) rfl
theorem e193 : Enters Tryz.prog 193 := enters_of Tryz.func193 (by kernel_rfl) rfl
theorem e194 : Enters Tryz.prog 194 := enters_of Tryz.func194 (by kernel_rfl) rfl
theorem e198 : Enters Tryz.prog 198 := enters_of Tryz.func198 (by kernel_rfl) rfl
theorem e201 : Enters Tryz.prog 201 := enters_of Tryz.func201 (by kernel_rfl) rfl
theorem e202 : Enters Tryz.prog 202 := enters_of Tryz.func202 (by kernel_rfl) rfl
theorem e203 : Enters Tryz.prog 203 := enters_of Tryz.func203 (by kernel_rfl) rfl
theorem e204 : Enters Tryz.prog 204 := enters_of Tryz.func204 (by kernel_rfl) rfl
theorem e205 : Enters Tryz.prog 205 := enters_of Tryz.func205 (by kernel_rfl) rfl
theorem e210 : Enters Tryz.prog 210 := enters_of Tryz.func210 (by kernel_rfl) rfl
theorem e211 : Enters Tryz.prog 211 := enters_of Tryz.func211 (by kernel_rfl) rfl
theorem e212 : Enters Tryz.prog 212 := enters_of Tryz.func212 (by kernel_rfl) rfl
theorem e214 : Enters Tryz.prog 214 := enters_of Tryz.func214 (by kernel_rfl) rfl
theorem e216 : Enters Tryz.prog 216 := enters_of Tryz.func216 (by kernel_rfl) rfl
theorem e217 : Enters Tryz.prog 217 := enters_of Tryz.func217 (by kernel_rfl) rfl
theorem e218 : Enters Tryz.prog 218 := enters_of Tryz.func218 (by kernel_rfl) rfl
theorem e219 : Enters Tryz.prog 219 := enters_of Tryz.func219 (by kernel_rfl) rfl
theorem e220 : Enters Tryz.prog 220 := enters_of Tryz.func220 (by kernel_rfl) rfl
theorem e221 : Enters Tryz.prog 221 := enters_of Tryz.func221 (by kernel_rfl) rfl
theorem e222 : Enters Tryz.prog 222 := enters_of Tryz.func222 (by kernel_rfl) rfl
theorem e223 : Enters Tryz.prog 223 := enters_of Tryz.func223 (by kernel_rfl) rfl
theorem e224 : Enters Tryz.prog 224 := enters_of Tryz.func224 (by kernel_rfl) rfl
theorem e225 : Enters Tryz.prog 225 := enters_of Tryz.func225 (by kernel_rfl) rfl
theorem e226 : Enters Tryz.prog 226 := enters_of Tryz.func226 (by kernel_rfl) rfl
theorem e227 : Enters Tryz.prog 227 := enters_of Tryz.func227 (by kernel_rfl) rfl
theorem e228 : Enters Tryz.prog 228 := enters_of Tryz.func228 (by kernel_rfl) rfl
theorem e229 : Enters Tryz.prog 229 := enters_of Tryz.func229 (by kernel_rfl) rfl
theorem e230 : Enters Tryz.prog 230 := enters_of Tryz.func230 (by kernel_rfl) rfl
theorem e231 : Enters Tryz.prog 231 := enters_of Tryz.func231 (by kernel_rfl) rfl
theorem e232 : Enters Tryz.prog 232 := enters_of Tryz.func232 (by kernel_rfl) rfl
theorem e233 : Enters Tryz.prog 233 := enters_of Tryz.func233 (by kernel_rfl) rfl
theorem e234 : Enters Tryz.prog 234 := enters_of Tryz.func234 (by kernel_rfl) rfl
theorem e235 : Enters Tryz.prog 235 := enters_of Tryz.func235 (by kernel_rfl) rfl
theorem e236 : Enters Tryz.prog 236 := enters_of Tryz.func236 (by kernel_rfl) rfl
theorem e238 : Enters Tryz.prog 238 := enters_of Tryz.func238 (by kernel_rfl) rfl
theorem e239 : Enters Tryz.prog 239 := enters_of Tryz.func239 (by kernel_rfl) rfl
theorem e251 : Enters Tryz.prog 251 := enters_of Tryz.func251 (by kernel_rfl) rfl
theorem e252 : Enters Tryz.prog 252 := enters_of Tryz.func252 (by kernel_rfl) rfl
theorem e253 : Enters Tryz.prog 253 := enters_of Tryz.func253 (by kernel_rfl) rfl
theorem e257 : Enters Tryz.prog 257 := enters_of Tryz.func257 (by kernel_rfl) rfl
theorem e258 : Enters Tryz.prog 258 := enters_of Tryz.func258 (by kernel_rfl) rfl
theorem e259 : Enters Tryz.prog 259 := enters_of Tryz.func259 (by kernel_rfl) rfl
theorem e260 : Enters Tryz.prog 260 := enters_of Tryz.func260 (by kernel_rfl) rfl
theorem e262 : Enters Tryz.prog 262 := enters_of Tryz.func262 (by kernel_rfl) rfl
theorem e263 : Enters Tryz.prog 263 := enters_of Tryz.func263 (by kernel_rfl) rfl
theorem e264 : Enters Tryz.prog 264 := enters_of Tryz.func264 (by kernel_rfl) rfl
theorem e265 : Enters Tryz.prog 265 := enters_of Tryz.func265 (by kernel_rfl) rfl
theorem e266 : Enters Tryz.prog 266 := enters_of Tryz.func266 (by kernel_rfl) rfl
theorem e267 : Enters Tryz.prog 267 := enters_of Tryz.func267 (by kernel_rfl) rfl
theorem e268 : Enters Tryz.prog 268 := enters_of Tryz.func268 (by kernel_rfl) rfl
theorem e269 : Enters Tryz.prog 269 := enters_of Tryz.func269 (by kernel_rfl) rfl
theorem e279 : Enters Tryz.prog 279 := enters_of Tryz.func279 (by kernel_rfl) rfl
theorem e283 : Enters Tryz.prog 283 := enters_of Tryz.func283 (by kernel_rfl) rfl
theorem e284 : Enters Tryz.prog 284 := enters_of Tryz.func284 (by kernel_rfl) rfl
theorem e285 : Enters Tryz.prog 285 := enters_of Tryz.func285 (by kernel_rfl) rfl
theorem e286 : Enters Tryz.prog 286 := enters_of Tryz.func286 (by kernel_rfl) rfl
theorem e287 : Enters Tryz.prog 287 := enters_of Tryz.func287 (by kernel_rfl) rfl
theorem e288 : Enters Tryz.prog 288 := enters_of Tryz.func288 (by kernel_rfl) rfl
theorem e289 : Enters Tryz.prog 289 := enters_of Tryz.func289 (by kernel_rfl) rfl
theorem e290 : Enters Tryz.prog 290 := enters_of Tryz.func290 (by kernel_rfl) rfl
theorem e292 : Enters Tryz.prog 292 := enters_of Tryz.func292 (by kernel_rfl) rfl
theorem e293 : Enters Tryz.prog 293 := enters_of Tryz.func293 (by kernel_rfl) rfl
theorem e297 : Enters Tryz.prog 297 := enters_of Tryz.func297 (by kernel_rfl) rfl
theorem e298 : Enters Tryz.prog 298 := enters_of Tryz.func298 (by kernel_rfl) rfl
theorem e299 : Enters Tryz.prog 299 := enters_of Tryz.func299 (by kernel_rfl) rfl
theorem e301 : Enters Tryz.prog 301 := enters_of Tryz.func301 (by kernel_rfl) rfl
theorem e302 : Enters Tryz.prog 302 := enters_of Tryz.func302 (by kernel_rfl) rfl
theorem e303 : Enters Tryz.prog 303 := enters_of Tryz.func303 (by kernel_rfl) rfl
theorem e304 : Enters Tryz.prog 304 := enters_of Tryz.func304 (by kernel_rfl) rfl
theorem e305 : Enters Tryz.prog 305 := enters_of Tryz.func305 (by kernel_rfl) rfl
theorem e306 : Enters Tryz.prog 306 := enters_of Tryz.func306 (by kernel_rfl) rfl
theorem e308 : Enters Tryz.prog 308 := enters_of Tryz.func308 (by kernel_rfl) rfl
theorem e309 : Enters Tryz.prog 309 := enters_of Tryz.func309 (by kernel_rfl) rfl
theorem e310 : Enters Tryz.prog 310 := enters_of Tryz.func310 (by kernel_rfl) rfl
theorem e311 : Enters Tryz.prog 311 := enters_of Tryz.func311 (by kernel_rfl) rfl
theorem e312 : Enters Tryz.prog 312 := enters_of Tryz.func312 (by kernel_rfl) rfl
theorem e313 : Enters Tryz.prog 313 := enters_of Tryz.func313 (by kernel_rfl) rfl
theorem e314 : Enters Tryz.prog 314 := enters_of Tryz.func314 (by kernel_rfl) rfl
theorem e315 : Enters Tryz.prog 315 := enters_of Tryz.func315 (by kernel_rfl) rfl
theorem e316 : Enters Tryz.prog 316 := enters_of Tryz.func316 (by kernel_rfl) rfl
theorem e317 : Enters Tryz.prog 317 := enters_of Tryz.func317 (by kernel_rfl) rfl
theorem e319 : Enters Tryz.prog 319 := enters_of Tryz.func319 (by kernel_rfl) rfl
theorem e320 : Enters Tryz.prog 320 := enters_of Tryz.func320 (by kernel_rfl) rfl
theorem e321 : Enters Tryz.prog 321 := enters_of Tryz.func321 (by kernel_rfl) rfl
theorem e322 : Enters Tryz.prog 322 := enters_of Tryz.func322 (by kernel_rfl) rfl
theorem e323 : Enters Tryz.prog 323 := enters_of Tryz.func323 (by kernel_rfl) rfl
theorem e324 : Enters Tryz.prog 324 := enters_of Tryz.func324 (by kernel_rfl) rfl
theorem e325 : Enters Tryz.prog 325 := enters_of Tryz.func325 (by kernel_rfl) rfl
theorem e326 : Enters Tryz.prog 326 := enters_of Tryz.func326 (by kernel_rfl) rfl
theorem e327 : Enters Tryz.prog 327 := enters_of Tryz.func327 (by kernel_rfl) rfl
theorem e328 : Enters Tryz.prog 328 := enters_of Tryz.func328 (by kernel_rfl) rfl
theorem x95 : ∀ (b : Int) (w : World), (callFunc 95 #[.int .u64 b]).run Tryz.prog w = .ok (.value (.float .f64 b.toNat)) w := fun b w => by kernel_rfl
theorem x169 : ∀ (b : Nat) (w : World), (callFunc 169 #[.float .f64 b]).run Tryz.prog w = .ok (.value (.int .u64 b)) w := fun b w => by kernel_rfl
end Go.Proofs.YthbjfhhiajihfaaGreat
namespace Go.Proofs
open Go.Shelf
def Tryz.lays213_ren : Go.Shelf.Ren := ⟨fun | 213 => 270 | 265 => 294 | n => n, fun | 9 => 9 | 3 => 3 | n => n, fun | n => n⟩
def Tryz.lays106_ren : Go.Shelf.Ren := ⟨fun | 106 => 232 | 213 => 270 | 265 => 294 | n => n, fun | 9 => 9 | 3 => 3 | n => n, fun | n => n⟩
theorem Tryz.lays106 : Go.Proofs.Lays.n106 Tryz.prog Tryz.lays106_ren := {
 mixed := by kernel_rfl
 f106 := Tryz.func232.trans (congrArg some (by kernel_rfl))
 f213 := Tryz.func270.trans (congrArg some (by kernel_rfl))
 f265 := Tryz.func294.trans (congrArg some (by kernel_rfl))
 t3 := Tryz.underlying3
 a3 := Tryz.isAgg3
 z3 := Tryz.sizeOf3
 v3 := Tryz.zeroValue3
 t9 := Tryz.underlying9
 a9 := Tryz.isAgg9
 z9 := Tryz.sizeOf9
 v9 := Tryz.zeroValue9 }
open Go.RowKit in
theorem Tryz.strings_Compare (a b : ByteArray) (w : World) :
  Calls Tryz.prog 232 #[.string a, .string b] w fun e w' => e = .returned (.int .i64 (Lib.compareBytes a.data.toList b.data.toList)) ∧ w' = w := Any.strings_Compare Tryz.lays106 a b w
def Tryz.lays137_ren : Go.Shelf.Ren := ⟨fun | 137 => 327 | 217 => 329 | 266 => 330 | n => n, fun | 9 => 9 | 5 => 5 | 3 => 3 | n => n, fun | n => n⟩
theorem Tryz.lays137 : Go.Proofs.Lays.n137 Tryz.prog Tryz.lays137_ren := {
 mixed := by kernel_rfl
 f137 := Tryz.func327.trans (congrArg some (by kernel_rfl))
 f217 := Tryz.func329.trans (congrArg some (by kernel_rfl))
 f266 := Tryz.func330.trans (congrArg some (by kernel_rfl))
 t3 := Tryz.underlying3
 a3 := Tryz.isAgg3
 z3 := Tryz.sizeOf3
 v3 := Tryz.zeroValue3
 t5 := Tryz.underlying5
 a5 := Tryz.isAgg5
 z5 := Tryz.sizeOf5
 v5 := Tryz.zeroValue5
 t9 := Tryz.underlying9
 a9 := Tryz.isAgg9
 z9 := Tryz.sizeOf9
 v9 := Tryz.zeroValue9 }
open Go.RowKit in
theorem Tryz.strings_IndexByte (s : ByteArray) (c : Int) (w : World) :
  Calls Tryz.prog 327 #[.string s, .int .u8 c] w fun e w' => e = .returned (.int .i64 (Lib.indexByte s.data.toList c.toNat.toUInt8)) ∧ w' = w := Any.strings_IndexByte Tryz.lays137 s c w
def Tryz.lays215_ren : Go.Shelf.Ren := ⟨fun | 215 => 213 | n => n, fun | 3 => 3 | 4 => 4 | n => n, fun | n => n⟩
def Tryz.lays122_ren : Go.Shelf.Ren := ⟨fun | 122 => 160 | 215 => 213 | n => n, fun | 3 => 3 | 4 => 4 | n => n, fun | n => n⟩
theorem Tryz.lays122 : Go.Proofs.Lays.n122 Tryz.prog Tryz.lays122_ren := {
 mixed := by kernel_rfl
 f122 := Tryz.func160.trans (congrArg some (by kernel_rfl))
 f215 := Tryz.func213.trans (congrArg some (by kernel_rfl))
 t3 := Tryz.underlying3
 a3 := Tryz.isAgg3
 z3 := Tryz.sizeOf3
 v3 := Tryz.zeroValue3
 t4 := Tryz.underlying4
 a4 := Tryz.isAgg4
 z4 := Tryz.sizeOf4
 v4 := Tryz.zeroValue4 }
open Go.RowKit in
theorem Tryz.cmp_Compare_int (x y : Int) (w : World) :
  Calls Tryz.prog 160 #[.int .i64 x, .int .i64 y] w fun e w' => e = .returned (.int .i64 (Lib.compareInt x y)) ∧ w' = w := Any.cmp_Compare_int Tryz.lays122 x y w
def Tryz.lays189_ren : Go.Shelf.Ren := ⟨fun | 189 => 145 | 125 => 200 | 257 => 199 | 128 => 249 | 129 => 250 | 294 => 240 | 295 => 241 | 296 => 242 | 297 => 243 | 298 => 244 | 299 => 245 | 216 => 246 | 300 => 247 | 301 => 248 | 328 => 273 | 329 => 274 | 330 => 275 | 331 => 276 | 332 => 277 | 215 => 213 | 343 => 296 | n => n, fun | 28 => 37 | 3 => 3 | 46 => 248 | 0 => 0 | 51 => 291 | 53 => 66 | 4 => 4 | 183 => 284 | 182 => 283 | 131 => 164 | 5 => 5 | 9 => 9 | 218 => 310 | 222 => 314 | 228 => 330 | 229 => 331 | n => n, fun | n => n⟩
theorem Tryz.lays189 : Go.Proofs.Lays.n189 Tryz.prog Tryz.lays189_ren := {
 mixed := by kernel_rfl
 f125 := Tryz.func200.trans (congrArg some (by kernel_rfl))
 f128 := Tryz.func249.trans (congrArg some (by kernel_rfl))
 f129 := Tryz.func250.trans (congrArg some (by kernel_rfl))
 f189 := Tryz.func145.trans (congrArg some (by kernel_rfl))
 f215 := Tryz.func213.trans (congrArg some (by kernel_rfl))
 f216 := Tryz.func246.trans (congrArg some (by kernel_rfl))
 f257 := Tryz.func199.trans (congrArg some (by kernel_rfl))
 f294 := Tryz.func240.trans (congrArg some (by kernel_rfl))
 f295 := Tryz.func241.trans (congrArg some (by kernel_rfl))
 f296 := Tryz.func242.trans (congrArg some (by kernel_rfl))
 f297 := Tryz.func243.trans (congrArg some (by kernel_rfl))
 f298 := Tryz.func244.trans (congrArg some (by kernel_rfl))
 f299 := Tryz.func245.trans (congrArg some (by kernel_rfl))
 f300 := Tryz.func247.trans (congrArg some (by kernel_rfl))
 f301 := Tryz.func248.trans (congrArg some (by kernel_rfl))
 f328 := Tryz.func273.trans (congrArg some (by kernel_rfl))
 f329 := Tryz.func274.trans (congrArg some (by kernel_rfl))
 f330 := Tryz.func275.trans (congrArg some (by kernel_rfl))
 f331 := Tryz.func276.trans (congrArg some (by kernel_rfl))
 f332 := Tryz.func277.trans (congrArg some (by kernel_rfl))
 f343 := Tryz.func296.trans (congrArg some (by kernel_rfl))
 t0 := Tryz.underlying0
 a0 := Tryz.isAgg0
 z0 := Tryz.sizeOf0
 v0 := Tryz.zeroValue0
 t3 := Tryz.underlying3
 a3 := Tryz.isAgg3
 z3 := Tryz.sizeOf3
 v3 := Tryz.zeroValue3
 t4 := Tryz.underlying4
 a4 := Tryz.isAgg4
 z4 := Tryz.sizeOf4
 v4 := Tryz.zeroValue4
 t5 := Tryz.underlying5
 a5 := Tryz.isAgg5
 z5 := Tryz.sizeOf5
 v5 := Tryz.zeroValue5
 t9 := Tryz.underlying9
 a9 := Tryz.isAgg9
 z9 := Tryz.sizeOf9
 v9 := Tryz.zeroValue9
 t28 := Tryz.underlying37
 a28 := Tryz.isAgg37
 z28 := Tryz.sizeOf37
 v28 := Tryz.zeroValue37
 t46 := Tryz.underlying248
 a46 := Tryz.isAgg248
 z46 := Tryz.sizeOf248
 v46 := Tryz.zeroValue248
 t51 := Tryz.underlying291
 a51 := Tryz.isAgg291
 z51 := Tryz.sizeOf291
 v51 := Tryz.zeroValue291
 t53 := Tryz.underlying66
 a53 := Tryz.isAgg66
 z53 := Tryz.sizeOf66
 v53 := Tryz.zeroValue66
 t131 := Tryz.underlying164
 a131 := Tryz.isAgg164
 z131 := Tryz.sizeOf164
 v131 := Tryz.zeroValue164
 t182 := Tryz.underlying283
 a182 := Tryz.isAgg283
 z182 := Tryz.sizeOf283
 v182 := Tryz.zeroValue283
 t183 := Tryz.underlying284
 a183 := Tryz.isAgg284
 z183 := Tryz.sizeOf284
 v183 := Tryz.zeroValue284
 t218 := Tryz.underlying310
 a218 := Tryz.isAgg310
 z218 := Tryz.sizeOf310
 v218 := Tryz.zeroValue310
 t222 := Tryz.underlying314
 a222 := Tryz.isAgg314
 z222 := Tryz.sizeOf314
 v222 := Tryz.zeroValue314
 t228 := Tryz.underlying330
 a228 := Tryz.isAgg330
 z228 := Tryz.sizeOf330
 v228 := Tryz.zeroValue330
 t229 := Tryz.underlying331
 a229 := Tryz.isAgg331
 z229 := Tryz.sizeOf331
 v229 := Tryz.zeroValue331 }
open Go.Sort Go.RowKit in
theorem Tryz.slices_Sort_int (blk off cap : Nat) (zs : List Int) (w : World) (hH : Holds (Value.int .i64) w blk off zs.toArray) (hblk : blk < w.heap.size) (hsz : zs.length < 4611686018427387904) :
  Calls Tryz.prog 145 #[.slice (some ⟨blk, off, none⟩) zs.length cap] w fun e w' =>
   e = .returned (.tuple #[]) ∧ ∃ n os, w' = grow (putRow (Value.int .i64) (Sort.ahead w n) blk off (zs.mergeSort fun x y => decide (x ≤ y)).toArray) os := Any.slices_Sort_int Tryz.lays189 blk off cap zs w hH hblk hsz
def Tryz.lays107_ren : Go.Shelf.Ren := ⟨fun | 107 => 252 | 108 => 278 | n => n, fun | 28 => 37 | 3 => 3 | 4 => 4 | 0 => 0 | n => n, fun | n => n⟩
theorem Tryz.lays107 : Go.Proofs.Lays.n107 Tryz.prog Tryz.lays107_ren := {
 mixed := by kernel_rfl
 f107 := Tryz.func252.trans (congrArg some (by kernel_rfl))
 f108 := Tryz.func278.trans (congrArg some (by kernel_rfl))
 t0 := Tryz.underlying0
 a0 := Tryz.isAgg0
 z0 := Tryz.sizeOf0
 v0 := Tryz.zeroValue0
 t3 := Tryz.underlying3
 a3 := Tryz.isAgg3
 z3 := Tryz.sizeOf3
 v3 := Tryz.zeroValue3
 t4 := Tryz.underlying4
 a4 := Tryz.isAgg4
 z4 := Tryz.sizeOf4
 v4 := Tryz.zeroValue4
 t28 := Tryz.underlying37
 a28 := Tryz.isAgg37
 z28 := Tryz.sizeOf37
 v28 := Tryz.zeroValue37 }
open Go.Lib in
theorem Tryz.slices_Contains_int (b off n c : Nat) (zs : List Int) (x : Int) (w : World) (hz : n ≤ zs.length) (hbig : n ≤ 9223372036854775807) (hc : ∀ j, j < zs.length → w.cell? ⟨b, off + j, none⟩ = some (.int .i64 (zs.getD j 0))) :
  Calls Tryz.prog 252 #[.slice (some ⟨b, off, none⟩) n c, .int .i64 x] w fun e w' => e = .returned (.bool ((zs.take n).contains x)) ∧ w' = w := Any.slices_Contains_int Tryz.lays107 b off n c zs x w hz hbig hc
open Go.Lib in
theorem Tryz.slices_Contains_int_empty (a : Option Addr) (c : Nat) (x : Int) (w : World) :
  Calls Tryz.prog 252 #[.slice a 0 c, .int .i64 x] w fun e w' => e = .returned (.bool false) ∧ w' = w := Any.slices_Contains_int_empty Tryz.lays107 a c x w
def Tryz.laysNm220_ren : Go.Shelf.Ren := ⟨fun | 20 => 146 | n => n, fun | 22 => 37 | 3 => 3 | 4 => 4 | 0 => 0 | n => n, fun | n => n⟩
theorem Tryz.laysNm220 : Go.Proofs.Lays2.n20 Tryz.prog Tryz.laysNm220_ren := {
 mixed := by kernel_rfl
 f20 := Tryz.func146.trans (congrArg some (by kernel_rfl))
 t0 := Tryz.underlying0
 a0 := Tryz.isAgg0
 z0 := Tryz.sizeOf0
 v0 := Tryz.zeroValue0
 t3 := Tryz.underlying3
 a3 := Tryz.isAgg3
 z3 := Tryz.sizeOf3
 v3 := Tryz.zeroValue3
 t4 := Tryz.underlying4
 a4 := Tryz.isAgg4
 z4 := Tryz.sizeOf4
 v4 := Tryz.zeroValue4
 t22 := Tryz.underlying37
 a22 := Tryz.isAgg37
 z22 := Tryz.sizeOf37
 v22 := Tryz.zeroValue37
 i3 := by kernel_rfl }
open Go.RowKit Go.Lib Go.Sort in
theorem Tryz.slices_Compact_int (blk off cap : Nat) (zs : List Int) (w : World) (hH : Holds (Value.int .i64) w blk off zs.toArray) (hsz : zs.length ≤ 9223372036854775807) (hcap : zs.length ≤ cap) :
  Calls Tryz.prog 146 #[.slice (some ⟨blk, off, none⟩) zs.length cap] w fun e w' => e = .returned (.slice (some ⟨blk, off, none⟩) (Lib.compact zs).length cap) ∧ ∃ q, w' = putRow (Value.int .i64) (Sort.ahead w q) blk off (Lib.compact zs ++ List.replicate (zs.length - (Lib.compact zs).length) 0).toArray := Any.slices_Compact_int Tryz.laysNm220 blk off cap zs w hH hsz hcap
open Go.RowKit Go.Lib Go.Sort in
theorem Tryz.slices_Compact_int_empty (a : Option Addr) (cap : Nat) (w : World) :
  Calls Tryz.prog 146 #[.slice a 0 cap] w fun e w' => e = .returned (.slice a 0 cap) ∧ w' = w := Any.slices_Compact_int_empty Tryz.laysNm220 a cap w
def Tryz.laysNm225_ren : Go.Shelf.Ren := ⟨fun | 25 => 214 | 31 => 246 | 32 => 261 | 37 => 213 | n => n, fun | 22 => 37 | 3 => 3 | 4 => 4 | 40 => 248 | 0 => 0 | n => n, fun | n => n⟩
theorem Tryz.laysNm225 : Go.Proofs.Lays2.n25 Tryz.prog Tryz.laysNm225_ren := {
 mixed := by kernel_rfl
 f25 := Tryz.func214.trans (congrArg some (by kernel_rfl))
 f31 := Tryz.func246.trans (congrArg some (by kernel_rfl))
 f32 := Tryz.func261.trans (congrArg some (by kernel_rfl))
 f37 := Tryz.func213.trans (congrArg some (by kernel_rfl))
 t0 := Tryz.underlying0
 a0 := Tryz.isAgg0
 z0 := Tryz.sizeOf0
 v0 := Tryz.zeroValue0
 t3 := Tryz.underlying3
 a3 := Tryz.isAgg3
 z3 := Tryz.sizeOf3
 v3 := Tryz.zeroValue3
 t4 := Tryz.underlying4
 a4 := Tryz.isAgg4
 z4 := Tryz.sizeOf4
 v4 := Tryz.zeroValue4
 t22 := Tryz.underlying37
 a22 := Tryz.isAgg37
 z22 := Tryz.sizeOf37
 v22 := Tryz.zeroValue37
 t40 := Tryz.underlying248
 a40 := Tryz.isAgg248
 z40 := Tryz.sizeOf248
 v40 := Tryz.zeroValue248 }
open Go.RowKit Go.Lib in
theorem Tryz.slices_BinarySearch_int (b off n c : Nat) (zs : List Int) (x : Int) (w : World) (hz : n ≤ zs.length) (hbig : n < 4611686018427387904) (hc : ∀ j, j < zs.length → w.cell? ⟨b, off + j, none⟩ = some (.int .i64 (zs.getD j 0))) (hs : (zs.take n).Pairwise (· ≤ ·)) :
  Calls Tryz.prog 214 #[.slice (some ⟨b, off, none⟩) n c, .int .i64 x] w fun e w' => e = .returned (.tuple #[.int .i64 ((zs.take n).countP (· < x) : Nat), .bool ((zs.take n).contains x)]) ∧ ∃ q, w' = w.drewN q := Any.slices_BinarySearch_int Tryz.laysNm225 b off n c zs x w hz hbig hc hs
open Go.RowKit Go.Sort in
theorem Tryz.slices_Sort_int_none (p : Option Addr) (cap : Nat) (w : World) :
  Calls Tryz.prog 145 #[.slice p 0 cap] w fun e w' => e = .returned (.tuple #[]) ∧ w' = w := Any.slices_Sort_int_none Tryz.lays189 p cap w
open Go.RowKit Go.Lib in
theorem Tryz.slices_BinarySearch_int_empty (a : Option Addr) (c : Nat) (x : Int) (w : World) :
  Calls Tryz.prog 214 #[.slice a 0 c, .int .i64 x] w fun e w' => e = .returned (.tuple #[.int .i64 0, .bool false]) ∧ w' = w := Any.slices_BinarySearch_int_empty Tryz.laysNm225 a c x w
end Go.Proofs
set_option linter.unusedVariables false
set_option linter.unusedSimpArgs false
set_option maxHeartbeats 400000
set_option maxRecDepth 100000
namespace Go.Proofs.YthbjfhhiajihfaaGreat
open Go Go.X
@[irreducible] def letS (c : Int) : Bool := decide (97 ≤ c ∧ c ≤ 122 ∨ 65 ≤ c ∧ c ≤ 90 ∨ c = 95)
theorem letter_ok (c : Int) (w : World) : Fx Tryz.prog 266 [.int .u8 c] w (fun v w' => v = .bool (letS c) ∧ w = w') := by
 refine enter Tryz.func266 rfl rfl rfl _ (Pick.sub (l := [0]) (.cons rfl .nil)) ?_
 refine GG ?_
 refine SP 5 (fun h5 => ?_) (fun h5 => ?_)
 ·iterate 2 refine QQ (Yld.pure rfl) ?_
  refine GG ?_
  refine SP 9 (fun h9 => ?_) (fun h9 => ?_)
  ·iterate 6 refine RL.no (.no rfl rfl rfl rfl) rfl rfl ?_
   refine GG ?_
   iterate 2 refine RL.no (.no rfl rfl rfl rfl) rfl rfl ?_
   refine GG ?_
   refine RK.ret_of Tryz.func266 (res1 rfl rfl) ?_ _
   exact ⟨_, rfl, congrArg _ (by rw [Bool.eq_iff_iff]; simp [letS]; omega), rfl⟩
  ·iterate 3 refine QQ (Yld.pure rfl) ?_
   refine SP 12 (fun h12 => ?_) (fun h12 => ?_)
   ·iterate 3 refine QQ (Yld.pure rfl) ?_
    refine GG ?_
    refine SP 17 (fun h17 => ?_) (fun h17 => ?_)
    ·iterate 2 refine RL.no (.no rfl rfl rfl rfl) rfl rfl ?_
     refine GG ?_
     refine RK.ret_of Tryz.func266 (res1 rfl rfl) ?_ _
     exact ⟨_, rfl, congrArg _ (by rw [Bool.eq_iff_iff]; simp [letS]; omega), rfl⟩
    ·iterate 2 refine QQ (Yld.pure rfl) ?_
     refine GG ?_
     refine RK.ret_of Tryz.func266 (res1 rfl rfl) ?_ _
     exact ⟨_, rfl, congrArg _ (by rw [Bool.eq_iff_iff]; simp [letS]; omega), rfl⟩
   ·iterate 2 refine RL.no (.no rfl rfl rfl rfl) rfl rfl ?_
    refine QQ (Yld.pure rfl) ?_
    refine GG ?_
    iterate 2 refine QQ (Yld.pure rfl) ?_
    refine GG ?_
    refine RK.ret_of Tryz.func266 (res1 rfl rfl) ?_ _
    exact ⟨_, rfl, congrArg _ (by rw [Bool.eq_iff_iff]; simp [letS]; omega), rfl⟩
 ·iterate 2 refine RL.no (.no rfl rfl rfl rfl) rfl rfl ?_
  refine GG ?_
  iterate 3 refine QQ (Yld.pure rfl) ?_
  refine SP 12 (fun h12 => ?_) (fun h12 => ?_)
  ·iterate 3 refine QQ (Yld.pure rfl) ?_
   refine GG ?_
   refine SP 17 (fun h17 => ?_) (fun h17 => ?_)
   ·iterate 2 refine RL.no (.no rfl rfl rfl rfl) rfl rfl ?_
    refine GG ?_
    refine RK.ret_of Tryz.func266 (res1 rfl rfl) ?_ _
    exact ⟨_, rfl, congrArg _ (by rw [Bool.eq_iff_iff]; simp [letS]; omega), rfl⟩
   ·iterate 2 refine QQ (Yld.pure rfl) ?_
    refine GG ?_
    refine RK.ret_of Tryz.func266 (res1 rfl rfl) ?_ _
    exact ⟨_, rfl, congrArg _ (by rw [Bool.eq_iff_iff]; simp [letS]; omega), rfl⟩
  ·iterate 2 refine RL.no (.no rfl rfl rfl rfl) rfl rfl ?_
   refine QQ (Yld.pure rfl) ?_
   refine GG ?_
   iterate 2 refine QQ (Yld.pure rfl) ?_
   refine GG ?_
   refine RK.ret_of Tryz.func266 (res1 rfl rfl) ?_ _
   exact ⟨_, rfl, congrArg _ (by rw [Bool.eq_iff_iff]; simp [letS]; omega), rfl⟩
@[irreducible] def valS (s : ByteArray) : Bool := decide (1 ≤ s.size ∧ s.size ≤ 24)
theorem value_ok (s : ByteArray) (w : World) : Fx Tryz.prog 220 [.string s] w (fun v w' => v = .bool (valS s) ∧ w = w') := by
 refine enter Tryz.func220 rfl rfl rfl _ (Pick.sub (l := [0]) (.cons rfl .nil)) ?_
 refine GG ?_
 refine QQ (Yld.lenStr u9 rfl) ?_
 refine GG ?_
 refine SP 6 (fun h6 => ?_) (fun h6 => ?_)
 ·refine QQ (Yld.pure rfl) ?_
  refine QQ (Yld.lenStr u9 rfl) ?_
  refine QQ (Yld.pure rfl) ?_
  refine GG ?_
  refine RK.ret_of Tryz.func220 (res1 rfl rfl) ?_ _
  exact ⟨_, rfl, congrArg _ (by rw [Bool.eq_iff_iff]; simp [valS]; omega), rfl⟩
 ·iterate 3 refine RL.no (.no rfl rfl rfl rfl) rfl rfl ?_
  refine GG ?_
  refine RK.ret_of Tryz.func220 (res1 rfl rfl) ?_ _
  exact ⟨_, rfl, congrArg _ (by rw [Bool.eq_iff_iff]; simp [valS]; omega), rfl⟩
@[irreducible] def chS (c : Int) : Bool := letS c || decide (48 ≤ c ∧ c ≤ 57)
@[irreducible] def nameS (s : ByteArray) : Bool := decide (1 ≤ s.size ∧ s.size ≤ 12) && letS (bt s 0).toNat && (List.range s.size).all fun i => chS (bt s i).toNat
theorem name_no1 {s : ByteArray} (h : ¬ (1 ≤ s.size ∧ s.size ≤ 12)) : nameS s = false := by simp [nameS, h]
theorem name_no2 {s : ByteArray} (h : letS (bt s 0).toNat = false) : nameS s = false := by simp [nameS, h]
theorem name_no3 {s : ByteArray} {i : Nat} (hi : i < s.size) (h : chS (bt s i).toNat = false) : nameS s = false := by
 simp only [nameS, Bool.and_eq_false_iff]
 refine .inr ?_
 rw [List.all_eq_false]
 exact ⟨i, List.mem_range.2 hi, by simp [h]⟩
theorem name_yes {s : ByteArray} (h1 : 1 ≤ s.size) (h2 : s.size ≤ 12) (h3 : letS (bt s 0).toNat = true) (h : ∀ i, i < s.size → chS (bt s i).toNat = true) : nameS s = true := by
 simp only [nameS, Bool.and_eq_true, decide_eq_true_eq, List.all_eq_true, List.mem_range]
 exact ⟨⟨⟨h1, h2⟩, h3⟩, h⟩
theorem name_ok (s : ByteArray) (w : World) : Fx Tryz.prog 219 [.string s] w (fun v w' => v = .bool (nameS s) ∧ w = w') := by
 refine enter Tryz.func219 rfl rfl rfl _ (Pick.sub (l := [0]) (.cons rfl .nil)) ?_
 refine GG ?_
 refine QQ (Yld.lenStr u9 rfl) ?_
 refine GG ?_
 refine SP 7 (fun h7 => ?_) (fun h7 => ?_)
 ·iterate 3 refine RL.no (.no rfl rfl rfl rfl) rfl rfl ?_
  refine GG ?_
  iterate 4 refine RL.no (.no rfl rfl rfl rfl) rfl rfl ?_
  refine GG ?_
  refine RK.condT rfl ?_
  refine GG ?_
  refine RK.ret_of Tryz.func219 (res1 rfl rfl) ?_ _
  exact ⟨_, rfl, congrArg _ (by first
    | exact (name_no1 (by omega)).symm
    | exact (name_no3 (i := k) (by omega) (by simp at h28; simp [chS, h28]; omega)).symm
    | exact (name_yes (by omega) (by omega) (by simpa using h17) fun i hi => hall i (by omega)).symm
    | exact (name_no2 (by simpa using h17)).symm), rfl⟩
 ·refine QQ (Yld.pure rfl) ?_
  refine QQ (Yld.lenStr u9 rfl) ?_
  refine QQ (Yld.pure rfl) ?_
  refine GG ?_
  refine SP 12 (fun h12 => ?_) (fun h12 => ?_)
  ·iterate 4 refine RL.no (.no rfl rfl rfl rfl) rfl rfl ?_
   refine GG ?_
   refine RK.condT rfl ?_
   refine GG ?_
   refine RK.ret_of Tryz.func219 (res1 rfl rfl) ?_ _
   exact ⟨_, rfl, congrArg _ (by first
     | exact (name_no1 (by omega)).symm
     | exact (name_no3 (i := k) (by omega) (by simp at h28; simp [chS, h28]; omega)).symm
     | exact (name_yes (by omega) (by omega) (by simpa using h17) fun i hi => hall i (by omega)).symm
     | exact (name_no2 (by simpa using h17)).symm), rfl⟩
  ·refine QQ (Yld.pure rfl) ?_
   refine QQ (Yld.idxStr u9 rfl rfl (by omega) (by omega)) ?_
   refine OP (Does.call rfl e266 (letter_ok _ _)) ?_
   rintro _ _ ⟨rfl, rfl⟩
   refine QQ (Yld.pure rfl) ?_
   refine GG ?_
   refine CD (fun h17 => ?_) (fun h17 => ?_)
   ·refine GG ?_
    refine RK.ret_of Tryz.func219 (res1 rfl rfl) ?_ _
    exact ⟨_, rfl, congrArg _ (by first
      | exact (name_no1 (by omega)).symm
      | exact (name_no3 (i := k) (by omega) (by simp at h28; simp [chS, h28]; omega)).symm
      | exact (name_yes (by omega) (by omega) (by simpa using h17) fun i hi => hall i (by omega)).symm
      | exact (name_no2 (by simpa using h17)).symm), rfl⟩
   ·refine GG ?_
    refine QQ (Yld.lenStr u9 rfl) ?_
    refine GG ?_
    refine RK.loop (fun k : Nat => [(0, .string s), (19, .int .i64 s.size), (20, .int .i64 k)]) (fun k w' => w = w' ∧ k ≤ s.size ∧ ∀ i, i < k → chS (bt s i).toNat = true) (fun k => s.size - k) 0 ⟨rfl, rfl, rfl, trivial⟩ ⟨rfl, by omega, fun i hi => by omega⟩ (fun k w' hI ih => ?_)
    obtain ⟨rfl, hk, hall⟩ := hI
    refine GG ?_
    refine CD (fun h21 => ?_) (fun h21 => ?_)
    ·refine GG ?_
     refine QQ (Yld.idxStrN u9 rfl rfl (by omega)) ?_
     refine OP (Does.call rfl e266 (letter_ok _ _)) ?_
     rintro _ _ ⟨rfl, rfl⟩
     refine GG ?_
     refine SP 28 (fun h28 => ?_) (fun h28 => ?_)
     ·iterate 2 refine QQ (Yld.pure rfl) ?_
      refine QQ (Yld.idxStrN u9 rfl rfl (by omega)) ?_
      iterate 2 refine QQ (Yld.pure rfl) ?_
      refine SP 33 (fun h33 => ?_) (fun h33 => ?_)
      ·iterate 4 refine RL.no (.no rfl rfl rfl rfl) rfl rfl ?_
       refine QQ (Yld.pure rfl) ?_
       refine GG ?_
       refine RK.condT rfl ?_
       refine GG ?_
       refine RK.ret_of Tryz.func219 (res1 rfl rfl) ?_ _
       exact ⟨_, rfl, congrArg _ (by first
         | exact (name_no1 (by omega)).symm
         | exact (name_no3 (i := k) (by omega) (by simp at h28; simp [chS, h28]; omega)).symm
         | exact (name_yes (by omega) (by omega) (by simpa using h17) fun i hi => hall i (by omega)).symm
         | exact (name_no2 (by simpa using h17)).symm), rfl⟩
      ·iterate 2 refine QQ (Yld.pure rfl) ?_
       refine QQ (Yld.idxStrN u9 rfl rfl (by omega)) ?_
       iterate 2 refine QQ (Yld.pure rfl) ?_
       refine GG ?_
       refine CD (fun h39 => ?_) (fun h39 => ?_)
       ·refine GG ?_
        refine RK.ret_of Tryz.func219 (res1 rfl rfl) ?_ _
        exact ⟨_, rfl, congrArg _ (by first
          | exact (name_no1 (by omega)).symm
          | exact (name_no3 (i := k) (by omega) (by simp at h28; simp [chS, h28]; omega)).symm
          | exact (name_yes (by omega) (by omega) (by simpa using h17) fun i hi => hall i (by omega)).symm
          | exact (name_no2 (by simpa using h17)).symm), rfl⟩
       ·refine RK.skip ?_
        refine RK.inBlock ?_
        refine RK.region ?_
        iterate 2 refine RL.p rfl rfl ?_
        refine RL.re (d := 20) rfl rfl (succ_i64 (by omega)) ?_
        refine RL.done ?_
        exact RK.back (ih (k + 1) _ ⟨rfl, by omega, fun i hi => by by_cases e : i = k; (subst e; simp at h28; simp [chS, h28]; try omega); exact hall i (by omega)⟩ (by omega)) ⟨rfl, rfl, rfl, trivial⟩
     ·iterate 10 refine RL.no (.no rfl rfl rfl rfl) rfl rfl ?_
      refine GG ?_
      refine RK.condF rfl ?_
      refine RK.skip ?_
      refine RK.inBlock ?_
      refine RK.region ?_
      iterate 2 refine RL.p rfl rfl ?_
      refine RL.re (d := 20) rfl rfl (succ_i64 (by omega)) ?_
      refine RL.done ?_
      exact RK.back (ih (k + 1) _ ⟨rfl, by omega, fun i hi => by by_cases e : i = k; (subst e; simp at h28; simp [chS, h28]; try omega); exact hall i (by omega)⟩ (by omega)) ⟨rfl, rfl, rfl, trivial⟩
    ·refine RK.exit rfl ?_
     refine GG ?_
     refine RK.ret_of Tryz.func219 (res1 rfl rfl) ?_ _
     exact ⟨_, rfl, congrArg _ (by first
       | exact (name_no1 (by omega)).symm
       | exact (name_no3 (i := k) (by omega) (by simp at h28; simp [chS, h28]; omega)).symm
       | exact (name_yes (by omega) (by omega) (by simpa using h17) fun i hi => hall i (by omega)).symm
       | exact (name_no2 (by simpa using h17)).symm), rfl⟩
@[irreducible] def nanS (b : Nat) : Bool := Ieee.double.order b b != some .eq
theorem no_ok (b : Nat) (w : World) : Fx Tryz.prog 221 [.float .f64 b] w (fun v w' => v = .bool (nanS b) ∧ w = w') := by
 refine enter Tryz.func221 rfl rfl rfl _ (Pick.sub (l := [0]) (.cons rfl .nil)) ?_
 refine GG ?_
 refine RK.ret_of Tryz.func221 (res1 rfl rfl) ?_ _
 exact ⟨_, rfl, by unfold nanS; rfl, rfl⟩
def bitsS (b : Nat) : Int := if nanS b then 9221120237041090561 else b
theorem bits_ok (b : Nat) (w : World) : Fx Tryz.prog 173 [.float .f64 b] w (fun v w' => v = .int .u64 (bitsS b) ∧ w = w') := by
 refine enter Tryz.func173 rfl rfl rfl _ (Pick.sub (l := [0]) (.cons rfl .nil)) ?_
 refine GG ?_
 refine OP (Does.call rfl e221 (no_ok b _)) ?_
 rintro _ _ ⟨rfl, rfl⟩
 refine RL.done ?_
 refine CD (fun h4 => ?_) (fun h4 => ?_)
 ·refine GG ?_
  refine RK.ret_of Tryz.func173 (res1 rfl rfl) ?_ _
  exact ⟨_, rfl, by simp_all [bitsS], rfl⟩
 ·refine GG ?_
  refine QQ (Yld.callx rfl (fun w => x169 _ w)) ?_
  refine GG ?_
  refine RK.ret_of Tryz.func173 (res1 rfl rfl) ?_ _
  exact ⟨_, rfl, by simp_all [bitsS], rfl⟩
end Go.Proofs.YthbjfhhiajihfaaGreat
set_option linter.unusedVariables false
set_option linter.unusedSimpArgs false
set_option maxHeartbeats 400000
set_option maxRecDepth 100000
namespace Go.Proofs.YthbjfhhiajihfaaGreat
open Go Go.X
structure Lab where
 name : ByteArray
 value : ByteArray
 deriving DecidableEq, Inhabited
def labC (l : Lab) : List Value := [.string l.name, .string l.value]
theorem labC_len (l : Lab) : (labC l).length = 2 := rfl
abbrev SlL (M : Nat → Prop) (w : World) (v : Value) (ls : List Lab) : Prop := Sl M w v 2 ls.length (ls.flatMap labC)
@[irreducible] def okAt (ls : List Lab) (i : Nat) : Bool := match ls[i]? with
 | none => true
 | some x => nameS x.name && valS x.value && match i with
  | 0 => true
  | j + 1 => match ls[j]? with
   | none => true
   | some y => slt y.name x.name
@[irreducible] def isS (ls : List Lab) : Bool := decide (1 ≤ ls.length ∧ ls.length ≤ 6) && (List.range ls.length).all (okAt ls)
theorem is_no1 {ls : List Lab} (h : ¬ (1 ≤ ls.length ∧ ls.length ≤ 6)) : isS ls = false := by simp [isS, h]
theorem is_no2 {ls : List Lab} {i : Nat} (hi : i < ls.length) (h : okAt ls i = false) : isS ls = false := by
 simp only [isS, Bool.and_eq_false_iff]
 exact .inr (List.all_eq_false.2 ⟨i, List.mem_range.2 hi, by simp [h]⟩)
theorem is_yes {ls : List Lab} (h1 : 1 ≤ ls.length) (h2 : ls.length ≤ 6) (h : ∀ i, i < ls.length → okAt ls i = true) : isS ls = true := by
 simp only [isS, Bool.and_eq_true, decide_eq_true_eq, List.all_eq_true, List.mem_range]
 exact ⟨⟨h1, h2⟩, h⟩
theorem okAt_no1 {ls : List Lab} {k : Nat} {x : Lab} (hx : ls[k]? = some x) (h : (!nameS x.name) = true) : okAt ls k = false := by simp at h; simp [okAt, hx, h]
theorem okAt_no2 {ls : List Lab} {k : Nat} {x : Lab} (hx : ls[k]? = some x) (h : (!valS x.value) = true) : okAt ls k = false := by simp at h; simp [okAt, hx, h]
theorem okAt_no3 {ls : List Lab} {k j : Nat} {x y : Lab} (hx : ls[k]? = some x) (hj : k = j + 1) (hy : ls[j]? = some y) (h : sle x.name y.name = true) : okAt ls k = false := by
 subst hj
 rw [sle_not] at h
 simp at h
 simp [okAt, hx, hy, h]
theorem okAt_yes0 {ls : List Lab} {k : Nat} {x : Lab} (hx : ls[k]? = some x) (h1 : (!nameS x.name) = false) (h2 : (!valS x.value) = false) (hk : k = 0) : okAt ls k = true := by
 subst hk; simp at h1 h2; simp [okAt, hx, h1, h2]
theorem okAt_yes1 {ls : List Lab} {k j : Nat} {x y : Lab} (hx : ls[k]? = some x) (h1 : (!nameS x.name) = false) (h2 : (!valS x.value) = false) (hj : k = j + 1) (hy : ls[j]? = some y) (h : sle x.name y.name = false) : okAt ls k = true := by
 subst hj
 rw [sle_not] at h
 simp at h h1 h2
 simp [okAt, hx, hy, h, h1, h2]
theorem ok_snoc {ls : List Lab} {k : Nat} (h : ∀ i, i < k → okAt ls i = true) (hk : okAt ls k = true) : ∀ i, i < k + 1 → okAt ls i = true := fun i hi => by
 by_cases e : i = k
 ·rw [e]; exact hk
 ·exact h i (by omega)
theorem is_ok (M : Nat → Prop) (ls : List Lab) (v : Value) (w : World) (hv : SlL M w v ls) : Fx Tryz.prog 171 [v] w (fun u w' => u = .bool (isS ls) ∧ Grow w w') := by
 obtain ⟨ad, c, rfl⟩ := hv.shape
 refine enter Tryz.func171 rfl rfl rfl _ (Pick.sub (l := [0]) (.cons rfl .nil)) ?_
 refine GG ?_
 refine QQ (Yld.lenSl u33 rfl) ?_
 refine GG ?_
 refine SP 8 (fun h8 => ?_) (fun h8 => ?_)
 ·iterate 3 refine RL.no (.no rfl rfl rfl rfl) rfl rfl ?_
  refine GG ?_
  refine RK.condT rfl ?_
  refine GG ?_
  refine RK.ret_of Tryz.func171 (res1 rfl rfl) ?_ _
  exact ⟨_, rfl, congrArg _ (by first
    | exact (is_no1 (by omega)).symm
    | exact (is_no2 (i := k) (by omega) (okAt_no1 hx h24)).symm
    | exact (is_no2 (i := k) (by omega) (okAt_no2 hx h30)).symm
    | exact (is_no2 (i := k) (by omega) (okAt_no3 hx hj hy h44)).symm
    | exact (is_yes (by omega) (by omega) fun i hi => hall i (by omega)).symm), by first
    | exact Mod.refl _ _
    | exact hg2.trans (Mod.drew _ _)
    | exact hg⟩
 ·refine QQ (Yld.pure rfl) ?_
  refine QQ (Yld.lenSl u33 rfl) ?_
  refine QQ (Yld.pure rfl) ?_
  refine GG ?_
  refine CD (fun h12 => ?_) (fun h12 => ?_)
  ·refine GG ?_
   refine RK.ret_of Tryz.func171 (res1 rfl rfl) ?_ _
   exact ⟨_, rfl, congrArg _ (by first
     | exact (is_no1 (by omega)).symm
     | exact (is_no2 (i := k) (by omega) (okAt_no1 hx h24)).symm
     | exact (is_no2 (i := k) (by omega) (okAt_no2 hx h30)).symm
     | exact (is_no2 (i := k) (by omega) (okAt_no3 hx hj hy h44)).symm
     | exact (is_yes (by omega) (by omega) fun i hi => hall i (by omega)).symm), by first
     | exact Mod.refl _ _
     | exact hg2.trans (Mod.drew _ _)
     | exact hg⟩
  ·refine GG ?_
   refine QQ (Yld.lenSl u33 rfl) ?_
   refine GG ?_
   refine RK.loop (fun k : Nat => [(0, .slice ad ls.length c), (13, .slice ad ls.length c), (14, .int .i64 ls.length), (15, .int .i64 k)]) (fun k w' => Grow w w' ∧ k ≤ ls.length ∧ ∀ i, i < k → okAt ls i = true) (fun k => ls.length - k) 0 ⟨rfl, rfl, rfl, rfl, trivial⟩ ⟨Mod.refl _ _, by omega, fun i hi => by omega⟩ (fun k w' hI ih => ?_)
   obtain ⟨hg, hk, hall⟩ := hI
   refine GG ?_
   refine CD (fun h16 => ?_) (fun h16 => ?_)
   ·obtain ⟨x, hx⟩ : ∃ x, ls[k]? = some x := ⟨ls[k]'(by omega), List.getElem?_eq_getElem (by omega)⟩
    obtain ⟨b, o, c', he, hb, hkl, hcell⟩ := hv.elem labC_len hx
    cases he
    refine GG ?_
    refine QQ (Yld.indexAddrN u33 i79 rfl rfl (by omega)) ?_
    refine QQ (Yld.loadN (cs := [.string x.name, .string x.value]) a79 rfl (atN (fun j u hj => hg.cell (hcell j u hj) (fun h => h)))) ?_
    refine OP (Does.alloc i79) ?_
    rintro _ w1 ⟨b1, rfl, hn1⟩
    refine RL.p rfl rfl ?_
    refine OQ (Does.storeN i79 rfl rfl rfl rfl hn1.blk (Nat.le_refl 2)) ?_
    rintro _ w2 ⟨hb2, hm2, _⟩
    have hB : Blk w2 b1 79 [.string x.name, .string x.value] := hb2
    have hg2 : Grow w w2 := (hg.trans hn1.grow).then hm2 (fun y hy e => by have := hn1.at_; have := hg.size; omega)
    refine GG ?_
    refine RK.drawM No [(0, false), (1, false), (2, true), (3, false), (4, false), (5, false), (6, false), (7, true), (8, false), (9, false), (10, false), (11, false), (12, false), (13, false), (14, false), (15, false), (16, false), (17, false), (18, false), (19, false), (20, false), (21, false), (22, false), (23, false), (24, false)] [] mixed (by kernel_rfl) ?_
    refine DF (Yld.fieldAddr fo79_0 rfl) ?_
    refine DQ (Yld.load p9 rfl (atM (hB.cell rfl) id)) (Mod.drew _ _) ?_
    refine OD (Does.call rfl e219 (name_ok _ _)) ?_
    rintro _ _ ⟨rfl, rfl⟩
    refine ⟨Mod.drew _ _, ?_⟩
    refine GG ?_
    refine SD 24 (fun h24 => ?_) (fun h24 => ?_)
    ·iterate 2 refine DL.no rfl (.no rfl rfl rfl rfl) rfl rfl ?_
     refine DL.lno rfl (.no rfl rfl rfl rfl) rfl rfl ?_
     refine DL.no rfl (.no rfl rfl rfl rfl) rfl rfl ?_
     refine GG ?_
     iterate 13 refine DL.no rfl (.no rfl rfl rfl rfl) rfl rfl ?_
     refine GG ?_
     refine RK.condT rfl ?_
     refine GG ?_
     refine RK.ret_of Tryz.func171 (res1 rfl rfl) ?_ _
     exact ⟨_, rfl, congrArg _ (by first
       | exact (is_no1 (by omega)).symm
       | exact (is_no2 (i := k) (by omega) (okAt_no1 hx h24)).symm
       | exact (is_no2 (i := k) (by omega) (okAt_no2 hx h30)).symm
       | exact (is_no2 (i := k) (by omega) (okAt_no3 hx hj hy h44)).symm
       | exact (is_yes (by omega) (by omega) fun i hi => hall i (by omega)).symm), by first
       | exact Mod.refl _ _
       | exact hg2.trans (Mod.drew _ _)
       | exact hg⟩
    ·refine DF (Yld.fieldAddr fo79_1 rfl) ?_
     refine DQ (Yld.load p9 rfl (atM (hB.cell rfl) id)) (Mod.drew _ _) ?_
     refine OD (Does.call rfl e220 (value_ok _ _)) ?_
     rintro _ _ ⟨rfl, rfl⟩
     refine ⟨Mod.drew _ _, ?_⟩
     refine DF (Yld.pure rfl) ?_
     refine GG ?_
     refine SD 30 (fun h30 => ?_) (fun h30 => ?_)
     ·iterate 13 refine DL.no rfl (.no rfl rfl rfl rfl) rfl rfl ?_
      refine GG ?_
      refine RK.condT rfl ?_
      refine GG ?_
      refine RK.ret_of Tryz.func171 (res1 rfl rfl) ?_ _
      exact ⟨_, rfl, congrArg _ (by first
        | exact (is_no1 (by omega)).symm
        | exact (is_no2 (i := k) (by omega) (okAt_no1 hx h24)).symm
        | exact (is_no2 (i := k) (by omega) (okAt_no2 hx h30)).symm
        | exact (is_no2 (i := k) (by omega) (okAt_no3 hx hj hy h44)).symm
        | exact (is_yes (by omega) (by omega) fun i hi => hall i (by omega)).symm), by first
        | exact Mod.refl _ _
        | exact hg2.trans (Mod.drew _ _)
        | exact hg⟩
     ·iterate 3 refine DF (Yld.pure rfl) ?_
      refine SD 33 (fun h33 => ?_) (fun h33 => ?_)
      ·obtain ⟨j, hj⟩ : ∃ j, k = j + 1 := ⟨k - 1, by omega⟩
       obtain ⟨y, hy⟩ : ∃ y, ls[j]? = some y := ⟨ls[j]'(by omega), List.getElem?_eq_getElem (by omega)⟩
       obtain ⟨b', o', c', he, hb', hkl', hcell'⟩ := hv.elem labC_len hy
       cases he
       refine DF (Yld.fieldAddr fo79_0 rfl) ?_
       refine DQ (Yld.load p9 rfl (atM (hB.cell rfl) id)) (Mod.drew _ _) ?_
       iterate 3 refine DF (Yld.pure rfl) ?_
       refine DL.re (d := 38) rfl rfl (sub_i64 (z := (j : Int)) (by omega) (by omega) (by omega)) ?_
       refine DF (Yld.indexAddrN u33 i79 rfl rfl (by omega)) ?_
       refine DF (Yld.fieldAddr fo79_0 rfl) ?_
       refine DQ (Yld.load p9 rfl (atM (hg2.cell (hcell' 0 _ rfl) (fun h => h)) id)) (Mod.drew _ _) ?_
       iterate 2 refine DF (Yld.pure rfl) ?_
       refine GG ?_
       refine CD (fun h44 => ?_) (fun h44 => ?_)
       ·refine GG ?_
        refine RK.ret_of Tryz.func171 (res1 rfl rfl) ?_ _
        exact ⟨_, rfl, congrArg _ (by first
          | exact (is_no1 (by omega)).symm
          | exact (is_no2 (i := k) (by omega) (okAt_no1 hx h24)).symm
          | exact (is_no2 (i := k) (by omega) (okAt_no2 hx h30)).symm
          | exact (is_no2 (i := k) (by omega) (okAt_no3 hx hj hy h44)).symm
          | exact (is_yes (by omega) (by omega) fun i hi => hall i (by omega)).symm), by first
          | exact Mod.refl _ _
          | exact hg2.trans (Mod.drew _ _)
          | exact hg⟩
       ·refine RK.skip ?_
        refine RK.inBlock ?_
        refine RK.region ?_
        refine RL.p rfl rfl ?_
        refine RL.re (d := 45) rfl rfl (succ_i64 (by omega)) ?_
        refine GG ?_
        exact RK.back (ih (k + 1) _ ⟨hg2.trans (Mod.drew _ _), by omega, ok_snoc hall (by first | exact okAt_yes1 hx h24 h30 hj hy h44 | exact okAt_yes0 hx h24 h30 (by omega))⟩ (by omega)) ⟨rfl, rfl, rfl, rfl, trivial⟩
      ·iterate 9 refine DL.no rfl (.no rfl rfl rfl rfl) rfl rfl ?_
       refine DF (Yld.pure rfl) ?_
       refine GG ?_
       refine RK.condF rfl ?_
       refine RK.skip ?_
       refine RK.inBlock ?_
       refine RK.region ?_
       refine RL.p rfl rfl ?_
       refine RL.re (d := 45) rfl rfl (succ_i64 (by omega)) ?_
       refine GG ?_
       exact RK.back (ih (k + 1) _ ⟨hg2.trans (Mod.drew _ _), by omega, ok_snoc hall (by first | exact okAt_yes1 hx h24 h30 hj hy h44 | exact okAt_yes0 hx h24 h30 (by omega))⟩ (by omega)) ⟨rfl, rfl, rfl, rfl, trivial⟩
   ·refine RK.exit rfl ?_
    refine GG ?_
    refine RK.ret_of Tryz.func171 (res1 rfl rfl) ?_ _
    exact ⟨_, rfl, congrArg _ (by first
      | exact (is_no1 (by omega)).symm
      | exact (is_no2 (i := k) (by omega) (okAt_no1 hx h24)).symm
      | exact (is_no2 (i := k) (by omega) (okAt_no2 hx h30)).symm
      | exact (is_no2 (i := k) (by omega) (okAt_no3 hx hj hy h44)).symm
      | exact (is_yes (by omega) (by omega) fun i hi => hall i (by omega)).symm), by first
      | exact Mod.refl _ _
      | exact hg2.trans (Mod.drew _ _)
      | exact hg⟩
end Go.Proofs.YthbjfhhiajihfaaGreat
set_option linter.unusedVariables false
set_option linter.unusedSimpArgs false
set_option maxHeartbeats 400000
set_option maxRecDepth 100000
namespace Go.Proofs.YthbjfhhiajihfaaGreat
open Go Go.X
theorem allOne_ints (xs : List Int) : (xs.map (Value.int .i64)).all (·.oneCell') = true := by simp [Value.oneCell']
theorem allOne_labs (ls : List Lab) : (ls.flatMap labC).all (·.oneCell') = true := by
 rw [List.all_eq_true]
 intro u hu
 simp only [List.mem_flatMap, labC] at hu
 obtain ⟨x, _, hu⟩ := hu
 simp at hu
 rcases hu with rfl | rfl <;> rfl
theorem cloneI_ok (M : Nat → Prop) (xs : List Int) (v : Value) (w : World) (hv : Sl M w v 1 xs.length (xs.map (.int .i64))) (hb : xs.length * 8 ≤ 140737488355328) :
  Fx Tryz.prog 144 [v] w (fun u w' => Row w' 3 1 u xs.length (xs.map (.int .i64)) ∧ Fresh w.heap.size u ∧ Grow w w') := by
 obtain ⟨ad, c, b, o, rfl, hf⟩ := hv.open
 refine enter Tryz.func144 rfl rfl rfl _ (Pick.sub (l := [0]) (.cons rfl .nil)) ?_
 refine GG ?_
 refine QQ (Yld.eqNil u37 rfl rfl) ?_
 refine RL.done ?_
 refine CD (fun h4 => ?_) (fun h4 => ?_)
 ·refine GG ?_
  refine RK.ret_of Tryz.func144 (res1 rfl rfl) ?_ _
  exact ⟨_, rfl, by cases ad with | none => (have h0 : xs.length = 0 := by (rcases Nat.eq_zero_or_pos xs.length with h | h; exact h; exact absurd (hf h).1 (by simp))); have : xs = [] := List.eq_nil_of_length_eq_zero h0; subst this; exact ⟨Row.nil _ _ _, fun b hb => by simp [Value.ownBlock] at hb, Mod.refl _ _⟩ | some a => simp at h4⟩
 ·refine GG ?_
  refine OP (Does.slice0 u37 i3) ?_
  rintro _ w1 ⟨b1, rfl, hn1⟩
  refine RL.p rfl rfl ?_
  refine OP (Does.append u37 i3 rfl rfl rfl rfl rfl (Row.new hn1 1 0 rfl (by omega)) ((hv.mod (Mod.any' hn1.grow)).noM) (allOne_ints xs) (by omega)) ?_
  rintro u w2 ⟨hr, hm, hu⟩
  refine GG ?_
  refine RK.ret_of Tryz.func144 (res1 rfl rfl) ?_ _
  exact ⟨_, rfl, by simpa using hr, fun b hb => by rcases hu with hu | hu <;> rw [hu] at hb <;> simp [Value.ownBlock] at hb <;> (have := hn1.at_; have := hn1.size; omega), hn1.grow.then hm (fun x hx e => by simp [Value.ownBlock] at e; have := hn1.at_; omega)⟩
end Go.Proofs.YthbjfhhiajihfaaGreat
set_option linter.unusedVariables false
set_option linter.unusedSimpArgs false
set_option maxHeartbeats 400000
set_option maxRecDepth 100000
namespace Go.Proofs.YthbjfhhiajihfaaGreat
open Go Go.X
abbrev ints (xs : List Int) : List Value := xs.map (Value.int .i64)
theorem compact_le (xs : List Int) : (Lib.compact xs).length ≤ xs.length := by
 unfold Lib.compact Lib.compactUpTo
 rw [List.length_map]
 exact Nat.le_trans (List.length_filter_le _ _) (by simp)
def sortI (xs : List Int) : List Int := xs.mergeSort fun x y => decide (x ≤ y)
theorem sortI_len (xs : List Int) : (sortI xs).length = xs.length := by simp [sortI]
theorem sort_ok (xs : List Int) (v : Value) (w : World) (hv : Row w 3 1 v xs.length (ints xs)) (hb : xs.length < 4611686018427387904) :
  Fx Tryz.prog 145 [v] w (fun u w' => u = .tuple #[] ∧ Row w' 3 1 v xs.length (ints (sortI xs)) ∧ Mod (fun b => v.ownBlock = some b) w w') := by
 rcases hv.2 with ⟨rfl, h0⟩ | ⟨g, cap, cur, rfl, _, hg, hn, hcap, hcs, htk⟩
 ·have : xs = [] := List.eq_nil_of_length_eq_zero h0
  subst this
  refine Calls.mono (Tryz.slices_Sort_int_none none 0 w) ?_
  rintro e w' ⟨rfl, rfl⟩
  exact ⟨_, rfl, rfl, by simpa [sortI] using Row.nil w' _ _, Mod.refl _ _⟩
 ·rw [Nat.mul_one] at htk
  refine Calls.mono (Tryz.slices_Sort_int g 0 cap xs w (holds_of_blockI hg htk) (Array.getElem?_eq_some_iff.1 hg).1 hb) ?_
  rintro e w' ⟨rfl, n, os, rfl⟩
  exact ⟨_, rfl, rfl, ownsRow_sortedI (by simp) (Nat.zero_le _) hg hn hcap hcs, Mod.grownBy (grownBy_sortedI _) (fun k h => by cases h; rfl)⟩
theorem compact_ok (xs : List Int) (v : Value) (w : World) (hv : Row w 3 1 v xs.length (ints xs)) :
  Fx Tryz.prog 146 [v] w (fun u w' => Row w' 3 1 u (Lib.compact xs).length (ints (Lib.compact xs)) ∧ u.ownBlock = v.ownBlock ∧ Mod (fun b => v.ownBlock = some b) w w') := by
 rcases hv.2 with ⟨rfl, h0⟩ | ⟨g, cap, cur, rfl, _, hg, hn, hcap, hcs, htk⟩
 ·have : xs = [] := List.eq_nil_of_length_eq_zero h0
  subst this
  refine Calls.mono (Tryz.slices_Compact_int_empty none 0 w) ?_
  rintro e w' ⟨rfl, rfl⟩
  exact ⟨_, rfl, Row.nil w' _ _, rfl, Mod.refl _ _⟩
 ·rw [Nat.mul_one] at htk
  refine Calls.mono (Tryz.slices_Compact_int g 0 cap xs w (holds_of_blockI hg htk) (by simp only [maxLen] at hcap; omega) hn) ?_
  rintro e w' ⟨rfl, q, rfl⟩
  have hle : (Lib.compact xs).length ≤ xs.length := compact_le xs
  have hh := heap_sortedI (n := q) (os := #[]) (Lib.compact xs ++ List.replicate (xs.length - (Lib.compact xs).length) 0).toArray hg
  have hgb := grownBy_sortedI (w := w) (g := g) (n := q) (os := #[]) (Lib.compact xs ++ List.replicate (xs.length - (Lib.compact xs).length) 0).toArray
  simp only [Sort.grow_empty] at hh hgb
  refine ⟨_, rfl, ⟨by simp, .inr ⟨g, cap, _, rfl, Nat.zero_le _, hh, by omega, hcap, by simp [Sort.putCells, hcs], ?_⟩⟩, rfl, Mod.grownBy hgb (fun k h => by cases h; rfl)⟩
  have := take_putCellsI cur (Lib.compact xs ++ List.replicate (xs.length - (Lib.compact xs).length) 0) (by simp; omega)
  have h2 := congrArg (List.take (Lib.compact xs).length) this
  rw [List.take_take, Nat.min_eq_left (by simp)] at h2
  rw [Nat.mul_one, h2]
  simp
theorem growNil_ok (m : Nat) (w : World) (hb : m * 8 ≤ 140737488355328) :
  Fx Tryz.prog 218 [.slice none 0 0, .int .i64 m] w (fun u w' => Row w' 3 1 u 0 [] ∧ Fresh w.heap.size u ∧ Grow w w') := by
 refine enter Tryz.func218 rfl rfl rfl _ (Pick.sub (l := [0, 1]) (.cons rfl (.cons rfl .nil))) ?_
 refine GG ?_
 refine RK.condF (hcF rfl (decide_eq_false (by omega))) ?_
 refine GG ?_
 refine QQ (Yld.capSl u37 rfl) ?_
 refine RL.p rfl rfl ?_
 refine QQ (Yld.lenSl u37 rfl) ?_
 refine RL.p rfl rfl ?_
 refine RL.re (d := 13) rfl rfl (sub_i64 (z := 0) (by omega) (by omega) (by omega)) ?_
 refine RL.p rfl rfl ?_
 refine RL.re (d := 14) rfl rfl (sub_i64 (z := (m : Int)) (by omega) (by omega) (by omega)) ?_
 refine GG ?_
 refine CD (fun h16 => ?_) (fun h16 => ?_)
 ·refine GG ?_
  refine QQ (Yld.capSl u37 rfl) ?_
  refine QQ (Yld.sliceHi u37 i3 (m := 0) rfl rfl (by omega)) ?_
  refine RL.p rfl rfl ?_
  refine OP (Does.appendZ u37 Tryz.underlying3 i3 rfl rfl (m := m) (c := 0) rfl rfl (by omega) hb) ?_
  rintro _ w1 ⟨b1, cap1, cur1, rfl, hb1, hh1, hc1, hm1, hs1, hg1⟩
  refine RL.p rfl rfl ?_
  refine QQ (Yld.lenSl u37 rfl) ?_
  refine QQ (Yld.sliceHi u37 i3 (m := 0) rfl rfl (by omega)) ?_
  refine GG ?_
  refine RK.ret_of Tryz.func218 (res1 rfl rfl) ?_ _
  exact ⟨_, rfl, ⟨by simp, .inr ⟨b1, cap1, cur1, rfl, Nat.zero_le _, hh1, by omega, hm1, hs1, by simp⟩⟩, fun b hb => by simp [Value.ownBlock] at hb; omega, hg1⟩
 ·refine GG ?_
  refine RK.ret_of Tryz.func218 (res1 rfl rfl) ?_ _
  exact ⟨_, rfl, Row.nil _ _ _, fun b hb => by simp [Value.ownBlock] at hb, Mod.refl _ _⟩
def total (pr : List (Value × List Int)) : Nat := (pr.map fun p => p.2.length).sum
theorem total_take {pr : List (Value × List Int)} {k : Nat} {p : Value × List Int} (h : pr[k]? = some p) : total (pr.take (k + 1)) = total (pr.take k) + p.2.length := by
 have hk : k < pr.length := (List.getElem?_eq_some_iff.1 h).1
 rw [List.take_succ_eq_append_getElem hk]
 have : pr[k] = p := (List.getElem?_eq_some_iff.1 h).2
 simp [total, this]
theorem total_le (pr : List (Value × List Int)) (k : Nat) : total (pr.take k) ≤ total pr := by
 have : total pr = total (pr.take k) + total (pr.drop k) := by
  unfold total
  rw [← List.sum_append, ← List.map_append, List.take_append_drop]
 omega
theorem concat_ok (M : Nat → Prop) (pr : List (Value × List Int)) (v : Value) (w : World) (hv : Sl M w v 1 pr.length (pr.map (·.1))) (hs : ∀ p ∈ pr, Sl M w p.1 1 p.2.length (ints p.2)) (hb : total pr * 8 ≤ 140737488355328) :
  Fx Tryz.prog 170 [v] w (fun u w' => Row w' 3 1 u (pr.flatMap (·.2)).length (ints (pr.flatMap (·.2))) ∧ Fresh w.heap.size u ∧ Grow w w') := by
 obtain ⟨ad, c, b, o, rfl, hf⟩ := hv.open
 refine enter Tryz.func170 rfl rfl rfl _ (Pick.sub (l := [0]) (.cons rfl .nil)) ?_
 refine GG ?_
 refine QQ (Yld.lenSl u266 rfl) ?_
 refine GG ?_
 refine RK.loop (fun k : Nat => [(0, .slice ad pr.length c), (9, .slice ad pr.length c), (10, .int .i64 pr.length), (11, .int .i64 k), (3, .int .i64 (total (pr.take k)))]) (fun k w' => w = w' ∧ k ≤ pr.length) (fun k => pr.length - k) 0 ⟨rfl, rfl, rfl, rfl, rfl, trivial⟩ ⟨rfl, by omega⟩ (fun k w' hI ih => ?_)
 obtain ⟨rfl, hk⟩ := hI
 refine GG ?_
 refine CD (fun h12 => ?_) (fun h12 => ?_)
 ·obtain ⟨p, hp⟩ : ∃ p, pr[k]? = some p := ⟨pr[k]'(by omega), List.getElem?_eq_getElem (by omega)⟩
  obtain ⟨rfl, hbM, hc⟩ := hf (by omega)
  have hsp := hs p (List.mem_of_getElem? hp)
  obtain ⟨adp, cp, hpv⟩ := hsp.shape
  have ht := total_take hp
  have htl := total_le pr (k + 1)
  refine GG ?_
  refine QQ (Yld.indexAddrN u266 i37 rfl rfl (by omega)) ?_
  refine QQ (Yld.load p37 rfl (at1 (by have := hc k p.1 (by simp [hp]); rw [hpv] at this; simpa using this))) ?_
  refine GG ?_
  refine QQ (Yld.lenSl u37 rfl) ?_
  refine RL.p rfl rfl ?_
  refine RL.re (d := 18) rfl rfl (add_i64 (z := ((total (pr.take (k + 1)) : Nat) : Int)) (by rw [ht]; simp) (by omega) (by omega)) ?_
  refine GG ?_
  refine RK.condF (hcF rfl (decide_eq_false (by omega))) ?_
  refine RK.skip ?_
  refine RK.inBlock ?_
  refine RK.region ?_
  refine RL.p rfl rfl ?_
  refine RL.re (d := 22) rfl rfl (succ_i64 (by have := hv.big; omega)) ?_
  refine GG ?_
  exact RK.back (ih (k + 1) _ ⟨rfl, by omega⟩ (by omega)) ⟨rfl, rfl, rfl, rfl, rfl, trivial⟩
 ·have ek : pr.take k = pr := List.take_of_length_le (by omega)
  rw [ek]
  refine RK.exit rfl ?_
  refine GG ?_
  refine OP (Does.call rfl e218 (growNil_ok (total pr) _ hb)) ?_
  rintro u0 w1 ⟨hr1, hf1, hg1⟩
  refine GG ?_
  refine QQ (Yld.lenSl u266 rfl) ?_
  refine GG ?_
  refine RK.loop (fun (s : Nat × Value) => [(25, .slice ad pr.length c), (26, .int .i64 pr.length), (27, .int .i64 s.1), (6, s.2)]) (fun s w' => Row w' 3 1 s.2 ((pr.take s.1).flatMap (·.2)).length (ints ((pr.take s.1).flatMap (·.2))) ∧ Fresh w.heap.size s.2 ∧ Grow w w' ∧ s.1 ≤ pr.length) (fun s => pr.length - s.1) (0, u0) ⟨rfl, rfl, rfl, rfl, trivial⟩ ⟨by simpa using hr1, hf1, hg1, by omega⟩ (fun s w' hI ih => ?_)
  obtain ⟨k2, u⟩ := s
  obtain ⟨hr, hfr, hg, hk2⟩ := hI
  simp only at hr hfr hk2
  refine GG ?_
  refine CD (fun h28 => ?_) (fun h28 => ?_)
  ·obtain ⟨p, hp⟩ : ∃ p, pr[k2]? = some p := ⟨pr[k2]'(by omega), List.getElem?_eq_getElem (by omega)⟩
   obtain ⟨rfl, hbM, hc⟩ := hf (by omega)
   have hsp := hs p (List.mem_of_getElem? hp)
   have ht := total_take hp
   have htl := total_le pr (k2 + 1)
   have e1 : ((pr.take k2).flatMap (·.2)).length = total (pr.take k2) := by simp [total, List.length_flatMap]
   have e2 : (pr.take (k2 + 1)).flatMap (·.2) = (pr.take k2).flatMap (·.2) ++ p.2 := by rw [List.take_succ_eq_append_getElem (by omega)]; simp [(List.getElem?_eq_some_iff.1 hp).2]
   refine GG ?_
   refine QQ (Yld.indexAddrN u266 i37 rfl rfl (by omega)) ?_
   refine QQ (Yld.load p37 rfl (at1 (hg.cell (by have := hc k2 p.1 (by simp [hp]); simpa using this) (fun h => h)))) ?_
   refine GG ?_
   refine OP (Does.append u37 i3 rfl rfl rfl rfl rfl (hr) ((hsp.mod (Mod.any' hg)).noM) (allOne_ints _) (by rw [e1]; omega)) ?_
   rintro u2 w2 ⟨hr2, hm2, hu2⟩
   refine RL.p rfl rfl ?_
   refine RL.done ?_
   refine RK.inBlock ?_
   refine RK.region ?_
   refine RL.p rfl rfl ?_
   refine RL.re (d := 34) rfl rfl (succ_i64 (by have := hv.big; omega)) ?_
   refine GG ?_
   exact RK.back (ih (k2 + 1, u2) _ ⟨by rw [e2]; simpa using hr2, fun b hb => by rcases hu2 with h | h <;> rw [h] at hb; exact hfr b hb; (cases hb; exact hg.size), hg.then hm2 (fun x hx e => by have := hfr x e; omega), by simp; omega⟩ (by simp; omega)) ⟨rfl, rfl, rfl, rfl, trivial⟩
  ·have ek2 : pr.take k2 = pr := List.take_of_length_le (by omega)
   rw [ek2] at hr
   refine RK.exit rfl ?_
   refine GG ?_
   refine RK.ret_of Tryz.func170 (res1 rfl rfl) ?_ _
   exact ⟨_, rfl, hr, hfr, hg⟩
end Go.Proofs.YthbjfhhiajihfaaGreat
set_option linter.unusedVariables false
set_option linter.unusedSimpArgs false
set_option maxHeartbeats 400000
set_option maxRecDepth 100000
namespace Go.Proofs.YthbjfhhiajihfaaGreat
open Go Go.X
def mkRow (xs : List Int) : List Int := Lib.compact (sortI xs)
theorem mkRow_le (xs : List Int) : (mkRow xs).length ≤ xs.length := by
 have := compact_le (sortI xs)
 rw [sortI_len] at this
 exact this
theorem make_ok (M : Nat → Prop) (xs : List Int) (v : Value) (w : World) (hv : Sl M w v 1 xs.length (ints xs)) (hb : xs.length * 8 ≤ 140737488355328) :
  Fx Tryz.prog 78 [v] w (fun u w' => Row w' 3 1 u (mkRow xs).length (ints (mkRow xs)) ∧ Fresh w.heap.size u ∧ Grow w w') := by
 refine enter Tryz.func78 rfl rfl rfl _ (Pick.sub (l := [0]) (.cons rfl .nil)) ?_
 refine GG ?_
 refine OP (Does.call rfl e144 (cloneI_ok M xs v _ hv hb)) ?_
 rintro u1 w1 ⟨hr1, hf1, hg1⟩
 refine GG ?_
 refine OP (Does.call rfl e145 (sort_ok xs u1 _ hr1 (by omega))) ?_
 rintro _ w2 ⟨rfl, hr2, hm2⟩
 refine GG ?_
 refine OP (Does.call rfl e146 (compact_ok (sortI xs) u1 _ (by rw [sortI_len]; exact hr2))) ?_
 rintro u3 w3 ⟨hr3, hu3, hm3⟩
 refine GG ?_
 refine RK.ret_of Tryz.func78 (res1 rfl rfl) ?_ _
 exact ⟨_, rfl, hr3, fun b hb => hf1 b (by rw [← hu3]; exact hb), (hg1.then hm2 (fun x hx e => by have := hf1 x e; omega)).then hm3 (fun x hx e => by have := hf1 x e; omega)⟩
theorem or_ok (M : Nat → Prop) (xs ys : List Int) (va vb : Value) (w : World) (ha : Sl M w va 1 xs.length (ints xs)) (hbv : Sl M w vb 1 ys.length (ints ys)) (hb : (xs.length + ys.length) * 8 ≤ 140737488355328) :
  Fx Tryz.prog 123 [va, vb] w (fun u w' => Row w' 3 1 u (mkRow (xs ++ ys)).length (ints (mkRow (xs ++ ys))) ∧ Fresh w.heap.size u ∧ Grow w w') := by
 obtain ⟨ad, c, rfl⟩ := ha.shape
 obtain ⟨ad', c', rfl⟩ := hbv.shape
 refine enter Tryz.func123 rfl rfl rfl _ (Pick.sub (l := [0, 1]) (.cons rfl (.cons rfl .nil))) ?_
 refine GG ?_
 refine OP (Does.bslice (el := 37) ([.slice ad xs.length c, .slice ad' ys.length c']) rfl (fun w => by kernel_rfl)) ?_
 rintro _ w1 ⟨b1, rfl, hn1⟩
 refine OP (Does.call rfl e170 (concat_ok No [(.slice ad xs.length c, xs), (.slice ad' ys.length c', ys)] _ _ (Sl.new hn1 1 2 rfl (by omega) (fun h => h)) (by intro p hp; simp at hp; rcases hp with rfl | rfl; exact (ha.mod (Mod.any' hn1.grow)).noM; exact (hbv.mod (Mod.any' hn1.grow)).noM) (by simp [total]; omega))) ?_
 rintro u2 w2 ⟨hr2, hf2, hg2⟩
 simp only [List.flatMap_cons, List.flatMap_nil, List.append_nil] at hr2
 refine OP (Does.call rfl e78 (make_ok No (xs ++ ys) u2 _ (Sl.own hr2 (fun _ _ h => h)) (by simp; omega))) ?_
 rintro u3 w3 ⟨hr3, hf3, hg3⟩
 refine GG ?_
 refine RK.ret_of Tryz.func123 (res1 rfl rfl) ?_ _
 exact ⟨_, rfl, hr3, fun b hb => by have := hf3 b hb; have := hg2.size; have := hn1.grow.size; omega, (hn1.grow.trans hg2).trans hg3⟩
theorem put_ok (M : Nat → Prop) (xs : List Int) (x : Int) (v : Value) (w : World) (hv : Sl M w v 1 xs.length (ints xs)) (hb : (xs.length + 1) * 8 ≤ 140737488355328) :
  Fx Tryz.prog 77 [v, .int .i64 x] w (fun u w' => Row w' 3 1 u (mkRow (xs ++ [x])).length (ints (mkRow (xs ++ [x]))) ∧ Fresh w.heap.size u ∧ Grow w w') := by
 refine enter Tryz.func77 rfl rfl rfl _ (Pick.sub (l := [0, 1]) (.cons rfl (.cons rfl .nil))) ?_
 refine GG ?_
 refine OP (Does.slice1 u37 i3 rfl rfl rfl rfl rfl) ?_
 rintro _ w1 ⟨b1, rfl, hn1⟩
 refine OP (Does.call rfl e123 (or_ok No xs [x] v _ _ (hv.mod (Mod.any' hn1.grow)).noM (Sl.new hn1 1 1 rfl (by omega) (fun h => h)) (by simpa using hb))) ?_
 rintro u2 w2 ⟨hr2, hf2, hg2⟩
 refine GG ?_
 refine RK.ret_of Tryz.func77 (res1 rfl rfl) ?_ _
 exact ⟨_, rfl, hr2, fun b hb => by have := hf2 b hb; have := hn1.grow.size; omega, hn1.grow.trans hg2⟩
structure PoolAt (w : World) (p : Nat) (most last : Int) (out : List Int) (v : Value) : Prop where
 blk : Blk w p 205 [.int .i64 most, .int .i64 last, v]
 row : Row w 3 1 v out.length (ints out)
 ne : v.ownBlock ≠ some p
theorem poolNew_ok (m : Int) (w : World) : Fx Tryz.prog 96 [.int .i64 m] w (fun u w' => ∃ p, u = pp p ∧ p = w.heap.size ∧ PoolAt w' p (if 0 > m then 0 else m) 0 [] (.slice none 0 0) ∧ Grow w w' ∧ w'.heap.size = w.heap.size + 1) := by
 refine enter Tryz.func96 rfl rfl rfl _ (Pick.sub (l := [0]) (.cons rfl .nil)) ?_
 refine GG ?_
 refine QQ (Yld.max2 rfl rfl) ?_
 refine QQ (Yld.build (v := .agg #[.int .i64 (if 0 > m then 0 else m), .int .i64 0, .slice none 0 0]) rfl (fun w => by kernel_rfl)) ?_
 refine OP (Does.box rfl) ?_
 rintro _ w1 ⟨b1, rfl, hn1⟩
 refine GG ?_
 refine RK.ret_of Tryz.func96 (res1 rfl rfl) ?_ _
 exact ⟨_, rfl, b1, rfl, hn1.at_, ⟨hn1.blk, Row.nil _ _ _, by simp [Value.ownBlock]⟩, hn1.grow, hn1.size⟩
theorem take_no (w : World) (p : Nat) (most last : Int) (out : List Int) (v : Value) (hp : PoolAt w p most last out v) (h : most ≤ out.length ∨ last = 2147483647) :
  Fx Tryz.prog 100 [pp p] w (fun u w' => u = .tuple #[.int .i64 0, .bool false] ∧ PoolAt w' p most last out v ∧ Grow w w') := by
 obtain ⟨ad, c, rfl⟩ := hp.row.slice
 refine enter Tryz.func100 rfl rfl rfl _ (Pick.sub (l := [0]) (.cons rfl .nil)) ?_
 refine GG ?_
 refine RK.drawM No [(0, false), (1, false), (2, false), (3, false), (4, false), (5, false), (6, false), (7, false), (8, false), (9, false), (10, false), (11, false), (12, false), (13, false), (14, false), (15, false), (16, false)] [] mixed (by kernel_rfl) ?_
 refine GG ?_
 refine DF (Yld.fieldAddr fo205_2 rfl) ?_
 refine DQ (Yld.load p37 rfl (atM (hp.blk.cell rfl) id)) (Mod.drew _ _) ?_
 refine DQ (Yld.lenSl u37 rfl) (Mod.drew _ _) ?_
 refine GG ?_
 refine DF (Yld.fieldAddr fo205_0 rfl) ?_
 refine DQ (Yld.load p3 rfl (atM (hp.blk.cell rfl) id)) (Mod.drew _ _) ?_
 refine GG ?_
 refine SD 14 (fun h14 => ?_) (fun h14 => ?_)
 ·iterate 5 refine DL.no rfl (.no rfl rfl rfl rfl) rfl rfl ?_
  refine GG ?_
  refine RK.condT rfl ?_
  refine GG ?_
  refine RK.ret_of Tryz.func100 (res2 rfl rfl rfl) ?_ _
  exact ⟨_, rfl, rfl, ⟨hp.blk, hp.row.mod (Mod.drew No _) (fun _ _ h => h), hp.ne⟩, Mod.drew _ _⟩
 ·iterate 2 refine DF (Yld.pure rfl) ?_
  refine DF (Yld.fieldAddr fo205_1 rfl) ?_
  refine DQ (Yld.load p3 rfl (atM (hp.blk.cell rfl) id)) (Mod.drew _ _) ?_
  refine DF (Yld.pure rfl) ?_
  refine GG ?_
  refine RK.condT (hcT rfl (decide_eq_true (by omega))) ?_
  refine GG ?_
  refine RK.ret_of Tryz.func100 (res2 rfl rfl rfl) ?_ _
  exact ⟨_, rfl, rfl, ⟨hp.blk, hp.row.mod (Mod.drew No _) (fun _ _ h => h), hp.ne⟩, Mod.drew _ _⟩
end Go.Proofs.YthbjfhhiajihfaaGreat
set_option linter.unusedVariables false
set_option linter.unusedSimpArgs false
set_option maxHeartbeats 400000
set_option maxRecDepth 100000
namespace Go.Proofs.YthbjfhhiajihfaaGreat
open Go Go.X
theorem nan_nan : nanS 9221120237041090561 = true := by unfold nanS; decide
def canS (b : Nat) : Nat := if nanS b then 9221120237041090561 else b
theorem bits_can (b : Nat) : bitsS b = (canS b : Int) := by unfold bitsS canS; split <;> rfl
theorem can_can (b : Nat) : canS (canS b) = canS b := by
 unfold canS
 by_cases h : nanS b = true
 ·simp [h, nan_nan]
 ·simp [h]
theorem of_ok (b : Nat) (w : World) : Fx Tryz.prog 172 [.int .u64 (bitsS b)] w (fun u w' => u = .tuple #[.float .f64 (canS b), .bool true] ∧ w = w') := by
 have hc : bitsS (canS b) = bitsS b := by rw [bits_can, bits_can, can_can]
 rw [bits_can]
 refine enter Tryz.func172 rfl rfl rfl _ (Pick.sub (l := [0]) (.cons rfl .nil)) ?_
 refine GG ?_
 refine QQ (Yld.callx rfl (fun w => x95 _ w)) ?_
 refine GG ?_
 refine OP (Does.call rfl e173 (bits_ok _ _)) ?_
 rintro _ _ ⟨rfl, rfl⟩
 refine GG ?_
 refine RK.condF (hcF rfl (by simp [hc, bits_can, can_can])) ?_
 refine GG ?_
 refine RK.ret_of Tryz.func172 (res2 rfl rfl rfl) ?_ _
 exact ⟨_, rfl, rfl, rfl⟩
def keyS (b : Nat) : Int := if canS b < 9223372036854775808 then canS b + 9223372036854775808 else 18446744073709551615 - canS b
theorem can_lt {b : Nat} (h : b < 18446744073709551616) : canS b < 18446744073709551616 := by unfold canS; split <;> omega
theorem key_ok (b : Nat) (hb : b < 18446744073709551616) (w : World) : Fx Tryz.prog 225 [.float .f64 b] w (fun u w' => u = .int .u64 (keyS b) ∧ w = w') := by
 have hc := can_lt hb
 refine enter Tryz.func225 rfl rfl rfl _ (Pick.sub (l := [0]) (.cons rfl .nil)) ?_
 refine GG ?_
 refine OP (Does.call rfl e173 (bits_ok _ _)) ?_
 rintro _ _ ⟨rfl, rfl⟩
 refine RL.p rfl rfl ?_
 refine RL.done ?_
 iterate 2 refine RK.seq ?_
 refine RK.region ?_
 refine RL.p rfl rfl ?_
 refine RL.re (d := 6) rfl rfl (congrArg (Value.int .u64) (bits_can b)) ?_
 refine RL.p rfl rfl ?_
 refine RL.re (d := 7) rfl rfl (congrArg _ (and63 (by omega) (by omega))) ?_
 refine GG ?_
 refine CD (fun h8 => ?_) (fun h8 => ?_)
 ·refine RK.seq ?_
  refine RK.region ?_
  refine RL.p rfl rfl ?_
  refine RL.re (d := 9) rfl rfl (congrArg (Value.int .u64) (bits_can b)) ?_
  refine RL.p rfl rfl ?_
  refine RL.re (d := 10) rfl rfl (congrArg _ (or63 (by omega) (by split at h8 <;> omega))) ?_
  refine GG ?_
  refine RK.ret_of Tryz.func225 (res1 rfl rfl) ?_ _
  exact ⟨_, rfl, congrArg _ (by unfold keyS; split at h8 <;> split <;> omega), rfl⟩
 ·refine RK.skip ?_
  refine RK.seq ?_
  refine RK.region ?_
  refine RL.p rfl rfl ?_
  refine RL.re (d := 11) rfl rfl (congrArg (Value.int .u64) (bits_can b)) ?_
  refine QQ (Yld.compl rfl (by omega) (by omega)) ?_
  refine GG ?_
  refine RK.ret_of Tryz.func225 (res1 rfl rfl) ?_ _
  exact ⟨_, rfl, congrArg _ (by unfold keyS; split at h8 <;> split <;> omega), rfl⟩
theorem isNaNu_ok (a : Int) (w : World) : Fx Tryz.prog 268 [.int .u64 a] w (fun u w' => u = .bool false ∧ w = w') := by
 refine enter Tryz.func268 rfl rfl rfl _ (Pick.sub (l := [0]) (.cons rfl .nil)) ?_
 refine GG ?_
 refine RK.ret_of Tryz.func268 (res1 rfl rfl) ?_ _
 exact ⟨_, rfl, by simp, rfl⟩
def cmpI (a b : Int) : Int := if a < b then -1 else if b < a then 1 else 0
theorem compare_ok (a b : Int) (w : World) : Fx Tryz.prog 224 [.int .u64 a, .int .u64 b] w (fun u w' => u = .int .i64 (cmpI a b) ∧ w = w') := by
 refine enter Tryz.func224 rfl rfl rfl _ (Pick.sub (l := [0, 1]) (.cons rfl (.cons rfl .nil))) ?_
 refine GG ?_
 refine OP (Does.call rfl e268 (isNaNu_ok _ _)) ?_
 rintro _ _ ⟨rfl, rfl⟩
 refine GG ?_
 refine OP (Does.call rfl e268 (isNaNu_ok _ _)) ?_
 rintro _ _ ⟨rfl, rfl⟩
 refine GG ?_
 refine RK.condF (hcF rfl (rfl)) ?_
 refine GG ?_
 refine RK.condF (hcF rfl (rfl)) ?_
 refine GG ?_
 refine CD (fun h16 => ?_) (fun h16 => ?_)
 ·refine GG ?_
  refine RK.ret_of Tryz.func224 (res1 rfl rfl) ?_ _
  exact ⟨_, rfl, congrArg _ (by unfold cmpI; simp [*]), rfl⟩
 ·refine GG ?_
  refine CD (fun h19 => ?_) (fun h19 => ?_)
  ·refine GG ?_
   refine RK.ret_of Tryz.func224 (res1 rfl rfl) ?_ _
   exact ⟨_, rfl, congrArg _ (by unfold cmpI; simp [*]), rfl⟩
  ·refine GG ?_
   refine RK.ret_of Tryz.func224 (res1 rfl rfl) ?_ _
   exact ⟨_, rfl, congrArg _ (by unfold cmpI; simp [*]), rfl⟩
theorem nan_ok (w : World) : Fx Tryz.prog 38 [] w (fun u w' => u = .float .f64 9221120237041090561 ∧ w = w') := by
 refine enter Tryz.func38 rfl rfl rfl _ (Pick.sub (l := []) .nil) ?_
 refine GG ?_
 refine QQ (Yld.callx rfl (fun w => x95 _ w)) ?_
 refine GG ?_
 refine RK.ret_of Tryz.func38 (res1 rfl rfl) ?_ _
 exact ⟨_, rfl, rfl, rfl⟩
theorem copysign0_ok (w : World) : Fx Tryz.prog 128 [.float .f64 0, .float .f64 13830554455654793216] w (fun u w' => u = .float .f64 9223372036854775808 ∧ w = w') := by
 refine enter Tryz.func128 rfl rfl rfl _ (Pick.sub (l := [0, 1]) (.cons rfl (.cons rfl .nil))) ?_
 refine GG ?_
 refine QQ (Yld.callx rfl (fun w => x169 _ w)) ?_
 refine GG ?_
 refine QQ (Yld.callx rfl (fun w => x169 _ w)) ?_
 refine GG ?_
 refine QQ (Yld.callx rfl (fun w => x95 _ w)) ?_
 refine GG ?_
 refine RK.ret_of Tryz.func128 (res1 rfl rfl) ?_ _
 exact ⟨_, rfl, congrArg (Value.float .f64) (by kernel_rfl), rfl⟩
def rankS (a b : Nat) : Int := if nanS a = nanS b then cmpI (keyS b) (keyS a) else if nanS a then 1 else -1
end Go.Proofs.YthbjfhhiajihfaaGreat
set_option linter.unusedVariables false
set_option linter.unusedSimpArgs false
set_option maxHeartbeats 1000000
set_option maxRecDepth 100000
namespace Go.Proofs.YthbjfhhiajihfaaGreat
open Go Go.X Go.Rex
theorem setAt_of : ∀ {l : List Value} {i : Nat} {v : Value}, i < l.length → SetAt l i v (l.set i v)
 | u :: l, 0, v, _ => .z
 | u :: l, i + 1, v, h => .s (setAt_of (by simpa using h))
abbrev PA (w : World) (p : Nat) (s : ByteArray) (i : Nat) (bad : Bool) : Prop := Blk w p 308 [.string s, .int .i64 (i : Int), .bool bad]
theorem over_ok (w : World) (p : Nat) (s : ByteArray) (i : Nat) (bad : Bool) (h : PA w p s i bad) : Fx Tryz.prog 308 [pp p] w (fun u w' => u = .bool (bad || decide (s.size ≤ i)) ∧ Grow w w') := by
 refine enter Tryz.func308 rfl rfl rfl _ (Pick.sub (l := [0]) (.cons rfl .nil)) ?_
 refine GG ?_
 refine RK.drawM No [(0, false), (1, false), (2, false), (3, false), (4, false), (5, false), (6, false), (7, false), (8, false), (9, false), (10, false), (11, false), (12, false), (13, false), (14, false), (15, false), (16, false)] [] mixed (by kernel_rfl) ?_
 refine GG ?_
 refine DF (Yld.fieldAddr fo308_2 rfl) ?_
 refine DQ (Yld.load p4 rfl (atM (h.cell rfl) (fun h => h))) (Mod.drew _ _) ?_
 refine DL.p rfl rfl rfl ?_
 refine SD 7 (fun h7 => ?_) (fun h7 => ?_)
 ·iterate 10 refine DL.no rfl (.no rfl rfl rfl rfl) rfl rfl ?_
  refine GG ?_
  refine RK.ret_of Tryz.func308 (res1 rfl rfl) ?_ _
  exact ⟨_, rfl, by simp_all, Mod.drew _ _⟩
 ·iterate 2 refine DF (Yld.pure rfl) ?_
  refine DF (Yld.fieldAddr fo308_1 rfl) ?_
  refine DQ (Yld.load p3 rfl (atM (h.cell rfl) (fun h => h))) (Mod.drew _ _) ?_
  iterate 2 refine DF (Yld.pure rfl) ?_
  refine DF (Yld.fieldAddr fo308_0 rfl) ?_
  refine DQ (Yld.load p9 rfl (atM (h.cell rfl) (fun h => h))) (Mod.drew _ _) ?_
  refine DQ (Yld.lenStr u9 rfl) (Mod.drew _ _) ?_
  refine DF (Yld.pure rfl) ?_
  refine GG ?_
  refine RK.ret_of Tryz.func308 (res1 rfl rfl) ?_ _
  exact ⟨_, rfl, by simp_all, Mod.drew _ _⟩
def seesS (s : ByteArray) (i : Nat) (bad : Bool) (c : Nat) : Bool := !bad && decide (i < s.size ∧ b8 s i = c)
theorem sees_ok (w : World) (p : Nat) (s : ByteArray) (i : Nat) (bad : Bool) (h : PA w p s i bad) (c : Nat) : Fx Tryz.prog 309 [pp p, .int .u8 (c : Int)] w (fun u w' => u = .bool (seesS s i bad c) ∧ Grow w w') := by
 refine enter Tryz.func309 rfl rfl rfl _ (Pick.sub (l := [0, 1]) (.cons rfl (.cons rfl .nil))) ?_
 refine GG ?_
 refine RK.drawM No [(0, false), (1, true), (2, false), (3, false), (4, false), (5, false), (6, false), (7, false), (8, false), (9, false), (10, false), (11, false), (12, false), (13, false), (14, false), (15, false), (16, false)] [] mixed (by kernel_rfl) ?_
 refine DL.p rfl rfl rfl ?_
 refine OD (Does.call rfl e308 (over_ok _ p s i bad (h.mod (Mod.drew No _) (fun h => h)))) ?_
 rintro _ w2 ⟨rfl, hg2⟩
 have hgd : Grow w w2 := (Mod.drew _ _).trans hg2
 refine ⟨hgd, ?_⟩
 refine GG ?_
 refine SD 8 (fun h8 => ?_) (fun h8 => ?_)
 ·have h9 : bad = false ∧ i < s.size := by simpa using h8
  iterate 2 refine DF (Yld.pure rfl) ?_
  refine DF (Yld.fieldAddr fo308_0 rfl) ?_
  refine DQ (Yld.load p9 rfl (atM (h.cell rfl) (fun h => h))) (hgd) ?_
  iterate 2 refine DF (Yld.pure rfl) ?_
  refine DF (Yld.fieldAddr fo308_1 rfl) ?_
  refine DQ (Yld.load p3 rfl (atM (h.cell rfl) (fun h => h))) (hgd) ?_
  refine DF (Yld.idxStrN u9 rfl rfl (h9.2)) ?_
  iterate 2 refine DF (Yld.pure rfl) ?_
  refine GG ?_
  refine RK.ret_of Tryz.func309 (res1 rfl rfl) ?_ _
  exact ⟨_, rfl, by unfold seesS b8; simp [h9]; omega, hgd⟩
 ·iterate 11 refine DL.no rfl (.no rfl rfl rfl rfl) rfl rfl ?_
  refine GG ?_
  refine RK.ret_of Tryz.func309 (res1 rfl rfl) ?_ _
  exact ⟨_, rfl, by unfold seesS; simp at h8; cases bad with | true => rfl | false => (simp at h8 ⊢; intro h; omega), hgd⟩
theorem next_ok (w : World) (p : Nat) (s : ByteArray) (i : Nat) (bad : Bool) (h : PA w p s i bad) (hi : i ≤ 1000) (c : Nat) : Fx Tryz.prog 293 [pp p, .int .u8 (c : Int)] w (fun u w' => u = .bool (seesS s i bad c) ∧ PA w' p s (if seesS s i bad c then i + 1 else i) bad ∧ Mod (· = p) w w') := by
 refine enter Tryz.func293 rfl rfl rfl _ (Pick.sub (l := [0, 1]) (.cons rfl (.cons rfl .nil))) ?_
 refine GG ?_
 refine OP (Does.call rfl e309 (sees_ok _ p s i bad h c)) ?_
 rintro _ w2 ⟨rfl, hg2⟩
 have h2 := h.mod hg2 (fun h => h)
 refine GG ?_
 refine CD (fun h8 => ?_) (fun h8 => ?_)
 ·have h9 : seesS s i bad c = false := by simpa using h8
  refine GG ?_
  refine RK.ret_of Tryz.func293 (res1 rfl rfl) ?_ _
  exact ⟨_, rfl, by rw [h9], by rw [h9]; exact h2, Mod.any' hg2⟩
 ·have h9 : seesS s i bad c = true := by simpa using h8
  refine GG ?_
  refine QQ (Yld.fieldAddr fo308_1 rfl) ?_
  refine QQ (Yld.load p3 rfl (at1 (h2.cell rfl))) ?_
  refine RL.p rfl rfl ?_
  refine RL.re (d := 13) rfl rfl (succ_i64 (by omega)) ?_
  refine RL.p rfl rfl ?_
  refine QQ (Yld.fieldAddr fo308_1 rfl) ?_
  refine OQ (Does.store i3 rfl rfl rfl h2 (.s .z)) ?_
  rintro _ w3 ⟨hb3, hm3, _⟩
  refine GG ?_
  refine RK.ret_of Tryz.func293 (res1 rfl rfl) ?_ _
  exact ⟨_, rfl, by rw [h9], by rw [h9]; exact hb3, (Mod.any' hg2).trans hm3⟩
theorem byte_no (w : World) (p : Nat) (s : ByteArray) (i : Nat) (bad : Bool) (h : PA w p s i bad) (hn : bad = true ∨ s.size ≤ i) : Fx Tryz.prog 322 [pp p] w (fun u w' => u = .int .u8 ((0 : Nat) : Int) ∧ PA w' p s i true ∧ Mod (· = p) w w') := by
 refine enter Tryz.func322 rfl rfl rfl _ (Pick.sub (l := [0]) (.cons rfl .nil)) ?_
 refine GG ?_
 refine OP (Does.call rfl e308 (over_ok _ p s i bad h)) ?_
 rintro _ w2 ⟨rfl, hg2⟩
 have h2 := h.mod hg2 (fun h => h)
 refine RL.done ?_
 refine RK.condT (hcT rfl (by simpa using hn)) ?_
 refine GG ?_
 refine QQ (Yld.fieldAddr fo308_2 rfl) ?_
 refine OQ (Does.store i4 rfl rfl rfl h2 (.s (.s .z))) ?_
 rintro _ w3 ⟨hb3, hm3, _⟩
 refine GG ?_
 refine RK.ret_of Tryz.func322 (res1 rfl rfl) ?_ _
 exact ⟨_, rfl, rfl, hb3, (Mod.any' hg2).trans hm3⟩
theorem byte_yes (w : World) (p : Nat) (s : ByteArray) (i : Nat) (h : PA w p s i false) (hi : i < s.size) (hb : i ≤ 1000) : Fx Tryz.prog 322 [pp p] w (fun u w' => u = .int .u8 (b8 s i : Int) ∧ PA w' p s (i + 1) false ∧ Mod (· = p) w w') := by
 refine enter Tryz.func322 rfl rfl rfl _ (Pick.sub (l := [0]) (.cons rfl .nil)) ?_
 refine GG ?_
 refine OP (Does.call rfl e308 (over_ok _ p s i false h)) ?_
 rintro _ w2 ⟨rfl, hg2⟩
 have h2 := h.mod hg2 (fun h => h)
 refine RL.done ?_
 refine RK.condF (hcF rfl (by simp; omega)) ?_
 refine GG ?_
 refine QQ (Yld.fieldAddr fo308_1 rfl) ?_
 refine QQ (Yld.load p3 rfl (at1 (h2.cell rfl))) ?_
 refine RL.p rfl rfl ?_
 refine RL.re (d := 12) rfl rfl (succ_i64 (by omega)) ?_
 refine RL.p rfl rfl ?_
 refine QQ (Yld.fieldAddr fo308_1 rfl) ?_
 refine OQ (Does.store i3 rfl rfl rfl h2 (.s .z)) ?_
 rintro _ w3 ⟨hb3, hm3, _⟩
 have h3 : PA w3 p s (i + 1) false := hb3
 refine GG ?_
 refine RK.drawM No [(0, false), (1, false), (2, false), (3, false), (4, false), (5, false), (6, false), (7, false), (8, false), (9, false), (10, false)] [] mixed (by kernel_rfl) ?_
 refine GG ?_
 refine DF (Yld.fieldAddr fo308_0 rfl) ?_
 refine DQ (Yld.load p9 rfl (atM (h3.cell rfl) (fun h => h))) (Mod.drew _ _) ?_
 refine GG ?_
 refine DF (Yld.fieldAddr fo308_1 rfl) ?_
 refine DQ (Yld.load p3 rfl (atM (h3.cell rfl) (fun h => h))) (Mod.drew _ _) ?_
 refine DL.p rfl rfl rfl ?_
 refine DL.re (d := 23) rfl rfl (sub_i64 (z := (i : Int)) (by omega) (by omega) (by omega)) ?_
 refine DF (Yld.idxStrN u9 rfl rfl (hi)) ?_
 refine GG ?_
 refine RK.ret_of Tryz.func322 (res1 rfl rfl) ?_ _
 exact ⟨_, rfl, rfl, h3.mod (Mod.drew No _) (fun h => h), ((Mod.any' hg2).trans hm3).trans (Mod.drew _ _)⟩
theorem idx_neg (l : List UInt8) (c : UInt8) : (Lib.indexByte l c < 0 ↔ c ∉ l) ∧ -1 ≤ Lib.indexByte l c := by
 induction l with
 | nil => simp [Lib.indexByte]
 | cons b l ih =>
  unfold Lib.indexByte
  by_cases e : b = c
  ·subst e; simp
  ·rw [if_neg (by simpa using e)]
   obtain ⟨h1, h2⟩ := ih
   by_cases e2 : Lib.indexByte l c = -1
   ·rw [if_pos (by simpa using e2)]
    have : c ∉ l := h1.1 (by omega)
    simp [this, Ne.symm e]
   ·rw [if_neg (by simpa using e2)]
    have h3 : ¬ Lib.indexByte l c < 0 := by omega
    have h4 : c ∈ l := Classical.byContradiction fun h => h3 (h1.2 h)
    refine ⟨⟨fun h => by omega, fun h => absurd (List.mem_cons_of_mem _ h4) h⟩, by omega⟩
theorem indexByte_ok (w : World) (t : ByteArray) (c : Nat) (hc : c < 256) : Fx Tryz.prog 327 [.string t, .int .u8 (c : Int)] w (fun u w' => ∃ z : Int, u = .int .i64 z ∧ (z < 0 ↔ ¬ ∃ b ∈ t.data.toList, b.toNat = c) ∧ w = w') := by
 refine Calls.mono (Tryz.strings_IndexByte t (c : Int) w) ?_
 rintro e w' ⟨rfl, rfl⟩
 refine ⟨_, rfl, _, rfl, ?_, rfl⟩
 rw [(idx_neg _ _).1]
 have : ((c : Int).toNat.toUInt8).toNat = c := by simp; omega
 constructor
 ·rintro h ⟨b, hb, e⟩
  exact h (by rw [show (c : Int).toNat.toUInt8 = b from UInt8.toNat_inj.1 (by omega)]; exact hb)
 ·intro h hm
  exact h ⟨_, hm, this⟩
end Go.Proofs.YthbjfhhiajihfaaGreat
set_option linter.unusedVariables false
set_option linter.unusedSimpArgs false
set_option maxHeartbeats 1000000
set_option maxRecDepth 100000
namespace Go.Proofs.YthbjfhhiajihfaaGreat
open Go Go.X Go.Rex
def RB (w' : World) (p : Nat) (s : ByteArray) (r : Option (Nat × Nat)) (u : Value) : Prop := match r with
 | some (b, j) => u = .int .u8 (b : Int) ∧ PA w' p s j false
 | none => ∃ c j : Nat, c < 256 ∧ u = .int .u8 (c : Int) ∧ PA w' p s j true ∧ j ≤ s.size
theorem sign_ok (w : World) (p : Nat) (s : ByteArray) (i : Nat) (h : PA w p s i false) (hi : i ≤ s.size) (hs : s.size ≤ 40) : Fx Tryz.prog 326 [pp p] w (fun u w' => RB w' p s (signS s i) u ∧ Mod (· = p) w w') := by
 by_cases hl : i < s.size
 ·have hc := b8_lt s i
  refine enter Tryz.func326 rfl rfl rfl _ (Pick.sub (l := [0]) (.cons rfl .nil)) ?_
  refine GG ?_
  refine OP (Does.call rfl e322 (byte_yes _ p s i h hl (by omega))) ?_
  rintro _ w2 ⟨rfl, hB2, hm2⟩
  refine GG ?_
  refine QQ (Yld.fieldAddr fo308_2 rfl) ?_
  refine QQ (Yld.load p4 rfl (at1 (hB2.cell rfl))) ?_
  refine RL.p rfl rfl ?_
  refine RL.knownF (d := 11) rfl rfl (rfl) ?_
  refine QQ (Yld.pure rfl) ?_
  refine OP (Does.call rfl e327 (indexByte_ok _ _ _ hc)) ?_
  rintro _ _ ⟨z, rfl, hz, rfl⟩
  refine QQ (Yld.pure rfl) ?_
  refine GG ?_
  refine QQ (Yld.fieldAddr fo308_2 rfl) ?_
  refine OQ (Does.store i4 rfl rfl rfl hB2 (.s (.s .z))) ?_
  rintro _ w3 ⟨hb3, hm3, _⟩
  have hq : (z < 0 ↔ ¬ quotedS (b8 s i) = true) := by rw [hz]; unfold quotedS; simp; omega
  refine GG ?_
  refine RK.ret_of Tryz.func326 (res1 rfl rfl) ?_ _
  exact ⟨_, rfl, by
    unfold RB signS
    by_cases hqq : quotedS (b8 s i) = true
    ·rw [if_pos ⟨hl, hqq⟩]
     have : ¬ z < 0 := fun h => hq.1 h hqq
     simp only [this, decide_false] at hb3
     exact ⟨rfl, hb3⟩
    ·rw [if_neg (fun h => hqq h.2)]
     have : z < 0 := hq.2 hqq
     simp only [this, decide_true] at hb3
     exact ⟨_, _, hc, rfl, hb3, by omega⟩
   , hm2.trans hm3⟩
 ·skip
  refine enter Tryz.func326 rfl rfl rfl _ (Pick.sub (l := [0]) (.cons rfl .nil)) ?_
  refine GG ?_
  refine OP (Does.call rfl e322 (byte_no _ p s i false h (.inr (by omega)))) ?_
  rintro _ w2 ⟨rfl, hB2, hm2⟩
  refine GG ?_
  refine QQ (Yld.fieldAddr fo308_2 rfl) ?_
  refine QQ (Yld.load p4 rfl (at1 (hB2.cell rfl))) ?_
  refine RL.p rfl rfl ?_
  refine RL.knownT (d := 11) rfl rfl (rfl) ?_
  iterate 3 refine RL.no (.no rfl rfl rfl rfl) rfl rfl ?_
  refine GG ?_
  refine QQ (Yld.fieldAddr fo308_2 rfl) ?_
  refine OQ (Does.store i4 rfl rfl rfl hB2 (.s (.s .z))) ?_
  rintro _ w3 ⟨hb3, hm3, _⟩
  refine GG ?_
  refine RK.ret_of Tryz.func326 (res1 rfl rfl) ?_ _
  exact ⟨_, rfl, by
    unfold RB signS
    rw [if_neg (fun h => hl h.1)]
    exact ⟨_, _, by omega, rfl, hb3, by omega⟩
   , hm2.trans hm3⟩
theorem member_ok (w : World) (p : Nat) (s : ByteArray) (i : Nat) (h : PA w p s i false) (hi : i ≤ s.size) (hs : s.size ≤ 40) : Fx Tryz.prog 328 [pp p] w (fun u w' => RB w' p s (memS s i) u ∧ Mod (· = p) w w') := by
 by_cases hl : i < s.size
 ·have hc := b8_lt s i
  refine enter Tryz.func328 rfl rfl rfl _ (Pick.sub (l := [0]) (.cons rfl .nil)) ?_
  refine GG ?_
  refine OP (Does.call rfl e322 (byte_yes _ p s i h hl (by omega))) ?_
  rintro _ w2 ⟨rfl, hB2, hm2⟩
  refine GG ?_
  refine CD (fun h7 => ?_) (fun h7 => ?_)
  ·have h92 : b8 s i = 92 := by omega
   refine GG ?_
   refine OP (Does.call rfl e326 (sign_ok _ p s (i + 1) hB2 (by omega) hs)) ?_
   rintro u3 w3 ⟨hr3, hm3⟩
   have e : memS s i = signS s (i + 1) := by unfold memS; rw [if_pos hl, if_pos h92]
   refine GG ?_
   refine RK.ret_of Tryz.func328 (res1 rfl rfl) ?_ _
   exact ⟨_, rfl, by rw [e]; exact hr3, hm2.trans hm3⟩
  ·have h92 : ¬ b8 s i = 92 := by omega
   refine GG ?_
   refine QQ (Yld.fieldAddr fo308_2 rfl) ?_
   refine QQ (Yld.load p4 rfl (at1 (hB2.cell rfl))) ?_
   refine RL.p rfl rfl ?_
   refine RL.knownF (d := 15) rfl rfl (rfl) ?_
   refine QQ (Yld.pure rfl) ?_
   refine OP (Does.call rfl e327 (indexByte_ok _ _ _ hc)) ?_
   rintro _ _ ⟨z, rfl, hz, rfl⟩
   refine QQ (Yld.pure rfl) ?_
   refine GG ?_
   refine QQ (Yld.fieldAddr fo308_2 rfl) ?_
   refine OQ (Does.store i4 rfl rfl rfl hB2 (.s (.s .z))) ?_
   rintro _ w3 ⟨hb3, hm3, _⟩
   have hq : (z < 0 ↔ ¬ (b8 s i = 93 ∨ b8 s i = 91 ∨ b8 s i = 94 ∨ b8 s i = 45)) := by rw [hz]; simp; omega
   refine GG ?_
   refine RK.ret_of Tryz.func328 (res1 rfl rfl) ?_ _
   exact ⟨_, rfl, by
     unfold RB memS
     rw [if_pos hl, if_neg h92]
     by_cases hqq : b8 s i = 93 ∨ b8 s i = 91 ∨ b8 s i = 94 ∨ b8 s i = 45
     ·rw [if_pos hqq]
      have : (0 : Int) ≤ z := by have := fun h => hq.1 h hqq; omega
      simp only [ge_iff_le, this, decide_true] at hb3
      exact ⟨_, _, hc, rfl, hb3, by omega⟩
     ·rw [if_neg hqq]
      have : ¬ (0 : Int) ≤ z := by have := hq.2 hqq; omega
      simp only [ge_iff_le, this, decide_false] at hb3
      exact ⟨rfl, hb3⟩
    , hm2.trans hm3⟩
 ·skip
  refine enter Tryz.func328 rfl rfl rfl _ (Pick.sub (l := [0]) (.cons rfl .nil)) ?_
  refine GG ?_
  refine OP (Does.call rfl e322 (byte_no _ p s i false h (.inr (by omega)))) ?_
  rintro _ w2 ⟨rfl, hB2, hm2⟩
  refine GG ?_
  refine RK.condF (hcF rfl (by simp)) ?_
  refine GG ?_
  refine QQ (Yld.fieldAddr fo308_2 rfl) ?_
  refine QQ (Yld.load p4 rfl (at1 (hB2.cell rfl))) ?_
  refine RL.p rfl rfl ?_
  refine RL.knownT (d := 15) rfl rfl (rfl) ?_
  iterate 3 refine RL.no (.no rfl rfl rfl rfl) rfl rfl ?_
  refine GG ?_
  refine QQ (Yld.fieldAddr fo308_2 rfl) ?_
  refine OQ (Does.store i4 rfl rfl rfl hB2 (.s (.s .z))) ?_
  rintro _ w3 ⟨hb3, hm3, _⟩
  refine GG ?_
  refine RK.ret_of Tryz.func328 (res1 rfl rfl) ?_ _
  exact ⟨_, rfl, by
    unfold RB memS
    rw [if_neg hl]
    exact ⟨_, _, by omega, rfl, hb3, by omega⟩
   , hm2.trans hm3⟩
abbrev wds (l : List Nat) : List Value := l.map fun x : Nat => Value.int .u64 (x : Int)
theorem add1_ok (w : World) (b o t : Nat) (cs : List Value) (l : List Nat) (hB : Blk w b t cs) (hl : W4 l) (hc : ∀ j, j < 4 → cs[o + j]? = (wds l)[j]?) (ho : o + 4 ≤ cs.length) (c : Nat) (h256 : c < 256) :
    Fx Tryz.prog 325 [.pointer (some ⟨b, o, none⟩), .int .u8 (c : Int)] w (fun u w' => u = .tuple #[] ∧ Blk w' b t (cs.set (o + c / 64) (.int .u64 ((((l[c / 64]?).getD 0) ||| 1 <<< (c % 64) : Nat) : Int))) ∧ Mod (· = b) w w') := by
  obtain ⟨hl4, hlt⟩ := hl
  have hq : c / 64 < 4 := by omega
  obtain ⟨y, hy⟩ : ∃ y, l[c / 64]? = some y := ⟨_, List.getElem?_eq_getElem (by omega)⟩
  have hyl := hlt y (List.mem_of_getElem? hy)
  have h1 : (1 <<< (c % 64)) < 18446744073709551616 := by
    rw [Nat.shiftLeft_eq, Nat.one_mul]; exact Nat.pow_lt_pow_right (m := c % 64) (n := 64) (by omega) (Nat.mod_lt _ (by omega))
  have hcell : cs[o + c / 64]? = some (.int .u64 (y : Int)) := by rw [hc _ hq]; simp [hy]
  have e1 : IntKind.u8.wrap ((c : Int).tdiv 64) = ((c / 64 : Nat) : Int) := by
    have e2 : (c : Int).tdiv 64 = ((c / 64 : Nat) : Int) := by rw [Int.tdiv_eq_ediv_of_nonneg (by omega)]; omega
    rw [e2]; exact wrap_u8 (by omega)
  have e3 : (c : Int).tmod 64 = ((c % 64 : Nat) : Int) := by rw [Int.tmod_eq_emod_of_nonneg (by omega)]; omega
  rw [hy]
  refine enter Tryz.func325 rfl rfl rfl _ (Pick.sub (l := [0, 1]) (.cons rfl (.cons rfl .nil))) ?_
  refine RK.drawM (· = b) [(0, false), (1, false), (2, false), (3, false), (4, false), (6, false), (7, false), (8, false), (10, false), (5, true), (9, false), (11, false), (12, true)] [12] mixed (by kernel_rfl) ?_
  iterate 2 refine DL.p rfl rfl rfl ?_
  refine DL.qf rfl (.free rfl) rfl rfl (Yld.quo rfl rfl (by omega)) ?_
  refine DL.re (d := 6) rfl rfl (congrArg (Value.int .u8) e1) ?_
  refine DL.p rfl rfl rfl ?_
  refine DL.qf rfl (.free rfl) rfl rfl (Yld.indexArr Tryz.underlying221 i66 rfl rfl (hq)) ?_
  refine DL.p rfl rfl rfl ?_
  refine DL.qf rfl (.free rfl) rfl rfl (Yld.rem rfl rfl (by omega)) ?_
  refine DL.re (d := 11) rfl rfl (congrArg (Value.int .u8) e3) ?_
  refine DL.qf rfl (.free rfl) rfl rfl (Yld.shl (a := 1) rfl rfl (by simp [IntKind.bits]; omega)) ?_
  refine DL.re (d := 12) rfl rfl (congrArg (Value.int .u64) (Go.X.wrap_u64 h1)) ?_
  refine DL.p rfl rfl rfl ?_
  refine DL.lq rfl (.free rfl) rfl rfl (Yld.load p66 rfl (at1 (hB.cell' (by rw [Nat.mul_one]; exact hcell)))) ?_
  refine DL.p rfl rfl rfl ?_
  refine DL.re (d := 13) rfl rfl (congrArg (Value.int .u64) (Go.X.u64_or hyl h1)) ?_
  refine DL.qf rfl (.free rfl) rfl rfl (Yld.indexArr Tryz.underlying221 i66 rfl rfl (hq)) ?_
  refine DL.opT rfl (.free rfl) rfl rfl (Does.store i66 rfl rfl rfl hB (setAt_of (by omega))) ?_
  rintro _ w2 ⟨hb2, hm2, _⟩
  refine DL.done ?_
  refine RK.end_of Tryz.func325 (res0 rfl) ?_
  exact ⟨_, rfl, rfl, by simpa using hb2, (Mod.drew _ _).trans hm2⟩
theorem wds_bit {l : List Nat} (hl : W4 l) {c : Nat} (hc : c < 256) : (wds l).set (c / 64) (.int .u64 ((((l[c / 64]?).getD 0) ||| 1 <<< (c % 64) : Nat) : Int)) = wds (setBit l c) := by
 have hq : c / 64 < l.length := by rw [hl.1]; omega
 apply List.ext_getElem?
 intro j
 unfold setBit
 simp only [List.getElem?_map, List.getElem?_modify, List.getElem?_set, List.length_map]
 by_cases e : c / 64 = j
 ·subst e
  simp [hq, List.getElem?_eq_getElem hq]
 ·simp [e]
theorem add_set (w : World) (b : Nat) (l : List Nat) (hB : Blk w b 221 (wds l)) (hl : W4 l) (c : Nat) (h256 : c < 256) :
  Fx Tryz.prog 325 [pp b, .int .u8 (c : Int)] w (fun u w' => u = .tuple #[] ∧ Blk w' b 221 (wds (setBit l c)) ∧ Mod (· = b) w w') := by
 refine Fx.mono (add1_ok w b 0 _ _ l hB hl (fun j _ => by rw [Nat.zero_add]) (by simp [hl.1]) c h256) ?_
 rintro u w' ⟨rfl, h1, h2⟩
 rw [Nat.zero_add, wds_bit hl h256] at h1
 exact ⟨rfl, h1, h2⟩
theorem inv_set {l : List Nat} {k : Nat} {x : Nat} (hx : l[k]? = some x) : ((invS l).take k ++ l.drop k).set k (18446744073709551615 - x) = (invS l).take (k + 1) ++ l.drop (k + 1) := by
 have hk := (List.getElem?_eq_some_iff.1 hx).1
 have e : ((invS l).take k).length = k := by simp [invS]; omega
 rw [List.drop_eq_getElem_cons hk, List.set_append_right _ _ (by omega), e, Nat.sub_self, List.set_cons_zero, List.take_succ_eq_append_getElem (by simpa [invS] using hk)]
 simp [invS, (List.getElem?_eq_some_iff.1 hx).2]
theorem blk0' {w : World} {b t : Nat} {cs : List Value} (h : Blk w b t cs) : ∀ (j : Nat) (u : Value), cs[j]? = some u → w.cell? ⟨b, 0 + j, none⟩ = some u := fun j u hj => by rw [Nat.zero_add]; exact h.cell' hj
theorem turned_ok (w : World) (l : List Nat) (hl : W4 l) : Fx Tryz.prog 324 [.agg (wds l).toArray] w (fun u w' => u = .agg (wds (invS l)).toArray ∧ Grow w w') := by
 obtain ⟨hl4, hlt⟩ := hl
 obtain ⟨x0, x1, x2, x3, rfl⟩ : ∃ x0 x1 x2 x3, l = [x0, x1, x2, x3] := by
  match l, hl4 with
  | [x0, x1, x2, x3], _ => exact ⟨x0, x1, x2, x3, rfl⟩
 generalize hle : [x0, x1, x2, x3] = l at *
 have hil : (invS l).length = 4 := by simpa [invS] using hl4
 refine enter Tryz.func324 rfl rfl rfl _ (Pick.sub (l := [0]) (.cons rfl .nil)) ?_
 refine GG ?_
 refine OP (Does.box rfl) ?_
 rintro _ w1 ⟨b1, rfl, hn1⟩
 have hB1 : Blk w1 b1 221 (wds l) := by have := hn1.blk; simpa [Value.cells] using this
 refine OP (Does.alloc i221) ?_
 rintro _ w2 ⟨b2, rfl, hn2⟩
 have hne : b1 ≠ b2 := by have := hn1.lt; have := hn2.at_; omega
 refine GG ?_
 refine RK.loop (fun k : Nat => [(1, pp b1), (2, pp b2), (4, .int .i64 (k : Int))]) (fun k w' => Blk w' b1 221 (wds ((invS l).take k ++ l.drop k)) ∧ Mod (· = b1) w2 w' ∧ k ≤ 4) (fun k => 4 - k) 0 ⟨rfl, rfl, rfl, trivial⟩ ⟨by simpa using hB1.mod hn2.grow (fun h => h), Mod.refl _ _, by omega⟩ (fun k w3 hI ih => ?_)
 obtain ⟨hB, hm, hk⟩ := hI
 refine GG ?_
 refine CD (fun h5 => ?_) (fun h5 => ?_)
 ·obtain ⟨x, hx⟩ : ∃ x, l[k]? = some x := ⟨l[k]'(by omega), List.getElem?_eq_getElem (by omega)⟩
  have hxl := hlt x (List.mem_of_getElem? hx)
  have hcx : (wds ((invS l).take k ++ l.drop k))[0 + k * 1]? = some (.int .u64 (x : Int)) := by
    rw [Nat.zero_add, Nat.mul_one, List.getElem?_map, List.getElem?_append_right (by simp [invS]; omega)]
    simp [invS, hl4, hk, hx, show min k 4 = k by omega]
  refine GG ?_
  refine QQ (Yld.indexArr Tryz.underlying221 i66 rfl rfl (by omega)) ?_
  refine QQ (Yld.load p66 rfl (at1 (hB.cell' hcx))) ?_
  refine QQ (Yld.compl rfl (by omega) (by omega)) ?_
  refine RL.re (d := 11) rfl rfl (congrArg (Value.int .u64) (show _ = ((18446744073709551615 - x : Nat) : Int) by omega)) ?_
  refine QQ (Yld.indexArr Tryz.underlying221 i66 rfl rfl (by omega)) ?_
  refine OQ (Does.store i66 rfl rfl rfl hB (setAt_of (by simp [invS, hl4]; omega))) ?_
  rintro _ w4 ⟨hb4, hm4, _⟩
  refine RL.done ?_
  refine RK.inBlock ?_
  refine RK.region ?_
  refine RL.p rfl rfl ?_
  refine RL.re (d := 13) rfl rfl (succ_i64 (by omega)) ?_
  refine GG ?_
  exact RK.back (ih (k + 1) _ ⟨by rw [Nat.zero_add, Nat.mul_one, ← List.map_set, inv_set hx] at hb4; exact hb4, hm.trans hm4, by omega⟩ (by omega)) ⟨rfl, rfl, rfl, trivial⟩
 ·have ek : k = 4 := by omega
  subst ek
  have e1 : (invS l).take 4 ++ l.drop 4 = invS l := by rw [List.take_of_length_le (by omega), List.drop_eq_nil_of_le (by omega), List.append_nil]
  rw [e1] at hB
  have hB2 := hn2.blk.mod hm (Ne.symm hne)
  subst hle
  refine RK.exit rfl ?_
  refine GG ?_
  refine QQ (Yld.loadN (cs := wds (invS [x0, x1, x2, x3])) a221 rfl (atN (blk0' hB))) ?_
  refine OQ (Does.storeN i221 rfl rfl (by simp [Value.cells, hil]) (by simp [Value.cells, Value.oneCell']) hB2 (by decide)) ?_
  rintro _ w4 ⟨hb4, hm4, _⟩
  refine RL.done ?_
  refine RK.ret_of Tryz.func324 (resC (cs := wds (invS [x0, x1, x2, x3])) rfl rfl a221 hb4) ?_ _
  exact ⟨_, rfl, rfl, ((hn1.grow.trans hn2.grow).then hm (fun b hb e => by have e' : b = b1 := e; have := hn1.at_; omega)).then hm4 (fun b hb e => by have e' : b = b2 := e; have := hn2.at_; have := hn1.grow.size; omega)⟩
end Go.Proofs.YthbjfhhiajihfaaGreat
set_option linter.unusedVariables false
set_option linter.unusedSimpArgs false
set_option maxHeartbeats 1000000
set_option maxRecDepth 100000
namespace Go.Proofs.YthbjfhhiajihfaaGreat
open Go Go.X Go.Rex
theorem member_ok' (w : World) (p : Nat) (s : ByteArray) (i : Nat) (h : PA w p s i false) (hi : i ≤ s.size) (hs : s.size ≤ 40) : Fx Tryz.prog 328 [pp p] w (fun u w' => ∃ (c j : Nat) (bad : Bool), u = .int .u8 (c : Int) ∧ c < 256 ∧ j ≤ s.size ∧ PA w' p s j bad ∧ memS s i = (if bad then none else some (c, j)) ∧ Mod (· = p) w w') := by
 refine Fx.mono (member_ok w p s i h hi hs) ?_
 rintro u w' ⟨hr, hm⟩
 cases hmm : memS s i with
 | none =>
  rw [hmm] at hr
  obtain ⟨c, j, h1, h2, h3, h4⟩ := hr
  exact ⟨c, j, true, h2, h1, h4, h3, rfl, hm⟩
 | some q =>
  obtain ⟨c, j⟩ := q
  rw [hmm] at hr
  have := memS_adv hmm
  exact ⟨c, j, false, hr.1, this.2.2, this.2.1, hr.2, rfl, hm⟩
def bodyS (s : ByteArray) (n i : Nat) (set : List Nat) : Option (List Nat × Nat) := match memS s i with
 | none => none
 | some (a, i1) => match toS s a i1 with
  | none => none
  | some (b, i2) => if b < a then none else clsL s n i2 (addG set a b)
theorem body_go {s : ByteArray} {n i : Nat} {set : List Nat} (hi : i < s.size) (h93 : b8 s i ≠ 93) : clsL s (n + 1) i set = bodyS s n i set := by
 unfold bodyS
 rw [clsL, if_pos hi, if_neg h93]
 rfl
theorem body_first {s : ByteArray} {i : Nat} : (if i < s.size ∧ b8 s i = 93 then none else clsL s (s.size + 1) i zero4) = bodyS s s.size i zero4 := by
 by_cases hi : i < s.size
 ·by_cases h93 : b8 s i = 93
  ·rw [if_pos ⟨hi, h93⟩]
   unfold bodyS memS
   rw [if_pos hi, if_neg (by omega), if_pos (.inl h93)]
  ·rw [if_neg (fun h => h93 h.2), body_go hi h93]
 ·rw [if_neg (fun h => hi h.1)]
  unfold bodyS memS
  rw [clsL, if_neg hi, if_neg hi]
theorem clsB_eq (s : ByteArray) (no : Bool) (i : Nat) : clsB s no i = (bodyS s s.size i zero4).map fun q => (if no then invS q.1 else q.1, q.2) := by
 rw [← body_first]
 unfold clsB
 split
 ·rfl
 ·cases clsL s (s.size + 1) i zero4 <;> rfl
structure ClsI (s : ByteArray) (T : Option (List Nat × Nat)) (first bad : Bool) (i : Nat) (set : List Nat) : Prop where
 one : first = true → bad = false ∧ bodyS s s.size i set = T
 go : first = false → bad = false → ∃ n, clsL s n i set = T ∧ s.size + 1 ≤ n + i
 no : bad = true → first = false ∧ T = none
theorem ClsI.step {s : ByteArray} {T : Option (List Nat × Nat)} {m i : Nat} {set : List Nat} (h : bodyS s m i set = T) (hm : s.size ≤ m + i) {c j : Nat} {bad : Bool} (h1 : memS s i = if bad then none else some (c, j)) {c2 j2 : Nat} {bad2 : Bool} (h2 : bad = true → bad2 = true) (h3 : bad = false → toS s c j = if bad2 then none else some (c2, j2)) : ClsI s T false (bad2 || decide (c2 < c)) j2 (addG set c c2) := by
 unfold bodyS at h
 cases bad with
 | true =>
  rw [h1] at h
  have hb := h2 rfl
  subst hb
  exact ⟨by simp, by simp, fun _ => ⟨rfl, h.symm⟩⟩
 | false =>
  have h4 := h3 rfl
  rw [h1] at h
  simp only [Bool.false_eq_true, if_false] at h
  have h5 := memS_adv h1
  rw [h4] at h
  cases bad2 with
  | true => exact ⟨by simp, by simp, fun _ => ⟨rfl, h.symm⟩⟩
  | false =>
   simp only [Bool.false_eq_true, if_false] at h h4
   have h6 := toS_adv h4 h5.2.1 h5.2.2
   by_cases hlt : c2 < c
   ·rw [if_pos hlt] at h
    exact ⟨by simp, by simp [hlt], fun _ => ⟨rfl, h.symm⟩⟩
   ·rw [if_neg hlt] at h
    exact ⟨by simp, fun _ _ => ⟨m, h, by omega⟩, by simp [hlt]⟩
theorem range_snoc (a d : Nat) (l : List Nat) : (List.range' a (d + 1)).foldl setBit l = setBit ((List.range' a d).foldl setBit l) (a + d) := by
 rw [List.range'_1_concat, List.foldl_append]; rfl
def partR (l : List Nat) (a d : Nat) : List Nat := (List.range' a d).foldl setBit l
theorem partR_w4 {l : List Nat} (h : W4 l) (a : Nat) : ∀ d, W4 (partR l a d)
 | 0 => h
 | d + 1 => by unfold partR; rw [range_snoc]; exact (partR_w4 h a d).bit _
theorem class_ok (w : World) (p : Nat) (s : ByteArray) (i : Nat) (h : PA w p s i false) (hi : i ≤ s.size) (hs : s.size ≤ 40) : Fx Tryz.prog 323 [pp p] w (fun u w' => ∃ (l : List Nat) (j : Nat) (bad : Bool), u = .agg (wds l).toArray ∧ W4 l ∧ j ≤ s.size ∧ PA w' p s j bad ∧ clsS s i = (if bad then none else some (l, j)) ∧ Mod (· = p) w w') := by
 have hplt := h.lt
 refine enter Tryz.func323 rfl rfl rfl _ (Pick.sub (l := [0]) (.cons rfl .nil)) ?_
 refine GG ?_
 refine OP (Does.alloc i221) ?_
 rintro _ w1 ⟨b2, rfl, hn2⟩
 refine GG ?_
 refine OP (Does.alloc i221) ?_
 rintro _ w2 ⟨b3, rfl, hn3⟩
 have hg2 := hn2.grow.trans hn3.grow
 have hb2 := hn2.at_
 have hb3 := hn3.at_
 have hs2 := hn2.lt
 have hs3 := hn3.lt
 have hne : b2 ≠ b3 := by omega
 have hB3 : Blk w2 b3 221 (wds zero4) := hn3.blk
 refine GG ?_
 refine OP (Does.call rfl e293 (next_ok _ p s i false (h.mod hg2 (fun h => h)) (by omega) 94)) ?_
 rintro _ w3 ⟨rfl, hP3, hm3⟩
 have hno : seesS s i false 94 = notS s i := by unfold seesS notS; simp
 rw [hno] at hP3 ⊢
 have hcl : clsS s i = clsB s (notS s i) (if notS s i then i + 1 else i) := rfl
 obtain ⟨i0, hi0⟩ : ∃ i0, (if notS s i then i + 1 else i) = i0 := ⟨_, rfl⟩
 rw [hi0] at hP3 hcl
 have hi0s : i0 ≤ s.size := by unfold notS at hi0; by_cases e : i < s.size ∧ b8 s i = 94 <;> simp [e] at hi0 <;> omega
 rw [clsB_eq] at hcl
 obtain ⟨no, hnoe⟩ : ∃ no, notS s i = no := ⟨_, rfl⟩
 rw [hnoe] at hcl ⊢
 obtain ⟨T, hT⟩ : ∃ T, bodyS s s.size i0 zero4 = T := ⟨_, rfl⟩
 rw [hT] at hcl
 have hms3 := hm3.size
 refine GG ?_
 refine RK.loop (fun t : Bool × Bool × Nat × List Nat => [(0, pp p), (2, pp b2), (3, pp b3), (4, .bool no), (5, .bool t.1)]) (fun t w' => PA w' p s t.2.2.1 t.2.1 ∧ Blk w' b3 221 (wds t.2.2.2) ∧ W4 t.2.2.2 ∧ t.2.2.1 ≤ s.size ∧ ClsI s T t.1 t.2.1 t.2.2.1 t.2.2.2 ∧ Mod (fun b => b = p ∨ b = b3) w2 w') (fun t => if t.2.1 then 0 else s.size + 1 - t.2.2.1) (true, false, i0, zero4) ⟨rfl, rfl, rfl, rfl, rfl, trivial⟩ ⟨hP3, hB3.mod hm3 (by omega), W4.zero, hi0s, ⟨fun _ => ⟨rfl, hT⟩, by simp, by simp⟩, hm3.mono fun b _ e => .inl e⟩ (fun t w4 hI ih => ?_)
 obtain ⟨first, bad, k, set⟩ := t
 obtain ⟨hP, hB, hW, hk, hC, hm⟩ := hI
 simp only at hP hB hW hk hC
 refine GG ?_
 refine SP 12 (fun h12 => ?_) (fun h12 => ?_)
 ·have h12' : first = true := h12
  subst h12'
  obtain ⟨hbad, hbody⟩ := hC.one rfl
  subst hbad
  have hmk : s.size ≤ s.size + k := by omega
  iterate 8 refine RL.no (.no rfl rfl rfl rfl) rfl rfl ?_
  refine GG ?_
  refine RK.condT rfl ?_
  refine GG ?_
  refine OP (Does.call rfl e328 (member_ok' _ p s k hP hk hs)) ?_
  rintro _ w7 ⟨c, j, bd, rfl, hc, hj, hP7, hmem, hm7⟩
  have hB7 := Blk.mod hB hm7 (by omega)
  have hM7 := Mod.trans hm (hm7.mono fun b _ e => .inl e)
  refine GG ?_
  refine OP (Does.call rfl e293 (next_ok _ p s j bd hP7 (by omega) 45)) ?_
  rintro _ w8 ⟨rfl, hP8, hm8⟩
  have hB8 := hB7.mod hm8 (by omega)
  have hM8 := Mod.trans hM7 (hm8.mono fun b _ e => .inl e)
  refine RL.done ?_
  refine CD (fun h26 => ?_) (fun h26 => ?_)
  ·have h9 : bd = false ∧ j < s.size ∧ b8 s j = 45 := by simpa [seesS] using h26
   obtain ⟨hbd, hjs, hj45⟩ := h9
   subst hbd
   rw [h26] at hP8
   refine GG ?_
   refine OP (Does.call rfl e328 (member_ok' _ p s (j + 1) hP8 (by omega) hs)) ?_
   rintro _ w9 ⟨c2, j2, bd2, rfl, hc2, hj2, hP9, hmem2, hm9⟩
   have hB9 := hB8.mod hm9 (by omega)
   have hM9 := Mod.trans hM8 (hm9.mono fun b _ e => .inl e)
   have hC9 := ClsI.step (c2 := c2) (j2 := j2) (bad2 := bd2) hbody hmk hmem (fun h => by cases h) (fun _ => by unfold toS; rw [if_pos ⟨hjs, hj45⟩]; exact hmem2)
   have hadv : (bd2 || decide (c2 < c)) = false → k < j2 := fun h => by
     have e : bd2 = false := by cases bd2 with | false => rfl | true => simp at h
     subst e
     have := memS_adv hmem; have := memS_adv hmem2; omega
   refine GG ?_
   refine QQ (Yld.fieldAddr fo308_2 rfl) ?_
   refine QQ (Yld.load p4 rfl (at1 (hP9.cell rfl))) ?_
   refine RL.p rfl rfl ?_
   refine SP 34 (fun h34 => ?_) (fun h34 => ?_)
   ·have hbt : (bd2 || decide (c2 < c)) = true := by rw [h34]; rfl
    iterate 3 refine RL.no (.no rfl rfl rfl rfl) rfl rfl ?_
    refine GG ?_
    refine QQ (Yld.fieldAddr fo308_2 rfl) ?_
    refine OQ (Does.store i4 rfl rfl rfl hP9 (.s (.s .z))) ?_
    rintro _ w10 ⟨hP10', hm10, _⟩
    have hP10 : PA w10 p s j2 (bd2 || decide (c2 < c)) := by rw [hbt]; exact hP10'
    have hB10 := Blk.mod hB9 hm10 (by omega)
    have hM10 := Mod.trans hM9 (hm10.mono fun b _ e => .inl e)
    refine GG ?_
    refine QQ (Yld.convI Tryz.underlying5 Tryz.underlying3 rfl) ?_
    refine RL.re (d := 42) rfl rfl (congrArg (Value.int .i64) (wrap_i64 (by omega) (by omega))) ?_
    refine GG ?_
    refine RK.loop (fun d : Nat => [(0, pp p), (2, pp b2), (3, pp b3), (4, .bool no), (7, .int .u8 (c2 : Int)), (8, .int .i64 ((c + d : Nat) : Int))]) (fun d w' => Blk w' b3 221 (wds (partR set c d)) ∧ Mod (· = b3) w10 w' ∧ d ≤ c2 + 1 - c) (fun d => c2 + 1 - c - d) 0 ⟨rfl, rfl, rfl, rfl, rfl, rfl, trivial⟩ ⟨hB10, Mod.refl _ _, by omega⟩ (fun d w11 hI2 ih2 => ?_)
    obtain ⟨hB11, hm11, hd⟩ := hI2
    refine GG ?_
    refine QQ (Yld.convI Tryz.underlying5 Tryz.underlying3 rfl) ?_
    refine RL.re (d := 45) rfl rfl (congrArg (Value.int .i64) (wrap_i64 (by omega) (by omega))) ?_
    refine GG ?_
    refine CD (fun h46 => ?_) (fun h46 => ?_)
    ·refine GG ?_
     refine QQ (Yld.convI Tryz.underlying3 Tryz.underlying5 rfl) ?_
     refine RL.re (d := 50) rfl rfl (congrArg (Value.int .u8) (Go.X.wrap_u8 (x := c + d) (by omega))) ?_
     refine OP (Does.call rfl e325 (add_set _ b3 (partR set c d) hB11 (partR_w4 hW c d) (c + d) (by omega))) ?_
     rintro _ w12 ⟨rfl, hB12, hm12⟩
     refine RL.done ?_
     refine RK.inBlock ?_
     refine RK.region ?_
     iterate 2 refine RL.p rfl rfl ?_
     refine RL.re (d := 48) rfl rfl (succ_i64 (by omega)) ?_
     refine GG ?_
     exact RK.back (ih2 (d + 1) _ ⟨by unfold partR; rw [range_snoc]; exact hB12, hm11.trans hm12, by omega⟩ (by omega)) ⟨rfl, rfl, rfl, rfl, rfl, rfl, trivial⟩
    ·have hde : d = c2 + 1 - c := by omega
     have hBe : Blk w11 b3 221 (wds (addG set c c2)) := by rw [hde] at hB11; exact hB11
     refine RK.exit rfl ?_
     refine GG ?_
     exact RK.back (ih (false, (bd2 || decide (c2 < c)), j2, addG set c c2) _ ⟨hP10.mod hm11 (by omega), hBe, hW.add _ _, hj2, hC9, hM10.trans (hm11.mono fun b _ e => .inr e)⟩ (by
      simp only [Bool.false_eq_true, if_false]
      split
      ·omega
      ·rename_i hb9
       have := hadv (by simpa using hb9); omega)) ⟨rfl, rfl, rfl, rfl, rfl, trivial⟩
   ·have hbt : (bd2 || decide (c2 < c)) = decide ((c2 : Int) < (c : Int)) := by rw [h34]; simp
    iterate 3 refine QQ (Yld.pure rfl) ?_
    refine GG ?_
    refine QQ (Yld.fieldAddr fo308_2 rfl) ?_
    refine OQ (Does.store i4 rfl rfl rfl hP9 (.s (.s .z))) ?_
    rintro _ w10 ⟨hP10', hm10, _⟩
    have hP10 : PA w10 p s j2 (bd2 || decide (c2 < c)) := by rw [hbt]; exact hP10'
    have hB10 := Blk.mod hB9 hm10 (by omega)
    have hM10 := Mod.trans hM9 (hm10.mono fun b _ e => .inl e)
    refine GG ?_
    refine QQ (Yld.convI Tryz.underlying5 Tryz.underlying3 rfl) ?_
    refine RL.re (d := 42) rfl rfl (congrArg (Value.int .i64) (wrap_i64 (by omega) (by omega))) ?_
    refine GG ?_
    refine RK.loop (fun d : Nat => [(0, pp p), (2, pp b2), (3, pp b3), (4, .bool no), (7, .int .u8 (c2 : Int)), (8, .int .i64 ((c + d : Nat) : Int))]) (fun d w' => Blk w' b3 221 (wds (partR set c d)) ∧ Mod (· = b3) w10 w' ∧ d ≤ c2 + 1 - c) (fun d => c2 + 1 - c - d) 0 ⟨rfl, rfl, rfl, rfl, rfl, rfl, trivial⟩ ⟨hB10, Mod.refl _ _, by omega⟩ (fun d w11 hI2 ih2 => ?_)
    obtain ⟨hB11, hm11, hd⟩ := hI2
    refine GG ?_
    refine QQ (Yld.convI Tryz.underlying5 Tryz.underlying3 rfl) ?_
    refine RL.re (d := 45) rfl rfl (congrArg (Value.int .i64) (wrap_i64 (by omega) (by omega))) ?_
    refine GG ?_
    refine CD (fun h46 => ?_) (fun h46 => ?_)
    ·refine GG ?_
     refine QQ (Yld.convI Tryz.underlying3 Tryz.underlying5 rfl) ?_
     refine RL.re (d := 50) rfl rfl (congrArg (Value.int .u8) (Go.X.wrap_u8 (x := c + d) (by omega))) ?_
     refine OP (Does.call rfl e325 (add_set _ b3 (partR set c d) hB11 (partR_w4 hW c d) (c + d) (by omega))) ?_
     rintro _ w12 ⟨rfl, hB12, hm12⟩
     refine RL.done ?_
     refine RK.inBlock ?_
     refine RK.region ?_
     iterate 2 refine RL.p rfl rfl ?_
     refine RL.re (d := 48) rfl rfl (succ_i64 (by omega)) ?_
     refine GG ?_
     exact RK.back (ih2 (d + 1) _ ⟨by unfold partR; rw [range_snoc]; exact hB12, hm11.trans hm12, by omega⟩ (by omega)) ⟨rfl, rfl, rfl, rfl, rfl, rfl, trivial⟩
    ·have hde : d = c2 + 1 - c := by omega
     have hBe : Blk w11 b3 221 (wds (addG set c c2)) := by rw [hde] at hB11; exact hB11
     refine RK.exit rfl ?_
     refine GG ?_
     exact RK.back (ih (false, (bd2 || decide (c2 < c)), j2, addG set c c2) _ ⟨hP10.mod hm11 (by omega), hBe, hW.add _ _, hj2, hC9, hM10.trans (hm11.mono fun b _ e => .inr e)⟩ (by
      simp only [Bool.false_eq_true, if_false]
      split
      ·omega
      ·rename_i hb9
       have := hadv (by simpa using hb9); omega)) ⟨rfl, rfl, rfl, rfl, rfl, trivial⟩
  ·have h26' : seesS s j bd 45 = false := by simpa using h26
   rw [h26'] at hP8
   have hC9 := ClsI.step (c2 := c) (j2 := j) (bad2 := bd) hbody hmk hmem (fun h => h) (fun hb => by unfold toS; rw [if_neg (fun h => by simp [seesS, hb, h] at h26'), hb]; rfl)
   have hadv : (bd || decide (c < c)) = false → k < j := fun h => by
     have e : bd = false := by cases bd with | false => rfl | true => simp at h
     subst e
     have := memS_adv hmem; omega
   have hP8' : PA w8 p s j bd := hP8
   refine GG ?_
   refine QQ (Yld.fieldAddr fo308_2 rfl) ?_
   refine QQ (Yld.load p4 rfl (at1 (hP8'.cell rfl))) ?_
   refine RL.p rfl rfl ?_
   refine SP 34 (fun h34 => ?_) (fun h34 => ?_)
   ·have hbt : (bd || decide (c < c)) = true := by rw [h34]; rfl
    iterate 3 refine RL.no (.no rfl rfl rfl rfl) rfl rfl ?_
    refine GG ?_
    refine QQ (Yld.fieldAddr fo308_2 rfl) ?_
    refine OQ (Does.store i4 rfl rfl rfl hP8' (.s (.s .z))) ?_
    rintro _ w10 ⟨hP10', hm10, _⟩
    have hP10 : PA w10 p s j (bd || decide (c < c)) := by rw [hbt]; exact hP10'
    have hB10 := Blk.mod hB8 hm10 (by omega)
    have hM10 := Mod.trans hM8 (hm10.mono fun b _ e => .inl e)
    refine GG ?_
    refine QQ (Yld.convI Tryz.underlying5 Tryz.underlying3 rfl) ?_
    refine RL.re (d := 42) rfl rfl (congrArg (Value.int .i64) (wrap_i64 (by omega) (by omega))) ?_
    refine GG ?_
    refine RK.loop (fun d : Nat => [(0, pp p), (2, pp b2), (3, pp b3), (4, .bool no), (7, .int .u8 (c : Int)), (8, .int .i64 ((c + d : Nat) : Int))]) (fun d w' => Blk w' b3 221 (wds (partR set c d)) ∧ Mod (· = b3) w10 w' ∧ d ≤ c + 1 - c) (fun d => c + 1 - c - d) 0 ⟨rfl, rfl, rfl, rfl, rfl, rfl, trivial⟩ ⟨hB10, Mod.refl _ _, by omega⟩ (fun d w11 hI2 ih2 => ?_)
    obtain ⟨hB11, hm11, hd⟩ := hI2
    refine GG ?_
    refine QQ (Yld.convI Tryz.underlying5 Tryz.underlying3 rfl) ?_
    refine RL.re (d := 45) rfl rfl (congrArg (Value.int .i64) (wrap_i64 (by omega) (by omega))) ?_
    refine GG ?_
    refine CD (fun h46 => ?_) (fun h46 => ?_)
    ·refine GG ?_
     refine QQ (Yld.convI Tryz.underlying3 Tryz.underlying5 rfl) ?_
     refine RL.re (d := 50) rfl rfl (congrArg (Value.int .u8) (Go.X.wrap_u8 (x := c + d) (by omega))) ?_
     refine OP (Does.call rfl e325 (add_set _ b3 (partR set c d) hB11 (partR_w4 hW c d) (c + d) (by omega))) ?_
     rintro _ w12 ⟨rfl, hB12, hm12⟩
     refine RL.done ?_
     refine RK.inBlock ?_
     refine RK.region ?_
     iterate 2 refine RL.p rfl rfl ?_
     refine RL.re (d := 48) rfl rfl (succ_i64 (by omega)) ?_
     refine GG ?_
     exact RK.back (ih2 (d + 1) _ ⟨by unfold partR; rw [range_snoc]; exact hB12, hm11.trans hm12, by omega⟩ (by omega)) ⟨rfl, rfl, rfl, rfl, rfl, rfl, trivial⟩
    ·have hde : d = c + 1 - c := by omega
     have hBe : Blk w11 b3 221 (wds (addG set c c)) := by rw [hde] at hB11; exact hB11
     refine RK.exit rfl ?_
     refine GG ?_
     exact RK.back (ih (false, (bd || decide (c < c)), j, addG set c c) _ ⟨hP10.mod hm11 (by omega), hBe, hW.add _ _, hj, hC9, hM10.trans (hm11.mono fun b _ e => .inr e)⟩ (by
      simp only [Bool.false_eq_true, if_false]
      split
      ·omega
      ·rename_i hb9
       have := hadv (by simpa using hb9); omega)) ⟨rfl, rfl, rfl, rfl, rfl, trivial⟩
   ·have hbt : (bd || decide (c < c)) = decide ((c : Int) < (c : Int)) := by rw [h34]; simp
    iterate 3 refine QQ (Yld.pure rfl) ?_
    refine GG ?_
    refine QQ (Yld.fieldAddr fo308_2 rfl) ?_
    refine OQ (Does.store i4 rfl rfl rfl hP8' (.s (.s .z))) ?_
    rintro _ w10 ⟨hP10', hm10, _⟩
    have hP10 : PA w10 p s j (bd || decide (c < c)) := by rw [hbt]; exact hP10'
    have hB10 := Blk.mod hB8 hm10 (by omega)
    have hM10 := Mod.trans hM8 (hm10.mono fun b _ e => .inl e)
    refine GG ?_
    refine QQ (Yld.convI Tryz.underlying5 Tryz.underlying3 rfl) ?_
    refine RL.re (d := 42) rfl rfl (congrArg (Value.int .i64) (wrap_i64 (by omega) (by omega))) ?_
    refine GG ?_
    refine RK.loop (fun d : Nat => [(0, pp p), (2, pp b2), (3, pp b3), (4, .bool no), (7, .int .u8 (c : Int)), (8, .int .i64 ((c + d : Nat) : Int))]) (fun d w' => Blk w' b3 221 (wds (partR set c d)) ∧ Mod (· = b3) w10 w' ∧ d ≤ c + 1 - c) (fun d => c + 1 - c - d) 0 ⟨rfl, rfl, rfl, rfl, rfl, rfl, trivial⟩ ⟨hB10, Mod.refl _ _, by omega⟩ (fun d w11 hI2 ih2 => ?_)
    obtain ⟨hB11, hm11, hd⟩ := hI2
    refine GG ?_
    refine QQ (Yld.convI Tryz.underlying5 Tryz.underlying3 rfl) ?_
    refine RL.re (d := 45) rfl rfl (congrArg (Value.int .i64) (wrap_i64 (by omega) (by omega))) ?_
    refine GG ?_
    refine CD (fun h46 => ?_) (fun h46 => ?_)
    ·refine GG ?_
     refine QQ (Yld.convI Tryz.underlying3 Tryz.underlying5 rfl) ?_
     refine RL.re (d := 50) rfl rfl (congrArg (Value.int .u8) (Go.X.wrap_u8 (x := c + d) (by omega))) ?_
     refine OP (Does.call rfl e325 (add_set _ b3 (partR set c d) hB11 (partR_w4 hW c d) (c + d) (by omega))) ?_
     rintro _ w12 ⟨rfl, hB12, hm12⟩
     refine RL.done ?_
     refine RK.inBlock ?_
     refine RK.region ?_
     iterate 2 refine RL.p rfl rfl ?_
     refine RL.re (d := 48) rfl rfl (succ_i64 (by omega)) ?_
     refine GG ?_
     exact RK.back (ih2 (d + 1) _ ⟨by unfold partR; rw [range_snoc]; exact hB12, hm11.trans hm12, by omega⟩ (by omega)) ⟨rfl, rfl, rfl, rfl, rfl, rfl, trivial⟩
    ·have hde : d = c + 1 - c := by omega
     have hBe : Blk w11 b3 221 (wds (addG set c c)) := by rw [hde] at hB11; exact hB11
     refine RK.exit rfl ?_
     refine GG ?_
     exact RK.back (ih (false, (bd || decide (c < c)), j, addG set c c) _ ⟨hP10.mod hm11 (by omega), hBe, hW.add _ _, hj, hC9, hM10.trans (hm11.mono fun b _ e => .inr e)⟩ (by
      simp only [Bool.false_eq_true, if_false]
      split
      ·omega
      ·rename_i hb9
       have := hadv (by simpa using hb9); omega)) ⟨rfl, rfl, rfl, rfl, rfl, trivial⟩
 ·have h12' : first = false := h12
  subst h12'
  refine QQ (Yld.pure rfl) ?_
  refine OP (Does.call rfl e308 (over_ok _ p s k bad hP)) ?_
  rintro _ w5 ⟨rfl, hg5⟩
  have hPo := hP.mod hg5 (fun h => h)
  have hBo := hB.mod hg5 (fun h => h)
  have hmo : Mod (fun b => b = p ∨ b = b3) w2 w5 := hm.trans (Mod.any' hg5)
  iterate 2 refine QQ (Yld.pure rfl) ?_
  refine SP 16 (fun h16 => ?_) (fun h16 => ?_)
  ·have h16' : bad = false ∧ k < s.size := by simpa using h16
   obtain ⟨hbad, hks⟩ := h16'
   subst hbad
   refine QQ (Yld.pure rfl) ?_
   refine OP (Does.call rfl e309 (sees_ok _ p s k false hPo 93)) ?_
   rintro _ w6 ⟨rfl, hg6⟩
   have hPe := hPo.mod hg6 (fun h => h)
   have hBe := hBo.mod hg6 (fun h => h)
   have hme : Mod (fun b => b = p ∨ b = b3) w2 w6 := hmo.trans (Mod.any' hg6)
   obtain ⟨n, hn, hnk⟩ := hC.go rfl rfl
   iterate 2 refine QQ (Yld.pure rfl) ?_
   refine GG ?_
   refine CD (fun h21 => ?_) (fun h21 => ?_)
   ·have h93 : b8 s k ≠ 93 := by simpa [seesS, hks] using h21
    obtain ⟨m, rfl⟩ : ∃ m, n = m + 1 := ⟨n - 1, by omega⟩
    have hbody := (body_go hks h93).symm.trans hn
    have hmk : s.size ≤ m + k := by omega
    refine GG ?_
    refine OP (Does.call rfl e328 (member_ok' _ p s k hPe hk hs)) ?_
    rintro _ w7 ⟨c, j, bd, rfl, hc, hj, hP7, hmem, hm7⟩
    have hB7 := Blk.mod hBe hm7 (by omega)
    have hM7 := Mod.trans hme (hm7.mono fun b _ e => .inl e)
    refine GG ?_
    refine OP (Does.call rfl e293 (next_ok _ p s j bd hP7 (by omega) 45)) ?_
    rintro _ w8 ⟨rfl, hP8, hm8⟩
    have hB8 := hB7.mod hm8 (by omega)
    have hM8 := Mod.trans hM7 (hm8.mono fun b _ e => .inl e)
    refine RL.done ?_
    refine CD (fun h26 => ?_) (fun h26 => ?_)
    ·have h9 : bd = false ∧ j < s.size ∧ b8 s j = 45 := by simpa [seesS] using h26
     obtain ⟨hbd, hjs, hj45⟩ := h9
     subst hbd
     rw [h26] at hP8
     refine GG ?_
     refine OP (Does.call rfl e328 (member_ok' _ p s (j + 1) hP8 (by omega) hs)) ?_
     rintro _ w9 ⟨c2, j2, bd2, rfl, hc2, hj2, hP9, hmem2, hm9⟩
     have hB9 := hB8.mod hm9 (by omega)
     have hM9 := Mod.trans hM8 (hm9.mono fun b _ e => .inl e)
     have hC9 := ClsI.step (c2 := c2) (j2 := j2) (bad2 := bd2) hbody hmk hmem (fun h => by cases h) (fun _ => by unfold toS; rw [if_pos ⟨hjs, hj45⟩]; exact hmem2)
     have hadv : (bd2 || decide (c2 < c)) = false → k < j2 := fun h => by
       have e : bd2 = false := by cases bd2 with | false => rfl | true => simp at h
       subst e
       have := memS_adv hmem; have := memS_adv hmem2; omega
     refine GG ?_
     refine QQ (Yld.fieldAddr fo308_2 rfl) ?_
     refine QQ (Yld.load p4 rfl (at1 (hP9.cell rfl))) ?_
     refine RL.p rfl rfl ?_
     refine SP 34 (fun h34 => ?_) (fun h34 => ?_)
     ·have hbt : (bd2 || decide (c2 < c)) = true := by rw [h34]; rfl
      iterate 3 refine RL.no (.no rfl rfl rfl rfl) rfl rfl ?_
      refine GG ?_
      refine QQ (Yld.fieldAddr fo308_2 rfl) ?_
      refine OQ (Does.store i4 rfl rfl rfl hP9 (.s (.s .z))) ?_
      rintro _ w10 ⟨hP10', hm10, _⟩
      have hP10 : PA w10 p s j2 (bd2 || decide (c2 < c)) := by rw [hbt]; exact hP10'
      have hB10 := Blk.mod hB9 hm10 (by omega)
      have hM10 := Mod.trans hM9 (hm10.mono fun b _ e => .inl e)
      refine GG ?_
      refine QQ (Yld.convI Tryz.underlying5 Tryz.underlying3 rfl) ?_
      refine RL.re (d := 42) rfl rfl (congrArg (Value.int .i64) (wrap_i64 (by omega) (by omega))) ?_
      refine GG ?_
      refine RK.loop (fun d : Nat => [(0, pp p), (2, pp b2), (3, pp b3), (4, .bool no), (7, .int .u8 (c2 : Int)), (8, .int .i64 ((c + d : Nat) : Int))]) (fun d w' => Blk w' b3 221 (wds (partR set c d)) ∧ Mod (· = b3) w10 w' ∧ d ≤ c2 + 1 - c) (fun d => c2 + 1 - c - d) 0 ⟨rfl, rfl, rfl, rfl, rfl, rfl, trivial⟩ ⟨hB10, Mod.refl _ _, by omega⟩ (fun d w11 hI2 ih2 => ?_)
      obtain ⟨hB11, hm11, hd⟩ := hI2
      refine GG ?_
      refine QQ (Yld.convI Tryz.underlying5 Tryz.underlying3 rfl) ?_
      refine RL.re (d := 45) rfl rfl (congrArg (Value.int .i64) (wrap_i64 (by omega) (by omega))) ?_
      refine GG ?_
      refine CD (fun h46 => ?_) (fun h46 => ?_)
      ·refine GG ?_
       refine QQ (Yld.convI Tryz.underlying3 Tryz.underlying5 rfl) ?_
       refine RL.re (d := 50) rfl rfl (congrArg (Value.int .u8) (Go.X.wrap_u8 (x := c + d) (by omega))) ?_
       refine OP (Does.call rfl e325 (add_set _ b3 (partR set c d) hB11 (partR_w4 hW c d) (c + d) (by omega))) ?_
       rintro _ w12 ⟨rfl, hB12, hm12⟩
       refine RL.done ?_
       refine RK.inBlock ?_
       refine RK.region ?_
       iterate 2 refine RL.p rfl rfl ?_
       refine RL.re (d := 48) rfl rfl (succ_i64 (by omega)) ?_
       refine GG ?_
       exact RK.back (ih2 (d + 1) _ ⟨by unfold partR; rw [range_snoc]; exact hB12, hm11.trans hm12, by omega⟩ (by omega)) ⟨rfl, rfl, rfl, rfl, rfl, rfl, trivial⟩
      ·have hde : d = c2 + 1 - c := by omega
       have hBe : Blk w11 b3 221 (wds (addG set c c2)) := by rw [hde] at hB11; exact hB11
       refine RK.exit rfl ?_
       refine GG ?_
       exact RK.back (ih (false, (bd2 || decide (c2 < c)), j2, addG set c c2) _ ⟨hP10.mod hm11 (by omega), hBe, hW.add _ _, hj2, hC9, hM10.trans (hm11.mono fun b _ e => .inr e)⟩ (by
        simp only [Bool.false_eq_true, if_false]
        split
        ·omega
        ·rename_i hb9
         have := hadv (by simpa using hb9); omega)) ⟨rfl, rfl, rfl, rfl, rfl, trivial⟩
     ·have hbt : (bd2 || decide (c2 < c)) = decide ((c2 : Int) < (c : Int)) := by rw [h34]; simp
      iterate 3 refine QQ (Yld.pure rfl) ?_
      refine GG ?_
      refine QQ (Yld.fieldAddr fo308_2 rfl) ?_
      refine OQ (Does.store i4 rfl rfl rfl hP9 (.s (.s .z))) ?_
      rintro _ w10 ⟨hP10', hm10, _⟩
      have hP10 : PA w10 p s j2 (bd2 || decide (c2 < c)) := by rw [hbt]; exact hP10'
      have hB10 := Blk.mod hB9 hm10 (by omega)
      have hM10 := Mod.trans hM9 (hm10.mono fun b _ e => .inl e)
      refine GG ?_
      refine QQ (Yld.convI Tryz.underlying5 Tryz.underlying3 rfl) ?_
      refine RL.re (d := 42) rfl rfl (congrArg (Value.int .i64) (wrap_i64 (by omega) (by omega))) ?_
      refine GG ?_
      refine RK.loop (fun d : Nat => [(0, pp p), (2, pp b2), (3, pp b3), (4, .bool no), (7, .int .u8 (c2 : Int)), (8, .int .i64 ((c + d : Nat) : Int))]) (fun d w' => Blk w' b3 221 (wds (partR set c d)) ∧ Mod (· = b3) w10 w' ∧ d ≤ c2 + 1 - c) (fun d => c2 + 1 - c - d) 0 ⟨rfl, rfl, rfl, rfl, rfl, rfl, trivial⟩ ⟨hB10, Mod.refl _ _, by omega⟩ (fun d w11 hI2 ih2 => ?_)
      obtain ⟨hB11, hm11, hd⟩ := hI2
      refine GG ?_
      refine QQ (Yld.convI Tryz.underlying5 Tryz.underlying3 rfl) ?_
      refine RL.re (d := 45) rfl rfl (congrArg (Value.int .i64) (wrap_i64 (by omega) (by omega))) ?_
      refine GG ?_
      refine CD (fun h46 => ?_) (fun h46 => ?_)
      ·refine GG ?_
       refine QQ (Yld.convI Tryz.underlying3 Tryz.underlying5 rfl) ?_
       refine RL.re (d := 50) rfl rfl (congrArg (Value.int .u8) (Go.X.wrap_u8 (x := c + d) (by omega))) ?_
       refine OP (Does.call rfl e325 (add_set _ b3 (partR set c d) hB11 (partR_w4 hW c d) (c + d) (by omega))) ?_
       rintro _ w12 ⟨rfl, hB12, hm12⟩
       refine RL.done ?_
       refine RK.inBlock ?_
       refine RK.region ?_
       iterate 2 refine RL.p rfl rfl ?_
       refine RL.re (d := 48) rfl rfl (succ_i64 (by omega)) ?_
       refine GG ?_
       exact RK.back (ih2 (d + 1) _ ⟨by unfold partR; rw [range_snoc]; exact hB12, hm11.trans hm12, by omega⟩ (by omega)) ⟨rfl, rfl, rfl, rfl, rfl, rfl, trivial⟩
      ·have hde : d = c2 + 1 - c := by omega
       have hBe : Blk w11 b3 221 (wds (addG set c c2)) := by rw [hde] at hB11; exact hB11
       refine RK.exit rfl ?_
       refine GG ?_
       exact RK.back (ih (false, (bd2 || decide (c2 < c)), j2, addG set c c2) _ ⟨hP10.mod hm11 (by omega), hBe, hW.add _ _, hj2, hC9, hM10.trans (hm11.mono fun b _ e => .inr e)⟩ (by
        simp only [Bool.false_eq_true, if_false]
        split
        ·omega
        ·rename_i hb9
         have := hadv (by simpa using hb9); omega)) ⟨rfl, rfl, rfl, rfl, rfl, trivial⟩
    ·have h26' : seesS s j bd 45 = false := by simpa using h26
     rw [h26'] at hP8
     have hC9 := ClsI.step (c2 := c) (j2 := j) (bad2 := bd) hbody hmk hmem (fun h => h) (fun hb => by unfold toS; rw [if_neg (fun h => by simp [seesS, hb, h] at h26'), hb]; rfl)
     have hadv : (bd || decide (c < c)) = false → k < j := fun h => by
       have e : bd = false := by cases bd with | false => rfl | true => simp at h
       subst e
       have := memS_adv hmem; omega
     have hP8' : PA w8 p s j bd := hP8
     refine GG ?_
     refine QQ (Yld.fieldAddr fo308_2 rfl) ?_
     refine QQ (Yld.load p4 rfl (at1 (hP8'.cell rfl))) ?_
     refine RL.p rfl rfl ?_
     refine SP 34 (fun h34 => ?_) (fun h34 => ?_)
     ·have hbt : (bd || decide (c < c)) = true := by rw [h34]; rfl
      iterate 3 refine RL.no (.no rfl rfl rfl rfl) rfl rfl ?_
      refine GG ?_
      refine QQ (Yld.fieldAddr fo308_2 rfl) ?_
      refine OQ (Does.store i4 rfl rfl rfl hP8' (.s (.s .z))) ?_
      rintro _ w10 ⟨hP10', hm10, _⟩
      have hP10 : PA w10 p s j (bd || decide (c < c)) := by rw [hbt]; exact hP10'
      have hB10 := Blk.mod hB8 hm10 (by omega)
      have hM10 := Mod.trans hM8 (hm10.mono fun b _ e => .inl e)
      refine GG ?_
      refine QQ (Yld.convI Tryz.underlying5 Tryz.underlying3 rfl) ?_
      refine RL.re (d := 42) rfl rfl (congrArg (Value.int .i64) (wrap_i64 (by omega) (by omega))) ?_
      refine GG ?_
      refine RK.loop (fun d : Nat => [(0, pp p), (2, pp b2), (3, pp b3), (4, .bool no), (7, .int .u8 (c : Int)), (8, .int .i64 ((c + d : Nat) : Int))]) (fun d w' => Blk w' b3 221 (wds (partR set c d)) ∧ Mod (· = b3) w10 w' ∧ d ≤ c + 1 - c) (fun d => c + 1 - c - d) 0 ⟨rfl, rfl, rfl, rfl, rfl, rfl, trivial⟩ ⟨hB10, Mod.refl _ _, by omega⟩ (fun d w11 hI2 ih2 => ?_)
      obtain ⟨hB11, hm11, hd⟩ := hI2
      refine GG ?_
      refine QQ (Yld.convI Tryz.underlying5 Tryz.underlying3 rfl) ?_
      refine RL.re (d := 45) rfl rfl (congrArg (Value.int .i64) (wrap_i64 (by omega) (by omega))) ?_
      refine GG ?_
      refine CD (fun h46 => ?_) (fun h46 => ?_)
      ·refine GG ?_
       refine QQ (Yld.convI Tryz.underlying3 Tryz.underlying5 rfl) ?_
       refine RL.re (d := 50) rfl rfl (congrArg (Value.int .u8) (Go.X.wrap_u8 (x := c + d) (by omega))) ?_
       refine OP (Does.call rfl e325 (add_set _ b3 (partR set c d) hB11 (partR_w4 hW c d) (c + d) (by omega))) ?_
       rintro _ w12 ⟨rfl, hB12, hm12⟩
       refine RL.done ?_
       refine RK.inBlock ?_
       refine RK.region ?_
       iterate 2 refine RL.p rfl rfl ?_
       refine RL.re (d := 48) rfl rfl (succ_i64 (by omega)) ?_
       refine GG ?_
       exact RK.back (ih2 (d + 1) _ ⟨by unfold partR; rw [range_snoc]; exact hB12, hm11.trans hm12, by omega⟩ (by omega)) ⟨rfl, rfl, rfl, rfl, rfl, rfl, trivial⟩
      ·have hde : d = c + 1 - c := by omega
       have hBe : Blk w11 b3 221 (wds (addG set c c)) := by rw [hde] at hB11; exact hB11
       refine RK.exit rfl ?_
       refine GG ?_
       exact RK.back (ih (false, (bd || decide (c < c)), j, addG set c c) _ ⟨hP10.mod hm11 (by omega), hBe, hW.add _ _, hj, hC9, hM10.trans (hm11.mono fun b _ e => .inr e)⟩ (by
        simp only [Bool.false_eq_true, if_false]
        split
        ·omega
        ·rename_i hb9
         have := hadv (by simpa using hb9); omega)) ⟨rfl, rfl, rfl, rfl, rfl, trivial⟩
     ·have hbt : (bd || decide (c < c)) = decide ((c : Int) < (c : Int)) := by rw [h34]; simp
      iterate 3 refine QQ (Yld.pure rfl) ?_
      refine GG ?_
      refine QQ (Yld.fieldAddr fo308_2 rfl) ?_
      refine OQ (Does.store i4 rfl rfl rfl hP8' (.s (.s .z))) ?_
      rintro _ w10 ⟨hP10', hm10, _⟩
      have hP10 : PA w10 p s j (bd || decide (c < c)) := by rw [hbt]; exact hP10'
      have hB10 := Blk.mod hB8 hm10 (by omega)
      have hM10 := Mod.trans hM8 (hm10.mono fun b _ e => .inl e)
      refine GG ?_
      refine QQ (Yld.convI Tryz.underlying5 Tryz.underlying3 rfl) ?_
      refine RL.re (d := 42) rfl rfl (congrArg (Value.int .i64) (wrap_i64 (by omega) (by omega))) ?_
      refine GG ?_
      refine RK.loop (fun d : Nat => [(0, pp p), (2, pp b2), (3, pp b3), (4, .bool no), (7, .int .u8 (c : Int)), (8, .int .i64 ((c + d : Nat) : Int))]) (fun d w' => Blk w' b3 221 (wds (partR set c d)) ∧ Mod (· = b3) w10 w' ∧ d ≤ c + 1 - c) (fun d => c + 1 - c - d) 0 ⟨rfl, rfl, rfl, rfl, rfl, rfl, trivial⟩ ⟨hB10, Mod.refl _ _, by omega⟩ (fun d w11 hI2 ih2 => ?_)
      obtain ⟨hB11, hm11, hd⟩ := hI2
      refine GG ?_
      refine QQ (Yld.convI Tryz.underlying5 Tryz.underlying3 rfl) ?_
      refine RL.re (d := 45) rfl rfl (congrArg (Value.int .i64) (wrap_i64 (by omega) (by omega))) ?_
      refine GG ?_
      refine CD (fun h46 => ?_) (fun h46 => ?_)
      ·refine GG ?_
       refine QQ (Yld.convI Tryz.underlying3 Tryz.underlying5 rfl) ?_
       refine RL.re (d := 50) rfl rfl (congrArg (Value.int .u8) (Go.X.wrap_u8 (x := c + d) (by omega))) ?_
       refine OP (Does.call rfl e325 (add_set _ b3 (partR set c d) hB11 (partR_w4 hW c d) (c + d) (by omega))) ?_
       rintro _ w12 ⟨rfl, hB12, hm12⟩
       refine RL.done ?_
       refine RK.inBlock ?_
       refine RK.region ?_
       iterate 2 refine RL.p rfl rfl ?_
       refine RL.re (d := 48) rfl rfl (succ_i64 (by omega)) ?_
       refine GG ?_
       exact RK.back (ih2 (d + 1) _ ⟨by unfold partR; rw [range_snoc]; exact hB12, hm11.trans hm12, by omega⟩ (by omega)) ⟨rfl, rfl, rfl, rfl, rfl, rfl, trivial⟩
      ·have hde : d = c + 1 - c := by omega
       have hBe : Blk w11 b3 221 (wds (addG set c c)) := by rw [hde] at hB11; exact hB11
       refine RK.exit rfl ?_
       refine GG ?_
       exact RK.back (ih (false, (bd || decide (c < c)), j, addG set c c) _ ⟨hP10.mod hm11 (by omega), hBe, hW.add _ _, hj, hC9, hM10.trans (hm11.mono fun b _ e => .inr e)⟩ (by
        simp only [Bool.false_eq_true, if_false]
        split
        ·omega
        ·rename_i hb9
         have := hadv (by simpa using hb9); omega)) ⟨rfl, rfl, rfl, rfl, rfl, trivial⟩
   ·have h93 : b8 s k = 93 := by simpa [seesS, hks] using h21
    obtain ⟨m, rfl⟩ : ∃ m, n = m + 1 := ⟨n - 1, by omega⟩
    have hTe : T = some (set, k + 1) := by rw [← hn, clsL, if_pos hks, if_pos h93]
    have hsee : seesS s k false 93 = true := by simp [seesS, hks, h93]
    refine RK.exit rfl ?_
    refine GG ?_
    refine OP (Does.call rfl e293 (next_ok _ p s k false hPe (by omega) 93)) ?_
    rintro _ w7 ⟨rfl, hP7, hm7⟩
    rw [hsee] at hP7 ⊢
    refine GG ?_
    refine RL.knownF (d := 56) rfl rfl (rfl) ?_
    iterate 2 refine QQ (Yld.pure rfl) ?_
    refine QQ (Yld.fieldAddr fo308_2 rfl) ?_
    refine QQ (Yld.load p4 rfl (at1 (hP7.cell rfl))) ?_
    refine GG ?_
    refine QQ (Yld.fieldAddr fo308_2 rfl) ?_
    refine OQ (Does.store i4 rfl rfl rfl hP7 (.s (.s .z))) ?_
    rintro _ w8 ⟨hP8, hm8, _⟩
    have hB8 : Blk w8 b3 221 (wds set) := (Blk.mod hBe hm7 (by omega)).mod hm8 (by omega)
    have hP8' : PA w8 p s (k + 1) false := hP8
    have hM8 : Mod (fun b => b = p ∨ b = b3) w2 w8 := (Mod.trans hme (hm7.mono fun b _ e => .inl e)).trans (hm8.mono fun b _ e => .inl e)
    have hR8 := (hn2.blk.mod hn3.grow (fun h => h)).mod hM8 (by omega)
    obtain ⟨x0, x1, x2, x3, rfl⟩ : ∃ x0 x1 x2 x3, set = [x0, x1, x2, x3] := by
      obtain ⟨h4, _⟩ := hW
      match set, h4 with
      | [x0, x1, x2, x3], _ => exact ⟨x0, x1, x2, x3, rfl⟩
    refine GG ?_
    refine CD (fun h64 => ?_) (fun h64 => ?_)
    ·refine GG ?_
     refine QQ (Yld.loadN (cs := wds [x0, x1, x2, x3]) a221 rfl (atN (blk0' hB8))) ?_
     refine OP (Does.call rfl e324 (turned_ok _ [x0, x1, x2, x3] hW)) ?_
     rintro _ w9 ⟨rfl, hg9⟩
     refine OQ (Does.storeN i221 rfl rfl (by simp [Value.cells, invS]) (by simp [Value.cells, Value.oneCell', invS]) (hR8.mod hg9 (fun h => h)) (by decide)) ?_
     rintro _ w10 ⟨hb10, hm10, _⟩
     refine RL.done ?_
     refine RK.ret_of Tryz.func323 (resC (cs := wds (invS [x0, x1, x2, x3])) rfl rfl a221 hb10) ?_ _
     exact ⟨_, rfl, invS [x0, x1, x2, x3], (k + 1), false, rfl, hW.inv, by omega, (hP8'.mod hg9 (fun h => h)).mod hm10 (by omega), by subst h64; rw [hcl, hTe]; rfl, (((Mod.any' hg2 : Mod (· = p) w w2).then hM8 (fun b hb e => e.elim (fun e => e) (fun e => by omega))).trans (Mod.any' hg9)).then hm10 (fun b hb e => by have e' : b = b2 := e; omega)⟩
    ·refine GG ?_
     refine QQ (Yld.loadN (cs := wds [x0, x1, x2, x3]) a221 rfl (atN (blk0' hB8))) ?_
     refine OQ (Does.storeN i221 rfl rfl (by simp [Value.cells]) (by simp [Value.cells, Value.oneCell']) hR8 (by decide)) ?_
     rintro _ w10 ⟨hb10, hm10, _⟩
     refine RL.done ?_
     refine RK.ret_of Tryz.func323 (resC (cs := wds [x0, x1, x2, x3]) rfl rfl a221 hb10) ?_ _
     exact ⟨_, rfl, [x0, x1, x2, x3], (k + 1), false, rfl, hW, by omega, hP8'.mod hm10 (by omega), by have h64' : no = false := (by simpa using h64); subst h64'; rw [hcl, hTe]; rfl, ((Mod.any' hg2 : Mod (· = p) w w2).then hM8 (fun b hb e => e.elim (fun e => e) (fun e => by omega))).then hm10 (fun b hb e => by have e' : b = b2 := e; omega)⟩
  ·have h16' : bad = true ∨ ¬ k < s.size := by cases bad <;> simp at h16 ⊢; omega
   have hTe : T = none := by
     cases hb : bad with
     | true => exact (hC.no hb).2
     | false =>
      obtain ⟨n, hn, hnk⟩ := hC.go rfl hb
      obtain ⟨m, rfl⟩ : ∃ m, n = m + 1 := ⟨n - 1, by omega⟩
      rw [← hn, clsL, if_neg (by rcases h16' with h | h; (rw [hb] at h; cases h); exact h)]
   have hsee : seesS s k bad 93 = false := by rcases h16' with h | h <;> simp [seesS, h]
   iterate 3 refine RL.no (.no rfl rfl rfl rfl) rfl rfl ?_
   refine QQ (Yld.pure rfl) ?_
   refine GG ?_
   refine RK.condF rfl ?_
   refine RK.exit rfl ?_
   refine GG ?_
   refine OP (Does.call rfl e293 (next_ok _ p s k bad hPo (by omega) 93)) ?_
   rintro _ w7 ⟨rfl, hP7, hm7⟩
   rw [hsee] at hP7 ⊢
   refine GG ?_
   refine RL.knownT (d := 56) rfl rfl (rfl) ?_
   iterate 4 refine RL.no (.no rfl rfl rfl rfl) rfl rfl ?_
   refine GG ?_
   refine QQ (Yld.fieldAddr fo308_2 rfl) ?_
   refine OQ (Does.store i4 rfl rfl rfl hP7 (.s (.s .z))) ?_
   rintro _ w8 ⟨hP8, hm8, _⟩
   have hB8 : Blk w8 b3 221 (wds set) := (Blk.mod hBo hm7 (by omega)).mod hm8 (by omega)
   have hP8' : PA w8 p s k true := hP8
   have hM8 : Mod (fun b => b = p ∨ b = b3) w2 w8 := (Mod.trans hmo (hm7.mono fun b _ e => .inl e)).trans (hm8.mono fun b _ e => .inl e)
   have hR8 := (hn2.blk.mod hn3.grow (fun h => h)).mod hM8 (by omega)
   obtain ⟨x0, x1, x2, x3, rfl⟩ : ∃ x0 x1 x2 x3, set = [x0, x1, x2, x3] := by
     obtain ⟨h4, _⟩ := hW
     match set, h4 with
     | [x0, x1, x2, x3], _ => exact ⟨x0, x1, x2, x3, rfl⟩
   refine GG ?_
   refine CD (fun h64 => ?_) (fun h64 => ?_)
   ·refine GG ?_
    refine QQ (Yld.loadN (cs := wds [x0, x1, x2, x3]) a221 rfl (atN (blk0' hB8))) ?_
    refine OP (Does.call rfl e324 (turned_ok _ [x0, x1, x2, x3] hW)) ?_
    rintro _ w9 ⟨rfl, hg9⟩
    refine OQ (Does.storeN i221 rfl rfl (by simp [Value.cells, invS]) (by simp [Value.cells, Value.oneCell', invS]) (hR8.mod hg9 (fun h => h)) (by decide)) ?_
    rintro _ w10 ⟨hb10, hm10, _⟩
    refine RL.done ?_
    refine RK.ret_of Tryz.func323 (resC (cs := wds (invS [x0, x1, x2, x3])) rfl rfl a221 hb10) ?_ _
    exact ⟨_, rfl, invS [x0, x1, x2, x3], k, true, rfl, hW.inv, by omega, (hP8'.mod hg9 (fun h => h)).mod hm10 (by omega), by subst h64; rw [hcl, hTe]; rfl, (((Mod.any' hg2 : Mod (· = p) w w2).then hM8 (fun b hb e => e.elim (fun e => e) (fun e => by omega))).trans (Mod.any' hg9)).then hm10 (fun b hb e => by have e' : b = b2 := e; omega)⟩
   ·refine GG ?_
    refine QQ (Yld.loadN (cs := wds [x0, x1, x2, x3]) a221 rfl (atN (blk0' hB8))) ?_
    refine OQ (Does.storeN i221 rfl rfl (by simp [Value.cells]) (by simp [Value.cells, Value.oneCell']) hR8 (by decide)) ?_
    rintro _ w10 ⟨hb10, hm10, _⟩
    refine RL.done ?_
    refine RK.ret_of Tryz.func323 (resC (cs := wds [x0, x1, x2, x3]) rfl rfl a221 hb10) ?_ _
    exact ⟨_, rfl, [x0, x1, x2, x3], k, true, rfl, hW, by omega, hP8'.mod hm10 (by omega), by have h64' : no = false := (by simpa using h64); subst h64'; rw [hcl, hTe]; rfl, ((Mod.any' hg2 : Mod (· = p) w w2).then hM8 (fun b hb e => e.elim (fun e => e) (fun e => by omega))).then hm10 (fun b hb e => by have e' : b = b2 := e; omega)⟩
end Go.Proofs.YthbjfhhiajihfaaGreat
