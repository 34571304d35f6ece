/- What the program's tables say of the types and functions that the code names: closed facts, by program. -/
import Derived.Test.YtffbcfcoddacmaaGreatProg
import Derived.Test.YtffbcfcoddacmaaGreatXA
namespace Go.Proofs.YtffbcfcoddacmaaGreat
open Go Go.X
theorem mixed : Tryz.prog.follows .mixedOrders = true := by kernel_rfl
theorem i2 : TI Tryz.prog 2 (.int .i64 0) 1 8 := TI.mk' (by kernel_rfl)
theorem p2 : Plain Tryz.prog 2 := Plain.of Tryz.underlying2 rfl
theorem i3 : TI Tryz.prog 3 (.int .i64 0) 1 8 := TI.mk' (by kernel_rfl)
theorem p3 : Plain Tryz.prog 3 := Plain.of Tryz.underlying3 rfl
theorem u4 : Tryz.prog.underlying 4 = some .bool := Tryz.underlying4
theorem i4 : TI Tryz.prog 4 (.bool false) 1 1 := TI.mk' (by kernel_rfl)
theorem p4 : Plain Tryz.prog 4 := Plain.of Tryz.underlying4 rfl
theorem i5 : TI Tryz.prog 5 (.int .u8 0) 1 1 := TI.mk' (by kernel_rfl)
theorem p5 : Plain Tryz.prog 5 := Plain.of Tryz.underlying5 rfl
theorem i8 : TI Tryz.prog 8 (.agg #[.int .i64 0, .int .i64 0, .bool false, .int .u8 0]) 4 24 := TI.mk' (by kernel_rfl)
theorem a8 : Agg Tryz.prog 8 4 := Agg.of (d := (Tryz.prog.underlying 8).getD .bool) (by kernel_rfl) (by kernel_rfl) i8
theorem u9 : Tryz.prog.underlying 9 = some .string := Tryz.underlying9
theorem i9 : TI Tryz.prog 9 (.string ByteArray.empty) 1 16 := TI.mk' (by kernel_rfl)
theorem p9 : Plain Tryz.prog 9 := Plain.of Tryz.underlying9 rfl
theorem u10 : Tryz.prog.underlying 10 = some .string := Tryz.underlying10
theorem i10 : TI Tryz.prog 10 (.string ByteArray.empty) 1 16 := TI.mk' (by kernel_rfl)
theorem p10 : Plain Tryz.prog 10 := Plain.of Tryz.underlying10 rfl
theorem u11 : Tryz.prog.underlying 11 = some .string := Tryz.underlying11
theorem i11 : TI Tryz.prog 11 (.string ByteArray.empty) 1 16 := TI.mk' (by kernel_rfl)
theorem p11 : Plain Tryz.prog 11 := Plain.of Tryz.underlying11 rfl
theorem i14 : TI Tryz.prog 14 (.agg #[.string ByteArray.empty, .int .u64 0]) 2 24 := TI.mk' (by kernel_rfl)
theorem a14 : Agg Tryz.prog 14 2 := Agg.of (d := (Tryz.prog.underlying 14).getD .bool) (by kernel_rfl) (by kernel_rfl) i14
theorem i15 : TI Tryz.prog 15 (.pointer none) 1 8 := TI.mk' (by kernel_rfl)
theorem p15 : Plain Tryz.prog 15 := Plain.of Tryz.underlying15 rfl
theorem i16 : TI Tryz.prog 16 (.pointer none) 1 8 := TI.mk' (by kernel_rfl)
theorem p16 : Plain Tryz.prog 16 := Plain.of Tryz.underlying16 rfl
theorem i17 : TI Tryz.prog 17 (.pointer none) 1 8 := TI.mk' (by kernel_rfl)
theorem p17 : Plain Tryz.prog 17 := Plain.of Tryz.underlying17 rfl
theorem i19 : TI Tryz.prog 19 (.agg #[.pointer none]) 1 8 := TI.mk' (by kernel_rfl)
theorem a19 : Agg Tryz.prog 19 1 := Agg.of (d := (Tryz.prog.underlying 19).getD .bool) (by kernel_rfl) (by kernel_rfl) i19
theorem u22 : SlT Tryz.prog 22 3 := Tryz.underlying22
theorem i22 : TI Tryz.prog 22 (.slice none 0 0) 1 24 := TI.mk' (by kernel_rfl)
theorem p22 : Plain Tryz.prog 22 := Plain.of Tryz.underlying22 rfl
theorem i23 : TI Tryz.prog 23 (.float .f64 0) 1 8 := TI.mk' (by kernel_rfl)
theorem p23 : Plain Tryz.prog 23 := Plain.of Tryz.underlying23 rfl
theorem i24 : TI Tryz.prog 24 (.pointer none) 1 8 := TI.mk' (by kernel_rfl)
theorem p24 : Plain Tryz.prog 24 := Plain.of Tryz.underlying24 rfl
theorem u26 : SlT Tryz.prog 26 46 := Tryz.underlying26
theorem i26 : TI Tryz.prog 26 (.slice none 0 0) 1 24 := TI.mk' (by kernel_rfl)
theorem p26 : Plain Tryz.prog 26 := Plain.of Tryz.underlying26 rfl
theorem i28 : TI Tryz.prog 28 (.int .i64 0) 1 8 := TI.mk' (by kernel_rfl)
theorem p28 : Plain Tryz.prog 28 := Plain.of Tryz.underlying28 rfl
theorem i32 : TI Tryz.prog 32 (.agg #[.int .i64 0, .slice none 0 0, .float .f64 0]) 3 40 := TI.mk' (by kernel_rfl)
theorem a32 : Agg Tryz.prog 32 3 := Agg.of (d := (Tryz.prog.underlying 32).getD .bool) (by kernel_rfl) (by kernel_rfl) i32
theorem i36 : TI Tryz.prog 36 (.int .u64 0) 1 8 := TI.mk' (by kernel_rfl)
theorem p36 : Plain Tryz.prog 36 := Plain.of Tryz.underlying36 rfl
theorem i42 : TI Tryz.prog 42 (.pointer none) 1 8 := TI.mk' (by kernel_rfl)
theorem p42 : Plain Tryz.prog 42 := Plain.of Tryz.underlying42 rfl
theorem i46 : TI Tryz.prog 46 (.agg #[.string ByteArray.empty, .string ByteArray.empty]) 2 32 := TI.mk' (by kernel_rfl)
theorem a46 : Agg Tryz.prog 46 2 := Agg.of (d := (Tryz.prog.underlying 46).getD .bool) (by kernel_rfl) (by kernel_rfl) i46
theorem i50 : TI Tryz.prog 50 (.agg #[.int .i64 0, .string ByteArray.empty, .string ByteArray.empty]) 3 40 := TI.mk' (by kernel_rfl)
theorem a50 : Agg Tryz.prog 50 3 := Agg.of (d := (Tryz.prog.underlying 50).getD .bool) (by kernel_rfl) (by kernel_rfl) i50
theorem u51 : SlT Tryz.prog 51 50 := Tryz.underlying51
theorem i51 : TI Tryz.prog 51 (.slice none 0 0) 1 24 := TI.mk' (by kernel_rfl)
theorem p51 : Plain Tryz.prog 51 := Plain.of Tryz.underlying51 rfl
theorem u52 : SlT Tryz.prog 52 57 := Tryz.underlying52
theorem i52 : TI Tryz.prog 52 (.slice none 0 0) 1 24 := TI.mk' (by kernel_rfl)
theorem p52 : Plain Tryz.prog 52 := Plain.of Tryz.underlying52 rfl
theorem i53 : TI Tryz.prog 53 (.pointer none) 1 8 := TI.mk' (by kernel_rfl)
theorem p53 : Plain Tryz.prog 53 := Plain.of Tryz.underlying53 rfl
theorem i57 : TI Tryz.prog 57 (.agg #[.int .u8 0, .int .i64 0, .slice none 0 0, .float .f64 0]) 4 48 := TI.mk' (by kernel_rfl)
theorem a57 : Agg Tryz.prog 57 4 := Agg.of (d := (Tryz.prog.underlying 57).getD .bool) (by kernel_rfl) (by kernel_rfl) i57
theorem u58 : SlT Tryz.prog 58 32 := Tryz.underlying58
theorem i58 : TI Tryz.prog 58 (.slice none 0 0) 1 24 := TI.mk' (by kernel_rfl)
theorem p58 : Plain Tryz.prog 58 := Plain.of Tryz.underlying58 rfl
theorem i60 : TI Tryz.prog 60 (.agg #[.int .i64 0, .slice none 0 0, .int .i64 0]) 3 40 := TI.mk' (by kernel_rfl)
theorem a60 : Agg Tryz.prog 60 3 := Agg.of (d := (Tryz.prog.underlying 60).getD .bool) (by kernel_rfl) (by kernel_rfl) i60
theorem u65 : SlT Tryz.prog 65 153 := Tryz.underlying65
theorem i65 : TI Tryz.prog 65 (.slice none 0 0) 1 24 := TI.mk' (by kernel_rfl)
theorem p65 : Plain Tryz.prog 65 := Plain.of Tryz.underlying65 rfl
theorem u73 : SlT Tryz.prog 73 159 := Tryz.underlying73
theorem i73 : TI Tryz.prog 73 (.slice none 0 0) 1 24 := TI.mk' (by kernel_rfl)
theorem p73 : Plain Tryz.prog 73 := Plain.of Tryz.underlying73 rfl
theorem i82 : TI Tryz.prog 82 (.nilFunc) 1 8 := TI.mk' (by kernel_rfl)
theorem p82 : Plain Tryz.prog 82 := Plain.of Tryz.underlying82 rfl
theorem i86 : TI Tryz.prog 86 (.agg #[.bool false, .float .f64 0, .float .f64 0]) 3 24 := TI.mk' (by kernel_rfl)
theorem a86 : Agg Tryz.prog 86 3 := Agg.of (d := (Tryz.prog.underlying 86).getD .bool) (by kernel_rfl) (by kernel_rfl) i86
theorem u87 : SlT Tryz.prog 87 9 := Tryz.underlying87
theorem i87 : TI Tryz.prog 87 (.slice none 0 0) 1 24 := TI.mk' (by kernel_rfl)
theorem p87 : Plain Tryz.prog 87 := Plain.of Tryz.underlying87 rfl
theorem i89 : TI Tryz.prog 89 (.agg #[.slice none 0 0, .slice none 0 0, .bool false, .float .f64 0, .float .f64 0, .slice none 0 0]) 6 96 := TI.mk' (by kernel_rfl)
theorem a89 : Agg Tryz.prog 89 6 := Agg.of (d := (Tryz.prog.underlying 89).getD .bool) (by kernel_rfl) (by kernel_rfl) i89
theorem u91 : SlT Tryz.prog 91 89 := Tryz.underlying91
theorem i91 : TI Tryz.prog 91 (.slice none 0 0) 1 24 := TI.mk' (by kernel_rfl)
theorem p91 : Plain Tryz.prog 91 := Plain.of Tryz.underlying91 rfl
theorem i95 : TI Tryz.prog 95 (.agg #[.int .i64 0, .int .i64 0, .int .u64 0, .int .u64 0, .slice none 0 0, .bool false, .float .f64 0, .float .f64 0]) 8 80 := TI.mk' (by kernel_rfl)
theorem a95 : Agg Tryz.prog 95 8 := Agg.of (d := (Tryz.prog.underlying 95).getD .bool) (by kernel_rfl) (by kernel_rfl) i95
theorem u96 : SlT Tryz.prog 96 95 := Tryz.underlying96
theorem i96 : TI Tryz.prog 96 (.slice none 0 0) 1 24 := TI.mk' (by kernel_rfl)
theorem p96 : Plain Tryz.prog 96 := Plain.of Tryz.underlying96 rfl
theorem i98 : TI Tryz.prog 98 (.agg #[.int .i64 0, .slice none 0 0, .float .f64 0]) 3 40 := TI.mk' (by kernel_rfl)
theorem a98 : Agg Tryz.prog 98 3 := Agg.of (d := (Tryz.prog.underlying 98).getD .bool) (by kernel_rfl) (by kernel_rfl) i98
theorem u99 : SlT Tryz.prog 99 117 := Tryz.underlying99
theorem i99 : TI Tryz.prog 99 (.slice none 0 0) 1 24 := TI.mk' (by kernel_rfl)
theorem p99 : Plain Tryz.prog 99 := Plain.of Tryz.underlying99 rfl
theorem u100 : SlT Tryz.prog 100 98 := Tryz.underlying100
theorem i100 : TI Tryz.prog 100 (.slice none 0 0) 1 24 := TI.mk' (by kernel_rfl)
theorem p100 : Plain Tryz.prog 100 := Plain.of Tryz.underlying100 rfl
theorem u101 : SlT Tryz.prog 101 112 := Tryz.underlying101
theorem i101 : TI Tryz.prog 101 (.slice none 0 0) 1 24 := TI.mk' (by kernel_rfl)
theorem p101 : Plain Tryz.prog 101 := Plain.of Tryz.underlying101 rfl
theorem i110 : TI Tryz.prog 110 (.agg #[.int .i64 0, .float .f64 0, .float .f64 0]) 3 24 := TI.mk' (by kernel_rfl)
theorem a110 : Agg Tryz.prog 110 3 := Agg.of (d := (Tryz.prog.underlying 110).getD .bool) (by kernel_rfl) (by kernel_rfl) i110
theorem i112 : TI Tryz.prog 112 (.agg #[.slice none 0 0, .slice none 0 0, .int .i64 0, .float .f64 0, .float .f64 0, .slice none 0 0]) 6 96 := TI.mk' (by kernel_rfl)
theorem a112 : Agg Tryz.prog 112 6 := Agg.of (d := (Tryz.prog.underlying 112).getD .bool) (by kernel_rfl) (by kernel_rfl) i112
theorem i117 : TI Tryz.prog 117 (.agg #[.int .i64 0, .int .i64 0, .int .u64 0, .int .u64 0, .slice none 0 0, .int .i64 0, .float .f64 0, .float .f64 0]) 8 80 := TI.mk' (by kernel_rfl)
theorem a117 : Agg Tryz.prog 117 8 := Agg.of (d := (Tryz.prog.underlying 117).getD .bool) (by kernel_rfl) (by kernel_rfl) i117
theorem i121 : TI Tryz.prog 121 (.pointer none) 1 8 := TI.mk' (by kernel_rfl)
theorem p121 : Plain Tryz.prog 121 := Plain.of Tryz.underlying121 rfl
theorem i124 : TI Tryz.prog 124 (.agg #[.pointer none, .pointer none, .slice none 0 0]) 3 40 := TI.mk' (by kernel_rfl)
theorem a124 : Agg Tryz.prog 124 3 := Agg.of (d := (Tryz.prog.underlying 124).getD .bool) (by kernel_rfl) (by kernel_rfl) i124
theorem i132 : TI Tryz.prog 132 (.nilFunc) 1 8 := TI.mk' (by kernel_rfl)
theorem p132 : Plain Tryz.prog 132 := Plain.of Tryz.underlying132 rfl
theorem i141 : TI Tryz.prog 141 (.map none) 1 8 := TI.mk' (by kernel_rfl)
theorem p141 : Plain Tryz.prog 141 := Plain.of Tryz.underlying141 rfl
theorem i142 : TI Tryz.prog 142 (.map none) 1 8 := TI.mk' (by kernel_rfl)
theorem p142 : Plain Tryz.prog 142 := Plain.of Tryz.underlying142 rfl
theorem i144 : TI Tryz.prog 144 (.agg #[.map none, .map none]) 2 16 := TI.mk' (by kernel_rfl)
theorem a144 : Agg Tryz.prog 144 2 := Agg.of (d := (Tryz.prog.underlying 144).getD .bool) (by kernel_rfl) (by kernel_rfl) i144
theorem u148 : SlT Tryz.prog 148 23 := Tryz.underlying148
theorem i148 : TI Tryz.prog 148 (.slice none 0 0) 1 24 := TI.mk' (by kernel_rfl)
theorem p148 : Plain Tryz.prog 148 := Plain.of Tryz.underlying148 rfl
theorem i153 : TI Tryz.prog 153 (.agg #[.bool false, .int .i64 0, .slice none 0 0]) 3 40 := TI.mk' (by kernel_rfl)
theorem a153 : Agg Tryz.prog 153 3 := Agg.of (d := (Tryz.prog.underlying 153).getD .bool) (by kernel_rfl) (by kernel_rfl) i153
theorem i156 : TI Tryz.prog 156 (.nilFunc) 1 8 := TI.mk' (by kernel_rfl)
theorem p156 : Plain Tryz.prog 156 := Plain.of Tryz.underlying156 rfl
theorem i159 : TI Tryz.prog 159 (.agg #[.int .i64 0, .int .i64 0, .int .i64 0]) 3 24 := TI.mk' (by kernel_rfl)
theorem a159 : Agg Tryz.prog 159 3 := Agg.of (d := (Tryz.prog.underlying 159).getD .bool) (by kernel_rfl) (by kernel_rfl) i159
theorem i169 : TI Tryz.prog 169 (.agg #[.string ByteArray.empty, .string ByteArray.empty, .string ByteArray.empty, .string ByteArray.empty, .string ByteArray.empty]) 5 80 := TI.mk' (by kernel_rfl)
theorem a169 : Agg Tryz.prog 169 5 := Agg.of (d := (Tryz.prog.underlying 169).getD .bool) (by kernel_rfl) (by kernel_rfl) i169
theorem i173 : TI Tryz.prog 173 (.agg #[.int .i64 0, .int .i64 0, .slice none 0 0]) 3 40 := TI.mk' (by kernel_rfl)
theorem a173 : Agg Tryz.prog 173 3 := Agg.of (d := (Tryz.prog.underlying 173).getD .bool) (by kernel_rfl) (by kernel_rfl) i173
theorem i174 : TI Tryz.prog 174 (.agg #[.string ByteArray.empty, .string ByteArray.empty, .string ByteArray.empty, .string ByteArray.empty, .string ByteArray.empty, .string ByteArray.empty, .string ByteArray.empty]) 7 112 := TI.mk' (by kernel_rfl)
theorem a174 : Agg Tryz.prog 174 7 := Agg.of (d := (Tryz.prog.underlying 174).getD .bool) (by kernel_rfl) (by kernel_rfl) i174
theorem i178 : TI Tryz.prog 178 (.nilFunc) 1 8 := TI.mk' (by kernel_rfl)
theorem p178 : Plain Tryz.prog 178 := Plain.of Tryz.underlying178 rfl
theorem i179 : TI Tryz.prog 179 (.nilFunc) 1 8 := TI.mk' (by kernel_rfl)
theorem p179 : Plain Tryz.prog 179 := Plain.of Tryz.underlying179 rfl
theorem i183 : TI Tryz.prog 183 (.nilFunc) 1 8 := TI.mk' (by kernel_rfl)
theorem p183 : Plain Tryz.prog 183 := Plain.of Tryz.underlying183 rfl
theorem i193 : TI Tryz.prog 193 (.int .u64 0) 1 8 := TI.mk' (by kernel_rfl)
theorem p193 : Plain Tryz.prog 193 := Plain.of Tryz.underlying193 rfl
theorem u194 : SlT Tryz.prog 194 22 := Tryz.underlying194
theorem i194 : TI Tryz.prog 194 (.slice none 0 0) 1 24 := TI.mk' (by kernel_rfl)
theorem p194 : Plain Tryz.prog 194 := Plain.of Tryz.underlying194 rfl
theorem u198 : SlT Tryz.prog 198 235 := Tryz.underlying198
theorem i198 : TI Tryz.prog 198 (.slice none 0 0) 1 24 := TI.mk' (by kernel_rfl)
theorem p198 : Plain Tryz.prog 198 := Plain.of Tryz.underlying198 rfl
theorem i206 : TI Tryz.prog 206 (.agg #[.string ByteArray.empty, .string ByteArray.empty, .string ByteArray.empty, .string ByteArray.empty, .string ByteArray.empty, .string ByteArray.empty, .string ByteArray.empty, .string ByteArray.empty, .string ByteArray.empty]) 9 144 := TI.mk' (by kernel_rfl)
theorem a206 : Agg Tryz.prog 206 9 := Agg.of (d := (Tryz.prog.underlying 206).getD .bool) (by kernel_rfl) (by kernel_rfl) i206
theorem i207 : TI Tryz.prog 207 (.agg #[.int .u64 0, .int .u64 0, .int .u64 0, .int .u64 0]) 4 32 := TI.mk' (by kernel_rfl)
theorem a207 : Agg Tryz.prog 207 4 := Agg.of (d := (Tryz.prog.underlying 207).getD .bool) (by kernel_rfl) (by kernel_rfl) i207
theorem u208 : SlT Tryz.prog 208 210 := Tryz.underlying208
theorem i208 : TI Tryz.prog 208 (.slice none 0 0) 1 24 := TI.mk' (by kernel_rfl)
theorem p208 : Plain Tryz.prog 208 := Plain.of Tryz.underlying208 rfl
theorem i210 : TI Tryz.prog 210 (.agg #[.int .i64 0, .int .u64 0, .int .u64 0, .int .u64 0, .int .u64 0, .slice none 0 0]) 6 64 := TI.mk' (by kernel_rfl)
theorem a210 : Agg Tryz.prog 210 6 := Agg.of (d := (Tryz.prog.underlying 210).getD .bool) (by kernel_rfl) (by kernel_rfl) i210
theorem i217 : TI Tryz.prog 217 (.int .i64 0) 1 8 := TI.mk' (by kernel_rfl)
theorem p217 : Plain Tryz.prog 217 := Plain.of Tryz.underlying217 rfl
theorem i225 : TI Tryz.prog 225 (.int .u32 0) 1 4 := TI.mk' (by kernel_rfl)
theorem p225 : Plain Tryz.prog 225 := Plain.of Tryz.underlying225 rfl
theorem i229 : TI Tryz.prog 229 (.nilFunc) 1 8 := TI.mk' (by kernel_rfl)
theorem p229 : Plain Tryz.prog 229 := Plain.of Tryz.underlying229 rfl
theorem i235 : TI Tryz.prog 235 (.agg #[.int .i64 0, .int .u64 0, .int .u64 0, .int .u64 0, .int .u64 0, .int .i64 0, .int .i64 0]) 7 56 := TI.mk' (by kernel_rfl)
theorem a235 : Agg Tryz.prog 235 7 := Agg.of (d := (Tryz.prog.underlying 235).getD .bool) (by kernel_rfl) (by kernel_rfl) i235
theorem i244 : TI Tryz.prog 244 (.pointer none) 1 8 := TI.mk' (by kernel_rfl)
theorem p244 : Plain Tryz.prog 244 := Plain.of Tryz.underlying244 rfl
theorem i246 : TI Tryz.prog 246 (.agg #[.string ByteArray.empty, .int .i64 0, .int .i64 0, .bool false]) 4 40 := TI.mk' (by kernel_rfl)
theorem a246 : Agg Tryz.prog 246 4 := Agg.of (d := (Tryz.prog.underlying 246).getD .bool) (by kernel_rfl) (by kernel_rfl) i246
theorem u249 : SlT Tryz.prog 249 5 := Tryz.underlying249
theorem i249 : TI Tryz.prog 249 (.slice none 0 0) 1 24 := TI.mk' (by kernel_rfl)
theorem p249 : Plain Tryz.prog 249 := Plain.of Tryz.underlying249 rfl
theorem i251 : TI Tryz.prog 251 (.int .u64 0) 1 8 := TI.mk' (by kernel_rfl)
theorem p251 : Plain Tryz.prog 251 := Plain.of Tryz.underlying251 rfl
theorem i255 : TI Tryz.prog 255 (.pointer none) 1 8 := TI.mk' (by kernel_rfl)
theorem p255 : Plain Tryz.prog 255 := Plain.of Tryz.underlying255 rfl
theorem i257 : TI Tryz.prog 257 (.pointer none) 1 8 := TI.mk' (by kernel_rfl)
theorem p257 : Plain Tryz.prog 257 := Plain.of Tryz.underlying257 rfl
theorem i259 : TI Tryz.prog 259 (.agg #[.string ByteArray.empty, .int .i64 0, .bool false]) 3 32 := TI.mk' (by kernel_rfl)
theorem a259 : Agg Tryz.prog 259 3 := Agg.of (d := (Tryz.prog.underlying 259).getD .bool) (by kernel_rfl) (by kernel_rfl) i259
theorem i264 : TI Tryz.prog 264 (.nilFunc) 1 8 := TI.mk' (by kernel_rfl)
theorem p264 : Plain Tryz.prog 264 := Plain.of Tryz.underlying264 rfl
theorem i266 : TI Tryz.prog 266 (.pointer none) 1 8 := TI.mk' (by kernel_rfl)
theorem p266 : Plain Tryz.prog 266 := Plain.of Tryz.underlying266 rfl
theorem i269 : TI Tryz.prog 269 (.nilFunc) 1 8 := TI.mk' (by kernel_rfl)
theorem p269 : Plain Tryz.prog 269 := Plain.of Tryz.underlying269 rfl
theorem u270 : SlT Tryz.prog 270 4 := Tryz.underlying270
theorem i270 : TI Tryz.prog 270 (.slice none 0 0) 1 24 := TI.mk' (by kernel_rfl)
theorem p270 : Plain Tryz.prog 270 := Plain.of Tryz.underlying270 rfl
theorem i273 : TI Tryz.prog 273 (.pointer none) 1 8 := TI.mk' (by kernel_rfl)
theorem p273 : Plain Tryz.prog 273 := Plain.of Tryz.underlying273 rfl
theorem i292 : TI Tryz.prog 292 (.pointer none) 1 8 := TI.mk' (by kernel_rfl)
theorem p292 : Plain Tryz.prog 292 := Plain.of Tryz.underlying292 rfl
theorem i296 : TI Tryz.prog 296 (.agg #[.pointer none, .pointer none, .pointer none, .string ByteArray.empty]) 4 40 := TI.mk' (by kernel_rfl)
theorem a296 : Agg Tryz.prog 296 4 := Agg.of (d := (Tryz.prog.underlying 296).getD .bool) (by kernel_rfl) (by kernel_rfl) i296
theorem i299 : TI Tryz.prog 299 (.agg #[]) 0 0 := TI.mk' (by kernel_rfl)
theorem a299 : Agg Tryz.prog 299 0 := Agg.of (d := (Tryz.prog.underlying 299).getD .bool) (by kernel_rfl) (by kernel_rfl) i299
theorem i301 : TI Tryz.prog 301 (.int .u8 0) 1 1 := TI.mk' (by kernel_rfl)
theorem p301 : Plain Tryz.prog 301 := Plain.of Tryz.underlying301 rfl
theorem i307 : TI Tryz.prog 307 (.agg #[.int .u64 0, .int .u64 0, .int .u32 0, .int .u8 0, .int .u8 0, .int .u8 0, .int .u8 0, .nilFunc, .pointer none, .int .i32 0, .int .i32 0]) 11 48 := TI.mk' (by kernel_rfl)
theorem a307 : Agg Tryz.prog 307 11 := Agg.of (d := (Tryz.prog.underlying 307).getD .bool) (by kernel_rfl) (by kernel_rfl) i307
theorem key2 : KeyLaw Tryz.prog 2 (Value.int .i64) := KeyLaw.int Tryz.underlying2
theorem key3 : KeyLaw Tryz.prog 3 (Value.int .i64) := KeyLaw.int Tryz.underlying3
theorem key28 : KeyLaw Tryz.prog 28 (Value.int .i64) := KeyLaw.int Tryz.underlying28
theorem pair46 : Pair Tryz.prog 46 := Pair.of (by kernel_rfl) (by kernel_rfl) Tryz.underlying46 Tryz.underlying9 rfl rfl rfl rfl (by decide) (by decide)
theorem key46 : KeyLaw Tryz.prog 46 pairV := KeyLaw.pair Tryz.underlying46 Tryz.underlying9 rfl rfl rfl rfl (by decide) (by decide) pair46
theorem key217 : KeyLaw Tryz.prog 217 (Value.int .i64) := KeyLaw.int Tryz.underlying217
theorem fo32_0 : FO Tryz.prog 32 0 0 := fun a w => by kernel_rfl
theorem fo32_1 : FO Tryz.prog 32 1 1 := fun a w => by kernel_rfl
theorem fo32_2 : FO Tryz.prog 32 2 2 := fun a w => by kernel_rfl
theorem fo46_0 : FO Tryz.prog 46 0 0 := fun a w => by kernel_rfl
theorem fo46_1 : FO Tryz.prog 46 1 1 := fun a w => by kernel_rfl
theorem fo50_0 : FO Tryz.prog 50 0 0 := fun a w => by kernel_rfl
theorem fo50_1 : FO Tryz.prog 50 1 1 := fun a w => by kernel_rfl
theorem fo50_2 : FO Tryz.prog 50 2 2 := fun a w => by kernel_rfl
theorem fo57_0 : FO Tryz.prog 57 0 0 := fun a w => by kernel_rfl
theorem fo57_1 : FO Tryz.prog 57 1 1 := fun a w => by kernel_rfl
theorem fo57_2 : FO Tryz.prog 57 2 2 := fun a w => by kernel_rfl
theorem fo57_3 : FO Tryz.prog 57 3 3 := fun a w => by kernel_rfl
theorem fo60_0 : FO Tryz.prog 60 0 0 := fun a w => by kernel_rfl
theorem fo60_1 : FO Tryz.prog 60 1 1 := fun a w => by kernel_rfl
theorem fo60_2 : FO Tryz.prog 60 2 2 := fun a w => by kernel_rfl
theorem fo86_0 : FO Tryz.prog 86 0 0 := fun a w => by kernel_rfl
theorem fo86_1 : FO Tryz.prog 86 1 1 := fun a w => by kernel_rfl
theorem fo86_2 : FO Tryz.prog 86 2 2 := fun a w => by kernel_rfl
theorem fo89_0 : FO Tryz.prog 89 0 0 := fun a w => by kernel_rfl
theorem fo89_1 : FO Tryz.prog 89 1 1 := fun a w => by kernel_rfl
theorem fo89_2 : FO Tryz.prog 89 2 2 := fun a w => by kernel_rfl
theorem fo89_3 : FO Tryz.prog 89 3 5 := fun a w => by kernel_rfl
theorem fo95_0 : FO Tryz.prog 95 0 0 := fun a w => by kernel_rfl
theorem fo95_2 : FO Tryz.prog 95 2 2 := fun a w => by kernel_rfl
theorem fo95_3 : FO Tryz.prog 95 3 3 := fun a w => by kernel_rfl
theorem fo95_4 : FO Tryz.prog 95 4 4 := fun a w => by kernel_rfl
theorem fo95_5 : FO Tryz.prog 95 5 5 := fun a w => by kernel_rfl
theorem fo98_0 : FO Tryz.prog 98 0 0 := fun a w => by kernel_rfl
theorem fo98_1 : FO Tryz.prog 98 1 1 := fun a w => by kernel_rfl
theorem fo98_2 : FO Tryz.prog 98 2 2 := fun a w => by kernel_rfl
theorem fo110_0 : FO Tryz.prog 110 0 0 := fun a w => by kernel_rfl
theorem fo110_1 : FO Tryz.prog 110 1 1 := fun a w => by kernel_rfl
theorem fo110_2 : FO Tryz.prog 110 2 2 := fun a w => by kernel_rfl
theorem fo112_0 : FO Tryz.prog 112 0 0 := fun a w => by kernel_rfl
theorem fo112_1 : FO Tryz.prog 112 1 1 := fun a w => by kernel_rfl
theorem fo112_2 : FO Tryz.prog 112 2 2 := fun a w => by kernel_rfl
theorem fo112_3 : FO Tryz.prog 112 3 5 := fun a w => by kernel_rfl
theorem fo117_0 : FO Tryz.prog 117 0 0 := fun a w => by kernel_rfl
theorem fo117_1 : FO Tryz.prog 117 1 1 := fun a w => by kernel_rfl
theorem fo117_2 : FO Tryz.prog 117 2 2 := fun a w => by kernel_rfl
theorem fo117_3 : FO Tryz.prog 117 3 3 := fun a w => by kernel_rfl
theorem fo117_4 : FO Tryz.prog 117 4 4 := fun a w => by kernel_rfl
theorem fo117_5 : FO Tryz.prog 117 5 5 := fun a w => by kernel_rfl
theorem fo124_0 : FO Tryz.prog 124 0 0 := fun a w => by kernel_rfl
theorem fo124_1 : FO Tryz.prog 124 1 1 := fun a w => by kernel_rfl
theorem fo124_2 : FO Tryz.prog 124 2 2 := fun a w => by kernel_rfl
theorem fo144_0 : FO Tryz.prog 144 0 0 := fun a w => by kernel_rfl
theorem fo144_1 : FO Tryz.prog 144 1 1 := fun a w => by kernel_rfl
theorem fo153_0 : FO Tryz.prog 153 0 0 := fun a w => by kernel_rfl
theorem fo153_1 : FO Tryz.prog 153 1 1 := fun a w => by kernel_rfl
theorem fo153_2 : FO Tryz.prog 153 2 2 := fun a w => by kernel_rfl
theorem fo159_0 : FO Tryz.prog 159 0 0 := fun a w => by kernel_rfl
theorem fo159_1 : FO Tryz.prog 159 1 1 := fun a w => by kernel_rfl
theorem fo159_2 : FO Tryz.prog 159 2 2 := fun a w => by kernel_rfl
theorem fo173_0 : FO Tryz.prog 173 0 0 := fun a w => by kernel_rfl
theorem fo173_1 : FO Tryz.prog 173 1 1 := fun a w => by kernel_rfl
theorem fo173_2 : FO Tryz.prog 173 2 2 := fun a w => by kernel_rfl
theorem fo210_0 : FO Tryz.prog 210 0 0 := fun a w => by kernel_rfl
theorem fo210_1 : FO Tryz.prog 210 1 1 := fun a w => by kernel_rfl
theorem fo210_2 : FO Tryz.prog 210 2 5 := fun a w => by kernel_rfl
theorem fo235_0 : FO Tryz.prog 235 0 0 := fun a w => by kernel_rfl
theorem fo235_1 : FO Tryz.prog 235 1 1 := fun a w => by kernel_rfl
theorem fo235_2 : FO Tryz.prog 235 2 5 := fun a w => by kernel_rfl
theorem fo235_3 : FO Tryz.prog 235 3 6 := fun a w => by kernel_rfl
theorem fo246_0 : FO Tryz.prog 246 0 0 := fun a w => by kernel_rfl
theorem fo246_1 : FO Tryz.prog 246 1 1 := fun a w => by kernel_rfl
theorem fo246_2 : FO Tryz.prog 246 2 2 := fun a w => by kernel_rfl
theorem fo246_3 : FO Tryz.prog 246 3 3 := fun a w => by kernel_rfl
theorem fo259_0 : FO Tryz.prog 259 0 0 := fun a w => by kernel_rfl
theorem fo259_1 : FO Tryz.prog 259 1 1 := fun a w => by kernel_rfl
theorem fo259_2 : FO Tryz.prog 259 2 2 := fun a w => by kernel_rfl
theorem e3 : Enters Tryz.prog 3 := enters_of Tryz.func3 (by kernel_rfl) rfl
theorem e4 : Enters Tryz.prog 4 := enters_of Tryz.func4 (by kernel_rfl) rfl
theorem e5 : Enters Tryz.prog 5 := enters_of Tryz.func5 (by kernel_rfl) rfl
theorem e6 : Enters Tryz.prog 6 := enters_of Tryz.func6 (by kernel_rfl) rfl
theorem e7 : Enters Tryz.prog 7 := enters_of Tryz.func7 (by kernel_rfl) rfl
theorem e8 : Enters Tryz.prog 8 := enters_of Tryz.func8 (by kernel_rfl) rfl
theorem e9 : Enters Tryz.prog 9 := enters_of Tryz.func9 (by kernel_rfl) rfl
theorem e10 : Enters Tryz.prog 10 := enters_of Tryz.func10 (by kernel_rfl) rfl
theorem e11 : Enters Tryz.prog 11 := enters_of Tryz.func11 (by kernel_rfl) rfl
theorem e12 : Enters Tryz.prog 12 := enters_of Tryz.func12 (by kernel_rfl) rfl
theorem e13 : Enters Tryz.prog 13 := enters_of Tryz.func13 (by kernel_rfl) rfl
theorem e14 : Enters Tryz.prog 14 := enters_of Tryz.func14 (by kernel_rfl) rfl
theorem e15 : Enters Tryz.prog 15 := enters_of Tryz.func15 (by kernel_rfl) rfl
theorem e16 : Enters Tryz.prog 16 := enters_of Tryz.func16 (by kernel_rfl) rfl
theorem e17 : Enters Tryz.prog 17 := enters_of Tryz.func17 (by kernel_rfl) rfl
theorem e18 : Enters Tryz.prog 18 := enters_of Tryz.func18 (by kernel_rfl) rfl
theorem e19 : Enters Tryz.prog 19 := enters_of Tryz.func19 (by kernel_rfl) rfl
theorem e20 : Enters Tryz.prog 20 := enters_of Tryz.func20 (by kernel_rfl) rfl
theorem e22 : Enters Tryz.prog 22 := enters_of Tryz.func22 (by kernel_rfl) rfl
theorem e23 : Enters Tryz.prog 23 := enters_of Tryz.func23 (by kernel_rfl) rfl
theorem e24 : Enters Tryz.prog 24 := enters_of Tryz.func24 (by kernel_rfl) rfl
theorem e25 : Enters Tryz.prog 25 := enters_of Tryz.func25 (by kernel_rfl) rfl
theorem e26 : Enters Tryz.prog 26 := enters_of Tryz.func26 (by kernel_rfl) rfl
theorem e27 : Enters Tryz.prog 27 := enters_of Tryz.func27 (by kernel_rfl) rfl
theorem e28 : Enters Tryz.prog 28 := enters_of Tryz.func28 (by kernel_rfl) rfl
theorem e29 : Enters Tryz.prog 29 := enters_of Tryz.func29 (by kernel_rfl) rfl
theorem e30 : Enters Tryz.prog 30 := enters_of Tryz.func30 (by kernel_rfl) rfl
theorem e31 : Enters Tryz.prog 31 := enters_of Tryz.func31 (by kernel_rfl) rfl
theorem e32 : Enters Tryz.prog 32 := enters_of Tryz.func32 (by kernel_rfl) rfl
theorem e33 : Enters Tryz.prog 33 := enters_of Tryz.func33 (by kernel_rfl) rfl
theorem e34 : Enters Tryz.prog 34 := enters_of Tryz.func34 (by kernel_rfl) rfl
theorem e35 : Enters Tryz.prog 35 := enters_of Tryz.func35 (by kernel_rfl) rfl
theorem e36 : Enters Tryz.prog 36 := enters_of Tryz.func36 (by kernel_rfl) rfl
theorem e37 : Enters Tryz.prog 37 := enters_of Tryz.func37 (by kernel_rfl) rfl
theorem e38 : Enters Tryz.prog 38 := enters_of Tryz.func38 (by kernel_rfl) rfl
theorem e39 : Enters Tryz.prog 39 := enters_of Tryz.func39 (by kernel_rfl) rfl
theorem e40 : Enters Tryz.prog 40 := enters_of Tryz.func40 (by kernel_rfl) rfl
theorem e41 : Enters Tryz.prog 41 := enters_of Tryz.func41 (by kernel_rfl) rfl
theorem e42 : Enters Tryz.prog 42 := enters_of Tryz.func42 (by kernel_rfl) rfl
theorem e43 : Enters Tryz.prog 43 := enters_of Tryz.func43 (by kernel_rfl) rfl
theorem e44 : Enters Tryz.prog 44 := enters_of Tryz.func44 (by kernel_rfl) rfl
theorem e45 : Enters Tryz.prog 45 := enters_of Tryz.func45 (by kernel_rfl) rfl
theorem e46 : Enters Tryz.prog 46 := enters_of Tryz.func46 (by kernel_rfl) rfl
theorem e47 : Enters Tryz.prog 47 := enters_of Tryz.func47 (by kernel_rfl) rfl
theorem e48 : Enters Tryz.prog 48 := enters_of Tryz.func48 (by kernel_rfl) rfl
theorem e49 : Enters Tryz.prog 49 := enters_of Tryz.func49 (by kernel_rfl) rfl
theorem e50 : Enters Tryz.prog 50 := enters_of Tryz.func50 (by kernel_rfl) rfl
theorem e51 : Enters Tryz.prog 51 := enters_of Tryz.func51 (by kernel_rfl) rfl
theorem e52 : Enters Tryz.prog 52 := enters_of Tryz.func52 (by kernel_rfl) rfl
theorem e53 : Enters Tryz.prog 53 := enters_of Tryz.func53 (by kernel_rfl) rfl
theorem e54 : Enters Tryz.prog 54 := enters_of Tryz.func54 (by kernel_rfl) rfl
theorem e55 : Enters Tryz.prog 55 := enters_of Tryz.func55 (by kernel_rfl) rfl
theorem e56 : Enters Tryz.prog 56 := enters_of Tryz.func56 (by kernel_rfl) rfl
theorem e57 : Enters Tryz.prog 57 := enters_of Tryz.func57 (by kernel_rfl) rfl
theorem e58 : Enters Tryz.prog 58 := enters_of Tryz.func58 (by kernel_rfl) rfl
theorem e59 : Enters Tryz.prog 59 := enters_of Tryz.func59 (by kernel_rfl) rfl
theorem e60 : Enters Tryz.prog 60 := enters_of Tryz.func60 (by kernel_rfl) rfl
theorem e61 : Enters Tryz.prog 61 := enters_of Tryz.func61 (by kernel_rfl) rfl
theorem e62 : Enters Tryz.prog 62 := enters_of Tryz.func62 (by kernel_rfl) rfl
theorem e63 : Enters Tryz.prog 63 := enters_of Tryz.func63 (by kernel_rfl) rfl
theorem e64 : Enters Tryz.prog 64 := enters_of Tryz.func64 (by kernel_rfl) rfl
theorem e65 : Enters Tryz.prog 65 := enters_of Tryz.func65 (by kernel_rfl) rfl
theorem e66 : Enters Tryz.prog 66 := enters_of Tryz.func66 (by kernel_rfl) rfl
theorem e67 : Enters Tryz.prog 67 := enters_of Tryz.func67 (by kernel_rfl) rfl
theorem e68 : Enters Tryz.prog 68 := enters_of Tryz.func68 (by kernel_rfl) rfl
theorem e69 : Enters Tryz.prog 69 := enters_of Tryz.func69 (by kernel_rfl) rfl
theorem e70 : Enters Tryz.prog 70 := enters_of Tryz.func70 (by kernel_rfl) rfl
theorem e71 : Enters Tryz.prog 71 := enters_of Tryz.func71 (by kernel_rfl) rfl
theorem e72 : Enters Tryz.prog 72 := enters_of Tryz.func72 (by kernel_rfl) rfl
theorem e73 : Enters Tryz.prog 73 := enters_of Tryz.func73 (by kernel_rfl) rfl
theorem e74 : Enters Tryz.prog 74 := enters_of Tryz.func74 (by kernel_rfl) rfl
theorem e75 : Enters Tryz.prog 75 := enters_of Tryz.func75 (by kernel_rfl) rfl
theorem e76 : Enters Tryz.prog 76 := enters_of Tryz.func76 (by kernel_rfl) rfl
theorem e77 : Enters Tryz.prog 77 := enters_of Tryz.func77 (by kernel_rfl) rfl
theorem e78 : Enters Tryz.prog 78 := enters_of Tryz.func78 (by kernel_rfl) rfl
theorem e79 : Enters Tryz.prog 79 := enters_of Tryz.func79 (by kernel_rfl) rfl
theorem e80 : Enters Tryz.prog 80 := enters_of Tryz.func80 (by kernel_rfl) rfl
theorem e81 : Enters Tryz.prog 81 := enters_of Tryz.func81 (by kernel_rfl) rfl
theorem e82 : Enters Tryz.prog 82 := enters_of Tryz.func82 (by kernel_rfl) rfl
theorem e83 : Enters Tryz.prog 83 := enters_of Tryz.func83 (by kernel_rfl) rfl
theorem e84 : Enters Tryz.prog 84 := enters_of Tryz.func84 (by kernel_rfl) rfl
theorem e85 : Enters Tryz.prog 85 := enters_of Tryz.func85 (by kernel_rfl) rfl
theorem e86 : Enters Tryz.prog 86 := enters_of Tryz.func86 (by kernel_rfl) rfl
theorem e87 : Enters Tryz.prog 87 := enters_of Tryz.func87 (by kernel_rfl) rfl
theorem e88 : Enters Tryz.prog 88 := enters_of Tryz.func88 (by kernel_rfl) rfl
theorem e89 : Enters Tryz.prog 89 := enters_of Tryz.func89 (by kernel_rfl) rfl
theorem e90 : Enters Tryz.prog 90 := enters_of Tryz.func90 (by kernel_rfl) rfl
theorem e91 : Enters Tryz.prog 91 := enters_of Tryz.func91 (by kernel_rfl) rfl
theorem e92 : Enters Tryz.prog 92 := enters_of Tryz.func92 (by kernel_rfl) rfl
theorem e93 : Enters Tryz.prog 93 := enters_of Tryz.func93 (by kernel_rfl) rfl
theorem e94 : Enters Tryz.prog 94 := enters_of Tryz.func94 (by kernel_rfl) rfl
theorem e95 : Enters Tryz.prog 95 := enters_of Tryz.func95 (by kernel_rfl) rfl
theorem e96 : Enters Tryz.prog 96 := enters_of Tryz.func96 (by kernel_rfl) rfl
theorem e97 : Enters Tryz.prog 97 := enters_of Tryz.func97 (by kernel_rfl) rfl
theorem e98 : Enters Tryz.prog 98 := enters_of Tryz.func98 (by kernel_rfl) rfl
theorem e99 : Enters Tryz.prog 99 := enters_of Tryz.func99 (by kernel_rfl) rfl
theorem e100 : Enters Tryz.prog 100 := enters_of Tryz.func100 (by kernel_rfl) rfl
theorem e101 : Enters Tryz.prog 101 := enters_of Tryz.func101 (by kernel_rfl) rfl
theorem e102 : Enters Tryz.prog 102 := enters_of Tryz.func102 (by kernel_rfl) rfl
theorem e103 : Enters Tryz.prog 103 := enters_of Tryz.func103 (by kernel_rfl) rfl
theorem e104 : Enters Tryz.prog 104 := enters_of Tryz.func104 (by kernel_rfl) rfl
theorem e105 : Enters Tryz.prog 105 := enters_of Tryz.func105 (by kernel_rfl) rfl
theorem e106 : Enters Tryz.prog 106 := enters_of Tryz.func106 (by kernel_rfl) rfl
theorem e107 : Enters Tryz.prog 107 := enters_of Tryz.func107 (by kernel_rfl) rfl
theorem e108 : Enters Tryz.prog 108 := enters_of Tryz.func108 (by kernel_rfl) rfl
theorem e109 : Enters Tryz.prog 109 := enters_of Tryz.func109 (by kernel_rfl) rfl
theorem e110 : Enters Tryz.prog 110 := enters_of Tryz.func110 (by kernel_rfl) rfl
theorem e111 : Enters Tryz.prog 111 := enters_of Tryz.func111 (by kernel_rfl) rfl
theorem e112 : Enters Tryz.prog 112 := enters_of Tryz.func112 (by kernel_rfl) rfl
theorem e113 : Enters Tryz.prog 113 := enters_of Tryz.func113 (by kernel_rfl) rfl
theorem e114 : Enters Tryz.prog 114 := enters_of Tryz.func114 (by kernel_rfl) rfl
theorem e115 : Enters Tryz.prog 115 := enters_of Tryz.func115 (by kernel_rfl) rfl
theorem e116 : Enters Tryz.prog 116 := enters_of Tryz.func116 (by kernel_rfl) rfl
theorem e117 : Enters Tryz.prog 117 := enters_of Tryz.func117 (by kernel_rfl) rfl
theorem e118 : Enters Tryz.prog 118 := enters_of Tryz.func118 (by kernel_rfl) rfl
theorem e119 : Enters Tryz.prog 119 := enters_of Tryz.func119 (by kernel_rfl) rfl
theorem e120 : Enters Tryz.prog 120 := enters_of Tryz.func120 (by kernel_rfl) rfl
theorem e121 : Enters Tryz.prog 121 := enters_of Tryz.func121 (by kernel_rfl) rfl
theorem e122 : Enters Tryz.prog 122 := enters_of Tryz.func122 (by kernel_rfl) rfl
theorem e123 : Enters Tryz.prog 123 := enters_of Tryz.func123 (by kernel_rfl) rfl
theorem e125 : Enters Tryz.prog 125 := enters_of Tryz.func125 (by kernel_rfl) rfl
theorem e126 : Enters Tryz.prog 126 := enters_of Tryz.func126 (by kernel_rfl) rfl
theorem e127 : Enters Tryz.prog 127 := enters_of Tryz.func127 (by kernel_rfl) rfl
theorem e128 : Enters Tryz.prog 128 := enters_of Tryz.func128 (by kernel_rfl) rfl
theorem e129 : Enters Tryz.prog 129 := enters_of Tryz.func129 (by kernel_rfl) rfl
theorem e130 : Enters Tryz.prog 130 := enters_of Tryz.func130 (by kernel_rfl) rfl
theorem e131 : Enters Tryz.prog 131 := enters_of Tryz.func131 (by kernel_rfl) rfl
theorem e132 : Enters Tryz.prog 132 := enters_of Tryz.func132 (by kernel_rfl) rfl
theorem e133 : Enters Tryz.prog 133 := enters_of Tryz.func133 (by kernel_rfl) rfl
theorem e134 : Enters Tryz.prog 134 := enters_of Tryz.func134 (by kernel_rfl) rfl
theorem e135 : Enters Tryz.prog 135 := enters_of Tryz.func135 (by kernel_rfl) rfl
theorem e136 : Enters Tryz.prog 136 := enters_of Tryz.func136 (by kernel_rfl) rfl
theorem e137 : Enters Tryz.prog 137 := enters_of Tryz.func137 (by kernel_rfl) rfl
theorem e138 : Enters Tryz.prog 138 := enters_of Tryz.func138 (by kernel_rfl) rfl
theorem e139 : Enters Tryz.prog 139 := enters_of Tryz.func139 (by kernel_rfl) rfl
theorem e140 : Enters Tryz.prog 140 := enters_of Tryz.func140 (by kernel_rfl) rfl
theorem e141 : Enters Tryz.prog 141 := enters_of Tryz.func141 (by kernel_rfl) rfl
theorem e142 : Enters Tryz.prog 142 := enters_of Tryz.func142 (by kernel_rfl) rfl
theorem e143 : Enters Tryz.prog 143 := enters_of Tryz.func143 (by kernel_rfl) rfl
theorem e144 : Enters Tryz.prog 144 := enters_of Tryz.func144 (by kernel_rfl) rfl
theorem e145 : Enters Tryz.prog 145 := enters_of Tryz.func145 (by kernel_rfl) rfl
theorem e146 : Enters Tryz.prog 146 := enters_of Tryz.func146 (by kernel_rfl) rfl
theorem e147 : Enters Tryz.prog 147 := enters_of Tryz.func147 (by kernel_rfl) rfl
theorem e148 : Enters Tryz.prog 148 := enters_of Tryz.func148 (by kernel_rfl) rfl
theorem e149 : Enters Tryz.prog 149 := enters_of Tryz.func149 (by kernel_rfl) rfl
theorem e150 : Enters Tryz.prog 150 := enters_of Tryz.func150 (by kernel_rfl) rfl
theorem e151 : Enters Tryz.prog 151 := enters_of Tryz.func151 (by kernel_rfl) rfl
theorem e152 : Enters Tryz.prog 152 := enters_of Tryz.func152 (by kernel_rfl) rfl
theorem e153 : Enters Tryz.prog 153 := enters_of Tryz.func153 (by kernel_rfl) rfl
theorem e154 : Enters Tryz.prog 154 := enters_of Tryz.func154 (by kernel_rfl) rfl
theorem e155 : Enters Tryz.prog 155 := enters_of Tryz.func155 (by kernel_rfl) rfl
theorem e156 : Enters Tryz.prog 156 := enters_of Tryz.func156 (by kernel_rfl) rfl
theorem e157 : Enters Tryz.prog 157 := enters_of Tryz.func157 (by kernel_rfl) rfl
theorem e158 : Enters Tryz.prog 158 := enters_of Tryz.func158 (by kernel_rfl) rfl
theorem e159 : Enters Tryz.prog 159 := enters_of Tryz.func159 (by kernel_rfl) rfl
theorem e160 : Enters Tryz.prog 160 := enters_of Tryz.func160 (by kernel_rfl) rfl
theorem e161 : Enters Tryz.prog 161 := enters_of Tryz.func161 (by kernel_rfl) rfl
theorem e162 : Enters Tryz.prog 162 := enters_of Tryz.func162 (by kernel_rfl) rfl
theorem e163 : Enters Tryz.prog 163 := enters_of Tryz.func163 (by kernel_rfl) rfl
theorem e164 : Enters Tryz.prog 164 := enters_of Tryz.func164 (by kernel_rfl) rfl
theorem e165 : Enters Tryz.prog 165 := enters_of Tryz.func165 (by kernel_rfl) rfl
theorem e166 : Enters Tryz.prog 166 := enters_of Tryz.func166 (by kernel_rfl) rfl
theorem e167 : Enters Tryz.prog 167 := enters_of Tryz.func167 (by kernel_rfl) rfl
theorem e168 : Enters Tryz.prog 168 := enters_of Tryz.func168 (by kernel_rfl) rfl
theorem e169 : Enters Tryz.prog 169 := enters_of Tryz.func169 (by kernel_rfl) rfl
theorem e170 : Enters Tryz.prog 170 := enters_of Tryz.func170 (by kernel_rfl) rfl
theorem e171 : Enters Tryz.prog 171 := enters_of Tryz.func171 (by kernel_rfl) rfl
theorem e172 : Enters Tryz.prog 172 := enters_of Tryz.func172 (by kernel_rfl) rfl
theorem e173 : Enters Tryz.prog 173 := enters_of Tryz.func173 (by kernel_rfl) rfl
theorem e174 : Enters Tryz.prog 174 := enters_of Tryz.func174 (by kernel_rfl) rfl
theorem e175 : Enters Tryz.prog 175 := enters_of Tryz.func175 (by kernel_rfl) rfl
theorem e176 : Enters Tryz.prog 176 := enters_of Tryz.func176 (by kernel_rfl) rfl
theorem e177 : Enters Tryz.prog 177 := enters_of Tryz.func177 (by kernel_rfl) rfl
theorem e178 : Enters Tryz.prog 178 := enters_of Tryz.func178 (by kernel_rfl) rfl
theorem e179 : Enters Tryz.prog 179 := enters_of Tryz.func179 (by kernel_rfl) rfl
theorem e180 : Enters Tryz.prog 180 := enters_of Tryz.func180 (by kernel_rfl) rfl
theorem e181 : Enters Tryz.prog 181 := enters_of Tryz.func181 (by kernel_rfl) rfl
theorem e182 : Enters Tryz.prog 182 := enters_of Tryz.func182 (by kernel_rfl) rfl
theorem e183 : Enters Tryz.prog 183 := enters_of Tryz.func183 (by kernel_rfl) rfl
theorem e184 : Enters Tryz.prog 184 := enters_of Tryz.func184 (by kernel_rfl) rfl
theorem e185 : Enters Tryz.prog 185 := enters_of Tryz.func185 (by kernel_rfl) rfl
theorem e186 : Enters Tryz.prog 186 := enters_of Tryz.func186 (by kernel_rfl) rfl
theorem e187 : Enters Tryz.prog 187 := enters_of Tryz.func187 (by kernel_rfl) rfl
theorem e188 : Enters Tryz.prog 188 := enters_of Tryz.func188 (by kernel_rfl) rfl
theorem e189 : Enters Tryz.prog 189 := enters_of Tryz.func189 (by kernel_rfl) rfl
theorem e190 : Enters Tryz.prog 190 := enters_of Tryz.func190 (by kernel_rfl) rfl
theorem e191 : Enters Tryz.prog 191 := enters_of Tryz.func191 (by kernel_rfl) rfl
theorem e192 : Enters Tryz.prog 192 := enters_of Tryz.func192 (by kernel_rfl) rfl
theorem e193 : Enters Tryz.prog 193 := enters_of Tryz.func193 (by kernel_rfl) rfl
theorem e194 : Enters Tryz.prog 194 := enters_of Tryz.func194 (by kernel_rfl) rfl
theorem e195 : Enters Tryz.prog 195 := enters_of Tryz.func195 (by kernel_rfl) rfl
theorem e196 : Enters Tryz.prog 196 := enters_of Tryz.func196 (by kernel_rfl) rfl
theorem e197 : Enters Tryz.prog 197 := enters_of Tryz.func197 (by kernel_rfl) rfl
theorem e198 : Enters Tryz.prog 198 := enters_of Tryz.func198 (by kernel_rfl) rfl
theorem e199 : Enters Tryz.prog 199 := enters_of Tryz.func199 (by kernel_rfl) rfl
theorem e200 : Enters Tryz.prog 200 := enters_of Tryz.func200 (by kernel_rfl) rfl
theorem e201 : Enters Tryz.prog 201 := enters_of Tryz.func201 (by kernel_rfl) rfl
theorem e202 : Enters Tryz.prog 202 := enters_of Tryz.func202 (by kernel_rfl) rfl
theorem e203 : Enters Tryz.prog 203 := enters_of Tryz.func203 (by kernel_rfl) rfl
theorem e204 : Enters Tryz.prog 204 := enters_of Tryz.func204 (by kernel_rfl) rfl
theorem e205 : Enters Tryz.prog 205 := enters_of Tryz.func205 (by kernel_rfl) rfl
theorem e206 : Enters Tryz.prog 206 := enters_of Tryz.func206 (by kernel_rfl) rfl
theorem e207 : Enters Tryz.prog 207 := enters_of Tryz.func207 (by kernel_rfl) rfl
theorem e208 : Enters Tryz.prog 208 := enters_of Tryz.func208 (by kernel_rfl) rfl
theorem e209 : Enters Tryz.prog 209 := enters_of Tryz.func209 (by kernel_rfl) rfl
theorem e210 : Enters Tryz.prog 210 := enters_of Tryz.func210 (by kernel_rfl) rfl
theorem e211 : Enters Tryz.prog 211 := enters_of Tryz.func211 (by kernel_rfl) rfl
theorem e212 : Enters Tryz.prog 212 := enters_of Tryz.func212 (by kernel_rfl) rfl
theorem e213 : Enters Tryz.prog 213 := enters_of Tryz.func213 (by kernel_rfl) rfl
theorem e214 : Enters Tryz.prog 214 := enters_of Tryz.func214 (by kernel_rfl) rfl
theorem e215 : Enters Tryz.prog 215 := enters_of Tryz.func215 (by kernel_rfl) rfl
theorem e216 : Enters Tryz.prog 216 := enters_of Tryz.func216 (by kernel_rfl) rfl
theorem e217 : Enters Tryz.prog 217 := enters_of Tryz.func217 (by kernel_rfl) rfl
theorem e218 : Enters Tryz.prog 218 := enters_of Tryz.func218 (by kernel_rfl) rfl
theorem e219 : Enters Tryz.prog 219 := enters_of Tryz.func219 (by kernel_rfl) rfl
theorem e220 : Enters Tryz.prog 220 := enters_of Tryz.func220 (by kernel_rfl) rfl
theorem e221 : Enters Tryz.prog 221 := enters_of Tryz.func221 (by kernel_rfl) rfl
theorem e222 : Enters Tryz.prog 222 := enters_of Tryz.func222 (by kernel_rfl) rfl
theorem e223 : Enters Tryz.prog 223 := enters_of Tryz.func223 (by kernel_rfl) rfl
theorem e224 : Enters Tryz.prog 224 := enters_of Tryz.func224 (by kernel_rfl) rfl
theorem e225 : Enters Tryz.prog 225 := enters_of Tryz.func225 (by kernel_rfl) rfl
theorem e226 : Enters Tryz.prog 226 := enters_of Tryz.func226 (by kernel_rfl) rfl
theorem e227 : Enters Tryz.prog 227 := enters_of Tryz.func227 (by kernel_rfl) rfl
theorem e228 : Enters Tryz.prog 228 := enters_of Tryz.func228 (by kernel_rfl) rfl
theorem e229 : Enters Tryz.prog 229 := enters_of Tryz.func229 (by kernel_rfl) rfl
theorem e230 : Enters Tryz.prog 230 := enters_of Tryz.func230 (by kernel_rfl) rfl
theorem e231 : Enters Tryz.prog 231 := enters_of Tryz.func231 (by kernel_rfl) rfl
theorem e232 : Enters Tryz.prog 232 := enters_of Tryz.func232 (by kernel_rfl) rfl
theorem e233 : Enters Tryz.prog 233 := enters_of Tryz.func233 (by kernel_rfl) rfl
theorem e234 : Enters Tryz.prog 234 := enters_of Tryz.func234 (by kernel_rfl) rfl
theorem e235 : Enters Tryz.prog 235 := enters_of Tryz.func235 (by kernel_rfl) rfl
theorem e236 : Enters Tryz.prog 236 := enters_of Tryz.func236 (by kernel_rfl) rfl
theorem e237 : Enters Tryz.prog 237 := enters_of Tryz.func237 (by kernel_rfl) rfl
theorem e238 : Enters Tryz.prog 238 := enters_of Tryz.func238 (by kernel_rfl) rfl
theorem e239 : Enters Tryz.prog 239 := enters_of Tryz.func239 (by kernel_rfl) rfl
theorem e240 : Enters Tryz.prog 240 := enters_of Tryz.func240 (by kernel_rfl) rfl
theorem e241 : Enters Tryz.prog 241 := enters_of Tryz.func241 (by kernel_rfl) rfl
theorem e242 : Enters Tryz.prog 242 := enters_of Tryz.func242 (by kernel_rfl) rfl
theorem e243 : Enters Tryz.prog 243 := enters_of Tryz.func243 (by kernel_rfl) rfl
theorem e244 : Enters Tryz.prog 244 := enters_of Tryz.func244 (by kernel_rfl) rfl
theorem e245 : Enters Tryz.prog 245 := enters_of Tryz.func245 (by kernel_rfl) rfl
theorem e246 : Enters Tryz.prog 246 := enters_of Tryz.func246 (by kernel_rfl) rfl
theorem e247 : Enters Tryz.prog 247 := enters_of Tryz.func247 (by kernel_rfl) rfl
theorem e248 : Enters Tryz.prog 248 := enters_of Tryz.func248 (by kernel_rfl) rfl
theorem e249 : Enters Tryz.prog 249 := enters_of Tryz.func249 (by kernel_rfl) rfl
theorem e250 : Enters Tryz.prog 250 := enters_of Tryz.func250 (by kernel_rfl) rfl
theorem e251 : Enters Tryz.prog 251 := enters_of Tryz.func251 (by kernel_rfl) rfl
theorem e252 : Enters Tryz.prog 252 := enters_of Tryz.func252 (by kernel_rfl) rfl
theorem e253 : Enters Tryz.prog 253 := enters_of Tryz.func253 (by kernel_rfl) rfl
theorem e254 : Enters Tryz.prog 254 := enters_of Tryz.func254 (by kernel_rfl) rfl
theorem e255 : Enters Tryz.prog 255 := enters_of Tryz.func255 (by kernel_rfl) rfl
theorem e256 : Enters Tryz.prog 256 := enters_of Tryz.func256 (by kernel_rfl) rfl
theorem e257 : Enters Tryz.prog 257 := enters_of Tryz.func257 (by kernel_rfl) rfl
theorem e258 : Enters Tryz.prog 258 := enters_of Tryz.func258 (by kernel_rfl) rfl
theorem e259 : Enters Tryz.prog 259 := enters_of Tryz.func259 (by kernel_rfl) rfl
theorem e260 : Enters Tryz.prog 260 := enters_of Tryz.func260 (by kernel_rfl) rfl
theorem e261 : Enters Tryz.prog 261 := enters_of Tryz.func261 (by kernel_rfl) rfl
theorem e262 : Enters Tryz.prog 262 := enters_of Tryz.func262 (by kernel_rfl) rfl
theorem e263 : Enters Tryz.prog 263 := enters_of Tryz.func263 (by kernel_rfl) rfl
theorem e264 : Enters Tryz.prog 264 := enters_of Tryz.func264 (by kernel_rfl) rfl
theorem e265 : Enters Tryz.prog 265 := enters_of Tryz.func265 (by kernel_rfl) rfl
theorem e266 : Enters Tryz.prog 266 := enters_of Tryz.func266 (by kernel_rfl) rfl
theorem e267 : Enters Tryz.prog 267 := enters_of Tryz.func267 (by kernel_rfl) rfl
theorem e268 : Enters Tryz.prog 268 := enters_of Tryz.func268 (by kernel_rfl) rfl
theorem e269 : Enters Tryz.prog 269 := enters_of Tryz.func269 (by kernel_rfl) rfl
theorem e270 : Enters Tryz.prog 270 := enters_of Tryz.func270 (by kernel_rfl) rfl
theorem e271 : Enters Tryz.prog 271 := enters_of Tryz.func271 (by kernel_rfl) rfl
theorem e272 : Enters Tryz.prog 272 := enters_of Tryz.func272 (by kernel_rfl) rfl
theorem e273 : Enters Tryz.prog 273 := enters_of Tryz.func273 (by kernel_rfl) rfl
theorem e274 : Enters Tryz.prog 274 := enters_of Tryz.func274 (by kernel_rfl) rfl
theorem e275 : Enters Tryz.prog 275 := enters_of Tryz.func275 (by kernel_rfl) rfl
theorem e276 : Enters Tryz.prog 276 := enters_of Tryz.func276 (by kernel_rfl) rfl
theorem e277 : Enters Tryz.prog 277 := enters_of Tryz.func277 (by kernel_rfl) rfl
theorem e278 : Enters Tryz.prog 278 := enters_of Tryz.func278 (by kernel_rfl) rfl
theorem e279 : Enters Tryz.prog 279 := enters_of Tryz.func279 (by kernel_rfl) rfl
theorem e280 : Enters Tryz.prog 280 := enters_of Tryz.func280 (by kernel_rfl) rfl
theorem e281 : Enters Tryz.prog 281 := enters_of Tryz.func281 (by kernel_rfl) rfl
theorem e282 : Enters Tryz.prog 282 := enters_of Tryz.func282 (by kernel_rfl) rfl
theorem e283 : Enters Tryz.prog 283 := enters_of Tryz.func283 (by kernel_rfl) rfl
theorem e284 : Enters Tryz.prog 284 := enters_of Tryz.func284 (by kernel_rfl) rfl
theorem e285 : Enters Tryz.prog 285 := enters_of Tryz.func285 (by kernel_rfl) rfl
theorem e287 : Enters Tryz.prog 287 := enters_of Tryz.func287 (by kernel_rfl) rfl
theorem e288 : Enters Tryz.prog 288 := enters_of Tryz.func288 (by kernel_rfl) rfl
theorem x21 : ∀ (b : Nat) (w : World), (callFunc 21 #[.float .f64 b]).run Tryz.prog w = .ok (.value (.int .u64 b)) w := fun b w => by kernel_rfl
theorem x124 : ∀ (b : Int) (w : World), (callFunc 124 #[.int .u64 b]).run Tryz.prog w = .ok (.value (.float .f64 b.toNat)) w := fun b w => by kernel_rfl
end Go.Proofs.YtffbcfcoddacmaaGreat
