/- What the program's tables say of the types and functions that the code names: closed facts, by program. -/
import Derived.Test.YtmghlfdejceieaaProg
import Derived.Test.YtmghlfdejceieaaX8
namespace Go.Proofs.Ytmghlfdejceieaa
open Go Go.X
theorem mixed : Try.prog.follows .mixedOrders = true := by kernel_rfl
theorem i2 : TI Try.prog 2 (.int .i64 0) 1 8 := TI.mk' (by kernel_rfl)
theorem p2 : Plain Try.prog 2 := Plain.of Try.underlying2 rfl
theorem i3 : TI Try.prog 3 (.int .i64 0) 1 8 := TI.mk' (by kernel_rfl)
theorem p3 : Plain Try.prog 3 := Plain.of Try.underlying3 rfl
theorem u4 : Try.prog.underlying 4 = some .bool := Try.underlying4
theorem i4 : TI Try.prog 4 (.bool false) 1 1 := TI.mk' (by kernel_rfl)
theorem p4 : Plain Try.prog 4 := Plain.of Try.underlying4 rfl
theorem i5 : TI Try.prog 5 (.int .u8 0) 1 1 := TI.mk' (by kernel_rfl)
theorem p5 : Plain Try.prog 5 := Plain.of Try.underlying5 rfl
theorem u9 : Try.prog.underlying 9 = some .string := Try.underlying9
theorem i9 : TI Try.prog 9 (.string ByteArray.empty) 1 16 := TI.mk' (by kernel_rfl)
theorem p9 : Plain Try.prog 9 := Plain.of Try.underlying9 rfl
theorem i22 : TI Try.prog 22 (.pointer none) 1 8 := TI.mk' (by kernel_rfl)
theorem p22 : Plain Try.prog 22 := Plain.of Try.underlying22 rfl
theorem i24 : TI Try.prog 24 (.int .i64 0) 1 8 := TI.mk' (by kernel_rfl)
theorem p24 : Plain Try.prog 24 := Plain.of Try.underlying24 rfl
theorem i28 : TI Try.prog 28 (.agg #[.string ByteArray.empty, .string ByteArray.empty]) 2 32 := TI.mk' (by kernel_rfl)
theorem a28 : Agg Try.prog 28 2 := Agg.of (d := (Try.prog.underlying 28).getD .bool) (by kernel_rfl) (by kernel_rfl) i28
theorem u29 : SlT Try.prog 29 28 := Try.underlying29
theorem i29 : TI Try.prog 29 (.slice none 0 0) 1 24 := TI.mk' (by kernel_rfl)
theorem p29 : Plain Try.prog 29 := Plain.of Try.underlying29 rfl
theorem i30 : TI Try.prog 30 (.float .f64 0) 1 8 := TI.mk' (by kernel_rfl)
theorem p30 : Plain Try.prog 30 := Plain.of Try.underlying30 rfl
theorem u34 : SlT Try.prog 34 3 := Try.underlying34
theorem i34 : TI Try.prog 34 (.slice none 0 0) 1 24 := TI.mk' (by kernel_rfl)
theorem p34 : Plain Try.prog 34 := Plain.of Try.underlying34 rfl
theorem u38 : SlT Try.prog 38 5 := Try.underlying38
theorem i38 : TI Try.prog 38 (.slice none 0 0) 1 24 := TI.mk' (by kernel_rfl)
theorem p38 : Plain Try.prog 38 := Plain.of Try.underlying38 rfl
theorem u43 : SlT Try.prog 43 30 := Try.underlying43
theorem i43 : TI Try.prog 43 (.slice none 0 0) 1 24 := TI.mk' (by kernel_rfl)
theorem p43 : Plain Try.prog 43 := Plain.of Try.underlying43 rfl
theorem i47 : TI Try.prog 47 (.pointer none) 1 8 := TI.mk' (by kernel_rfl)
theorem p47 : Plain Try.prog 47 := Plain.of Try.underlying47 rfl
theorem i49 : TI Try.prog 49 (.pointer none) 1 8 := TI.mk' (by kernel_rfl)
theorem p49 : Plain Try.prog 49 := Plain.of Try.underlying49 rfl
theorem u51 : SlT Try.prog 51 60 := Try.underlying51
theorem i51 : TI Try.prog 51 (.slice none 0 0) 1 24 := TI.mk' (by kernel_rfl)
theorem p51 : Plain Try.prog 51 := Plain.of Try.underlying51 rfl
theorem i53 : TI Try.prog 53 (.agg #[.pointer none, .pointer none, .slice none 0 0]) 3 40 := TI.mk' (by kernel_rfl)
theorem a53 : Agg Try.prog 53 3 := Agg.of (d := (Try.prog.underlying 53).getD .bool) (by kernel_rfl) (by kernel_rfl) i53
theorem i56 : TI Try.prog 56 (.int .u64 0) 1 8 := TI.mk' (by kernel_rfl)
theorem p56 : Plain Try.prog 56 := Plain.of Try.underlying56 rfl
theorem i60 : TI Try.prog 60 (.agg #[.int .i64 0, .slice none 0 0, .float .f64 0]) 3 40 := TI.mk' (by kernel_rfl)
theorem a60 : Agg Try.prog 60 3 := Agg.of (d := (Try.prog.underlying 60).getD .bool) (by kernel_rfl) (by kernel_rfl) i60
theorem i62 : TI Try.prog 62 (.nilFunc) 1 8 := TI.mk' (by kernel_rfl)
theorem p62 : Plain Try.prog 62 := Plain.of Try.underlying62 rfl
theorem i71 : TI Try.prog 71 (.agg #[.int .i64 0, .int .i64 0, .slice none 0 0]) 3 40 := TI.mk' (by kernel_rfl)
theorem a71 : Agg Try.prog 71 3 := Agg.of (d := (Try.prog.underlying 71).getD .bool) (by kernel_rfl) (by kernel_rfl) i71
theorem i72 : TI Try.prog 72 (.map none) 1 8 := TI.mk' (by kernel_rfl)
theorem p72 : Plain Try.prog 72 := Plain.of Try.underlying72 rfl
theorem i73 : TI Try.prog 73 (.map none) 1 8 := TI.mk' (by kernel_rfl)
theorem p73 : Plain Try.prog 73 := Plain.of Try.underlying73 rfl
theorem i75 : TI Try.prog 75 (.agg #[.map none, .map none]) 2 16 := TI.mk' (by kernel_rfl)
theorem a75 : Agg Try.prog 75 2 := Agg.of (d := (Try.prog.underlying 75).getD .bool) (by kernel_rfl) (by kernel_rfl) i75
theorem i80 : TI Try.prog 80 (.nilFunc) 1 8 := TI.mk' (by kernel_rfl)
theorem p80 : Plain Try.prog 80 := Plain.of Try.underlying80 rfl
theorem u89 : SlT Try.prog 89 34 := Try.underlying89
theorem i89 : TI Try.prog 89 (.slice none 0 0) 1 24 := TI.mk' (by kernel_rfl)
theorem p89 : Plain Try.prog 89 := Plain.of Try.underlying89 rfl
theorem i90 : TI Try.prog 90 (.int .u64 0) 1 8 := TI.mk' (by kernel_rfl)
theorem p90 : Plain Try.prog 90 := Plain.of Try.underlying90 rfl
theorem i94 : TI Try.prog 94 (.int .i64 0) 1 8 := TI.mk' (by kernel_rfl)
theorem p94 : Plain Try.prog 94 := Plain.of Try.underlying94 rfl
theorem i102 : TI Try.prog 102 (.int .u32 0) 1 4 := TI.mk' (by kernel_rfl)
theorem p102 : Plain Try.prog 102 := Plain.of Try.underlying102 rfl
theorem i104 : TI Try.prog 104 (.int .u64 0) 1 8 := TI.mk' (by kernel_rfl)
theorem p104 : Plain Try.prog 104 := Plain.of Try.underlying104 rfl
theorem i108 : TI Try.prog 108 (.pointer none) 1 8 := TI.mk' (by kernel_rfl)
theorem p108 : Plain Try.prog 108 := Plain.of Try.underlying108 rfl
theorem i111 : TI Try.prog 111 (.pointer none) 1 8 := TI.mk' (by kernel_rfl)
theorem p111 : Plain Try.prog 111 := Plain.of Try.underlying111 rfl
theorem key2 : KeyLaw Try.prog 2 (Value.int .i64) := KeyLaw.int Try.underlying2
theorem key3 : KeyLaw Try.prog 3 (Value.int .i64) := KeyLaw.int Try.underlying3
theorem key24 : KeyLaw Try.prog 24 (Value.int .i64) := KeyLaw.int Try.underlying24
theorem pair28 : Pair Try.prog 28 := Pair.of (by kernel_rfl) (by kernel_rfl) Try.underlying28 Try.underlying9 rfl rfl rfl rfl (by decide) (by decide)
theorem key28 : KeyLaw Try.prog 28 pairV := KeyLaw.pair Try.underlying28 Try.underlying9 rfl rfl rfl rfl (by decide) (by decide) pair28
theorem key94 : KeyLaw Try.prog 94 (Value.int .i64) := KeyLaw.int Try.underlying94
theorem fo28_0 : FO Try.prog 28 0 0 := fun a w => by kernel_rfl
theorem fo28_1 : FO Try.prog 28 1 1 := fun a w => by kernel_rfl
theorem fo53_0 : FO Try.prog 53 0 0 := fun a w => by kernel_rfl
theorem fo53_1 : FO Try.prog 53 1 1 := fun a w => by kernel_rfl
theorem fo53_2 : FO Try.prog 53 2 2 := fun a w => by kernel_rfl
theorem fo60_0 : FO Try.prog 60 0 0 := fun a w => by kernel_rfl
theorem fo60_1 : FO Try.prog 60 1 1 := fun a w => by kernel_rfl
theorem fo60_2 : FO Try.prog 60 2 2 := fun a w => by kernel_rfl
theorem fo71_0 : FO Try.prog 71 0 0 := fun a w => by kernel_rfl
theorem fo71_1 : FO Try.prog 71 1 1 := fun a w => by kernel_rfl
theorem fo71_2 : FO Try.prog 71 2 2 := fun a w => by kernel_rfl
theorem fo75_0 : FO Try.prog 75 0 0 := fun a w => by kernel_rfl
theorem fo75_1 : FO Try.prog 75 1 1 := fun a w => by kernel_rfl
theorem e3 : Enters Try.prog 3 := enters_of Try.func3 (by kernel_rfl) rfl
theorem e4 : Enters Try.prog 4 := enters_of Try.func4 (by kernel_rfl) rfl
theorem e5 : Enters Try.prog 5 := enters_of Try.func5 (by kernel_rfl) rfl
theorem e6 : Enters Try.prog 6 := enters_of Try.func6 (by kernel_rfl) rfl
theorem e7 : Enters Try.prog 7 := enters_of Try.func7 (by kernel_rfl) rfl
theorem e8 : Enters Try.prog 8 := enters_of Try.func8 (by kernel_rfl) rfl
theorem e9 : Enters Try.prog 9 := enters_of Try.func9 (by kernel_rfl) rfl
theorem e10 : Enters Try.prog 10 := enters_of Try.func10 (by kernel_rfl) rfl
theorem e11 : Enters Try.prog 11 := enters_of Try.func11 (by kernel_rfl) rfl
theorem e12 : Enters Try.prog 12 := enters_of Try.func12 (by kernel_rfl) rfl
theorem e13 : Enters Try.prog 13 := enters_of Try.func13 (by kernel_rfl) rfl
theorem e14 : Enters Try.prog 14 := enters_of Try.func14 (by kernel_rfl) rfl
theorem e15 : Enters Try.prog 15 := enters_of Try.func15 (by kernel_rfl) rfl
theorem e16 : Enters Try.prog 16 := enters_of Try.func16 (by kernel_rfl) rfl
theorem e17 : Enters Try.prog 17 := enters_of Try.func17 (by kernel_rfl) rfl
theorem e18 : Enters Try.prog 18 := enters_of Try.func18 (by kernel_rfl) rfl
theorem e19 : Enters Try.prog 19 := enters_of Try.func19 (by kernel_rfl) rfl
theorem e20 : Enters Try.prog 20 := enters_of Try.func20 (by kernel_rfl) rfl
theorem e21 : Enters Try.prog 21 := enters_of Try.func21 (by kernel_rfl) rfl
theorem e22 : Enters Try.prog 22 := enters_of Try.func22 (by kernel_rfl) rfl
theorem e23 : Enters Try.prog 23 := enters_of Try.func23 (by kernel_rfl) rfl
theorem e24 : Enters Try.prog 24 := enters_of Try.func24 (by kernel_rfl) rfl
theorem e25 : Enters Try.prog 25 := enters_of Try.func25 (by kernel_rfl) rfl
theorem e26 : Enters Try.prog 26 := enters_of Try.func26 (by kernel_rfl) rfl
theorem e27 : Enters Try.prog 27 := enters_of Try.func27 (by kernel_rfl) rfl
theorem e28 : Enters Try.prog 28 := enters_of Try.func28 (by kernel_rfl) rfl
theorem e29 : Enters Try.prog 29 := enters_of Try.func29 (by kernel_rfl) rfl
theorem e32 : Enters Try.prog 32 := enters_of Try.func32 (by kernel_rfl) rfl
theorem e33 : Enters Try.prog 33 := enters_of Try.func33 (by kernel_rfl) rfl
theorem e34 : Enters Try.prog 34 := enters_of Try.func34 (by kernel_rfl) rfl
theorem e35 : Enters Try.prog 35 := enters_of Try.func35 (by kernel_rfl) rfl
theorem e36 : Enters Try.prog 36 := enters_of Try.func36 (by kernel_rfl) rfl
theorem e37 : Enters Try.prog 37 := enters_of Try.func37 (by kernel_rfl) rfl
theorem e38 : Enters Try.prog 38 := enters_of Try.func38 (by kernel_rfl) rfl
theorem e39 : Enters Try.prog 39 := enters_of Try.func39 (by kernel_rfl) rfl
theorem e40 : Enters Try.prog 40 := enters_of Try.func40 (by kernel_rfl) rfl
theorem e41 : Enters Try.prog 41 := enters_of Try.func41 (by kernel_rfl) rfl
theorem e42 : Enters Try.prog 42 := enters_of Try.func42 (by kernel_rfl) rfl
theorem e43 : Enters Try.prog 43 := enters_of Try.func43 (by kernel_rfl) rfl
theorem e44 : Enters Try.prog 44 := enters_of Try.func44 (by kernel_rfl) rfl
theorem e45 : Enters Try.prog 45 := enters_of Try.func45 (by kernel_rfl) rfl
theorem e46 : Enters Try.prog 46 := enters_of Try.func46 (by kernel_rfl) rfl
theorem e47 : Enters Try.prog 47 := enters_of Try.func47 (by kernel_rfl) rfl
theorem e48 : Enters Try.prog 48 := enters_of Try.func48 (by kernel_rfl) rfl
theorem e49 : Enters Try.prog 49 := enters_of Try.func49 (by kernel_rfl) rfl
theorem e50 : Enters Try.prog 50 := enters_of Try.func50 (by kernel_rfl) rfl
theorem e51 : Enters Try.prog 51 := enters_of Try.func51 (by kernel_rfl) rfl
theorem e52 : Enters Try.prog 52 := enters_of Try.func52 (by kernel_rfl) rfl
theorem e53 : Enters Try.prog 53 := enters_of Try.func53 (by kernel_rfl) rfl
theorem e54 : Enters Try.prog 54 := enters_of Try.func54 (by kernel_rfl) rfl
theorem e55 : Enters Try.prog 55 := enters_of Try.func55 (by kernel_rfl) rfl
theorem e56 : Enters Try.prog 56 := enters_of Try.func56 (by kernel_rfl) rfl
theorem e57 : Enters Try.prog 57 := enters_of Try.func57 (by kernel_rfl) rfl
theorem e58 : Enters Try.prog 58 := enters_of Try.func58 (by kernel_rfl) rfl
theorem e59 : Enters Try.prog 59 := enters_of Try.func59 (by kernel_rfl) rfl
theorem e60 : Enters Try.prog 60 := enters_of Try.func60 (by kernel_rfl) rfl
theorem e61 : Enters Try.prog 61 := enters_of Try.func61 (by kernel_rfl) rfl
theorem e62 : Enters Try.prog 62 := enters_of Try.func62 (by kernel_rfl) rfl
theorem e63 : Enters Try.prog 63 := enters_of Try.func63 (by kernel_rfl) rfl
theorem e64 : Enters Try.prog 64 := enters_of Try.func64 (by kernel_rfl) rfl
theorem e65 : Enters Try.prog 65 := enters_of Try.func65 (by kernel_rfl) rfl
theorem e66 : Enters Try.prog 66 := enters_of Try.func66 (by kernel_rfl) rfl
theorem e67 : Enters Try.prog 67 := enters_of Try.func67 (by kernel_rfl) rfl
theorem e68 : Enters Try.prog 68 := enters_of Try.func68 (by kernel_rfl) rfl
theorem e69 : Enters Try.prog 69 := enters_of Try.func69 (by kernel_rfl) rfl
theorem e70 : Enters Try.prog 70 := enters_of Try.func70 (by kernel_rfl) rfl
theorem e71 : Enters Try.prog 71 := enters_of Try.func71 (by kernel_rfl) rfl
theorem e72 : Enters Try.prog 72 := enters_of Try.func72 (by kernel_rfl) rfl
theorem e73 : Enters Try.prog 73 := enters_of Try.func73 (by kernel_rfl) rfl
theorem e74 : Enters Try.prog 74 := enters_of Try.func74 (by kernel_rfl) rfl
theorem e75 : Enters Try.prog 75 := enters_of Try.func75 (by kernel_rfl) rfl
theorem e76 : Enters Try.prog 76 := enters_of Try.func76 (by kernel_rfl) rfl
theorem e77 : Enters Try.prog 77 := enters_of Try.func77 (by kernel_rfl) rfl
theorem x30 : ∀ (b : Int) (w : World), (callFunc 30 #[.int .u64 b]).run Try.prog w = .ok (.value (.float .f64 b.toNat)) w := fun b w => by kernel_rfl
theorem x31 : ∀ (b : Nat) (w : World), (callFunc 31 #[.float .f64 b]).run Try.prog w = .ok (.value (.int .u64 b)) w := fun b w => by kernel_rfl
end Go.Proofs.Ytmghlfdejceieaa
