import Derived.Test.YtffbcfcoddacmaaGreatF
import Derived.Test.YtffbcfcoddacmaaGreatShelf
import Derived.Sort.OwnSortedInts
/- Letters, names, values of labels; values' bits. -/
set_option linter.unusedVariables false
set_option linter.unusedSimpArgs false
set_option maxHeartbeats 400000
set_option maxRecDepth 100000
namespace Go.Proofs.YtffbcfcoddacmaaGreat
open Go Go.X

@[irreducible] def letS (c : Int) : Bool := decide (97 ≤ c ∧ c ≤ 122 ∨ 65 ≤ c ∧ c ≤ 90 ∨ c = 95)
theorem letter_ok (c : Int) (w : World) : Fx Tryz.prog 160 [.int .u8 c] w (fun v w' => v = .bool (letS c) ∧ w = w') := by
  refine enter Tryz.func160 rfl rfl rfl _ (Pick.sub (l := [0]) (.cons rfl .nil)) ?_
  refine RK.seq ?_
  refine RK.region ?_
  refine RL.p rfl rfl ?_
  refine RL.done ?_
  refine RK.seq ?_
  refine RK.region ?_
  iterate 3 refine RL.p rfl rfl ?_
  first | refine RL.splitD (d := 5) rfl rfl (fun h5 => ?_) (fun h5 => ?_) | refine RL.splitN (d := 5) rfl rfl (fun h5 => ?_) (fun h5 => ?_) | refine RL.split (d := 5) rfl rfl (fun h5 => ?_) (fun h5 => ?_)
  · iterate 2 refine RL.q (.yes rfl rfl rfl) rfl rfl (Yld.pure rfl) ?_
    iterate 2 refine RL.p rfl rfl ?_
    first | refine RL.splitD (d := 9) rfl rfl (fun h9 => ?_) (fun h9 => ?_) | refine RL.splitN (d := 9) rfl rfl (fun h9 => ?_) (fun h9 => ?_) | refine RL.split (d := 9) rfl rfl (fun h9 => ?_) (fun h9 => ?_)
    · iterate 6 refine RL.no (.no rfl rfl rfl rfl) rfl rfl ?_
      iterate 2 refine RL.p rfl rfl ?_
      iterate 2 refine RL.no (.no rfl rfl rfl rfl) rfl rfl ?_
      iterate 2 refine RL.p rfl rfl ?_
      refine RL.done ?_
      refine RK.ret_of Tryz.func160 (res1 rfl rfl) ?_ _
      exact ⟨_, rfl, congrArg _ (by rw [Bool.eq_iff_iff]; simp [letS]; omega), rfl⟩
    · iterate 3 refine RL.q (.yes rfl rfl rfl) rfl rfl (Yld.pure rfl) ?_
      first | refine RL.splitD (d := 12) rfl rfl (fun h12 => ?_) (fun h12 => ?_) | refine RL.splitN (d := 12) rfl rfl (fun h12 => ?_) (fun h12 => ?_) | refine RL.split (d := 12) rfl rfl (fun h12 => ?_) (fun h12 => ?_)
      · iterate 3 refine RL.q (.yes rfl rfl rfl) rfl rfl (Yld.pure rfl) ?_
        iterate 2 refine RL.p rfl rfl ?_
        first | refine RL.splitD (d := 17) rfl rfl (fun h17 => ?_) (fun h17 => ?_) | refine RL.splitN (d := 17) rfl rfl (fun h17 => ?_) (fun h17 => ?_) | refine RL.split (d := 17) rfl rfl (fun h17 => ?_) (fun h17 => ?_)
        · iterate 2 refine RL.no (.no rfl rfl rfl rfl) rfl rfl ?_
          iterate 2 refine RL.p rfl rfl ?_
          refine RL.done ?_
          refine RK.ret_of Tryz.func160 (res1 rfl rfl) ?_ _
          exact ⟨_, rfl, congrArg _ (by rw [Bool.eq_iff_iff]; simp [letS]; omega), rfl⟩
        · iterate 2 refine RL.q (.yes rfl rfl rfl) rfl rfl (Yld.pure rfl) ?_
          iterate 2 refine RL.p rfl rfl ?_
          refine RL.done ?_
          refine RK.ret_of Tryz.func160 (res1 rfl rfl) ?_ _
          exact ⟨_, rfl, congrArg _ (by rw [Bool.eq_iff_iff]; simp [letS]; omega), rfl⟩
      · iterate 2 refine RL.no (.no rfl rfl rfl rfl) rfl rfl ?_
        refine RL.q (.yes rfl rfl rfl) rfl rfl (Yld.pure rfl) ?_
        iterate 2 refine RL.p rfl rfl ?_
        iterate 2 refine RL.q (.yes rfl rfl rfl) rfl rfl (Yld.pure rfl) ?_
        iterate 2 refine RL.p rfl rfl ?_
        refine RL.done ?_
        refine RK.ret_of Tryz.func160 (res1 rfl rfl) ?_ _
        exact ⟨_, rfl, congrArg _ (by rw [Bool.eq_iff_iff]; simp [letS]; omega), rfl⟩
  · iterate 2 refine RL.no (.no rfl rfl rfl rfl) rfl rfl ?_
    iterate 2 refine RL.p rfl rfl ?_
    iterate 3 refine RL.q (.yes rfl rfl rfl) rfl rfl (Yld.pure rfl) ?_
    first | refine RL.splitD (d := 12) rfl rfl (fun h12 => ?_) (fun h12 => ?_) | refine RL.splitN (d := 12) rfl rfl (fun h12 => ?_) (fun h12 => ?_) | refine RL.split (d := 12) rfl rfl (fun h12 => ?_) (fun h12 => ?_)
    · iterate 3 refine RL.q (.yes rfl rfl rfl) rfl rfl (Yld.pure rfl) ?_
      iterate 2 refine RL.p rfl rfl ?_
      first | refine RL.splitD (d := 17) rfl rfl (fun h17 => ?_) (fun h17 => ?_) | refine RL.splitN (d := 17) rfl rfl (fun h17 => ?_) (fun h17 => ?_) | refine RL.split (d := 17) rfl rfl (fun h17 => ?_) (fun h17 => ?_)
      · iterate 2 refine RL.no (.no rfl rfl rfl rfl) rfl rfl ?_
        iterate 2 refine RL.p rfl rfl ?_
        refine RL.done ?_
        refine RK.ret_of Tryz.func160 (res1 rfl rfl) ?_ _
        exact ⟨_, rfl, congrArg _ (by rw [Bool.eq_iff_iff]; simp [letS]; omega), rfl⟩
      · iterate 2 refine RL.q (.yes rfl rfl rfl) rfl rfl (Yld.pure rfl) ?_
        iterate 2 refine RL.p rfl rfl ?_
        refine RL.done ?_
        refine RK.ret_of Tryz.func160 (res1 rfl rfl) ?_ _
        exact ⟨_, rfl, congrArg _ (by rw [Bool.eq_iff_iff]; simp [letS]; omega), rfl⟩
    · iterate 2 refine RL.no (.no rfl rfl rfl rfl) rfl rfl ?_
      refine RL.q (.yes rfl rfl rfl) rfl rfl (Yld.pure rfl) ?_
      iterate 2 refine RL.p rfl rfl ?_
      iterate 2 refine RL.q (.yes rfl rfl rfl) rfl rfl (Yld.pure rfl) ?_
      iterate 2 refine RL.p rfl rfl ?_
      refine RL.done ?_
      refine RK.ret_of Tryz.func160 (res1 rfl rfl) ?_ _
      exact ⟨_, rfl, congrArg _ (by rw [Bool.eq_iff_iff]; simp [letS]; omega), rfl⟩

@[irreducible] def valS (s : ByteArray) : Bool := decide (1 ≤ s.size ∧ s.size ≤ 24)
theorem value_ok (s : ByteArray) (w : World) : Fx Tryz.prog 123 [.string s] w (fun v w' => v = .bool (valS s) ∧ w = w') := by
  refine enter Tryz.func123 rfl rfl rfl _ (Pick.sub (l := [0]) (.cons rfl .nil)) ?_
  refine RK.seq ?_
  refine RK.region ?_
  refine RL.p rfl rfl ?_
  refine RL.done ?_
  refine RK.seq ?_
  refine RK.region ?_
  refine RL.p rfl rfl ?_
  refine RL.q (.free rfl) rfl rfl (Yld.lenStr u9 rfl) ?_
  iterate 2 refine RL.p rfl rfl ?_
  first | refine RL.splitD (d := 6) rfl rfl (fun h6 => ?_) (fun h6 => ?_) | refine RL.splitN (d := 6) rfl rfl (fun h6 => ?_) (fun h6 => ?_) | refine RL.split (d := 6) rfl rfl (fun h6 => ?_) (fun h6 => ?_)
  · refine RL.q (.yes rfl rfl rfl) rfl rfl (Yld.pure rfl) ?_
    refine RL.q (.yes rfl rfl rfl) rfl rfl (Yld.lenStr u9 rfl) ?_
    refine RL.q (.yes rfl rfl rfl) rfl rfl (Yld.pure rfl) ?_
    iterate 2 refine RL.p rfl rfl ?_
    refine RL.done ?_
    refine RK.ret_of Tryz.func123 (res1 rfl rfl) ?_ _
    exact ⟨_, rfl, congrArg _ (by rw [Bool.eq_iff_iff]; simp [valS]; omega), rfl⟩
  · iterate 3 refine RL.no (.no rfl rfl rfl rfl) rfl rfl ?_
    iterate 2 refine RL.p rfl rfl ?_
    refine RL.done ?_
    refine RK.ret_of Tryz.func123 (res1 rfl rfl) ?_ _
    exact ⟨_, rfl, congrArg _ (by rw [Bool.eq_iff_iff]; simp [valS]; omega), rfl⟩

/-- A letter, or a digit. -/
@[irreducible] def chS (c : Int) : Bool := letS c || decide (48 ≤ c ∧ c ≤ 57)
@[irreducible] def nameS (s : ByteArray) : Bool := decide (1 ≤ s.size ∧ s.size ≤ 12) && letS (bt s 0).toNat && (List.range s.size).all fun i => chS (bt s i).toNat
theorem name_no1 {s : ByteArray} (h : ¬ (1 ≤ s.size ∧ s.size ≤ 12)) : nameS s = false := by simp [nameS, h]
theorem name_no2 {s : ByteArray} (h : letS (bt s 0).toNat = false) : nameS s = false := by simp [nameS, h]
theorem name_no3 {s : ByteArray} {i : Nat} (hi : i < s.size) (h : chS (bt s i).toNat = false) : nameS s = false := by
  simp only [nameS, Bool.and_eq_false_iff]
  refine .inr ?_
  rw [List.all_eq_false]
  exact ⟨i, List.mem_range.2 hi, by simp [h]⟩
theorem name_yes {s : ByteArray} (h1 : 1 ≤ s.size) (h2 : s.size ≤ 12) (h3 : letS (bt s 0).toNat = true) (h : ∀ i, i < s.size → chS (bt s i).toNat = true) : nameS s = true := by
  simp only [nameS, Bool.and_eq_true, decide_eq_true_eq, List.all_eq_true, List.mem_range]
  exact ⟨⟨⟨h1, h2⟩, h3⟩, h⟩
theorem name_ok (s : ByteArray) (w : World) : Fx Tryz.prog 122 [.string s] w (fun v w' => v = .bool (nameS s) ∧ w = w') := by
  refine enter Tryz.func122 rfl rfl rfl _ (Pick.sub (l := [0]) (.cons rfl .nil)) ?_
  refine RK.seq ?_
  refine RK.region ?_
  refine RL.p rfl rfl ?_
  refine RL.done ?_
  iterate 2 refine RK.seq ?_
  refine RK.region ?_
  refine RL.p rfl rfl ?_
  refine RL.q (.free rfl) rfl rfl (Yld.lenStr u9 rfl) ?_
  iterate 2 refine RL.p rfl rfl ?_
  first | refine RL.splitD (d := 7) rfl rfl (fun h7 => ?_) (fun h7 => ?_) | refine RL.splitN (d := 7) rfl rfl (fun h7 => ?_) (fun h7 => ?_) | refine RL.split (d := 7) rfl rfl (fun h7 => ?_) (fun h7 => ?_)
  · iterate 3 refine RL.no (.no rfl rfl rfl rfl) rfl rfl ?_
    iterate 2 refine RL.p rfl rfl ?_
    iterate 4 refine RL.no (.no rfl rfl rfl rfl) rfl rfl ?_
    refine RL.p rfl rfl ?_
    refine RL.done ?_
    refine RK.condT rfl ?_
    refine RK.seq ?_
    refine RK.region ?_
    refine RL.p rfl rfl ?_
    refine RL.done ?_
    refine RK.ret_of Tryz.func122 (res1 rfl rfl) ?_ _
    exact ⟨_, rfl, congrArg _ (by first
        | exact (name_no1 (by omega)).symm
        | exact (name_no3 (i := k) (by omega) (by simp at h28; simp [chS, h28]; omega)).symm
        | exact (name_yes (by omega) (by omega) (by simpa using h17) fun i hi => hall i (by omega)).symm
        | exact (name_no2 (by simpa using h17)).symm), rfl⟩
  · refine RL.q (.yes rfl rfl rfl) rfl rfl (Yld.pure rfl) ?_
    refine RL.q (.yes rfl rfl rfl) rfl rfl (Yld.lenStr u9 rfl) ?_
    refine RL.q (.yes rfl rfl rfl) rfl rfl (Yld.pure rfl) ?_
    iterate 2 refine RL.p rfl rfl ?_
    first | refine RL.splitD (d := 12) rfl rfl (fun h12 => ?_) (fun h12 => ?_) | refine RL.splitN (d := 12) rfl rfl (fun h12 => ?_) (fun h12 => ?_) | refine RL.split (d := 12) rfl rfl (fun h12 => ?_) (fun h12 => ?_)
    · iterate 4 refine RL.no (.no rfl rfl rfl rfl) rfl rfl ?_
      refine RL.p rfl rfl ?_
      refine RL.done ?_
      refine RK.condT rfl ?_
      refine RK.seq ?_
      refine RK.region ?_
      refine RL.p rfl rfl ?_
      refine RL.done ?_
      refine RK.ret_of Tryz.func122 (res1 rfl rfl) ?_ _
      exact ⟨_, rfl, congrArg _ (by first
          | exact (name_no1 (by omega)).symm
          | exact (name_no3 (i := k) (by omega) (by simp at h28; simp [chS, h28]; omega)).symm
          | exact (name_yes (by omega) (by omega) (by simpa using h17) fun i hi => hall i (by omega)).symm
          | exact (name_no2 (by simpa using h17)).symm), rfl⟩
    · refine RL.q (.yes rfl rfl rfl) rfl rfl (Yld.pure rfl) ?_
      refine RL.q (.yes rfl rfl rfl) rfl rfl (Yld.idxStr u9 rfl rfl (by omega) (by omega)) ?_
      refine RL.op (.yes rfl rfl rfl) rfl rfl (Does.call rfl e160 (letter_ok _ _)) ?_
      rintro _ _ ⟨rfl, rfl⟩
      refine RL.q (.yes rfl rfl rfl) rfl rfl (Yld.pure rfl) ?_
      refine RL.p rfl rfl ?_
      refine RL.done ?_
      first | refine RK.condD rfl (fun h17 => ?_) (fun h17 => ?_) | refine RK.condN rfl (fun h17 => ?_) (fun h17 => ?_) | refine RK.cond rfl (fun h17 => ?_) (fun h17 => ?_)
      · refine RK.seq ?_
        refine RK.region ?_
        refine RL.p rfl rfl ?_
        refine RL.done ?_
        refine RK.ret_of Tryz.func122 (res1 rfl rfl) ?_ _
        exact ⟨_, rfl, congrArg _ (by first
            | exact (name_no1 (by omega)).symm
            | exact (name_no3 (i := k) (by omega) (by simp at h28; simp [chS, h28]; omega)).symm
            | exact (name_yes (by omega) (by omega) (by simpa using h17) fun i hi => hall i (by omega)).symm
            | exact (name_no2 (by simpa using h17)).symm), rfl⟩
      · refine RK.skip ?_
        iterate 2 refine RK.seq ?_
        refine RK.region ?_
        refine RL.p rfl rfl ?_
        refine RL.q (.free rfl) rfl rfl (Yld.lenStr u9 rfl) ?_
        refine RL.p rfl rfl ?_
        refine RL.done ?_
        refine RK.block ?_
        refine RK.loop (fun k : Nat => [(0, .string s), (19, .int .i64 s.size), (20, .int .i64 k)]) (fun k w' => w = w' ∧ k ≤ s.size ∧ ∀ i, i < k → chS (bt s i).toNat = true) (fun k => s.size - k) 0 ⟨rfl, rfl, rfl, trivial⟩ ⟨rfl, by omega, fun i hi => by omega⟩ (fun k w' hI ih => ?_)
        obtain ⟨rfl, hk, hall⟩ := hI
        refine RK.seq ?_
        refine RK.region ?_
        refine RL.p rfl rfl ?_
        refine RL.done ?_
        refine RK.seq ?_
        first | refine RK.condD rfl (fun h21 => ?_) (fun h21 => ?_) | refine RK.condN rfl (fun h21 => ?_) (fun h21 => ?_) | refine RK.cond rfl (fun h21 => ?_) (fun h21 => ?_)
        · refine RK.skip ?_
          refine RK.seq ?_
          refine RK.block ?_
          refine RK.seq ?_
          refine RK.region ?_
          iterate 2 refine RL.p rfl rfl ?_
          refine RL.done ?_
          refine RK.seq ?_
          refine RK.region ?_
          iterate 2 refine RL.p rfl rfl ?_
          refine RL.q (.free rfl) rfl rfl (Yld.idxStrN u9 rfl rfl (by omega)) ?_
          refine RL.op (.free rfl) rfl rfl (Does.call rfl e160 (letter_ok _ _)) ?_
          rintro _ _ ⟨rfl, rfl⟩
          iterate 2 refine RL.p rfl rfl ?_
          first | refine RL.splitD (d := 28) rfl rfl (fun h28 => ?_) (fun h28 => ?_) | refine RL.splitN (d := 28) rfl rfl (fun h28 => ?_) (fun h28 => ?_) | refine RL.split (d := 28) rfl rfl (fun h28 => ?_) (fun h28 => ?_)
          · iterate 2 refine RL.q (.yes rfl rfl rfl) rfl rfl (Yld.pure rfl) ?_
            refine RL.q (.yes rfl rfl rfl) rfl rfl (Yld.idxStrN u9 rfl rfl (by omega)) ?_
            iterate 2 refine RL.q (.yes rfl rfl rfl) rfl rfl (Yld.pure rfl) ?_
            first | refine RL.splitD (d := 33) rfl rfl (fun h33 => ?_) (fun h33 => ?_) | refine RL.splitN (d := 33) rfl rfl (fun h33 => ?_) (fun h33 => ?_) | refine RL.split (d := 33) rfl rfl (fun h33 => ?_) (fun h33 => ?_)
            · iterate 4 refine RL.no (.no rfl rfl rfl rfl) rfl rfl ?_
              refine RL.q (.yes rfl rfl rfl) rfl rfl (Yld.pure rfl) ?_
              refine RL.p rfl rfl ?_
              refine RL.done ?_
              refine RK.condT rfl ?_
              refine RK.seq ?_
              refine RK.region ?_
              refine RL.p rfl rfl ?_
              refine RL.done ?_
              refine RK.ret_of Tryz.func122 (res1 rfl rfl) ?_ _
              exact ⟨_, rfl, congrArg _ (by first
                  | exact (name_no1 (by omega)).symm
                  | exact (name_no3 (i := k) (by omega) (by simp at h28; simp [chS, h28]; omega)).symm
                  | exact (name_yes (by omega) (by omega) (by simpa using h17) fun i hi => hall i (by omega)).symm
                  | exact (name_no2 (by simpa using h17)).symm), rfl⟩
            · iterate 2 refine RL.q (.yes rfl rfl rfl) rfl rfl (Yld.pure rfl) ?_
              refine RL.q (.yes rfl rfl rfl) rfl rfl (Yld.idxStrN u9 rfl rfl (by omega)) ?_
              iterate 2 refine RL.q (.yes rfl rfl rfl) rfl rfl (Yld.pure rfl) ?_
              refine RL.p rfl rfl ?_
              refine RL.done ?_
              first | refine RK.condD rfl (fun h39 => ?_) (fun h39 => ?_) | refine RK.condN rfl (fun h39 => ?_) (fun h39 => ?_) | refine RK.cond rfl (fun h39 => ?_) (fun h39 => ?_)
              · refine RK.seq ?_
                refine RK.region ?_
                refine RL.p rfl rfl ?_
                refine RL.done ?_
                refine RK.ret_of Tryz.func122 (res1 rfl rfl) ?_ _
                exact ⟨_, rfl, congrArg _ (by first
                    | exact (name_no1 (by omega)).symm
                    | exact (name_no3 (i := k) (by omega) (by simp at h28; simp [chS, h28]; omega)).symm
                    | exact (name_yes (by omega) (by omega) (by simpa using h17) fun i hi => hall i (by omega)).symm
                    | exact (name_no2 (by simpa using h17)).symm), rfl⟩
              · refine RK.skip ?_
                refine RK.inBlock ?_
                refine RK.region ?_
                iterate 2 refine RL.p rfl rfl ?_
                refine RL.re (d := 20) rfl rfl (succ_i64 (by omega)) ?_
                refine RL.done ?_
                exact RK.back (ih (k + 1) _ ⟨rfl, by omega, fun i hi => by by_cases e : i = k; (subst e; simp at h28; simp [chS, h28]; try omega); exact hall i (by omega)⟩ (by omega)) ⟨rfl, rfl, rfl, trivial⟩
          · iterate 10 refine RL.no (.no rfl rfl rfl rfl) rfl rfl ?_
            refine RL.p rfl rfl ?_
            refine RL.done ?_
            refine RK.condF rfl ?_
            refine RK.skip ?_
            refine RK.inBlock ?_
            refine RK.region ?_
            iterate 2 refine RL.p rfl rfl ?_
            refine RL.re (d := 20) rfl rfl (succ_i64 (by omega)) ?_
            refine RL.done ?_
            exact RK.back (ih (k + 1) _ ⟨rfl, by omega, fun i hi => by by_cases e : i = k; (subst e; simp at h28; simp [chS, h28]; try omega); exact hall i (by omega)⟩ (by omega)) ⟨rfl, rfl, rfl, trivial⟩
        · refine RK.exit rfl ?_
          refine RK.seq ?_
          refine RK.region ?_
          refine RL.p rfl rfl ?_
          refine RL.done ?_
          refine RK.ret_of Tryz.func122 (res1 rfl rfl) ?_ _
          exact ⟨_, rfl, congrArg _ (by first
              | exact (name_no1 (by omega)).symm
              | exact (name_no3 (i := k) (by omega) (by simp at h28; simp [chS, h28]; omega)).symm
              | exact (name_yes (by omega) (by omega) (by simpa using h17) fun i hi => hall i (by omega)).symm
              | exact (name_no2 (by simpa using h17)).symm), rfl⟩

/-- Is it a NaN? -/
@[irreducible] def nanS (b : Nat) : Bool := Ieee.double.order b b != some .eq
theorem no_ok (b : Nat) (w : World) : Fx Tryz.prog 125 [.float .f64 b] w (fun v w' => v = .bool (nanS b) ∧ w = w') := by
  refine enter Tryz.func125 rfl rfl rfl _ (Pick.sub (l := [0]) (.cons rfl .nil)) ?_
  refine RK.seq ?_
  refine RK.region ?_
  refine RL.p rfl rfl ?_
  refine RL.done ?_
  refine RK.seq ?_
  refine RK.region ?_
  iterate 4 refine RL.p rfl rfl ?_
  refine RL.done ?_
  refine RK.ret_of Tryz.func125 (res1 rfl rfl) ?_ _
  exact ⟨_, rfl, by unfold nanS; rfl, rfl⟩
def bitsS (b : Nat) : Int := if nanS b then 9221120237041090561 else b
theorem bits_ok (b : Nat) (w : World) : Fx Tryz.prog 75 [.float .f64 b] w (fun v w' => v = .int .u64 (bitsS b) ∧ w = w') := by
  refine enter Tryz.func75 rfl rfl rfl _ (Pick.sub (l := [0]) (.cons rfl .nil)) ?_
  refine RK.seq ?_
  refine RK.region ?_
  refine RL.p rfl rfl ?_
  refine RL.done ?_
  iterate 2 refine RK.seq ?_
  refine RK.region ?_
  refine RL.p rfl rfl ?_
  refine RL.op (.free rfl) rfl rfl (Does.call rfl e125 (no_ok b _)) ?_
  rintro _ _ ⟨rfl, rfl⟩
  refine RL.done ?_
  first | refine RK.condD rfl (fun h4 => ?_) (fun h4 => ?_) | refine RK.condN rfl (fun h4 => ?_) (fun h4 => ?_) | refine RK.cond rfl (fun h4 => ?_) (fun h4 => ?_)
  · refine RK.seq ?_
    refine RK.region ?_
    refine RL.p rfl rfl ?_
    refine RL.done ?_
    refine RK.ret_of Tryz.func75 (res1 rfl rfl) ?_ _
    exact ⟨_, rfl, by simp_all [bitsS], rfl⟩
  · refine RK.skip ?_
    refine RK.seq ?_
    refine RK.region ?_
    refine RL.p rfl rfl ?_
    refine RL.q (.free rfl) rfl rfl (Yld.callx rfl (fun w => x21 _ w)) ?_
    refine RL.p rfl rfl ?_
    refine RL.done ?_
    refine RK.ret_of Tryz.func75 (res1 rfl rfl) ?_ _
    exact ⟨_, rfl, by simp_all [bitsS], rfl⟩
end Go.Proofs.YtffbcfcoddacmaaGreat

/- Label sets: what they are, held against each other, copied. -/
set_option linter.unusedVariables false
set_option linter.unusedSimpArgs false
set_option maxHeartbeats 400000
set_option maxRecDepth 100000
namespace Go.Proofs.YtffbcfcoddacmaaGreat
open Go Go.X

structure Lab where
  name : ByteArray
  value : ByteArray
  deriving DecidableEq, Inhabited
def labC (l : Lab) : List Value := [.string l.name, .string l.value]
theorem labC_len (l : Lab) : (labC l).length = 2 := rfl
abbrev SlL (M : Nat → Prop) (w : World) (v : Value) (ls : List Lab) : Prop := Sl M w v 2 ls.length (ls.flatMap labC)

/-- Is place i of a label set as it must be? -/
@[irreducible] def okAt (ls : List Lab) (i : Nat) : Bool := match ls[i]? with
  | none => true
  | some x => nameS x.name && valS x.value && match i with
    | 0 => true
    | j + 1 => match ls[j]? with
      | none => true
      | some y => slt y.name x.name
@[irreducible] def isS (ls : List Lab) : Bool := decide (1 ≤ ls.length ∧ ls.length ≤ 6) && (List.range ls.length).all (okAt ls)
theorem is_no1 {ls : List Lab} (h : ¬ (1 ≤ ls.length ∧ ls.length ≤ 6)) : isS ls = false := by simp [isS, h]
theorem is_no2 {ls : List Lab} {i : Nat} (hi : i < ls.length) (h : okAt ls i = false) : isS ls = false := by
  simp only [isS, Bool.and_eq_false_iff]
  exact .inr (List.all_eq_false.2 ⟨i, List.mem_range.2 hi, by simp [h]⟩)
theorem is_yes {ls : List Lab} (h1 : 1 ≤ ls.length) (h2 : ls.length ≤ 6) (h : ∀ i, i < ls.length → okAt ls i = true) : isS ls = true := by
  simp only [isS, Bool.and_eq_true, decide_eq_true_eq, List.all_eq_true, List.mem_range]
  exact ⟨⟨h1, h2⟩, h⟩

theorem okAt_no1 {ls : List Lab} {k : Nat} {x : Lab} (hx : ls[k]? = some x) (h : (!nameS x.name) = true) : okAt ls k = false := by simp at h; simp [okAt, hx, h]
theorem okAt_no2 {ls : List Lab} {k : Nat} {x : Lab} (hx : ls[k]? = some x) (h : (!valS x.value) = true) : okAt ls k = false := by simp at h; simp [okAt, hx, h]
theorem okAt_no3 {ls : List Lab} {k j : Nat} {x y : Lab} (hx : ls[k]? = some x) (hj : k = j + 1) (hy : ls[j]? = some y) (h : sle x.name y.name = true) : okAt ls k = false := by
  subst hj
  rw [sle_not] at h
  simp at h
  simp [okAt, hx, hy, h]
theorem okAt_yes0 {ls : List Lab} {k : Nat} {x : Lab} (hx : ls[k]? = some x) (h1 : (!nameS x.name) = false) (h2 : (!valS x.value) = false) (hk : k = 0) : okAt ls k = true := by
  subst hk; simp at h1 h2; simp [okAt, hx, h1, h2]
theorem okAt_yes1 {ls : List Lab} {k j : Nat} {x y : Lab} (hx : ls[k]? = some x) (h1 : (!nameS x.name) = false) (h2 : (!valS x.value) = false) (hj : k = j + 1) (hy : ls[j]? = some y) (h : sle x.name y.name = false) : okAt ls k = true := by
  subst hj
  rw [sle_not] at h
  simp at h h1 h2
  simp [okAt, hx, hy, h, h1, h2]
theorem ok_snoc {ls : List Lab} {k : Nat} (h : ∀ i, i < k → okAt ls i = true) (hk : okAt ls k = true) : ∀ i, i < k + 1 → okAt ls i = true := fun i hi => by
  by_cases e : i = k
  · rw [e]; exact hk
  · exact h i (by omega)
theorem is_ok (M : Nat → Prop) (ls : List Lab) (v : Value) (w : World) (hv : SlL M w v ls) : Fx Tryz.prog 73 [v] w (fun u w' => u = .bool (isS ls) ∧ Grow w w') := by
  obtain ⟨ad, c, rfl⟩ := hv.shape
  refine enter Tryz.func73 rfl rfl rfl _ (Pick.sub (l := [0]) (.cons rfl .nil)) ?_
  refine RK.seq ?_
  refine RK.region ?_
  refine RL.p rfl rfl ?_
  refine RL.done ?_
  iterate 2 refine RK.seq ?_
  refine RK.region ?_
  refine RL.p rfl rfl ?_
  refine RL.q (.free rfl) rfl rfl (Yld.lenSl u26 rfl) ?_
  iterate 2 refine RL.p rfl rfl ?_
  first | refine RL.splitD (d := 8) rfl rfl (fun h8 => ?_) (fun h8 => ?_) | refine RL.splitN (d := 8) rfl rfl (fun h8 => ?_) (fun h8 => ?_) | refine RL.split (d := 8) rfl rfl (fun h8 => ?_) (fun h8 => ?_)
  · iterate 3 refine RL.no (.no rfl rfl rfl rfl) rfl rfl ?_
    refine RL.p rfl rfl ?_
    refine RL.done ?_
    refine RK.condT rfl ?_
    refine RK.seq ?_
    refine RK.region ?_
    refine RL.p rfl rfl ?_
    refine RL.done ?_
    refine RK.ret_of Tryz.func73 (res1 rfl rfl) ?_ _
    exact ⟨_, rfl, congrArg _ (by first
        | exact (is_no1 (by omega)).symm
        | exact (is_no2 (i := k) (by omega) (okAt_no1 hx h24)).symm
        | exact (is_no2 (i := k) (by omega) (okAt_no2 hx h30)).symm
        | exact (is_no2 (i := k) (by omega) (okAt_no3 hx hj hy h44)).symm
        | exact (is_yes (by omega) (by omega) fun i hi => hall i (by omega)).symm), by first
        | exact Mod.refl _ _
        | exact hg2.trans (Mod.drew _ _)
        | exact hg⟩
  · refine RL.q (.yes rfl rfl rfl) rfl rfl (Yld.pure rfl) ?_
    refine RL.q (.yes rfl rfl rfl) rfl rfl (Yld.lenSl u26 rfl) ?_
    refine RL.q (.yes rfl rfl rfl) rfl rfl (Yld.pure rfl) ?_
    refine RL.p rfl rfl ?_
    refine RL.done ?_
    first | refine RK.condD rfl (fun h12 => ?_) (fun h12 => ?_) | refine RK.condN rfl (fun h12 => ?_) (fun h12 => ?_) | refine RK.cond rfl (fun h12 => ?_) (fun h12 => ?_)
    · refine RK.seq ?_
      refine RK.region ?_
      refine RL.p rfl rfl ?_
      refine RL.done ?_
      refine RK.ret_of Tryz.func73 (res1 rfl rfl) ?_ _
      exact ⟨_, rfl, congrArg _ (by first
          | exact (is_no1 (by omega)).symm
          | exact (is_no2 (i := k) (by omega) (okAt_no1 hx h24)).symm
          | exact (is_no2 (i := k) (by omega) (okAt_no2 hx h30)).symm
          | exact (is_no2 (i := k) (by omega) (okAt_no3 hx hj hy h44)).symm
          | exact (is_yes (by omega) (by omega) fun i hi => hall i (by omega)).symm), by first
          | exact Mod.refl _ _
          | exact hg2.trans (Mod.drew _ _)
          | exact hg⟩
    · refine RK.skip ?_
      iterate 2 refine RK.seq ?_
      refine RK.region ?_
      refine RL.p rfl rfl ?_
      refine RL.q (.free rfl) rfl rfl (Yld.lenSl u26 rfl) ?_
      refine RL.p rfl rfl ?_
      refine RL.done ?_
      refine RK.block ?_
      refine RK.loop (fun k : Nat => [(0, .slice ad ls.length c), (13, .slice ad ls.length c), (14, .int .i64 ls.length), (15, .int .i64 k)]) (fun k w' => Grow w w' ∧ k ≤ ls.length ∧ ∀ i, i < k → okAt ls i = true) (fun k => ls.length - k) 0 ⟨rfl, rfl, rfl, rfl, trivial⟩ ⟨Mod.refl _ _, by omega, fun i hi => by omega⟩ (fun k w' hI ih => ?_)
      obtain ⟨hg, hk, hall⟩ := hI
      refine RK.seq ?_
      refine RK.region ?_
      refine RL.p rfl rfl ?_
      refine RL.done ?_
      refine RK.seq ?_
      first | refine RK.condD rfl (fun h16 => ?_) (fun h16 => ?_) | refine RK.condN rfl (fun h16 => ?_) (fun h16 => ?_) | refine RK.cond rfl (fun h16 => ?_) (fun h16 => ?_)
      · obtain ⟨x, hx⟩ : ∃ x, ls[k]? = some x := ⟨ls[k]'(by omega), List.getElem?_eq_getElem (by omega)⟩
        obtain ⟨b, o, c', he, hb, hkl, hcell⟩ := hv.elem labC_len hx
        cases he
        refine RK.skip ?_
        refine RK.seq ?_
        refine RK.block ?_
        refine RK.seq ?_
        refine RK.region ?_
        refine RL.p rfl rfl ?_
        refine RL.q (.free rfl) rfl rfl (Yld.indexAddrN u26 i46 rfl rfl (by omega)) ?_
        refine RL.q (.free rfl) rfl rfl (Yld.loadN (cs := [.string x.name, .string x.value]) a46 rfl (atN (fun j u hj => hg.cell (hcell j u hj) (fun h => h)))) ?_
        refine RL.op (.free rfl) rfl rfl (Does.alloc i46) ?_
        rintro _ w1 ⟨b1, rfl, hn1⟩
        refine RL.p rfl rfl ?_
        refine RL.op' (.free rfl) rfl (Does.storeN i46 rfl rfl rfl rfl hn1.blk (Nat.le_refl 2)) ?_
        rintro _ w2 ⟨hb2, hm2, _⟩
        have hB : Blk w2 b1 46 [.string x.name, .string x.value] := hb2
        have hg2 : Grow w w2 := (hg.trans hn1.grow).then hm2 (fun y hy e => by have := hn1.at_; have := hg.size; omega)
        refine RL.done ?_
        refine RK.seq ?_
        refine RK.drawM No [(0, false), (1, false), (2, true), (3, false), (4, false), (5, false), (6, false), (7, true), (8, false), (9, false), (10, false), (11, false), (12, false), (13, false), (14, false), (15, false), (16, false), (17, false), (18, false), (19, false), (20, false), (21, false), (22, false), (23, false), (24, false)] [] mixed (by kernel_rfl) ?_
        refine DL.qf rfl (.free rfl) rfl rfl (Yld.fieldAddr fo46_0 rfl) ?_
        refine DL.q rfl (.free rfl) rfl rfl rfl (Yld.load p9 rfl (atM (hB.cell rfl) id)) (Mod.drew _ _) ?_
        refine DL.op rfl (.free rfl) rfl rfl (Does.call rfl e122 (name_ok _ _)) ?_
        rintro _ _ ⟨rfl, rfl⟩
        refine ⟨Mod.drew _ _, ?_⟩
        iterate 2 refine DL.p rfl rfl rfl ?_
        first | refine DL.splitD (d := 24) rfl rfl (fun h24 => ?_) (fun h24 => ?_) | refine DL.splitN (d := 24) rfl rfl (fun h24 => ?_) (fun h24 => ?_) | refine DL.split (d := 24) rfl rfl (fun h24 => ?_) (fun h24 => ?_)
        · iterate 2 refine DL.no rfl (.no rfl rfl rfl rfl) rfl rfl ?_
          refine DL.lno rfl (.no rfl rfl rfl rfl) rfl rfl ?_
          refine DL.no rfl (.no rfl rfl rfl rfl) rfl rfl ?_
          iterate 2 refine DL.p rfl rfl rfl ?_
          iterate 13 refine DL.no rfl (.no rfl rfl rfl rfl) rfl rfl ?_
          refine DL.p rfl rfl rfl ?_
          refine DL.done ?_
          refine RK.condT rfl ?_
          refine RK.seq ?_
          refine RK.region ?_
          refine RL.p rfl rfl ?_
          refine RL.done ?_
          refine RK.ret_of Tryz.func73 (res1 rfl rfl) ?_ _
          exact ⟨_, rfl, congrArg _ (by first
              | exact (is_no1 (by omega)).symm
              | exact (is_no2 (i := k) (by omega) (okAt_no1 hx h24)).symm
              | exact (is_no2 (i := k) (by omega) (okAt_no2 hx h30)).symm
              | exact (is_no2 (i := k) (by omega) (okAt_no3 hx hj hy h44)).symm
              | exact (is_yes (by omega) (by omega) fun i hi => hall i (by omega)).symm), by first
              | exact Mod.refl _ _
              | exact hg2.trans (Mod.drew _ _)
              | exact hg⟩
        · refine DL.qf rfl (.yes rfl rfl rfl) rfl rfl (Yld.fieldAddr fo46_1 rfl) ?_
          refine DL.q rfl (.yes rfl rfl rfl) rfl rfl rfl (Yld.load p9 rfl (atM (hB.cell rfl) id)) (Mod.drew _ _) ?_
          refine DL.op rfl (.yes rfl rfl rfl) rfl rfl (Does.call rfl e123 (value_ok _ _)) ?_
          rintro _ _ ⟨rfl, rfl⟩
          refine ⟨Mod.drew _ _, ?_⟩
          refine DL.qf rfl (.yes rfl rfl rfl) rfl rfl (Yld.pure rfl) ?_
          iterate 2 refine DL.p rfl rfl rfl ?_
          first | refine DL.splitD (d := 30) rfl rfl (fun h30 => ?_) (fun h30 => ?_) | refine DL.splitN (d := 30) rfl rfl (fun h30 => ?_) (fun h30 => ?_) | refine DL.split (d := 30) rfl rfl (fun h30 => ?_) (fun h30 => ?_)
          · iterate 13 refine DL.no rfl (.no rfl rfl rfl rfl) rfl rfl ?_
            refine DL.p rfl rfl rfl ?_
            refine DL.done ?_
            refine RK.condT rfl ?_
            refine RK.seq ?_
            refine RK.region ?_
            refine RL.p rfl rfl ?_
            refine RL.done ?_
            refine RK.ret_of Tryz.func73 (res1 rfl rfl) ?_ _
            exact ⟨_, rfl, congrArg _ (by first
                | exact (is_no1 (by omega)).symm
                | exact (is_no2 (i := k) (by omega) (okAt_no1 hx h24)).symm
                | exact (is_no2 (i := k) (by omega) (okAt_no2 hx h30)).symm
                | exact (is_no2 (i := k) (by omega) (okAt_no3 hx hj hy h44)).symm
                | exact (is_yes (by omega) (by omega) fun i hi => hall i (by omega)).symm), by first
                | exact Mod.refl _ _
                | exact hg2.trans (Mod.drew _ _)
                | exact hg⟩
          · iterate 3 refine DL.qf rfl (.yes rfl rfl rfl) rfl rfl (Yld.pure rfl) ?_
            first | refine DL.splitD (d := 33) rfl rfl (fun h33 => ?_) (fun h33 => ?_) | refine DL.splitN (d := 33) rfl rfl (fun h33 => ?_) (fun h33 => ?_) | refine DL.split (d := 33) rfl rfl (fun h33 => ?_) (fun h33 => ?_)
            · obtain ⟨j, hj⟩ : ∃ j, k = j + 1 := ⟨k - 1, by omega⟩
              obtain ⟨y, hy⟩ : ∃ y, ls[j]? = some y := ⟨ls[j]'(by omega), List.getElem?_eq_getElem (by omega)⟩
              obtain ⟨b', o', c', he, hb', hkl', hcell'⟩ := hv.elem labC_len hy
              cases he
              refine DL.qf rfl (.yes rfl rfl rfl) rfl rfl (Yld.fieldAddr fo46_0 rfl) ?_
              refine DL.q rfl (.yes rfl rfl rfl) rfl rfl rfl (Yld.load p9 rfl (atM (hB.cell rfl) id)) (Mod.drew _ _) ?_
              iterate 3 refine DL.qf rfl (.yes rfl rfl rfl) rfl rfl (Yld.pure rfl) ?_
              refine DL.re (d := 38) rfl rfl (sub_i64 (z := (j : Int)) (by omega) (by omega) (by omega)) ?_
              refine DL.qf rfl (.yes rfl rfl rfl) rfl rfl (Yld.indexAddrN u26 i46 rfl rfl (by omega)) ?_
              refine DL.qf rfl (.yes rfl rfl rfl) rfl rfl (Yld.fieldAddr fo46_0 rfl) ?_
              refine DL.q rfl (.yes rfl rfl rfl) rfl rfl rfl (Yld.load p9 rfl (atM (hg2.cell (hcell' 0 _ rfl) (fun h => h)) id)) (Mod.drew _ _) ?_
              iterate 2 refine DL.qf rfl (.yes rfl rfl rfl) rfl rfl (Yld.pure rfl) ?_
              refine DL.p rfl rfl rfl ?_
              refine DL.done ?_
              first | refine RK.condD rfl (fun h44 => ?_) (fun h44 => ?_) | refine RK.condN rfl (fun h44 => ?_) (fun h44 => ?_) | refine RK.cond rfl (fun h44 => ?_) (fun h44 => ?_)
              · refine RK.seq ?_
                refine RK.region ?_
                refine RL.p rfl rfl ?_
                refine RL.done ?_
                refine RK.ret_of Tryz.func73 (res1 rfl rfl) ?_ _
                exact ⟨_, rfl, congrArg _ (by first
                    | exact (is_no1 (by omega)).symm
                    | exact (is_no2 (i := k) (by omega) (okAt_no1 hx h24)).symm
                    | exact (is_no2 (i := k) (by omega) (okAt_no2 hx h30)).symm
                    | exact (is_no2 (i := k) (by omega) (okAt_no3 hx hj hy h44)).symm
                    | exact (is_yes (by omega) (by omega) fun i hi => hall i (by omega)).symm), by first
                    | exact Mod.refl _ _
                    | exact hg2.trans (Mod.drew _ _)
                    | exact hg⟩
              · refine RK.skip ?_
                refine RK.inBlock ?_
                refine RK.region ?_
                refine RL.p rfl rfl ?_
                refine RL.re (d := 45) rfl rfl (succ_i64 (by omega)) ?_
                refine RL.p rfl rfl ?_
                refine RL.done ?_
                exact RK.back (ih (k + 1) _ ⟨hg2.trans (Mod.drew _ _), by omega, ok_snoc hall (by first | exact okAt_yes1 hx h24 h30 hj hy h44 | exact okAt_yes0 hx h24 h30 (by omega))⟩ (by omega)) ⟨rfl, rfl, rfl, rfl, trivial⟩
            · iterate 9 refine DL.no rfl (.no rfl rfl rfl rfl) rfl rfl ?_
              refine DL.qf rfl (.yes rfl rfl rfl) rfl rfl (Yld.pure rfl) ?_
              refine DL.p rfl rfl rfl ?_
              refine DL.done ?_
              refine RK.condF rfl ?_
              refine RK.skip ?_
              refine RK.inBlock ?_
              refine RK.region ?_
              refine RL.p rfl rfl ?_
              refine RL.re (d := 45) rfl rfl (succ_i64 (by omega)) ?_
              refine RL.p rfl rfl ?_
              refine RL.done ?_
              exact RK.back (ih (k + 1) _ ⟨hg2.trans (Mod.drew _ _), by omega, ok_snoc hall (by first | exact okAt_yes1 hx h24 h30 hj hy h44 | exact okAt_yes0 hx h24 h30 (by omega))⟩ (by omega)) ⟨rfl, rfl, rfl, rfl, trivial⟩
      · refine RK.exit rfl ?_
        refine RK.seq ?_
        refine RK.region ?_
        refine RL.p rfl rfl ?_
        refine RL.done ?_
        refine RK.ret_of Tryz.func73 (res1 rfl rfl) ?_ _
        exact ⟨_, rfl, congrArg _ (by first
            | exact (is_no1 (by omega)).symm
            | exact (is_no2 (i := k) (by omega) (okAt_no1 hx h24)).symm
            | exact (is_no2 (i := k) (by omega) (okAt_no2 hx h30)).symm
            | exact (is_no2 (i := k) (by omega) (okAt_no3 hx hj hy h44)).symm
            | exact (is_yes (by omega) (by omega) fun i hi => hall i (by omega)).symm), by first
            | exact Mod.refl _ _
            | exact hg2.trans (Mod.drew _ _)
            | exact hg⟩
end Go.Proofs.YtffbcfcoddacmaaGreat

/- slices.Clone, slices.Equal at labels, a predicate over alerts. -/
set_option linter.unusedVariables false
set_option linter.unusedSimpArgs false
set_option maxHeartbeats 400000
set_option maxRecDepth 100000
namespace Go.Proofs.YtffbcfcoddacmaaGreat
open Go Go.X

theorem allOne_ints (xs : List Int) : (xs.map (Value.int .i64)).all (·.oneCell') = true := by simp [Value.oneCell']
theorem allOne_labs (ls : List Lab) : (ls.flatMap labC).all (·.oneCell') = true := by
  rw [List.all_eq_true]
  intro u hu
  simp only [List.mem_flatMap, labC] at hu
  obtain ⟨x, _, hu⟩ := hu
  simp at hu
  rcases hu with rfl | rfl <;> rfl
theorem cloneI_ok (M : Nat → Prop) (xs : List Int) (v : Value) (w : World) (hv : Sl M w v 1 xs.length (xs.map (.int .i64))) (hb : xs.length * 8 ≤ 140737488355328) :
    Fx Tryz.prog 99 [v] w (fun u w' => Row w' 3 1 u xs.length (xs.map (.int .i64)) ∧ Fresh w.heap.size u ∧ Grow w w') := by
  obtain ⟨ad, c, b, o, rfl, hf⟩ := hv.open
  refine enter Tryz.func99 rfl rfl rfl _ (Pick.sub (l := [0]) (.cons rfl .nil)) ?_
  refine RK.seq ?_
  refine RK.region ?_
  refine RL.p rfl rfl ?_
  refine RL.done ?_
  iterate 2 refine RK.seq ?_
  refine RK.region ?_
  refine RL.p rfl rfl ?_
  refine RL.q (.free rfl) rfl rfl (Yld.eqNil u22 rfl rfl) ?_
  refine RL.done ?_
  first | refine RK.condD rfl (fun h4 => ?_) (fun h4 => ?_) | refine RK.condN rfl (fun h4 => ?_) (fun h4 => ?_) | refine RK.cond rfl (fun h4 => ?_) (fun h4 => ?_)
  · refine RK.seq ?_
    refine RK.region ?_
    refine RL.p rfl rfl ?_
    refine RL.done ?_
    refine RK.ret_of Tryz.func99 (res1 rfl rfl) ?_ _
    exact ⟨_, rfl, by cases ad with | none => (have h0 : xs.length = 0 := by (rcases Nat.eq_zero_or_pos xs.length with h | h; exact h; exact absurd (hf h).1 (by simp))); have : xs = [] := List.eq_nil_of_length_eq_zero h0; subst this; exact ⟨Row.nil _ _ _, fun b hb => by simp [Value.ownBlock] at hb, Mod.refl _ _⟩ | some a => simp at h4⟩
  · refine RK.skip ?_
    refine RK.seq ?_
    refine RK.region ?_
    refine RL.op (.free rfl) rfl rfl (Does.slice0 u22 i3) ?_
    rintro _ w1 ⟨b1, rfl, hn1⟩
    refine RL.p rfl rfl ?_
    refine RL.op (.free rfl) rfl rfl (Does.append u22 i3 rfl rfl rfl rfl rfl (Row.new hn1 1 0 rfl (by omega)) ((hv.mod (Mod.any' hn1.grow)).noM) (allOne_ints xs) (by omega)) ?_
    rintro u w2 ⟨hr, hm, hu⟩
    refine RL.p rfl rfl ?_
    refine RL.done ?_
    refine RK.ret_of Tryz.func99 (res1 rfl rfl) ?_ _
    exact ⟨_, rfl, by simpa using hr, fun b hb => by rcases hu with hu | hu <;> rw [hu] at hb <;> simp [Value.ownBlock] at hb <;> (have := hn1.at_; have := hn1.size; omega), hn1.grow.then hm (fun x hx e => by simp [Value.ownBlock] at e; have := hn1.at_; omega)⟩
end Go.Proofs.YtffbcfcoddacmaaGreat

/- Rows of numbers: slices.Concat, Sort, Compact at []int; rows.Make, Or, Put. -/
set_option linter.unusedVariables false
set_option linter.unusedSimpArgs false
set_option maxHeartbeats 400000
set_option maxRecDepth 100000
namespace Go.Proofs.YtffbcfcoddacmaaGreat
open Go Go.X

abbrev ints (xs : List Int) : List Value := xs.map (Value.int .i64)
theorem compact_le (xs : List Int) : (Lib.compact xs).length ≤ xs.length := by
  unfold Lib.compact Lib.compactUpTo
  rw [List.length_map]
  exact Nat.le_trans (List.length_filter_le _ _) (by simp)
def sortI (xs : List Int) : List Int := xs.mergeSort fun x y => decide (x ≤ y)
theorem sortI_len (xs : List Int) : (sortI xs).length = xs.length := by simp [sortI]
theorem sort_ok (xs : List Int) (v : Value) (w : World) (hv : Row w 3 1 v xs.length (ints xs)) (hb : xs.length < 4611686018427387904) :
    Fx Tryz.prog 141 [v] w (fun u w' => u = .tuple #[] ∧ Row w' 3 1 v xs.length (ints (sortI xs)) ∧ Mod (fun b => v.ownBlock = some b) w w') := by
  rcases hv.2 with ⟨rfl, h0⟩ | ⟨g, cap, cur, rfl, _, hg, hn, hcap, hcs, htk⟩
  · have : xs = [] := List.eq_nil_of_length_eq_zero h0
    subst this
    refine Calls.mono (Tryz.slices_Sort_int_none none 0 w) ?_
    rintro e w' ⟨rfl, rfl⟩
    exact ⟨_, rfl, rfl, by simpa [sortI] using Row.nil w' _ _, Mod.refl _ _⟩
  · rw [Nat.mul_one] at htk
    refine Calls.mono (Tryz.slices_Sort_int g 0 cap xs w (holds_of_blockI hg htk) (Array.getElem?_eq_some_iff.1 hg).1 hb) ?_
    rintro e w' ⟨rfl, n, os, rfl⟩
    exact ⟨_, rfl, rfl, ownsRow_sortedI (by simp) (Nat.zero_le _) hg hn hcap hcs, Mod.grownBy (grownBy_sortedI _) (fun k h => by cases h; rfl)⟩
theorem compact_ok (xs : List Int) (v : Value) (w : World) (hv : Row w 3 1 v xs.length (ints xs)) :
    Fx Tryz.prog 152 [v] w (fun u w' => Row w' 3 1 u (Lib.compact xs).length (ints (Lib.compact xs)) ∧ u.ownBlock = v.ownBlock ∧ Mod (fun b => v.ownBlock = some b) w w') := by
  rcases hv.2 with ⟨rfl, h0⟩ | ⟨g, cap, cur, rfl, _, hg, hn, hcap, hcs, htk⟩
  · have : xs = [] := List.eq_nil_of_length_eq_zero h0
    subst this
    refine Calls.mono (Tryz.slices_Compact_int_empty none 0 w) ?_
    rintro e w' ⟨rfl, rfl⟩
    exact ⟨_, rfl, Row.nil w' _ _, rfl, Mod.refl _ _⟩
  · rw [Nat.mul_one] at htk
    refine Calls.mono (Tryz.slices_Compact_int g 0 cap xs w (holds_of_blockI hg htk) (by simp only [maxLen] at hcap; omega) hn) ?_
    rintro e w' ⟨rfl, q, rfl⟩
    have hle : (Lib.compact xs).length ≤ xs.length := compact_le xs
    have hh := heap_sortedI (n := q) (os := #[]) (Lib.compact xs ++ List.replicate (xs.length - (Lib.compact xs).length) 0).toArray hg
    have hgb := grownBy_sortedI (w := w) (g := g) (n := q) (os := #[]) (Lib.compact xs ++ List.replicate (xs.length - (Lib.compact xs).length) 0).toArray
    simp only [Sort.grow_empty] at hh hgb
    refine ⟨_, rfl, ⟨by simp, .inr ⟨g, cap, _, rfl, Nat.zero_le _, hh, by omega, hcap, by simp [Sort.putCells, hcs], ?_⟩⟩, rfl, Mod.grownBy hgb (fun k h => by cases h; rfl)⟩
    have := take_putCellsI cur (Lib.compact xs ++ List.replicate (xs.length - (Lib.compact xs).length) 0) (by simp; omega)
    have h2 := congrArg (List.take (Lib.compact xs).length) this
    rw [List.take_take, Nat.min_eq_left (by simp)] at h2
    rw [Nat.mul_one, h2]
    simp

/-- slices.Grow of nil. -/
theorem growNil_ok (m : Nat) (w : World) (hb : m * 8 ≤ 140737488355328) :
    Fx Tryz.prog 159 [.slice none 0 0, .int .i64 m] w (fun u w' => Row w' 3 1 u 0 [] ∧ Fresh w.heap.size u ∧ Grow w w') := by
  refine enter Tryz.func159 rfl rfl rfl _ (Pick.sub (l := [0, 1]) (.cons rfl (.cons rfl .nil))) ?_
  refine RK.seq ?_
  refine RK.region ?_
  refine RL.p rfl rfl ?_
  refine RL.done ?_
  iterate 2 refine RK.seq ?_
  refine RK.region ?_
  iterate 2 refine RL.p rfl rfl ?_
  refine RL.done ?_
  refine RK.condF (hcF rfl (decide_eq_false (by omega))) ?_
  refine RK.skip ?_
  iterate 2 refine RK.seq ?_
  refine RK.region ?_
  iterate 2 refine RL.p rfl rfl ?_
  refine RL.q (.free rfl) rfl rfl (Yld.capSl u22 rfl) ?_
  refine RL.p rfl rfl ?_
  refine RL.q (.free rfl) rfl rfl (Yld.lenSl u22 rfl) ?_
  refine RL.p rfl rfl ?_
  refine RL.re (d := 13) rfl rfl (sub_i64 (z := 0) (by omega) (by omega) (by omega)) ?_
  refine RL.p rfl rfl ?_
  refine RL.re (d := 14) rfl rfl (sub_i64 (z := (m : Int)) (by omega) (by omega) (by omega)) ?_
  refine RL.p rfl rfl ?_
  refine RL.done ?_
  refine RK.seq ?_
  refine RK.region ?_
  iterate 2 refine RL.p rfl rfl ?_
  refine RL.done ?_
  first | refine RK.condD rfl (fun h16 => ?_) (fun h16 => ?_) | refine RK.condN rfl (fun h16 => ?_) (fun h16 => ?_) | refine RK.cond rfl (fun h16 => ?_) (fun h16 => ?_)
  · refine RK.region ?_
    iterate 2 refine RL.p rfl rfl ?_
    refine RL.q (.free rfl) rfl rfl (Yld.capSl u22 rfl) ?_
    refine RL.q (.free rfl) rfl rfl (Yld.sliceHi u22 i3 (m := 0) rfl rfl (by omega)) ?_
    refine RL.p rfl rfl ?_
    refine RL.op (.free rfl) rfl rfl (Does.appendZ u22 Tryz.underlying3 i3 rfl rfl (m := m) (c := 0) rfl rfl (by omega) hb) ?_
    rintro _ w1 ⟨b1, cap1, cur1, rfl, hb1, hh1, hc1, hm1, hs1, hg1⟩
    refine RL.p rfl rfl ?_
    refine RL.q (.free rfl) rfl rfl (Yld.lenSl u22 rfl) ?_
    refine RL.q (.free rfl) rfl rfl (Yld.sliceHi u22 i3 (m := 0) rfl rfl (by omega)) ?_
    refine RL.p rfl rfl ?_
    refine RL.done ?_
    refine RK.seq ?_
    refine RK.region ?_
    iterate 2 refine RL.p rfl rfl ?_
    refine RL.done ?_
    refine RK.ret_of Tryz.func159 (res1 rfl rfl) ?_ _
    exact ⟨_, rfl, ⟨by simp, .inr ⟨b1, cap1, cur1, rfl, Nat.zero_le _, hh1, by omega, hm1, hs1, by simp⟩⟩, fun b hb => by simp [Value.ownBlock] at hb; omega, hg1⟩
  · refine RK.skip ?_
    refine RK.seq ?_
    refine RK.region ?_
    iterate 2 refine RL.p rfl rfl ?_
    refine RL.done ?_
    refine RK.ret_of Tryz.func159 (res1 rfl rfl) ?_ _
    exact ⟨_, rfl, Row.nil _ _ _, fun b hb => by simp [Value.ownBlock] at hb, Mod.refl _ _⟩
def total (pr : List (Value × List Int)) : Nat := (pr.map fun p => p.2.length).sum
theorem total_take {pr : List (Value × List Int)} {k : Nat} {p : Value × List Int} (h : pr[k]? = some p) : total (pr.take (k + 1)) = total (pr.take k) + p.2.length := by
  have hk : k < pr.length := (List.getElem?_eq_some_iff.1 h).1
  rw [List.take_succ_eq_append_getElem hk]
  have : pr[k] = p := (List.getElem?_eq_some_iff.1 h).2
  simp [total, this]
theorem total_le (pr : List (Value × List Int)) (k : Nat) : total (pr.take k) ≤ total pr := by
  have : total pr = total (pr.take k) + total (pr.drop k) := by
    unfold total
    rw [← List.sum_append, ← List.map_append, List.take_append_drop]
  omega
theorem concat_ok (M : Nat → Prop) (pr : List (Value × List Int)) (v : Value) (w : World) (hv : Sl M w v 1 pr.length (pr.map (·.1))) (hs : ∀ p ∈ pr, Sl M w p.1 1 p.2.length (ints p.2)) (hb : total pr * 8 ≤ 140737488355328) :
    Fx Tryz.prog 120 [v] w (fun u w' => Row w' 3 1 u (pr.flatMap (·.2)).length (ints (pr.flatMap (·.2))) ∧ Fresh w.heap.size u ∧ Grow w w') := by
  obtain ⟨ad, c, b, o, rfl, hf⟩ := hv.open
  refine enter Tryz.func120 rfl rfl rfl _ (Pick.sub (l := [0]) (.cons rfl .nil)) ?_
  refine RK.seq ?_
  refine RK.region ?_
  refine RL.p rfl rfl ?_
  refine RL.done ?_
  refine RK.seq ?_
  refine RK.region ?_
  refine RL.p rfl rfl ?_
  refine RL.done ?_
  iterate 2 refine RK.seq ?_
  refine RK.region ?_
  refine RL.p rfl rfl ?_
  refine RL.q (.free rfl) rfl rfl (Yld.lenSl u194 rfl) ?_
  refine RL.p rfl rfl ?_
  refine RL.done ?_
  refine RK.block ?_
  refine RK.loop (fun k : Nat => [(0, .slice ad pr.length c), (9, .slice ad pr.length c), (10, .int .i64 pr.length), (11, .int .i64 k), (3, .int .i64 (total (pr.take k)))]) (fun k w' => w = w' ∧ k ≤ pr.length) (fun k => pr.length - k) 0 ⟨rfl, rfl, rfl, rfl, rfl, trivial⟩ ⟨rfl, by omega⟩ (fun k w' hI ih => ?_)
  obtain ⟨rfl, hk⟩ := hI
  refine RK.seq ?_
  refine RK.region ?_
  refine RL.p rfl rfl ?_
  refine RL.done ?_
  refine RK.seq ?_
  first | refine RK.condD rfl (fun h12 => ?_) (fun h12 => ?_) | refine RK.condN rfl (fun h12 => ?_) (fun h12 => ?_) | refine RK.cond rfl (fun h12 => ?_) (fun h12 => ?_)
  · obtain ⟨p, hp⟩ : ∃ p, pr[k]? = some p := ⟨pr[k]'(by omega), List.getElem?_eq_getElem (by omega)⟩
    obtain ⟨rfl, hbM, hc⟩ := hf (by omega)
    have hsp := hs p (List.mem_of_getElem? hp)
    obtain ⟨adp, cp, hpv⟩ := hsp.shape
    have ht := total_take hp
    have htl := total_le pr (k + 1)
    refine RK.skip ?_
    refine RK.seq ?_
    refine RK.block ?_
    refine RK.seq ?_
    refine RK.region ?_
    refine RL.q (.free rfl) rfl rfl (Yld.indexAddrN u194 i22 rfl rfl (by omega)) ?_
    refine RL.q (.free rfl) rfl rfl (Yld.load p22 rfl (at1 (by have := hc k p.1 (by simp [hp]); rw [hpv] at this; simpa using this))) ?_
    refine RL.p rfl rfl ?_
    refine RL.done ?_
    refine RK.seq ?_
    refine RK.region ?_
    iterate 2 refine RL.p rfl rfl ?_
    refine RL.q (.free rfl) rfl rfl (Yld.lenSl u22 rfl) ?_
    refine RL.p rfl rfl ?_
    refine RL.re (d := 18) rfl rfl (add_i64 (z := ((total (pr.take (k + 1)) : Nat) : Int)) (by rw [ht]; simp) (by omega) (by omega)) ?_
    refine RL.p rfl rfl ?_
    refine RL.done ?_
    refine RK.seq ?_
    refine RK.region ?_
    iterate 2 refine RL.p rfl rfl ?_
    refine RL.done ?_
    refine RK.condF (hcF rfl (decide_eq_false (by omega))) ?_
    refine RK.skip ?_
    refine RK.inBlock ?_
    refine RK.region ?_
    refine RL.p rfl rfl ?_
    refine RL.re (d := 22) rfl rfl (succ_i64 (by have := hv.big; omega)) ?_
    refine RL.p rfl rfl ?_
    refine RL.done ?_
    exact RK.back (ih (k + 1) _ ⟨rfl, by omega⟩ (by omega)) ⟨rfl, rfl, rfl, rfl, rfl, trivial⟩
  · have ek : pr.take k = pr := List.take_of_length_le (by omega)
    rw [ek]
    refine RK.exit rfl ?_
    refine RK.seq ?_
    refine RK.region ?_
    refine RL.p rfl rfl ?_
    refine RL.op (.free rfl) rfl rfl (Does.call rfl e159 (growNil_ok (total pr) _ hb)) ?_
    rintro u0 w1 ⟨hr1, hf1, hg1⟩
    refine RL.p rfl rfl ?_
    refine RL.done ?_
    iterate 2 refine RK.seq ?_
    refine RK.region ?_
    refine RL.p rfl rfl ?_
    refine RL.q (.free rfl) rfl rfl (Yld.lenSl u194 rfl) ?_
    refine RL.p rfl rfl ?_
    refine RL.done ?_
    refine RK.block ?_
    refine RK.loop (fun (s : Nat × Value) => [(25, .slice ad pr.length c), (26, .int .i64 pr.length), (27, .int .i64 s.1), (6, s.2)]) (fun s w' => Row w' 3 1 s.2 ((pr.take s.1).flatMap (·.2)).length (ints ((pr.take s.1).flatMap (·.2))) ∧ Fresh w.heap.size s.2 ∧ Grow w w' ∧ s.1 ≤ pr.length) (fun s => pr.length - s.1) (0, u0) ⟨rfl, rfl, rfl, rfl, trivial⟩ ⟨by simpa using hr1, hf1, hg1, by omega⟩ (fun s w' hI ih => ?_)
    obtain ⟨k2, u⟩ := s
    obtain ⟨hr, hfr, hg, hk2⟩ := hI
    simp only at hr hfr hk2
    refine RK.seq ?_
    refine RK.region ?_
    refine RL.p rfl rfl ?_
    refine RL.done ?_
    refine RK.seq ?_
    first | refine RK.condD rfl (fun h28 => ?_) (fun h28 => ?_) | refine RK.condN rfl (fun h28 => ?_) (fun h28 => ?_) | refine RK.cond rfl (fun h28 => ?_) (fun h28 => ?_)
    · obtain ⟨p, hp⟩ : ∃ p, pr[k2]? = some p := ⟨pr[k2]'(by omega), List.getElem?_eq_getElem (by omega)⟩
      obtain ⟨rfl, hbM, hc⟩ := hf (by omega)
      have hsp := hs p (List.mem_of_getElem? hp)
      have ht := total_take hp
      have htl := total_le pr (k2 + 1)
      have e1 : ((pr.take k2).flatMap (·.2)).length = total (pr.take k2) := by simp [total, List.length_flatMap]
      have e2 : (pr.take (k2 + 1)).flatMap (·.2) = (pr.take k2).flatMap (·.2) ++ p.2 := by rw [List.take_succ_eq_append_getElem (by omega)]; simp [(List.getElem?_eq_some_iff.1 hp).2]
      refine RK.skip ?_
      refine RK.seq ?_
      refine RK.block ?_
      refine RK.seq ?_
      refine RK.region ?_
      refine RL.q (.free rfl) rfl rfl (Yld.indexAddrN u194 i22 rfl rfl (by omega)) ?_
      refine RL.q (.free rfl) rfl rfl (Yld.load p22 rfl (at1 (hg.cell (by have := hc k2 p.1 (by simp [hp]); simpa using this) (fun h => h)))) ?_
      refine RL.p rfl rfl ?_
      refine RL.done ?_
      refine RK.region ?_
      iterate 2 refine RL.p rfl rfl ?_
      refine RL.op (.free rfl) rfl rfl (Does.append u22 i3 rfl rfl rfl rfl rfl (hr) ((hsp.mod (Mod.any' hg)).noM) (allOne_ints _) (by rw [e1]; omega)) ?_
      rintro u2 w2 ⟨hr2, hm2, hu2⟩
      refine RL.p rfl rfl ?_
      refine RL.done ?_
      refine RK.inBlock ?_
      refine RK.region ?_
      refine RL.p rfl rfl ?_
      refine RL.re (d := 34) rfl rfl (succ_i64 (by have := hv.big; omega)) ?_
      refine RL.p rfl rfl ?_
      refine RL.done ?_
      exact RK.back (ih (k2 + 1, u2) _ ⟨by rw [e2]; simpa using hr2, fun b hb => by rcases hu2 with h | h <;> rw [h] at hb; exact hfr b hb; (cases hb; exact hg.size), hg.then hm2 (fun x hx e => by have := hfr x e; omega), by simp; omega⟩ (by simp; omega)) ⟨rfl, rfl, rfl, rfl, trivial⟩
    · have ek2 : pr.take k2 = pr := List.take_of_length_le (by omega)
      rw [ek2] at hr
      refine RK.exit rfl ?_
      refine RK.seq ?_
      refine RK.region ?_
      iterate 2 refine RL.p rfl rfl ?_
      refine RL.done ?_
      refine RK.ret_of Tryz.func120 (res1 rfl rfl) ?_ _
      exact ⟨_, rfl, hr, hfr, hg⟩
end Go.Proofs.YtffbcfcoddacmaaGreat

/- rows.Make, Or, Put; a pool; values' keys. -/
set_option linter.unusedVariables false
set_option linter.unusedSimpArgs false
set_option maxHeartbeats 400000
set_option maxRecDepth 100000
namespace Go.Proofs.YtffbcfcoddacmaaGreat
open Go Go.X

def mkRow (xs : List Int) : List Int := Lib.compact (sortI xs)
theorem mkRow_le (xs : List Int) : (mkRow xs).length ≤ xs.length := by
  have := compact_le (sortI xs)
  rw [sortI_len] at this
  exact this
theorem make_ok (M : Nat → Prop) (xs : List Int) (v : Value) (w : World) (hv : Sl M w v 1 xs.length (ints xs)) (hb : xs.length * 8 ≤ 140737488355328) :
    Fx Tryz.prog 112 [v] w (fun u w' => Row w' 3 1 u (mkRow xs).length (ints (mkRow xs)) ∧ Fresh w.heap.size u ∧ Grow w w') := by
  refine enter Tryz.func112 rfl rfl rfl _ (Pick.sub (l := [0]) (.cons rfl .nil)) ?_
  refine RK.seq ?_
  refine RK.region ?_
  refine RL.p rfl rfl ?_
  refine RL.done ?_
  refine RK.seq ?_
  refine RK.region ?_
  refine RL.p rfl rfl ?_
  refine RL.op (.free rfl) rfl rfl (Does.call rfl e99 (cloneI_ok M xs v _ hv hb)) ?_
  rintro u1 w1 ⟨hr1, hf1, hg1⟩
  refine RL.p rfl rfl ?_
  refine RL.done ?_
  refine RK.seq ?_
  refine RK.region ?_
  refine RL.p rfl rfl ?_
  refine RL.op (.free rfl) rfl rfl (Does.call rfl e141 (sort_ok xs u1 _ hr1 (by omega))) ?_
  rintro _ w2 ⟨rfl, hr2, hm2⟩
  refine RL.done ?_
  refine RK.seq ?_
  refine RK.region ?_
  refine RL.p rfl rfl ?_
  refine RL.op (.free rfl) rfl rfl (Does.call rfl e152 (compact_ok (sortI xs) u1 _ (by rw [sortI_len]; exact hr2))) ?_
  rintro u3 w3 ⟨hr3, hu3, hm3⟩
  refine RL.p rfl rfl ?_
  refine RL.done ?_
  refine RK.ret_of Tryz.func112 (res1 rfl rfl) ?_ _
  exact ⟨_, rfl, hr3, fun b hb => hf1 b (by rw [← hu3]; exact hb), (hg1.then hm2 (fun x hx e => by have := hf1 x e; omega)).then hm3 (fun x hx e => by have := hf1 x e; omega)⟩
theorem or_ok (M : Nat → Prop) (xs ys : List Int) (va vb : Value) (w : World) (ha : Sl M w va 1 xs.length (ints xs)) (hbv : Sl M w vb 1 ys.length (ints ys)) (hb : (xs.length + ys.length) * 8 ≤ 140737488355328) :
    Fx Tryz.prog 67 [va, vb] w (fun u w' => Row w' 3 1 u (mkRow (xs ++ ys)).length (ints (mkRow (xs ++ ys))) ∧ Fresh w.heap.size u ∧ Grow w w') := by
  obtain ⟨ad, c, rfl⟩ := ha.shape
  obtain ⟨ad', c', rfl⟩ := hbv.shape
  refine enter Tryz.func67 rfl rfl rfl _ (Pick.sub (l := [0, 1]) (.cons rfl (.cons rfl .nil))) ?_
  refine RK.seq ?_
  refine RK.region ?_
  refine RL.p rfl rfl ?_
  refine RL.done ?_
  refine RK.seq ?_
  refine RK.region ?_
  iterate 2 refine RL.p rfl rfl ?_
  refine RL.op (.free rfl) rfl rfl (Does.bslice (el := 22) ([.slice ad xs.length c, .slice ad' ys.length c']) rfl (fun w => by kernel_rfl)) ?_
  rintro _ w1 ⟨b1, rfl, hn1⟩
  refine RL.op (.free rfl) rfl rfl (Does.call rfl e120 (concat_ok No [(.slice ad xs.length c, xs), (.slice ad' ys.length c', ys)] _ _ (Sl.new hn1 1 2 rfl (by omega) (fun h => h)) (by intro p hp; simp at hp; rcases hp with rfl | rfl; exact (ha.mod (Mod.any' hn1.grow)).noM; exact (hbv.mod (Mod.any' hn1.grow)).noM) (by simp [total]; omega))) ?_
  rintro u2 w2 ⟨hr2, hf2, hg2⟩
  simp only [List.flatMap_cons, List.flatMap_nil, List.append_nil] at hr2
  refine RL.op (.free rfl) rfl rfl (Does.call rfl e112 (make_ok No (xs ++ ys) u2 _ (Sl.own hr2 (fun _ _ h => h)) (by simp; omega))) ?_
  rintro u3 w3 ⟨hr3, hf3, hg3⟩
  refine RL.p rfl rfl ?_
  refine RL.done ?_
  refine RK.ret_of Tryz.func67 (res1 rfl rfl) ?_ _
  exact ⟨_, rfl, hr3, fun b hb => by have := hf3 b hb; have := hg2.size; have := hn1.grow.size; omega, (hn1.grow.trans hg2).trans hg3⟩
theorem put_ok (M : Nat → Prop) (xs : List Int) (x : Int) (v : Value) (w : World) (hv : Sl M w v 1 xs.length (ints xs)) (hb : (xs.length + 1) * 8 ≤ 140737488355328) :
    Fx Tryz.prog 87 [v, .int .i64 x] w (fun u w' => Row w' 3 1 u (mkRow (xs ++ [x])).length (ints (mkRow (xs ++ [x]))) ∧ Fresh w.heap.size u ∧ Grow w w') := by
  refine enter Tryz.func87 rfl rfl rfl _ (Pick.sub (l := [0, 1]) (.cons rfl (.cons rfl .nil))) ?_
  refine RK.seq ?_
  refine RK.region ?_
  refine RL.p rfl rfl ?_
  refine RL.done ?_
  refine RK.seq ?_
  refine RK.region ?_
  iterate 2 refine RL.p rfl rfl ?_
  refine RL.op (.free rfl) rfl rfl (Does.slice1 u22 i3 rfl rfl rfl rfl rfl) ?_
  rintro _ w1 ⟨b1, rfl, hn1⟩
  refine RL.op (.free rfl) rfl rfl (Does.call rfl e67 (or_ok No xs [x] v _ _ (hv.mod (Mod.any' hn1.grow)).noM (Sl.new hn1 1 1 rfl (by omega) (fun h => h)) (by simpa using hb))) ?_
  rintro u2 w2 ⟨hr2, hf2, hg2⟩
  refine RL.p rfl rfl ?_
  refine RL.done ?_
  refine RK.ret_of Tryz.func87 (res1 rfl rfl) ?_ _
  exact ⟨_, rfl, hr2, fun b hb => by have := hf2 b hb; have := hn1.grow.size; omega, hn1.grow.trans hg2⟩

/-- A pool's struct. -/
structure PoolAt (w : World) (p : Nat) (most last : Int) (out : List Int) (v : Value) : Prop where
  blk : Blk w p 173 [.int .i64 most, .int .i64 last, v]
  row : Row w 3 1 v out.length (ints out)
  ne : v.ownBlock ≠ some p
theorem poolNew_ok (m : Int) (w : World) : Fx Tryz.prog 68 [.int .i64 m] w (fun u w' => ∃ p, u = pp p ∧ p = w.heap.size ∧ PoolAt w' p (if 0 > m then 0 else m) 0 [] (.slice none 0 0) ∧ Grow w w' ∧ w'.heap.size = w.heap.size + 1) := by
  refine enter Tryz.func68 rfl rfl rfl _ (Pick.sub (l := [0]) (.cons rfl .nil)) ?_
  refine RK.seq ?_
  refine RK.region ?_
  refine RL.p rfl rfl ?_
  refine RL.done ?_
  refine RK.seq ?_
  refine RK.region ?_
  refine RL.p rfl rfl ?_
  refine RL.q (.free rfl) rfl rfl (Yld.max2 rfl rfl) ?_
  refine RL.q (.free rfl) rfl rfl (Yld.build (v := .agg #[.int .i64 (if 0 > m then 0 else m), .int .i64 0, .slice none 0 0]) rfl (fun w => by kernel_rfl)) ?_
  refine RL.op (.free rfl) rfl rfl (Does.box rfl) ?_
  rintro _ w1 ⟨b1, rfl, hn1⟩
  refine RL.p rfl rfl ?_
  refine RL.done ?_
  refine RK.ret_of Tryz.func68 (res1 rfl rfl) ?_ _
  exact ⟨_, rfl, b1, rfl, hn1.at_, ⟨hn1.blk, Row.nil _ _ _, by simp [Value.ownBlock]⟩, hn1.grow, hn1.size⟩
theorem take_no (w : World) (p : Nat) (most last : Int) (out : List Int) (v : Value) (hp : PoolAt w p most last out v) (h : most ≤ out.length ∨ last = 2147483647) :
    Fx Tryz.prog 79 [pp p] w (fun u w' => u = .tuple #[.int .i64 0, .bool false] ∧ PoolAt w' p most last out v ∧ Grow w w') := by
  obtain ⟨ad, c, rfl⟩ := hp.row.slice
  refine enter Tryz.func79 rfl rfl rfl _ (Pick.sub (l := [0]) (.cons rfl .nil)) ?_
  refine RK.seq ?_
  refine RK.region ?_
  iterate 2 refine RL.p rfl rfl ?_
  refine RL.done ?_
  iterate 2 refine RK.seq ?_
  refine RK.drawM No [(0, false), (1, false), (2, false), (3, false), (4, false), (5, false), (6, false), (7, false), (8, false), (9, false), (10, false), (11, false), (12, false), (13, false), (14, false), (15, false), (16, false)] [] mixed (by kernel_rfl) ?_
  iterate 2 refine DL.p rfl rfl rfl ?_
  refine DL.qf rfl (.free rfl) rfl rfl (Yld.fieldAddr fo173_2 rfl) ?_
  refine DL.q rfl (.free rfl) rfl rfl rfl (Yld.load p22 rfl (atM (hp.blk.cell rfl) id)) (Mod.drew _ _) ?_
  refine DL.q rfl (.free rfl) rfl rfl rfl (Yld.lenSl u22 rfl) (Mod.drew _ _) ?_
  iterate 2 refine DL.p rfl rfl rfl ?_
  refine DL.qf rfl (.free rfl) rfl rfl (Yld.fieldAddr fo173_0 rfl) ?_
  refine DL.q rfl (.free rfl) rfl rfl rfl (Yld.load p3 rfl (atM (hp.blk.cell rfl) id)) (Mod.drew _ _) ?_
  iterate 2 refine DL.p rfl rfl rfl ?_
  first | refine DL.splitD (d := 14) rfl rfl (fun h14 => ?_) (fun h14 => ?_) | refine DL.splitN (d := 14) rfl rfl (fun h14 => ?_) (fun h14 => ?_) | refine DL.split (d := 14) rfl rfl (fun h14 => ?_) (fun h14 => ?_)
  · iterate 5 refine DL.no rfl (.no rfl rfl rfl rfl) rfl rfl ?_
    refine DL.p rfl rfl rfl ?_
    refine DL.done ?_
    refine RK.condT rfl ?_
    refine RK.seq ?_
    refine RK.region ?_
    iterate 2 refine RL.p rfl rfl ?_
    refine RL.done ?_
    refine RK.ret_of Tryz.func79 (res2 rfl rfl rfl) ?_ _
    exact ⟨_, rfl, rfl, ⟨hp.blk, hp.row.mod (Mod.drew No _) (fun _ _ h => h), hp.ne⟩, Mod.drew _ _⟩
  · iterate 2 refine DL.qf rfl (.yes rfl rfl rfl) rfl rfl (Yld.pure rfl) ?_
    refine DL.qf rfl (.yes rfl rfl rfl) rfl rfl (Yld.fieldAddr fo173_1 rfl) ?_
    refine DL.q rfl (.yes rfl rfl rfl) rfl rfl rfl (Yld.load p3 rfl (atM (hp.blk.cell rfl) id)) (Mod.drew _ _) ?_
    refine DL.qf rfl (.yes rfl rfl rfl) rfl rfl (Yld.pure rfl) ?_
    refine DL.p rfl rfl rfl ?_
    refine DL.done ?_
    refine RK.condT (hcT rfl (decide_eq_true (by omega))) ?_
    refine RK.seq ?_
    refine RK.region ?_
    iterate 2 refine RL.p rfl rfl ?_
    refine RL.done ?_
    refine RK.ret_of Tryz.func79 (res2 rfl rfl rfl) ?_ _
    exact ⟨_, rfl, rfl, ⟨hp.blk, hp.row.mod (Mod.drew No _) (fun _ _ h => h), hp.ne⟩, Mod.drew _ _⟩
end Go.Proofs.YtffbcfcoddacmaaGreat

/- Values: canonical bits, keys, an order, a rank of two. -/
set_option linter.unusedVariables false
set_option linter.unusedSimpArgs false
set_option maxHeartbeats 400000
set_option maxRecDepth 100000
namespace Go.Proofs.YtffbcfcoddacmaaGreat
open Go Go.X

theorem nan_nan : nanS 9221120237041090561 = true := by unfold nanS; decide
def canS (b : Nat) : Nat := if nanS b then 9221120237041090561 else b
theorem bits_can (b : Nat) : bitsS b = (canS b : Int) := by unfold bitsS canS; split <;> rfl
theorem can_can (b : Nat) : canS (canS b) = canS b := by
  unfold canS
  by_cases h : nanS b = true
  · simp [h, nan_nan]
  · simp [h]
theorem of_ok (b : Nat) (w : World) : Fx Tryz.prog 74 [.int .u64 (bitsS b)] w (fun u w' => u = .tuple #[.float .f64 (canS b), .bool true] ∧ w = w') := by
  have hc : bitsS (canS b) = bitsS b := by rw [bits_can, bits_can, can_can]
  rw [bits_can]
  refine enter Tryz.func74 rfl rfl rfl _ (Pick.sub (l := [0]) (.cons rfl .nil)) ?_
  refine RK.seq ?_
  refine RK.region ?_
  iterate 2 refine RL.p rfl rfl ?_
  refine RL.done ?_
  refine RK.seq ?_
  refine RK.region ?_
  refine RL.p rfl rfl ?_
  refine RL.q (.free rfl) rfl rfl (Yld.callx rfl (fun w => x124 _ w)) ?_
  refine RL.p rfl rfl ?_
  refine RL.done ?_
  iterate 2 refine RK.seq ?_
  refine RK.region ?_
  refine RL.p rfl rfl ?_
  refine RL.op (.free rfl) rfl rfl (Does.call rfl e75 (bits_ok _ _)) ?_
  rintro _ _ ⟨rfl, rfl⟩
  iterate 2 refine RL.p rfl rfl ?_
  refine RL.done ?_
  refine RK.condF (hcF rfl (by simp [hc, bits_can, can_can])) ?_
  refine RK.skip ?_
  refine RK.seq ?_
  refine RK.region ?_
  iterate 3 refine RL.p rfl rfl ?_
  refine RL.done ?_
  refine RK.ret_of Tryz.func74 (res2 rfl rfl rfl) ?_ _
  exact ⟨_, rfl, rfl, rfl⟩
def keyS (b : Nat) : Int := if canS b < 9223372036854775808 then canS b + 9223372036854775808 else 18446744073709551615 - canS b
theorem can_lt {b : Nat} (h : b < 18446744073709551616) : canS b < 18446744073709551616 := by unfold canS; split <;> omega
theorem key_ok (b : Nat) (hb : b < 18446744073709551616) (w : World) : Fx Tryz.prog 138 [.float .f64 b] w (fun u w' => u = .int .u64 (keyS b) ∧ w = w') := by
  have hc := can_lt hb
  refine enter Tryz.func138 rfl rfl rfl _ (Pick.sub (l := [0]) (.cons rfl .nil)) ?_
  refine RK.seq ?_
  refine RK.region ?_
  refine RL.p rfl rfl ?_
  refine RL.done ?_
  refine RK.seq ?_
  refine RK.region ?_
  refine RL.p rfl rfl ?_
  refine RL.op (.free rfl) rfl rfl (Does.call rfl e75 (bits_ok _ _)) ?_
  rintro _ _ ⟨rfl, rfl⟩
  refine RL.p rfl rfl ?_
  refine RL.done ?_
  iterate 2 refine RK.seq ?_
  refine RK.region ?_
  refine RL.p rfl rfl ?_
  refine RL.re (d := 6) rfl rfl (congrArg (Value.int .u64) (bits_can b)) ?_
  refine RL.p rfl rfl ?_
  refine RL.re (d := 7) rfl rfl (congrArg _ (and63 (by omega) (by omega))) ?_
  refine RL.p rfl rfl ?_
  refine RL.done ?_
  first | refine RK.condD rfl (fun h8 => ?_) (fun h8 => ?_) | refine RK.condN rfl (fun h8 => ?_) (fun h8 => ?_) | refine RK.cond rfl (fun h8 => ?_) (fun h8 => ?_)
  · refine RK.seq ?_
    refine RK.region ?_
    refine RL.p rfl rfl ?_
    refine RL.re (d := 9) rfl rfl (congrArg (Value.int .u64) (bits_can b)) ?_
    refine RL.p rfl rfl ?_
    refine RL.re (d := 10) rfl rfl (congrArg _ (or63 (by omega) (by split at h8 <;> omega))) ?_
    refine RL.p rfl rfl ?_
    refine RL.done ?_
    refine RK.ret_of Tryz.func138 (res1 rfl rfl) ?_ _
    exact ⟨_, rfl, congrArg _ (by unfold keyS; split at h8 <;> split <;> omega), rfl⟩
  · refine RK.skip ?_
    refine RK.seq ?_
    refine RK.region ?_
    refine RL.p rfl rfl ?_
    refine RL.re (d := 11) rfl rfl (congrArg (Value.int .u64) (bits_can b)) ?_
    refine RL.q (.free rfl) rfl rfl (Yld.compl rfl (by omega) (by omega)) ?_
    refine RL.p rfl rfl ?_
    refine RL.done ?_
    refine RK.ret_of Tryz.func138 (res1 rfl rfl) ?_ _
    exact ⟨_, rfl, congrArg _ (by unfold keyS; split at h8 <;> split <;> omega), rfl⟩
theorem isNaNu_ok (a : Int) (w : World) : Fx Tryz.prog 170 [.int .u64 a] w (fun u w' => u = .bool false ∧ w = w') := by
  refine enter Tryz.func170 rfl rfl rfl _ (Pick.sub (l := [0]) (.cons rfl .nil)) ?_
  refine RK.seq ?_
  refine RK.region ?_
  refine RL.p rfl rfl ?_
  refine RL.done ?_
  refine RK.seq ?_
  refine RK.region ?_
  iterate 4 refine RL.p rfl rfl ?_
  refine RL.done ?_
  refine RK.ret_of Tryz.func170 (res1 rfl rfl) ?_ _
  exact ⟨_, rfl, by simp, rfl⟩
def cmpI (a b : Int) : Int := if a < b then -1 else if b < a then 1 else 0
theorem compare_ok (a b : Int) (w : World) : Fx Tryz.prog 137 [.int .u64 a, .int .u64 b] w (fun u w' => u = .int .i64 (cmpI a b) ∧ w = w') := by
  refine enter Tryz.func137 rfl rfl rfl _ (Pick.sub (l := [0, 1]) (.cons rfl (.cons rfl .nil))) ?_
  refine RK.seq ?_
  refine RK.region ?_
  refine RL.p rfl rfl ?_
  refine RL.done ?_
  refine RK.seq ?_
  refine RK.region ?_
  refine RL.p rfl rfl ?_
  refine RL.op (.free rfl) rfl rfl (Does.call rfl e170 (isNaNu_ok _ _)) ?_
  rintro _ _ ⟨rfl, rfl⟩
  refine RL.p rfl rfl ?_
  refine RL.done ?_
  refine RK.seq ?_
  refine RK.region ?_
  refine RL.p rfl rfl ?_
  refine RL.op (.free rfl) rfl rfl (Does.call rfl e170 (isNaNu_ok _ _)) ?_
  rintro _ _ ⟨rfl, rfl⟩
  refine RL.p rfl rfl ?_
  refine RL.done ?_
  iterate 2 refine RK.seq ?_
  refine RK.region ?_
  refine RL.p rfl rfl ?_
  refine RL.done ?_
  refine RK.condF (hcF rfl (rfl)) ?_
  refine RK.skip ?_
  iterate 2 refine RK.seq ?_
  refine RK.region ?_
  refine RL.p rfl rfl ?_
  refine RL.done ?_
  refine RK.condF (hcF rfl (rfl)) ?_
  refine RK.skip ?_
  iterate 2 refine RK.seq ?_
  refine RK.region ?_
  iterate 3 refine RL.p rfl rfl ?_
  refine RL.done ?_
  first | refine RK.condD rfl (fun h16 => ?_) (fun h16 => ?_) | refine RK.condN rfl (fun h16 => ?_) (fun h16 => ?_) | refine RK.cond rfl (fun h16 => ?_) (fun h16 => ?_)
  · refine RK.seq ?_
    refine RK.region ?_
    refine RL.p rfl rfl ?_
    refine RL.done ?_
    refine RK.ret_of Tryz.func137 (res1 rfl rfl) ?_ _
    exact ⟨_, rfl, congrArg _ (by unfold cmpI; simp [*]), rfl⟩
  · refine RK.skip ?_
    iterate 2 refine RK.seq ?_
    refine RK.region ?_
    iterate 3 refine RL.p rfl rfl ?_
    refine RL.done ?_
    first | refine RK.condD rfl (fun h19 => ?_) (fun h19 => ?_) | refine RK.condN rfl (fun h19 => ?_) (fun h19 => ?_) | refine RK.cond rfl (fun h19 => ?_) (fun h19 => ?_)
    · refine RK.seq ?_
      refine RK.region ?_
      refine RL.p rfl rfl ?_
      refine RL.done ?_
      refine RK.ret_of Tryz.func137 (res1 rfl rfl) ?_ _
      exact ⟨_, rfl, congrArg _ (by unfold cmpI; simp [*]), rfl⟩
    · refine RK.skip ?_
      refine RK.seq ?_
      refine RK.region ?_
      refine RL.p rfl rfl ?_
      refine RL.done ?_
      refine RK.ret_of Tryz.func137 (res1 rfl rfl) ?_ _
      exact ⟨_, rfl, congrArg _ (by unfold cmpI; simp [*]), rfl⟩
theorem nan_ok (w : World) : Fx Tryz.prog 86 [] w (fun u w' => u = .float .f64 9221120237041090561 ∧ w = w') := by
  refine enter Tryz.func86 rfl rfl rfl _ (Pick.sub (l := []) .nil) ?_
  refine RK.seq ?_
  refine RK.region ?_
  refine RL.p rfl rfl ?_
  refine RL.done ?_
  refine RK.seq ?_
  refine RK.region ?_
  refine RL.q (.free rfl) rfl rfl (Yld.callx rfl (fun w => x124 _ w)) ?_
  refine RL.p rfl rfl ?_
  refine RL.done ?_
  refine RK.ret_of Tryz.func86 (res1 rfl rfl) ?_ _
  exact ⟨_, rfl, rfl, rfl⟩
theorem copysign0_ok (w : World) : Fx Tryz.prog 85 [.float .f64 0, .float .f64 13830554455654793216] w (fun u w' => u = .float .f64 9223372036854775808 ∧ w = w') := by
  refine enter Tryz.func85 rfl rfl rfl _ (Pick.sub (l := [0, 1]) (.cons rfl (.cons rfl .nil))) ?_
  refine RK.seq ?_
  refine RK.region ?_
  refine RL.p rfl rfl ?_
  refine RL.done ?_
  refine RK.seq ?_
  refine RK.region ?_
  refine RL.p rfl rfl ?_
  refine RL.q (.free rfl) rfl rfl (Yld.callx rfl (fun w => x21 _ w)) ?_
  iterate 2 refine RL.p rfl rfl ?_
  refine RL.q (.free rfl) rfl rfl (Yld.callx rfl (fun w => x21 _ w)) ?_
  iterate 2 refine RL.p rfl rfl ?_
  refine RL.q (.free rfl) rfl rfl (Yld.callx rfl (fun w => x124 _ w)) ?_
  refine RL.p rfl rfl ?_
  refine RL.done ?_
  refine RK.ret_of Tryz.func85 (res1 rfl rfl) ?_ _
  exact ⟨_, rfl, congrArg (Value.float .f64) (by kernel_rfl), rfl⟩
def sgnS (b : Nat) : Bool := decide (9223372036854775808 ≤ b)
theorem signbit_ok (b : Nat) (hb : b < 18446744073709551616) (w : World) : Fx Tryz.prog 206 [.float .f64 b] w (fun u w' => u = .bool (sgnS b) ∧ w = w') := by
  refine enter Tryz.func206 rfl rfl rfl _ (Pick.sub (l := [0]) (.cons rfl .nil)) ?_
  refine RK.seq ?_
  refine RK.region ?_
  refine RL.p rfl rfl ?_
  refine RL.done ?_
  refine RK.seq ?_
  refine RK.region ?_
  refine RL.p rfl rfl ?_
  refine RL.q (.free rfl) rfl rfl (Yld.callx rfl (fun w => x21 _ w)) ?_
  refine RL.q (.free rfl) rfl rfl (Yld.convI Tryz.underlying36 Tryz.underlying2 rfl) ?_
  iterate 2 refine RL.p rfl rfl ?_
  refine RL.done ?_
  refine RK.ret_of Tryz.func206 (res1 rfl rfl) ?_ _
  exact ⟨_, rfl, congrArg _ (by rw [Bool.eq_iff_iff]; simp only [sgnS, decide_eq_true_eq, IntKind.wrap_i64]; omega), rfl⟩
/-- How value a stands to value b: numbers ahead of NaNs, the greater ahead of the smaller. -/
def rankS (a b : Nat) : Int := if nanS a = nanS b then cmpI (keyS b) (keyS a) else if nanS a then 1 else -1
end Go.Proofs.YtffbcfcoddacmaaGreat

