/- What the claim stands on, part 1. Of own lemmas only those that it reaches. -/
import Derived.Test.YtbcbfjnlnmhpbaaGreatKw0
set_option linter.unusedVariables false
set_option linter.unusedSimpArgs false
set_option maxHeartbeats 400000
set_option maxRecDepth 100000
namespace Go.Proofs.YtbcbfjnlnmhpbaaGreat
open Go Go.X
@[irreducible] def letS (c : Int) : Bool := decide (97 ≤ c ∧ c ≤ 122 ∨ 65 ≤ c ∧ c ≤ 90 ∨ c = 95)
theorem letter_ok (c : Int) (w : World) : Fx Tryz.prog 194 [.int .u8 c] w (fun v w' => v = .bool (letS c) ∧ w = w') := by
  refine enter Tryz.func194 rfl rfl rfl _ (Pick.sub (l := [0]) (.cons rfl .nil)) ?_
  refine RK.seq ?_
  refine RK.region ?_
  refine RL.p rfl rfl ?_
  refine RL.done ?_
  refine RK.seq ?_
  refine RK.region ?_
  iterate 3 refine RL.p rfl rfl ?_
  first | refine RL.splitD (d := 5) rfl rfl (fun h5 => ?_) (fun h5 => ?_) | refine RL.splitN (d := 5) rfl rfl (fun h5 => ?_) (fun h5 => ?_) | refine RL.split (d := 5) rfl rfl (fun h5 => ?_) (fun h5 => ?_)
  · iterate 2 refine RL.q (.yes rfl rfl rfl) rfl rfl (Yld.pure rfl) ?_
    iterate 2 refine RL.p rfl rfl ?_
    first | refine RL.splitD (d := 9) rfl rfl (fun h9 => ?_) (fun h9 => ?_) | refine RL.splitN (d := 9) rfl rfl (fun h9 => ?_) (fun h9 => ?_) | refine RL.split (d := 9) rfl rfl (fun h9 => ?_) (fun h9 => ?_)
    · iterate 6 refine RL.no (.no rfl rfl rfl rfl) rfl rfl ?_
      iterate 2 refine RL.p rfl rfl ?_
      iterate 2 refine RL.no (.no rfl rfl rfl rfl) rfl rfl ?_
      iterate 2 refine RL.p rfl rfl ?_
      refine RL.done ?_
      refine RK.ret_of Tryz.func194 (res1 rfl rfl) ?_ _
      exact ⟨_, rfl, congrArg _ (by rw [Bool.eq_iff_iff]; simp [letS]; omega), rfl⟩
    · iterate 3 refine RL.q (.yes rfl rfl rfl) rfl rfl (Yld.pure rfl) ?_
      first | refine RL.splitD (d := 12) rfl rfl (fun h12 => ?_) (fun h12 => ?_) | refine RL.splitN (d := 12) rfl rfl (fun h12 => ?_) (fun h12 => ?_) | refine RL.split (d := 12) rfl rfl (fun h12 => ?_) (fun h12 => ?_)
      · iterate 3 refine RL.q (.yes rfl rfl rfl) rfl rfl (Yld.pure rfl) ?_
        iterate 2 refine RL.p rfl rfl ?_
        first | refine RL.splitD (d := 17) rfl rfl (fun h17 => ?_) (fun h17 => ?_) | refine RL.splitN (d := 17) rfl rfl (fun h17 => ?_) (fun h17 => ?_) | refine RL.split (d := 17) rfl rfl (fun h17 => ?_) (fun h17 => ?_)
        · iterate 2 refine RL.no (.no rfl rfl rfl rfl) rfl rfl ?_
          iterate 2 refine RL.p rfl rfl ?_
          refine RL.done ?_
          refine RK.ret_of Tryz.func194 (res1 rfl rfl) ?_ _
          exact ⟨_, rfl, congrArg _ (by rw [Bool.eq_iff_iff]; simp [letS]; omega), rfl⟩
        · iterate 2 refine RL.q (.yes rfl rfl rfl) rfl rfl (Yld.pure rfl) ?_
          iterate 2 refine RL.p rfl rfl ?_
          refine RL.done ?_
          refine RK.ret_of Tryz.func194 (res1 rfl rfl) ?_ _
          exact ⟨_, rfl, congrArg _ (by rw [Bool.eq_iff_iff]; simp [letS]; omega), rfl⟩
      · iterate 2 refine RL.no (.no rfl rfl rfl rfl) rfl rfl ?_
        refine RL.q (.yes rfl rfl rfl) rfl rfl (Yld.pure rfl) ?_
        iterate 2 refine RL.p rfl rfl ?_
        iterate 2 refine RL.q (.yes rfl rfl rfl) rfl rfl (Yld.pure rfl) ?_
        iterate 2 refine RL.p rfl rfl ?_
        refine RL.done ?_
        refine RK.ret_of Tryz.func194 (res1 rfl rfl) ?_ _
        exact ⟨_, rfl, congrArg _ (by rw [Bool.eq_iff_iff]; simp [letS]; omega), rfl⟩
  · iterate 2 refine RL.no (.no rfl rfl rfl rfl) rfl rfl ?_
    iterate 2 refine RL.p rfl rfl ?_
    iterate 3 refine RL.q (.yes rfl rfl rfl) rfl rfl (Yld.pure rfl) ?_
    first | refine RL.splitD (d := 12) rfl rfl (fun h12 => ?_) (fun h12 => ?_) | refine RL.splitN (d := 12) rfl rfl (fun h12 => ?_) (fun h12 => ?_) | refine RL.split (d := 12) rfl rfl (fun h12 => ?_) (fun h12 => ?_)
    · iterate 3 refine RL.q (.yes rfl rfl rfl) rfl rfl (Yld.pure rfl) ?_
      iterate 2 refine RL.p rfl rfl ?_
      first | refine RL.splitD (d := 17) rfl rfl (fun h17 => ?_) (fun h17 => ?_) | refine RL.splitN (d := 17) rfl rfl (fun h17 => ?_) (fun h17 => ?_) | refine RL.split (d := 17) rfl rfl (fun h17 => ?_) (fun h17 => ?_)
      · iterate 2 refine RL.no (.no rfl rfl rfl rfl) rfl rfl ?_
        iterate 2 refine RL.p rfl rfl ?_
        refine RL.done ?_
        refine RK.ret_of Tryz.func194 (res1 rfl rfl) ?_ _
        exact ⟨_, rfl, congrArg _ (by rw [Bool.eq_iff_iff]; simp [letS]; omega), rfl⟩
      · iterate 2 refine RL.q (.yes rfl rfl rfl) rfl rfl (Yld.pure rfl) ?_
        iterate 2 refine RL.p rfl rfl ?_
        refine RL.done ?_
        refine RK.ret_of Tryz.func194 (res1 rfl rfl) ?_ _
        exact ⟨_, rfl, congrArg _ (by rw [Bool.eq_iff_iff]; simp [letS]; omega), rfl⟩
    · iterate 2 refine RL.no (.no rfl rfl rfl rfl) rfl rfl ?_
      refine RL.q (.yes rfl rfl rfl) rfl rfl (Yld.pure rfl) ?_
      iterate 2 refine RL.p rfl rfl ?_
      iterate 2 refine RL.q (.yes rfl rfl rfl) rfl rfl (Yld.pure rfl) ?_
      iterate 2 refine RL.p rfl rfl ?_
      refine RL.done ?_
      refine RK.ret_of Tryz.func194 (res1 rfl rfl) ?_ _
      exact ⟨_, rfl, congrArg _ (by rw [Bool.eq_iff_iff]; simp [letS]; omega), rfl⟩
@[irreducible] def valS (s : ByteArray) : Bool := decide (1 ≤ s.size ∧ s.size ≤ 24)
@[irreducible] def chS (c : Int) : Bool := letS c || decide (48 ≤ c ∧ c ≤ 57)
@[irreducible] def nameS (s : ByteArray) : Bool := decide (1 ≤ s.size ∧ s.size ≤ 12) && letS (bt s 0).toNat && (List.range s.size).all fun i => chS (bt s i).toNat
theorem name_no1 {s : ByteArray} (h : ¬ (1 ≤ s.size ∧ s.size ≤ 12)) : nameS s = false := by simp [nameS, h]
theorem name_no2 {s : ByteArray} (h : letS (bt s 0).toNat = false) : nameS s = false := by simp [nameS, h]
theorem name_no3 {s : ByteArray} {i : Nat} (hi : i < s.size) (h : chS (bt s i).toNat = false) : nameS s = false := by
  simp only [nameS, Bool.and_eq_false_iff]
  refine .inr ?_
  rw [List.all_eq_false]
  exact ⟨i, List.mem_range.2 hi, by simp [h]⟩
theorem name_yes {s : ByteArray} (h1 : 1 ≤ s.size) (h2 : s.size ≤ 12) (h3 : letS (bt s 0).toNat = true) (h : ∀ i, i < s.size → chS (bt s i).toNat = true) : nameS s = true := by
  simp only [nameS, Bool.and_eq_true, decide_eq_true_eq, List.all_eq_true, List.mem_range]
  exact ⟨⟨⟨h1, h2⟩, h3⟩, h⟩
theorem name_ok (s : ByteArray) (w : World) : Fx Tryz.prog 157 [.string s] w (fun v w' => v = .bool (nameS s) ∧ w = w') := by
  refine enter Tryz.func157 rfl rfl rfl _ (Pick.sub (l := [0]) (.cons rfl .nil)) ?_
  refine RK.seq ?_
  refine RK.region ?_
  refine RL.p rfl rfl ?_
  refine RL.done ?_
  iterate 2 refine RK.seq ?_
  refine RK.region ?_
  refine RL.p rfl rfl ?_
  refine RL.q (.free rfl) rfl rfl (Yld.lenStr u9 rfl) ?_
  iterate 2 refine RL.p rfl rfl ?_
  first | refine RL.splitD (d := 7) rfl rfl (fun h7 => ?_) (fun h7 => ?_) | refine RL.splitN (d := 7) rfl rfl (fun h7 => ?_) (fun h7 => ?_) | refine RL.split (d := 7) rfl rfl (fun h7 => ?_) (fun h7 => ?_)
  · iterate 3 refine RL.no (.no rfl rfl rfl rfl) rfl rfl ?_
    iterate 2 refine RL.p rfl rfl ?_
    iterate 4 refine RL.no (.no rfl rfl rfl rfl) rfl rfl ?_
    refine RL.p rfl rfl ?_
    refine RL.done ?_
    refine RK.condT rfl ?_
    refine RK.seq ?_
    refine RK.region ?_
    refine RL.p rfl rfl ?_
    refine RL.done ?_
    refine RK.ret_of Tryz.func157 (res1 rfl rfl) ?_ _
    exact ⟨_, rfl, congrArg _ (by first
        | exact (name_no1 (by omega)).symm
        | exact (name_no3 (i := k) (by omega) (by simp at h28; simp [chS, h28]; omega)).symm
        | exact (name_yes (by omega) (by omega) (by simpa using h17) fun i hi => hall i (by omega)).symm
        | exact (name_no2 (by simpa using h17)).symm), rfl⟩
  · refine RL.q (.yes rfl rfl rfl) rfl rfl (Yld.pure rfl) ?_
    refine RL.q (.yes rfl rfl rfl) rfl rfl (Yld.lenStr u9 rfl) ?_
    refine RL.q (.yes rfl rfl rfl) rfl rfl (Yld.pure rfl) ?_
    iterate 2 refine RL.p rfl rfl ?_
    first | refine RL.splitD (d := 12) rfl rfl (fun h12 => ?_) (fun h12 => ?_) | refine RL.splitN (d := 12) rfl rfl (fun h12 => ?_) (fun h12 => ?_) | refine RL.split (d := 12) rfl rfl (fun h12 => ?_) (fun h12 => ?_)
    · iterate 4 refine RL.no (.no rfl rfl rfl rfl) rfl rfl ?_
      refine RL.p rfl rfl ?_
      refine RL.done ?_
      refine RK.condT rfl ?_
      refine RK.seq ?_
      refine RK.region ?_
      refine RL.p rfl rfl ?_
      refine RL.done ?_
      refine RK.ret_of Tryz.func157 (res1 rfl rfl) ?_ _
      exact ⟨_, rfl, congrArg _ (by first
          | exact (name_no1 (by omega)).symm
          | exact (name_no3 (i := k) (by omega) (by simp at h28; simp [chS, h28]; omega)).symm
          | exact (name_yes (by omega) (by omega) (by simpa using h17) fun i hi => hall i (by omega)).symm
          | exact (name_no2 (by simpa using h17)).symm), rfl⟩
    · refine RL.q (.yes rfl rfl rfl) rfl rfl (Yld.pure rfl) ?_
      refine RL.q (.yes rfl rfl rfl) rfl rfl (Yld.idxStr u9 rfl rfl (by omega) (by omega)) ?_
      refine RL.op (.yes rfl rfl rfl) rfl rfl (Does.call rfl e194 (letter_ok _ _)) ?_
      rintro _ _ ⟨rfl, rfl⟩
      refine RL.q (.yes rfl rfl rfl) rfl rfl (Yld.pure rfl) ?_
      refine RL.p rfl rfl ?_
      refine RL.done ?_
      first | refine RK.condD rfl (fun h17 => ?_) (fun h17 => ?_) | refine RK.condN rfl (fun h17 => ?_) (fun h17 => ?_) | refine RK.cond rfl (fun h17 => ?_) (fun h17 => ?_)
      · refine RK.seq ?_
        refine RK.region ?_
        refine RL.p rfl rfl ?_
        refine RL.done ?_
        refine RK.ret_of Tryz.func157 (res1 rfl rfl) ?_ _
        exact ⟨_, rfl, congrArg _ (by first
            | exact (name_no1 (by omega)).symm
            | exact (name_no3 (i := k) (by omega) (by simp at h28; simp [chS, h28]; omega)).symm
            | exact (name_yes (by omega) (by omega) (by simpa using h17) fun i hi => hall i (by omega)).symm
            | exact (name_no2 (by simpa using h17)).symm), rfl⟩
      · refine RK.skip ?_
        iterate 2 refine RK.seq ?_
        refine RK.region ?_
        refine RL.p rfl rfl ?_
        refine RL.q (.free rfl) rfl rfl (Yld.lenStr u9 rfl) ?_
        refine RL.p rfl rfl ?_
        refine RL.done ?_
        refine RK.block ?_
        refine RK.loop (fun k : Nat => [(0, .string s), (19, .int .i64 s.size), (20, .int .i64 k)]) (fun k w' => w = w' ∧ k ≤ s.size ∧ ∀ i, i < k → chS (bt s i).toNat = true) (fun k => s.size - k) 0 ⟨rfl, rfl, rfl, trivial⟩ ⟨rfl, by omega, fun i hi => by omega⟩ (fun k w' hI ih => ?_)
        obtain ⟨rfl, hk, hall⟩ := hI
        refine RK.seq ?_
        refine RK.region ?_
        refine RL.p rfl rfl ?_
        refine RL.done ?_
        refine RK.seq ?_
        first | refine RK.condD rfl (fun h21 => ?_) (fun h21 => ?_) | refine RK.condN rfl (fun h21 => ?_) (fun h21 => ?_) | refine RK.cond rfl (fun h21 => ?_) (fun h21 => ?_)
        · refine RK.skip ?_
          refine RK.seq ?_
          refine RK.block ?_
          refine RK.seq ?_
          refine RK.region ?_
          iterate 2 refine RL.p rfl rfl ?_
          refine RL.done ?_
          refine RK.seq ?_
          refine RK.region ?_
          iterate 2 refine RL.p rfl rfl ?_
          refine RL.q (.free rfl) rfl rfl (Yld.idxStrN u9 rfl rfl (by omega)) ?_
          refine RL.op (.free rfl) rfl rfl (Does.call rfl e194 (letter_ok _ _)) ?_
          rintro _ _ ⟨rfl, rfl⟩
          iterate 2 refine RL.p rfl rfl ?_
          first | refine RL.splitD (d := 28) rfl rfl (fun h28 => ?_) (fun h28 => ?_) | refine RL.splitN (d := 28) rfl rfl (fun h28 => ?_) (fun h28 => ?_) | refine RL.split (d := 28) rfl rfl (fun h28 => ?_) (fun h28 => ?_)
          · iterate 2 refine RL.q (.yes rfl rfl rfl) rfl rfl (Yld.pure rfl) ?_
            refine RL.q (.yes rfl rfl rfl) rfl rfl (Yld.idxStrN u9 rfl rfl (by omega)) ?_
            iterate 2 refine RL.q (.yes rfl rfl rfl) rfl rfl (Yld.pure rfl) ?_
            first | refine RL.splitD (d := 33) rfl rfl (fun h33 => ?_) (fun h33 => ?_) | refine RL.splitN (d := 33) rfl rfl (fun h33 => ?_) (fun h33 => ?_) | refine RL.split (d := 33) rfl rfl (fun h33 => ?_) (fun h33 => ?_)
            · iterate 4 refine RL.no (.no rfl rfl rfl rfl) rfl rfl ?_
              refine RL.q (.yes rfl rfl rfl) rfl rfl (Yld.pure rfl) ?_
              refine RL.p rfl rfl ?_
              refine RL.done ?_
              refine RK.condT rfl ?_
              refine RK.seq ?_
              refine RK.region ?_
              refine RL.p rfl rfl ?_
              refine RL.done ?_
              refine RK.ret_of Tryz.func157 (res1 rfl rfl) ?_ _
              exact ⟨_, rfl, congrArg _ (by first
                  | exact (name_no1 (by omega)).symm
                  | exact (name_no3 (i := k) (by omega) (by simp at h28; simp [chS, h28]; omega)).symm
                  | exact (name_yes (by omega) (by omega) (by simpa using h17) fun i hi => hall i (by omega)).symm
                  | exact (name_no2 (by simpa using h17)).symm), rfl⟩
            · iterate 2 refine RL.q (.yes rfl rfl rfl) rfl rfl (Yld.pure rfl) ?_
              refine RL.q (.yes rfl rfl rfl) rfl rfl (Yld.idxStrN u9 rfl rfl (by omega)) ?_
              iterate 2 refine RL.q (.yes rfl rfl rfl) rfl rfl (Yld.pure rfl) ?_
              refine RL.p rfl rfl ?_
              refine RL.done ?_
              first | refine RK.condD rfl (fun h39 => ?_) (fun h39 => ?_) | refine RK.condN rfl (fun h39 => ?_) (fun h39 => ?_) | refine RK.cond rfl (fun h39 => ?_) (fun h39 => ?_)
              · refine RK.seq ?_
                refine RK.region ?_
                refine RL.p rfl rfl ?_
                refine RL.done ?_
                refine RK.ret_of Tryz.func157 (res1 rfl rfl) ?_ _
                exact ⟨_, rfl, congrArg _ (by first
                    | exact (name_no1 (by omega)).symm
                    | exact (name_no3 (i := k) (by omega) (by simp at h28; simp [chS, h28]; omega)).symm
                    | exact (name_yes (by omega) (by omega) (by simpa using h17) fun i hi => hall i (by omega)).symm
                    | exact (name_no2 (by simpa using h17)).symm), rfl⟩
              · refine RK.skip ?_
                refine RK.inBlock ?_
                refine RK.region ?_
                iterate 2 refine RL.p rfl rfl ?_
                refine RL.re (d := 20) rfl rfl (succ_i64 (by omega)) ?_
                refine RL.done ?_
                exact RK.back (ih (k + 1) _ ⟨rfl, by omega, fun i hi => by by_cases e : i = k; (subst e; simp at h28; simp [chS, h28]; try omega); exact hall i (by omega)⟩ (by omega)) ⟨rfl, rfl, rfl, trivial⟩
          · iterate 10 refine RL.no (.no rfl rfl rfl rfl) rfl rfl ?_
            refine RL.p rfl rfl ?_
            refine RL.done ?_
            refine RK.condF rfl ?_
            refine RK.skip ?_
            refine RK.inBlock ?_
            refine RK.region ?_
            iterate 2 refine RL.p rfl rfl ?_
            refine RL.re (d := 20) rfl rfl (succ_i64 (by omega)) ?_
            refine RL.done ?_
            exact RK.back (ih (k + 1) _ ⟨rfl, by omega, fun i hi => by by_cases e : i = k; (subst e; simp at h28; simp [chS, h28]; try omega); exact hall i (by omega)⟩ (by omega)) ⟨rfl, rfl, rfl, trivial⟩
        · refine RK.exit rfl ?_
          refine RK.seq ?_
          refine RK.region ?_
          refine RL.p rfl rfl ?_
          refine RL.done ?_
          refine RK.ret_of Tryz.func157 (res1 rfl rfl) ?_ _
          exact ⟨_, rfl, congrArg _ (by first
              | exact (name_no1 (by omega)).symm
              | exact (name_no3 (i := k) (by omega) (by simp at h28; simp [chS, h28]; omega)).symm
              | exact (name_yes (by omega) (by omega) (by simpa using h17) fun i hi => hall i (by omega)).symm
              | exact (name_no2 (by simpa using h17)).symm), rfl⟩
@[irreducible] def nanS (b : Nat) : Bool := Ieee.double.order b b != some .eq
theorem no_ok (b : Nat) (w : World) : Fx Tryz.prog 162 [.float .f64 b] w (fun v w' => v = .bool (nanS b) ∧ w = w') := by
  refine enter Tryz.func162 rfl rfl rfl _ (Pick.sub (l := [0]) (.cons rfl .nil)) ?_
  refine RK.seq ?_
  refine RK.region ?_
  refine RL.p rfl rfl ?_
  refine RL.done ?_
  refine RK.seq ?_
  refine RK.region ?_
  iterate 4 refine RL.p rfl rfl ?_
  refine RL.done ?_
  refine RK.ret_of Tryz.func162 (res1 rfl rfl) ?_ _
  exact ⟨_, rfl, by unfold nanS; rfl, rfl⟩
def bitsS (b : Nat) : Int := if nanS b then 9221120237041090561 else b
theorem bits_ok (b : Nat) (w : World) : Fx Tryz.prog 132 [.float .f64 b] w (fun v w' => v = .int .u64 (bitsS b) ∧ w = w') := by
  refine enter Tryz.func132 rfl rfl rfl _ (Pick.sub (l := [0]) (.cons rfl .nil)) ?_
  refine RK.seq ?_
  refine RK.region ?_
  refine RL.p rfl rfl ?_
  refine RL.done ?_
  iterate 2 refine RK.seq ?_
  refine RK.region ?_
  refine RL.p rfl rfl ?_
  refine RL.op (.free rfl) rfl rfl (Does.call rfl e162 (no_ok b _)) ?_
  rintro _ _ ⟨rfl, rfl⟩
  refine RL.done ?_
  first | refine RK.condD rfl (fun h4 => ?_) (fun h4 => ?_) | refine RK.condN rfl (fun h4 => ?_) (fun h4 => ?_) | refine RK.cond rfl (fun h4 => ?_) (fun h4 => ?_)
  · refine RK.seq ?_
    refine RK.region ?_
    refine RL.p rfl rfl ?_
    refine RL.done ?_
    refine RK.ret_of Tryz.func132 (res1 rfl rfl) ?_ _
    exact ⟨_, rfl, by simp_all [bitsS], rfl⟩
  · refine RK.skip ?_
    refine RK.seq ?_
    refine RK.region ?_
    refine RL.p rfl rfl ?_
    refine RL.q (.free rfl) rfl rfl (Yld.callx rfl (fun w => x122 _ w)) ?_
    refine RL.p rfl rfl ?_
    refine RL.done ?_
    refine RK.ret_of Tryz.func132 (res1 rfl rfl) ?_ _
    exact ⟨_, rfl, by simp_all [bitsS], rfl⟩
end Go.Proofs.YtbcbfjnlnmhpbaaGreat
set_option linter.unusedVariables false
set_option linter.unusedSimpArgs false
set_option maxHeartbeats 400000
set_option maxRecDepth 100000
namespace Go.Proofs.YtbcbfjnlnmhpbaaGreat
open Go Go.X
structure Lab where
  name : ByteArray
  value : ByteArray
  deriving DecidableEq, Inhabited
def labC (l : Lab) : List Value := [.string l.name, .string l.value]
theorem labC_len (l : Lab) : (labC l).length = 2 := rfl
abbrev SlL (M : Nat → Prop) (w : World) (v : Value) (ls : List Lab) : Prop := Sl M w v 2 ls.length (ls.flatMap labC)
@[irreducible] def okAt (ls : List Lab) (i : Nat) : Bool := match ls[i]? with
  | none => true
  | some x => nameS x.name && valS x.value && match i with
    | 0 => true
    | j + 1 => match ls[j]? with
      | none => true
      | some y => slt y.name x.name
@[irreducible] def isS (ls : List Lab) : Bool := decide (1 ≤ ls.length ∧ ls.length ≤ 6) && (List.range ls.length).all (okAt ls)
end Go.Proofs.YtbcbfjnlnmhpbaaGreat
set_option linter.unusedVariables false
set_option linter.unusedSimpArgs false
set_option maxHeartbeats 400000
set_option maxRecDepth 100000
namespace Go.Proofs.YtbcbfjnlnmhpbaaGreat
open Go Go.X
theorem allOne_ints (xs : List Int) : (xs.map (Value.int .i64)).all (·.oneCell') = true := by simp [Value.oneCell']
theorem cloneI_ok (M : Nat → Prop) (xs : List Int) (v : Value) (w : World) (hv : Sl M w v 1 xs.length (xs.map (.int .i64))) (hb : xs.length * 8 ≤ 140737488355328) :
    Fx Tryz.prog 127 [v] w (fun u w' => Row w' 3 1 u xs.length (xs.map (.int .i64)) ∧ Fresh w.heap.size u ∧ Grow w w') := by
  obtain ⟨ad, c, b, o, rfl, hf⟩ := hv.open
  refine enter Tryz.func127 rfl rfl rfl _ (Pick.sub (l := [0]) (.cons rfl .nil)) ?_
  refine RK.seq ?_
  refine RK.region ?_
  refine RL.p rfl rfl ?_
  refine RL.done ?_
  iterate 2 refine RK.seq ?_
  refine RK.region ?_
  refine RL.p rfl rfl ?_
  refine RL.q (.free rfl) rfl rfl (Yld.eqNil u35 rfl rfl) ?_
  refine RL.done ?_
  first | refine RK.condD rfl (fun h4 => ?_) (fun h4 => ?_) | refine RK.condN rfl (fun h4 => ?_) (fun h4 => ?_) | refine RK.cond rfl (fun h4 => ?_) (fun h4 => ?_)
  · refine RK.seq ?_
    refine RK.region ?_
    refine RL.p rfl rfl ?_
    refine RL.done ?_
    refine RK.ret_of Tryz.func127 (res1 rfl rfl) ?_ _
    exact ⟨_, rfl, by cases ad with | none => (have h0 : xs.length = 0 := by (rcases Nat.eq_zero_or_pos xs.length with h | h; exact h; exact absurd (hf h).1 (by simp))); have : xs = [] := List.eq_nil_of_length_eq_zero h0; subst this; exact ⟨Row.nil _ _ _, fun b hb => by simp [Value.ownBlock] at hb, Mod.refl _ _⟩ | some a => simp at h4⟩
  · refine RK.skip ?_
    refine RK.seq ?_
    refine RK.region ?_
    refine RL.op (.free rfl) rfl rfl (Does.slice0 u35 i3) ?_
    rintro _ w1 ⟨b1, rfl, hn1⟩
    refine RL.p rfl rfl ?_
    refine RL.op (.free rfl) rfl rfl (Does.append u35 i3 rfl rfl rfl rfl rfl (Row.new hn1 1 0 rfl (by omega)) ((hv.mod (Mod.any' hn1.grow)).noM) (allOne_ints xs) (by omega)) ?_
    rintro u w2 ⟨hr, hm, hu⟩
    refine RL.p rfl rfl ?_
    refine RL.done ?_
    refine RK.ret_of Tryz.func127 (res1 rfl rfl) ?_ _
    exact ⟨_, rfl, by simpa using hr, fun b hb => by rcases hu with hu | hu <;> rw [hu] at hb <;> simp [Value.ownBlock] at hb <;> (have := hn1.at_; have := hn1.size; omega), hn1.grow.then hm (fun x hx e => by simp [Value.ownBlock] at e; have := hn1.at_; omega)⟩
end Go.Proofs.YtbcbfjnlnmhpbaaGreat
set_option linter.unusedVariables false
set_option linter.unusedSimpArgs false
set_option maxHeartbeats 400000
set_option maxRecDepth 100000
namespace Go.Proofs.YtbcbfjnlnmhpbaaGreat
open Go Go.X
abbrev ints (xs : List Int) : List Value := xs.map (Value.int .i64)
theorem compact_le (xs : List Int) : (Lib.compact xs).length ≤ xs.length := by
  unfold Lib.compact Lib.compactUpTo
  rw [List.length_map]
  exact Nat.le_trans (List.length_filter_le _ _) (by simp)
def sortI (xs : List Int) : List Int := xs.mergeSort fun x y => decide (x ≤ y)
theorem sortI_len (xs : List Int) : (sortI xs).length = xs.length := by simp [sortI]
theorem sort_ok (xs : List Int) (v : Value) (w : World) (hv : Row w 3 1 v xs.length (ints xs)) (hb : xs.length < 4611686018427387904) :
    Fx Tryz.prog 128 [v] w (fun u w' => u = .tuple #[] ∧ Row w' 3 1 v xs.length (ints (sortI xs)) ∧ Mod (fun b => v.ownBlock = some b) w w') := by
  rcases hv.2 with ⟨rfl, h0⟩ | ⟨g, cap, cur, rfl, _, hg, hn, hcap, hcs, htk⟩
  · have : xs = [] := List.eq_nil_of_length_eq_zero h0
    subst this
    refine Calls.mono (Tryz.slices_Sort_int_none none 0 w) ?_
    rintro e w' ⟨rfl, rfl⟩
    exact ⟨_, rfl, rfl, by simpa [sortI] using Row.nil w' _ _, Mod.refl _ _⟩
  · rw [Nat.mul_one] at htk
    refine Calls.mono (Tryz.slices_Sort_int g 0 cap xs w (holds_of_blockI hg htk) (Array.getElem?_eq_some_iff.1 hg).1 hb) ?_
    rintro e w' ⟨rfl, n, os, rfl⟩
    exact ⟨_, rfl, rfl, ownsRow_sortedI (by simp) (Nat.zero_le _) hg hn hcap hcs, Mod.grownBy (grownBy_sortedI _) (fun k h => by cases h; rfl)⟩
theorem compact_ok (xs : List Int) (v : Value) (w : World) (hv : Row w 3 1 v xs.length (ints xs)) :
    Fx Tryz.prog 129 [v] w (fun u w' => Row w' 3 1 u (Lib.compact xs).length (ints (Lib.compact xs)) ∧ u.ownBlock = v.ownBlock ∧ Mod (fun b => v.ownBlock = some b) w w') := by
  rcases hv.2 with ⟨rfl, h0⟩ | ⟨g, cap, cur, rfl, _, hg, hn, hcap, hcs, htk⟩
  · have : xs = [] := List.eq_nil_of_length_eq_zero h0
    subst this
    refine Calls.mono (Tryz.slices_Compact_int_empty none 0 w) ?_
    rintro e w' ⟨rfl, rfl⟩
    exact ⟨_, rfl, Row.nil w' _ _, rfl, Mod.refl _ _⟩
  · rw [Nat.mul_one] at htk
    refine Calls.mono (Tryz.slices_Compact_int g 0 cap xs w (holds_of_blockI hg htk) (by simp only [maxLen] at hcap; omega) hn) ?_
    rintro e w' ⟨rfl, q, rfl⟩
    have hle : (Lib.compact xs).length ≤ xs.length := compact_le xs
    have hh := heap_sortedI (n := q) (os := #[]) (Lib.compact xs ++ List.replicate (xs.length - (Lib.compact xs).length) 0).toArray hg
    have hgb := grownBy_sortedI (w := w) (g := g) (n := q) (os := #[]) (Lib.compact xs ++ List.replicate (xs.length - (Lib.compact xs).length) 0).toArray
    simp only [Sort.grow_empty] at hh hgb
    refine ⟨_, rfl, ⟨by simp, .inr ⟨g, cap, _, rfl, Nat.zero_le _, hh, by omega, hcap, by simp [Sort.putCells, hcs], ?_⟩⟩, rfl, Mod.grownBy hgb (fun k h => by cases h; rfl)⟩
    have := take_putCellsI cur (Lib.compact xs ++ List.replicate (xs.length - (Lib.compact xs).length) 0) (by simp; omega)
    have h2 := congrArg (List.take (Lib.compact xs).length) this
    rw [List.take_take, Nat.min_eq_left (by simp)] at h2
    rw [Nat.mul_one, h2]
    simp
end Go.Proofs.YtbcbfjnlnmhpbaaGreat
set_option linter.unusedVariables false
set_option linter.unusedSimpArgs false
set_option maxHeartbeats 400000
set_option maxRecDepth 100000
namespace Go.Proofs.YtbcbfjnlnmhpbaaGreat
open Go Go.X
def mkRow (xs : List Int) : List Int := Lib.compact (sortI xs)
theorem mkRow_le (xs : List Int) : (mkRow xs).length ≤ xs.length := by
  have := compact_le (sortI xs)
  rw [sortI_len] at this
  exact this
theorem make_ok (M : Nat → Prop) (xs : List Int) (v : Value) (w : World) (hv : Sl M w v 1 xs.length (ints xs)) (hb : xs.length * 8 ≤ 140737488355328) :
    Fx Tryz.prog 92 [v] w (fun u w' => Row w' 3 1 u (mkRow xs).length (ints (mkRow xs)) ∧ Fresh w.heap.size u ∧ Grow w w') := by
  refine enter Tryz.func92 rfl rfl rfl _ (Pick.sub (l := [0]) (.cons rfl .nil)) ?_
  refine RK.seq ?_
  refine RK.region ?_
  refine RL.p rfl rfl ?_
  refine RL.done ?_
  refine RK.seq ?_
  refine RK.region ?_
  refine RL.p rfl rfl ?_
  refine RL.op (.free rfl) rfl rfl (Does.call rfl e127 (cloneI_ok M xs v _ hv hb)) ?_
  rintro u1 w1 ⟨hr1, hf1, hg1⟩
  refine RL.p rfl rfl ?_
  refine RL.done ?_
  refine RK.seq ?_
  refine RK.region ?_
  refine RL.p rfl rfl ?_
  refine RL.op (.free rfl) rfl rfl (Does.call rfl e128 (sort_ok xs u1 _ hr1 (by omega))) ?_
  rintro _ w2 ⟨rfl, hr2, hm2⟩
  refine RL.done ?_
  refine RK.seq ?_
  refine RK.region ?_
  refine RL.p rfl rfl ?_
  refine RL.op (.free rfl) rfl rfl (Does.call rfl e129 (compact_ok (sortI xs) u1 _ (by rw [sortI_len]; exact hr2))) ?_
  rintro u3 w3 ⟨hr3, hu3, hm3⟩
  refine RL.p rfl rfl ?_
  refine RL.done ?_
  refine RK.ret_of Tryz.func92 (res1 rfl rfl) ?_ _
  exact ⟨_, rfl, hr3, fun b hb => hf1 b (by rw [← hu3]; exact hb), (hg1.then hm2 (fun x hx e => by have := hf1 x e; omega)).then hm3 (fun x hx e => by have := hf1 x e; omega)⟩
structure PoolAt (w : World) (p : Nat) (most last : Int) (out : List Int) (v : Value) : Prop where
  blk : Blk w p 152 [.int .i64 most, .int .i64 last, v]
  row : Row w 3 1 v out.length (ints out)
  ne : v.ownBlock ≠ some p
theorem poolNew_ok (m : Int) (w : World) : Fx Tryz.prog 43 [.int .i64 m] w (fun u w' => ∃ p, u = pp p ∧ p = w.heap.size ∧ PoolAt w' p (if 0 > m then 0 else m) 0 [] (.slice none 0 0) ∧ Grow w w' ∧ w'.heap.size = w.heap.size + 1) := by
  refine enter Tryz.func43 rfl rfl rfl _ (Pick.sub (l := [0]) (.cons rfl .nil)) ?_
  refine RK.seq ?_
  refine RK.region ?_
  refine RL.p rfl rfl ?_
  refine RL.done ?_
  refine RK.seq ?_
  refine RK.region ?_
  refine RL.p rfl rfl ?_
  refine RL.q (.free rfl) rfl rfl (Yld.max2 rfl rfl) ?_
  refine RL.q (.free rfl) rfl rfl (Yld.build (v := .agg #[.int .i64 (if 0 > m then 0 else m), .int .i64 0, .slice none 0 0]) rfl (fun w => by kernel_rfl)) ?_
  refine RL.op (.free rfl) rfl rfl (Does.box rfl) ?_
  rintro _ w1 ⟨b1, rfl, hn1⟩
  refine RL.p rfl rfl ?_
  refine RL.done ?_
  refine RK.ret_of Tryz.func43 (res1 rfl rfl) ?_ _
  exact ⟨_, rfl, b1, rfl, hn1.at_, ⟨hn1.blk, Row.nil _ _ _, by simp [Value.ownBlock]⟩, hn1.grow, hn1.size⟩
end Go.Proofs.YtbcbfjnlnmhpbaaGreat
set_option linter.unusedVariables false
set_option linter.unusedSimpArgs false
set_option maxHeartbeats 400000
set_option maxRecDepth 100000
namespace Go.Proofs.YtbcbfjnlnmhpbaaGreat
open Go Go.X
def canS (b : Nat) : Nat := if nanS b then 9221120237041090561 else b
theorem isNaNu_ok (a : Int) (w : World) : Fx Tryz.prog 199 [.int .u64 a] w (fun u w' => u = .bool false ∧ w = w') := by
  refine enter Tryz.func199 rfl rfl rfl _ (Pick.sub (l := [0]) (.cons rfl .nil)) ?_
  refine RK.seq ?_
  refine RK.region ?_
  refine RL.p rfl rfl ?_
  refine RL.done ?_
  refine RK.seq ?_
  refine RK.region ?_
  iterate 4 refine RL.p rfl rfl ?_
  refine RL.done ?_
  refine RK.ret_of Tryz.func199 (res1 rfl rfl) ?_ _
  exact ⟨_, rfl, by simp, rfl⟩
def cmpI (a b : Int) : Int := if a < b then -1 else if b < a then 1 else 0
theorem compare_ok (a b : Int) (w : World) : Fx Tryz.prog 164 [.int .u64 a, .int .u64 b] w (fun u w' => u = .int .i64 (cmpI a b) ∧ w = w') := by
  refine enter Tryz.func164 rfl rfl rfl _ (Pick.sub (l := [0, 1]) (.cons rfl (.cons rfl .nil))) ?_
  refine RK.seq ?_
  refine RK.region ?_
  refine RL.p rfl rfl ?_
  refine RL.done ?_
  refine RK.seq ?_
  refine RK.region ?_
  refine RL.p rfl rfl ?_
  refine RL.op (.free rfl) rfl rfl (Does.call rfl e199 (isNaNu_ok _ _)) ?_
  rintro _ _ ⟨rfl, rfl⟩
  refine RL.p rfl rfl ?_
  refine RL.done ?_
  refine RK.seq ?_
  refine RK.region ?_
  refine RL.p rfl rfl ?_
  refine RL.op (.free rfl) rfl rfl (Does.call rfl e199 (isNaNu_ok _ _)) ?_
  rintro _ _ ⟨rfl, rfl⟩
  refine RL.p rfl rfl ?_
  refine RL.done ?_
  iterate 2 refine RK.seq ?_
  refine RK.region ?_
  refine RL.p rfl rfl ?_
  refine RL.done ?_
  refine RK.condF (hcF rfl (rfl)) ?_
  refine RK.skip ?_
  iterate 2 refine RK.seq ?_
  refine RK.region ?_
  refine RL.p rfl rfl ?_
  refine RL.done ?_
  refine RK.condF (hcF rfl (rfl)) ?_
  refine RK.skip ?_
  iterate 2 refine RK.seq ?_
  refine RK.region ?_
  iterate 3 refine RL.p rfl rfl ?_
  refine RL.done ?_
  first | refine RK.condD rfl (fun h16 => ?_) (fun h16 => ?_) | refine RK.condN rfl (fun h16 => ?_) (fun h16 => ?_) | refine RK.cond rfl (fun h16 => ?_) (fun h16 => ?_)
  · refine RK.seq ?_
    refine RK.region ?_
    refine RL.p rfl rfl ?_
    refine RL.done ?_
    refine RK.ret_of Tryz.func164 (res1 rfl rfl) ?_ _
    exact ⟨_, rfl, congrArg _ (by unfold cmpI; simp [*]), rfl⟩
  · refine RK.skip ?_
    iterate 2 refine RK.seq ?_
    refine RK.region ?_
    iterate 3 refine RL.p rfl rfl ?_
    refine RL.done ?_
    first | refine RK.condD rfl (fun h19 => ?_) (fun h19 => ?_) | refine RK.condN rfl (fun h19 => ?_) (fun h19 => ?_) | refine RK.cond rfl (fun h19 => ?_) (fun h19 => ?_)
    · refine RK.seq ?_
      refine RK.region ?_
      refine RL.p rfl rfl ?_
      refine RL.done ?_
      refine RK.ret_of Tryz.func164 (res1 rfl rfl) ?_ _
      exact ⟨_, rfl, congrArg _ (by unfold cmpI; simp [*]), rfl⟩
    · refine RK.skip ?_
      refine RK.seq ?_
      refine RK.region ?_
      refine RL.p rfl rfl ?_
      refine RL.done ?_
      refine RK.ret_of Tryz.func164 (res1 rfl rfl) ?_ _
      exact ⟨_, rfl, congrArg _ (by unfold cmpI; simp [*]), rfl⟩
theorem nan_ok (w : World) : Fx Tryz.prog 50 [] w (fun u w' => u = .float .f64 9221120237041090561 ∧ w = w') := by
  refine enter Tryz.func50 rfl rfl rfl _ (Pick.sub (l := []) .nil) ?_
  refine RK.seq ?_
  refine RK.region ?_
  refine RL.p rfl rfl ?_
  refine RL.done ?_
  refine RK.seq ?_
  refine RK.region ?_
  refine RL.q (.free rfl) rfl rfl (Yld.callx rfl (fun w => x100 _ w)) ?_
  refine RL.p rfl rfl ?_
  refine RL.done ?_
  refine RK.ret_of Tryz.func50 (res1 rfl rfl) ?_ _
  exact ⟨_, rfl, rfl, rfl⟩
end Go.Proofs.YtbcbfjnlnmhpbaaGreat
set_option linter.unusedVariables false
set_option linter.unusedSimpArgs false
set_option maxHeartbeats 400000
set_option maxRecDepth 100000
namespace Go.Proofs.YtbcbfjnlnmhpbaaGreat
open Go Go.X
section
variable {α : Type}
def pos (lt : α → α → Bool) (x : α) (L : List α) : Nat := L.length - (L.reverse.takeWhile (lt x)).length
theorem SetAt.of : ∀ {l : List Value} {i : Nat} {v : Value}, i < l.length → SetAt l i v (l.set i v)
  | u :: l, 0, v, _ => .z
  | u :: l, i + 1, v, h => .s (SetAt.of (by simpa using h))
end
end Go.Proofs.YtbcbfjnlnmhpbaaGreat
set_option linter.unusedVariables false
set_option linter.unusedSimpArgs false
set_option maxHeartbeats 400000
set_option maxRecDepth 100000
namespace Go.Proofs.YtbcbfjnlnmhpbaaGreat
open Go Go.X
end Go.Proofs.YtbcbfjnlnmhpbaaGreat
set_option linter.unusedVariables false
set_option linter.unusedSimpArgs false
set_option maxHeartbeats 400000
set_option maxRecDepth 100000
namespace Go.Proofs.YtbcbfjnlnmhpbaaGreat
open Go Go.X
theorem take_snoc_eq {α : Type} {l1 l2 : List α} {k : Nat} {x : α} (h : l1.take k = l2.take k) (h1 : l1[k]? = some x) (h2 : l2[k]? = some x) : l1.take (k + 1) = l2.take (k + 1) := by
  rw [List.take_add_one, List.take_add_one, h, h1, h2]
theorem sameInts_ok (M : Nat → Prop) (l1 l2 : List Int) (v1 v2 : Value) (w : World) (hv1 : Sl M w v1 1 l1.length (ints l1)) (hv2 : Sl M w v2 1 l2.length (ints l2)) :
    Fx Tryz.prog 27 [v1, v2] w (fun u w' => u = .bool (decide (l1 = l2)) ∧ Grow w w') := by
  obtain ⟨a1, c1, rfl⟩ := hv1.shape
  obtain ⟨a2, c2, rfl⟩ := hv2.shape
  have hbig := hv1.big
  refine enter Tryz.func27 rfl rfl rfl _ (Pick.sub (l := [0, 1]) (.cons rfl (.cons rfl .nil))) ?_
  refine RK.seq ?_
  refine RK.region ?_
  refine RL.p rfl rfl ?_
  refine RL.done ?_
  iterate 2 refine RK.seq ?_
  refine RK.region ?_
  refine RL.p rfl rfl ?_
  refine RL.q (.free rfl) rfl rfl (Yld.lenSl u35 rfl) ?_
  refine RL.p rfl rfl ?_
  refine RL.q (.free rfl) rfl rfl (Yld.lenSl u35 rfl) ?_
  refine RL.p rfl rfl ?_
  refine RL.done ?_
  first | refine RK.condD rfl (fun h10 => ?_) (fun h10 => ?_) | refine RK.condN rfl (fun h10 => ?_) (fun h10 => ?_) | refine RK.cond rfl (fun h10 => ?_) (fun h10 => ?_)
  · refine RK.seq ?_
    refine RK.region ?_
    refine RL.p rfl rfl ?_
    refine RL.done ?_
    refine RK.ret_of Tryz.func27 (res1 rfl rfl) ?_ _
    exact ⟨_, rfl, congrArg _ (by rw [eq_comm, decide_eq_false_iff_not]; rintro rfl; simp at h10), Mod.refl _ _⟩
  · refine RK.skip ?_
    iterate 2 refine RK.seq ?_
    refine RK.region ?_
    refine RL.p rfl rfl ?_
    refine RL.done ?_
    refine RK.block ?_
    refine RK.loop (fun k : Nat => [(0, .slice a1 l1.length c1), (1, .slice a2 l2.length c2), (5, .int .i64 k)]) (fun k w' => Grow w w' ∧ k ≤ l1.length ∧ l1.take k = l2.take k) (fun k => l1.length - k) 0 ⟨rfl, rfl, rfl, trivial⟩ ⟨Mod.refl _ _, by omega, by simp⟩ (fun k w' hI ih => ?_)
    obtain ⟨hg, hk, htk⟩ := hI
    have hl : l1.length = l2.length := by simp at h10; omega
    iterate 2 refine RK.seq ?_
    refine RK.region ?_
    iterate 2 refine RL.p rfl rfl ?_
    refine RL.q (.free rfl) rfl rfl (Yld.lenSl u35 rfl) ?_
    refine RL.p rfl rfl ?_
    refine RL.done ?_
    first | refine RK.condD rfl (fun h14 => ?_) (fun h14 => ?_) | refine RK.condN rfl (fun h14 => ?_) (fun h14 => ?_) | refine RK.cond rfl (fun h14 => ?_) (fun h14 => ?_)
    · obtain ⟨x, hx⟩ : ∃ x, l1[k]? = some x := ⟨l1[k]'(by omega), List.getElem?_eq_getElem (by omega)⟩
      obtain ⟨y, hy⟩ : ∃ y, l2[k]? = some y := ⟨l2[k]'(by omega), List.getElem?_eq_getElem (by omega)⟩
      obtain ⟨b1, o1, c1', he1, _, _, hc1⟩ := hv1.elem1 (k := k) (u := .int .i64 x) (by simp [hx])
      obtain ⟨b2, o2, c2', he2, _, _, hc2⟩ := hv2.elem1 (k := k) (u := .int .i64 y) (by simp [hy])
      cases he1
      cases he2
      refine RK.skip ?_
      refine RK.seq ?_
      refine RK.block ?_
      refine RK.seq ?_
      refine RK.drawM No [(0, false), (1, false), (2, false), (3, false), (4, false), (5, false), (6, false), (7, false), (8, false)] [] mixed (by kernel_rfl) ?_
      iterate 2 refine DL.p rfl rfl rfl ?_
      refine DL.qf rfl (.free rfl) rfl rfl (Yld.indexAddrN u35 i3 rfl rfl (by omega)) ?_
      refine DL.q rfl (.free rfl) rfl rfl rfl (Yld.load p3 rfl (atM (hg.cell (hc1 k (.int .i64 x) (by simp [hx])) (fun h => h)) (id))) (Mod.drew _ _) ?_
      iterate 2 refine DL.p rfl rfl rfl ?_
      refine DL.qf rfl (.free rfl) rfl rfl (Yld.indexAddrN u35 i3 rfl rfl (by omega)) ?_
      refine DL.q rfl (.free rfl) rfl rfl rfl (Yld.load p3 rfl (atM (hg.cell (hc2 k (.int .i64 y) (by simp [hy])) (fun h => h)) (id))) (Mod.drew _ _) ?_
      refine DL.p rfl rfl rfl ?_
      refine DL.done ?_
      first | refine RK.condD rfl (fun h25 => ?_) (fun h25 => ?_) | refine RK.condN rfl (fun h25 => ?_) (fun h25 => ?_) | refine RK.cond rfl (fun h25 => ?_) (fun h25 => ?_)
      · refine RK.seq ?_
        refine RK.region ?_
        refine RL.p rfl rfl ?_
        refine RL.done ?_
        refine RK.ret_of Tryz.func27 (res1 rfl rfl) ?_ _
        exact ⟨_, rfl, congrArg _ (by rw [eq_comm, decide_eq_false_iff_not]; rintro rfl; rw [hx] at hy; cases hy; simp at h25), hg.trans (Mod.drew _ _)⟩
      · refine RK.skip ?_
        refine RK.inBlock ?_
        refine RK.region ?_
        iterate 2 refine RL.p rfl rfl ?_
        refine RL.re (d := 16) rfl rfl (succ_i64 (by omega)) ?_
        refine RL.p rfl rfl ?_
        refine RL.done ?_
        exact RK.back (ih (k + 1) _ ⟨hg.trans (Mod.drew _ _), by omega, take_snoc_eq htk hx (by
            have : x = y := by simpa using h25
            rw [this]; exact hy)⟩ (by omega)) ⟨rfl, rfl, rfl, trivial⟩
    · refine RK.exit rfl ?_
      refine RK.seq ?_
      refine RK.region ?_
      refine RL.p rfl rfl ?_
      refine RL.done ?_
      refine RK.ret_of Tryz.func27 (res1 rfl rfl) ?_ _
      exact ⟨_, rfl, congrArg _ (by
          have e1 : k = l1.length := by omega
          have h1 : l1.take k = l1 := List.take_of_length_le (by omega)
          have h2 : l2.take k = l2 := List.take_of_length_le (by omega)
          rw [h1, h2] at htk; simp [htk]), hg⟩
def findS (l : List (List Lab)) (ls : List Lab) : Option Nat := l.findIdx? fun x => decide (x = ls)
def optI : Option Nat → Int
  | some i => i
  | none => -1
end Go.Proofs.YtbcbfjnlnmhpbaaGreat
set_option linter.unusedVariables false
set_option linter.unusedSimpArgs false
set_option maxHeartbeats 400000
set_option maxRecDepth 100000
namespace Go.Proofs.YtbcbfjnlnmhpbaaGreat
open Go Go.X
theorem take_ok (w : World) (p : Nat) (most last : Int) (out : List Int) (v : Value) (hp : PoolAt w p most last out v) (h1 : out.length < most) (h2 : last ≠ 2147483647) (h3 : 0 ≤ last) (h4 : last ≤ 2147483647) (h5 : out.length ≤ 1000000) :
    Fx Tryz.prog 47 [pp p] w (fun u w' => u = .tuple #[.int .i64 (last + 1), .bool true] ∧ ∃ v', PoolAt w' p most (last + 1) (out ++ [last + 1]) v' ∧ Mod (fun b => b = p ∨ v.ownBlock = some b) w w' ∧ (∀ b, v'.ownBlock = some b → v.ownBlock = some b ∨ w.heap.size ≤ b)) := by
  obtain ⟨ad, c, rfl⟩ := hp.row.slice
  refine enter Tryz.func47 rfl rfl rfl _ (Pick.sub (l := [0]) (.cons rfl .nil)) ?_
  refine RK.seq ?_
  refine RK.region ?_
  iterate 2 refine RL.p rfl rfl ?_
  refine RL.done ?_
  iterate 2 refine RK.seq ?_
  refine RK.drawM No [(0, false), (1, false), (2, false), (3, false), (4, false), (5, false), (6, false), (7, false), (8, false), (9, false), (10, false), (11, false), (12, false), (13, false), (14, false), (15, false), (16, false)] [] mixed (by kernel_rfl) ?_
  iterate 2 refine DL.p rfl rfl rfl ?_
  refine DL.qf rfl (.free rfl) rfl rfl (Yld.fieldAddr fo152_2 rfl) ?_
  refine DL.q rfl (.free rfl) rfl rfl rfl (Yld.load p35 rfl (atM (hp.blk.cell rfl) id)) (Mod.drew _ _) ?_
  refine DL.q rfl (.free rfl) rfl rfl rfl (Yld.lenSl u35 rfl) (Mod.drew _ _) ?_
  iterate 2 refine DL.p rfl rfl rfl ?_
  refine DL.qf rfl (.free rfl) rfl rfl (Yld.fieldAddr fo152_0 rfl) ?_
  refine DL.q rfl (.free rfl) rfl rfl rfl (Yld.load p3 rfl (atM (hp.blk.cell rfl) id)) (Mod.drew _ _) ?_
  iterate 2 refine DL.p rfl rfl rfl ?_
  refine DL.knownF (d := 14) rfl rfl (decide_eq_false (by omega)) ?_
  iterate 2 refine DL.qf rfl (.yes rfl rfl rfl) rfl rfl (Yld.pure rfl) ?_
  refine DL.qf rfl (.yes rfl rfl rfl) rfl rfl (Yld.fieldAddr fo152_1 rfl) ?_
  refine DL.q rfl (.yes rfl rfl rfl) rfl rfl rfl (Yld.load p3 rfl (atM (hp.blk.cell rfl) id)) (Mod.drew _ _) ?_
  refine DL.qf rfl (.yes rfl rfl rfl) rfl rfl (Yld.pure rfl) ?_
  refine DL.p rfl rfl rfl ?_
  refine DL.done ?_
  refine RK.condF (hcF rfl (decide_eq_false (by omega))) ?_
  refine RK.skip ?_
  refine RK.seq ?_
  refine RK.region ?_
  iterate 2 refine RL.p rfl rfl ?_
  refine RL.q (.free rfl) rfl rfl (Yld.fieldAddr fo152_1 rfl) ?_
  refine RL.q (.free rfl) rfl rfl (Yld.load p3 rfl (at1 (hp.blk.cell rfl))) ?_
  refine RL.p rfl rfl ?_
  refine RL.re (d := 25) rfl rfl (add_i64 (z := last + 1) rfl (by omega) (by omega)) ?_
  refine RL.p rfl rfl ?_
  refine RL.q (.free rfl) rfl rfl (Yld.fieldAddr fo152_1 rfl) ?_
  refine RL.op' (.free rfl) rfl (Does.store i3 rfl rfl rfl hp.blk (.s .z)) ?_
  rintro _ w1 ⟨hb1, hm1, hs1⟩
  have hr1 := (hp.row.mod (Mod.drew No _) (fun _ _ h => h)).mod hm1 (fun b e h => hp.ne (h ▸ e))
  refine RL.done ?_
  refine RK.seq ?_
  refine RK.drawM (fun b => (Value.slice ad out.length c).ownBlock = some b) [(0, false), (1, false), (2, false), (3, false), (4, false), (5, false), (6, false), (7, false), (8, false), (9, true), (10, true), (11, false), (12, false), (13, true)] [13] mixed (by kernel_rfl) ?_
  iterate 3 refine DL.p rfl rfl rfl ?_
  refine DL.qf rfl (.free rfl) rfl rfl (Yld.fieldAddr fo152_2 rfl) ?_
  refine DL.q rfl (.free rfl) rfl rfl rfl (Yld.load p35 rfl (atM (hb1.cell rfl) (fun h => hp.ne h))) (Mod.drew _ _) ?_
  iterate 2 refine DL.p rfl rfl rfl ?_
  refine DL.qf rfl (.free rfl) rfl rfl (Yld.fieldAddr fo152_1 rfl) ?_
  refine DL.q rfl (.free rfl) rfl rfl rfl (Yld.load p3 rfl (atM (hb1.cell rfl) (fun h => hp.ne h))) (Mod.drew _ _) ?_
  refine DL.op rfl (.free rfl) rfl rfl (Does.slice1 u35 i3 rfl rfl rfl rfl rfl) ?_
  rintro _ w2 ⟨b2, rfl, hn2⟩
  refine ⟨(Mod.drew _ _).trans (Mod.any' hn2.grow), ?_⟩
  refine DL.op rfl (.free rfl) rfl rfl (Does.append u35 i3 rfl rfl rfl rfl rfl ((hr1.mod (Mod.drew No _) (fun _ _ h => h)).mod hn2.grow (fun _ _ h => h)) (Sl.new hn2 1 1 rfl (by omega) (fun h => h)) (rfl) (by omega)) ?_
  rintro u3 w3 ⟨hr3, hm3, hu3⟩
  refine ⟨((Mod.drew _ _).trans (Mod.any' hn2.grow)).trans hm3, ?_⟩
  have hpl := hp.blk.lt
  have hu3' : ∀ b, u3.ownBlock = some b → b ≠ p ∧ ((Value.slice ad out.length c).ownBlock = some b ∨ w.heap.size ≤ b) := fun b e => by
      rcases hu3 with h | h
      · rw [h] at e; exact ⟨fun hh => hp.ne (hh ▸ e), .inl e⟩
      · rw [h] at e; cases e; have h1 := hn2.size; have h2 := hm1.size; simp only [World.drew] at h1 h2 hn2; exact ⟨by omega, .inr (by omega)⟩
  obtain ⟨ad3, c3, rfl⟩ := hr3.slice
  have hb3 := ((hb1.mod (Mod.drew No _) (fun h => h)).mod hn2.grow (fun h => h)).mod hm3 (fun e => hp.ne e)
  refine DL.p rfl rfl rfl ?_
  refine DL.qf rfl (.free rfl) rfl rfl (Yld.fieldAddr fo152_2 rfl) ?_
  refine DL.opT rfl (.free rfl) rfl rfl (Does.store i35 rfl rfl rfl hb3 (.s (.s .z))) ?_
  rintro _ w4 ⟨hb4, hm4, hs4⟩
  refine DL.done ?_
  refine RK.seq ?_
  refine RK.region ?_
  iterate 2 refine RL.p rfl rfl ?_
  refine RL.q (.free rfl) rfl rfl (Yld.fieldAddr fo152_1 rfl) ?_
  refine RL.q (.free rfl) rfl rfl (Yld.load p3 rfl (at1 (hb4.cell rfl))) ?_
  iterate 2 refine RL.p rfl rfl ?_
  refine RL.done ?_
  refine RK.ret_of Tryz.func47 (res2 rfl rfl rfl) ?_ _
  exact ⟨_, rfl, rfl, _, ⟨hb4, by (show Row _ _ _ _ (out ++ [last + 1]).length (List.map _ (out ++ [last + 1]))); rw [List.map_append, List.length_append]; exact hr3.mod hm4 (fun b e h => (hu3' b e).1 h), fun e => (hu3' p e).1 rfl⟩, ((((Mod.drew _ _).trans (hm1.mono fun b _ h => .inl h)).trans ((Mod.drew _ _).trans (Mod.any' hn2.grow))).trans (hm3.mono fun b _ h => .inr h)).trans (hm4.mono fun b _ h => .inl h), fun b e => (hu3' b e).2⟩
abbrev LabK := ByteArray × ByteArray
def labK (x : Lab) : LabK := (x.name, x.value)
end Go.Proofs.YtbcbfjnlnmhpbaaGreat
set_option linter.unusedVariables false
set_option linter.unusedSimpArgs false
set_option maxHeartbeats 400000
set_option maxRecDepth 100000
namespace Go.Proofs.YtbcbfjnlnmhpbaaGreat
open Go Go.X
def addRow1 (id : Int) (r : List (LabK × List Int)) (x : Lab) : List (LabK × List Int) := putM r (labK x) (mkRow ((lookM r (labK x)).getD [] ++ [id]))
def addRows (rows : List (LabK × List Int)) (id : Int) (ls : List Lab) : List (LabK × List Int) := ls.foldl (addRow1 id) rows
end Go.Proofs.YtbcbfjnlnmhpbaaGreat
set_option linter.unusedVariables false
set_option linter.unusedSimpArgs false
set_option maxHeartbeats 400000
set_option maxRecDepth 100000
namespace Go.Proofs.YtbcbfjnlnmhpbaaGreat
open Go Go.X
structure St where
  most : Int
  last : Int
  out : List Int
  al : List (Int × List Lab × Nat)
  has : List (Int × List Lab)
  rows : List (LabK × List Int)
def own (p q ix mh mr : Nat) (vo vl : Value) : Nat → Prop := fun b => b = p ∨ b = q ∨ b = mh ∨ b = mr ∨ vo.ownBlock = some b ∨ vl.ownBlock = some b ∨ b = ix
theorem PoolAt.mod {w w' : World} {p : Nat} {most last : Int} {out : List Int} {v : Value} {M0 : Nat → Prop} (h : PoolAt w p most last out v) (hm : Mod M0 w w') (n1 : ¬ M0 p) (n2 : ∀ b, v.ownBlock = some b → ¬ M0 b) : PoolAt w' p most last out v :=
  ⟨h.blk.mod hm n1, h.row.mod hm n2, h.ne⟩
def capS (m : Int) : Int := if 16 < (if 1 > m then 1 else m) then 16 else if 1 > m then 1 else m
def St.new (m : Int) : St := ⟨capS m, 0, [], [], [], []⟩
end Go.Proofs.YtbcbfjnlnmhpbaaGreat
set_option linter.unusedVariables false
set_option linter.unusedSimpArgs false
set_option maxHeartbeats 400000
set_option maxRecDepth 100000
namespace Go.Proofs.YtbcbfjnlnmhpbaaGreat
open Go Go.X
end Go.Proofs.YtbcbfjnlnmhpbaaGreat
set_option linter.unusedVariables false
set_option linter.unusedSimpArgs false
set_option maxHeartbeats 400000
set_option maxRecDepth 100000
namespace Go.Proofs.YtbcbfjnlnmhpbaaGreat
open Go Go.X
def fullS (most last : Int) (out : List Int) : Bool := decide (most ≤ out.length ∨ last = 2147483647)
structure Ok (s : St) : Prop where
  last0 : 0 ≤ s.last
  last1 : s.last ≤ 2147483647
  most : s.most ≤ 16
  outLe : (s.out.length : Int) ≤ s.most
  alOut : s.al.length = s.out.length
  has : ∀ t ∈ s.has, t.1 ≤ s.last
  rows : ∀ t ∈ s.rows, (t.2.length : Int) ≤ 6 * s.last
  vals : ∀ a ∈ s.al, a.2.2 < 18446744073709551616
def postS (s : St) (ls : List Lab) (val : Nat) : St × Int × Bool × Int :=
  if isS ls = false then (s, 0, false, 1) else
  match findS (s.al.map (·.2.1)) ls with
  | some i => ({ s with al := s.al.modify i fun a => (a.1, a.2.1, canS val) }, ((s.al[i]?).map (·.1)).getD 0, false, 0)
  | none => if fullS s.most s.last s.out then (s, 0, false, 10) else
    ({ most := s.most, last := s.last + 1, out := s.out ++ [s.last + 1], al := s.al ++ [(s.last + 1, ls, canS val)], has := putM s.has (s.last + 1) ls, rows := addRows s.rows (s.last + 1) ls }, s.last + 1, true, 0)
theorem Ok.new (m : Int) : Ok (St.new m) := by
  refine ⟨by simp [St.new], by simp [St.new], ?_, ?_, rfl, by simp [St.new], by simp [St.new], by simp [St.new]⟩
  · simp only [St.new, capS]; split <;> omega
  · simp only [St.new, capS]; simp; split <;> omega
end Go.Proofs.YtbcbfjnlnmhpbaaGreat
set_option linter.unusedVariables false
set_option linter.unusedSimpArgs false
set_option maxHeartbeats 400000
set_option maxRecDepth 100000
namespace Go.Proofs.YtbcbfjnlnmhpbaaGreat
open Go Go.X
end Go.Proofs.YtbcbfjnlnmhpbaaGreat
set_option linter.unusedVariables false
set_option linter.unusedSimpArgs false
set_option maxHeartbeats 400000
set_option maxRecDepth 100000
namespace Go.Proofs.YtbcbfjnlnmhpbaaGreat
open Go Go.X
end Go.Proofs.YtbcbfjnlnmhpbaaGreat
set_option linter.unusedVariables false
namespace Go.X
open Go Go.RowKit Go.WideShapes Go.ChangeShapes
section
variable {H : Type} {enc : TypeId × Value → H} {P : Program} {W : World} {base : Nat} {sp : Nat → Bool} {held : Bool}
theorem trod_str {s m : Nat} {cs : List Value} {y : DataW H × List MemPlace} (hs : P.underlying s = some .string) (h : DataW.trod enc P W base sp held m s cs = some y) : ∃ a : ByteArray, cs = [.string a] ∧ a.size ≤ 9223372036854775807 := by
  cases m with
  | zero => simp [DataW.trod] at h
  | succ n =>
    unfold DataW.trod at h
    rw [hs] at h
    split at h <;> simp_all
    simp only [maxLen] at h
    omega
theorem trod_f64 {s m : Nat} {cs : List Value} {y : DataW H × List MemPlace} (hs : P.underlying s = some (.float .f64)) (h : DataW.trod enc P W base sp held m s cs = some y) : ∃ b : Nat, cs = [.float .f64 b] ∧ b < 18446744073709551616 := by
  cases m with
  | zero => simp [DataW.trod] at h
  | succ n =>
    unfold DataW.trod at h
    rw [hs] at h
    split at h <;> simp_all
    obtain ⟨⟨rfl, hw⟩, _⟩ := h
    subst_vars
    simpa [Lit.wf] using hw
theorem trod_i64 {s m : Nat} {cs : List Value} {y : DataW H × List MemPlace} (hs : P.underlying s = some (.int .i64)) (h : DataW.trod enc P W base sp held m s cs = some y) : ∃ b : Int, cs = [.int .i64 b] ∧ -9223372036854775808 ≤ b ∧ b ≤ 9223372036854775807 := by
  cases m with
  | zero => simp [DataW.trod] at h
  | succ n =>
    unfold DataW.trod at h
    rw [hs] at h
    split at h <;> simp_all
    obtain ⟨⟨rfl, hw⟩, _⟩ := h
    subst_vars
    simpa [Lit.wf, IntKind.min, IntKind.max, IntKind.signed, IntKind.bits] using hw
end
end Go.X
namespace Go.X
open Ieee
end Go.X
set_option linter.unusedVariables false
set_option linter.unusedSimpArgs false
namespace Go.X
open Go Go.RowKit
section
variable {P : Program} {n : Nat} {e : Env} {w : World} {C : World → Prop}
def fromAt (ad : Option Addr) (cap m sz : Nat) : Option Addr := ad.map fun a => if cap = m then a else a.add (m * sz)
theorem Yld.sliceFrom {d : Option Tmp} {t el : Nat} {x h : Operand} {ty : TypeId} {pos : String} {af : Array Edge} {g : Option (Nat × Bool)} (hT : SlT P t el) {z : Value} {sz by' : Nat} (hE : TI P el z sz by') {ad : Option Addr} {len cap m : Nat} {k : IntKind} (hx : ev e x = some (.slice ad len cap)) (hh : ev e h = some (.int k (m : Int))) (hm : m ≤ len) :
    Yld P n C e ⟨d, .slice t x (some h) none none, ty, pos, af, g⟩ (.slice (fromAt ad cap m sz) (len - m) (cap - m)) := by
  intro a ha w _
  have h1 : (m : Int) ≤ len := by omega
  cases ad with
  | none => simp [execOp, ha.ev hx, ha.ev hh, Instr.sliceAt, Instr.slice, run_underlying hT, Instr.sliceBounds, Instr.sliceBound, asIntOf, hE.sizeOf w, h1, hm, fromAt]
  | some ad => by_cases hcm : cap = m <;> simp [execOp, ha.ev hx, ha.ev hh, Instr.sliceAt, Instr.slice, run_underlying hT, Instr.sliceBounds, Instr.sliceBound, asIntOf, hE.sizeOf w, h1, hm, hcm, fromAt]
end
theorem Row.cap {w : World} {t : TypeId} {sz : Nat} {v : Value} {k : Nat} {xs : List Value} (h : Row w t sz v k xs) : ∃ ad c, v = .slice ad k c ∧ k ≤ c := by
  rcases h.2 with ⟨rfl, rfl⟩ | ⟨g, cap, cur, rfl, _, _, hnc, _⟩
  · exact ⟨_, _, rfl, Nat.le_refl _⟩
  · exact ⟨_, _, rfl, hnc⟩
end Go.X
set_option linter.unusedVariables false
namespace Go.X
open Go Go.RowKit
def okPre (ops : Array Oper) (fin : Array Bool → Bool) : Array Bool → List (Nat × Bool) → Bool
  | L, [] => fin L
  | L, (i, loud) :: r => (if loud then Region.ready .any ops L == [i] else (Region.ready .any ops L).contains i && Region.free .any ops L i) && okPre ops fin (L.setIfInBounds i true) r
theorem wpOp_exits {P : Program} {ops : Array Oper} {Q E : Exit → Act → World → Prop} (h1 : ∀ c a w, ¬ E (.panic c) a w) (h2 : ¬ LetsOut E) {i : Nat} {K : Act → World → Prop} {a : Act} {w : World} (h : wpOp P ops E i K a w) : wpOp P ops Q i K a w := by
  unfold wpOp at *
  split
  · rename_i ho; simpa [ho] using h
  · rename_i o ho
    simp only [ho] at h
    split
    · rename_i hw
      rw [if_pos hw] at h
      refine .inl ?_
      rcases h with h | ⟨_, h⟩
      · unfold Oper.wp at *
        generalize (execOp a.eval o).run P w = r at *
        unfold Oper.upon at *
        split at h <;> first
          | exact h
          | exact absurd h (h1 _ _ _)
          | exact h.elim
          | (refine Calls.mono h fun e w' he => ?_
             cases e with
             | returned v => exact he
             | panicked c => exact absurd he (h1 _ _ _)
             | outgrown => exact absurd he h2)
      · exact absurd h h2
    · rename_i hw
      rw [if_neg hw] at h
      exact h
theorem wpT_of_pre {P : Program} {ops : Array Oper} {S : World → Prop} {tl : List Nat} {Q E : Exit → Act → World → Prop} (hs : Region.noSelect ops = true) (hQ : ∀ c a w, ¬ Q (.panic c) a w) (hE : ∀ c a w, ¬ E (.panic c) a w) (hE2 : ¬ LetsOut E) {fin : Array Bool → Bool} {f0 : Nat} (hfin : ∀ L a w, fin L = true → E .normal a w → wpT P ops Q S tl.contains f0 L a w) :
    ∀ (l : List (Nat × Bool)) (L : Array Bool) (a : Act) (w : World), okPre ops fin L l = true → wpOrd P ops S tl E l a w → wpT P ops Q S tl.contains (l.length + f0) L a w
  | [], L, a, w, h, hw => by rw [List.length_nil, Nat.zero_add]; exact hfin L a w h hw
  | (i, false) :: r, L, a, w, h, hw => by
    simp only [okPre, Bool.and_eq_true, Bool.false_eq_true, if_false] at h
    obtain ⟨o, v, ho, hy, hr⟩ := hw
    have hrec := wpT_of_pre hs hQ hE hE2 hfin r _ _ _ h.2 hr
    have hfree := Region.free_spec ho h.1.2
    have e : ((i, false) :: r).length + f0 = (r.length + f0) + 1 := by simp; omega
    rw [e]
    rcases hy with hy | ⟨ht, hy, hSw⟩
    · exact wpT_take hs hQ ho (C := fun _ => True) (fun _ _ => trivial) (.inl fun _ => trivial) _ _ _ _ hfree (by simpa using h.1.1) hy trivial (.inl fun _ => trivial) hrec
    · refine wpT_take hs hQ ho (C := S) (fun _ h => h) (.inr fun j oj hj htj => ?_) _ _ _ _ hfree (by simpa using h.1.1) hy hSw (.inr hSw) hrec
      have h1 := List.all_eq_true.1 ht j (by simpa using htj)
      have h2 : nth ops.toList j = some oj := by rw [nth_eq]; simpa using hj
      simp only [h2] at h1
      exact h1
  | (i, true) :: r, L, a, w, h, hw => by
    simp only [okPre, Bool.and_eq_true, if_true, beq_iff_eq] at h
    have e : ((i, true) :: r).length + f0 = (r.length + f0) + 1 := by simp; omega
    rw [e]
    refine ⟨fun h0 => (by rw [h.1] at h0; cases h0), fun j hj => ?_⟩
    rw [h.1] at hj
    simp only [List.mem_singleton] at hj
    subst hj
    exact wpOp_exits hE hE2 (wpOp_mono (fun a' w' h' => ⟨h'.1, wpT_of_pre hs hQ hE hE2 hfin r _ _ _ h.2 h'.2⟩) hw)
def Fork (P : Program) (ops : Array Oper) (S : World → Prop) (tl : List Nat) (Q : Exit → Act → World → Prop) (p q : List (Nat × Bool)) : Exit → Act → World → Prop := fun x a w => x = .normal ∧ wpOrd P ops S tl Q p a w ∧ wpOrd P ops S tl Q q a w
section
variable {P : Program} {f : FuncId} {n : Nat} {R : Ending → World → Prop} {k : List Item} {e : Env} {w : World}
theorem RK.drawF {id : Nat} {l : List Oper} (M : Nat → Prop) (ord : List (Nat × Bool)) (a b : Nat) (p q : List (Nat × Bool)) (tl : List Nat) (hm : P.follows .mixedOrders = true)
    (hb : (Region.noSelect l.toArray && okPre l.toArray (fun L => Region.ready .any l.toArray L == [a, b] && okOrd l.toArray tl (L.setIfInBounds a true) p && okOrd l.toArray tl (L.setIfInBounds b true) q) (Array.replicate l.length false) ord && Nat.beq l.length (ord.length + (p.length + 1)) && Nat.beq p.length q.length) = true)
    (h : DL P n l (Mod M w) tl ord e w.drew (Fork P l.toArray (Mod M w) tl (post P f R k) ((a, true) :: p) ((b, true) :: q))) : RK P f n R (.code (.region id l.toArray true) :: k) e w := by
  intro ac ha
  simp only [Bool.and_eq_true] at hb
  obtain ⟨⟨⟨hs, hpre⟩, hl⟩, hpq⟩ := hb
  have hl : l.length = ord.length + (p.length + 1) := Nat.eq_of_beq_eq_true hl
  have hpq : p.length = q.length := Nat.eq_of_beq_eq_true hpq
  refine Runs.of_wp (wp_region_any hm (wpT_any (S := Mod M w) (T := tl.contains) _ _ _ _ ?_))
  have := wpT_of_pre (P := P) (S := Mod M w) (tl := tl) (Q := post P f R k) (E := Fork P l.toArray (Mod M w) tl (post P f R k) ((a, true) :: p) ((b, true) :: q)) hs (fun c a w h => h) (fun c a w h => by cases h.1) (fun ⟨a, w, h⟩ => by cases h.1) (f0 := p.length + 1) (fun L a' w' hfin hE => ?_) ord _ ac _ hpre (h ac ha)
  · simpa [hl] using this
  · simp only [Bool.and_eq_true, beq_iff_eq] at hfin
    obtain ⟨⟨hr, hp⟩, hq⟩ := hfin
    obtain ⟨_, h1, h2⟩ := hE
    refine ⟨fun h0 => (by rw [hr] at h0; cases h0), fun j hj => ?_⟩
    rw [hr] at hj
    simp only [List.mem_cons, List.not_mem_nil, or_false] at hj
    rcases hj with rfl | rfl
    · exact wpOp_mono (fun a2 w2 h3 => ⟨h3.1, wpT_of_ord hs (fun c a w h => h) p _ _ _ hp h3.2⟩) h1
    · rw [hpq]
      exact wpOp_mono (fun a2 w2 h3 => ⟨h3.1, wpT_of_ord hs (fun c a w h => h) q _ _ _ hq h3.2⟩) h2
theorem DL.fork {ops : List Oper} {S : World → Prop} {tl : List Nat} {Q : Exit → Act → World → Prop} {p q : List (Nat × Bool)} (h1 : DL P n ops S tl p e w Q) (h2 : DL P n ops S tl q e w Q) : DL P n ops S tl [] e w (Fork P ops.toArray S tl Q p q) := fun a ha => ⟨rfl, h1 a ha, h2 a ha⟩
end
end Go.X
set_option linter.unusedVariables false
set_option linter.unusedSimpArgs false
namespace Go.X
open Go Go.RowKit
section
variable {κ α : Type} [DecidableEq κ]
theorem cutM_nil (k : κ) : cutM ([] : List (κ × α)) k = [] := rfl
theorem cutM_cons (k j : κ) (v : α) (l : List (κ × α)) : cutM ((j, v) :: l) k = if k = j then l else (j, v) :: cutM l k := by
  unfold cutM
  simp only [placeM]
  by_cases h : k = j
  · simp [h]
  · simp only [if_neg h]
    cases placeM k l with
    | none => rfl
    | some p => rfl
theorem lookM_cons (k j : κ) (v : α) (l : List (κ × α)) : lookM ((j, v) :: l) k = if k = j then some v else lookM l k := by
  unfold lookM
  simp only [placeM]
  by_cases h : k = j
  · simp [h]
  · simp only [if_neg h, Option.map_map]
    cases placeM k l <;> rfl
theorem putM_cons (k j : κ) (u v : α) (l : List (κ × α)) : putM ((j, v) :: l) k u = if k = j then (j, u) :: l else (j, v) :: putM l k u := by
  unfold putM
  simp only [placeM]
  by_cases h : k = j
  · simp [h]
  · simp only [if_neg h]
    cases placeM k l with
    | none => rfl
    | some p => simp
theorem lookM_putM (k k' : κ) (v : α) : ∀ l : List (κ × α), lookM (putM l k v) k' = if k' = k then some v else lookM l k'
  | [] => by
    have : putM ([] : List (κ × α)) k v = [(k, v)] := rfl
    rw [this, lookM_cons]
  | (j, u) :: l => by
    rw [putM_cons]
    by_cases h : k = j
    · subst h
      rw [if_pos rfl, lookM_cons, lookM_cons]
      by_cases h' : k' = k <;> simp [h']
    · rw [if_neg h, lookM_cons, lookM_cons, lookM_putM k k' v l]
      by_cases h' : k' = j
      · rw [if_pos h', if_pos h', if_neg (fun e => h (e.symm.trans h'))]
      · rw [if_neg h', if_neg h']
theorem lookM_none {k : κ} {l : List (κ × α)} : lookM l k = none ↔ k ∉ l.map (·.1) := by
  unfold lookM
  rw [Option.map_eq_none_iff, placeM_none]
theorem putM_new {k : κ} {l : List (κ × α)} (h : lookM l k = none) (v : α) : putM l k v = l ++ [(k, v)] := by
  have : placeM k l = none := by unfold lookM at h; exact Option.map_eq_none_iff.1 h
  unfold putM; rw [this]
theorem mem_cutM {k : κ} {t : κ × α} : ∀ {l : List (κ × α)}, (l.map (·.1)).Nodup → (t ∈ cutM l k ↔ t ∈ l ∧ t.1 ≠ k)
  | [], _ => by simp [cutM_nil]
  | (j, v) :: l, h => by
    rw [List.map_cons, List.nodup_cons] at h
    rw [cutM_cons]
    by_cases hk : k = j
    · subst hk
      rw [if_pos rfl, List.mem_cons]
      constructor
      · intro ht
        exact ⟨.inr ht, fun e => h.1 (List.mem_map.2 ⟨t, ht, e⟩)⟩
      · rintro ⟨rfl | ht, hn⟩
        · exact absurd rfl hn
        · exact ht
    · rw [if_neg hk, List.mem_cons, mem_cutM h.2, List.mem_cons]
      constructor
      · rintro (rfl | ⟨ht, hn⟩)
        · exact ⟨.inl rfl, fun e => hk e.symm⟩
        · exact ⟨.inr ht, hn⟩
      · rintro ⟨rfl | ht, hn⟩
        · exact .inl rfl
        · exact .inr ⟨ht, hn⟩
theorem cutM_sub (k : κ) : ∀ l : List (κ × α), (cutM l k).Sublist l
  | [] => List.Sublist.refl _
  | (j, v) :: l => by
    rw [cutM_cons]
    by_cases hk : k = j
    · rw [if_pos hk]; exact List.sublist_cons_self _ _
    · rw [if_neg hk]; exact (cutM_sub k l).cons_cons _
theorem cutM_nodup {k : κ} {l : List (κ × α)} (h : (l.map (·.1)).Nodup) : ((cutM l k).map (·.1)).Nodup := h.sublist ((cutM_sub k l).map _)
theorem putM_nodup {k : κ} {v : α} {l : List (κ × α)} (h : (l.map (·.1)).Nodup) : ((putM l k v).map (·.1)).Nodup := by
  rw [putM_keys]
  split
  · exact h
  · rename_i hk
    rw [List.nodup_append]
    exact ⟨h, by simp, fun a ha b hb e => hk (by simp at hb; subst hb; exact e ▸ ha)⟩
theorem lookM_iff {k : κ} {v : α} : ∀ {l : List (κ × α)}, (l.map (·.1)).Nodup → (lookM l k = some v ↔ (k, v) ∈ l)
  | [], _ => by simp [lookM, placeM]
  | (j, u) :: l, h => by
    rw [List.map_cons, List.nodup_cons] at h
    rw [lookM_cons, List.mem_cons]
    by_cases hk : k = j
    · subst hk
      rw [if_pos rfl]
      constructor
      · intro e; cases e; exact .inl rfl
      · rintro (e | e)
        · cases e; rfl
        · exact absurd (List.mem_map_of_mem (f := (·.1)) e) h.1
    · rw [if_neg hk, lookM_iff h.2]
      constructor
      · exact .inr
      · rintro (e | e)
        · cases e; exact absurd rfl hk
        · exact e
theorem lookM_cutM {k k' : κ} {l : List (κ × α)} (h : (l.map (·.1)).Nodup) : lookM (cutM l k) k' = if k' = k then none else lookM l k' := by
  by_cases hk : k' = k
  · rw [if_pos hk, lookM_none]
    intro hm
    obtain ⟨t, ht, e⟩ := List.mem_map.1 hm
    exact ((mem_cutM h).1 ht).2 (by simpa [hk] using e)
  · rw [if_neg hk]
    apply Option.ext
    intro v
    rw [lookM_iff (cutM_nodup h), lookM_iff h, mem_cutM h]
    exact ⟨fun h => h.1, fun h => ⟨h, hk⟩⟩
end
theorem map_eraseIdx' {α β : Type} (f : α → β) : ∀ (l : List α) (i : Nat), (l.eraseIdx i).map f = (l.map f).eraseIdx i
  | [], i => by simp
  | x :: l, 0 => by simp
  | x :: l, i + 1 => by simp [map_eraseIdx' f l i]
section
variable {P : Program} {n : Nat} {e : Env} {w : World} {κ : Type} [DecidableEq κ] {enc : κ → Value}
end
end Go.X
set_option linter.unusedVariables false
set_option linter.unusedSimpArgs false
namespace Go.X
open Go Go.RowKit
theorem Row.whole {w : World} {t : TypeId} {sz : Nat} {v : Value} {k : Nat} {xs : List Value} (h : Row w t sz v k xs) (hk : 0 < k) : ∃ g cap cs, v = .slice (some ⟨g, 0, none⟩) k cap ∧ Blk w g t cs ∧ cs.length = cap * sz ∧ k ≤ cap ∧ cap ≤ maxLen ∧ cs.take (k * sz) = xs := by
  rcases h.2 with ⟨rfl, rfl⟩ | ⟨g, cap, cur, rfl, _, hg, h1, h2, h3, h4⟩
  · omega
  · exact ⟨g, cap, cur.toList, rfl, by unfold Blk; simpa using hg, by simpa using h3, h1, h2, h4⟩
theorem Row.shut {w : World} {t g sz cap k : Nat} {cs : List Value} (h : Blk w g t cs) (hl : cs.length = cap * sz) (hk : k ≤ cap) (hc : cap ≤ maxLen) : Row w t sz (.slice (some ⟨g, 0, none⟩) k cap) k (cs.take (k * sz)) :=
  ⟨by rw [List.length_take, hl]; exact Nat.min_eq_left (Nat.mul_le_mul_right _ hk), .inr ⟨g, cap, cs.toArray, rfl, Nat.zero_le _, h, hk, hc, by simpa using hl, by simp⟩⟩
section
variable {P : Program} {n : Nat} {e : Env} {w : World} {C : World → Prop}
theorem Blk.setRow {g t : Nat} {cs cs' : List Value} (h : Blk w g t cs) : Blk (w.setRow g cs'.toArray) g t cs' ∧ Mod (· = g) w (w.setRow g cs'.toArray) ∧ (w.setRow g cs'.toArray).heap.size = w.heap.size := by
  have hlt := h.lt
  unfold Blk at h
  have e : w.setRow g cs'.toArray = { w with heap := w.heap.setIfInBounds g (.cells cs'.toArray t (0, 0)) } := by
    have h' : w.heap[g] = Obj.cells cs.toArray t := (Array.getElem?_eq_some_iff.1 h).2
    simp [World.setRow, Array.modify, Array.modifyM, hlt, h', Array.setIfInBounds]
  rw [e]
  exact ⟨by simp [Blk, hlt], ⟨rfl, rfl, rfl, by simp, fun k hk hn => by simp [Array.getElem?_setIfInBounds_ne (Ne.symm hn)]⟩, by simp⟩
theorem Does.appendIn {d : Option Tmp} {t el : Nat} {s x : Operand} {ty : TypeId} {pos : String} {af : Array Edge} {g' : Option (Nat × Bool)} (ht : SlT P t el) {z : Value} {sz by' : Nat} (hT : TI P el z sz by')
    {g i cap m : Nat} {u : Value} {cs news : List Value} (hs : ev e s = some (.slice (some ⟨g, 0, none⟩) i cap)) (hx : ev e x = some u) (hb : Blk w g el cs) (hl : cs.length = cap * sz) (hu : Sl No w u sz m news) (h1 : news.all (·.oneCell') = true) (hroom : i + m ≤ cap) :
    Does P n e w ⟨d, .call { callee := .builtin .append, args := #[s, x], argTypes := #[t, t] }, ty, pos, af, g'⟩
      (fun v' w' => v' = .slice (some ⟨g, 0, none⟩) (i + m) cap ∧ (∃ cs', Blk w' g el cs' ∧ cs'.length = cs.length ∧ cs'.take ((i + m) * sz) = cs.take (i * sz) ++ news) ∧ Mod (· = g) w w' ∧ w'.heap.size = w.heap.size) := by
  obtain ⟨q, hi, hz, hs', hby⟩ := hT.out
  obtain ⟨ad, c, rfl, hf⟩ := hu.form
  have hln := hu.len
  by_cases hm : m = 0
  · subst hm
    have hn : news = [] := List.eq_nil_of_length_eq_zero (by simpa using hln)
    subst hn
    refine Does.of_run (v := .slice (some ⟨g, 0, none⟩) (i + 0) cap) (w' := w) (fun a ha => ?_) ⟨rfl, ⟨cs, hb, rfl, by simp⟩, Mod.refl _ _, rfl⟩
    have hroom' : i ≤ cap := by omega
    cases ad <;> simp [execOp, resolve, invoke, builtin, ha.ev hs, ha.ev hx, Builtin.append_, run_underlying ht, sizeOf, typeInfo, hi, Builtin.lenOf, Builtin.firstCells, hroom', storeCells, loadCells, loadCellsFrom]
  · obtain ⟨b, o, rfl, _, hc⟩ := hf (by omega)
    have hfit : i * sz + news.length ≤ cs.length := by rw [hln, hl, ← Nat.add_mul]; exact Nat.mul_le_mul_right _ hroom
    have hr := run_append_room (P := P) (w := w) t ty el q ht hi g i cap cs.toArray hb ⟨b, o, none⟩ m c news (by rw [hln, hs']) (fun j u hj => by rw [add_none]; exact hc j u hj) (List.all_eq_true.1 h1) hroom (by rw [hs']; simpa using hfit)
    obtain ⟨g1, g2, g3⟩ := hb.setRow (cs' := (cs.toArray.toList.take (i * q.size) ++ news ++ cs.toArray.toList.drop (i * q.size + news.length)))
    refine Does.of_run (v := _) (w' := _) (fun a ha => ?_) ⟨rfl, ⟨_, g1, ?_, ?_⟩, g2, g3⟩
    · simp only [execOp, resolve, invoke, builtin, Array.map, ha.ev hs, ha.ev hx]
      simp [ha.ev hs, ha.ev hx, hr]
    · rw [hs']
      simp only [List.length_append, List.length_take, List.length_drop]
      omega
    · rw [hs']
      have e1 : (cs.take (i * sz) ++ news).length = (i + m) * sz := by
        rw [List.length_append, List.length_take, hln, Nat.min_eq_left (by omega), Nat.add_mul]
      simp only []
      rw [← e1, List.take_left]
theorem Yld.sliceLH {d : Option Tmp} {t el : Nat} {x l h : Operand} {ty : TypeId} {pos : String} {af : Array Edge} {g : Option (Nat × Bool)} (hT : SlT P t el) {z : Value} {sz by' : Nat} (hE : TI P el z sz by') {ad : Option Addr} {len cap lo hi : Nat} {k k' : IntKind} (hx : ev e x = some (.slice ad len cap)) (hl : ev e l = some (.int k (lo : Int))) (hh : ev e h = some (.int k' (hi : Int))) (h1 : lo ≤ hi) (h2 : hi ≤ cap) :
    Yld P n C e ⟨d, .slice t x (some l) (some h) none, ty, pos, af, g⟩ (.slice (fromAt ad cap lo sz) (hi - lo) (cap - lo)) := by
  intro a ha w _
  have e1 : (hi : Int) ≤ cap := by omega
  have e2 : (lo : Int) ≤ hi := by omega
  cases ad with
  | none => simp [execOp, ha.ev hx, ha.ev hl, ha.ev hh, Instr.sliceAt, Instr.slice, run_underlying hT, Instr.sliceBounds, Instr.sliceBound, asIntOf, hE.sizeOf w, e1, e2, h1, h2, fromAt]
  | some ad =>
    by_cases hcm : cap = lo
    · subst hcm
      obtain rfl : hi = cap := by omega
      simp [execOp, ha.ev hx, ha.ev hl, ha.ev hh, Instr.sliceAt, Instr.slice, run_underlying hT, Instr.sliceBounds, Instr.sliceBound, asIntOf, hE.sizeOf w, fromAt]
    · simp [execOp, ha.ev hx, ha.ev hl, ha.ev hh, Instr.sliceAt, Instr.slice, run_underlying hT, Instr.sliceBounds, Instr.sliceBound, asIntOf, hE.sizeOf w, e1, e2, h1, h2, hcm, fromAt]
theorem Yld.slice3 {d : Option Tmp} {t el : Nat} {x l h m : Operand} {ty : TypeId} {pos : String} {af : Array Edge} {g : Option (Nat × Bool)} (hT : SlT P t el) {z : Value} {sz by' : Nat} (hE : TI P el z sz by') {ad : Option Addr} {len cap lo hi mx : Nat} {k k' k2 : IntKind} (hx : ev e x = some (.slice ad len cap)) (hl : ev e l = some (.int k (lo : Int))) (hh : ev e h = some (.int k' (hi : Int))) (hm : ev e m = some (.int k2 (mx : Int))) (h1 : lo ≤ hi) (h2 : hi ≤ mx) (h3 : mx ≤ cap) :
    Yld P n C e ⟨d, .slice t x (some l) (some h) (some m), ty, pos, af, g⟩ (.slice (fromAt ad mx lo sz) (hi - lo) (mx - lo)) := by
  intro a ha w _
  have e1 : (hi : Int) ≤ mx := by omega
  have e2 : (lo : Int) ≤ hi := by omega
  have e3 : (mx : Int) ≤ cap := by omega
  cases ad with
  | none => simp [execOp, ha.ev hx, ha.ev hl, ha.ev hh, ha.ev hm, Instr.sliceAt, Instr.slice, run_underlying hT, Instr.sliceBounds, Instr.sliceBound, asIntOf, hE.sizeOf w, e1, e2, e3, h1, h2, h3, fromAt]
  | some ad =>
    by_cases hcm : mx = lo
    · subst hcm
      obtain rfl : hi = mx := by omega
      simp [execOp, ha.ev hx, ha.ev hl, ha.ev hh, ha.ev hm, Instr.sliceAt, Instr.slice, run_underlying hT, Instr.sliceBounds, Instr.sliceBound, asIntOf, hE.sizeOf w, e3, h3, fromAt]
    · simp [execOp, ha.ev hx, ha.ev hl, ha.ev hh, ha.ev hm, Instr.sliceAt, Instr.slice, run_underlying hT, Instr.sliceBounds, Instr.sliceBound, asIntOf, hE.sizeOf w, e1, e2, e3, h1, h2, h3, hcm, fromAt]
theorem Does.clear {d : Option Tmp} {t el : Nat} {x : Operand} {ty : TypeId} {pos : String} {af : Array Edge} {g' : Option (Nat × Bool)} (ht : SlT P t el) {z : Value} {sz by' : Nat} (hT : TI P el z sz by') (hzs : z.cells.size = sz) (hz1 : z.cells.all (·.oneCell') = true)
    {g lo m cap c : Nat} {cs : List Value} (hx : ev e x = some (.slice (fromAt (some ⟨g, 0, none⟩) cap lo sz) m c)) (hb : Blk w g el cs) (hl : cs.length = cap * sz) (hroom : lo + m ≤ cap) :
    Does P n e w ⟨d, .call { callee := .builtin .clear, args := #[x], argTypes := #[t] }, ty, pos, af, g'⟩
      (fun _ w' => (∃ cs', Blk w' g el cs' ∧ cs'.length = cs.length ∧ cs'.take (lo * sz) = cs.take (lo * sz)) ∧ Mod (· = g) w w' ∧ w'.heap.size = w.heap.size) := by
  by_cases hm : m = 0
  · subst hm
    refine Does.of_run (v := .tuple #[]) (w' := w) (fun a ha => ?_) ⟨⟨cs, hb, rfl, rfl⟩, Mod.refl _ _, rfl⟩
    simp only [fromAt, Option.map_some] at hx
    simp [execOp, resolve, invoke, builtin, ha.ev hx, Builtin.clear_, run_underlying ht]
  · have hne : ¬ cap = lo := by omega
    simp only [fromAt, Option.map_some, if_neg hne, add_none, Nat.zero_add] at hx
    have hsz : (Builtin.zeroCells z.cells m).toList.length = m * sz := by simp [Builtin.zeroCells, hzs]
    have hone : ∀ v ∈ (Builtin.zeroCells z.cells m).toList, v.oneCell' = true := fun v hv => by
      simp only [Builtin.zeroCells, Array.toList_map, List.mem_map] at hv
      obtain ⟨i, hi, rfl⟩ := hv
      have hi' : i < m * sz := by simpa [hzs] using hi
      have h0 : 0 < sz := by rcases Nat.eq_zero_or_pos sz with h | h; (rw [h] at hi'; omega); exact h
      have hlt : i % z.cells.size < z.cells.size := Nat.mod_lt _ (by omega)
      rw [getElem!_pos z.cells _ hlt]
      exact Array.all_eq_true.1 hz1 _ hlt
    have hfit : lo * sz + 0 + (Builtin.zeroCells z.cells m).toList.length ≤ cs.toArray.size := by
      rw [hsz, Nat.add_zero, ← Nat.add_mul]
      simp only [List.size_toArray, hl]
      exact Nat.mul_le_mul_right _ hroom
    have hr := run_storeCells_at (P := P) g (lo * sz) el (Builtin.zeroCells z.cells m).toList 0 cs.toArray w hb hfit hone
    obtain ⟨g1, g2, g3⟩ := hb.setRow (cs' := (cs.toArray.toList.take (lo * sz + 0) ++ (Builtin.zeroCells z.cells m).toList ++ cs.toArray.toList.drop (lo * sz + 0 + (Builtin.zeroCells z.cells m).toList.length)))
    rw [hsz] at hfit
    simp only [List.size_toArray] at hfit
    refine Does.of_run (v := .tuple #[]) (w' := _) (fun a ha => ?_) ⟨⟨_, g1, ?_, ?_⟩, g2, g3⟩
    · obtain ⟨q, rfl⟩ : ∃ q, m = q + 1 := ⟨m - 1, by omega⟩
      simp [execOp, resolve, invoke, builtin, ha.ev hx, Builtin.clear_, run_underlying ht, hT.zero w, hr]
    · simp only [List.length_append, List.length_take, List.length_drop, hsz]
      omega
    · simp only [Nat.add_zero]
      have e1 : (cs.take (lo * sz)).length = lo * sz := by rw [List.length_take]; omega
      rw [List.append_assoc, List.take_append_of_le_length (by omega), List.take_take]
      simp
end
end Go.X
namespace Go.X
open Go Go.RowKit
theorem Sl.ofBlk {M : Nat → Prop} {w : World} {g t sz cap lo m c : Nat} {cs : List Value} (h : Blk w g t cs) (hl : cs.length = cap * sz) (hr : lo + m ≤ cap) (hM : ¬ M g) (hb : m ≤ 9223372036854775807) : Sl M w (.slice (fromAt (some ⟨g, 0, none⟩) cap lo sz) m c) sz m ((cs.drop (lo * sz)).take (m * sz)) := by
  have h1 : (lo + m) * sz ≤ cap * sz := Nat.mul_le_mul_right _ hr
  rw [Nat.add_mul] at h1
  refine ⟨by rw [List.length_take, List.length_drop, hl]; omega, hb, _, _, rfl, fun h0 => ?_⟩
  have hne : ¬ cap = lo := by omega
  refine ⟨g, lo * sz, ?_, hM, fun i u hi => ?_⟩
  · simp [fromAt, hne, add_none]
  · rw [List.getElem?_take] at hi
    split at hi
    · rw [List.getElem?_drop] at hi
      exact h.cell' hi
    · cases hi
theorem flat_take {α : Type} (f : α → List Value) (sz : Nat) (hf : ∀ x, (f x).length = sz) : ∀ (xs : List α) (i : Nat), (xs.flatMap f).take (i * sz) = (xs.take i).flatMap f
  | [], i => by simp
  | x :: xs, 0 => by simp
  | x :: xs, i + 1 => by
    have e : (i + 1) * sz = (f x).length + i * sz := by rw [hf, Nat.add_mul]; omega
    rw [List.flatMap_cons, e, List.take_length_add_append, flat_take f sz hf xs i, List.take_succ_cons, List.flatMap_cons]
theorem flat_drop {α : Type} (f : α → List Value) (sz : Nat) (hf : ∀ x, (f x).length = sz) : ∀ (xs : List α) (i : Nat), (xs.flatMap f).drop (i * sz) = (xs.drop i).flatMap f
  | [], i => by simp
  | x :: xs, 0 => by simp
  | x :: xs, i + 1 => by
    have e : (i + 1) * sz = (f x).length + i * sz := by rw [hf, Nat.add_mul]; omega
    rw [List.flatMap_cons, e, List.drop_length_add_append, flat_drop f sz hf xs i, List.drop_succ_cons]
end Go.X
set_option linter.unusedVariables false
set_option linter.unusedSimpArgs false
namespace Go.X
open Go Go.RowKit
section
variable {P : Program} {n : Nat} {e : Env} {w : World} {C : World → Prop}
theorem wrap_u64 {x : Nat} (h : x < 18446744073709551616) : IntKind.u64.wrap (x : Int) = x := by rw [IntKind.wrap_u64]; omega
theorem wrap_u8 {x : Nat} (h : x < 256) : IntKind.u8.wrap (x : Int) = x := by
  have : IntKind.u8.wrap (x : Int) = (x : Int) % 256 := by rfl
  rw [this]; omega
theorem u64_and {a b : Nat} (ha : a < 18446744073709551616) (hb : b < 18446744073709551616) : IntKind.u64.wrap ((BitVec.ofInt 64 (a : Int) &&& BitVec.ofInt 64 (b : Int)).toNat : Int) = ((a &&& b : Nat) : Int) := by
  have e1 : (BitVec.ofInt 64 (a : Int)).toNat = a := by rw [BitVec.toNat_ofInt]; omega
  have e2 : (BitVec.ofInt 64 (b : Int)).toNat = b := by rw [BitVec.toNat_ofInt]; omega
  rw [BitVec.toNat_and, e1, e2]
  have : a &&& b ≤ a := Nat.and_le_left
  exact wrap_u64 (by omega)
theorem u64_or {a b : Nat} (ha : a < 18446744073709551616) (hb : b < 18446744073709551616) : IntKind.u64.wrap ((BitVec.ofInt 64 (a : Int) ||| BitVec.ofInt 64 (b : Int)).toNat : Int) = ((a ||| b : Nat) : Int) := by
  have e1 : (BitVec.ofInt 64 (a : Int)).toNat = a := by rw [BitVec.toNat_ofInt]; omega
  have e2 : (BitVec.ofInt 64 (b : Int)).toNat = b := by rw [BitVec.toNat_ofInt]; omega
  rw [BitVec.toNat_or, e1, e2]
  have : a ||| b < 2 ^ 64 := Nat.or_lt_two_pow (by omega) (by omega)
  exact wrap_u64 (by omega)
theorem Yld.shr {d : Option Tmp} {t : Nat} {x y : Operand} {t' ty : TypeId} {pos : String} {af : Array Edge} {g : Option (Nat × Bool)} {k k' : IntKind} {a s : Nat} (hx : ev e x = some (.int k (a : Int))) (hy : ev e y = some (.int k' (s : Int))) (hs : s ≤ k.bits) :
    Yld P n C e ⟨d, .binOp .shr t x y t', ty, pos, af, g⟩ (.int k ((a >>> s : Nat) : Int)) := by
  intro ac ha w _
  have h0 : ¬ ((s : Int) < 0) := by omega
  have h1 : min s k.bits = s := Nat.min_eq_left hs
  have h2 : (a : Int).fdiv (2 ^ s) = ((a >>> s : Nat) : Int) := by
    rw [Nat.shiftRight_eq_div_pow, Int.fdiv_eq_ediv_of_nonneg _ (by exact Int.le_of_lt (Int.pow_pos (by decide)))]
    simp
  simp [execOp, ha.ev hx, ha.ev hy, eqGuard, binOp, Op.shift, h0, h1]
  simpa using h2
theorem Yld.shl {d : Option Tmp} {t : Nat} {x y : Operand} {t' ty : TypeId} {pos : String} {af : Array Edge} {g : Option (Nat × Bool)} {k k' : IntKind} {a s : Nat} (hx : ev e x = some (.int k (a : Int))) (hy : ev e y = some (.int k' (s : Int))) (hs : s ≤ k.bits) :
    Yld P n C e ⟨d, .binOp .shl t x y t', ty, pos, af, g⟩ (.int k (k.wrap ((a <<< s : Nat) : Int))) := by
  intro ac ha w _
  have h0 : ¬ ((s : Int) < 0) := by omega
  have h1 : min s k.bits = s := Nat.min_eq_left hs
  have h2 : (a : Int) * 2 ^ s = ((a <<< s : Nat) : Int) := by
    rw [Nat.shiftLeft_eq]; simp
  simp [execOp, ha.ev hx, ha.ev hy, eqGuard, binOp, Op.shift, h0, h1]
  have := congrArg k.wrap h2
  simpa using this
theorem Yld.quo {d : Option Tmp} {t : Nat} {x y : Operand} {t' ty : TypeId} {pos : String} {af : Array Edge} {g : Option (Nat × Bool)} {k : IntKind} {a b : Int} (hx : ev e x = some (.int k a)) (hy : ev e y = some (.int k b)) (hb : b ≠ 0) :
    Yld P n C e ⟨d, .binOp .quo t x y t', ty, pos, af, g⟩ (.int k (k.wrap (a.tdiv b))) := by
  intro ac ha w _
  simp [execOp, ha.ev hx, ha.ev hy, eqGuard, binOp, Op.intDiv, hb]
theorem Yld.rem {d : Option Tmp} {t : Nat} {x y : Operand} {t' ty : TypeId} {pos : String} {af : Array Edge} {g : Option (Nat × Bool)} {k : IntKind} {a b : Int} (hx : ev e x = some (.int k a)) (hy : ev e y = some (.int k b)) (hb : b ≠ 0) :
    Yld P n C e ⟨d, .binOp .rem t x y t', ty, pos, af, g⟩ (.int k (a.tmod b)) := by
  intro ac ha w _
  simp [execOp, ha.ev hx, ha.ev hy, eqGuard, binOp, Op.intDiv, hb]
end
end Go.X
set_option linter.unusedVariables false
set_option linter.unusedSimpArgs false
namespace Go.X
open Go Go.RowKit
section
variable {P : Program} {n : Nat} {e : Env} {w : World}
theorem loadVarN {t b o : Nat} {cs : List Value} (hT : Agg P t cs.length) (hc : ∀ j v, cs[j]? = some v → w.cell? ⟨b, o + j, none⟩ = some v) : (loadVar t ⟨b, o, none⟩).run P w = .ok (.agg cs.toArray) w := by
  have := run_loadCells_list (P := P) w ⟨b, o, none⟩ cs (fun j v hj => by rw [add_none]; exact hc j v hj)
  simp [loadVar, hT.agg w, hT.size w, this]
theorem resC {fn : Func} {a t : Nat} (h : fn.results = #[.cell a t]) {b : Nat} (ha : get e a = some (.pointer (some ⟨b, 0, none⟩))) {cs : List Value} (hT : Agg P t cs.length) {T : Nat} (hc : Blk w b T cs) : ∀ ac, Fits e n ac → (results fn ac.tmps).run P w = .ok (.agg cs.toArray) w := fun ac hac => by
  have h1 := hac.look a _ ha
  rw [Array.getD_eq_getD_getElem?] at h1
  have h2 := loadVarN (P := P) (w := w) (b := b) (o := 0) hT (fun j v hj => by rw [Nat.zero_add]; exact hc.cell' hj)
  simp [results, h, h1, asAddr, h2]
theorem resCT {fn : Func} {a t u : Nat} (h : fn.results = #[.cell a t, .tmp u]) {b : Nat} (ha : get e a = some (.pointer (some ⟨b, 0, none⟩))) {cs : List Value} (hT : Agg P t cs.length) {T : Nat} (hc : Blk w b T cs) {v : Value} (hv : get e u = some v) : ∀ ac, Fits e n ac → (results fn ac.tmps).run P w = .ok (.tuple #[.agg cs.toArray, v]) w := fun ac hac => by
  have h1 := hac.look a _ ha
  have h3 := hac.look u _ hv
  rw [Array.getD_eq_getD_getElem?] at h1 h3
  have h2 := loadVarN (P := P) (w := w) (b := b) (o := 0) hT (fun j v hj => by rw [Nat.zero_add]; exact hc.cell' hj)
  simp [results, h, h1, h3, asAddr, h2]
end
end Go.X
set_option linter.unusedVariables false
set_option linter.unusedSimpArgs false
namespace Go.X
open Go Go.RowKit
section
variable {P : Program} {n : Nat} {e : Env} {w : World} {C : World → Prop}
end
theorem Sl.pass {M M' : Nat → Prop} {w w' : World} {v : Value} {sz n : Nat} {cs : List Value} (h : Sl M w v sz n cs) (hsz : 0 < sz) (hm : Mod M w w') (hM : ∀ b, M' b → M b ∨ w.heap.size ≤ b) : Sl M' w' v sz n cs := by
  have h1 : Sl (fun b => M b ∨ M' b) w v sz n cs := h.off hsz (fun b hb e => by
    rcases e with e | e
    · exact e
    · rcases hM b e with h2 | h2
      · exact h2
      · omega)
  exact (h1.mod (hm.mono fun b _ e => .inl e)).off hsz (fun b _ e => .inr e)
end Go.X
set_option linter.unusedVariables false
set_option linter.unusedSimpArgs false
namespace Go.X
open Go Go.RowKit
inductive OT where
  | nil
  | op (i : Nat) (loud : Bool) (t : OT)
  | fork (i : Nat) (p : OT) (j : Nat) (q : OT)
  | fork3 (i : Nat) (p : OT) (j : Nat) (q : OT) (m : Nat) (r : OT)
def wpOT (P : Program) (ops : Array Oper) (S : World → Prop) (tl : List Nat) (Q : Exit → Act → World → Prop) : OT → Act → World → Prop
  | .nil, a, w => Q .normal a w
  | .op i false t, a, w => ∃ o v, ops[i]? = some o ∧ (YieldsIf P ops (fun _ => True) o v a ∨ tailOk ops tl i = true ∧ YieldsIf P ops S o v a ∧ S w) ∧ wpOT P ops S tl Q t (a.put o.dst v) w
  | .op i true t, a, w => wpOp P ops Q i (fun a' w' => (tl.contains i = false → S w → S w') ∧ wpOT P ops S tl Q t a' w') a w
  | .fork i p j q, a, w => wpOp P ops Q i (fun a' w' => (tl.contains i = false → S w → S w') ∧ wpOT P ops S tl Q p a' w') a w ∧ wpOp P ops Q j (fun a' w' => (tl.contains j = false → S w → S w') ∧ wpOT P ops S tl Q q a' w') a w
  | .fork3 i p j q m r, a, w => wpOp P ops Q i (fun a' w' => (tl.contains i = false → S w → S w') ∧ wpOT P ops S tl Q p a' w') a w ∧ wpOp P ops Q j (fun a' w' => (tl.contains j = false → S w → S w') ∧ wpOT P ops S tl Q q a' w') a w ∧ wpOp P ops Q m (fun a' w' => (tl.contains m = false → S w → S w') ∧ wpOT P ops S tl Q r a' w') a w
def DT (P : Program) (n : Nat) (ops : List Oper) (S : World → Prop) (tl : List Nat) (rest : OT) (e : Env) (w : World) (K : Exit → Act → World → Prop) : Prop := ∀ a, Fits e n a → wpOT P ops.toArray S tl K rest a w
section
variable {P : Program} {f : FuncId} {n : Nat} {R : Ending → World → Prop} {k : List Item} {e : Env} {w : World} {ops : List Oper} {rest : OT} {K : Exit → Act → World → Prop} {S : World → Prop} {tl : List Nat}
theorem DT.fork {i j : Nat} {p q : OT} (h1 : DT P n ops S tl (.op i true p) e w K) (h2 : DT P n ops S tl (.op j true q) e w K) : DT P n ops S tl (.fork i p j q) e w K := fun a ha => ⟨h1 a ha, h2 a ha⟩
theorem DT.fork3 {i j m : Nat} {p q r : OT} (h1 : DT P n ops S tl (.op i true p) e w K) (h2 : DT P n ops S tl (.op j true q) e w K) (h3 : DT P n ops S tl (.op m true r) e w K) : DT P n ops S tl (.fork3 i p j q m r) e w K := fun a ha => ⟨h1 a ha, h2 a ha, h3 a ha⟩
theorem DT.op {i : Nat} {o : Oper} {d : Nat} {Q : Value → World → Prop} (hi : nth ops i = some o) (hw : Want ops.toArray e o true) (hd : o.dst = some d) (hb : Nat.blt d n = true) (hy : Does P n e w o Q) (h : ∀ v w', Q v w' → S w' ∧ DT P n ops S tl rest ((d, v) :: e) w' K) :
    DT P n ops S tl (.op i true rest) e w K := by
  intro a ha
  have hi' : ops.toArray[i]? = some o := by rw [← nth_eq, hi]
  unfold wpOT wpOp
  simp only [hi']
  rw [if_pos (hw.at_ ha)]
  refine .inl (hy a ha _ _ fun v w' hv => ⟨fun _ _ => (h v w' hv).1, ?_⟩)
  rw [hd]
  exact (h v w' hv).2 _ (ha.put hb v)
end
end Go.X
set_option linter.unusedVariables false
set_option linter.unusedSimpArgs false
set_option maxHeartbeats 400000
set_option maxRecDepth 100000
namespace Go.Proofs.YtbcbfjnlnmhpbaaGreat
open Go Go.X
end Go.Proofs.YtbcbfjnlnmhpbaaGreat
set_option linter.unusedVariables false
set_option linter.unusedSimpArgs false
set_option maxHeartbeats 400000
set_option maxRecDepth 100000
namespace Go.Proofs.YtbcbfjnlnmhpbaaGreat
open Go Go.X
abbrev Ris (l : List Int) : Prop := l.Pairwise fun x y => x < y
theorem Ris.nodup {l : List Int} (h : Ris l) : l.Nodup := List.Pairwise.imp (fun h e => by omega) h
theorem ext_ris {l1 l2 : List Int} (h1 : Ris l1) (h2 : Ris l2) (h : ∀ x, x ∈ l1 ↔ x ∈ l2) : l1 = l2 := by
  have hp : l1.Perm l2 := (List.perm_ext_iff_of_nodup h1.nodup h2.nodup).2 h
  exact List.Perm.eq_of_pairwise (le := fun a b => a < b) (fun a b _ _ h1 h2 => by omega) h1 h2 hp
theorem compactUpTo_mem (d : Array Int) : ∀ m, m ≤ d.size → ∀ x, x ∈ Lib.compactUpTo d m ↔ ∃ j, j < m ∧ d[j]! = x := by
  intro m
  induction m with
  | zero => intro _ x; simp [Lib.compactUpTo]
  | succ m ih =>
    intro hm x
    rw [Lib.compactUpTo_succ, List.mem_append, ih (by omega)]
    constructor
    · rintro (⟨j, hj, e⟩ | h)
      · exact ⟨j, by omega, e⟩
      · split at h
        · simp at h; exact ⟨m, by omega, h.symm⟩
        · simp at h
    · rintro ⟨j, hj, e⟩
      by_cases hjm : j = m
      · subst hjm
        cases hk : Lib.keeps d j with
        | true => right; simp [e]
        | false =>
          left
          simp only [Lib.keeps, decide_eq_false_iff_not, not_or, Decidable.not_not] at hk
          exact ⟨j - 1, by omega, by rw [← hk.2]; exact e⟩
      · exact .inl ⟨j, by omega, e⟩
theorem mem_compact (zs : List Int) (x : Int) : x ∈ Lib.compact zs ↔ x ∈ zs := by
  unfold Lib.compact
  rw [compactUpTo_mem _ _ (by simp)]
  constructor
  · rintro ⟨j, hj, e⟩
    have : zs.toArray[j]! = zs[j] := by simp [hj]
    rw [this] at e; subst e; exact List.getElem_mem _
  · intro h
    obtain ⟨j, hj, e⟩ := List.getElem_of_mem h
    exact ⟨j, hj, by simp [hj, e]⟩
theorem compact_ris (zs : List Int) (h : zs.Pairwise fun x y => x ≤ y) : Ris (Lib.compact zs) := by
  unfold Lib.compact
  have key : ∀ m, m ≤ zs.length → Ris (Lib.compactUpTo zs.toArray m) := by
    intro m
    induction m with
    | zero => intro _; simp [Lib.compactUpTo]
    | succ m ih =>
      intro hm
      rw [Lib.compactUpTo_succ]
      refine List.pairwise_append.2 ⟨ih (by omega), by split <;> simp, fun a ha b hb => ?_⟩
      obtain ⟨j, hj, rfl⟩ := (compactUpTo_mem _ m (by simp; omega) a).1 ha
      split at hb
      · rename_i hk
        have hb := List.mem_singleton.1 hb
        subst hb
        simp only [Lib.keeps, decide_eq_true_eq] at hk
        have e1 : ∀ i, (hi : i < zs.length) → zs.toArray[i]! = zs[i] := fun i hi => by simp [hi]
        rcases hk with rfl | hk
        · omega
        · rw [e1 m (by omega), e1 (m - 1) (by omega)] at hk
          rw [e1 j (by omega), e1 m (by omega)]
          have hle := List.pairwise_iff_getElem.1 h
          have h2 := hle (m - 1) m (by omega) (by omega) (by omega)
          by_cases hjm : j = m - 1
          · subst hjm; omega
          · have h3 := hle j (m - 1) (by omega) (by omega) (by omega)
            omega
      · simp at hb
  exact key _ (Nat.le_refl _)
theorem sortI_le (xs : List Int) : (sortI xs).Pairwise fun x y => x ≤ y := by
  have := List.pairwise_mergeSort (le := fun x y : Int => decide (x ≤ y)) (fun a b c h1 h2 => by simp only [decide_eq_true_eq] at *; omega) (fun a b => by simp only [Bool.or_eq_true, decide_eq_true_eq]; omega) xs
  exact this.imp fun h => by simpa using h
theorem mem_mkRow {xs : List Int} {x : Int} : x ∈ mkRow xs ↔ x ∈ xs := by
  unfold mkRow
  rw [mem_compact]
  simp [sortI]
theorem mkRow_ris (xs : List Int) : Ris (mkRow xs) := compact_ris _ (sortI_le xs)
theorem mkRow_id {xs : List Int} (h : Ris xs) : mkRow xs = xs := ext_ris (mkRow_ris xs) h fun _ => mem_mkRow
end Go.Proofs.YtbcbfjnlnmhpbaaGreat
set_option linter.unusedVariables false
set_option linter.unusedSimpArgs false
set_option maxHeartbeats 400000
set_option maxRecDepth 100000
namespace Go.Proofs.YtbcbfjnlnmhpbaaGreat
open Go Go.X
def cutRow (row : List Int) (id : Int) : List Int := (mkRow row).filter fun y => decide (y ≠ id)
theorem mem_cutRow {row : List Int} {id x : Int} : x ∈ cutRow row id ↔ x ∈ row ∧ x ≠ id := by simp [cutRow, mem_mkRow]
theorem cutRow_ris (row : List Int) (id : Int) : Ris (cutRow row id) := (mkRow_ris row).sublist List.filter_sublist
def cutRow1 (id : Int) (r : List (LabK × List Int)) (x : Lab) : List (LabK × List Int) :=
  if cutRow ((lookM r (labK x)).getD []) id = [] then cutM (putM r (labK x) (cutRow ((lookM r (labK x)).getD []) id)) (labK x) else putM r (labK x) (cutRow ((lookM r (labK x)).getD []) id)
def dropRows (rows : List (LabK × List Int)) (id : Int) (ls : List Lab) : List (LabK × List Int) := ls.foldl (cutRow1 id) rows
theorem cutRow_le (row : List Int) (id : Int) : (cutRow row id).length ≤ row.length := Nat.le_trans (List.length_filter_le _ _) (mkRow_le row)
theorem mem_cutM' {κ α : Type} [DecidableEq κ] {k : κ} {l : List (κ × α)} {t : κ × α} (h : t ∈ cutM l k) : t ∈ l := (cutM_sub k l).mem h
structure RowsOk (rows : List (LabK × List Int)) : Prop where
  nd : (rows.map (·.1)).Nodup
  row : ∀ t ∈ rows, Ris t.2 ∧ t.2 ≠ []
theorem mkRow_ne {xs : List Int} {x : Int} (h : x ∈ xs) : mkRow xs ≠ [] := fun e => by
  have := mem_mkRow.2 h
  rw [e] at this
  cases this
theorem RowsOk.add1 {rows : List (LabK × List Int)} (h : RowsOk rows) (id : Int) (x : Lab) : RowsOk (addRow1 id rows x) := by
  refine ⟨putM_nodup h.nd, fun t ht => ?_⟩
  rcases mem_putM ht with h1 | rfl
  · exact h.row t h1
  · exact ⟨mkRow_ris _, mkRow_ne (x := id) (by simp)⟩
theorem RowsOk.cut1 {rows : List (LabK × List Int)} (h : RowsOk rows) (id : Int) (x : Lab) : RowsOk (cutRow1 id rows x) := by
  unfold cutRow1
  have hp := putM_nodup (k := labK x) (v := cutRow ((lookM rows (labK x)).getD []) id) h.nd
  split
  · refine ⟨cutM_nodup hp, fun t ht => ?_⟩
    obtain ⟨h1, h2⟩ := (mem_cutM hp).1 ht
    rcases mem_putM h1 with h3 | rfl
    · exact h.row t h3
    · exact absurd rfl h2
  · rename_i hne
    refine ⟨hp, fun t ht => ?_⟩
    rcases mem_putM ht with h3 | rfl
    · exact h.row t h3
    · exact ⟨cutRow_ris _ _, hne⟩
theorem look_add1 (rows : List (LabK × List Int)) (id : Int) (x : Lab) (k : LabK) (j : Int) : j ∈ (lookM (addRow1 id rows x) k).getD [] ↔ j ∈ (lookM rows k).getD [] ∨ j = id ∧ labK x = k := by
  unfold addRow1
  rw [lookM_putM]
  by_cases hk : k = labK x
  · subst hk
    simp [mem_mkRow]
  · rw [if_neg hk]
    simp [Ne.symm hk]
theorem look_cut1 {rows : List (LabK × List Int)} (h : RowsOk rows) (id : Int) (x : Lab) (k : LabK) (j : Int) : j ∈ (lookM (cutRow1 id rows x) k).getD [] ↔ j ∈ (lookM rows k).getD [] ∧ ¬ (j = id ∧ labK x = k) := by
  have hp := putM_nodup (k := labK x) (v := cutRow ((lookM rows (labK x)).getD []) id) h.nd
  have e : (lookM (cutRow1 id rows x) k).getD [] = if k = labK x then cutRow ((lookM rows (labK x)).getD []) id else (lookM rows k).getD [] := by
    unfold cutRow1
    split
    · rename_i h0
      rw [lookM_cutM hp, lookM_putM]
      split
      · simp [h0]
      · rfl
    · rw [lookM_putM]
      split <;> rfl
  rw [e]
  by_cases hk : k = labK x
  · subst hk
    simp [mem_cutRow]
  · rw [if_neg hk]
    simp [Ne.symm hk]
theorem add_spec (id : Int) (ls : List Lab) : ∀ {rows : List (LabK × List Int)}, RowsOk rows → RowsOk (addRows rows id ls) ∧ ∀ k j, j ∈ (lookM (addRows rows id ls) k).getD [] ↔ j ∈ (lookM rows k).getD [] ∨ j = id ∧ ∃ x ∈ ls, labK x = k := by
  induction ls with
  | nil => intro rows h; exact ⟨h, by simp [addRows]⟩
  | cons x ls ih =>
    intro rows h
    obtain ⟨h1, h2⟩ := ih (h.add1 id x)
    refine ⟨h1, fun k j => ?_⟩
    have := h2 k j
    rw [look_add1] at this
    rw [show addRows rows id (x :: ls) = addRows (addRow1 id rows x) id ls from rfl, this]
    constructor
    · rintro ((h | ⟨rfl, h⟩) | ⟨rfl, y, hy, h⟩)
      · exact .inl h
      · exact .inr ⟨rfl, x, by simp, h⟩
      · exact .inr ⟨rfl, y, by simp [hy], h⟩
    · rintro (h | ⟨rfl, y, hy, h⟩)
      · exact .inl (.inl h)
      · rcases List.mem_cons.1 hy with rfl | hy
        · exact .inl (.inr ⟨rfl, h⟩)
        · exact .inr ⟨rfl, y, hy, h⟩
theorem drop_spec (id : Int) (ls : List Lab) : ∀ {rows : List (LabK × List Int)}, RowsOk rows → RowsOk (dropRows rows id ls) ∧ ∀ k j, j ∈ (lookM (dropRows rows id ls) k).getD [] ↔ j ∈ (lookM rows k).getD [] ∧ ¬ (j = id ∧ ∃ x ∈ ls, labK x = k) := by
  induction ls with
  | nil => intro rows h; exact ⟨h, by simp [dropRows]⟩
  | cons x ls ih =>
    intro rows h
    obtain ⟨h1, h2⟩ := ih (h.cut1 id x)
    refine ⟨h1, fun k j => ?_⟩
    have := h2 k j
    rw [look_cut1 h] at this
    rw [show dropRows rows id (x :: ls) = dropRows (cutRow1 id rows x) id ls from rfl, this]
    constructor
    · rintro ⟨⟨a, b⟩, c⟩
      refine ⟨a, ?_⟩
      rintro ⟨rfl, y, hy, h⟩
      rcases List.mem_cons.1 hy with rfl | hy
      · exact b ⟨rfl, h⟩
      · exact c ⟨rfl, y, hy, h⟩
    · rintro ⟨a, b⟩
      exact ⟨⟨a, fun ⟨e, h⟩ => b ⟨e, x, by simp, h⟩⟩, fun ⟨e, y, hy, h⟩ => b ⟨e, y, by simp [hy], h⟩⟩
structure IxI (has : List (Int × List Lab)) (rows : List (LabK × List Int)) : Prop where
  nd : (has.map (·.1)).Nodup
  ok : RowsOk rows
  mem : ∀ k id, id ∈ (lookM rows k).getD [] ↔ ∃ ls, (id, ls) ∈ has ∧ ∃ x ∈ ls, labK x = k
theorem IxI.nil : IxI [] [] := ⟨by simp, ⟨by simp, by simp⟩, by simp [lookM, placeM]⟩
theorem IxI.add {has : List (Int × List Lab)} {rows : List (LabK × List Int)} (h : IxI has rows) {id : Int} (hn : lookM has id = none) (ls : List Lab) : IxI (putM has id ls) (addRows rows id ls) := by
  obtain ⟨h1, h2⟩ := add_spec id ls h.ok
  refine ⟨putM_nodup h.nd, h1, fun k j => ?_⟩
  rw [h2, h.mem, putM_new hn]
  simp only [List.mem_append, List.mem_singleton, Prod.mk.injEq]
  constructor
  · rintro (⟨l, a, b⟩ | ⟨rfl, b⟩)
    · exact ⟨l, .inl a, b⟩
    · exact ⟨ls, .inr ⟨rfl, rfl⟩, b⟩
  · rintro ⟨l, a | ⟨rfl, rfl⟩, b⟩
    · exact .inl ⟨l, a, b⟩
    · exact .inr ⟨rfl, b⟩
theorem IxI.drop {has : List (Int × List Lab)} {rows : List (LabK × List Int)} (h : IxI has rows) (id : Int) : IxI (cutM has id) (dropRows rows id ((lookM has id).getD [])) := by
  obtain ⟨h1, h2⟩ := drop_spec id ((lookM has id).getD []) h.ok
  refine ⟨cutM_nodup h.nd, h1, fun k j => ?_⟩
  rw [h2, h.mem]
  constructor
  · rintro ⟨⟨l, a, b⟩, c⟩
    refine ⟨l, (mem_cutM h.nd).2 ⟨a, fun e => c ⟨e, ?_⟩⟩, b⟩
    simp only at e
    subst e
    rw [(lookM_iff h.nd).2 a]
    exact b
  · rintro ⟨l, a, b⟩
    obtain ⟨a1, a2⟩ := (mem_cutM h.nd).1 a
    exact ⟨⟨l, a1, b⟩, fun c => a2 c.1⟩
end Go.Proofs.YtbcbfjnlnmhpbaaGreat
set_option linter.unusedVariables false
set_option linter.unusedSimpArgs false
set_option maxHeartbeats 1000000
set_option maxRecDepth 100000
namespace Go.Proofs.YtbcbfjnlnmhpbaaGreat
open Go Go.X
def NmTo (s : ByteArray) (k : Nat) : Prop := (∀ i, i < k → chS (bt s i).toNat = true) ∧ (0 < k → letS (bt s 0).toNat = true)
theorem NmTo.no {s : ByteArray} {k : Nat} (hk : k < s.size) (h : letS (bt s k).toNat = false) (h' : k = 0 ∨ ¬ (48 ≤ ((bt s k).toNat : Int) ∧ ((bt s k).toNat : Int) ≤ 57)) : nameS s = false := by
  rcases h' with rfl | h'
  · exact name_no2 h
  · exact name_no3 hk (by simp [chS, h]; omega)
theorem NmTo.step {s : ByteArray} {k : Nat} (h : NmTo s k) (h' : letS (bt s k).toNat = true ∨ k ≠ 0 ∧ 48 ≤ ((bt s k).toNat : Int) ∧ ((bt s k).toNat : Int) ≤ 57) : NmTo s (k + 1) := by
  refine ⟨fun i hi => ?_, fun _ => ?_⟩
  · by_cases e : i = k
    · subst e
      rcases h' with h' | h'
      · simp [chS, h']
      · simp [chS]; exact .inr (by omega)
    · exact h.1 i (by omega)
  · by_cases e : k = 0
    · subst e
      rcases h' with h' | h'
      · exact h'
      · exact absurd rfl h'.1
    · exact h.2 (by omega)
theorem NmTo.end {s : ByteArray} {k : Nat} (h : NmTo s k) (hk : k = s.size) : nameS s = decide (1 ≤ s.size ∧ s.size ≤ 12) := by
  subst hk
  by_cases hs : 1 ≤ s.size ∧ s.size ≤ 12
  · rw [decide_eq_true hs]
    exact name_yes hs.1 hs.2 (h.2 (by omega)) h.1
  · rw [decide_eq_false hs]
    exact name_no1 hs
theorem name2_ok (s : ByteArray) (hsz : s.size ≤ 9223372036854775807) (w : World) : Fx Tryz.prog 119 [.string s] w (fun v w' => v = .bool (nameS s) ∧ w = w') := by
  refine enter Tryz.func119 rfl rfl rfl _ (Pick.sub (l := [0]) (.cons rfl .nil)) ?_
  refine RK.seq ?_
  refine RK.region ?_
  refine RL.p rfl rfl ?_
  refine RL.done ?_
  iterate 2 refine RK.seq ?_
  refine RK.region ?_
  refine RL.p rfl rfl ?_
  refine RL.done ?_
  refine RK.block ?_
  refine RK.loop (fun k : Nat => [(0, .string s), (3, .int .i64 k)]) (fun k w' => w = w' ∧ k ≤ s.size ∧ NmTo s k) (fun k => s.size - k) 0 ⟨rfl, rfl, trivial⟩ ⟨rfl, by omega, fun i hi => by omega, fun h => by omega⟩ (fun k w' hI ih => ?_)
  obtain ⟨rfl, hk, hn⟩ := hI
  iterate 2 refine RK.seq ?_
  refine RK.region ?_
  iterate 2 refine RL.p rfl rfl ?_
  refine RL.q (.free rfl) rfl rfl (Yld.lenStr u9 rfl) ?_
  refine RL.p rfl rfl ?_
  refine RL.done ?_
  first | refine RK.condD rfl (fun h9 => ?_) (fun h9 => ?_) | refine RK.condN rfl (fun h9 => ?_) (fun h9 => ?_) | refine RK.cond rfl (fun h9 => ?_) (fun h9 => ?_)
  · refine RK.skip ?_
    refine RK.seq ?_
    refine RK.block ?_
    refine RK.seq ?_
    refine RK.region ?_
    iterate 2 refine RL.p rfl rfl ?_
    refine RL.q (.free rfl) rfl rfl (Yld.idxStrN u9 rfl rfl (by omega)) ?_
    refine RL.p rfl rfl ?_
    refine RL.done ?_
    refine RK.seq ?_
    refine RK.region ?_
    iterate 3 refine RL.p rfl rfl ?_
    first | refine RL.splitD (d := 17) rfl rfl (fun h17 => ?_) (fun h17 => ?_) | refine RL.splitN (d := 17) rfl rfl (fun h17 => ?_) (fun h17 => ?_) | refine RL.split (d := 17) rfl rfl (fun h17 => ?_) (fun h17 => ?_)
    · iterate 2 refine RL.q (.yes rfl rfl rfl) rfl rfl (Yld.pure rfl) ?_
      iterate 2 refine RL.p rfl rfl ?_
      first | refine RL.splitD (d := 21) rfl rfl (fun h21 => ?_) (fun h21 => ?_) | refine RL.splitN (d := 21) rfl rfl (fun h21 => ?_) (fun h21 => ?_) | refine RL.split (d := 21) rfl rfl (fun h21 => ?_) (fun h21 => ?_)
      · iterate 6 refine RL.no (.no rfl rfl rfl rfl) rfl rfl ?_
        iterate 2 refine RL.p rfl rfl ?_
        iterate 2 refine RL.no (.no rfl rfl rfl rfl) rfl rfl ?_
        iterate 2 refine RL.p rfl rfl ?_
        refine RL.done ?_
        refine RK.seq ?_
        refine RK.region ?_
        iterate 3 refine RL.p rfl rfl ?_
        iterate 10 refine RL.no (.no rfl rfl rfl rfl) rfl rfl ?_
        refine RL.p rfl rfl ?_
        refine RL.done ?_
        refine RK.condF rfl ?_
        refine RK.skip ?_
        refine RK.inBlock ?_
        refine RK.region ?_
        iterate 2 refine RL.p rfl rfl ?_
        refine RL.re (d := 11) rfl rfl (succ_i64 (by omega)) ?_
        refine RL.p rfl rfl ?_
        refine RL.done ?_
        exact RK.back (ih (k + 1) _ ⟨rfl, by omega, hn.step (by first | exact .inl (by simp [letS]; omega) | exact .inr (by omega))⟩ (by omega)) ⟨rfl, rfl, trivial⟩
      · iterate 3 refine RL.q (.yes rfl rfl rfl) rfl rfl (Yld.pure rfl) ?_
        first | refine RL.splitD (d := 24) rfl rfl (fun h24 => ?_) (fun h24 => ?_) | refine RL.splitN (d := 24) rfl rfl (fun h24 => ?_) (fun h24 => ?_) | refine RL.split (d := 24) rfl rfl (fun h24 => ?_) (fun h24 => ?_)
        · iterate 3 refine RL.q (.yes rfl rfl rfl) rfl rfl (Yld.pure rfl) ?_
          iterate 2 refine RL.p rfl rfl ?_
          first | refine RL.splitD (d := 29) rfl rfl (fun h29 => ?_) (fun h29 => ?_) | refine RL.splitN (d := 29) rfl rfl (fun h29 => ?_) (fun h29 => ?_) | refine RL.split (d := 29) rfl rfl (fun h29 => ?_) (fun h29 => ?_)
          · iterate 2 refine RL.no (.no rfl rfl rfl rfl) rfl rfl ?_
            iterate 2 refine RL.p rfl rfl ?_
            refine RL.done ?_
            refine RK.seq ?_
            refine RK.region ?_
            iterate 3 refine RL.p rfl rfl ?_
            iterate 10 refine RL.no (.no rfl rfl rfl rfl) rfl rfl ?_
            refine RL.p rfl rfl ?_
            refine RL.done ?_
            refine RK.condF rfl ?_
            refine RK.skip ?_
            refine RK.inBlock ?_
            refine RK.region ?_
            iterate 2 refine RL.p rfl rfl ?_
            refine RL.re (d := 11) rfl rfl (succ_i64 (by omega)) ?_
            refine RL.p rfl rfl ?_
            refine RL.done ?_
            exact RK.back (ih (k + 1) _ ⟨rfl, by omega, hn.step (by first | exact .inl (by simp [letS]; omega) | exact .inr (by omega))⟩ (by omega)) ⟨rfl, rfl, trivial⟩
          · iterate 2 refine RL.q (.yes rfl rfl rfl) rfl rfl (Yld.pure rfl) ?_
            iterate 2 refine RL.p rfl rfl ?_
            refine RL.done ?_
            refine RK.seq ?_
            refine RK.region ?_
            iterate 3 refine RL.p rfl rfl ?_
            first | refine RL.splitD (d := 35) rfl rfl (fun h35 => ?_) (fun h35 => ?_) | refine RL.splitN (d := 35) rfl rfl (fun h35 => ?_) (fun h35 => ?_) | refine RL.split (d := 35) rfl rfl (fun h35 => ?_) (fun h35 => ?_)
            · iterate 3 refine RL.q (.yes rfl rfl rfl) rfl rfl (Yld.pure rfl) ?_
              first | refine RL.splitD (d := 38) rfl rfl (fun h38 => ?_) (fun h38 => ?_) | refine RL.splitN (d := 38) rfl rfl (fun h38 => ?_) (fun h38 => ?_) | refine RL.split (d := 38) rfl rfl (fun h38 => ?_) (fun h38 => ?_)
              · iterate 2 refine RL.no (.no rfl rfl rfl rfl) rfl rfl ?_
                iterate 2 refine RL.q (.yes rfl rfl rfl) rfl rfl (Yld.pure rfl) ?_
                iterate 2 refine RL.no (.no rfl rfl rfl rfl) rfl rfl ?_
                refine RL.q (.yes rfl rfl rfl) rfl rfl (Yld.pure rfl) ?_
                refine RL.p rfl rfl ?_
                refine RL.done ?_
                refine RK.condT rfl ?_
                refine RK.seq ?_
                refine RK.region ?_
                refine RL.p rfl rfl ?_
                refine RL.done ?_
                refine RK.ret_of Tryz.func119 (res1 rfl rfl) ?_ _
                exact ⟨_, rfl, congrArg _ (by first
                    | exact (NmTo.no (k := k) (by omega) (by simp [letS]; omega) (by omega)).symm
                    | (rw [hn.end (by omega)]; rw [Bool.eq_iff_iff]; simp; omega)), rfl⟩
              · iterate 4 refine RL.q (.yes rfl rfl rfl) rfl rfl (Yld.pure rfl) ?_
                first | refine RL.splitD (d := 42) rfl rfl (fun h42 => ?_) (fun h42 => ?_) | refine RL.splitN (d := 42) rfl rfl (fun h42 => ?_) (fun h42 => ?_) | refine RL.split (d := 42) rfl rfl (fun h42 => ?_) (fun h42 => ?_)
                · iterate 2 refine RL.no (.no rfl rfl rfl rfl) rfl rfl ?_
                  refine RL.q (.yes rfl rfl rfl) rfl rfl (Yld.pure rfl) ?_
                  refine RL.p rfl rfl ?_
                  refine RL.done ?_
                  refine RK.condT rfl ?_
                  refine RK.seq ?_
                  refine RK.region ?_
                  refine RL.p rfl rfl ?_
                  refine RL.done ?_
                  refine RK.ret_of Tryz.func119 (res1 rfl rfl) ?_ _
                  exact ⟨_, rfl, congrArg _ (by first
                      | exact (NmTo.no (k := k) (by omega) (by simp [letS]; omega) (by omega)).symm
                      | (rw [hn.end (by omega)]; rw [Bool.eq_iff_iff]; simp; omega)), rfl⟩
                · iterate 3 refine RL.q (.yes rfl rfl rfl) rfl rfl (Yld.pure rfl) ?_
                  refine RL.p rfl rfl ?_
                  refine RL.done ?_
                  first | refine RK.condD rfl (fun h46 => ?_) (fun h46 => ?_) | refine RK.condN rfl (fun h46 => ?_) (fun h46 => ?_) | refine RK.cond rfl (fun h46 => ?_) (fun h46 => ?_)
                  · refine RK.seq ?_
                    refine RK.region ?_
                    refine RL.p rfl rfl ?_
                    refine RL.done ?_
                    refine RK.ret_of Tryz.func119 (res1 rfl rfl) ?_ _
                    exact ⟨_, rfl, congrArg _ (by first
                        | exact (NmTo.no (k := k) (by omega) (by simp [letS]; omega) (by omega)).symm
                        | (rw [hn.end (by omega)]; rw [Bool.eq_iff_iff]; simp; omega)), rfl⟩
                  · refine RK.skip ?_
                    refine RK.inBlock ?_
                    refine RK.region ?_
                    iterate 2 refine RL.p rfl rfl ?_
                    refine RL.re (d := 11) rfl rfl (succ_i64 (by omega)) ?_
                    refine RL.p rfl rfl ?_
                    refine RL.done ?_
                    exact RK.back (ih (k + 1) _ ⟨rfl, by omega, hn.step (by first | exact .inl (by simp [letS]; omega) | exact .inr (by omega))⟩ (by omega)) ⟨rfl, rfl, trivial⟩
            · iterate 10 refine RL.no (.no rfl rfl rfl rfl) rfl rfl ?_
              refine RL.p rfl rfl ?_
              refine RL.done ?_
              refine RK.condF rfl ?_
              refine RK.skip ?_
              refine RK.inBlock ?_
              refine RK.region ?_
              iterate 2 refine RL.p rfl rfl ?_
              refine RL.re (d := 11) rfl rfl (succ_i64 (by omega)) ?_
              refine RL.p rfl rfl ?_
              refine RL.done ?_
              exact RK.back (ih (k + 1) _ ⟨rfl, by omega, hn.step (by first | exact .inl (by simp [letS]; omega) | exact .inr (by omega))⟩ (by omega)) ⟨rfl, rfl, trivial⟩
        · iterate 2 refine RL.no (.no rfl rfl rfl rfl) rfl rfl ?_
          refine RL.q (.yes rfl rfl rfl) rfl rfl (Yld.pure rfl) ?_
          iterate 2 refine RL.p rfl rfl ?_
          iterate 2 refine RL.q (.yes rfl rfl rfl) rfl rfl (Yld.pure rfl) ?_
          iterate 2 refine RL.p rfl rfl ?_
          refine RL.done ?_
          refine RK.seq ?_
          refine RK.region ?_
          iterate 3 refine RL.p rfl rfl ?_
          first | refine RL.splitD (d := 35) rfl rfl (fun h35 => ?_) (fun h35 => ?_) | refine RL.splitN (d := 35) rfl rfl (fun h35 => ?_) (fun h35 => ?_) | refine RL.split (d := 35) rfl rfl (fun h35 => ?_) (fun h35 => ?_)
          · iterate 3 refine RL.q (.yes rfl rfl rfl) rfl rfl (Yld.pure rfl) ?_
            first | refine RL.splitD (d := 38) rfl rfl (fun h38 => ?_) (fun h38 => ?_) | refine RL.splitN (d := 38) rfl rfl (fun h38 => ?_) (fun h38 => ?_) | refine RL.split (d := 38) rfl rfl (fun h38 => ?_) (fun h38 => ?_)
            · iterate 2 refine RL.no (.no rfl rfl rfl rfl) rfl rfl ?_
              iterate 2 refine RL.q (.yes rfl rfl rfl) rfl rfl (Yld.pure rfl) ?_
              iterate 2 refine RL.no (.no rfl rfl rfl rfl) rfl rfl ?_
              refine RL.q (.yes rfl rfl rfl) rfl rfl (Yld.pure rfl) ?_
              refine RL.p rfl rfl ?_
              refine RL.done ?_
              refine RK.condT rfl ?_
              refine RK.seq ?_
              refine RK.region ?_
              refine RL.p rfl rfl ?_
              refine RL.done ?_
              refine RK.ret_of Tryz.func119 (res1 rfl rfl) ?_ _
              exact ⟨_, rfl, congrArg _ (by first
                  | exact (NmTo.no (k := k) (by omega) (by simp [letS]; omega) (by omega)).symm
                  | (rw [hn.end (by omega)]; rw [Bool.eq_iff_iff]; simp; omega)), rfl⟩
            · iterate 4 refine RL.q (.yes rfl rfl rfl) rfl rfl (Yld.pure rfl) ?_
              first | refine RL.splitD (d := 42) rfl rfl (fun h42 => ?_) (fun h42 => ?_) | refine RL.splitN (d := 42) rfl rfl (fun h42 => ?_) (fun h42 => ?_) | refine RL.split (d := 42) rfl rfl (fun h42 => ?_) (fun h42 => ?_)
              · iterate 2 refine RL.no (.no rfl rfl rfl rfl) rfl rfl ?_
                refine RL.q (.yes rfl rfl rfl) rfl rfl (Yld.pure rfl) ?_
                refine RL.p rfl rfl ?_
                refine RL.done ?_
                refine RK.condT rfl ?_
                refine RK.seq ?_
                refine RK.region ?_
                refine RL.p rfl rfl ?_
                refine RL.done ?_
                refine RK.ret_of Tryz.func119 (res1 rfl rfl) ?_ _
                exact ⟨_, rfl, congrArg _ (by first
                    | exact (NmTo.no (k := k) (by omega) (by simp [letS]; omega) (by omega)).symm
                    | (rw [hn.end (by omega)]; rw [Bool.eq_iff_iff]; simp; omega)), rfl⟩
              · iterate 3 refine RL.q (.yes rfl rfl rfl) rfl rfl (Yld.pure rfl) ?_
                refine RL.p rfl rfl ?_
                refine RL.done ?_
                first | refine RK.condD rfl (fun h46 => ?_) (fun h46 => ?_) | refine RK.condN rfl (fun h46 => ?_) (fun h46 => ?_) | refine RK.cond rfl (fun h46 => ?_) (fun h46 => ?_)
                · refine RK.seq ?_
                  refine RK.region ?_
                  refine RL.p rfl rfl ?_
                  refine RL.done ?_
                  refine RK.ret_of Tryz.func119 (res1 rfl rfl) ?_ _
                  exact ⟨_, rfl, congrArg _ (by first
                      | exact (NmTo.no (k := k) (by omega) (by simp [letS]; omega) (by omega)).symm
                      | (rw [hn.end (by omega)]; rw [Bool.eq_iff_iff]; simp; omega)), rfl⟩
                · refine RK.skip ?_
                  refine RK.inBlock ?_
                  refine RK.region ?_
                  iterate 2 refine RL.p rfl rfl ?_
                  refine RL.re (d := 11) rfl rfl (succ_i64 (by omega)) ?_
                  refine RL.p rfl rfl ?_
                  refine RL.done ?_
                  exact RK.back (ih (k + 1) _ ⟨rfl, by omega, hn.step (by first | exact .inl (by simp [letS]; omega) | exact .inr (by omega))⟩ (by omega)) ⟨rfl, rfl, trivial⟩
          · iterate 10 refine RL.no (.no rfl rfl rfl rfl) rfl rfl ?_
            refine RL.p rfl rfl ?_
            refine RL.done ?_
            refine RK.condF rfl ?_
            refine RK.skip ?_
            refine RK.inBlock ?_
            refine RK.region ?_
            iterate 2 refine RL.p rfl rfl ?_
            refine RL.re (d := 11) rfl rfl (succ_i64 (by omega)) ?_
            refine RL.p rfl rfl ?_
            refine RL.done ?_
            exact RK.back (ih (k + 1) _ ⟨rfl, by omega, hn.step (by first | exact .inl (by simp [letS]; omega) | exact .inr (by omega))⟩ (by omega)) ⟨rfl, rfl, trivial⟩
    · iterate 2 refine RL.no (.no rfl rfl rfl rfl) rfl rfl ?_
      iterate 2 refine RL.p rfl rfl ?_
      iterate 3 refine RL.q (.yes rfl rfl rfl) rfl rfl (Yld.pure rfl) ?_
      first | refine RL.splitD (d := 24) rfl rfl (fun h24 => ?_) (fun h24 => ?_) | refine RL.splitN (d := 24) rfl rfl (fun h24 => ?_) (fun h24 => ?_) | refine RL.split (d := 24) rfl rfl (fun h24 => ?_) (fun h24 => ?_)
      · iterate 3 refine RL.q (.yes rfl rfl rfl) rfl rfl (Yld.pure rfl) ?_
        iterate 2 refine RL.p rfl rfl ?_
        first | refine RL.splitD (d := 29) rfl rfl (fun h29 => ?_) (fun h29 => ?_) | refine RL.splitN (d := 29) rfl rfl (fun h29 => ?_) (fun h29 => ?_) | refine RL.split (d := 29) rfl rfl (fun h29 => ?_) (fun h29 => ?_)
        · iterate 2 refine RL.no (.no rfl rfl rfl rfl) rfl rfl ?_
          iterate 2 refine RL.p rfl rfl ?_
          refine RL.done ?_
          refine RK.seq ?_
          refine RK.region ?_
          iterate 3 refine RL.p rfl rfl ?_
          iterate 10 refine RL.no (.no rfl rfl rfl rfl) rfl rfl ?_
          refine RL.p rfl rfl ?_
          refine RL.done ?_
          refine RK.condF rfl ?_
          refine RK.skip ?_
          refine RK.inBlock ?_
          refine RK.region ?_
          iterate 2 refine RL.p rfl rfl ?_
          refine RL.re (d := 11) rfl rfl (succ_i64 (by omega)) ?_
          refine RL.p rfl rfl ?_
          refine RL.done ?_
          exact RK.back (ih (k + 1) _ ⟨rfl, by omega, hn.step (by first | exact .inl (by simp [letS]; omega) | exact .inr (by omega))⟩ (by omega)) ⟨rfl, rfl, trivial⟩
        · iterate 2 refine RL.q (.yes rfl rfl rfl) rfl rfl (Yld.pure rfl) ?_
          iterate 2 refine RL.p rfl rfl ?_
          refine RL.done ?_
          refine RK.seq ?_
          refine RK.region ?_
          iterate 3 refine RL.p rfl rfl ?_
          first | refine RL.splitD (d := 35) rfl rfl (fun h35 => ?_) (fun h35 => ?_) | refine RL.splitN (d := 35) rfl rfl (fun h35 => ?_) (fun h35 => ?_) | refine RL.split (d := 35) rfl rfl (fun h35 => ?_) (fun h35 => ?_)
          · iterate 3 refine RL.q (.yes rfl rfl rfl) rfl rfl (Yld.pure rfl) ?_
            first | refine RL.splitD (d := 38) rfl rfl (fun h38 => ?_) (fun h38 => ?_) | refine RL.splitN (d := 38) rfl rfl (fun h38 => ?_) (fun h38 => ?_) | refine RL.split (d := 38) rfl rfl (fun h38 => ?_) (fun h38 => ?_)
            · iterate 2 refine RL.no (.no rfl rfl rfl rfl) rfl rfl ?_
              iterate 2 refine RL.q (.yes rfl rfl rfl) rfl rfl (Yld.pure rfl) ?_
              iterate 2 refine RL.no (.no rfl rfl rfl rfl) rfl rfl ?_
              refine RL.q (.yes rfl rfl rfl) rfl rfl (Yld.pure rfl) ?_
              refine RL.p rfl rfl ?_
              refine RL.done ?_
              refine RK.condT rfl ?_
              refine RK.seq ?_
              refine RK.region ?_
              refine RL.p rfl rfl ?_
              refine RL.done ?_
              refine RK.ret_of Tryz.func119 (res1 rfl rfl) ?_ _
              exact ⟨_, rfl, congrArg _ (by first
                  | exact (NmTo.no (k := k) (by omega) (by simp [letS]; omega) (by omega)).symm
                  | (rw [hn.end (by omega)]; rw [Bool.eq_iff_iff]; simp; omega)), rfl⟩
            · iterate 4 refine RL.q (.yes rfl rfl rfl) rfl rfl (Yld.pure rfl) ?_
              first | refine RL.splitD (d := 42) rfl rfl (fun h42 => ?_) (fun h42 => ?_) | refine RL.splitN (d := 42) rfl rfl (fun h42 => ?_) (fun h42 => ?_) | refine RL.split (d := 42) rfl rfl (fun h42 => ?_) (fun h42 => ?_)
              · iterate 2 refine RL.no (.no rfl rfl rfl rfl) rfl rfl ?_
                refine RL.q (.yes rfl rfl rfl) rfl rfl (Yld.pure rfl) ?_
                refine RL.p rfl rfl ?_
                refine RL.done ?_
                refine RK.condT rfl ?_
                refine RK.seq ?_
                refine RK.region ?_
                refine RL.p rfl rfl ?_
                refine RL.done ?_
                refine RK.ret_of Tryz.func119 (res1 rfl rfl) ?_ _
                exact ⟨_, rfl, congrArg _ (by first
                    | exact (NmTo.no (k := k) (by omega) (by simp [letS]; omega) (by omega)).symm
                    | (rw [hn.end (by omega)]; rw [Bool.eq_iff_iff]; simp; omega)), rfl⟩
              · iterate 3 refine RL.q (.yes rfl rfl rfl) rfl rfl (Yld.pure rfl) ?_
                refine RL.p rfl rfl ?_
                refine RL.done ?_
                first | refine RK.condD rfl (fun h46 => ?_) (fun h46 => ?_) | refine RK.condN rfl (fun h46 => ?_) (fun h46 => ?_) | refine RK.cond rfl (fun h46 => ?_) (fun h46 => ?_)
                · refine RK.seq ?_
                  refine RK.region ?_
                  refine RL.p rfl rfl ?_
                  refine RL.done ?_
                  refine RK.ret_of Tryz.func119 (res1 rfl rfl) ?_ _
                  exact ⟨_, rfl, congrArg _ (by first
                      | exact (NmTo.no (k := k) (by omega) (by simp [letS]; omega) (by omega)).symm
                      | (rw [hn.end (by omega)]; rw [Bool.eq_iff_iff]; simp; omega)), rfl⟩
                · refine RK.skip ?_
                  refine RK.inBlock ?_
                  refine RK.region ?_
                  iterate 2 refine RL.p rfl rfl ?_
                  refine RL.re (d := 11) rfl rfl (succ_i64 (by omega)) ?_
                  refine RL.p rfl rfl ?_
                  refine RL.done ?_
                  exact RK.back (ih (k + 1) _ ⟨rfl, by omega, hn.step (by first | exact .inl (by simp [letS]; omega) | exact .inr (by omega))⟩ (by omega)) ⟨rfl, rfl, trivial⟩
          · iterate 10 refine RL.no (.no rfl rfl rfl rfl) rfl rfl ?_
            refine RL.p rfl rfl ?_
            refine RL.done ?_
            refine RK.condF rfl ?_
            refine RK.skip ?_
            refine RK.inBlock ?_
            refine RK.region ?_
            iterate 2 refine RL.p rfl rfl ?_
            refine RL.re (d := 11) rfl rfl (succ_i64 (by omega)) ?_
            refine RL.p rfl rfl ?_
            refine RL.done ?_
            exact RK.back (ih (k + 1) _ ⟨rfl, by omega, hn.step (by first | exact .inl (by simp [letS]; omega) | exact .inr (by omega))⟩ (by omega)) ⟨rfl, rfl, trivial⟩
      · iterate 2 refine RL.no (.no rfl rfl rfl rfl) rfl rfl ?_
        refine RL.q (.yes rfl rfl rfl) rfl rfl (Yld.pure rfl) ?_
        iterate 2 refine RL.p rfl rfl ?_
        iterate 2 refine RL.q (.yes rfl rfl rfl) rfl rfl (Yld.pure rfl) ?_
        iterate 2 refine RL.p rfl rfl ?_
        refine RL.done ?_
        refine RK.seq ?_
        refine RK.region ?_
        iterate 3 refine RL.p rfl rfl ?_
        first | refine RL.splitD (d := 35) rfl rfl (fun h35 => ?_) (fun h35 => ?_) | refine RL.splitN (d := 35) rfl rfl (fun h35 => ?_) (fun h35 => ?_) | refine RL.split (d := 35) rfl rfl (fun h35 => ?_) (fun h35 => ?_)
        · iterate 3 refine RL.q (.yes rfl rfl rfl) rfl rfl (Yld.pure rfl) ?_
          first | refine RL.splitD (d := 38) rfl rfl (fun h38 => ?_) (fun h38 => ?_) | refine RL.splitN (d := 38) rfl rfl (fun h38 => ?_) (fun h38 => ?_) | refine RL.split (d := 38) rfl rfl (fun h38 => ?_) (fun h38 => ?_)
          · iterate 2 refine RL.no (.no rfl rfl rfl rfl) rfl rfl ?_
            iterate 2 refine RL.q (.yes rfl rfl rfl) rfl rfl (Yld.pure rfl) ?_
            iterate 2 refine RL.no (.no rfl rfl rfl rfl) rfl rfl ?_
            refine RL.q (.yes rfl rfl rfl) rfl rfl (Yld.pure rfl) ?_
            refine RL.p rfl rfl ?_
            refine RL.done ?_
            refine RK.condT rfl ?_
            refine RK.seq ?_
            refine RK.region ?_
            refine RL.p rfl rfl ?_
            refine RL.done ?_
            refine RK.ret_of Tryz.func119 (res1 rfl rfl) ?_ _
            exact ⟨_, rfl, congrArg _ (by first
                | exact (NmTo.no (k := k) (by omega) (by simp [letS]; omega) (by omega)).symm
                | (rw [hn.end (by omega)]; rw [Bool.eq_iff_iff]; simp; omega)), rfl⟩
          · iterate 4 refine RL.q (.yes rfl rfl rfl) rfl rfl (Yld.pure rfl) ?_
            first | refine RL.splitD (d := 42) rfl rfl (fun h42 => ?_) (fun h42 => ?_) | refine RL.splitN (d := 42) rfl rfl (fun h42 => ?_) (fun h42 => ?_) | refine RL.split (d := 42) rfl rfl (fun h42 => ?_) (fun h42 => ?_)
            · iterate 2 refine RL.no (.no rfl rfl rfl rfl) rfl rfl ?_
              refine RL.q (.yes rfl rfl rfl) rfl rfl (Yld.pure rfl) ?_
              refine RL.p rfl rfl ?_
              refine RL.done ?_
              refine RK.condT rfl ?_
              refine RK.seq ?_
              refine RK.region ?_
              refine RL.p rfl rfl ?_
              refine RL.done ?_
              refine RK.ret_of Tryz.func119 (res1 rfl rfl) ?_ _
              exact ⟨_, rfl, congrArg _ (by first
                  | exact (NmTo.no (k := k) (by omega) (by simp [letS]; omega) (by omega)).symm
                  | (rw [hn.end (by omega)]; rw [Bool.eq_iff_iff]; simp; omega)), rfl⟩
            · iterate 3 refine RL.q (.yes rfl rfl rfl) rfl rfl (Yld.pure rfl) ?_
              refine RL.p rfl rfl ?_
              refine RL.done ?_
              first | refine RK.condD rfl (fun h46 => ?_) (fun h46 => ?_) | refine RK.condN rfl (fun h46 => ?_) (fun h46 => ?_) | refine RK.cond rfl (fun h46 => ?_) (fun h46 => ?_)
              · refine RK.seq ?_
                refine RK.region ?_
                refine RL.p rfl rfl ?_
                refine RL.done ?_
                refine RK.ret_of Tryz.func119 (res1 rfl rfl) ?_ _
                exact ⟨_, rfl, congrArg _ (by first
                    | exact (NmTo.no (k := k) (by omega) (by simp [letS]; omega) (by omega)).symm
                    | (rw [hn.end (by omega)]; rw [Bool.eq_iff_iff]; simp; omega)), rfl⟩
              · refine RK.skip ?_
                refine RK.inBlock ?_
                refine RK.region ?_
                iterate 2 refine RL.p rfl rfl ?_
                refine RL.re (d := 11) rfl rfl (succ_i64 (by omega)) ?_
                refine RL.p rfl rfl ?_
                refine RL.done ?_
                exact RK.back (ih (k + 1) _ ⟨rfl, by omega, hn.step (by first | exact .inl (by simp [letS]; omega) | exact .inr (by omega))⟩ (by omega)) ⟨rfl, rfl, trivial⟩
        · iterate 10 refine RL.no (.no rfl rfl rfl rfl) rfl rfl ?_
          refine RL.p rfl rfl ?_
          refine RL.done ?_
          refine RK.condF rfl ?_
          refine RK.skip ?_
          refine RK.inBlock ?_
          refine RK.region ?_
          iterate 2 refine RL.p rfl rfl ?_
          refine RL.re (d := 11) rfl rfl (succ_i64 (by omega)) ?_
          refine RL.p rfl rfl ?_
          refine RL.done ?_
          exact RK.back (ih (k + 1) _ ⟨rfl, by omega, hn.step (by first | exact .inl (by simp [letS]; omega) | exact .inr (by omega))⟩ (by omega)) ⟨rfl, rfl, trivial⟩
  · refine RK.exit rfl ?_
    refine RK.seq ?_
    refine RK.region ?_
    refine RL.p rfl rfl ?_
    refine RL.q (.free rfl) rfl rfl (Yld.lenStr u9 rfl) ?_
    iterate 2 refine RL.p rfl rfl ?_
    first | refine RL.splitD (d := 50) rfl rfl (fun h50 => ?_) (fun h50 => ?_) | refine RL.splitN (d := 50) rfl rfl (fun h50 => ?_) (fun h50 => ?_) | refine RL.split (d := 50) rfl rfl (fun h50 => ?_) (fun h50 => ?_)
    · refine RL.q (.yes rfl rfl rfl) rfl rfl (Yld.pure rfl) ?_
      refine RL.q (.yes rfl rfl rfl) rfl rfl (Yld.lenStr u9 rfl) ?_
      refine RL.q (.yes rfl rfl rfl) rfl rfl (Yld.pure rfl) ?_
      iterate 2 refine RL.p rfl rfl ?_
      refine RL.done ?_
      refine RK.ret_of Tryz.func119 (res1 rfl rfl) ?_ _
      exact ⟨_, rfl, congrArg _ (by first
          | exact (NmTo.no (k := k) (by omega) (by simp [letS]; omega) (by omega)).symm
          | (rw [hn.end (by omega)]; rw [Bool.eq_iff_iff]; simp; omega)), rfl⟩
    · iterate 3 refine RL.no (.no rfl rfl rfl rfl) rfl rfl ?_
      iterate 2 refine RL.p rfl rfl ?_
      refine RL.done ?_
      refine RK.ret_of Tryz.func119 (res1 rfl rfl) ?_ _
      exact ⟨_, rfl, congrArg _ (by first
          | exact (NmTo.no (k := k) (by omega) (by simp [letS]; omega) (by omega)).symm
          | (rw [hn.end (by omega)]; rw [Bool.eq_iff_iff]; simp; omega)), rfl⟩
end Go.Proofs.YtbcbfjnlnmhpbaaGreat
