/- What the claim stands on, part 2. Of own lemmas only those that it reaches. -/
import Derived.Test.YthbjfhhiajihfaaGreatKe1
set_option linter.unusedVariables false
set_option linter.unusedSimpArgs false
set_option maxHeartbeats 400000
set_option maxRecDepth 100000
namespace Go.Proofs.YthbjfhhiajihfaaGreat
open Go Go.X
@[irreducible] def letS (c : Int) : Bool := decide (97 ≤ c ∧ c ≤ 122 ∨ 65 ≤ c ∧ c ≤ 90 ∨ c = 95)
theorem letter_ok (c : Int) (w : World) : Fx Tryz.prog 266 [.int .u8 c] w (fun v w' => v = .bool (letS c) ∧ w = w') := by
  refine enter Tryz.func266 rfl rfl rfl _ (Pick.sub (l := [0]) (.cons rfl .nil)) ?_
  refine RK.seq ?_
  refine RK.region ?_
  refine RL.p rfl rfl ?_
  refine RL.done ?_
  refine RK.seq ?_
  refine RK.region ?_
  iterate 3 refine RL.p rfl rfl ?_
  first | refine RL.splitD (d := 5) rfl rfl (fun h5 => ?_) (fun h5 => ?_) | refine RL.splitN (d := 5) rfl rfl (fun h5 => ?_) (fun h5 => ?_) | refine RL.split (d := 5) rfl rfl (fun h5 => ?_) (fun h5 => ?_)
  · iterate 2 refine RL.q (.yes rfl rfl rfl) rfl rfl (Yld.pure rfl) ?_
    iterate 2 refine RL.p rfl rfl ?_
    first | refine RL.splitD (d := 9) rfl rfl (fun h9 => ?_) (fun h9 => ?_) | refine RL.splitN (d := 9) rfl rfl (fun h9 => ?_) (fun h9 => ?_) | refine RL.split (d := 9) rfl rfl (fun h9 => ?_) (fun h9 => ?_)
    · iterate 6 refine RL.no (.no rfl rfl rfl rfl) rfl rfl ?_
      iterate 2 refine RL.p rfl rfl ?_
      iterate 2 refine RL.no (.no rfl rfl rfl rfl) rfl rfl ?_
      iterate 2 refine RL.p rfl rfl ?_
      refine RL.done ?_
      refine RK.ret_of Tryz.func266 (res1 rfl rfl) ?_ _
      exact ⟨_, rfl, congrArg _ (by rw [Bool.eq_iff_iff]; simp [letS]; omega), rfl⟩
    · iterate 3 refine RL.q (.yes rfl rfl rfl) rfl rfl (Yld.pure rfl) ?_
      first | refine RL.splitD (d := 12) rfl rfl (fun h12 => ?_) (fun h12 => ?_) | refine RL.splitN (d := 12) rfl rfl (fun h12 => ?_) (fun h12 => ?_) | refine RL.split (d := 12) rfl rfl (fun h12 => ?_) (fun h12 => ?_)
      · iterate 3 refine RL.q (.yes rfl rfl rfl) rfl rfl (Yld.pure rfl) ?_
        iterate 2 refine RL.p rfl rfl ?_
        first | refine RL.splitD (d := 17) rfl rfl (fun h17 => ?_) (fun h17 => ?_) | refine RL.splitN (d := 17) rfl rfl (fun h17 => ?_) (fun h17 => ?_) | refine RL.split (d := 17) rfl rfl (fun h17 => ?_) (fun h17 => ?_)
        · iterate 2 refine RL.no (.no rfl rfl rfl rfl) rfl rfl ?_
          iterate 2 refine RL.p rfl rfl ?_
          refine RL.done ?_
          refine RK.ret_of Tryz.func266 (res1 rfl rfl) ?_ _
          exact ⟨_, rfl, congrArg _ (by rw [Bool.eq_iff_iff]; simp [letS]; omega), rfl⟩
        · iterate 2 refine RL.q (.yes rfl rfl rfl) rfl rfl (Yld.pure rfl) ?_
          iterate 2 refine RL.p rfl rfl ?_
          refine RL.done ?_
          refine RK.ret_of Tryz.func266 (res1 rfl rfl) ?_ _
          exact ⟨_, rfl, congrArg _ (by rw [Bool.eq_iff_iff]; simp [letS]; omega), rfl⟩
      · iterate 2 refine RL.no (.no rfl rfl rfl rfl) rfl rfl ?_
        refine RL.q (.yes rfl rfl rfl) rfl rfl (Yld.pure rfl) ?_
        iterate 2 refine RL.p rfl rfl ?_
        iterate 2 refine RL.q (.yes rfl rfl rfl) rfl rfl (Yld.pure rfl) ?_
        iterate 2 refine RL.p rfl rfl ?_
        refine RL.done ?_
        refine RK.ret_of Tryz.func266 (res1 rfl rfl) ?_ _
        exact ⟨_, rfl, congrArg _ (by rw [Bool.eq_iff_iff]; simp [letS]; omega), rfl⟩
  · iterate 2 refine RL.no (.no rfl rfl rfl rfl) rfl rfl ?_
    iterate 2 refine RL.p rfl rfl ?_
    iterate 3 refine RL.q (.yes rfl rfl rfl) rfl rfl (Yld.pure rfl) ?_
    first | refine RL.splitD (d := 12) rfl rfl (fun h12 => ?_) (fun h12 => ?_) | refine RL.splitN (d := 12) rfl rfl (fun h12 => ?_) (fun h12 => ?_) | refine RL.split (d := 12) rfl rfl (fun h12 => ?_) (fun h12 => ?_)
    · iterate 3 refine RL.q (.yes rfl rfl rfl) rfl rfl (Yld.pure rfl) ?_
      iterate 2 refine RL.p rfl rfl ?_
      first | refine RL.splitD (d := 17) rfl rfl (fun h17 => ?_) (fun h17 => ?_) | refine RL.splitN (d := 17) rfl rfl (fun h17 => ?_) (fun h17 => ?_) | refine RL.split (d := 17) rfl rfl (fun h17 => ?_) (fun h17 => ?_)
      · iterate 2 refine RL.no (.no rfl rfl rfl rfl) rfl rfl ?_
        iterate 2 refine RL.p rfl rfl ?_
        refine RL.done ?_
        refine RK.ret_of Tryz.func266 (res1 rfl rfl) ?_ _
        exact ⟨_, rfl, congrArg _ (by rw [Bool.eq_iff_iff]; simp [letS]; omega), rfl⟩
      · iterate 2 refine RL.q (.yes rfl rfl rfl) rfl rfl (Yld.pure rfl) ?_
        iterate 2 refine RL.p rfl rfl ?_
        refine RL.done ?_
        refine RK.ret_of Tryz.func266 (res1 rfl rfl) ?_ _
        exact ⟨_, rfl, congrArg _ (by rw [Bool.eq_iff_iff]; simp [letS]; omega), rfl⟩
    · iterate 2 refine RL.no (.no rfl rfl rfl rfl) rfl rfl ?_
      refine RL.q (.yes rfl rfl rfl) rfl rfl (Yld.pure rfl) ?_
      iterate 2 refine RL.p rfl rfl ?_
      iterate 2 refine RL.q (.yes rfl rfl rfl) rfl rfl (Yld.pure rfl) ?_
      iterate 2 refine RL.p rfl rfl ?_
      refine RL.done ?_
      refine RK.ret_of Tryz.func266 (res1 rfl rfl) ?_ _
      exact ⟨_, rfl, congrArg _ (by rw [Bool.eq_iff_iff]; simp [letS]; omega), rfl⟩
@[irreducible] def valS (s : ByteArray) : Bool := decide (1 ≤ s.size ∧ s.size ≤ 24)
@[irreducible] def chS (c : Int) : Bool := letS c || decide (48 ≤ c ∧ c ≤ 57)
@[irreducible] def nameS (s : ByteArray) : Bool := decide (1 ≤ s.size ∧ s.size ≤ 12) && letS (bt s 0).toNat && (List.range s.size).all fun i => chS (bt s i).toNat
theorem name_no1 {s : ByteArray} (h : ¬ (1 ≤ s.size ∧ s.size ≤ 12)) : nameS s = false := by simp [nameS, h]
theorem name_no2 {s : ByteArray} (h : letS (bt s 0).toNat = false) : nameS s = false := by simp [nameS, h]
theorem name_no3 {s : ByteArray} {i : Nat} (hi : i < s.size) (h : chS (bt s i).toNat = false) : nameS s = false := by
  simp only [nameS, Bool.and_eq_false_iff]
  refine .inr ?_
  rw [List.all_eq_false]
  exact ⟨i, List.mem_range.2 hi, by simp [h]⟩
theorem name_yes {s : ByteArray} (h1 : 1 ≤ s.size) (h2 : s.size ≤ 12) (h3 : letS (bt s 0).toNat = true) (h : ∀ i, i < s.size → chS (bt s i).toNat = true) : nameS s = true := by
  simp only [nameS, Bool.and_eq_true, decide_eq_true_eq, List.all_eq_true, List.mem_range]
  exact ⟨⟨⟨h1, h2⟩, h3⟩, h⟩
theorem name_ok (s : ByteArray) (w : World) : Fx Tryz.prog 219 [.string s] w (fun v w' => v = .bool (nameS s) ∧ w = w') := by
  refine enter Tryz.func219 rfl rfl rfl _ (Pick.sub (l := [0]) (.cons rfl .nil)) ?_
  refine RK.seq ?_
  refine RK.region ?_
  refine RL.p rfl rfl ?_
  refine RL.done ?_
  iterate 2 refine RK.seq ?_
  refine RK.region ?_
  refine RL.p rfl rfl ?_
  refine RL.q (.free rfl) rfl rfl (Yld.lenStr u9 rfl) ?_
  iterate 2 refine RL.p rfl rfl ?_
  first | refine RL.splitD (d := 7) rfl rfl (fun h7 => ?_) (fun h7 => ?_) | refine RL.splitN (d := 7) rfl rfl (fun h7 => ?_) (fun h7 => ?_) | refine RL.split (d := 7) rfl rfl (fun h7 => ?_) (fun h7 => ?_)
  · iterate 3 refine RL.no (.no rfl rfl rfl rfl) rfl rfl ?_
    iterate 2 refine RL.p rfl rfl ?_
    iterate 4 refine RL.no (.no rfl rfl rfl rfl) rfl rfl ?_
    refine RL.p rfl rfl ?_
    refine RL.done ?_
    refine RK.condT rfl ?_
    refine RK.seq ?_
    refine RK.region ?_
    refine RL.p rfl rfl ?_
    refine RL.done ?_
    refine RK.ret_of Tryz.func219 (res1 rfl rfl) ?_ _
    exact ⟨_, rfl, congrArg _ (by first
        | exact (name_no1 (by omega)).symm
        | exact (name_no3 (i := k) (by omega) (by simp at h28; simp [chS, h28]; omega)).symm
        | exact (name_yes (by omega) (by omega) (by simpa using h17) fun i hi => hall i (by omega)).symm
        | exact (name_no2 (by simpa using h17)).symm), rfl⟩
  · refine RL.q (.yes rfl rfl rfl) rfl rfl (Yld.pure rfl) ?_
    refine RL.q (.yes rfl rfl rfl) rfl rfl (Yld.lenStr u9 rfl) ?_
    refine RL.q (.yes rfl rfl rfl) rfl rfl (Yld.pure rfl) ?_
    iterate 2 refine RL.p rfl rfl ?_
    first | refine RL.splitD (d := 12) rfl rfl (fun h12 => ?_) (fun h12 => ?_) | refine RL.splitN (d := 12) rfl rfl (fun h12 => ?_) (fun h12 => ?_) | refine RL.split (d := 12) rfl rfl (fun h12 => ?_) (fun h12 => ?_)
    · iterate 4 refine RL.no (.no rfl rfl rfl rfl) rfl rfl ?_
      refine RL.p rfl rfl ?_
      refine RL.done ?_
      refine RK.condT rfl ?_
      refine RK.seq ?_
      refine RK.region ?_
      refine RL.p rfl rfl ?_
      refine RL.done ?_
      refine RK.ret_of Tryz.func219 (res1 rfl rfl) ?_ _
      exact ⟨_, rfl, congrArg _ (by first
          | exact (name_no1 (by omega)).symm
          | exact (name_no3 (i := k) (by omega) (by simp at h28; simp [chS, h28]; omega)).symm
          | exact (name_yes (by omega) (by omega) (by simpa using h17) fun i hi => hall i (by omega)).symm
          | exact (name_no2 (by simpa using h17)).symm), rfl⟩
    · refine RL.q (.yes rfl rfl rfl) rfl rfl (Yld.pure rfl) ?_
      refine RL.q (.yes rfl rfl rfl) rfl rfl (Yld.idxStr u9 rfl rfl (by omega) (by omega)) ?_
      refine RL.op (.yes rfl rfl rfl) rfl rfl (Does.call rfl e266 (letter_ok _ _)) ?_
      rintro _ _ ⟨rfl, rfl⟩
      refine RL.q (.yes rfl rfl rfl) rfl rfl (Yld.pure rfl) ?_
      refine RL.p rfl rfl ?_
      refine RL.done ?_
      first | refine RK.condD rfl (fun h17 => ?_) (fun h17 => ?_) | refine RK.condN rfl (fun h17 => ?_) (fun h17 => ?_) | refine RK.cond rfl (fun h17 => ?_) (fun h17 => ?_)
      · refine RK.seq ?_
        refine RK.region ?_
        refine RL.p rfl rfl ?_
        refine RL.done ?_
        refine RK.ret_of Tryz.func219 (res1 rfl rfl) ?_ _
        exact ⟨_, rfl, congrArg _ (by first
            | exact (name_no1 (by omega)).symm
            | exact (name_no3 (i := k) (by omega) (by simp at h28; simp [chS, h28]; omega)).symm
            | exact (name_yes (by omega) (by omega) (by simpa using h17) fun i hi => hall i (by omega)).symm
            | exact (name_no2 (by simpa using h17)).symm), rfl⟩
      · refine RK.skip ?_
        iterate 2 refine RK.seq ?_
        refine RK.region ?_
        refine RL.p rfl rfl ?_
        refine RL.q (.free rfl) rfl rfl (Yld.lenStr u9 rfl) ?_
        refine RL.p rfl rfl ?_
        refine RL.done ?_
        refine RK.block ?_
        refine RK.loop (fun k : Nat => [(0, .string s), (19, .int .i64 s.size), (20, .int .i64 k)]) (fun k w' => w = w' ∧ k ≤ s.size ∧ ∀ i, i < k → chS (bt s i).toNat = true) (fun k => s.size - k) 0 ⟨rfl, rfl, rfl, trivial⟩ ⟨rfl, by omega, fun i hi => by omega⟩ (fun k w' hI ih => ?_)
        obtain ⟨rfl, hk, hall⟩ := hI
        refine RK.seq ?_
        refine RK.region ?_
        refine RL.p rfl rfl ?_
        refine RL.done ?_
        refine RK.seq ?_
        first | refine RK.condD rfl (fun h21 => ?_) (fun h21 => ?_) | refine RK.condN rfl (fun h21 => ?_) (fun h21 => ?_) | refine RK.cond rfl (fun h21 => ?_) (fun h21 => ?_)
        · refine RK.skip ?_
          refine RK.seq ?_
          refine RK.block ?_
          refine RK.seq ?_
          refine RK.region ?_
          iterate 2 refine RL.p rfl rfl ?_
          refine RL.done ?_
          refine RK.seq ?_
          refine RK.region ?_
          iterate 2 refine RL.p rfl rfl ?_
          refine RL.q (.free rfl) rfl rfl (Yld.idxStrN u9 rfl rfl (by omega)) ?_
          refine RL.op (.free rfl) rfl rfl (Does.call rfl e266 (letter_ok _ _)) ?_
          rintro _ _ ⟨rfl, rfl⟩
          iterate 2 refine RL.p rfl rfl ?_
          first | refine RL.splitD (d := 28) rfl rfl (fun h28 => ?_) (fun h28 => ?_) | refine RL.splitN (d := 28) rfl rfl (fun h28 => ?_) (fun h28 => ?_) | refine RL.split (d := 28) rfl rfl (fun h28 => ?_) (fun h28 => ?_)
          · iterate 2 refine RL.q (.yes rfl rfl rfl) rfl rfl (Yld.pure rfl) ?_
            refine RL.q (.yes rfl rfl rfl) rfl rfl (Yld.idxStrN u9 rfl rfl (by omega)) ?_
            iterate 2 refine RL.q (.yes rfl rfl rfl) rfl rfl (Yld.pure rfl) ?_
            first | refine RL.splitD (d := 33) rfl rfl (fun h33 => ?_) (fun h33 => ?_) | refine RL.splitN (d := 33) rfl rfl (fun h33 => ?_) (fun h33 => ?_) | refine RL.split (d := 33) rfl rfl (fun h33 => ?_) (fun h33 => ?_)
            · iterate 4 refine RL.no (.no rfl rfl rfl rfl) rfl rfl ?_
              refine RL.q (.yes rfl rfl rfl) rfl rfl (Yld.pure rfl) ?_
              refine RL.p rfl rfl ?_
              refine RL.done ?_
              refine RK.condT rfl ?_
              refine RK.seq ?_
              refine RK.region ?_
              refine RL.p rfl rfl ?_
              refine RL.done ?_
              refine RK.ret_of Tryz.func219 (res1 rfl rfl) ?_ _
              exact ⟨_, rfl, congrArg _ (by first
                  | exact (name_no1 (by omega)).symm
                  | exact (name_no3 (i := k) (by omega) (by simp at h28; simp [chS, h28]; omega)).symm
                  | exact (name_yes (by omega) (by omega) (by simpa using h17) fun i hi => hall i (by omega)).symm
                  | exact (name_no2 (by simpa using h17)).symm), rfl⟩
            · iterate 2 refine RL.q (.yes rfl rfl rfl) rfl rfl (Yld.pure rfl) ?_
              refine RL.q (.yes rfl rfl rfl) rfl rfl (Yld.idxStrN u9 rfl rfl (by omega)) ?_
              iterate 2 refine RL.q (.yes rfl rfl rfl) rfl rfl (Yld.pure rfl) ?_
              refine RL.p rfl rfl ?_
              refine RL.done ?_
              first | refine RK.condD rfl (fun h39 => ?_) (fun h39 => ?_) | refine RK.condN rfl (fun h39 => ?_) (fun h39 => ?_) | refine RK.cond rfl (fun h39 => ?_) (fun h39 => ?_)
              · refine RK.seq ?_
                refine RK.region ?_
                refine RL.p rfl rfl ?_
                refine RL.done ?_
                refine RK.ret_of Tryz.func219 (res1 rfl rfl) ?_ _
                exact ⟨_, rfl, congrArg _ (by first
                    | exact (name_no1 (by omega)).symm
                    | exact (name_no3 (i := k) (by omega) (by simp at h28; simp [chS, h28]; omega)).symm
                    | exact (name_yes (by omega) (by omega) (by simpa using h17) fun i hi => hall i (by omega)).symm
                    | exact (name_no2 (by simpa using h17)).symm), rfl⟩
              · refine RK.skip ?_
                refine RK.inBlock ?_
                refine RK.region ?_
                iterate 2 refine RL.p rfl rfl ?_
                refine RL.re (d := 20) rfl rfl (succ_i64 (by omega)) ?_
                refine RL.done ?_
                exact RK.back (ih (k + 1) _ ⟨rfl, by omega, fun i hi => by by_cases e : i = k; (subst e; simp at h28; simp [chS, h28]; try omega); exact hall i (by omega)⟩ (by omega)) ⟨rfl, rfl, rfl, trivial⟩
          · iterate 10 refine RL.no (.no rfl rfl rfl rfl) rfl rfl ?_
            refine RL.p rfl rfl ?_
            refine RL.done ?_
            refine RK.condF rfl ?_
            refine RK.skip ?_
            refine RK.inBlock ?_
            refine RK.region ?_
            iterate 2 refine RL.p rfl rfl ?_
            refine RL.re (d := 20) rfl rfl (succ_i64 (by omega)) ?_
            refine RL.done ?_
            exact RK.back (ih (k + 1) _ ⟨rfl, by omega, fun i hi => by by_cases e : i = k; (subst e; simp at h28; simp [chS, h28]; try omega); exact hall i (by omega)⟩ (by omega)) ⟨rfl, rfl, rfl, trivial⟩
        · refine RK.exit rfl ?_
          refine RK.seq ?_
          refine RK.region ?_
          refine RL.p rfl rfl ?_
          refine RL.done ?_
          refine RK.ret_of Tryz.func219 (res1 rfl rfl) ?_ _
          exact ⟨_, rfl, congrArg _ (by first
              | exact (name_no1 (by omega)).symm
              | exact (name_no3 (i := k) (by omega) (by simp at h28; simp [chS, h28]; omega)).symm
              | exact (name_yes (by omega) (by omega) (by simpa using h17) fun i hi => hall i (by omega)).symm
              | exact (name_no2 (by simpa using h17)).symm), rfl⟩
@[irreducible] def nanS (b : Nat) : Bool := Ieee.double.order b b != some .eq
theorem no_ok (b : Nat) (w : World) : Fx Tryz.prog 221 [.float .f64 b] w (fun v w' => v = .bool (nanS b) ∧ w = w') := by
  refine enter Tryz.func221 rfl rfl rfl _ (Pick.sub (l := [0]) (.cons rfl .nil)) ?_
  refine RK.seq ?_
  refine RK.region ?_
  refine RL.p rfl rfl ?_
  refine RL.done ?_
  refine RK.seq ?_
  refine RK.region ?_
  iterate 4 refine RL.p rfl rfl ?_
  refine RL.done ?_
  refine RK.ret_of Tryz.func221 (res1 rfl rfl) ?_ _
  exact ⟨_, rfl, by unfold nanS; rfl, rfl⟩
def bitsS (b : Nat) : Int := if nanS b then 9221120237041090561 else b
theorem bits_ok (b : Nat) (w : World) : Fx Tryz.prog 173 [.float .f64 b] w (fun v w' => v = .int .u64 (bitsS b) ∧ w = w') := by
  refine enter Tryz.func173 rfl rfl rfl _ (Pick.sub (l := [0]) (.cons rfl .nil)) ?_
  refine RK.seq ?_
  refine RK.region ?_
  refine RL.p rfl rfl ?_
  refine RL.done ?_
  iterate 2 refine RK.seq ?_
  refine RK.region ?_
  refine RL.p rfl rfl ?_
  refine RL.op (.free rfl) rfl rfl (Does.call rfl e221 (no_ok b _)) ?_
  rintro _ _ ⟨rfl, rfl⟩
  refine RL.done ?_
  first | refine RK.condD rfl (fun h4 => ?_) (fun h4 => ?_) | refine RK.condN rfl (fun h4 => ?_) (fun h4 => ?_) | refine RK.cond rfl (fun h4 => ?_) (fun h4 => ?_)
  · refine RK.seq ?_
    refine RK.region ?_
    refine RL.p rfl rfl ?_
    refine RL.done ?_
    refine RK.ret_of Tryz.func173 (res1 rfl rfl) ?_ _
    exact ⟨_, rfl, by simp_all [bitsS], rfl⟩
  · refine RK.skip ?_
    refine RK.seq ?_
    refine RK.region ?_
    refine RL.p rfl rfl ?_
    refine RL.q (.free rfl) rfl rfl (Yld.callx rfl (fun w => x169 _ w)) ?_
    refine RL.p rfl rfl ?_
    refine RL.done ?_
    refine RK.ret_of Tryz.func173 (res1 rfl rfl) ?_ _
    exact ⟨_, rfl, by simp_all [bitsS], rfl⟩
end Go.Proofs.YthbjfhhiajihfaaGreat
set_option linter.unusedVariables false
set_option linter.unusedSimpArgs false
set_option maxHeartbeats 400000
set_option maxRecDepth 100000
namespace Go.Proofs.YthbjfhhiajihfaaGreat
open Go Go.X
structure Lab where
  name : ByteArray
  value : ByteArray
  deriving DecidableEq, Inhabited
def labC (l : Lab) : List Value := [.string l.name, .string l.value]
theorem labC_len (l : Lab) : (labC l).length = 2 := rfl
abbrev SlL (M : Nat → Prop) (w : World) (v : Value) (ls : List Lab) : Prop := Sl M w v 2 ls.length (ls.flatMap labC)
@[irreducible] def okAt (ls : List Lab) (i : Nat) : Bool := match ls[i]? with
  | none => true
  | some x => nameS x.name && valS x.value && match i with
    | 0 => true
    | j + 1 => match ls[j]? with
      | none => true
      | some y => slt y.name x.name
@[irreducible] def isS (ls : List Lab) : Bool := decide (1 ≤ ls.length ∧ ls.length ≤ 6) && (List.range ls.length).all (okAt ls)
theorem is_no1 {ls : List Lab} (h : ¬ (1 ≤ ls.length ∧ ls.length ≤ 6)) : isS ls = false := by simp [isS, h]
theorem is_no2 {ls : List Lab} {i : Nat} (hi : i < ls.length) (h : okAt ls i = false) : isS ls = false := by
  simp only [isS, Bool.and_eq_false_iff]
  exact .inr (List.all_eq_false.2 ⟨i, List.mem_range.2 hi, by simp [h]⟩)
theorem is_yes {ls : List Lab} (h1 : 1 ≤ ls.length) (h2 : ls.length ≤ 6) (h : ∀ i, i < ls.length → okAt ls i = true) : isS ls = true := by
  simp only [isS, Bool.and_eq_true, decide_eq_true_eq, List.all_eq_true, List.mem_range]
  exact ⟨⟨h1, h2⟩, h⟩
theorem okAt_no1 {ls : List Lab} {k : Nat} {x : Lab} (hx : ls[k]? = some x) (h : (!nameS x.name) = true) : okAt ls k = false := by simp at h; simp [okAt, hx, h]
theorem okAt_no2 {ls : List Lab} {k : Nat} {x : Lab} (hx : ls[k]? = some x) (h : (!valS x.value) = true) : okAt ls k = false := by simp at h; simp [okAt, hx, h]
theorem okAt_no3 {ls : List Lab} {k j : Nat} {x y : Lab} (hx : ls[k]? = some x) (hj : k = j + 1) (hy : ls[j]? = some y) (h : sle x.name y.name = true) : okAt ls k = false := by
  subst hj
  rw [sle_not] at h
  simp at h
  simp [okAt, hx, hy, h]
theorem okAt_yes0 {ls : List Lab} {k : Nat} {x : Lab} (hx : ls[k]? = some x) (h1 : (!nameS x.name) = false) (h2 : (!valS x.value) = false) (hk : k = 0) : okAt ls k = true := by
  subst hk; simp at h1 h2; simp [okAt, hx, h1, h2]
theorem okAt_yes1 {ls : List Lab} {k j : Nat} {x y : Lab} (hx : ls[k]? = some x) (h1 : (!nameS x.name) = false) (h2 : (!valS x.value) = false) (hj : k = j + 1) (hy : ls[j]? = some y) (h : sle x.name y.name = false) : okAt ls k = true := by
  subst hj
  rw [sle_not] at h
  simp at h h1 h2
  simp [okAt, hx, hy, h, h1, h2]
theorem ok_snoc {ls : List Lab} {k : Nat} (h : ∀ i, i < k → okAt ls i = true) (hk : okAt ls k = true) : ∀ i, i < k + 1 → okAt ls i = true := fun i hi => by
  by_cases e : i = k
  · rw [e]; exact hk
  · exact h i (by omega)
end Go.Proofs.YthbjfhhiajihfaaGreat
set_option linter.unusedVariables false
set_option linter.unusedSimpArgs false
set_option maxHeartbeats 400000
set_option maxRecDepth 100000
namespace Go.Proofs.YthbjfhhiajihfaaGreat
open Go Go.X
theorem allOne_ints (xs : List Int) : (xs.map (Value.int .i64)).all (·.oneCell') = true := by simp [Value.oneCell']
theorem allOne_labs (ls : List Lab) : (ls.flatMap labC).all (·.oneCell') = true := by
  rw [List.all_eq_true]
  intro u hu
  simp only [List.mem_flatMap, labC] at hu
  obtain ⟨x, _, hu⟩ := hu
  simp at hu
  rcases hu with rfl | rfl <;> rfl
theorem cloneI_ok (M : Nat → Prop) (xs : List Int) (v : Value) (w : World) (hv : Sl M w v 1 xs.length (xs.map (.int .i64))) (hb : xs.length * 8 ≤ 140737488355328) :
    Fx Tryz.prog 144 [v] w (fun u w' => Row w' 3 1 u xs.length (xs.map (.int .i64)) ∧ Fresh w.heap.size u ∧ Grow w w') := by
  obtain ⟨ad, c, b, o, rfl, hf⟩ := hv.open
  refine enter Tryz.func144 rfl rfl rfl _ (Pick.sub (l := [0]) (.cons rfl .nil)) ?_
  refine RK.seq ?_
  refine RK.region ?_
  refine RL.p rfl rfl ?_
  refine RL.done ?_
  iterate 2 refine RK.seq ?_
  refine RK.region ?_
  refine RL.p rfl rfl ?_
  refine RL.q (.free rfl) rfl rfl (Yld.eqNil u37 rfl rfl) ?_
  refine RL.done ?_
  first | refine RK.condD rfl (fun h4 => ?_) (fun h4 => ?_) | refine RK.condN rfl (fun h4 => ?_) (fun h4 => ?_) | refine RK.cond rfl (fun h4 => ?_) (fun h4 => ?_)
  · refine RK.seq ?_
    refine RK.region ?_
    refine RL.p rfl rfl ?_
    refine RL.done ?_
    refine RK.ret_of Tryz.func144 (res1 rfl rfl) ?_ _
    exact ⟨_, rfl, by cases ad with | none => (have h0 : xs.length = 0 := by (rcases Nat.eq_zero_or_pos xs.length with h | h; exact h; exact absurd (hf h).1 (by simp))); have : xs = [] := List.eq_nil_of_length_eq_zero h0; subst this; exact ⟨Row.nil _ _ _, fun b hb => by simp [Value.ownBlock] at hb, Mod.refl _ _⟩ | some a => simp at h4⟩
  · refine RK.skip ?_
    refine RK.seq ?_
    refine RK.region ?_
    refine RL.op (.free rfl) rfl rfl (Does.slice0 u37 i3) ?_
    rintro _ w1 ⟨b1, rfl, hn1⟩
    refine RL.p rfl rfl ?_
    refine RL.op (.free rfl) rfl rfl (Does.append u37 i3 rfl rfl rfl rfl rfl (Row.new hn1 1 0 rfl (by omega)) ((hv.mod (Mod.any' hn1.grow)).noM) (allOne_ints xs) (by omega)) ?_
    rintro u w2 ⟨hr, hm, hu⟩
    refine RL.p rfl rfl ?_
    refine RL.done ?_
    refine RK.ret_of Tryz.func144 (res1 rfl rfl) ?_ _
    exact ⟨_, rfl, by simpa using hr, fun b hb => by rcases hu with hu | hu <;> rw [hu] at hb <;> simp [Value.ownBlock] at hb <;> (have := hn1.at_; have := hn1.size; omega), hn1.grow.then hm (fun x hx e => by simp [Value.ownBlock] at e; have := hn1.at_; omega)⟩
end Go.Proofs.YthbjfhhiajihfaaGreat
set_option linter.unusedVariables false
set_option linter.unusedSimpArgs false
set_option maxHeartbeats 400000
set_option maxRecDepth 100000
namespace Go.Proofs.YthbjfhhiajihfaaGreat
open Go Go.X
abbrev ints (xs : List Int) : List Value := xs.map (Value.int .i64)
theorem compact_le (xs : List Int) : (Lib.compact xs).length ≤ xs.length := by
  unfold Lib.compact Lib.compactUpTo
  rw [List.length_map]
  exact Nat.le_trans (List.length_filter_le _ _) (by simp)
def sortI (xs : List Int) : List Int := xs.mergeSort fun x y => decide (x ≤ y)
theorem sortI_len (xs : List Int) : (sortI xs).length = xs.length := by simp [sortI]
theorem sort_ok (xs : List Int) (v : Value) (w : World) (hv : Row w 3 1 v xs.length (ints xs)) (hb : xs.length < 4611686018427387904) :
    Fx Tryz.prog 145 [v] w (fun u w' => u = .tuple #[] ∧ Row w' 3 1 v xs.length (ints (sortI xs)) ∧ Mod (fun b => v.ownBlock = some b) w w') := by
  rcases hv.2 with ⟨rfl, h0⟩ | ⟨g, cap, cur, rfl, _, hg, hn, hcap, hcs, htk⟩
  · have : xs = [] := List.eq_nil_of_length_eq_zero h0
    subst this
    refine Calls.mono (Tryz.slices_Sort_int_none none 0 w) ?_
    rintro e w' ⟨rfl, rfl⟩
    exact ⟨_, rfl, rfl, by simpa [sortI] using Row.nil w' _ _, Mod.refl _ _⟩
  · rw [Nat.mul_one] at htk
    refine Calls.mono (Tryz.slices_Sort_int g 0 cap xs w (holds_of_blockI hg htk) (Array.getElem?_eq_some_iff.1 hg).1 hb) ?_
    rintro e w' ⟨rfl, n, os, rfl⟩
    exact ⟨_, rfl, rfl, ownsRow_sortedI (by simp) (Nat.zero_le _) hg hn hcap hcs, Mod.grownBy (grownBy_sortedI _) (fun k h => by cases h; rfl)⟩
theorem compact_ok (xs : List Int) (v : Value) (w : World) (hv : Row w 3 1 v xs.length (ints xs)) :
    Fx Tryz.prog 146 [v] w (fun u w' => Row w' 3 1 u (Lib.compact xs).length (ints (Lib.compact xs)) ∧ u.ownBlock = v.ownBlock ∧ Mod (fun b => v.ownBlock = some b) w w') := by
  rcases hv.2 with ⟨rfl, h0⟩ | ⟨g, cap, cur, rfl, _, hg, hn, hcap, hcs, htk⟩
  · have : xs = [] := List.eq_nil_of_length_eq_zero h0
    subst this
    refine Calls.mono (Tryz.slices_Compact_int_empty none 0 w) ?_
    rintro e w' ⟨rfl, rfl⟩
    exact ⟨_, rfl, Row.nil w' _ _, rfl, Mod.refl _ _⟩
  · rw [Nat.mul_one] at htk
    refine Calls.mono (Tryz.slices_Compact_int g 0 cap xs w (holds_of_blockI hg htk) (by simp only [maxLen] at hcap; omega) hn) ?_
    rintro e w' ⟨rfl, q, rfl⟩
    have hle : (Lib.compact xs).length ≤ xs.length := compact_le xs
    have hh := heap_sortedI (n := q) (os := #[]) (Lib.compact xs ++ List.replicate (xs.length - (Lib.compact xs).length) 0).toArray hg
    have hgb := grownBy_sortedI (w := w) (g := g) (n := q) (os := #[]) (Lib.compact xs ++ List.replicate (xs.length - (Lib.compact xs).length) 0).toArray
    simp only [Sort.grow_empty] at hh hgb
    refine ⟨_, rfl, ⟨by simp, .inr ⟨g, cap, _, rfl, Nat.zero_le _, hh, by omega, hcap, by simp [Sort.putCells, hcs], ?_⟩⟩, rfl, Mod.grownBy hgb (fun k h => by cases h; rfl)⟩
    have := take_putCellsI cur (Lib.compact xs ++ List.replicate (xs.length - (Lib.compact xs).length) 0) (by simp; omega)
    have h2 := congrArg (List.take (Lib.compact xs).length) this
    rw [List.take_take, Nat.min_eq_left (by simp)] at h2
    rw [Nat.mul_one, h2]
    simp
theorem growNil_ok (m : Nat) (w : World) (hb : m * 8 ≤ 140737488355328) :
    Fx Tryz.prog 218 [.slice none 0 0, .int .i64 m] w (fun u w' => Row w' 3 1 u 0 [] ∧ Fresh w.heap.size u ∧ Grow w w') := by
  refine enter Tryz.func218 rfl rfl rfl _ (Pick.sub (l := [0, 1]) (.cons rfl (.cons rfl .nil))) ?_
  refine RK.seq ?_
  refine RK.region ?_
  refine RL.p rfl rfl ?_
  refine RL.done ?_
  iterate 2 refine RK.seq ?_
  refine RK.region ?_
  iterate 2 refine RL.p rfl rfl ?_
  refine RL.done ?_
  refine RK.condF (hcF rfl (decide_eq_false (by omega))) ?_
  refine RK.skip ?_
  iterate 2 refine RK.seq ?_
  refine RK.region ?_
  iterate 2 refine RL.p rfl rfl ?_
  refine RL.q (.free rfl) rfl rfl (Yld.capSl u37 rfl) ?_
  refine RL.p rfl rfl ?_
  refine RL.q (.free rfl) rfl rfl (Yld.lenSl u37 rfl) ?_
  refine RL.p rfl rfl ?_
  refine RL.re (d := 13) rfl rfl (sub_i64 (z := 0) (by omega) (by omega) (by omega)) ?_
  refine RL.p rfl rfl ?_
  refine RL.re (d := 14) rfl rfl (sub_i64 (z := (m : Int)) (by omega) (by omega) (by omega)) ?_
  refine RL.p rfl rfl ?_
  refine RL.done ?_
  refine RK.seq ?_
  refine RK.region ?_
  iterate 2 refine RL.p rfl rfl ?_
  refine RL.done ?_
  first | refine RK.condD rfl (fun h16 => ?_) (fun h16 => ?_) | refine RK.condN rfl (fun h16 => ?_) (fun h16 => ?_) | refine RK.cond rfl (fun h16 => ?_) (fun h16 => ?_)
  · refine RK.region ?_
    iterate 2 refine RL.p rfl rfl ?_
    refine RL.q (.free rfl) rfl rfl (Yld.capSl u37 rfl) ?_
    refine RL.q (.free rfl) rfl rfl (Yld.sliceHi u37 i3 (m := 0) rfl rfl (by omega)) ?_
    refine RL.p rfl rfl ?_
    refine RL.op (.free rfl) rfl rfl (Does.appendZ u37 Tryz.underlying3 i3 rfl rfl (m := m) (c := 0) rfl rfl (by omega) hb) ?_
    rintro _ w1 ⟨b1, cap1, cur1, rfl, hb1, hh1, hc1, hm1, hs1, hg1⟩
    refine RL.p rfl rfl ?_
    refine RL.q (.free rfl) rfl rfl (Yld.lenSl u37 rfl) ?_
    refine RL.q (.free rfl) rfl rfl (Yld.sliceHi u37 i3 (m := 0) rfl rfl (by omega)) ?_
    refine RL.p rfl rfl ?_
    refine RL.done ?_
    refine RK.seq ?_
    refine RK.region ?_
    iterate 2 refine RL.p rfl rfl ?_
    refine RL.done ?_
    refine RK.ret_of Tryz.func218 (res1 rfl rfl) ?_ _
    exact ⟨_, rfl, ⟨by simp, .inr ⟨b1, cap1, cur1, rfl, Nat.zero_le _, hh1, by omega, hm1, hs1, by simp⟩⟩, fun b hb => by simp [Value.ownBlock] at hb; omega, hg1⟩
  · refine RK.skip ?_
    refine RK.seq ?_
    refine RK.region ?_
    iterate 2 refine RL.p rfl rfl ?_
    refine RL.done ?_
    refine RK.ret_of Tryz.func218 (res1 rfl rfl) ?_ _
    exact ⟨_, rfl, Row.nil _ _ _, fun b hb => by simp [Value.ownBlock] at hb, Mod.refl _ _⟩
def total (pr : List (Value × List Int)) : Nat := (pr.map fun p => p.2.length).sum
theorem total_take {pr : List (Value × List Int)} {k : Nat} {p : Value × List Int} (h : pr[k]? = some p) : total (pr.take (k + 1)) = total (pr.take k) + p.2.length := by
  have hk : k < pr.length := (List.getElem?_eq_some_iff.1 h).1
  rw [List.take_succ_eq_append_getElem hk]
  have : pr[k] = p := (List.getElem?_eq_some_iff.1 h).2
  simp [total, this]
theorem total_le (pr : List (Value × List Int)) (k : Nat) : total (pr.take k) ≤ total pr := by
  have : total pr = total (pr.take k) + total (pr.drop k) := by
    unfold total
    rw [← List.sum_append, ← List.map_append, List.take_append_drop]
  omega
theorem concat_ok (M : Nat → Prop) (pr : List (Value × List Int)) (v : Value) (w : World) (hv : Sl M w v 1 pr.length (pr.map (·.1))) (hs : ∀ p ∈ pr, Sl M w p.1 1 p.2.length (ints p.2)) (hb : total pr * 8 ≤ 140737488355328) :
    Fx Tryz.prog 170 [v] w (fun u w' => Row w' 3 1 u (pr.flatMap (·.2)).length (ints (pr.flatMap (·.2))) ∧ Fresh w.heap.size u ∧ Grow w w') := by
  obtain ⟨ad, c, b, o, rfl, hf⟩ := hv.open
  refine enter Tryz.func170 rfl rfl rfl _ (Pick.sub (l := [0]) (.cons rfl .nil)) ?_
  refine RK.seq ?_
  refine RK.region ?_
  refine RL.p rfl rfl ?_
  refine RL.done ?_
  refine RK.seq ?_
  refine RK.region ?_
  refine RL.p rfl rfl ?_
  refine RL.done ?_
  iterate 2 refine RK.seq ?_
  refine RK.region ?_
  refine RL.p rfl rfl ?_
  refine RL.q (.free rfl) rfl rfl (Yld.lenSl u266 rfl) ?_
  refine RL.p rfl rfl ?_
  refine RL.done ?_
  refine RK.block ?_
  refine RK.loop (fun k : Nat => [(0, .slice ad pr.length c), (9, .slice ad pr.length c), (10, .int .i64 pr.length), (11, .int .i64 k), (3, .int .i64 (total (pr.take k)))]) (fun k w' => w = w' ∧ k ≤ pr.length) (fun k => pr.length - k) 0 ⟨rfl, rfl, rfl, rfl, rfl, trivial⟩ ⟨rfl, by omega⟩ (fun k w' hI ih => ?_)
  obtain ⟨rfl, hk⟩ := hI
  refine RK.seq ?_
  refine RK.region ?_
  refine RL.p rfl rfl ?_
  refine RL.done ?_
  refine RK.seq ?_
  first | refine RK.condD rfl (fun h12 => ?_) (fun h12 => ?_) | refine RK.condN rfl (fun h12 => ?_) (fun h12 => ?_) | refine RK.cond rfl (fun h12 => ?_) (fun h12 => ?_)
  · obtain ⟨p, hp⟩ : ∃ p, pr[k]? = some p := ⟨pr[k]'(by omega), List.getElem?_eq_getElem (by omega)⟩
    obtain ⟨rfl, hbM, hc⟩ := hf (by omega)
    have hsp := hs p (List.mem_of_getElem? hp)
    obtain ⟨adp, cp, hpv⟩ := hsp.shape
    have ht := total_take hp
    have htl := total_le pr (k + 1)
    refine RK.skip ?_
    refine RK.seq ?_
    refine RK.block ?_
    refine RK.seq ?_
    refine RK.region ?_
    refine RL.q (.free rfl) rfl rfl (Yld.indexAddrN u266 i37 rfl rfl (by omega)) ?_
    refine RL.q (.free rfl) rfl rfl (Yld.load p37 rfl (at1 (by have := hc k p.1 (by simp [hp]); rw [hpv] at this; simpa using this))) ?_
    refine RL.p rfl rfl ?_
    refine RL.done ?_
    refine RK.seq ?_
    refine RK.region ?_
    iterate 2 refine RL.p rfl rfl ?_
    refine RL.q (.free rfl) rfl rfl (Yld.lenSl u37 rfl) ?_
    refine RL.p rfl rfl ?_
    refine RL.re (d := 18) rfl rfl (add_i64 (z := ((total (pr.take (k + 1)) : Nat) : Int)) (by rw [ht]; simp) (by omega) (by omega)) ?_
    refine RL.p rfl rfl ?_
    refine RL.done ?_
    refine RK.seq ?_
    refine RK.region ?_
    iterate 2 refine RL.p rfl rfl ?_
    refine RL.done ?_
    refine RK.condF (hcF rfl (decide_eq_false (by omega))) ?_
    refine RK.skip ?_
    refine RK.inBlock ?_
    refine RK.region ?_
    refine RL.p rfl rfl ?_
    refine RL.re (d := 22) rfl rfl (succ_i64 (by have := hv.big; omega)) ?_
    refine RL.p rfl rfl ?_
    refine RL.done ?_
    exact RK.back (ih (k + 1) _ ⟨rfl, by omega⟩ (by omega)) ⟨rfl, rfl, rfl, rfl, rfl, trivial⟩
  · have ek : pr.take k = pr := List.take_of_length_le (by omega)
    rw [ek]
    refine RK.exit rfl ?_
    refine RK.seq ?_
    refine RK.region ?_
    refine RL.p rfl rfl ?_
    refine RL.op (.free rfl) rfl rfl (Does.call rfl e218 (growNil_ok (total pr) _ hb)) ?_
    rintro u0 w1 ⟨hr1, hf1, hg1⟩
    refine RL.p rfl rfl ?_
    refine RL.done ?_
    iterate 2 refine RK.seq ?_
    refine RK.region ?_
    refine RL.p rfl rfl ?_
    refine RL.q (.free rfl) rfl rfl (Yld.lenSl u266 rfl) ?_
    refine RL.p rfl rfl ?_
    refine RL.done ?_
    refine RK.block ?_
    refine RK.loop (fun (s : Nat × Value) => [(25, .slice ad pr.length c), (26, .int .i64 pr.length), (27, .int .i64 s.1), (6, s.2)]) (fun s w' => Row w' 3 1 s.2 ((pr.take s.1).flatMap (·.2)).length (ints ((pr.take s.1).flatMap (·.2))) ∧ Fresh w.heap.size s.2 ∧ Grow w w' ∧ s.1 ≤ pr.length) (fun s => pr.length - s.1) (0, u0) ⟨rfl, rfl, rfl, rfl, trivial⟩ ⟨by simpa using hr1, hf1, hg1, by omega⟩ (fun s w' hI ih => ?_)
    obtain ⟨k2, u⟩ := s
    obtain ⟨hr, hfr, hg, hk2⟩ := hI
    simp only at hr hfr hk2
    refine RK.seq ?_
    refine RK.region ?_
    refine RL.p rfl rfl ?_
    refine RL.done ?_
    refine RK.seq ?_
    first | refine RK.condD rfl (fun h28 => ?_) (fun h28 => ?_) | refine RK.condN rfl (fun h28 => ?_) (fun h28 => ?_) | refine RK.cond rfl (fun h28 => ?_) (fun h28 => ?_)
    · obtain ⟨p, hp⟩ : ∃ p, pr[k2]? = some p := ⟨pr[k2]'(by omega), List.getElem?_eq_getElem (by omega)⟩
      obtain ⟨rfl, hbM, hc⟩ := hf (by omega)
      have hsp := hs p (List.mem_of_getElem? hp)
      have ht := total_take hp
      have htl := total_le pr (k2 + 1)
      have e1 : ((pr.take k2).flatMap (·.2)).length = total (pr.take k2) := by simp [total, List.length_flatMap]
      have e2 : (pr.take (k2 + 1)).flatMap (·.2) = (pr.take k2).flatMap (·.2) ++ p.2 := by rw [List.take_succ_eq_append_getElem (by omega)]; simp [(List.getElem?_eq_some_iff.1 hp).2]
      refine RK.skip ?_
      refine RK.seq ?_
      refine RK.block ?_
      refine RK.seq ?_
      refine RK.region ?_
      refine RL.q (.free rfl) rfl rfl (Yld.indexAddrN u266 i37 rfl rfl (by omega)) ?_
      refine RL.q (.free rfl) rfl rfl (Yld.load p37 rfl (at1 (hg.cell (by have := hc k2 p.1 (by simp [hp]); simpa using this) (fun h => h)))) ?_
      refine RL.p rfl rfl ?_
      refine RL.done ?_
      refine RK.region ?_
      iterate 2 refine RL.p rfl rfl ?_
      refine RL.op (.free rfl) rfl rfl (Does.append u37 i3 rfl rfl rfl rfl rfl (hr) ((hsp.mod (Mod.any' hg)).noM) (allOne_ints _) (by rw [e1]; omega)) ?_
      rintro u2 w2 ⟨hr2, hm2, hu2⟩
      refine RL.p rfl rfl ?_
      refine RL.done ?_
      refine RK.inBlock ?_
      refine RK.region ?_
      refine RL.p rfl rfl ?_
      refine RL.re (d := 34) rfl rfl (succ_i64 (by have := hv.big; omega)) ?_
      refine RL.p rfl rfl ?_
      refine RL.done ?_
      exact RK.back (ih (k2 + 1, u2) _ ⟨by rw [e2]; simpa using hr2, fun b hb => by rcases hu2 with h | h <;> rw [h] at hb; exact hfr b hb; (cases hb; exact hg.size), hg.then hm2 (fun x hx e => by have := hfr x e; omega), by simp; omega⟩ (by simp; omega)) ⟨rfl, rfl, rfl, rfl, trivial⟩
    · have ek2 : pr.take k2 = pr := List.take_of_length_le (by omega)
      rw [ek2] at hr
      refine RK.exit rfl ?_
      refine RK.seq ?_
      refine RK.region ?_
      iterate 2 refine RL.p rfl rfl ?_
      refine RL.done ?_
      refine RK.ret_of Tryz.func170 (res1 rfl rfl) ?_ _
      exact ⟨_, rfl, hr, hfr, hg⟩
end Go.Proofs.YthbjfhhiajihfaaGreat
set_option linter.unusedVariables false
set_option linter.unusedSimpArgs false
set_option maxHeartbeats 400000
set_option maxRecDepth 100000
namespace Go.Proofs.YthbjfhhiajihfaaGreat
open Go Go.X
def mkRow (xs : List Int) : List Int := Lib.compact (sortI xs)
theorem mkRow_le (xs : List Int) : (mkRow xs).length ≤ xs.length := by
  have := compact_le (sortI xs)
  rw [sortI_len] at this
  exact this
theorem make_ok (M : Nat → Prop) (xs : List Int) (v : Value) (w : World) (hv : Sl M w v 1 xs.length (ints xs)) (hb : xs.length * 8 ≤ 140737488355328) :
    Fx Tryz.prog 78 [v] w (fun u w' => Row w' 3 1 u (mkRow xs).length (ints (mkRow xs)) ∧ Fresh w.heap.size u ∧ Grow w w') := by
  refine enter Tryz.func78 rfl rfl rfl _ (Pick.sub (l := [0]) (.cons rfl .nil)) ?_
  refine RK.seq ?_
  refine RK.region ?_
  refine RL.p rfl rfl ?_
  refine RL.done ?_
  refine RK.seq ?_
  refine RK.region ?_
  refine RL.p rfl rfl ?_
  refine RL.op (.free rfl) rfl rfl (Does.call rfl e144 (cloneI_ok M xs v _ hv hb)) ?_
  rintro u1 w1 ⟨hr1, hf1, hg1⟩
  refine RL.p rfl rfl ?_
  refine RL.done ?_
  refine RK.seq ?_
  refine RK.region ?_
  refine RL.p rfl rfl ?_
  refine RL.op (.free rfl) rfl rfl (Does.call rfl e145 (sort_ok xs u1 _ hr1 (by omega))) ?_
  rintro _ w2 ⟨rfl, hr2, hm2⟩
  refine RL.done ?_
  refine RK.seq ?_
  refine RK.region ?_
  refine RL.p rfl rfl ?_
  refine RL.op (.free rfl) rfl rfl (Does.call rfl e146 (compact_ok (sortI xs) u1 _ (by rw [sortI_len]; exact hr2))) ?_
  rintro u3 w3 ⟨hr3, hu3, hm3⟩
  refine RL.p rfl rfl ?_
  refine RL.done ?_
  refine RK.ret_of Tryz.func78 (res1 rfl rfl) ?_ _
  exact ⟨_, rfl, hr3, fun b hb => hf1 b (by rw [← hu3]; exact hb), (hg1.then hm2 (fun x hx e => by have := hf1 x e; omega)).then hm3 (fun x hx e => by have := hf1 x e; omega)⟩
theorem or_ok (M : Nat → Prop) (xs ys : List Int) (va vb : Value) (w : World) (ha : Sl M w va 1 xs.length (ints xs)) (hbv : Sl M w vb 1 ys.length (ints ys)) (hb : (xs.length + ys.length) * 8 ≤ 140737488355328) :
    Fx Tryz.prog 123 [va, vb] w (fun u w' => Row w' 3 1 u (mkRow (xs ++ ys)).length (ints (mkRow (xs ++ ys))) ∧ Fresh w.heap.size u ∧ Grow w w') := by
  obtain ⟨ad, c, rfl⟩ := ha.shape
  obtain ⟨ad', c', rfl⟩ := hbv.shape
  refine enter Tryz.func123 rfl rfl rfl _ (Pick.sub (l := [0, 1]) (.cons rfl (.cons rfl .nil))) ?_
  refine RK.seq ?_
  refine RK.region ?_
  refine RL.p rfl rfl ?_
  refine RL.done ?_
  refine RK.seq ?_
  refine RK.region ?_
  iterate 2 refine RL.p rfl rfl ?_
  refine RL.op (.free rfl) rfl rfl (Does.bslice (el := 37) ([.slice ad xs.length c, .slice ad' ys.length c']) rfl (fun w => by kernel_rfl)) ?_
  rintro _ w1 ⟨b1, rfl, hn1⟩
  refine RL.op (.free rfl) rfl rfl (Does.call rfl e170 (concat_ok No [(.slice ad xs.length c, xs), (.slice ad' ys.length c', ys)] _ _ (Sl.new hn1 1 2 rfl (by omega) (fun h => h)) (by intro p hp; simp at hp; rcases hp with rfl | rfl; exact (ha.mod (Mod.any' hn1.grow)).noM; exact (hbv.mod (Mod.any' hn1.grow)).noM) (by simp [total]; omega))) ?_
  rintro u2 w2 ⟨hr2, hf2, hg2⟩
  simp only [List.flatMap_cons, List.flatMap_nil, List.append_nil] at hr2
  refine RL.op (.free rfl) rfl rfl (Does.call rfl e78 (make_ok No (xs ++ ys) u2 _ (Sl.own hr2 (fun _ _ h => h)) (by simp; omega))) ?_
  rintro u3 w3 ⟨hr3, hf3, hg3⟩
  refine RL.p rfl rfl ?_
  refine RL.done ?_
  refine RK.ret_of Tryz.func123 (res1 rfl rfl) ?_ _
  exact ⟨_, rfl, hr3, fun b hb => by have := hf3 b hb; have := hg2.size; have := hn1.grow.size; omega, (hn1.grow.trans hg2).trans hg3⟩
theorem put_ok (M : Nat → Prop) (xs : List Int) (x : Int) (v : Value) (w : World) (hv : Sl M w v 1 xs.length (ints xs)) (hb : (xs.length + 1) * 8 ≤ 140737488355328) :
    Fx Tryz.prog 77 [v, .int .i64 x] w (fun u w' => Row w' 3 1 u (mkRow (xs ++ [x])).length (ints (mkRow (xs ++ [x]))) ∧ Fresh w.heap.size u ∧ Grow w w') := by
  refine enter Tryz.func77 rfl rfl rfl _ (Pick.sub (l := [0, 1]) (.cons rfl (.cons rfl .nil))) ?_
  refine RK.seq ?_
  refine RK.region ?_
  refine RL.p rfl rfl ?_
  refine RL.done ?_
  refine RK.seq ?_
  refine RK.region ?_
  iterate 2 refine RL.p rfl rfl ?_
  refine RL.op (.free rfl) rfl rfl (Does.slice1 u37 i3 rfl rfl rfl rfl rfl) ?_
  rintro _ w1 ⟨b1, rfl, hn1⟩
  refine RL.op (.free rfl) rfl rfl (Does.call rfl e123 (or_ok No xs [x] v _ _ (hv.mod (Mod.any' hn1.grow)).noM (Sl.new hn1 1 1 rfl (by omega) (fun h => h)) (by simpa using hb))) ?_
  rintro u2 w2 ⟨hr2, hf2, hg2⟩
  refine RL.p rfl rfl ?_
  refine RL.done ?_
  refine RK.ret_of Tryz.func77 (res1 rfl rfl) ?_ _
  exact ⟨_, rfl, hr2, fun b hb => by have := hf2 b hb; have := hn1.grow.size; omega, hn1.grow.trans hg2⟩
end Go.Proofs.YthbjfhhiajihfaaGreat
set_option linter.unusedVariables false
set_option linter.unusedSimpArgs false
set_option maxHeartbeats 400000
set_option maxRecDepth 100000
namespace Go.Proofs.YthbjfhhiajihfaaGreat
open Go Go.X
def canS (b : Nat) : Nat := if nanS b then 9221120237041090561 else b
end Go.Proofs.YthbjfhhiajihfaaGreat
set_option linter.unusedVariables false
set_option linter.unusedSimpArgs false
set_option maxHeartbeats 1000000
set_option maxRecDepth 100000
namespace Go.Proofs.YthbjfhhiajihfaaGreat
open Go Go.X Go.Rex
theorem setAt_of : ∀ {l : List Value} {i : Nat} {v : Value}, i < l.length → SetAt l i v (l.set i v)
  | u :: l, 0, v, _ => .z
  | u :: l, i + 1, v, h => .s (setAt_of (by simpa using h))
abbrev PA (w : World) (p : Nat) (s : ByteArray) (i : Nat) (bad : Bool) : Prop := Blk w p 308 [.string s, .int .i64 (i : Int), .bool bad]
theorem over_ok (w : World) (p : Nat) (s : ByteArray) (i : Nat) (bad : Bool) (h : PA w p s i bad) : Fx Tryz.prog 308 [pp p] w (fun u w' => u = .bool (bad || decide (s.size ≤ i)) ∧ Grow w w') := by
  refine enter Tryz.func308 rfl rfl rfl _ (Pick.sub (l := [0]) (.cons rfl .nil)) ?_
  refine RK.seq ?_
  refine RK.region ?_
  refine RL.p rfl rfl ?_
  refine RL.done ?_
  refine RK.seq ?_
  refine RK.drawM No [(0, false), (1, false), (2, false), (3, false), (4, false), (5, false), (6, false), (7, false), (8, false), (9, false), (10, false), (11, false), (12, false), (13, false), (14, false), (15, false), (16, false)] [] mixed (by kernel_rfl) ?_
  iterate 2 refine DL.p rfl rfl rfl ?_
  refine DL.qf rfl (.free rfl) rfl rfl (Yld.fieldAddr fo308_2 rfl) ?_
  refine DL.q rfl (.free rfl) rfl rfl rfl (Yld.load p4 rfl (atM (h.cell rfl) (fun h => h))) (Mod.drew _ _) ?_
  refine DL.p rfl rfl rfl ?_
  first | refine DL.splitD (d := 7) rfl rfl (fun h7 => ?_) (fun h7 => ?_) | refine DL.splitN (d := 7) rfl rfl (fun h7 => ?_) (fun h7 => ?_) | refine DL.split (d := 7) rfl rfl (fun h7 => ?_) (fun h7 => ?_)
  · iterate 10 refine DL.no rfl (.no rfl rfl rfl rfl) rfl rfl ?_
    iterate 2 refine DL.p rfl rfl rfl ?_
    refine DL.done ?_
    refine RK.ret_of Tryz.func308 (res1 rfl rfl) ?_ _
    exact ⟨_, rfl, by simp_all, Mod.drew _ _⟩
  · iterate 2 refine DL.qf rfl (.yes rfl rfl rfl) rfl rfl (Yld.pure rfl) ?_
    refine DL.qf rfl (.yes rfl rfl rfl) rfl rfl (Yld.fieldAddr fo308_1 rfl) ?_
    refine DL.q rfl (.yes rfl rfl rfl) rfl rfl rfl (Yld.load p3 rfl (atM (h.cell rfl) (fun h => h))) (Mod.drew _ _) ?_
    iterate 2 refine DL.qf rfl (.yes rfl rfl rfl) rfl rfl (Yld.pure rfl) ?_
    refine DL.qf rfl (.yes rfl rfl rfl) rfl rfl (Yld.fieldAddr fo308_0 rfl) ?_
    refine DL.q rfl (.yes rfl rfl rfl) rfl rfl rfl (Yld.load p9 rfl (atM (h.cell rfl) (fun h => h))) (Mod.drew _ _) ?_
    refine DL.q rfl (.yes rfl rfl rfl) rfl rfl rfl (Yld.lenStr u9 rfl) (Mod.drew _ _) ?_
    refine DL.qf rfl (.yes rfl rfl rfl) rfl rfl (Yld.pure rfl) ?_
    iterate 2 refine DL.p rfl rfl rfl ?_
    refine DL.done ?_
    refine RK.ret_of Tryz.func308 (res1 rfl rfl) ?_ _
    exact ⟨_, rfl, by simp_all, Mod.drew _ _⟩
def seesS (s : ByteArray) (i : Nat) (bad : Bool) (c : Nat) : Bool := !bad && decide (i < s.size ∧ b8 s i = c)
theorem sees_ok (w : World) (p : Nat) (s : ByteArray) (i : Nat) (bad : Bool) (h : PA w p s i bad) (c : Nat) : Fx Tryz.prog 309 [pp p, .int .u8 (c : Int)] w (fun u w' => u = .bool (seesS s i bad c) ∧ Grow w w') := by
  refine enter Tryz.func309 rfl rfl rfl _ (Pick.sub (l := [0, 1]) (.cons rfl (.cons rfl .nil))) ?_
  refine RK.seq ?_
  refine RK.region ?_
  refine RL.p rfl rfl ?_
  refine RL.done ?_
  refine RK.seq ?_
  refine RK.drawM No [(0, false), (1, true), (2, false), (3, false), (4, false), (5, false), (6, false), (7, false), (8, false), (9, false), (10, false), (11, false), (12, false), (13, false), (14, false), (15, false), (16, false)] [] mixed (by kernel_rfl) ?_
  refine DL.p rfl rfl rfl ?_
  refine DL.op rfl (.free rfl) rfl rfl (Does.call rfl e308 (over_ok _ p s i bad (h.mod (Mod.drew No _) (fun h => h)))) ?_
  rintro _ w2 ⟨rfl, hg2⟩
  have hgd : Grow w w2 := (Mod.drew _ _).trans hg2
  refine ⟨hgd, ?_⟩
  iterate 2 refine DL.p rfl rfl rfl ?_
  first | refine DL.splitD (d := 8) rfl rfl (fun h8 => ?_) (fun h8 => ?_) | refine DL.splitN (d := 8) rfl rfl (fun h8 => ?_) (fun h8 => ?_) | refine DL.split (d := 8) rfl rfl (fun h8 => ?_) (fun h8 => ?_)
  · have h9 : bad = false ∧ i < s.size := by simpa using h8
    iterate 2 refine DL.qf rfl (.yes rfl rfl rfl) rfl rfl (Yld.pure rfl) ?_
    refine DL.qf rfl (.yes rfl rfl rfl) rfl rfl (Yld.fieldAddr fo308_0 rfl) ?_
    refine DL.q rfl (.yes rfl rfl rfl) rfl rfl rfl (Yld.load p9 rfl (atM (h.cell rfl) (fun h => h))) (hgd) ?_
    iterate 2 refine DL.qf rfl (.yes rfl rfl rfl) rfl rfl (Yld.pure rfl) ?_
    refine DL.qf rfl (.yes rfl rfl rfl) rfl rfl (Yld.fieldAddr fo308_1 rfl) ?_
    refine DL.q rfl (.yes rfl rfl rfl) rfl rfl rfl (Yld.load p3 rfl (atM (h.cell rfl) (fun h => h))) (hgd) ?_
    refine DL.qf rfl (.yes rfl rfl rfl) rfl rfl (Yld.idxStrN u9 rfl rfl (h9.2)) ?_
    iterate 2 refine DL.qf rfl (.yes rfl rfl rfl) rfl rfl (Yld.pure rfl) ?_
    iterate 2 refine DL.p rfl rfl rfl ?_
    refine DL.done ?_
    refine RK.ret_of Tryz.func309 (res1 rfl rfl) ?_ _
    exact ⟨_, rfl, by unfold seesS b8; simp [h9]; omega, hgd⟩
  · iterate 11 refine DL.no rfl (.no rfl rfl rfl rfl) rfl rfl ?_
    iterate 2 refine DL.p rfl rfl rfl ?_
    refine DL.done ?_
    refine RK.ret_of Tryz.func309 (res1 rfl rfl) ?_ _
    exact ⟨_, rfl, by unfold seesS; simp at h8; cases bad with | true => rfl | false => (simp at h8 ⊢; intro h; omega), hgd⟩
theorem next_ok (w : World) (p : Nat) (s : ByteArray) (i : Nat) (bad : Bool) (h : PA w p s i bad) (hi : i ≤ 1000) (c : Nat) : Fx Tryz.prog 293 [pp p, .int .u8 (c : Int)] w (fun u w' => u = .bool (seesS s i bad c) ∧ PA w' p s (if seesS s i bad c then i + 1 else i) bad ∧ Mod (· = p) w w') := by
  refine enter Tryz.func293 rfl rfl rfl _ (Pick.sub (l := [0, 1]) (.cons rfl (.cons rfl .nil))) ?_
  refine RK.seq ?_
  refine RK.region ?_
  refine RL.p rfl rfl ?_
  refine RL.done ?_
  iterate 2 refine RK.seq ?_
  refine RK.region ?_
  iterate 2 refine RL.p rfl rfl ?_
  refine RL.op (.free rfl) rfl rfl (Does.call rfl e309 (sees_ok _ p s i bad h c)) ?_
  rintro _ w2 ⟨rfl, hg2⟩
  have h2 := h.mod hg2 (fun h => h)
  refine RL.p rfl rfl ?_
  refine RL.done ?_
  first | refine RK.condD rfl (fun h8 => ?_) (fun h8 => ?_) | refine RK.condN rfl (fun h8 => ?_) (fun h8 => ?_) | refine RK.cond rfl (fun h8 => ?_) (fun h8 => ?_)
  · have h9 : seesS s i bad c = false := by simpa using h8
    refine RK.seq ?_
    refine RK.region ?_
    refine RL.p rfl rfl ?_
    refine RL.done ?_
    refine RK.ret_of Tryz.func293 (res1 rfl rfl) ?_ _
    exact ⟨_, rfl, by rw [h9], by rw [h9]; exact h2, Mod.any' hg2⟩
  · have h9 : seesS s i bad c = true := by simpa using h8
    refine RK.skip ?_
    refine RK.seq ?_
    refine RK.region ?_
    iterate 2 refine RL.p rfl rfl ?_
    refine RL.q (.free rfl) rfl rfl (Yld.fieldAddr fo308_1 rfl) ?_
    refine RL.q (.free rfl) rfl rfl (Yld.load p3 rfl (at1 (h2.cell rfl))) ?_
    refine RL.p rfl rfl ?_
    refine RL.re (d := 13) rfl rfl (succ_i64 (by omega)) ?_
    refine RL.p rfl rfl ?_
    refine RL.q (.free rfl) rfl rfl (Yld.fieldAddr fo308_1 rfl) ?_
    refine RL.op' (.free rfl) rfl (Does.store i3 rfl rfl rfl h2 (.s .z)) ?_
    rintro _ w3 ⟨hb3, hm3, _⟩
    refine RL.done ?_
    refine RK.seq ?_
    refine RK.region ?_
    refine RL.p rfl rfl ?_
    refine RL.done ?_
    refine RK.ret_of Tryz.func293 (res1 rfl rfl) ?_ _
    exact ⟨_, rfl, by rw [h9], by rw [h9]; exact hb3, (Mod.any' hg2).trans hm3⟩
theorem byte_no (w : World) (p : Nat) (s : ByteArray) (i : Nat) (bad : Bool) (h : PA w p s i bad) (hn : bad = true ∨ s.size ≤ i) : Fx Tryz.prog 322 [pp p] w (fun u w' => u = .int .u8 ((0 : Nat) : Int) ∧ PA w' p s i true ∧ Mod (· = p) w w') := by
  refine enter Tryz.func322 rfl rfl rfl _ (Pick.sub (l := [0]) (.cons rfl .nil)) ?_
  refine RK.seq ?_
  refine RK.region ?_
  refine RL.p rfl rfl ?_
  refine RL.done ?_
  iterate 2 refine RK.seq ?_
  refine RK.region ?_
  refine RL.p rfl rfl ?_
  refine RL.op (.free rfl) rfl rfl (Does.call rfl e308 (over_ok _ p s i bad h)) ?_
  rintro _ w2 ⟨rfl, hg2⟩
  have h2 := h.mod hg2 (fun h => h)
  refine RL.done ?_
  refine RK.condT (hcT rfl (by simpa using hn)) ?_
  refine RK.seq ?_
  refine RK.region ?_
  iterate 2 refine RL.p rfl rfl ?_
  refine RL.q (.free rfl) rfl rfl (Yld.fieldAddr fo308_2 rfl) ?_
  refine RL.op' (.free rfl) rfl (Does.store i4 rfl rfl rfl h2 (.s (.s .z))) ?_
  rintro _ w3 ⟨hb3, hm3, _⟩
  refine RL.done ?_
  refine RK.seq ?_
  refine RK.region ?_
  refine RL.p rfl rfl ?_
  refine RL.done ?_
  refine RK.ret_of Tryz.func322 (res1 rfl rfl) ?_ _
  exact ⟨_, rfl, rfl, hb3, (Mod.any' hg2).trans hm3⟩
theorem byte_yes (w : World) (p : Nat) (s : ByteArray) (i : Nat) (h : PA w p s i false) (hi : i < s.size) (hb : i ≤ 1000) : Fx Tryz.prog 322 [pp p] w (fun u w' => u = .int .u8 (b8 s i : Int) ∧ PA w' p s (i + 1) false ∧ Mod (· = p) w w') := by
  refine enter Tryz.func322 rfl rfl rfl _ (Pick.sub (l := [0]) (.cons rfl .nil)) ?_
  refine RK.seq ?_
  refine RK.region ?_
  refine RL.p rfl rfl ?_
  refine RL.done ?_
  iterate 2 refine RK.seq ?_
  refine RK.region ?_
  refine RL.p rfl rfl ?_
  refine RL.op (.free rfl) rfl rfl (Does.call rfl e308 (over_ok _ p s i false h)) ?_
  rintro _ w2 ⟨rfl, hg2⟩
  have h2 := h.mod hg2 (fun h => h)
  refine RL.done ?_
  refine RK.condF (hcF rfl (by simp; omega)) ?_
  refine RK.skip ?_
  refine RK.seq ?_
  refine RK.region ?_
  iterate 2 refine RL.p rfl rfl ?_
  refine RL.q (.free rfl) rfl rfl (Yld.fieldAddr fo308_1 rfl) ?_
  refine RL.q (.free rfl) rfl rfl (Yld.load p3 rfl (at1 (h2.cell rfl))) ?_
  refine RL.p rfl rfl ?_
  refine RL.re (d := 12) rfl rfl (succ_i64 (by omega)) ?_
  refine RL.p rfl rfl ?_
  refine RL.q (.free rfl) rfl rfl (Yld.fieldAddr fo308_1 rfl) ?_
  refine RL.op' (.free rfl) rfl (Does.store i3 rfl rfl rfl h2 (.s .z)) ?_
  rintro _ w3 ⟨hb3, hm3, _⟩
  have h3 : PA w3 p s (i + 1) false := hb3
  refine RL.done ?_
  refine RK.seq ?_
  refine RK.drawM No [(0, false), (1, false), (2, false), (3, false), (4, false), (5, false), (6, false), (7, false), (8, false), (9, false), (10, false)] [] mixed (by kernel_rfl) ?_
  iterate 2 refine DL.p rfl rfl rfl ?_
  refine DL.qf rfl (.free rfl) rfl rfl (Yld.fieldAddr fo308_0 rfl) ?_
  refine DL.q rfl (.free rfl) rfl rfl rfl (Yld.load p9 rfl (atM (h3.cell rfl) (fun h => h))) (Mod.drew _ _) ?_
  iterate 2 refine DL.p rfl rfl rfl ?_
  refine DL.qf rfl (.free rfl) rfl rfl (Yld.fieldAddr fo308_1 rfl) ?_
  refine DL.q rfl (.free rfl) rfl rfl rfl (Yld.load p3 rfl (atM (h3.cell rfl) (fun h => h))) (Mod.drew _ _) ?_
  refine DL.p rfl rfl rfl ?_
  refine DL.re (d := 23) rfl rfl (sub_i64 (z := (i : Int)) (by omega) (by omega) (by omega)) ?_
  refine DL.qf rfl (.free rfl) rfl rfl (Yld.idxStrN u9 rfl rfl (hi)) ?_
  refine DL.p rfl rfl rfl ?_
  refine DL.done ?_
  refine RK.ret_of Tryz.func322 (res1 rfl rfl) ?_ _
  exact ⟨_, rfl, rfl, h3.mod (Mod.drew No _) (fun h => h), ((Mod.any' hg2).trans hm3).trans (Mod.drew _ _)⟩
theorem idx_neg (l : List UInt8) (c : UInt8) : (Lib.indexByte l c < 0 ↔ c ∉ l) ∧ -1 ≤ Lib.indexByte l c := by
  induction l with
  | nil => simp [Lib.indexByte]
  | cons b l ih =>
    unfold Lib.indexByte
    by_cases e : b = c
    · subst e; simp
    · rw [if_neg (by simpa using e)]
      obtain ⟨h1, h2⟩ := ih
      by_cases e2 : Lib.indexByte l c = -1
      · rw [if_pos (by simpa using e2)]
        have : c ∉ l := h1.1 (by omega)
        simp [this, Ne.symm e]
      · rw [if_neg (by simpa using e2)]
        have h3 : ¬ Lib.indexByte l c < 0 := by omega
        have h4 : c ∈ l := Classical.byContradiction fun h => h3 (h1.2 h)
        refine ⟨⟨fun h => by omega, fun h => absurd (List.mem_cons_of_mem _ h4) h⟩, by omega⟩
theorem indexByte_ok (w : World) (t : ByteArray) (c : Nat) (hc : c < 256) : Fx Tryz.prog 327 [.string t, .int .u8 (c : Int)] w (fun u w' => ∃ z : Int, u = .int .i64 z ∧ (z < 0 ↔ ¬ ∃ b ∈ t.data.toList, b.toNat = c) ∧ w = w') := by
  refine Calls.mono (Tryz.strings_IndexByte t (c : Int) w) ?_
  rintro e w' ⟨rfl, rfl⟩
  refine ⟨_, rfl, _, rfl, ?_, rfl⟩
  rw [(idx_neg _ _).1]
  have : ((c : Int).toNat.toUInt8).toNat = c := by simp; omega
  constructor
  · rintro h ⟨b, hb, e⟩
    exact h (by rw [show (c : Int).toNat.toUInt8 = b from UInt8.toNat_inj.1 (by omega)]; exact hb)
  · intro h hm
    exact h ⟨_, hm, this⟩
end Go.Proofs.YthbjfhhiajihfaaGreat
set_option linter.unusedVariables false
set_option linter.unusedSimpArgs false
set_option maxHeartbeats 1000000
set_option maxRecDepth 100000
namespace Go.Proofs.YthbjfhhiajihfaaGreat
open Go Go.X Go.Rex
def RB (w' : World) (p : Nat) (s : ByteArray) (r : Option (Nat × Nat)) (u : Value) : Prop := match r with
  | some (b, j) => u = .int .u8 (b : Int) ∧ PA w' p s j false
  | none => ∃ c j : Nat, c < 256 ∧ u = .int .u8 (c : Int) ∧ PA w' p s j true ∧ j ≤ s.size
theorem sign_ok (w : World) (p : Nat) (s : ByteArray) (i : Nat) (h : PA w p s i false) (hi : i ≤ s.size) (hs : s.size ≤ 40) : Fx Tryz.prog 326 [pp p] w (fun u w' => RB w' p s (signS s i) u ∧ Mod (· = p) w w') := by
  by_cases hl : i < s.size
  · have hc := b8_lt s i
    refine enter Tryz.func326 rfl rfl rfl _ (Pick.sub (l := [0]) (.cons rfl .nil)) ?_
    refine RK.seq ?_
    refine RK.region ?_
    refine RL.p rfl rfl ?_
    refine RL.done ?_
    refine RK.seq ?_
    refine RK.region ?_
    refine RL.p rfl rfl ?_
    refine RL.op (.free rfl) rfl rfl (Does.call rfl e322 (byte_yes _ p s i h hl (by omega))) ?_
    rintro _ w2 ⟨rfl, hB2, hm2⟩
    refine RL.p rfl rfl ?_
    refine RL.done ?_
    refine RK.seq ?_
    refine RK.region ?_
    iterate 3 refine RL.p rfl rfl ?_
    refine RL.q (.free rfl) rfl rfl (Yld.fieldAddr fo308_2 rfl) ?_
    refine RL.q (.free rfl) rfl rfl (Yld.load p4 rfl (at1 (hB2.cell rfl))) ?_
    refine RL.p rfl rfl ?_
    refine RL.knownF (d := 11) rfl rfl (rfl) ?_
    refine RL.q (.yes rfl rfl rfl) rfl rfl (Yld.pure rfl) ?_
    refine RL.op (.yes rfl rfl rfl) rfl rfl (Does.call rfl e327 (indexByte_ok _ _ _ hc)) ?_
    rintro _ _ ⟨z, rfl, hz, rfl⟩
    refine RL.q (.yes rfl rfl rfl) rfl rfl (Yld.pure rfl) ?_
    iterate 2 refine RL.p rfl rfl ?_
    refine RL.q (.free rfl) rfl rfl (Yld.fieldAddr fo308_2 rfl) ?_
    refine RL.op' (.free rfl) rfl (Does.store i4 rfl rfl rfl hB2 (.s (.s .z))) ?_
    rintro _ w3 ⟨hb3, hm3, _⟩
    have hq : (z < 0 ↔ ¬ quotedS (b8 s i) = true) := by rw [hz]; unfold quotedS; simp; omega
    refine RL.done ?_
    refine RK.seq ?_
    refine RK.region ?_
    iterate 2 refine RL.p rfl rfl ?_
    refine RL.done ?_
    refine RK.ret_of Tryz.func326 (res1 rfl rfl) ?_ _
    exact ⟨_, rfl, by
        unfold RB signS
        by_cases hqq : quotedS (b8 s i) = true
        · rw [if_pos ⟨hl, hqq⟩]
          have : ¬ z < 0 := fun h => hq.1 h hqq
          simp only [this, decide_false] at hb3
          exact ⟨rfl, hb3⟩
        · rw [if_neg (fun h => hqq h.2)]
          have : z < 0 := hq.2 hqq
          simp only [this, decide_true] at hb3
          exact ⟨_, _, hc, rfl, hb3, by omega⟩
      , hm2.trans hm3⟩
  · skip
    refine enter Tryz.func326 rfl rfl rfl _ (Pick.sub (l := [0]) (.cons rfl .nil)) ?_
    refine RK.seq ?_
    refine RK.region ?_
    refine RL.p rfl rfl ?_
    refine RL.done ?_
    refine RK.seq ?_
    refine RK.region ?_
    refine RL.p rfl rfl ?_
    refine RL.op (.free rfl) rfl rfl (Does.call rfl e322 (byte_no _ p s i false h (.inr (by omega)))) ?_
    rintro _ w2 ⟨rfl, hB2, hm2⟩
    refine RL.p rfl rfl ?_
    refine RL.done ?_
    refine RK.seq ?_
    refine RK.region ?_
    iterate 3 refine RL.p rfl rfl ?_
    refine RL.q (.free rfl) rfl rfl (Yld.fieldAddr fo308_2 rfl) ?_
    refine RL.q (.free rfl) rfl rfl (Yld.load p4 rfl (at1 (hB2.cell rfl))) ?_
    refine RL.p rfl rfl ?_
    refine RL.knownT (d := 11) rfl rfl (rfl) ?_
    iterate 3 refine RL.no (.no rfl rfl rfl rfl) rfl rfl ?_
    iterate 2 refine RL.p rfl rfl ?_
    refine RL.q (.free rfl) rfl rfl (Yld.fieldAddr fo308_2 rfl) ?_
    refine RL.op' (.free rfl) rfl (Does.store i4 rfl rfl rfl hB2 (.s (.s .z))) ?_
    rintro _ w3 ⟨hb3, hm3, _⟩
    refine RL.done ?_
    refine RK.seq ?_
    refine RK.region ?_
    iterate 2 refine RL.p rfl rfl ?_
    refine RL.done ?_
    refine RK.ret_of Tryz.func326 (res1 rfl rfl) ?_ _
    exact ⟨_, rfl, by
        unfold RB signS
        rw [if_neg (fun h => hl h.1)]
        exact ⟨_, _, by omega, rfl, hb3, by omega⟩
      , hm2.trans hm3⟩
theorem member_ok (w : World) (p : Nat) (s : ByteArray) (i : Nat) (h : PA w p s i false) (hi : i ≤ s.size) (hs : s.size ≤ 40) : Fx Tryz.prog 328 [pp p] w (fun u w' => RB w' p s (memS s i) u ∧ Mod (· = p) w w') := by
  by_cases hl : i < s.size
  · have hc := b8_lt s i
    refine enter Tryz.func328 rfl rfl rfl _ (Pick.sub (l := [0]) (.cons rfl .nil)) ?_
    refine RK.seq ?_
    refine RK.region ?_
    refine RL.p rfl rfl ?_
    refine RL.done ?_
    refine RK.seq ?_
    refine RK.region ?_
    refine RL.p rfl rfl ?_
    refine RL.op (.free rfl) rfl rfl (Does.call rfl e322 (byte_yes _ p s i h hl (by omega))) ?_
    rintro _ w2 ⟨rfl, hB2, hm2⟩
    refine RL.p rfl rfl ?_
    refine RL.done ?_
    iterate 2 refine RK.seq ?_
    refine RK.region ?_
    iterate 2 refine RL.p rfl rfl ?_
    refine RL.done ?_
    first | refine RK.condD rfl (fun h7 => ?_) (fun h7 => ?_) | refine RK.condN rfl (fun h7 => ?_) (fun h7 => ?_) | refine RK.cond rfl (fun h7 => ?_) (fun h7 => ?_)
    · have h92 : b8 s i = 92 := by omega
      refine RK.seq ?_
      refine RK.region ?_
      refine RL.p rfl rfl ?_
      refine RL.op (.free rfl) rfl rfl (Does.call rfl e326 (sign_ok _ p s (i + 1) hB2 (by omega) hs)) ?_
      rintro u3 w3 ⟨hr3, hm3⟩
      have e : memS s i = signS s (i + 1) := by unfold memS; rw [if_pos hl, if_pos h92]
      refine RL.p rfl rfl ?_
      refine RL.done ?_
      refine RK.ret_of Tryz.func328 (res1 rfl rfl) ?_ _
      exact ⟨_, rfl, by rw [e]; exact hr3, hm2.trans hm3⟩
    · have h92 : ¬ b8 s i = 92 := by omega
      refine RK.skip ?_
      refine RK.seq ?_
      refine RK.region ?_
      iterate 3 refine RL.p rfl rfl ?_
      refine RL.q (.free rfl) rfl rfl (Yld.fieldAddr fo308_2 rfl) ?_
      refine RL.q (.free rfl) rfl rfl (Yld.load p4 rfl (at1 (hB2.cell rfl))) ?_
      refine RL.p rfl rfl ?_
      refine RL.knownF (d := 15) rfl rfl (rfl) ?_
      refine RL.q (.yes rfl rfl rfl) rfl rfl (Yld.pure rfl) ?_
      refine RL.op (.yes rfl rfl rfl) rfl rfl (Does.call rfl e327 (indexByte_ok _ _ _ hc)) ?_
      rintro _ _ ⟨z, rfl, hz, rfl⟩
      refine RL.q (.yes rfl rfl rfl) rfl rfl (Yld.pure rfl) ?_
      iterate 2 refine RL.p rfl rfl ?_
      refine RL.q (.free rfl) rfl rfl (Yld.fieldAddr fo308_2 rfl) ?_
      refine RL.op' (.free rfl) rfl (Does.store i4 rfl rfl rfl hB2 (.s (.s .z))) ?_
      rintro _ w3 ⟨hb3, hm3, _⟩
      have hq : (z < 0 ↔ ¬ (b8 s i = 93 ∨ b8 s i = 91 ∨ b8 s i = 94 ∨ b8 s i = 45)) := by rw [hz]; simp; omega
      refine RL.done ?_
      refine RK.seq ?_
      refine RK.region ?_
      iterate 2 refine RL.p rfl rfl ?_
      refine RL.done ?_
      refine RK.ret_of Tryz.func328 (res1 rfl rfl) ?_ _
      exact ⟨_, rfl, by
          unfold RB memS
          rw [if_pos hl, if_neg h92]
          by_cases hqq : b8 s i = 93 ∨ b8 s i = 91 ∨ b8 s i = 94 ∨ b8 s i = 45
          · rw [if_pos hqq]
            have : (0 : Int) ≤ z := by have := fun h => hq.1 h hqq; omega
            simp only [ge_iff_le, this, decide_true] at hb3
            exact ⟨_, _, hc, rfl, hb3, by omega⟩
          · rw [if_neg hqq]
            have : ¬ (0 : Int) ≤ z := by have := hq.2 hqq; omega
            simp only [ge_iff_le, this, decide_false] at hb3
            exact ⟨rfl, hb3⟩
        , hm2.trans hm3⟩
  · skip
    refine enter Tryz.func328 rfl rfl rfl _ (Pick.sub (l := [0]) (.cons rfl .nil)) ?_
    refine RK.seq ?_
    refine RK.region ?_
    refine RL.p rfl rfl ?_
    refine RL.done ?_
    refine RK.seq ?_
    refine RK.region ?_
    refine RL.p rfl rfl ?_
    refine RL.op (.free rfl) rfl rfl (Does.call rfl e322 (byte_no _ p s i false h (.inr (by omega)))) ?_
    rintro _ w2 ⟨rfl, hB2, hm2⟩
    refine RL.p rfl rfl ?_
    refine RL.done ?_
    iterate 2 refine RK.seq ?_
    refine RK.region ?_
    iterate 2 refine RL.p rfl rfl ?_
    refine RL.done ?_
    refine RK.condF (hcF rfl (by simp)) ?_
    refine RK.skip ?_
    refine RK.seq ?_
    refine RK.region ?_
    iterate 3 refine RL.p rfl rfl ?_
    refine RL.q (.free rfl) rfl rfl (Yld.fieldAddr fo308_2 rfl) ?_
    refine RL.q (.free rfl) rfl rfl (Yld.load p4 rfl (at1 (hB2.cell rfl))) ?_
    refine RL.p rfl rfl ?_
    refine RL.knownT (d := 15) rfl rfl (rfl) ?_
    iterate 3 refine RL.no (.no rfl rfl rfl rfl) rfl rfl ?_
    iterate 2 refine RL.p rfl rfl ?_
    refine RL.q (.free rfl) rfl rfl (Yld.fieldAddr fo308_2 rfl) ?_
    refine RL.op' (.free rfl) rfl (Does.store i4 rfl rfl rfl hB2 (.s (.s .z))) ?_
    rintro _ w3 ⟨hb3, hm3, _⟩
    refine RL.done ?_
    refine RK.seq ?_
    refine RK.region ?_
    iterate 2 refine RL.p rfl rfl ?_
    refine RL.done ?_
    refine RK.ret_of Tryz.func328 (res1 rfl rfl) ?_ _
    exact ⟨_, rfl, by
        unfold RB memS
        rw [if_neg hl]
        exact ⟨_, _, by omega, rfl, hb3, by omega⟩
      , hm2.trans hm3⟩
abbrev wds (l : List Nat) : List Value := l.map fun x : Nat => Value.int .u64 (x : Int)
theorem add1_ok (w : World) (b o t : Nat) (cs : List Value) (l : List Nat) (hB : Blk w b t cs) (hl : W4 l) (hc : ∀ j, j < 4 → cs[o + j]? = (wds l)[j]?) (ho : o + 4 ≤ cs.length) (c : Nat) (h256 : c < 256) :
    Fx Tryz.prog 325 [.pointer (some ⟨b, o, none⟩), .int .u8 (c : Int)] w (fun u w' => u = .tuple #[] ∧ Blk w' b t (cs.set (o + c / 64) (.int .u64 ((((l[c / 64]?).getD 0) ||| 1 <<< (c % 64) : Nat) : Int))) ∧ Mod (· = b) w w') := by
  obtain ⟨hl4, hlt⟩ := hl
  have hq : c / 64 < 4 := by omega
  obtain ⟨y, hy⟩ : ∃ y, l[c / 64]? = some y := ⟨_, List.getElem?_eq_getElem (by omega)⟩
  have hyl := hlt y (List.mem_of_getElem? hy)
  have h1 : (1 <<< (c % 64)) < 18446744073709551616 := by
    rw [Nat.shiftLeft_eq, Nat.one_mul]; exact Nat.pow_lt_pow_right (m := c % 64) (n := 64) (by omega) (Nat.mod_lt _ (by omega))
  have hcell : cs[o + c / 64]? = some (.int .u64 (y : Int)) := by rw [hc _ hq]; simp [hy]
  have e1 : IntKind.u8.wrap ((c : Int).tdiv 64) = ((c / 64 : Nat) : Int) := by
    have e2 : (c : Int).tdiv 64 = ((c / 64 : Nat) : Int) := by rw [Int.tdiv_eq_ediv_of_nonneg (by omega)]; omega
    rw [e2]; exact wrap_u8 (by omega)
  have e3 : (c : Int).tmod 64 = ((c % 64 : Nat) : Int) := by rw [Int.tmod_eq_emod_of_nonneg (by omega)]; omega
  rw [hy]
  refine enter Tryz.func325 rfl rfl rfl _ (Pick.sub (l := [0, 1]) (.cons rfl (.cons rfl .nil))) ?_
  refine RK.drawM (· = b) [(0, false), (1, false), (2, false), (3, false), (4, false), (6, false), (7, false), (8, false), (10, false), (5, true), (9, false), (11, false), (12, true)] [12] mixed (by kernel_rfl) ?_
  iterate 2 refine DL.p rfl rfl rfl ?_
  refine DL.qf rfl (.free rfl) rfl rfl (Yld.quo rfl rfl (by omega)) ?_
  refine DL.re (d := 6) rfl rfl (congrArg (Value.int .u8) e1) ?_
  refine DL.p rfl rfl rfl ?_
  refine DL.qf rfl (.free rfl) rfl rfl (Yld.indexArr Tryz.underlying221 i66 rfl rfl (hq)) ?_
  refine DL.p rfl rfl rfl ?_
  refine DL.qf rfl (.free rfl) rfl rfl (Yld.rem rfl rfl (by omega)) ?_
  refine DL.re (d := 11) rfl rfl (congrArg (Value.int .u8) e3) ?_
  refine DL.qf rfl (.free rfl) rfl rfl (Yld.shl (a := 1) rfl rfl (by simp [IntKind.bits]; omega)) ?_
  refine DL.re (d := 12) rfl rfl (congrArg (Value.int .u64) (Go.X.wrap_u64 h1)) ?_
  refine DL.p rfl rfl rfl ?_
  refine DL.lq rfl (.free rfl) rfl rfl (Yld.load p66 rfl (at1 (hB.cell' (by rw [Nat.mul_one]; exact hcell)))) ?_
  refine DL.p rfl rfl rfl ?_
  refine DL.re (d := 13) rfl rfl (congrArg (Value.int .u64) (Go.X.u64_or hyl h1)) ?_
  refine DL.qf rfl (.free rfl) rfl rfl (Yld.indexArr Tryz.underlying221 i66 rfl rfl (hq)) ?_
  refine DL.opT rfl (.free rfl) rfl rfl (Does.store i66 rfl rfl rfl hB (setAt_of (by omega))) ?_
  rintro _ w2 ⟨hb2, hm2, _⟩
  refine DL.done ?_
  refine RK.end_of Tryz.func325 (res0 rfl) ?_
  exact ⟨_, rfl, rfl, by simpa using hb2, (Mod.drew _ _).trans hm2⟩
theorem wds_bit {l : List Nat} (hl : W4 l) {c : Nat} (hc : c < 256) : (wds l).set (c / 64) (.int .u64 ((((l[c / 64]?).getD 0) ||| 1 <<< (c % 64) : Nat) : Int)) = wds (setBit l c) := by
  have hq : c / 64 < l.length := by rw [hl.1]; omega
  apply List.ext_getElem?
  intro j
  unfold setBit
  simp only [List.getElem?_map, List.getElem?_modify, List.getElem?_set, List.length_map]
  by_cases e : c / 64 = j
  · subst e
    simp [hq, List.getElem?_eq_getElem hq]
  · simp [e]
theorem add_set (w : World) (b : Nat) (l : List Nat) (hB : Blk w b 221 (wds l)) (hl : W4 l) (c : Nat) (h256 : c < 256) :
    Fx Tryz.prog 325 [pp b, .int .u8 (c : Int)] w (fun u w' => u = .tuple #[] ∧ Blk w' b 221 (wds (setBit l c)) ∧ Mod (· = b) w w') := by
  refine Fx.mono (add1_ok w b 0 _ _ l hB hl (fun j _ => by rw [Nat.zero_add]) (by simp [hl.1]) c h256) ?_
  rintro u w' ⟨rfl, h1, h2⟩
  rw [Nat.zero_add, wds_bit hl h256] at h1
  exact ⟨rfl, h1, h2⟩
theorem inv_set {l : List Nat} {k : Nat} {x : Nat} (hx : l[k]? = some x) : ((invS l).take k ++ l.drop k).set k (18446744073709551615 - x) = (invS l).take (k + 1) ++ l.drop (k + 1) := by
  have hk := (List.getElem?_eq_some_iff.1 hx).1
  have e : ((invS l).take k).length = k := by simp [invS]; omega
  rw [List.drop_eq_getElem_cons hk, List.set_append_right _ _ (by omega), e, Nat.sub_self, List.set_cons_zero, List.take_succ_eq_append_getElem (by simpa [invS] using hk)]
  simp [invS, (List.getElem?_eq_some_iff.1 hx).2]
theorem blk0' {w : World} {b t : Nat} {cs : List Value} (h : Blk w b t cs) : ∀ (j : Nat) (u : Value), cs[j]? = some u → w.cell? ⟨b, 0 + j, none⟩ = some u := fun j u hj => by rw [Nat.zero_add]; exact h.cell' hj
theorem turned_ok (w : World) (l : List Nat) (hl : W4 l) : Fx Tryz.prog 324 [.agg (wds l).toArray] w (fun u w' => u = .agg (wds (invS l)).toArray ∧ Grow w w') := by
  obtain ⟨hl4, hlt⟩ := hl
  obtain ⟨x0, x1, x2, x3, rfl⟩ : ∃ x0 x1 x2 x3, l = [x0, x1, x2, x3] := by
    match l, hl4 with
    | [x0, x1, x2, x3], _ => exact ⟨x0, x1, x2, x3, rfl⟩
  generalize hle : [x0, x1, x2, x3] = l at *
  have hil : (invS l).length = 4 := by simpa [invS] using hl4
  refine enter Tryz.func324 rfl rfl rfl _ (Pick.sub (l := [0]) (.cons rfl .nil)) ?_
  refine RK.seq ?_
  refine RK.region ?_
  refine RL.op (.free rfl) rfl rfl (Does.box rfl) ?_
  rintro _ w1 ⟨b1, rfl, hn1⟩
  have hB1 : Blk w1 b1 221 (wds l) := by have := hn1.blk; simpa [Value.cells] using this
  refine RL.op (.free rfl) rfl rfl (Does.alloc i221) ?_
  rintro _ w2 ⟨b2, rfl, hn2⟩
  have hne : b1 ≠ b2 := by have := hn1.lt; have := hn2.at_; omega
  refine RL.done ?_
  iterate 2 refine RK.seq ?_
  refine RK.region ?_
  refine RL.p rfl rfl ?_
  refine RL.done ?_
  refine RK.block ?_
  refine RK.loop (fun k : Nat => [(1, pp b1), (2, pp b2), (4, .int .i64 (k : Int))]) (fun k w' => Blk w' b1 221 (wds ((invS l).take k ++ l.drop k)) ∧ Mod (· = b1) w2 w' ∧ k ≤ 4) (fun k => 4 - k) 0 ⟨rfl, rfl, rfl, trivial⟩ ⟨by simpa using hB1.mod hn2.grow (fun h => h), Mod.refl _ _, by omega⟩ (fun k w3 hI ih => ?_)
  obtain ⟨hB, hm, hk⟩ := hI
  refine RK.seq ?_
  refine RK.region ?_
  refine RL.p rfl rfl ?_
  refine RL.done ?_
  refine RK.seq ?_
  first | refine RK.condD rfl (fun h5 => ?_) (fun h5 => ?_) | refine RK.condN rfl (fun h5 => ?_) (fun h5 => ?_) | refine RK.cond rfl (fun h5 => ?_) (fun h5 => ?_)
  · obtain ⟨x, hx⟩ : ∃ x, l[k]? = some x := ⟨l[k]'(by omega), List.getElem?_eq_getElem (by omega)⟩
    have hxl := hlt x (List.mem_of_getElem? hx)
    have hcx : (wds ((invS l).take k ++ l.drop k))[0 + k * 1]? = some (.int .u64 (x : Int)) := by
        rw [Nat.zero_add, Nat.mul_one, List.getElem?_map, List.getElem?_append_right (by simp [invS]; omega)]
        simp [invS, hl4, hk, hx, show min k 4 = k by omega]
    refine RK.skip ?_
    refine RK.seq ?_
    refine RK.block ?_
    refine RK.seq ?_
    refine RK.region ?_
    iterate 2 refine RL.p rfl rfl ?_
    refine RL.done ?_
    refine RK.region ?_
    iterate 2 refine RL.p rfl rfl ?_
    refine RL.q (.free rfl) rfl rfl (Yld.indexArr Tryz.underlying221 i66 rfl rfl (by omega)) ?_
    refine RL.q (.free rfl) rfl rfl (Yld.load p66 rfl (at1 (hB.cell' hcx))) ?_
    refine RL.q (.free rfl) rfl rfl (Yld.compl rfl (by omega) (by omega)) ?_
    refine RL.re (d := 11) rfl rfl (congrArg (Value.int .u64) (show _ = ((18446744073709551615 - x : Nat) : Int) by omega)) ?_
    refine RL.q (.free rfl) rfl rfl (Yld.indexArr Tryz.underlying221 i66 rfl rfl (by omega)) ?_
    refine RL.op' (.free rfl) rfl (Does.store i66 rfl rfl rfl hB (setAt_of (by simp [invS, hl4]; omega))) ?_
    rintro _ w4 ⟨hb4, hm4, _⟩
    refine RL.done ?_
    refine RK.inBlock ?_
    refine RK.region ?_
    refine RL.p rfl rfl ?_
    refine RL.re (d := 13) rfl rfl (succ_i64 (by omega)) ?_
    refine RL.p rfl rfl ?_
    refine RL.done ?_
    exact RK.back (ih (k + 1) _ ⟨by rw [Nat.zero_add, Nat.mul_one, ← List.map_set, inv_set hx] at hb4; exact hb4, hm.trans hm4, by omega⟩ (by omega)) ⟨rfl, rfl, rfl, trivial⟩
  · have ek : k = 4 := by omega
    subst ek
    have e1 : (invS l).take 4 ++ l.drop 4 = invS l := by rw [List.take_of_length_le (by omega), List.drop_eq_nil_of_le (by omega), List.append_nil]
    rw [e1] at hB
    have hB2 := hn2.blk.mod hm (Ne.symm hne)
    subst hle
    refine RK.exit rfl ?_
    refine RK.seq ?_
    refine RK.region ?_
    refine RL.q (.free rfl) rfl rfl (Yld.loadN (cs := wds (invS [x0, x1, x2, x3])) a221 rfl (atN (blk0' hB))) ?_
    refine RL.op' (.free rfl) rfl (Does.storeN i221 rfl rfl (by simp [Value.cells, hil]) (by simp [Value.cells, Value.oneCell']) hB2 (by decide)) ?_
    rintro _ w4 ⟨hb4, hm4, _⟩
    refine RL.done ?_
    refine RK.ret_of Tryz.func324 (resC (cs := wds (invS [x0, x1, x2, x3])) rfl rfl a221 hb4) ?_ _
    exact ⟨_, rfl, rfl, ((hn1.grow.trans hn2.grow).then hm (fun b hb e => by have e' : b = b1 := e; have := hn1.at_; omega)).then hm4 (fun b hb e => by have e' : b = b2 := e; have := hn2.at_; have := hn1.grow.size; omega)⟩
end Go.Proofs.YthbjfhhiajihfaaGreat
set_option linter.unusedVariables false
set_option linter.unusedSimpArgs false
set_option maxHeartbeats 1000000
set_option maxRecDepth 100000
namespace Go.Proofs.YthbjfhhiajihfaaGreat
open Go Go.X Go.Rex
theorem member_ok' (w : World) (p : Nat) (s : ByteArray) (i : Nat) (h : PA w p s i false) (hi : i ≤ s.size) (hs : s.size ≤ 40) : Fx Tryz.prog 328 [pp p] w (fun u w' => ∃ (c j : Nat) (bad : Bool), u = .int .u8 (c : Int) ∧ c < 256 ∧ j ≤ s.size ∧ PA w' p s j bad ∧ memS s i = (if bad then none else some (c, j)) ∧ Mod (· = p) w w') := by
  refine Fx.mono (member_ok w p s i h hi hs) ?_
  rintro u w' ⟨hr, hm⟩
  cases hmm : memS s i with
  | none =>
    rw [hmm] at hr
    obtain ⟨c, j, h1, h2, h3, h4⟩ := hr
    exact ⟨c, j, true, h2, h1, h4, h3, rfl, hm⟩
  | some q =>
    obtain ⟨c, j⟩ := q
    rw [hmm] at hr
    have := memS_adv hmm
    exact ⟨c, j, false, hr.1, this.2.2, this.2.1, hr.2, rfl, hm⟩
def bodyS (s : ByteArray) (n i : Nat) (set : List Nat) : Option (List Nat × Nat) := match memS s i with
  | none => none
  | some (a, i1) => match toS s a i1 with
    | none => none
    | some (b, i2) => if b < a then none else clsL s n i2 (addG set a b)
theorem body_go {s : ByteArray} {n i : Nat} {set : List Nat} (hi : i < s.size) (h93 : b8 s i ≠ 93) : clsL s (n + 1) i set = bodyS s n i set := by
  unfold bodyS
  rw [clsL, if_pos hi, if_neg h93]
  rfl
theorem body_first {s : ByteArray} {i : Nat} : (if i < s.size ∧ b8 s i = 93 then none else clsL s (s.size + 1) i zero4) = bodyS s s.size i zero4 := by
  by_cases hi : i < s.size
  · by_cases h93 : b8 s i = 93
    · rw [if_pos ⟨hi, h93⟩]
      unfold bodyS memS
      rw [if_pos hi, if_neg (by omega), if_pos (.inl h93)]
    · rw [if_neg (fun h => h93 h.2), body_go hi h93]
  · rw [if_neg (fun h => hi h.1)]
    unfold bodyS memS
    rw [clsL, if_neg hi, if_neg hi]
theorem clsB_eq (s : ByteArray) (no : Bool) (i : Nat) : clsB s no i = (bodyS s s.size i zero4).map fun q => (if no then invS q.1 else q.1, q.2) := by
  rw [← body_first]
  unfold clsB
  split
  · rfl
  · cases clsL s (s.size + 1) i zero4 <;> rfl
structure ClsI (s : ByteArray) (T : Option (List Nat × Nat)) (first bad : Bool) (i : Nat) (set : List Nat) : Prop where
  one : first = true → bad = false ∧ bodyS s s.size i set = T
  go : first = false → bad = false → ∃ n, clsL s n i set = T ∧ s.size + 1 ≤ n + i
  no : bad = true → first = false ∧ T = none
theorem ClsI.step {s : ByteArray} {T : Option (List Nat × Nat)} {m i : Nat} {set : List Nat} (h : bodyS s m i set = T) (hm : s.size ≤ m + i) {c j : Nat} {bad : Bool} (h1 : memS s i = if bad then none else some (c, j)) {c2 j2 : Nat} {bad2 : Bool} (h2 : bad = true → bad2 = true) (h3 : bad = false → toS s c j = if bad2 then none else some (c2, j2)) : ClsI s T false (bad2 || decide (c2 < c)) j2 (addG set c c2) := by
  unfold bodyS at h
  cases bad with
  | true =>
    rw [h1] at h
    have hb := h2 rfl
    subst hb
    exact ⟨by simp, by simp, fun _ => ⟨rfl, h.symm⟩⟩
  | false =>
    have h4 := h3 rfl
    rw [h1] at h
    simp only [Bool.false_eq_true, if_false] at h
    have h5 := memS_adv h1
    rw [h4] at h
    cases bad2 with
    | true => exact ⟨by simp, by simp, fun _ => ⟨rfl, h.symm⟩⟩
    | false =>
      simp only [Bool.false_eq_true, if_false] at h h4
      have h6 := toS_adv h4 h5.2.1 h5.2.2
      by_cases hlt : c2 < c
      · rw [if_pos hlt] at h
        exact ⟨by simp, by simp [hlt], fun _ => ⟨rfl, h.symm⟩⟩
      · rw [if_neg hlt] at h
        exact ⟨by simp, fun _ _ => ⟨m, h, by omega⟩, by simp [hlt]⟩
theorem range_snoc (a d : Nat) (l : List Nat) : (List.range' a (d + 1)).foldl setBit l = setBit ((List.range' a d).foldl setBit l) (a + d) := by
  rw [List.range'_1_concat, List.foldl_append]; rfl
def partR (l : List Nat) (a d : Nat) : List Nat := (List.range' a d).foldl setBit l
theorem partR_w4 {l : List Nat} (h : W4 l) (a : Nat) : ∀ d, W4 (partR l a d)
  | 0 => h
  | d + 1 => by unfold partR; rw [range_snoc]; exact (partR_w4 h a d).bit _
theorem class_ok (w : World) (p : Nat) (s : ByteArray) (i : Nat) (h : PA w p s i false) (hi : i ≤ s.size) (hs : s.size ≤ 40) : Fx Tryz.prog 323 [pp p] w (fun u w' => ∃ (l : List Nat) (j : Nat) (bad : Bool), u = .agg (wds l).toArray ∧ W4 l ∧ j ≤ s.size ∧ PA w' p s j bad ∧ clsS s i = (if bad then none else some (l, j)) ∧ Mod (· = p) w w') := by
  have hplt := h.lt
  refine enter Tryz.func323 rfl rfl rfl _ (Pick.sub (l := [0]) (.cons rfl .nil)) ?_
  refine RK.seq ?_
  refine RK.region ?_
  refine RL.op (.free rfl) rfl rfl (Does.alloc i221) ?_
  rintro _ w1 ⟨b2, rfl, hn2⟩
  refine RL.done ?_
  refine RK.seq ?_
  refine RK.region ?_
  refine RL.op (.free rfl) rfl rfl (Does.alloc i221) ?_
  rintro _ w2 ⟨b3, rfl, hn3⟩
  have hg2 := hn2.grow.trans hn3.grow
  have hb2 := hn2.at_
  have hb3 := hn3.at_
  have hs2 := hn2.lt
  have hs3 := hn3.lt
  have hne : b2 ≠ b3 := by omega
  have hB3 : Blk w2 b3 221 (wds zero4) := hn3.blk
  refine RL.done ?_
  refine RK.seq ?_
  refine RK.region ?_
  refine RL.p rfl rfl ?_
  refine RL.op (.free rfl) rfl rfl (Does.call rfl e293 (next_ok _ p s i false (h.mod hg2 (fun h => h)) (by omega) 94)) ?_
  rintro _ w3 ⟨rfl, hP3, hm3⟩
  have hno : seesS s i false 94 = notS s i := by unfold seesS notS; simp
  rw [hno] at hP3 ⊢
  have hcl : clsS s i = clsB s (notS s i) (if notS s i then i + 1 else i) := rfl
  obtain ⟨i0, hi0⟩ : ∃ i0, (if notS s i then i + 1 else i) = i0 := ⟨_, rfl⟩
  rw [hi0] at hP3 hcl
  have hi0s : i0 ≤ s.size := by unfold notS at hi0; by_cases e : i < s.size ∧ b8 s i = 94 <;> simp [e] at hi0 <;> omega
  rw [clsB_eq] at hcl
  obtain ⟨no, hnoe⟩ : ∃ no, notS s i = no := ⟨_, rfl⟩
  rw [hnoe] at hcl ⊢
  obtain ⟨T, hT⟩ : ∃ T, bodyS s s.size i0 zero4 = T := ⟨_, rfl⟩
  rw [hT] at hcl
  have hms3 := hm3.size
  refine RL.p rfl rfl ?_
  refine RL.done ?_
  iterate 2 refine RK.seq ?_
  refine RK.region ?_
  refine RL.p rfl rfl ?_
  refine RL.done ?_
  refine RK.block ?_
  refine RK.loop (fun t : Bool × Bool × Nat × List Nat => [(0, pp p), (2, pp b2), (3, pp b3), (4, .bool no), (5, .bool t.1)]) (fun t w' => PA w' p s t.2.2.1 t.2.1 ∧ Blk w' b3 221 (wds t.2.2.2) ∧ W4 t.2.2.2 ∧ t.2.2.1 ≤ s.size ∧ ClsI s T t.1 t.2.1 t.2.2.1 t.2.2.2 ∧ Mod (fun b => b = p ∨ b = b3) w2 w') (fun t => if t.2.1 then 0 else s.size + 1 - t.2.2.1) (true, false, i0, zero4) ⟨rfl, rfl, rfl, rfl, rfl, trivial⟩ ⟨hP3, hB3.mod hm3 (by omega), W4.zero, hi0s, ⟨fun _ => ⟨rfl, hT⟩, by simp, by simp⟩, hm3.mono fun b _ e => .inl e⟩ (fun t w4 hI ih => ?_)
  obtain ⟨first, bad, k, set⟩ := t
  obtain ⟨hP, hB, hW, hk, hC, hm⟩ := hI
  simp only at hP hB hW hk hC
  iterate 2 refine RK.seq ?_
  refine RK.region ?_
  iterate 2 refine RL.p rfl rfl ?_
  first | refine RL.splitD (d := 12) rfl rfl (fun h12 => ?_) (fun h12 => ?_) | refine RL.splitN (d := 12) rfl rfl (fun h12 => ?_) (fun h12 => ?_) | refine RL.split (d := 12) rfl rfl (fun h12 => ?_) (fun h12 => ?_)
  · have h12' : first = true := h12
    subst h12'
    obtain ⟨hbad, hbody⟩ := hC.one rfl
    subst hbad
    have hmk : s.size ≤ s.size + k := by omega
    iterate 8 refine RL.no (.no rfl rfl rfl rfl) rfl rfl ?_
    refine RL.p rfl rfl ?_
    refine RL.done ?_
    refine RK.condT rfl ?_
    refine RK.skip ?_
    refine RK.seq ?_
    refine RK.block ?_
    refine RK.seq ?_
    refine RK.region ?_
    refine RL.p rfl rfl ?_
    refine RL.op (.free rfl) rfl rfl (Does.call rfl e328 (member_ok' _ p s k hP hk hs)) ?_
    rintro _ w7 ⟨c, j, bd, rfl, hc, hj, hP7, hmem, hm7⟩
    have hB7 := Blk.mod hB hm7 (by omega)
    have hM7 := Mod.trans hm (hm7.mono fun b _ e => .inl e)
    refine RL.p rfl rfl ?_
    refine RL.done ?_
    refine RK.seq ?_
    refine RK.region ?_
    iterate 2 refine RL.p rfl rfl ?_
    refine RL.done ?_
    iterate 2 refine RK.seq ?_
    refine RK.region ?_
    refine RL.p rfl rfl ?_
    refine RL.op (.free rfl) rfl rfl (Does.call rfl e293 (next_ok _ p s j bd hP7 (by omega) 45)) ?_
    rintro _ w8 ⟨rfl, hP8, hm8⟩
    have hB8 := hB7.mod hm8 (by omega)
    have hM8 := Mod.trans hM7 (hm8.mono fun b _ e => .inl e)
    refine RL.done ?_
    first | refine RK.condD rfl (fun h26 => ?_) (fun h26 => ?_) | refine RK.condN rfl (fun h26 => ?_) (fun h26 => ?_) | refine RK.cond rfl (fun h26 => ?_) (fun h26 => ?_)
    · have h9 : bd = false ∧ j < s.size ∧ b8 s j = 45 := by simpa [seesS] using h26
      obtain ⟨hbd, hjs, hj45⟩ := h9
      subst hbd
      rw [h26] at hP8
      refine RK.region ?_
      refine RL.p rfl rfl ?_
      refine RL.op (.free rfl) rfl rfl (Does.call rfl e328 (member_ok' _ p s (j + 1) hP8 (by omega) hs)) ?_
      rintro _ w9 ⟨c2, j2, bd2, rfl, hc2, hj2, hP9, hmem2, hm9⟩
      have hB9 := hB8.mod hm9 (by omega)
      have hM9 := Mod.trans hM8 (hm9.mono fun b _ e => .inl e)
      have hC9 := ClsI.step (c2 := c2) (j2 := j2) (bad2 := bd2) hbody hmk hmem (fun h => by cases h) (fun _ => by unfold toS; rw [if_pos ⟨hjs, hj45⟩]; exact hmem2)
      have hadv : (bd2 || decide (c2 < c)) = false → k < j2 := fun h => by
          have e : bd2 = false := by cases bd2 with | false => rfl | true => simp at h
          subst e
          have := memS_adv hmem; have := memS_adv hmem2; omega
      refine RL.p rfl rfl ?_
      refine RL.done ?_
      refine RK.seq ?_
      refine RK.region ?_
      iterate 3 refine RL.p rfl rfl ?_
      refine RL.q (.free rfl) rfl rfl (Yld.fieldAddr fo308_2 rfl) ?_
      refine RL.q (.free rfl) rfl rfl (Yld.load p4 rfl (at1 (hP9.cell rfl))) ?_
      refine RL.p rfl rfl ?_
      first | refine RL.splitD (d := 34) rfl rfl (fun h34 => ?_) (fun h34 => ?_) | refine RL.splitN (d := 34) rfl rfl (fun h34 => ?_) (fun h34 => ?_) | refine RL.split (d := 34) rfl rfl (fun h34 => ?_) (fun h34 => ?_)
      · have hbt : (bd2 || decide (c2 < c)) = true := by rw [h34]; rfl
        iterate 3 refine RL.no (.no rfl rfl rfl rfl) rfl rfl ?_
        iterate 2 refine RL.p rfl rfl ?_
        refine RL.q (.free rfl) rfl rfl (Yld.fieldAddr fo308_2 rfl) ?_
        refine RL.op' (.free rfl) rfl (Does.store i4 rfl rfl rfl hP9 (.s (.s .z))) ?_
        rintro _ w10 ⟨hP10', hm10, _⟩
        have hP10 : PA w10 p s j2 (bd2 || decide (c2 < c)) := by rw [hbt]; exact hP10'
        have hB10 := Blk.mod hB9 hm10 (by omega)
        have hM10 := Mod.trans hM9 (hm10.mono fun b _ e => .inl e)
        refine RL.done ?_
        refine RK.seq ?_
        refine RK.region ?_
        refine RL.p rfl rfl ?_
        refine RL.q (.free rfl) rfl rfl (Yld.convI Tryz.underlying5 Tryz.underlying3 rfl) ?_
        refine RL.re (d := 42) rfl rfl (congrArg (Value.int .i64) (wrap_i64 (by omega) (by omega))) ?_
        refine RL.p rfl rfl ?_
        refine RL.done ?_
        refine RK.block ?_
        refine RK.loop (fun d : Nat => [(0, pp p), (2, pp b2), (3, pp b3), (4, .bool no), (7, .int .u8 (c2 : Int)), (8, .int .i64 ((c + d : Nat) : Int))]) (fun d w' => Blk w' b3 221 (wds (partR set c d)) ∧ Mod (· = b3) w10 w' ∧ d ≤ c2 + 1 - c) (fun d => c2 + 1 - c - d) 0 ⟨rfl, rfl, rfl, rfl, rfl, rfl, trivial⟩ ⟨hB10, Mod.refl _ _, by omega⟩ (fun d w11 hI2 ih2 => ?_)
        obtain ⟨hB11, hm11, hd⟩ := hI2
        iterate 2 refine RK.seq ?_
        refine RK.region ?_
        iterate 2 refine RL.p rfl rfl ?_
        refine RL.q (.free rfl) rfl rfl (Yld.convI Tryz.underlying5 Tryz.underlying3 rfl) ?_
        refine RL.re (d := 45) rfl rfl (congrArg (Value.int .i64) (wrap_i64 (by omega) (by omega))) ?_
        refine RL.p rfl rfl ?_
        refine RL.done ?_
        first | refine RK.condD rfl (fun h46 => ?_) (fun h46 => ?_) | refine RK.condN rfl (fun h46 => ?_) (fun h46 => ?_) | refine RK.cond rfl (fun h46 => ?_) (fun h46 => ?_)
        · refine RK.skip ?_
          refine RK.seq ?_
          refine RK.block ?_
          refine RK.region ?_
          refine RL.p rfl rfl ?_
          refine RL.q (.free rfl) rfl rfl (Yld.convI Tryz.underlying3 Tryz.underlying5 rfl) ?_
          refine RL.re (d := 50) rfl rfl (congrArg (Value.int .u8) (Go.X.wrap_u8 (x := c + d) (by omega))) ?_
          refine RL.op (.free rfl) rfl rfl (Does.call rfl e325 (add_set _ b3 (partR set c d) hB11 (partR_w4 hW c d) (c + d) (by omega))) ?_
          rintro _ w12 ⟨rfl, hB12, hm12⟩
          refine RL.done ?_
          refine RK.inBlock ?_
          refine RK.region ?_
          iterate 2 refine RL.p rfl rfl ?_
          refine RL.re (d := 48) rfl rfl (succ_i64 (by omega)) ?_
          refine RL.p rfl rfl ?_
          refine RL.done ?_
          exact RK.back (ih2 (d + 1) _ ⟨by unfold partR; rw [range_snoc]; exact hB12, hm11.trans hm12, by omega⟩ (by omega)) ⟨rfl, rfl, rfl, rfl, rfl, rfl, trivial⟩
        · have hde : d = c2 + 1 - c := by omega
          have hBe : Blk w11 b3 221 (wds (addG set c c2)) := by rw [hde] at hB11; exact hB11
          refine RK.exit rfl ?_
          refine RK.inBlock ?_
          refine RK.region ?_
          refine RL.p rfl rfl ?_
          refine RL.done ?_
          exact RK.back (ih (false, (bd2 || decide (c2 < c)), j2, addG set c c2) _ ⟨hP10.mod hm11 (by omega), hBe, hW.add _ _, hj2, hC9, hM10.trans (hm11.mono fun b _ e => .inr e)⟩ (by
            simp only [Bool.false_eq_true, if_false]
            split
            · omega
            · rename_i hb9
              have := hadv (by simpa using hb9); omega)) ⟨rfl, rfl, rfl, rfl, rfl, trivial⟩
      · have hbt : (bd2 || decide (c2 < c)) = decide ((c2 : Int) < (c : Int)) := by rw [h34]; simp
        iterate 3 refine RL.q (.yes rfl rfl rfl) rfl rfl (Yld.pure rfl) ?_
        iterate 2 refine RL.p rfl rfl ?_
        refine RL.q (.free rfl) rfl rfl (Yld.fieldAddr fo308_2 rfl) ?_
        refine RL.op' (.free rfl) rfl (Does.store i4 rfl rfl rfl hP9 (.s (.s .z))) ?_
        rintro _ w10 ⟨hP10', hm10, _⟩
        have hP10 : PA w10 p s j2 (bd2 || decide (c2 < c)) := by rw [hbt]; exact hP10'
        have hB10 := Blk.mod hB9 hm10 (by omega)
        have hM10 := Mod.trans hM9 (hm10.mono fun b _ e => .inl e)
        refine RL.done ?_
        refine RK.seq ?_
        refine RK.region ?_
        refine RL.p rfl rfl ?_
        refine RL.q (.free rfl) rfl rfl (Yld.convI Tryz.underlying5 Tryz.underlying3 rfl) ?_
        refine RL.re (d := 42) rfl rfl (congrArg (Value.int .i64) (wrap_i64 (by omega) (by omega))) ?_
        refine RL.p rfl rfl ?_
        refine RL.done ?_
        refine RK.block ?_
        refine RK.loop (fun d : Nat => [(0, pp p), (2, pp b2), (3, pp b3), (4, .bool no), (7, .int .u8 (c2 : Int)), (8, .int .i64 ((c + d : Nat) : Int))]) (fun d w' => Blk w' b3 221 (wds (partR set c d)) ∧ Mod (· = b3) w10 w' ∧ d ≤ c2 + 1 - c) (fun d => c2 + 1 - c - d) 0 ⟨rfl, rfl, rfl, rfl, rfl, rfl, trivial⟩ ⟨hB10, Mod.refl _ _, by omega⟩ (fun d w11 hI2 ih2 => ?_)
        obtain ⟨hB11, hm11, hd⟩ := hI2
        iterate 2 refine RK.seq ?_
        refine RK.region ?_
        iterate 2 refine RL.p rfl rfl ?_
        refine RL.q (.free rfl) rfl rfl (Yld.convI Tryz.underlying5 Tryz.underlying3 rfl) ?_
        refine RL.re (d := 45) rfl rfl (congrArg (Value.int .i64) (wrap_i64 (by omega) (by omega))) ?_
        refine RL.p rfl rfl ?_
        refine RL.done ?_
        first | refine RK.condD rfl (fun h46 => ?_) (fun h46 => ?_) | refine RK.condN rfl (fun h46 => ?_) (fun h46 => ?_) | refine RK.cond rfl (fun h46 => ?_) (fun h46 => ?_)
        · refine RK.skip ?_
          refine RK.seq ?_
          refine RK.block ?_
          refine RK.region ?_
          refine RL.p rfl rfl ?_
          refine RL.q (.free rfl) rfl rfl (Yld.convI Tryz.underlying3 Tryz.underlying5 rfl) ?_
          refine RL.re (d := 50) rfl rfl (congrArg (Value.int .u8) (Go.X.wrap_u8 (x := c + d) (by omega))) ?_
          refine RL.op (.free rfl) rfl rfl (Does.call rfl e325 (add_set _ b3 (partR set c d) hB11 (partR_w4 hW c d) (c + d) (by omega))) ?_
          rintro _ w12 ⟨rfl, hB12, hm12⟩
          refine RL.done ?_
          refine RK.inBlock ?_
          refine RK.region ?_
          iterate 2 refine RL.p rfl rfl ?_
          refine RL.re (d := 48) rfl rfl (succ_i64 (by omega)) ?_
          refine RL.p rfl rfl ?_
          refine RL.done ?_
          exact RK.back (ih2 (d + 1) _ ⟨by unfold partR; rw [range_snoc]; exact hB12, hm11.trans hm12, by omega⟩ (by omega)) ⟨rfl, rfl, rfl, rfl, rfl, rfl, trivial⟩
        · have hde : d = c2 + 1 - c := by omega
          have hBe : Blk w11 b3 221 (wds (addG set c c2)) := by rw [hde] at hB11; exact hB11
          refine RK.exit rfl ?_
          refine RK.inBlock ?_
          refine RK.region ?_
          refine RL.p rfl rfl ?_
          refine RL.done ?_
          exact RK.back (ih (false, (bd2 || decide (c2 < c)), j2, addG set c c2) _ ⟨hP10.mod hm11 (by omega), hBe, hW.add _ _, hj2, hC9, hM10.trans (hm11.mono fun b _ e => .inr e)⟩ (by
            simp only [Bool.false_eq_true, if_false]
            split
            · omega
            · rename_i hb9
              have := hadv (by simpa using hb9); omega)) ⟨rfl, rfl, rfl, rfl, rfl, trivial⟩
    · have h26' : seesS s j bd 45 = false := by simpa using h26
      rw [h26'] at hP8
      have hC9 := ClsI.step (c2 := c) (j2 := j) (bad2 := bd) hbody hmk hmem (fun h => h) (fun hb => by unfold toS; rw [if_neg (fun h => by simp [seesS, hb, h] at h26'), hb]; rfl)
      have hadv : (bd || decide (c < c)) = false → k < j := fun h => by
          have e : bd = false := by cases bd with | false => rfl | true => simp at h
          subst e
          have := memS_adv hmem; omega
      have hP8' : PA w8 p s j bd := hP8
      refine RK.skip ?_
      refine RK.seq ?_
      refine RK.region ?_
      iterate 3 refine RL.p rfl rfl ?_
      refine RL.q (.free rfl) rfl rfl (Yld.fieldAddr fo308_2 rfl) ?_
      refine RL.q (.free rfl) rfl rfl (Yld.load p4 rfl (at1 (hP8'.cell rfl))) ?_
      refine RL.p rfl rfl ?_
      first | refine RL.splitD (d := 34) rfl rfl (fun h34 => ?_) (fun h34 => ?_) | refine RL.splitN (d := 34) rfl rfl (fun h34 => ?_) (fun h34 => ?_) | refine RL.split (d := 34) rfl rfl (fun h34 => ?_) (fun h34 => ?_)
      · have hbt : (bd || decide (c < c)) = true := by rw [h34]; rfl
        iterate 3 refine RL.no (.no rfl rfl rfl rfl) rfl rfl ?_
        iterate 2 refine RL.p rfl rfl ?_
        refine RL.q (.free rfl) rfl rfl (Yld.fieldAddr fo308_2 rfl) ?_
        refine RL.op' (.free rfl) rfl (Does.store i4 rfl rfl rfl hP8' (.s (.s .z))) ?_
        rintro _ w10 ⟨hP10', hm10, _⟩
        have hP10 : PA w10 p s j (bd || decide (c < c)) := by rw [hbt]; exact hP10'
        have hB10 := Blk.mod hB8 hm10 (by omega)
        have hM10 := Mod.trans hM8 (hm10.mono fun b _ e => .inl e)
        refine RL.done ?_
        refine RK.seq ?_
        refine RK.region ?_
        refine RL.p rfl rfl ?_
        refine RL.q (.free rfl) rfl rfl (Yld.convI Tryz.underlying5 Tryz.underlying3 rfl) ?_
        refine RL.re (d := 42) rfl rfl (congrArg (Value.int .i64) (wrap_i64 (by omega) (by omega))) ?_
        refine RL.p rfl rfl ?_
        refine RL.done ?_
        refine RK.block ?_
        refine RK.loop (fun d : Nat => [(0, pp p), (2, pp b2), (3, pp b3), (4, .bool no), (7, .int .u8 (c : Int)), (8, .int .i64 ((c + d : Nat) : Int))]) (fun d w' => Blk w' b3 221 (wds (partR set c d)) ∧ Mod (· = b3) w10 w' ∧ d ≤ c + 1 - c) (fun d => c + 1 - c - d) 0 ⟨rfl, rfl, rfl, rfl, rfl, rfl, trivial⟩ ⟨hB10, Mod.refl _ _, by omega⟩ (fun d w11 hI2 ih2 => ?_)
        obtain ⟨hB11, hm11, hd⟩ := hI2
        iterate 2 refine RK.seq ?_
        refine RK.region ?_
        iterate 2 refine RL.p rfl rfl ?_
        refine RL.q (.free rfl) rfl rfl (Yld.convI Tryz.underlying5 Tryz.underlying3 rfl) ?_
        refine RL.re (d := 45) rfl rfl (congrArg (Value.int .i64) (wrap_i64 (by omega) (by omega))) ?_
        refine RL.p rfl rfl ?_
        refine RL.done ?_
        first | refine RK.condD rfl (fun h46 => ?_) (fun h46 => ?_) | refine RK.condN rfl (fun h46 => ?_) (fun h46 => ?_) | refine RK.cond rfl (fun h46 => ?_) (fun h46 => ?_)
        · refine RK.skip ?_
          refine RK.seq ?_
          refine RK.block ?_
          refine RK.region ?_
          refine RL.p rfl rfl ?_
          refine RL.q (.free rfl) rfl rfl (Yld.convI Tryz.underlying3 Tryz.underlying5 rfl) ?_
          refine RL.re (d := 50) rfl rfl (congrArg (Value.int .u8) (Go.X.wrap_u8 (x := c + d) (by omega))) ?_
          refine RL.op (.free rfl) rfl rfl (Does.call rfl e325 (add_set _ b3 (partR set c d) hB11 (partR_w4 hW c d) (c + d) (by omega))) ?_
          rintro _ w12 ⟨rfl, hB12, hm12⟩
          refine RL.done ?_
          refine RK.inBlock ?_
          refine RK.region ?_
          iterate 2 refine RL.p rfl rfl ?_
          refine RL.re (d := 48) rfl rfl (succ_i64 (by omega)) ?_
          refine RL.p rfl rfl ?_
          refine RL.done ?_
          exact RK.back (ih2 (d + 1) _ ⟨by unfold partR; rw [range_snoc]; exact hB12, hm11.trans hm12, by omega⟩ (by omega)) ⟨rfl, rfl, rfl, rfl, rfl, rfl, trivial⟩
        · have hde : d = c + 1 - c := by omega
          have hBe : Blk w11 b3 221 (wds (addG set c c)) := by rw [hde] at hB11; exact hB11
          refine RK.exit rfl ?_
          refine RK.inBlock ?_
          refine RK.region ?_
          refine RL.p rfl rfl ?_
          refine RL.done ?_
          exact RK.back (ih (false, (bd || decide (c < c)), j, addG set c c) _ ⟨hP10.mod hm11 (by omega), hBe, hW.add _ _, hj, hC9, hM10.trans (hm11.mono fun b _ e => .inr e)⟩ (by
            simp only [Bool.false_eq_true, if_false]
            split
            · omega
            · rename_i hb9
              have := hadv (by simpa using hb9); omega)) ⟨rfl, rfl, rfl, rfl, rfl, trivial⟩
      · have hbt : (bd || decide (c < c)) = decide ((c : Int) < (c : Int)) := by rw [h34]; simp
        iterate 3 refine RL.q (.yes rfl rfl rfl) rfl rfl (Yld.pure rfl) ?_
        iterate 2 refine RL.p rfl rfl ?_
        refine RL.q (.free rfl) rfl rfl (Yld.fieldAddr fo308_2 rfl) ?_
        refine RL.op' (.free rfl) rfl (Does.store i4 rfl rfl rfl hP8' (.s (.s .z))) ?_
        rintro _ w10 ⟨hP10', hm10, _⟩
        have hP10 : PA w10 p s j (bd || decide (c < c)) := by rw [hbt]; exact hP10'
        have hB10 := Blk.mod hB8 hm10 (by omega)
        have hM10 := Mod.trans hM8 (hm10.mono fun b _ e => .inl e)
        refine RL.done ?_
        refine RK.seq ?_
        refine RK.region ?_
        refine RL.p rfl rfl ?_
        refine RL.q (.free rfl) rfl rfl (Yld.convI Tryz.underlying5 Tryz.underlying3 rfl) ?_
        refine RL.re (d := 42) rfl rfl (congrArg (Value.int .i64) (wrap_i64 (by omega) (by omega))) ?_
        refine RL.p rfl rfl ?_
        refine RL.done ?_
        refine RK.block ?_
        refine RK.loop (fun d : Nat => [(0, pp p), (2, pp b2), (3, pp b3), (4, .bool no), (7, .int .u8 (c : Int)), (8, .int .i64 ((c + d : Nat) : Int))]) (fun d w' => Blk w' b3 221 (wds (partR set c d)) ∧ Mod (· = b3) w10 w' ∧ d ≤ c + 1 - c) (fun d => c + 1 - c - d) 0 ⟨rfl, rfl, rfl, rfl, rfl, rfl, trivial⟩ ⟨hB10, Mod.refl _ _, by omega⟩ (fun d w11 hI2 ih2 => ?_)
        obtain ⟨hB11, hm11, hd⟩ := hI2
        iterate 2 refine RK.seq ?_
        refine RK.region ?_
        iterate 2 refine RL.p rfl rfl ?_
        refine RL.q (.free rfl) rfl rfl (Yld.convI Tryz.underlying5 Tryz.underlying3 rfl) ?_
        refine RL.re (d := 45) rfl rfl (congrArg (Value.int .i64) (wrap_i64 (by omega) (by omega))) ?_
        refine RL.p rfl rfl ?_
        refine RL.done ?_
        first | refine RK.condD rfl (fun h46 => ?_) (fun h46 => ?_) | refine RK.condN rfl (fun h46 => ?_) (fun h46 => ?_) | refine RK.cond rfl (fun h46 => ?_) (fun h46 => ?_)
        · refine RK.skip ?_
          refine RK.seq ?_
          refine RK.block ?_
          refine RK.region ?_
          refine RL.p rfl rfl ?_
          refine RL.q (.free rfl) rfl rfl (Yld.convI Tryz.underlying3 Tryz.underlying5 rfl) ?_
          refine RL.re (d := 50) rfl rfl (congrArg (Value.int .u8) (Go.X.wrap_u8 (x := c + d) (by omega))) ?_
          refine RL.op (.free rfl) rfl rfl (Does.call rfl e325 (add_set _ b3 (partR set c d) hB11 (partR_w4 hW c d) (c + d) (by omega))) ?_
          rintro _ w12 ⟨rfl, hB12, hm12⟩
          refine RL.done ?_
          refine RK.inBlock ?_
          refine RK.region ?_
          iterate 2 refine RL.p rfl rfl ?_
          refine RL.re (d := 48) rfl rfl (succ_i64 (by omega)) ?_
          refine RL.p rfl rfl ?_
          refine RL.done ?_
          exact RK.back (ih2 (d + 1) _ ⟨by unfold partR; rw [range_snoc]; exact hB12, hm11.trans hm12, by omega⟩ (by omega)) ⟨rfl, rfl, rfl, rfl, rfl, rfl, trivial⟩
        · have hde : d = c + 1 - c := by omega
          have hBe : Blk w11 b3 221 (wds (addG set c c)) := by rw [hde] at hB11; exact hB11
          refine RK.exit rfl ?_
          refine RK.inBlock ?_
          refine RK.region ?_
          refine RL.p rfl rfl ?_
          refine RL.done ?_
          exact RK.back (ih (false, (bd || decide (c < c)), j, addG set c c) _ ⟨hP10.mod hm11 (by omega), hBe, hW.add _ _, hj, hC9, hM10.trans (hm11.mono fun b _ e => .inr e)⟩ (by
            simp only [Bool.false_eq_true, if_false]
            split
            · omega
            · rename_i hb9
              have := hadv (by simpa using hb9); omega)) ⟨rfl, rfl, rfl, rfl, rfl, trivial⟩
  · have h12' : first = false := h12
    subst h12'
    refine RL.q (.yes rfl rfl rfl) rfl rfl (Yld.pure rfl) ?_
    refine RL.op (.yes rfl rfl rfl) rfl rfl (Does.call rfl e308 (over_ok _ p s k bad hP)) ?_
    rintro _ w5 ⟨rfl, hg5⟩
    have hPo := hP.mod hg5 (fun h => h)
    have hBo := hB.mod hg5 (fun h => h)
    have hmo : Mod (fun b => b = p ∨ b = b3) w2 w5 := hm.trans (Mod.any' hg5)
    iterate 2 refine RL.q (.yes rfl rfl rfl) rfl rfl (Yld.pure rfl) ?_
    first | refine RL.splitD (d := 16) rfl rfl (fun h16 => ?_) (fun h16 => ?_) | refine RL.splitN (d := 16) rfl rfl (fun h16 => ?_) (fun h16 => ?_) | refine RL.split (d := 16) rfl rfl (fun h16 => ?_) (fun h16 => ?_)
    · have h16' : bad = false ∧ k < s.size := by simpa using h16
      obtain ⟨hbad, hks⟩ := h16'
      subst hbad
      refine RL.q (.yes rfl rfl rfl) rfl rfl (Yld.pure rfl) ?_
      refine RL.op (.yes rfl rfl rfl) rfl rfl (Does.call rfl e309 (sees_ok _ p s k false hPo 93)) ?_
      rintro _ w6 ⟨rfl, hg6⟩
      have hPe := hPo.mod hg6 (fun h => h)
      have hBe := hBo.mod hg6 (fun h => h)
      have hme : Mod (fun b => b = p ∨ b = b3) w2 w6 := hmo.trans (Mod.any' hg6)
      obtain ⟨n, hn, hnk⟩ := hC.go rfl rfl
      iterate 2 refine RL.q (.yes rfl rfl rfl) rfl rfl (Yld.pure rfl) ?_
      refine RL.p rfl rfl ?_
      refine RL.done ?_
      first | refine RK.condD rfl (fun h21 => ?_) (fun h21 => ?_) | refine RK.condN rfl (fun h21 => ?_) (fun h21 => ?_) | refine RK.cond rfl (fun h21 => ?_) (fun h21 => ?_)
      · have h93 : b8 s k ≠ 93 := by simpa [seesS, hks] using h21
        obtain ⟨m, rfl⟩ : ∃ m, n = m + 1 := ⟨n - 1, by omega⟩
        have hbody := (body_go hks h93).symm.trans hn
        have hmk : s.size ≤ m + k := by omega
        refine RK.skip ?_
        refine RK.seq ?_
        refine RK.block ?_
        refine RK.seq ?_
        refine RK.region ?_
        refine RL.p rfl rfl ?_
        refine RL.op (.free rfl) rfl rfl (Does.call rfl e328 (member_ok' _ p s k hPe hk hs)) ?_
        rintro _ w7 ⟨c, j, bd, rfl, hc, hj, hP7, hmem, hm7⟩
        have hB7 := Blk.mod hBe hm7 (by omega)
        have hM7 := Mod.trans hme (hm7.mono fun b _ e => .inl e)
        refine RL.p rfl rfl ?_
        refine RL.done ?_
        refine RK.seq ?_
        refine RK.region ?_
        iterate 2 refine RL.p rfl rfl ?_
        refine RL.done ?_
        iterate 2 refine RK.seq ?_
        refine RK.region ?_
        refine RL.p rfl rfl ?_
        refine RL.op (.free rfl) rfl rfl (Does.call rfl e293 (next_ok _ p s j bd hP7 (by omega) 45)) ?_
        rintro _ w8 ⟨rfl, hP8, hm8⟩
        have hB8 := hB7.mod hm8 (by omega)
        have hM8 := Mod.trans hM7 (hm8.mono fun b _ e => .inl e)
        refine RL.done ?_
        first | refine RK.condD rfl (fun h26 => ?_) (fun h26 => ?_) | refine RK.condN rfl (fun h26 => ?_) (fun h26 => ?_) | refine RK.cond rfl (fun h26 => ?_) (fun h26 => ?_)
        · have h9 : bd = false ∧ j < s.size ∧ b8 s j = 45 := by simpa [seesS] using h26
          obtain ⟨hbd, hjs, hj45⟩ := h9
          subst hbd
          rw [h26] at hP8
          refine RK.region ?_
          refine RL.p rfl rfl ?_
          refine RL.op (.free rfl) rfl rfl (Does.call rfl e328 (member_ok' _ p s (j + 1) hP8 (by omega) hs)) ?_
          rintro _ w9 ⟨c2, j2, bd2, rfl, hc2, hj2, hP9, hmem2, hm9⟩
          have hB9 := hB8.mod hm9 (by omega)
          have hM9 := Mod.trans hM8 (hm9.mono fun b _ e => .inl e)
          have hC9 := ClsI.step (c2 := c2) (j2 := j2) (bad2 := bd2) hbody hmk hmem (fun h => by cases h) (fun _ => by unfold toS; rw [if_pos ⟨hjs, hj45⟩]; exact hmem2)
          have hadv : (bd2 || decide (c2 < c)) = false → k < j2 := fun h => by
              have e : bd2 = false := by cases bd2 with | false => rfl | true => simp at h
              subst e
              have := memS_adv hmem; have := memS_adv hmem2; omega
          refine RL.p rfl rfl ?_
          refine RL.done ?_
          refine RK.seq ?_
          refine RK.region ?_
          iterate 3 refine RL.p rfl rfl ?_
          refine RL.q (.free rfl) rfl rfl (Yld.fieldAddr fo308_2 rfl) ?_
          refine RL.q (.free rfl) rfl rfl (Yld.load p4 rfl (at1 (hP9.cell rfl))) ?_
          refine RL.p rfl rfl ?_
          first | refine RL.splitD (d := 34) rfl rfl (fun h34 => ?_) (fun h34 => ?_) | refine RL.splitN (d := 34) rfl rfl (fun h34 => ?_) (fun h34 => ?_) | refine RL.split (d := 34) rfl rfl (fun h34 => ?_) (fun h34 => ?_)
          · have hbt : (bd2 || decide (c2 < c)) = true := by rw [h34]; rfl
            iterate 3 refine RL.no (.no rfl rfl rfl rfl) rfl rfl ?_
            iterate 2 refine RL.p rfl rfl ?_
            refine RL.q (.free rfl) rfl rfl (Yld.fieldAddr fo308_2 rfl) ?_
            refine RL.op' (.free rfl) rfl (Does.store i4 rfl rfl rfl hP9 (.s (.s .z))) ?_
            rintro _ w10 ⟨hP10', hm10, _⟩
            have hP10 : PA w10 p s j2 (bd2 || decide (c2 < c)) := by rw [hbt]; exact hP10'
            have hB10 := Blk.mod hB9 hm10 (by omega)
            have hM10 := Mod.trans hM9 (hm10.mono fun b _ e => .inl e)
            refine RL.done ?_
            refine RK.seq ?_
            refine RK.region ?_
            refine RL.p rfl rfl ?_
            refine RL.q (.free rfl) rfl rfl (Yld.convI Tryz.underlying5 Tryz.underlying3 rfl) ?_
            refine RL.re (d := 42) rfl rfl (congrArg (Value.int .i64) (wrap_i64 (by omega) (by omega))) ?_
            refine RL.p rfl rfl ?_
            refine RL.done ?_
            refine RK.block ?_
            refine RK.loop (fun d : Nat => [(0, pp p), (2, pp b2), (3, pp b3), (4, .bool no), (7, .int .u8 (c2 : Int)), (8, .int .i64 ((c + d : Nat) : Int))]) (fun d w' => Blk w' b3 221 (wds (partR set c d)) ∧ Mod (· = b3) w10 w' ∧ d ≤ c2 + 1 - c) (fun d => c2 + 1 - c - d) 0 ⟨rfl, rfl, rfl, rfl, rfl, rfl, trivial⟩ ⟨hB10, Mod.refl _ _, by omega⟩ (fun d w11 hI2 ih2 => ?_)
            obtain ⟨hB11, hm11, hd⟩ := hI2
            iterate 2 refine RK.seq ?_
            refine RK.region ?_
            iterate 2 refine RL.p rfl rfl ?_
            refine RL.q (.free rfl) rfl rfl (Yld.convI Tryz.underlying5 Tryz.underlying3 rfl) ?_
            refine RL.re (d := 45) rfl rfl (congrArg (Value.int .i64) (wrap_i64 (by omega) (by omega))) ?_
            refine RL.p rfl rfl ?_
            refine RL.done ?_
            first | refine RK.condD rfl (fun h46 => ?_) (fun h46 => ?_) | refine RK.condN rfl (fun h46 => ?_) (fun h46 => ?_) | refine RK.cond rfl (fun h46 => ?_) (fun h46 => ?_)
            · refine RK.skip ?_
              refine RK.seq ?_
              refine RK.block ?_
              refine RK.region ?_
              refine RL.p rfl rfl ?_
              refine RL.q (.free rfl) rfl rfl (Yld.convI Tryz.underlying3 Tryz.underlying5 rfl) ?_
              refine RL.re (d := 50) rfl rfl (congrArg (Value.int .u8) (Go.X.wrap_u8 (x := c + d) (by omega))) ?_
              refine RL.op (.free rfl) rfl rfl (Does.call rfl e325 (add_set _ b3 (partR set c d) hB11 (partR_w4 hW c d) (c + d) (by omega))) ?_
              rintro _ w12 ⟨rfl, hB12, hm12⟩
              refine RL.done ?_
              refine RK.inBlock ?_
              refine RK.region ?_
              iterate 2 refine RL.p rfl rfl ?_
              refine RL.re (d := 48) rfl rfl (succ_i64 (by omega)) ?_
              refine RL.p rfl rfl ?_
              refine RL.done ?_
              exact RK.back (ih2 (d + 1) _ ⟨by unfold partR; rw [range_snoc]; exact hB12, hm11.trans hm12, by omega⟩ (by omega)) ⟨rfl, rfl, rfl, rfl, rfl, rfl, trivial⟩
            · have hde : d = c2 + 1 - c := by omega
              have hBe : Blk w11 b3 221 (wds (addG set c c2)) := by rw [hde] at hB11; exact hB11
              refine RK.exit rfl ?_
              refine RK.inBlock ?_
              refine RK.region ?_
              refine RL.p rfl rfl ?_
              refine RL.done ?_
              exact RK.back (ih (false, (bd2 || decide (c2 < c)), j2, addG set c c2) _ ⟨hP10.mod hm11 (by omega), hBe, hW.add _ _, hj2, hC9, hM10.trans (hm11.mono fun b _ e => .inr e)⟩ (by
                simp only [Bool.false_eq_true, if_false]
                split
                · omega
                · rename_i hb9
                  have := hadv (by simpa using hb9); omega)) ⟨rfl, rfl, rfl, rfl, rfl, trivial⟩
          · have hbt : (bd2 || decide (c2 < c)) = decide ((c2 : Int) < (c : Int)) := by rw [h34]; simp
            iterate 3 refine RL.q (.yes rfl rfl rfl) rfl rfl (Yld.pure rfl) ?_
            iterate 2 refine RL.p rfl rfl ?_
            refine RL.q (.free rfl) rfl rfl (Yld.fieldAddr fo308_2 rfl) ?_
            refine RL.op' (.free rfl) rfl (Does.store i4 rfl rfl rfl hP9 (.s (.s .z))) ?_
            rintro _ w10 ⟨hP10', hm10, _⟩
            have hP10 : PA w10 p s j2 (bd2 || decide (c2 < c)) := by rw [hbt]; exact hP10'
            have hB10 := Blk.mod hB9 hm10 (by omega)
            have hM10 := Mod.trans hM9 (hm10.mono fun b _ e => .inl e)
            refine RL.done ?_
            refine RK.seq ?_
            refine RK.region ?_
            refine RL.p rfl rfl ?_
            refine RL.q (.free rfl) rfl rfl (Yld.convI Tryz.underlying5 Tryz.underlying3 rfl) ?_
            refine RL.re (d := 42) rfl rfl (congrArg (Value.int .i64) (wrap_i64 (by omega) (by omega))) ?_
            refine RL.p rfl rfl ?_
            refine RL.done ?_
            refine RK.block ?_
            refine RK.loop (fun d : Nat => [(0, pp p), (2, pp b2), (3, pp b3), (4, .bool no), (7, .int .u8 (c2 : Int)), (8, .int .i64 ((c + d : Nat) : Int))]) (fun d w' => Blk w' b3 221 (wds (partR set c d)) ∧ Mod (· = b3) w10 w' ∧ d ≤ c2 + 1 - c) (fun d => c2 + 1 - c - d) 0 ⟨rfl, rfl, rfl, rfl, rfl, rfl, trivial⟩ ⟨hB10, Mod.refl _ _, by omega⟩ (fun d w11 hI2 ih2 => ?_)
            obtain ⟨hB11, hm11, hd⟩ := hI2
            iterate 2 refine RK.seq ?_
            refine RK.region ?_
            iterate 2 refine RL.p rfl rfl ?_
            refine RL.q (.free rfl) rfl rfl (Yld.convI Tryz.underlying5 Tryz.underlying3 rfl) ?_
            refine RL.re (d := 45) rfl rfl (congrArg (Value.int .i64) (wrap_i64 (by omega) (by omega))) ?_
            refine RL.p rfl rfl ?_
            refine RL.done ?_
            first | refine RK.condD rfl (fun h46 => ?_) (fun h46 => ?_) | refine RK.condN rfl (fun h46 => ?_) (fun h46 => ?_) | refine RK.cond rfl (fun h46 => ?_) (fun h46 => ?_)
            · refine RK.skip ?_
              refine RK.seq ?_
              refine RK.block ?_
              refine RK.region ?_
              refine RL.p rfl rfl ?_
              refine RL.q (.free rfl) rfl rfl (Yld.convI Tryz.underlying3 Tryz.underlying5 rfl) ?_
              refine RL.re (d := 50) rfl rfl (congrArg (Value.int .u8) (Go.X.wrap_u8 (x := c + d) (by omega))) ?_
              refine RL.op (.free rfl) rfl rfl (Does.call rfl e325 (add_set _ b3 (partR set c d) hB11 (partR_w4 hW c d) (c + d) (by omega))) ?_
              rintro _ w12 ⟨rfl, hB12, hm12⟩
              refine RL.done ?_
              refine RK.inBlock ?_
              refine RK.region ?_
              iterate 2 refine RL.p rfl rfl ?_
              refine RL.re (d := 48) rfl rfl (succ_i64 (by omega)) ?_
              refine RL.p rfl rfl ?_
              refine RL.done ?_
              exact RK.back (ih2 (d + 1) _ ⟨by unfold partR; rw [range_snoc]; exact hB12, hm11.trans hm12, by omega⟩ (by omega)) ⟨rfl, rfl, rfl, rfl, rfl, rfl, trivial⟩
            · have hde : d = c2 + 1 - c := by omega
              have hBe : Blk w11 b3 221 (wds (addG set c c2)) := by rw [hde] at hB11; exact hB11
              refine RK.exit rfl ?_
              refine RK.inBlock ?_
              refine RK.region ?_
              refine RL.p rfl rfl ?_
              refine RL.done ?_
              exact RK.back (ih (false, (bd2 || decide (c2 < c)), j2, addG set c c2) _ ⟨hP10.mod hm11 (by omega), hBe, hW.add _ _, hj2, hC9, hM10.trans (hm11.mono fun b _ e => .inr e)⟩ (by
                simp only [Bool.false_eq_true, if_false]
                split
                · omega
                · rename_i hb9
                  have := hadv (by simpa using hb9); omega)) ⟨rfl, rfl, rfl, rfl, rfl, trivial⟩
        · have h26' : seesS s j bd 45 = false := by simpa using h26
          rw [h26'] at hP8
          have hC9 := ClsI.step (c2 := c) (j2 := j) (bad2 := bd) hbody hmk hmem (fun h => h) (fun hb => by unfold toS; rw [if_neg (fun h => by simp [seesS, hb, h] at h26'), hb]; rfl)
          have hadv : (bd || decide (c < c)) = false → k < j := fun h => by
              have e : bd = false := by cases bd with | false => rfl | true => simp at h
              subst e
              have := memS_adv hmem; omega
          have hP8' : PA w8 p s j bd := hP8
          refine RK.skip ?_
          refine RK.seq ?_
          refine RK.region ?_
          iterate 3 refine RL.p rfl rfl ?_
          refine RL.q (.free rfl) rfl rfl (Yld.fieldAddr fo308_2 rfl) ?_
          refine RL.q (.free rfl) rfl rfl (Yld.load p4 rfl (at1 (hP8'.cell rfl))) ?_
          refine RL.p rfl rfl ?_
          first | refine RL.splitD (d := 34) rfl rfl (fun h34 => ?_) (fun h34 => ?_) | refine RL.splitN (d := 34) rfl rfl (fun h34 => ?_) (fun h34 => ?_) | refine RL.split (d := 34) rfl rfl (fun h34 => ?_) (fun h34 => ?_)
          · have hbt : (bd || decide (c < c)) = true := by rw [h34]; rfl
            iterate 3 refine RL.no (.no rfl rfl rfl rfl) rfl rfl ?_
            iterate 2 refine RL.p rfl rfl ?_
            refine RL.q (.free rfl) rfl rfl (Yld.fieldAddr fo308_2 rfl) ?_
            refine RL.op' (.free rfl) rfl (Does.store i4 rfl rfl rfl hP8' (.s (.s .z))) ?_
            rintro _ w10 ⟨hP10', hm10, _⟩
            have hP10 : PA w10 p s j (bd || decide (c < c)) := by rw [hbt]; exact hP10'
            have hB10 := Blk.mod hB8 hm10 (by omega)
            have hM10 := Mod.trans hM8 (hm10.mono fun b _ e => .inl e)
            refine RL.done ?_
            refine RK.seq ?_
            refine RK.region ?_
            refine RL.p rfl rfl ?_
            refine RL.q (.free rfl) rfl rfl (Yld.convI Tryz.underlying5 Tryz.underlying3 rfl) ?_
            refine RL.re (d := 42) rfl rfl (congrArg (Value.int .i64) (wrap_i64 (by omega) (by omega))) ?_
            refine RL.p rfl rfl ?_
            refine RL.done ?_
            refine RK.block ?_
            refine RK.loop (fun d : Nat => [(0, pp p), (2, pp b2), (3, pp b3), (4, .bool no), (7, .int .u8 (c : Int)), (8, .int .i64 ((c + d : Nat) : Int))]) (fun d w' => Blk w' b3 221 (wds (partR set c d)) ∧ Mod (· = b3) w10 w' ∧ d ≤ c + 1 - c) (fun d => c + 1 - c - d) 0 ⟨rfl, rfl, rfl, rfl, rfl, rfl, trivial⟩ ⟨hB10, Mod.refl _ _, by omega⟩ (fun d w11 hI2 ih2 => ?_)
            obtain ⟨hB11, hm11, hd⟩ := hI2
            iterate 2 refine RK.seq ?_
            refine RK.region ?_
            iterate 2 refine RL.p rfl rfl ?_
            refine RL.q (.free rfl) rfl rfl (Yld.convI Tryz.underlying5 Tryz.underlying3 rfl) ?_
            refine RL.re (d := 45) rfl rfl (congrArg (Value.int .i64) (wrap_i64 (by omega) (by omega))) ?_
            refine RL.p rfl rfl ?_
            refine RL.done ?_
            first | refine RK.condD rfl (fun h46 => ?_) (fun h46 => ?_) | refine RK.condN rfl (fun h46 => ?_) (fun h46 => ?_) | refine RK.cond rfl (fun h46 => ?_) (fun h46 => ?_)
            · refine RK.skip ?_
              refine RK.seq ?_
              refine RK.block ?_
              refine RK.region ?_
              refine RL.p rfl rfl ?_
              refine RL.q (.free rfl) rfl rfl (Yld.convI Tryz.underlying3 Tryz.underlying5 rfl) ?_
              refine RL.re (d := 50) rfl rfl (congrArg (Value.int .u8) (Go.X.wrap_u8 (x := c + d) (by omega))) ?_
              refine RL.op (.free rfl) rfl rfl (Does.call rfl e325 (add_set _ b3 (partR set c d) hB11 (partR_w4 hW c d) (c + d) (by omega))) ?_
              rintro _ w12 ⟨rfl, hB12, hm12⟩
              refine RL.done ?_
              refine RK.inBlock ?_
              refine RK.region ?_
              iterate 2 refine RL.p rfl rfl ?_
              refine RL.re (d := 48) rfl rfl (succ_i64 (by omega)) ?_
              refine RL.p rfl rfl ?_
              refine RL.done ?_
              exact RK.back (ih2 (d + 1) _ ⟨by unfold partR; rw [range_snoc]; exact hB12, hm11.trans hm12, by omega⟩ (by omega)) ⟨rfl, rfl, rfl, rfl, rfl, rfl, trivial⟩
            · have hde : d = c + 1 - c := by omega
              have hBe : Blk w11 b3 221 (wds (addG set c c)) := by rw [hde] at hB11; exact hB11
              refine RK.exit rfl ?_
              refine RK.inBlock ?_
              refine RK.region ?_
              refine RL.p rfl rfl ?_
              refine RL.done ?_
              exact RK.back (ih (false, (bd || decide (c < c)), j, addG set c c) _ ⟨hP10.mod hm11 (by omega), hBe, hW.add _ _, hj, hC9, hM10.trans (hm11.mono fun b _ e => .inr e)⟩ (by
                simp only [Bool.false_eq_true, if_false]
                split
                · omega
                · rename_i hb9
                  have := hadv (by simpa using hb9); omega)) ⟨rfl, rfl, rfl, rfl, rfl, trivial⟩
          · have hbt : (bd || decide (c < c)) = decide ((c : Int) < (c : Int)) := by rw [h34]; simp
            iterate 3 refine RL.q (.yes rfl rfl rfl) rfl rfl (Yld.pure rfl) ?_
            iterate 2 refine RL.p rfl rfl ?_
            refine RL.q (.free rfl) rfl rfl (Yld.fieldAddr fo308_2 rfl) ?_
            refine RL.op' (.free rfl) rfl (Does.store i4 rfl rfl rfl hP8' (.s (.s .z))) ?_
            rintro _ w10 ⟨hP10', hm10, _⟩
            have hP10 : PA w10 p s j (bd || decide (c < c)) := by rw [hbt]; exact hP10'
            have hB10 := Blk.mod hB8 hm10 (by omega)
            have hM10 := Mod.trans hM8 (hm10.mono fun b _ e => .inl e)
            refine RL.done ?_
            refine RK.seq ?_
            refine RK.region ?_
            refine RL.p rfl rfl ?_
            refine RL.q (.free rfl) rfl rfl (Yld.convI Tryz.underlying5 Tryz.underlying3 rfl) ?_
            refine RL.re (d := 42) rfl rfl (congrArg (Value.int .i64) (wrap_i64 (by omega) (by omega))) ?_
            refine RL.p rfl rfl ?_
            refine RL.done ?_
            refine RK.block ?_
            refine RK.loop (fun d : Nat => [(0, pp p), (2, pp b2), (3, pp b3), (4, .bool no), (7, .int .u8 (c : Int)), (8, .int .i64 ((c + d : Nat) : Int))]) (fun d w' => Blk w' b3 221 (wds (partR set c d)) ∧ Mod (· = b3) w10 w' ∧ d ≤ c + 1 - c) (fun d => c + 1 - c - d) 0 ⟨rfl, rfl, rfl, rfl, rfl, rfl, trivial⟩ ⟨hB10, Mod.refl _ _, by omega⟩ (fun d w11 hI2 ih2 => ?_)
            obtain ⟨hB11, hm11, hd⟩ := hI2
            iterate 2 refine RK.seq ?_
            refine RK.region ?_
            iterate 2 refine RL.p rfl rfl ?_
            refine RL.q (.free rfl) rfl rfl (Yld.convI Tryz.underlying5 Tryz.underlying3 rfl) ?_
            refine RL.re (d := 45) rfl rfl (congrArg (Value.int .i64) (wrap_i64 (by omega) (by omega))) ?_
            refine RL.p rfl rfl ?_
            refine RL.done ?_
            first | refine RK.condD rfl (fun h46 => ?_) (fun h46 => ?_) | refine RK.condN rfl (fun h46 => ?_) (fun h46 => ?_) | refine RK.cond rfl (fun h46 => ?_) (fun h46 => ?_)
            · refine RK.skip ?_
              refine RK.seq ?_
              refine RK.block ?_
              refine RK.region ?_
              refine RL.p rfl rfl ?_
              refine RL.q (.free rfl) rfl rfl (Yld.convI Tryz.underlying3 Tryz.underlying5 rfl) ?_
              refine RL.re (d := 50) rfl rfl (congrArg (Value.int .u8) (Go.X.wrap_u8 (x := c + d) (by omega))) ?_
              refine RL.op (.free rfl) rfl rfl (Does.call rfl e325 (add_set _ b3 (partR set c d) hB11 (partR_w4 hW c d) (c + d) (by omega))) ?_
              rintro _ w12 ⟨rfl, hB12, hm12⟩
              refine RL.done ?_
              refine RK.inBlock ?_
              refine RK.region ?_
              iterate 2 refine RL.p rfl rfl ?_
              refine RL.re (d := 48) rfl rfl (succ_i64 (by omega)) ?_
              refine RL.p rfl rfl ?_
              refine RL.done ?_
              exact RK.back (ih2 (d + 1) _ ⟨by unfold partR; rw [range_snoc]; exact hB12, hm11.trans hm12, by omega⟩ (by omega)) ⟨rfl, rfl, rfl, rfl, rfl, rfl, trivial⟩
            · have hde : d = c + 1 - c := by omega
              have hBe : Blk w11 b3 221 (wds (addG set c c)) := by rw [hde] at hB11; exact hB11
              refine RK.exit rfl ?_
              refine RK.inBlock ?_
              refine RK.region ?_
              refine RL.p rfl rfl ?_
              refine RL.done ?_
              exact RK.back (ih (false, (bd || decide (c < c)), j, addG set c c) _ ⟨hP10.mod hm11 (by omega), hBe, hW.add _ _, hj, hC9, hM10.trans (hm11.mono fun b _ e => .inr e)⟩ (by
                simp only [Bool.false_eq_true, if_false]
                split
                · omega
                · rename_i hb9
                  have := hadv (by simpa using hb9); omega)) ⟨rfl, rfl, rfl, rfl, rfl, trivial⟩
      · have h93 : b8 s k = 93 := by simpa [seesS, hks] using h21
        obtain ⟨m, rfl⟩ : ∃ m, n = m + 1 := ⟨n - 1, by omega⟩
        have hTe : T = some (set, k + 1) := by rw [← hn, clsL, if_pos hks, if_pos h93]
        have hsee : seesS s k false 93 = true := by simp [seesS, hks, h93]
        refine RK.exit rfl ?_
        refine RK.seq ?_
        refine RK.region ?_
        iterate 2 refine RL.p rfl rfl ?_
        refine RL.op (.free rfl) rfl rfl (Does.call rfl e293 (next_ok _ p s k false hPe (by omega) 93)) ?_
        rintro _ w7 ⟨rfl, hP7, hm7⟩
        rw [hsee] at hP7 ⊢
        iterate 2 refine RL.p rfl rfl ?_
        refine RL.knownF (d := 56) rfl rfl (rfl) ?_
        iterate 2 refine RL.q (.yes rfl rfl rfl) rfl rfl (Yld.pure rfl) ?_
        refine RL.q (.yes rfl rfl rfl) rfl rfl (Yld.fieldAddr fo308_2 rfl) ?_
        refine RL.q (.yes rfl rfl rfl) rfl rfl (Yld.load p4 rfl (at1 (hP7.cell rfl))) ?_
        iterate 2 refine RL.p rfl rfl ?_
        refine RL.q (.free rfl) rfl rfl (Yld.fieldAddr fo308_2 rfl) ?_
        refine RL.op' (.free rfl) rfl (Does.store i4 rfl rfl rfl hP7 (.s (.s .z))) ?_
        rintro _ w8 ⟨hP8, hm8, _⟩
        have hB8 : Blk w8 b3 221 (wds set) := (Blk.mod hBe hm7 (by omega)).mod hm8 (by omega)
        have hP8' : PA w8 p s (k + 1) false := hP8
        have hM8 : Mod (fun b => b = p ∨ b = b3) w2 w8 := (Mod.trans hme (hm7.mono fun b _ e => .inl e)).trans (hm8.mono fun b _ e => .inl e)
        have hR8 := (hn2.blk.mod hn3.grow (fun h => h)).mod hM8 (by omega)
        obtain ⟨x0, x1, x2, x3, rfl⟩ : ∃ x0 x1 x2 x3, set = [x0, x1, x2, x3] := by
            obtain ⟨h4, _⟩ := hW
            match set, h4 with
            | [x0, x1, x2, x3], _ => exact ⟨x0, x1, x2, x3, rfl⟩
        refine RL.done ?_
        iterate 2 refine RK.seq ?_
        refine RK.region ?_
        refine RL.p rfl rfl ?_
        refine RL.done ?_
        first | refine RK.condD rfl (fun h64 => ?_) (fun h64 => ?_) | refine RK.condN rfl (fun h64 => ?_) (fun h64 => ?_) | refine RK.cond rfl (fun h64 => ?_) (fun h64 => ?_)
        · refine RK.seq ?_
          refine RK.region ?_
          refine RL.q (.free rfl) rfl rfl (Yld.loadN (cs := wds [x0, x1, x2, x3]) a221 rfl (atN (blk0' hB8))) ?_
          refine RL.op (.free rfl) rfl rfl (Does.call rfl e324 (turned_ok _ [x0, x1, x2, x3] hW)) ?_
          rintro _ w9 ⟨rfl, hg9⟩
          refine RL.op' (.free rfl) rfl (Does.storeN i221 rfl rfl (by simp [Value.cells, invS]) (by simp [Value.cells, Value.oneCell', invS]) (hR8.mod hg9 (fun h => h)) (by decide)) ?_
          rintro _ w10 ⟨hb10, hm10, _⟩
          refine RL.done ?_
          refine RK.ret_of Tryz.func323 (resC (cs := wds (invS [x0, x1, x2, x3])) rfl rfl a221 hb10) ?_ _
          exact ⟨_, rfl, invS [x0, x1, x2, x3], (k + 1), false, rfl, hW.inv, by omega, (hP8'.mod hg9 (fun h => h)).mod hm10 (by omega), by subst h64; rw [hcl, hTe]; rfl, (((Mod.any' hg2 : Mod (· = p) w w2).then hM8 (fun b hb e => e.elim (fun e => e) (fun e => by omega))).trans (Mod.any' hg9)).then hm10 (fun b hb e => by have e' : b = b2 := e; omega)⟩
        · refine RK.skip ?_
          refine RK.seq ?_
          refine RK.region ?_
          refine RL.q (.free rfl) rfl rfl (Yld.loadN (cs := wds [x0, x1, x2, x3]) a221 rfl (atN (blk0' hB8))) ?_
          refine RL.op' (.free rfl) rfl (Does.storeN i221 rfl rfl (by simp [Value.cells]) (by simp [Value.cells, Value.oneCell']) hR8 (by decide)) ?_
          rintro _ w10 ⟨hb10, hm10, _⟩
          refine RL.done ?_
          refine RK.ret_of Tryz.func323 (resC (cs := wds [x0, x1, x2, x3]) rfl rfl a221 hb10) ?_ _
          exact ⟨_, rfl, [x0, x1, x2, x3], (k + 1), false, rfl, hW, by omega, hP8'.mod hm10 (by omega), by have h64' : no = false := (by simpa using h64); subst h64'; rw [hcl, hTe]; rfl, ((Mod.any' hg2 : Mod (· = p) w w2).then hM8 (fun b hb e => e.elim (fun e => e) (fun e => by omega))).then hm10 (fun b hb e => by have e' : b = b2 := e; omega)⟩
    · have h16' : bad = true ∨ ¬ k < s.size := by cases bad <;> simp at h16 ⊢; omega
      have hTe : T = none := by
          cases hb : bad with
          | true => exact (hC.no hb).2
          | false =>
            obtain ⟨n, hn, hnk⟩ := hC.go rfl hb
            obtain ⟨m, rfl⟩ : ∃ m, n = m + 1 := ⟨n - 1, by omega⟩
            rw [← hn, clsL, if_neg (by rcases h16' with h | h; (rw [hb] at h; cases h); exact h)]
      have hsee : seesS s k bad 93 = false := by rcases h16' with h | h <;> simp [seesS, h]
      iterate 3 refine RL.no (.no rfl rfl rfl rfl) rfl rfl ?_
      refine RL.q (.yes rfl rfl rfl) rfl rfl (Yld.pure rfl) ?_
      refine RL.p rfl rfl ?_
      refine RL.done ?_
      refine RK.condF rfl ?_
      refine RK.exit rfl ?_
      refine RK.seq ?_
      refine RK.region ?_
      iterate 2 refine RL.p rfl rfl ?_
      refine RL.op (.free rfl) rfl rfl (Does.call rfl e293 (next_ok _ p s k bad hPo (by omega) 93)) ?_
      rintro _ w7 ⟨rfl, hP7, hm7⟩
      rw [hsee] at hP7 ⊢
      iterate 2 refine RL.p rfl rfl ?_
      refine RL.knownT (d := 56) rfl rfl (rfl) ?_
      iterate 4 refine RL.no (.no rfl rfl rfl rfl) rfl rfl ?_
      iterate 2 refine RL.p rfl rfl ?_
      refine RL.q (.free rfl) rfl rfl (Yld.fieldAddr fo308_2 rfl) ?_
      refine RL.op' (.free rfl) rfl (Does.store i4 rfl rfl rfl hP7 (.s (.s .z))) ?_
      rintro _ w8 ⟨hP8, hm8, _⟩
      have hB8 : Blk w8 b3 221 (wds set) := (Blk.mod hBo hm7 (by omega)).mod hm8 (by omega)
      have hP8' : PA w8 p s k true := hP8
      have hM8 : Mod (fun b => b = p ∨ b = b3) w2 w8 := (Mod.trans hmo (hm7.mono fun b _ e => .inl e)).trans (hm8.mono fun b _ e => .inl e)
      have hR8 := (hn2.blk.mod hn3.grow (fun h => h)).mod hM8 (by omega)
      obtain ⟨x0, x1, x2, x3, rfl⟩ : ∃ x0 x1 x2 x3, set = [x0, x1, x2, x3] := by
          obtain ⟨h4, _⟩ := hW
          match set, h4 with
          | [x0, x1, x2, x3], _ => exact ⟨x0, x1, x2, x3, rfl⟩
      refine RL.done ?_
      iterate 2 refine RK.seq ?_
      refine RK.region ?_
      refine RL.p rfl rfl ?_
      refine RL.done ?_
      first | refine RK.condD rfl (fun h64 => ?_) (fun h64 => ?_) | refine RK.condN rfl (fun h64 => ?_) (fun h64 => ?_) | refine RK.cond rfl (fun h64 => ?_) (fun h64 => ?_)
      · refine RK.seq ?_
        refine RK.region ?_
        refine RL.q (.free rfl) rfl rfl (Yld.loadN (cs := wds [x0, x1, x2, x3]) a221 rfl (atN (blk0' hB8))) ?_
        refine RL.op (.free rfl) rfl rfl (Does.call rfl e324 (turned_ok _ [x0, x1, x2, x3] hW)) ?_
        rintro _ w9 ⟨rfl, hg9⟩
        refine RL.op' (.free rfl) rfl (Does.storeN i221 rfl rfl (by simp [Value.cells, invS]) (by simp [Value.cells, Value.oneCell', invS]) (hR8.mod hg9 (fun h => h)) (by decide)) ?_
        rintro _ w10 ⟨hb10, hm10, _⟩
        refine RL.done ?_
        refine RK.ret_of Tryz.func323 (resC (cs := wds (invS [x0, x1, x2, x3])) rfl rfl a221 hb10) ?_ _
        exact ⟨_, rfl, invS [x0, x1, x2, x3], k, true, rfl, hW.inv, by omega, (hP8'.mod hg9 (fun h => h)).mod hm10 (by omega), by subst h64; rw [hcl, hTe]; rfl, (((Mod.any' hg2 : Mod (· = p) w w2).then hM8 (fun b hb e => e.elim (fun e => e) (fun e => by omega))).trans (Mod.any' hg9)).then hm10 (fun b hb e => by have e' : b = b2 := e; omega)⟩
      · refine RK.skip ?_
        refine RK.seq ?_
        refine RK.region ?_
        refine RL.q (.free rfl) rfl rfl (Yld.loadN (cs := wds [x0, x1, x2, x3]) a221 rfl (atN (blk0' hB8))) ?_
        refine RL.op' (.free rfl) rfl (Does.storeN i221 rfl rfl (by simp [Value.cells]) (by simp [Value.cells, Value.oneCell']) hR8 (by decide)) ?_
        rintro _ w10 ⟨hb10, hm10, _⟩
        refine RL.done ?_
        refine RK.ret_of Tryz.func323 (resC (cs := wds [x0, x1, x2, x3]) rfl rfl a221 hb10) ?_ _
        exact ⟨_, rfl, [x0, x1, x2, x3], k, true, rfl, hW, by omega, hP8'.mod hm10 (by omega), by have h64' : no = false := (by simpa using h64); subst h64'; rw [hcl, hTe]; rfl, ((Mod.any' hg2 : Mod (· = p) w w2).then hM8 (fun b hb e => e.elim (fun e => e) (fun e => by omega))).then hm10 (fun b hb e => by have e' : b = b2 := e; omega)⟩
end Go.Proofs.YthbjfhhiajihfaaGreat
