/- What statements draw: numbers brought into bounds, names, values, label sets. -/
import Derived.Test.YtffbcfcoddacmaaGreatEg
import Derived.Test.YtffbcfcoddacmaaGreatN
import Derived.Test.YtffbcfcoddacmaaGreatXB
set_option linter.unusedVariables false
set_option linter.unusedSimpArgs false
set_option maxHeartbeats 800000
set_option maxRecDepth 100000
namespace Go.Proofs.YtffbcfcoddacmaaGreat
open Go Go.X

def withinS (n lo hi : Int) : Int := lo + (if n.tmod (hi - lo + 1) < 0 then n.tmod (hi - lo + 1) + hi - lo + 1 else n.tmod (hi - lo + 1))
theorem tmod_range (n : Int) {b : Int} (hb : 0 < b) : -b < n.tmod b ∧ n.tmod b < b := ⟨Int.lt_tmod_of_pos n hb, Int.tmod_lt_of_pos n hb⟩
theorem within_range (n : Int) {lo hi : Int} (h : lo ≤ hi) : lo ≤ withinS n lo hi ∧ withinS n lo hi ≤ hi := by
  have := tmod_range n (b := hi - lo + 1) (by omega)
  unfold withinS
  split <;> omega
theorem within_ok (n lo hi : Int) (h : lo ≤ hi) (h1 : -1000 ≤ lo) (h2 : hi ≤ 1000) (w : World) : Fx Tryz.prog 70 [.int .i64 n, .int .i64 lo, .int .i64 hi] w (fun u w' => u = .int .i64 (withinS n lo hi) ∧ w = w') := by
  have hr := tmod_range n (b := hi - lo + 1) (by omega)
  have hw := within_range n h
  refine enter Tryz.func70 rfl rfl rfl _ (Pick.sub (l := [0, 1, 2]) (.cons rfl (.cons rfl (.cons rfl .nil)))) ?_
  refine RK.seq ?_
  refine RK.region ?_
  refine RL.p rfl rfl ?_
  refine RL.done ?_
  refine RK.seq ?_
  refine RK.region ?_
  iterate 4 refine RL.p rfl rfl ?_
  refine RL.re (d := 10) rfl rfl (sub_i64 (z := hi - lo) rfl (by omega) (by omega)) ?_
  refine RL.p rfl rfl ?_
  refine RL.re (d := 11) rfl rfl (add_i64 (z := hi - lo + 1) rfl (by omega) (by omega)) ?_
  refine RL.q (.free rfl) rfl rfl (Yld.rem rfl rfl (by omega)) ?_
  refine RL.p rfl rfl ?_
  refine RL.done ?_
  iterate 2 refine RK.seq ?_
  refine RK.region ?_
  iterate 2 refine RL.p rfl rfl ?_
  refine RL.done ?_
  first | refine RK.condD rfl (fun h14 => ?_) (fun h14 => ?_) | refine RK.condN rfl (fun h14 => ?_) (fun h14 => ?_) | refine RK.cond rfl (fun h14 => ?_) (fun h14 => ?_)
  · refine RK.region ?_
    iterate 3 refine RL.p rfl rfl ?_
    refine RL.re (d := 17) rfl rfl (add_i64 (z := n.tmod (hi - lo + 1) + hi) rfl (by omega) (by omega)) ?_
    iterate 2 refine RL.p rfl rfl ?_
    refine RL.re (d := 19) rfl rfl (sub_i64 (z := n.tmod (hi - lo + 1) + hi - lo) rfl (by omega) (by omega)) ?_
    refine RL.p rfl rfl ?_
    refine RL.re (d := 20) rfl rfl (add_i64 (z := n.tmod (hi - lo + 1) + hi - lo + 1) rfl (by omega) (by omega)) ?_
    refine RL.p rfl rfl ?_
    refine RL.done ?_
    refine RK.seq ?_
    refine RK.region ?_
    iterate 3 refine RL.p rfl rfl ?_
    refine RL.re (d := 23) rfl rfl (add_i64 rfl (by omega) (by omega)) ?_
    refine RL.p rfl rfl ?_
    refine RL.done ?_
    refine RK.ret_of Tryz.func70 (res1 rfl rfl) ?_ _
    exact ⟨_, rfl, by unfold withinS; rw [if_pos h14], rfl⟩
  · refine RK.skip ?_
    refine RK.seq ?_
    refine RK.region ?_
    iterate 3 refine RL.p rfl rfl ?_
    refine RL.re (d := 23) rfl rfl (add_i64 rfl (by omega) (by omega)) ?_
    refine RL.p rfl rfl ?_
    refine RL.done ?_
    refine RK.ret_of Tryz.func70 (res1 rfl rfl) ?_ _
    exact ⟨_, rfl, by unfold withinS; rw [if_neg h14], rfl⟩
def inS (n lo hi : Int) : Int := if lo ≤ n ∧ n ≤ hi then n else withinS n lo hi
theorem in_range (n : Int) {lo hi : Int} (h : lo ≤ hi) : lo ≤ inS n lo hi ∧ inS n lo hi ≤ hi := by
  unfold inS
  split
  · assumption
  · exact within_range n h
theorem in_ok (n lo hi : Int) (h : lo ≤ hi) (h1 : -1000 ≤ lo) (h2 : hi ≤ 1000) (w : World) : Fx Tryz.prog 121 [.int .i64 n, .int .i64 lo, .int .i64 hi] w (fun u w' => u = .int .i64 (inS n lo hi) ∧ w = w') := by
  refine enter Tryz.func121 rfl rfl rfl _ (Pick.sub (l := [0, 1, 2]) (.cons rfl (.cons rfl (.cons rfl .nil)))) ?_
  refine RK.seq ?_
  refine RK.region ?_
  refine RL.p rfl rfl ?_
  refine RL.done ?_
  iterate 2 refine RK.seq ?_
  refine RK.region ?_
  iterate 4 refine RL.p rfl rfl ?_
  first | refine RL.splitD (d := 10) rfl rfl (fun h10 => ?_) (fun h10 => ?_) | refine RL.splitN (d := 10) rfl rfl (fun h10 => ?_) (fun h10 => ?_) | refine RL.split (d := 10) rfl rfl (fun h10 => ?_) (fun h10 => ?_)
  · iterate 3 refine RL.q (.yes rfl rfl rfl) rfl rfl (Yld.pure rfl) ?_
    refine RL.p rfl rfl ?_
    refine RL.done ?_
    first | refine RK.condD rfl (fun h14 => ?_) (fun h14 => ?_) | refine RK.condN rfl (fun h14 => ?_) (fun h14 => ?_) | refine RK.cond rfl (fun h14 => ?_) (fun h14 => ?_)
    · refine RK.seq ?_
      refine RK.region ?_
      iterate 2 refine RL.p rfl rfl ?_
      refine RL.done ?_
      refine RK.ret_of Tryz.func121 (res1 rfl rfl) ?_ _
      exact ⟨_, rfl, by unfold inS; first | rw [if_pos (by omega)] | rw [if_neg (by omega)], rfl⟩
    · refine RK.skip ?_
      refine RK.seq ?_
      refine RK.region ?_
      iterate 3 refine RL.p rfl rfl ?_
      refine RL.op (.free rfl) rfl rfl (Does.call rfl e70 (within_ok n lo hi h h1 h2 _)) ?_
      rintro _ _ ⟨rfl, rfl⟩
      refine RL.p rfl rfl ?_
      refine RL.done ?_
      refine RK.ret_of Tryz.func121 (res1 rfl rfl) ?_ _
      exact ⟨_, rfl, by unfold inS; first | rw [if_pos (by omega)] | rw [if_neg (by omega)], rfl⟩
  · iterate 3 refine RL.no (.no rfl rfl rfl rfl) rfl rfl ?_
    refine RL.p rfl rfl ?_
    refine RL.done ?_
    refine RK.condF rfl ?_
    refine RK.skip ?_
    refine RK.seq ?_
    refine RK.region ?_
    iterate 3 refine RL.p rfl rfl ?_
    refine RL.op (.free rfl) rfl rfl (Does.call rfl e70 (within_ok n lo hi h h1 h2 _)) ?_
    rintro _ _ ⟨rfl, rfl⟩
    refine RL.p rfl rfl ?_
    refine RL.done ?_
    refine RK.ret_of Tryz.func121 (res1 rfl rfl) ?_ _
    exact ⟨_, rfl, by unfold inS; first | rw [if_pos (by omega)] | rw [if_neg (by omega)], rfl⟩
def nmL : List ByteArray := [⟨#[115, 101, 118]⟩, ⟨#[106, 111, 98]⟩, ⟨#[104, 111, 115, 116]⟩, ⟨#[95, 120]⟩, ⟨#[90, 111, 110, 101, 57]⟩]
def vlL : List ByteArray := [⟨#[97]⟩, ⟨#[98]⟩, ⟨#[99, 114, 105, 116]⟩, ⟨#[119, 97, 114, 110]⟩, ⟨#[97, 98]⟩, ⟨#[0, 255]⟩, ⟨#[97, 98, 97, 98, 97, 98, 97, 98, 97, 98, 97, 98, 97, 98, 97, 98, 97, 98, 97, 98, 97, 98, 97, 98]⟩]
def nmS (n : Int) : ByteArray := nmL.getD (inS n 0 4).toNat ByteArray.empty
def vlS (n : Int) : ByteArray := vlL.getD (inS n 0 6).toNat ByteArray.empty
theorem nm_get : ∀ q, q < 5 → (nmL.map Value.string).toArray[q]? = some (.string (nmL.getD q ByteArray.empty)) := by
  intro q hq
  rcases q with _ | _ | _ | _ | _ | q <;> first | rfl | omega
theorem vl_get : ∀ q, q < 7 → (vlL.map Value.string).toArray[q]? = some (.string (vlL.getD q ByteArray.empty)) := by
  intro q hq
  rcases q with _ | _ | _ | _ | _ | _ | _ | q <;> first | rfl | omega
theorem nm_mem (n : Int) : nmS n ∈ nmL := by
  have := in_range n (lo := 0) (hi := 4) (by omega)
  unfold nmS
  have h : (inS n 0 4).toNat < nmL.length := by show _ < 5; omega
  rw [List.getD_eq_getElem?_getD, List.getElem?_eq_getElem h]
  exact List.getElem_mem _
theorem vl_mem (n : Int) : vlS n ∈ vlL := by
  have := in_range n (lo := 0) (hi := 6) (by omega)
  unfold vlS
  have h : (inS n 0 6).toNat < vlL.length := by show _ < 7; omega
  rw [List.getD_eq_getElem?_getD, List.getElem?_eq_getElem h]
  exact List.getElem_mem _
theorem nmK_ok (n : Int) (w : World) : Fx Tryz.prog 69 [.int .i64 n] w (fun u w' => u = .string (nmS n) ∧ w = w') := by
  have hr := in_range n (lo := 0) (hi := 4) (by omega)
  refine enter Tryz.func69 rfl rfl rfl _ (Pick.sub (l := [0]) (.cons rfl .nil)) ?_
  refine RK.seq ?_
  refine RK.region ?_
  refine RL.p rfl rfl ?_
  refine RL.done ?_
  refine RK.seq ?_
  refine RK.region ?_
  refine RL.q (.free rfl) rfl rfl (Yld.build (v := .agg (nmL.map Value.string).toArray) rfl (fun w => by kernel_rfl)) ?_
  refine RL.p rfl rfl ?_
  refine RL.op (.free rfl) rfl rfl (Does.call rfl e121 (in_ok n 0 4 (by omega) (by omega) (by omega) _)) ?_
  rintro _ _ ⟨rfl, rfl⟩
  have hq : inS n 0 4 = (((inS n 0 4).toNat : Nat) : Int) := by omega
  rw [hq]
  refine RL.q (.free rfl) rfl rfl (Yld.idxArr Tryz.underlying169 i9 p9 rfl rfl (by omega) (nm_get _ (by omega))) ?_
  refine RL.p rfl rfl ?_
  refine RL.done ?_
  refine RK.ret_of Tryz.func69 (res1 rfl rfl) ?_ _
  exact ⟨_, rfl, rfl, rfl⟩
theorem vlK_ok (n : Int) (w : World) : Fx Tryz.prog 71 [.int .i64 n] w (fun u w' => u = .string (vlS n) ∧ w = w') := by
  have hr := in_range n (lo := 0) (hi := 6) (by omega)
  refine enter Tryz.func71 rfl rfl rfl _ (Pick.sub (l := [0]) (.cons rfl .nil)) ?_
  refine RK.seq ?_
  refine RK.region ?_
  refine RL.p rfl rfl ?_
  refine RL.done ?_
  refine RK.seq ?_
  refine RK.region ?_
  refine RL.q (.free rfl) rfl rfl (Yld.build (v := .agg (vlL.map Value.string).toArray) rfl (fun w => by kernel_rfl)) ?_
  refine RL.p rfl rfl ?_
  refine RL.op (.free rfl) rfl rfl (Does.call rfl e121 (in_ok n 0 6 (by omega) (by omega) (by omega) _)) ?_
  rintro _ _ ⟨rfl, rfl⟩
  have hq : inS n 0 6 = (((inS n 0 6).toNat : Nat) : Int) := by omega
  rw [hq]
  refine RL.q (.free rfl) rfl rfl (Yld.idxArr Tryz.underlying174 i9 p9 rfl rfl (by omega) (vl_get _ (by omega))) ?_
  refine RL.p rfl rfl ?_
  refine RL.done ?_
  refine RK.ret_of Tryz.func71 (res1 rfl rfl) ?_ _
  exact ⟨_, rfl, rfl, rfl⟩
end Go.Proofs.YtffbcfcoddacmaaGreat

