/- What the claim stands on, part 10. Of own lemmas only those that it reaches. -/
import Derived.Test.YtffbcfcoddacmaaGreatKi9
set_option linter.unusedVariables false
set_option linter.unusedSimpArgs false
set_option maxHeartbeats 1000000
set_option maxRecDepth 100000
namespace Go.Proofs.YtffbcfcoddacmaaGreat
open Go Go.X Go.Rex
structure Dm where
  k : Int
  n : Int
  v : Int
def dmC (d : Dm) : List Value := [.int .i64 d.k, .int .i64 d.n, .int .i64 d.v]
theorem dmC_len (d : Dm) : (dmC d).length = 3 := rfl
def ptL : List ByteArray := [⟨#[97, 124, 98]⟩, ⟨#[]⟩, ⟨#[40, 99, 114, 105, 116, 124, 119, 97, 114, 110, 41]⟩, ⟨#[91, 97, 45, 99, 93, 43, 46, 42]⟩, ⟨#[46, 43]⟩, ⟨#[40, 97, 98, 41, 42]⟩, ⟨#[97, 63, 98, 63]⟩, ⟨#[91, 94, 97, 93, 42]⟩, ⟨#[97, 42, 97, 42, 97, 42, 97, 42, 97, 42, 97, 42, 97, 42, 97, 42, 97, 42, 97, 42, 97, 42, 97, 42, 97, 42, 97, 42]⟩]
def ptS (n : Int) : ByteArray := ptL.getD (inS n 0 8).toNat ByteArray.empty
theorem pt_get : ∀ q, q < 9 → (ptL.map Value.string).toArray[q]? = some (.string (ptL.getD q ByteArray.empty)) := by
  intro q hq
  rcases q with _ | _ | _ | _ | _ | _ | _ | _ | _ | q <;> first | rfl | omega
theorem ptK_ok (n : Int) (w : World) : Fx Tryz.prog 143 [.int .i64 n] w (fun u w' => u = .string (ptS n) ∧ w = w') := by
  have hr := in_range n (lo := 0) (hi := 8) (by omega)
  refine enter Tryz.func143 rfl rfl rfl _ (Pick.sub (l := [0]) (.cons rfl .nil)) ?_
  refine RK.seq ?_
  refine RK.region ?_
  refine RL.p rfl rfl ?_
  refine RL.done ?_
  refine RK.seq ?_
  refine RK.region ?_
  refine RL.q (.free rfl) rfl rfl (Yld.build (v := .agg (ptL.map Value.string).toArray) rfl (fun w => by kernel_rfl)) ?_
  refine RL.p rfl rfl ?_
  refine RL.op (.free rfl) rfl rfl (Does.call rfl e121 (in_ok n 0 8 (by omega) (by omega) (by omega) _)) ?_
  rintro _ _ ⟨rfl, rfl⟩
  have hq : inS n 0 8 = (((inS n 0 8).toNat : Nat) : Int) := by omega
  rw [hq]
  refine RL.q (.free rfl) rfl rfl (Yld.idxArr Tryz.underlying206 i9 p9 rfl rfl (by omega) (pt_get _ (by omega))) ?_
  refine RL.p rfl rfl ?_
  refine RL.done ?_
  refine RK.ret_of Tryz.func143 (res1 rfl rfl) ?_ _
  exact ⟨_, rfl, rfl, rfl⟩
def matOf (d : Dm) : Mt := ⟨inS d.k 1 4, nmS d.n, if inS d.k 1 4 < 3 then (if d.v < 0 then ⟨#[]⟩ else vlS d.v) else ptS d.v⟩
theorem matK_ok (d : Dm) (w : World) : Fx Tryz.prog 100 [.agg (dmC d).toArray] w (fun u w' => u = .agg (mtC (matOf d)).toArray ∧ Grow w w') := by
  refine enter Tryz.func100 rfl rfl rfl _ (Pick.sub (l := [0]) (.cons rfl .nil)) ?_
  refine RK.seq ?_
  refine RK.region ?_
  refine RL.op (.free rfl) rfl rfl (Does.box rfl) ?_
  rintro _ w1 ⟨b1, rfl, hn1⟩
  have hB1 : Blk w1 b1 159 [.int .i64 d.k, .int .i64 d.n, .int .i64 d.v] := hn1.blk
  refine RL.op (.free rfl) rfl rfl (Does.alloc i50) ?_
  rintro _ w2 ⟨b2, rfl, hn2⟩
  have hB2 := hB1.mod hn2.grow (fun h => h)
  have hb2 := hn2.at_
  have hs1 := hn1.size
  have hs2 := hn2.size
  refine RL.done ?_
  refine RK.seq ?_
  refine RK.cutS (fun b3 : Nat => [(1, pp b1), (2, pp b2), (3, pp b3)]) (fun b3 w' => w2.heap.size ≤ b3 ∧ Blk w' b3 50 [.int .i64 (inS d.k 1 4), .string (nmS d.n), .string (ptS d.v)] ∧ Grow w2 w') (fun b3 w3 hQ => ?_) (fun hj => ?_)
  · obtain ⟨hb3, hB3, hg3⟩ := hQ
    have hb13 : b1 ≠ b3 := by have := hB2.lt; omega
    have hBd := hB2.mod hg3 (fun h => h)
    have hR := hn2.blk.mod hg3 (fun h => h)
    refine RK.seq ?_
    refine RK.cut [(2, pp b2), (3, pp b3)] (fun w' => Blk w' b3 50 (mtC (matOf d)) ∧ Mod (· = b3) w3 w') (fun w4 hQ4 => ?_) (fun hj4 => ?_)
    · obtain ⟨hB4, hm4⟩ := hQ4
      refine RK.seq ?_
      refine RK.region ?_
      refine RL.q (.free rfl) rfl rfl (Yld.loadN (cs := mtC (matOf d)) a50 rfl (atN (blk0' hB4))) ?_
      refine RL.op' (.free rfl) rfl (Does.storeN i50 rfl rfl rfl rfl (hR.mod hm4 (by omega)) (Nat.le_refl 3)) ?_
      rintro _ w5 ⟨hb5, hm5, _⟩
      refine RL.done ?_
      refine RK.ret_of Tryz.func100 (resC (cs := mtC (matOf d)) rfl rfl a50 hb5) ?_ _
      exact ⟨_, rfl, rfl, (((hn1.grow.trans hn2.grow).trans hg3).then hm4 (fun y hy e => by have e' : y = b3 := e; omega)).then hm5 (fun y hy e => by have e' : y = b2 := e; omega)⟩
    · refine RK.seq ?_
      refine RK.region ?_
      refine RL.q (.free rfl) rfl rfl (Yld.fieldAddr fo50_0 rfl) ?_
      refine RL.q (.free rfl) rfl rfl (Yld.load p3 rfl (at1 (hB3.cell rfl))) ?_
      refine RL.p rfl rfl ?_
      refine RL.done ?_
      first | refine RK.condD rfl (fun h16 => ?_) (fun h16 => ?_) | refine RK.condN rfl (fun h16 => ?_) (fun h16 => ?_) | refine RK.cond rfl (fun h16 => ?_) (fun h16 => ?_)
      · refine RK.seq ?_
        refine RK.region ?_
        refine RL.q (.free rfl) rfl rfl (Yld.fieldAddr fo159_2 rfl) ?_
        refine RL.q (.free rfl) rfl rfl (Yld.load p3 rfl (at1 (hBd.cell rfl))) ?_
        refine RL.op (.free rfl) rfl rfl (Does.call rfl e71 (vlK_ok _ _)) ?_
        rintro _ _ ⟨rfl, rfl⟩
        refine RL.q (.free rfl) rfl rfl (Yld.fieldAddr fo50_2 rfl) ?_
        refine RL.op' (.free rfl) rfl (Does.store i9 rfl rfl rfl hB3 (.s (.s .z))) ?_
        rintro _ w4 ⟨hb4, hm4, _⟩
        refine RL.done ?_
        refine RK.seq ?_
        refine RK.region ?_
        refine RL.q (.free rfl) rfl rfl (Yld.fieldAddr fo159_2 rfl) ?_
        refine RL.q (.free rfl) rfl rfl (Yld.load p3 rfl (at1 ((hBd.mod hm4 hb13).cell rfl))) ?_
        refine RL.p rfl rfl ?_
        refine RL.done ?_
        first | refine RK.condD rfl (fun h23 => ?_) (fun h23 => ?_) | refine RK.condN rfl (fun h23 => ?_) (fun h23 => ?_) | refine RK.cond rfl (fun h23 => ?_) (fun h23 => ?_)
        · refine RK.region ?_
          refine RL.q (.free rfl) rfl rfl (Yld.fieldAddr fo50_2 rfl) ?_
          refine RL.op' (.free rfl) rfl (Does.store i9 rfl rfl rfl hb4 (.s (.s .z))) ?_
          rintro _ w5 ⟨hb5, hm5, _⟩
          refine RL.done ?_
          exact RK.back (hj4 _ ⟨by unfold matOf; rw [if_pos h16, if_pos h23]; exact hb5, hm4.trans hm5⟩) ⟨rfl, rfl, trivial⟩
        · refine RK.skip ?_
          exact RK.back (hj4 _ ⟨by unfold matOf; rw [if_pos h16, if_neg h23]; exact hb4, hm4⟩) ⟨rfl, rfl, trivial⟩
      · refine RK.skip ?_
        exact RK.back (hj4 _ ⟨by unfold matOf; rw [if_neg h16]; exact hB3, Mod.refl _ _⟩) ⟨rfl, rfl, trivial⟩
  · refine RK.drawT No (.op 0 false (.op 1 false (.op 3 false (.op 4 false (.op 6 false (.op 7 false (.fork 2 (.fork 5 (.fork 8 (.op 9 false (.op 10 true (.op 11 true .nil))) 10 (.op 8 true (.op 9 false (.op 11 true .nil)))) 10 (.op 5 true (.op 8 true (.op 9 false (.op 11 true .nil))))) 10 (.op 2 true (.op 5 true (.op 8 true (.op 9 false (.op 11 true .nil)))))))))))) [] mixed (by kernel_rfl) ?_
    refine DT.qf rfl (.free rfl) rfl rfl (Yld.fieldAddr fo159_0 rfl) ?_
    refine DT.q rfl (.free rfl) rfl rfl rfl (Yld.load p3 rfl (atM (hB2.cell rfl) (fun h => h))) (Mod.drew _ _) ?_
    refine DT.qf rfl (.free rfl) rfl rfl (Yld.fieldAddr fo159_1 rfl) ?_
    refine DT.q rfl (.free rfl) rfl rfl rfl (Yld.load p3 rfl (atM (hB2.cell rfl) (fun h => h))) (Mod.drew _ _) ?_
    refine DT.qf rfl (.free rfl) rfl rfl (Yld.fieldAddr fo159_2 rfl) ?_
    refine DT.q rfl (.free rfl) rfl rfl rfl (Yld.load p3 rfl (atM (hB2.cell rfl) (fun h => h))) (Mod.drew _ _) ?_
    refine DT.fork ?_ ?_
    · refine DT.op rfl (.free rfl) rfl rfl (Does.call rfl e121 (in_ok d.k 1 4 (by omega) (by omega) (by omega) _)) ?_
      rintro _ _ ⟨rfl, rfl⟩
      refine ⟨Mod.drew _ _, ?_⟩
      refine DT.fork ?_ ?_
      · refine DT.op rfl (.free rfl) rfl rfl (Does.call rfl e69 (nmK_ok _ _)) ?_
        rintro _ _ ⟨rfl, rfl⟩
        refine ⟨Mod.drew _ _, ?_⟩
        refine DT.fork ?_ ?_
        · refine DT.op rfl (.free rfl) rfl rfl (Does.call rfl e143 (ptK_ok _ _)) ?_
          rintro _ _ ⟨rfl, rfl⟩
          refine ⟨Mod.drew _ _, ?_⟩
          refine DT.qf rfl (.free rfl) rfl rfl (Yld.build (v := .agg #[.int .i64 (inS d.k 1 4), .string (nmS d.n), .string (ptS d.v)]) rfl (fun w => by kernel_rfl)) ?_
          refine DT.op rfl (.free rfl) rfl rfl (Does.alloc i50) ?_
          rintro _ w3 ⟨b3, rfl, hn3⟩
          refine ⟨(Mod.drew _ _).trans hn3.grow, ?_⟩
          refine DT.op' rfl (.free rfl) rfl (Does.storeN i50 rfl rfl rfl rfl hn3.blk (Nat.le_refl 3)) ?_
          rintro _ w4 ⟨hb4, hm4, _⟩
          have hg4 := ((Mod.drew No _).trans hn3.grow).then hm4 (fun y hy e => by have e' : y = b3 := e; have hb3 := hn3.at_; simp only [World.drew] at hb3; omega)
          have hle3 : w2.heap.size ≤ b3 := by have hb3 := hn3.at_; simp only [World.drew] at hb3; omega
          refine ⟨hg4, ?_⟩
          refine DT.done ?_
          exact RK.back (hj b3 _ ⟨hle3, hb4, hg4⟩) ⟨rfl, rfl, rfl, trivial⟩
        · refine DT.op rfl (.free rfl) rfl rfl (Does.alloc i50) ?_
          rintro _ w3 ⟨b3, rfl, hn3⟩
          refine ⟨(Mod.drew _ _).trans hn3.grow, ?_⟩
          refine DT.op rfl (.free rfl) rfl rfl (Does.call rfl e143 (ptK_ok _ _)) ?_
          rintro _ _ ⟨rfl, rfl⟩
          refine ⟨(Mod.drew _ _).trans hn3.grow, ?_⟩
          refine DT.qf rfl (.free rfl) rfl rfl (Yld.build (v := .agg #[.int .i64 (inS d.k 1 4), .string (nmS d.n), .string (ptS d.v)]) rfl (fun w => by kernel_rfl)) ?_
          refine DT.op' rfl (.free rfl) rfl (Does.storeN i50 rfl rfl rfl rfl hn3.blk (Nat.le_refl 3)) ?_
          rintro _ w4 ⟨hb4, hm4, _⟩
          have hg4 := ((Mod.drew No _).trans hn3.grow).then hm4 (fun y hy e => by have e' : y = b3 := e; have hb3 := hn3.at_; simp only [World.drew] at hb3; omega)
          have hle3 : w2.heap.size ≤ b3 := by have hb3 := hn3.at_; simp only [World.drew] at hb3; omega
          refine ⟨hg4, ?_⟩
          refine DT.done ?_
          exact RK.back (hj b3 _ ⟨hle3, hb4, hg4⟩) ⟨rfl, rfl, rfl, trivial⟩
      · refine DT.op rfl (.free rfl) rfl rfl (Does.alloc i50) ?_
        rintro _ w3 ⟨b3, rfl, hn3⟩
        refine ⟨(Mod.drew _ _).trans hn3.grow, ?_⟩
        refine DT.op rfl (.free rfl) rfl rfl (Does.call rfl e69 (nmK_ok _ _)) ?_
        rintro _ _ ⟨rfl, rfl⟩
        refine ⟨(Mod.drew _ _).trans hn3.grow, ?_⟩
        refine DT.op rfl (.free rfl) rfl rfl (Does.call rfl e143 (ptK_ok _ _)) ?_
        rintro _ _ ⟨rfl, rfl⟩
        refine ⟨(Mod.drew _ _).trans hn3.grow, ?_⟩
        refine DT.qf rfl (.free rfl) rfl rfl (Yld.build (v := .agg #[.int .i64 (inS d.k 1 4), .string (nmS d.n), .string (ptS d.v)]) rfl (fun w => by kernel_rfl)) ?_
        refine DT.op' rfl (.free rfl) rfl (Does.storeN i50 rfl rfl rfl rfl hn3.blk (Nat.le_refl 3)) ?_
        rintro _ w4 ⟨hb4, hm4, _⟩
        have hg4 := ((Mod.drew No _).trans hn3.grow).then hm4 (fun y hy e => by have e' : y = b3 := e; have hb3 := hn3.at_; simp only [World.drew] at hb3; omega)
        have hle3 : w2.heap.size ≤ b3 := by have hb3 := hn3.at_; simp only [World.drew] at hb3; omega
        refine ⟨hg4, ?_⟩
        refine DT.done ?_
        exact RK.back (hj b3 _ ⟨hle3, hb4, hg4⟩) ⟨rfl, rfl, rfl, trivial⟩
    · refine DT.op rfl (.free rfl) rfl rfl (Does.alloc i50) ?_
      rintro _ w3 ⟨b3, rfl, hn3⟩
      refine ⟨(Mod.drew _ _).trans hn3.grow, ?_⟩
      refine DT.op rfl (.free rfl) rfl rfl (Does.call rfl e121 (in_ok d.k 1 4 (by omega) (by omega) (by omega) _)) ?_
      rintro _ _ ⟨rfl, rfl⟩
      refine ⟨(Mod.drew _ _).trans hn3.grow, ?_⟩
      refine DT.op rfl (.free rfl) rfl rfl (Does.call rfl e69 (nmK_ok _ _)) ?_
      rintro _ _ ⟨rfl, rfl⟩
      refine ⟨(Mod.drew _ _).trans hn3.grow, ?_⟩
      refine DT.op rfl (.free rfl) rfl rfl (Does.call rfl e143 (ptK_ok _ _)) ?_
      rintro _ _ ⟨rfl, rfl⟩
      refine ⟨(Mod.drew _ _).trans hn3.grow, ?_⟩
      refine DT.qf rfl (.free rfl) rfl rfl (Yld.build (v := .agg #[.int .i64 (inS d.k 1 4), .string (nmS d.n), .string (ptS d.v)]) rfl (fun w => by kernel_rfl)) ?_
      refine DT.op' rfl (.free rfl) rfl (Does.storeN i50 rfl rfl rfl rfl hn3.blk (Nat.le_refl 3)) ?_
      rintro _ w4 ⟨hb4, hm4, _⟩
      have hg4 := ((Mod.drew No _).trans hn3.grow).then hm4 (fun y hy e => by have e' : y = b3 := e; have hb3 := hn3.at_; simp only [World.drew] at hb3; omega)
      have hle3 : w2.heap.size ≤ b3 := by have hb3 := hn3.at_; simp only [World.drew] at hb3; omega
      refine ⟨hg4, ?_⟩
      refine DT.done ?_
      exact RK.back (hj b3 _ ⟨hle3, hb4, hg4⟩) ⟨rfl, rfl, rfl, trivial⟩
@[irreducible] def aheadM (x y : Mt) : Bool := if x.name ≠ y.name then slt x.name y.name else if x.kind ≠ y.kind then decide (x.kind < y.kind) else slt x.value y.value
theorem ahead_ok (x y : Mt) (w : World) : Fx Tryz.prog 101 [.agg (mtC x).toArray, .agg (mtC y).toArray] w (fun u w' => u = .bool (aheadM x y) ∧ Grow w w') := by
  refine enter Tryz.func101 rfl rfl rfl _ (Pick.sub (l := [0, 1]) (.cons rfl (.cons rfl .nil))) ?_
  refine RK.seq ?_
  refine RK.region ?_
  refine RL.op (.free rfl) rfl rfl (Does.box rfl) ?_
  rintro _ w1 ⟨b1, rfl, hn1⟩
  refine RL.op (.free rfl) rfl rfl (Does.box rfl) ?_
  rintro _ w2 ⟨b2, rfl, hn2⟩
  have hB1 : Blk w2 b1 50 [.int .i64 x.kind, .string x.name, .string x.value] := hn1.blk.mod hn2.grow (fun h => h)
  have hB2 : Blk w2 b2 50 [.int .i64 y.kind, .string y.name, .string y.value] := hn2.blk
  have hg2 := hn1.grow.trans hn2.grow
  refine RL.p rfl rfl ?_
  refine RL.done ?_
  iterate 2 refine RK.seq ?_
  refine RK.region ?_
  refine RL.q (.free rfl) rfl rfl (Yld.fieldAddr fo50_1 rfl) ?_
  refine RL.q (.free rfl) rfl rfl (Yld.load p9 rfl (at1 (hB1.cell rfl))) ?_
  refine RL.q (.free rfl) rfl rfl (Yld.fieldAddr fo50_1 rfl) ?_
  refine RL.q (.free rfl) rfl rfl (Yld.load p9 rfl (at1 (hB2.cell rfl))) ?_
  refine RL.p rfl rfl ?_
  refine RL.done ?_
  first | refine RK.condD rfl (fun h9 => ?_) (fun h9 => ?_) | refine RK.condN rfl (fun h9 => ?_) (fun h9 => ?_) | refine RK.cond rfl (fun h9 => ?_) (fun h9 => ?_)
  · refine RK.seq ?_
    refine RK.region ?_
    refine RL.q (.free rfl) rfl rfl (Yld.fieldAddr fo50_1 rfl) ?_
    refine RL.q (.free rfl) rfl rfl (Yld.load p9 rfl (at1 (hB1.cell rfl))) ?_
    refine RL.q (.free rfl) rfl rfl (Yld.fieldAddr fo50_1 rfl) ?_
    refine RL.q (.free rfl) rfl rfl (Yld.load p9 rfl (at1 (hB2.cell rfl))) ?_
    iterate 2 refine RL.p rfl rfl ?_
    refine RL.done ?_
    refine RK.ret_of Tryz.func101 (res1 rfl rfl) ?_ _
    exact ⟨_, rfl, by unfold aheadM; rw [if_pos h9], hg2⟩
  · refine RK.skip ?_
    iterate 2 refine RK.seq ?_
    refine RK.region ?_
    refine RL.q (.free rfl) rfl rfl (Yld.fieldAddr fo50_0 rfl) ?_
    refine RL.q (.free rfl) rfl rfl (Yld.load p3 rfl (at1 (hB1.cell rfl))) ?_
    refine RL.q (.free rfl) rfl rfl (Yld.fieldAddr fo50_0 rfl) ?_
    refine RL.q (.free rfl) rfl rfl (Yld.load p3 rfl (at1 (hB2.cell rfl))) ?_
    refine RL.p rfl rfl ?_
    refine RL.done ?_
    first | refine RK.condD rfl (fun h19 => ?_) (fun h19 => ?_) | refine RK.condN rfl (fun h19 => ?_) (fun h19 => ?_) | refine RK.cond rfl (fun h19 => ?_) (fun h19 => ?_)
    · refine RK.seq ?_
      refine RK.region ?_
      refine RL.q (.free rfl) rfl rfl (Yld.fieldAddr fo50_0 rfl) ?_
      refine RL.q (.free rfl) rfl rfl (Yld.load p3 rfl (at1 (hB1.cell rfl))) ?_
      refine RL.q (.free rfl) rfl rfl (Yld.fieldAddr fo50_0 rfl) ?_
      refine RL.q (.free rfl) rfl rfl (Yld.load p3 rfl (at1 (hB2.cell rfl))) ?_
      iterate 2 refine RL.p rfl rfl ?_
      refine RL.done ?_
      refine RK.ret_of Tryz.func101 (res1 rfl rfl) ?_ _
      exact ⟨_, rfl, by unfold aheadM; rw [if_neg (fun h => h h9), if_pos h19], hg2⟩
    · refine RK.skip ?_
      refine RK.seq ?_
      refine RK.region ?_
      refine RL.q (.free rfl) rfl rfl (Yld.fieldAddr fo50_2 rfl) ?_
      refine RL.q (.free rfl) rfl rfl (Yld.load p9 rfl (at1 (hB1.cell rfl))) ?_
      refine RL.q (.free rfl) rfl rfl (Yld.fieldAddr fo50_2 rfl) ?_
      refine RL.q (.free rfl) rfl rfl (Yld.load p9 rfl (at1 (hB2.cell rfl))) ?_
      iterate 2 refine RL.p rfl rfl ?_
      refine RL.done ?_
      refine RK.ret_of Tryz.func101 (res1 rfl rfl) ?_ _
      exact ⟨_, rfl, by unfold aheadM; rw [if_neg (fun h => h h9), if_neg h19], hg2⟩
theorem mt_ext {x y : Mt} (h : y.kind = x.kind ∧ y.name = x.name ∧ y.value = x.value) : y = x := by cases x; cases y; obtain ⟨rfl, rfl, rfl⟩ := h; rfl
theorem mt_eqs {x y : Mt} (h : y = x) : y.kind = x.kind ∧ y.name = x.name ∧ y.value = x.value := by subst h; exact ⟨rfl, rfl, rfl⟩
def insM (L : List Mt) (x : Mt) : List Mt := if 0 < pos aheadM x L ∧ L[pos aheadM x L - 1]? = some x then L else insE aheadM L x
def matF : List Dm → List Mt → List Mt
  | [], out => out
  | d :: l, out => if out.length < 5 then matF l (insM out (matOf d)) else out
def sevM : Mt := ⟨1, ⟨#[115, 101, 118]⟩, ⟨#[97]⟩⟩
def matsS (l : List Dm) (must : Bool) : List Mt := if must = true ∧ matF l [] = [] then [sevM] else matF l []
theorem pos_le {α : Type} (lt : α → α → Bool) (x : α) (L : List α) : pos lt x L ≤ L.length := by unfold pos; omega
theorem insM_len (L : List Mt) (x : Mt) : (insM L x).length ≤ L.length + 1 := by
  unfold insM
  have := pos_le aheadM x L
  split
  · omega
  · unfold insE; simp; omega
theorem allOne_mts (xs : List Mt) : ((xs.flatMap mtC).all fun x => x.oneCell') = true := by
  rw [List.all_eq_true]
  intro u hu
  obtain ⟨x, _, hx⟩ := List.mem_flatMap.1 hu
  simp only [mtC, List.mem_cons, List.not_mem_nil, or_false] at hx
  rcases hx with rfl | rfl | rfl <;> rfl
theorem matOf_name (d : Dm) : (matOf d).name ∈ nmL := nm_mem _
theorem matF_name : ∀ (l : List Dm) (out : List Mt), (∀ m ∈ out, m.name ∈ nmL) → ∀ m ∈ matF l out, m.name ∈ nmL
  | [], out, h => h
  | d :: l, out, h => by
    unfold matF
    split
    · refine matF_name l _ fun m hm => ?_
      unfold insM at hm
      split at hm
      · exact h m hm
      · rcases mem_insE.1 hm with h1 | rfl
        · exact h m h1
        · exact matOf_name d
    · exact h
theorem matsS_name (l : List Dm) (must : Bool) : ∀ m ∈ matsS l must, m.name.size ≤ 9223372036854775807 := by
  intro m hm
  have h1 : m.name ∈ nmL := by
    unfold matsS at hm
    split at hm
    · simp at hm; subst hm; simp [sevM, nmL]
    · exact matF_name l [] (by simp) m hm
  have := (nmL_ok _ h1).2.2
  omega
theorem mats_ok (M : Nat → Prop) (ds : List Dm) (must : Bool) (v : Value) (w : World) (hv : Sl M w v 3 ds.length (ds.flatMap dmC)) :
    Fx Tryz.prog 46 [v, .bool must] w (fun u w' => Row w' 50 3 u (matsS ds must).length ((matsS ds must).flatMap mtC) ∧ Fresh w.heap.size u ∧ Grow w w') := by
  obtain ⟨ad, c, rfl⟩ := hv.shape
  have hbig := hv.big
  refine enter Tryz.func46 rfl rfl rfl _ (Pick.sub (l := [0, 1]) (.cons rfl (.cons rfl .nil))) ?_
  refine RK.seq ?_
  refine RK.region ?_
  refine RL.p rfl rfl ?_
  refine RL.done ?_
  refine RK.seq ?_
  refine RK.region ?_
  refine RL.p rfl rfl ?_
  refine RL.done ?_
  iterate 2 refine RK.seq ?_
  refine RK.region ?_
  refine RL.p rfl rfl ?_
  refine RL.done ?_
  refine RK.block ?_
  refine RK.loop (fun s : Nat × List Mt × Value => [(0, .slice ad ds.length c), (1, .bool must), (5, s.2.2), (6, .int .i64 (s.1 : Int))]) (fun s w' => Row w' 50 3 s.2.2 s.2.1.length (s.2.1.flatMap mtC) ∧ Fresh w.heap.size s.2.2 ∧ Grow w w' ∧ s.1 ≤ ds.length ∧ s.2.1.length ≤ 5 ∧ matF (ds.drop s.1) s.2.1 = matF ds []) (fun s => ds.length - s.1) (0, [], .slice none 0 0) ⟨rfl, rfl, rfl, rfl, trivial⟩ ⟨by simpa using Row.nil _ _ _, fun b hb => by simp [Value.ownBlock] at hb, Mod.refl _ _, by simp, by simp, by simp⟩ (fun s w0 hI ih => ?_)
  obtain ⟨i, L, u⟩ := s
  obtain ⟨hr, hfr, hg0, hi, hL, hst⟩ := hI
  simp only at hr hfr hi hL hst
  obtain ⟨adu, cu, rfl, hcu⟩ := hr.cap
  iterate 2 refine RK.seq ?_
  refine RK.region ?_
  iterate 2 refine RL.p rfl rfl ?_
  refine RL.q (.free rfl) rfl rfl (Yld.lenSl u73 rfl) ?_
  iterate 2 refine RL.p rfl rfl ?_
  first | refine RL.splitD (d := 13) rfl rfl (fun h12 => ?_) (fun h12 => ?_) | refine RL.splitN (d := 13) rfl rfl (fun h12 => ?_) (fun h12 => ?_) | refine RL.split (d := 13) rfl rfl (fun h12 => ?_) (fun h12 => ?_)
  · refine RL.q (.yes rfl rfl rfl) rfl rfl (Yld.pure rfl) ?_
    refine RL.q (.yes rfl rfl rfl) rfl rfl (Yld.lenSl u51 rfl) ?_
    refine RL.q (.yes rfl rfl rfl) rfl rfl (Yld.pure rfl) ?_
    refine RL.p rfl rfl ?_
    refine RL.done ?_
    first | refine RK.condD rfl (fun h16 => ?_) (fun h16 => ?_) | refine RK.condN rfl (fun h16 => ?_) (fun h16 => ?_) | refine RK.cond rfl (fun h16 => ?_) (fun h16 => ?_)
    · obtain ⟨d, hd⟩ : ∃ d, ds[i]? = some d := ⟨ds[i]'(by omega), List.getElem?_eq_getElem (by omega)⟩
      have hstep : matF (ds.drop (i + 1)) (insM L (matOf d)) = matF ds [] := by
          rw [← hst, List.drop_eq_getElem_cons (by omega : i < ds.length), (List.getElem?_eq_some_iff.1 hd).2]
          simp only [matF]
          rw [if_pos (by omega)]
      obtain ⟨b1, o1, c1', he1, _, _, hc1⟩ := hv.elem dmC_len hd
      cases he1
      refine RK.skip ?_
      refine RK.seq ?_
      refine RK.block ?_
      refine RK.seq ?_
      refine RK.region ?_
      iterate 2 refine RL.p rfl rfl ?_
      refine RL.q (.free rfl) rfl rfl (Yld.indexAddrN u73 i159 rfl rfl (by omega)) ?_
      refine RL.q (.free rfl) rfl rfl (Yld.loadN (cs := dmC d) a159 rfl (atN (fun q z hq => hg0.cell (hc1 q z hq) (fun h => h)))) ?_
      refine RL.op (.free rfl) rfl rfl (Does.call rfl e100 (matK_ok d _)) ?_
      rintro _ w1 ⟨rfl, hg1⟩
      refine RL.op (.free rfl) rfl rfl (Does.alloc i50) ?_
      rintro _ w7 ⟨b7, rfl, hn7⟩
      refine RL.op' (.free rfl) rfl (Does.storeN i50 rfl rfl rfl rfl hn7.blk (Nat.le_refl 3)) ?_
      rintro _ w8 ⟨hb7, hm8, _⟩
      have hg8 : Grow w0 w8 := hg1.trans (hn7.grow.then hm8 (fun y hy e => by have e' : y = b7 := e; have := hn7.at_; omega))
      generalize hx : matOf d = x at *
      have hru := hr.mod hg8 (fun _ _ h => h)
      have hsu : Sl No w8 (.slice adu L.length cu) 3 L.length (L.flatMap mtC) := Sl.own hru (fun _ _ h => h)
      refine RL.done ?_
      refine RK.seq ?_
      refine RK.region ?_
      refine RL.p rfl rfl ?_
      refine RL.q (.free rfl) rfl rfl (Yld.lenSl u51 rfl) ?_
      refine RL.p rfl rfl ?_
      refine RL.done ?_
      refine RK.seq ?_
      refine RK.block ?_
      refine RK.loop (fun j : Nat => [(0, .slice (some ⟨b1, o1, none⟩) ds.length c), (1, .bool must), (5, .slice adu L.length cu), (6, .int .i64 (i : Int)), (7, pp b7), (8, .int .i64 (j : Int))]) (fun j w2 => Grow w8 w2 ∧ j ≤ L.length ∧ ∀ y ∈ L.drop j, aheadM x y = true) (fun j => j) L.length ⟨rfl, rfl, rfl, rfl, rfl, rfl, trivial⟩ ⟨Mod.refl _ _, Nat.le_refl _, by simp⟩ (fun j w2 hI2 ih2 => ?_)
      obtain ⟨hg2, hj, hD⟩ := hI2
      have hB7 := hb7.mod hg2 (fun h => h)
      have hhi : ∀ w3, Grow w8 w3 → Sl No w3 (.slice adu j cu) 3 j ((L.take j).flatMap mtC) := fun w3 h3 => (hsu.mod h3).takeF mtC_len hj
      have hlo : ∀ w3, Grow w8 w3 → Sl No w3 (.slice (fromAt adu cu j 3) (L.length - j) (cu - j)) 3 (L.length - j) ((L.drop j).flatMap mtC) := fun w3 h3 => (hsu.mod h3).fromF mtC_len hj hcu
      iterate 2 refine RK.seq ?_
      refine RK.drawM No [(0, false), (1, false), (2, false), (3, false), (4, false), (5, false), (6, false), (7, false), (8, false), (9, true), (10, false)] [] mixed (by kernel_rfl) ?_
      iterate 3 refine DL.p rfl rfl rfl ?_
      first | refine DL.splitD (d := 29) rfl rfl (fun h28 => ?_) (fun h28 => ?_) | refine DL.splitN (d := 29) rfl rfl (fun h28 => ?_) (fun h28 => ?_) | refine DL.split (d := 29) rfl rfl (fun h28 => ?_) (fun h28 => ?_)
      · obtain ⟨y, hy⟩ : ∃ y, L[j - 1]? = some y := ⟨L[j - 1]'(by omega), List.getElem?_eq_getElem (by omega)⟩
        obtain ⟨b2, o2, c2', he2, _, _, hc2⟩ := hsu.elem mtC_len hy
        cases he2
        refine DL.q rfl (.yes rfl rfl rfl) rfl rfl rfl (Yld.loadN (cs := mtC x) a50 rfl (atNM (blk0' hB7) (fun h => h))) (Mod.drew _ _) ?_
        iterate 3 refine DL.qf rfl (.yes rfl rfl rfl) rfl rfl (Yld.pure rfl) ?_
        refine DL.re (d := 33) rfl rfl (sub_i64 (z := ((j - 1 : Nat) : Int)) (by omega) (by omega) (by omega)) ?_
        refine DL.qf rfl (.yes rfl rfl rfl) rfl rfl (Yld.indexAddrN u51 i50 rfl rfl (by omega)) ?_
        refine DL.q rfl (.yes rfl rfl rfl) rfl rfl rfl (Yld.loadN (cs := mtC y) a50 rfl (atNM (fun q z hq => hg2.cell (hc2 q z hq) (fun h => h)) (fun h => h))) (Mod.drew _ _) ?_
        refine DL.op rfl (.yes rfl rfl rfl) rfl rfl (Does.call rfl e101 (ahead_ok x y _)) ?_
        rintro _ w3 ⟨rfl, hg3⟩
        refine ⟨(Mod.drew No _).trans hg3, ?_⟩
        have hg4 := hg2.trans ((Mod.drew No _).trans hg3)
        refine DL.p rfl rfl rfl ?_
        refine DL.done ?_
        first | refine RK.condD rfl (fun h36 => ?_) (fun h36 => ?_) | refine RK.condN rfl (fun h36 => ?_) (fun h36 => ?_) | refine RK.cond rfl (fun h36 => ?_) (fun h36 => ?_)
        · refine RK.skip ?_
          refine RK.block ?_
          refine RK.region ?_
          iterate 2 refine RL.p rfl rfl ?_
          refine RL.re (d := 39) rfl rfl (sub_i64 (z := ((j - 1 : Nat) : Int)) (by omega) (by omega) (by omega)) ?_
          refine RL.p rfl rfl ?_
          refine RL.done ?_
          refine RK.inBlock ?_
          exact RK.back (ih2 (j - 1) _ ⟨hg4, by omega, fun z hz => by
              rw [show L.drop (j - 1) = y :: L.drop j by rw [List.drop_eq_getElem_cons (by omega : j - 1 < L.length), show j - 1 + 1 = j by omega, (List.getElem?_eq_some_iff.1 hy).2]] at hz
              rcases List.mem_cons.1 hz with rfl | hz
              · exact h36
              · exact hD z hz
            ⟩ (by omega)) ⟨rfl, rfl, rfl, rfl, rfl, rfl, trivial⟩
        · have hpos : pos aheadM x L = j := pos_splitG hj hD (fun z _ hz => by rw [hy] at hz; cases hz; simpa using h36)
          have hB7' := hB7.mod ((Mod.drew No _).trans hg3) (fun h => h)
          refine RK.exit rfl ?_
          iterate 2 refine RK.seq ?_
          refine RK.drawM No [(0, false), (1, false), (2, false), (3, false), (4, false), (5, false), (6, false), (7, false), (8, false), (9, false), (10, false)] [] mixed (by kernel_rfl) ?_
          iterate 3 refine DL.p rfl rfl rfl ?_
          first | refine DL.splitD (d := 42) rfl rfl (fun h41 => ?_) (fun h41 => ?_) | refine DL.splitN (d := 42) rfl rfl (fun h41 => ?_) (fun h41 => ?_) | refine DL.split (d := 42) rfl rfl (fun h41 => ?_) (fun h41 => ?_)
          · obtain ⟨b3, o3, c3', he3, _, _, hc3⟩ := hsu.elem mtC_len hy
            cases he3
            iterate 3 refine DL.qf rfl (.yes rfl rfl rfl) rfl rfl (Yld.pure rfl) ?_
            refine DL.re (d := 45) rfl rfl (sub_i64 (z := ((j - 1 : Nat) : Int)) (by omega) (by omega) (by omega)) ?_
            refine DL.qf rfl (.yes rfl rfl rfl) rfl rfl (Yld.indexAddrN u51 i50 rfl rfl (by omega)) ?_
            refine DL.q rfl (.yes rfl rfl rfl) rfl rfl rfl (Yld.loadN (cs := mtC y) a50 rfl (atNM (fun q z hq => hg4.cell (hc2 q z hq) (fun h => h)) (fun h => h))) (Mod.drew _ _) ?_
            refine DL.q rfl (.yes rfl rfl rfl) rfl rfl rfl (Yld.loadN (cs := mtC x) a50 rfl (atNM (blk0' hB7') (fun h => h))) (Mod.drew _ _) ?_
            refine DL.qf rfl (.yes rfl rfl rfl) rfl rfl (Yld.eqTrip trip50 rfl rfl) ?_
            refine DL.p rfl rfl rfl ?_
            refine DL.done ?_
            first | refine RK.condD rfl (fun h49 => ?_) (fun h49 => ?_) | refine RK.condN rfl (fun h49 => ?_) (fun h49 => ?_) | refine RK.cond rfl (fun h49 => ?_) (fun h49 => ?_)
            · have hsame : insM L x = L := by unfold insM; rw [hpos, if_pos ⟨by omega, by rw [hy, mt_ext h49]⟩]
              refine RK.exit rfl ?_
              refine RK.region ?_
              iterate 2 refine RL.p rfl rfl ?_
              refine RL.re (d := 19) rfl rfl (succ_i64 (by omega)) ?_
              refine RL.p rfl rfl ?_
              refine RL.done ?_
              exact RK.back (ih (i + 1, L, _) _ ⟨hr.mod (hg8.trans (hg4.trans (Mod.drew _ _))) (fun _ _ h => h), hfr, hg0.trans (hg8.trans (hg4.trans (Mod.drew _ _))), by simp only; omega, hL, by simp only; rw [← hsame]; exact hstep⟩ (by simp only; omega)) ⟨rfl, rfl, rfl, rfl, trivial⟩
            · have hne : ¬ (0 < j ∧ L[j - 1]? = some x) := fun h => h49 (by have h2 := h.2; rw [hy] at h2; exact mt_eqs (Option.some.inj h2))
              obtain ⟨w9, hw9⟩ : ∃ w9, w9 = w3.drew := ⟨_, rfl⟩
              rw [← hw9]
              have hgr : Grow w8 w9 := by rw [hw9]; exact hg4.trans (Mod.drew _ _)
              have hB9 := hb7.mod hgr (fun h => h)
              have hg : Grow w w8 := hg0.trans hg8
              have hgd : Grow w8 w9.drew := hgr.trans (Mod.drew _ _)
              refine RK.skip ?_
              refine RK.drawF No [(0, false), (1, false), (2, false), (4, false), (7, false), (8, false), (9, false)] 3 5 [(5, true), (6, true), (10, true), (11, false)] [(3, true), (6, true), (10, true), (11, false)] [] mixed (by kernel_rfl) ?_
              iterate 2 refine DL.p rfl rfl rfl ?_
              refine DL.qf rfl (.free rfl) rfl rfl (Yld.sliceHi u51 i50 (m := j) rfl rfl (by omega)) ?_
              refine DL.q rfl (.free rfl) rfl rfl rfl (Yld.loadN (cs := mtC x) a50 rfl (atNM (blk0' hB9) (fun h => h))) (Mod.drew _ _) ?_
              iterate 2 refine DL.p rfl rfl rfl ?_
              refine DL.qf rfl (.free rfl) rfl rfl (Yld.sliceFrom u51 i50 (m := j) rfl rfl hj) ?_
              refine DL.fork ?_ ?_
              · refine DL.op rfl (.free rfl) rfl rfl (Does.append u51 i50 rfl rfl rfl rfl rfl (Row.nil _ _ _) (hhi _ hgd) (allOne_mts _) (by omega)) ?_
                rintro u1 v1 ⟨hr1, hm1, hu1⟩
                have hg1 : Grow w9.drew v1 := hm1.mono (fun b _ e => by simp [Value.ownBlock] at e)
                refine ⟨(Mod.drew _ _).trans hg1, ?_⟩
                refine DL.op rfl (.free rfl) rfl rfl (Does.slice1 u51 i50 rfl rfl rfl rfl rfl) ?_
                rintro _ v2 ⟨b2, rfl, hn2⟩
                refine ⟨((Mod.drew _ _).trans hg1).trans hn2.grow, ?_⟩
                refine DL.op rfl (.free rfl) rfl rfl (Does.append u51 i50 rfl rfl rfl rfl rfl (hr1.mod hn2.grow (fun _ _ h => h)) (Sl.new hn2 3 1 rfl (by omega) (fun h => h)) (rfl) (by omega)) ?_
                rintro u3 v3 ⟨hr3, hm3, hu3⟩
                have hf1 : Fresh w9.drew.heap.size u1 := fun b e => by
                    rcases hu1 with h | h <;> rw [h] at e
                    · simp [Value.ownBlock] at e
                    · cases e; omega
                have hf3 : Fresh w9.drew.heap.size u3 := fun b e => by
                    have h1 := hg1.size; have h2 := hn2.size
                    rcases hu3 with h | h <;> rw [h] at e
                    · exact hf1 b e
                    · cases e; omega
                have hg13 : Grow w9.drew v3 := (hg1.trans hn2.grow).then hm3 (fun b hb e => by have := hf1 b e; omega)
                refine ⟨(Mod.drew _ _).trans hg13, ?_⟩
                refine DL.op rfl (.free rfl) rfl rfl (Does.append u51 i50 rfl rfl rfl rfl rfl (hr3) (hlo _ (hgd.trans hg13)) (allOne_mts _) (by omega)) ?_
                rintro u4 v4 ⟨hr4, hm4, hu4⟩
                have hg14 : Grow w9.drew v4 := hg13.then hm4 (fun b hb e => by have := hf3 b e; omega)
                have hf4 : Fresh w.heap.size u4 := fun b e => by
                    have h1 := hg13.size; have h2 := (hg.trans hgd).size
                    rcases hu4 with h | h <;> rw [h] at e
                    · have := hf3 b e; omega
                    · cases e; omega
                refine ⟨(Mod.drew _ _).trans hg14, ?_⟩
                have hfin : insM L x = L.take j ++ x :: L.drop j := by unfold insM; rw [if_neg (by rw [hpos]; exact hne), insE, hpos]
                refine DL.p rfl rfl rfl ?_
                refine DL.done ?_
                refine RK.inBlock ?_
                refine RK.region ?_
                iterate 2 refine RL.p rfl rfl ?_
                refine RL.re (d := 19) rfl rfl (succ_i64 (by omega)) ?_
                refine RL.p rfl rfl ?_
                refine RL.done ?_
                exact RK.back (ih (i + 1, insM L x, u4) _ ⟨laidF (f := mtC) (x := x) rfl hj hfin hr4, hf4, (hg.trans hgd).trans hg14, by simp only; omega, by simp only; have := insM_len L x; omega, hstep⟩ (by simp only; omega)) ⟨rfl, rfl, rfl, rfl, trivial⟩
              · refine DL.op rfl (.free rfl) rfl rfl (Does.slice1 u51 i50 rfl rfl rfl rfl rfl) ?_
                rintro _ v2 ⟨b2, rfl, hn2⟩
                refine ⟨(Mod.drew _ _).trans hn2.grow, ?_⟩
                refine DL.op rfl (.free rfl) rfl rfl (Does.append u51 i50 rfl rfl rfl rfl rfl (Row.nil _ _ _) (hhi _ (hgd.trans hn2.grow)) (allOne_mts _) (by omega)) ?_
                rintro u1 v1 ⟨hr1, hm1, hu1⟩
                have hg1' : Grow v2 v1 := hm1.mono (fun b _ e => by simp [Value.ownBlock] at e)
                have hg1 : Grow w9.drew v1 := hn2.grow.trans hg1'
                refine ⟨(Mod.drew _ _).trans hg1, ?_⟩
                refine DL.op rfl (.free rfl) rfl rfl (Does.append u51 i50 rfl rfl rfl rfl rfl (hr1) ((Sl.new hn2 3 1 rfl (by omega) (fun h => h)).mod hg1') (rfl) (by omega)) ?_
                rintro u3 v3 ⟨hr3, hm3, hu3⟩
                have hf1 : Fresh w9.drew.heap.size u1 := fun b e => by
                    have h2 := hn2.size
                    rcases hu1 with h | h <;> rw [h] at e
                    · simp [Value.ownBlock] at e
                    · cases e; omega
                have hf3 : Fresh w9.drew.heap.size u3 := fun b e => by
                    have h1 := hg1.size
                    rcases hu3 with h | h <;> rw [h] at e
                    · exact hf1 b e
                    · cases e; omega
                have hg13 : Grow w9.drew v3 := hg1.then hm3 (fun b hb e => by have := hf1 b e; omega)
                refine ⟨(Mod.drew _ _).trans hg13, ?_⟩
                refine DL.op rfl (.free rfl) rfl rfl (Does.append u51 i50 rfl rfl rfl rfl rfl (hr3) (hlo _ (hgd.trans hg13)) (allOne_mts _) (by omega)) ?_
                rintro u4 v4 ⟨hr4, hm4, hu4⟩
                have hg14 : Grow w9.drew v4 := hg13.then hm4 (fun b hb e => by have := hf3 b e; omega)
                have hf4 : Fresh w.heap.size u4 := fun b e => by
                    have h1 := hg13.size; have h2 := (hg.trans hgd).size
                    rcases hu4 with h | h <;> rw [h] at e
                    · have := hf3 b e; omega
                    · cases e; omega
                refine ⟨(Mod.drew _ _).trans hg14, ?_⟩
                have hfin : insM L x = L.take j ++ x :: L.drop j := by unfold insM; rw [if_neg (by rw [hpos]; exact hne), insE, hpos]
                refine DL.p rfl rfl rfl ?_
                refine DL.done ?_
                refine RK.inBlock ?_
                refine RK.region ?_
                iterate 2 refine RL.p rfl rfl ?_
                refine RL.re (d := 19) rfl rfl (succ_i64 (by omega)) ?_
                refine RL.p rfl rfl ?_
                refine RL.done ?_
                exact RK.back (ih (i + 1, insM L x, u4) _ ⟨laidF (f := mtC) (x := x) rfl hj hfin hr4, hf4, (hg.trans hgd).trans hg14, by simp only; omega, by simp only; have := insM_len L x; omega, hstep⟩ (by simp only; omega)) ⟨rfl, rfl, rfl, rfl, trivial⟩
          · have hne : ¬ (0 < j ∧ L[j - 1]? = some x) := fun h => by omega
            obtain ⟨w9, hw9⟩ : ∃ w9, w9 = w3.drew := ⟨_, rfl⟩
            rw [← hw9]
            have hgr : Grow w8 w9 := by rw [hw9]; exact hg4.trans (Mod.drew _ _)
            have hB9 := hb7.mod hgr (fun h => h)
            have hg : Grow w w8 := hg0.trans hg8
            have hgd : Grow w8 w9.drew := hgr.trans (Mod.drew _ _)
            iterate 7 refine DL.no rfl (.no rfl rfl rfl rfl) rfl rfl ?_
            refine DL.p rfl rfl rfl ?_
            refine DL.done ?_
            refine RK.condF rfl ?_
            refine RK.skip ?_
            refine RK.drawF No [(0, false), (1, false), (2, false), (4, false), (7, false), (8, false), (9, false)] 3 5 [(5, true), (6, true), (10, true), (11, false)] [(3, true), (6, true), (10, true), (11, false)] [] mixed (by kernel_rfl) ?_
            iterate 2 refine DL.p rfl rfl rfl ?_
            refine DL.qf rfl (.free rfl) rfl rfl (Yld.sliceHi u51 i50 (m := j) rfl rfl (by omega)) ?_
            refine DL.q rfl (.free rfl) rfl rfl rfl (Yld.loadN (cs := mtC x) a50 rfl (atNM (blk0' hB9) (fun h => h))) (Mod.drew _ _) ?_
            iterate 2 refine DL.p rfl rfl rfl ?_
            refine DL.qf rfl (.free rfl) rfl rfl (Yld.sliceFrom u51 i50 (m := j) rfl rfl hj) ?_
            refine DL.fork ?_ ?_
            · refine DL.op rfl (.free rfl) rfl rfl (Does.append u51 i50 rfl rfl rfl rfl rfl (Row.nil _ _ _) (hhi _ hgd) (allOne_mts _) (by omega)) ?_
              rintro u1 v1 ⟨hr1, hm1, hu1⟩
              have hg1 : Grow w9.drew v1 := hm1.mono (fun b _ e => by simp [Value.ownBlock] at e)
              refine ⟨(Mod.drew _ _).trans hg1, ?_⟩
              refine DL.op rfl (.free rfl) rfl rfl (Does.slice1 u51 i50 rfl rfl rfl rfl rfl) ?_
              rintro _ v2 ⟨b2, rfl, hn2⟩
              refine ⟨((Mod.drew _ _).trans hg1).trans hn2.grow, ?_⟩
              refine DL.op rfl (.free rfl) rfl rfl (Does.append u51 i50 rfl rfl rfl rfl rfl (hr1.mod hn2.grow (fun _ _ h => h)) (Sl.new hn2 3 1 rfl (by omega) (fun h => h)) (rfl) (by omega)) ?_
              rintro u3 v3 ⟨hr3, hm3, hu3⟩
              have hf1 : Fresh w9.drew.heap.size u1 := fun b e => by
                  rcases hu1 with h | h <;> rw [h] at e
                  · simp [Value.ownBlock] at e
                  · cases e; omega
              have hf3 : Fresh w9.drew.heap.size u3 := fun b e => by
                  have h1 := hg1.size; have h2 := hn2.size
                  rcases hu3 with h | h <;> rw [h] at e
                  · exact hf1 b e
                  · cases e; omega
              have hg13 : Grow w9.drew v3 := (hg1.trans hn2.grow).then hm3 (fun b hb e => by have := hf1 b e; omega)
              refine ⟨(Mod.drew _ _).trans hg13, ?_⟩
              refine DL.op rfl (.free rfl) rfl rfl (Does.append u51 i50 rfl rfl rfl rfl rfl (hr3) (hlo _ (hgd.trans hg13)) (allOne_mts _) (by omega)) ?_
              rintro u4 v4 ⟨hr4, hm4, hu4⟩
              have hg14 : Grow w9.drew v4 := hg13.then hm4 (fun b hb e => by have := hf3 b e; omega)
              have hf4 : Fresh w.heap.size u4 := fun b e => by
                  have h1 := hg13.size; have h2 := (hg.trans hgd).size
                  rcases hu4 with h | h <;> rw [h] at e
                  · have := hf3 b e; omega
                  · cases e; omega
              refine ⟨(Mod.drew _ _).trans hg14, ?_⟩
              have hfin : insM L x = L.take j ++ x :: L.drop j := by unfold insM; rw [if_neg (by rw [hpos]; exact hne), insE, hpos]
              refine DL.p rfl rfl rfl ?_
              refine DL.done ?_
              refine RK.inBlock ?_
              refine RK.region ?_
              iterate 2 refine RL.p rfl rfl ?_
              refine RL.re (d := 19) rfl rfl (succ_i64 (by omega)) ?_
              refine RL.p rfl rfl ?_
              refine RL.done ?_
              exact RK.back (ih (i + 1, insM L x, u4) _ ⟨laidF (f := mtC) (x := x) rfl hj hfin hr4, hf4, (hg.trans hgd).trans hg14, by simp only; omega, by simp only; have := insM_len L x; omega, hstep⟩ (by simp only; omega)) ⟨rfl, rfl, rfl, rfl, trivial⟩
            · refine DL.op rfl (.free rfl) rfl rfl (Does.slice1 u51 i50 rfl rfl rfl rfl rfl) ?_
              rintro _ v2 ⟨b2, rfl, hn2⟩
              refine ⟨(Mod.drew _ _).trans hn2.grow, ?_⟩
              refine DL.op rfl (.free rfl) rfl rfl (Does.append u51 i50 rfl rfl rfl rfl rfl (Row.nil _ _ _) (hhi _ (hgd.trans hn2.grow)) (allOne_mts _) (by omega)) ?_
              rintro u1 v1 ⟨hr1, hm1, hu1⟩
              have hg1' : Grow v2 v1 := hm1.mono (fun b _ e => by simp [Value.ownBlock] at e)
              have hg1 : Grow w9.drew v1 := hn2.grow.trans hg1'
              refine ⟨(Mod.drew _ _).trans hg1, ?_⟩
              refine DL.op rfl (.free rfl) rfl rfl (Does.append u51 i50 rfl rfl rfl rfl rfl (hr1) ((Sl.new hn2 3 1 rfl (by omega) (fun h => h)).mod hg1') (rfl) (by omega)) ?_
              rintro u3 v3 ⟨hr3, hm3, hu3⟩
              have hf1 : Fresh w9.drew.heap.size u1 := fun b e => by
                  have h2 := hn2.size
                  rcases hu1 with h | h <;> rw [h] at e
                  · simp [Value.ownBlock] at e
                  · cases e; omega
              have hf3 : Fresh w9.drew.heap.size u3 := fun b e => by
                  have h1 := hg1.size
                  rcases hu3 with h | h <;> rw [h] at e
                  · exact hf1 b e
                  · cases e; omega
              have hg13 : Grow w9.drew v3 := hg1.then hm3 (fun b hb e => by have := hf1 b e; omega)
              refine ⟨(Mod.drew _ _).trans hg13, ?_⟩
              refine DL.op rfl (.free rfl) rfl rfl (Does.append u51 i50 rfl rfl rfl rfl rfl (hr3) (hlo _ (hgd.trans hg13)) (allOne_mts _) (by omega)) ?_
              rintro u4 v4 ⟨hr4, hm4, hu4⟩
              have hg14 : Grow w9.drew v4 := hg13.then hm4 (fun b hb e => by have := hf3 b e; omega)
              have hf4 : Fresh w.heap.size u4 := fun b e => by
                  have h1 := hg13.size; have h2 := (hg.trans hgd).size
                  rcases hu4 with h | h <;> rw [h] at e
                  · have := hf3 b e; omega
                  · cases e; omega
              refine ⟨(Mod.drew _ _).trans hg14, ?_⟩
              have hfin : insM L x = L.take j ++ x :: L.drop j := by unfold insM; rw [if_neg (by rw [hpos]; exact hne), insE, hpos]
              refine DL.p rfl rfl rfl ?_
              refine DL.done ?_
              refine RK.inBlock ?_
              refine RK.region ?_
              iterate 2 refine RL.p rfl rfl ?_
              refine RL.re (d := 19) rfl rfl (succ_i64 (by omega)) ?_
              refine RL.p rfl rfl ?_
              refine RL.done ?_
              exact RK.back (ih (i + 1, insM L x, u4) _ ⟨laidF (f := mtC) (x := x) rfl hj hfin hr4, hf4, (hg.trans hgd).trans hg14, by simp only; omega, by simp only; have := insM_len L x; omega, hstep⟩ (by simp only; omega)) ⟨rfl, rfl, rfl, rfl, trivial⟩
      · have hpos : pos aheadM x L = j := pos_splitG hj hD (fun z h0 _ => by omega)
        have hne : ¬ (0 < j ∧ L[j - 1]? = some x) := fun h => by omega
        iterate 6 refine DL.no rfl (.no rfl rfl rfl rfl) rfl rfl ?_
        refine DL.lno rfl (.no rfl rfl rfl rfl) rfl rfl ?_
        refine DL.p rfl rfl rfl ?_
        refine DL.done ?_
        refine RK.condF rfl ?_
        refine RK.exit rfl ?_
        iterate 2 refine RK.seq ?_
        refine RK.drawM No [(0, false), (1, false), (2, false), (3, false), (4, false), (5, false), (6, false), (7, false), (8, false), (9, false), (10, false)] [] mixed (by kernel_rfl) ?_
        iterate 3 refine DL.p rfl rfl rfl ?_
        refine DL.knownF (d := 42) rfl rfl (decide_eq_false (by omega)) ?_
        iterate 7 refine DL.no rfl (.no rfl rfl rfl rfl) rfl rfl ?_
        refine DL.p rfl rfl rfl ?_
        refine DL.done ?_
        obtain ⟨w9, hw9⟩ : ∃ w9, w9 = w2.drew.drew := ⟨_, rfl⟩
        rw [← hw9]
        have hgr : Grow w8 w9 := by rw [hw9]; exact (hg2.trans (Mod.drew _ _)).trans (Mod.drew _ _)
        have hB9 := hb7.mod hgr (fun h => h)
        have hg : Grow w w8 := hg0.trans hg8
        have hgd : Grow w8 w9.drew := hgr.trans (Mod.drew _ _)
        refine RK.condF rfl ?_
        refine RK.skip ?_
        refine RK.drawF No [(0, false), (1, false), (2, false), (4, false), (7, false), (8, false), (9, false)] 3 5 [(5, true), (6, true), (10, true), (11, false)] [(3, true), (6, true), (10, true), (11, false)] [] mixed (by kernel_rfl) ?_
        iterate 2 refine DL.p rfl rfl rfl ?_
        refine DL.qf rfl (.free rfl) rfl rfl (Yld.sliceHi u51 i50 (m := j) rfl rfl (by omega)) ?_
        refine DL.q rfl (.free rfl) rfl rfl rfl (Yld.loadN (cs := mtC x) a50 rfl (atNM (blk0' hB9) (fun h => h))) (Mod.drew _ _) ?_
        iterate 2 refine DL.p rfl rfl rfl ?_
        refine DL.qf rfl (.free rfl) rfl rfl (Yld.sliceFrom u51 i50 (m := j) rfl rfl hj) ?_
        refine DL.fork ?_ ?_
        · refine DL.op rfl (.free rfl) rfl rfl (Does.append u51 i50 rfl rfl rfl rfl rfl (Row.nil _ _ _) (hhi _ hgd) (allOne_mts _) (by omega)) ?_
          rintro u1 v1 ⟨hr1, hm1, hu1⟩
          have hg1 : Grow w9.drew v1 := hm1.mono (fun b _ e => by simp [Value.ownBlock] at e)
          refine ⟨(Mod.drew _ _).trans hg1, ?_⟩
          refine DL.op rfl (.free rfl) rfl rfl (Does.slice1 u51 i50 rfl rfl rfl rfl rfl) ?_
          rintro _ v2 ⟨b2, rfl, hn2⟩
          refine ⟨((Mod.drew _ _).trans hg1).trans hn2.grow, ?_⟩
          refine DL.op rfl (.free rfl) rfl rfl (Does.append u51 i50 rfl rfl rfl rfl rfl (hr1.mod hn2.grow (fun _ _ h => h)) (Sl.new hn2 3 1 rfl (by omega) (fun h => h)) (rfl) (by omega)) ?_
          rintro u3 v3 ⟨hr3, hm3, hu3⟩
          have hf1 : Fresh w9.drew.heap.size u1 := fun b e => by
              rcases hu1 with h | h <;> rw [h] at e
              · simp [Value.ownBlock] at e
              · cases e; omega
          have hf3 : Fresh w9.drew.heap.size u3 := fun b e => by
              have h1 := hg1.size; have h2 := hn2.size
              rcases hu3 with h | h <;> rw [h] at e
              · exact hf1 b e
              · cases e; omega
          have hg13 : Grow w9.drew v3 := (hg1.trans hn2.grow).then hm3 (fun b hb e => by have := hf1 b e; omega)
          refine ⟨(Mod.drew _ _).trans hg13, ?_⟩
          refine DL.op rfl (.free rfl) rfl rfl (Does.append u51 i50 rfl rfl rfl rfl rfl (hr3) (hlo _ (hgd.trans hg13)) (allOne_mts _) (by omega)) ?_
          rintro u4 v4 ⟨hr4, hm4, hu4⟩
          have hg14 : Grow w9.drew v4 := hg13.then hm4 (fun b hb e => by have := hf3 b e; omega)
          have hf4 : Fresh w.heap.size u4 := fun b e => by
              have h1 := hg13.size; have h2 := (hg.trans hgd).size
              rcases hu4 with h | h <;> rw [h] at e
              · have := hf3 b e; omega
              · cases e; omega
          refine ⟨(Mod.drew _ _).trans hg14, ?_⟩
          have hfin : insM L x = L.take j ++ x :: L.drop j := by unfold insM; rw [if_neg (by rw [hpos]; exact hne), insE, hpos]
          refine DL.p rfl rfl rfl ?_
          refine DL.done ?_
          refine RK.inBlock ?_
          refine RK.region ?_
          iterate 2 refine RL.p rfl rfl ?_
          refine RL.re (d := 19) rfl rfl (succ_i64 (by omega)) ?_
          refine RL.p rfl rfl ?_
          refine RL.done ?_
          exact RK.back (ih (i + 1, insM L x, u4) _ ⟨laidF (f := mtC) (x := x) rfl hj hfin hr4, hf4, (hg.trans hgd).trans hg14, by simp only; omega, by simp only; have := insM_len L x; omega, hstep⟩ (by simp only; omega)) ⟨rfl, rfl, rfl, rfl, trivial⟩
        · refine DL.op rfl (.free rfl) rfl rfl (Does.slice1 u51 i50 rfl rfl rfl rfl rfl) ?_
          rintro _ v2 ⟨b2, rfl, hn2⟩
          refine ⟨(Mod.drew _ _).trans hn2.grow, ?_⟩
          refine DL.op rfl (.free rfl) rfl rfl (Does.append u51 i50 rfl rfl rfl rfl rfl (Row.nil _ _ _) (hhi _ (hgd.trans hn2.grow)) (allOne_mts _) (by omega)) ?_
          rintro u1 v1 ⟨hr1, hm1, hu1⟩
          have hg1' : Grow v2 v1 := hm1.mono (fun b _ e => by simp [Value.ownBlock] at e)
          have hg1 : Grow w9.drew v1 := hn2.grow.trans hg1'
          refine ⟨(Mod.drew _ _).trans hg1, ?_⟩
          refine DL.op rfl (.free rfl) rfl rfl (Does.append u51 i50 rfl rfl rfl rfl rfl (hr1) ((Sl.new hn2 3 1 rfl (by omega) (fun h => h)).mod hg1') (rfl) (by omega)) ?_
          rintro u3 v3 ⟨hr3, hm3, hu3⟩
          have hf1 : Fresh w9.drew.heap.size u1 := fun b e => by
              have h2 := hn2.size
              rcases hu1 with h | h <;> rw [h] at e
              · simp [Value.ownBlock] at e
              · cases e; omega
          have hf3 : Fresh w9.drew.heap.size u3 := fun b e => by
              have h1 := hg1.size
              rcases hu3 with h | h <;> rw [h] at e
              · exact hf1 b e
              · cases e; omega
          have hg13 : Grow w9.drew v3 := hg1.then hm3 (fun b hb e => by have := hf1 b e; omega)
          refine ⟨(Mod.drew _ _).trans hg13, ?_⟩
          refine DL.op rfl (.free rfl) rfl rfl (Does.append u51 i50 rfl rfl rfl rfl rfl (hr3) (hlo _ (hgd.trans hg13)) (allOne_mts _) (by omega)) ?_
          rintro u4 v4 ⟨hr4, hm4, hu4⟩
          have hg14 : Grow w9.drew v4 := hg13.then hm4 (fun b hb e => by have := hf3 b e; omega)
          have hf4 : Fresh w.heap.size u4 := fun b e => by
              have h1 := hg13.size; have h2 := (hg.trans hgd).size
              rcases hu4 with h | h <;> rw [h] at e
              · have := hf3 b e; omega
              · cases e; omega
          refine ⟨(Mod.drew _ _).trans hg14, ?_⟩
          have hfin : insM L x = L.take j ++ x :: L.drop j := by unfold insM; rw [if_neg (by rw [hpos]; exact hne), insE, hpos]
          refine DL.p rfl rfl rfl ?_
          refine DL.done ?_
          refine RK.inBlock ?_
          refine RK.region ?_
          iterate 2 refine RL.p rfl rfl ?_
          refine RL.re (d := 19) rfl rfl (succ_i64 (by omega)) ?_
          refine RL.p rfl rfl ?_
          refine RL.done ?_
          exact RK.back (ih (i + 1, insM L x, u4) _ ⟨laidF (f := mtC) (x := x) rfl hj hfin hr4, hf4, (hg.trans hgd).trans hg14, by simp only; omega, by simp only; have := insM_len L x; omega, hstep⟩ (by simp only; omega)) ⟨rfl, rfl, rfl, rfl, trivial⟩
    · have hm : matF ds [] = L := by
          rw [← hst]
          cases hc : ds.drop i with
          | nil => rfl
          | cons d l => simp only [matF]; rw [if_neg (by omega)]
      refine RK.exit rfl ?_
      iterate 2 refine RK.seq ?_
      refine RK.region ?_
      iterate 2 refine RL.p rfl rfl ?_
      first | refine RL.splitD (d := 63) rfl rfl (fun h63 => ?_) (fun h63 => ?_) | refine RL.splitN (d := 63) rfl rfl (fun h63 => ?_) (fun h63 => ?_) | refine RL.split (d := 63) rfl rfl (fun h63 => ?_) (fun h63 => ?_)
      · refine RL.q (.yes rfl rfl rfl) rfl rfl (Yld.pure rfl) ?_
        refine RL.q (.yes rfl rfl rfl) rfl rfl (Yld.lenSl u51 rfl) ?_
        refine RL.q (.yes rfl rfl rfl) rfl rfl (Yld.pure rfl) ?_
        refine RL.p rfl rfl ?_
        refine RL.done ?_
        first | refine RK.condD rfl (fun h66 => ?_) (fun h66 => ?_) | refine RK.condN rfl (fun h66 => ?_) (fun h66 => ?_) | refine RK.cond rfl (fun h66 => ?_) (fun h66 => ?_)
        · have hnil : L = [] := List.length_eq_zero_iff.1 (by omega)
          subst hnil
          refine RK.region ?_
          refine RL.p rfl rfl ?_
          refine RL.q (.free rfl) rfl rfl (Yld.build (v := .agg (mtC sevM).toArray) rfl (fun w => by kernel_rfl)) ?_
          refine RL.op (.free rfl) rfl rfl (Does.slice1 u51 i50 rfl rfl rfl rfl rfl) ?_
          rintro _ v9 ⟨b9, rfl, hn9⟩
          refine RL.op (.free rfl) rfl rfl (Does.append u51 i50 rfl rfl rfl rfl rfl (hr.mod hn9.grow (fun _ _ h => h)) (Sl.new hn9 3 1 rfl (by omega) (fun h => h)) (rfl) (by omega)) ?_
          rintro u5 w5 ⟨hr5, hm5, hu5⟩
          have hres : matsS ds must = [sevM] := by unfold matsS; rw [if_pos ⟨h63, hm⟩]
          have hs0 := hg0.size
          refine RL.p rfl rfl ?_
          refine RL.done ?_
          refine RK.seq ?_
          refine RK.region ?_
          iterate 2 refine RL.p rfl rfl ?_
          refine RL.done ?_
          refine RK.ret_of Tryz.func46 (res1 rfl rfl) ?_ _
          exact ⟨_, rfl, by rw [hres]; exact hr5, fun b e => by
              rcases hu5 with h1 | h1
              · exact hfr b (h1 ▸ e)
              · rw [h1] at e; cases e; have := hn9.grow.size; omega, (hg0.trans hn9.grow).then hm5 (fun b hb e => by have := hfr b e; omega)⟩
        · have hres : matsS ds must = L := by unfold matsS; rw [if_neg (fun h => by rw [hm] at h; rw [h.2] at h66; exact h66 rfl)]; exact hm
          refine RK.skip ?_
          refine RK.seq ?_
          refine RK.region ?_
          iterate 2 refine RL.p rfl rfl ?_
          refine RL.done ?_
          refine RK.ret_of Tryz.func46 (res1 rfl rfl) ?_ _
          exact ⟨_, rfl, by rw [hres]; exact hr, hfr, hg0⟩
      · have hres : matsS ds must = L := by unfold matsS; rw [if_neg (fun h => by rw [h63] at h; cases h.1)]; exact hm
        iterate 3 refine RL.no (.no rfl rfl rfl rfl) rfl rfl ?_
        refine RL.p rfl rfl ?_
        refine RL.done ?_
        refine RK.condF rfl ?_
        refine RK.skip ?_
        refine RK.seq ?_
        refine RK.region ?_
        iterate 2 refine RL.p rfl rfl ?_
        refine RL.done ?_
        refine RK.ret_of Tryz.func46 (res1 rfl rfl) ?_ _
        exact ⟨_, rfl, by rw [hres]; exact hr, hfr, hg0⟩
  · have hm : matF ds [] = L := by rw [← hst, List.drop_eq_nil_of_le (by omega)]; rfl
    iterate 3 refine RL.no (.no rfl rfl rfl rfl) rfl rfl ?_
    refine RL.p rfl rfl ?_
    refine RL.done ?_
    refine RK.condF rfl ?_
    refine RK.exit rfl ?_
    iterate 2 refine RK.seq ?_
    refine RK.region ?_
    iterate 2 refine RL.p rfl rfl ?_
    first | refine RL.splitD (d := 63) rfl rfl (fun h63 => ?_) (fun h63 => ?_) | refine RL.splitN (d := 63) rfl rfl (fun h63 => ?_) (fun h63 => ?_) | refine RL.split (d := 63) rfl rfl (fun h63 => ?_) (fun h63 => ?_)
    · refine RL.q (.yes rfl rfl rfl) rfl rfl (Yld.pure rfl) ?_
      refine RL.q (.yes rfl rfl rfl) rfl rfl (Yld.lenSl u51 rfl) ?_
      refine RL.q (.yes rfl rfl rfl) rfl rfl (Yld.pure rfl) ?_
      refine RL.p rfl rfl ?_
      refine RL.done ?_
      first | refine RK.condD rfl (fun h66 => ?_) (fun h66 => ?_) | refine RK.condN rfl (fun h66 => ?_) (fun h66 => ?_) | refine RK.cond rfl (fun h66 => ?_) (fun h66 => ?_)
      · have hnil : L = [] := List.length_eq_zero_iff.1 (by omega)
        subst hnil
        refine RK.region ?_
        refine RL.p rfl rfl ?_
        refine RL.q (.free rfl) rfl rfl (Yld.build (v := .agg (mtC sevM).toArray) rfl (fun w => by kernel_rfl)) ?_
        refine RL.op (.free rfl) rfl rfl (Does.slice1 u51 i50 rfl rfl rfl rfl rfl) ?_
        rintro _ v9 ⟨b9, rfl, hn9⟩
        refine RL.op (.free rfl) rfl rfl (Does.append u51 i50 rfl rfl rfl rfl rfl (hr.mod hn9.grow (fun _ _ h => h)) (Sl.new hn9 3 1 rfl (by omega) (fun h => h)) (rfl) (by omega)) ?_
        rintro u5 w5 ⟨hr5, hm5, hu5⟩
        have hres : matsS ds must = [sevM] := by unfold matsS; rw [if_pos ⟨h63, hm⟩]
        have hs0 := hg0.size
        refine RL.p rfl rfl ?_
        refine RL.done ?_
        refine RK.seq ?_
        refine RK.region ?_
        iterate 2 refine RL.p rfl rfl ?_
        refine RL.done ?_
        refine RK.ret_of Tryz.func46 (res1 rfl rfl) ?_ _
        exact ⟨_, rfl, by rw [hres]; exact hr5, fun b e => by
            rcases hu5 with h1 | h1
            · exact hfr b (h1 ▸ e)
            · rw [h1] at e; cases e; have := hn9.grow.size; omega, (hg0.trans hn9.grow).then hm5 (fun b hb e => by have := hfr b e; omega)⟩
      · have hres : matsS ds must = L := by unfold matsS; rw [if_neg (fun h => by rw [hm] at h; rw [h.2] at h66; exact h66 rfl)]; exact hm
        refine RK.skip ?_
        refine RK.seq ?_
        refine RK.region ?_
        iterate 2 refine RL.p rfl rfl ?_
        refine RL.done ?_
        refine RK.ret_of Tryz.func46 (res1 rfl rfl) ?_ _
        exact ⟨_, rfl, by rw [hres]; exact hr, hfr, hg0⟩
    · have hres : matsS ds must = L := by unfold matsS; rw [if_neg (fun h => by rw [h63] at h; cases h.1)]; exact hm
      iterate 3 refine RL.no (.no rfl rfl rfl rfl) rfl rfl ?_
      refine RL.p rfl rfl ?_
      refine RL.done ?_
      refine RK.condF rfl ?_
      refine RK.skip ?_
      refine RK.seq ?_
      refine RK.region ?_
      iterate 2 refine RL.p rfl rfl ?_
      refine RL.done ?_
      refine RK.ret_of Tryz.func46 (res1 rfl rfl) ?_ _
      exact ⟨_, rfl, by rw [hres]; exact hr, hfr, hg0⟩
end Go.Proofs.YtffbcfcoddacmaaGreat
set_option linter.unusedVariables false
set_option linter.unusedSimpArgs false
set_option maxHeartbeats 1000000
set_option maxRecDepth 100000
namespace Go.Proofs.YtffbcfcoddacmaaGreat
open Go Go.X
structure Sp where
  drop : Bool
  id : Int
  labs : List Int
  v : Value
def spC (x : Sp) : List Value := [.bool x.drop, .int .i64 x.id, x.v]
theorem spC_len (x : Sp) : (spC x).length = 3 := rfl
def Sp.Ok (w : World) (x : Sp) : Prop := Sl No w x.v 1 x.labs.length (ints x.labs) ∧ (∀ n ∈ x.labs, -9223372036854775808 ≤ n ∧ n ≤ 9223372036854775807) ∧ -9223372036854775808 ≤ x.id ∧ x.id ≤ 9223372036854775807
def whereI (l : List AlS) (id : Int) : Option Nat := l.findIdx? fun a => decide (a.1 = id)
def stepP (l : List AlS) (d : Bool) (id : Int) (ls : List Lab) : List AlS :=
  match whereI l id with
  | none => if d then l else l ++ [(id, ls, 0)]
  | some i => if d then l.eraseIdx i else l
structure BJ (w0 w : World) (ix : Nat) (M : Nat → Prop) (rows : List (LabK × List Int)) (v : Value) (al : List Al) : Prop where
  im : IM M (fun b => v.ownBlock = some b) w ix (hasOf (al.map pub)) rows
  row : Row w 32 3 v al.length (al.flatMap alC)
  sls : ∀ a ∈ al, SlL (fun b => M b ∨ v.ownBlock = some b) w a.v a.ls
  baseM : ∀ b, M b → w0.heap.size ≤ b
  baseV : Fresh w0.heap.size v
  grow : Grow w0 w
theorem where_look {l : List AlS} {id : Int} : (whereI l id).isSome = (lookM (hasOf l) id).isSome := by
  unfold whereI hasOf
  induction l with
  | nil => rfl
  | cons a l ih =>
    rw [List.map_cons, lookM_cons, List.findIdx?_cons]
    by_cases h : a.1 = id
    · simp [h]
    · rw [if_neg (Ne.symm h)]
      simp [h, ih]
theorem where_at {l : List AlS} {id : Int} {i : Nat} {a : AlS} (hn : (l.map (·.1)).Nodup) (ha : l[i]? = some a) (he : a.1 = id) : whereI l id = some i := by
  unfold whereI
  obtain ⟨hi, e⟩ := List.getElem?_eq_some_iff.1 ha
  rw [List.findIdx?_eq_some_iff_getElem]
  refine ⟨hi, by simp [e, he], fun j hj => ?_⟩
  simp only [decide_eq_true_eq]
  intro e2
  have h1 : (l.map (·.1))[i]'(by simpa using hi) = (l.map (·.1))[j]'(by simp; omega) := by simp [e, he, e2]
  have := (List.getElem_inj hn).1 h1
  omega
theorem where_none {l : List AlS} {id : Int} (h : ∀ (i : Nat) (a : AlS), l[i]? = some a → a.1 ≠ id) : whereI l id = none := by
  unfold whereI
  rw [List.findIdx?_eq_none_iff]
  intro x hx
  obtain ⟨i, hi⟩ := List.getElem?_of_mem hx
  simpa using h i x hi
theorem hasOf_keys (l : List AlS) : (hasOf l).map (·.1) = l.map (·.1) := by simp [hasOf, List.map_map]
theorem hasOf_erase {l : List AlS} {id : Int} {i : Nat} (hn : (l.map (·.1)).Nodup) (hw : whereI l id = some i) : cutM (hasOf l) id = hasOf (l.eraseIdx i) := by
  unfold whereI at hw
  obtain ⟨hi, h2, _⟩ := List.findIdx?_eq_some_iff_getElem.1 hw
  have hp : placeM id (hasOf l) = some (i, l[i].2.1) := placeM_at (by rw [hasOf_keys]; exact hn) (by
    unfold hasOf
    rw [List.getElem?_map, List.getElem?_eq_getElem hi]
    simp only [Option.map_some]
    rw [show l[i].1 = id by simpa using h2])
  unfold cutM
  rw [hp]
  simp only [hasOf]
  rw [map_eraseIdx']
theorem cut_none {l : List AlS} {id : Int} (hw : whereI l id = none) : cutM (hasOf l) id = hasOf l := by
  have h1 := where_look (l := l) (id := id)
  rw [hw] at h1
  have h2 : lookM (hasOf l) id = none := by cases h : lookM (hasOf l) id with | none => rfl | some x => rw [h] at h1; cases h1
  have : placeM id (hasOf l) = none := by unfold lookM at h2; exact Option.map_eq_none_iff.1 h2
  unfold cutM; rw [this]
end Go.Proofs.YtffbcfcoddacmaaGreat
set_option linter.unusedVariables false
set_option linter.unusedSimpArgs false
set_option maxHeartbeats 2000000
set_option maxRecDepth 100000
namespace Go.Proofs.YtffbcfcoddacmaaGreat
open Go Go.X
theorem bstep_ok (w0 w : World) (ix : Nat) (M : Nat → Prop) (rows : List (LabK × List Int)) (v : Value) (al : List Al) (h : BJ w0 w ix M rows v al) (hlen : al.length ≤ 900) (B : Nat) (hB : B ≤ 5994) (hbd : ∀ t ∈ rows, t.2.length ≤ B) (x : Sp) (hx : x.Ok w) :
    Fx Tryz.prog 96 [pp ix, v, .agg #[.bool x.drop, .int .i64 x.id, x.v]] w (fun u w' => ∃ v' al' rows', u = .tuple #[v', .bool true] ∧ BJ w0 w' ix M rows' v' al' ∧ al'.map pub = stepP (al.map pub) x.drop x.id (labelsS x.labs) ∧ ∀ t ∈ rows', t.2.length ≤ B + 6) := by
  obtain ⟨d, id, labs, xv⟩ := x
  obtain ⟨hx1, hx2, hx3⟩ := hx
  simp only at hx1 hx2 hx3
  obtain ⟨adx, cx, rfl⟩ := hx1.shape
  have hn : ((al.map pub).map (·.1)).Nodup := by have := h.im.inv.nd; rwa [hasOf_keys] at this
  have hsl := Sl.own (M := No) h.row (fun _ _ h => h)
  have hsh : ∀ a ∈ al, ∃ ad n c, a.v = .slice ad n c := fun a ha => by obtain ⟨ad, c, e⟩ := (h.sls a ha).shape; exact ⟨ad, _, c, e⟩
  obtain ⟨ad, c, rfl, hlc⟩ := h.row.cap
  obtain ⟨L, hL⟩ : ∃ L, al.map pub = L := ⟨_, rfl⟩
  have hLget : ∀ i, L[i]? = (al[i]?).map pub := fun i => by rw [← hL, List.getElem?_map]
  have hLlen : L.length = al.length := by rw [← hL]; simp
  obtain ⟨zw, hzw⟩ : ∃ zw, whereI L id = zw := ⟨_, rfl⟩
  have him := h.im
  rw [hL] at him hn ⊢
  have hlk : (lookM (hasOf L) id).isSome = zw.isSome := by rw [← where_look, hzw]
  refine enter Tryz.func96 rfl rfl rfl _ (Pick.sub (l := [0, 1, 2]) (.cons rfl (.cons rfl (.cons rfl .nil)))) ?_
  refine RK.seq ?_
  refine RK.region ?_
  refine RL.op (.free rfl) rfl rfl (Does.box rfl) ?_
  rintro _ w1 ⟨b5, rfl, hn5⟩
  iterate 2 refine RL.p rfl rfl ?_
  refine RL.done ?_
  refine RK.seq ?_
  refine RK.region ?_
  refine RL.p rfl rfl ?_
  refine RL.done ?_
  iterate 2 refine RK.seq ?_
  refine RK.region ?_
  refine RL.p rfl rfl ?_
  refine RL.done ?_
  refine RK.block ?_
  refine RK.loop (fun s : Nat × Int => [(0, pp ix), (1, .slice ad al.length c), (5, pp b5), (8, .int .i64 s.2), (9, .int .i64 (s.1 : Int))]) (fun s w' => Grow w1 w' ∧ s.1 ≤ al.length ∧ (s.2 = -1 ∧ (∀ (i : Nat) (a : Al), i < s.1 → al[i]? = some a → a.id ≠ id) ∨ ∃ (i : Nat) (a : Al), i < s.1 ∧ s.2 = (i : Int) ∧ al[i]? = some a ∧ a.id = id)) (fun s => al.length - s.1) (0, -1) ⟨rfl, rfl, rfl, rfl, rfl, trivial⟩ ⟨Mod.refl _ _, by simp, .inl ⟨rfl, fun i a h => by simp only at h; omega⟩⟩ (fun s w' hI ih => ?_)
  obtain ⟨k, z⟩ := s
  obtain ⟨hg1, hk, hz⟩ := hI
  simp only at hk hz
  have hg : Grow w w' := hn5.grow.trans hg1
  have hB5 := hn5.blk.mod hg1 (fun h => h)
  iterate 2 refine RK.seq ?_
  refine RK.region ?_
  iterate 2 refine RL.p rfl rfl ?_
  refine RL.q (.free rfl) rfl rfl (Yld.lenSl u58 rfl) ?_
  refine RL.p rfl rfl ?_
  refine RL.done ?_
  first | refine RK.condD rfl (fun h14 => ?_) (fun h14 => ?_) | refine RK.condN rfl (fun h14 => ?_) (fun h14 => ?_) | refine RK.cond rfl (fun h14 => ?_) (fun h14 => ?_)
  · obtain ⟨a, ha⟩ : ∃ a, al[k]? = some a := ⟨al[k]'(by omega), List.getElem?_eq_getElem (by omega)⟩
    obtain ⟨b1, o1, c1', he1, _, _, hc1⟩ := hsl.elem alC_len ha
    cases he1
    refine RK.skip ?_
    refine RK.seq ?_
    refine RK.block ?_
    refine RK.seq ?_
    refine RK.drawM No [(0, false), (1, false), (2, false), (3, false), (4, false), (5, false), (6, false), (7, false)] [] mixed (by kernel_rfl) ?_
    iterate 2 refine DL.p rfl rfl rfl ?_
    refine DL.qf rfl (.free rfl) rfl rfl (Yld.indexAddrN u58 i32 rfl rfl (by omega)) ?_
    refine DL.qf rfl (.free rfl) rfl rfl (Yld.fieldAddr fo32_0 rfl) ?_
    refine DL.q rfl (.free rfl) rfl rfl rfl (Yld.load p3 rfl (atM (hg.cell (hc1 0 _ rfl) (fun h => h)) (fun h => h))) (Mod.drew _ _) ?_
    refine DL.qf rfl (.free rfl) rfl rfl (Yld.fieldAddr fo153_1 rfl) ?_
    refine DL.q rfl (.free rfl) rfl rfl rfl (Yld.load p3 rfl (atM (hB5.cell rfl) (fun h => h))) (Mod.drew _ _) ?_
    refine DL.p rfl rfl rfl ?_
    refine DL.done ?_
    first | refine RK.condD rfl (fun h24 => ?_) (fun h24 => ?_) | refine RK.condN rfl (fun h24 => ?_) (fun h24 => ?_) | refine RK.cond rfl (fun h24 => ?_) (fun h24 => ?_)
    · refine RK.region ?_
      iterate 2 refine RL.p rfl rfl ?_
      refine RL.done ?_
      refine RK.inBlock ?_
      refine RK.region ?_
      iterate 2 refine RL.p rfl rfl ?_
      refine RL.re (d := 16) rfl rfl (succ_i64 (by omega)) ?_
      refine RL.p rfl rfl ?_
      refine RL.done ?_
      exact RK.back (ih (k + 1, (k : Int)) _ ⟨hg1.trans (Mod.drew _ _), by simp only; omega, .inr ⟨k, a, by simp only; omega, rfl, ha, h24⟩⟩ (by simp only; omega)) ⟨rfl, rfl, rfl, rfl, rfl, trivial⟩
    · refine RK.skip ?_
      refine RK.inBlock ?_
      refine RK.region ?_
      iterate 2 refine RL.p rfl rfl ?_
      refine RL.re (d := 16) rfl rfl (succ_i64 (by omega)) ?_
      refine RL.p rfl rfl ?_
      refine RL.done ?_
      exact RK.back (ih (k + 1, z) _ ⟨hg1.trans (Mod.drew _ _), by simp only; omega, by
          rcases hz with ⟨h1, h2⟩ | ⟨i, a', h1, h2⟩
          · refine .inl ⟨h1, fun i a' hi ha' => ?_⟩
            by_cases e : i = k
            · subst e; rw [ha] at ha'; cases ha'; exact h24
            · exact h2 i a' (by simp only at hi; omega) ha'
          · exact .inr ⟨i, a', by simp only; omega, h2⟩⟩ (by simp only; omega)) ⟨rfl, rfl, rfl, rfl, rfl, trivial⟩
  · have hk' : k = al.length := by omega
    have hzz : z = optI zw := by
        rcases hz with ⟨h1, h2⟩ | ⟨i, a', h1, h2, h3, h4⟩
        · have : whereI L id = none := where_none fun i a hi e => by
            rw [hLget] at hi
            cases ha : al[i]? with
            | none => rw [ha] at hi; cases hi
            | some a' => rw [ha] at hi; cases hi; exact h2 i a' (by have := (List.getElem?_eq_some_iff.1 ha).1; omega) ha e
          rw [hzw] at this
          rw [h1, this]; rfl
        · have : whereI L id = some i := where_at (a := pub a') hn (by rw [hLget, h3]; rfl) h4
          rw [hzw] at this
          rw [h2, this]; rfl
    have hnn : decide (0 ≤ z) = zw.isSome := by
        rw [hzz]
        cases zw with
        | none => rfl
        | some i => exact decide_eq_true (show (0 : Int) ≤ (i : Int) by omega)
    have hneg : decide (z < 0) = zw.isNone := by
        rw [hzz]
        cases zw with
        | none => rfl
        | some i => exact decide_eq_false (show ¬ ((i : Int) < 0) by omega)
    have hk2 := him.grow hg
    refine RK.exit rfl ?_
    iterate 2 refine RK.seq ?_
    refine RK.region ?_
    refine RL.q (.free rfl) rfl rfl (Yld.fieldAddr fo153_0 rfl) ?_
    refine RL.q (.free rfl) rfl rfl (Yld.load p4 rfl (at1 (hB5.cell rfl))) ?_
    refine RL.done ?_
    first | refine RK.condD rfl (fun h27 => ?_) (fun h27 => ?_) | refine RK.condN rfl (fun h27 => ?_) (fun h27 => ?_) | refine RK.cond rfl (fun h27 => ?_) (fun h27 => ?_)
    · subst h27
      iterate 2 refine RK.seq ?_
      refine RK.region ?_
      refine RL.p rfl rfl ?_
      refine RL.q (.free rfl) rfl rfl (Yld.fieldAddr fo153_1 rfl) ?_
      refine RL.q (.free rfl) rfl rfl (Yld.load p3 rfl (at1 (hB5.cell rfl))) ?_
      refine RL.op (.free rfl) rfl rfl (Does.call rfl e52 (hk2.drop id)) ?_
      rintro _ w3 ⟨rfl, k3, hm3⟩
      rw [hlk]
      have hrow3 := (h.row.mod hg (fun _ _ h => h)).mod hm3 (fun b e e2 => (him.apart b e).1 e2)
      have hm03 : Mod (fun b => M b ∨ (Value.slice ad al.length c).ownBlock = some b) w w3 := (Mod.any' hg).trans (hm3.mono fun b _ e => .inl e)
      have hsl3 : ∀ a ∈ al, SlL (fun b => M b ∨ (Value.slice ad al.length c).ownBlock = some b) w3 a.v a.ls := fun a ha => (h.sls a ha).mod hm03
      have hg03 : Grow w0 w3 := (h.grow.trans hg).then hm3 (fun b hb e => by have := h.baseM b e; omega)
      have hbd3 := dropRows_bound hbd id ((lookM (hasOf L) id).getD [])
      iterate 2 refine RL.p rfl rfl ?_
      refine RL.q (.free rfl) rfl rfl (Yld.neqBool u4 rfl rfl) ?_
      refine RL.done ?_
      refine RK.condF (hcF rfl (by rw [hnn]; simp)) ?_
      refine RK.skip ?_
      iterate 2 refine RK.seq ?_
      refine RK.region ?_
      iterate 2 refine RL.p rfl rfl ?_
      refine RL.done ?_
      first | refine RK.condD rfl (fun h37 => ?_) (fun h37 => ?_) | refine RK.condN rfl (fun h37 => ?_) (fun h37 => ?_) | refine RK.cond rfl (fun h37 => ?_) (fun h37 => ?_)
      · obtain ⟨i, hi⟩ : ∃ i, zw = some i := by cases hzw' : zw with | none => (rw [hzz, hzw'] at h37; simp [optI] at h37) | some i => exact ⟨i, rfl⟩
        subst hi
        have hzi : z = (i : Int) := hzz
        subst hzi
        have hil : i < al.length := by have := (List.findIdx?_eq_some_iff_getElem.1 hzw).1; omega
        have hs3 : Sl No w3 (.slice ad al.length c) 3 al.length (al.flatMap alC) := Sl.own hrow3 (fun _ _ h => h)
        refine RK.drawM No [(0, false), (1, false), (2, false), (4, false), (5, false), (6, false), (7, false), (3, true), (8, true), (9, false)] [] mixed (by kernel_rfl) ?_
        iterate 2 refine DL.p rfl rfl rfl ?_
        refine DL.qf rfl (.free rfl) rfl rfl (Yld.sliceHi u58 i32 (m := i) rfl rfl (by omega)) ?_
        iterate 3 refine DL.p rfl rfl rfl ?_
        refine DL.re (d := 44) rfl rfl (succ_i64 (by omega)) ?_
        refine DL.qf rfl (.free rfl) rfl rfl (Yld.sliceFrom u58 i32 (m := i + 1) rfl rfl (by omega)) ?_
        refine DL.op rfl (.free rfl) rfl rfl (Does.append u58 i32 rfl rfl rfl rfl rfl (Row.nil _ _ _) ((hs3.mod (Mod.drew _ _)).takeF alC_len (by omega)) (allOne_als (fun a ha => hsh a (List.mem_of_mem_take ha))) (by omega)) ?_
        rintro u4 w4 ⟨hr4, hm4, hu4⟩
        have hg4 : Grow w3 w4 := (Mod.drew No w3).trans (hm4.mono fun b _ e => by simp [Value.ownBlock] at e)
        refine ⟨hg4, ?_⟩
        refine DL.op rfl (.free rfl) rfl rfl (Does.append u58 i32 rfl rfl rfl rfl rfl (hr4) ((hs3.mod hg4).fromF alC_len (by omega) hlc) (allOne_als (fun a ha => hsh a (List.mem_of_mem_drop ha))) (by omega)) ?_
        rintro u5 w5 ⟨hr5, hm5, hu5⟩
        have hs34 := hg4.size
        have hf4 : Fresh w3.heap.size u4 := fun b e => by rcases hu4 with h1 | h1; (rw [h1] at e; simp [Value.ownBlock] at e); (rw [h1] at e; cases e; simp only [World.drew]; omega)
        have hg5 : Grow w3 w5 := hg4.then hm5 (fun b hb e => by have := hf4 b e; omega)
        have hf5 : Fresh w3.heap.size u5 := fun b e => by rcases hu5 with h1 | h1; (rw [h1] at e; exact hf4 b e); (rw [h1] at e; cases e; omega)
        refine ⟨hg5, ?_⟩
        have hel : (al.take i).flatMap alC ++ (al.drop (i + 1)).flatMap alC = (al.eraseIdx i).flatMap alC := by rw [List.eraseIdx_eq_take_drop_succ, List.flatMap_append]
        have hell : (al.eraseIdx i).length = i + (al.length - (i + 1)) := by rw [List.length_eraseIdx]; simp [hil]; omega
        refine DL.p rfl rfl rfl ?_
        refine DL.done ?_
        refine RK.seq ?_
        refine RK.region ?_
        iterate 3 refine RL.p rfl rfl ?_
        refine RL.done ?_
        refine RK.ret_of Tryz.func96 (res2 rfl rfl rfl) ?_ _
        exact ⟨_, rfl, u5, al.eraseIdx i, _, rfl, ⟨by
            rw [map_eraseIdx', hL, ← hasOf_erase hn hzw]
            exact k3.turn (hg5.any _) (fun b e => .inr ⟨hf5 b e, hr5.lt e⟩), by
            rw [hell, ← hel]
            have h9 := hr5
            simp only [List.nil_append, Nat.zero_add] at h9
            exact h9, fun a ha => (hsl3 a (List.mem_of_mem_eraseIdx ha)).pass (by omega) (hg5.any _) (fun b e => by rcases e with e | e; exact .inl (.inl e); exact .inr (hf5 b e)), h.baseM, fun b e => by have := hf5 b e; have := hg03.size; omega, hg03.trans hg5⟩, by rw [map_eraseIdx', hL]; unfold stepP; rw [hzw]; rfl, fun t ht => by have := hbd3 t ht; omega⟩
      · have hz0 : zw = none := by cases hzw' : zw with | none => rfl | some i => (rw [hzz, hzw'] at h37; simp [optI] at h37)
        subst hz0
        refine RK.skip ?_
        refine RK.seq ?_
        refine RK.region ?_
        iterate 3 refine RL.p rfl rfl ?_
        refine RL.done ?_
        refine RK.ret_of Tryz.func96 (res2 rfl rfl rfl) ?_ _
        exact ⟨_, rfl, _, al, _, rfl, ⟨by rw [hL, ← cut_none hzw]; exact k3, hrow3, hsl3, h.baseM, h.baseV, hg03⟩, by rw [hL]; unfold stepP; rw [hzw]; rfl, fun t ht => by have := hbd3 t ht; omega⟩
    · have hd : d = false := by simpa using h27
      subst hd
      refine RK.skip ?_
      refine RK.seq ?_
      refine RK.drawF No [(0, false), (1, false), (2, false), (3, false)] 4 6 [(5, false), (6, true), (7, true)] [(4, true), (5, false), (7, true)] [] mixed (by kernel_rfl) ?_
      refine DL.qf rfl (.free rfl) rfl rfl (Yld.fieldAddr fo153_1 rfl) ?_
      refine DL.q rfl (.free rfl) rfl rfl rfl (Yld.load p3 rfl (atM (hB5.cell rfl) (fun h => h))) (Mod.drew _ _) ?_
      refine DL.qf rfl (.free rfl) rfl rfl (Yld.fieldAddr fo153_2 rfl) ?_
      refine DL.q rfl (.free rfl) rfl rfl rfl (Yld.load p22 rfl (atM (hB5.cell rfl) (fun h => h))) (Mod.drew _ _) ?_
      refine DL.fork ?_ ?_
      · refine DL.op rfl (.free rfl) rfl rfl (Does.call rfl e17 (labels_ok No labs _ _ ((hx1.mod hg).mod (Mod.drew _ _)) hx2)) ?_
        rintro _ w3 ⟨adl, cl, rfl, hr3, hf3, hg3⟩
        refine ⟨(Mod.drew _ _).trans hg3, ?_⟩
        refine DL.qf rfl (.free rfl) rfl rfl (Yld.build (v := .agg #[.int .i64 id, .slice adl (labelsS labs).length cl, .float .f64 0]) rfl (fun w => by kernel_rfl)) ?_
        refine DL.op rfl (.free rfl) rfl rfl (Does.alloc i32) ?_
        rintro _ w4 ⟨b10, rfl, hn10⟩
        refine ⟨((Mod.drew _ _).trans hg3).trans hn10.grow, ?_⟩
        have hg4 : Grow w' w4 := ((Mod.drew No w').trans hg3).trans hn10.grow
        have hrL := hr3.mod hn10.grow (fun _ _ h => h)
        have hfL : Fresh w'.heap.size (.slice adl (labelsS labs).length cl) := hf3
        have hb10 : w'.heap.size ≤ b10 := by have h1 := hn10.at_; have h2 := hg3.size; simp only [World.drew] at h2; omega
        have hsep : ∀ b, (Value.slice adl (labelsS labs).length cl).ownBlock = some b → b ≠ b10 := fun b e => by have h1 := hr3.lt e; have h2 := hn10.at_; omega
        have hB10 := hn10.blk
        refine DL.op' rfl (.free rfl) rfl (Does.storeN i32 rfl rfl rfl rfl hB10 (Nat.le_refl 3)) ?_
        rintro _ w5 ⟨hb5', hm5, _⟩
        have hBa : Blk w5 b10 32 [.int .i64 id, .slice adl (labelsS labs).length cl, .float .f64 0] := hb5'
        have hg5 : Grow w' w5 := hg4.then hm5 (fun b hb e => by have e' : b = b10 := e; omega)
        refine ⟨hg5, ?_⟩
        have hrL5 := hrL.mod hm5 (fun b e e2 => hsep b e e2)
        have hg05 := hg.trans hg5
        have k5 := him.grow hg05
        have hslL : SlL (fun b => M b ∨ (Value.slice ad al.length c).ownBlock = some b) w5 (.slice adl (labelsS labs).length cl) (labelsS labs) := Sl.own hrL5 (fun b e e2 => by have h1 := hfL b e; have h2 := hk2.lt2 e2; omega)
        refine DL.done ?_
        iterate 2 refine RK.seq ?_
        refine RK.region ?_
        refine RL.p rfl rfl ?_
        refine RL.q (.free rfl) rfl rfl (Yld.fieldAddr fo153_1 rfl) ?_
        refine RL.q (.free rfl) rfl rfl (Yld.load p3 rfl (at1 ((hB5.mod hg5 (fun h => h)).cell rfl))) ?_
        refine RL.q (.free rfl) rfl rfl (Yld.fieldAddr fo32_1 rfl) ?_
        refine RL.q (.free rfl) rfl rfl (Yld.load p26 rfl (at1 (hBa.cell rfl))) ?_
        refine RL.op (.free rfl) rfl rfl (Does.call rfl e28 (k5.add (by have := him.len; unfold hasOf; simp; omega) (fun t ht => by have := hbd t ht; omega) hx3 hslL)) ?_
        rintro _ w6 ⟨rfl, k6, hm6⟩
        have hadd : addable (hasOf L) id (labelsS labs) = zw.isNone := by
            unfold addable
            rw [labels_isS, Bool.and_true]
            cases hl : lookM (hasOf L) id with
            | none => rw [hl] at hlk; cases zw <;> simp at hlk ⊢
            | some q => rw [hl] at hlk; cases zw <;> simp at hlk ⊢
        rw [hadd]
        have hrow6 := (h.row.mod hg05 (fun _ _ h => h)).mod hm6 (fun b e e2 => (him.apart b e).1 e2)
        have hm06 : Mod (fun b => M b ∨ (Value.slice ad al.length c).ownBlock = some b) w w6 := (Mod.any' hg05).trans (hm6.mono fun b _ e => .inl e)
        have hsl6 : ∀ a ∈ al, SlL (fun b => M b ∨ (Value.slice ad al.length c).ownBlock = some b) w6 a.v a.ls := fun a ha => (h.sls a ha).mod hm06
        have hslL6 := hslL.mod (hm6.mono fun b _ e => (.inl e : M b ∨ (Value.slice ad al.length c).ownBlock = some b))
        have hg06 : Grow w0 w6 := (h.grow.trans hg05).then hm6 (fun b hb e => by have := h.baseM b e; omega)
        have hBa6 := hBa.mod hm6 (fun e => by have := hk2.lt e; omega)
        iterate 2 refine RL.p rfl rfl ?_
        refine RL.q (.free rfl) rfl rfl (Yld.neqBool u4 rfl rfl) ?_
        refine RL.done ?_
        refine RK.condF (hcF rfl (by rw [hneg]; simp)) ?_
        refine RK.skip ?_
        iterate 2 refine RK.seq ?_
        refine RK.region ?_
        iterate 2 refine RL.p rfl rfl ?_
        refine RL.done ?_
        first | refine RK.condD rfl (fun h65 => ?_) (fun h65 => ?_) | refine RK.condN rfl (fun h65 => ?_) (fun h65 => ?_) | refine RK.cond rfl (fun h65 => ?_) (fun h65 => ?_)
        · have hz0 : zw = none := by cases hzw' : zw with | none => rfl | some i => (rw [hzz, hzw'] at h65; simp [optI] at h65; omega)
          subst hz0
          have eH : addH (hasOf L) id (labelsS labs) = hasOf L ++ [(id, labelsS labs)] := by
              unfold addH
              rw [hadd]
              have : lookM (hasOf L) id = none := by cases hl : lookM (hasOf L) id with | none => rfl | some q => (rw [hl] at hlk; cases hlk)
              simp [putM_new this]
          have eR : addR (hasOf L) rows id (labelsS labs) = addRows rows id (labelsS labs) := by unfold addR; rw [hadd]; rfl
          rw [eH, eR] at k6
          refine RK.region ?_
          refine RL.p rfl rfl ?_
          refine RL.q (.free rfl) rfl rfl (Yld.loadN (cs := [.int .i64 id, .slice adl (labelsS labs).length cl, .float .f64 0]) a32 rfl (atN (fun q u hq => by rw [Nat.zero_add]; exact hBa6.cell' hq))) ?_
          refine RL.op (.free rfl) rfl rfl (Does.slice1 u58 i32 rfl rfl rfl rfl rfl) ?_
          rintro _ w7 ⟨b7, rfl, hn7⟩
          refine RL.op (.free rfl) rfl rfl (Does.append u58 i32 rfl rfl rfl rfl rfl (hrow6.mod hn7.grow (fun _ _ h => h)) (Sl.new hn7 3 1 rfl (by omega) (fun h => h)) (rfl) (by omega)) ?_
          rintro u8 w8 ⟨hr8, hm8, hu8⟩
          have hs67 := hn7.grow.size
          have hx8 : ∀ b, u8.ownBlock = some b → (Value.slice ad al.length c).ownBlock = some b ∨ w7.heap.size ≤ b ∧ b < w8.heap.size := fun b e => by
              rcases hu8 with h1 | h1
              · exact .inl (h1 ▸ e)
              · have := hr8.lt e; rw [h1] at e; cases e; exact .inr ⟨Nat.le_refl _, this⟩
          have hm68 : Mod (fun b => M b ∨ (Value.slice ad al.length c).ownBlock = some b) w6 w8 := (Mod.any' hn7.grow).trans (hm8.mono fun b _ e => .inr e)
          have hpass : ∀ b, (M b ∨ u8.ownBlock = some b) → (M b ∨ (Value.slice ad al.length c).ownBlock = some b) ∨ w6.heap.size ≤ b := fun b e => by
              rcases e with e | e
              · exact .inl (.inl e)
              · rcases hx8 b e with h1 | h1
                · exact .inl (.inr h1)
                · exact .inr (by omega)
          have h6l := isS_len (labels_isS labs)
          refine RL.p rfl rfl ?_
          refine RL.done ?_
          refine RK.seq ?_
          refine RK.region ?_
          iterate 3 refine RL.p rfl rfl ?_
          refine RL.done ?_
          refine RK.ret_of Tryz.func96 (res2 rfl rfl rfl) ?_ _
          exact ⟨_, rfl, u8, al ++ [⟨id, labelsS labs, 0, .slice adl (labelsS labs).length cl⟩], _, rfl, ⟨by
              rw [List.map_append, hL]
              have : hasOf (L ++ [(⟨id, labelsS labs, 0, .slice adl (labelsS labs).length cl⟩ : Al)].map pub) = hasOf L ++ [(id, labelsS labs)] := by simp [hasOf, pub]
              rw [this]
              exact (k6.grow hn7.grow).turn hm8 hx8, by
              have e1 : (al ++ [(⟨id, labelsS labs, 0, .slice adl (labelsS labs).length cl⟩ : Al)]).flatMap alC = al.flatMap alC ++ (Value.agg #[.int .i64 id, .slice adl (labelsS labs).length cl, .float .f64 0]).cells.toList := by simp [alC, Value.cells]
              rw [e1, List.length_append]; exact hr8, fun a ha => by
              rcases List.mem_append.1 ha with h1 | h1
              · exact (hsl6 a h1).pass (by omega) hm68 hpass
              · simp at h1; subst h1
                exact hslL6.pass (by omega) hm68 hpass, h.baseM, fun b e => by
              rcases hx8 b e with h1 | h1
              · exact h.baseV b h1
              · have := hg06.size; omega, (hg06.trans hn7.grow).then hm8 (fun b hb e => by have := h.baseV b e; omega)⟩, by rw [List.map_append, hL]; unfold stepP; rw [hzw]; rfl, fun t ht => by have := addRows_bound hbd id (labelsS labs) t ht; omega⟩
        · obtain ⟨i, hi⟩ : ∃ i, zw = some i := by cases hzw' : zw with | none => (rw [hzz, hzw'] at h65; simp [optI] at h65) | some i => exact ⟨i, rfl⟩
          subst hi
          have eH : addH (hasOf L) id (labelsS labs) = hasOf L := by unfold addH; rw [hadd]; rfl
          have eR : addR (hasOf L) rows id (labelsS labs) = rows := by unfold addR; rw [hadd]; rfl
          rw [eH, eR] at k6
          refine RK.skip ?_
          refine RK.seq ?_
          refine RK.region ?_
          iterate 3 refine RL.p rfl rfl ?_
          refine RL.done ?_
          refine RK.ret_of Tryz.func96 (res2 rfl rfl rfl) ?_ _
          exact ⟨_, rfl, _, al, _, rfl, ⟨by rw [hL]; exact k6, hrow6, hsl6, h.baseM, h.baseV, hg06⟩, by rw [hL]; unfold stepP; rw [hzw]; rfl, fun t ht => by have := hbd t ht; omega⟩
      · refine DL.op rfl (.free rfl) rfl rfl (Does.alloc i32) ?_
        rintro _ w3 ⟨b10, rfl, hn10⟩
        refine ⟨(Mod.drew _ _).trans hn10.grow, ?_⟩
        refine DL.op rfl (.free rfl) rfl rfl (Does.call rfl e17 (labels_ok No labs _ _ (((hx1.mod hg).mod (Mod.drew _ _)).mod hn10.grow) hx2)) ?_
        rintro _ w4 ⟨adl, cl, rfl, hr3, hf3, hg3⟩
        refine ⟨((Mod.drew _ _).trans hn10.grow).trans hg3, ?_⟩
        have hg4 : Grow w' w4 := ((Mod.drew No w').trans hn10.grow).trans hg3
        have hrL := hr3
        have hfL : Fresh w'.heap.size (.slice adl (labelsS labs).length cl) := fun b e => by have h1 := hf3 b e; have h2 := hn10.grow.size; simp only [World.drew] at h2; omega
        have hb10 : w'.heap.size ≤ b10 := by have h1 := hn10.at_; simp only [World.drew] at h1; omega
        have hsep : ∀ b, (Value.slice adl (labelsS labs).length cl).ownBlock = some b → b ≠ b10 := fun b e => by have h1 := hf3 b e; have h2 := hn10.lt; omega
        have hB10 := hn10.blk.mod hg3 (fun h => h)
        refine DL.qf rfl (.free rfl) rfl rfl (Yld.build (v := .agg #[.int .i64 id, .slice adl (labelsS labs).length cl, .float .f64 0]) rfl (fun w => by kernel_rfl)) ?_
        refine DL.op' rfl (.free rfl) rfl (Does.storeN i32 rfl rfl rfl rfl hB10 (Nat.le_refl 3)) ?_
        rintro _ w5 ⟨hb5', hm5, _⟩
        have hBa : Blk w5 b10 32 [.int .i64 id, .slice adl (labelsS labs).length cl, .float .f64 0] := hb5'
        have hg5 : Grow w' w5 := hg4.then hm5 (fun b hb e => by have e' : b = b10 := e; omega)
        refine ⟨hg5, ?_⟩
        have hrL5 := hrL.mod hm5 (fun b e e2 => hsep b e e2)
        have hg05 := hg.trans hg5
        have k5 := him.grow hg05
        have hslL : SlL (fun b => M b ∨ (Value.slice ad al.length c).ownBlock = some b) w5 (.slice adl (labelsS labs).length cl) (labelsS labs) := Sl.own hrL5 (fun b e e2 => by have h1 := hfL b e; have h2 := hk2.lt2 e2; omega)
        refine DL.done ?_
        iterate 2 refine RK.seq ?_
        refine RK.region ?_
        refine RL.p rfl rfl ?_
        refine RL.q (.free rfl) rfl rfl (Yld.fieldAddr fo153_1 rfl) ?_
        refine RL.q (.free rfl) rfl rfl (Yld.load p3 rfl (at1 ((hB5.mod hg5 (fun h => h)).cell rfl))) ?_
        refine RL.q (.free rfl) rfl rfl (Yld.fieldAddr fo32_1 rfl) ?_
        refine RL.q (.free rfl) rfl rfl (Yld.load p26 rfl (at1 (hBa.cell rfl))) ?_
        refine RL.op (.free rfl) rfl rfl (Does.call rfl e28 (k5.add (by have := him.len; unfold hasOf; simp; omega) (fun t ht => by have := hbd t ht; omega) hx3 hslL)) ?_
        rintro _ w6 ⟨rfl, k6, hm6⟩
        have hadd : addable (hasOf L) id (labelsS labs) = zw.isNone := by
            unfold addable
            rw [labels_isS, Bool.and_true]
            cases hl : lookM (hasOf L) id with
            | none => rw [hl] at hlk; cases zw <;> simp at hlk ⊢
            | some q => rw [hl] at hlk; cases zw <;> simp at hlk ⊢
        rw [hadd]
        have hrow6 := (h.row.mod hg05 (fun _ _ h => h)).mod hm6 (fun b e e2 => (him.apart b e).1 e2)
        have hm06 : Mod (fun b => M b ∨ (Value.slice ad al.length c).ownBlock = some b) w w6 := (Mod.any' hg05).trans (hm6.mono fun b _ e => .inl e)
        have hsl6 : ∀ a ∈ al, SlL (fun b => M b ∨ (Value.slice ad al.length c).ownBlock = some b) w6 a.v a.ls := fun a ha => (h.sls a ha).mod hm06
        have hslL6 := hslL.mod (hm6.mono fun b _ e => (.inl e : M b ∨ (Value.slice ad al.length c).ownBlock = some b))
        have hg06 : Grow w0 w6 := (h.grow.trans hg05).then hm6 (fun b hb e => by have := h.baseM b e; omega)
        have hBa6 := hBa.mod hm6 (fun e => by have := hk2.lt e; omega)
        iterate 2 refine RL.p rfl rfl ?_
        refine RL.q (.free rfl) rfl rfl (Yld.neqBool u4 rfl rfl) ?_
        refine RL.done ?_
        refine RK.condF (hcF rfl (by rw [hneg]; simp)) ?_
        refine RK.skip ?_
        iterate 2 refine RK.seq ?_
        refine RK.region ?_
        iterate 2 refine RL.p rfl rfl ?_
        refine RL.done ?_
        first | refine RK.condD rfl (fun h65 => ?_) (fun h65 => ?_) | refine RK.condN rfl (fun h65 => ?_) (fun h65 => ?_) | refine RK.cond rfl (fun h65 => ?_) (fun h65 => ?_)
        · have hz0 : zw = none := by cases hzw' : zw with | none => rfl | some i => (rw [hzz, hzw'] at h65; simp [optI] at h65; omega)
          subst hz0
          have eH : addH (hasOf L) id (labelsS labs) = hasOf L ++ [(id, labelsS labs)] := by
              unfold addH
              rw [hadd]
              have : lookM (hasOf L) id = none := by cases hl : lookM (hasOf L) id with | none => rfl | some q => (rw [hl] at hlk; cases hlk)
              simp [putM_new this]
          have eR : addR (hasOf L) rows id (labelsS labs) = addRows rows id (labelsS labs) := by unfold addR; rw [hadd]; rfl
          rw [eH, eR] at k6
          refine RK.region ?_
          refine RL.p rfl rfl ?_
          refine RL.q (.free rfl) rfl rfl (Yld.loadN (cs := [.int .i64 id, .slice adl (labelsS labs).length cl, .float .f64 0]) a32 rfl (atN (fun q u hq => by rw [Nat.zero_add]; exact hBa6.cell' hq))) ?_
          refine RL.op (.free rfl) rfl rfl (Does.slice1 u58 i32 rfl rfl rfl rfl rfl) ?_
          rintro _ w7 ⟨b7, rfl, hn7⟩
          refine RL.op (.free rfl) rfl rfl (Does.append u58 i32 rfl rfl rfl rfl rfl (hrow6.mod hn7.grow (fun _ _ h => h)) (Sl.new hn7 3 1 rfl (by omega) (fun h => h)) (rfl) (by omega)) ?_
          rintro u8 w8 ⟨hr8, hm8, hu8⟩
          have hs67 := hn7.grow.size
          have hx8 : ∀ b, u8.ownBlock = some b → (Value.slice ad al.length c).ownBlock = some b ∨ w7.heap.size ≤ b ∧ b < w8.heap.size := fun b e => by
              rcases hu8 with h1 | h1
              · exact .inl (h1 ▸ e)
              · have := hr8.lt e; rw [h1] at e; cases e; exact .inr ⟨Nat.le_refl _, this⟩
          have hm68 : Mod (fun b => M b ∨ (Value.slice ad al.length c).ownBlock = some b) w6 w8 := (Mod.any' hn7.grow).trans (hm8.mono fun b _ e => .inr e)
          have hpass : ∀ b, (M b ∨ u8.ownBlock = some b) → (M b ∨ (Value.slice ad al.length c).ownBlock = some b) ∨ w6.heap.size ≤ b := fun b e => by
              rcases e with e | e
              · exact .inl (.inl e)
              · rcases hx8 b e with h1 | h1
                · exact .inl (.inr h1)
                · exact .inr (by omega)
          have h6l := isS_len (labels_isS labs)
          refine RL.p rfl rfl ?_
          refine RL.done ?_
          refine RK.seq ?_
          refine RK.region ?_
          iterate 3 refine RL.p rfl rfl ?_
          refine RL.done ?_
          refine RK.ret_of Tryz.func96 (res2 rfl rfl rfl) ?_ _
          exact ⟨_, rfl, u8, al ++ [⟨id, labelsS labs, 0, .slice adl (labelsS labs).length cl⟩], _, rfl, ⟨by
              rw [List.map_append, hL]
              have : hasOf (L ++ [(⟨id, labelsS labs, 0, .slice adl (labelsS labs).length cl⟩ : Al)].map pub) = hasOf L ++ [(id, labelsS labs)] := by simp [hasOf, pub]
              rw [this]
              exact (k6.grow hn7.grow).turn hm8 hx8, by
              have e1 : (al ++ [(⟨id, labelsS labs, 0, .slice adl (labelsS labs).length cl⟩ : Al)]).flatMap alC = al.flatMap alC ++ (Value.agg #[.int .i64 id, .slice adl (labelsS labs).length cl, .float .f64 0]).cells.toList := by simp [alC, Value.cells]
              rw [e1, List.length_append]; exact hr8, fun a ha => by
              rcases List.mem_append.1 ha with h1 | h1
              · exact (hsl6 a h1).pass (by omega) hm68 hpass
              · simp at h1; subst h1
                exact hslL6.pass (by omega) hm68 hpass, h.baseM, fun b e => by
              rcases hx8 b e with h1 | h1
              · exact h.baseV b h1
              · have := hg06.size; omega, (hg06.trans hn7.grow).then hm8 (fun b hb e => by have := h.baseV b e; omega)⟩, by rw [List.map_append, hL]; unfold stepP; rw [hzw]; rfl, fun t ht => by have := addRows_bound hbd id (labelsS labs) t ht; omega⟩
        · obtain ⟨i, hi⟩ : ∃ i, zw = some i := by cases hzw' : zw with | none => (rw [hzz, hzw'] at h65; simp [optI] at h65) | some i => exact ⟨i, rfl⟩
          subst hi
          have eH : addH (hasOf L) id (labelsS labs) = hasOf L := by unfold addH; rw [hadd]; rfl
          have eR : addR (hasOf L) rows id (labelsS labs) = rows := by unfold addR; rw [hadd]; rfl
          rw [eH, eR] at k6
          refine RK.skip ?_
          refine RK.seq ?_
          refine RK.region ?_
          iterate 3 refine RL.p rfl rfl ?_
          refine RL.done ?_
          refine RK.ret_of Tryz.func96 (res2 rfl rfl rfl) ?_ _
          exact ⟨_, rfl, _, al, _, rfl, ⟨by rw [hL]; exact k6, hrow6, hsl6, h.baseM, h.baseV, hg06⟩, by rw [hL]; unfold stepP; rw [hzw]; rfl, fun t ht => by have := hbd t ht; omega⟩
end Go.Proofs.YtffbcfcoddacmaaGreat
set_option linter.unusedVariables false
set_option linter.unusedSimpArgs false
set_option maxHeartbeats 1000000
set_option maxRecDepth 100000
namespace Go.Proofs.YtffbcfcoddacmaaGreat
open Go Go.X
def stepX (acc : List AlS) (x : Sp) : List AlS := stepP acc x.drop x.id (labelsS x.labs)
def foldP (l : List Sp) : List AlS := l.foldl stepX []
theorem stepX_len (acc : List AlS) (x : Sp) : (stepX acc x).length ≤ acc.length + 1 := by
  unfold stepX stepP
  cases whereI acc x.id with
  | none => cases x.drop <;> simp
  | some i => cases x.drop <;> simp [List.length_eraseIdx] <;> split <;> omega
theorem foldP_snoc (l : List Sp) (x : Sp) : foldP (l ++ [x]) = stepX (foldP l) x := by simp [foldP]
theorem foldP_len (l : List Sp) : (foldP l).length ≤ l.length := by
  have key : ∀ (l : List Sp) (acc : List AlS), (l.foldl stepX acc).length ≤ acc.length + l.length := by
    intro l
    induction l with
    | nil => intro acc; simp
    | cons x l ih => intro acc; rw [List.foldl_cons]; have h1 := ih (stepX acc x); have h2 := stepX_len acc x; simp; omega
  simpa [foldP] using key l []
theorem built_ok (l : List Sp) (vl : Value) (w : World) (hl : Sl No w vl 3 l.length (l.flatMap spC)) (hx : ∀ x ∈ l, x.Ok w) (h60 : l.length ≤ 60) :
    Fx Tryz.prog 40 [vl] w (fun u w' => ∃ ix M rows v al, u = .tuple #[pp ix, v, .bool true] ∧ BJ w w' ix M rows v al ∧ al.map pub = foldP l ∧ ∀ t ∈ rows, t.2.length ≤ 360) := by
  obtain ⟨adl, cl, rfl⟩ := hl.shape
  refine enter Tryz.func40 rfl rfl rfl _ (Pick.sub (l := [0]) (.cons rfl .nil)) ?_
  refine RK.seq ?_
  refine RK.region ?_
  iterate 3 refine RL.p rfl rfl ?_
  refine RL.done ?_
  refine RK.seq ?_
  refine RK.region ?_
  refine RL.op (.free rfl) rfl rfl (Does.call rfl e27 (im_new _)) ?_
  rintro _ w1 ⟨ix, M, rfl, k1, hM, _, hg1⟩
  refine RL.p rfl rfl ?_
  refine RL.done ?_
  iterate 2 refine RK.seq ?_
  refine RK.region ?_
  refine RL.p rfl rfl ?_
  refine RL.q (.free rfl) rfl rfl (Yld.eqPtr Tryz.underlying42 rfl rfl) ?_
  refine RL.p rfl rfl ?_
  refine RL.knownF (d := 12) rfl rfl (rfl) ?_
  refine RL.q (.yes rfl rfl rfl) rfl rfl (Yld.pure rfl) ?_
  refine RL.q (.yes rfl rfl rfl) rfl rfl (Yld.lenSl u65 rfl) ?_
  refine RL.q (.yes rfl rfl rfl) rfl rfl (Yld.pure rfl) ?_
  refine RL.p rfl rfl ?_
  refine RL.done ?_
  refine RK.condF (hcF rfl (decide_eq_false (by omega))) ?_
  refine RK.skip ?_
  refine RK.seq ?_
  refine RK.region ?_
  refine RL.p rfl rfl ?_
  refine RL.done ?_
  refine RK.seq ?_
  refine RK.region ?_
  refine RL.p rfl rfl ?_
  refine RL.done ?_
  iterate 2 refine RK.seq ?_
  refine RK.region ?_
  refine RL.p rfl rfl ?_
  refine RL.done ?_
  refine RK.block ?_
  refine RK.loop (fun s : Nat × Value => [(0, .slice adl l.length cl), (5, pp ix), (6, s.2), (7, .bool true), (8, .int .i64 (s.1 : Int))]) (fun s w' => (∃ rows al, BJ w w' ix M rows s.2 al ∧ al.map pub = foldP (l.take s.1) ∧ ∀ t ∈ rows, t.2.length ≤ 6 * s.1) ∧ s.1 ≤ l.length) (fun s => l.length - s.1) (0, .slice none 0 0) ⟨rfl, rfl, rfl, rfl, rfl, trivial⟩ ⟨⟨[], [], ⟨(k1.turn (Mod.refl _ _) (fun b e => by simp [Value.ownBlock] at e)), Row.nil _ _ _, by simp, hM, fun b e => by simp [Value.ownBlock] at e, hg1⟩, by simp [foldP], by simp⟩, by simp⟩ (fun s w' hI ih => ?_)
  obtain ⟨k, v⟩ := s
  obtain ⟨⟨rows, al, hj, hal, hbd⟩, hk⟩ := hI
  simp only at hj hal hbd hk
  iterate 2 refine RK.seq ?_
  refine RK.region ?_
  iterate 2 refine RL.p rfl rfl ?_
  refine RL.q (.free rfl) rfl rfl (Yld.lenSl u65 rfl) ?_
  refine RL.p rfl rfl ?_
  refine RL.done ?_
  first | refine RK.condD rfl (fun h20 => ?_) (fun h20 => ?_) | refine RK.condN rfl (fun h20 => ?_) (fun h20 => ?_) | refine RK.cond rfl (fun h20 => ?_) (fun h20 => ?_)
  · obtain ⟨x, hxk⟩ : ∃ x, l[k]? = some x := ⟨l[k]'(by omega), List.getElem?_eq_getElem (by omega)⟩
    obtain ⟨b1, o1, c1', he1, _, _, hc1⟩ := hl.elem spC_len hxk
    cases he1
    have hlen : al.length ≤ k := by have h1 := foldP_len (l.take k); have h2 := congrArg List.length hal; simp at h1 h2; omega
    have hxo := hx x (List.mem_of_getElem? hxk)
    refine RK.skip ?_
    refine RK.seq ?_
    refine RK.block ?_
    refine RK.seq ?_
    refine RK.region ?_
    iterate 4 refine RL.p rfl rfl ?_
    refine RL.q (.free rfl) rfl rfl (Yld.indexAddrN u65 i153 rfl rfl (by omega)) ?_
    refine RL.q (.free rfl) rfl rfl (Yld.loadN (cs := [.bool x.drop, .int .i64 x.id, x.v]) a153 rfl (atN (fun q u hq => hj.grow.cell (hc1 q u hq) (fun h => h)))) ?_
    refine RL.op (.free rfl) rfl rfl (Does.call rfl e96 (bstep_ok w _ ix M rows v al hj (by omega) (6 * k) (by omega) hbd x ⟨hxo.1.mod hj.grow, hxo.2⟩)) ?_
    rintro _ w2 ⟨v2, al2, rows2, rfl, hj2, hal2, hbd2⟩
    iterate 5 refine RL.p rfl rfl ?_
    refine RL.done ?_
    refine RK.seq ?_
    refine RK.region ?_
    iterate 2 refine RL.p rfl rfl ?_
    refine RL.done ?_
    refine RK.condF (hcF rfl (rfl)) ?_
    refine RK.skip ?_
    refine RK.inBlock ?_
    refine RK.region ?_
    iterate 2 refine RL.p rfl rfl ?_
    refine RL.re (d := 22) rfl rfl (succ_i64 (by omega)) ?_
    refine RL.p rfl rfl ?_
    refine RL.done ?_
    exact RK.back (ih (k + 1, v2) _ ⟨⟨rows2, al2, hj2, by
        rw [hal2, hal, List.take_succ_eq_append_getElem (by omega), foldP_snoc, (List.getElem?_eq_some_iff.1 hxk).2]
        rfl, fun t ht => by have := hbd2 t ht; simp only; omega⟩, by simp only; omega⟩ (by simp only; omega)) ⟨rfl, rfl, rfl, rfl, rfl, trivial⟩
  · have ek : l.take k = l := List.take_of_length_le (by omega)
    rw [ek] at hal
    refine RK.exit rfl ?_
    refine RK.seq ?_
    refine RK.region ?_
    iterate 5 refine RL.p rfl rfl ?_
    refine RL.done ?_
    refine RK.ret_of Tryz.func40 (res3 rfl rfl rfl rfl) ?_ _
    exact ⟨_, rfl, ix, M, rows, v, al, rfl, hj, hal, fun t ht => by have := hbd t ht; omega⟩
def firstL (rows : List (LabK × List Int)) (a : AlS) : List Lab := a.2.1.filter fun y => decide (((lookM rows (labK y)).getD []).head? = some a.1)
theorem firsts_len {l : List AlS} {rows : List (LabK × List Int)} (h : IxI (hasOf l) rows) (hs : ∀ a ∈ l, isS a.2.1 = true) : rows.length = (l.flatMap (firstL rows)).length := by
  have hn : (l.map (·.1)).Nodup := by have := h.nd; rwa [hasOf_keys] at this
  have hinj : ∀ x y : Lab, labK x = labK y → x = y := fun x y e => by
    cases x; cases y
    simp only [labK, Prod.mk.injEq] at e
    obtain ⟨rfl, rfl⟩ := e
    rfl
  refine h.len ?_ fun y => ?_
  · refine List.pairwise_flatMap.2 ⟨fun a ha => (isS_nodup (hs a ha)).sublist List.filter_sublist, ?_⟩
    refine (List.pairwise_map.1 hn).imp fun {a b} hne x hx y hy e => ?_
    subst e
    unfold firstL at hx hy
    have h1 := (List.mem_filter.1 hx).2
    have h2 := (List.mem_filter.1 hy).2
    simp only [decide_eq_true_eq] at h1 h2
    rw [h1] at h2
    exact hne (by simpa using h2)
  · constructor
    · intro hy
      obtain ⟨a, ha, hy⟩ := List.mem_flatMap.1 hy
      exact ⟨(a.1, a.2.1), List.mem_map_of_mem (f := fun a : AlS => (a.1, a.2.1)) ha, (List.mem_filter.1 hy).1⟩
    · rintro ⟨t, ht, hy⟩
      have hm := (h.mem (labK y) t.1).2 ⟨t.2, ht, y, hy, rfl⟩
      cases hr : (lookM rows (labK y)).getD [] with
      | nil => rw [hr] at hm; cases hm
      | cons m r =>
        obtain ⟨ls, h1, x, hx, e⟩ := (h.mem (labK y) m).1 (by rw [hr]; simp)
        obtain rfl := hinj x y e
        obtain ⟨a, ha, e2⟩ := List.mem_map.1 h1
        simp only [Prod.mk.injEq] at e2
        refine List.mem_flatMap.2 ⟨a, ha, List.mem_filter.2 ⟨e2.2 ▸ hx, ?_⟩⟩
        rw [hr]
        simp [e2.1]
end Go.Proofs.YtffbcfcoddacmaaGreat
set_option linter.unusedVariables false
set_option linter.unusedSimpArgs false
set_option maxHeartbeats 2000000
set_option maxRecDepth 100000
namespace Go.Proofs.YtffbcfcoddacmaaGreat
open Go Go.X
end Go.Proofs.YtffbcfcoddacmaaGreat
set_option linter.unusedVariables false
set_option linter.unusedSimpArgs false
set_option maxHeartbeats 1000000
set_option maxRecDepth 100000
namespace Go.Proofs.YtffbcfcoddacmaaGreat
open Go Go.X Go.Rex
theorem weightM_ok (M : Nat → Prop) (ls : List Mt) (v : Value) (m : Int) (w : World) (hv : SlM M w v ls) : Fx Tryz.prog 50 [v, .int .i64 m] w (fun u w' => (∃ n : Int, u = .int .i64 n) ∧ Grow w w') := by
  obtain ⟨ad, c, rfl⟩ := hv.shape
  have hbig := hv.big
  refine enter Tryz.func50 rfl rfl rfl _ (Pick.sub (l := [0, 1]) (.cons rfl (.cons rfl .nil))) ?_
  refine RK.seq ?_
  refine RK.region ?_
  refine RL.p rfl rfl ?_
  refine RL.done ?_
  refine RK.seq ?_
  refine RK.region ?_
  refine RL.p rfl rfl ?_
  refine RL.done ?_
  iterate 2 refine RK.seq ?_
  refine RK.region ?_
  refine RL.p rfl rfl ?_
  refine RL.done ?_
  refine RK.block ?_
  refine RK.loop (fun s : Nat × Int => [(0, .slice ad ls.length c), (1, .int .i64 m), (5, .int .i64 s.2), (6, .int .i64 (s.1 : Int))]) (fun s w' => Grow w w' ∧ s.1 ≤ ls.length) (fun s => ls.length - s.1) (0, 0) ⟨rfl, rfl, rfl, rfl, trivial⟩ ⟨Mod.refl _ _, by omega⟩ (fun s w' hI ih => ?_)
  obtain ⟨k, z⟩ := s
  obtain ⟨hg, hk⟩ := hI
  simp only at hk
  iterate 2 refine RK.seq ?_
  refine RK.region ?_
  iterate 2 refine RL.p rfl rfl ?_
  refine RL.q (.free rfl) rfl rfl (Yld.lenSl u51 rfl) ?_
  iterate 2 refine RL.p rfl rfl ?_
  first | refine RL.splitD (d := 11) rfl rfl (fun h10 => ?_) (fun h10 => ?_) | refine RL.splitN (d := 11) rfl rfl (fun h10 => ?_) (fun h10 => ?_) | refine RL.split (d := 11) rfl rfl (fun h10 => ?_) (fun h10 => ?_)
  · obtain ⟨x, hx⟩ : ∃ x, ls[k]? = some x := ⟨ls[k]'(by omega), List.getElem?_eq_getElem (by omega)⟩
    obtain ⟨b, o, c', he, hb, hkl, hcell⟩ := hv.elem mtC_len hx
    cases he
    iterate 3 refine RL.q (.yes rfl rfl rfl) rfl rfl (Yld.pure rfl) ?_
    refine RL.p rfl rfl ?_
    refine RL.done ?_
    first | refine RK.condD rfl (fun h15 => ?_) (fun h15 => ?_) | refine RK.condN rfl (fun h15 => ?_) (fun h15 => ?_) | refine RK.cond rfl (fun h15 => ?_) (fun h15 => ?_)
    · refine RK.skip ?_
      refine RK.seq ?_
      refine RK.block ?_
      iterate 2 refine RK.seq ?_
      refine RK.region ?_
      iterate 2 refine RL.p rfl rfl ?_
      refine RL.q (.free rfl) rfl rfl (Yld.indexAddrN u51 i50 rfl rfl (by omega)) ?_
      refine RL.q (.free rfl) rfl rfl (Yld.fieldAddr fo50_1 rfl) ?_
      refine RL.q (.free rfl) rfl rfl (Yld.load p9 rfl (at1 (hg.cell (hcell 1 _ rfl) (fun h => h)))) ?_
      refine RL.q (.free rfl) rfl rfl (Yld.lenStr u9 rfl) ?_
      iterate 3 refine RL.p rfl rfl ?_
      first | refine RL.splitD (d := 26) rfl rfl (fun h26 => ?_) (fun h26 => ?_) | refine RL.splitN (d := 26) rfl rfl (fun h26 => ?_) (fun h26 => ?_) | refine RL.split (d := 26) rfl rfl (fun h26 => ?_) (fun h26 => ?_)
      · iterate 8 refine RL.no (.no rfl rfl rfl rfl) rfl rfl ?_
        refine RL.p rfl rfl ?_
        refine RL.done ?_
        refine RK.condT rfl ?_
        refine RK.seq ?_
        refine RK.region ?_
        iterate 3 refine RL.p rfl rfl ?_
        refine RL.done ?_
        refine RK.ret_of Tryz.func50 (res1 rfl rfl) ?_ _
        exact ⟨_, rfl, ⟨_, rfl⟩, hg⟩
      · iterate 2 refine RL.q (.yes rfl rfl rfl) rfl rfl (Yld.pure rfl) ?_
        refine RL.q (.yes rfl rfl rfl) rfl rfl (Yld.indexAddrN u51 i50 rfl rfl (by omega)) ?_
        refine RL.q (.yes rfl rfl rfl) rfl rfl (Yld.fieldAddr fo50_2 rfl) ?_
        refine RL.q (.yes rfl rfl rfl) rfl rfl (Yld.load p9 rfl (at1 (hg.cell (hcell 2 _ rfl) (fun h => h)))) ?_
        refine RL.q (.yes rfl rfl rfl) rfl rfl (Yld.lenStr u9 rfl) ?_
        iterate 2 refine RL.q (.yes rfl rfl rfl) rfl rfl (Yld.pure rfl) ?_
        refine RL.p rfl rfl ?_
        refine RL.done ?_
        first | refine RK.condD rfl (fun h35 => ?_) (fun h35 => ?_) | refine RK.condN rfl (fun h35 => ?_) (fun h35 => ?_) | refine RK.cond rfl (fun h35 => ?_) (fun h35 => ?_)
        · refine RK.seq ?_
          refine RK.region ?_
          iterate 3 refine RL.p rfl rfl ?_
          refine RL.done ?_
          refine RK.ret_of Tryz.func50 (res1 rfl rfl) ?_ _
          exact ⟨_, rfl, ⟨_, rfl⟩, hg⟩
        · refine RK.skip ?_
          refine RK.drawM No [(0, false), (1, false), (2, false), (3, false), (4, false), (5, false), (6, false), (7, false), (8, false), (9, false), (10, false), (11, false), (12, false), (13, false), (14, false), (15, false), (16, false)] [] mixed (by kernel_rfl) ?_
          iterate 4 refine DL.p rfl rfl rfl ?_
          refine DL.qf rfl (.free rfl) rfl rfl (Yld.indexAddrN u51 i50 rfl rfl (by omega)) ?_
          refine DL.qf rfl (.free rfl) rfl rfl (Yld.fieldAddr fo50_1 rfl) ?_
          refine DL.q rfl (.free rfl) rfl rfl rfl (Yld.load p9 rfl (atM (hg.cell (hcell 1 _ rfl) (fun h => h)) (fun h => h))) (Mod.drew _ _) ?_
          refine DL.q rfl (.free rfl) rfl rfl rfl (Yld.lenStr u9 rfl) (Mod.drew _ _) ?_
          iterate 3 refine DL.p rfl rfl rfl ?_
          refine DL.qf rfl (.free rfl) rfl rfl (Yld.indexAddrN u51 i50 rfl rfl (by omega)) ?_
          refine DL.qf rfl (.free rfl) rfl rfl (Yld.fieldAddr fo50_2 rfl) ?_
          refine DL.q rfl (.free rfl) rfl rfl rfl (Yld.load p9 rfl (atM (hg.cell (hcell 2 _ rfl) (fun h => h)) (fun h => h))) (Mod.drew _ _) ?_
          refine DL.q rfl (.free rfl) rfl rfl rfl (Yld.lenStr u9 rfl) (Mod.drew _ _) ?_
          iterate 2 refine DL.p rfl rfl rfl ?_
          refine DL.done ?_
          refine RK.inBlock ?_
          refine RK.region ?_
          iterate 2 refine RL.p rfl rfl ?_
          refine RL.re (d := 17) rfl rfl (succ_i64 (by omega)) ?_
          refine RL.p rfl rfl ?_
          refine RL.done ?_
          exact RK.back (ih (k + 1, _) _ ⟨hg.trans (Mod.drew _ _), by simp; omega⟩ (by simp; omega)) ⟨rfl, rfl, rfl, rfl, trivial⟩
    · refine RK.exit rfl ?_
      refine RK.seq ?_
      refine RK.region ?_
      iterate 3 refine RL.p rfl rfl ?_
      refine RL.q (.free rfl) rfl rfl (Yld.min2 rfl rfl) ?_
      refine RL.p rfl rfl ?_
      refine RL.done ?_
      refine RK.ret_of Tryz.func50 (res1 rfl rfl) ?_ _
      exact ⟨_, rfl, ⟨_, rfl⟩, hg⟩
  · iterate 3 refine RL.no (.no rfl rfl rfl rfl) rfl rfl ?_
    refine RL.p rfl rfl ?_
    refine RL.done ?_
    refine RK.condF rfl ?_
    refine RK.exit rfl ?_
    refine RK.seq ?_
    refine RK.region ?_
    iterate 3 refine RL.p rfl rfl ?_
    refine RL.q (.free rfl) rfl rfl (Yld.min2 rfl rfl) ?_
    refine RL.p rfl rfl ?_
    refine RL.done ?_
    refine RK.ret_of Tryz.func50 (res1 rfl rfl) ?_ _
    exact ⟨_, rfl, ⟨_, rfl⟩, hg⟩
noncomputable def thoseS (al : List Al) (ms : List Mt) : List Int := (al.filter fun a => ms.all fun m => holdsM m a.ls).map (·.id)
theorem thoseS_snoc {al : List Al} {j : Nat} {a : Al} (h : al[j]? = some a) (ms : List Mt) : thoseS (al.take (j + 1)) ms = thoseS (al.take j) ms ++ (if (ms.all fun m => holdsM m a.ls) = true then [a.id] else []) := by
  have hj := (List.getElem?_eq_some_iff.1 h).1
  unfold thoseS
  rw [List.take_succ_eq_append_getElem hj, (List.getElem?_eq_some_iff.1 h).2, List.filter_append, List.map_append]
  by_cases e : (ms.all fun m => holdsM m a.ls) = true <;> simp only [List.filter_cons, List.filter_nil, e, if_true, if_false] <;> simp
theorem thoseS_len (al : List Al) (ms : List Mt) : (thoseS al ms).length ≤ al.length := by unfold thoseS; rw [List.length_map]; exact List.length_filter_le _ _
theorem mem_thoseS {al : List Al} {ms : List Mt} {id : Int} : id ∈ thoseS al ms ↔ ∃ ls, (id, ls) ∈ hasOf (al.map pub) ∧ (ms.all fun m => holdsM m ls) = true := by
  unfold thoseS
  constructor
  · intro h
    obtain ⟨a, ha, rfl⟩ := List.mem_map.1 h
    obtain ⟨h1, h2⟩ := List.mem_filter.1 ha
    exact ⟨a.ls, List.mem_map.2 ⟨pub a, List.mem_map_of_mem (f := pub) h1, rfl⟩, h2⟩
  · rintro ⟨ls, h1, h2⟩
    obtain ⟨t, ht, e2⟩ := List.mem_map.1 h1
    obtain ⟨a, ha, rfl⟩ := List.mem_map.1 ht
    simp only [pub, Prod.mk.injEq] at e2
    obtain ⟨rfl, rfl⟩ := e2
    exact List.mem_map.2 ⟨a, List.mem_filter.2 ⟨ha, h2⟩, rfl⟩
theorem those_ok (al : List Al) (ms : List Mt) (hn : ∀ m ∈ ms, m.name.size ≤ 9223372036854775807) (v vm : Value) (w : World) (hb : al.length ≤ 1000) (hv : Sl No w v 3 al.length (al.flatMap alC)) (hls : ∀ a ∈ al, SlL No w a.v a.ls) (hz : ∀ a ∈ al, ∀ x ∈ a.ls, x.value.size ≤ 100000) (hm : SlM No w vm ms) :
    Fx Tryz.prog 47 [v, vm] w (fun u w' => Row w' 3 1 u (rise (thoseS al ms)).length (ints (rise (thoseS al ms))) ∧ Fresh w.heap.size u ∧ Grow w w') := by
  obtain ⟨ad, c, rfl⟩ := hv.shape
  obtain ⟨adm, cm, hvm⟩ := hm.shape
  refine enter Tryz.func47 rfl rfl rfl _ (Pick.sub (l := [0, 1]) (.cons rfl (.cons rfl .nil))) ?_
  refine RK.seq ?_
  refine RK.region ?_
  refine RL.p rfl rfl ?_
  refine RL.done ?_
  refine RK.seq ?_
  refine RK.region ?_
  refine RL.p rfl rfl ?_
  refine RL.done ?_
  iterate 2 refine RK.seq ?_
  refine RK.region ?_
  refine RL.p rfl rfl ?_
  refine RL.done ?_
  refine RK.block ?_
  refine RK.loop (fun s : Nat × Value => [(0, .slice ad al.length c), (1, vm), (5, s.2), (6, .int .i64 (s.1 : Int))]) (fun s w' => Row w' 3 1 s.2 (thoseS (al.take s.1) ms).length (ints (thoseS (al.take s.1) ms)) ∧ Fresh w.heap.size s.2 ∧ Grow w w' ∧ s.1 ≤ al.length) (fun s => al.length - s.1) (0, .slice none 0 0) ⟨rfl, rfl, rfl, rfl, trivial⟩ ⟨by simpa [thoseS] using Row.nil _ _ _, fun b e => by simp [Value.ownBlock] at e, Mod.refl _ _, by simp⟩ (fun s w' hI ih => ?_)
  obtain ⟨k, u⟩ := s
  obtain ⟨hr, hf, hg, hk⟩ := hI
  simp only at hr hf hk
  iterate 2 refine RK.seq ?_
  refine RK.region ?_
  iterate 2 refine RL.p rfl rfl ?_
  refine RL.q (.free rfl) rfl rfl (Yld.lenSl u58 rfl) ?_
  refine RL.p rfl rfl ?_
  refine RL.done ?_
  first | refine RK.condD rfl (fun h10 => ?_) (fun h10 => ?_) | refine RK.condN rfl (fun h10 => ?_) (fun h10 => ?_) | refine RK.cond rfl (fun h10 => ?_) (fun h10 => ?_)
  · obtain ⟨a, ha⟩ : ∃ a, al[k]? = some a := ⟨al[k]'(by omega), List.getElem?_eq_getElem (by omega)⟩
    obtain ⟨b1, o1, c1', he1, _, _, hc1⟩ := hv.elem alC_len ha
    cases he1
    have hsn := thoseS_snoc ha ms
    have hwl := thoseS_len (al.take k) ms
    have hwl2 : (al.take k).length ≤ k := by simp; omega
    refine RK.skip ?_
    refine RK.seq ?_
    refine RK.block ?_
    refine RK.seq ?_
    refine RK.region ?_
    iterate 3 refine RL.p rfl rfl ?_
    refine RL.q (.free rfl) rfl rfl (Yld.indexAddrN u58 i32 rfl rfl (by omega)) ?_
    refine RL.q (.free rfl) rfl rfl (Yld.fieldAddr fo32_1 rfl) ?_
    refine RL.q (.free rfl) rfl rfl (Yld.load p26 rfl (at1 (hg.cell (hc1 1 _ rfl) (fun h => h)))) ?_
    refine RL.op (.free rfl) rfl rfl (Does.call rfl e102 (allR_ok ms hn No No a.ls (hz a (List.mem_of_getElem? ha)) _ _ _ (hm.mod hg) ((hls a (List.mem_of_getElem? ha)).mod hg))) ?_
    rintro _ w2 ⟨rfl, hg2⟩
    have hg02 := hg.trans hg2
    refine RL.done ?_
    first | refine RK.condD rfl (fun h19 => ?_) (fun h19 => ?_) | refine RK.condN rfl (fun h19 => ?_) (fun h19 => ?_) | refine RK.cond rfl (fun h19 => ?_) (fun h19 => ?_)
    · refine RK.region ?_
      iterate 3 refine RL.p rfl rfl ?_
      refine RL.q (.free rfl) rfl rfl (Yld.indexAddrN u58 i32 rfl rfl (by omega)) ?_
      refine RL.q (.free rfl) rfl rfl (Yld.fieldAddr fo32_0 rfl) ?_
      refine RL.q (.free rfl) rfl rfl (Yld.load p3 rfl (at1 (hg02.cell (hc1 0 _ rfl) (fun h => h)))) ?_
      refine RL.op (.free rfl) rfl rfl (Does.slice1 u22 i3 rfl rfl rfl rfl rfl) ?_
      rintro _ w10 ⟨b7, rfl, hn7⟩
      refine RL.op (.free rfl) rfl rfl (Does.append u22 i3 rfl rfl rfl rfl rfl ((hr.mod hg2 (fun _ _ h => h)).mod hn7.grow (fun _ _ h => h)) (Sl.new hn7 1 1 rfl (by omega) (fun h => h)) (rfl) (by omega)) ?_
      rintro u11 w11 ⟨hr11, hm11, hu11⟩
      have hs10 := hn7.grow.size
      have hs8 := hg02.size
      refine RL.p rfl rfl ?_
      refine RL.done ?_
      refine RK.inBlock ?_
      refine RK.region ?_
      iterate 2 refine RL.p rfl rfl ?_
      refine RL.re (d := 12) rfl rfl (succ_i64 (by omega)) ?_
      refine RL.p rfl rfl ?_
      refine RL.done ?_
      exact RK.back (ih (k + 1, u11) _ ⟨by
          simp only
          rw [hsn, if_pos h19]
          have e1 : ints (thoseS (al.take k) ms ++ [a.id]) = ints (thoseS (al.take k) ms) ++ (Value.int .i64 a.id).cells.toList := by simp [ints, Value.cells]
          rw [e1, List.length_append]; exact hr11, fun b e => by
          rcases hu11 with h1 | h1
          · exact hf b (h1 ▸ e)
          · rw [h1] at e; cases e; omega, (hg02.trans hn7.grow).then hm11 (fun b hb e => by have := hf b e; omega), by simp only; omega⟩ (by simp only; omega)) ⟨rfl, rfl, rfl, rfl, trivial⟩
    · refine RK.skip ?_
      refine RK.inBlock ?_
      refine RK.region ?_
      iterate 2 refine RL.p rfl rfl ?_
      refine RL.re (d := 12) rfl rfl (succ_i64 (by omega)) ?_
      refine RL.p rfl rfl ?_
      refine RL.done ?_
      exact RK.back (ih (k + 1, u) _ ⟨by simp only; rw [hsn, if_neg (by simpa using h19), List.append_nil]; exact hr.mod hg2 (fun _ _ h => h), hf, hg02, by simp only; omega⟩ (by simp only; omega)) ⟨rfl, rfl, rfl, rfl, trivial⟩
  · have ek : al.take k = al := List.take_of_length_le (by omega)
    rw [ek] at hr
    have hwl := thoseS_len al ms
    refine RK.exit rfl ?_
    refine RK.seq ?_
    refine RK.region ?_
    refine RL.p rfl rfl ?_
    refine RL.op (.free rfl) rfl rfl (Does.call rfl e44 (rising_ok No (thoseS al ms) u _ (Sl.own hr (fun _ _ h => h)) (by omega))) ?_
    rintro u2 w2 ⟨hr2, hf2, hg2⟩
    refine RL.p rfl rfl ?_
    refine RL.done ?_
    refine RK.ret_of Tryz.func47 (res1 rfl rfl) ?_ _
    exact ⟨_, rfl, hr2, fun b e => by have := hf2 b e; have := hg.size; omega, hg.trans hg2⟩
end Go.Proofs.YtffbcfcoddacmaaGreat
