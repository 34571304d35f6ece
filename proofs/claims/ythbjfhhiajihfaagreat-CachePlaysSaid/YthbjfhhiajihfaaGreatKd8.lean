/- What the claim stands on, part 8. Of own lemmas only those that it reaches. -/
import Derived.Test.YthbjfhhiajihfaaGreatKd7
set_option linter.unusedVariables false
set_option linter.unusedSimpArgs false
set_option maxHeartbeats 1000000
set_option maxRecDepth 100000
namespace Go.Proofs.YthbjfhhiajihfaaGreat
open Go Go.X Go.Rex
structure Dm where
 k : Int
 n : Int
 v : Int
def dmC (d : Dm) : List Value := [.int .i64 d.k, .int .i64 d.n, .int .i64 d.v]
theorem dmC_len (d : Dm) : (dmC d).length = 3 := rfl
def ptL : List ByteArray := [⟨#[97, 124, 98]⟩, ⟨#[]⟩, ⟨#[40, 99, 114, 105, 116, 124, 119, 97, 114, 110, 41]⟩, ⟨#[91, 97, 45, 99, 93, 43, 46, 42]⟩, ⟨#[46, 43]⟩, ⟨#[40, 97, 98, 41, 42]⟩, ⟨#[97, 63, 98, 63]⟩, ⟨#[91, 94, 97, 93, 42]⟩, ⟨#[97, 42, 97, 42, 97, 42, 97, 42, 97, 42, 97, 42, 97, 42, 97, 42, 97, 42, 97, 42, 97, 42, 97, 42, 97, 42, 97, 42]⟩]
def ptS (n : Int) : ByteArray := ptL.getD (inS n 0 8).toNat ByteArray.empty
theorem pt_get : ∀ q, q < 9 → (ptL.map Value.string).toArray[q]? = some (.string (ptL.getD q ByteArray.empty)) := by
 intro q hq
 rcases q with _ | _ | _ | _ | _ | _ | _ | _ | _ | q <;> first | rfl | omega
theorem ptK_ok (n : Int) (w : World) : Fx Tryz.prog 194 [.int .i64 n] w (fun u w' => u = .string (ptS n) ∧ w = w') := by
 have hr := in_range n (lo := 0) (hi := 8) (by omega)
 refine enter Tryz.func194 rfl rfl rfl _ (Pick.sub (l := [0]) (.cons rfl .nil)) ?_
 refine GG ?_
 refine QQ (Yld.build (v := .agg (ptL.map Value.string).toArray) rfl (fun w => by kernel_rfl)) ?_
 refine RL.p rfl rfl ?_
 refine OP (Does.call rfl e147 (in_ok n 0 8 (by omega) (by omega) (by omega) _)) ?_
 rintro _ _ ⟨rfl, rfl⟩
 have hq : inS n 0 8 = (((inS n 0 8).toNat : Nat) : Int) := by omega
 rw [hq]
 refine QQ (Yld.idxArr Tryz.underlying279 i9 p9 rfl rfl (by omega) (pt_get _ (by omega))) ?_
 refine GG ?_
 refine RK.ret_of Tryz.func194 (res1 rfl rfl) ?_ _
 exact ⟨_, rfl, rfl, rfl⟩
def matOf (d : Dm) : Mt := ⟨inS d.k 1 4, nmS d.n, if inS d.k 1 4 < 3 then (if d.v < 0 then ⟨#[]⟩ else vlS d.v) else ptS d.v⟩
theorem matK_ok (d : Dm) (w : World) : Fx Tryz.prog 139 [.agg (dmC d).toArray] w (fun u w' => u = .agg (mtC (matOf d)).toArray ∧ Grow w w') := by
 refine enter Tryz.func139 rfl rfl rfl _ (Pick.sub (l := [0]) (.cons rfl .nil)) ?_
 refine GG ?_
 refine OP (Does.box rfl) ?_
 rintro _ w1 ⟨b1, rfl, hn1⟩
 have hB1 : Blk w1 b1 196 [.int .i64 d.k, .int .i64 d.n, .int .i64 d.v] := hn1.blk
 refine OP (Does.alloc i135) ?_
 rintro _ w2 ⟨b2, rfl, hn2⟩
 have hB2 := hB1.mod hn2.grow (fun h => h)
 have hb2 := hn2.at_
 have hs1 := hn1.size
 have hs2 := hn2.size
 refine RL.done ?_
 refine RK.seq ?_
 refine RK.cutS (fun b3 : Nat => [(1, pp b1), (2, pp b2), (3, pp b3)]) (fun b3 w' => w2.heap.size ≤ b3 ∧ Blk w' b3 135 [.int .i64 (inS d.k 1 4), .string (nmS d.n), .string (ptS d.v)] ∧ Grow w2 w') (fun b3 w3 hQ => ?_) (fun hj => ?_)
 ·obtain ⟨hb3, hB3, hg3⟩ := hQ
  have hb13 : b1 ≠ b3 := by have := hB2.lt; omega
  have hBd := hB2.mod hg3 (fun h => h)
  have hR := hn2.blk.mod hg3 (fun h => h)
  refine RK.seq ?_
  refine RK.cut [(2, pp b2), (3, pp b3)] (fun w' => Blk w' b3 135 (mtC (matOf d)) ∧ Mod (· = b3) w3 w') (fun w4 hQ4 => ?_) (fun hj4 => ?_)
  ·obtain ⟨hB4, hm4⟩ := hQ4
   refine GG ?_
   refine QQ (Yld.loadN (cs := mtC (matOf d)) a135 rfl (atN (blk0' hB4))) ?_
   refine OQ (Does.storeN i135 rfl rfl rfl rfl (hR.mod hm4 (by omega)) (Nat.le_refl 3)) ?_
   rintro _ w5 ⟨hb5, hm5, _⟩
   refine RL.done ?_
   refine RK.ret_of Tryz.func139 (resC (cs := mtC (matOf d)) rfl rfl a135 hb5) ?_ _
   exact ⟨_, rfl, rfl, (((hn1.grow.trans hn2.grow).trans hg3).then hm4 (fun y hy e => by have e' : y = b3 := e; omega)).then hm5 (fun y hy e => by have e' : y = b2 := e; omega)⟩
  ·refine GG ?_
   refine QQ (Yld.fieldAddr fo135_0 rfl) ?_
   refine QQ (Yld.load p3 rfl (at1 (hB3.cell rfl))) ?_
   refine GG ?_
   refine CD (fun h16 => ?_) (fun h16 => ?_)
   ·refine GG ?_
    refine QQ (Yld.fieldAddr fo196_2 rfl) ?_
    refine QQ (Yld.load p3 rfl (at1 (hBd.cell rfl))) ?_
    refine OP (Does.call rfl e84 (vlK_ok _ _)) ?_
    rintro _ _ ⟨rfl, rfl⟩
    refine QQ (Yld.fieldAddr fo135_2 rfl) ?_
    refine OQ (Does.store i9 rfl rfl rfl hB3 (.s (.s .z))) ?_
    rintro _ w4 ⟨hb4, hm4, _⟩
    refine GG ?_
    refine QQ (Yld.fieldAddr fo196_2 rfl) ?_
    refine QQ (Yld.load p3 rfl (at1 ((hBd.mod hm4 hb13).cell rfl))) ?_
    refine GG ?_
    refine CD (fun h23 => ?_) (fun h23 => ?_)
    ·refine RK.region ?_
     refine QQ (Yld.fieldAddr fo135_2 rfl) ?_
     refine OQ (Does.store i9 rfl rfl rfl hb4 (.s (.s .z))) ?_
     rintro _ w5 ⟨hb5, hm5, _⟩
     refine RL.done ?_
     exact RK.back (hj4 _ ⟨by unfold matOf; rw [if_pos h16, if_pos h23]; exact hb5, hm4.trans hm5⟩) ⟨rfl, rfl, trivial⟩
    ·refine RK.skip ?_
     exact RK.back (hj4 _ ⟨by unfold matOf; rw [if_pos h16, if_neg h23]; exact hb4, hm4⟩) ⟨rfl, rfl, trivial⟩
   ·refine RK.skip ?_
    exact RK.back (hj4 _ ⟨by unfold matOf; rw [if_neg h16]; exact hB3, Mod.refl _ _⟩) ⟨rfl, rfl, trivial⟩
 ·refine RK.drawT No (.op 0 false (.op 1 false (.op 3 false (.op 4 false (.op 6 false (.op 7 false (.fork 2 (.fork 5 (.fork 8 (.op 9 false (.op 10 true (.op 11 true .nil))) 10 (.op 8 true (.op 9 false (.op 11 true .nil)))) 10 (.op 5 true (.op 8 true (.op 9 false (.op 11 true .nil))))) 10 (.op 2 true (.op 5 true (.op 8 true (.op 9 false (.op 11 true .nil)))))))))))) [] mixed (by kernel_rfl) ?_
  refine DT.qf rfl (.free rfl) rfl rfl (Yld.fieldAddr fo196_0 rfl) ?_
  refine DT.q rfl (.free rfl) rfl rfl rfl (Yld.load p3 rfl (atM (hB2.cell rfl) (fun h => h))) (Mod.drew _ _) ?_
  refine DT.qf rfl (.free rfl) rfl rfl (Yld.fieldAddr fo196_1 rfl) ?_
  refine DT.q rfl (.free rfl) rfl rfl rfl (Yld.load p3 rfl (atM (hB2.cell rfl) (fun h => h))) (Mod.drew _ _) ?_
  refine DT.qf rfl (.free rfl) rfl rfl (Yld.fieldAddr fo196_2 rfl) ?_
  refine DT.q rfl (.free rfl) rfl rfl rfl (Yld.load p3 rfl (atM (hB2.cell rfl) (fun h => h))) (Mod.drew _ _) ?_
  refine DT.fork ?_ ?_
  ·refine DT.op rfl (.free rfl) rfl rfl (Does.call rfl e147 (in_ok d.k 1 4 (by omega) (by omega) (by omega) _)) ?_
   rintro _ _ ⟨rfl, rfl⟩
   refine ⟨Mod.drew _ _, ?_⟩
   refine DT.fork ?_ ?_
   ·refine DT.op rfl (.free rfl) rfl rfl (Does.call rfl e80 (nmK_ok _ _)) ?_
    rintro _ _ ⟨rfl, rfl⟩
    refine ⟨Mod.drew _ _, ?_⟩
    refine DT.fork ?_ ?_
    ·refine DT.op rfl (.free rfl) rfl rfl (Does.call rfl e194 (ptK_ok _ _)) ?_
     rintro _ _ ⟨rfl, rfl⟩
     refine ⟨Mod.drew _ _, ?_⟩
     refine DT.qf rfl (.free rfl) rfl rfl (Yld.build (v := .agg #[.int .i64 (inS d.k 1 4), .string (nmS d.n), .string (ptS d.v)]) rfl (fun w => by kernel_rfl)) ?_
     refine DT.op rfl (.free rfl) rfl rfl (Does.alloc i135) ?_
     rintro _ w3 ⟨b3, rfl, hn3⟩
     refine ⟨(Mod.drew _ _).trans hn3.grow, ?_⟩
     refine DT.op' rfl (.free rfl) rfl (Does.storeN i135 rfl rfl rfl rfl hn3.blk (Nat.le_refl 3)) ?_
     rintro _ w4 ⟨hb4, hm4, _⟩
     have hg4 := ((Mod.drew No _).trans hn3.grow).then hm4 (fun y hy e => by have e' : y = b3 := e; have hb3 := hn3.at_; simp only [World.drew] at hb3; omega)
     have hle3 : w2.heap.size ≤ b3 := by have hb3 := hn3.at_; simp only [World.drew] at hb3; omega
     refine ⟨hg4, ?_⟩
     refine DT.done ?_
     exact RK.back (hj b3 _ ⟨hle3, hb4, hg4⟩) ⟨rfl, rfl, rfl, trivial⟩
    ·refine DT.op rfl (.free rfl) rfl rfl (Does.alloc i135) ?_
     rintro _ w3 ⟨b3, rfl, hn3⟩
     refine ⟨(Mod.drew _ _).trans hn3.grow, ?_⟩
     refine DT.op rfl (.free rfl) rfl rfl (Does.call rfl e194 (ptK_ok _ _)) ?_
     rintro _ _ ⟨rfl, rfl⟩
     refine ⟨(Mod.drew _ _).trans hn3.grow, ?_⟩
     refine DT.qf rfl (.free rfl) rfl rfl (Yld.build (v := .agg #[.int .i64 (inS d.k 1 4), .string (nmS d.n), .string (ptS d.v)]) rfl (fun w => by kernel_rfl)) ?_
     refine DT.op' rfl (.free rfl) rfl (Does.storeN i135 rfl rfl rfl rfl hn3.blk (Nat.le_refl 3)) ?_
     rintro _ w4 ⟨hb4, hm4, _⟩
     have hg4 := ((Mod.drew No _).trans hn3.grow).then hm4 (fun y hy e => by have e' : y = b3 := e; have hb3 := hn3.at_; simp only [World.drew] at hb3; omega)
     have hle3 : w2.heap.size ≤ b3 := by have hb3 := hn3.at_; simp only [World.drew] at hb3; omega
     refine ⟨hg4, ?_⟩
     refine DT.done ?_
     exact RK.back (hj b3 _ ⟨hle3, hb4, hg4⟩) ⟨rfl, rfl, rfl, trivial⟩
   ·refine DT.op rfl (.free rfl) rfl rfl (Does.alloc i135) ?_
    rintro _ w3 ⟨b3, rfl, hn3⟩
    refine ⟨(Mod.drew _ _).trans hn3.grow, ?_⟩
    refine DT.op rfl (.free rfl) rfl rfl (Does.call rfl e80 (nmK_ok _ _)) ?_
    rintro _ _ ⟨rfl, rfl⟩
    refine ⟨(Mod.drew _ _).trans hn3.grow, ?_⟩
    refine DT.op rfl (.free rfl) rfl rfl (Does.call rfl e194 (ptK_ok _ _)) ?_
    rintro _ _ ⟨rfl, rfl⟩
    refine ⟨(Mod.drew _ _).trans hn3.grow, ?_⟩
    refine DT.qf rfl (.free rfl) rfl rfl (Yld.build (v := .agg #[.int .i64 (inS d.k 1 4), .string (nmS d.n), .string (ptS d.v)]) rfl (fun w => by kernel_rfl)) ?_
    refine DT.op' rfl (.free rfl) rfl (Does.storeN i135 rfl rfl rfl rfl hn3.blk (Nat.le_refl 3)) ?_
    rintro _ w4 ⟨hb4, hm4, _⟩
    have hg4 := ((Mod.drew No _).trans hn3.grow).then hm4 (fun y hy e => by have e' : y = b3 := e; have hb3 := hn3.at_; simp only [World.drew] at hb3; omega)
    have hle3 : w2.heap.size ≤ b3 := by have hb3 := hn3.at_; simp only [World.drew] at hb3; omega
    refine ⟨hg4, ?_⟩
    refine DT.done ?_
    exact RK.back (hj b3 _ ⟨hle3, hb4, hg4⟩) ⟨rfl, rfl, rfl, trivial⟩
  ·refine DT.op rfl (.free rfl) rfl rfl (Does.alloc i135) ?_
   rintro _ w3 ⟨b3, rfl, hn3⟩
   refine ⟨(Mod.drew _ _).trans hn3.grow, ?_⟩
   refine DT.op rfl (.free rfl) rfl rfl (Does.call rfl e147 (in_ok d.k 1 4 (by omega) (by omega) (by omega) _)) ?_
   rintro _ _ ⟨rfl, rfl⟩
   refine ⟨(Mod.drew _ _).trans hn3.grow, ?_⟩
   refine DT.op rfl (.free rfl) rfl rfl (Does.call rfl e80 (nmK_ok _ _)) ?_
   rintro _ _ ⟨rfl, rfl⟩
   refine ⟨(Mod.drew _ _).trans hn3.grow, ?_⟩
   refine DT.op rfl (.free rfl) rfl rfl (Does.call rfl e194 (ptK_ok _ _)) ?_
   rintro _ _ ⟨rfl, rfl⟩
   refine ⟨(Mod.drew _ _).trans hn3.grow, ?_⟩
   refine DT.qf rfl (.free rfl) rfl rfl (Yld.build (v := .agg #[.int .i64 (inS d.k 1 4), .string (nmS d.n), .string (ptS d.v)]) rfl (fun w => by kernel_rfl)) ?_
   refine DT.op' rfl (.free rfl) rfl (Does.storeN i135 rfl rfl rfl rfl hn3.blk (Nat.le_refl 3)) ?_
   rintro _ w4 ⟨hb4, hm4, _⟩
   have hg4 := ((Mod.drew No _).trans hn3.grow).then hm4 (fun y hy e => by have e' : y = b3 := e; have hb3 := hn3.at_; simp only [World.drew] at hb3; omega)
   have hle3 : w2.heap.size ≤ b3 := by have hb3 := hn3.at_; simp only [World.drew] at hb3; omega
   refine ⟨hg4, ?_⟩
   refine DT.done ?_
   exact RK.back (hj b3 _ ⟨hle3, hb4, hg4⟩) ⟨rfl, rfl, rfl, trivial⟩
@[irreducible] def aheadM (x y : Mt) : Bool := if x.name ≠ y.name then slt x.name y.name else if x.kind ≠ y.kind then decide (x.kind < y.kind) else slt x.value y.value
theorem ahead_ok (x y : Mt) (w : World) : Fx Tryz.prog 140 [.agg (mtC x).toArray, .agg (mtC y).toArray] w (fun u w' => u = .bool (aheadM x y) ∧ Grow w w') := by
 refine enter Tryz.func140 rfl rfl rfl _ (Pick.sub (l := [0, 1]) (.cons rfl (.cons rfl .nil))) ?_
 refine GG ?_
 refine OP (Does.box rfl) ?_
 rintro _ w1 ⟨b1, rfl, hn1⟩
 refine OP (Does.box rfl) ?_
 rintro _ w2 ⟨b2, rfl, hn2⟩
 have hB1 : Blk w2 b1 135 [.int .i64 x.kind, .string x.name, .string x.value] := hn1.blk.mod hn2.grow (fun h => h)
 have hB2 : Blk w2 b2 135 [.int .i64 y.kind, .string y.name, .string y.value] := hn2.blk
 have hg2 := hn1.grow.trans hn2.grow
 refine GG ?_
 refine QQ (Yld.fieldAddr fo135_1 rfl) ?_
 refine QQ (Yld.load p9 rfl (at1 (hB1.cell rfl))) ?_
 refine QQ (Yld.fieldAddr fo135_1 rfl) ?_
 refine QQ (Yld.load p9 rfl (at1 (hB2.cell rfl))) ?_
 refine GG ?_
 refine CD (fun h9 => ?_) (fun h9 => ?_)
 ·refine GG ?_
  refine QQ (Yld.fieldAddr fo135_1 rfl) ?_
  refine QQ (Yld.load p9 rfl (at1 (hB1.cell rfl))) ?_
  refine QQ (Yld.fieldAddr fo135_1 rfl) ?_
  refine QQ (Yld.load p9 rfl (at1 (hB2.cell rfl))) ?_
  refine GG ?_
  refine RK.ret_of Tryz.func140 (res1 rfl rfl) ?_ _
  exact ⟨_, rfl, by unfold aheadM; rw [if_pos h9], hg2⟩
 ·refine GG ?_
  refine QQ (Yld.fieldAddr fo135_0 rfl) ?_
  refine QQ (Yld.load p3 rfl (at1 (hB1.cell rfl))) ?_
  refine QQ (Yld.fieldAddr fo135_0 rfl) ?_
  refine QQ (Yld.load p3 rfl (at1 (hB2.cell rfl))) ?_
  refine GG ?_
  refine CD (fun h19 => ?_) (fun h19 => ?_)
  ·refine GG ?_
   refine QQ (Yld.fieldAddr fo135_0 rfl) ?_
   refine QQ (Yld.load p3 rfl (at1 (hB1.cell rfl))) ?_
   refine QQ (Yld.fieldAddr fo135_0 rfl) ?_
   refine QQ (Yld.load p3 rfl (at1 (hB2.cell rfl))) ?_
   refine GG ?_
   refine RK.ret_of Tryz.func140 (res1 rfl rfl) ?_ _
   exact ⟨_, rfl, by unfold aheadM; rw [if_neg (fun h => h h9), if_pos h19], hg2⟩
  ·refine GG ?_
   refine QQ (Yld.fieldAddr fo135_2 rfl) ?_
   refine QQ (Yld.load p9 rfl (at1 (hB1.cell rfl))) ?_
   refine QQ (Yld.fieldAddr fo135_2 rfl) ?_
   refine QQ (Yld.load p9 rfl (at1 (hB2.cell rfl))) ?_
   refine GG ?_
   refine RK.ret_of Tryz.func140 (res1 rfl rfl) ?_ _
   exact ⟨_, rfl, by unfold aheadM; rw [if_neg (fun h => h h9), if_neg h19], hg2⟩
theorem before_ok (x y : Mt) (w : World) : Fx Tryz.prog 119 [.agg (mtC x).toArray, .agg (mtC y).toArray] w (fun u w' => u = .bool (aheadM x y) ∧ Grow w w') := by
 refine enter Tryz.func119 rfl rfl rfl _ (Pick.sub (l := [0, 1]) (.cons rfl (.cons rfl .nil))) ?_
 refine GG ?_
 refine OP (Does.box rfl) ?_
 rintro _ w1 ⟨b1, rfl, hn1⟩
 refine OP (Does.box rfl) ?_
 rintro _ w2 ⟨b2, rfl, hn2⟩
 have hB1 : Blk w2 b1 135 [.int .i64 x.kind, .string x.name, .string x.value] := hn1.blk.mod hn2.grow (fun h => h)
 have hB2 : Blk w2 b2 135 [.int .i64 y.kind, .string y.name, .string y.value] := hn2.blk
 have hg2 := hn1.grow.trans hn2.grow
 refine GG ?_
 refine QQ (Yld.fieldAddr fo135_1 rfl) ?_
 refine QQ (Yld.load p9 rfl (at1 (hB1.cell rfl))) ?_
 refine QQ (Yld.fieldAddr fo135_1 rfl) ?_
 refine QQ (Yld.load p9 rfl (at1 (hB2.cell rfl))) ?_
 refine GG ?_
 refine CD (fun h9 => ?_) (fun h9 => ?_)
 ·refine GG ?_
  refine QQ (Yld.fieldAddr fo135_1 rfl) ?_
  refine QQ (Yld.load p9 rfl (at1 (hB1.cell rfl))) ?_
  refine QQ (Yld.fieldAddr fo135_1 rfl) ?_
  refine QQ (Yld.load p9 rfl (at1 (hB2.cell rfl))) ?_
  refine GG ?_
  refine RK.ret_of Tryz.func119 (res1 rfl rfl) ?_ _
  exact ⟨_, rfl, by unfold aheadM; rw [if_pos h9], hg2⟩
 ·refine GG ?_
  refine QQ (Yld.fieldAddr fo135_0 rfl) ?_
  refine QQ (Yld.load p3 rfl (at1 (hB1.cell rfl))) ?_
  refine QQ (Yld.fieldAddr fo135_0 rfl) ?_
  refine QQ (Yld.load p3 rfl (at1 (hB2.cell rfl))) ?_
  refine GG ?_
  refine CD (fun h19 => ?_) (fun h19 => ?_)
  ·refine GG ?_
   refine QQ (Yld.fieldAddr fo135_0 rfl) ?_
   refine QQ (Yld.load p3 rfl (at1 (hB1.cell rfl))) ?_
   refine QQ (Yld.fieldAddr fo135_0 rfl) ?_
   refine QQ (Yld.load p3 rfl (at1 (hB2.cell rfl))) ?_
   refine GG ?_
   refine RK.ret_of Tryz.func119 (res1 rfl rfl) ?_ _
   exact ⟨_, rfl, by unfold aheadM; rw [if_neg (fun h => h h9), if_pos h19], hg2⟩
  ·refine GG ?_
   refine QQ (Yld.fieldAddr fo135_2 rfl) ?_
   refine QQ (Yld.load p9 rfl (at1 (hB1.cell rfl))) ?_
   refine QQ (Yld.fieldAddr fo135_2 rfl) ?_
   refine QQ (Yld.load p9 rfl (at1 (hB2.cell rfl))) ?_
   refine GG ?_
   refine RK.ret_of Tryz.func119 (res1 rfl rfl) ?_ _
   exact ⟨_, rfl, by unfold aheadM; rw [if_neg (fun h => h h9), if_neg h19], hg2⟩
theorem mt_ext {x y : Mt} (h : y.kind = x.kind ∧ y.name = x.name ∧ y.value = x.value) : y = x := by cases x; cases y; obtain ⟨rfl, rfl, rfl⟩ := h; rfl
theorem mt_eqs {x y : Mt} (h : y = x) : y.kind = x.kind ∧ y.name = x.name ∧ y.value = x.value := by subst h; exact ⟨rfl, rfl, rfl⟩
def insM (L : List Mt) (x : Mt) : List Mt := if 0 < pos aheadM x L ∧ L[pos aheadM x L - 1]? = some x then L else insE aheadM L x
def matF : List Dm → List Mt → List Mt
 | [], out => out
 | d :: l, out => if out.length < 5 then matF l (insM out (matOf d)) else out
def sevM : Mt := ⟨1, ⟨#[115, 101, 118]⟩, ⟨#[97]⟩⟩
def matsS (l : List Dm) (must : Bool) : List Mt := if must = true ∧ matF l [] = [] then [sevM] else matF l []
theorem pos_le {α : Type} (lt : α → α → Bool) (x : α) (L : List α) : pos lt x L ≤ L.length := by unfold pos; omega
theorem insM_len (L : List Mt) (x : Mt) : (insM L x).length ≤ L.length + 1 := by
 unfold insM
 have := pos_le aheadM x L
 split
 ·omega
 ·unfold insE; simp; omega
theorem matF_len : ∀ (l : List Dm) (out : List Mt), out.length ≤ 5 → (matF l out).length ≤ 5
 | [], out, h => h
 | d :: l, out, h => by
  unfold matF
  split
  ·exact matF_len l _ (by have := insM_len out (matOf d); omega)
  ·exact h
theorem matsS_len (l : List Dm) (must : Bool) : (matsS l must).length ≤ 5 := by
 unfold matsS
 split
 ·simp
 ·exact matF_len l [] (by simp)
theorem allOne_mts (xs : List Mt) : ((xs.flatMap mtC).all fun x => x.oneCell') = true := by
 rw [List.all_eq_true]
 intro u hu
 obtain ⟨x, _, hx⟩ := List.mem_flatMap.1 hu
 simp only [mtC, List.mem_cons, List.not_mem_nil, or_false] at hx
 rcases hx with rfl | rfl | rfl <;> rfl
theorem matOf_name (d : Dm) : (matOf d).name ∈ nmL := nm_mem _
theorem matF_name : ∀ (l : List Dm) (out : List Mt), (∀ m ∈ out, m.name ∈ nmL) → ∀ m ∈ matF l out, m.name ∈ nmL
 | [], out, h => h
 | d :: l, out, h => by
  unfold matF
  split
  ·refine matF_name l _ fun m hm => ?_
   unfold insM at hm
   split at hm
   ·exact h m hm
   ·rcases mem_insE.1 hm with h1 | rfl
    ·exact h m h1
    ·exact matOf_name d
  ·exact h
theorem matsS_name (l : List Dm) (must : Bool) : ∀ m ∈ matsS l must, m.name.size ≤ 9223372036854775807 := by
 intro m hm
 have h1 : m.name ∈ nmL := by
  unfold matsS at hm
  split at hm
  ·simp at hm; subst hm; simp [sevM, nmL]
  ·exact matF_name l [] (by simp) m hm
 have := (nmL_ok _ h1).2.2
 omega
theorem mats_ok (M : Nat → Prop) (ds : List Dm) (must : Bool) (v : Value) (w : World) (hv : Sl M w v 3 ds.length (ds.flatMap dmC)) :
    Fx Tryz.prog 72 [v, .bool must] w (fun u w' => Row w' 135 3 u (matsS ds must).length ((matsS ds must).flatMap mtC) ∧ Fresh w.heap.size u ∧ Grow w w') := by
  obtain ⟨ad, c, rfl⟩ := hv.shape
  have hbig := hv.big
  refine enter Tryz.func72 rfl rfl rfl _ (Pick.sub (l := [0, 1]) (.cons rfl (.cons rfl .nil))) ?_
  refine RK.seq ?_
  refine RK.region ?_
  refine RL.p rfl rfl ?_
  refine RL.done ?_
  refine RK.seq ?_
  refine RK.region ?_
  refine RL.p rfl rfl ?_
  refine RL.done ?_
  iterate 2 refine RK.seq ?_
  refine RK.region ?_
  refine RL.p rfl rfl ?_
  refine RL.done ?_
  refine RK.block ?_
  refine RK.loop (fun s : Nat × List Mt × Value => [(0, .slice ad ds.length c), (1, .bool must), (5, s.2.2), (6, .int .i64 (s.1 : Int))]) (fun s w' => Row w' 135 3 s.2.2 s.2.1.length (s.2.1.flatMap mtC) ∧ Fresh w.heap.size s.2.2 ∧ Grow w w' ∧ s.1 ≤ ds.length ∧ s.2.1.length ≤ 5 ∧ matF (ds.drop s.1) s.2.1 = matF ds []) (fun s => ds.length - s.1) (0, [], .slice none 0 0) ⟨rfl, rfl, rfl, rfl, trivial⟩ ⟨by simpa using Row.nil _ _ _, fun b hb => by simp [Value.ownBlock] at hb, Mod.refl _ _, by simp, by simp, by simp⟩ (fun s w0 hI ih => ?_)
  obtain ⟨i, L, u⟩ := s
  obtain ⟨hr, hfr, hg0, hi, hL, hst⟩ := hI
  simp only at hr hfr hi hL hst
  obtain ⟨adu, cu, rfl, hcu⟩ := hr.cap
  iterate 2 refine RK.seq ?_
  refine RK.region ?_
  iterate 2 refine RL.p rfl rfl ?_
  refine RL.q (.free rfl) rfl rfl (Yld.lenSl u42 rfl) ?_
  iterate 2 refine RL.p rfl rfl ?_
  first | refine RL.splitD (d := 13) rfl rfl (fun h12 => ?_) (fun h12 => ?_) | refine RL.splitN (d := 13) rfl rfl (fun h12 => ?_) (fun h12 => ?_) | refine RL.split (d := 13) rfl rfl (fun h12 => ?_) (fun h12 => ?_)
  · refine RL.q (.yes rfl rfl rfl) rfl rfl (Yld.pure rfl) ?_
    refine RL.q (.yes rfl rfl rfl) rfl rfl (Yld.lenSl u24 rfl) ?_
    refine RL.q (.yes rfl rfl rfl) rfl rfl (Yld.pure rfl) ?_
    refine RL.p rfl rfl ?_
    refine RL.done ?_
    first | refine RK.condD rfl (fun h16 => ?_) (fun h16 => ?_) | refine RK.condN rfl (fun h16 => ?_) (fun h16 => ?_) | refine RK.cond rfl (fun h16 => ?_) (fun h16 => ?_)
    · obtain ⟨d, hd⟩ : ∃ d, ds[i]? = some d := ⟨ds[i]'(by omega), List.getElem?_eq_getElem (by omega)⟩
      have hstep : matF (ds.drop (i + 1)) (insM L (matOf d)) = matF ds [] := by
          rw [← hst, List.drop_eq_getElem_cons (by omega : i < ds.length), (List.getElem?_eq_some_iff.1 hd).2]
          simp only [matF]
          rw [if_pos (by omega)]
      obtain ⟨b1, o1, c1', he1, _, _, hc1⟩ := hv.elem dmC_len hd
      cases he1
      refine RK.skip ?_
      refine RK.seq ?_
      refine RK.block ?_
      refine RK.seq ?_
      refine RK.region ?_
      iterate 2 refine RL.p rfl rfl ?_
      refine RL.q (.free rfl) rfl rfl (Yld.indexAddrN u42 i196 rfl rfl (by omega)) ?_
      refine RL.q (.free rfl) rfl rfl (Yld.loadN (cs := dmC d) a196 rfl (atN (fun q z hq => hg0.cell (hc1 q z hq) (fun h => h)))) ?_
      refine RL.op (.free rfl) rfl rfl (Does.call rfl e139 (matK_ok d _)) ?_
      rintro _ w1 ⟨rfl, hg1⟩
      refine RL.op (.free rfl) rfl rfl (Does.alloc i135) ?_
      rintro _ w7 ⟨b7, rfl, hn7⟩
      refine RL.op' (.free rfl) rfl (Does.storeN i135 rfl rfl rfl rfl hn7.blk (Nat.le_refl 3)) ?_
      rintro _ w8 ⟨hb7, hm8, _⟩
      have hg8 : Grow w0 w8 := hg1.trans (hn7.grow.then hm8 (fun y hy e => by have e' : y = b7 := e; have := hn7.at_; omega))
      generalize hx : matOf d = x at *
      have hru := hr.mod hg8 (fun _ _ h => h)
      have hsu : Sl No w8 (.slice adu L.length cu) 3 L.length (L.flatMap mtC) := Sl.own hru (fun _ _ h => h)
      refine RL.done ?_
      refine RK.seq ?_
      refine RK.region ?_
      refine RL.p rfl rfl ?_
      refine RL.q (.free rfl) rfl rfl (Yld.lenSl u24 rfl) ?_
      refine RL.p rfl rfl ?_
      refine RL.done ?_
      refine RK.seq ?_
      refine RK.block ?_
      refine RK.loop (fun j : Nat => [(0, .slice (some ⟨b1, o1, none⟩) ds.length c), (1, .bool must), (5, .slice adu L.length cu), (6, .int .i64 (i : Int)), (7, pp b7), (8, .int .i64 (j : Int))]) (fun j w2 => Grow w8 w2 ∧ j ≤ L.length ∧ ∀ y ∈ L.drop j, aheadM x y = true) (fun j => j) L.length ⟨rfl, rfl, rfl, rfl, rfl, rfl, trivial⟩ ⟨Mod.refl _ _, Nat.le_refl _, by simp⟩ (fun j w2 hI2 ih2 => ?_)
      obtain ⟨hg2, hj, hD⟩ := hI2
      have hB7 := hb7.mod hg2 (fun h => h)
      have hhi : ∀ w3, Grow w8 w3 → Sl No w3 (.slice adu j cu) 3 j ((L.take j).flatMap mtC) := fun w3 h3 => (hsu.mod h3).takeF mtC_len hj
      have hlo : ∀ w3, Grow w8 w3 → Sl No w3 (.slice (fromAt adu cu j 3) (L.length - j) (cu - j)) 3 (L.length - j) ((L.drop j).flatMap mtC) := fun w3 h3 => (hsu.mod h3).fromF mtC_len hj hcu
      iterate 2 refine RK.seq ?_
      refine RK.drawM No [(0, false), (1, false), (2, false), (3, false), (4, false), (5, false), (6, false), (7, false), (8, false), (9, true), (10, false)] [] mixed (by kernel_rfl) ?_
      iterate 3 refine DL.p rfl rfl rfl ?_
      first | refine DL.splitD (d := 29) rfl rfl (fun h28 => ?_) (fun h28 => ?_) | refine DL.splitN (d := 29) rfl rfl (fun h28 => ?_) (fun h28 => ?_) | refine DL.split (d := 29) rfl rfl (fun h28 => ?_) (fun h28 => ?_)
      · obtain ⟨y, hy⟩ : ∃ y, L[j - 1]? = some y := ⟨L[j - 1]'(by omega), List.getElem?_eq_getElem (by omega)⟩
        obtain ⟨b2, o2, c2', he2, _, _, hc2⟩ := hsu.elem mtC_len hy
        cases he2
        refine DL.q rfl (.yes rfl rfl rfl) rfl rfl rfl (Yld.loadN (cs := mtC x) a135 rfl (atNM (blk0' hB7) (fun h => h))) (Mod.drew _ _) ?_
        iterate 3 refine DL.qf rfl (.yes rfl rfl rfl) rfl rfl (Yld.pure rfl) ?_
        refine DL.re (d := 33) rfl rfl (sub_i64 (z := ((j - 1 : Nat) : Int)) (by omega) (by omega) (by omega)) ?_
        refine DL.qf rfl (.yes rfl rfl rfl) rfl rfl (Yld.indexAddrN u24 i135 rfl rfl (by omega)) ?_
        refine DL.q rfl (.yes rfl rfl rfl) rfl rfl rfl (Yld.loadN (cs := mtC y) a135 rfl (atNM (fun q z hq => hg2.cell (hc2 q z hq) (fun h => h)) (fun h => h))) (Mod.drew _ _) ?_
        refine DL.op rfl (.yes rfl rfl rfl) rfl rfl (Does.call rfl e140 (ahead_ok x y _)) ?_
        rintro _ w3 ⟨rfl, hg3⟩
        refine ⟨(Mod.drew No _).trans hg3, ?_⟩
        have hg4 := hg2.trans ((Mod.drew No _).trans hg3)
        refine DL.p rfl rfl rfl ?_
        refine DL.done ?_
        first | refine RK.condD rfl (fun h36 => ?_) (fun h36 => ?_) | refine RK.condN rfl (fun h36 => ?_) (fun h36 => ?_) | refine RK.cond rfl (fun h36 => ?_) (fun h36 => ?_)
        · refine RK.skip ?_
          refine RK.block ?_
          refine RK.region ?_
          iterate 2 refine RL.p rfl rfl ?_
          refine RL.re (d := 39) rfl rfl (sub_i64 (z := ((j - 1 : Nat) : Int)) (by omega) (by omega) (by omega)) ?_
          refine RL.p rfl rfl ?_
          refine RL.done ?_
          refine RK.inBlock ?_
          exact RK.back (ih2 (j - 1) _ ⟨hg4, by omega, fun z hz => by
              rw [show L.drop (j - 1) = y :: L.drop j by rw [List.drop_eq_getElem_cons (by omega : j - 1 < L.length), show j - 1 + 1 = j by omega, (List.getElem?_eq_some_iff.1 hy).2]] at hz
              rcases List.mem_cons.1 hz with rfl | hz
              · exact h36
              · exact hD z hz
            ⟩ (by omega)) ⟨rfl, rfl, rfl, rfl, rfl, rfl, trivial⟩
        · have hpos : pos aheadM x L = j := pos_splitG hj hD (fun z _ hz => by rw [hy] at hz; cases hz; simpa using h36)
          have hB7' := hB7.mod ((Mod.drew No _).trans hg3) (fun h => h)
          refine RK.exit rfl ?_
          iterate 2 refine RK.seq ?_
          refine RK.drawM No [(0, false), (1, false), (2, false), (3, false), (4, false), (5, false), (6, false), (7, false), (8, false), (9, false), (10, false)] [] mixed (by kernel_rfl) ?_
          iterate 3 refine DL.p rfl rfl rfl ?_
          first | refine DL.splitD (d := 42) rfl rfl (fun h41 => ?_) (fun h41 => ?_) | refine DL.splitN (d := 42) rfl rfl (fun h41 => ?_) (fun h41 => ?_) | refine DL.split (d := 42) rfl rfl (fun h41 => ?_) (fun h41 => ?_)
          · obtain ⟨b3, o3, c3', he3, _, _, hc3⟩ := hsu.elem mtC_len hy
            cases he3
            iterate 3 refine DL.qf rfl (.yes rfl rfl rfl) rfl rfl (Yld.pure rfl) ?_
            refine DL.re (d := 45) rfl rfl (sub_i64 (z := ((j - 1 : Nat) : Int)) (by omega) (by omega) (by omega)) ?_
            refine DL.qf rfl (.yes rfl rfl rfl) rfl rfl (Yld.indexAddrN u24 i135 rfl rfl (by omega)) ?_
            refine DL.q rfl (.yes rfl rfl rfl) rfl rfl rfl (Yld.loadN (cs := mtC y) a135 rfl (atNM (fun q z hq => hg4.cell (hc2 q z hq) (fun h => h)) (fun h => h))) (Mod.drew _ _) ?_
            refine DL.q rfl (.yes rfl rfl rfl) rfl rfl rfl (Yld.loadN (cs := mtC x) a135 rfl (atNM (blk0' hB7') (fun h => h))) (Mod.drew _ _) ?_
            refine DL.qf rfl (.yes rfl rfl rfl) rfl rfl (Yld.eqTrip trip135 rfl rfl) ?_
            refine DL.p rfl rfl rfl ?_
            refine DL.done ?_
            first | refine RK.condD rfl (fun h49 => ?_) (fun h49 => ?_) | refine RK.condN rfl (fun h49 => ?_) (fun h49 => ?_) | refine RK.cond rfl (fun h49 => ?_) (fun h49 => ?_)
            · have hsame : insM L x = L := by unfold insM; rw [hpos, if_pos ⟨by omega, by rw [hy, mt_ext h49]⟩]
              refine RK.exit rfl ?_
              refine RK.region ?_
              iterate 2 refine RL.p rfl rfl ?_
              refine RL.re (d := 19) rfl rfl (succ_i64 (by omega)) ?_
              refine RL.p rfl rfl ?_
              refine RL.done ?_
              exact RK.back (ih (i + 1, L, _) _ ⟨hr.mod (hg8.trans (hg4.trans (Mod.drew _ _))) (fun _ _ h => h), hfr, hg0.trans (hg8.trans (hg4.trans (Mod.drew _ _))), by simp only; omega, hL, by simp only; rw [← hsame]; exact hstep⟩ (by simp only; omega)) ⟨rfl, rfl, rfl, rfl, trivial⟩
            · have hne : ¬ (0 < j ∧ L[j - 1]? = some x) := fun h => h49 (by have h2 := h.2; rw [hy] at h2; exact mt_eqs (Option.some.inj h2))
              obtain ⟨w9, hw9⟩ : ∃ w9, w9 = w3.drew := ⟨_, rfl⟩
              rw [← hw9]
              have hgr : Grow w8 w9 := by rw [hw9]; exact hg4.trans (Mod.drew _ _)
              have hB9 := hb7.mod hgr (fun h => h)
              have hg : Grow w w8 := hg0.trans hg8
              have hgd : Grow w8 w9.drew := hgr.trans (Mod.drew _ _)
              refine RK.skip ?_
              refine RK.drawF No [(0, false), (1, false), (2, false), (4, false), (7, false), (8, false), (9, false)] 3 5 [(5, true), (6, true), (10, true), (11, false)] [(3, true), (6, true), (10, true), (11, false)] [] mixed (by kernel_rfl) ?_
              iterate 2 refine DL.p rfl rfl rfl ?_
              refine DL.qf rfl (.free rfl) rfl rfl (Yld.sliceHi u24 i135 (m := j) rfl rfl (by omega)) ?_
              refine DL.q rfl (.free rfl) rfl rfl rfl (Yld.loadN (cs := mtC x) a135 rfl (atNM (blk0' hB9) (fun h => h))) (Mod.drew _ _) ?_
              iterate 2 refine DL.p rfl rfl rfl ?_
              refine DL.qf rfl (.free rfl) rfl rfl (Yld.sliceFrom u24 i135 (m := j) rfl rfl hj) ?_
              refine DL.fork ?_ ?_
              · refine DL.op rfl (.free rfl) rfl rfl (Does.append u24 i135 rfl rfl rfl rfl rfl (Row.nil _ _ _) (hhi _ hgd) (allOne_mts _) (by omega)) ?_
                rintro u1 v1 ⟨hr1, hm1, hu1⟩
                have hg1 : Grow w9.drew v1 := hm1.mono (fun b _ e => by simp [Value.ownBlock] at e)
                refine ⟨(Mod.drew _ _).trans hg1, ?_⟩
                refine DL.op rfl (.free rfl) rfl rfl (Does.slice1 u24 i135 rfl rfl rfl rfl rfl) ?_
                rintro _ v2 ⟨b2, rfl, hn2⟩
                refine ⟨((Mod.drew _ _).trans hg1).trans hn2.grow, ?_⟩
                refine DL.op rfl (.free rfl) rfl rfl (Does.append u24 i135 rfl rfl rfl rfl rfl (hr1.mod hn2.grow (fun _ _ h => h)) (Sl.new hn2 3 1 rfl (by omega) (fun h => h)) (rfl) (by omega)) ?_
                rintro u3 v3 ⟨hr3, hm3, hu3⟩
                have hf1 : Fresh w9.drew.heap.size u1 := fun b e => by
                    rcases hu1 with h | h <;> rw [h] at e
                    · simp [Value.ownBlock] at e
                    · cases e; omega
                have hf3 : Fresh w9.drew.heap.size u3 := fun b e => by
                    have h1 := hg1.size; have h2 := hn2.size
                    rcases hu3 with h | h <;> rw [h] at e
                    · exact hf1 b e
                    · cases e; omega
                have hg13 : Grow w9.drew v3 := (hg1.trans hn2.grow).then hm3 (fun b hb e => by have := hf1 b e; omega)
                refine ⟨(Mod.drew _ _).trans hg13, ?_⟩
                refine DL.op rfl (.free rfl) rfl rfl (Does.append u24 i135 rfl rfl rfl rfl rfl (hr3) (hlo _ (hgd.trans hg13)) (allOne_mts _) (by omega)) ?_
                rintro u4 v4 ⟨hr4, hm4, hu4⟩
                have hg14 : Grow w9.drew v4 := hg13.then hm4 (fun b hb e => by have := hf3 b e; omega)
                have hf4 : Fresh w.heap.size u4 := fun b e => by
                    have h1 := hg13.size; have h2 := (hg.trans hgd).size
                    rcases hu4 with h | h <;> rw [h] at e
                    · have := hf3 b e; omega
                    · cases e; omega
                refine ⟨(Mod.drew _ _).trans hg14, ?_⟩
                have hfin : insM L x = L.take j ++ x :: L.drop j := by unfold insM; rw [if_neg (by rw [hpos]; exact hne), insE, hpos]
                refine DL.p rfl rfl rfl ?_
                refine DL.done ?_
                refine RK.inBlock ?_
                refine RK.region ?_
                iterate 2 refine RL.p rfl rfl ?_
                refine RL.re (d := 19) rfl rfl (succ_i64 (by omega)) ?_
                refine RL.p rfl rfl ?_
                refine RL.done ?_
                exact RK.back (ih (i + 1, insM L x, u4) _ ⟨laidF (f := mtC) (x := x) rfl hj hfin hr4, hf4, (hg.trans hgd).trans hg14, by simp only; omega, by simp only; have := insM_len L x; omega, hstep⟩ (by simp only; omega)) ⟨rfl, rfl, rfl, rfl, trivial⟩
              · refine DL.op rfl (.free rfl) rfl rfl (Does.slice1 u24 i135 rfl rfl rfl rfl rfl) ?_
                rintro _ v2 ⟨b2, rfl, hn2⟩
                refine ⟨(Mod.drew _ _).trans hn2.grow, ?_⟩
                refine DL.op rfl (.free rfl) rfl rfl (Does.append u24 i135 rfl rfl rfl rfl rfl (Row.nil _ _ _) (hhi _ (hgd.trans hn2.grow)) (allOne_mts _) (by omega)) ?_
                rintro u1 v1 ⟨hr1, hm1, hu1⟩
                have hg1' : Grow v2 v1 := hm1.mono (fun b _ e => by simp [Value.ownBlock] at e)
                have hg1 : Grow w9.drew v1 := hn2.grow.trans hg1'
                refine ⟨(Mod.drew _ _).trans hg1, ?_⟩
                refine DL.op rfl (.free rfl) rfl rfl (Does.append u24 i135 rfl rfl rfl rfl rfl (hr1) ((Sl.new hn2 3 1 rfl (by omega) (fun h => h)).mod hg1') (rfl) (by omega)) ?_
                rintro u3 v3 ⟨hr3, hm3, hu3⟩
                have hf1 : Fresh w9.drew.heap.size u1 := fun b e => by
                    have h2 := hn2.size
                    rcases hu1 with h | h <;> rw [h] at e
                    · simp [Value.ownBlock] at e
                    · cases e; omega
                have hf3 : Fresh w9.drew.heap.size u3 := fun b e => by
                    have h1 := hg1.size
                    rcases hu3 with h | h <;> rw [h] at e
                    · exact hf1 b e
                    · cases e; omega
                have hg13 : Grow w9.drew v3 := hg1.then hm3 (fun b hb e => by have := hf1 b e; omega)
                refine ⟨(Mod.drew _ _).trans hg13, ?_⟩
                refine DL.op rfl (.free rfl) rfl rfl (Does.append u24 i135 rfl rfl rfl rfl rfl (hr3) (hlo _ (hgd.trans hg13)) (allOne_mts _) (by omega)) ?_
                rintro u4 v4 ⟨hr4, hm4, hu4⟩
                have hg14 : Grow w9.drew v4 := hg13.then hm4 (fun b hb e => by have := hf3 b e; omega)
                have hf4 : Fresh w.heap.size u4 := fun b e => by
                    have h1 := hg13.size; have h2 := (hg.trans hgd).size
                    rcases hu4 with h | h <;> rw [h] at e
                    · have := hf3 b e; omega
                    · cases e; omega
                refine ⟨(Mod.drew _ _).trans hg14, ?_⟩
                have hfin : insM L x = L.take j ++ x :: L.drop j := by unfold insM; rw [if_neg (by rw [hpos]; exact hne), insE, hpos]
                refine DL.p rfl rfl rfl ?_
                refine DL.done ?_
                refine RK.inBlock ?_
                refine RK.region ?_
                iterate 2 refine RL.p rfl rfl ?_
                refine RL.re (d := 19) rfl rfl (succ_i64 (by omega)) ?_
                refine RL.p rfl rfl ?_
                refine RL.done ?_
                exact RK.back (ih (i + 1, insM L x, u4) _ ⟨laidF (f := mtC) (x := x) rfl hj hfin hr4, hf4, (hg.trans hgd).trans hg14, by simp only; omega, by simp only; have := insM_len L x; omega, hstep⟩ (by simp only; omega)) ⟨rfl, rfl, rfl, rfl, trivial⟩
          · have hne : ¬ (0 < j ∧ L[j - 1]? = some x) := fun h => by omega
            obtain ⟨w9, hw9⟩ : ∃ w9, w9 = w3.drew := ⟨_, rfl⟩
            rw [← hw9]
            have hgr : Grow w8 w9 := by rw [hw9]; exact hg4.trans (Mod.drew _ _)
            have hB9 := hb7.mod hgr (fun h => h)
            have hg : Grow w w8 := hg0.trans hg8
            have hgd : Grow w8 w9.drew := hgr.trans (Mod.drew _ _)
            iterate 7 refine DL.no rfl (.no rfl rfl rfl rfl) rfl rfl ?_
            refine DL.p rfl rfl rfl ?_
            refine DL.done ?_
            refine RK.condF rfl ?_
            refine RK.skip ?_
            refine RK.drawF No [(0, false), (1, false), (2, false), (4, false), (7, false), (8, false), (9, false)] 3 5 [(5, true), (6, true), (10, true), (11, false)] [(3, true), (6, true), (10, true), (11, false)] [] mixed (by kernel_rfl) ?_
            iterate 2 refine DL.p rfl rfl rfl ?_
            refine DL.qf rfl (.free rfl) rfl rfl (Yld.sliceHi u24 i135 (m := j) rfl rfl (by omega)) ?_
            refine DL.q rfl (.free rfl) rfl rfl rfl (Yld.loadN (cs := mtC x) a135 rfl (atNM (blk0' hB9) (fun h => h))) (Mod.drew _ _) ?_
            iterate 2 refine DL.p rfl rfl rfl ?_
            refine DL.qf rfl (.free rfl) rfl rfl (Yld.sliceFrom u24 i135 (m := j) rfl rfl hj) ?_
            refine DL.fork ?_ ?_
            · refine DL.op rfl (.free rfl) rfl rfl (Does.append u24 i135 rfl rfl rfl rfl rfl (Row.nil _ _ _) (hhi _ hgd) (allOne_mts _) (by omega)) ?_
              rintro u1 v1 ⟨hr1, hm1, hu1⟩
              have hg1 : Grow w9.drew v1 := hm1.mono (fun b _ e => by simp [Value.ownBlock] at e)
              refine ⟨(Mod.drew _ _).trans hg1, ?_⟩
              refine DL.op rfl (.free rfl) rfl rfl (Does.slice1 u24 i135 rfl rfl rfl rfl rfl) ?_
              rintro _ v2 ⟨b2, rfl, hn2⟩
              refine ⟨((Mod.drew _ _).trans hg1).trans hn2.grow, ?_⟩
              refine DL.op rfl (.free rfl) rfl rfl (Does.append u24 i135 rfl rfl rfl rfl rfl (hr1.mod hn2.grow (fun _ _ h => h)) (Sl.new hn2 3 1 rfl (by omega) (fun h => h)) (rfl) (by omega)) ?_
              rintro u3 v3 ⟨hr3, hm3, hu3⟩
              have hf1 : Fresh w9.drew.heap.size u1 := fun b e => by
                  rcases hu1 with h | h <;> rw [h] at e
                  · simp [Value.ownBlock] at e
                  · cases e; omega
              have hf3 : Fresh w9.drew.heap.size u3 := fun b e => by
                  have h1 := hg1.size; have h2 := hn2.size
                  rcases hu3 with h | h <;> rw [h] at e
                  · exact hf1 b e
                  · cases e; omega
              have hg13 : Grow w9.drew v3 := (hg1.trans hn2.grow).then hm3 (fun b hb e => by have := hf1 b e; omega)
              refine ⟨(Mod.drew _ _).trans hg13, ?_⟩
              refine DL.op rfl (.free rfl) rfl rfl (Does.append u24 i135 rfl rfl rfl rfl rfl (hr3) (hlo _ (hgd.trans hg13)) (allOne_mts _) (by omega)) ?_
              rintro u4 v4 ⟨hr4, hm4, hu4⟩
              have hg14 : Grow w9.drew v4 := hg13.then hm4 (fun b hb e => by have := hf3 b e; omega)
              have hf4 : Fresh w.heap.size u4 := fun b e => by
                  have h1 := hg13.size; have h2 := (hg.trans hgd).size
                  rcases hu4 with h | h <;> rw [h] at e
                  · have := hf3 b e; omega
                  · cases e; omega
              refine ⟨(Mod.drew _ _).trans hg14, ?_⟩
              have hfin : insM L x = L.take j ++ x :: L.drop j := by unfold insM; rw [if_neg (by rw [hpos]; exact hne), insE, hpos]
              refine DL.p rfl rfl rfl ?_
              refine DL.done ?_
              refine RK.inBlock ?_
              refine RK.region ?_
              iterate 2 refine RL.p rfl rfl ?_
              refine RL.re (d := 19) rfl rfl (succ_i64 (by omega)) ?_
              refine RL.p rfl rfl ?_
              refine RL.done ?_
              exact RK.back (ih (i + 1, insM L x, u4) _ ⟨laidF (f := mtC) (x := x) rfl hj hfin hr4, hf4, (hg.trans hgd).trans hg14, by simp only; omega, by simp only; have := insM_len L x; omega, hstep⟩ (by simp only; omega)) ⟨rfl, rfl, rfl, rfl, trivial⟩
            · refine DL.op rfl (.free rfl) rfl rfl (Does.slice1 u24 i135 rfl rfl rfl rfl rfl) ?_
              rintro _ v2 ⟨b2, rfl, hn2⟩
              refine ⟨(Mod.drew _ _).trans hn2.grow, ?_⟩
              refine DL.op rfl (.free rfl) rfl rfl (Does.append u24 i135 rfl rfl rfl rfl rfl (Row.nil _ _ _) (hhi _ (hgd.trans hn2.grow)) (allOne_mts _) (by omega)) ?_
              rintro u1 v1 ⟨hr1, hm1, hu1⟩
              have hg1' : Grow v2 v1 := hm1.mono (fun b _ e => by simp [Value.ownBlock] at e)
              have hg1 : Grow w9.drew v1 := hn2.grow.trans hg1'
              refine ⟨(Mod.drew _ _).trans hg1, ?_⟩
              refine DL.op rfl (.free rfl) rfl rfl (Does.append u24 i135 rfl rfl rfl rfl rfl (hr1) ((Sl.new hn2 3 1 rfl (by omega) (fun h => h)).mod hg1') (rfl) (by omega)) ?_
              rintro u3 v3 ⟨hr3, hm3, hu3⟩
              have hf1 : Fresh w9.drew.heap.size u1 := fun b e => by
                  have h2 := hn2.size
                  rcases hu1 with h | h <;> rw [h] at e
                  · simp [Value.ownBlock] at e
                  · cases e; omega
              have hf3 : Fresh w9.drew.heap.size u3 := fun b e => by
                  have h1 := hg1.size
                  rcases hu3 with h | h <;> rw [h] at e
                  · exact hf1 b e
                  · cases e; omega
              have hg13 : Grow w9.drew v3 := hg1.then hm3 (fun b hb e => by have := hf1 b e; omega)
              refine ⟨(Mod.drew _ _).trans hg13, ?_⟩
              refine DL.op rfl (.free rfl) rfl rfl (Does.append u24 i135 rfl rfl rfl rfl rfl (hr3) (hlo _ (hgd.trans hg13)) (allOne_mts _) (by omega)) ?_
              rintro u4 v4 ⟨hr4, hm4, hu4⟩
              have hg14 : Grow w9.drew v4 := hg13.then hm4 (fun b hb e => by have := hf3 b e; omega)
              have hf4 : Fresh w.heap.size u4 := fun b e => by
                  have h1 := hg13.size; have h2 := (hg.trans hgd).size
                  rcases hu4 with h | h <;> rw [h] at e
                  · have := hf3 b e; omega
                  · cases e; omega
              refine ⟨(Mod.drew _ _).trans hg14, ?_⟩
              have hfin : insM L x = L.take j ++ x :: L.drop j := by unfold insM; rw [if_neg (by rw [hpos]; exact hne), insE, hpos]
              refine DL.p rfl rfl rfl ?_
              refine DL.done ?_
              refine RK.inBlock ?_
              refine RK.region ?_
              iterate 2 refine RL.p rfl rfl ?_
              refine RL.re (d := 19) rfl rfl (succ_i64 (by omega)) ?_
              refine RL.p rfl rfl ?_
              refine RL.done ?_
              exact RK.back (ih (i + 1, insM L x, u4) _ ⟨laidF (f := mtC) (x := x) rfl hj hfin hr4, hf4, (hg.trans hgd).trans hg14, by simp only; omega, by simp only; have := insM_len L x; omega, hstep⟩ (by simp only; omega)) ⟨rfl, rfl, rfl, rfl, trivial⟩
      · have hpos : pos aheadM x L = j := pos_splitG hj hD (fun z h0 _ => by omega)
        have hne : ¬ (0 < j ∧ L[j - 1]? = some x) := fun h => by omega
        iterate 6 refine DL.no rfl (.no rfl rfl rfl rfl) rfl rfl ?_
        refine DL.lno rfl (.no rfl rfl rfl rfl) rfl rfl ?_
        refine DL.p rfl rfl rfl ?_
        refine DL.done ?_
        refine RK.condF rfl ?_
        refine RK.exit rfl ?_
        iterate 2 refine RK.seq ?_
        refine RK.drawM No [(0, false), (1, false), (2, false), (3, false), (4, false), (5, false), (6, false), (7, false), (8, false), (9, false), (10, false)] [] mixed (by kernel_rfl) ?_
        iterate 3 refine DL.p rfl rfl rfl ?_
        refine DL.knownF (d := 42) rfl rfl (decide_eq_false (by omega)) ?_
        iterate 7 refine DL.no rfl (.no rfl rfl rfl rfl) rfl rfl ?_
        refine DL.p rfl rfl rfl ?_
        refine DL.done ?_
        obtain ⟨w9, hw9⟩ : ∃ w9, w9 = w2.drew.drew := ⟨_, rfl⟩
        rw [← hw9]
        have hgr : Grow w8 w9 := by rw [hw9]; exact (hg2.trans (Mod.drew _ _)).trans (Mod.drew _ _)
        have hB9 := hb7.mod hgr (fun h => h)
        have hg : Grow w w8 := hg0.trans hg8
        have hgd : Grow w8 w9.drew := hgr.trans (Mod.drew _ _)
        refine RK.condF rfl ?_
        refine RK.skip ?_
        refine RK.drawF No [(0, false), (1, false), (2, false), (4, false), (7, false), (8, false), (9, false)] 3 5 [(5, true), (6, true), (10, true), (11, false)] [(3, true), (6, true), (10, true), (11, false)] [] mixed (by kernel_rfl) ?_
        iterate 2 refine DL.p rfl rfl rfl ?_
        refine DL.qf rfl (.free rfl) rfl rfl (Yld.sliceHi u24 i135 (m := j) rfl rfl (by omega)) ?_
        refine DL.q rfl (.free rfl) rfl rfl rfl (Yld.loadN (cs := mtC x) a135 rfl (atNM (blk0' hB9) (fun h => h))) (Mod.drew _ _) ?_
        iterate 2 refine DL.p rfl rfl rfl ?_
        refine DL.qf rfl (.free rfl) rfl rfl (Yld.sliceFrom u24 i135 (m := j) rfl rfl hj) ?_
        refine DL.fork ?_ ?_
        · refine DL.op rfl (.free rfl) rfl rfl (Does.append u24 i135 rfl rfl rfl rfl rfl (Row.nil _ _ _) (hhi _ hgd) (allOne_mts _) (by omega)) ?_
          rintro u1 v1 ⟨hr1, hm1, hu1⟩
          have hg1 : Grow w9.drew v1 := hm1.mono (fun b _ e => by simp [Value.ownBlock] at e)
          refine ⟨(Mod.drew _ _).trans hg1, ?_⟩
          refine DL.op rfl (.free rfl) rfl rfl (Does.slice1 u24 i135 rfl rfl rfl rfl rfl) ?_
          rintro _ v2 ⟨b2, rfl, hn2⟩
          refine ⟨((Mod.drew _ _).trans hg1).trans hn2.grow, ?_⟩
          refine DL.op rfl (.free rfl) rfl rfl (Does.append u24 i135 rfl rfl rfl rfl rfl (hr1.mod hn2.grow (fun _ _ h => h)) (Sl.new hn2 3 1 rfl (by omega) (fun h => h)) (rfl) (by omega)) ?_
          rintro u3 v3 ⟨hr3, hm3, hu3⟩
          have hf1 : Fresh w9.drew.heap.size u1 := fun b e => by
              rcases hu1 with h | h <;> rw [h] at e
              · simp [Value.ownBlock] at e
              · cases e; omega
          have hf3 : Fresh w9.drew.heap.size u3 := fun b e => by
              have h1 := hg1.size; have h2 := hn2.size
              rcases hu3 with h | h <;> rw [h] at e
              · exact hf1 b e
              · cases e; omega
          have hg13 : Grow w9.drew v3 := (hg1.trans hn2.grow).then hm3 (fun b hb e => by have := hf1 b e; omega)
          refine ⟨(Mod.drew _ _).trans hg13, ?_⟩
          refine DL.op rfl (.free rfl) rfl rfl (Does.append u24 i135 rfl rfl rfl rfl rfl (hr3) (hlo _ (hgd.trans hg13)) (allOne_mts _) (by omega)) ?_
          rintro u4 v4 ⟨hr4, hm4, hu4⟩
          have hg14 : Grow w9.drew v4 := hg13.then hm4 (fun b hb e => by have := hf3 b e; omega)
          have hf4 : Fresh w.heap.size u4 := fun b e => by
              have h1 := hg13.size; have h2 := (hg.trans hgd).size
              rcases hu4 with h | h <;> rw [h] at e
              · have := hf3 b e; omega
              · cases e; omega
          refine ⟨(Mod.drew _ _).trans hg14, ?_⟩
          have hfin : insM L x = L.take j ++ x :: L.drop j := by unfold insM; rw [if_neg (by rw [hpos]; exact hne), insE, hpos]
          refine DL.p rfl rfl rfl ?_
          refine DL.done ?_
          refine RK.inBlock ?_
          refine RK.region ?_
          iterate 2 refine RL.p rfl rfl ?_
          refine RL.re (d := 19) rfl rfl (succ_i64 (by omega)) ?_
          refine RL.p rfl rfl ?_
          refine RL.done ?_
          exact RK.back (ih (i + 1, insM L x, u4) _ ⟨laidF (f := mtC) (x := x) rfl hj hfin hr4, hf4, (hg.trans hgd).trans hg14, by simp only; omega, by simp only; have := insM_len L x; omega, hstep⟩ (by simp only; omega)) ⟨rfl, rfl, rfl, rfl, trivial⟩
        · refine DL.op rfl (.free rfl) rfl rfl (Does.slice1 u24 i135 rfl rfl rfl rfl rfl) ?_
          rintro _ v2 ⟨b2, rfl, hn2⟩
          refine ⟨(Mod.drew _ _).trans hn2.grow, ?_⟩
          refine DL.op rfl (.free rfl) rfl rfl (Does.append u24 i135 rfl rfl rfl rfl rfl (Row.nil _ _ _) (hhi _ (hgd.trans hn2.grow)) (allOne_mts _) (by omega)) ?_
          rintro u1 v1 ⟨hr1, hm1, hu1⟩
          have hg1' : Grow v2 v1 := hm1.mono (fun b _ e => by simp [Value.ownBlock] at e)
          have hg1 : Grow w9.drew v1 := hn2.grow.trans hg1'
          refine ⟨(Mod.drew _ _).trans hg1, ?_⟩
          refine DL.op rfl (.free rfl) rfl rfl (Does.append u24 i135 rfl rfl rfl rfl rfl (hr1) ((Sl.new hn2 3 1 rfl (by omega) (fun h => h)).mod hg1') (rfl) (by omega)) ?_
          rintro u3 v3 ⟨hr3, hm3, hu3⟩
          have hf1 : Fresh w9.drew.heap.size u1 := fun b e => by
              have h2 := hn2.size
              rcases hu1 with h | h <;> rw [h] at e
              · simp [Value.ownBlock] at e
              · cases e; omega
          have hf3 : Fresh w9.drew.heap.size u3 := fun b e => by
              have h1 := hg1.size
              rcases hu3 with h | h <;> rw [h] at e
              · exact hf1 b e
              · cases e; omega
          have hg13 : Grow w9.drew v3 := hg1.then hm3 (fun b hb e => by have := hf1 b e; omega)
          refine ⟨(Mod.drew _ _).trans hg13, ?_⟩
          refine DL.op rfl (.free rfl) rfl rfl (Does.append u24 i135 rfl rfl rfl rfl rfl (hr3) (hlo _ (hgd.trans hg13)) (allOne_mts _) (by omega)) ?_
          rintro u4 v4 ⟨hr4, hm4, hu4⟩
          have hg14 : Grow w9.drew v4 := hg13.then hm4 (fun b hb e => by have := hf3 b e; omega)
          have hf4 : Fresh w.heap.size u4 := fun b e => by
              have h1 := hg13.size; have h2 := (hg.trans hgd).size
              rcases hu4 with h | h <;> rw [h] at e
              · have := hf3 b e; omega
              · cases e; omega
          refine ⟨(Mod.drew _ _).trans hg14, ?_⟩
          have hfin : insM L x = L.take j ++ x :: L.drop j := by unfold insM; rw [if_neg (by rw [hpos]; exact hne), insE, hpos]
          refine DL.p rfl rfl rfl ?_
          refine DL.done ?_
          refine RK.inBlock ?_
          refine RK.region ?_
          iterate 2 refine RL.p rfl rfl ?_
          refine RL.re (d := 19) rfl rfl (succ_i64 (by omega)) ?_
          refine RL.p rfl rfl ?_
          refine RL.done ?_
          exact RK.back (ih (i + 1, insM L x, u4) _ ⟨laidF (f := mtC) (x := x) rfl hj hfin hr4, hf4, (hg.trans hgd).trans hg14, by simp only; omega, by simp only; have := insM_len L x; omega, hstep⟩ (by simp only; omega)) ⟨rfl, rfl, rfl, rfl, trivial⟩
    · have hm : matF ds [] = L := by
          rw [← hst]
          cases hc : ds.drop i with
          | nil => rfl
          | cons d l => simp only [matF]; rw [if_neg (by omega)]
      refine RK.exit rfl ?_
      iterate 2 refine RK.seq ?_
      refine RK.region ?_
      iterate 2 refine RL.p rfl rfl ?_
      first | refine RL.splitD (d := 63) rfl rfl (fun h63 => ?_) (fun h63 => ?_) | refine RL.splitN (d := 63) rfl rfl (fun h63 => ?_) (fun h63 => ?_) | refine RL.split (d := 63) rfl rfl (fun h63 => ?_) (fun h63 => ?_)
      · refine RL.q (.yes rfl rfl rfl) rfl rfl (Yld.pure rfl) ?_
        refine RL.q (.yes rfl rfl rfl) rfl rfl (Yld.lenSl u24 rfl) ?_
        refine RL.q (.yes rfl rfl rfl) rfl rfl (Yld.pure rfl) ?_
        refine RL.p rfl rfl ?_
        refine RL.done ?_
        first | refine RK.condD rfl (fun h66 => ?_) (fun h66 => ?_) | refine RK.condN rfl (fun h66 => ?_) (fun h66 => ?_) | refine RK.cond rfl (fun h66 => ?_) (fun h66 => ?_)
        · have hnil : L = [] := List.length_eq_zero_iff.1 (by omega)
          subst hnil
          refine RK.region ?_
          refine RL.p rfl rfl ?_
          refine RL.q (.free rfl) rfl rfl (Yld.build (v := .agg (mtC sevM).toArray) rfl (fun w => by kernel_rfl)) ?_
          refine RL.op (.free rfl) rfl rfl (Does.slice1 u24 i135 rfl rfl rfl rfl rfl) ?_
          rintro _ v9 ⟨b9, rfl, hn9⟩
          refine RL.op (.free rfl) rfl rfl (Does.append u24 i135 rfl rfl rfl rfl rfl (hr.mod hn9.grow (fun _ _ h => h)) (Sl.new hn9 3 1 rfl (by omega) (fun h => h)) (rfl) (by omega)) ?_
          rintro u5 w5 ⟨hr5, hm5, hu5⟩
          have hres : matsS ds must = [sevM] := by unfold matsS; rw [if_pos ⟨h63, hm⟩]
          have hs0 := hg0.size
          refine RL.p rfl rfl ?_
          refine RL.done ?_
          refine RK.seq ?_
          refine RK.region ?_
          iterate 2 refine RL.p rfl rfl ?_
          refine RL.done ?_
          refine RK.ret_of Tryz.func72 (res1 rfl rfl) ?_ _
          exact ⟨_, rfl, by rw [hres]; exact hr5, fun b e => by
              rcases hu5 with h1 | h1
              · exact hfr b (h1 ▸ e)
              · rw [h1] at e; cases e; have := hn9.grow.size; omega, (hg0.trans hn9.grow).then hm5 (fun b hb e => by have := hfr b e; omega)⟩
        · have hres : matsS ds must = L := by unfold matsS; rw [if_neg (fun h => by rw [hm] at h; rw [h.2] at h66; exact h66 rfl)]; exact hm
          refine RK.skip ?_
          refine RK.seq ?_
          refine RK.region ?_
          iterate 2 refine RL.p rfl rfl ?_
          refine RL.done ?_
          refine RK.ret_of Tryz.func72 (res1 rfl rfl) ?_ _
          exact ⟨_, rfl, by rw [hres]; exact hr, hfr, hg0⟩
      · have hres : matsS ds must = L := by unfold matsS; rw [if_neg (fun h => by rw [h63] at h; cases h.1)]; exact hm
        iterate 3 refine RL.no (.no rfl rfl rfl rfl) rfl rfl ?_
        refine RL.p rfl rfl ?_
        refine RL.done ?_
        refine RK.condF rfl ?_
        refine RK.skip ?_
        refine RK.seq ?_
        refine RK.region ?_
        iterate 2 refine RL.p rfl rfl ?_
        refine RL.done ?_
        refine RK.ret_of Tryz.func72 (res1 rfl rfl) ?_ _
        exact ⟨_, rfl, by rw [hres]; exact hr, hfr, hg0⟩
  · have hm : matF ds [] = L := by rw [← hst, List.drop_eq_nil_of_le (by omega)]; rfl
    iterate 3 refine RL.no (.no rfl rfl rfl rfl) rfl rfl ?_
    refine RL.p rfl rfl ?_
    refine RL.done ?_
    refine RK.condF rfl ?_
    refine RK.exit rfl ?_
    iterate 2 refine RK.seq ?_
    refine RK.region ?_
    iterate 2 refine RL.p rfl rfl ?_
    first | refine RL.splitD (d := 63) rfl rfl (fun h63 => ?_) (fun h63 => ?_) | refine RL.splitN (d := 63) rfl rfl (fun h63 => ?_) (fun h63 => ?_) | refine RL.split (d := 63) rfl rfl (fun h63 => ?_) (fun h63 => ?_)
    · refine RL.q (.yes rfl rfl rfl) rfl rfl (Yld.pure rfl) ?_
      refine RL.q (.yes rfl rfl rfl) rfl rfl (Yld.lenSl u24 rfl) ?_
      refine RL.q (.yes rfl rfl rfl) rfl rfl (Yld.pure rfl) ?_
      refine RL.p rfl rfl ?_
      refine RL.done ?_
      first | refine RK.condD rfl (fun h66 => ?_) (fun h66 => ?_) | refine RK.condN rfl (fun h66 => ?_) (fun h66 => ?_) | refine RK.cond rfl (fun h66 => ?_) (fun h66 => ?_)
      · have hnil : L = [] := List.length_eq_zero_iff.1 (by omega)
        subst hnil
        refine RK.region ?_
        refine RL.p rfl rfl ?_
        refine RL.q (.free rfl) rfl rfl (Yld.build (v := .agg (mtC sevM).toArray) rfl (fun w => by kernel_rfl)) ?_
        refine RL.op (.free rfl) rfl rfl (Does.slice1 u24 i135 rfl rfl rfl rfl rfl) ?_
        rintro _ v9 ⟨b9, rfl, hn9⟩
        refine RL.op (.free rfl) rfl rfl (Does.append u24 i135 rfl rfl rfl rfl rfl (hr.mod hn9.grow (fun _ _ h => h)) (Sl.new hn9 3 1 rfl (by omega) (fun h => h)) (rfl) (by omega)) ?_
        rintro u5 w5 ⟨hr5, hm5, hu5⟩
        have hres : matsS ds must = [sevM] := by unfold matsS; rw [if_pos ⟨h63, hm⟩]
        have hs0 := hg0.size
        refine RL.p rfl rfl ?_
        refine RL.done ?_
        refine RK.seq ?_
        refine RK.region ?_
        iterate 2 refine RL.p rfl rfl ?_
        refine RL.done ?_
        refine RK.ret_of Tryz.func72 (res1 rfl rfl) ?_ _
        exact ⟨_, rfl, by rw [hres]; exact hr5, fun b e => by
            rcases hu5 with h1 | h1
            · exact hfr b (h1 ▸ e)
            · rw [h1] at e; cases e; have := hn9.grow.size; omega, (hg0.trans hn9.grow).then hm5 (fun b hb e => by have := hfr b e; omega)⟩
      · have hres : matsS ds must = L := by unfold matsS; rw [if_neg (fun h => by rw [hm] at h; rw [h.2] at h66; exact h66 rfl)]; exact hm
        refine RK.skip ?_
        refine RK.seq ?_
        refine RK.region ?_
        iterate 2 refine RL.p rfl rfl ?_
        refine RL.done ?_
        refine RK.ret_of Tryz.func72 (res1 rfl rfl) ?_ _
        exact ⟨_, rfl, by rw [hres]; exact hr, hfr, hg0⟩
    · have hres : matsS ds must = L := by unfold matsS; rw [if_neg (fun h => by rw [h63] at h; cases h.1)]; exact hm
      iterate 3 refine RL.no (.no rfl rfl rfl rfl) rfl rfl ?_
      refine RL.p rfl rfl ?_
      refine RL.done ?_
      refine RK.condF rfl ?_
      refine RK.skip ?_
      refine RK.seq ?_
      refine RK.region ?_
      iterate 2 refine RL.p rfl rfl ?_
      refine RL.done ?_
      refine RK.ret_of Tryz.func72 (res1 rfl rfl) ?_ _
      exact ⟨_, rfl, by rw [hres]; exact hr, hfr, hg0⟩
end Go.Proofs.YthbjfhhiajihfaaGreat
set_option linter.unusedVariables false
set_option linter.unusedSimpArgs false
set_option maxHeartbeats 1000000
set_option maxRecDepth 100000
namespace Go.Proofs.YthbjfhhiajihfaaGreat
open Go Go.X Go.Rex
theorem cmpB : ∀ (a b : List UInt8), Lib.compareBytes a b = if Op.bytesLess a b = true then -1 else if a = b then 0 else 1
 | [], [] => by simp [Lib.compareBytes, Op.bytesLess]
 | [], _ :: _ => by simp [Lib.compareBytes, Op.bytesLess]
 | _ :: _, [] => by simp [Lib.compareBytes, Op.bytesLess]
 | a :: xs, b :: ys => by
  rw [Lib.compareBytes, cmpB xs ys, show Op.bytesLess (a :: xs) (b :: ys) = (decide (a < b) || (a == b && Op.bytesLess xs ys)) from rfl]
  by_cases h1 : a < b
  ·simp [h1]
  ·by_cases h2 : b < a
   ·have : a ≠ b := by rintro rfl; exact h1 h2
    simp [h1, h2, this]
   ·have : a = b := UInt8.le_antisymm (UInt8.not_lt.1 h2) (UInt8.not_lt.1 h1)
    subst this
    simp [h1]
theorem cmpS_ok (a b : ByteArray) (w : World) : Fx Tryz.prog 232 [.string a, .string b] w (fun u w' => u = .int .i64 (if slt a b = true then -1 else if a = b then 0 else 1) ∧ w = w') := by
 refine Calls.mono (Tryz.strings_Compare a b w) ?_
 rintro e w' ⟨rfl, rfl⟩
 refine ⟨_, rfl, ?_, rfl⟩
 rw [cmpB]
 unfold slt
 by_cases h : a = b
 ·subst h; rw [bl_irrefl]; simp
 ·rw [if_neg h, if_neg (fun e => h (data_inj e))]
def orS : List Int → Int
 | [] => 0
 | z :: l => if z ≠ 0 then z else orS l
theorem orI_ok (M : Nat → Prop) (l : List Int) (v : Value) (w : World) (hv : Sl M w v 1 l.length (ints l)) : Fx Tryz.prog 231 [v] w (fun u w' => u = .int .i64 (orS l) ∧ w = w') := by
 obtain ⟨ad, c, rfl⟩ := hv.shape
 have hbig := hv.big
 refine enter Tryz.func231 rfl rfl rfl _ (Pick.sub (l := [0]) (.cons rfl .nil)) ?_
 refine GG ?_
 refine QQ (Yld.lenSl u37 rfl) ?_
 refine GG ?_
 refine RK.loop (fun k : Nat => [(3, .int .i64 0), (6, .slice ad l.length c), (7, .int .i64 (l.length : Int)), (8, .int .i64 (k : Int))]) (fun k w' => w = w' ∧ k ≤ l.length ∧ orS (l.drop k) = orS l) (fun k => l.length - k) 0 ⟨rfl, rfl, rfl, rfl, trivial⟩ ⟨rfl, by omega, rfl⟩ (fun k w' hI ih => ?_)
 obtain ⟨rfl, hk, hst⟩ := hI
 refine GG ?_
 refine CD (fun h9 => ?_) (fun h9 => ?_)
 ·obtain ⟨z, hz⟩ : ∃ z, l[k]? = some z := ⟨l[k]'(by omega), List.getElem?_eq_getElem (by omega)⟩
  obtain ⟨b1, o1, c1', he1, _, _, hc1⟩ := hv.elem1 (k := k) (u := .int .i64 z) (by simp [hz])
  cases he1
  have hdr : l.drop k = z :: l.drop (k + 1) := by rw [List.drop_eq_getElem_cons (by omega), (List.getElem?_eq_some_iff.1 hz).2]
  rw [hdr] at hst
  refine GG ?_
  refine QQ (Yld.indexAddrN u37 i3 rfl rfl (by omega)) ?_
  refine QQ (Yld.load p3 rfl (at1 (hc1 k (.int .i64 z) (by simp [hz])))) ?_
  refine GG ?_
  refine CD (fun h14 => ?_) (fun h14 => ?_)
  ·refine GG ?_
   refine RK.ret_of Tryz.func231 (res1 rfl rfl) ?_ _
   exact ⟨_, rfl, by rw [← hst]; unfold orS; rw [if_pos h14], rfl⟩
  ·have hst2 : orS (l.drop (k + 1)) = orS l := by rw [← hst]; conv => rhs; unfold orS; rw [if_neg h14]
   refine RK.skip ?_
   refine RK.inBlock ?_
   refine RK.region ?_
   refine RL.p rfl rfl ?_
   refine RL.re (d := 16) rfl rfl (succ_i64 (by omega)) ?_
   refine GG ?_
   exact RK.back (ih (k + 1) _ ⟨rfl, by omega, hst2⟩ (by omega)) ⟨rfl, rfl, rfl, rfl, trivial⟩
 ·rw [List.drop_eq_nil_of_le (by omega)] at hst
  refine RK.exit rfl ?_
  refine GG ?_
  refine RK.ret_of Tryz.func231 (res1 rfl rfl) ?_ _
  exact ⟨_, rfl, by rw [← hst]; rfl, rfl⟩
theorem ahead_or (x y : Mt) : (0 ≤ orS [if slt x.name y.name = true then -1 else if x.name = y.name then 0 else 1, Lib.compareInt x.kind y.kind, if slt x.value y.value = true then -1 else if x.value = y.value then 0 else 1]) ↔ aheadM x y = false := by
 obtain ⟨xk, xn, xv⟩ := x
 obtain ⟨yk, yn, yv⟩ := y
 unfold aheadM Lib.compareInt
 simp only
 by_cases h2 : xn = yn
 ·subst h2
  simp only [slt_irrefl, Bool.false_eq_true, if_false, if_true, ne_eq, not_true_eq_false]
  by_cases h3 : xk < yk
  ·have hne : xk ≠ yk := by omega
   simp [orS, h3, hne]
  ·by_cases h4 : xk = yk
   ·subst h4
    by_cases h5 : slt xv yv = true
    ·simp [orS, h5]
    ·by_cases h6 : xv = yv
     ·subst h6; simp [orS, slt_irrefl]
     ·simp [orS, h5, h6]
   ·have h5 : yk < xk := by omega
    simp [orS, h3, h4, h5]
 ·by_cases h1 : slt xn yn = true
  ·simp [orS, h1, h2]
  ·simp [orS, h1, h2]
theorem cmpM_ok (x y : Mt) (w : World) : Fx Tryz.prog 187 [.agg (mtC x).toArray, .agg (mtC y).toArray] w (fun u w' => (∃ c : Int, u = .int .i64 c ∧ (0 ≤ c ↔ aheadM x y = false)) ∧ Grow w w') := by
 refine enter Tryz.func187 rfl rfl rfl _ (Pick.sub (l := [0, 1]) (.cons rfl (.cons rfl .nil))) ?_
 refine GG ?_
 refine OP (Does.box rfl) ?_
 rintro _ w1 ⟨b1, rfl, hn1⟩
 refine OP (Does.box rfl) ?_
 rintro _ w2 ⟨b2, rfl, hn2⟩
 have hB1 : Blk w2 b1 135 [.int .i64 x.kind, .string x.name, .string x.value] := hn1.blk.mod hn2.grow (fun h => h)
 have hB2 : Blk w2 b2 135 [.int .i64 y.kind, .string y.name, .string y.value] := hn2.blk
 have hg2 := hn1.grow.trans hn2.grow
 refine GG ?_
 refine RK.drawM No [(0, false), (1, false), (2, false), (3, false), (5, false), (6, false), (7, false), (8, false), (10, false), (11, false), (12, false), (13, false), (4, true), (9, true), (14, true), (15, true), (16, true), (17, false)] [] mixed (by kernel_rfl) ?_
 refine DF (Yld.fieldAddr fo135_1 rfl) ?_
 refine DQ (Yld.load p9 rfl (atM (hB1.cell rfl) (fun h => h))) (Mod.drew _ _) ?_
 refine DF (Yld.fieldAddr fo135_1 rfl) ?_
 refine DQ (Yld.load p9 rfl (atM (hB2.cell rfl) (fun h => h))) (Mod.drew _ _) ?_
 refine DF (Yld.fieldAddr fo135_0 rfl) ?_
 refine DQ (Yld.load p3 rfl (atM (hB1.cell rfl) (fun h => h))) (Mod.drew _ _) ?_
 refine DF (Yld.fieldAddr fo135_0 rfl) ?_
 refine DQ (Yld.load p3 rfl (atM (hB2.cell rfl) (fun h => h))) (Mod.drew _ _) ?_
 refine DF (Yld.fieldAddr fo135_2 rfl) ?_
 refine DQ (Yld.load p9 rfl (atM (hB1.cell rfl) (fun h => h))) (Mod.drew _ _) ?_
 refine DF (Yld.fieldAddr fo135_2 rfl) ?_
 refine DQ (Yld.load p9 rfl (atM (hB2.cell rfl) (fun h => h))) (Mod.drew _ _) ?_
 refine OD (Does.call rfl e232 (cmpS_ok _ _ _)) ?_
 rintro _ _ ⟨rfl, rfl⟩
 refine ⟨Mod.drew _ _, ?_⟩
 refine OD (Does.call rfl e160 (cmpInt_ok _ _ _)) ?_
 rintro _ _ ⟨rfl, rfl⟩
 refine ⟨Mod.drew _ _, ?_⟩
 refine OD (Does.call rfl e232 (cmpS_ok _ _ _)) ?_
 rintro _ _ ⟨rfl, rfl⟩
 refine ⟨Mod.drew _ _, ?_⟩
 refine OD (Does.bslice (el := 3) ([.int .i64 (if slt x.name y.name = true then -1 else if x.name = y.name then 0 else 1), .int .i64 (Lib.compareInt x.kind y.kind), .int .i64 (if slt x.value y.value = true then -1 else if x.value = y.value then 0 else 1)]) rfl (fun w => by kernel_rfl)) ?_
 rintro _ w3 ⟨b3, rfl, hn3⟩
 refine ⟨(Mod.drew _ _).trans hn3.grow, ?_⟩
 refine OD (Does.call rfl e231 (orI_ok No [_, _, _] _ _ (Sl.new hn3 1 3 rfl (by omega) (fun h => h)))) ?_
 rintro _ _ ⟨rfl, rfl⟩
 refine ⟨(Mod.drew _ _).trans hn3.grow, ?_⟩
 refine GG ?_
 refine RK.ret_of Tryz.func187 (res1 rfl rfl) ?_ _
 exact ⟨_, rfl, ⟨_, rfl, ahead_or x y⟩, hg2.trans ((Mod.drew _ _).trans hn3.grow)⟩
@[irreducible] def okM (ms : List Mt) (i : Nat) : Bool := match ms[i]? with
 | none => true
 | some x => isM x && (match i with
  | 0 => true
  | j + 1 => match ms[j]? with
   | none => true
   | some y => aheadM y x)
@[irreducible] def listM (ms : List Mt) : Bool := decide (ms.length ≤ 5) && (List.range ms.length).all (okM ms)
theorem okM_0 {ms : List Mt} {x : Mt} (hx : ms[0]? = some x) : okM ms 0 = isM x := by unfold okM; rw [hx]; simp
theorem okM_s {ms : List Mt} {j : Nat} {x y : Mt} (hx : ms[j + 1]? = some x) (hy : ms[j]? = some y) : okM ms (j + 1) = (isM x && aheadM y x) := by unfold okM; rw [hx]; simp only; rw [hy]
theorem listM_big {ms : List Mt} (h : 5 < ms.length) : listM ms = false := by unfold listM; rw [decide_eq_false (by omega)]; rfl
theorem listM_no {ms : List Mt} {i : Nat} (hi : i < ms.length) (h : okM ms i = false) : listM ms = false := by
 unfold listM
 rw [Bool.and_eq_false_iff]; right
 exact List.all_eq_false.2 ⟨i, List.mem_range.2 hi, by simp [h]⟩
theorem listM_yes {ms : List Mt} (h5 : ms.length ≤ 5) (h : ∀ i, i < ms.length → okM ms i = true) : listM ms = true := by
 unfold listM
 rw [decide_eq_true h5, Bool.true_and]
 exact List.all_eq_true.2 fun i hi => h i (List.mem_range.1 hi)
theorem matchList_ok (M : Nat → Prop) (ms : List Mt) (v : Value) (w : World) (hv : SlM M w v ms) : Fx Tryz.prog 136 [v] w (fun u w' => u = .bool (listM ms) ∧ Grow w w') := by
 obtain ⟨ad, c, rfl⟩ := hv.shape
 have hbig := hv.big
 refine enter Tryz.func136 rfl rfl rfl _ (Pick.sub (l := [0]) (.cons rfl .nil)) ?_
 refine GG ?_
 refine QQ (Yld.lenSl u24 rfl) ?_
 refine GG ?_
 refine CD (fun h7 => ?_) (fun h7 => ?_)
 ·refine GG ?_
  refine RK.ret_of Tryz.func136 (res1 rfl rfl) ?_ _
  exact ⟨_, rfl, by rw [listM_big (by omega)], Mod.refl _ _⟩
 ·refine GG ?_
  refine QQ (Yld.lenSl u24 rfl) ?_
  refine GG ?_
  refine RK.loop (fun k : Nat => [(0, .slice ad ms.length c), (8, .slice ad ms.length c), (9, .int .i64 (ms.length : Int)), (10, .int .i64 (k : Int))]) (fun k w' => Grow w w' ∧ k ≤ ms.length ∧ ∀ i, i < k → okM ms i = true) (fun k => ms.length - k) 0 ⟨rfl, rfl, rfl, rfl, trivial⟩ ⟨Mod.refl _ _, by omega, fun i hi => by omega⟩ (fun k w' hI ih => ?_)
  obtain ⟨hg, hk, hall⟩ := hI
  refine GG ?_
  refine CD (fun h11 => ?_) (fun h11 => ?_)
  ·obtain ⟨x, hx⟩ : ∃ x, ms[k]? = some x := ⟨ms[k]'(by omega), List.getElem?_eq_getElem (by omega)⟩
   obtain ⟨b1, o1, c1', he1, _, _, hc1⟩ := hv.elem mtC_len hx
   cases he1
   refine GG ?_
   refine QQ (Yld.indexAddrN u24 i135 rfl rfl (by omega)) ?_
   refine QQ (Yld.loadN (cs := mtC x) a135 rfl (atN (fun q z hq => hg.cell (hc1 q z hq) (fun h => h)))) ?_
   refine OP (Does.alloc i135) ?_
   rintro _ w4 ⟨b4, rfl, hn4⟩
   refine RL.p rfl rfl ?_
   refine OQ (Does.storeN i135 rfl rfl rfl rfl hn4.blk (Nat.le_refl 3)) ?_
   rintro _ w5 ⟨hb5, hm5, _⟩
   have hg5 : Grow w w5 := hg.trans (hn4.grow.then hm5 (fun y hy e => by have e' : y = b4 := e; have := hn4.at_; omega))
   refine GG ?_
   refine RK.drawM No [(0, false), (1, true), (2, false), (3, false), (4, false), (5, false), (6, false), (7, false), (8, false), (9, false), (10, false), (11, false), (12, false), (13, true), (14, false), (15, false), (16, false)] [] mixed (by kernel_rfl) ?_
   refine DQ (Yld.loadN (cs := mtC x) a135 rfl (atNM (blk0' hb5) (fun h => h))) (Mod.drew _ _) ?_
   refine OD (Does.call rfl e186 (matchIs_ok x _)) ?_
   rintro _ w6 ⟨rfl, hg6⟩
   refine ⟨(Mod.drew No _).trans hg6, ?_⟩
   refine GG ?_
   refine SD 18 (fun h17 => ?_) (fun h17 => ?_)
   ·iterate 9 refine DL.no rfl (.no rfl rfl rfl rfl) rfl rfl ?_
    refine DL.lno rfl (.no rfl rfl rfl rfl) rfl rfl ?_
    iterate 2 refine DL.no rfl (.no rfl rfl rfl rfl) rfl rfl ?_
    refine GG ?_
    refine RK.condT rfl ?_
    refine GG ?_
    refine RK.ret_of Tryz.func136 (res1 rfl rfl) ?_ _
    exact ⟨_, rfl, by rw [listM_no (i := k) (by omega) (by
      have hf : isM x = false := by simpa using h17
      cases k with
      | zero => rw [okM_0 hx]; exact hf
      | succ j => rw [okM_s hx (List.getElem?_eq_getElem (by omega)), hf]; rfl)], hg5.trans ((Mod.drew No _).trans hg6)⟩
   ·have hix : isM x = true := by simpa using h17
    iterate 3 refine DF (Yld.pure rfl) ?_
    refine SD 21 (fun h20 => ?_) (fun h20 => ?_)
    ·obtain ⟨j, rfl⟩ : ∃ j, k = j + 1 := ⟨k - 1, by omega⟩
     obtain ⟨y, hy⟩ : ∃ y, ms[j]? = some y := ⟨ms[j]'(by omega), List.getElem?_eq_getElem (by omega)⟩
     obtain ⟨b2, o2, c2', he2, _, _, hc2⟩ := hv.elem mtC_len hy
     cases he2
     iterate 3 refine DF (Yld.pure rfl) ?_
     refine DL.re (d := 24) rfl rfl (sub_i64 (z := (j : Int)) (by omega) (by omega) (by omega)) ?_
     refine DF (Yld.indexAddrN u24 i135 rfl rfl (by omega)) ?_
     refine DQ (Yld.loadN (cs := mtC y) a135 rfl (atNM (fun q z hq => hg5.cell (hc2 q z hq) (fun h => h)) (fun h => h))) ((Mod.drew No _).trans hg6) ?_
     refine DQ (Yld.loadN (cs := mtC x) a135 rfl (atNM (blk0' hb5) (fun h => h))) ((Mod.drew No _).trans hg6) ?_
     refine OD (Does.call rfl e187 (cmpM_ok y x _)) ?_
     rintro _ w7 ⟨⟨cc, rfl, hcc⟩, hg7⟩
     have hg8 := hg5.trans (((Mod.drew No _).trans hg6).trans hg7)
     refine ⟨((Mod.drew No _).trans hg6).trans hg7, ?_⟩
     iterate 2 refine DF (Yld.pure rfl) ?_
     refine GG ?_
     refine CD (fun h29 => ?_) (fun h29 => ?_)
     ·refine GG ?_
      refine RK.ret_of Tryz.func136 (res1 rfl rfl) ?_ _
      exact ⟨_, rfl, by rw [listM_no (i := j + 1) (by omega) (by rw [okM_s hx hy, hix, hcc.1 h29]; rfl)], hg8⟩
     ·have hay : aheadM y x = true := eq_true_of_ne_false fun hq => h29 (hcc.2 hq)
      refine RK.skip ?_
      refine RK.inBlock ?_
      refine RK.region ?_
      refine RL.p rfl rfl ?_
      refine RL.re (d := 32) rfl rfl (succ_i64 (by omega)) ?_
      refine GG ?_
      exact RK.back (ih (j + 1 + 1) _ ⟨hg8, by omega, fun i hi => by by_cases e : i = j + 1; (subst e; rw [okM_s hx hy, hix, hay]; rfl); exact hall i (by omega)⟩ (by omega)) ⟨rfl, rfl, rfl, rfl, trivial⟩
    ·have hk0 : k = 0 := by omega
     subst hk0
     iterate 6 refine DL.no rfl (.no rfl rfl rfl rfl) rfl rfl ?_
     refine DL.lno rfl (.no rfl rfl rfl rfl) rfl rfl ?_
     refine DL.no rfl (.no rfl rfl rfl rfl) rfl rfl ?_
     refine DF (Yld.pure rfl) ?_
     refine GG ?_
     refine RK.condF rfl ?_
     refine RK.skip ?_
     refine RK.inBlock ?_
     refine RK.region ?_
     refine RL.p rfl rfl ?_
     refine RL.re (d := 32) rfl rfl (succ_i64 (by omega)) ?_
     refine GG ?_
     exact RK.back (ih (0 + 1) _ ⟨hg5.trans ((Mod.drew No _).trans hg6), by omega, fun i hi => by by_cases e : i = 0; (subst e; rw [okM_0 hx]; exact hix); omega⟩ (by omega)) ⟨rfl, rfl, rfl, rfl, trivial⟩
  ·refine RK.exit rfl ?_
   refine GG ?_
   refine RK.ret_of Tryz.func136 (res1 rfl rfl) ?_ _
   exact ⟨_, rfl, by rw [listM_yes (by omega) (fun i hi => hall i (by omega))], hg⟩
end Go.Proofs.YthbjfhhiajihfaaGreat
set_option linter.unusedVariables false
set_option linter.unusedSimpArgs false
set_option maxHeartbeats 1000000
set_option maxRecDepth 100000
namespace Go.Proofs.YthbjfhhiajihfaaGreat
open Go Go.X Go.Rex
def anyL (ms : List Mt) : Bool := ms.any largeM
theorem anyL_at {ms : List Mt} {k : Nat} {x : Mt} (hx : ms[k]? = some x) (h : largeM x = true) : anyL ms = true := List.any_eq_true.2 ⟨x, List.mem_of_getElem? hx, h⟩
theorem anyL_no {ms : List Mt} (h : ∀ (i : Nat) (x : Mt), ms[i]? = some x → largeM x = false) : anyL ms = false := by
 unfold anyL
 rw [List.any_eq_false]
 intro x hx
 obtain ⟨i, hi⟩ := List.getElem?_of_mem hx
 simp [h i x hi]
theorem indexL_ok (M : Nat → Prop) (ms : List Mt) (v : Value) (w : World) (hv : SlM M w v ms) :
  Fx Tryz.prog 210 [v, .func (.func 188) #[] #[]] w (fun u w' => (∃ z : Int, u = .int .i64 z ∧ decide (0 ≤ z) = anyL ms) ∧ Grow w w') := by
 obtain ⟨ad, c, rfl⟩ := hv.shape
 have hbig := hv.big
 refine enter Tryz.func210 rfl rfl rfl _ (Pick.sub (l := [0, 1]) (.cons rfl (.cons rfl .nil))) ?_
 refine GG ?_
 refine QQ (Yld.lenSl u24 rfl) ?_
 refine GG ?_
 refine RK.loop (fun k : Nat => [(0, .slice ad ms.length c), (1, .func (.func 188) #[] #[]), (7, .int .i64 ms.length), (8, .int .i64 k)]) (fun k w' => Grow w w' ∧ k ≤ ms.length ∧ ∀ (i : Nat) (a : Mt), i < k → ms[i]? = some a → largeM a = false) (fun k => ms.length - k) 0 ⟨rfl, rfl, rfl, rfl, trivial⟩ ⟨Mod.refl _ _, by omega, fun i a h => by omega⟩ (fun k w' hI ih => ?_)
 obtain ⟨hg, hk, hno⟩ := hI
 refine GG ?_
 refine CD (fun h9 => ?_) (fun h9 => ?_)
 ·obtain ⟨x, hx⟩ : ∃ x, ms[k]? = some x := ⟨ms[k]'(by omega), List.getElem?_eq_getElem (by omega)⟩
  obtain ⟨b1, o1, c1', he1, _, _, hc1⟩ := hv.elem mtC_len hx
  cases he1
  refine GG ?_
  refine QQ (Yld.indexAddrN u24 i135 rfl rfl (by omega)) ?_
  refine QQ (Yld.loadN (cs := [.int .i64 x.kind, .string x.name, .string x.value]) a135 rfl (atN (fun j u hj => hg.cell (hc1 j u hj) (fun h => h)))) ?_
  refine OP (Does.callv rfl rfl e188 (matchLarge_ok x _)) ?_
  rintro _ w2 ⟨rfl, hg2⟩
  refine RL.done ?_
  refine CD (fun h16 => ?_) (fun h16 => ?_)
  ·refine GG ?_
   refine RK.ret_of Tryz.func210 (res1 rfl rfl) ?_ _
   exact ⟨_, rfl, ⟨_, rfl, by rw [anyL_at hx h16]; simp⟩, hg.trans hg2⟩
  ·refine RK.skip ?_
   refine RK.inBlock ?_
   refine RK.region ?_
   refine RL.p rfl rfl ?_
   refine RL.re (d := 18) rfl rfl (succ_i64 (by omega)) ?_
   refine GG ?_
   exact RK.back (ih (k + 1) _ ⟨hg.trans hg2, by omega, fun i a' hi ha' => by by_cases e : i = k; (subst e; rw [hx] at ha'; cases ha'; simpa using h16); exact hno i a' (by omega) ha'⟩ (by omega)) ⟨rfl, rfl, rfl, rfl, trivial⟩
 ·refine RK.exit rfl ?_
  refine GG ?_
  refine RK.ret_of Tryz.func210 (res1 rfl rfl) ?_ _
  exact ⟨_, rfl, ⟨_, rfl, by rw [anyL_no fun i x hx => hno i x (by have := (List.getElem?_eq_some_iff.1 hx).1; omega) hx]; rfl⟩, hg⟩
theorem containsL_ok (M : Nat → Prop) (ms : List Mt) (v : Value) (w : World) (hv : SlM M w v ms) :
  Fx Tryz.prog 155 [v, .func (.func 188) #[] #[]] w (fun u w' => u = .bool (anyL ms) ∧ Grow w w') := by
 obtain ⟨ad, c, rfl⟩ := hv.shape
 refine enter Tryz.func155 rfl rfl rfl _ (Pick.sub (l := [0, 1]) (.cons rfl (.cons rfl .nil))) ?_
 refine GG ?_
 refine OP (Does.call rfl e210 (indexL_ok M ms _ _ hv)) ?_
 rintro _ w2 ⟨⟨z, rfl, hz⟩, hg2⟩
 refine GG ?_
 refine RK.ret_of Tryz.func155 (res1 rfl rfl) ?_ _
 exact ⟨_, rfl, congrArg _ hz, hg2⟩
theorem matchAnyL_ok (M : Nat → Prop) (ms : List Mt) (v : Value) (w : World) (hv : SlM M w v ms) :
  Fx Tryz.prog 137 [v] w (fun u w' => u = .bool (anyL ms) ∧ Grow w w') := by
 obtain ⟨ad, c, rfl⟩ := hv.shape
 refine enter Tryz.func137 rfl rfl rfl _ (Pick.sub (l := [0]) (.cons rfl .nil)) ?_
 refine GG ?_
 refine OP (Does.call rfl e155 (containsL_ok M ms _ _ hv)) ?_
 rintro _ w2 ⟨rfl, hg2⟩
 refine GG ?_
 refine RK.ret_of Tryz.func137 (res1 rfl rfl) ?_ _
 exact ⟨_, rfl, rfl, hg2⟩
theorem anyLR_ok (M : Nat → Prop) (ms : List Mt) (hn : ∀ m ∈ ms, m.name.size ≤ 9223372036854775807) (v : Value) (w : World) (hv : SlM M w v ms) :
  Fx Tryz.prog 116 [v] w (fun u w' => u = .bool (anyL ms) ∧ Grow w w') := by
 obtain ⟨ad, c, rfl⟩ := hv.shape
 have hbig := hv.big
 refine enter Tryz.func116 rfl rfl rfl _ (Pick.sub (l := [0]) (.cons rfl .nil)) ?_
 refine GG ?_
 refine RK.loop (fun k : Nat => [(0, .slice ad ms.length c), (3, .int .i64 k)]) (fun k w' => Grow w w' ∧ k ≤ ms.length ∧ ∀ (i : Nat) (a : Mt), i < k → ms[i]? = some a → largeM a = false) (fun k => ms.length - k) 0 ⟨rfl, rfl, trivial⟩ ⟨Mod.refl _ _, by omega, fun i a h => by omega⟩ (fun k w' hI ih => ?_)
 obtain ⟨hg, hk, hno⟩ := hI
 refine GG ?_
 refine QQ (Yld.lenSl u24 rfl) ?_
 refine GG ?_
 refine CD (fun h7 => ?_) (fun h7 => ?_)
 ·obtain ⟨x, hx⟩ : ∃ x, ms[k]? = some x := ⟨ms[k]'(by omega), List.getElem?_eq_getElem (by omega)⟩
  obtain ⟨b1, o1, c1', he1, _, _, hc1⟩ := hv.elem mtC_len hx
  cases he1
  refine GG ?_
  refine QQ (Yld.indexAddrN u24 i135 rfl rfl (by omega)) ?_
  refine QQ (Yld.loadN (cs := [.int .i64 x.kind, .string x.name, .string x.value]) a135 rfl (atN (fun j u hj => hg.cell (hc1 j u hj) (fun h => h)))) ?_
  refine OP (Does.call rfl e166 (largeR_ok x (hn x (List.mem_of_getElem? hx)) _)) ?_
  rintro _ w2 ⟨rfl, hg2⟩
  refine RL.done ?_
  refine CD (fun h14 => ?_) (fun h14 => ?_)
  ·refine GG ?_
   refine RK.ret_of Tryz.func116 (res1 rfl rfl) ?_ _
   exact ⟨_, rfl, congrArg _ (anyL_at hx h14).symm, hg.trans hg2⟩
  ·refine RK.skip ?_
   refine RK.inBlock ?_
   refine RK.region ?_
   iterate 2 refine RL.p rfl rfl ?_
   refine RL.re (d := 9) rfl rfl (succ_i64 (by omega)) ?_
   refine GG ?_
   exact RK.back (ih (k + 1) _ ⟨hg.trans hg2, by omega, fun i a' hi ha' => by by_cases e : i = k; (subst e; rw [hx] at ha'; cases ha'; simpa using h14); exact hno i a' (by omega) ha'⟩ (by omega)) ⟨rfl, rfl, trivial⟩
 ·refine RK.exit rfl ?_
  refine GG ?_
  refine RK.ret_of Tryz.func116 (res1 rfl rfl) ?_ _
  exact ⟨_, rfl, congrArg _ (anyL_no fun i x hx => hno i x (by have := (List.getElem?_eq_some_iff.1 hx).1; omega) hx).symm, hg⟩
theorem listR_ok (M : Nat → Prop) (ms : List Mt) (hn : ∀ m ∈ ms, m.name.size ≤ 9223372036854775807) (v : Value) (w : World) (hv : SlM M w v ms) : Fx Tryz.prog 57 [v] w (fun u w' => u = .bool (listM ms) ∧ Grow w w') := by
  obtain ⟨ad, c, rfl⟩ := hv.shape
  have hbig := hv.big
  refine enter Tryz.func57 rfl rfl rfl _ (Pick.sub (l := [0]) (.cons rfl .nil)) ?_
  refine RK.seq ?_
  refine RK.region ?_
  refine RL.p rfl rfl ?_
  refine RL.done ?_
  iterate 2 refine RK.seq ?_
  refine RK.region ?_
  refine RL.p rfl rfl ?_
  refine RL.q (.free rfl) rfl rfl (Yld.lenSl u24 rfl) ?_
  refine RL.p rfl rfl ?_
  refine RL.done ?_
  first | refine RK.condD rfl (fun h6 => ?_) (fun h6 => ?_) | refine RK.condN rfl (fun h6 => ?_) (fun h6 => ?_) | refine RK.cond rfl (fun h6 => ?_) (fun h6 => ?_)
  · refine RK.seq ?_
    refine RK.region ?_
    refine RL.p rfl rfl ?_
    refine RL.done ?_
    refine RK.ret_of Tryz.func57 (res1 rfl rfl) ?_ _
    exact ⟨_, rfl, by rw [listM_big (by omega)], Mod.refl _ _⟩
  · refine RK.skip ?_
    iterate 2 refine RK.seq ?_
    refine RK.region ?_
    refine RL.p rfl rfl ?_
    refine RL.done ?_
    refine RK.block ?_
    refine RK.loop (fun k : Nat => [(0, .slice ad ms.length c), (3, .int .i64 (k : Int))]) (fun k w' => Grow w w' ∧ k ≤ ms.length ∧ ∀ i, i < k → okM ms i = true) (fun k => ms.length - k) 0 ⟨rfl, rfl, trivial⟩ ⟨Mod.refl _ _, by omega, fun i hi => by omega⟩ (fun k w' hI ih => ?_)
    obtain ⟨hg, hk, hall⟩ := hI
    iterate 2 refine RK.seq ?_
    refine RK.region ?_
    iterate 2 refine RL.p rfl rfl ?_
    refine RL.q (.free rfl) rfl rfl (Yld.lenSl u24 rfl) ?_
    refine RL.p rfl rfl ?_
    refine RL.done ?_
    first | refine RK.condD rfl (fun h10 => ?_) (fun h10 => ?_) | refine RK.condN rfl (fun h10 => ?_) (fun h10 => ?_) | refine RK.cond rfl (fun h10 => ?_) (fun h10 => ?_)
    · obtain ⟨x, hx⟩ : ∃ x, ms[k]? = some x := ⟨ms[k]'(by omega), List.getElem?_eq_getElem (by omega)⟩
      obtain ⟨b1, o1, c1', he1, _, _, hc1⟩ := hv.elem mtC_len hx
      cases he1
      refine RK.skip ?_
      refine RK.seq ?_
      refine RK.block ?_
      refine RK.seq ?_
      refine RK.drawM No [(0, false), (1, false), (2, false), (3, false), (4, true), (5, false), (6, false), (7, false), (8, false), (9, false), (10, false), (11, false), (12, false), (13, false), (14, false), (15, false), (16, false), (17, false), (18, false), (19, true), (20, false), (21, false), (22, false)] [] mixed (by kernel_rfl) ?_
      iterate 2 refine DL.p rfl rfl rfl ?_
      refine DL.qf rfl (.free rfl) rfl rfl (Yld.indexAddrN u24 i135 rfl rfl (by omega)) ?_
      refine DL.q rfl (.free rfl) rfl rfl rfl (Yld.loadN (cs := mtC x) a135 rfl (atNM (fun q z hq => hg.cell (hc1 q z hq) (fun h => h)) (fun h => h))) (Mod.drew _ _) ?_
      refine DL.op rfl (.free rfl) rfl rfl (Does.call rfl e118 (isMatcher_ok x (hn x (List.mem_of_getElem? hx)) _)) ?_
      rintro _ w6 ⟨rfl, hg6⟩
      refine ⟨(Mod.drew No _).trans hg6, ?_⟩
      have hg5 := hg.trans ((Mod.drew No _).trans hg6)
      iterate 2 refine DL.p rfl rfl rfl ?_
      first | refine DL.splitD (d := 19) rfl rfl (fun h18 => ?_) (fun h18 => ?_) | refine DL.splitN (d := 19) rfl rfl (fun h18 => ?_) (fun h18 => ?_) | refine DL.split (d := 19) rfl rfl (fun h18 => ?_) (fun h18 => ?_)
      · iterate 12 refine DL.no rfl (.no rfl rfl rfl rfl) rfl rfl ?_
        refine DL.lno rfl (.no rfl rfl rfl rfl) rfl rfl ?_
        iterate 2 refine DL.no rfl (.no rfl rfl rfl rfl) rfl rfl ?_
        refine DL.p rfl rfl rfl ?_
        refine DL.done ?_
        refine RK.condT rfl ?_
        refine RK.seq ?_
        refine RK.region ?_
        refine RL.p rfl rfl ?_
        refine RL.done ?_
        refine RK.ret_of Tryz.func57 (res1 rfl rfl) ?_ _
        exact ⟨_, rfl, by rw [listM_no (i := k) (by omega) (by
            have hf : isM x = false := by simpa using h18
            cases k with
            | zero => rw [okM_0 hx]; exact hf
            | succ j => rw [okM_s hx (List.getElem?_eq_getElem (by omega)), hf]; rfl)], hg5⟩
      · have hix : isM x = true := by simpa using h18
        iterate 3 refine DL.qf rfl (.yes rfl rfl rfl) rfl rfl (Yld.pure rfl) ?_
        first | refine DL.splitD (d := 22) rfl rfl (fun h21 => ?_) (fun h21 => ?_) | refine DL.splitN (d := 22) rfl rfl (fun h21 => ?_) (fun h21 => ?_) | refine DL.split (d := 22) rfl rfl (fun h21 => ?_) (fun h21 => ?_)
        · obtain ⟨j, rfl⟩ : ∃ j, k = j + 1 := ⟨k - 1, by omega⟩
          obtain ⟨y, hy⟩ : ∃ y, ms[j]? = some y := ⟨ms[j]'(by omega), List.getElem?_eq_getElem (by omega)⟩
          obtain ⟨b2, o2, c2', he2, _, _, hc2⟩ := hv.elem mtC_len hy
          cases he2
          iterate 3 refine DL.qf rfl (.yes rfl rfl rfl) rfl rfl (Yld.pure rfl) ?_
          refine DL.re (d := 25) rfl rfl (sub_i64 (z := (j : Int)) (by omega) (by omega) (by omega)) ?_
          refine DL.qf rfl (.yes rfl rfl rfl) rfl rfl (Yld.indexAddrN u24 i135 rfl rfl (by omega)) ?_
          refine DL.q rfl (.yes rfl rfl rfl) rfl rfl rfl (Yld.loadN (cs := mtC y) a135 rfl (atNM (fun q z hq => hg.cell (hc2 q z hq) (fun h => h)) (fun h => h))) ((Mod.drew No _).trans hg6) ?_
          iterate 2 refine DL.qf rfl (.yes rfl rfl rfl) rfl rfl (Yld.pure rfl) ?_
          refine DL.qf rfl (.yes rfl rfl rfl) rfl rfl (Yld.indexAddrN u24 i135 rfl rfl (by omega)) ?_
          refine DL.q rfl (.yes rfl rfl rfl) rfl rfl rfl (Yld.loadN (cs := mtC x) a135 rfl (atNM (fun q z hq => hg.cell (hc1 q z hq) (fun h => h)) (fun h => h))) ((Mod.drew No _).trans hg6) ?_
          refine DL.op rfl (.yes rfl rfl rfl) rfl rfl (Does.call rfl e119 (before_ok y x _)) ?_
          rintro _ w7 ⟨rfl, hg7⟩
          have hg8 := hg.trans (((Mod.drew No _).trans hg6).trans hg7)
          refine ⟨((Mod.drew No _).trans hg6).trans hg7, ?_⟩
          iterate 2 refine DL.qf rfl (.yes rfl rfl rfl) rfl rfl (Yld.pure rfl) ?_
          refine DL.p rfl rfl rfl ?_
          refine DL.done ?_
          first | refine RK.condD rfl (fun h33 => ?_) (fun h33 => ?_) | refine RK.condN rfl (fun h33 => ?_) (fun h33 => ?_) | refine RK.cond rfl (fun h33 => ?_) (fun h33 => ?_)
          · refine RK.seq ?_
            refine RK.region ?_
            refine RL.p rfl rfl ?_
            refine RL.done ?_
            refine RK.ret_of Tryz.func57 (res1 rfl rfl) ?_ _
            exact ⟨_, rfl, by rw [listM_no (i := j + 1) (by omega) (by rw [okM_s hx hy, hix, show aheadM y x = false by simpa using h33]; rfl)], hg8⟩
          · have hay : aheadM y x = true := by simpa using h33
            refine RK.skip ?_
            refine RK.inBlock ?_
            refine RK.region ?_
            iterate 2 refine RL.p rfl rfl ?_
            refine RL.re (d := 12) rfl rfl (succ_i64 (by omega)) ?_
            refine RL.p rfl rfl ?_
            refine RL.done ?_
            exact RK.back (ih (j + 1 + 1) _ ⟨hg8, by omega, fun i hi => by by_cases e : i = j + 1; (subst e; rw [okM_s hx hy, hix, hay]; rfl); exact hall i (by omega)⟩ (by omega)) ⟨rfl, rfl, trivial⟩
        · have hk0 : k = 0 := by omega
          subst hk0
          iterate 9 refine DL.no rfl (.no rfl rfl rfl rfl) rfl rfl ?_
          refine DL.lno rfl (.no rfl rfl rfl rfl) rfl rfl ?_
          refine DL.no rfl (.no rfl rfl rfl rfl) rfl rfl ?_
          refine DL.qf rfl (.yes rfl rfl rfl) rfl rfl (Yld.pure rfl) ?_
          refine DL.p rfl rfl rfl ?_
          refine DL.done ?_
          refine RK.condF rfl ?_
          refine RK.skip ?_
          refine RK.inBlock ?_
          refine RK.region ?_
          iterate 2 refine RL.p rfl rfl ?_
          refine RL.re (d := 12) rfl rfl (succ_i64 (by omega)) ?_
          refine RL.p rfl rfl ?_
          refine RL.done ?_
          exact RK.back (ih (0 + 1) _ ⟨hg5, by omega, fun i hi => by by_cases e : i = 0; (subst e; rw [okM_0 hx]; exact hix); omega⟩ (by omega)) ⟨rfl, rfl, trivial⟩
    · refine RK.exit rfl ?_
      refine RK.seq ?_
      refine RK.region ?_
      refine RL.p rfl rfl ?_
      refine RL.done ?_
      refine RK.ret_of Tryz.func57 (res1 rfl rfl) ?_ _
      exact ⟨_, rfl, by rw [listM_yes (by omega) (fun i hi => hall i (by omega))], hg⟩
end Go.Proofs.YthbjfhhiajihfaaGreat
set_option linter.unusedVariables false
set_option linter.unusedSimpArgs false
set_option maxHeartbeats 1000000
set_option maxRecDepth 100000
namespace Go.Proofs.YthbjfhhiajihfaaGreat
open Go Go.X Go.Rex
structure Bd where
 all : Bool
 lo : Nat
 hi : Nat
def bdC (b : Bd) : List Value := [.bool b.all, .float .f64 b.lo, .float .f64 b.hi]
def leF (a b : Nat) : Bool := FloatKind.f64.format.order a b == some .lt || FloatKind.f64.format.order a b == some .eq
def mayB (b : Bd) : Bool := if b.all = true then decide ((bitsS b.lo : Int) = 0) && decide ((bitsS b.hi : Int) = 0) else leF b.lo b.hi
def inBd (b : Bd) (v : Nat) : Bool := mayB b && (b.all || (leF b.lo v && leF v b.hi))
theorem fldN {w : World} {b t : Nat} {cs : List Value} (h : Blk w b t cs) (k n : Nat) : ∀ j u, ((cs.drop k).take n)[j]? = some u → w.cell? ⟨b, 0 + k + j, none⟩ = some u := fun j u hj => by
 have hj2 : (cs.drop k)[j]? = some u := by
  rw [List.getElem?_take] at hj
  split at hj
  ·exact hj
  ·cases hj
 rw [List.getElem?_drop] at hj2
 rw [show 0 + k + j = k + j by omega]
 exact h.cell' hj2
theorem may_ok (b : Bd) (w : World) : Fx Tryz.prog 152 [.agg (bdC b).toArray] w (fun u w' => u = .bool (mayB b) ∧ Grow w w') := by
 refine enter Tryz.func152 rfl rfl rfl _ (Pick.sub (l := [0]) (.cons rfl .nil)) ?_
 refine GG ?_
 refine OP (Does.box rfl) ?_
 rintro _ w1 ⟨b1, rfl, hn1⟩
 have hB1 : Blk w1 b1 27 [.bool b.all, .float .f64 b.lo, .float .f64 b.hi] := hn1.blk
 refine GG ?_
 refine QQ (Yld.fieldAddr fo27_0 rfl) ?_
 refine QQ (Yld.load p4 rfl (at1 (hB1.cell rfl))) ?_
 refine RL.done ?_
 refine CD (fun h4 => ?_) (fun h4 => ?_)
 ·refine GG ?_
  refine QQ (Yld.fieldAddr fo27_1 rfl) ?_
  refine QQ (Yld.load p25 rfl (at1 (hB1.cell rfl))) ?_
  refine OP (Does.call rfl e173 (bits_ok _ _)) ?_
  rintro _ _ ⟨rfl, rfl⟩
  refine GG ?_
  refine SP 9 (fun h8 => ?_) (fun h8 => ?_)
  ·refine QQ (Yld.fieldAddr fo27_2 rfl) ?_
   refine QQ (Yld.load p25 rfl (at1 (hB1.cell rfl))) ?_
   refine OP (Does.call rfl e173 (bits_ok _ _)) ?_
   rintro _ _ ⟨rfl, rfl⟩
   refine QQ (Yld.pure rfl) ?_
   refine GG ?_
   refine RK.ret_of Tryz.func152 (res1 rfl rfl) ?_ _
   exact ⟨_, rfl, by unfold mayB; rw [if_pos h4, decide_eq_true h8]; rfl, hn1.grow⟩
  ·iterate 4 refine RL.no (.no rfl rfl rfl rfl) rfl rfl ?_
   refine GG ?_
   refine RK.ret_of Tryz.func152 (res1 rfl rfl) ?_ _
   exact ⟨_, rfl, by unfold mayB; rw [if_pos h4, decide_eq_false h8]; rfl, hn1.grow⟩
 ·refine GG ?_
  refine QQ (Yld.fieldAddr fo27_1 rfl) ?_
  refine QQ (Yld.load p25 rfl (at1 (hB1.cell rfl))) ?_
  refine QQ (Yld.fieldAddr fo27_2 rfl) ?_
  refine QQ (Yld.load p25 rfl (at1 (hB1.cell rfl))) ?_
  refine GG ?_
  refine RK.ret_of Tryz.func152 (res1 rfl rfl) ?_ _
  exact ⟨_, rfl, by unfold mayB; rw [if_neg (by simp [h4])]; rfl, hn1.grow⟩
theorem mayR_ok (b : Bd) (w : World) : Fx Tryz.prog 58 [.agg (bdC b).toArray] w (fun u w' => u = .bool (mayB b) ∧ Grow w w') := by
 refine enter Tryz.func58 rfl rfl rfl _ (Pick.sub (l := [0]) (.cons rfl .nil)) ?_
 refine GG ?_
 refine OP (Does.box rfl) ?_
 rintro _ w1 ⟨b1, rfl, hn1⟩
 have hB1 : Blk w1 b1 27 [.bool b.all, .float .f64 b.lo, .float .f64 b.hi] := hn1.blk
 refine GG ?_
 refine QQ (Yld.fieldAddr fo27_0 rfl) ?_
 refine QQ (Yld.load p4 rfl (at1 (hB1.cell rfl))) ?_
 refine RL.done ?_
 refine CD (fun h4 => ?_) (fun h4 => ?_)
 ·refine GG ?_
  refine QQ (Yld.fieldAddr fo27_1 rfl) ?_
  refine QQ (Yld.load p25 rfl (at1 (hB1.cell rfl))) ?_
  refine OP (Does.call rfl e120 (bits1_ok _ _)) ?_
  rintro _ _ ⟨rfl, rfl⟩
  refine GG ?_
  refine SP 9 (fun h8 => ?_) (fun h8 => ?_)
  ·refine QQ (Yld.fieldAddr fo27_2 rfl) ?_
   refine QQ (Yld.load p25 rfl (at1 (hB1.cell rfl))) ?_
   refine OP (Does.call rfl e120 (bits1_ok _ _)) ?_
   rintro _ _ ⟨rfl, rfl⟩
   refine QQ (Yld.pure rfl) ?_
   refine GG ?_
   refine RK.ret_of Tryz.func58 (res1 rfl rfl) ?_ _
   exact ⟨_, rfl, by unfold mayB; rw [if_pos h4, decide_eq_true h8]; rfl, hn1.grow⟩
  ·iterate 4 refine RL.no (.no rfl rfl rfl rfl) rfl rfl ?_
   refine GG ?_
   refine RK.ret_of Tryz.func58 (res1 rfl rfl) ?_ _
   exact ⟨_, rfl, by unfold mayB; rw [if_pos h4, decide_eq_false h8]; rfl, hn1.grow⟩
 ·refine GG ?_
  refine QQ (Yld.fieldAddr fo27_1 rfl) ?_
  refine QQ (Yld.load p25 rfl (at1 (hB1.cell rfl))) ?_
  refine QQ (Yld.fieldAddr fo27_2 rfl) ?_
  refine QQ (Yld.load p25 rfl (at1 (hB1.cell rfl))) ?_
  refine GG ?_
  refine RK.ret_of Tryz.func58 (res1 rfl rfl) ?_ _
  exact ⟨_, rfl, by unfold mayB; rw [if_neg (by simp [h4])]; rfl, hn1.grow⟩
theorem in_band_ok (b : Bd) (v : Nat) (w : World) : Fx Tryz.prog 105 [.agg (bdC b).toArray, .float .f64 v] w (fun u w' => u = .bool (inBd b v) ∧ Grow w w') := by
 refine enter Tryz.func105 rfl rfl rfl _ (Pick.sub (l := [0, 1]) (.cons rfl (.cons rfl .nil))) ?_
 refine GG ?_
 refine OP (Does.box rfl) ?_
 rintro _ w1 ⟨b1, rfl, hn1⟩
 refine GG ?_
 refine QQ (Yld.loadN (cs := bdC b) a27 rfl (atN (blk0' hn1.blk))) ?_
 refine OP (Does.call rfl e152 (may_ok b _)) ?_
 rintro _ w2 ⟨rfl, hg2'⟩
 have hg2 := hn1.grow.trans hg2'
 have hB2 : Blk w2 b1 27 [.bool b.all, .float .f64 b.lo, .float .f64 b.hi] := hn1.blk.mod hg2' (fun h => h)
 refine RL.p rfl rfl ?_
 refine SP 7 (fun h6 => ?_) (fun h6 => ?_)
 ·have hmay : mayB b = true := h6
  refine QQ (Yld.fieldAddr fo27_0 rfl) ?_
  refine QQ (Yld.load p4 rfl (at1 (hB2.cell rfl))) ?_
  refine QQ (Yld.pure rfl) ?_
  refine SP 10 (fun h9 => ?_) (fun h9 => ?_)
  ·iterate 10 refine RL.no (.no rfl rfl rfl rfl) rfl rfl ?_
   refine QQ (Yld.pure rfl) ?_
   refine GG ?_
   refine RK.ret_of Tryz.func105 (res1 rfl rfl) ?_ _
   exact ⟨_, rfl, by unfold inBd; rw [hmay, h9]; rfl, hg2⟩
  ·refine QQ (Yld.fieldAddr fo27_1 rfl) ?_
   refine QQ (Yld.load p25 rfl (at1 (hB2.cell rfl))) ?_
   iterate 3 refine QQ (Yld.pure rfl) ?_
   refine SP 15 (fun h14 => ?_) (fun h14 => ?_)
   ·refine QQ (Yld.pure rfl) ?_
    refine QQ (Yld.fieldAddr fo27_2 rfl) ?_
    refine QQ (Yld.load p25 rfl (at1 (hB2.cell rfl))) ?_
    iterate 3 refine QQ (Yld.pure rfl) ?_
    refine GG ?_
    refine RK.ret_of Tryz.func105 (res1 rfl rfl) ?_ _
    exact ⟨_, rfl, by unfold inBd; rw [hmay, show b.all = false by simpa using h9, show leF b.lo v = true from h14]; rfl, hg2⟩
   ·iterate 4 refine RL.no (.no rfl rfl rfl rfl) rfl rfl ?_
    iterate 2 refine QQ (Yld.pure rfl) ?_
    refine GG ?_
    refine RK.ret_of Tryz.func105 (res1 rfl rfl) ?_ _
    exact ⟨_, rfl, by unfold inBd; rw [hmay, show b.all = false by simpa using h9, show leF b.lo v = false from h14]; rfl, hg2⟩
 ·iterate 14 refine RL.no (.no rfl rfl rfl rfl) rfl rfl ?_
  refine GG ?_
  refine RK.ret_of Tryz.func105 (res1 rfl rfl) ?_ _
  exact ⟨_, rfl, by unfold inBd; rw [show mayB b = false by simpa using h6]; rfl, hg2⟩
theorem inR_ok (b : Bd) (v : Nat) (w : World) : Fx Tryz.prog 90 [.agg (bdC b).toArray, .float .f64 v] w (fun u w' => u = .bool (inBd b v) ∧ Grow w w') := by
 refine enter Tryz.func90 rfl rfl rfl _ (Pick.sub (l := [0, 1]) (.cons rfl (.cons rfl .nil))) ?_
 refine GG ?_
 refine OP (Does.box rfl) ?_
 rintro _ w1 ⟨b1, rfl, hn1⟩
 refine GG ?_
 refine QQ (Yld.loadN (cs := bdC b) a27 rfl (atN (blk0' hn1.blk))) ?_
 refine OP (Does.call rfl e58 (mayR_ok b _)) ?_
 rintro _ w2 ⟨rfl, hg2'⟩
 have hg2 := hn1.grow.trans hg2'
 have hB2 : Blk w2 b1 27 [.bool b.all, .float .f64 b.lo, .float .f64 b.hi] := hn1.blk.mod hg2' (fun h => h)
 refine GG ?_
 refine CD (fun h7 => ?_) (fun h7 => ?_)
 ·refine GG ?_
  refine RK.ret_of Tryz.func90 (res1 rfl rfl) ?_ _
  exact ⟨_, rfl, by unfold inBd; rw [show mayB b = false by simpa using h7]; rfl, hg2⟩
 ·have hmay : mayB b = true := by simpa using h7
  refine GG ?_
  refine QQ (Yld.fieldAddr fo27_0 rfl) ?_
  refine QQ (Yld.load p4 rfl (at1 (hB2.cell rfl))) ?_
  refine RL.p rfl rfl ?_
  refine SP 10 (fun h9 => ?_) (fun h9 => ?_)
  ·iterate 10 refine RL.no (.no rfl rfl rfl rfl) rfl rfl ?_
   refine GG ?_
   refine RK.ret_of Tryz.func90 (res1 rfl rfl) ?_ _
   exact ⟨_, rfl, by unfold inBd; rw [hmay, h9]; rfl, hg2⟩
  ·refine QQ (Yld.fieldAddr fo27_1 rfl) ?_
   refine QQ (Yld.load p25 rfl (at1 (hB2.cell rfl))) ?_
   iterate 3 refine QQ (Yld.pure rfl) ?_
   refine SP 15 (fun h14 => ?_) (fun h14 => ?_)
   ·refine QQ (Yld.pure rfl) ?_
    refine QQ (Yld.fieldAddr fo27_2 rfl) ?_
    refine QQ (Yld.load p25 rfl (at1 (hB2.cell rfl))) ?_
    iterate 2 refine QQ (Yld.pure rfl) ?_
    refine GG ?_
    refine RK.ret_of Tryz.func90 (res1 rfl rfl) ?_ _
    exact ⟨_, rfl, by unfold inBd; rw [hmay, show b.all = false by simpa using h9, show leF b.lo v = true from h14]; rfl, hg2⟩
   ·iterate 4 refine RL.no (.no rfl rfl rfl rfl) rfl rfl ?_
    refine QQ (Yld.pure rfl) ?_
    refine GG ?_
    refine RK.ret_of Tryz.func90 (res1 rfl rfl) ?_ _
    exact ⟨_, rfl, by unfold inBd; rw [hmay, show b.all = false by simpa using h9, show leF b.lo v = false from h14]; rfl, hg2⟩
end Go.Proofs.YthbjfhhiajihfaaGreat
set_option linter.unusedVariables false
set_option linter.unusedSimpArgs false
set_option maxHeartbeats 1000000
set_option maxRecDepth 100000
namespace Go.Proofs.YthbjfhhiajihfaaGreat
open Go Go.X Go.Rex
structure Ru where
 sv : Value
 tv : Value
 ev : Value
 src : List Mt
 tgt : List Mt
 bd : Bd
 eq : List ByteArray
def ruC (r : Ru) : List Value := [r.sv, r.tv, .bool r.bd.all, .float .f64 r.bd.lo, .float .f64 r.bd.hi, r.ev]
def strsV (l : List ByteArray) : List Value := l.map Value.string
structure Ru.Ok (M : Nat → Prop) (w : World) (r : Ru) : Prop where
 s : SlM M w r.sv r.src
 t : SlM M w r.tv r.tgt
 e : Sl M w r.ev 1 r.eq.length (strsV r.eq)
theorem Ru.Ok.mod {M : Nat → Prop} {w w' : World} {r : Ru} (h : r.Ok M w) (hm : Mod M w w') : r.Ok M w' := ⟨h.s.mod hm, h.t.mod hm, h.e.mod hm⟩
structure Ru.Sz (r : Ru) : Prop where
 s : ∀ m ∈ r.src, m.name.size ≤ 9223372036854775807
 t : ∀ m ∈ r.tgt, m.name.size ≤ 9223372036854775807
 e : ∀ x ∈ r.eq, x.size ≤ 9223372036854775807
@[irreducible] def okE (es : List ByteArray) (i : Nat) : Bool := match es[i]? with
 | none => true
 | some x => nameS x && (match i with
  | 0 => true
  | j + 1 => match es[j]? with
   | none => true
   | some y => slt y x)
theorem okE_0 {es : List ByteArray} {x : ByteArray} (hx : es[0]? = some x) : okE es 0 = nameS x := by unfold okE; rw [hx]; simp
theorem okE_s {es : List ByteArray} {j : Nat} {x y : ByteArray} (hx : es[j + 1]? = some x) (hy : es[j]? = some y) : okE es (j + 1) = (nameS x && slt y x) := by unfold okE; rw [hx]; simp only; rw [hy]
def eqsE (es : List ByteArray) : Bool := (List.range es.length).all (okE es)
@[irreducible] def isRu (r : Ru) : Bool := !decide ((r.src.length : Int) = 0) && (!decide ((r.tgt.length : Int) = 0) && (listM r.src && (listM r.tgt && (mayB r.bd && (!decide (4 < (r.eq.length : Int)) && eqsE r.eq)))))
theorem isRu_no {r : Ru} {i : Nat} (hi : i < r.eq.length) (h : okE r.eq i = false) : isRu r = false := by
 have h1 : eqsE r.eq = false := List.all_eq_false.2 ⟨i, List.mem_range.2 hi, by simp [h]⟩
 unfold isRu; simp [h1]
theorem isRu_yes {r : Ru} (h1 : ¬ (r.src.length : Int) = 0) (h2 : ¬ (r.tgt.length : Int) = 0) (h3 : listM r.src = true) (h4 : listM r.tgt = true) (h5 : mayB r.bd = true) (h6 : ¬ 4 < (r.eq.length : Int)) (h : ∀ i, i < r.eq.length → okE r.eq i = true) : isRu r = true := by
 have h7 : eqsE r.eq = true := List.all_eq_true.2 fun i hi => h i (List.mem_range.1 hi)
 unfold isRu
 rw [decide_eq_false h1, decide_eq_false h2, h3, h4, h5, decide_eq_false h6, h7]; rfl
theorem isRule_ok (M : Nat → Prop) (r : Ru) (w : World) (hr : r.Ok M w) : Fx Tryz.prog 195 [.agg (ruC r).toArray] w (fun u w' => u = .bool (isRu r) ∧ Grow w w') := by
 obtain ⟨sv, tv, ev, src, tgt, bd, eq⟩ := r
 obtain ⟨hs, ht, he⟩ := hr
 simp only at hs ht he
 obtain ⟨ad1, c1, rfl⟩ := hs.shape
 obtain ⟨ad2, c2, rfl⟩ := ht.shape
 obtain ⟨ad3, c3, rfl⟩ := he.shape
 have hbig := he.big
 refine enter Tryz.func195 rfl rfl rfl _ (Pick.sub (l := [0]) (.cons rfl .nil)) ?_
 refine GG ?_
 refine OP (Does.box rfl) ?_
 rintro _ w1 ⟨b1, rfl, hn1⟩
 have hB1 : Blk w1 b1 30 (ruC ⟨.slice ad1 src.length c1, .slice ad2 tgt.length c2, .slice ad3 eq.length c3, src, tgt, bd, eq⟩) := hn1.blk
 refine GG ?_
 refine QQ (Yld.fieldAddr fo30_0 rfl) ?_
 refine QQ (Yld.load p24 rfl (at1 (hB1.cell rfl))) ?_
 refine QQ (Yld.lenSl u24 rfl) ?_
 refine GG ?_
 refine SP 9 (fun h8 => ?_) (fun h8 => ?_)
 ·iterate 4 refine RL.no (.no rfl rfl rfl rfl) rfl rfl ?_
  refine GG ?_
  iterate 4 refine RL.no (.no rfl rfl rfl rfl) rfl rfl ?_
  refine GG ?_
  iterate 4 refine RL.no (.no rfl rfl rfl rfl) rfl rfl ?_
  refine GG ?_
  iterate 4 refine RL.no (.no rfl rfl rfl rfl) rfl rfl ?_
  refine GG ?_
  iterate 4 refine RL.no (.no rfl rfl rfl rfl) rfl rfl ?_
  refine GG ?_
  refine RK.condT rfl ?_
  refine GG ?_
  refine RK.ret_of Tryz.func195 (res1 rfl rfl) ?_ _
  exact ⟨_, rfl, by unfold isRu; simp only [decide_eq_true h8]; rfl, hn1.grow⟩
 ·refine QQ (Yld.fieldAddr fo30_1 rfl) ?_
  refine QQ (Yld.load p24 rfl (at1 (hB1.cell rfl))) ?_
  refine QQ (Yld.lenSl u24 rfl) ?_
  refine QQ (Yld.pure rfl) ?_
  refine GG ?_
  refine SP 15 (fun h13 => ?_) (fun h13 => ?_)
  ·iterate 4 refine RL.no (.no rfl rfl rfl rfl) rfl rfl ?_
   refine GG ?_
   iterate 4 refine RL.no (.no rfl rfl rfl rfl) rfl rfl ?_
   refine GG ?_
   iterate 4 refine RL.no (.no rfl rfl rfl rfl) rfl rfl ?_
   refine GG ?_
   iterate 4 refine RL.no (.no rfl rfl rfl rfl) rfl rfl ?_
   refine GG ?_
   refine RK.condT rfl ?_
   refine GG ?_
   refine RK.ret_of Tryz.func195 (res1 rfl rfl) ?_ _
   exact ⟨_, rfl, by unfold isRu; simp only [decide_eq_true h13]; rw [Bool.not_true, Bool.false_and, Bool.and_false], hn1.grow⟩
  ·refine QQ (Yld.fieldAddr fo30_0 rfl) ?_
   refine QQ (Yld.load p24 rfl (at1 (hB1.cell rfl))) ?_
   refine OP (Does.call rfl e136 (matchList_ok M src _ _ (hs.mod (Mod.any' hn1.grow)))) ?_
   rintro _ w2 ⟨rfl, hg2⟩
   have hB2 := hB1.mod hg2 (fun h => h)
   have hg12 := hn1.grow.trans hg2
   refine QQ (Yld.pure rfl) ?_
   refine GG ?_
   refine SP 21 (fun h19 => ?_) (fun h19 => ?_)
   ·iterate 4 refine RL.no (.no rfl rfl rfl rfl) rfl rfl ?_
    refine GG ?_
    iterate 4 refine RL.no (.no rfl rfl rfl rfl) rfl rfl ?_
    refine GG ?_
    iterate 4 refine RL.no (.no rfl rfl rfl rfl) rfl rfl ?_
    refine GG ?_
    refine RK.condT rfl ?_
    refine GG ?_
    refine RK.ret_of Tryz.func195 (res1 rfl rfl) ?_ _
    exact ⟨_, rfl, by unfold isRu; simp only [show listM src = false by simpa using h19]; rw [Bool.false_and, Bool.and_false, Bool.and_false], hg12⟩
   ·have hl1 : listM src = true := by simpa using h19
    refine QQ (Yld.fieldAddr fo30_1 rfl) ?_
    refine QQ (Yld.load p24 rfl (at1 (hB2.cell rfl))) ?_
    refine OP (Does.call rfl e136 (matchList_ok M tgt _ _ (ht.mod (Mod.any' hg12)))) ?_
    rintro _ w3 ⟨rfl, hg3⟩
    have hB3 := hB2.mod hg3 (fun h => h)
    have hg13 := hg12.trans hg3
    refine QQ (Yld.pure rfl) ?_
    refine GG ?_
    refine SP 27 (fun h25 => ?_) (fun h25 => ?_)
    ·iterate 4 refine RL.no (.no rfl rfl rfl rfl) rfl rfl ?_
     refine GG ?_
     iterate 4 refine RL.no (.no rfl rfl rfl rfl) rfl rfl ?_
     refine GG ?_
     refine RK.condT rfl ?_
     refine GG ?_
     refine RK.ret_of Tryz.func195 (res1 rfl rfl) ?_ _
     exact ⟨_, rfl, by unfold isRu; simp only [show listM tgt = false by simpa using h25]; rw [Bool.false_and, Bool.and_false, Bool.and_false, Bool.and_false], hg13⟩
    ·have hl2 : listM tgt = true := by simpa using h25
     refine QQ (Yld.fieldAddr fo30_2 rfl) ?_
     refine QQ (Yld.loadN (cs := bdC bd) a27 rfl (atN (fldN hB3 2 3))) ?_
     refine OP (Does.call rfl e152 (may_ok bd _)) ?_
     rintro _ w4 ⟨rfl, hg4⟩
     have hB4 := hB3.mod hg4 (fun h => h)
     have hg14 := hg13.trans hg4
     refine QQ (Yld.pure rfl) ?_
     refine GG ?_
     refine SP 33 (fun h31 => ?_) (fun h31 => ?_)
     ·iterate 4 refine RL.no (.no rfl rfl rfl rfl) rfl rfl ?_
      refine GG ?_
      refine RK.condT rfl ?_
      refine GG ?_
      refine RK.ret_of Tryz.func195 (res1 rfl rfl) ?_ _
      exact ⟨_, rfl, by unfold isRu; simp only [show mayB bd = false by simpa using h31]; rw [Bool.false_and, Bool.and_false, Bool.and_false, Bool.and_false, Bool.and_false], hg14⟩
     ·have hl3 : mayB bd = true := by simpa using h31
      refine QQ (Yld.fieldAddr fo30_3 rfl) ?_
      refine QQ (Yld.load p28 rfl (at1 (hB4.cell rfl))) ?_
      refine QQ (Yld.lenSl u28 rfl) ?_
      refine QQ (Yld.pure rfl) ?_
      refine GG ?_
      refine CD (fun h37 => ?_) (fun h37 => ?_)
      ·refine GG ?_
       refine RK.ret_of Tryz.func195 (res1 rfl rfl) ?_ _
       exact ⟨_, rfl, by unfold isRu; simp only [decide_eq_true h37]; rw [Bool.not_true, Bool.false_and, Bool.and_false, Bool.and_false, Bool.and_false, Bool.and_false, Bool.and_false], hg14⟩
      ·have hyes := fun h => isRu_yes (r := ⟨.slice ad1 src.length c1, .slice ad2 tgt.length c2, .slice ad3 eq.length c3, src, tgt, bd, eq⟩) h8 h13 hl1 hl2 hl3 h37 h
       have hno := fun (i : Nat) hi h => isRu_no (r := ⟨.slice ad1 src.length c1, .slice ad2 tgt.length c2, .slice ad3 eq.length c3, src, tgt, bd, eq⟩) (i := i) hi h
       simp only at hyes hno
       refine GG ?_
       refine QQ (Yld.fieldAddr fo30_3 rfl) ?_
       refine QQ (Yld.load p28 rfl (at1 (hB4.cell rfl))) ?_
       refine QQ (Yld.lenSl u28 rfl) ?_
       refine GG ?_
       refine RK.loop (fun k : Nat => [(1, pp b1), (40, .slice ad3 eq.length c3), (41, .int .i64 (eq.length : Int)), (42, .int .i64 (k : Int))]) (fun k w' => w4 = w' ∧ k ≤ eq.length ∧ ∀ i, i < k → okE eq i = true) (fun k => eq.length - k) 0 ⟨rfl, rfl, rfl, rfl, trivial⟩ ⟨rfl, by omega, fun i hi => by omega⟩ (fun k w' hI ih => ?_)
       obtain ⟨rfl, hk, hall⟩ := hI
       refine GG ?_
       refine CD (fun h43 => ?_) (fun h43 => ?_)
       ·obtain ⟨x, hx⟩ : ∃ x, eq[k]? = some x := ⟨eq[k]'(by omega), List.getElem?_eq_getElem (by omega)⟩
        obtain ⟨b2, o2, c', he1, _, _, hc1⟩ := (he.mod (Mod.any' hg14)).elem1 (k := k) (u := .string x) (by simp [strsV, hx])
        cases he1
        refine GG ?_
        refine QQ (Yld.indexAddrN u28 i9 rfl rfl (by omega)) ?_
        refine QQ (Yld.load p9 rfl (at1 (hc1 k (.string x) (by simp [strsV, hx])))) ?_
        refine GG ?_
        refine OP (Does.call rfl e219 (name_ok x _)) ?_
        rintro _ _ ⟨rfl, rfl⟩
        refine GG ?_
        refine SP 50 (fun h49 => ?_) (fun h49 => ?_)
        ·iterate 12 refine RL.no (.no rfl rfl rfl rfl) rfl rfl ?_
         refine GG ?_
         refine RK.condT rfl ?_
         refine GG ?_
         refine RK.ret_of Tryz.func195 (res1 rfl rfl) ?_ _
         exact ⟨_, rfl, by rw [hno k (by omega) (by
           have hf : nameS x = false := by simpa using h49
           cases k with
           | zero => rw [okE_0 hx]; exact hf
           | succ j => rw [okE_s hx (List.getElem?_eq_getElem (by omega)), hf]; rfl)], hg14⟩
        ·have hix : nameS x = true := by simpa using h49
         iterate 3 refine QQ (Yld.pure rfl) ?_
         refine SP 53 (fun h52 => ?_) (fun h52 => ?_)
         ·obtain ⟨j, rfl⟩ : ∃ j, k = j + 1 := ⟨k - 1, by omega⟩
          obtain ⟨y, hy⟩ : ∃ y, eq[j]? = some y := ⟨eq[j]'(by omega), List.getElem?_eq_getElem (by omega)⟩
          refine QQ (Yld.pure rfl) ?_
          refine QQ (Yld.fieldAddr fo30_3 rfl) ?_
          refine QQ (Yld.load p28 rfl (at1 (hB4.cell rfl))) ?_
          iterate 2 refine QQ (Yld.pure rfl) ?_
          refine RL.re (d := 58) rfl rfl (sub_i64 (z := (j : Int)) (by omega) (by omega) (by omega)) ?_
          refine QQ (Yld.indexAddrN u28 i9 rfl rfl (by omega)) ?_
          refine QQ (Yld.load p9 rfl (at1 (hc1 j (.string y) (by simp [strsV, hy])))) ?_
          iterate 2 refine QQ (Yld.pure rfl) ?_
          refine GG ?_
          refine CD (fun h61 => ?_) (fun h61 => ?_)
          ·refine GG ?_
           refine RK.ret_of Tryz.func195 (res1 rfl rfl) ?_ _
           exact ⟨_, rfl, by rw [hno (j + 1) (by omega) (by rw [okE_s hx hy, hix, show slt y x = false by rw [sle_not] at h61; simpa using h61]; rfl)], hg14⟩
          ·refine RK.skip ?_
           refine RK.inBlock ?_
           refine RK.region ?_
           refine RL.p rfl rfl ?_
           refine RL.re (d := 64) rfl rfl (succ_i64 (by omega)) ?_
           refine GG ?_
           exact RK.back (ih (j + 1 + 1) _ ⟨rfl, by omega, fun i hi => by by_cases e : i = j + 1; (subst e; rw [okE_s hx hy, hix, show slt y x = true by rw [sle_not] at h61; simpa using h61]; rfl); exact hall i (by omega)⟩ (by omega)) ⟨rfl, rfl, rfl, rfl, trivial⟩
         ·have hk0 : k = 0 := by omega
          subst hk0
          iterate 8 refine RL.no (.no rfl rfl rfl rfl) rfl rfl ?_
          refine QQ (Yld.pure rfl) ?_
          refine GG ?_
          refine RK.condF rfl ?_
          refine RK.skip ?_
          refine RK.inBlock ?_
          refine RK.region ?_
          refine RL.p rfl rfl ?_
          refine RL.re (d := 64) rfl rfl (succ_i64 (by omega)) ?_
          refine GG ?_
          exact RK.back (ih (0 + 1) _ ⟨rfl, by omega, fun i hi => by by_cases e : i = 0; (subst e; rw [okE_0 hx]; exact hix); omega⟩ (by omega)) ⟨rfl, rfl, rfl, rfl, trivial⟩
       ·refine RK.exit rfl ?_
        refine GG ?_
        refine RK.ret_of Tryz.func195 (res1 rfl rfl) ?_ _
        exact ⟨_, rfl, by rw [hyes (fun i hi => hall i (by omega))], hg14⟩
theorem isRuleR_ok (M : Nat → Prop) (r : Ru) (w : World) (hr : r.Ok M w) (hz : r.Sz) : Fx Tryz.prog 29 [.agg (ruC r).toArray] w (fun u w' => u = .bool (isRu r) ∧ Grow w w') := by
  obtain ⟨sv, tv, ev, src, tgt, bd, eq⟩ := r
  obtain ⟨hs, ht, he⟩ := hr
  simp only at hs ht he
  obtain ⟨ad1, c1, rfl⟩ := hs.shape
  obtain ⟨ad2, c2, rfl⟩ := ht.shape
  obtain ⟨ad3, c3, rfl⟩ := he.shape
  have hbig := he.big
  obtain ⟨hzs, hzt, hze⟩ := hz
  simp only at hzs hzt hze
  refine enter Tryz.func29 rfl rfl rfl _ (Pick.sub (l := [0]) (.cons rfl .nil)) ?_
  refine RK.seq ?_
  refine RK.region ?_
  refine RL.op (.free rfl) rfl rfl (Does.box rfl) ?_
  rintro _ w1 ⟨b1, rfl, hn1⟩
  have hB1 : Blk w1 b1 30 (ruC ⟨.slice ad1 src.length c1, .slice ad2 tgt.length c2, .slice ad3 eq.length c3, src, tgt, bd, eq⟩) := hn1.blk
  refine RL.p rfl rfl ?_
  refine RL.done ?_
  iterate 2 refine RK.seq ?_
  refine RK.region ?_
  refine RL.q (.free rfl) rfl rfl (Yld.fieldAddr fo30_0 rfl) ?_
  refine RL.q (.free rfl) rfl rfl (Yld.load p24 rfl (at1 (hB1.cell rfl))) ?_
  refine RL.q (.free rfl) rfl rfl (Yld.lenSl u24 rfl) ?_
  iterate 2 refine RL.p rfl rfl ?_
  first | refine RL.splitD (d := 8) rfl rfl (fun h8 => ?_) (fun h8 => ?_) | refine RL.splitN (d := 8) rfl rfl (fun h8 => ?_) (fun h8 => ?_) | refine RL.split (d := 8) rfl rfl (fun h8 => ?_) (fun h8 => ?_)
  · iterate 4 refine RL.no (.no rfl rfl rfl rfl) rfl rfl ?_
    iterate 2 refine RL.p rfl rfl ?_
    iterate 4 refine RL.no (.no rfl rfl rfl rfl) rfl rfl ?_
    iterate 2 refine RL.p rfl rfl ?_
    iterate 4 refine RL.no (.no rfl rfl rfl rfl) rfl rfl ?_
    iterate 2 refine RL.p rfl rfl ?_
    iterate 4 refine RL.no (.no rfl rfl rfl rfl) rfl rfl ?_
    iterate 2 refine RL.p rfl rfl ?_
    iterate 4 refine RL.no (.no rfl rfl rfl rfl) rfl rfl ?_
    refine RL.p rfl rfl ?_
    refine RL.done ?_
    refine RK.condT rfl ?_
    refine RK.seq ?_
    refine RK.region ?_
    refine RL.p rfl rfl ?_
    refine RL.done ?_
    refine RK.ret_of Tryz.func29 (res1 rfl rfl) ?_ _
    exact ⟨_, rfl, by unfold isRu; simp only [decide_eq_true h8]; rfl, hn1.grow⟩
  · refine RL.q (.yes rfl rfl rfl) rfl rfl (Yld.fieldAddr fo30_1 rfl) ?_
    refine RL.q (.yes rfl rfl rfl) rfl rfl (Yld.load p24 rfl (at1 (hB1.cell rfl))) ?_
    refine RL.q (.yes rfl rfl rfl) rfl rfl (Yld.lenSl u24 rfl) ?_
    refine RL.q (.yes rfl rfl rfl) rfl rfl (Yld.pure rfl) ?_
    iterate 2 refine RL.p rfl rfl ?_
    first | refine RL.splitD (d := 14) rfl rfl (fun h13 => ?_) (fun h13 => ?_) | refine RL.splitN (d := 14) rfl rfl (fun h13 => ?_) (fun h13 => ?_) | refine RL.split (d := 14) rfl rfl (fun h13 => ?_) (fun h13 => ?_)
    · iterate 4 refine RL.no (.no rfl rfl rfl rfl) rfl rfl ?_
      iterate 2 refine RL.p rfl rfl ?_
      iterate 4 refine RL.no (.no rfl rfl rfl rfl) rfl rfl ?_
      iterate 2 refine RL.p rfl rfl ?_
      iterate 4 refine RL.no (.no rfl rfl rfl rfl) rfl rfl ?_
      iterate 2 refine RL.p rfl rfl ?_
      iterate 4 refine RL.no (.no rfl rfl rfl rfl) rfl rfl ?_
      refine RL.p rfl rfl ?_
      refine RL.done ?_
      refine RK.condT rfl ?_
      refine RK.seq ?_
      refine RK.region ?_
      refine RL.p rfl rfl ?_
      refine RL.done ?_
      refine RK.ret_of Tryz.func29 (res1 rfl rfl) ?_ _
      exact ⟨_, rfl, by unfold isRu; simp only [decide_eq_true h13]; rw [Bool.not_true, Bool.false_and, Bool.and_false], hn1.grow⟩
    · refine RL.q (.yes rfl rfl rfl) rfl rfl (Yld.fieldAddr fo30_0 rfl) ?_
      refine RL.q (.yes rfl rfl rfl) rfl rfl (Yld.load p24 rfl (at1 (hB1.cell rfl))) ?_
      refine RL.op (.yes rfl rfl rfl) rfl rfl (Does.call rfl e57 (listR_ok M src hzs _ _ (hs.mod (Mod.any' hn1.grow)))) ?_
      rintro _ w2 ⟨rfl, hg2⟩
      have hB2 := hB1.mod hg2 (fun h => h)
      have hg12 := hn1.grow.trans hg2
      refine RL.q (.yes rfl rfl rfl) rfl rfl (Yld.pure rfl) ?_
      iterate 2 refine RL.p rfl rfl ?_
      first | refine RL.splitD (d := 20) rfl rfl (fun h19 => ?_) (fun h19 => ?_) | refine RL.splitN (d := 20) rfl rfl (fun h19 => ?_) (fun h19 => ?_) | refine RL.split (d := 20) rfl rfl (fun h19 => ?_) (fun h19 => ?_)
      · iterate 4 refine RL.no (.no rfl rfl rfl rfl) rfl rfl ?_
        iterate 2 refine RL.p rfl rfl ?_
        iterate 4 refine RL.no (.no rfl rfl rfl rfl) rfl rfl ?_
        iterate 2 refine RL.p rfl rfl ?_
        iterate 4 refine RL.no (.no rfl rfl rfl rfl) rfl rfl ?_
        refine RL.p rfl rfl ?_
        refine RL.done ?_
        refine RK.condT rfl ?_
        refine RK.seq ?_
        refine RK.region ?_
        refine RL.p rfl rfl ?_
        refine RL.done ?_
        refine RK.ret_of Tryz.func29 (res1 rfl rfl) ?_ _
        exact ⟨_, rfl, by unfold isRu; simp only [show listM src = false by simpa using h19]; rw [Bool.false_and, Bool.and_false, Bool.and_false], hg12⟩
      · have hl1 : listM src = true := by simpa using h19
        refine RL.q (.yes rfl rfl rfl) rfl rfl (Yld.fieldAddr fo30_1 rfl) ?_
        refine RL.q (.yes rfl rfl rfl) rfl rfl (Yld.load p24 rfl (at1 (hB2.cell rfl))) ?_
        refine RL.op (.yes rfl rfl rfl) rfl rfl (Does.call rfl e57 (listR_ok M tgt hzt _ _ (ht.mod (Mod.any' hg12)))) ?_
        rintro _ w3 ⟨rfl, hg3⟩
        have hB3 := hB2.mod hg3 (fun h => h)
        have hg13 := hg12.trans hg3
        refine RL.q (.yes rfl rfl rfl) rfl rfl (Yld.pure rfl) ?_
        iterate 2 refine RL.p rfl rfl ?_
        first | refine RL.splitD (d := 26) rfl rfl (fun h25 => ?_) (fun h25 => ?_) | refine RL.splitN (d := 26) rfl rfl (fun h25 => ?_) (fun h25 => ?_) | refine RL.split (d := 26) rfl rfl (fun h25 => ?_) (fun h25 => ?_)
        · iterate 4 refine RL.no (.no rfl rfl rfl rfl) rfl rfl ?_
          iterate 2 refine RL.p rfl rfl ?_
          iterate 4 refine RL.no (.no rfl rfl rfl rfl) rfl rfl ?_
          refine RL.p rfl rfl ?_
          refine RL.done ?_
          refine RK.condT rfl ?_
          refine RK.seq ?_
          refine RK.region ?_
          refine RL.p rfl rfl ?_
          refine RL.done ?_
          refine RK.ret_of Tryz.func29 (res1 rfl rfl) ?_ _
          exact ⟨_, rfl, by unfold isRu; simp only [show listM tgt = false by simpa using h25]; rw [Bool.false_and, Bool.and_false, Bool.and_false, Bool.and_false], hg13⟩
        · have hl2 : listM tgt = true := by simpa using h25
          refine RL.q (.yes rfl rfl rfl) rfl rfl (Yld.fieldAddr fo30_2 rfl) ?_
          refine RL.q (.yes rfl rfl rfl) rfl rfl (Yld.loadN (cs := bdC bd) a27 rfl (atN (fldN hB3 2 3))) ?_
          refine RL.op (.yes rfl rfl rfl) rfl rfl (Does.call rfl e58 (mayR_ok bd _)) ?_
          rintro _ w4 ⟨rfl, hg4⟩
          have hB4 := hB3.mod hg4 (fun h => h)
          have hg14 := hg13.trans hg4
          refine RL.q (.yes rfl rfl rfl) rfl rfl (Yld.pure rfl) ?_
          iterate 2 refine RL.p rfl rfl ?_
          first | refine RL.splitD (d := 32) rfl rfl (fun h31 => ?_) (fun h31 => ?_) | refine RL.splitN (d := 32) rfl rfl (fun h31 => ?_) (fun h31 => ?_) | refine RL.split (d := 32) rfl rfl (fun h31 => ?_) (fun h31 => ?_)
          · iterate 4 refine RL.no (.no rfl rfl rfl rfl) rfl rfl ?_
            refine RL.p rfl rfl ?_
            refine RL.done ?_
            refine RK.condT rfl ?_
            refine RK.seq ?_
            refine RK.region ?_
            refine RL.p rfl rfl ?_
            refine RL.done ?_
            refine RK.ret_of Tryz.func29 (res1 rfl rfl) ?_ _
            exact ⟨_, rfl, by unfold isRu; simp only [show mayB bd = false by simpa using h31]; rw [Bool.false_and, Bool.and_false, Bool.and_false, Bool.and_false, Bool.and_false], hg14⟩
          · have hl3 : mayB bd = true := by simpa using h31
            refine RL.q (.yes rfl rfl rfl) rfl rfl (Yld.fieldAddr fo30_3 rfl) ?_
            refine RL.q (.yes rfl rfl rfl) rfl rfl (Yld.load p28 rfl (at1 (hB4.cell rfl))) ?_
            refine RL.q (.yes rfl rfl rfl) rfl rfl (Yld.lenSl u28 rfl) ?_
            refine RL.q (.yes rfl rfl rfl) rfl rfl (Yld.pure rfl) ?_
            refine RL.p rfl rfl ?_
            refine RL.done ?_
            first | refine RK.condD rfl (fun h37 => ?_) (fun h37 => ?_) | refine RK.condN rfl (fun h37 => ?_) (fun h37 => ?_) | refine RK.cond rfl (fun h37 => ?_) (fun h37 => ?_)
            · refine RK.seq ?_
              refine RK.region ?_
              refine RL.p rfl rfl ?_
              refine RL.done ?_
              refine RK.ret_of Tryz.func29 (res1 rfl rfl) ?_ _
              exact ⟨_, rfl, by unfold isRu; simp only [decide_eq_true h37]; rw [Bool.not_true, Bool.false_and, Bool.and_false, Bool.and_false, Bool.and_false, Bool.and_false, Bool.and_false], hg14⟩
            · have hyes := fun h => isRu_yes (r := ⟨.slice ad1 src.length c1, .slice ad2 tgt.length c2, .slice ad3 eq.length c3, src, tgt, bd, eq⟩) h8 h13 hl1 hl2 hl3 h37 h
              have hno := fun (i : Nat) hi h => isRu_no (r := ⟨.slice ad1 src.length c1, .slice ad2 tgt.length c2, .slice ad3 eq.length c3, src, tgt, bd, eq⟩) (i := i) hi h
              simp only at hyes hno
              refine RK.skip ?_
              iterate 2 refine RK.seq ?_
              refine RK.region ?_
              refine RL.p rfl rfl ?_
              refine RL.done ?_
              refine RK.block ?_
              refine RK.loop (fun k : Nat => [(1, pp b1), (3, .int .i64 (k : Int))]) (fun k w' => Grow w4 w' ∧ k ≤ eq.length ∧ ∀ i, i < k → okE eq i = true) (fun k => eq.length - k) 0 ⟨rfl, rfl, trivial⟩ ⟨Mod.refl _ _, by omega, fun i hi => by omega⟩ (fun k w' hI ih => ?_)
              obtain ⟨hg5, hk, hall⟩ := hI
              have hB5 := hB4.mod hg5 (fun h => h)
              iterate 2 refine RK.seq ?_
              refine RK.region ?_
              refine RL.p rfl rfl ?_
              refine RL.q (.free rfl) rfl rfl (Yld.fieldAddr fo30_3 rfl) ?_
              refine RL.q (.free rfl) rfl rfl (Yld.load p28 rfl (at1 (hB5.cell rfl))) ?_
              refine RL.q (.free rfl) rfl rfl (Yld.lenSl u28 rfl) ?_
              refine RL.p rfl rfl ?_
              refine RL.done ?_
              first | refine RK.condD rfl (fun h42 => ?_) (fun h42 => ?_) | refine RK.condN rfl (fun h42 => ?_) (fun h42 => ?_) | refine RK.cond rfl (fun h42 => ?_) (fun h42 => ?_)
              · obtain ⟨x, hx⟩ : ∃ x, eq[k]? = some x := ⟨eq[k]'(by omega), List.getElem?_eq_getElem (by omega)⟩
                obtain ⟨b2, o2, c', he1, _, _, hc1⟩ := (he.mod (Mod.any' (hg14.trans hg5))).elem1 (k := k) (u := .string x) (by simp [strsV, hx])
                cases he1
                have hgd := (hg14.trans hg5).trans (Mod.drew No w')
                refine RK.skip ?_
                refine RK.seq ?_
                refine RK.block ?_
                refine RK.seq ?_
                refine RK.drawM No [(0, false), (1, false), (2, false), (3, false), (4, false), (5, true), (6, false), (7, false), (8, false), (9, false), (10, false), (11, false), (12, false), (13, false), (14, false), (15, false), (16, false), (17, false), (18, false), (19, false), (20, false), (21, false), (22, false), (23, false), (24, false)] [] mixed (by kernel_rfl) ?_
                refine DL.qf rfl (.free rfl) rfl rfl (Yld.fieldAddr fo30_3 rfl) ?_
                refine DL.q rfl (.free rfl) rfl rfl rfl (Yld.load p28 rfl (atM (hB5.cell rfl) (fun h => h))) (Mod.drew _ _) ?_
                refine DL.p rfl rfl rfl ?_
                refine DL.qf rfl (.free rfl) rfl rfl (Yld.indexAddrN u28 i9 rfl rfl (by omega)) ?_
                refine DL.q rfl (.free rfl) rfl rfl rfl (Yld.load p9 rfl (atM (hc1 k (.string x) (by simp [strsV, hx])) (fun h => h))) (Mod.drew _ _) ?_
                refine DL.op rfl (.free rfl) rfl rfl (Does.call rfl e81 (name2_ok x (hze x (List.mem_of_getElem? hx)) _)) ?_
                rintro _ _ ⟨rfl, rfl⟩
                refine ⟨Mod.drew _ _, ?_⟩
                iterate 2 refine DL.p rfl rfl rfl ?_
                first | refine DL.splitD (d := 52) rfl rfl (fun h51 => ?_) (fun h51 => ?_) | refine DL.splitN (d := 52) rfl rfl (fun h51 => ?_) (fun h51 => ?_) | refine DL.split (d := 52) rfl rfl (fun h51 => ?_) (fun h51 => ?_)
                · iterate 16 refine DL.no rfl (.no rfl rfl rfl rfl) rfl rfl ?_
                  refine DL.p rfl rfl rfl ?_
                  refine DL.done ?_
                  refine RK.condT rfl ?_
                  refine RK.seq ?_
                  refine RK.region ?_
                  refine RL.p rfl rfl ?_
                  refine RL.done ?_
                  refine RK.ret_of Tryz.func29 (res1 rfl rfl) ?_ _
                  exact ⟨_, rfl, by rw [hno k (by omega) (by
                      have hf : nameS x = false := by simpa using h51
                      cases k with
                      | zero => rw [okE_0 hx]; exact hf
                      | succ j => rw [okE_s hx (List.getElem?_eq_getElem (by omega)), hf]; rfl)], hgd⟩
                · have hix : nameS x = true := by simpa using h51
                  iterate 3 refine DL.qf rfl (.yes rfl rfl rfl) rfl rfl (Yld.pure rfl) ?_
                  first | refine DL.splitD (d := 55) rfl rfl (fun h54 => ?_) (fun h54 => ?_) | refine DL.splitN (d := 55) rfl rfl (fun h54 => ?_) (fun h54 => ?_) | refine DL.split (d := 55) rfl rfl (fun h54 => ?_) (fun h54 => ?_)
                  · obtain ⟨j, rfl⟩ : ∃ j, k = j + 1 := ⟨k - 1, by omega⟩
                    obtain ⟨y, hy⟩ : ∃ y, eq[j]? = some y := ⟨eq[j]'(by omega), List.getElem?_eq_getElem (by omega)⟩
                    refine DL.qf rfl (.yes rfl rfl rfl) rfl rfl (Yld.fieldAddr fo30_3 rfl) ?_
                    refine DL.q rfl (.yes rfl rfl rfl) rfl rfl rfl (Yld.load p28 rfl (atM (hB5.cell rfl) (fun h => h))) (Mod.drew _ _) ?_
                    refine DL.qf rfl (.yes rfl rfl rfl) rfl rfl (Yld.pure rfl) ?_
                    refine DL.qf rfl (.yes rfl rfl rfl) rfl rfl (Yld.indexAddrN u28 i9 rfl rfl (by omega)) ?_
                    refine DL.q rfl (.yes rfl rfl rfl) rfl rfl rfl (Yld.load p9 rfl (atM (hc1 (j + 1) (.string x) (by simp [strsV, hx])) (fun h => h))) (Mod.drew _ _) ?_
                    refine DL.qf rfl (.yes rfl rfl rfl) rfl rfl (Yld.fieldAddr fo30_3 rfl) ?_
                    refine DL.q rfl (.yes rfl rfl rfl) rfl rfl rfl (Yld.load p28 rfl (atM (hB5.cell rfl) (fun h => h))) (Mod.drew _ _) ?_
                    iterate 2 refine DL.qf rfl (.yes rfl rfl rfl) rfl rfl (Yld.pure rfl) ?_
                    refine DL.re (d := 64) rfl rfl (sub_i64 (z := (j : Int)) (by omega) (by omega) (by omega)) ?_
                    refine DL.qf rfl (.yes rfl rfl rfl) rfl rfl (Yld.indexAddrN u28 i9 rfl rfl (by omega)) ?_
                    refine DL.q rfl (.yes rfl rfl rfl) rfl rfl rfl (Yld.load p9 rfl (atM (hc1 j (.string y) (by simp [strsV, hy])) (fun h => h))) (Mod.drew _ _) ?_
                    iterate 2 refine DL.qf rfl (.yes rfl rfl rfl) rfl rfl (Yld.pure rfl) ?_
                    refine DL.p rfl rfl rfl ?_
                    refine DL.done ?_
                    first | refine RK.condD rfl (fun h67 => ?_) (fun h67 => ?_) | refine RK.condN rfl (fun h67 => ?_) (fun h67 => ?_) | refine RK.cond rfl (fun h67 => ?_) (fun h67 => ?_)
                    · refine RK.seq ?_
                      refine RK.region ?_
                      refine RL.p rfl rfl ?_
                      refine RL.done ?_
                      refine RK.ret_of Tryz.func29 (res1 rfl rfl) ?_ _
                      exact ⟨_, rfl, by rw [hno (j + 1) (by omega) (by rw [okE_s hx hy, hix, show slt y x = false by rw [sle_not] at h67; simpa using h67]; rfl)], hgd⟩
                    · refine RK.skip ?_
                      refine RK.inBlock ?_
                      refine RK.region ?_
                      iterate 2 refine RL.p rfl rfl ?_
                      refine RL.re (d := 44) rfl rfl (succ_i64 (by omega)) ?_
                      refine RL.p rfl rfl ?_
                      refine RL.done ?_
                      exact RK.back (ih (j + 1 + 1) _ ⟨hg5.trans (Mod.drew _ _), by omega, fun i hi => by by_cases e : i = j + 1; (subst e; rw [okE_s hx hy, hix, show slt y x = true by rw [sle_not] at h67; simpa using h67]; rfl); exact hall i (by omega)⟩ (by omega)) ⟨rfl, rfl, trivial⟩
                  · have hk0 : k = 0 := by omega
                    subst hk0
                    iterate 12 refine DL.no rfl (.no rfl rfl rfl rfl) rfl rfl ?_
                    refine DL.qf rfl (.yes rfl rfl rfl) rfl rfl (Yld.pure rfl) ?_
                    refine DL.p rfl rfl rfl ?_
                    refine DL.done ?_
                    refine RK.condF rfl ?_
                    refine RK.skip ?_
                    refine RK.inBlock ?_
                    refine RK.region ?_
                    iterate 2 refine RL.p rfl rfl ?_
                    refine RL.re (d := 44) rfl rfl (succ_i64 (by omega)) ?_
                    refine RL.p rfl rfl ?_
                    refine RL.done ?_
                    exact RK.back (ih (0 + 1) _ ⟨hg5.trans (Mod.drew _ _), by omega, fun i hi => by by_cases e : i = 0; (subst e; rw [okE_0 hx]; exact hix); omega⟩ (by omega)) ⟨rfl, rfl, trivial⟩
              · refine RK.exit rfl ?_
                refine RK.seq ?_
                refine RK.region ?_
                refine RL.p rfl rfl ?_
                refine RL.done ?_
                refine RK.ret_of Tryz.func29 (res1 rfl rfl) ?_ _
                exact ⟨_, rfl, by rw [hyes (fun i hi => hall i (by omega))], hg14.trans hg5⟩
def largeRu (r : Ru) : Bool := isRu r && (anyL r.src || anyL r.tgt)
theorem largeRu_ok (M : Nat → Prop) (r : Ru) (w : World) (hr : r.Ok M w) : Fx Tryz.prog 196 [.agg (ruC r).toArray] w (fun u w' => u = .bool (largeRu r) ∧ Grow w w') := by
 have hr0 := hr
 obtain ⟨sv, tv, ev, src, tgt, bd, eq⟩ := r
 obtain ⟨hs, ht, he⟩ := hr
 simp only at hs ht he
 obtain ⟨ad1, c1, rfl⟩ := hs.shape
 obtain ⟨ad2, c2, rfl⟩ := ht.shape
 obtain ⟨ad3, c3, rfl⟩ := he.shape
 have hbig := he.big
 refine enter Tryz.func196 rfl rfl rfl _ (Pick.sub (l := [0]) (.cons rfl .nil)) ?_
 refine GG ?_
 refine OP (Does.box rfl) ?_
 rintro _ w1 ⟨b1, rfl, hn1⟩
 have hB1 : Blk w1 b1 30 (ruC ⟨.slice ad1 src.length c1, .slice ad2 tgt.length c2, .slice ad3 eq.length c3, src, tgt, bd, eq⟩) := hn1.blk
 refine GG ?_
 refine QQ (Yld.loadN (cs := ruC ⟨.slice ad1 src.length c1, .slice ad2 tgt.length c2, .slice ad3 eq.length c3, src, tgt, bd, eq⟩) a30 rfl (atN (blk0' hB1))) ?_
 refine OP (Does.call rfl e195 (isRule_ok M _ _ (hr0.mod (Mod.any' hn1.grow)))) ?_
 rintro _ w2 ⟨rfl, hg2⟩
 have hg12 := hn1.grow.trans hg2
 have hB2 := hB1.mod hg2 (fun h => h)
 refine RL.p rfl rfl ?_
 refine SP 5 (fun h4 => ?_) (fun h4 => ?_)
 ·refine QQ (Yld.fieldAddr fo30_0 rfl) ?_
  refine QQ (Yld.load p24 rfl (at1 (hB2.cell rfl))) ?_
  refine OP (Does.call rfl e137 (matchAnyL_ok M src _ _ (hs.mod (Mod.any' hg12)))) ?_
  rintro _ w3 ⟨rfl, hg3⟩
  have hg13 := hg12.trans hg3
  have hB3 := hB2.mod hg3 (fun h => h)
  refine QQ (Yld.pure rfl) ?_
  refine SP 9 (fun h8 => ?_) (fun h8 => ?_)
  ·iterate 3 refine RL.no (.no rfl rfl rfl rfl) rfl rfl ?_
   refine QQ (Yld.pure rfl) ?_
   refine GG ?_
   refine RK.ret_of Tryz.func196 (res1 rfl rfl) ?_ _
   exact ⟨_, rfl, by unfold largeRu; rw [h4]; simp only; rw [h8]; rfl, hg13⟩
  ·refine QQ (Yld.fieldAddr fo30_1 rfl) ?_
   refine QQ (Yld.load p24 rfl (at1 (hB3.cell rfl))) ?_
   refine OP (Does.call rfl e137 (matchAnyL_ok M tgt _ _ (ht.mod (Mod.any' hg13)))) ?_
   rintro _ w4 ⟨rfl, hg4⟩
   refine QQ (Yld.pure rfl) ?_
   refine GG ?_
   refine RK.ret_of Tryz.func196 (res1 rfl rfl) ?_ _
   exact ⟨_, rfl, by unfold largeRu; rw [h4]; simp only; rw [show anyL src = false by simpa using h8]; rfl, hg13.trans hg4⟩
 ·iterate 8 refine RL.no (.no rfl rfl rfl rfl) rfl rfl ?_
  refine GG ?_
  refine RK.ret_of Tryz.func196 (res1 rfl rfl) ?_ _
  exact ⟨_, rfl, by unfold largeRu; rw [show isRu _ = false by simpa using h4]; rfl, hg12⟩
theorem largeRuR_ok (M : Nat → Prop) (r : Ru) (w : World) (hr : r.Ok M w) (hz : r.Sz) : Fx Tryz.prog 88 [.agg (ruC r).toArray] w (fun u w' => u = .bool (largeRu r) ∧ Grow w w') := by
 have hr0 := hr
 have hz0 := hz
 obtain ⟨sv, tv, ev, src, tgt, bd, eq⟩ := r
 obtain ⟨hs, ht, he⟩ := hr
 simp only at hs ht he
 obtain ⟨ad1, c1, rfl⟩ := hs.shape
 obtain ⟨ad2, c2, rfl⟩ := ht.shape
 obtain ⟨ad3, c3, rfl⟩ := he.shape
 have hbig := he.big
 obtain ⟨hzs, hzt, hze⟩ := hz
 simp only at hzs hzt hze
 refine enter Tryz.func88 rfl rfl rfl _ (Pick.sub (l := [0]) (.cons rfl .nil)) ?_
 refine GG ?_
 refine OP (Does.box rfl) ?_
 rintro _ w1 ⟨b1, rfl, hn1⟩
 have hB1 : Blk w1 b1 30 (ruC ⟨.slice ad1 src.length c1, .slice ad2 tgt.length c2, .slice ad3 eq.length c3, src, tgt, bd, eq⟩) := hn1.blk
 refine GG ?_
 refine QQ (Yld.loadN (cs := ruC ⟨.slice ad1 src.length c1, .slice ad2 tgt.length c2, .slice ad3 eq.length c3, src, tgt, bd, eq⟩) a30 rfl (atN (blk0' hB1))) ?_
 refine OP (Does.call rfl e29 (isRuleR_ok M _ _ (hr0.mod (Mod.any' hn1.grow)) hz0)) ?_
 rintro _ w2 ⟨rfl, hg2⟩
 have hg12 := hn1.grow.trans hg2
 have hB2 := hB1.mod hg2 (fun h => h)
 refine RL.p rfl rfl ?_
 refine SP 5 (fun h4 => ?_) (fun h4 => ?_)
 ·refine QQ (Yld.fieldAddr fo30_0 rfl) ?_
  refine QQ (Yld.load p24 rfl (at1 (hB2.cell rfl))) ?_
  refine OP (Does.call rfl e116 (anyLR_ok M src hzs _ _ (hs.mod (Mod.any' hg12)))) ?_
  rintro _ w3 ⟨rfl, hg3⟩
  have hg13 := hg12.trans hg3
  have hB3 := hB2.mod hg3 (fun h => h)
  refine QQ (Yld.pure rfl) ?_
  refine SP 9 (fun h8 => ?_) (fun h8 => ?_)
  ·iterate 3 refine RL.no (.no rfl rfl rfl rfl) rfl rfl ?_
   refine QQ (Yld.pure rfl) ?_
   refine GG ?_
   refine RK.ret_of Tryz.func88 (res1 rfl rfl) ?_ _
   exact ⟨_, rfl, by unfold largeRu; rw [h4]; simp only; rw [h8]; rfl, hg13⟩
  ·refine QQ (Yld.fieldAddr fo30_1 rfl) ?_
   refine QQ (Yld.load p24 rfl (at1 (hB3.cell rfl))) ?_
   refine OP (Does.call rfl e116 (anyLR_ok M tgt hzt _ _ (ht.mod (Mod.any' hg13)))) ?_
   rintro _ w4 ⟨rfl, hg4⟩
   refine QQ (Yld.pure rfl) ?_
   refine GG ?_
   refine RK.ret_of Tryz.func88 (res1 rfl rfl) ?_ _
   exact ⟨_, rfl, by unfold largeRu; rw [h4]; simp only; rw [show anyL src = false by simpa using h8]; rfl, hg13.trans hg4⟩
 ·iterate 8 refine RL.no (.no rfl rfl rfl rfl) rfl rfl ?_
  refine GG ?_
  refine RK.ret_of Tryz.func88 (res1 rfl rfl) ?_ _
  exact ⟨_, rfl, by unfold largeRu; rw [show isRu _ = false by simpa using h4]; rfl, hg12⟩
def worksRu (r : Ru) : Bool := isRu r && !largeRu r
theorem works_ok (M : Nat → Prop) (r : Ru) (w : World) (hr : r.Ok M w) : Fx Tryz.prog 142 [.agg (ruC r).toArray] w (fun u w' => u = .bool (worksRu r) ∧ Grow w w') := by
 refine enter Tryz.func142 rfl rfl rfl _ (Pick.sub (l := [0]) (.cons rfl .nil)) ?_
 refine GG ?_
 refine OP (Does.box rfl) ?_
 rintro _ w1 ⟨b1, rfl, hn1⟩
 refine GG ?_
 refine QQ (Yld.loadN (cs := ruC r) a30 rfl (atN (blk0' hn1.blk))) ?_
 refine OP (Does.call rfl e195 (isRule_ok M r _ (hr.mod (Mod.any' hn1.grow)))) ?_
 rintro _ w2 ⟨rfl, hg2⟩
 have hg12 := hn1.grow.trans hg2
 refine RL.p rfl rfl ?_
 refine SP 5 (fun h4 => ?_) (fun h4 => ?_)
 ·refine QQ (Yld.loadN (cs := ruC r) a30 rfl (atN (blk0' (hn1.blk.mod hg2 (fun h => h))))) ?_
  refine OP (Does.call rfl e196 (largeRu_ok M r _ (hr.mod (Mod.any' hg12)))) ?_
  rintro _ w3 ⟨rfl, hg3⟩
  refine QQ (Yld.pure rfl) ?_
  refine GG ?_
  refine RK.ret_of Tryz.func142 (res1 rfl rfl) ?_ _
  exact ⟨_, rfl, by unfold worksRu; rw [h4]; rfl, hg12.trans hg3⟩
 ·iterate 3 refine RL.no (.no rfl rfl rfl rfl) rfl rfl ?_
  refine GG ?_
  refine RK.ret_of Tryz.func142 (res1 rfl rfl) ?_ _
  exact ⟨_, rfl, by unfold worksRu; rw [show isRu _ = false by simpa using h4]; rfl, hg12⟩
end Go.Proofs.YthbjfhhiajihfaaGreat
set_option linter.unusedVariables false
set_option linter.unusedSimpArgs false
set_option maxHeartbeats 1000000
set_option maxRecDepth 100000
namespace Go.Proofs.YthbjfhhiajihfaaGreat
open Go Go.X Go.Rex
def putB (n : Nat) : List UInt8 := if h : n < 128 then [UInt8.ofNat n] else UInt8.ofNat (n % 128 + 128) :: putB (n / 128)
termination_by n
decreasing_by omega
theorem putB_lo {n : Nat} (h : n < 128) : putB n = [UInt8.ofNat n] := by rw [putB, dif_pos h]
theorem putB_hi {n : Nat} (h : ¬ n < 128) : putB n = UInt8.ofNat (n % 128 + 128) :: putB (n / 128) := by rw [putB, dif_neg h]
theorem ofNat_lo {n : Nat} (h : n < 256) : (UInt8.ofNat n).toNat = n := by simp [UInt8.toNat_ofNat']; omega
theorem putB_inj : ∀ (n m : Nat) (a b : List UInt8), putB n ++ a = putB m ++ b → n = m ∧ a = b := by
 intro n
 induction n using Nat.strongRecOn with
 | _ n ih =>
  intro m a b h
  by_cases h1 : n < 128 <;> by_cases h2 : m < 128
  ·rw [putB_lo h1, putB_lo h2] at h
   simp only [List.singleton_append, List.cons.injEq] at h
   have := congrArg UInt8.toNat h.1
   rw [ofNat_lo (by omega), ofNat_lo (by omega)] at this
   exact ⟨this, h.2⟩
  ·rw [putB_lo h1, putB_hi h2] at h
   simp only [List.singleton_append, List.cons_append, List.cons.injEq] at h
   have := congrArg UInt8.toNat h.1
   rw [ofNat_lo (by omega), ofNat_lo (by omega)] at this
   omega
  ·rw [putB_hi h1, putB_lo h2] at h
   simp only [List.singleton_append, List.cons_append, List.cons.injEq] at h
   have := congrArg UInt8.toNat h.1
   rw [ofNat_lo (by omega), ofNat_lo (by omega)] at this
   omega
  ·rw [putB_hi h1, putB_hi h2] at h
   simp only [List.cons_append, List.cons.injEq] at h
   have h3 := congrArg UInt8.toNat h.1
   rw [ofNat_lo (by omega), ofNat_lo (by omega)] at h3
   obtain ⟨h4, h5⟩ := ih (n / 128) (by omega) _ _ _ h.2
   exact ⟨by omega, h5⟩
def putT (s : ByteArray) : List UInt8 := putB s.size ++ s.data.toList
theorem putT_inj {s t : ByteArray} {a b : List UInt8} (h : putT s ++ a = putT t ++ b) : s = t ∧ a = b := by
 unfold putT at h
 rw [List.append_assoc, List.append_assoc] at h
 obtain ⟨h1, h2⟩ := putB_inj _ _ _ _ h
 obtain ⟨h3, h4⟩ := List.append_inj h2 (by rw [Array.length_toList, Array.length_toList]; exact h1)
 exact ⟨ByteArray.ext (Array.toList_inj.1 h3), h4⟩
def keyB (es : List ByteArray) (ls : List Lab) : List UInt8 := es.flatMap fun x => putT (getL ls x)
theorem keyB_iff : ∀ (es : List ByteArray) (l1 l2 : List Lab), keyB es l1 = keyB es l2 ↔ ∀ x ∈ es, getL l1 x = getL l2 x
 | [], _, _ => by simp [keyB]
 | x :: es, l1, l2 => by
  have ih := keyB_iff es l1 l2
  unfold keyB at ih ⊢
  rw [List.flatMap_cons, List.flatMap_cons]
  constructor
  ·intro h
   obtain ⟨h1, h2⟩ := putT_inj h
   intro y hy
   rcases List.mem_cons.1 hy with rfl | hy
   ·exact h1
   ·exact ih.1 h2 y hy
  ·intro h
   rw [h x (by simp), ih.2 fun y hy => h y (by simp [hy])]
theorem or_byte (n : Nat) : IntKind.u8.wrap (BitVec.ofInt IntKind.u8.bits (IntKind.u8.wrap (n : Int)) ||| BitVec.ofInt IntKind.u8.bits 128).toNat = ((n % 128 + 128 : Nat) : Int) := by
 have h1 : IntKind.u8.wrap (n : Int) = ((n % 256 : Nat) : Int) := by simp [IntKind.wrap, IntKind.signed, IntKind.bits]
 rw [h1]
 have h2 : n % 128 = (n % 256) % 128 := by omega
 rw [h2]
 have h3 : n % 256 < 256 := Nat.mod_lt _ (by omega)
 generalize n % 256 = m at h3
 have key : ∀ m, m < 256 → IntKind.u8.wrap (BitVec.ofInt IntKind.u8.bits ((m : Nat) : Int) ||| BitVec.ofInt IntKind.u8.bits 128).toNat = ((m % 128 + 128 : Nat) : Int) := by decide +kernel
 exact key m h3
theorem lo_byte {n : Nat} (h : n < 128) : IntKind.u8.wrap (n : Int) = ((UInt8.ofNat n).toNat : Int) := by
 rw [ofNat_lo (by omega)]
 simp [IntKind.wrap, IntKind.signed, IntKind.bits]
 omega
theorem vput_ok (n : Nat) (hn : n < 18446744073709551616) (w : World) : Fx Tryz.prog 237 [.int .u64 n] w (fun u w' => Row w' 5 1 u (putB n).length (bytesV (putB n)) ∧ Fresh w.heap.size u ∧ Grow w w') := by
 refine enter Tryz.func237 rfl rfl rfl _ (Pick.sub (l := [0]) (.cons rfl .nil)) ?_
 refine GG ?_
 refine RK.loop (fun s : Nat × List UInt8 × Value => [(0, .int .u64 (s.1 : Int)), (3, s.2.2)]) (fun s w' => Row w' 5 1 s.2.2 s.2.1.length (bytesV s.2.1) ∧ Fresh w.heap.size s.2.2 ∧ Grow w w' ∧ s.1 < 18446744073709551616 ∧ (s.2.1.length = 0 ∨ 1 ≤ s.1) ∧ s.2.1 ++ putB s.1 = putB n ∧ s.1 * 128 ^ s.2.1.length ≤ n) (fun s => s.1) (n, [], .slice none 0 0) ⟨rfl, rfl, trivial⟩ ⟨by simpa [bytesV] using Row.nil _ _ _, fun b e => by simp [Value.ownBlock] at e, Mod.refl _ _, hn, by simp, by simp, by simp⟩ (fun s w' hI ih => ?_)
 obtain ⟨m, l, u⟩ := s
 obtain ⟨hr, hf, hg, hm, hl, hst, hpw⟩ := hI
 simp only at hr hf hm hl hst hpw
 have hl10 : l.length ≤ 10 := by
   rcases Nat.lt_or_ge 10 l.length with h | h
   ·have h1 : 128 ^ 10 ≤ 128 ^ l.length := Nat.pow_le_pow_right (by omega) (by omega)
    have h2 : 1 * 128 ^ l.length ≤ m * 128 ^ l.length := Nat.mul_le_mul_right _ (by omega)
    have h3 : (18446744073709551616 : Nat) < 128 ^ 10 := by decide
    omega
   ·exact h
 refine GG ?_
 refine CD (fun h5 => ?_) (fun h5 => ?_)
 ·have h128 : ¬ m < 128 := by omega
  refine GG ?_
  refine QQ (Yld.convI Tryz.underlying66 Tryz.underlying5 rfl) ?_
  refine RL.p rfl rfl ?_
  refine RL.re (d := 9) rfl rfl (congrArg (Value.int .u8) ((or_byte m).trans (by rw [ofNat_lo (by omega)] : _ = ((UInt8.ofNat (m % 128 + 128)).toNat : Int)))) ?_
  refine OP (Does.slice1 u151 i5 rfl rfl rfl rfl rfl) ?_
  rintro _ w2 ⟨b2, rfl, hn2⟩
  refine OP (Does.append u151 i5 rfl rfl rfl rfl rfl (hr.mod hn2.grow (fun _ _ h => h)) (Sl.new hn2 1 1 rfl (by omega) (fun h => h)) (rfl) (by omega)) ?_
  rintro u3 w3 ⟨hr3, hm3, hu3⟩
  have hs2 := hn2.grow.size
  have hs0 := hg.size
  refine GG ?_
  refine QQ (Yld.shr (a := m) (s := 7) rfl rfl (by decide)) ?_
  refine RL.re (d := 13) rfl rfl (congrArg (Value.int .u64) (by rw [Nat.shiftRight_eq_div_pow] : _ = ((m / 128 : Nat) : Int))) ?_
  refine GG ?_
  exact RK.back (ih (m / 128, l ++ [UInt8.ofNat (m % 128 + 128)], u3) _ ⟨by
    simp only
    rw [bytesV_app, List.length_append]; exact hr3, fun b e => by
    rcases hu3 with h1 | h1
    ·exact hf b (h1 ▸ e)
    ·rw [h1] at e; cases e; omega, (hg.trans hn2.grow).then hm3 (fun b hb e => by have := hf b e; omega), by simp only; omega, by simp only; omega, by simp only; rw [List.append_assoc, ← hst, putB_hi h128]; rfl, by
    simp only
    rw [List.length_append]
    have h1 : m / 128 * 128 ≤ m := Nat.div_mul_le_self m 128
    calc m / 128 * 128 ^ (l.length + 1) = m / 128 * 128 * 128 ^ l.length := by rw [Nat.pow_succ, Nat.mul_assoc, Nat.mul_comm 128]
     _ ≤ m * 128 ^ l.length := Nat.mul_le_mul_right _ h1
     _ ≤ n := hpw⟩ (by simp only; omega)) ⟨rfl, rfl, trivial⟩
 ·have h128 : m < 128 := by omega
  refine RK.exit rfl ?_
  refine GG ?_
  refine QQ (Yld.convI Tryz.underlying66 Tryz.underlying5 rfl) ?_
  refine RL.re (d := 16) rfl rfl (congrArg (Value.int .u8) (lo_byte h128)) ?_
  refine OP (Does.slice1 u151 i5 rfl rfl rfl rfl rfl) ?_
  rintro _ w2 ⟨b2, rfl, hn2⟩
  refine OP (Does.append u151 i5 rfl rfl rfl rfl rfl (hr.mod hn2.grow (fun _ _ h => h)) (Sl.new hn2 1 1 rfl (by omega) (fun h => h)) (rfl) (by omega)) ?_
  rintro u3 w3 ⟨hr3, hm3, hu3⟩
  have hs2 := hn2.grow.size
  have hs0 := hg.size
  refine GG ?_
  refine RK.ret_of Tryz.func237 (res1 rfl rfl) ?_ _
  exact ⟨_, rfl, by
    rw [← hst, putB_lo h128, bytesV_app, List.length_append]; exact hr3, fun b e => by
    rcases hu3 with h1 | h1
    ·exact hf b (h1 ▸ e)
    ·rw [h1] at e; cases e; omega, (hg.trans hn2.grow).then hm3 (fun b hb e => by have := hf b e; omega)⟩
theorem putB_len (n : Nat) (hn : n < 18446744073709551616) : (putB n).length ≤ 20 := by
 have key : ∀ (k n : Nat), n < 128 ^ k → (putB n).length ≤ k + 1 := by
  intro k
  induction k with
  | zero => intro n h; rw [putB_lo (by omega)]; simp
  | succ k ih =>
   intro n h
   by_cases h1 : n < 128
   ·rw [putB_lo h1]; simp
   ·rw [putB_hi h1, List.length_cons]
    have := ih (n / 128) (Nat.div_lt_of_lt_mul (by rw [Nat.pow_succ] at h; rw [Nat.mul_comm]; exact h))
    omega
 have := key 10 n (Nat.lt_trans hn (by decide))
 omega
theorem putT_ok (s : ByteArray) (hs : s.size ≤ 100000000) (w : World) : Fx Tryz.prog 197 [.string s] w (fun u w' => Row w' 5 1 u (putT s).length (bytesV (putT s)) ∧ Fresh w.heap.size u ∧ Grow w w') := by
 refine enter Tryz.func197 rfl rfl rfl _ (Pick.sub (l := [0]) (.cons rfl .nil)) ?_
 refine GG ?_
 refine QQ (Yld.lenStr u9 rfl) ?_
 refine QQ (Yld.convI Tryz.underlying3 Tryz.underlying66 rfl) ?_
 refine RL.re (d := 5) rfl rfl (congrArg (Value.int .u64) (wrap_u64 (x := s.size) (by omega))) ?_
 refine OP (Does.call rfl e237 (vput_ok s.size (by omega) _)) ?_
 rintro u1 w1 ⟨hr1, hf1, hg1⟩
 have hpl := putB_len s.size (by omega)
 refine RL.p rfl rfl ?_
 refine OP (Does.appendStr u151 Tryz.underlying9 i5 rfl rfl hr1 hf1 hg1.size (by omega)) ?_
 rintro u2 w2 ⟨hr2, hf2, hm2⟩
 refine GG ?_
 refine RK.ret_of Tryz.func197 (res1 rfl rfl) ?_ _
 exact ⟨_, rfl, by
   unfold putT
   rw [bytesV_app, List.length_append, show s.data.toList.length = s.size from Array.length_toList]; exact hr2, hf2, hg1.then hm2 (fun b hb e => by have := hf1 b e; omega)⟩
theorem keyB_snoc {es : List ByteArray} {k : Nat} {x : ByteArray} (hx : es[k]? = some x) (ls : List Lab) : keyB (es.take (k + 1)) ls = keyB (es.take k) ls ++ putT (getL ls x) := by
 have hk := (List.getElem?_eq_some_iff.1 hx).1
 unfold keyB
 rw [List.take_succ_eq_append_getElem hk, (List.getElem?_eq_some_iff.1 hx).2, List.flatMap_append]
 simp
theorem putT_len {ls : List Lab} (hz : ∀ x ∈ ls, x.value.size ≤ 100000) (x : ByteArray) : (putT (getL ls x)).length ≤ 100020 := by
 have h1 := getL_size hz x
 have h2 := putB_len (getL ls x).size (by omega)
 unfold putT
 rw [List.length_append, show (getL ls x).data.toList.length = (getL ls x).size from Array.length_toList]
 omega
theorem keyB_len {ls : List Lab} (hz : ∀ x ∈ ls, x.value.size ≤ 100000) : ∀ es : List ByteArray, (keyB es ls).length ≤ 100020 * es.length
 | [] => by simp [keyB]
 | x :: es => by
  have h1 := keyB_len hz es
  have h2 := putT_len hz x
  unfold keyB at h1 ⊢
  rw [List.flatMap_cons, List.length_append, List.length_cons]
  omega
def keyT (es : List ByteArray) (ls : List Lab) : ByteArray := ⟨(keyB es ls).toArray⟩
theorem keyT_iff (es : List ByteArray) (l1 l2 : List Lab) : keyT es l1 = keyT es l2 ↔ ∀ x ∈ es, getL l1 x = getL l2 x := by
 rw [← keyB_iff]
 unfold keyT
 constructor
 ·intro h
  have := congrArg (fun b : ByteArray => b.data.toList) h
  simpa using this
 ·intro h; rw [h]
theorem project_ok (M M' : Nat → Prop) (es : List ByteArray) (h4 : es.length ≤ 4) (ls : List Lab) (hz : ∀ x ∈ ls, x.value.size ≤ 100000) (vl ve : Value) (w : World) (hl : SlL M w vl ls) (he : Sl M' w ve 1 es.length (strsV es)) :
  Fx Tryz.prog 143 [vl, ve] w (fun u w' => u = .string (keyT es ls) ∧ Grow w w') := by
 obtain ⟨ade, ce, rfl⟩ := he.shape
 obtain ⟨adl, cl, hvl⟩ := hl.shape
 refine enter Tryz.func143 rfl rfl rfl _ (Pick.sub (l := [0, 1]) (.cons rfl (.cons rfl .nil))) ?_
 refine GG ?_
 refine QQ (Yld.lenSl u28 rfl) ?_
 refine GG ?_
 refine RK.loop (fun s : Nat × Value => [(0, vl), (5, s.2), (8, .slice ade es.length ce), (9, .int .i64 (es.length : Int)), (10, .int .i64 (s.1 : Int))]) (fun s w' => Row w' 5 1 s.2 (keyB (es.take s.1) ls).length (bytesV (keyB (es.take s.1) ls)) ∧ Fresh w.heap.size s.2 ∧ Grow w w' ∧ s.1 ≤ es.length) (fun s => es.length - s.1) (0, .slice none 0 0) ⟨rfl, rfl, rfl, rfl, rfl, trivial⟩ ⟨by simpa [keyB, bytesV] using Row.nil _ _ _, fun b e => by simp [Value.ownBlock] at e, Mod.refl _ _, by simp⟩ (fun s w' hI ih => ?_)
 obtain ⟨k, u⟩ := s
 obtain ⟨hr, hf, hg, hk⟩ := hI
 simp only at hr hf hk
 refine GG ?_
 refine CD (fun h11 => ?_) (fun h11 => ?_)
 ·obtain ⟨x, hx⟩ : ∃ x, es[k]? = some x := ⟨es[k]'(by omega), List.getElem?_eq_getElem (by omega)⟩
  obtain ⟨b2, o2, c', he1, _, _, hc1⟩ := (he.mod (Mod.any' hg)).elem1 (k := k) (u := .string x) (by simp [strsV, hx])
  cases he1
  refine GG ?_
  refine QQ (Yld.indexAddrN u28 i9 rfl rfl (by omega)) ?_
  refine QQ (Yld.load p9 rfl (at1 (hc1 k (.string x) (by simp [strsV, hx])))) ?_
  refine GG ?_
  refine OP (Does.call rfl e198 (labelsGet_ok M ls vl x _ (hl.mod (Mod.any' hg)))) ?_
  rintro _ w2 ⟨rfl, hg2⟩
  have hsz := getL_size hz x
  refine OP (Does.call rfl e197 (putT_ok (getL ls x) (by omega) _)) ?_
  rintro u3 w3 ⟨hr3, hf3, hg3⟩
  have hpl := putT_len hz x
  have hkl := keyB_len hz (es.take k)
  have hkl2 : (es.take k).length ≤ 4 := by simp; omega
  refine OP (Does.append u151 i5 rfl rfl rfl rfl rfl (hr.mod (hg2.trans hg3) (fun _ _ h => h)) (Sl.own hr3 (fun _ _ h => h)) (bytesV_one _) (by omega)) ?_
  rintro u4 w4 ⟨hr4, hm4, hu4⟩
  have hs2 := hg2.size
  have hs3 := hg3.size
  have hs0 := hg.size
  refine RL.p rfl rfl ?_
  refine RL.done ?_
  refine RK.inBlock ?_
  refine RK.region ?_
  refine RL.p rfl rfl ?_
  refine RL.re (d := 20) rfl rfl (succ_i64 (by omega)) ?_
  refine GG ?_
  exact RK.back (ih (k + 1, u4) _ ⟨by
    simp only
    rw [keyB_snoc hx, bytesV_app, List.length_append]; exact hr4, fun b e => by
    rcases hu4 with h1 | h1
    ·exact hf b (h1 ▸ e)
    ·rw [h1] at e; cases e; omega, (hg.trans (hg2.trans hg3)).then hm4 (fun b hb e => by have := hf b e; omega), by simp only; omega⟩ (by simp only; omega)) ⟨rfl, rfl, rfl, rfl, rfl, trivial⟩
 ·rw [List.take_of_length_le (by omega)] at hr
  refine RK.exit rfl ?_
  refine GG ?_
  refine QQ (Yld.bytesSl u151 Tryz.underlying5 Tryz.underlying9 rfl (fun w9 h9 => h9 ▸ Sl.own hr (fun _ _ h => h))) ?_
  refine GG ?_
  refine RK.ret_of Tryz.func143 (res1 rfl rfl) ?_ _
  exact ⟨_, rfl, rfl, hg⟩
theorem ruleKey_ok (M M' : Nat → Prop) (r : Ru) (h4 : r.eq.length ≤ 4) (a : Al) (hz : ∀ x ∈ a.ls, x.value.size ≤ 100000) (w : World) (hr : r.Ok M w) (ha : SlL M' w a.v a.ls) : Fx Tryz.prog 76 [.agg (ruC r).toArray, .agg (alC a).toArray] w (fun u w' => u = .string (keyT r.eq a.ls) ∧ Grow w w') := by
 refine enter Tryz.func76 rfl rfl rfl _ (Pick.sub (l := [0, 1]) (.cons rfl (.cons rfl .nil))) ?_
 refine GG ?_
 refine OP (Does.box rfl) ?_
 rintro _ w1 ⟨b1, rfl, hn1⟩
 refine OP (Does.box rfl) ?_
 rintro _ w2 ⟨b2, rfl, hn2⟩
 have hB1 : Blk w2 b1 30 [r.sv, r.tv, .bool r.bd.all, .float .f64 r.bd.lo, .float .f64 r.bd.hi, r.ev] := hn1.blk.mod hn2.grow (fun h => h)
 have hB2 : Blk w2 b2 35 [.int .i64 a.id, a.v, .float .f64 a.val] := hn2.blk
 have hg2 := hn1.grow.trans hn2.grow
 refine GG ?_
 refine QQ (Yld.fieldAddr fo35_1 rfl) ?_
 refine QQ (Yld.load p33 rfl (at1 (hB2.cell rfl))) ?_
 refine QQ (Yld.fieldAddr fo30_3 rfl) ?_
 refine QQ (Yld.load p28 rfl (at1 (hB1.cell rfl))) ?_
 refine OP (Does.call rfl e143 (project_ok M' M r.eq h4 a.ls hz _ _ _ (ha.mod (Mod.any' hg2)) (hr.e.mod (Mod.any' hg2)))) ?_
 rintro _ w3 ⟨rfl, hg3⟩
 refine GG ?_
 refine RK.ret_of Tryz.func76 (res1 rfl rfl) ?_ _
 exact ⟨_, rfl, rfl, hg2.trans hg3⟩
end Go.Proofs.YthbjfhhiajihfaaGreat
