/- An index: its two maps; added to; counted. A pool: taken from. -/
import Derived.Test.YtffbcfcoddacmaaGreatJ
set_option linter.unusedVariables false
set_option linter.unusedSimpArgs false
set_option maxHeartbeats 400000
set_option maxRecDepth 100000
namespace Go.Proofs.YtffbcfcoddacmaaGreat
open Go Go.X

theorem take_ok (w : World) (p : Nat) (most last : Int) (out : List Int) (v : Value) (hp : PoolAt w p most last out v) (h1 : out.length < most) (h2 : last ≠ 2147483647) (h3 : 0 ≤ last) (h4 : last ≤ 2147483647) (h5 : out.length ≤ 1000000) :
    Fx Tryz.prog 79 [pp p] w (fun u w' => u = .tuple #[.int .i64 (last + 1), .bool true] ∧ ∃ v', PoolAt w' p most (last + 1) (out ++ [last + 1]) v' ∧ Mod (fun b => b = p ∨ v.ownBlock = some b) w w' ∧ (∀ b, v'.ownBlock = some b → v.ownBlock = some b ∨ w.heap.size ≤ b)) := by
  obtain ⟨ad, c, rfl⟩ := hp.row.slice
  refine enter Tryz.func79 rfl rfl rfl _ (Pick.sub (l := [0]) (.cons rfl .nil)) ?_
  refine RK.seq ?_
  refine RK.region ?_
  iterate 2 refine RL.p rfl rfl ?_
  refine RL.done ?_
  iterate 2 refine RK.seq ?_
  refine RK.drawM No [(0, false), (1, false), (2, false), (3, false), (4, false), (5, false), (6, false), (7, false), (8, false), (9, false), (10, false), (11, false), (12, false), (13, false), (14, false), (15, false), (16, false)] [] mixed (by kernel_rfl) ?_
  iterate 2 refine DL.p rfl rfl rfl ?_
  refine DL.qf rfl (.free rfl) rfl rfl (Yld.fieldAddr fo173_2 rfl) ?_
  refine DL.q rfl (.free rfl) rfl rfl rfl (Yld.load p22 rfl (atM (hp.blk.cell rfl) id)) (Mod.drew _ _) ?_
  refine DL.q rfl (.free rfl) rfl rfl rfl (Yld.lenSl u22 rfl) (Mod.drew _ _) ?_
  iterate 2 refine DL.p rfl rfl rfl ?_
  refine DL.qf rfl (.free rfl) rfl rfl (Yld.fieldAddr fo173_0 rfl) ?_
  refine DL.q rfl (.free rfl) rfl rfl rfl (Yld.load p3 rfl (atM (hp.blk.cell rfl) id)) (Mod.drew _ _) ?_
  iterate 2 refine DL.p rfl rfl rfl ?_
  refine DL.knownF (d := 14) rfl rfl (decide_eq_false (by omega)) ?_
  iterate 2 refine DL.qf rfl (.yes rfl rfl rfl) rfl rfl (Yld.pure rfl) ?_
  refine DL.qf rfl (.yes rfl rfl rfl) rfl rfl (Yld.fieldAddr fo173_1 rfl) ?_
  refine DL.q rfl (.yes rfl rfl rfl) rfl rfl rfl (Yld.load p3 rfl (atM (hp.blk.cell rfl) id)) (Mod.drew _ _) ?_
  refine DL.qf rfl (.yes rfl rfl rfl) rfl rfl (Yld.pure rfl) ?_
  refine DL.p rfl rfl rfl ?_
  refine DL.done ?_
  refine RK.condF (hcF rfl (decide_eq_false (by omega))) ?_
  refine RK.skip ?_
  refine RK.seq ?_
  refine RK.region ?_
  iterate 2 refine RL.p rfl rfl ?_
  refine RL.q (.free rfl) rfl rfl (Yld.fieldAddr fo173_1 rfl) ?_
  refine RL.q (.free rfl) rfl rfl (Yld.load p3 rfl (at1 (hp.blk.cell rfl))) ?_
  refine RL.p rfl rfl ?_
  refine RL.re (d := 25) rfl rfl (add_i64 (z := last + 1) rfl (by omega) (by omega)) ?_
  refine RL.p rfl rfl ?_
  refine RL.q (.free rfl) rfl rfl (Yld.fieldAddr fo173_1 rfl) ?_
  refine RL.op' (.free rfl) rfl (Does.store i3 rfl rfl rfl hp.blk (.s .z)) ?_
  rintro _ w1 ⟨hb1, hm1, hs1⟩
  have hr1 := (hp.row.mod (Mod.drew No _) (fun _ _ h => h)).mod hm1 (fun b e h => hp.ne (h ▸ e))
  refine RL.done ?_
  refine RK.seq ?_
  refine RK.drawM (fun b => (Value.slice ad out.length c).ownBlock = some b) [(0, false), (1, false), (2, false), (3, false), (4, false), (5, false), (6, false), (7, false), (8, false), (9, true), (10, true), (11, false), (12, false), (13, true)] [13] mixed (by kernel_rfl) ?_
  iterate 3 refine DL.p rfl rfl rfl ?_
  refine DL.qf rfl (.free rfl) rfl rfl (Yld.fieldAddr fo173_2 rfl) ?_
  refine DL.q rfl (.free rfl) rfl rfl rfl (Yld.load p22 rfl (atM (hb1.cell rfl) (fun h => hp.ne h))) (Mod.drew _ _) ?_
  iterate 2 refine DL.p rfl rfl rfl ?_
  refine DL.qf rfl (.free rfl) rfl rfl (Yld.fieldAddr fo173_1 rfl) ?_
  refine DL.q rfl (.free rfl) rfl rfl rfl (Yld.load p3 rfl (atM (hb1.cell rfl) (fun h => hp.ne h))) (Mod.drew _ _) ?_
  refine DL.op rfl (.free rfl) rfl rfl (Does.slice1 u22 i3 rfl rfl rfl rfl rfl) ?_
  rintro _ w2 ⟨b2, rfl, hn2⟩
  refine ⟨(Mod.drew _ _).trans (Mod.any' hn2.grow), ?_⟩
  refine DL.op rfl (.free rfl) rfl rfl (Does.append u22 i3 rfl rfl rfl rfl rfl ((hr1.mod (Mod.drew No _) (fun _ _ h => h)).mod hn2.grow (fun _ _ h => h)) (Sl.new hn2 1 1 rfl (by omega) (fun h => h)) (rfl) (by omega)) ?_
  rintro u3 w3 ⟨hr3, hm3, hu3⟩
  refine ⟨((Mod.drew _ _).trans (Mod.any' hn2.grow)).trans hm3, ?_⟩
  have hpl := hp.blk.lt
  have hu3' : ∀ b, u3.ownBlock = some b → b ≠ p ∧ ((Value.slice ad out.length c).ownBlock = some b ∨ w.heap.size ≤ b) := fun b e => by
      rcases hu3 with h | h
      · rw [h] at e; exact ⟨fun hh => hp.ne (hh ▸ e), .inl e⟩
      · rw [h] at e; cases e; have h1 := hn2.size; have h2 := hm1.size; simp only [World.drew] at h1 h2 hn2; exact ⟨by omega, .inr (by omega)⟩
  obtain ⟨ad3, c3, rfl⟩ := hr3.slice
  have hb3 := ((hb1.mod (Mod.drew No _) (fun h => h)).mod hn2.grow (fun h => h)).mod hm3 (fun e => hp.ne e)
  refine DL.p rfl rfl rfl ?_
  refine DL.qf rfl (.free rfl) rfl rfl (Yld.fieldAddr fo173_2 rfl) ?_
  refine DL.opT rfl (.free rfl) rfl rfl (Does.store i22 rfl rfl rfl hb3 (.s (.s .z))) ?_
  rintro _ w4 ⟨hb4, hm4, hs4⟩
  refine DL.done ?_
  refine RK.seq ?_
  refine RK.region ?_
  iterate 2 refine RL.p rfl rfl ?_
  refine RL.q (.free rfl) rfl rfl (Yld.fieldAddr fo173_1 rfl) ?_
  refine RL.q (.free rfl) rfl rfl (Yld.load p3 rfl (at1 (hb4.cell rfl))) ?_
  iterate 2 refine RL.p rfl rfl ?_
  refine RL.done ?_
  refine RK.ret_of Tryz.func79 (res2 rfl rfl rfl) ?_ _
  exact ⟨_, rfl, rfl, _, ⟨hb4, by (show Row _ _ _ _ (out ++ [last + 1]).length (List.map _ (out ++ [last + 1]))); rw [List.map_append, List.length_append]; exact hr3.mod hm4 (fun b e h => (hu3' b e).1 h), fun e => (hu3' p e).1 rfl⟩, ((((Mod.drew _ _).trans (hm1.mono fun b _ h => .inl h)).trans ((Mod.drew _ _).trans (Mod.any' hn2.grow))).trans (hm3.mono fun b _ h => .inr h)).trans (hm4.mono fun b _ h => .inl h), fun b e => (hu3' b e).2⟩

abbrev LabK := ByteArray × ByteArray
def labK (x : Lab) : LabK := (x.name, x.value)
structure IdxAt (M : Nat → Prop) (w : World) (ix mh mr : Nat) (has : List (Int × List Lab)) (rows : List (LabK × List Int)) : Prop where
  blk : Blk w ix 144 [.map (some mh), .map (some mr)]
  ne : mh ≠ mr
  hl : ∃ l : List (Int × (List Lab × Value)), l.map (fun t => (t.1, t.2.1)) = has ∧ MapAt (Value.int .i64) w mh (l.map fun t => (t.1, t.2.2)) ∧ ∀ t ∈ l, SlL M w t.2.2 t.2.1
  rl : ∃ r : List (LabK × (List Int × Value)), r.map (fun t => (t.1, t.2.1)) = rows ∧ MapAt pairV w mr (r.map fun t => (t.1, t.2.2)) ∧ ∀ t ∈ r, Sl M w t.2.2 1 t.2.1.length (ints t.2.1)
theorem IdxAt.mod {M M0 : Nat → Prop} {w w' : World} {ix mh mr : Nat} {has : List (Int × List Lab)} {rows : List (LabK × List Int)} (h : IdxAt M w ix mh mr has rows) (hm : Mod M0 w w') (h0 : ∀ b, b < w.heap.size → M0 b → M b) (n1 : ¬ M0 ix) (n2 : ¬ M0 mh) (n3 : ¬ M0 mr) : IdxAt M w' ix mh mr has rows := by
  obtain ⟨l, hl1, hl2, hl3⟩ := h.hl
  obtain ⟨r, hr1, hr2, hr3⟩ := h.rl
  exact ⟨h.blk.mod hm n1, h.ne, ⟨l, hl1, hl2.mod hm n2, fun t ht => (hl3 t ht).mod (hm.mono h0)⟩, ⟨r, hr1, hr2.mod hm n3, fun t ht => (hr3 t ht).mod (hm.mono h0)⟩⟩
theorem IdxAt.off {M M' : Nat → Prop} {w : World} {ix mh mr : Nat} {has : List (Int × List Lab)} {rows : List (LabK × List Int)} (h : IdxAt M w ix mh mr has rows) (hM : ∀ b, b < w.heap.size → M' b → M b) : IdxAt M' w ix mh mr has rows := by
  obtain ⟨l, hl1, hl2, hl3⟩ := h.hl
  obtain ⟨r, hr1, hr2, hr3⟩ := h.rl
  exact ⟨h.blk, h.ne, ⟨l, hl1, hl2, fun t ht => (hl3 t ht).off (by omega) hM⟩, ⟨r, hr1, hr2, fun t ht => (hr3 t ht).off (by omega) hM⟩⟩
theorem idxNew_ok (w : World) : Fx Tryz.prog 27 [] w (fun u w' => ∃ ix mh mr, u = pp ix ∧ (∀ b, b = ix ∨ b = mh ∨ b = mr → w.heap.size ≤ b) ∧ (∀ M, IdxAt M w' ix mh mr [] []) ∧ Grow w w') := by
  refine enter Tryz.func27 rfl rfl rfl _ (Pick.sub (l := []) .nil) ?_
  refine RK.seq ?_
  refine RK.region ?_
  refine RL.p rfl rfl ?_
  refine RL.done ?_
  refine RK.seq ?_
  refine RK.region ?_
  refine RL.op (.free rfl) rfl rfl (Does.makeMap (Value.int .i64)) ?_
  rintro _ w1 ⟨mh, rfl, hmh, hm1, hg1, hs1⟩
  refine RL.op (.free rfl) rfl rfl (Does.makeMap pairV) ?_
  rintro _ w2 ⟨mr, rfl, hmr, hm2, hg2, hs2⟩
  refine RL.q (.free rfl) rfl rfl (Yld.build (v := .agg #[.map (some mh), .map (some mr)]) rfl (fun w => by kernel_rfl)) ?_
  refine RL.op (.free rfl) rfl rfl (Does.box rfl) ?_
  rintro _ w3 ⟨b3, rfl, hn3⟩
  refine RL.p rfl rfl ?_
  refine RL.done ?_
  refine RK.ret_of Tryz.func27 (res1 rfl rfl) ?_ _
  exact ⟨_, rfl, b3, mh, mr, rfl, fun b h => by have := hn3.at_; omega, fun M => ⟨hn3.blk, by omega, ⟨[], rfl, (hm1.mod hg2 (fun h => h)).mod hn3.grow (fun h => h), by simp⟩, ⟨[], rfl, hm2.mod hn3.grow (fun h => h), by simp⟩⟩, (hg1.trans hg2).trans hn3.grow⟩
theorem idxLen_ok (M : Nat → Prop) (w : World) (ix mh mr : Nat) (has : List (Int × List Lab)) (rows : List (LabK × List Int)) (h : IdxAt M w ix mh mr has rows) : Fx Tryz.prog 31 [pp ix] w (fun u w' => u = .int .i64 rows.length ∧ w = w') := by
  obtain ⟨r, hr1, hr2, hr3⟩ := h.rl
  refine enter Tryz.func31 rfl rfl rfl _ (Pick.sub (l := [0]) (.cons rfl .nil)) ?_
  refine RK.seq ?_
  refine RK.region ?_
  refine RL.p rfl rfl ?_
  refine RL.done ?_
  refine RK.seq ?_
  refine RK.region ?_
  iterate 2 refine RL.p rfl rfl ?_
  refine RL.q (.free rfl) rfl rfl (Yld.fieldAddr fo144_1 rfl) ?_
  refine RL.q (.free rfl) rfl rfl (Yld.load p142 rfl (at1 (h.blk.cell rfl))) ?_
  refine RL.q (.free rfl) rfl rfl (Yld.lenMap Tryz.underlying142 rfl (fun w' e => e ▸ hr2)) ?_
  refine RL.p rfl rfl ?_
  refine RL.done ?_
  refine RK.ret_of Tryz.func31 (res1 rfl rfl) ?_ _
  exact ⟨_, rfl, by rw [← hr1]; simp, rfl⟩
end Go.Proofs.YtffbcfcoddacmaaGreat

