/- What the claim stands on, part 3. Of own lemmas only those that it reaches. -/
import Derived.Test.YtbcbfjnlnmhpbaaGreatKy2
set_option linter.unusedVariables false
set_option linter.unusedSimpArgs false
set_option maxHeartbeats 1000000
set_option maxRecDepth 100000
namespace Go.Proofs.YtbcbfjnlnmhpbaaGreat
open Go Go.X Go.Rex
theorem setAt_of : ∀ {l : List Value} {i : Nat} {v : Value}, i < l.length → SetAt l i v (l.set i v)
  | u :: l, 0, v, _ => .z
  | u :: l, i + 1, v, h => .s (setAt_of (by simpa using h))
abbrev PA (w : World) (p : Nat) (s : ByteArray) (i : Nat) (bad : Bool) : Prop := Blk w p 246 [.string s, .int .i64 (i : Int), .bool bad]
theorem over_ok (w : World) (p : Nat) (s : ByteArray) (i : Nat) (bad : Bool) (h : PA w p s i bad) : Fx Tryz.prog 233 [pp p] w (fun u w' => u = .bool (bad || decide (s.size ≤ i)) ∧ Grow w w') := by
  refine enter Tryz.func233 rfl rfl rfl _ (Pick.sub (l := [0]) (.cons rfl .nil)) ?_
  refine RK.seq ?_
  refine RK.region ?_
  refine RL.p rfl rfl ?_
  refine RL.done ?_
  refine RK.seq ?_
  refine RK.drawM No [(0, false), (1, false), (2, false), (3, false), (4, false), (5, false), (6, false), (7, false), (8, false), (9, false), (10, false), (11, false), (12, false), (13, false), (14, false), (15, false), (16, false)] [] mixed (by kernel_rfl) ?_
  iterate 2 refine DL.p rfl rfl rfl ?_
  refine DL.qf rfl (.free rfl) rfl rfl (Yld.fieldAddr fo246_2 rfl) ?_
  refine DL.q rfl (.free rfl) rfl rfl rfl (Yld.load p4 rfl (atM (h.cell rfl) (fun h => h))) (Mod.drew _ _) ?_
  refine DL.p rfl rfl rfl ?_
  first | refine DL.splitD (d := 7) rfl rfl (fun h7 => ?_) (fun h7 => ?_) | refine DL.splitN (d := 7) rfl rfl (fun h7 => ?_) (fun h7 => ?_) | refine DL.split (d := 7) rfl rfl (fun h7 => ?_) (fun h7 => ?_)
  · iterate 10 refine DL.no rfl (.no rfl rfl rfl rfl) rfl rfl ?_
    iterate 2 refine DL.p rfl rfl rfl ?_
    refine DL.done ?_
    refine RK.ret_of Tryz.func233 (res1 rfl rfl) ?_ _
    exact ⟨_, rfl, by simp_all, Mod.drew _ _⟩
  · iterate 2 refine DL.qf rfl (.yes rfl rfl rfl) rfl rfl (Yld.pure rfl) ?_
    refine DL.qf rfl (.yes rfl rfl rfl) rfl rfl (Yld.fieldAddr fo246_1 rfl) ?_
    refine DL.q rfl (.yes rfl rfl rfl) rfl rfl rfl (Yld.load p3 rfl (atM (h.cell rfl) (fun h => h))) (Mod.drew _ _) ?_
    iterate 2 refine DL.qf rfl (.yes rfl rfl rfl) rfl rfl (Yld.pure rfl) ?_
    refine DL.qf rfl (.yes rfl rfl rfl) rfl rfl (Yld.fieldAddr fo246_0 rfl) ?_
    refine DL.q rfl (.yes rfl rfl rfl) rfl rfl rfl (Yld.load p9 rfl (atM (h.cell rfl) (fun h => h))) (Mod.drew _ _) ?_
    refine DL.q rfl (.yes rfl rfl rfl) rfl rfl rfl (Yld.lenStr u9 rfl) (Mod.drew _ _) ?_
    refine DL.qf rfl (.yes rfl rfl rfl) rfl rfl (Yld.pure rfl) ?_
    iterate 2 refine DL.p rfl rfl rfl ?_
    refine DL.done ?_
    refine RK.ret_of Tryz.func233 (res1 rfl rfl) ?_ _
    exact ⟨_, rfl, by simp_all, Mod.drew _ _⟩
def seesS (s : ByteArray) (i : Nat) (bad : Bool) (c : Nat) : Bool := !bad && decide (i < s.size ∧ b8 s i = c)
theorem sees_ok (w : World) (p : Nat) (s : ByteArray) (i : Nat) (bad : Bool) (h : PA w p s i bad) (c : Nat) : Fx Tryz.prog 234 [pp p, .int .u8 (c : Int)] w (fun u w' => u = .bool (seesS s i bad c) ∧ Grow w w') := by
  refine enter Tryz.func234 rfl rfl rfl _ (Pick.sub (l := [0, 1]) (.cons rfl (.cons rfl .nil))) ?_
  refine RK.seq ?_
  refine RK.region ?_
  refine RL.p rfl rfl ?_
  refine RL.done ?_
  refine RK.seq ?_
  refine RK.drawM No [(0, false), (1, true), (2, false), (3, false), (4, false), (5, false), (6, false), (7, false), (8, false), (9, false), (10, false), (11, false), (12, false), (13, false), (14, false), (15, false), (16, false)] [] mixed (by kernel_rfl) ?_
  refine DL.p rfl rfl rfl ?_
  refine DL.op rfl (.free rfl) rfl rfl (Does.call rfl e233 (over_ok _ p s i bad (h.mod (Mod.drew No _) (fun h => h)))) ?_
  rintro _ w2 ⟨rfl, hg2⟩
  have hgd : Grow w w2 := (Mod.drew _ _).trans hg2
  refine ⟨hgd, ?_⟩
  iterate 2 refine DL.p rfl rfl rfl ?_
  first | refine DL.splitD (d := 8) rfl rfl (fun h8 => ?_) (fun h8 => ?_) | refine DL.splitN (d := 8) rfl rfl (fun h8 => ?_) (fun h8 => ?_) | refine DL.split (d := 8) rfl rfl (fun h8 => ?_) (fun h8 => ?_)
  · have h9 : bad = false ∧ i < s.size := by simpa using h8
    iterate 2 refine DL.qf rfl (.yes rfl rfl rfl) rfl rfl (Yld.pure rfl) ?_
    refine DL.qf rfl (.yes rfl rfl rfl) rfl rfl (Yld.fieldAddr fo246_0 rfl) ?_
    refine DL.q rfl (.yes rfl rfl rfl) rfl rfl rfl (Yld.load p9 rfl (atM (h.cell rfl) (fun h => h))) (hgd) ?_
    iterate 2 refine DL.qf rfl (.yes rfl rfl rfl) rfl rfl (Yld.pure rfl) ?_
    refine DL.qf rfl (.yes rfl rfl rfl) rfl rfl (Yld.fieldAddr fo246_1 rfl) ?_
    refine DL.q rfl (.yes rfl rfl rfl) rfl rfl rfl (Yld.load p3 rfl (atM (h.cell rfl) (fun h => h))) (hgd) ?_
    refine DL.qf rfl (.yes rfl rfl rfl) rfl rfl (Yld.idxStrN u9 rfl rfl (h9.2)) ?_
    iterate 2 refine DL.qf rfl (.yes rfl rfl rfl) rfl rfl (Yld.pure rfl) ?_
    iterate 2 refine DL.p rfl rfl rfl ?_
    refine DL.done ?_
    refine RK.ret_of Tryz.func234 (res1 rfl rfl) ?_ _
    exact ⟨_, rfl, by unfold seesS b8; simp [h9]; omega, hgd⟩
  · iterate 11 refine DL.no rfl (.no rfl rfl rfl rfl) rfl rfl ?_
    iterate 2 refine DL.p rfl rfl rfl ?_
    refine DL.done ?_
    refine RK.ret_of Tryz.func234 (res1 rfl rfl) ?_ _
    exact ⟨_, rfl, by unfold seesS; simp at h8; cases bad with | true => rfl | false => (simp at h8 ⊢; intro h; omega), hgd⟩
theorem next_ok (w : World) (p : Nat) (s : ByteArray) (i : Nat) (bad : Bool) (h : PA w p s i bad) (hi : i ≤ 1000) (c : Nat) : Fx Tryz.prog 218 [pp p, .int .u8 (c : Int)] w (fun u w' => u = .bool (seesS s i bad c) ∧ PA w' p s (if seesS s i bad c then i + 1 else i) bad ∧ Mod (· = p) w w') := by
  refine enter Tryz.func218 rfl rfl rfl _ (Pick.sub (l := [0, 1]) (.cons rfl (.cons rfl .nil))) ?_
  refine RK.seq ?_
  refine RK.region ?_
  refine RL.p rfl rfl ?_
  refine RL.done ?_
  iterate 2 refine RK.seq ?_
  refine RK.region ?_
  iterate 2 refine RL.p rfl rfl ?_
  refine RL.op (.free rfl) rfl rfl (Does.call rfl e234 (sees_ok _ p s i bad h c)) ?_
  rintro _ w2 ⟨rfl, hg2⟩
  have h2 := h.mod hg2 (fun h => h)
  refine RL.p rfl rfl ?_
  refine RL.done ?_
  first | refine RK.condD rfl (fun h8 => ?_) (fun h8 => ?_) | refine RK.condN rfl (fun h8 => ?_) (fun h8 => ?_) | refine RK.cond rfl (fun h8 => ?_) (fun h8 => ?_)
  · have h9 : seesS s i bad c = false := by simpa using h8
    refine RK.seq ?_
    refine RK.region ?_
    refine RL.p rfl rfl ?_
    refine RL.done ?_
    refine RK.ret_of Tryz.func218 (res1 rfl rfl) ?_ _
    exact ⟨_, rfl, by rw [h9], by rw [h9]; exact h2, Mod.any' hg2⟩
  · have h9 : seesS s i bad c = true := by simpa using h8
    refine RK.skip ?_
    refine RK.seq ?_
    refine RK.region ?_
    iterate 2 refine RL.p rfl rfl ?_
    refine RL.q (.free rfl) rfl rfl (Yld.fieldAddr fo246_1 rfl) ?_
    refine RL.q (.free rfl) rfl rfl (Yld.load p3 rfl (at1 (h2.cell rfl))) ?_
    refine RL.p rfl rfl ?_
    refine RL.re (d := 13) rfl rfl (succ_i64 (by omega)) ?_
    refine RL.p rfl rfl ?_
    refine RL.q (.free rfl) rfl rfl (Yld.fieldAddr fo246_1 rfl) ?_
    refine RL.op' (.free rfl) rfl (Does.store i3 rfl rfl rfl h2 (.s .z)) ?_
    rintro _ w3 ⟨hb3, hm3, _⟩
    refine RL.done ?_
    refine RK.seq ?_
    refine RK.region ?_
    refine RL.p rfl rfl ?_
    refine RL.done ?_
    refine RK.ret_of Tryz.func218 (res1 rfl rfl) ?_ _
    exact ⟨_, rfl, by rw [h9], by rw [h9]; exact hb3, (Mod.any' hg2).trans hm3⟩
theorem byte_no (w : World) (p : Nat) (s : ByteArray) (i : Nat) (bad : Bool) (h : PA w p s i bad) (hn : bad = true ∨ s.size ≤ i) : Fx Tryz.prog 246 [pp p] w (fun u w' => u = .int .u8 ((0 : Nat) : Int) ∧ PA w' p s i true ∧ Mod (· = p) w w') := by
  refine enter Tryz.func246 rfl rfl rfl _ (Pick.sub (l := [0]) (.cons rfl .nil)) ?_
  refine RK.seq ?_
  refine RK.region ?_
  refine RL.p rfl rfl ?_
  refine RL.done ?_
  iterate 2 refine RK.seq ?_
  refine RK.region ?_
  refine RL.p rfl rfl ?_
  refine RL.op (.free rfl) rfl rfl (Does.call rfl e233 (over_ok _ p s i bad h)) ?_
  rintro _ w2 ⟨rfl, hg2⟩
  have h2 := h.mod hg2 (fun h => h)
  refine RL.done ?_
  refine RK.condT (hcT rfl (by simpa using hn)) ?_
  refine RK.seq ?_
  refine RK.region ?_
  iterate 2 refine RL.p rfl rfl ?_
  refine RL.q (.free rfl) rfl rfl (Yld.fieldAddr fo246_2 rfl) ?_
  refine RL.op' (.free rfl) rfl (Does.store i4 rfl rfl rfl h2 (.s (.s .z))) ?_
  rintro _ w3 ⟨hb3, hm3, _⟩
  refine RL.done ?_
  refine RK.seq ?_
  refine RK.region ?_
  refine RL.p rfl rfl ?_
  refine RL.done ?_
  refine RK.ret_of Tryz.func246 (res1 rfl rfl) ?_ _
  exact ⟨_, rfl, rfl, hb3, (Mod.any' hg2).trans hm3⟩
theorem byte_yes (w : World) (p : Nat) (s : ByteArray) (i : Nat) (h : PA w p s i false) (hi : i < s.size) (hb : i ≤ 1000) : Fx Tryz.prog 246 [pp p] w (fun u w' => u = .int .u8 (b8 s i : Int) ∧ PA w' p s (i + 1) false ∧ Mod (· = p) w w') := by
  refine enter Tryz.func246 rfl rfl rfl _ (Pick.sub (l := [0]) (.cons rfl .nil)) ?_
  refine RK.seq ?_
  refine RK.region ?_
  refine RL.p rfl rfl ?_
  refine RL.done ?_
  iterate 2 refine RK.seq ?_
  refine RK.region ?_
  refine RL.p rfl rfl ?_
  refine RL.op (.free rfl) rfl rfl (Does.call rfl e233 (over_ok _ p s i false h)) ?_
  rintro _ w2 ⟨rfl, hg2⟩
  have h2 := h.mod hg2 (fun h => h)
  refine RL.done ?_
  refine RK.condF (hcF rfl (by simp; omega)) ?_
  refine RK.skip ?_
  refine RK.seq ?_
  refine RK.region ?_
  iterate 2 refine RL.p rfl rfl ?_
  refine RL.q (.free rfl) rfl rfl (Yld.fieldAddr fo246_1 rfl) ?_
  refine RL.q (.free rfl) rfl rfl (Yld.load p3 rfl (at1 (h2.cell rfl))) ?_
  refine RL.p rfl rfl ?_
  refine RL.re (d := 12) rfl rfl (succ_i64 (by omega)) ?_
  refine RL.p rfl rfl ?_
  refine RL.q (.free rfl) rfl rfl (Yld.fieldAddr fo246_1 rfl) ?_
  refine RL.op' (.free rfl) rfl (Does.store i3 rfl rfl rfl h2 (.s .z)) ?_
  rintro _ w3 ⟨hb3, hm3, _⟩
  have h3 : PA w3 p s (i + 1) false := hb3
  refine RL.done ?_
  refine RK.seq ?_
  refine RK.drawM No [(0, false), (1, false), (2, false), (3, false), (4, false), (5, false), (6, false), (7, false), (8, false), (9, false), (10, false)] [] mixed (by kernel_rfl) ?_
  iterate 2 refine DL.p rfl rfl rfl ?_
  refine DL.qf rfl (.free rfl) rfl rfl (Yld.fieldAddr fo246_0 rfl) ?_
  refine DL.q rfl (.free rfl) rfl rfl rfl (Yld.load p9 rfl (atM (h3.cell rfl) (fun h => h))) (Mod.drew _ _) ?_
  iterate 2 refine DL.p rfl rfl rfl ?_
  refine DL.qf rfl (.free rfl) rfl rfl (Yld.fieldAddr fo246_1 rfl) ?_
  refine DL.q rfl (.free rfl) rfl rfl rfl (Yld.load p3 rfl (atM (h3.cell rfl) (fun h => h))) (Mod.drew _ _) ?_
  refine DL.p rfl rfl rfl ?_
  refine DL.re (d := 23) rfl rfl (sub_i64 (z := (i : Int)) (by omega) (by omega) (by omega)) ?_
  refine DL.qf rfl (.free rfl) rfl rfl (Yld.idxStrN u9 rfl rfl (hi)) ?_
  refine DL.p rfl rfl rfl ?_
  refine DL.done ?_
  refine RK.ret_of Tryz.func246 (res1 rfl rfl) ?_ _
  exact ⟨_, rfl, rfl, h3.mod (Mod.drew No _) (fun h => h), ((Mod.any' hg2).trans hm3).trans (Mod.drew _ _)⟩
theorem idx_neg (l : List UInt8) (c : UInt8) : (Lib.indexByte l c < 0 ↔ c ∉ l) ∧ -1 ≤ Lib.indexByte l c := by
  induction l with
  | nil => simp [Lib.indexByte]
  | cons b l ih =>
    unfold Lib.indexByte
    by_cases e : b = c
    · subst e; simp
    · rw [if_neg (by simpa using e)]
      obtain ⟨h1, h2⟩ := ih
      by_cases e2 : Lib.indexByte l c = -1
      · rw [if_pos (by simpa using e2)]
        have : c ∉ l := h1.1 (by omega)
        simp [this, Ne.symm e]
      · rw [if_neg (by simpa using e2)]
        have h3 : ¬ Lib.indexByte l c < 0 := by omega
        have h4 : c ∈ l := Classical.byContradiction fun h => h3 (h1.2 h)
        refine ⟨⟨fun h => by omega, fun h => absurd (List.mem_cons_of_mem _ h4) h⟩, by omega⟩
theorem indexByte_ok (w : World) (t : ByteArray) (c : Nat) (hc : c < 256) : Fx Tryz.prog 251 [.string t, .int .u8 (c : Int)] w (fun u w' => ∃ z : Int, u = .int .i64 z ∧ (z < 0 ↔ ¬ ∃ b ∈ t.data.toList, b.toNat = c) ∧ w = w') := by
  refine Calls.mono (Tryz.strings_IndexByte t (c : Int) w) ?_
  rintro e w' ⟨rfl, rfl⟩
  refine ⟨_, rfl, _, rfl, ?_, rfl⟩
  rw [(idx_neg _ _).1]
  have : ((c : Int).toNat.toUInt8).toNat = c := by simp; omega
  constructor
  · rintro h ⟨b, hb, e⟩
    exact h (by rw [show (c : Int).toNat.toUInt8 = b from UInt8.toNat_inj.1 (by omega)]; exact hb)
  · intro h hm
    exact h ⟨_, hm, this⟩
end Go.Proofs.YtbcbfjnlnmhpbaaGreat
set_option linter.unusedVariables false
set_option linter.unusedSimpArgs false
set_option maxHeartbeats 1000000
set_option maxRecDepth 100000
namespace Go.Proofs.YtbcbfjnlnmhpbaaGreat
open Go Go.X Go.Rex
def RB (w' : World) (p : Nat) (s : ByteArray) (r : Option (Nat × Nat)) (u : Value) : Prop := match r with
  | some (b, j) => u = .int .u8 (b : Int) ∧ PA w' p s j false
  | none => ∃ c j : Nat, c < 256 ∧ u = .int .u8 (c : Int) ∧ PA w' p s j true ∧ j ≤ s.size
theorem sign_ok (w : World) (p : Nat) (s : ByteArray) (i : Nat) (h : PA w p s i false) (hi : i ≤ s.size) (hs : s.size ≤ 40) : Fx Tryz.prog 250 [pp p] w (fun u w' => RB w' p s (signS s i) u ∧ Mod (· = p) w w') := by
  by_cases hl : i < s.size
  · have hc := b8_lt s i
    refine enter Tryz.func250 rfl rfl rfl _ (Pick.sub (l := [0]) (.cons rfl .nil)) ?_
    refine RK.seq ?_
    refine RK.region ?_
    refine RL.p rfl rfl ?_
    refine RL.done ?_
    refine RK.seq ?_
    refine RK.region ?_
    refine RL.p rfl rfl ?_
    refine RL.op (.free rfl) rfl rfl (Does.call rfl e246 (byte_yes _ p s i h hl (by omega))) ?_
    rintro _ w2 ⟨rfl, hB2, hm2⟩
    refine RL.p rfl rfl ?_
    refine RL.done ?_
    refine RK.seq ?_
    refine RK.region ?_
    iterate 3 refine RL.p rfl rfl ?_
    refine RL.q (.free rfl) rfl rfl (Yld.fieldAddr fo246_2 rfl) ?_
    refine RL.q (.free rfl) rfl rfl (Yld.load p4 rfl (at1 (hB2.cell rfl))) ?_
    refine RL.p rfl rfl ?_
    refine RL.knownF (d := 11) rfl rfl (rfl) ?_
    refine RL.q (.yes rfl rfl rfl) rfl rfl (Yld.pure rfl) ?_
    refine RL.op (.yes rfl rfl rfl) rfl rfl (Does.call rfl e251 (indexByte_ok _ _ _ hc)) ?_
    rintro _ _ ⟨z, rfl, hz, rfl⟩
    refine RL.q (.yes rfl rfl rfl) rfl rfl (Yld.pure rfl) ?_
    iterate 2 refine RL.p rfl rfl ?_
    refine RL.q (.free rfl) rfl rfl (Yld.fieldAddr fo246_2 rfl) ?_
    refine RL.op' (.free rfl) rfl (Does.store i4 rfl rfl rfl hB2 (.s (.s .z))) ?_
    rintro _ w3 ⟨hb3, hm3, _⟩
    have hq : (z < 0 ↔ ¬ quotedS (b8 s i) = true) := by rw [hz]; unfold quotedS; simp; omega
    refine RL.done ?_
    refine RK.seq ?_
    refine RK.region ?_
    iterate 2 refine RL.p rfl rfl ?_
    refine RL.done ?_
    refine RK.ret_of Tryz.func250 (res1 rfl rfl) ?_ _
    exact ⟨_, rfl, by
        unfold RB signS
        by_cases hqq : quotedS (b8 s i) = true
        · rw [if_pos ⟨hl, hqq⟩]
          have : ¬ z < 0 := fun h => hq.1 h hqq
          simp only [this, decide_false] at hb3
          exact ⟨rfl, hb3⟩
        · rw [if_neg (fun h => hqq h.2)]
          have : z < 0 := hq.2 hqq
          simp only [this, decide_true] at hb3
          exact ⟨_, _, hc, rfl, hb3, by omega⟩
      , hm2.trans hm3⟩
  · skip
    refine enter Tryz.func250 rfl rfl rfl _ (Pick.sub (l := [0]) (.cons rfl .nil)) ?_
    refine RK.seq ?_
    refine RK.region ?_
    refine RL.p rfl rfl ?_
    refine RL.done ?_
    refine RK.seq ?_
    refine RK.region ?_
    refine RL.p rfl rfl ?_
    refine RL.op (.free rfl) rfl rfl (Does.call rfl e246 (byte_no _ p s i false h (.inr (by omega)))) ?_
    rintro _ w2 ⟨rfl, hB2, hm2⟩
    refine RL.p rfl rfl ?_
    refine RL.done ?_
    refine RK.seq ?_
    refine RK.region ?_
    iterate 3 refine RL.p rfl rfl ?_
    refine RL.q (.free rfl) rfl rfl (Yld.fieldAddr fo246_2 rfl) ?_
    refine RL.q (.free rfl) rfl rfl (Yld.load p4 rfl (at1 (hB2.cell rfl))) ?_
    refine RL.p rfl rfl ?_
    refine RL.knownT (d := 11) rfl rfl (rfl) ?_
    iterate 3 refine RL.no (.no rfl rfl rfl rfl) rfl rfl ?_
    iterate 2 refine RL.p rfl rfl ?_
    refine RL.q (.free rfl) rfl rfl (Yld.fieldAddr fo246_2 rfl) ?_
    refine RL.op' (.free rfl) rfl (Does.store i4 rfl rfl rfl hB2 (.s (.s .z))) ?_
    rintro _ w3 ⟨hb3, hm3, _⟩
    refine RL.done ?_
    refine RK.seq ?_
    refine RK.region ?_
    iterate 2 refine RL.p rfl rfl ?_
    refine RL.done ?_
    refine RK.ret_of Tryz.func250 (res1 rfl rfl) ?_ _
    exact ⟨_, rfl, by
        unfold RB signS
        rw [if_neg (fun h => hl h.1)]
        exact ⟨_, _, by omega, rfl, hb3, by omega⟩
      , hm2.trans hm3⟩
theorem member_ok (w : World) (p : Nat) (s : ByteArray) (i : Nat) (h : PA w p s i false) (hi : i ≤ s.size) (hs : s.size ≤ 40) : Fx Tryz.prog 252 [pp p] w (fun u w' => RB w' p s (memS s i) u ∧ Mod (· = p) w w') := by
  by_cases hl : i < s.size
  · have hc := b8_lt s i
    refine enter Tryz.func252 rfl rfl rfl _ (Pick.sub (l := [0]) (.cons rfl .nil)) ?_
    refine RK.seq ?_
    refine RK.region ?_
    refine RL.p rfl rfl ?_
    refine RL.done ?_
    refine RK.seq ?_
    refine RK.region ?_
    refine RL.p rfl rfl ?_
    refine RL.op (.free rfl) rfl rfl (Does.call rfl e246 (byte_yes _ p s i h hl (by omega))) ?_
    rintro _ w2 ⟨rfl, hB2, hm2⟩
    refine RL.p rfl rfl ?_
    refine RL.done ?_
    iterate 2 refine RK.seq ?_
    refine RK.region ?_
    iterate 2 refine RL.p rfl rfl ?_
    refine RL.done ?_
    first | refine RK.condD rfl (fun h7 => ?_) (fun h7 => ?_) | refine RK.condN rfl (fun h7 => ?_) (fun h7 => ?_) | refine RK.cond rfl (fun h7 => ?_) (fun h7 => ?_)
    · have h92 : b8 s i = 92 := by omega
      refine RK.seq ?_
      refine RK.region ?_
      refine RL.p rfl rfl ?_
      refine RL.op (.free rfl) rfl rfl (Does.call rfl e250 (sign_ok _ p s (i + 1) hB2 (by omega) hs)) ?_
      rintro u3 w3 ⟨hr3, hm3⟩
      have e : memS s i = signS s (i + 1) := by unfold memS; rw [if_pos hl, if_pos h92]
      refine RL.p rfl rfl ?_
      refine RL.done ?_
      refine RK.ret_of Tryz.func252 (res1 rfl rfl) ?_ _
      exact ⟨_, rfl, by rw [e]; exact hr3, hm2.trans hm3⟩
    · have h92 : ¬ b8 s i = 92 := by omega
      refine RK.skip ?_
      refine RK.seq ?_
      refine RK.region ?_
      iterate 3 refine RL.p rfl rfl ?_
      refine RL.q (.free rfl) rfl rfl (Yld.fieldAddr fo246_2 rfl) ?_
      refine RL.q (.free rfl) rfl rfl (Yld.load p4 rfl (at1 (hB2.cell rfl))) ?_
      refine RL.p rfl rfl ?_
      refine RL.knownF (d := 15) rfl rfl (rfl) ?_
      refine RL.q (.yes rfl rfl rfl) rfl rfl (Yld.pure rfl) ?_
      refine RL.op (.yes rfl rfl rfl) rfl rfl (Does.call rfl e251 (indexByte_ok _ _ _ hc)) ?_
      rintro _ _ ⟨z, rfl, hz, rfl⟩
      refine RL.q (.yes rfl rfl rfl) rfl rfl (Yld.pure rfl) ?_
      iterate 2 refine RL.p rfl rfl ?_
      refine RL.q (.free rfl) rfl rfl (Yld.fieldAddr fo246_2 rfl) ?_
      refine RL.op' (.free rfl) rfl (Does.store i4 rfl rfl rfl hB2 (.s (.s .z))) ?_
      rintro _ w3 ⟨hb3, hm3, _⟩
      have hq : (z < 0 ↔ ¬ (b8 s i = 93 ∨ b8 s i = 91 ∨ b8 s i = 94 ∨ b8 s i = 45)) := by rw [hz]; simp; omega
      refine RL.done ?_
      refine RK.seq ?_
      refine RK.region ?_
      iterate 2 refine RL.p rfl rfl ?_
      refine RL.done ?_
      refine RK.ret_of Tryz.func252 (res1 rfl rfl) ?_ _
      exact ⟨_, rfl, by
          unfold RB memS
          rw [if_pos hl, if_neg h92]
          by_cases hqq : b8 s i = 93 ∨ b8 s i = 91 ∨ b8 s i = 94 ∨ b8 s i = 45
          · rw [if_pos hqq]
            have : (0 : Int) ≤ z := by have := fun h => hq.1 h hqq; omega
            simp only [ge_iff_le, this, decide_true] at hb3
            exact ⟨_, _, hc, rfl, hb3, by omega⟩
          · rw [if_neg hqq]
            have : ¬ (0 : Int) ≤ z := by have := hq.2 hqq; omega
            simp only [ge_iff_le, this, decide_false] at hb3
            exact ⟨rfl, hb3⟩
        , hm2.trans hm3⟩
  · skip
    refine enter Tryz.func252 rfl rfl rfl _ (Pick.sub (l := [0]) (.cons rfl .nil)) ?_
    refine RK.seq ?_
    refine RK.region ?_
    refine RL.p rfl rfl ?_
    refine RL.done ?_
    refine RK.seq ?_
    refine RK.region ?_
    refine RL.p rfl rfl ?_
    refine RL.op (.free rfl) rfl rfl (Does.call rfl e246 (byte_no _ p s i false h (.inr (by omega)))) ?_
    rintro _ w2 ⟨rfl, hB2, hm2⟩
    refine RL.p rfl rfl ?_
    refine RL.done ?_
    iterate 2 refine RK.seq ?_
    refine RK.region ?_
    iterate 2 refine RL.p rfl rfl ?_
    refine RL.done ?_
    refine RK.condF (hcF rfl (by simp)) ?_
    refine RK.skip ?_
    refine RK.seq ?_
    refine RK.region ?_
    iterate 3 refine RL.p rfl rfl ?_
    refine RL.q (.free rfl) rfl rfl (Yld.fieldAddr fo246_2 rfl) ?_
    refine RL.q (.free rfl) rfl rfl (Yld.load p4 rfl (at1 (hB2.cell rfl))) ?_
    refine RL.p rfl rfl ?_
    refine RL.knownT (d := 15) rfl rfl (rfl) ?_
    iterate 3 refine RL.no (.no rfl rfl rfl rfl) rfl rfl ?_
    iterate 2 refine RL.p rfl rfl ?_
    refine RL.q (.free rfl) rfl rfl (Yld.fieldAddr fo246_2 rfl) ?_
    refine RL.op' (.free rfl) rfl (Does.store i4 rfl rfl rfl hB2 (.s (.s .z))) ?_
    rintro _ w3 ⟨hb3, hm3, _⟩
    refine RL.done ?_
    refine RK.seq ?_
    refine RK.region ?_
    iterate 2 refine RL.p rfl rfl ?_
    refine RL.done ?_
    refine RK.ret_of Tryz.func252 (res1 rfl rfl) ?_ _
    exact ⟨_, rfl, by
        unfold RB memS
        rw [if_neg hl]
        exact ⟨_, _, by omega, rfl, hb3, by omega⟩
      , hm2.trans hm3⟩
abbrev wds (l : List Nat) : List Value := l.map fun x : Nat => Value.int .u64 (x : Int)
theorem add1_ok (w : World) (b o t : Nat) (cs : List Value) (l : List Nat) (hB : Blk w b t cs) (hl : W4 l) (hc : ∀ j, j < 4 → cs[o + j]? = (wds l)[j]?) (ho : o + 4 ≤ cs.length) (c : Nat) (h256 : c < 256) :
    Fx Tryz.prog 249 [.pointer (some ⟨b, o, none⟩), .int .u8 (c : Int)] w (fun u w' => u = .tuple #[] ∧ Blk w' b t (cs.set (o + c / 64) (.int .u64 ((((l[c / 64]?).getD 0) ||| 1 <<< (c % 64) : Nat) : Int))) ∧ Mod (· = b) w w') := by
  obtain ⟨hl4, hlt⟩ := hl
  have hq : c / 64 < 4 := by omega
  obtain ⟨y, hy⟩ : ∃ y, l[c / 64]? = some y := ⟨_, List.getElem?_eq_getElem (by omega)⟩
  have hyl := hlt y (List.mem_of_getElem? hy)
  have h1 : (1 <<< (c % 64)) < 18446744073709551616 := by
    rw [Nat.shiftLeft_eq, Nat.one_mul]; exact Nat.pow_lt_pow_right (m := c % 64) (n := 64) (by omega) (Nat.mod_lt _ (by omega))
  have hcell : cs[o + c / 64]? = some (.int .u64 (y : Int)) := by rw [hc _ hq]; simp [hy]
  have e1 : IntKind.u8.wrap ((c : Int).tdiv 64) = ((c / 64 : Nat) : Int) := by
    have e2 : (c : Int).tdiv 64 = ((c / 64 : Nat) : Int) := by rw [Int.tdiv_eq_ediv_of_nonneg (by omega)]; omega
    rw [e2]; exact wrap_u8 (by omega)
  have e3 : (c : Int).tmod 64 = ((c % 64 : Nat) : Int) := by rw [Int.tmod_eq_emod_of_nonneg (by omega)]; omega
  rw [hy]
  refine enter Tryz.func249 rfl rfl rfl _ (Pick.sub (l := [0, 1]) (.cons rfl (.cons rfl .nil))) ?_
  refine RK.drawM (· = b) [(0, false), (1, false), (2, false), (3, false), (4, false), (6, false), (7, false), (8, false), (10, false), (5, true), (9, false), (11, false), (12, true)] [12] mixed (by kernel_rfl) ?_
  iterate 2 refine DL.p rfl rfl rfl ?_
  refine DL.qf rfl (.free rfl) rfl rfl (Yld.quo rfl rfl (by omega)) ?_
  refine DL.re (d := 6) rfl rfl (congrArg (Value.int .u8) e1) ?_
  refine DL.p rfl rfl rfl ?_
  refine DL.qf rfl (.free rfl) rfl rfl (Yld.indexArr Tryz.underlying177 i22 rfl rfl (hq)) ?_
  refine DL.p rfl rfl rfl ?_
  refine DL.qf rfl (.free rfl) rfl rfl (Yld.rem rfl rfl (by omega)) ?_
  refine DL.re (d := 11) rfl rfl (congrArg (Value.int .u8) e3) ?_
  refine DL.qf rfl (.free rfl) rfl rfl (Yld.shl (a := 1) rfl rfl (by simp [IntKind.bits]; omega)) ?_
  refine DL.re (d := 12) rfl rfl (congrArg (Value.int .u64) (Go.X.wrap_u64 h1)) ?_
  refine DL.p rfl rfl rfl ?_
  refine DL.lq rfl (.free rfl) rfl rfl (Yld.load p22 rfl (at1 (hB.cell' (by rw [Nat.mul_one]; exact hcell)))) ?_
  refine DL.p rfl rfl rfl ?_
  refine DL.re (d := 13) rfl rfl (congrArg (Value.int .u64) (Go.X.u64_or hyl h1)) ?_
  refine DL.qf rfl (.free rfl) rfl rfl (Yld.indexArr Tryz.underlying177 i22 rfl rfl (hq)) ?_
  refine DL.opT rfl (.free rfl) rfl rfl (Does.store i22 rfl rfl rfl hB (setAt_of (by omega))) ?_
  rintro _ w2 ⟨hb2, hm2, _⟩
  refine DL.done ?_
  refine RK.end_of Tryz.func249 (res0 rfl) ?_
  exact ⟨_, rfl, rfl, by simpa using hb2, (Mod.drew _ _).trans hm2⟩
theorem wds_bit {l : List Nat} (hl : W4 l) {c : Nat} (hc : c < 256) : (wds l).set (c / 64) (.int .u64 ((((l[c / 64]?).getD 0) ||| 1 <<< (c % 64) : Nat) : Int)) = wds (setBit l c) := by
  have hq : c / 64 < l.length := by rw [hl.1]; omega
  apply List.ext_getElem?
  intro j
  unfold setBit
  simp only [List.getElem?_map, List.getElem?_modify, List.getElem?_set, List.length_map]
  by_cases e : c / 64 = j
  · subst e
    simp [hq, List.getElem?_eq_getElem hq]
  · simp [e]
theorem add_set (w : World) (b : Nat) (l : List Nat) (hB : Blk w b 177 (wds l)) (hl : W4 l) (c : Nat) (h256 : c < 256) :
    Fx Tryz.prog 249 [pp b, .int .u8 (c : Int)] w (fun u w' => u = .tuple #[] ∧ Blk w' b 177 (wds (setBit l c)) ∧ Mod (· = b) w w') := by
  refine Fx.mono (add1_ok w b 0 _ _ l hB hl (fun j _ => by rw [Nat.zero_add]) (by simp [hl.1]) c h256) ?_
  rintro u w' ⟨rfl, h1, h2⟩
  rw [Nat.zero_add, wds_bit hl h256] at h1
  exact ⟨rfl, h1, h2⟩
theorem inv_set {l : List Nat} {k : Nat} {x : Nat} (hx : l[k]? = some x) : ((invS l).take k ++ l.drop k).set k (18446744073709551615 - x) = (invS l).take (k + 1) ++ l.drop (k + 1) := by
  have hk := (List.getElem?_eq_some_iff.1 hx).1
  have e : ((invS l).take k).length = k := by simp [invS]; omega
  rw [List.drop_eq_getElem_cons hk, List.set_append_right _ _ (by omega), e, Nat.sub_self, List.set_cons_zero, List.take_succ_eq_append_getElem (by simpa [invS] using hk)]
  simp [invS, (List.getElem?_eq_some_iff.1 hx).2]
theorem blk0' {w : World} {b t : Nat} {cs : List Value} (h : Blk w b t cs) : ∀ (j : Nat) (u : Value), cs[j]? = some u → w.cell? ⟨b, 0 + j, none⟩ = some u := fun j u hj => by rw [Nat.zero_add]; exact h.cell' hj
theorem turned_ok (w : World) (l : List Nat) (hl : W4 l) : Fx Tryz.prog 248 [.agg (wds l).toArray] w (fun u w' => u = .agg (wds (invS l)).toArray ∧ Grow w w') := by
  obtain ⟨hl4, hlt⟩ := hl
  obtain ⟨x0, x1, x2, x3, rfl⟩ : ∃ x0 x1 x2 x3, l = [x0, x1, x2, x3] := by
    match l, hl4 with
    | [x0, x1, x2, x3], _ => exact ⟨x0, x1, x2, x3, rfl⟩
  generalize hle : [x0, x1, x2, x3] = l at *
  have hil : (invS l).length = 4 := by simpa [invS] using hl4
  refine enter Tryz.func248 rfl rfl rfl _ (Pick.sub (l := [0]) (.cons rfl .nil)) ?_
  refine RK.seq ?_
  refine RK.region ?_
  refine RL.op (.free rfl) rfl rfl (Does.box rfl) ?_
  rintro _ w1 ⟨b1, rfl, hn1⟩
  have hB1 : Blk w1 b1 177 (wds l) := by have := hn1.blk; simpa [Value.cells] using this
  refine RL.op (.free rfl) rfl rfl (Does.alloc i177) ?_
  rintro _ w2 ⟨b2, rfl, hn2⟩
  have hne : b1 ≠ b2 := by have := hn1.lt; have := hn2.at_; omega
  refine RL.done ?_
  iterate 2 refine RK.seq ?_
  refine RK.region ?_
  refine RL.p rfl rfl ?_
  refine RL.done ?_
  refine RK.block ?_
  refine RK.loop (fun k : Nat => [(1, pp b1), (2, pp b2), (4, .int .i64 (k : Int))]) (fun k w' => Blk w' b1 177 (wds ((invS l).take k ++ l.drop k)) ∧ Mod (· = b1) w2 w' ∧ k ≤ 4) (fun k => 4 - k) 0 ⟨rfl, rfl, rfl, trivial⟩ ⟨by simpa using hB1.mod hn2.grow (fun h => h), Mod.refl _ _, by omega⟩ (fun k w3 hI ih => ?_)
  obtain ⟨hB, hm, hk⟩ := hI
  refine RK.seq ?_
  refine RK.region ?_
  refine RL.p rfl rfl ?_
  refine RL.done ?_
  refine RK.seq ?_
  first | refine RK.condD rfl (fun h5 => ?_) (fun h5 => ?_) | refine RK.condN rfl (fun h5 => ?_) (fun h5 => ?_) | refine RK.cond rfl (fun h5 => ?_) (fun h5 => ?_)
  · obtain ⟨x, hx⟩ : ∃ x, l[k]? = some x := ⟨l[k]'(by omega), List.getElem?_eq_getElem (by omega)⟩
    have hxl := hlt x (List.mem_of_getElem? hx)
    have hcx : (wds ((invS l).take k ++ l.drop k))[0 + k * 1]? = some (.int .u64 (x : Int)) := by
        rw [Nat.zero_add, Nat.mul_one, List.getElem?_map, List.getElem?_append_right (by simp [invS]; omega)]
        simp [invS, hl4, hk, hx, show min k 4 = k by omega]
    refine RK.skip ?_
    refine RK.seq ?_
    refine RK.block ?_
    refine RK.seq ?_
    refine RK.region ?_
    iterate 2 refine RL.p rfl rfl ?_
    refine RL.done ?_
    refine RK.region ?_
    iterate 2 refine RL.p rfl rfl ?_
    refine RL.q (.free rfl) rfl rfl (Yld.indexArr Tryz.underlying177 i22 rfl rfl (by omega)) ?_
    refine RL.q (.free rfl) rfl rfl (Yld.load p22 rfl (at1 (hB.cell' hcx))) ?_
    refine RL.q (.free rfl) rfl rfl (Yld.compl rfl (by omega) (by omega)) ?_
    refine RL.re (d := 11) rfl rfl (congrArg (Value.int .u64) (show _ = ((18446744073709551615 - x : Nat) : Int) by omega)) ?_
    refine RL.q (.free rfl) rfl rfl (Yld.indexArr Tryz.underlying177 i22 rfl rfl (by omega)) ?_
    refine RL.op' (.free rfl) rfl (Does.store i22 rfl rfl rfl hB (setAt_of (by simp [invS, hl4]; omega))) ?_
    rintro _ w4 ⟨hb4, hm4, _⟩
    refine RL.done ?_
    refine RK.inBlock ?_
    refine RK.region ?_
    refine RL.p rfl rfl ?_
    refine RL.re (d := 13) rfl rfl (succ_i64 (by omega)) ?_
    refine RL.p rfl rfl ?_
    refine RL.done ?_
    exact RK.back (ih (k + 1) _ ⟨by rw [Nat.zero_add, Nat.mul_one, ← List.map_set, inv_set hx] at hb4; exact hb4, hm.trans hm4, by omega⟩ (by omega)) ⟨rfl, rfl, rfl, trivial⟩
  · have ek : k = 4 := by omega
    subst ek
    have e1 : (invS l).take 4 ++ l.drop 4 = invS l := by rw [List.take_of_length_le (by omega), List.drop_eq_nil_of_le (by omega), List.append_nil]
    rw [e1] at hB
    have hB2 := hn2.blk.mod hm (Ne.symm hne)
    subst hle
    refine RK.exit rfl ?_
    refine RK.seq ?_
    refine RK.region ?_
    refine RL.q (.free rfl) rfl rfl (Yld.loadN (cs := wds (invS [x0, x1, x2, x3])) a177 rfl (atN (blk0' hB))) ?_
    refine RL.op' (.free rfl) rfl (Does.storeN i177 rfl rfl (by simp [Value.cells, hil]) (by simp [Value.cells, Value.oneCell']) hB2 (by decide)) ?_
    rintro _ w4 ⟨hb4, hm4, _⟩
    refine RL.done ?_
    refine RK.ret_of Tryz.func248 (resC (cs := wds (invS [x0, x1, x2, x3])) rfl rfl a177 hb4) ?_ _
    exact ⟨_, rfl, rfl, ((hn1.grow.trans hn2.grow).then hm (fun b hb e => by have e' : b = b1 := e; have := hn1.at_; omega)).then hm4 (fun b hb e => by have e' : b = b2 := e; have := hn2.at_; have := hn1.grow.size; omega)⟩
end Go.Proofs.YtbcbfjnlnmhpbaaGreat
set_option linter.unusedVariables false
set_option linter.unusedSimpArgs false
set_option maxHeartbeats 1000000
set_option maxRecDepth 100000
namespace Go.Proofs.YtbcbfjnlnmhpbaaGreat
open Go Go.X Go.Rex
theorem member_ok' (w : World) (p : Nat) (s : ByteArray) (i : Nat) (h : PA w p s i false) (hi : i ≤ s.size) (hs : s.size ≤ 40) : Fx Tryz.prog 252 [pp p] w (fun u w' => ∃ (c j : Nat) (bad : Bool), u = .int .u8 (c : Int) ∧ c < 256 ∧ j ≤ s.size ∧ PA w' p s j bad ∧ memS s i = (if bad then none else some (c, j)) ∧ Mod (· = p) w w') := by
  refine Fx.mono (member_ok w p s i h hi hs) ?_
  rintro u w' ⟨hr, hm⟩
  cases hmm : memS s i with
  | none =>
    rw [hmm] at hr
    obtain ⟨c, j, h1, h2, h3, h4⟩ := hr
    exact ⟨c, j, true, h2, h1, h4, h3, rfl, hm⟩
  | some q =>
    obtain ⟨c, j⟩ := q
    rw [hmm] at hr
    have := memS_adv hmm
    exact ⟨c, j, false, hr.1, this.2.2, this.2.1, hr.2, rfl, hm⟩
def bodyS (s : ByteArray) (n i : Nat) (set : List Nat) : Option (List Nat × Nat) := match memS s i with
  | none => none
  | some (a, i1) => match toS s a i1 with
    | none => none
    | some (b, i2) => if b < a then none else clsL s n i2 (addG set a b)
theorem body_go {s : ByteArray} {n i : Nat} {set : List Nat} (hi : i < s.size) (h93 : b8 s i ≠ 93) : clsL s (n + 1) i set = bodyS s n i set := by
  unfold bodyS
  rw [clsL, if_pos hi, if_neg h93]
  all_goals rfl
theorem body_first {s : ByteArray} {i : Nat} : (if i < s.size ∧ b8 s i = 93 then none else clsL s (s.size + 1) i zero4) = bodyS s s.size i zero4 := by
  by_cases hi : i < s.size
  · by_cases h93 : b8 s i = 93
    · rw [if_pos ⟨hi, h93⟩]
      unfold bodyS memS
      rw [if_pos hi, if_neg (by omega), if_pos (.inl h93)]
    · rw [if_neg (fun h => h93 h.2), body_go hi h93]
  · rw [if_neg (fun h => hi h.1)]
    unfold bodyS memS
    rw [clsL, if_neg hi, if_neg hi]
theorem clsB_eq (s : ByteArray) (no : Bool) (i : Nat) : clsB s no i = (bodyS s s.size i zero4).map fun q => (if no then invS q.1 else q.1, q.2) := by
  rw [← body_first]
  unfold clsB
  split
  · rfl
  · cases clsL s (s.size + 1) i zero4 <;> rfl
structure ClsI (s : ByteArray) (T : Option (List Nat × Nat)) (first bad : Bool) (i : Nat) (set : List Nat) : Prop where
  one : first = true → bad = false ∧ bodyS s s.size i set = T
  go : first = false → bad = false → ∃ n, clsL s n i set = T ∧ s.size + 1 ≤ n + i
  no : bad = true → first = false ∧ T = none
theorem ClsI.step {s : ByteArray} {T : Option (List Nat × Nat)} {m i : Nat} {set : List Nat} (h : bodyS s m i set = T) (hm : s.size ≤ m + i) {c j : Nat} {bad : Bool} (h1 : memS s i = if bad then none else some (c, j)) {c2 j2 : Nat} {bad2 : Bool} (h2 : bad = true → bad2 = true) (h3 : bad = false → toS s c j = if bad2 then none else some (c2, j2)) : ClsI s T false (bad2 || decide (c2 < c)) j2 (addG set c c2) := by
  unfold bodyS at h
  cases bad with
  | true =>
    rw [h1] at h
    have hb := h2 rfl
    subst hb
    exact ⟨by simp, by simp, fun _ => ⟨rfl, h.symm⟩⟩
  | false =>
    have h4 := h3 rfl
    rw [h1] at h
    simp only [Bool.false_eq_true, if_false] at h
    have h5 := memS_adv h1
    rw [h4] at h
    cases bad2 with
    | true => exact ⟨by simp, by simp, fun _ => ⟨rfl, h.symm⟩⟩
    | false =>
      simp only [Bool.false_eq_true, if_false] at h h4
      have h6 := toS_adv h4 h5.2.1 h5.2.2
      by_cases hlt : c2 < c
      · rw [if_pos hlt] at h
        exact ⟨by simp, by simp [hlt], fun _ => ⟨rfl, h.symm⟩⟩
      · rw [if_neg hlt] at h
        exact ⟨by simp, fun _ _ => ⟨m, h, by omega⟩, by simp [hlt]⟩
theorem range_snoc (a d : Nat) (l : List Nat) : (List.range' a (d + 1)).foldl setBit l = setBit ((List.range' a d).foldl setBit l) (a + d) := by
  rw [List.range'_1_concat, List.foldl_append]; rfl
def partR (l : List Nat) (a d : Nat) : List Nat := (List.range' a d).foldl setBit l
theorem partR_w4 {l : List Nat} (h : W4 l) (a : Nat) : ∀ d, W4 (partR l a d)
  | 0 => h
  | d + 1 => by unfold partR; rw [range_snoc]; exact (partR_w4 h a d).bit _
theorem class_ok (w : World) (p : Nat) (s : ByteArray) (i : Nat) (h : PA w p s i false) (hi : i ≤ s.size) (hs : s.size ≤ 40) : Fx Tryz.prog 247 [pp p] w (fun u w' => ∃ (l : List Nat) (j : Nat) (bad : Bool), u = .agg (wds l).toArray ∧ W4 l ∧ j ≤ s.size ∧ PA w' p s j bad ∧ clsS s i = (if bad then none else some (l, j)) ∧ Mod (· = p) w w') := by
  have hplt := h.lt
  refine enter Tryz.func247 rfl rfl rfl _ (Pick.sub (l := [0]) (.cons rfl .nil)) ?_
  refine RK.seq ?_
  refine RK.region ?_
  refine RL.op (.free rfl) rfl rfl (Does.alloc i177) ?_
  rintro _ w1 ⟨b2, rfl, hn2⟩
  refine RL.done ?_
  refine RK.seq ?_
  refine RK.region ?_
  refine RL.op (.free rfl) rfl rfl (Does.alloc i177) ?_
  rintro _ w2 ⟨b3, rfl, hn3⟩
  have hg2 := hn2.grow.trans hn3.grow
  have hb2 := hn2.at_
  have hb3 := hn3.at_
  have hs2 := hn2.lt
  have hs3 := hn3.lt
  have hne : b2 ≠ b3 := by omega
  have hB3 : Blk w2 b3 177 (wds zero4) := hn3.blk
  refine RL.done ?_
  refine RK.seq ?_
  refine RK.region ?_
  refine RL.p rfl rfl ?_
  refine RL.op (.free rfl) rfl rfl (Does.call rfl e218 (next_ok _ p s i false (h.mod hg2 (fun h => h)) (by omega) 94)) ?_
  rintro _ w3 ⟨rfl, hP3, hm3⟩
  have hno : seesS s i false 94 = notS s i := by unfold seesS notS; simp
  rw [hno] at hP3 ⊢
  have hcl : clsS s i = clsB s (notS s i) (if notS s i then i + 1 else i) := rfl
  obtain ⟨i0, hi0⟩ : ∃ i0, (if notS s i then i + 1 else i) = i0 := ⟨_, rfl⟩
  rw [hi0] at hP3 hcl
  have hi0s : i0 ≤ s.size := by unfold notS at hi0; by_cases e : i < s.size ∧ b8 s i = 94 <;> simp [e] at hi0 <;> omega
  rw [clsB_eq] at hcl
  obtain ⟨no, hnoe⟩ : ∃ no, notS s i = no := ⟨_, rfl⟩
  rw [hnoe] at hcl ⊢
  obtain ⟨T, hT⟩ : ∃ T, bodyS s s.size i0 zero4 = T := ⟨_, rfl⟩
  rw [hT] at hcl
  have hms3 := hm3.size
  refine RL.p rfl rfl ?_
  refine RL.done ?_
  iterate 2 refine RK.seq ?_
  refine RK.region ?_
  refine RL.p rfl rfl ?_
  refine RL.done ?_
  refine RK.block ?_
  refine RK.loop (fun t : Bool × Bool × Nat × List Nat => [(0, pp p), (2, pp b2), (3, pp b3), (4, .bool no), (5, .bool t.1)]) (fun t w' => PA w' p s t.2.2.1 t.2.1 ∧ Blk w' b3 177 (wds t.2.2.2) ∧ W4 t.2.2.2 ∧ t.2.2.1 ≤ s.size ∧ ClsI s T t.1 t.2.1 t.2.2.1 t.2.2.2 ∧ Mod (fun b => b = p ∨ b = b3) w2 w') (fun t => if t.2.1 then 0 else s.size + 1 - t.2.2.1) (true, false, i0, zero4) ⟨rfl, rfl, rfl, rfl, rfl, trivial⟩ ⟨hP3, hB3.mod hm3 (by omega), W4.zero, hi0s, ⟨fun _ => ⟨rfl, hT⟩, by simp, by simp⟩, hm3.mono fun b _ e => .inl e⟩ (fun t w4 hI ih => ?_)
  obtain ⟨first, bad, k, set⟩ := t
  obtain ⟨hP, hB, hW, hk, hC, hm⟩ := hI
  simp only at hP hB hW hk hC
  iterate 2 refine RK.seq ?_
  refine RK.region ?_
  iterate 2 refine RL.p rfl rfl ?_
  first | refine RL.splitD (d := 12) rfl rfl (fun h12 => ?_) (fun h12 => ?_) | refine RL.splitN (d := 12) rfl rfl (fun h12 => ?_) (fun h12 => ?_) | refine RL.split (d := 12) rfl rfl (fun h12 => ?_) (fun h12 => ?_)
  · have h12' : first = true := h12
    subst h12'
    obtain ⟨hbad, hbody⟩ := hC.one rfl
    subst hbad
    have hmk : s.size ≤ s.size + k := by omega
    iterate 8 refine RL.no (.no rfl rfl rfl rfl) rfl rfl ?_
    refine RL.p rfl rfl ?_
    refine RL.done ?_
    refine RK.condT rfl ?_
    refine RK.skip ?_
    refine RK.seq ?_
    refine RK.block ?_
    refine RK.seq ?_
    refine RK.region ?_
    refine RL.p rfl rfl ?_
    refine RL.op (.free rfl) rfl rfl (Does.call rfl e252 (member_ok' _ p s k hP hk hs)) ?_
    rintro _ w7 ⟨c, j, bd, rfl, hc, hj, hP7, hmem, hm7⟩
    have hB7 := Blk.mod hB hm7 (by omega)
    have hM7 := Mod.trans hm (hm7.mono fun b _ e => .inl e)
    refine RL.p rfl rfl ?_
    refine RL.done ?_
    refine RK.seq ?_
    refine RK.region ?_
    iterate 2 refine RL.p rfl rfl ?_
    refine RL.done ?_
    iterate 2 refine RK.seq ?_
    refine RK.region ?_
    refine RL.p rfl rfl ?_
    refine RL.op (.free rfl) rfl rfl (Does.call rfl e218 (next_ok _ p s j bd hP7 (by omega) 45)) ?_
    rintro _ w8 ⟨rfl, hP8, hm8⟩
    have hB8 := hB7.mod hm8 (by omega)
    have hM8 := Mod.trans hM7 (hm8.mono fun b _ e => .inl e)
    refine RL.done ?_
    first | refine RK.condD rfl (fun h26 => ?_) (fun h26 => ?_) | refine RK.condN rfl (fun h26 => ?_) (fun h26 => ?_) | refine RK.cond rfl (fun h26 => ?_) (fun h26 => ?_)
    · have h9 : bd = false ∧ j < s.size ∧ b8 s j = 45 := by simpa [seesS] using h26
      obtain ⟨hbd, hjs, hj45⟩ := h9
      subst hbd
      rw [h26] at hP8
      refine RK.region ?_
      refine RL.p rfl rfl ?_
      refine RL.op (.free rfl) rfl rfl (Does.call rfl e252 (member_ok' _ p s (j + 1) hP8 (by omega) hs)) ?_
      rintro _ w9 ⟨c2, j2, bd2, rfl, hc2, hj2, hP9, hmem2, hm9⟩
      have hB9 := hB8.mod hm9 (by omega)
      have hM9 := Mod.trans hM8 (hm9.mono fun b _ e => .inl e)
      have hC9 := ClsI.step (c2 := c2) (j2 := j2) (bad2 := bd2) hbody hmk hmem (fun h => by cases h) (fun _ => by unfold toS; rw [if_pos ⟨hjs, hj45⟩]; exact hmem2)
      have hadv : (bd2 || decide (c2 < c)) = false → k < j2 := fun h => by
          have e : bd2 = false := by cases bd2 with | false => rfl | true => simp at h
          subst e
          have := memS_adv hmem; have := memS_adv hmem2; omega
      refine RL.p rfl rfl ?_
      refine RL.done ?_
      refine RK.seq ?_
      refine RK.region ?_
      iterate 3 refine RL.p rfl rfl ?_
      refine RL.q (.free rfl) rfl rfl (Yld.fieldAddr fo246_2 rfl) ?_
      refine RL.q (.free rfl) rfl rfl (Yld.load p4 rfl (at1 (hP9.cell rfl))) ?_
      refine RL.p rfl rfl ?_
      first | refine RL.splitD (d := 34) rfl rfl (fun h34 => ?_) (fun h34 => ?_) | refine RL.splitN (d := 34) rfl rfl (fun h34 => ?_) (fun h34 => ?_) | refine RL.split (d := 34) rfl rfl (fun h34 => ?_) (fun h34 => ?_)
      · have hbt : (bd2 || decide (c2 < c)) = true := by rw [h34]; rfl
        iterate 3 refine RL.no (.no rfl rfl rfl rfl) rfl rfl ?_
        iterate 2 refine RL.p rfl rfl ?_
        refine RL.q (.free rfl) rfl rfl (Yld.fieldAddr fo246_2 rfl) ?_
        refine RL.op' (.free rfl) rfl (Does.store i4 rfl rfl rfl hP9 (.s (.s .z))) ?_
        rintro _ w10 ⟨hP10', hm10, _⟩
        have hP10 : PA w10 p s j2 (bd2 || decide (c2 < c)) := by rw [hbt]; exact hP10'
        have hB10 := Blk.mod hB9 hm10 (by omega)
        have hM10 := Mod.trans hM9 (hm10.mono fun b _ e => .inl e)
        refine RL.done ?_
        refine RK.seq ?_
        refine RK.region ?_
        refine RL.p rfl rfl ?_
        refine RL.q (.free rfl) rfl rfl (Yld.convI Tryz.underlying5 Tryz.underlying3 rfl) ?_
        refine RL.re (d := 42) rfl rfl (congrArg (Value.int .i64) (wrap_i64 (by omega) (by omega))) ?_
        refine RL.p rfl rfl ?_
        refine RL.done ?_
        refine RK.block ?_
        refine RK.loop (fun d : Nat => [(0, pp p), (2, pp b2), (3, pp b3), (4, .bool no), (7, .int .u8 (c2 : Int)), (8, .int .i64 ((c + d : Nat) : Int))]) (fun d w' => Blk w' b3 177 (wds (partR set c d)) ∧ Mod (· = b3) w10 w' ∧ d ≤ c2 + 1 - c) (fun d => c2 + 1 - c - d) 0 ⟨rfl, rfl, rfl, rfl, rfl, rfl, trivial⟩ ⟨hB10, Mod.refl _ _, by omega⟩ (fun d w11 hI2 ih2 => ?_)
        obtain ⟨hB11, hm11, hd⟩ := hI2
        iterate 2 refine RK.seq ?_
        refine RK.region ?_
        iterate 2 refine RL.p rfl rfl ?_
        refine RL.q (.free rfl) rfl rfl (Yld.convI Tryz.underlying5 Tryz.underlying3 rfl) ?_
        refine RL.re (d := 45) rfl rfl (congrArg (Value.int .i64) (wrap_i64 (by omega) (by omega))) ?_
        refine RL.p rfl rfl ?_
        refine RL.done ?_
        first | refine RK.condD rfl (fun h46 => ?_) (fun h46 => ?_) | refine RK.condN rfl (fun h46 => ?_) (fun h46 => ?_) | refine RK.cond rfl (fun h46 => ?_) (fun h46 => ?_)
        · refine RK.skip ?_
          refine RK.seq ?_
          refine RK.block ?_
          refine RK.region ?_
          refine RL.p rfl rfl ?_
          refine RL.q (.free rfl) rfl rfl (Yld.convI Tryz.underlying3 Tryz.underlying5 rfl) ?_
          refine RL.re (d := 50) rfl rfl (congrArg (Value.int .u8) (Go.X.wrap_u8 (x := c + d) (by omega))) ?_
          refine RL.op (.free rfl) rfl rfl (Does.call rfl e249 (add_set _ b3 (partR set c d) hB11 (partR_w4 hW c d) (c + d) (by omega))) ?_
          rintro _ w12 ⟨rfl, hB12, hm12⟩
          refine RL.done ?_
          refine RK.inBlock ?_
          refine RK.region ?_
          iterate 2 refine RL.p rfl rfl ?_
          refine RL.re (d := 48) rfl rfl (succ_i64 (by omega)) ?_
          refine RL.p rfl rfl ?_
          refine RL.done ?_
          exact RK.back (ih2 (d + 1) _ ⟨by unfold partR; rw [range_snoc]; exact hB12, hm11.trans hm12, by omega⟩ (by omega)) ⟨rfl, rfl, rfl, rfl, rfl, rfl, trivial⟩
        · have hde : d = c2 + 1 - c := by omega
          have hBe : Blk w11 b3 177 (wds (addG set c c2)) := by rw [hde] at hB11; exact hB11
          refine RK.exit rfl ?_
          refine RK.inBlock ?_
          refine RK.region ?_
          refine RL.p rfl rfl ?_
          refine RL.done ?_
          exact RK.back (ih (false, (bd2 || decide (c2 < c)), j2, addG set c c2) _ ⟨hP10.mod hm11 (by omega), hBe, hW.add _ _, hj2, hC9, hM10.trans (hm11.mono fun b _ e => .inr e)⟩ (by
            simp only [Bool.false_eq_true, if_false]
            split
            · omega
            · rename_i hb9
              have := hadv (by simpa using hb9); omega)) ⟨rfl, rfl, rfl, rfl, rfl, trivial⟩
      · have hbt : (bd2 || decide (c2 < c)) = decide ((c2 : Int) < (c : Int)) := by rw [h34]; simp
        iterate 3 refine RL.q (.yes rfl rfl rfl) rfl rfl (Yld.pure rfl) ?_
        iterate 2 refine RL.p rfl rfl ?_
        refine RL.q (.free rfl) rfl rfl (Yld.fieldAddr fo246_2 rfl) ?_
        refine RL.op' (.free rfl) rfl (Does.store i4 rfl rfl rfl hP9 (.s (.s .z))) ?_
        rintro _ w10 ⟨hP10', hm10, _⟩
        have hP10 : PA w10 p s j2 (bd2 || decide (c2 < c)) := by rw [hbt]; exact hP10'
        have hB10 := Blk.mod hB9 hm10 (by omega)
        have hM10 := Mod.trans hM9 (hm10.mono fun b _ e => .inl e)
        refine RL.done ?_
        refine RK.seq ?_
        refine RK.region ?_
        refine RL.p rfl rfl ?_
        refine RL.q (.free rfl) rfl rfl (Yld.convI Tryz.underlying5 Tryz.underlying3 rfl) ?_
        refine RL.re (d := 42) rfl rfl (congrArg (Value.int .i64) (wrap_i64 (by omega) (by omega))) ?_
        refine RL.p rfl rfl ?_
        refine RL.done ?_
        refine RK.block ?_
        refine RK.loop (fun d : Nat => [(0, pp p), (2, pp b2), (3, pp b3), (4, .bool no), (7, .int .u8 (c2 : Int)), (8, .int .i64 ((c + d : Nat) : Int))]) (fun d w' => Blk w' b3 177 (wds (partR set c d)) ∧ Mod (· = b3) w10 w' ∧ d ≤ c2 + 1 - c) (fun d => c2 + 1 - c - d) 0 ⟨rfl, rfl, rfl, rfl, rfl, rfl, trivial⟩ ⟨hB10, Mod.refl _ _, by omega⟩ (fun d w11 hI2 ih2 => ?_)
        obtain ⟨hB11, hm11, hd⟩ := hI2
        iterate 2 refine RK.seq ?_
        refine RK.region ?_
        iterate 2 refine RL.p rfl rfl ?_
        refine RL.q (.free rfl) rfl rfl (Yld.convI Tryz.underlying5 Tryz.underlying3 rfl) ?_
        refine RL.re (d := 45) rfl rfl (congrArg (Value.int .i64) (wrap_i64 (by omega) (by omega))) ?_
        refine RL.p rfl rfl ?_
        refine RL.done ?_
        first | refine RK.condD rfl (fun h46 => ?_) (fun h46 => ?_) | refine RK.condN rfl (fun h46 => ?_) (fun h46 => ?_) | refine RK.cond rfl (fun h46 => ?_) (fun h46 => ?_)
        · refine RK.skip ?_
          refine RK.seq ?_
          refine RK.block ?_
          refine RK.region ?_
          refine RL.p rfl rfl ?_
          refine RL.q (.free rfl) rfl rfl (Yld.convI Tryz.underlying3 Tryz.underlying5 rfl) ?_
          refine RL.re (d := 50) rfl rfl (congrArg (Value.int .u8) (Go.X.wrap_u8 (x := c + d) (by omega))) ?_
          refine RL.op (.free rfl) rfl rfl (Does.call rfl e249 (add_set _ b3 (partR set c d) hB11 (partR_w4 hW c d) (c + d) (by omega))) ?_
          rintro _ w12 ⟨rfl, hB12, hm12⟩
          refine RL.done ?_
          refine RK.inBlock ?_
          refine RK.region ?_
          iterate 2 refine RL.p rfl rfl ?_
          refine RL.re (d := 48) rfl rfl (succ_i64 (by omega)) ?_
          refine RL.p rfl rfl ?_
          refine RL.done ?_
          exact RK.back (ih2 (d + 1) _ ⟨by unfold partR; rw [range_snoc]; exact hB12, hm11.trans hm12, by omega⟩ (by omega)) ⟨rfl, rfl, rfl, rfl, rfl, rfl, trivial⟩
        · have hde : d = c2 + 1 - c := by omega
          have hBe : Blk w11 b3 177 (wds (addG set c c2)) := by rw [hde] at hB11; exact hB11
          refine RK.exit rfl ?_
          refine RK.inBlock ?_
          refine RK.region ?_
          refine RL.p rfl rfl ?_
          refine RL.done ?_
          exact RK.back (ih (false, (bd2 || decide (c2 < c)), j2, addG set c c2) _ ⟨hP10.mod hm11 (by omega), hBe, hW.add _ _, hj2, hC9, hM10.trans (hm11.mono fun b _ e => .inr e)⟩ (by
            simp only [Bool.false_eq_true, if_false]
            split
            · omega
            · rename_i hb9
              have := hadv (by simpa using hb9); omega)) ⟨rfl, rfl, rfl, rfl, rfl, trivial⟩
    · have h26' : seesS s j bd 45 = false := by simpa using h26
      rw [h26'] at hP8
      have hC9 := ClsI.step (c2 := c) (j2 := j) (bad2 := bd) hbody hmk hmem (fun h => h) (fun hb => by unfold toS; rw [if_neg (fun h => by simp [seesS, hb, h] at h26'), hb]; rfl)
      have hadv : (bd || decide (c < c)) = false → k < j := fun h => by
          have e : bd = false := by cases bd with | false => rfl | true => simp at h
          subst e
          have := memS_adv hmem; omega
      have hP8' : PA w8 p s j bd := hP8
      refine RK.skip ?_
      refine RK.seq ?_
      refine RK.region ?_
      iterate 3 refine RL.p rfl rfl ?_
      refine RL.q (.free rfl) rfl rfl (Yld.fieldAddr fo246_2 rfl) ?_
      refine RL.q (.free rfl) rfl rfl (Yld.load p4 rfl (at1 (hP8'.cell rfl))) ?_
      refine RL.p rfl rfl ?_
      first | refine RL.splitD (d := 34) rfl rfl (fun h34 => ?_) (fun h34 => ?_) | refine RL.splitN (d := 34) rfl rfl (fun h34 => ?_) (fun h34 => ?_) | refine RL.split (d := 34) rfl rfl (fun h34 => ?_) (fun h34 => ?_)
      · have hbt : (bd || decide (c < c)) = true := by rw [h34]; rfl
        iterate 3 refine RL.no (.no rfl rfl rfl rfl) rfl rfl ?_
        iterate 2 refine RL.p rfl rfl ?_
        refine RL.q (.free rfl) rfl rfl (Yld.fieldAddr fo246_2 rfl) ?_
        refine RL.op' (.free rfl) rfl (Does.store i4 rfl rfl rfl hP8' (.s (.s .z))) ?_
        rintro _ w10 ⟨hP10', hm10, _⟩
        have hP10 : PA w10 p s j (bd || decide (c < c)) := by rw [hbt]; exact hP10'
        have hB10 := Blk.mod hB8 hm10 (by omega)
        have hM10 := Mod.trans hM8 (hm10.mono fun b _ e => .inl e)
        refine RL.done ?_
        refine RK.seq ?_
        refine RK.region ?_
        refine RL.p rfl rfl ?_
        refine RL.q (.free rfl) rfl rfl (Yld.convI Tryz.underlying5 Tryz.underlying3 rfl) ?_
        refine RL.re (d := 42) rfl rfl (congrArg (Value.int .i64) (wrap_i64 (by omega) (by omega))) ?_
        refine RL.p rfl rfl ?_
        refine RL.done ?_
        refine RK.block ?_
        refine RK.loop (fun d : Nat => [(0, pp p), (2, pp b2), (3, pp b3), (4, .bool no), (7, .int .u8 (c : Int)), (8, .int .i64 ((c + d : Nat) : Int))]) (fun d w' => Blk w' b3 177 (wds (partR set c d)) ∧ Mod (· = b3) w10 w' ∧ d ≤ c + 1 - c) (fun d => c + 1 - c - d) 0 ⟨rfl, rfl, rfl, rfl, rfl, rfl, trivial⟩ ⟨hB10, Mod.refl _ _, by omega⟩ (fun d w11 hI2 ih2 => ?_)
        obtain ⟨hB11, hm11, hd⟩ := hI2
        iterate 2 refine RK.seq ?_
        refine RK.region ?_
        iterate 2 refine RL.p rfl rfl ?_
        refine RL.q (.free rfl) rfl rfl (Yld.convI Tryz.underlying5 Tryz.underlying3 rfl) ?_
        refine RL.re (d := 45) rfl rfl (congrArg (Value.int .i64) (wrap_i64 (by omega) (by omega))) ?_
        refine RL.p rfl rfl ?_
        refine RL.done ?_
        first | refine RK.condD rfl (fun h46 => ?_) (fun h46 => ?_) | refine RK.condN rfl (fun h46 => ?_) (fun h46 => ?_) | refine RK.cond rfl (fun h46 => ?_) (fun h46 => ?_)
        · refine RK.skip ?_
          refine RK.seq ?_
          refine RK.block ?_
          refine RK.region ?_
          refine RL.p rfl rfl ?_
          refine RL.q (.free rfl) rfl rfl (Yld.convI Tryz.underlying3 Tryz.underlying5 rfl) ?_
          refine RL.re (d := 50) rfl rfl (congrArg (Value.int .u8) (Go.X.wrap_u8 (x := c + d) (by omega))) ?_
          refine RL.op (.free rfl) rfl rfl (Does.call rfl e249 (add_set _ b3 (partR set c d) hB11 (partR_w4 hW c d) (c + d) (by omega))) ?_
          rintro _ w12 ⟨rfl, hB12, hm12⟩
          refine RL.done ?_
          refine RK.inBlock ?_
          refine RK.region ?_
          iterate 2 refine RL.p rfl rfl ?_
          refine RL.re (d := 48) rfl rfl (succ_i64 (by omega)) ?_
          refine RL.p rfl rfl ?_
          refine RL.done ?_
          exact RK.back (ih2 (d + 1) _ ⟨by unfold partR; rw [range_snoc]; exact hB12, hm11.trans hm12, by omega⟩ (by omega)) ⟨rfl, rfl, rfl, rfl, rfl, rfl, trivial⟩
        · have hde : d = c + 1 - c := by omega
          have hBe : Blk w11 b3 177 (wds (addG set c c)) := by rw [hde] at hB11; exact hB11
          refine RK.exit rfl ?_
          refine RK.inBlock ?_
          refine RK.region ?_
          refine RL.p rfl rfl ?_
          refine RL.done ?_
          exact RK.back (ih (false, (bd || decide (c < c)), j, addG set c c) _ ⟨hP10.mod hm11 (by omega), hBe, hW.add _ _, hj, hC9, hM10.trans (hm11.mono fun b _ e => .inr e)⟩ (by
            simp only [Bool.false_eq_true, if_false]
            split
            · omega
            · rename_i hb9
              have := hadv (by simpa using hb9); omega)) ⟨rfl, rfl, rfl, rfl, rfl, trivial⟩
      · have hbt : (bd || decide (c < c)) = decide ((c : Int) < (c : Int)) := by rw [h34]; simp
        iterate 3 refine RL.q (.yes rfl rfl rfl) rfl rfl (Yld.pure rfl) ?_
        iterate 2 refine RL.p rfl rfl ?_
        refine RL.q (.free rfl) rfl rfl (Yld.fieldAddr fo246_2 rfl) ?_
        refine RL.op' (.free rfl) rfl (Does.store i4 rfl rfl rfl hP8' (.s (.s .z))) ?_
        rintro _ w10 ⟨hP10', hm10, _⟩
        have hP10 : PA w10 p s j (bd || decide (c < c)) := by rw [hbt]; exact hP10'
        have hB10 := Blk.mod hB8 hm10 (by omega)
        have hM10 := Mod.trans hM8 (hm10.mono fun b _ e => .inl e)
        refine RL.done ?_
        refine RK.seq ?_
        refine RK.region ?_
        refine RL.p rfl rfl ?_
        refine RL.q (.free rfl) rfl rfl (Yld.convI Tryz.underlying5 Tryz.underlying3 rfl) ?_
        refine RL.re (d := 42) rfl rfl (congrArg (Value.int .i64) (wrap_i64 (by omega) (by omega))) ?_
        refine RL.p rfl rfl ?_
        refine RL.done ?_
        refine RK.block ?_
        refine RK.loop (fun d : Nat => [(0, pp p), (2, pp b2), (3, pp b3), (4, .bool no), (7, .int .u8 (c : Int)), (8, .int .i64 ((c + d : Nat) : Int))]) (fun d w' => Blk w' b3 177 (wds (partR set c d)) ∧ Mod (· = b3) w10 w' ∧ d ≤ c + 1 - c) (fun d => c + 1 - c - d) 0 ⟨rfl, rfl, rfl, rfl, rfl, rfl, trivial⟩ ⟨hB10, Mod.refl _ _, by omega⟩ (fun d w11 hI2 ih2 => ?_)
        obtain ⟨hB11, hm11, hd⟩ := hI2
        iterate 2 refine RK.seq ?_
        refine RK.region ?_
        iterate 2 refine RL.p rfl rfl ?_
        refine RL.q (.free rfl) rfl rfl (Yld.convI Tryz.underlying5 Tryz.underlying3 rfl) ?_
        refine RL.re (d := 45) rfl rfl (congrArg (Value.int .i64) (wrap_i64 (by omega) (by omega))) ?_
        refine RL.p rfl rfl ?_
        refine RL.done ?_
        first | refine RK.condD rfl (fun h46 => ?_) (fun h46 => ?_) | refine RK.condN rfl (fun h46 => ?_) (fun h46 => ?_) | refine RK.cond rfl (fun h46 => ?_) (fun h46 => ?_)
        · refine RK.skip ?_
          refine RK.seq ?_
          refine RK.block ?_
          refine RK.region ?_
          refine RL.p rfl rfl ?_
          refine RL.q (.free rfl) rfl rfl (Yld.convI Tryz.underlying3 Tryz.underlying5 rfl) ?_
          refine RL.re (d := 50) rfl rfl (congrArg (Value.int .u8) (Go.X.wrap_u8 (x := c + d) (by omega))) ?_
          refine RL.op (.free rfl) rfl rfl (Does.call rfl e249 (add_set _ b3 (partR set c d) hB11 (partR_w4 hW c d) (c + d) (by omega))) ?_
          rintro _ w12 ⟨rfl, hB12, hm12⟩
          refine RL.done ?_
          refine RK.inBlock ?_
          refine RK.region ?_
          iterate 2 refine RL.p rfl rfl ?_
          refine RL.re (d := 48) rfl rfl (succ_i64 (by omega)) ?_
          refine RL.p rfl rfl ?_
          refine RL.done ?_
          exact RK.back (ih2 (d + 1) _ ⟨by unfold partR; rw [range_snoc]; exact hB12, hm11.trans hm12, by omega⟩ (by omega)) ⟨rfl, rfl, rfl, rfl, rfl, rfl, trivial⟩
        · have hde : d = c + 1 - c := by omega
          have hBe : Blk w11 b3 177 (wds (addG set c c)) := by rw [hde] at hB11; exact hB11
          refine RK.exit rfl ?_
          refine RK.inBlock ?_
          refine RK.region ?_
          refine RL.p rfl rfl ?_
          refine RL.done ?_
          exact RK.back (ih (false, (bd || decide (c < c)), j, addG set c c) _ ⟨hP10.mod hm11 (by omega), hBe, hW.add _ _, hj, hC9, hM10.trans (hm11.mono fun b _ e => .inr e)⟩ (by
            simp only [Bool.false_eq_true, if_false]
            split
            · omega
            · rename_i hb9
              have := hadv (by simpa using hb9); omega)) ⟨rfl, rfl, rfl, rfl, rfl, trivial⟩
  · have h12' : first = false := h12
    subst h12'
    refine RL.q (.yes rfl rfl rfl) rfl rfl (Yld.pure rfl) ?_
    refine RL.op (.yes rfl rfl rfl) rfl rfl (Does.call rfl e233 (over_ok _ p s k bad hP)) ?_
    rintro _ w5 ⟨rfl, hg5⟩
    have hPo := hP.mod hg5 (fun h => h)
    have hBo := hB.mod hg5 (fun h => h)
    have hmo : Mod (fun b => b = p ∨ b = b3) w2 w5 := hm.trans (Mod.any' hg5)
    iterate 2 refine RL.q (.yes rfl rfl rfl) rfl rfl (Yld.pure rfl) ?_
    first | refine RL.splitD (d := 16) rfl rfl (fun h16 => ?_) (fun h16 => ?_) | refine RL.splitN (d := 16) rfl rfl (fun h16 => ?_) (fun h16 => ?_) | refine RL.split (d := 16) rfl rfl (fun h16 => ?_) (fun h16 => ?_)
    · have h16' : bad = false ∧ k < s.size := by simpa using h16
      obtain ⟨hbad, hks⟩ := h16'
      subst hbad
      refine RL.q (.yes rfl rfl rfl) rfl rfl (Yld.pure rfl) ?_
      refine RL.op (.yes rfl rfl rfl) rfl rfl (Does.call rfl e234 (sees_ok _ p s k false hPo 93)) ?_
      rintro _ w6 ⟨rfl, hg6⟩
      have hPe := hPo.mod hg6 (fun h => h)
      have hBe := hBo.mod hg6 (fun h => h)
      have hme : Mod (fun b => b = p ∨ b = b3) w2 w6 := hmo.trans (Mod.any' hg6)
      obtain ⟨n, hn, hnk⟩ := hC.go rfl rfl
      iterate 2 refine RL.q (.yes rfl rfl rfl) rfl rfl (Yld.pure rfl) ?_
      refine RL.p rfl rfl ?_
      refine RL.done ?_
      first | refine RK.condD rfl (fun h21 => ?_) (fun h21 => ?_) | refine RK.condN rfl (fun h21 => ?_) (fun h21 => ?_) | refine RK.cond rfl (fun h21 => ?_) (fun h21 => ?_)
      · have h93 : b8 s k ≠ 93 := by simpa [seesS, hks] using h21
        obtain ⟨m, rfl⟩ : ∃ m, n = m + 1 := ⟨n - 1, by omega⟩
        have hbody := (body_go hks h93).symm.trans hn
        have hmk : s.size ≤ m + k := by omega
        refine RK.skip ?_
        refine RK.seq ?_
        refine RK.block ?_
        refine RK.seq ?_
        refine RK.region ?_
        refine RL.p rfl rfl ?_
        refine RL.op (.free rfl) rfl rfl (Does.call rfl e252 (member_ok' _ p s k hPe hk hs)) ?_
        rintro _ w7 ⟨c, j, bd, rfl, hc, hj, hP7, hmem, hm7⟩
        have hB7 := Blk.mod hBe hm7 (by omega)
        have hM7 := Mod.trans hme (hm7.mono fun b _ e => .inl e)
        refine RL.p rfl rfl ?_
        refine RL.done ?_
        refine RK.seq ?_
        refine RK.region ?_
        iterate 2 refine RL.p rfl rfl ?_
        refine RL.done ?_
        iterate 2 refine RK.seq ?_
        refine RK.region ?_
        refine RL.p rfl rfl ?_
        refine RL.op (.free rfl) rfl rfl (Does.call rfl e218 (next_ok _ p s j bd hP7 (by omega) 45)) ?_
        rintro _ w8 ⟨rfl, hP8, hm8⟩
        have hB8 := hB7.mod hm8 (by omega)
        have hM8 := Mod.trans hM7 (hm8.mono fun b _ e => .inl e)
        refine RL.done ?_
        first | refine RK.condD rfl (fun h26 => ?_) (fun h26 => ?_) | refine RK.condN rfl (fun h26 => ?_) (fun h26 => ?_) | refine RK.cond rfl (fun h26 => ?_) (fun h26 => ?_)
        · have h9 : bd = false ∧ j < s.size ∧ b8 s j = 45 := by simpa [seesS] using h26
          obtain ⟨hbd, hjs, hj45⟩ := h9
          subst hbd
          rw [h26] at hP8
          refine RK.region ?_
          refine RL.p rfl rfl ?_
          refine RL.op (.free rfl) rfl rfl (Does.call rfl e252 (member_ok' _ p s (j + 1) hP8 (by omega) hs)) ?_
          rintro _ w9 ⟨c2, j2, bd2, rfl, hc2, hj2, hP9, hmem2, hm9⟩
          have hB9 := hB8.mod hm9 (by omega)
          have hM9 := Mod.trans hM8 (hm9.mono fun b _ e => .inl e)
          have hC9 := ClsI.step (c2 := c2) (j2 := j2) (bad2 := bd2) hbody hmk hmem (fun h => by cases h) (fun _ => by unfold toS; rw [if_pos ⟨hjs, hj45⟩]; exact hmem2)
          have hadv : (bd2 || decide (c2 < c)) = false → k < j2 := fun h => by
              have e : bd2 = false := by cases bd2 with | false => rfl | true => simp at h
              subst e
              have := memS_adv hmem; have := memS_adv hmem2; omega
          refine RL.p rfl rfl ?_
          refine RL.done ?_
          refine RK.seq ?_
          refine RK.region ?_
          iterate 3 refine RL.p rfl rfl ?_
          refine RL.q (.free rfl) rfl rfl (Yld.fieldAddr fo246_2 rfl) ?_
          refine RL.q (.free rfl) rfl rfl (Yld.load p4 rfl (at1 (hP9.cell rfl))) ?_
          refine RL.p rfl rfl ?_
          first | refine RL.splitD (d := 34) rfl rfl (fun h34 => ?_) (fun h34 => ?_) | refine RL.splitN (d := 34) rfl rfl (fun h34 => ?_) (fun h34 => ?_) | refine RL.split (d := 34) rfl rfl (fun h34 => ?_) (fun h34 => ?_)
          · have hbt : (bd2 || decide (c2 < c)) = true := by rw [h34]; rfl
            iterate 3 refine RL.no (.no rfl rfl rfl rfl) rfl rfl ?_
            iterate 2 refine RL.p rfl rfl ?_
            refine RL.q (.free rfl) rfl rfl (Yld.fieldAddr fo246_2 rfl) ?_
            refine RL.op' (.free rfl) rfl (Does.store i4 rfl rfl rfl hP9 (.s (.s .z))) ?_
            rintro _ w10 ⟨hP10', hm10, _⟩
            have hP10 : PA w10 p s j2 (bd2 || decide (c2 < c)) := by rw [hbt]; exact hP10'
            have hB10 := Blk.mod hB9 hm10 (by omega)
            have hM10 := Mod.trans hM9 (hm10.mono fun b _ e => .inl e)
            refine RL.done ?_
            refine RK.seq ?_
            refine RK.region ?_
            refine RL.p rfl rfl ?_
            refine RL.q (.free rfl) rfl rfl (Yld.convI Tryz.underlying5 Tryz.underlying3 rfl) ?_
            refine RL.re (d := 42) rfl rfl (congrArg (Value.int .i64) (wrap_i64 (by omega) (by omega))) ?_
            refine RL.p rfl rfl ?_
            refine RL.done ?_
            refine RK.block ?_
            refine RK.loop (fun d : Nat => [(0, pp p), (2, pp b2), (3, pp b3), (4, .bool no), (7, .int .u8 (c2 : Int)), (8, .int .i64 ((c + d : Nat) : Int))]) (fun d w' => Blk w' b3 177 (wds (partR set c d)) ∧ Mod (· = b3) w10 w' ∧ d ≤ c2 + 1 - c) (fun d => c2 + 1 - c - d) 0 ⟨rfl, rfl, rfl, rfl, rfl, rfl, trivial⟩ ⟨hB10, Mod.refl _ _, by omega⟩ (fun d w11 hI2 ih2 => ?_)
            obtain ⟨hB11, hm11, hd⟩ := hI2
            iterate 2 refine RK.seq ?_
            refine RK.region ?_
            iterate 2 refine RL.p rfl rfl ?_
            refine RL.q (.free rfl) rfl rfl (Yld.convI Tryz.underlying5 Tryz.underlying3 rfl) ?_
            refine RL.re (d := 45) rfl rfl (congrArg (Value.int .i64) (wrap_i64 (by omega) (by omega))) ?_
            refine RL.p rfl rfl ?_
            refine RL.done ?_
            first | refine RK.condD rfl (fun h46 => ?_) (fun h46 => ?_) | refine RK.condN rfl (fun h46 => ?_) (fun h46 => ?_) | refine RK.cond rfl (fun h46 => ?_) (fun h46 => ?_)
            · refine RK.skip ?_
              refine RK.seq ?_
              refine RK.block ?_
              refine RK.region ?_
              refine RL.p rfl rfl ?_
              refine RL.q (.free rfl) rfl rfl (Yld.convI Tryz.underlying3 Tryz.underlying5 rfl) ?_
              refine RL.re (d := 50) rfl rfl (congrArg (Value.int .u8) (Go.X.wrap_u8 (x := c + d) (by omega))) ?_
              refine RL.op (.free rfl) rfl rfl (Does.call rfl e249 (add_set _ b3 (partR set c d) hB11 (partR_w4 hW c d) (c + d) (by omega))) ?_
              rintro _ w12 ⟨rfl, hB12, hm12⟩
              refine RL.done ?_
              refine RK.inBlock ?_
              refine RK.region ?_
              iterate 2 refine RL.p rfl rfl ?_
              refine RL.re (d := 48) rfl rfl (succ_i64 (by omega)) ?_
              refine RL.p rfl rfl ?_
              refine RL.done ?_
              exact RK.back (ih2 (d + 1) _ ⟨by unfold partR; rw [range_snoc]; exact hB12, hm11.trans hm12, by omega⟩ (by omega)) ⟨rfl, rfl, rfl, rfl, rfl, rfl, trivial⟩
            · have hde : d = c2 + 1 - c := by omega
              have hBe : Blk w11 b3 177 (wds (addG set c c2)) := by rw [hde] at hB11; exact hB11
              refine RK.exit rfl ?_
              refine RK.inBlock ?_
              refine RK.region ?_
              refine RL.p rfl rfl ?_
              refine RL.done ?_
              exact RK.back (ih (false, (bd2 || decide (c2 < c)), j2, addG set c c2) _ ⟨hP10.mod hm11 (by omega), hBe, hW.add _ _, hj2, hC9, hM10.trans (hm11.mono fun b _ e => .inr e)⟩ (by
                simp only [Bool.false_eq_true, if_false]
                split
                · omega
                · rename_i hb9
                  have := hadv (by simpa using hb9); omega)) ⟨rfl, rfl, rfl, rfl, rfl, trivial⟩
          · have hbt : (bd2 || decide (c2 < c)) = decide ((c2 : Int) < (c : Int)) := by rw [h34]; simp
            iterate 3 refine RL.q (.yes rfl rfl rfl) rfl rfl (Yld.pure rfl) ?_
            iterate 2 refine RL.p rfl rfl ?_
            refine RL.q (.free rfl) rfl rfl (Yld.fieldAddr fo246_2 rfl) ?_
            refine RL.op' (.free rfl) rfl (Does.store i4 rfl rfl rfl hP9 (.s (.s .z))) ?_
            rintro _ w10 ⟨hP10', hm10, _⟩
            have hP10 : PA w10 p s j2 (bd2 || decide (c2 < c)) := by rw [hbt]; exact hP10'
            have hB10 := Blk.mod hB9 hm10 (by omega)
            have hM10 := Mod.trans hM9 (hm10.mono fun b _ e => .inl e)
            refine RL.done ?_
            refine RK.seq ?_
            refine RK.region ?_
            refine RL.p rfl rfl ?_
            refine RL.q (.free rfl) rfl rfl (Yld.convI Tryz.underlying5 Tryz.underlying3 rfl) ?_
            refine RL.re (d := 42) rfl rfl (congrArg (Value.int .i64) (wrap_i64 (by omega) (by omega))) ?_
            refine RL.p rfl rfl ?_
            refine RL.done ?_
            refine RK.block ?_
            refine RK.loop (fun d : Nat => [(0, pp p), (2, pp b2), (3, pp b3), (4, .bool no), (7, .int .u8 (c2 : Int)), (8, .int .i64 ((c + d : Nat) : Int))]) (fun d w' => Blk w' b3 177 (wds (partR set c d)) ∧ Mod (· = b3) w10 w' ∧ d ≤ c2 + 1 - c) (fun d => c2 + 1 - c - d) 0 ⟨rfl, rfl, rfl, rfl, rfl, rfl, trivial⟩ ⟨hB10, Mod.refl _ _, by omega⟩ (fun d w11 hI2 ih2 => ?_)
            obtain ⟨hB11, hm11, hd⟩ := hI2
            iterate 2 refine RK.seq ?_
            refine RK.region ?_
            iterate 2 refine RL.p rfl rfl ?_
            refine RL.q (.free rfl) rfl rfl (Yld.convI Tryz.underlying5 Tryz.underlying3 rfl) ?_
            refine RL.re (d := 45) rfl rfl (congrArg (Value.int .i64) (wrap_i64 (by omega) (by omega))) ?_
            refine RL.p rfl rfl ?_
            refine RL.done ?_
            first | refine RK.condD rfl (fun h46 => ?_) (fun h46 => ?_) | refine RK.condN rfl (fun h46 => ?_) (fun h46 => ?_) | refine RK.cond rfl (fun h46 => ?_) (fun h46 => ?_)
            · refine RK.skip ?_
              refine RK.seq ?_
              refine RK.block ?_
              refine RK.region ?_
              refine RL.p rfl rfl ?_
              refine RL.q (.free rfl) rfl rfl (Yld.convI Tryz.underlying3 Tryz.underlying5 rfl) ?_
              refine RL.re (d := 50) rfl rfl (congrArg (Value.int .u8) (Go.X.wrap_u8 (x := c + d) (by omega))) ?_
              refine RL.op (.free rfl) rfl rfl (Does.call rfl e249 (add_set _ b3 (partR set c d) hB11 (partR_w4 hW c d) (c + d) (by omega))) ?_
              rintro _ w12 ⟨rfl, hB12, hm12⟩
              refine RL.done ?_
              refine RK.inBlock ?_
              refine RK.region ?_
              iterate 2 refine RL.p rfl rfl ?_
              refine RL.re (d := 48) rfl rfl (succ_i64 (by omega)) ?_
              refine RL.p rfl rfl ?_
              refine RL.done ?_
              exact RK.back (ih2 (d + 1) _ ⟨by unfold partR; rw [range_snoc]; exact hB12, hm11.trans hm12, by omega⟩ (by omega)) ⟨rfl, rfl, rfl, rfl, rfl, rfl, trivial⟩
            · have hde : d = c2 + 1 - c := by omega
              have hBe : Blk w11 b3 177 (wds (addG set c c2)) := by rw [hde] at hB11; exact hB11
              refine RK.exit rfl ?_
              refine RK.inBlock ?_
              refine RK.region ?_
              refine RL.p rfl rfl ?_
              refine RL.done ?_
              exact RK.back (ih (false, (bd2 || decide (c2 < c)), j2, addG set c c2) _ ⟨hP10.mod hm11 (by omega), hBe, hW.add _ _, hj2, hC9, hM10.trans (hm11.mono fun b _ e => .inr e)⟩ (by
                simp only [Bool.false_eq_true, if_false]
                split
                · omega
                · rename_i hb9
                  have := hadv (by simpa using hb9); omega)) ⟨rfl, rfl, rfl, rfl, rfl, trivial⟩
        · have h26' : seesS s j bd 45 = false := by simpa using h26
          rw [h26'] at hP8
          have hC9 := ClsI.step (c2 := c) (j2 := j) (bad2 := bd) hbody hmk hmem (fun h => h) (fun hb => by unfold toS; rw [if_neg (fun h => by simp [seesS, hb, h] at h26'), hb]; rfl)
          have hadv : (bd || decide (c < c)) = false → k < j := fun h => by
              have e : bd = false := by cases bd with | false => rfl | true => simp at h
              subst e
              have := memS_adv hmem; omega
          have hP8' : PA w8 p s j bd := hP8
          refine RK.skip ?_
          refine RK.seq ?_
          refine RK.region ?_
          iterate 3 refine RL.p rfl rfl ?_
          refine RL.q (.free rfl) rfl rfl (Yld.fieldAddr fo246_2 rfl) ?_
          refine RL.q (.free rfl) rfl rfl (Yld.load p4 rfl (at1 (hP8'.cell rfl))) ?_
          refine RL.p rfl rfl ?_
          first | refine RL.splitD (d := 34) rfl rfl (fun h34 => ?_) (fun h34 => ?_) | refine RL.splitN (d := 34) rfl rfl (fun h34 => ?_) (fun h34 => ?_) | refine RL.split (d := 34) rfl rfl (fun h34 => ?_) (fun h34 => ?_)
          · have hbt : (bd || decide (c < c)) = true := by rw [h34]; rfl
            iterate 3 refine RL.no (.no rfl rfl rfl rfl) rfl rfl ?_
            iterate 2 refine RL.p rfl rfl ?_
            refine RL.q (.free rfl) rfl rfl (Yld.fieldAddr fo246_2 rfl) ?_
            refine RL.op' (.free rfl) rfl (Does.store i4 rfl rfl rfl hP8' (.s (.s .z))) ?_
            rintro _ w10 ⟨hP10', hm10, _⟩
            have hP10 : PA w10 p s j (bd || decide (c < c)) := by rw [hbt]; exact hP10'
            have hB10 := Blk.mod hB8 hm10 (by omega)
            have hM10 := Mod.trans hM8 (hm10.mono fun b _ e => .inl e)
            refine RL.done ?_
            refine RK.seq ?_
            refine RK.region ?_
            refine RL.p rfl rfl ?_
            refine RL.q (.free rfl) rfl rfl (Yld.convI Tryz.underlying5 Tryz.underlying3 rfl) ?_
            refine RL.re (d := 42) rfl rfl (congrArg (Value.int .i64) (wrap_i64 (by omega) (by omega))) ?_
            refine RL.p rfl rfl ?_
            refine RL.done ?_
            refine RK.block ?_
            refine RK.loop (fun d : Nat => [(0, pp p), (2, pp b2), (3, pp b3), (4, .bool no), (7, .int .u8 (c : Int)), (8, .int .i64 ((c + d : Nat) : Int))]) (fun d w' => Blk w' b3 177 (wds (partR set c d)) ∧ Mod (· = b3) w10 w' ∧ d ≤ c + 1 - c) (fun d => c + 1 - c - d) 0 ⟨rfl, rfl, rfl, rfl, rfl, rfl, trivial⟩ ⟨hB10, Mod.refl _ _, by omega⟩ (fun d w11 hI2 ih2 => ?_)
            obtain ⟨hB11, hm11, hd⟩ := hI2
            iterate 2 refine RK.seq ?_
            refine RK.region ?_
            iterate 2 refine RL.p rfl rfl ?_
            refine RL.q (.free rfl) rfl rfl (Yld.convI Tryz.underlying5 Tryz.underlying3 rfl) ?_
            refine RL.re (d := 45) rfl rfl (congrArg (Value.int .i64) (wrap_i64 (by omega) (by omega))) ?_
            refine RL.p rfl rfl ?_
            refine RL.done ?_
            first | refine RK.condD rfl (fun h46 => ?_) (fun h46 => ?_) | refine RK.condN rfl (fun h46 => ?_) (fun h46 => ?_) | refine RK.cond rfl (fun h46 => ?_) (fun h46 => ?_)
            · refine RK.skip ?_
              refine RK.seq ?_
              refine RK.block ?_
              refine RK.region ?_
              refine RL.p rfl rfl ?_
              refine RL.q (.free rfl) rfl rfl (Yld.convI Tryz.underlying3 Tryz.underlying5 rfl) ?_
              refine RL.re (d := 50) rfl rfl (congrArg (Value.int .u8) (Go.X.wrap_u8 (x := c + d) (by omega))) ?_
              refine RL.op (.free rfl) rfl rfl (Does.call rfl e249 (add_set _ b3 (partR set c d) hB11 (partR_w4 hW c d) (c + d) (by omega))) ?_
              rintro _ w12 ⟨rfl, hB12, hm12⟩
              refine RL.done ?_
              refine RK.inBlock ?_
              refine RK.region ?_
              iterate 2 refine RL.p rfl rfl ?_
              refine RL.re (d := 48) rfl rfl (succ_i64 (by omega)) ?_
              refine RL.p rfl rfl ?_
              refine RL.done ?_
              exact RK.back (ih2 (d + 1) _ ⟨by unfold partR; rw [range_snoc]; exact hB12, hm11.trans hm12, by omega⟩ (by omega)) ⟨rfl, rfl, rfl, rfl, rfl, rfl, trivial⟩
            · have hde : d = c + 1 - c := by omega
              have hBe : Blk w11 b3 177 (wds (addG set c c)) := by rw [hde] at hB11; exact hB11
              refine RK.exit rfl ?_
              refine RK.inBlock ?_
              refine RK.region ?_
              refine RL.p rfl rfl ?_
              refine RL.done ?_
              exact RK.back (ih (false, (bd || decide (c < c)), j, addG set c c) _ ⟨hP10.mod hm11 (by omega), hBe, hW.add _ _, hj, hC9, hM10.trans (hm11.mono fun b _ e => .inr e)⟩ (by
                simp only [Bool.false_eq_true, if_false]
                split
                · omega
                · rename_i hb9
                  have := hadv (by simpa using hb9); omega)) ⟨rfl, rfl, rfl, rfl, rfl, trivial⟩
          · have hbt : (bd || decide (c < c)) = decide ((c : Int) < (c : Int)) := by rw [h34]; simp
            iterate 3 refine RL.q (.yes rfl rfl rfl) rfl rfl (Yld.pure rfl) ?_
            iterate 2 refine RL.p rfl rfl ?_
            refine RL.q (.free rfl) rfl rfl (Yld.fieldAddr fo246_2 rfl) ?_
            refine RL.op' (.free rfl) rfl (Does.store i4 rfl rfl rfl hP8' (.s (.s .z))) ?_
            rintro _ w10 ⟨hP10', hm10, _⟩
            have hP10 : PA w10 p s j (bd || decide (c < c)) := by rw [hbt]; exact hP10'
            have hB10 := Blk.mod hB8 hm10 (by omega)
            have hM10 := Mod.trans hM8 (hm10.mono fun b _ e => .inl e)
            refine RL.done ?_
            refine RK.seq ?_
            refine RK.region ?_
            refine RL.p rfl rfl ?_
            refine RL.q (.free rfl) rfl rfl (Yld.convI Tryz.underlying5 Tryz.underlying3 rfl) ?_
            refine RL.re (d := 42) rfl rfl (congrArg (Value.int .i64) (wrap_i64 (by omega) (by omega))) ?_
            refine RL.p rfl rfl ?_
            refine RL.done ?_
            refine RK.block ?_
            refine RK.loop (fun d : Nat => [(0, pp p), (2, pp b2), (3, pp b3), (4, .bool no), (7, .int .u8 (c : Int)), (8, .int .i64 ((c + d : Nat) : Int))]) (fun d w' => Blk w' b3 177 (wds (partR set c d)) ∧ Mod (· = b3) w10 w' ∧ d ≤ c + 1 - c) (fun d => c + 1 - c - d) 0 ⟨rfl, rfl, rfl, rfl, rfl, rfl, trivial⟩ ⟨hB10, Mod.refl _ _, by omega⟩ (fun d w11 hI2 ih2 => ?_)
            obtain ⟨hB11, hm11, hd⟩ := hI2
            iterate 2 refine RK.seq ?_
            refine RK.region ?_
            iterate 2 refine RL.p rfl rfl ?_
            refine RL.q (.free rfl) rfl rfl (Yld.convI Tryz.underlying5 Tryz.underlying3 rfl) ?_
            refine RL.re (d := 45) rfl rfl (congrArg (Value.int .i64) (wrap_i64 (by omega) (by omega))) ?_
            refine RL.p rfl rfl ?_
            refine RL.done ?_
            first | refine RK.condD rfl (fun h46 => ?_) (fun h46 => ?_) | refine RK.condN rfl (fun h46 => ?_) (fun h46 => ?_) | refine RK.cond rfl (fun h46 => ?_) (fun h46 => ?_)
            · refine RK.skip ?_
              refine RK.seq ?_
              refine RK.block ?_
              refine RK.region ?_
              refine RL.p rfl rfl ?_
              refine RL.q (.free rfl) rfl rfl (Yld.convI Tryz.underlying3 Tryz.underlying5 rfl) ?_
              refine RL.re (d := 50) rfl rfl (congrArg (Value.int .u8) (Go.X.wrap_u8 (x := c + d) (by omega))) ?_
              refine RL.op (.free rfl) rfl rfl (Does.call rfl e249 (add_set _ b3 (partR set c d) hB11 (partR_w4 hW c d) (c + d) (by omega))) ?_
              rintro _ w12 ⟨rfl, hB12, hm12⟩
              refine RL.done ?_
              refine RK.inBlock ?_
              refine RK.region ?_
              iterate 2 refine RL.p rfl rfl ?_
              refine RL.re (d := 48) rfl rfl (succ_i64 (by omega)) ?_
              refine RL.p rfl rfl ?_
              refine RL.done ?_
              exact RK.back (ih2 (d + 1) _ ⟨by unfold partR; rw [range_snoc]; exact hB12, hm11.trans hm12, by omega⟩ (by omega)) ⟨rfl, rfl, rfl, rfl, rfl, rfl, trivial⟩
            · have hde : d = c + 1 - c := by omega
              have hBe : Blk w11 b3 177 (wds (addG set c c)) := by rw [hde] at hB11; exact hB11
              refine RK.exit rfl ?_
              refine RK.inBlock ?_
              refine RK.region ?_
              refine RL.p rfl rfl ?_
              refine RL.done ?_
              exact RK.back (ih (false, (bd || decide (c < c)), j, addG set c c) _ ⟨hP10.mod hm11 (by omega), hBe, hW.add _ _, hj, hC9, hM10.trans (hm11.mono fun b _ e => .inr e)⟩ (by
                simp only [Bool.false_eq_true, if_false]
                split
                · omega
                · rename_i hb9
                  have := hadv (by simpa using hb9); omega)) ⟨rfl, rfl, rfl, rfl, rfl, trivial⟩
      · have h93 : b8 s k = 93 := by simpa [seesS, hks] using h21
        obtain ⟨m, rfl⟩ : ∃ m, n = m + 1 := ⟨n - 1, by omega⟩
        have hTe : T = some (set, k + 1) := by rw [← hn, clsL, if_pos hks, if_pos h93]
        have hsee : seesS s k false 93 = true := by simp [seesS, hks, h93]
        refine RK.exit rfl ?_
        refine RK.seq ?_
        refine RK.region ?_
        iterate 2 refine RL.p rfl rfl ?_
        refine RL.op (.free rfl) rfl rfl (Does.call rfl e218 (next_ok _ p s k false hPe (by omega) 93)) ?_
        rintro _ w7 ⟨rfl, hP7, hm7⟩
        rw [hsee] at hP7 ⊢
        iterate 2 refine RL.p rfl rfl ?_
        refine RL.knownF (d := 56) rfl rfl (rfl) ?_
        iterate 2 refine RL.q (.yes rfl rfl rfl) rfl rfl (Yld.pure rfl) ?_
        refine RL.q (.yes rfl rfl rfl) rfl rfl (Yld.fieldAddr fo246_2 rfl) ?_
        refine RL.q (.yes rfl rfl rfl) rfl rfl (Yld.load p4 rfl (at1 (hP7.cell rfl))) ?_
        iterate 2 refine RL.p rfl rfl ?_
        refine RL.q (.free rfl) rfl rfl (Yld.fieldAddr fo246_2 rfl) ?_
        refine RL.op' (.free rfl) rfl (Does.store i4 rfl rfl rfl hP7 (.s (.s .z))) ?_
        rintro _ w8 ⟨hP8, hm8, _⟩
        have hB8 : Blk w8 b3 177 (wds set) := (Blk.mod hBe hm7 (by omega)).mod hm8 (by omega)
        have hP8' : PA w8 p s (k + 1) false := hP8
        have hM8 : Mod (fun b => b = p ∨ b = b3) w2 w8 := (Mod.trans hme (hm7.mono fun b _ e => .inl e)).trans (hm8.mono fun b _ e => .inl e)
        have hR8 := (hn2.blk.mod hn3.grow (fun h => h)).mod hM8 (by omega)
        obtain ⟨x0, x1, x2, x3, rfl⟩ : ∃ x0 x1 x2 x3, set = [x0, x1, x2, x3] := by
            obtain ⟨h4, _⟩ := hW
            match set, h4 with
            | [x0, x1, x2, x3], _ => exact ⟨x0, x1, x2, x3, rfl⟩
        refine RL.done ?_
        iterate 2 refine RK.seq ?_
        refine RK.region ?_
        refine RL.p rfl rfl ?_
        refine RL.done ?_
        first | refine RK.condD rfl (fun h64 => ?_) (fun h64 => ?_) | refine RK.condN rfl (fun h64 => ?_) (fun h64 => ?_) | refine RK.cond rfl (fun h64 => ?_) (fun h64 => ?_)
        · refine RK.seq ?_
          refine RK.region ?_
          refine RL.q (.free rfl) rfl rfl (Yld.loadN (cs := wds [x0, x1, x2, x3]) a177 rfl (atN (blk0' hB8))) ?_
          refine RL.op (.free rfl) rfl rfl (Does.call rfl e248 (turned_ok _ [x0, x1, x2, x3] hW)) ?_
          rintro _ w9 ⟨rfl, hg9⟩
          refine RL.op' (.free rfl) rfl (Does.storeN i177 rfl rfl (by simp [Value.cells, invS]) (by simp [Value.cells, Value.oneCell', invS]) (hR8.mod hg9 (fun h => h)) (by decide)) ?_
          rintro _ w10 ⟨hb10, hm10, _⟩
          refine RL.done ?_
          refine RK.ret_of Tryz.func247 (resC (cs := wds (invS [x0, x1, x2, x3])) rfl rfl a177 hb10) ?_ _
          exact ⟨_, rfl, invS [x0, x1, x2, x3], (k + 1), false, rfl, hW.inv, by omega, (hP8'.mod hg9 (fun h => h)).mod hm10 (by omega), by subst h64; rw [hcl, hTe]; rfl, (((Mod.any' hg2 : Mod (· = p) w w2).then hM8 (fun b hb e => e.elim (fun e => e) (fun e => by omega))).trans (Mod.any' hg9)).then hm10 (fun b hb e => by have e' : b = b2 := e; omega)⟩
        · refine RK.skip ?_
          refine RK.seq ?_
          refine RK.region ?_
          refine RL.q (.free rfl) rfl rfl (Yld.loadN (cs := wds [x0, x1, x2, x3]) a177 rfl (atN (blk0' hB8))) ?_
          refine RL.op' (.free rfl) rfl (Does.storeN i177 rfl rfl (by simp [Value.cells]) (by simp [Value.cells, Value.oneCell']) hR8 (by decide)) ?_
          rintro _ w10 ⟨hb10, hm10, _⟩
          refine RL.done ?_
          refine RK.ret_of Tryz.func247 (resC (cs := wds [x0, x1, x2, x3]) rfl rfl a177 hb10) ?_ _
          exact ⟨_, rfl, [x0, x1, x2, x3], (k + 1), false, rfl, hW, by omega, hP8'.mod hm10 (by omega), by have h64' : no = false := (by simpa using h64); subst h64'; rw [hcl, hTe]; rfl, ((Mod.any' hg2 : Mod (· = p) w w2).then hM8 (fun b hb e => e.elim (fun e => e) (fun e => by omega))).then hm10 (fun b hb e => by have e' : b = b2 := e; omega)⟩
    · have h16' : bad = true ∨ ¬ k < s.size := by cases bad <;> simp at h16 ⊢; omega
      have hTe : T = none := by
          cases hb : bad with
          | true => exact (hC.no hb).2
          | false =>
            obtain ⟨n, hn, hnk⟩ := hC.go rfl hb
            obtain ⟨m, rfl⟩ : ∃ m, n = m + 1 := ⟨n - 1, by omega⟩
            rw [← hn, clsL, if_neg (by rcases h16' with h | h; (rw [hb] at h; cases h); exact h)]
      have hsee : seesS s k bad 93 = false := by rcases h16' with h | h <;> simp [seesS, h]
      iterate 3 refine RL.no (.no rfl rfl rfl rfl) rfl rfl ?_
      refine RL.q (.yes rfl rfl rfl) rfl rfl (Yld.pure rfl) ?_
      refine RL.p rfl rfl ?_
      refine RL.done ?_
      refine RK.condF rfl ?_
      refine RK.exit rfl ?_
      refine RK.seq ?_
      refine RK.region ?_
      iterate 2 refine RL.p rfl rfl ?_
      refine RL.op (.free rfl) rfl rfl (Does.call rfl e218 (next_ok _ p s k bad hPo (by omega) 93)) ?_
      rintro _ w7 ⟨rfl, hP7, hm7⟩
      rw [hsee] at hP7 ⊢
      iterate 2 refine RL.p rfl rfl ?_
      refine RL.knownT (d := 56) rfl rfl (rfl) ?_
      iterate 4 refine RL.no (.no rfl rfl rfl rfl) rfl rfl ?_
      iterate 2 refine RL.p rfl rfl ?_
      refine RL.q (.free rfl) rfl rfl (Yld.fieldAddr fo246_2 rfl) ?_
      refine RL.op' (.free rfl) rfl (Does.store i4 rfl rfl rfl hP7 (.s (.s .z))) ?_
      rintro _ w8 ⟨hP8, hm8, _⟩
      have hB8 : Blk w8 b3 177 (wds set) := (Blk.mod hBo hm7 (by omega)).mod hm8 (by omega)
      have hP8' : PA w8 p s k true := hP8
      have hM8 : Mod (fun b => b = p ∨ b = b3) w2 w8 := (Mod.trans hmo (hm7.mono fun b _ e => .inl e)).trans (hm8.mono fun b _ e => .inl e)
      have hR8 := (hn2.blk.mod hn3.grow (fun h => h)).mod hM8 (by omega)
      obtain ⟨x0, x1, x2, x3, rfl⟩ : ∃ x0 x1 x2 x3, set = [x0, x1, x2, x3] := by
          obtain ⟨h4, _⟩ := hW
          match set, h4 with
          | [x0, x1, x2, x3], _ => exact ⟨x0, x1, x2, x3, rfl⟩
      refine RL.done ?_
      iterate 2 refine RK.seq ?_
      refine RK.region ?_
      refine RL.p rfl rfl ?_
      refine RL.done ?_
      first | refine RK.condD rfl (fun h64 => ?_) (fun h64 => ?_) | refine RK.condN rfl (fun h64 => ?_) (fun h64 => ?_) | refine RK.cond rfl (fun h64 => ?_) (fun h64 => ?_)
      · refine RK.seq ?_
        refine RK.region ?_
        refine RL.q (.free rfl) rfl rfl (Yld.loadN (cs := wds [x0, x1, x2, x3]) a177 rfl (atN (blk0' hB8))) ?_
        refine RL.op (.free rfl) rfl rfl (Does.call rfl e248 (turned_ok _ [x0, x1, x2, x3] hW)) ?_
        rintro _ w9 ⟨rfl, hg9⟩
        refine RL.op' (.free rfl) rfl (Does.storeN i177 rfl rfl (by simp [Value.cells, invS]) (by simp [Value.cells, Value.oneCell', invS]) (hR8.mod hg9 (fun h => h)) (by decide)) ?_
        rintro _ w10 ⟨hb10, hm10, _⟩
        refine RL.done ?_
        refine RK.ret_of Tryz.func247 (resC (cs := wds (invS [x0, x1, x2, x3])) rfl rfl a177 hb10) ?_ _
        exact ⟨_, rfl, invS [x0, x1, x2, x3], k, true, rfl, hW.inv, by omega, (hP8'.mod hg9 (fun h => h)).mod hm10 (by omega), by subst h64; rw [hcl, hTe]; rfl, (((Mod.any' hg2 : Mod (· = p) w w2).then hM8 (fun b hb e => e.elim (fun e => e) (fun e => by omega))).trans (Mod.any' hg9)).then hm10 (fun b hb e => by have e' : b = b2 := e; omega)⟩
      · refine RK.skip ?_
        refine RK.seq ?_
        refine RK.region ?_
        refine RL.q (.free rfl) rfl rfl (Yld.loadN (cs := wds [x0, x1, x2, x3]) a177 rfl (atN (blk0' hB8))) ?_
        refine RL.op' (.free rfl) rfl (Does.storeN i177 rfl rfl (by simp [Value.cells]) (by simp [Value.cells, Value.oneCell']) hR8 (by decide)) ?_
        rintro _ w10 ⟨hb10, hm10, _⟩
        refine RL.done ?_
        refine RK.ret_of Tryz.func247 (resC (cs := wds [x0, x1, x2, x3]) rfl rfl a177 hb10) ?_ _
        exact ⟨_, rfl, [x0, x1, x2, x3], k, true, rfl, hW, by omega, hP8'.mod hm10 (by omega), by have h64' : no = false := (by simpa using h64); subst h64'; rw [hcl, hTe]; rfl, ((Mod.any' hg2 : Mod (· = p) w w2).then hM8 (fun b hb e => e.elim (fun e => e) (fun e => by omega))).then hm10 (fun b hb e => by have e' : b = b2 := e; omega)⟩
end Go.Proofs.YtbcbfjnlnmhpbaaGreat
set_option linter.unusedVariables false
set_option linter.unusedSimpArgs false
set_option maxHeartbeats 1000000
set_option maxRecDepth 100000
namespace Go.Proofs.YtbcbfjnlnmhpbaaGreat
open Go Go.X Go.Rex
theorem sign_ok' (w : World) (p : Nat) (s : ByteArray) (i : Nat) (h : PA w p s i false) (hi : i ≤ s.size) (hs : s.size ≤ 40) : Fx Tryz.prog 250 [pp p] w (fun u w' => ∃ (c j : Nat) (bad : Bool), u = .int .u8 (c : Int) ∧ c < 256 ∧ j ≤ s.size ∧ PA w' p s j bad ∧ signS s i = (if bad then none else some (c, j)) ∧ Mod (· = p) w w') := by
  refine Fx.mono (sign_ok w p s i h hi hs) ?_
  rintro u w' ⟨hr, hm⟩
  cases hmm : signS s i with
  | none =>
    rw [hmm] at hr
    obtain ⟨c, j, h1, h2, h3, h4⟩ := hr
    exact ⟨c, j, true, h2, h1, h4, h3, rfl, hm⟩
  | some q =>
    obtain ⟨c, j⟩ := q
    rw [hmm] at hr
    have := signS_adv hmm
    exact ⟨c, j, false, hr.1, this.2.2, this.2.1, hr.2, rfl, hm⟩
structure Cel where
  op : Int
  a : Nat
  b : Nat
  c : Nat
  d : Nat
  ad : Option Addr
  n : Nat
  cap : Nat
def celC (k : Cel) : List Value := [.int .i64 k.op, .int .u64 (k.a : Int), .int .u64 (k.b : Int), .int .u64 (k.c : Int), .int .u64 (k.d : Int), .slice k.ad k.n k.cap]
theorem celC_len (k : Cel) : (celC k).length = 6 := rfl
def RxV (M : Nat → Prop) (w : World) : Rx → List Cel → Prop
  | .set t, ks => ∃ a b c d : Nat, t = [a, b, c, d] ∧ ks = [⟨1, a, b, c, d, none, 0, 0⟩]
  | .node op l, ks => ∃ ad n cap kss, (ks = [⟨(op : Int), 0, 0, 0, 0, ad, n, cap⟩] ∧ n ≤ cap) ∧ Sl M w (.slice ad n cap) 6 kss.length (kss.flatMap celC) ∧ RxV M w l kss
  | .nil, ks => ks = []
  | .cons x l, ks => ∃ c ks', ks = c :: ks' ∧ RxV M w x [c] ∧ RxV M w l ks'
theorem RxV.mod {M M0 : Nat → Prop} {w w' : World} (hm : Mod M0 w w') (h0 : ∀ b, b < w.heap.size → M0 b → M b) : ∀ (x : Rx) {ks : List Cel}, RxV M w x ks → RxV M w' x ks
  | .set t, _, h => h
  | .node op l, _, ⟨ad, n, cap, kss, h1, h2, h3⟩ => ⟨ad, n, cap, kss, h1, h2.mod (hm.mono h0), RxV.mod hm h0 l h3⟩
  | .nil, _, h => h
  | .cons x l, _, ⟨c, ks', h1, h2, h3⟩ => ⟨c, ks', h1, RxV.mod hm h0 x h2, RxV.mod hm h0 l h3⟩
theorem RxV.off {M M' : Nat → Prop} {w : World} (h0 : ∀ b, b < w.heap.size → M' b → M b) : ∀ (x : Rx) {ks : List Cel}, RxV M w x ks → RxV M' w x ks
  | .set t, _, h => h
  | .node op l, _, ⟨ad, n, cap, kss, h1, h2, h3⟩ => ⟨ad, n, cap, kss, h1, h2.off (by omega) h0, RxV.off h0 l h3⟩
  | .nil, _, h => h
  | .cons x l, _, ⟨c, ks', h1, h2, h3⟩ => ⟨c, ks', h1, RxV.off h0 x h2, RxV.off h0 l h3⟩
theorem RxV.grow {M : Nat → Prop} {w w' : World} (hg : Grow w w') (x : Rx) {ks : List Cel} (h : RxV M w x ks) : RxV M w' x ks := h.mod hg (fun _ _ h => h.elim) x
def Old (w : World) : Nat → Prop := fun b => b < w.heap.size
def RT (w w' : World) (p : Nat) (s : ByteArray) (r : Option (Rx × Nat)) (u : Value) : Prop := ∃ (c : Cel) (j : Nat) (bad : Bool), u = .agg (celC c).toArray ∧ j ≤ s.size ∧ PA w' p s j bad ∧ (bad = true → r = none) ∧ (bad = false → ∃ x, r = some (x, j) ∧ RxV (Old w) w' x [c])
def GrpOk (p : Nat) (s : ByteArray) (d : Nat) (g : Nat → Option (Rx × Nat)) : Prop := d < 8 → ∀ w i, PA w p s i false → i ≤ s.size → Fx Tryz.prog 195 [pp p, .int .i64 ((d + 1 : Nat) : Int)] w (fun u w' => RT w w' p s (g i) u ∧ Mod (· = p) w w')
def setC (l : List Nat) : List Value := .int .i64 1 :: (wds l ++ [.slice none 0 0])
theorem blk_mid {w : World} {b t : Nat} {a : Value} {ws rest : List Value} (h : Blk w b t (a :: (ws ++ rest))) : ∀ (j : Nat) (u : Value), ws[j]? = some u → w.cell? ⟨b, 0 + 1 + j, none⟩ = some u := fun j u hj => by
  have hl := (List.getElem?_eq_some_iff.1 hj).1
  refine h.cell' ?_
  rw [show 0 + 1 + j = j + 1 by omega, List.getElem?_cons_succ, List.getElem?_append_left hl]
  exact hj
theorem add_cel (w : World) (b t : Nat) (l : List Nat) (hB : Blk w b t (setC l)) (hl : W4 l) (c : Nat) (h256 : c < 256) :
    Fx Tryz.prog 249 [.pointer (some ⟨b, 0 + 1, none⟩), .int .u8 (c : Int)] w (fun u w' => u = .tuple #[] ∧ Blk w' b t (setC (setBit l c)) ∧ Mod (· = b) w w') := by
  have h4 := hl.1
  have hw : (wds l).length = 4 := by simp [h4]
  refine Fx.mono (add1_ok w b (0 + 1) _ _ l hB hl (fun j hj => by unfold setC; rw [show 0 + 1 + j = j + 1 by omega, List.getElem?_cons_succ, List.getElem?_append_left (by omega)]) (by simp [setC, h4]) c h256) ?_
  rintro u w' ⟨rfl, h1, h2⟩
  refine ⟨rfl, ?_, h2⟩
  have e : (setC l).set (0 + 1 + c / 64) (.int .u64 ((((l[c / 64]?).getD 0) ||| 1 <<< (c % 64) : Nat) : Int)) = setC (setBit l c) := by
    unfold setC
    rw [show 0 + 1 + c / 64 = c / 64 + 1 by omega, List.set_cons_succ, List.set_append_left _ _ (by omega), wds_bit hl h256]
  rw [e] at h1
  exact h1
theorem W4.four {l : List Nat} (h : W4 l) : ∃ a b c d, l = [a, b, c, d] := by
  obtain ⟨h4, _⟩ := h
  match l, h4 with
  | [a, b, c, d], _ => exact ⟨a, b, c, d, rfl⟩
theorem atom_ok (s : ByteArray) (hs : s.size ≤ 40) (p d : Nat) (hd : d ≤ 8) (g : Nat → Option (Rx × Nat)) (hg8 : d = 8 → ∀ i, g i = none) (hgw : GrpOk p s d g)
    (w : World) (i : Nat) (h : PA w p s i false) (hi : i < s.size) (h124 : b8 s i ≠ 124) (h41 : b8 s i ≠ 41) :
    Fx Tryz.prog 243 [pp p, .int .i64 (d : Int)] w (fun u w' => RT w w' p s (atomS s g i) u ∧ Mod (· = p) w w') := by
  have hplt := h.lt
  have hc := b8_lt s i
  refine enter Tryz.func243 rfl rfl rfl _ (Pick.sub (l := [0, 1]) (.cons rfl (.cons rfl .nil))) ?_
  refine RK.seq ?_
  refine RK.region ?_
  refine RL.op (.free rfl) rfl rfl (Does.alloc i180) ?_
  rintro _ w1 ⟨b4, rfl, hn4⟩
  have hb4 := hn4.at_
  have hg4 := hn4.grow
  refine RL.done ?_
  refine RK.seq ?_
  refine RK.region ?_
  refine RL.q (.free rfl) rfl rfl (Yld.build (v := .agg #[.int .i64 1, .int .u64 0, .int .u64 0, .int .u64 0, .int .u64 0, .slice none 0 0]) rfl (fun w => by kernel_rfl)) ?_
  refine RL.op (.free rfl) rfl rfl (Does.alloc i180) ?_
  rintro _ w2 ⟨b5, rfl, hn5⟩
  have hb5 := hn5.at_
  have hb5s := hn5.size
  have hb4s := hn4.size
  refine RL.op' (.free rfl) rfl (Does.storeN i180 rfl rfl rfl rfl hn5.blk (Nat.le_refl 6)) ?_
  rintro _ w3 ⟨hb3, hm3, _⟩
  have hB3 : Blk w3 b5 180 (setC zero4) := hb3
  have hb4p' : b4 ≠ p := by omega
  have hb5p : b5 ≠ p := by omega
  have hb45 : b4 ≠ b5 := by omega
  have hm13 : Mod (fun b => b = p ∨ b = b5) w1 w3 := (Mod.any' hn5.grow).trans (hm3.mono fun b _ e => .inr e)
  have hb4p : ¬ (b4 = p ∨ b4 = b5) := by omega
  have hMp : ∀ x, x < w.heap.size → (x = p ∨ x = b5) → x = p := fun x hx e => by omega
  have hP3 : PA w3 p s i false := ((h.mod hg4 (fun h => h)).mod hn5.grow (fun h => h)).mod hm3 (by omega)
  refine RL.done ?_
  iterate 2 refine RK.seq ?_
  refine RK.region ?_
  refine RL.p rfl rfl ?_
  refine RL.op (.free rfl) rfl rfl (Does.call rfl e246 (byte_yes _ p s i hP3 hi (by omega))) ?_
  rintro _ w4 ⟨rfl, hP4, hm4⟩
  have hB4 := hB3.mod hm4 hb5p
  have hm14 : Mod (fun b => b = p ∨ b = b5) w1 w4 := hm13.trans (hm4.mono fun b _ e => .inl e)
  refine RL.p rfl rfl ?_
  refine RL.done ?_
  refine RK.seq ?_
  refine RK.region ?_
  refine RL.p rfl rfl ?_
  refine RL.done ?_
  refine RK.block ?_
  refine RK.seq ?_
  refine RK.region ?_
  iterate 2 refine RL.p rfl rfl ?_
  refine RL.done ?_
  first | refine RK.condD rfl (fun h26 => ?_) (fun h26 => ?_) | refine RK.condN rfl (fun h26 => ?_) (fun h26 => ?_) | refine RK.cond rfl (fun h26 => ?_) (fun h26 => ?_)
  · have h40 : b8 s i = 40 := by omega
    have hat : atomS s g i = grpS s (g (i + 1)) := by unfold atomS; rw [if_pos h40]
    refine RK.seq ?_
    refine RK.region ?_
    iterate 3 refine RL.p rfl rfl ?_
    refine RL.q (.free rfl) rfl rfl (Yld.fieldAddr fo246_2 rfl) ?_
    refine RL.q (.free rfl) rfl rfl (Yld.load p4 rfl (at1 (hP4.cell rfl))) ?_
    refine RL.p rfl rfl ?_
    refine RL.knownF (d := 33) rfl rfl (rfl) ?_
    iterate 2 refine RL.q (.yes rfl rfl rfl) rfl rfl (Yld.pure rfl) ?_
    iterate 2 refine RL.p rfl rfl ?_
    refine RL.q (.free rfl) rfl rfl (Yld.fieldAddr fo246_2 rfl) ?_
    refine RL.op' (.free rfl) rfl (Does.store i4 rfl rfl rfl hP4 (.s (.s .z))) ?_
    rintro _ w5 ⟨hP5, hm5, _⟩
    have hB5 := hB4.mod hm5 hb5p
    have hm15 : Mod (fun b => b = p ∨ b = b5) w1 w5 := hm14.trans (hm5.mono fun b _ e => .inl e)
    refine RL.done ?_
    iterate 2 refine RK.seq ?_
    refine RK.region ?_
    iterate 2 refine RL.p rfl rfl ?_
    refine RL.q (.free rfl) rfl rfl (Yld.fieldAddr fo246_2 rfl) ?_
    refine RL.q (.free rfl) rfl rfl (Yld.load p4 rfl (at1 (Blk.cell hP5 rfl))) ?_
    refine RL.p rfl rfl ?_
    refine RL.done ?_
    first | refine RK.condD rfl (fun h43 => ?_) (fun h43 => ?_) | refine RK.condN rfl (fun h43 => ?_) (fun h43 => ?_) | refine RK.cond rfl (fun h43 => ?_) (fun h43 => ?_)
    · have hd8 : d < 8 := by have h := h43; first | omega | (simp at h; omega)
      have hP5' : PA w5 p s (i + 1) false := by rw [show false = decide ((d : Int) = 8) from (decide_eq_false (by omega)).symm]; exact hP5
      refine RK.region ?_
      iterate 3 refine RL.p rfl rfl ?_
      refine RL.re (d := 46) rfl rfl (add_i64 (z := ((d + 1 : Nat) : Int)) (by omega) (by omega) (by omega)) ?_
      refine RL.op (.free rfl) rfl rfl (Does.call rfl e195 (hgw hd8 _ (i + 1) hP5' (by omega))) ?_
      rintro _ w6 ⟨⟨c, j, bad, rfl, hj, hP6, hno, hyes⟩, hm6⟩
      have hB6 := hB5.mod hm6 hb5p
      refine RL.op' (.free rfl) rfl (Does.storeN i180 rfl rfl rfl rfl hB6 (Nat.le_refl 6)) ?_
      rintro _ w7 ⟨hb7, hm7, _⟩
      have hB7 : Blk w7 b5 180 (celC c) := hb7
      have hP7 : PA w7 p s j bad := hP6.mod hm7 (by omega)
      have hm17 : Mod (fun b => b = p ∨ b = b5) w1 w7 := (hm15.trans (hm6.mono fun b _ e => .inl e)).trans (hm7.mono fun b _ e => .inr e)
      have hs5 := hm15.size
      refine RL.done ?_
      refine RK.region ?_
      iterate 2 refine RL.p rfl rfl ?_
      refine RL.op (.free rfl) rfl rfl (Does.call rfl e218 (next_ok _ p s j bad hP7 (by omega) 41)) ?_
      rintro _ w8 ⟨rfl, hP8, hm8⟩
      have hB8 := hB7.mod hm8 hb5p
      iterate 2 refine RL.p rfl rfl ?_
      first | refine RL.splitD (d := 52) rfl rfl (fun h52 => ?_) (fun h52 => ?_) | refine RL.splitN (d := 52) rfl rfl (fun h52 => ?_) (fun h52 => ?_) | refine RL.split (d := 52) rfl rfl (fun h52 => ?_) (fun h52 => ?_)
      · have hse : seesS s j bad 41 = false := by simpa using h52
        rw [hse] at hP8
        iterate 4 refine RL.no (.no rfl rfl rfl rfl) rfl rfl ?_
        iterate 2 refine RL.p rfl rfl ?_
        refine RL.q (.free rfl) rfl rfl (Yld.fieldAddr fo246_2 rfl) ?_
        refine RL.op' (.free rfl) rfl (Does.store i4 rfl rfl rfl hP8 (.s (.s .z))) ?_
        rintro _ w9 ⟨hP9, hm9, _⟩
        have hB9 := hB8.mod hm9 hb5p
        have hm19' : Mod (fun b => b = p ∨ b = b5) w1 w9 := (hm17.trans (hm8.mono fun b _ e => .inl e)).trans (hm9.mono fun b _ e => .inl e)
        have hP9' : PA w9 p s j true := hP9
        have hnone : atomS s g i = none := by
            rw [hat]
            cases hb : bad with
            | true => rw [hno hb]; rfl
            | false =>
              obtain ⟨x, hx, _⟩ := hyes hb
              rw [hx]
              show (if j < s.size ∧ b8 s j = 41 then some (x, j + 1) else none) = none
              rw [if_neg (fun h => by simp [seesS, hb, h] at hse)]
        refine RL.done ?_
        refine RK.inBlock ?_
        refine RK.seq ?_
        refine RK.region ?_
        refine RL.q (.free rfl) rfl rfl (Yld.loadN (cs := celC c) a180 rfl (atN (blk0' hB9))) ?_
        refine RL.op' (.free rfl) rfl (Does.storeN i180 rfl rfl rfl rfl (hn4.blk.mod hm19' hb4p) (Nat.le_refl 6)) ?_
        rintro _ w19 ⟨hb19, hm19, _⟩
        refine RL.done ?_
        refine RK.ret_of Tryz.func243 (resC (cs := celC c) rfl rfl a180 hb19) ?_ _
        exact ⟨_, rfl, ⟨c, j, true, rfl, by omega, Blk.mod hP9' hm19 (Ne.symm hb4p'), fun _ => hnone, fun e => (by cases e)⟩, (((Mod.any' hg4 : Mod (· = p) w w1).then hm19' hMp)).then hm19 (fun b hb e => by have e' : b = b4 := e; omega)⟩
      · have hse : bad = false ∧ j < s.size ∧ b8 s j = 41 := by simpa [seesS] using h52
        obtain ⟨hb, hjs, hj41⟩ := hse
        subst hb
        have hse : seesS s j false 41 = true := by simp [seesS, hjs, hj41]
        rw [hse] at hP8
        iterate 2 refine RL.q (.yes rfl rfl rfl) rfl rfl (Yld.pure rfl) ?_
        refine RL.q (.yes rfl rfl rfl) rfl rfl (Yld.fieldAddr fo246_2 rfl) ?_
        refine RL.q (.yes rfl rfl rfl) rfl rfl (Yld.load p4 rfl (at1 (hP8.cell rfl))) ?_
        iterate 2 refine RL.p rfl rfl ?_
        refine RL.q (.free rfl) rfl rfl (Yld.fieldAddr fo246_2 rfl) ?_
        refine RL.op' (.free rfl) rfl (Does.store i4 rfl rfl rfl hP8 (.s (.s .z))) ?_
        rintro _ w9 ⟨hP9, hm9, _⟩
        have hB9 := hB8.mod hm9 hb5p
        have hm19' : Mod (fun b => b = p ∨ b = b5) w1 w9 := (hm17.trans (hm8.mono fun b _ e => .inl e)).trans (hm9.mono fun b _ e => .inl e)
        have hP9' : PA w9 p s (j + 1) false := hP9
        obtain ⟨x, hx, hrx⟩ := hyes rfl
        have hsome : atomS s g i = some (x, j + 1) := by rw [hat, hx]; show (if j < s.size ∧ b8 s j = 41 then some (x, j + 1) else none) = _; rw [if_pos ⟨hjs, hj41⟩]
        have hm69 : Mod (fun b => b = p ∨ b = b5) w6 w9 := ((hm7.mono fun b _ e => .inr e).trans (hm8.mono fun b _ e => .inl e)).trans (hm9.mono fun b _ e => .inl e)
        have hs1 := hg4.size
        have hl05 : ∀ b, Old w b → Old w5 b := fun b e => by unfold Old at *; omega
        have hb5o := hB5.lt
        have hb4o : Old w5 b4 := by unfold Old; omega
        have hrx9 := RxV.mod hm69 (fun b _ e => by unfold Old; rcases e with e | e <;> omega) x hrx
        refine RL.done ?_
        refine RK.inBlock ?_
        refine RK.seq ?_
        refine RK.region ?_
        refine RL.q (.free rfl) rfl rfl (Yld.loadN (cs := celC c) a180 rfl (atN (blk0' hB9))) ?_
        refine RL.op' (.free rfl) rfl (Does.storeN i180 rfl rfl rfl rfl (hn4.blk.mod hm19' hb4p) (Nat.le_refl 6)) ?_
        rintro _ w19 ⟨hb19, hm19, _⟩
        refine RL.done ?_
        refine RK.ret_of Tryz.func243 (resC (cs := celC c) rfl rfl a180 hb19) ?_ _
        exact ⟨_, rfl, ⟨c, (j + 1), false, rfl, by omega, Blk.mod hP9' hm19 (Ne.symm hb4p'), fun e => (by cases e), fun _ => ⟨x, hsome, RxV.off (fun b _ e => hl05 b e) x (RxV.mod hm19 (fun b _ e => by have e' : b = b4 := e; rw [e']; exact hb4o) x hrx9)⟩⟩, (((Mod.any' hg4 : Mod (· = p) w w1).then hm19' hMp)).then hm19 (fun b hb e => by have e' : b = b4 := e; omega)⟩
    · have hd8 : d = 8 := by have h := h43; first | omega | (simp at h; omega)
      have hP5' : PA w5 p s (i + 1) true := by rw [show true = decide ((d : Int) = 8) from (decide_eq_true (by omega)).symm]; exact hP5
      have hse : seesS s (i + 1) true 41 = false := rfl
      refine RK.skip ?_
      refine RK.region ?_
      iterate 2 refine RL.p rfl rfl ?_
      refine RL.op (.free rfl) rfl rfl (Does.call rfl e218 (next_ok _ p s (i + 1) true hP5' (by omega) 41)) ?_
      rintro _ w8 ⟨rfl, hP8, hm8⟩
      rw [hse] at hP8 ⊢
      iterate 2 refine RL.p rfl rfl ?_
      refine RL.knownT (d := 52) rfl rfl (rfl) ?_
      iterate 4 refine RL.no (.no rfl rfl rfl rfl) rfl rfl ?_
      iterate 2 refine RL.p rfl rfl ?_
      refine RL.q (.free rfl) rfl rfl (Yld.fieldAddr fo246_2 rfl) ?_
      refine RL.op' (.free rfl) rfl (Does.store i4 rfl rfl rfl hP8 (.s (.s .z))) ?_
      rintro _ w9 ⟨hP9, hm9, _⟩
      have hB9 : Blk w9 b5 180 (celC ⟨1, 0, 0, 0, 0, none, 0, 0⟩) := (hB5.mod hm8 hb5p).mod hm9 hb5p
      have hm19' : Mod (fun b => b = p ∨ b = b5) w1 w9 := (hm15.trans (hm8.mono fun b _ e => .inl e)).trans (hm9.mono fun b _ e => .inl e)
      have hP9' : PA w9 p s (i + 1) true := hP9
      refine RL.done ?_
      refine RK.inBlock ?_
      refine RK.seq ?_
      refine RK.region ?_
      refine RL.q (.free rfl) rfl rfl (Yld.loadN (cs := celC ⟨1, 0, 0, 0, 0, none, 0, 0⟩) a180 rfl (atN (blk0' hB9))) ?_
      refine RL.op' (.free rfl) rfl (Does.storeN i180 rfl rfl rfl rfl (hn4.blk.mod hm19' hb4p) (Nat.le_refl 6)) ?_
      rintro _ w19 ⟨hb19, hm19, _⟩
      refine RL.done ?_
      refine RK.ret_of Tryz.func243 (resC (cs := celC ⟨1, 0, 0, 0, 0, none, 0, 0⟩) rfl rfl a180 hb19) ?_ _
      exact ⟨_, rfl, ⟨⟨1, 0, 0, 0, 0, none, 0, 0⟩, (i + 1), true, rfl, by omega, Blk.mod hP9' hm19 (Ne.symm hb4p'), fun _ => (by rw [hat, hg8 hd8]; rfl), fun e => (by cases e)⟩, (((Mod.any' hg4 : Mod (· = p) w w1).then hm19' hMp)).then hm19 (fun b hb e => by have e' : b = b4 := e; omega)⟩
  · have h40 : ¬ b8 s i = 40 := by omega
    refine RK.seq ?_
    refine RK.region ?_
    iterate 2 refine RL.p rfl rfl ?_
    refine RL.done ?_
    first | refine RK.condD rfl (fun h60 => ?_) (fun h60 => ?_) | refine RK.condN rfl (fun h60 => ?_) (fun h60 => ?_) | refine RK.cond rfl (fun h60 => ?_) (fun h60 => ?_)
    · have h91 : b8 s i = 91 := by omega
      have hat : atomS s g i = (clsS s (i + 1)).map (fun p => (.set p.1, p.2)) := by unfold atomS; rw [if_neg h40, if_pos h91]
      refine RK.region ?_
      refine RL.p rfl rfl ?_
      refine RL.op (.free rfl) rfl rfl (Does.call rfl e247 (class_ok _ p s (i + 1) hP4 (by omega) hs)) ?_
      rintro _ w5 ⟨l, j, bad, rfl, hW, hj, hP5, hcl, hm5⟩
      obtain ⟨y0, y1, y2, y3, rfl⟩ := W4.four hW
      have hB5 := hB4.mod hm5 hb5p
      refine RL.q (.free rfl) rfl rfl (Yld.fieldAddr fo180_1 rfl) ?_
      refine RL.op' (.free rfl) rfl (Does.storeN i177 rfl rfl rfl rfl hB5 (by decide)) ?_
      rintro _ w6 ⟨hb6, hm6, _⟩
      have hB6 : Blk w6 b5 180 (setC [y0, y1, y2, y3]) := hb6
      have hP6 : PA w6 p s j bad := hP5.mod hm6 (by omega)
      have hm16 : Mod (fun b => b = p ∨ b = b5) w1 w6 := (hm14.trans (hm5.mono fun b _ e => .inl e)).trans (hm6.mono fun b _ e => .inr e)
      obtain ⟨x0, x1, x2, x3, hle⟩ := W4.four hW
      have hBs : Blk w6 b5 180 (setC [y0, y1, y2, y3]) := hB6
      rw [hle] at hBs
      have hBl : Blk w6 b5 180 (celC ⟨1, x0, x1, x2, x3, none, 0, 0⟩) := hBs
      refine RL.done ?_
      refine RK.inBlock ?_
      refine RK.seq ?_
      refine RK.region ?_
      refine RL.q (.free rfl) rfl rfl (Yld.loadN (cs := celC ⟨1, x0, x1, x2, x3, none, 0, 0⟩) a180 rfl (atN (blk0' hBl))) ?_
      refine RL.op' (.free rfl) rfl (Does.storeN i180 rfl rfl rfl rfl (hn4.blk.mod hm16 hb4p) (Nat.le_refl 6)) ?_
      rintro _ w19 ⟨hb19, hm19, _⟩
      refine RL.done ?_
      refine RK.ret_of Tryz.func243 (resC (cs := celC ⟨1, x0, x1, x2, x3, none, 0, 0⟩) rfl rfl a180 hb19) ?_ _
      exact ⟨_, rfl, ⟨⟨1, x0, x1, x2, x3, none, 0, 0⟩, j, bad, rfl, by omega, Blk.mod hP6 hm19 (Ne.symm hb4p'), fun e => by rw [hat, hcl, e]; rfl, fun e => ⟨.set [y0, y1, y2, y3], by rw [hat, hcl, e]; rfl, x0, x1, x2, x3, hle, rfl⟩⟩, (((Mod.any' hg4 : Mod (· = p) w w1).then hm16 hMp)).then hm19 (fun b hb e => by have e' : b = b4 := e; omega)⟩
    · have h91 : ¬ b8 s i = 91 := by omega
      refine RK.seq ?_
      refine RK.region ?_
      iterate 2 refine RL.p rfl rfl ?_
      refine RL.done ?_
      first | refine RK.condD rfl (fun h65 => ?_) (fun h65 => ?_) | refine RK.condN rfl (fun h65 => ?_) (fun h65 => ?_) | refine RK.cond rfl (fun h65 => ?_) (fun h65 => ?_)
      · have h46 : b8 s i = 46 := by omega
        have hat : atomS s g i = some (.set (invS zero4), i + 1) := by unfold atomS; rw [if_neg h40, if_neg h91, if_pos h46]
        refine RK.region ?_
        refine RL.q (.free rfl) rfl rfl (Yld.fieldAddr fo180_1 rfl) ?_
        refine RL.q (.free rfl) rfl rfl (Yld.loadN (cs := wds zero4) a177 rfl (atN (blk_mid hB4))) ?_
        refine RL.op (.free rfl) rfl rfl (Does.call rfl e248 (turned_ok _ zero4 W4.zero)) ?_
        rintro _ w5 ⟨rfl, hg5⟩
        refine RL.q (.free rfl) rfl rfl (Yld.fieldAddr fo180_1 rfl) ?_
        refine RL.op' (.free rfl) rfl (Does.storeN i177 rfl rfl rfl rfl (hB4.mod hg5 (fun h => h)) (by decide)) ?_
        rintro _ w6 ⟨hb6, hm6, _⟩
        have hB6 : Blk w6 b5 180 (setC (invS zero4)) := hb6
        have hP6 : PA w6 p s (i + 1) false := (hP4.mod hg5 (fun h => h)).mod hm6 (by omega)
        have hm16 : Mod (fun b => b = p ∨ b = b5) w1 w6 := (hm14.trans (Mod.any' hg5)).trans (hm6.mono fun b _ e => .inr e)
        have hWi : W4 (invS zero4) := W4.zero.inv
        obtain ⟨x0, x1, x2, x3, hle⟩ := W4.four hWi
        have hBs : Blk w6 b5 180 (setC (invS zero4)) := hB6
        rw [hle] at hBs
        have hBl : Blk w6 b5 180 (celC ⟨1, x0, x1, x2, x3, none, 0, 0⟩) := hBs
        refine RL.done ?_
        refine RK.inBlock ?_
        refine RK.seq ?_
        refine RK.region ?_
        refine RL.q (.free rfl) rfl rfl (Yld.loadN (cs := celC ⟨1, x0, x1, x2, x3, none, 0, 0⟩) a180 rfl (atN (blk0' hBl))) ?_
        refine RL.op' (.free rfl) rfl (Does.storeN i180 rfl rfl rfl rfl (hn4.blk.mod hm16 hb4p) (Nat.le_refl 6)) ?_
        rintro _ w19 ⟨hb19, hm19, _⟩
        refine RL.done ?_
        refine RK.ret_of Tryz.func243 (resC (cs := celC ⟨1, x0, x1, x2, x3, none, 0, 0⟩) rfl rfl a180 hb19) ?_ _
        exact ⟨_, rfl, ⟨⟨1, x0, x1, x2, x3, none, 0, 0⟩, (i + 1), false, rfl, by omega, Blk.mod hP6 hm19 (Ne.symm hb4p'), fun e => (by cases e), fun _ => ⟨.set (invS zero4), hat, x0, x1, x2, x3, hle, rfl⟩⟩, (((Mod.any' hg4 : Mod (· = p) w w1).then hm16 hMp)).then hm19 (fun b hb e => by have e' : b = b4 := e; omega)⟩
      · have h46 : ¬ b8 s i = 46 := by omega
        refine RK.seq ?_
        refine RK.region ?_
        iterate 2 refine RL.p rfl rfl ?_
        refine RL.done ?_
        first | refine RK.condD rfl (fun h71 => ?_) (fun h71 => ?_) | refine RK.condN rfl (fun h71 => ?_) (fun h71 => ?_) | refine RK.cond rfl (fun h71 => ?_) (fun h71 => ?_)
        · have h92 : b8 s i = 92 := by omega
          have hat : atomS s g i = (signS s (i + 1)).map (fun p => (.set (setBit zero4 p.1), p.2)) := by unfold atomS; rw [if_neg h40, if_neg h91, if_neg h46, if_pos h92]
          refine RK.region ?_
          refine RL.q (.free rfl) rfl rfl (Yld.fieldAddr fo180_1 rfl) ?_
          refine RL.p rfl rfl ?_
          refine RL.op (.free rfl) rfl rfl (Does.call rfl e250 (sign_ok' _ p s (i + 1) hP4 (by omega) hs)) ?_
          rintro _ w5 ⟨c, j, bad, rfl, hc2, hj, hP5, hsg, hm5⟩
          refine RL.op (.free rfl) rfl rfl (Does.call rfl e249 (add_cel _ b5 _ zero4 (hB4.mod hm5 hb5p) W4.zero c hc2)) ?_
          rintro _ w6 ⟨rfl, hB6, hm6⟩
          have hP6 : PA w6 p s j bad := hP5.mod hm6 (by omega)
          have hm16 : Mod (fun b => b = p ∨ b = b5) w1 w6 := (hm14.trans (hm5.mono fun b _ e => .inl e)).trans (hm6.mono fun b _ e => .inr e)
          have hWi : W4 (setBit zero4 c) := W4.zero.bit c
          obtain ⟨x0, x1, x2, x3, hle⟩ := W4.four hWi
          have hBs : Blk w6 b5 180 (setC (setBit zero4 c)) := hB6
          rw [hle] at hBs
          have hBl : Blk w6 b5 180 (celC ⟨1, x0, x1, x2, x3, none, 0, 0⟩) := hBs
          refine RL.done ?_
          refine RK.inBlock ?_
          refine RK.seq ?_
          refine RK.region ?_
          refine RL.q (.free rfl) rfl rfl (Yld.loadN (cs := celC ⟨1, x0, x1, x2, x3, none, 0, 0⟩) a180 rfl (atN (blk0' hBl))) ?_
          refine RL.op' (.free rfl) rfl (Does.storeN i180 rfl rfl rfl rfl (hn4.blk.mod hm16 hb4p) (Nat.le_refl 6)) ?_
          rintro _ w19 ⟨hb19, hm19, _⟩
          refine RL.done ?_
          refine RK.ret_of Tryz.func243 (resC (cs := celC ⟨1, x0, x1, x2, x3, none, 0, 0⟩) rfl rfl a180 hb19) ?_ _
          exact ⟨_, rfl, ⟨⟨1, x0, x1, x2, x3, none, 0, 0⟩, j, bad, rfl, by omega, Blk.mod hP6 hm19 (Ne.symm hb4p'), fun e => by rw [hat, hsg, e]; rfl, fun e => ⟨.set (setBit zero4 c), by rw [hat, hsg, e]; rfl, x0, x1, x2, x3, hle, rfl⟩⟩, (((Mod.any' hg4 : Mod (· = p) w w1).then hm16 hMp)).then hm19 (fun b hb e => by have e' : b = b4 := e; omega)⟩
        · have h92 : ¬ b8 s i = 92 := by omega
          refine RK.seq ?_
          refine RK.region ?_
          iterate 3 refine RL.p rfl rfl ?_
          refine RL.q (.free rfl) rfl rfl (Yld.fieldAddr fo246_2 rfl) ?_
          refine RL.q (.free rfl) rfl rfl (Yld.load p4 rfl (at1 (hP4.cell rfl))) ?_
          refine RL.p rfl rfl ?_
          refine RL.knownF (d := 16) rfl rfl (rfl) ?_
          refine RL.q (.yes rfl rfl rfl) rfl rfl (Yld.pure rfl) ?_
          refine RL.op (.yes rfl rfl rfl) rfl rfl (Does.call rfl e251 (indexByte_ok _ _ _ hc)) ?_
          rintro _ _ ⟨z, rfl, hz, rfl⟩
          have hq : (z < 0 ↔ ¬ (b8 s i = 42 ∨ b8 s i = 43 ∨ b8 s i = 63 ∨ b8 s i = 93)) := by rw [hz]; simp; omega
          have hat : atomS s g i = if b8 s i = 42 ∨ b8 s i = 43 ∨ b8 s i = 63 ∨ b8 s i = 93 then none else some (.set (setBit zero4 (b8 s i)), i + 1) := by unfold atomS; rw [if_neg h40, if_neg h91, if_neg h46, if_neg h92]
          refine RL.q (.yes rfl rfl rfl) rfl rfl (Yld.pure rfl) ?_
          iterate 2 refine RL.p rfl rfl ?_
          refine RL.q (.free rfl) rfl rfl (Yld.fieldAddr fo246_2 rfl) ?_
          refine RL.op' (.free rfl) rfl (Does.store i4 rfl rfl rfl hP4 (.s (.s .z))) ?_
          rintro _ w5 ⟨hP5, hm5, _⟩
          have hP5' : PA w5 p s (i + 1) (decide (0 ≤ z)) := hP5
          refine RL.done ?_
          refine RK.region ?_
          refine RL.q (.free rfl) rfl rfl (Yld.fieldAddr fo180_1 rfl) ?_
          refine RL.p rfl rfl ?_
          refine RL.op (.free rfl) rfl rfl (Does.call rfl e249 (add_cel _ b5 _ zero4 (hB4.mod hm5 hb5p) W4.zero _ hc)) ?_
          rintro _ w6 ⟨rfl, hB6, hm6⟩
          have hP6 : PA w6 p s (i + 1) (decide (0 ≤ z)) := hP5'.mod hm6 (by omega)
          have hm16 : Mod (fun b => b = p ∨ b = b5) w1 w6 := (hm14.trans (hm5.mono fun b _ e => .inl e)).trans (hm6.mono fun b _ e => .inr e)
          have hWi : W4 (setBit zero4 (b8 s i)) := W4.zero.bit _
          obtain ⟨x0, x1, x2, x3, hle⟩ := W4.four hWi
          have hBs : Blk w6 b5 180 (setC (setBit zero4 (b8 s i))) := hB6
          rw [hle] at hBs
          have hBl : Blk w6 b5 180 (celC ⟨1, x0, x1, x2, x3, none, 0, 0⟩) := hBs
          refine RL.done ?_
          refine RK.inBlock ?_
          refine RK.seq ?_
          refine RK.region ?_
          refine RL.q (.free rfl) rfl rfl (Yld.loadN (cs := celC ⟨1, x0, x1, x2, x3, none, 0, 0⟩) a180 rfl (atN (blk0' hBl))) ?_
          refine RL.op' (.free rfl) rfl (Does.storeN i180 rfl rfl rfl rfl (hn4.blk.mod hm16 hb4p) (Nat.le_refl 6)) ?_
          rintro _ w19 ⟨hb19, hm19, _⟩
          refine RL.done ?_
          refine RK.ret_of Tryz.func243 (resC (cs := celC ⟨1, x0, x1, x2, x3, none, 0, 0⟩) rfl rfl a180 hb19) ?_ _
          exact ⟨_, rfl, ⟨⟨1, x0, x1, x2, x3, none, 0, 0⟩, (i + 1), (decide (0 ≤ z)), rfl, by omega, Blk.mod hP6 hm19 (Ne.symm hb4p'), fun e => by have e' := of_decide_eq_true e; rw [hat, if_pos (Classical.byContradiction fun h => by have := hq.2 h; omega)], fun e => by have e' := of_decide_eq_false e; exact ⟨.set (setBit zero4 (b8 s i)), by rw [hat, if_neg (hq.1 (by omega))], x0, x1, x2, x3, hle, rfl⟩⟩, (((Mod.any' hg4 : Mod (· = p) w w1).then hm16 hMp)).then hm19 (fun b hb e => by have e' : b = b4 := e; omega)⟩
end Go.Proofs.YtbcbfjnlnmhpbaaGreat
set_option linter.unusedVariables false
set_option linter.unusedSimpArgs false
set_option maxHeartbeats 1000000
set_option maxRecDepth 100000
namespace Go.Proofs.YtbcbfjnlnmhpbaaGreat
open Go Go.X Go.Rex
theorem rx_snoc {M : Nat → Prop} {w : World} {x : Rx} {c : Cel} (hx : RxV M w x [c]) : ∀ (xs : List Rx) {ks : List Cel}, RxV M w (lstS xs) ks → RxV M w (lstS (xs ++ [x])) (ks ++ [c])
  | [], ks, h => by
    have h' : ks = [] := h
    subst h'
    exact ⟨c, [], rfl, hx, rfl⟩
  | y :: xs, ks, ⟨k, ks', h1, h2, h3⟩ => by
    subst h1
    exact ⟨k, ks' ++ [c], rfl, h2, rx_snoc hx xs h3⟩
theorem rx_len {M : Nat → Prop} {w : World} : ∀ (xs : List Rx) {ks : List Cel}, RxV M w (lstS xs) ks → ks.length = xs.length
  | [], ks, h => by have h' : ks = [] := h; subst h'; rfl
  | y :: xs, ks, ⟨k, ks', h1, h2, h3⟩ => by subst h1; simp [rx_len xs h3]
theorem mkN_ne {op : Nat} {l : List Rx} (h : l.length ≠ 1) : mkN op l = .node op (lstS l) := by
  match l, h with
  | [], _ => rfl
  | [x], h => exact absurd rfl h
  | x :: y :: l, _ => rfl
theorem factorS_adv {s : ByteArray} {g : Nat → Option (Rx × Nat)} (hg : ∀ i x j, i ≤ s.size → g i = some (x, j) → i ≤ j ∧ j ≤ s.size) {i : Nat} (hi : i < s.size) {x : Rx} {j : Nat} (h : factorS s g i = some (x, j)) : i < j ∧ j ≤ s.size := by
  have ha : ∀ x j, atomS s g i = some (x, j) → i < j ∧ j ≤ s.size := by
    intro x j h
    unfold atomS at h
    split at h
    · cases hgi : g (i + 1) with
      | none => rw [hgi] at h; cases h
      | some q =>
        obtain ⟨y, k⟩ := q
        rw [hgi] at h
        have h' : (if k < s.size ∧ b8 s k = 41 then some (y, k + 1) else none) = some (x, j) := h
        split at h'
        · simp at h'; have := hg _ _ _ (by omega) hgi; omega
        · cases h'
    · split at h
      · cases hc : clsS s (i + 1) with
        | none => rw [hc] at h; cases h
        | some q => rw [hc] at h; simp at h; have := clsS_adv (t := q.1) (j := q.2) hc; omega
      · split at h
        · simp at h; omega
        · split at h
          · cases hc : signS s (i + 1) with
            | none => rw [hc] at h; cases h
            | some q => rw [hc] at h; simp at h; have := signS_adv (b := q.1) (j := q.2) hc; omega
          · split at h
            · cases h
            · simp at h; omega
  unfold factorS at h
  cases hat : atomS s g i with
  | none => rw [hat] at h; cases h
  | some q =>
    obtain ⟨y, k⟩ := q
    have h1 := ha y k hat
    rw [hat] at h
    simp only [Option.map_some, Option.some.injEq] at h
    unfold oftS at h
    split at h
    · split at h
      · simp at h; omega
      · split at h
        · simp at h; omega
        · split at h <;> (simp at h; omega)
    · simp at h; omega
theorem factor_ok (s : ByteArray) (hs : s.size ≤ 40) (p d : Nat) (hd : d ≤ 8) (g : Nat → Option (Rx × Nat)) (hg8 : d = 8 → ∀ i, g i = none) (hgw : GrpOk p s d g)
    (w : World) (i : Nat) (h : PA w p s i false) (hi : i < s.size) (h124 : b8 s i ≠ 124) (h41 : b8 s i ≠ 41) :
    Fx Tryz.prog 235 [pp p, .int .i64 (d : Int)] w (fun u w' => RT w w' p s (factorS s g i) u ∧ Mod (· = p) w w') := by
  have hplt := h.lt
  refine enter Tryz.func235 rfl rfl rfl _ (Pick.sub (l := [0, 1]) (.cons rfl (.cons rfl .nil))) ?_
  refine RK.seq ?_
  refine RK.region ?_
  refine RL.op (.free rfl) rfl rfl (Does.alloc i180) ?_
  rintro _ w1 ⟨b4, rfl, hn4⟩
  have hb4 := hn4.at_
  have hg4 := hn4.grow
  have hb4s := hn4.size
  refine RL.done ?_
  refine RK.seq ?_
  refine RK.region ?_
  iterate 2 refine RL.p rfl rfl ?_
  refine RL.op (.free rfl) rfl rfl (Does.call rfl e243 (atom_ok s hs p d hd g hg8 hgw _ i (h.mod hg4 (fun h => h)) hi h124 h41)) ?_
  rintro _ w2 ⟨⟨c, j, bad, rfl, hj, hP2, hno, hyes⟩, hm2⟩
  have hs12 := hm2.size
  refine RL.op (.free rfl) rfl rfl (Does.alloc i180) ?_
  rintro _ w3 ⟨b5, rfl, hn5⟩
  have hb5 := hn5.at_
  refine RL.op' (.free rfl) rfl (Does.storeN i180 rfl rfl rfl rfl hn5.blk (Nat.le_refl 6)) ?_
  rintro _ w4 ⟨hb5', hm4, _⟩
  have hB4 : Blk w4 b5 180 (celC c) := hb5'
  have hb4p : ¬ (b4 = p ∨ b4 = b5) := by omega
  have hb5p : b5 ≠ p := by omega
  have hP4 : PA w4 p s j bad := (hP2.mod hn5.grow (fun h => h)).mod hm4 (by omega)
  have hm24 : Mod (fun b => b = p ∨ b = b5) w2 w4 := (Mod.any' hn5.grow).trans (hm4.mono fun b _ e => .inr e)
  have hm14 : Mod (fun b => b = p ∨ b = b5) w1 w4 := (hm2.mono fun b _ e => .inl e).trans hm24
  have hl01 : ∀ b, Old w b → Old w1 b := fun b e => by unfold Old at *; omega
  have hMp : ∀ x, x < w.heap.size → (x = p ∨ x = b5) → x = p := fun x hx e => by omega
  have hpo : ∀ b, b < w2.heap.size → (b = p ∨ b = b5) → Old w1 b := fun b hb e => by unfold Old; omega
  refine RL.done ?_
  refine RK.seq ?_
  refine RK.block ?_
  refine RK.seq ?_
  refine RK.region ?_
  refine RL.p rfl rfl ?_
  refine RL.op (.free rfl) rfl rfl (Does.call rfl e218 (next_ok _ p s j bad hP4 (by omega) 42)) ?_
  rintro _ w5 ⟨rfl, hP5, hm5⟩
  have hB5 := hB4.mod hm5 hb5p
  have hm15 := hm14.trans (hm5.mono fun b _ e => .inl e)
  have hm25 := hm24.trans (hm5.mono fun b _ e => .inl e)
  refine RL.p rfl rfl ?_
  refine RL.done ?_
  first | refine RK.condD rfl (fun h9 => ?_) (fun h9 => ?_) | refine RK.condN rfl (fun h9 => ?_) (fun h9 => ?_) | refine RK.cond rfl (fun h9 => ?_) (fun h9 => ?_)
  · obtain ⟨hb, hjs, hjc⟩ : bad = false ∧ j < s.size ∧ b8 s j = 42 := by simpa [seesS] using h9
    subst hb
    have hsee : seesS s j false 42 = true := by simp [seesS, hjs, hjc]
    rw [hsee] at hP5
    refine RK.seq ?_
    refine RK.region ?_
    refine RL.q (.free rfl) rfl rfl (Yld.loadN (cs := celC c) a180 rfl (atN (blk0' hB5))) ?_
    refine RL.op (.free rfl) rfl rfl (Does.slice1 u178 i180 rfl rfl rfl rfl rfl) ?_
    rintro _ w16 ⟨b6, rfl, hn6⟩
    refine RL.q (.free rfl) rfl rfl (Yld.build (v := .agg #[.int .i64 4, .int .u64 0, .int .u64 0, .int .u64 0, .int .u64 0, .slice (some ⟨b6, 0, none⟩) 1 1]) rfl (fun w => by kernel_rfl)) ?_
    refine RL.op' (.free rfl) rfl (Does.storeN i180 rfl rfl rfl rfl ((hn4.blk.mod hm15 hb4p).mod hn6.grow (fun h => h)) (Nat.le_refl 6)) ?_
    rintro _ w19 ⟨hb19, hm19, _⟩
    obtain ⟨x, hx, hrx⟩ := hyes rfl
    have hres : factorS s g i = some (onlyS 4 x, j + 1) := by unfold factorS; rw [hx]; show some (oftS s x j) = _; unfold oftS; rw [if_pos hjs, if_pos hjc]
    have hP16 : PA w16 p s (j + 1) false := (hP5).mod hn6.grow (fun h => h)
    have hs5x := (hm15).size
    have hb6 := hn6.at_
    have hrx9 : RxV (Old w) w19 x [c] := RxV.off (fun b _ e => hl01 b e) x (RxV.mod hm19 (fun b _ e => by have e' : b = b4 := e; unfold Old; omega) x (RxV.grow hn6.grow x (RxV.mod hm25 (fun b hb e => hpo b hb e) x hrx)))
    have hsl9 : Sl (Old w) w19 (.slice (some ⟨b6, 0, none⟩) 1 1) 6 [c].length ([c].flatMap celC) := ((Sl.new (M := Old w1) hn6 6 1 rfl (by omega) (by unfold Old; omega)).mod (hm19.mono fun b _ e => by have e' : b = b4 := e; unfold Old; omega)).off (by omega) (fun b _ e => hl01 b e)
    refine RL.done ?_
    refine RK.ret_of Tryz.func235 (resC (cs := [.int .i64 4, .int .u64 0, .int .u64 0, .int .u64 0, .int .u64 0, .slice (some ⟨b6, 0, none⟩) 1 1]) rfl rfl a180 hb19) ?_ _
    exact ⟨_, rfl, ⟨⟨4, 0, 0, 0, 0, some ⟨b6, 0, none⟩, 1, 1⟩, j + 1, false, rfl, by omega, hP16.mod hm19 (by omega), fun e => (by cases e), fun _ => ⟨_, hres, _, _, _, [c], ⟨rfl, Nat.le_refl _⟩, hsl9, ⟨c, [], rfl, hrx9, rfl⟩⟩⟩, (((Mod.any' hg4 : Mod (· = p) w w1).then hm15 hMp).trans (Mod.any' hn6.grow)).then hm19 (fun b hb e => by have e' : b = b4 := e; omega)⟩
  · have h9' : seesS s j bad 42 = false := by simpa using h9
    rw [h9'] at hP5
    have hP5' : PA w5 p s j bad := hP5
    refine RK.seq ?_
    refine RK.region ?_
    refine RL.p rfl rfl ?_
    refine RL.op (.free rfl) rfl rfl (Does.call rfl e218 (next_ok _ p s j bad hP5' (by omega) 43)) ?_
    rintro _ w6 ⟨rfl, hP6, hm6⟩
    have hB6 := hB5.mod hm6 hb5p
    have hm16 := hm15.trans (hm6.mono fun b _ e => .inl e)
    have hm26 := hm25.trans (hm6.mono fun b _ e => .inl e)
    refine RL.p rfl rfl ?_
    refine RL.done ?_
    first | refine RK.condD rfl (fun h15 => ?_) (fun h15 => ?_) | refine RK.condN rfl (fun h15 => ?_) (fun h15 => ?_) | refine RK.cond rfl (fun h15 => ?_) (fun h15 => ?_)
    · obtain ⟨hb, hjs, hjc⟩ : bad = false ∧ j < s.size ∧ b8 s j = 43 := by simpa [seesS] using h15
      subst hb
      have hsee : seesS s j false 43 = true := by simp [seesS, hjs, hjc]
      rw [hsee] at hP6
      refine RK.seq ?_
      refine RK.region ?_
      refine RL.q (.free rfl) rfl rfl (Yld.loadN (cs := celC c) a180 rfl (atN (blk0' hB6))) ?_
      refine RL.op (.free rfl) rfl rfl (Does.slice1 u178 i180 rfl rfl rfl rfl rfl) ?_
      rintro _ w16 ⟨b6, rfl, hn6⟩
      refine RL.q (.free rfl) rfl rfl (Yld.build (v := .agg #[.int .i64 5, .int .u64 0, .int .u64 0, .int .u64 0, .int .u64 0, .slice (some ⟨b6, 0, none⟩) 1 1]) rfl (fun w => by kernel_rfl)) ?_
      refine RL.op' (.free rfl) rfl (Does.storeN i180 rfl rfl rfl rfl ((hn4.blk.mod hm16 hb4p).mod hn6.grow (fun h => h)) (Nat.le_refl 6)) ?_
      rintro _ w19 ⟨hb19, hm19, _⟩
      obtain ⟨x, hx, hrx⟩ := hyes rfl
      have hres : factorS s g i = some (onlyS 5 x, j + 1) := by unfold factorS; rw [hx]; show some (oftS s x j) = _; unfold oftS; rw [if_pos hjs, if_neg (by omega), if_pos hjc]
      have hP16 : PA w16 p s (j + 1) false := (hP6).mod hn6.grow (fun h => h)
      have hs5x := (hm16).size
      have hb6 := hn6.at_
      have hrx9 : RxV (Old w) w19 x [c] := RxV.off (fun b _ e => hl01 b e) x (RxV.mod hm19 (fun b _ e => by have e' : b = b4 := e; unfold Old; omega) x (RxV.grow hn6.grow x (RxV.mod hm26 (fun b hb e => hpo b hb e) x hrx)))
      have hsl9 : Sl (Old w) w19 (.slice (some ⟨b6, 0, none⟩) 1 1) 6 [c].length ([c].flatMap celC) := ((Sl.new (M := Old w1) hn6 6 1 rfl (by omega) (by unfold Old; omega)).mod (hm19.mono fun b _ e => by have e' : b = b4 := e; unfold Old; omega)).off (by omega) (fun b _ e => hl01 b e)
      refine RL.done ?_
      refine RK.ret_of Tryz.func235 (resC (cs := [.int .i64 5, .int .u64 0, .int .u64 0, .int .u64 0, .int .u64 0, .slice (some ⟨b6, 0, none⟩) 1 1]) rfl rfl a180 hb19) ?_ _
      exact ⟨_, rfl, ⟨⟨5, 0, 0, 0, 0, some ⟨b6, 0, none⟩, 1, 1⟩, j + 1, false, rfl, by omega, hP16.mod hm19 (by omega), fun e => (by cases e), fun _ => ⟨_, hres, _, _, _, [c], ⟨rfl, Nat.le_refl _⟩, hsl9, ⟨c, [], rfl, hrx9, rfl⟩⟩⟩, (((Mod.any' hg4 : Mod (· = p) w w1).then hm16 hMp).trans (Mod.any' hn6.grow)).then hm19 (fun b hb e => by have e' : b = b4 := e; omega)⟩
    · have h15' : seesS s j bad 43 = false := by simpa using h15
      rw [h15'] at hP6
      have hP6' : PA w6 p s j bad := hP6
      refine RK.seq ?_
      refine RK.region ?_
      refine RL.p rfl rfl ?_
      refine RL.op (.free rfl) rfl rfl (Does.call rfl e218 (next_ok _ p s j bad hP6' (by omega) 63)) ?_
      rintro _ w7 ⟨rfl, hP7, hm7⟩
      have hB7 := hB6.mod hm7 hb5p
      have hm17 := hm16.trans (hm7.mono fun b _ e => .inl e)
      have hm27 := hm26.trans (hm7.mono fun b _ e => .inl e)
      refine RL.p rfl rfl ?_
      refine RL.done ?_
      first | refine RK.condD rfl (fun h21 => ?_) (fun h21 => ?_) | refine RK.condN rfl (fun h21 => ?_) (fun h21 => ?_) | refine RK.cond rfl (fun h21 => ?_) (fun h21 => ?_)
      · obtain ⟨hb, hjs, hjc⟩ : bad = false ∧ j < s.size ∧ b8 s j = 63 := by simpa [seesS] using h21
        subst hb
        have hsee : seesS s j false 63 = true := by simp [seesS, hjs, hjc]
        rw [hsee] at hP7
        refine RK.seq ?_
        refine RK.region ?_
        refine RL.q (.free rfl) rfl rfl (Yld.loadN (cs := celC c) a180 rfl (atN (blk0' hB7))) ?_
        refine RL.op (.free rfl) rfl rfl (Does.slice1 u178 i180 rfl rfl rfl rfl rfl) ?_
        rintro _ w16 ⟨b6, rfl, hn6⟩
        refine RL.q (.free rfl) rfl rfl (Yld.build (v := .agg #[.int .i64 6, .int .u64 0, .int .u64 0, .int .u64 0, .int .u64 0, .slice (some ⟨b6, 0, none⟩) 1 1]) rfl (fun w => by kernel_rfl)) ?_
        refine RL.op' (.free rfl) rfl (Does.storeN i180 rfl rfl rfl rfl ((hn4.blk.mod hm17 hb4p).mod hn6.grow (fun h => h)) (Nat.le_refl 6)) ?_
        rintro _ w19 ⟨hb19, hm19, _⟩
        obtain ⟨x, hx, hrx⟩ := hyes rfl
        have hres : factorS s g i = some (onlyS 6 x, j + 1) := by unfold factorS; rw [hx]; show some (oftS s x j) = _; unfold oftS; rw [if_pos hjs, if_neg (by omega), if_neg (by omega), if_pos hjc]
        have hP16 : PA w16 p s (j + 1) false := (hP7).mod hn6.grow (fun h => h)
        have hs5x := (hm17).size
        have hb6 := hn6.at_
        have hrx9 : RxV (Old w) w19 x [c] := RxV.off (fun b _ e => hl01 b e) x (RxV.mod hm19 (fun b _ e => by have e' : b = b4 := e; unfold Old; omega) x (RxV.grow hn6.grow x (RxV.mod hm27 (fun b hb e => hpo b hb e) x hrx)))
        have hsl9 : Sl (Old w) w19 (.slice (some ⟨b6, 0, none⟩) 1 1) 6 [c].length ([c].flatMap celC) := ((Sl.new (M := Old w1) hn6 6 1 rfl (by omega) (by unfold Old; omega)).mod (hm19.mono fun b _ e => by have e' : b = b4 := e; unfold Old; omega)).off (by omega) (fun b _ e => hl01 b e)
        refine RL.done ?_
        refine RK.ret_of Tryz.func235 (resC (cs := [.int .i64 6, .int .u64 0, .int .u64 0, .int .u64 0, .int .u64 0, .slice (some ⟨b6, 0, none⟩) 1 1]) rfl rfl a180 hb19) ?_ _
        exact ⟨_, rfl, ⟨⟨6, 0, 0, 0, 0, some ⟨b6, 0, none⟩, 1, 1⟩, j + 1, false, rfl, by omega, hP16.mod hm19 (by omega), fun e => (by cases e), fun _ => ⟨_, hres, _, _, _, [c], ⟨rfl, Nat.le_refl _⟩, hsl9, ⟨c, [], rfl, hrx9, rfl⟩⟩⟩, (((Mod.any' hg4 : Mod (· = p) w w1).then hm17 hMp).trans (Mod.any' hn6.grow)).then hm19 (fun b hb e => by have e' : b = b4 := e; omega)⟩
      · have h21' : seesS s j bad 63 = false := by simpa using h21
        rw [h21'] at hP7
        have hP7' : PA w7 p s j bad := hP7
        refine RK.skip ?_
        refine RK.inBlock ?_
        refine RK.seq ?_
        refine RK.region ?_
        refine RL.q (.free rfl) rfl rfl (Yld.loadN (cs := celC c) a180 rfl (atN (blk0' hB7))) ?_
        refine RL.op' (.free rfl) rfl (Does.storeN i180 rfl rfl rfl rfl (hn4.blk.mod hm17 hb4p) (Nat.le_refl 6)) ?_
        rintro _ w19 ⟨hb19, hm19, _⟩
        refine RL.done ?_
        refine RK.ret_of Tryz.func235 (resC (cs := celC c) rfl rfl a180 hb19) ?_ _
        exact ⟨_, rfl, ⟨c, j, bad, rfl, hj, hP7'.mod hm19 (by omega), fun e => by unfold factorS; rw [hno e]; rfl, fun e => by
            obtain ⟨x, hx, hrx⟩ := hyes e
            have h1 : ¬ (j < s.size ∧ b8 s j = 42) := fun h => by simp [seesS, e, h] at h9'
            have h2 : ¬ (j < s.size ∧ b8 s j = 43) := fun h => by simp [seesS, e, h] at h15'
            have h3 : ¬ (j < s.size ∧ b8 s j = 63) := fun h => by simp [seesS, e, h] at h21'
            refine ⟨x, ?_, RxV.off (fun b _ e => hl01 b e) x (RxV.mod hm19 (fun b _ e => by have e' : b = b4 := e; unfold Old; omega) x (RxV.mod hm27 (fun b hb e => hpo b hb e) x hrx))⟩
            unfold factorS
            rw [hx]
            show some (oftS s x j) = _
            unfold oftS
            by_cases hjs : j < s.size
            · rw [if_pos hjs, if_neg (fun h => h1 ⟨hjs, h⟩), if_neg (fun h => h2 ⟨hjs, h⟩), if_neg (fun h => h3 ⟨hjs, h⟩)]
            · rw [if_neg hjs]⟩, ((Mod.any' hg4 : Mod (· = p) w w1).then hm17 hMp).then hm19 (fun b hb e => by have e' : b = b4 := e; omega)⟩
end Go.Proofs.YtbcbfjnlnmhpbaaGreat
