/- What the claim stands on, part 6. Of own lemmas only those that it reaches. -/
import Derived.Test.YtffbcfcoddacmaaGreatKw5
set_option linter.unusedVariables false
set_option linter.unusedSimpArgs false
set_option maxHeartbeats 1000000
set_option maxRecDepth 100000
namespace Go.Proofs.YtffbcfcoddacmaaGreat
open Go Go.X Go.Rex
abbrev bls (xs : List Bool) : List Value := xs.map Value.bool
abbrev SlB (M : Nat → Prop) (w : World) (v : Value) (xs : List Bool) : Prop := Sl M w v 1 xs.length (bls xs)
theorem bls_get {xs : List Bool} {k : Nat} {b : Bool} (h : xs[k]? = some b) : (bls xs)[k]? = some (.bool b) := by simp [h]
theorem set_take_bool {xs ys : List Bool} {k : Nat} {b : Bool} (hl : xs.length = ys.length) (hy : ys[k]? = some b) : (ys.take k ++ xs.drop k).set k b = ys.take (k + 1) ++ xs.drop (k + 1) := by
  have hk := (List.getElem?_eq_some_iff.1 hy).1
  rw [List.drop_eq_getElem_cons (by omega : k < xs.length), List.set_append_right _ _ (by simp; omega)]
  have e : k - (ys.take k).length = 0 := by simp; omega
  rw [e, List.set_cons_zero, List.take_succ_eq_append_getElem hk, (List.getElem?_eq_some_iff.1 hy).2]
  simp
theorem joinL_ok (M : Nat → Prop) (xs ys : List Bool) (hl : xs.length = ys.length) (hb : xs.length ≤ 1000000) (v u : Value) (w : World) (hv : SlB M w v xs) (hu : SlB M w u ys) : Fx Tryz.prog 259 [v, u] w (fun z w' => SlB No w' z (joinS xs ys) ∧ Grow w w') := by
  obtain ⟨ad, c, rfl⟩ := hv.shape
  obtain ⟨ad2, c2, rfl⟩ := hu.shape
  have hjl := joinS_len hl
  refine enter Tryz.func259 rfl rfl rfl _ (Pick.sub (l := [0, 1]) (.cons rfl (.cons rfl .nil))) ?_
  refine RK.seq ?_
  refine RK.region ?_
  refine RL.p rfl rfl ?_
  refine RL.done ?_
  refine RK.seq ?_
  refine RK.region ?_
  refine RL.p rfl rfl ?_
  refine RL.q (.free rfl) rfl rfl (Yld.lenSl u270 rfl) ?_
  refine RL.op (.free rfl) rfl rfl (Does.mkSlice u270 i4 rfl rfl rfl (by omega) (by omega)) ?_
  rintro _ w1 ⟨b, rfl, hn1⟩
  have hb1 := hn1.at_
  have hB0 : Blk w1 b 4 (bls ((joinS xs ys).take 0 ++ (List.replicate xs.length false).drop 0)) := by simpa using hn1.blk
  refine RL.p rfl rfl ?_
  refine RL.done ?_
  iterate 2 refine RK.seq ?_
  refine RK.region ?_
  refine RL.p rfl rfl ?_
  refine RL.done ?_
  refine RK.block ?_
  refine RK.loop (fun k : Nat => [(0, .slice ad xs.length c), (1, .slice ad2 ys.length c2), (5, .slice (some ⟨b, 0, none⟩) xs.length xs.length), (6, .int .i64 (k : Int))]) (fun k w' => k ≤ xs.length ∧ Blk w' b 4 (bls ((joinS xs ys).take k ++ (List.replicate xs.length false).drop k)) ∧ Mod (· = b) w1 w') (fun k => xs.length - k) 0 ⟨rfl, rfl, rfl, rfl, trivial⟩ ⟨by omega, hB0, Mod.refl _ _⟩ (fun k w2 hI ih => ?_)
  obtain ⟨hk, hB, hm⟩ := hI
  have hg2 : Grow w w2 := hn1.grow.then hm (fun y hy e => by have e' : y = b := e; omega)
  iterate 2 refine RK.seq ?_
  refine RK.region ?_
  iterate 2 refine RL.p rfl rfl ?_
  refine RL.q (.free rfl) rfl rfl (Yld.lenSl u270 rfl) ?_
  refine RL.p rfl rfl ?_
  refine RL.done ?_
  first | refine RK.condD rfl (fun h13 => ?_) (fun h13 => ?_) | refine RK.condN rfl (fun h13 => ?_) (fun h13 => ?_) | refine RK.cond rfl (fun h13 => ?_) (fun h13 => ?_)
  · obtain ⟨x, hx⟩ : ∃ x, xs[k]? = some x := ⟨xs[k]'(by omega), List.getElem?_eq_getElem (by omega)⟩
    obtain ⟨y, hy⟩ : ∃ y, ys[k]? = some y := ⟨ys[k]'(by omega), List.getElem?_eq_getElem (by omega)⟩
    obtain ⟨b3, o3, c3, he3, _, _, hc3⟩ := hv.elem1 (bls_get hx)
    cases he3
    obtain ⟨b4, o4, c4, he4, _, _, hc4⟩ := hu.elem1 (bls_get hy)
    cases he4
    have hz : (joinS xs ys)[k]? = some (x || y) := by unfold joinS; rw [List.getElem?_zipWith, hx, hy]
    refine RK.skip ?_
    refine RK.seq ?_
    refine RK.block ?_
    refine RK.region ?_
    iterate 4 refine RL.p rfl rfl ?_
    refine RL.q (.free rfl) rfl rfl (Yld.indexAddrN u270 i4 rfl rfl (by omega)) ?_
    refine RL.q (.free rfl) rfl rfl (Yld.load p4 rfl (at1 (hg2.cell (hc3 k _ (bls_get hx)) (fun h => h)))) ?_
    refine RL.p rfl rfl ?_
    first | refine RL.splitD (d := 22) rfl rfl (fun h22 => ?_) (fun h22 => ?_) | refine RL.splitN (d := 22) rfl rfl (fun h22 => ?_) (fun h22 => ?_) | refine RL.split (d := 22) rfl rfl (fun h22 => ?_) (fun h22 => ?_)
    · have hzt : (joinS xs ys)[k]? = some true := by rw [hz, h22]; rfl
      iterate 4 refine RL.no (.no rfl rfl rfl rfl) rfl rfl ?_
      refine RL.p rfl rfl ?_
      refine RL.q (.free rfl) rfl rfl (Yld.indexAddrN u270 i4 rfl rfl (by omega)) ?_
      refine RL.op' (.free rfl) rfl (Does.store i4 rfl rfl rfl hB (setAt_of (by simp [hjl]; omega))) ?_
      rintro _ w3 ⟨hb3, hm3, _⟩
      refine RL.done ?_
      refine RK.inBlock ?_
      refine RK.region ?_
      iterate 2 refine RL.p rfl rfl ?_
      refine RL.re (d := 15) rfl rfl (succ_i64 (by omega)) ?_
      refine RL.p rfl rfl ?_
      refine RL.done ?_
      exact RK.back (ih (k + 1) _ ⟨by omega, by rw [Nat.zero_add, Nat.mul_one, ← List.map_set, set_take_bool (by simp [hjl]) hzt] at hb3; exact hb3, hm.trans hm3⟩ (by omega)) ⟨rfl, rfl, rfl, rfl, trivial⟩
    · have hzt : (joinS xs ys)[k]? = some y := by rw [hz, h22]; rfl
      iterate 2 refine RL.q (.yes rfl rfl rfl) rfl rfl (Yld.pure rfl) ?_
      refine RL.q (.yes rfl rfl rfl) rfl rfl (Yld.indexAddrN u270 i4 rfl rfl (by omega)) ?_
      refine RL.q (.yes rfl rfl rfl) rfl rfl (Yld.load p4 rfl (at1 (hg2.cell (hc4 k _ (bls_get hy)) (fun h => h)))) ?_
      refine RL.p rfl rfl ?_
      refine RL.q (.free rfl) rfl rfl (Yld.indexAddrN u270 i4 rfl rfl (by omega)) ?_
      refine RL.op' (.free rfl) rfl (Does.store i4 rfl rfl rfl hB (setAt_of (by simp [hjl]; omega))) ?_
      rintro _ w3 ⟨hb3, hm3, _⟩
      refine RL.done ?_
      refine RK.inBlock ?_
      refine RK.region ?_
      iterate 2 refine RL.p rfl rfl ?_
      refine RL.re (d := 15) rfl rfl (succ_i64 (by omega)) ?_
      refine RL.p rfl rfl ?_
      refine RL.done ?_
      exact RK.back (ih (k + 1) _ ⟨by omega, by rw [Nat.zero_add, Nat.mul_one, ← List.map_set, set_take_bool (by simp [hjl]) hzt] at hb3; exact hb3, hm.trans hm3⟩ (by omega)) ⟨rfl, rfl, rfl, rfl, trivial⟩
  · have hke : k = xs.length := by omega
    rw [hke, List.take_of_length_le (by omega), List.drop_eq_nil_of_le (by simp), List.append_nil] at hB
    refine RK.exit rfl ?_
    refine RK.seq ?_
    refine RK.region ?_
    iterate 2 refine RL.p rfl rfl ?_
    refine RL.done ?_
    refine RK.ret_of Tryz.func259 (res1 rfl rfl) ?_ _
    exact ⟨_, rfl, ⟨by simp [hjl], by omega, _, _, by rw [hjl], fun _ => ⟨b, 0, rfl, fun h => h, fun j u hj => by rw [Nat.zero_add]; exact hB.cell' hj⟩⟩, hg2⟩
theorem sameL_ok (M : Nat → Prop) (xs ys : List Bool) (hl : xs.length = ys.length) (v u : Value) (w : World) (hv : SlB M w v xs) (hu : SlB M w u ys) : Fx Tryz.prog 260 [v, u] w (fun z w' => z = .bool (decide (xs = ys)) ∧ Grow w w') := by
  obtain ⟨ad, c, rfl⟩ := hv.shape
  obtain ⟨ad2, c2, rfl⟩ := hu.shape
  have hbig := hv.big
  refine enter Tryz.func260 rfl rfl rfl _ (Pick.sub (l := [0, 1]) (.cons rfl (.cons rfl .nil))) ?_
  refine RK.seq ?_
  refine RK.region ?_
  refine RL.p rfl rfl ?_
  refine RL.done ?_
  iterate 2 refine RK.seq ?_
  refine RK.region ?_
  refine RL.p rfl rfl ?_
  refine RL.done ?_
  refine RK.block ?_
  refine RK.loop (fun k : Nat => [(0, .slice ad xs.length c), (1, .slice ad2 ys.length c2), (5, .int .i64 (k : Int))]) (fun k w' => k ≤ xs.length ∧ Grow w w' ∧ xs.take k = ys.take k) (fun k => xs.length - k) 0 ⟨rfl, rfl, rfl, trivial⟩ ⟨by omega, Mod.refl _ _, by simp⟩ (fun k w2 hI ih => ?_)
  obtain ⟨hk, hg2, he⟩ := hI
  iterate 2 refine RK.seq ?_
  refine RK.region ?_
  iterate 2 refine RL.p rfl rfl ?_
  refine RL.q (.free rfl) rfl rfl (Yld.lenSl u270 rfl) ?_
  refine RL.p rfl rfl ?_
  refine RL.done ?_
  first | refine RK.condD rfl (fun h9 => ?_) (fun h9 => ?_) | refine RK.condN rfl (fun h9 => ?_) (fun h9 => ?_) | refine RK.cond rfl (fun h9 => ?_) (fun h9 => ?_)
  · obtain ⟨x, hx⟩ : ∃ x, xs[k]? = some x := ⟨xs[k]'(by omega), List.getElem?_eq_getElem (by omega)⟩
    obtain ⟨y, hy⟩ : ∃ y, ys[k]? = some y := ⟨ys[k]'(by omega), List.getElem?_eq_getElem (by omega)⟩
    obtain ⟨b3, o3, c3, he3, _, _, hc3⟩ := hv.elem1 (bls_get hx)
    cases he3
    obtain ⟨b4, o4, c4, he4, _, _, hc4⟩ := hu.elem1 (bls_get hy)
    cases he4
    refine RK.skip ?_
    refine RK.seq ?_
    refine RK.block ?_
    refine RK.seq ?_
    refine RK.drawM No [(0, false), (1, false), (2, false), (3, false), (4, false), (5, false), (6, false), (7, false), (8, false)] [] mixed (by kernel_rfl) ?_
    iterate 2 refine DL.p rfl rfl rfl ?_
    refine DL.qf rfl (.free rfl) rfl rfl (Yld.indexAddrN u270 i4 rfl rfl (by omega)) ?_
    refine DL.q rfl (.free rfl) rfl rfl rfl (Yld.load p4 rfl (atM (hg2.cell (hc3 k _ (bls_get hx)) (fun h => h)) (fun h => h))) (Mod.drew _ _) ?_
    iterate 2 refine DL.p rfl rfl rfl ?_
    refine DL.qf rfl (.free rfl) rfl rfl (Yld.indexAddrN u270 i4 rfl rfl (by omega)) ?_
    refine DL.q rfl (.free rfl) rfl rfl rfl (Yld.load p4 rfl (atM (hg2.cell (hc4 k _ (bls_get hy)) (fun h => h)) (fun h => h))) (Mod.drew _ _) ?_
    refine DL.qf rfl (.free rfl) rfl rfl (Yld.neqBool u4 rfl rfl) ?_
    refine DL.done ?_
    first | refine RK.condD rfl (fun h20 => ?_) (fun h20 => ?_) | refine RK.condN rfl (fun h20 => ?_) (fun h20 => ?_) | refine RK.cond rfl (fun h20 => ?_) (fun h20 => ?_)
    · have hne : x ≠ y := by have h := h20; simpa using h
      refine RK.seq ?_
      refine RK.region ?_
      refine RL.p rfl rfl ?_
      refine RL.done ?_
      refine RK.ret_of Tryz.func260 (res1 rfl rfl) ?_ _
      exact ⟨_, rfl, congrArg _ (decide_eq_false (fun e => by subst e; rw [hx] at hy; cases hy; exact hne rfl)).symm, hg2.trans (Mod.drew _ _)⟩
    · have hxy : x = y := by have h := h20; simpa using h
      subst hxy
      refine RK.skip ?_
      refine RK.inBlock ?_
      refine RK.region ?_
      iterate 2 refine RL.p rfl rfl ?_
      refine RL.re (d := 11) rfl rfl (succ_i64 (by omega)) ?_
      refine RL.p rfl rfl ?_
      refine RL.done ?_
      exact RK.back (ih (k + 1) _ ⟨by omega, hg2.trans (Mod.drew _ _), by rw [List.take_succ_eq_append_getElem (by omega), List.take_succ_eq_append_getElem (by omega), he, (List.getElem?_eq_some_iff.1 hx).2, (List.getElem?_eq_some_iff.1 hy).2]⟩ (by omega)) ⟨rfl, rfl, rfl, trivial⟩
  · refine RK.exit rfl ?_
    refine RK.seq ?_
    refine RK.region ?_
    refine RL.p rfl rfl ?_
    refine RL.done ?_
    refine RK.ret_of Tryz.func260 (res1 rfl rfl) ?_ _
    exact ⟨_, rfl, congrArg _ (decide_eq_true (by rw [List.take_of_length_le (by omega), List.take_of_length_le (by omega)] at he; exact he)).symm, hg2⟩
theorem setHas_ok (t : List Nat) (hw : W4 t) (c : Nat) (hc : c < 256) (w : World) : Fx Tryz.prog 258 [.agg (wds t).toArray, .int .u8 (c : Int)] w (fun u w' => u = .bool (inB t c) ∧ Grow w w') := by
  obtain ⟨x0, x1, x2, x3, rfl⟩ := W4.four hw
  have e1 : IntKind.u8.wrap ((c : Int).tdiv 64) = ((c / 64 : Nat) : Int) := by
    have e2 : (c : Int).tdiv 64 = ((c / 64 : Nat) : Int) := by rw [Int.tdiv_eq_ediv_of_nonneg (by omega)]; omega
    rw [e2]; exact Go.X.wrap_u8 (by omega)
  have e3 : (c : Int).tmod 64 = ((c % 64 : Nat) : Int) := by rw [Int.tmod_eq_emod_of_nonneg (by omega)]; omega
  obtain ⟨y, hy⟩ : ∃ y, [x0, x1, x2, x3][c / 64]? = some y := ⟨_, List.getElem?_eq_getElem (by show c / 64 < 4; omega)⟩
  have hyl := hw.2 y (List.mem_of_getElem? hy)
  have hin : inB [x0, x1, x2, x3] c = y.testBit (c % 64) := by unfold inB; rw [hy]; rfl
  refine enter Tryz.func258 rfl rfl rfl _ (Pick.sub (l := [0, 1]) (.cons rfl (.cons rfl .nil))) ?_
  refine RK.seq ?_
  refine RK.region ?_
  refine RL.op (.free rfl) rfl rfl (Does.box rfl) ?_
  rintro _ w1 ⟨b1, rfl, hn1⟩
  have hB1 : Blk w1 b1 207 (wds [x0, x1, x2, x3]) := hn1.blk
  refine RL.p rfl rfl ?_
  refine RL.done ?_
  refine RK.seq ?_
  refine RK.region ?_
  refine RL.p rfl rfl ?_
  refine RL.q (.free rfl) rfl rfl (Yld.quo rfl rfl (by omega)) ?_
  refine RL.re (d := 6) rfl rfl (congrArg (Value.int .u8) e1) ?_
  refine RL.q (.free rfl) rfl rfl (Yld.indexArr Tryz.underlying207 i36 rfl rfl (by omega)) ?_
  refine RL.q (.free rfl) rfl rfl (Yld.load p36 rfl (at1 (hB1.at1 (v := .int .u64 (y : Int)) (by rw [List.getElem?_map, hy]; rfl)))) ?_
  refine RL.p rfl rfl ?_
  refine RL.q (.free rfl) rfl rfl (Yld.rem rfl rfl (by omega)) ?_
  refine RL.re (d := 10) rfl rfl (congrArg (Value.int .u8) e3) ?_
  refine RL.q (.free rfl) rfl rfl (Yld.convI Tryz.underlying5 Tryz.underlying193 rfl) ?_
  refine RL.re (d := 11) rfl rfl (congrArg (Value.int .u64) (Go.X.wrap_u64 (x := c % 64) (by omega))) ?_
  refine RL.q (.free rfl) rfl rfl (Yld.shr rfl rfl (by simp [IntKind.bits]; omega)) ?_
  refine RL.p rfl rfl ?_
  refine RL.re (d := 13) rfl rfl (congrArg (Value.int .u64) (Go.X.u64_and (b := 1) (shr64 hyl (c % 64)) (by decide))) ?_
  iterate 2 refine RL.p rfl rfl ?_
  refine RL.done ?_
  refine RK.ret_of Tryz.func258 (res1 rfl rfl) ?_ _
  exact ⟨_, rfl, congrArg _ (by rw [hin, Bool.eq_iff_iff, decide_eq_true_eq]; exact bit1I y (c % 64)), hn1.grow⟩
def setO (s : ByteArray) (t : List Nat) (f : List Bool) : List Bool := false :: (List.range s.size).map fun i => (f[i]?).getD false && inB t (b8 s i)
theorem setO_ends (s : ByteArray) (t : List Nat) (f : List Bool) (hf : f.length = s.size + 1) : Endz (Lg (HS s) (.set t) true) s.size f (setO s t f) := by
  refine ⟨by simp [setO], fun j => ?_⟩
  unfold setO
  cases j with
  | zero =>
    simp only [List.getElem?_cons_zero, Option.some.injEq, Bool.false_eq_true, false_iff, Lg, not_and, not_exists]
    rintro _ i _ _ h
    omega
  | succ j =>
    simp only [List.getElem?_cons_succ, List.getElem?_map, Lg]
    constructor
    · intro h
      obtain ⟨i, hi, h2⟩ := Option.map_eq_some_iff.1 h
      have hj := (List.getElem?_eq_some_iff.1 hi).1
      simp at hj
      rw [List.getElem?_range hj] at hi
      cases hi
      simp only [Bool.and_eq_true] at h2
      refine ⟨by omega, j, ?_, ⟨hj, h2.2⟩, rfl⟩
      cases hq : f[j]? with
      | none => rw [hq] at h2; simp at h2
      | some q => rw [hq] at h2; simpa using h2.1
    · rintro ⟨_, i, hi, ⟨h1, h2⟩, h3⟩
      have : i = j := by omega
      subst this
      rw [List.getElem?_range h1]
      simp [hi, h2]
theorem rt_iff {R S : Nat → Nat → Prop} (h : ∀ i j, R i j → S i j) {i j : Nat} (hr : Rt R i j) : Rt S i j := by
  induction hr with
  | refl => exact .refl _
  | step h1 _ ih => exact .step (h _ _ h1) ih
def afterC (s : ByteArray) (x : Rx) : Prop := ∀ (M : Nat → Prop) (c : Cel) (v : Value) (f : List Bool) (w : World), RxV M w x [c] → SlB No w v f → f.length = s.size + 1 → Fx Tryz.prog 243 [.agg (celC c).toArray, .string s, v] w (fun u w' => (∃ o, Endz (Lg (HS s) x true) s.size f o ∧ SlB No w' u o) ∧ Grow w w')
theorem lg_fwd {s : ByteArray} (x : Rx) : ∀ i j, Lg (HS s) x true i j → i ≤ j := fun i j h => Lg.fwd x true i j h
theorem after_ok (s : ByteArray) (hs : s.size ≤ 100000) : ∀ (m : Nat) (x : Rx), hiR x ≤ m → Tr false x → afterC s x
  | 0, .set _, h, _ => by simp [hiR] at h
  | 0, .node _ _, h, _ => by simp [hiR] at h
  | 0, .nil, _, ht => ht.elim
  | 0, .cons _ _, _, ht => ht.elim
  | m + 1, x, hx, ht => by
    intro M k v f w hxv hv hf
    obtain ⟨op, a, b, c, d, ad, n, cap, l, kss, rfl, h⟩ := hxv.open ht
    have hkind := h.kind
    have hn := h.n
    have hlen := h.len
    have hbig := h.sl.big
    obtain ⟨adv, cv, rfl⟩ := hv.shape
    have hkl : (kidsR l).length = n := by rw [kids_len]; omega
    have hgood := kids_tr h.tr
    refine enter Tryz.func243 rfl rfl rfl _ (Pick.sub (l := [0, 1, 2]) (.cons rfl (.cons rfl (.cons rfl .nil)))) ?_
    refine RK.seq ?_
    refine RK.region ?_
    refine RL.op (.free rfl) rfl rfl (Does.box rfl) ?_
    rintro _ w1 ⟨b3, rfl, hn3⟩
    have hb3 := hn3.at_
    have hB3 : Blk w1 b3 210 [.int .i64 op, .int .u64 (a : Int), .int .u64 (b : Int), .int .u64 (c : Int), .int .u64 (d : Int), .slice ad n cap] := hn3.blk
    refine RL.p rfl rfl ?_
    refine RL.done ?_
    refine RK.seq ?_
    refine RK.region ?_
    refine RL.p rfl rfl ?_
    refine RL.q (.free rfl) rfl rfl (Yld.lenStr u9 rfl) ?_
    refine RL.p rfl rfl ?_
    refine RL.re (d := 16) rfl rfl (succ_i64 (by omega)) ?_
    refine RL.op (.free rfl) rfl rfl (Does.mkSlice u270 i4 rfl rfl rfl (by omega) (by omega)) ?_
    rintro _ w2 ⟨b7, rfl, hn7⟩
    have hb7 := hn7.at_
    have hs1 := hn3.size
    have hg2 := hn3.grow.trans hn7.grow
    have hB2 := hB3.mod hn7.grow (fun h => h)
    have hv2 := hv.mod hg2
    have hb37 : b3 ≠ b7 := by omega
    refine RL.p rfl rfl ?_
    refine RL.done ?_
    iterate 2 refine RK.seq ?_
    refine RK.region ?_
    refine RL.q (.free rfl) rfl rfl (Yld.fieldAddr fo210_0 rfl) ?_
    refine RL.q (.free rfl) rfl rfl (Yld.load p3 rfl (at1 (hB2.cell rfl))) ?_
    refine RL.done ?_
    refine RK.cutS (fun u : Value => [(1, .string s), (3, pp b3), (7, u)]) (fun u w' => ∃ (y : Rx) (o0 : List Bool), l = .cons y .nil ∧ o0.length = s.size + 1 ∧ SlB No w' u o0 ∧ Grow w w' ∧ Blk w' b3 210 [.int .i64 op, .int .u64 (a : Int), .int .u64 (b : Int), .int .u64 (c : Int), .int .u64 (d : Int), .slice ad n cap] ∧ (∀ res, Endz (Rt (Lg (HS s) y true)) s.size o0 res → Endz (Lg (HS s) x true) s.size f res) ∧ afterC s y) (fun u w3 hQ => ?_) (fun hj => ?_)
    · obtain ⟨y, o0, rfl, ho0, hu, hg3, hBx, hfin, hay⟩ := hQ
      have hn1 : n = 1 := by rw [hn, hlen]; rfl
      have hR := lg_fwd (s := s) y
      iterate 2 refine RK.seq ?_
      refine RK.region ?_
      refine RL.p rfl rfl ?_
      refine RL.done ?_
      refine RK.block ?_
      refine RK.loop (fun t : Nat × Value => [(1, .string s), (3, pp b3), (7, t.2), (12, .int .i64 (t.1 : Int))]) (fun t w' => t.1 ≤ s.size + 1 ∧ Grow w3 w' ∧ ∃ o, Endz (RtLe (Lg (HS s) y true) t.1) s.size o0 o ∧ SlB No w' t.2 o) (fun t => s.size + 1 - t.1) (0, u) ⟨rfl, rfl, rfl, rfl, trivial⟩ ⟨by simp, Mod.refl _ _, o0, (Endz.id ho0).iff (fun i j => ⟨fun e => ⟨0, Nat.le_refl _, e ▸ .zero _⟩, fun ⟨q, hq, hr⟩ => by have hq0 : q = 0 := (by simpa using hq); subst hq0; cases hr; rfl⟩), hu⟩ (fun t w4 hI ih => ?_)
      obtain ⟨r, u4⟩ := t
      obtain ⟨hr, hg4, o, hE, hu4⟩ := hI
      simp only at hr hE hu4
      obtain ⟨ad4, c4, rfl⟩ := hu4.shape
      iterate 2 refine RK.seq ?_
      refine RK.region ?_
      iterate 2 refine RL.p rfl rfl ?_
      refine RL.q (.free rfl) rfl rfl (Yld.lenStr u9 rfl) ?_
      refine RL.p rfl rfl ?_
      refine RL.done ?_
      first | refine RK.condD rfl (fun h113 => ?_) (fun h113 => ?_) | refine RK.condN rfl (fun h113 => ?_) (fun h113 => ?_) | refine RK.cond rfl (fun h113 => ?_) (fun h113 => ?_)
      · obtain ⟨ck, y', b5, o5, rfl, hyk, _, hyt, hyv, _, hcl⟩ := h.kid (k := 0) (by omega)
        have hyy : y' = y := by simpa [kidsR] using hyk.symm
        subst hyy
        have hgw := hg3.trans hg4
        refine RK.skip ?_
        refine RK.seq ?_
        refine RK.block ?_
        refine RK.seq ?_
        refine RK.region ?_
        refine RL.p rfl rfl ?_
        refine RL.q (.free rfl) rfl rfl (Yld.fieldAddr fo210_2 rfl) ?_
        refine RL.q (.free rfl) rfl rfl (Yld.load p208 rfl (at1 ((hBx.mod hg4 (fun h => h)).cell rfl))) ?_
        refine RL.q (.free rfl) rfl rfl (Yld.indexAddr u208 i210 rfl rfl (by omega) (by omega)) ?_
        refine RL.q (.free rfl) rfl rfl (Yld.loadN (cs := celC ck) a210 rfl (atN (hcl _ hgw))) ?_
        iterate 2 refine RL.p rfl rfl ?_
        refine RL.op (.free rfl) rfl rfl (Does.call rfl e243 (hay M ck _ o _ (RxV.grow hgw _ hyv) hu4 hE.1)) ?_
        rintro u5 w5 ⟨⟨o1, hE1, hu5⟩, hg5⟩
        obtain ⟨ad5, c5, rfl⟩ := hu5.shape
        have hol : o.length = o1.length := by rw [hE.1, hE1.1]
        refine RL.op (.free rfl) rfl rfl (Does.call rfl e259 (joinL_ok No o o1 hol (by rw [hE.1]; omega) _ _ _ (hu4.mod hg5) hu5)) ?_
        rintro u6 w6 ⟨hu6, hg6⟩
        have hjl := joinS_len hol
        refine RL.p rfl rfl ?_
        refine RL.done ?_
        iterate 2 refine RK.seq ?_
        refine RK.region ?_
        iterate 2 refine RL.p rfl rfl ?_
        refine RL.op (.free rfl) rfl rfl (Does.call rfl e260 (sameL_ok No (joinS o o1) o hjl _ _ _ hu6 ((hu4.mod hg5).mod hg6))) ?_
        rintro _ w7 ⟨rfl, hg7⟩
        have hg47 := (hg5.trans hg6).trans hg7
        refine RL.done ?_
        first | refine RK.condD rfl (fun h127 => ?_) (fun h127 => ?_) | refine RK.condN rfl (fun h127 => ?_) (fun h127 => ?_) | refine RK.cond rfl (fun h127 => ?_) (fun h127 => ?_)
        · refine RK.exit rfl ?_
          refine RK.seq ?_
          refine RK.region ?_
          iterate 2 refine RL.p rfl rfl ?_
          refine RL.done ?_
          refine RK.ret_of Tryz.func243 (res1 rfl rfl) ?_ _
          exact ⟨_, rfl, ⟨o, hfin o (hE.still hR hE1 h127), hu4.mod hg47⟩, (hg3.trans hg4).trans hg47⟩
        · refine RK.skip ?_
          refine RK.region ?_
          iterate 2 refine RL.p rfl rfl ?_
          refine RL.done ?_
          refine RK.inBlock ?_
          refine RK.region ?_
          iterate 2 refine RL.p rfl rfl ?_
          refine RL.re (d := 115) rfl rfl (succ_i64 (by omega)) ?_
          refine RL.p rfl rfl ?_
          refine RL.done ?_
          exact RK.back (ih (r + 1, u6) _ ⟨by simp only at h113 ⊢; omega, hg4.trans hg47, joinS o o1, hE.round hR hE1, hu6.mod hg7⟩ (by simp only at h113 ⊢; omega)) ⟨rfl, rfl, rfl, rfl, trivial⟩
      · refine RK.exit rfl ?_
        refine RK.seq ?_
        refine RK.region ?_
        iterate 2 refine RL.p rfl rfl ?_
        refine RL.done ?_
        refine RK.ret_of Tryz.func243 (res1 rfl rfl) ?_ _
        exact ⟨_, rfl, ⟨o, hfin o (hE.enough hR (by simp only at h113; omega)), hu4⟩, hg3.trans hg4⟩
    · refine RK.block ?_
      refine RK.seq ?_
      refine RK.region ?_
      iterate 2 refine RL.p rfl rfl ?_
      refine RL.done ?_
      first | refine RK.condD rfl (fun h23 => ?_) (fun h23 => ?_) | refine RK.condN rfl (fun h23 => ?_) (fun h23 => ?_) | refine RK.cond rfl (fun h23 => ?_) (fun h23 => ?_)
      · obtain ⟨hxe, hW⟩ : x = .set [a, b, c, d] ∧ W4 [a, b, c, d] := by
            rcases hkind with ⟨h1, _, _, h2⟩ | ⟨o, _, h5, _, _, _, _, h6⟩
            · exact ⟨h1, h2⟩
            · omega
        subst hxe
        clear hkind
        obtain ⟨tg, htg⟩ : ∃ tg, setO s [a, b, c, d] f = tg := ⟨_, rfl⟩
        have hE := setO_ends s [a, b, c, d] f hf
        rw [htg] at hE
        have hB7 : Blk w2 b7 4 (bls (tg.take (0 + 1) ++ (List.replicate (s.size + 1) false).drop (0 + 1))) := by
            have h9 := hn7.blk
            rw [← htg]
            simpa [setO, List.replicate_succ] using h9
        iterate 2 refine RK.seq ?_
        refine RK.region ?_
        refine RL.p rfl rfl ?_
        refine RL.done ?_
        refine RK.block ?_
        refine RK.loop (fun q : Nat => [(1, .string s), (2, .slice adv f.length cv), (3, pp b3), (7, .slice (some ⟨b7, 0, none⟩) (s.size + 1) (s.size + 1)), (8, .int .i64 (q : Int))]) (fun q w' => q ≤ s.size ∧ Blk w' b7 4 (bls (tg.take (q + 1) ++ (List.replicate (s.size + 1) false).drop (q + 1))) ∧ Mod (· = b7) w2 w') (fun q => s.size - q) 0 ⟨rfl, rfl, rfl, rfl, rfl, trivial⟩ ⟨by omega, hB7, Mod.refl _ _⟩ (fun q w3 hI ih => ?_)
        obtain ⟨hq, hB, hm⟩ := hI
        have hgw3 : Grow w w3 := hg2.then hm (fun y hy e => by have e' : y = b7 := e; omega)
        have hB3q := hB2.mod hm hb37
        iterate 2 refine RK.seq ?_
        refine RK.region ?_
        iterate 2 refine RL.p rfl rfl ?_
        refine RL.q (.free rfl) rfl rfl (Yld.lenStr u9 rfl) ?_
        refine RL.p rfl rfl ?_
        refine RL.done ?_
        first | refine RK.condD rfl (fun h28 => ?_) (fun h28 => ?_) | refine RK.condN rfl (fun h28 => ?_) (fun h28 => ?_) | refine RK.cond rfl (fun h28 => ?_) (fun h28 => ?_)
        · obtain ⟨x, hxq⟩ : ∃ x, f[q]? = some x := ⟨f[q]'(by omega), List.getElem?_eq_getElem (by omega)⟩
          obtain ⟨b5, o5, c5, he5, _, _, hc5⟩ := hv.elem1 (bls_get hxq)
          cases he5
          have hb5l := World.block_lt_of_cell? w _ (hc5 q _ (bls_get hxq))
          have hb57 : ¬ b5 = b7 := by simp only at hb5l; omega
          have htq : tg[q + 1]? = some (x && inB [a, b, c, d] (b8 s q)) := by
              rw [← htg]; unfold setO
              rw [List.getElem?_cons_succ, List.getElem?_map, List.getElem?_range (by omega)]
              simp [hxq]
          refine RK.skip ?_
          refine RK.seq ?_
          refine RK.block ?_
          refine RK.drawM (· = b7) [(0, false), (1, false), (2, false), (3, false), (4, false), (5, false), (6, false), (7, false), (8, false), (9, false), (10, false), (11, false), (12, false), (13, true), (14, false), (15, false), (16, true)] [16] mixed (by kernel_rfl) ?_
          iterate 3 refine DL.p rfl rfl rfl ?_
          refine DL.re (d := 33) rfl rfl (succ_i64 (by omega)) ?_
          iterate 2 refine DL.p rfl rfl rfl ?_
          refine DL.qf rfl (.free rfl) rfl rfl (Yld.indexAddrN u270 i4 rfl rfl (by omega)) ?_
          refine DL.q rfl (.free rfl) rfl rfl rfl (Yld.load p4 rfl (atM (hgw3.cell (hc5 q _ (bls_get hxq)) (fun h => h)) (hb57))) (Mod.drew _ _) ?_
          refine DL.p rfl rfl rfl ?_
          first | refine DL.splitD (d := 38) rfl rfl (fun h38 => ?_) (fun h38 => ?_) | refine DL.splitN (d := 38) rfl rfl (fun h38 => ?_) (fun h38 => ?_) | refine DL.split (d := 38) rfl rfl (fun h38 => ?_) (fun h38 => ?_)
          · have htq1 : tg[q + 1]? = some (inB [a, b, c, d] (b8 s q)) := by rw [htq, h38]; rfl
            refine DL.qf rfl (.yes rfl rfl rfl) rfl rfl (Yld.fieldAddr fo210_1 rfl) ?_
            refine DL.q rfl (.yes rfl rfl rfl) rfl rfl rfl (Yld.loadN (cs := wds [a, b, c, d]) a207 rfl (atNM (blk_set4 hB3q) (hb37))) (Mod.drew _ _) ?_
            iterate 2 refine DL.qf rfl (.yes rfl rfl rfl) rfl rfl (Yld.pure rfl) ?_
            refine DL.qf rfl (.yes rfl rfl rfl) rfl rfl (Yld.idxStrN u9 rfl rfl (by omega)) ?_
            refine DL.op rfl (.yes rfl rfl rfl) rfl rfl (Does.call rfl e258 (setHas_ok [a, b, c, d] hW (b8 s q) (b8_lt s q) _)) ?_
            rintro _ w4 ⟨rfl, hg4⟩
            have hm34 : Mod (· = b7) w3 w4 := (Mod.drew _ _).trans (Mod.any' hg4)
            refine ⟨hm34, ?_⟩
            have hB4 := (hB.mod (Mod.drew No _) (fun h => h)).mod hg4 (fun h => h)
            refine DL.p rfl rfl rfl ?_
            refine DL.qf rfl (.free rfl) rfl rfl (Yld.indexAddrN u270 i4 rfl rfl (by omega)) ?_
            refine DL.opT rfl (.free rfl) rfl rfl (Does.store i4 rfl rfl rfl hB4 (setAt_of (by simp [hE.1]; omega))) ?_
            rintro _ w5 ⟨hb5, hm5, _⟩
            refine DL.done ?_
            refine RK.inBlock ?_
            refine RK.region ?_
            iterate 2 refine RL.p rfl rfl ?_
            refine RL.re (d := 30) rfl rfl (succ_i64 (by omega)) ?_
            refine RL.p rfl rfl ?_
            refine RL.done ?_
            exact RK.back (ih (q + 1) _ ⟨by omega, by rw [Nat.zero_add, Nat.mul_one, ← List.map_set, set_take_bool (by simp [hE.1]) htq1] at hb5; exact hb5, (hm.trans hm34).trans hm5⟩ (by omega)) ⟨rfl, rfl, rfl, rfl, rfl, trivial⟩
          · have htq1 : tg[q + 1]? = some false := by rw [htq, h38]; rfl
            have hB4 := hB.mod (Mod.drew No _) (fun h => h)
            iterate 5 refine DL.no rfl (.no rfl rfl rfl rfl) rfl rfl ?_
            refine DL.lno rfl (.no rfl rfl rfl rfl) rfl rfl ?_
            refine DL.p rfl rfl rfl ?_
            refine DL.qf rfl (.free rfl) rfl rfl (Yld.indexAddrN u270 i4 rfl rfl (by omega)) ?_
            refine DL.opT rfl (.free rfl) rfl rfl (Does.store i4 rfl rfl rfl hB4 (setAt_of (by simp [hE.1]; omega))) ?_
            rintro _ w5 ⟨hb5, hm5, _⟩
            refine DL.done ?_
            refine RK.inBlock ?_
            refine RK.region ?_
            iterate 2 refine RL.p rfl rfl ?_
            refine RL.re (d := 30) rfl rfl (succ_i64 (by omega)) ?_
            refine RL.p rfl rfl ?_
            refine RL.done ?_
            exact RK.back (ih (q + 1) _ ⟨by omega, by rw [Nat.zero_add, Nat.mul_one, ← List.map_set, set_take_bool (by simp [hE.1]) htq1] at hb5; exact hb5, (hm.trans (Mod.drew _ _)).trans hm5⟩ (by omega)) ⟨rfl, rfl, rfl, rfl, rfl, trivial⟩
        · have hqe : q = s.size := by omega
          rw [hqe, List.take_of_length_le (by rw [hE.1]; omega), List.drop_eq_nil_of_le (by simp), List.append_nil] at hB
          refine RK.exit rfl ?_
          refine RK.seq ?_
          refine RK.region ?_
          iterate 2 refine RL.p rfl rfl ?_
          refine RL.done ?_
          refine RK.ret_of Tryz.func243 (res1 rfl rfl) ?_ _
          exact ⟨_, rfl, ⟨tg, hE, ⟨by simp [hE.1], by rw [hE.1]; omega, _, _, by rw [hE.1], fun _ => ⟨b7, 0, rfl, fun h => h, fun j u hj => by rw [Nat.zero_add]; exact hB.cell' hj⟩⟩⟩, hg2.then hm (fun y hy e => by have e' : y = b7 := e; omega)⟩
      · obtain ⟨o, rfl, rfl, h3⟩ : ∃ o : Nat, x = .node o l ∧ op = o ∧ (o = 2 ∨ o = 3 ∧ cnt l ≠ 0 ∨ (o = 4 ∨ o = 5 ∨ o = 6) ∧ cnt l = 1) := by
            rcases hkind with ⟨_, _, h2, _⟩ | ⟨o, h4, h5, _, _, _, _, h6⟩
            · omega
            · exact ⟨o, h4, h5, h6⟩
        clear hkind
        have hk : ∀ y ∈ kidsR l, afterC s y := fun y hy => after_ok s hs m y (by have := hiR_kid hy; simp only [hiR] at hx; omega) (hgood y hy)
        have hlgn : ∀ i j, Lg (HS s) (.node o l) true i j ↔ (if o = 2 then Lg (HS s) l true i j else if o = 3 then Lg (HS s) l false i j else if o = 4 then Rt (Lg (HS s) l true) i j else if o = 5 then ∃ k, Lg (HS s) l true i k ∧ Rt (Lg (HS s) l true) k j else i = j ∨ Lg (HS s) l true i j) := fun i j => Iff.rfl
        have hid := Endz.id hf
        refine RK.seq ?_
        refine RK.region ?_
        iterate 2 refine RL.p rfl rfl ?_
        refine RL.done ?_
        first | refine RK.condD rfl (fun h48 => ?_) (fun h48 => ?_) | refine RK.condN rfl (fun h48 => ?_) (fun h48 => ?_) | refine RK.cond rfl (fun h48 => ?_) (fun h48 => ?_)
        · have ho : o = 2 := by omega
          subst ho
          refine RK.seq ?_
          refine RK.region ?_
          iterate 2 refine RL.p rfl rfl ?_
          refine RL.done ?_
          iterate 2 refine RK.seq ?_
          refine RK.region ?_
          refine RL.p rfl rfl ?_
          refine RL.done ?_
          refine RK.block ?_
          refine RK.loop (fun t : Nat × Value => [(1, .string s), (2, .slice adv f.length cv), (3, pp b3), (7, .slice (some ⟨b7, 0, none⟩) (s.size + 1) (s.size + 1)), (9, t.2), (10, .int .i64 (t.1 : Int))]) (fun t w' => t.1 ≤ n ∧ Grow w2 w' ∧ ∃ g, Endz (LgS (HS s) ((kidsR l).take t.1)) s.size f g ∧ SlB No w' t.2 g) (fun t => n - t.1) (0, .slice adv f.length cv) ⟨rfl, rfl, rfl, rfl, rfl, rfl, trivial⟩ ⟨by simp, Mod.refl _ _, f, hid.iff (fun i j => by simp [LgS]), hv2⟩ (fun t w3 hI ih => ?_)
          obtain ⟨q, u⟩ := t
          obtain ⟨hq, hg3, g, hE, hu⟩ := hI
          simp only at hq hE hu
          have hB3q := hB2.mod hg3 (fun h => h)
          iterate 2 refine RK.seq ?_
          refine RK.region ?_
          refine RL.p rfl rfl ?_
          refine RL.q (.free rfl) rfl rfl (Yld.fieldAddr fo210_2 rfl) ?_
          refine RL.q (.free rfl) rfl rfl (Yld.load p208 rfl (at1 (hB3q.cell rfl))) ?_
          refine RL.q (.free rfl) rfl rfl (Yld.lenSl u208 rfl) ?_
          refine RL.p rfl rfl ?_
          refine RL.done ?_
          first | refine RK.condD rfl (fun h55 => ?_) (fun h55 => ?_) | refine RK.condN rfl (fun h55 => ?_) (fun h55 => ?_) | refine RK.cond rfl (fun h55 => ?_) (fun h55 => ?_)
          · obtain ⟨ck, y, b5, o5, rfl, hyk, hym, hyt, hyv, _, hcl⟩ := h.kid (k := q) (by simp only at h55; omega)
            refine RK.skip ?_
            refine RK.seq ?_
            refine RK.block ?_
            refine RK.region ?_
            refine RL.q (.free rfl) rfl rfl (Yld.fieldAddr fo210_2 rfl) ?_
            refine RL.q (.free rfl) rfl rfl (Yld.load p208 rfl (at1 (hB3q.cell rfl))) ?_
            refine RL.p rfl rfl ?_
            refine RL.q (.free rfl) rfl rfl (Yld.indexAddrN u208 i210 rfl rfl (by simp only at h55; omega)) ?_
            refine RL.q (.free rfl) rfl rfl (Yld.loadN (cs := celC ck) a210 rfl (atN (hcl _ (hg2.trans hg3)))) ?_
            iterate 2 refine RL.p rfl rfl ?_
            refine RL.op (.free rfl) rfl rfl (Does.call rfl e243 (hk y hym M ck u g _ (RxV.grow (hg2.trans hg3) y hyv) hu hE.1)) ?_
            rintro u4 w4 ⟨⟨o1, hE1, hu4⟩, hg4⟩
            refine RL.p rfl rfl ?_
            refine RL.done ?_
            refine RK.inBlock ?_
            refine RK.region ?_
            iterate 2 refine RL.p rfl rfl ?_
            refine RL.re (d := 57) rfl rfl (succ_i64 (by simp only at h55; omega)) ?_
            refine RL.p rfl rfl ?_
            refine RL.done ?_
            exact RK.back (ih (q + 1, u4) _ ⟨by simp only at h55 ⊢; omega, hg3.trans hg4, o1, (hE.seq hE1 (lg_fwd y)).iff (fun i j => by rw [take_snoc hyk, lgS_snoc]), hu4⟩ (by simp only at h55 ⊢; omega)) ⟨rfl, rfl, rfl, rfl, rfl, rfl, trivial⟩
          · have ek : (kidsR l).take q = kidsR l := List.take_of_length_le (by simp only at h55; omega)
            rw [ek] at hE
            have hEf : Endz (Lg (HS s) (.node 2 l) true) s.size f g := hE.iff (fun i j => by rw [hlgn, if_pos rfl]; exact (lgS_iff (HS s) h.tr i j).symm)
            refine RK.exit rfl ?_
            refine RK.seq ?_
            refine RK.region ?_
            iterate 2 refine RL.p rfl rfl ?_
            refine RL.op (.free rfl) rfl rfl (Does.copyN u270 i4 rfl rfl (hn7.blk.mod hg3 (fun h => h)) hu (by rw [hE.1]; omega) (by rw [hE.1]; simp) (by simp [Value.oneCell'])) ?_
            rintro _ w4 ⟨rfl, hb4, hm4, _⟩
            refine RL.done ?_
            refine RK.seq ?_
            refine RK.region ?_
            iterate 2 refine RL.p rfl rfl ?_
            refine RL.done ?_
            refine RK.ret_of Tryz.func243 (res1 rfl rfl) ?_ _
            exact ⟨_, rfl, ⟨g, hEf, ⟨by simp [hE.1], by rw [hE.1]; omega, _, _, by rw [hE.1], fun _ => ⟨b7, 0, rfl, fun h => h, fun j u hj => by
                rw [Nat.zero_add]
                refine hb4.cell' ?_
                rw [List.take_zero, List.nil_append, List.getElem?_append_left (List.getElem?_eq_some_iff.1 hj).1]
                exact hj⟩⟩⟩, (hg2.trans hg3).then hm4 (fun y hy e => by have e' : y = b7 := e; omega)⟩
        · refine RK.seq ?_
          refine RK.region ?_
          iterate 2 refine RL.p rfl rfl ?_
          refine RL.done ?_
          first | refine RK.condD rfl (fun h70 => ?_) (fun h70 => ?_) | refine RK.condN rfl (fun h70 => ?_) (fun h70 => ?_) | refine RK.cond rfl (fun h70 => ?_) (fun h70 => ?_)
          · have ho : o = 3 := by omega
            subst ho
            have hE0 : Endz (fun i j => ∃ x ∈ (kidsR l).take 0, Lg (HS s) x true i j) s.size f (List.replicate (s.size + 1) false) := ⟨by simp, fun j => by simp [List.getElem?_replicate]⟩
            have hu0 : SlB No w2 (.slice (some ⟨b7, 0, none⟩) (s.size + 1) (s.size + 1)) (List.replicate (s.size + 1) false) := ⟨by simp, by simp; omega, some ⟨b7, 0, none⟩, s.size + 1, by simp, fun _ => ⟨b7, 0, rfl, fun h => h, fun j u hj => by rw [Nat.zero_add]; exact hn7.blk.cell' (by simpa using hj)⟩⟩
            iterate 2 refine RK.seq ?_
            refine RK.region ?_
            refine RL.p rfl rfl ?_
            refine RL.done ?_
            refine RK.block ?_
            refine RK.loop (fun t : Nat × Value => [(1, .string s), (2, .slice adv f.length cv), (3, pp b3), (7, t.2), (11, .int .i64 (t.1 : Int))]) (fun t w' => t.1 ≤ n ∧ Grow w2 w' ∧ ∃ g, Endz (fun i j => ∃ x ∈ (kidsR l).take t.1, Lg (HS s) x true i j) s.size f g ∧ SlB No w' t.2 g) (fun t => n - t.1) (0, .slice (some ⟨b7, 0, none⟩) (s.size + 1) (s.size + 1)) ⟨rfl, rfl, rfl, rfl, rfl, trivial⟩ ⟨by simp, Mod.refl _ _, _, hE0, hu0⟩ (fun t w3 hI ih => ?_)
            obtain ⟨q, u⟩ := t
            obtain ⟨hq, hg3, g, hE, hu⟩ := hI
            simp only at hq hE hu
            have hB3q := hB2.mod hg3 (fun h => h)
            iterate 2 refine RK.seq ?_
            refine RK.region ?_
            refine RL.p rfl rfl ?_
            refine RL.q (.free rfl) rfl rfl (Yld.fieldAddr fo210_2 rfl) ?_
            refine RL.q (.free rfl) rfl rfl (Yld.load p208 rfl (at1 (hB3q.cell rfl))) ?_
            refine RL.q (.free rfl) rfl rfl (Yld.lenSl u208 rfl) ?_
            refine RL.p rfl rfl ?_
            refine RL.done ?_
            first | refine RK.condD rfl (fun h76 => ?_) (fun h76 => ?_) | refine RK.condN rfl (fun h76 => ?_) (fun h76 => ?_) | refine RK.cond rfl (fun h76 => ?_) (fun h76 => ?_)
            · obtain ⟨ck, y, b5, o5, rfl, hyk, hym, hyt, hyv, _, hcl⟩ := h.kid (k := q) (by simp only at h76; omega)
              refine RK.skip ?_
              refine RK.seq ?_
              refine RK.block ?_
              refine RK.region ?_
              refine RL.p rfl rfl ?_
              refine RL.q (.free rfl) rfl rfl (Yld.fieldAddr fo210_2 rfl) ?_
              refine RL.q (.free rfl) rfl rfl (Yld.load p208 rfl (at1 (hB3q.cell rfl))) ?_
              refine RL.p rfl rfl ?_
              refine RL.q (.free rfl) rfl rfl (Yld.indexAddrN u208 i210 rfl rfl (by simp only at h76; omega)) ?_
              refine RL.q (.free rfl) rfl rfl (Yld.loadN (cs := celC ck) a210 rfl (atN (hcl _ (hg2.trans hg3)))) ?_
              iterate 2 refine RL.p rfl rfl ?_
              refine RL.op (.free rfl) rfl rfl (Does.call rfl e243 (hk y hym M ck _ f _ (RxV.grow (hg2.trans hg3) y hyv) (hv2.mod hg3) hf)) ?_
              rintro u4 w4 ⟨⟨o1, hE1, hu4⟩, hg4⟩
              have hol : g.length = o1.length := by rw [hE.1, hE1.1]
              refine RL.op (.free rfl) rfl rfl (Does.call rfl e259 (joinL_ok No g o1 hol (by rw [hE.1]; omega) _ _ _ (hu.mod hg4) hu4)) ?_
              rintro u6 w6 ⟨hu6, hg6⟩
              refine RL.p rfl rfl ?_
              refine RL.done ?_
              refine RK.inBlock ?_
              refine RK.region ?_
              iterate 2 refine RL.p rfl rfl ?_
              refine RL.re (d := 78) rfl rfl (succ_i64 (by simp only at h76; omega)) ?_
              refine RL.p rfl rfl ?_
              refine RL.done ?_
              exact RK.back (ih (q + 1, u6) _ ⟨by simp only at h76 ⊢; omega, (hg3.trans hg4).trans hg6, joinS g o1, (hE.or hE1).iff (fun i j => by
                  rw [take_snoc hyk]
                  constructor
                  · rintro (⟨z, hz, hz2⟩ | hz)
                    · exact ⟨z, List.mem_append_left _ hz, hz2⟩
                    · exact ⟨y, by simp, hz⟩
                  · rintro ⟨z, hz, hz2⟩
                    rcases List.mem_append.1 hz with h1 | h1
                    · exact .inl ⟨z, h1, hz2⟩
                    · simp at h1; subst h1; exact .inr hz2), hu6⟩ (by simp only at h76 ⊢; omega)) ⟨rfl, rfl, rfl, rfl, rfl, trivial⟩
            · have ek : (kidsR l).take q = kidsR l := List.take_of_length_le (by simp only at h76; omega)
              rw [ek] at hE
              have hEf : Endz (Lg (HS s) (.node 3 l) true) s.size f g := hE.iff (fun i j => by rw [hlgn, if_neg (by omega), if_pos rfl]; exact (lgA_iff (HS s) h.tr i j).symm)
              refine RK.exit rfl ?_
              refine RK.seq ?_
              refine RK.region ?_
              iterate 2 refine RL.p rfl rfl ?_
              refine RL.done ?_
              refine RK.ret_of Tryz.func243 (res1 rfl rfl) ?_ _
              exact ⟨_, rfl, ⟨g, hEf, hu⟩, hg2.trans hg3⟩
          · obtain ⟨y, hly⟩ := only_kid h.tr (by omega)
            subst hly
            have hn1 : n = 1 := by rw [hn, hlen]; rfl
            obtain ⟨ck, y', b5, o5, rfl, hyk, hym, hyt, hyv, _, hcl⟩ := h.kid (k := 0) (by omega)
            have hyy : y' = y := by simpa [kidsR] using hyk.symm
            subst hyy
            have hay := hk y' hym
            have hlo : ∀ i j, Lg (HS s) (.cons y' .nil) true i j ↔ Lg (HS s) y' true i j := lg_only (HS s)
            have hrt : ∀ i j, Rt (Lg (HS s) (.cons y' .nil) true) i j ↔ Rt (Lg (HS s) y' true) i j := fun i j => ⟨fun h => rt_iff (fun i j => (hlo i j).1) h, fun h => rt_iff (fun i j => (hlo i j).2) h⟩
            refine RK.seq ?_
            refine RK.region ?_
            iterate 2 refine RL.p rfl rfl ?_
            refine RL.done ?_
            first | refine RK.condD rfl (fun h90 => ?_) (fun h90 => ?_) | refine RK.condN rfl (fun h90 => ?_) (fun h90 => ?_) | refine RK.cond rfl (fun h90 => ?_) (fun h90 => ?_)
            · have ho : o = 6 := by omega
              subst ho
              refine RK.seq ?_
              refine RK.region ?_
              refine RL.p rfl rfl ?_
              refine RL.q (.free rfl) rfl rfl (Yld.fieldAddr fo210_2 rfl) ?_
              refine RL.q (.free rfl) rfl rfl (Yld.load p208 rfl (at1 (hB2.cell rfl))) ?_
              refine RL.q (.free rfl) rfl rfl (Yld.indexAddr u208 i210 rfl rfl (by omega) (by omega)) ?_
              refine RL.q (.free rfl) rfl rfl (Yld.loadN (cs := celC ck) a210 rfl (atN (hcl _ hg2))) ?_
              iterate 2 refine RL.p rfl rfl ?_
              refine RL.op (.free rfl) rfl rfl (Does.call rfl e243 (hay M ck _ f _ (RxV.grow hg2 _ hyv) hv2 hf)) ?_
              rintro u4 w4 ⟨⟨o1, hE1, hu4⟩, hg4⟩
              have hol : f.length = o1.length := by rw [hf, hE1.1]
              refine RL.op (.free rfl) rfl rfl (Does.call rfl e259 (joinL_ok No f o1 hol (by omega) _ _ _ (hv2.mod hg4) hu4)) ?_
              rintro u6 w6 ⟨hu6, hg6⟩
              refine RL.p rfl rfl ?_
              refine RL.done ?_
              refine RK.ret_of Tryz.func243 (res1 rfl rfl) ?_ _
              exact ⟨_, rfl, ⟨joinS f o1, (hid.or hE1).iff (fun i j => by rw [hlgn, if_neg (by omega), if_neg (by omega), if_neg (by omega), if_neg (by omega), hlo]), hu6⟩, (hg2.trans hg4).trans hg6⟩
            · refine RK.seq ?_
              refine RK.region ?_
              iterate 2 refine RL.p rfl rfl ?_
              refine RL.done ?_
              first | refine RK.condD rfl (fun h101 => ?_) (fun h101 => ?_) | refine RK.condN rfl (fun h101 => ?_) (fun h101 => ?_) | refine RK.cond rfl (fun h101 => ?_) (fun h101 => ?_)
              · have ho : o = 5 := by omega
                subst ho
                refine RK.region ?_
                refine RL.q (.free rfl) rfl rfl (Yld.fieldAddr fo210_2 rfl) ?_
                refine RL.q (.free rfl) rfl rfl (Yld.load p208 rfl (at1 (hB2.cell rfl))) ?_
                refine RL.q (.free rfl) rfl rfl (Yld.indexAddr u208 i210 rfl rfl (by omega) (by omega)) ?_
                refine RL.q (.free rfl) rfl rfl (Yld.loadN (cs := celC ck) a210 rfl (atN (hcl _ hg2))) ?_
                iterate 2 refine RL.p rfl rfl ?_
                refine RL.op (.free rfl) rfl rfl (Does.call rfl e243 (hay M ck _ f _ (RxV.grow hg2 _ hyv) hv2 hf)) ?_
                rintro u4 w4 ⟨⟨o1, hE1, hu4⟩, hg4⟩
                refine RL.p rfl rfl ?_
                refine RL.done ?_
                refine RK.inBlock ?_
                exact RK.back (hj u4 _ ⟨y', o1, rfl, hE1.1, hu4, hg2.trans hg4, hB2.mod hg4 (fun h => h), fun res hres => (hE1.seq hres (fun i j h => (rt_rounds (lg_fwd y') h).1)).iff (fun i j => by
                    rw [hlgn, if_neg (by omega), if_neg (by omega), if_neg (by omega), if_pos rfl]
                    constructor
                    · rintro ⟨k, h1, h2⟩; exact ⟨k, (hlo _ _).2 h1, (hrt _ _).2 h2⟩
                    · rintro ⟨k, h1, h2⟩; exact ⟨k, (hlo _ _).1 h1, (hrt _ _).1 h2⟩), hay⟩) ⟨rfl, rfl, rfl, trivial⟩
              · have ho : o = 4 := by omega
                subst ho
                refine RK.region ?_
                iterate 2 refine RL.p rfl rfl ?_
                refine RL.op (.free rfl) rfl rfl (Does.copyN u270 i4 rfl rfl hn7.blk hv2 (by omega) (by rw [hf]; simp) (by simp [Value.oneCell'])) ?_
                rintro _ w4 ⟨rfl, hb4, hm4, _⟩
                have hu4 : SlB No w4 (.slice (some ⟨b7, 0, none⟩) (s.size + 1) (s.size + 1)) f := ⟨by simp, by omega, _, _, by rw [hf], fun _ => ⟨b7, 0, rfl, fun h => h, fun j u hj => by
                    rw [Nat.zero_add]
                    refine hb4.cell' ?_
                    rw [List.take_zero, List.nil_append, List.getElem?_append_left (List.getElem?_eq_some_iff.1 hj).1]
                    exact hj⟩⟩
                refine RL.done ?_
                refine RK.inBlock ?_
                exact RK.back (hj _ _ ⟨y', f, rfl, hf, hu4, hg2.then hm4 (fun y hy e => by have e' : y = b7 := e; omega), hB2.mod hm4 hb37, fun res hres => hres.iff (fun i j => by rw [hlgn, if_neg (by omega), if_neg (by omega), if_pos rfl, hrt]), hay⟩) ⟨rfl, rfl, rfl, trivial⟩
end Go.Proofs.YtffbcfcoddacmaaGreat
set_option linter.unusedVariables false
set_option linter.unusedSimpArgs false
set_option maxHeartbeats 400000
set_option maxRecDepth 100000
namespace Go.Proofs.YtffbcfcoddacmaaGreat
open Go Go.X
section
variable {α : Type}
def pos (lt : α → α → Bool) (x : α) (L : List α) : Nat := L.length - (L.reverse.takeWhile (lt x)).length
def insE (lt : α → α → Bool) (L : List α) (x : α) : List α := L.take (pos lt x L) ++ x :: L.drop (pos lt x L)
def isort (lt : α → α → Bool) (xs : List α) : List α := xs.foldl (insE lt) []
theorem insE_split {lt : α → α → Bool} {x : α} {A D : List α} (hD : ∀ y ∈ D, lt x y = true) (hA : ∀ A' y, A = A' ++ [y] → lt x y = false) : insE lt (A ++ D) x = A ++ x :: D := by
  have h1 : (A ++ D).reverse.takeWhile (lt x) = D.reverse := by
    rw [List.reverse_append, List.takeWhile_append_of_pos (by intro y hy; exact hD y (by simpa using hy))]
    have : A.reverse.takeWhile (lt x) = [] := by
      cases hr : A.reverse with
      | nil => rfl
      | cons y l =>
        have : A = l.reverse ++ [y] := by have := congrArg List.reverse hr; simpa using this
        simp [List.takeWhile, hA _ _ this]
    rw [this, List.append_nil]
  have h2 : pos lt x (A ++ D) = A.length := by unfold pos; rw [h1]; simp
  unfold insE
  rw [h2]
  simp
theorem insE_len (lt : α → α → Bool) (L : List α) (x : α) : (insE lt L x).length = L.length + 1 := by
  unfold insE
  simp
  have : pos lt x L ≤ L.length := Nat.sub_le _ _
  omega
theorem isort_snoc (lt : α → α → Bool) (xs : List α) (x : α) : isort lt (xs ++ [x]) = insE lt (isort lt xs) x := by simp [isort]
theorem isort_len (lt : α → α → Bool) (xs : List α) : (isort lt xs).length = xs.length := by
  have : ∀ xs L : List α, (xs.foldl (insE lt) L).length = xs.length + L.length := by
    intro xs
    induction xs with
    | nil => intro L; simp
    | cons x xs ih => intro L; simp only [List.foldl_cons, ih, insE_len, List.length_cons]; omega
  unfold isort
  simpa using this xs []
end
end Go.Proofs.YtffbcfcoddacmaaGreat
set_option linter.unusedVariables false
set_option linter.unusedSimpArgs false
set_option maxHeartbeats 400000
set_option maxRecDepth 100000
namespace Go.Proofs.YtffbcfcoddacmaaGreat
open Go Go.X
end Go.Proofs.YtffbcfcoddacmaaGreat
set_option linter.unusedVariables false
set_option linter.unusedSimpArgs false
set_option maxHeartbeats 400000
set_option maxRecDepth 100000
namespace Go.Proofs.YtffbcfcoddacmaaGreat
open Go Go.X
theorem take_snoc_eq {α : Type} {l1 l2 : List α} {k : Nat} {x : α} (h : l1.take k = l2.take k) (h1 : l1[k]? = some x) (h2 : l2[k]? = some x) : l1.take (k + 1) = l2.take (k + 1) := by
  rw [List.take_add_one, List.take_add_one, h, h1, h2]
theorem sameInts_ok (M : Nat → Prop) (l1 l2 : List Int) (v1 v2 : Value) (w : World) (hv1 : Sl M w v1 1 l1.length (ints l1)) (hv2 : Sl M w v2 1 l2.length (ints l2)) :
    Fx Tryz.prog 29 [v1, v2] w (fun u w' => u = .bool (decide (l1 = l2)) ∧ Grow w w') := by
  obtain ⟨a1, c1, rfl⟩ := hv1.shape
  obtain ⟨a2, c2, rfl⟩ := hv2.shape
  have hbig := hv1.big
  refine enter Tryz.func29 rfl rfl rfl _ (Pick.sub (l := [0, 1]) (.cons rfl (.cons rfl .nil))) ?_
  refine RK.seq ?_
  refine RK.region ?_
  refine RL.p rfl rfl ?_
  refine RL.done ?_
  iterate 2 refine RK.seq ?_
  refine RK.region ?_
  refine RL.p rfl rfl ?_
  refine RL.q (.free rfl) rfl rfl (Yld.lenSl u22 rfl) ?_
  refine RL.p rfl rfl ?_
  refine RL.q (.free rfl) rfl rfl (Yld.lenSl u22 rfl) ?_
  refine RL.p rfl rfl ?_
  refine RL.done ?_
  first | refine RK.condD rfl (fun h10 => ?_) (fun h10 => ?_) | refine RK.condN rfl (fun h10 => ?_) (fun h10 => ?_) | refine RK.cond rfl (fun h10 => ?_) (fun h10 => ?_)
  · refine RK.seq ?_
    refine RK.region ?_
    refine RL.p rfl rfl ?_
    refine RL.done ?_
    refine RK.ret_of Tryz.func29 (res1 rfl rfl) ?_ _
    exact ⟨_, rfl, congrArg _ (by rw [eq_comm, decide_eq_false_iff_not]; rintro rfl; simp at h10), Mod.refl _ _⟩
  · refine RK.skip ?_
    iterate 2 refine RK.seq ?_
    refine RK.region ?_
    refine RL.p rfl rfl ?_
    refine RL.done ?_
    refine RK.block ?_
    refine RK.loop (fun k : Nat => [(0, .slice a1 l1.length c1), (1, .slice a2 l2.length c2), (5, .int .i64 k)]) (fun k w' => Grow w w' ∧ k ≤ l1.length ∧ l1.take k = l2.take k) (fun k => l1.length - k) 0 ⟨rfl, rfl, rfl, trivial⟩ ⟨Mod.refl _ _, by omega, by simp⟩ (fun k w' hI ih => ?_)
    obtain ⟨hg, hk, htk⟩ := hI
    have hl : l1.length = l2.length := by simp at h10; omega
    iterate 2 refine RK.seq ?_
    refine RK.region ?_
    iterate 2 refine RL.p rfl rfl ?_
    refine RL.q (.free rfl) rfl rfl (Yld.lenSl u22 rfl) ?_
    refine RL.p rfl rfl ?_
    refine RL.done ?_
    first | refine RK.condD rfl (fun h14 => ?_) (fun h14 => ?_) | refine RK.condN rfl (fun h14 => ?_) (fun h14 => ?_) | refine RK.cond rfl (fun h14 => ?_) (fun h14 => ?_)
    · obtain ⟨x, hx⟩ : ∃ x, l1[k]? = some x := ⟨l1[k]'(by omega), List.getElem?_eq_getElem (by omega)⟩
      obtain ⟨y, hy⟩ : ∃ y, l2[k]? = some y := ⟨l2[k]'(by omega), List.getElem?_eq_getElem (by omega)⟩
      obtain ⟨b1, o1, c1', he1, _, _, hc1⟩ := hv1.elem1 (k := k) (u := .int .i64 x) (by simp [hx])
      obtain ⟨b2, o2, c2', he2, _, _, hc2⟩ := hv2.elem1 (k := k) (u := .int .i64 y) (by simp [hy])
      cases he1
      cases he2
      refine RK.skip ?_
      refine RK.seq ?_
      refine RK.block ?_
      refine RK.seq ?_
      refine RK.drawM No [(0, false), (1, false), (2, false), (3, false), (4, false), (5, false), (6, false), (7, false), (8, false)] [] mixed (by kernel_rfl) ?_
      iterate 2 refine DL.p rfl rfl rfl ?_
      refine DL.qf rfl (.free rfl) rfl rfl (Yld.indexAddrN u22 i3 rfl rfl (by omega)) ?_
      refine DL.q rfl (.free rfl) rfl rfl rfl (Yld.load p3 rfl (atM (hg.cell (hc1 k (.int .i64 x) (by simp [hx])) (fun h => h)) (id))) (Mod.drew _ _) ?_
      iterate 2 refine DL.p rfl rfl rfl ?_
      refine DL.qf rfl (.free rfl) rfl rfl (Yld.indexAddrN u22 i3 rfl rfl (by omega)) ?_
      refine DL.q rfl (.free rfl) rfl rfl rfl (Yld.load p3 rfl (atM (hg.cell (hc2 k (.int .i64 y) (by simp [hy])) (fun h => h)) (id))) (Mod.drew _ _) ?_
      refine DL.p rfl rfl rfl ?_
      refine DL.done ?_
      first | refine RK.condD rfl (fun h25 => ?_) (fun h25 => ?_) | refine RK.condN rfl (fun h25 => ?_) (fun h25 => ?_) | refine RK.cond rfl (fun h25 => ?_) (fun h25 => ?_)
      · refine RK.seq ?_
        refine RK.region ?_
        refine RL.p rfl rfl ?_
        refine RL.done ?_
        refine RK.ret_of Tryz.func29 (res1 rfl rfl) ?_ _
        exact ⟨_, rfl, congrArg _ (by rw [eq_comm, decide_eq_false_iff_not]; rintro rfl; rw [hx] at hy; cases hy; simp at h25), hg.trans (Mod.drew _ _)⟩
      · refine RK.skip ?_
        refine RK.inBlock ?_
        refine RK.region ?_
        iterate 2 refine RL.p rfl rfl ?_
        refine RL.re (d := 16) rfl rfl (succ_i64 (by omega)) ?_
        refine RL.p rfl rfl ?_
        refine RL.done ?_
        exact RK.back (ih (k + 1) _ ⟨hg.trans (Mod.drew _ _), by omega, take_snoc_eq htk hx (by
            have : x = y := by simpa using h25
            rw [this]; exact hy)⟩ (by omega)) ⟨rfl, rfl, rfl, trivial⟩
    · refine RK.exit rfl ?_
      refine RK.seq ?_
      refine RK.region ?_
      refine RL.p rfl rfl ?_
      refine RL.done ?_
      refine RK.ret_of Tryz.func29 (res1 rfl rfl) ?_ _
      exact ⟨_, rfl, congrArg _ (by
          have e1 : k = l1.length := by omega
          have h1 : l1.take k = l1 := List.take_of_length_le (by omega)
          have h2 : l2.take k = l2 := List.take_of_length_le (by omega)
          rw [h1, h2] at htk; simp [htk]), hg⟩
structure Al where
  id : Int
  ls : List Lab
  val : Nat
  v : Value
def alC (a : Al) : List Value := [.int .i64 a.id, a.v, .float .f64 a.val]
theorem alC_len (a : Al) : (alC a).length = 3 := rfl
def findS (l : List (List Lab)) (ls : List Lab) : Option Nat := l.findIdx? fun x => decide (x = ls)
def optI : Option Nat → Int
  | some i => i
  | none => -1
end Go.Proofs.YtffbcfcoddacmaaGreat
set_option linter.unusedVariables false
set_option linter.unusedSimpArgs false
set_option maxHeartbeats 400000
set_option maxRecDepth 100000
namespace Go.Proofs.YtffbcfcoddacmaaGreat
open Go Go.X
abbrev LabK := ByteArray × ByteArray
def labK (x : Lab) : LabK := (x.name, x.value)
end Go.Proofs.YtffbcfcoddacmaaGreat
set_option linter.unusedVariables false
set_option linter.unusedSimpArgs false
set_option maxHeartbeats 400000
set_option maxRecDepth 100000
namespace Go.Proofs.YtffbcfcoddacmaaGreat
open Go Go.X
def addRow1 (id : Int) (r : List (LabK × List Int)) (x : Lab) : List (LabK × List Int) := putM r (labK x) (mkRow ((lookM r (labK x)).getD [] ++ [id]))
def addRows (rows : List (LabK × List Int)) (id : Int) (ls : List Lab) : List (LabK × List Int) := ls.foldl (addRow1 id) rows
end Go.Proofs.YtffbcfcoddacmaaGreat
set_option linter.unusedVariables false
set_option linter.unusedSimpArgs false
set_option maxHeartbeats 400000
set_option maxRecDepth 100000
namespace Go.Proofs.YtffbcfcoddacmaaGreat
open Go Go.X
structure St where
  most : Int
  last : Int
  out : List Int
  al : List (Int × List Lab × Nat)
  has : List (Int × List Lab)
  rows : List (LabK × List Int)
def own (p q ix mh mr : Nat) (vo vl : Value) : Nat → Prop := fun b => b = p ∨ b = q ∨ b = mh ∨ b = mr ∨ vo.ownBlock = some b ∨ vl.ownBlock = some b ∨ b = ix
def pub (a : Al) : Int × List Lab × Nat := (a.id, a.ls, a.val)
def capS (m : Int) : Int := if 16 < (if 1 > m then 1 else m) then 16 else if 1 > m then 1 else m
def St.new (m : Int) : St := ⟨capS m, 0, [], [], [], []⟩
end Go.Proofs.YtffbcfcoddacmaaGreat
set_option linter.unusedVariables false
set_option linter.unusedSimpArgs false
set_option maxHeartbeats 400000
set_option maxRecDepth 100000
namespace Go.Proofs.YtffbcfcoddacmaaGreat
open Go Go.X
end Go.Proofs.YtffbcfcoddacmaaGreat
set_option linter.unusedVariables false
set_option linter.unusedSimpArgs false
set_option maxHeartbeats 400000
set_option maxRecDepth 100000
namespace Go.Proofs.YtffbcfcoddacmaaGreat
open Go Go.X
def fullS (most last : Int) (out : List Int) : Bool := decide (most ≤ out.length ∨ last = 2147483647)
structure Ok (s : St) : Prop where
  last0 : 0 ≤ s.last
  last1 : s.last ≤ 2147483647
  most : s.most ≤ 16
  outLe : (s.out.length : Int) ≤ s.most
  alOut : s.al.length = s.out.length
  has : ∀ t ∈ s.has, t.1 ≤ s.last
  rows : ∀ t ∈ s.rows, (t.2.length : Int) ≤ 6 * s.last
  vals : ∀ a ∈ s.al, a.2.2 < 18446744073709551616
def postS (s : St) (ls : List Lab) (val : Nat) : St × Int × Bool × Int :=
  if isS ls = false then (s, 0, false, 1) else
  match findS (s.al.map (·.2.1)) ls with
  | some i => ({ s with al := s.al.modify i fun a => (a.1, a.2.1, canS val) }, ((s.al[i]?).map (·.1)).getD 0, false, 0)
  | none => if fullS s.most s.last s.out then (s, 0, false, 10) else
    ({ most := s.most, last := s.last + 1, out := s.out ++ [s.last + 1], al := s.al ++ [(s.last + 1, ls, canS val)], has := putM s.has (s.last + 1) ls, rows := addRows s.rows (s.last + 1) ls }, s.last + 1, true, 0)
end Go.Proofs.YtffbcfcoddacmaaGreat
set_option linter.unusedVariables false
set_option linter.unusedSimpArgs false
set_option maxHeartbeats 400000
set_option maxRecDepth 100000
namespace Go.Proofs.YtffbcfcoddacmaaGreat
open Go Go.X
end Go.Proofs.YtffbcfcoddacmaaGreat
set_option linter.unusedVariables false
set_option linter.unusedSimpArgs false
set_option maxHeartbeats 400000
set_option maxRecDepth 100000
namespace Go.Proofs.YtffbcfcoddacmaaGreat
open Go Go.X
end Go.Proofs.YtffbcfcoddacmaaGreat
set_option linter.unusedVariables false
set_option linter.unusedSimpArgs false
set_option maxHeartbeats 400000
set_option maxRecDepth 100000
namespace Go.Proofs.YtffbcfcoddacmaaGreat
open Go Go.X
def ltI (x y : Int) : Bool := decide (x < y)
def insR (L : List Int) (x : Int) : List Int := if 0 < pos ltI x L ∧ L[pos ltI x L - 1]? = some x then L else L.take (pos ltI x L) ++ x :: L.drop (pos ltI x L)
def rise (xs : List Int) : List Int := xs.foldl insR []
theorem rise_snoc (xs : List Int) (x : Int) : rise (xs ++ [x]) = insR (rise xs) x := by simp [rise]
theorem pos_split {lt : Int → Int → Bool} {x : Int} {L : List Int} {j : Nat} (hj : j ≤ L.length) (hD : ∀ y ∈ L.drop j, lt x y = true) (hA : ∀ y, 0 < j → L[j - 1]? = some y → lt x y = false) : pos lt x L = j := by
  have h1 : L.reverse.takeWhile (lt x) = (L.drop j).reverse := by
    have e : L.reverse = (L.drop j).reverse ++ (L.take j).reverse := by rw [← List.reverse_append, List.take_append_drop]
    rw [e, List.takeWhile_append_of_pos (by intro y hy; exact hD y (by simpa using hy))]
    have : (L.take j).reverse.takeWhile (lt x) = [] := by
      cases hr : (L.take j).reverse with
      | nil => rfl
      | cons y l =>
        have e2 : L.take j = l.reverse ++ [y] := by have := congrArg List.reverse hr; simpa using this
        have hjl : j = l.length + 1 := by have := congrArg List.length e2; simp at this; omega
        have hy : L[j - 1]? = some y := by
          have h3 : (L.take j)[l.length]? = some y := by rw [e2]; simp
          rw [List.getElem?_take_of_lt (by omega)] at h3
          rw [hjl]; exact h3
        simp [List.takeWhile, hA y (by omega) hy]
    rw [this, List.append_nil]
  unfold pos
  rw [h1]
  simp; omega
theorem insR_len (L : List Int) (x : Int) : (insR L x).length ≤ L.length + 1 := by
  have hp : pos ltI x L ≤ L.length := Nat.sub_le _ _
  unfold insR
  split
  · omega
  · simp; omega
theorem rise_le (xs : List Int) : (rise xs).length ≤ xs.length := by
  have key : ∀ (xs L : List Int), (xs.foldl insR L).length ≤ xs.length + L.length := by
    intro xs
    induction xs with
    | nil => intro L; simp
    | cons x xs ih => intro L; rw [List.foldl_cons]; have := ih (insR L x); have := insR_len L x; simp; omega
  unfold rise
  simpa using key xs []
theorem laid {w : World} {t : TypeId} {u : Value} {L : List Int} {j : Nat} {x : Int} {R : List Int} (hj : j ≤ L.length) (hI : R = L.take j ++ x :: L.drop j) (h : Row w t 1 u (0 + j + 1 + (L.length - j)) (([] ++ ints (L.take j)) ++ (Value.int .i64 x).cells.toList ++ ints (L.drop j))) : Row w t 1 u R.length (ints R) := by
  subst hI
  have e1 : ([] ++ ints (L.take j)) ++ (Value.int .i64 x).cells.toList ++ ints (L.drop j) = ints (L.take j ++ x :: L.drop j) := by simp [Value.cells]
  have e2 : 0 + j + 1 + (L.length - j) = (L.take j ++ x :: L.drop j).length := by simp; omega
  rw [e1, e2] at h
  exact h
theorem rising_ok (M : Nat → Prop) (xs : List Int) (v : Value) (w : World) (hv : Sl M w v 1 xs.length (ints xs)) (hb : xs.length ≤ 1000000000000) :
    Fx Tryz.prog 44 [v] w (fun u w' => Row w' 3 1 u (rise xs).length (ints (rise xs)) ∧ Fresh w.heap.size u ∧ Grow w w') := by
  obtain ⟨ad, c, rfl⟩ := hv.shape
  refine enter Tryz.func44 rfl rfl rfl _ (Pick.sub (l := [0]) (.cons rfl .nil)) ?_
  refine RK.seq ?_
  refine RK.region ?_
  refine RL.p rfl rfl ?_
  refine RL.done ?_
  refine RK.seq ?_
  refine RK.region ?_
  refine RL.p rfl rfl ?_
  refine RL.done ?_
  iterate 2 refine RK.seq ?_
  refine RK.region ?_
  refine RL.p rfl rfl ?_
  refine RL.done ?_
  refine RK.block ?_
  refine RK.loop (fun s : Nat × Value => [(0, .slice ad xs.length c), (3, s.2), (4, .int .i64 (s.1 : Int))]) (fun s w' => Row w' 3 1 s.2 (rise (xs.take s.1)).length (ints (rise (xs.take s.1))) ∧ Fresh w.heap.size s.2 ∧ Grow w w' ∧ s.1 ≤ xs.length) (fun s => xs.length - s.1) (0, .slice none 0 0) ⟨rfl, rfl, rfl, trivial⟩ ⟨by simpa [rise] using Row.nil _ _ _, fun b hb => by simp [Value.ownBlock] at hb, Mod.refl _ _, by omega⟩ (fun s w' hI ih => ?_)
  obtain ⟨i, u⟩ := s
  obtain ⟨hr, hfr, hg, hi⟩ := hI
  simp only at hr hfr hi
  iterate 2 refine RK.seq ?_
  refine RK.region ?_
  iterate 2 refine RL.p rfl rfl ?_
  refine RL.q (.free rfl) rfl rfl (Yld.lenSl u22 rfl) ?_
  refine RL.p rfl rfl ?_
  refine RL.done ?_
  first | refine RK.condD rfl (fun h9 => ?_) (fun h9 => ?_) | refine RK.condN rfl (fun h9 => ?_) (fun h9 => ?_) | refine RK.cond rfl (fun h9 => ?_) (fun h9 => ?_)
  · obtain ⟨x, hx⟩ : ∃ x, xs[i]? = some x := ⟨xs[i]'(by omega), List.getElem?_eq_getElem (by omega)⟩
    have htk : xs.take (i + 1) = xs.take i ++ [x] := by rw [List.take_succ_eq_append_getElem (by omega)]; congr 2; exact (List.getElem?_eq_some_iff.1 hx).2
    obtain ⟨b1, o1, c1', he1, _, _, hc1⟩ := hv.elem1 (k := i) (u := .int .i64 x) (by simp [hx])
    cases he1
    have hLle : (rise (xs.take i)).length ≤ i := Nat.le_trans (rise_le _) (by simp; omega)
    generalize hLe : rise (xs.take i) = L at *
    obtain ⟨adu, cu, rfl, hcu⟩ := hr.cap
    have hsu : Sl No w' (.slice adu L.length cu) 1 L.length (ints L) := Sl.own hr (fun _ _ h => h)
    refine RK.skip ?_
    refine RK.seq ?_
    refine RK.block ?_
    refine RK.seq ?_
    refine RK.region ?_
    refine RL.p rfl rfl ?_
    refine RL.q (.free rfl) rfl rfl (Yld.lenSl u22 rfl) ?_
    refine RL.p rfl rfl ?_
    refine RL.done ?_
    refine RK.seq ?_
    refine RK.block ?_
    refine RK.loop (fun j : Nat => [(0, .slice (some ⟨b1, o1, none⟩) xs.length c), (3, .slice adu L.length cu), (4, .int .i64 (i : Int)), (5, .int .i64 (j : Int))]) (fun j w2 => Grow w' w2 ∧ j ≤ L.length ∧ ∀ y ∈ L.drop j, ltI x y = true) (fun j => j) L.length ⟨rfl, rfl, rfl, rfl, trivial⟩ ⟨Mod.refl _ _, Nat.le_refl _, by simp⟩ (fun j w2 hI2 ih2 => ?_)
    obtain ⟨hg2, hj, hD⟩ := hI2
    have hin : ∀ w3, Grow w' w3 → w3.cell? ⟨b1, o1 + i * 1, none⟩ = some (.int .i64 x) := fun w3 h3 => (hg.trans h3).cell (hc1 i (.int .i64 x) (by simp [hx])) (fun h => h)
    have hhi : ∀ w3, Grow w' w3 → Sl No w3 (.slice adu j cu) 1 j (ints (L.take j)) := fun w3 h3 => by have := (hsu.mod h3).take hj; rwa [← List.map_take] at this
    have hlo : ∀ w3, Grow w' w3 → Sl No w3 (.slice (fromAt adu cu j 1) (L.length - j) (cu - j)) 1 (L.length - j) (ints (L.drop j)) := fun w3 h3 => by have := (hsu.mod h3).from hj hcu; rwa [← List.map_drop] at this
    iterate 2 refine RK.seq ?_
    refine RK.drawM No [(0, false), (1, false), (2, false), (3, false), (4, false), (5, false), (6, false), (7, false), (8, false), (9, false), (10, false), (11, false), (12, false), (13, false)] [] mixed (by kernel_rfl) ?_
    iterate 3 refine DL.p rfl rfl rfl ?_
    first | refine DL.splitD (d := 16) rfl rfl (fun h15 => ?_) (fun h15 => ?_) | refine DL.splitN (d := 16) rfl rfl (fun h15 => ?_) (fun h15 => ?_) | refine DL.split (d := 16) rfl rfl (fun h15 => ?_) (fun h15 => ?_)
    · obtain ⟨y, hy⟩ : ∃ y, L[j - 1]? = some y := ⟨L[j - 1]'(by omega), List.getElem?_eq_getElem (by omega)⟩
      obtain ⟨b2, o2, c2', he2, _, _, hc2⟩ := hsu.elem1 (k := j - 1) (u := .int .i64 y) (by simp [hy])
      cases he2
      iterate 3 refine DL.qf rfl (.yes rfl rfl rfl) rfl rfl (Yld.pure rfl) ?_
      refine DL.re (d := 19) rfl rfl (sub_i64 (z := ((j - 1 : Nat) : Int)) (by omega) (by omega) (by omega)) ?_
      refine DL.qf rfl (.yes rfl rfl rfl) rfl rfl (Yld.indexAddrN u22 i3 rfl rfl (by omega)) ?_
      refine DL.q rfl (.yes rfl rfl rfl) rfl rfl rfl (Yld.load p3 rfl (atM (hg2.cell (hc2 (j - 1) (.int .i64 y) (by simp [hy])) (fun h => h)) (fun h => h))) (Mod.drew _ _) ?_
      iterate 2 refine DL.qf rfl (.yes rfl rfl rfl) rfl rfl (Yld.pure rfl) ?_
      refine DL.qf rfl (.yes rfl rfl rfl) rfl rfl (Yld.indexAddrN u22 i3 rfl rfl (by omega)) ?_
      refine DL.q rfl (.yes rfl rfl rfl) rfl rfl rfl (Yld.load p3 rfl (atM (hin _ hg2) (fun h => h))) (Mod.drew _ _) ?_
      refine DL.qf rfl (.yes rfl rfl rfl) rfl rfl (Yld.pure rfl) ?_
      refine DL.p rfl rfl rfl ?_
      refine DL.done ?_
      first | refine RK.condD rfl (fun h27 => ?_) (fun h27 => ?_) | refine RK.condN rfl (fun h27 => ?_) (fun h27 => ?_) | refine RK.cond rfl (fun h27 => ?_) (fun h27 => ?_)
      · refine RK.skip ?_
        refine RK.block ?_
        refine RK.region ?_
        iterate 2 refine RL.p rfl rfl ?_
        refine RL.re (d := 29) rfl rfl (sub_i64 (z := ((j - 1 : Nat) : Int)) (by omega) (by omega) (by omega)) ?_
        refine RL.p rfl rfl ?_
        refine RL.done ?_
        refine RK.inBlock ?_
        exact RK.back (ih2 (j - 1) _ ⟨hg2.trans (Mod.drew _ _), by omega, fun z hz => by
            rw [show L.drop (j - 1) = y :: L.drop j by rw [List.drop_eq_getElem_cons (by omega : j - 1 < L.length), show j - 1 + 1 = j by omega, (List.getElem?_eq_some_iff.1 hy).2]] at hz
            rcases List.mem_cons.1 hz with rfl | hz
            · exact decide_eq_true h27
            · exact hD z hz
          ⟩ (by omega)) ⟨rfl, rfl, rfl, rfl, trivial⟩
      · have hpos : pos ltI x L = j := pos_split hj hD (fun z _ hz => by rw [hy] at hz; cases hz; exact decide_eq_false h27)
        have hg3 : Grow w' w2.drew := hg2.trans (Mod.drew _ _)
        refine RK.exit rfl ?_
        iterate 2 refine RK.seq ?_
        refine RK.drawM No [(0, false), (1, false), (2, false), (3, false), (4, false), (5, false), (6, false), (7, false), (8, false), (9, false), (10, false), (11, false), (12, false), (13, false)] [] mixed (by kernel_rfl) ?_
        iterate 3 refine DL.p rfl rfl rfl ?_
        refine DL.knownT (d := 32) rfl rfl (decide_eq_true h15) ?_
        iterate 3 refine DL.qf rfl (.yes rfl rfl rfl) rfl rfl (Yld.pure rfl) ?_
        refine DL.re (d := 35) rfl rfl (sub_i64 (z := ((j - 1 : Nat) : Int)) (by omega) (by omega) (by omega)) ?_
        refine DL.qf rfl (.yes rfl rfl rfl) rfl rfl (Yld.indexAddrN u22 i3 rfl rfl (by omega)) ?_
        refine DL.q rfl (.yes rfl rfl rfl) rfl rfl rfl (Yld.load p3 rfl (atM (hg3.cell (hc2 (j - 1) (.int .i64 y) (by simp [hy])) (fun h => h)) (fun h => h))) (Mod.drew _ _) ?_
        iterate 2 refine DL.qf rfl (.yes rfl rfl rfl) rfl rfl (Yld.pure rfl) ?_
        refine DL.qf rfl (.yes rfl rfl rfl) rfl rfl (Yld.indexAddrN u22 i3 rfl rfl (by omega)) ?_
        refine DL.q rfl (.yes rfl rfl rfl) rfl rfl rfl (Yld.load p3 rfl (atM (hin _ hg3) (fun h => h))) (Mod.drew _ _) ?_
        refine DL.qf rfl (.yes rfl rfl rfl) rfl rfl (Yld.pure rfl) ?_
        refine DL.p rfl rfl rfl ?_
        refine DL.done ?_
        first | refine RK.condD rfl (fun h43 => ?_) (fun h43 => ?_) | refine RK.condN rfl (fun h43 => ?_) (fun h43 => ?_) | refine RK.cond rfl (fun h43 => ?_) (fun h43 => ?_)
        · have hL : insR L x = L := by unfold insR; rw [hpos, if_pos ⟨by omega, by rw [hy, h43]⟩]
          refine RK.exit rfl ?_
          refine RK.region ?_
          iterate 2 refine RL.p rfl rfl ?_
          refine RL.re (d := 11) rfl rfl (succ_i64 (by have := hv.big; omega)) ?_
          refine RL.p rfl rfl ?_
          refine RL.done ?_
          exact RK.back (ih (i + 1, _) _ ⟨by rw [htk, rise_snoc, hLe, hL]; exact (hr.mod hg3 (fun _ _ h => h)).mod (Mod.drew No _) (fun _ _ h => h), hfr, (hg.trans hg3).trans (Mod.drew _ _), by simp; omega⟩ (by simp; omega)) ⟨rfl, rfl, rfl, trivial⟩
        · have hI : insR L x = L.take j ++ x :: L.drop j := by unfold insR; rw [hpos, if_neg (by rintro ⟨_, h⟩; rw [hy] at h; cases h; exact h43 rfl)]
          have hgr0 : Grow w' w2.drew.drew := hg3.trans (Mod.drew _ _)
          obtain ⟨w9, hw9⟩ : ∃ w9, w9 = w2.drew.drew := ⟨_, rfl⟩
          rw [← hw9]
          have hgr : Grow w' w9 := hw9 ▸ hgr0
          have hgd : Grow w' w9.drew := hgr.trans (Mod.drew _ _)
          refine RK.skip ?_
          refine RK.drawF No [(0, false), (1, false), (2, false), (4, false), (5, false), (6, false), (7, false), (10, false), (11, false), (12, false)] 3 8 [(8, true), (9, true), (13, true), (14, false)] [(3, true), (9, true), (13, true), (14, false)] [] mixed (by kernel_rfl) ?_
          iterate 2 refine DL.p rfl rfl rfl ?_
          refine DL.qf rfl (.free rfl) rfl rfl (Yld.sliceHi u22 i3 (m := j) rfl rfl (by omega)) ?_
          iterate 2 refine DL.p rfl rfl rfl ?_
          refine DL.qf rfl (.free rfl) rfl rfl (Yld.indexAddrN u22 i3 rfl rfl (by omega)) ?_
          refine DL.q rfl (.free rfl) rfl rfl rfl (Yld.load p3 rfl (atM (hin _ hgr) (fun h => h))) (Mod.drew _ _) ?_
          iterate 2 refine DL.p rfl rfl rfl ?_
          refine DL.qf rfl (.free rfl) rfl rfl (Yld.sliceFrom u22 i3 (m := j) rfl rfl hj) ?_
          refine DL.fork ?_ ?_
          · refine DL.op rfl (.free rfl) rfl rfl (Does.append u22 i3 rfl rfl rfl rfl rfl (Row.nil _ _ _) (hhi _ hgd) (allOne_ints _) (by omega)) ?_
            rintro u1 v1 ⟨hr1, hm1, hu1⟩
            have hg1 : Grow w9.drew v1 := hm1.mono (fun b _ e => by simp [Value.ownBlock] at e)
            refine ⟨(Mod.drew _ _).trans hg1, ?_⟩
            refine DL.op rfl (.free rfl) rfl rfl (Does.slice1 u22 i3 rfl rfl rfl rfl rfl) ?_
            rintro _ v2 ⟨b2, rfl, hn2⟩
            refine ⟨((Mod.drew _ _).trans hg1).trans hn2.grow, ?_⟩
            refine DL.op rfl (.free rfl) rfl rfl (Does.append u22 i3 rfl rfl rfl rfl rfl (hr1.mod hn2.grow (fun _ _ h => h)) (Sl.new hn2 1 1 rfl (by omega) (fun h => h)) (rfl) (by omega)) ?_
            rintro u3 v3 ⟨hr3, hm3, hu3⟩
            have hf1 : Fresh w9.drew.heap.size u1 := fun b e => by
                rcases hu1 with h | h <;> rw [h] at e
                · simp [Value.ownBlock] at e
                · cases e; omega
            have hf3 : Fresh w9.drew.heap.size u3 := fun b e => by
                have h1 := hg1.size; have h2 := hn2.size
                rcases hu3 with h | h <;> rw [h] at e
                · exact hf1 b e
                · cases e; omega
            have hg13 : Grow w9.drew v3 := (hg1.trans hn2.grow).then hm3 (fun b hb e => by have := hf1 b e; omega)
            refine ⟨(Mod.drew _ _).trans hg13, ?_⟩
            refine DL.op rfl (.free rfl) rfl rfl (Does.append u22 i3 rfl rfl rfl rfl rfl (hr3) (hlo _ (hgd.trans hg13)) (allOne_ints _) (by omega)) ?_
            rintro u4 v4 ⟨hr4, hm4, hu4⟩
            have hg14 : Grow w9.drew v4 := hg13.then hm4 (fun b hb e => by have := hf3 b e; omega)
            have hf4 : Fresh w.heap.size u4 := fun b e => by
                have h1 := hg13.size; have h2 := (hg.trans hgd).size
                rcases hu4 with h | h <;> rw [h] at e
                · have := hf3 b e; omega
                · cases e; omega
            refine ⟨(Mod.drew _ _).trans hg14, ?_⟩
            refine DL.p rfl rfl rfl ?_
            refine DL.done ?_
            refine RK.inBlock ?_
            refine RK.region ?_
            iterate 2 refine RL.p rfl rfl ?_
            refine RL.re (d := 11) rfl rfl (succ_i64 (by have := hv.big; omega)) ?_
            refine RL.p rfl rfl ?_
            refine RL.done ?_
            exact RK.back (ih (i + 1, u4) _ ⟨by rw [htk, rise_snoc, hLe]; exact laid hj hI hr4, hf4, (hg.trans hgd).trans hg14, by simp; omega⟩ (by simp; omega)) ⟨rfl, rfl, rfl, trivial⟩
          · refine DL.op rfl (.free rfl) rfl rfl (Does.slice1 u22 i3 rfl rfl rfl rfl rfl) ?_
            rintro _ v2 ⟨b2, rfl, hn2⟩
            refine ⟨(Mod.drew _ _).trans hn2.grow, ?_⟩
            refine DL.op rfl (.free rfl) rfl rfl (Does.append u22 i3 rfl rfl rfl rfl rfl (Row.nil _ _ _) (hhi _ (hgd.trans hn2.grow)) (allOne_ints _) (by omega)) ?_
            rintro u1 v1 ⟨hr1, hm1, hu1⟩
            have hg1' : Grow v2 v1 := hm1.mono (fun b _ e => by simp [Value.ownBlock] at e)
            have hg1 : Grow w9.drew v1 := hn2.grow.trans hg1'
            refine ⟨(Mod.drew _ _).trans hg1, ?_⟩
            refine DL.op rfl (.free rfl) rfl rfl (Does.append u22 i3 rfl rfl rfl rfl rfl (hr1) ((Sl.new hn2 1 1 rfl (by omega) (fun h => h)).mod hg1') (rfl) (by omega)) ?_
            rintro u3 v3 ⟨hr3, hm3, hu3⟩
            have hf1 : Fresh w9.drew.heap.size u1 := fun b e => by
                have h2 := hn2.size
                rcases hu1 with h | h <;> rw [h] at e
                · simp [Value.ownBlock] at e
                · cases e; omega
            have hf3 : Fresh w9.drew.heap.size u3 := fun b e => by
                have h1 := hg1.size
                rcases hu3 with h | h <;> rw [h] at e
                · exact hf1 b e
                · cases e; omega
            have hg13 : Grow w9.drew v3 := hg1.then hm3 (fun b hb e => by have := hf1 b e; omega)
            refine ⟨(Mod.drew _ _).trans hg13, ?_⟩
            refine DL.op rfl (.free rfl) rfl rfl (Does.append u22 i3 rfl rfl rfl rfl rfl (hr3) (hlo _ (hgd.trans hg13)) (allOne_ints _) (by omega)) ?_
            rintro u4 v4 ⟨hr4, hm4, hu4⟩
            have hg14 : Grow w9.drew v4 := hg13.then hm4 (fun b hb e => by have := hf3 b e; omega)
            have hf4 : Fresh w.heap.size u4 := fun b e => by
                have h1 := hg13.size; have h2 := (hg.trans hgd).size
                rcases hu4 with h | h <;> rw [h] at e
                · have := hf3 b e; omega
                · cases e; omega
            refine ⟨(Mod.drew _ _).trans hg14, ?_⟩
            refine DL.p rfl rfl rfl ?_
            refine DL.done ?_
            refine RK.inBlock ?_
            refine RK.region ?_
            iterate 2 refine RL.p rfl rfl ?_
            refine RL.re (d := 11) rfl rfl (succ_i64 (by have := hv.big; omega)) ?_
            refine RL.p rfl rfl ?_
            refine RL.done ?_
            exact RK.back (ih (i + 1, u4) _ ⟨by rw [htk, rise_snoc, hLe]; exact laid hj hI hr4, hf4, (hg.trans hgd).trans hg14, by simp; omega⟩ (by simp; omega)) ⟨rfl, rfl, rfl, trivial⟩
    · have hj0 : j = 0 := by omega
      have hpos : pos ltI x L = j := pos_split hj hD (fun z h0 _ => by omega)
      have hI : insR L x = L.take j ++ x :: L.drop j := by unfold insR; rw [hpos, if_neg (by rintro ⟨h, _⟩; omega)]
      iterate 10 refine DL.no rfl (.no rfl rfl rfl rfl) rfl rfl ?_
      refine DL.p rfl rfl rfl ?_
      refine DL.done ?_
      refine RK.condF rfl ?_
      refine RK.exit rfl ?_
      iterate 2 refine RK.seq ?_
      refine RK.drawM No [(0, false), (1, false), (2, false), (3, false), (4, false), (5, false), (6, false), (7, false), (8, false), (9, false), (10, false), (11, false), (12, false), (13, false)] [] mixed (by kernel_rfl) ?_
      iterate 3 refine DL.p rfl rfl rfl ?_
      refine DL.knownF (d := 32) rfl rfl (decide_eq_false h15) ?_
      iterate 10 refine DL.no rfl (.no rfl rfl rfl rfl) rfl rfl ?_
      refine DL.p rfl rfl rfl ?_
      refine DL.done ?_
      obtain ⟨w9, hw9⟩ : ∃ w9, w9 = w2.drew.drew := ⟨_, rfl⟩
      have hgr : Grow w' w9 := hw9 ▸ ((hg2.trans (Mod.drew _ _)).trans (Mod.drew _ _))
      rw [← hw9]
      have hgd : Grow w' w9.drew := hgr.trans (Mod.drew _ _)
      refine RK.condF rfl ?_
      refine RK.skip ?_
      refine RK.drawF No [(0, false), (1, false), (2, false), (4, false), (5, false), (6, false), (7, false), (10, false), (11, false), (12, false)] 3 8 [(8, true), (9, true), (13, true), (14, false)] [(3, true), (9, true), (13, true), (14, false)] [] mixed (by kernel_rfl) ?_
      iterate 2 refine DL.p rfl rfl rfl ?_
      refine DL.qf rfl (.free rfl) rfl rfl (Yld.sliceHi u22 i3 (m := j) rfl rfl (by omega)) ?_
      iterate 2 refine DL.p rfl rfl rfl ?_
      refine DL.qf rfl (.free rfl) rfl rfl (Yld.indexAddrN u22 i3 rfl rfl (by omega)) ?_
      refine DL.q rfl (.free rfl) rfl rfl rfl (Yld.load p3 rfl (atM (hin _ hgr) (fun h => h))) (Mod.drew _ _) ?_
      iterate 2 refine DL.p rfl rfl rfl ?_
      refine DL.qf rfl (.free rfl) rfl rfl (Yld.sliceFrom u22 i3 (m := j) rfl rfl hj) ?_
      refine DL.fork ?_ ?_
      · refine DL.op rfl (.free rfl) rfl rfl (Does.append u22 i3 rfl rfl rfl rfl rfl (Row.nil _ _ _) (hhi _ hgd) (allOne_ints _) (by omega)) ?_
        rintro u1 v1 ⟨hr1, hm1, hu1⟩
        have hg1 : Grow w9.drew v1 := hm1.mono (fun b _ e => by simp [Value.ownBlock] at e)
        refine ⟨(Mod.drew _ _).trans hg1, ?_⟩
        refine DL.op rfl (.free rfl) rfl rfl (Does.slice1 u22 i3 rfl rfl rfl rfl rfl) ?_
        rintro _ v2 ⟨b2, rfl, hn2⟩
        refine ⟨((Mod.drew _ _).trans hg1).trans hn2.grow, ?_⟩
        refine DL.op rfl (.free rfl) rfl rfl (Does.append u22 i3 rfl rfl rfl rfl rfl (hr1.mod hn2.grow (fun _ _ h => h)) (Sl.new hn2 1 1 rfl (by omega) (fun h => h)) (rfl) (by omega)) ?_
        rintro u3 v3 ⟨hr3, hm3, hu3⟩
        have hf1 : Fresh w9.drew.heap.size u1 := fun b e => by
            rcases hu1 with h | h <;> rw [h] at e
            · simp [Value.ownBlock] at e
            · cases e; omega
        have hf3 : Fresh w9.drew.heap.size u3 := fun b e => by
            have h1 := hg1.size; have h2 := hn2.size
            rcases hu3 with h | h <;> rw [h] at e
            · exact hf1 b e
            · cases e; omega
        have hg13 : Grow w9.drew v3 := (hg1.trans hn2.grow).then hm3 (fun b hb e => by have := hf1 b e; omega)
        refine ⟨(Mod.drew _ _).trans hg13, ?_⟩
        refine DL.op rfl (.free rfl) rfl rfl (Does.append u22 i3 rfl rfl rfl rfl rfl (hr3) (hlo _ (hgd.trans hg13)) (allOne_ints _) (by omega)) ?_
        rintro u4 v4 ⟨hr4, hm4, hu4⟩
        have hg14 : Grow w9.drew v4 := hg13.then hm4 (fun b hb e => by have := hf3 b e; omega)
        have hf4 : Fresh w.heap.size u4 := fun b e => by
            have h1 := hg13.size; have h2 := (hg.trans hgd).size
            rcases hu4 with h | h <;> rw [h] at e
            · have := hf3 b e; omega
            · cases e; omega
        refine ⟨(Mod.drew _ _).trans hg14, ?_⟩
        refine DL.p rfl rfl rfl ?_
        refine DL.done ?_
        refine RK.inBlock ?_
        refine RK.region ?_
        iterate 2 refine RL.p rfl rfl ?_
        refine RL.re (d := 11) rfl rfl (succ_i64 (by have := hv.big; omega)) ?_
        refine RL.p rfl rfl ?_
        refine RL.done ?_
        exact RK.back (ih (i + 1, u4) _ ⟨by rw [htk, rise_snoc, hLe]; exact laid hj hI hr4, hf4, (hg.trans hgd).trans hg14, by simp; omega⟩ (by simp; omega)) ⟨rfl, rfl, rfl, trivial⟩
      · refine DL.op rfl (.free rfl) rfl rfl (Does.slice1 u22 i3 rfl rfl rfl rfl rfl) ?_
        rintro _ v2 ⟨b2, rfl, hn2⟩
        refine ⟨(Mod.drew _ _).trans hn2.grow, ?_⟩
        refine DL.op rfl (.free rfl) rfl rfl (Does.append u22 i3 rfl rfl rfl rfl rfl (Row.nil _ _ _) (hhi _ (hgd.trans hn2.grow)) (allOne_ints _) (by omega)) ?_
        rintro u1 v1 ⟨hr1, hm1, hu1⟩
        have hg1' : Grow v2 v1 := hm1.mono (fun b _ e => by simp [Value.ownBlock] at e)
        have hg1 : Grow w9.drew v1 := hn2.grow.trans hg1'
        refine ⟨(Mod.drew _ _).trans hg1, ?_⟩
        refine DL.op rfl (.free rfl) rfl rfl (Does.append u22 i3 rfl rfl rfl rfl rfl (hr1) ((Sl.new hn2 1 1 rfl (by omega) (fun h => h)).mod hg1') (rfl) (by omega)) ?_
        rintro u3 v3 ⟨hr3, hm3, hu3⟩
        have hf1 : Fresh w9.drew.heap.size u1 := fun b e => by
            have h2 := hn2.size
            rcases hu1 with h | h <;> rw [h] at e
            · simp [Value.ownBlock] at e
            · cases e; omega
        have hf3 : Fresh w9.drew.heap.size u3 := fun b e => by
            have h1 := hg1.size
            rcases hu3 with h | h <;> rw [h] at e
            · exact hf1 b e
            · cases e; omega
        have hg13 : Grow w9.drew v3 := hg1.then hm3 (fun b hb e => by have := hf1 b e; omega)
        refine ⟨(Mod.drew _ _).trans hg13, ?_⟩
        refine DL.op rfl (.free rfl) rfl rfl (Does.append u22 i3 rfl rfl rfl rfl rfl (hr3) (hlo _ (hgd.trans hg13)) (allOne_ints _) (by omega)) ?_
        rintro u4 v4 ⟨hr4, hm4, hu4⟩
        have hg14 : Grow w9.drew v4 := hg13.then hm4 (fun b hb e => by have := hf3 b e; omega)
        have hf4 : Fresh w.heap.size u4 := fun b e => by
            have h1 := hg13.size; have h2 := (hg.trans hgd).size
            rcases hu4 with h | h <;> rw [h] at e
            · have := hf3 b e; omega
            · cases e; omega
        refine ⟨(Mod.drew _ _).trans hg14, ?_⟩
        refine DL.p rfl rfl rfl ?_
        refine DL.done ?_
        refine RK.inBlock ?_
        refine RK.region ?_
        iterate 2 refine RL.p rfl rfl ?_
        refine RL.re (d := 11) rfl rfl (succ_i64 (by have := hv.big; omega)) ?_
        refine RL.p rfl rfl ?_
        refine RL.done ?_
        exact RK.back (ih (i + 1, u4) _ ⟨by rw [htk, rise_snoc, hLe]; exact laid hj hI hr4, hf4, (hg.trans hgd).trans hg14, by simp; omega⟩ (by simp; omega)) ⟨rfl, rfl, rfl, trivial⟩
  · have ek : xs.take i = xs := List.take_of_length_le (by omega)
    rw [ek] at hr
    refine RK.exit rfl ?_
    refine RK.seq ?_
    refine RK.region ?_
    iterate 2 refine RL.p rfl rfl ?_
    refine RL.done ?_
    refine RK.ret_of Tryz.func44 (res1 rfl rfl) ?_ _
    exact ⟨_, rfl, hr, hfr, hg⟩
end Go.Proofs.YtffbcfcoddacmaaGreat
set_option linter.unusedVariables false
set_option linter.unusedSimpArgs false
set_option maxHeartbeats 400000
set_option maxRecDepth 100000
namespace Go.Proofs.YtffbcfcoddacmaaGreat
open Go Go.X
abbrev Ris (l : List Int) : Prop := l.Pairwise fun x y => x < y
theorem Ris.nodup {l : List Int} (h : Ris l) : l.Nodup := List.Pairwise.imp (fun h e => by omega) h
theorem ext_ris {l1 l2 : List Int} (h1 : Ris l1) (h2 : Ris l2) (h : ∀ x, x ∈ l1 ↔ x ∈ l2) : l1 = l2 := by
  have hp : l1.Perm l2 := (List.perm_ext_iff_of_nodup h1.nodup h2.nodup).2 h
  exact List.Perm.eq_of_pairwise (le := fun a b => a < b) (fun a b _ _ h1 h2 => by omega) h1 h2 hp
theorem compactUpTo_mem (d : Array Int) : ∀ m, m ≤ d.size → ∀ x, x ∈ Lib.compactUpTo d m ↔ ∃ j, j < m ∧ d[j]! = x := by
  intro m
  induction m with
  | zero => intro _ x; simp [Lib.compactUpTo]
  | succ m ih =>
    intro hm x
    rw [Lib.compactUpTo_succ, List.mem_append, ih (by omega)]
    constructor
    · rintro (⟨j, hj, e⟩ | h)
      · exact ⟨j, by omega, e⟩
      · split at h
        · simp at h; exact ⟨m, by omega, h.symm⟩
        · simp at h
    · rintro ⟨j, hj, e⟩
      by_cases hjm : j = m
      · subst hjm
        cases hk : Lib.keeps d j with
        | true => right; simp [e]
        | false =>
          left
          simp only [Lib.keeps, decide_eq_false_iff_not, not_or, Decidable.not_not] at hk
          exact ⟨j - 1, by omega, by rw [← hk.2]; exact e⟩
      · exact .inl ⟨j, by omega, e⟩
theorem mem_compact (zs : List Int) (x : Int) : x ∈ Lib.compact zs ↔ x ∈ zs := by
  unfold Lib.compact
  rw [compactUpTo_mem _ _ (by simp)]
  constructor
  · rintro ⟨j, hj, e⟩
    have : zs.toArray[j]! = zs[j] := by simp [hj]
    rw [this] at e; subst e; exact List.getElem_mem _
  · intro h
    obtain ⟨j, hj, e⟩ := List.getElem_of_mem h
    exact ⟨j, hj, by simp [hj, e]⟩
theorem compact_ris (zs : List Int) (h : zs.Pairwise fun x y => x ≤ y) : Ris (Lib.compact zs) := by
  unfold Lib.compact
  have key : ∀ m, m ≤ zs.length → Ris (Lib.compactUpTo zs.toArray m) := by
    intro m
    induction m with
    | zero => intro _; simp [Lib.compactUpTo]
    | succ m ih =>
      intro hm
      rw [Lib.compactUpTo_succ]
      refine List.pairwise_append.2 ⟨ih (by omega), by split <;> simp, fun a ha b hb => ?_⟩
      obtain ⟨j, hj, rfl⟩ := (compactUpTo_mem _ m (by simp; omega) a).1 ha
      split at hb
      · rename_i hk
        have hb := List.mem_singleton.1 hb
        subst hb
        simp only [Lib.keeps, decide_eq_true_eq] at hk
        have e1 : ∀ i, (hi : i < zs.length) → zs.toArray[i]! = zs[i] := fun i hi => by simp [hi]
        rcases hk with rfl | hk
        · omega
        · rw [e1 m (by omega), e1 (m - 1) (by omega)] at hk
          rw [e1 j (by omega), e1 m (by omega)]
          have hle := List.pairwise_iff_getElem.1 h
          have h2 := hle (m - 1) m (by omega) (by omega) (by omega)
          by_cases hjm : j = m - 1
          · subst hjm; omega
          · have h3 := hle j (m - 1) (by omega) (by omega) (by omega)
            omega
      · simp at hb
  exact key _ (Nat.le_refl _)
theorem sortI_le (xs : List Int) : (sortI xs).Pairwise fun x y => x ≤ y := by
  have := List.pairwise_mergeSort (le := fun x y : Int => decide (x ≤ y)) (fun a b c h1 h2 => by simp only [decide_eq_true_eq] at *; omega) (fun a b => by simp only [Bool.or_eq_true, decide_eq_true_eq]; omega) xs
  exact this.imp fun h => by simpa using h
theorem mem_mkRow {xs : List Int} {x : Int} : x ∈ mkRow xs ↔ x ∈ xs := by
  unfold mkRow
  rw [mem_compact]
  simp [sortI]
theorem mkRow_ris (xs : List Int) : Ris (mkRow xs) := compact_ris _ (sortI_le xs)
theorem mkRow_id {xs : List Int} (h : Ris xs) : mkRow xs = xs := ext_ris (mkRow_ris xs) h fun _ => mem_mkRow
theorem pos_cut (x : Int) (L : List Int) : ∃ A T, L = A ++ T ∧ pos ltI x L = A.length ∧ (∀ y ∈ T, x < y) ∧ ∀ A' y, A = A' ++ [y] → ¬ x < y := by
  have e : L = (L.reverse.dropWhile (ltI x)).reverse ++ (L.reverse.takeWhile (ltI x)).reverse := by
    rw [← List.reverse_append, List.takeWhile_append_dropWhile, List.reverse_reverse]
  refine ⟨(L.reverse.dropWhile (ltI x)).reverse, (L.reverse.takeWhile (ltI x)).reverse, e, ?_, fun y hy => ?_, fun A' y h => ?_⟩
  · have h1 := congrArg List.length e
    unfold pos
    simp only [List.length_append, List.length_reverse] at h1 ⊢
    omega
  · exact of_decide_eq_true (List.all_eq_true.1 (List.all_takeWhile (p := ltI x) (l := L.reverse)) y (by simpa using hy))
  · have h2 : L.reverse.dropWhile (ltI x) = y :: A'.reverse := by have := congrArg List.reverse h; simpa using this
    have := List.head_dropWhile_not (ltI x) (l := L.reverse) (by rw [h2]; simp)
    simpa [h2, ltI] using this
theorem pos_spec (x : Int) (L : List Int) : pos ltI x L ≤ L.length ∧ (∀ y ∈ L.drop (pos ltI x L), x < y) ∧ ∀ y, 0 < pos ltI x L → L[pos ltI x L - 1]? = some y → ¬ x < y := by
  obtain ⟨A, T, rfl, hp, hT, hA⟩ := pos_cut x L
  refine ⟨Nat.sub_le _ _, fun y hy => ?_, fun y h0 hy => ?_⟩
  · rw [hp, List.drop_left] at hy; exact hT y hy
  · rw [hp] at hy h0
    rcases List.eq_nil_or_concat A with rfl | ⟨A', z, rfl⟩
    · simp at h0
    · rw [List.concat_eq_append] at hy hA
      rw [List.getElem?_append_left (by simp)] at hy
      simp at hy
      subst hy
      exact hA A' z rfl
theorem insR_mem {L : List Int} {x y : Int} : y ∈ insR L x ↔ y ∈ L ∨ y = x := by
  unfold insR
  split
  · rename_i h
    have := List.mem_of_getElem? h.2
    constructor
    · exact .inl
    · rintro (h | rfl) <;> assumption
  · have : y ∈ L ↔ y ∈ L.take (pos ltI x L) ∨ y ∈ L.drop (pos ltI x L) := by rw [← List.mem_append, List.take_append_drop]
    rw [this, List.mem_append, List.mem_cons]
    constructor
    · rintro (h | h | h) <;> simp [h]
    · rintro ((h | h) | h) <;> simp [h]
theorem insR_ris {L : List Int} (x : Int) (hL : Ris L) : Ris (insR L x) := by
  obtain ⟨h1, h2, h3⟩ := pos_spec x L
  unfold insR
  split
  · exact hL
  · rename_i hn
    generalize pos ltI x L = j at *
    have hs : Ris (L.take j ++ L.drop j) := by rw [List.take_append_drop]; exact hL
    obtain ⟨a1, a2, a3⟩ := List.pairwise_append.1 hs
    refine List.pairwise_append.2 ⟨a1, List.pairwise_cons.2 ⟨h2, a2⟩, fun a ha b hb => ?_⟩
    have hax : a < x := by
      obtain ⟨i, hi, rfl⟩ := List.getElem_of_mem ha
      simp at hi
      have hj0 : 0 < j := by omega
      have hlast : L[j - 1]? = some (L[j - 1]'(by omega)) := List.getElem?_eq_getElem (by omega)
      have h4 := h3 _ hj0 hlast
      have h5 : L[j - 1]'(by omega) ≠ x := fun e => hn ⟨hj0, by rw [hlast, e]⟩
      rw [List.getElem_take]
      by_cases e : i = j - 1
      · subst e; omega
      · have := List.pairwise_iff_getElem.1 hL i (j - 1) (by omega) (by omega) (by omega)
        omega
    rcases List.mem_cons.1 hb with rfl | hb
    · exact hax
    · have := h2 b hb; omega
theorem rise_spec (xs : List Int) : Ris (rise xs) ∧ ∀ y, y ∈ rise xs ↔ y ∈ xs := by
  have key : ∀ (xs L : List Int), Ris L → Ris (xs.foldl insR L) ∧ ∀ y, y ∈ xs.foldl insR L ↔ y ∈ L ∨ y ∈ xs := by
    intro xs
    induction xs with
    | nil => intro L h; simp [h]
    | cons x xs ih =>
      intro L h
      obtain ⟨h1, h2⟩ := ih (insR L x) (insR_ris x h)
      refine ⟨h1, fun y => ?_⟩
      rw [List.foldl_cons, h2, insR_mem, List.mem_cons]
      constructor
      · rintro ((h | h) | h) <;> simp [h]
      · rintro (h | h | h) <;> simp [h]
  obtain ⟨h1, h2⟩ := key xs [] List.Pairwise.nil
  exact ⟨h1, fun y => by rw [show rise xs = xs.foldl insR [] from rfl, h2]; simp⟩
theorem rise_ris (xs : List Int) : Ris (rise xs) := (rise_spec xs).1
theorem mem_rise {xs : List Int} {y : Int} : y ∈ rise xs ↔ y ∈ xs := (rise_spec xs).2 y
theorem rise_mkRow (xs : List Int) : rise xs = mkRow xs := ext_ris (rise_ris xs) (mkRow_ris xs) fun x => by rw [mem_rise, mem_mkRow]
end Go.Proofs.YtffbcfcoddacmaaGreat
set_option linter.unusedVariables false
set_option linter.unusedSimpArgs false
set_option maxHeartbeats 400000
set_option maxRecDepth 100000
namespace Go.Proofs.YtffbcfcoddacmaaGreat
open Go Go.X
def cutRow (row : List Int) (id : Int) : List Int := (mkRow row).filter fun y => decide (y ≠ id)
theorem mem_cutRow {row : List Int} {id x : Int} : x ∈ cutRow row id ↔ x ∈ row ∧ x ≠ id := by simp [cutRow, mem_mkRow]
def cutRow1 (id : Int) (r : List (LabK × List Int)) (x : Lab) : List (LabK × List Int) :=
  if cutRow ((lookM r (labK x)).getD []) id = [] then cutM (putM r (labK x) (cutRow ((lookM r (labK x)).getD []) id)) (labK x) else putM r (labK x) (cutRow ((lookM r (labK x)).getD []) id)
def dropRows (rows : List (LabK × List Int)) (id : Int) (ls : List Lab) : List (LabK × List Int) := ls.foldl (cutRow1 id) rows
end Go.Proofs.YtffbcfcoddacmaaGreat
set_option linter.unusedVariables false
set_option linter.unusedSimpArgs false
set_option maxHeartbeats 1000000
set_option maxRecDepth 100000
namespace Go.Proofs.YtffbcfcoddacmaaGreat
open Go Go.X
theorem value2_ok (s : ByteArray) (w : World) : Fx Tryz.prog 107 [.string s] w (fun v w' => v = .bool (valS s) ∧ w = w') := by
  refine enter Tryz.func107 rfl rfl rfl _ (Pick.sub (l := [0]) (.cons rfl .nil)) ?_
  refine RK.seq ?_
  refine RK.region ?_
  refine RL.p rfl rfl ?_
  refine RL.done ?_
  refine RK.seq ?_
  refine RK.region ?_
  refine RL.p rfl rfl ?_
  refine RL.q (.free rfl) rfl rfl (Yld.lenStr u9 rfl) ?_
  iterate 2 refine RL.p rfl rfl ?_
  first | refine RL.splitD (d := 6) rfl rfl (fun h6 => ?_) (fun h6 => ?_) | refine RL.splitN (d := 6) rfl rfl (fun h6 => ?_) (fun h6 => ?_) | refine RL.split (d := 6) rfl rfl (fun h6 => ?_) (fun h6 => ?_)
  · refine RL.q (.yes rfl rfl rfl) rfl rfl (Yld.pure rfl) ?_
    refine RL.q (.yes rfl rfl rfl) rfl rfl (Yld.lenStr u9 rfl) ?_
    refine RL.q (.yes rfl rfl rfl) rfl rfl (Yld.pure rfl) ?_
    iterate 2 refine RL.p rfl rfl ?_
    refine RL.done ?_
    refine RK.ret_of Tryz.func107 (res1 rfl rfl) ?_ _
    exact ⟨_, rfl, congrArg _ (by rw [Bool.eq_iff_iff]; simp [valS]; omega), rfl⟩
  · iterate 3 refine RL.no (.no rfl rfl rfl rfl) rfl rfl ?_
    iterate 2 refine RL.p rfl rfl ?_
    refine RL.done ?_
    refine RK.ret_of Tryz.func107 (res1 rfl rfl) ?_ _
    exact ⟨_, rfl, congrArg _ (by rw [Bool.eq_iff_iff]; simp [valS]; omega), rfl⟩
def NmTo (s : ByteArray) (k : Nat) : Prop := (∀ i, i < k → chS (bt s i).toNat = true) ∧ (0 < k → letS (bt s 0).toNat = true)
theorem NmTo.no {s : ByteArray} {k : Nat} (hk : k < s.size) (h : letS (bt s k).toNat = false) (h' : k = 0 ∨ ¬ (48 ≤ ((bt s k).toNat : Int) ∧ ((bt s k).toNat : Int) ≤ 57)) : nameS s = false := by
  rcases h' with rfl | h'
  · exact name_no2 h
  · exact name_no3 hk (by simp [chS, h]; omega)
theorem NmTo.step {s : ByteArray} {k : Nat} (h : NmTo s k) (h' : letS (bt s k).toNat = true ∨ k ≠ 0 ∧ 48 ≤ ((bt s k).toNat : Int) ∧ ((bt s k).toNat : Int) ≤ 57) : NmTo s (k + 1) := by
  refine ⟨fun i hi => ?_, fun _ => ?_⟩
  · by_cases e : i = k
    · subst e
      rcases h' with h' | h'
      · simp [chS, h']
      · simp [chS]; exact .inr (by omega)
    · exact h.1 i (by omega)
  · by_cases e : k = 0
    · subst e
      rcases h' with h' | h'
      · exact h'
      · exact absurd rfl h'.1
    · exact h.2 (by omega)
theorem NmTo.end {s : ByteArray} {k : Nat} (h : NmTo s k) (hk : k = s.size) : nameS s = decide (1 ≤ s.size ∧ s.size ≤ 12) := by
  subst hk
  by_cases hs : 1 ≤ s.size ∧ s.size ≤ 12
  · rw [decide_eq_true hs]
    exact name_yes hs.1 hs.2 (h.2 (by omega)) h.1
  · rw [decide_eq_false hs]
    exact name_no1 hs
theorem name2_ok (s : ByteArray) (hsz : s.size ≤ 9223372036854775807) (w : World) : Fx Tryz.prog 106 [.string s] w (fun v w' => v = .bool (nameS s) ∧ w = w') := by
  refine enter Tryz.func106 rfl rfl rfl _ (Pick.sub (l := [0]) (.cons rfl .nil)) ?_
  refine RK.seq ?_
  refine RK.region ?_
  refine RL.p rfl rfl ?_
  refine RL.done ?_
  iterate 2 refine RK.seq ?_
  refine RK.region ?_
  refine RL.p rfl rfl ?_
  refine RL.done ?_
  refine RK.block ?_
  refine RK.loop (fun k : Nat => [(0, .string s), (3, .int .i64 k)]) (fun k w' => w = w' ∧ k ≤ s.size ∧ NmTo s k) (fun k => s.size - k) 0 ⟨rfl, rfl, trivial⟩ ⟨rfl, by omega, fun i hi => by omega, fun h => by omega⟩ (fun k w' hI ih => ?_)
  obtain ⟨rfl, hk, hn⟩ := hI
  iterate 2 refine RK.seq ?_
  refine RK.region ?_
  iterate 2 refine RL.p rfl rfl ?_
  refine RL.q (.free rfl) rfl rfl (Yld.lenStr u9 rfl) ?_
  refine RL.p rfl rfl ?_
  refine RL.done ?_
  first | refine RK.condD rfl (fun h9 => ?_) (fun h9 => ?_) | refine RK.condN rfl (fun h9 => ?_) (fun h9 => ?_) | refine RK.cond rfl (fun h9 => ?_) (fun h9 => ?_)
  · refine RK.skip ?_
    refine RK.seq ?_
    refine RK.block ?_
    refine RK.seq ?_
    refine RK.region ?_
    iterate 2 refine RL.p rfl rfl ?_
    refine RL.q (.free rfl) rfl rfl (Yld.idxStrN u9 rfl rfl (by omega)) ?_
    refine RL.p rfl rfl ?_
    refine RL.done ?_
    refine RK.seq ?_
    refine RK.region ?_
    iterate 3 refine RL.p rfl rfl ?_
    first | refine RL.splitD (d := 17) rfl rfl (fun h17 => ?_) (fun h17 => ?_) | refine RL.splitN (d := 17) rfl rfl (fun h17 => ?_) (fun h17 => ?_) | refine RL.split (d := 17) rfl rfl (fun h17 => ?_) (fun h17 => ?_)
    · iterate 2 refine RL.q (.yes rfl rfl rfl) rfl rfl (Yld.pure rfl) ?_
      iterate 2 refine RL.p rfl rfl ?_
      first | refine RL.splitD (d := 21) rfl rfl (fun h21 => ?_) (fun h21 => ?_) | refine RL.splitN (d := 21) rfl rfl (fun h21 => ?_) (fun h21 => ?_) | refine RL.split (d := 21) rfl rfl (fun h21 => ?_) (fun h21 => ?_)
      · iterate 6 refine RL.no (.no rfl rfl rfl rfl) rfl rfl ?_
        iterate 2 refine RL.p rfl rfl ?_
        iterate 2 refine RL.no (.no rfl rfl rfl rfl) rfl rfl ?_
        iterate 2 refine RL.p rfl rfl ?_
        refine RL.done ?_
        refine RK.seq ?_
        refine RK.region ?_
        iterate 3 refine RL.p rfl rfl ?_
        iterate 10 refine RL.no (.no rfl rfl rfl rfl) rfl rfl ?_
        refine RL.p rfl rfl ?_
        refine RL.done ?_
        refine RK.condF rfl ?_
        refine RK.skip ?_
        refine RK.inBlock ?_
        refine RK.region ?_
        iterate 2 refine RL.p rfl rfl ?_
        refine RL.re (d := 11) rfl rfl (succ_i64 (by omega)) ?_
        refine RL.p rfl rfl ?_
        refine RL.done ?_
        exact RK.back (ih (k + 1) _ ⟨rfl, by omega, hn.step (by first | exact .inl (by simp [letS]; omega) | exact .inr (by omega))⟩ (by omega)) ⟨rfl, rfl, trivial⟩
      · iterate 3 refine RL.q (.yes rfl rfl rfl) rfl rfl (Yld.pure rfl) ?_
        first | refine RL.splitD (d := 24) rfl rfl (fun h24 => ?_) (fun h24 => ?_) | refine RL.splitN (d := 24) rfl rfl (fun h24 => ?_) (fun h24 => ?_) | refine RL.split (d := 24) rfl rfl (fun h24 => ?_) (fun h24 => ?_)
        · iterate 3 refine RL.q (.yes rfl rfl rfl) rfl rfl (Yld.pure rfl) ?_
          iterate 2 refine RL.p rfl rfl ?_
          first | refine RL.splitD (d := 29) rfl rfl (fun h29 => ?_) (fun h29 => ?_) | refine RL.splitN (d := 29) rfl rfl (fun h29 => ?_) (fun h29 => ?_) | refine RL.split (d := 29) rfl rfl (fun h29 => ?_) (fun h29 => ?_)
          · iterate 2 refine RL.no (.no rfl rfl rfl rfl) rfl rfl ?_
            iterate 2 refine RL.p rfl rfl ?_
            refine RL.done ?_
            refine RK.seq ?_
            refine RK.region ?_
            iterate 3 refine RL.p rfl rfl ?_
            iterate 10 refine RL.no (.no rfl rfl rfl rfl) rfl rfl ?_
            refine RL.p rfl rfl ?_
            refine RL.done ?_
            refine RK.condF rfl ?_
            refine RK.skip ?_
            refine RK.inBlock ?_
            refine RK.region ?_
            iterate 2 refine RL.p rfl rfl ?_
            refine RL.re (d := 11) rfl rfl (succ_i64 (by omega)) ?_
            refine RL.p rfl rfl ?_
            refine RL.done ?_
            exact RK.back (ih (k + 1) _ ⟨rfl, by omega, hn.step (by first | exact .inl (by simp [letS]; omega) | exact .inr (by omega))⟩ (by omega)) ⟨rfl, rfl, trivial⟩
          · iterate 2 refine RL.q (.yes rfl rfl rfl) rfl rfl (Yld.pure rfl) ?_
            iterate 2 refine RL.p rfl rfl ?_
            refine RL.done ?_
            refine RK.seq ?_
            refine RK.region ?_
            iterate 3 refine RL.p rfl rfl ?_
            first | refine RL.splitD (d := 35) rfl rfl (fun h35 => ?_) (fun h35 => ?_) | refine RL.splitN (d := 35) rfl rfl (fun h35 => ?_) (fun h35 => ?_) | refine RL.split (d := 35) rfl rfl (fun h35 => ?_) (fun h35 => ?_)
            · iterate 3 refine RL.q (.yes rfl rfl rfl) rfl rfl (Yld.pure rfl) ?_
              first | refine RL.splitD (d := 38) rfl rfl (fun h38 => ?_) (fun h38 => ?_) | refine RL.splitN (d := 38) rfl rfl (fun h38 => ?_) (fun h38 => ?_) | refine RL.split (d := 38) rfl rfl (fun h38 => ?_) (fun h38 => ?_)
              · iterate 2 refine RL.no (.no rfl rfl rfl rfl) rfl rfl ?_
                iterate 2 refine RL.q (.yes rfl rfl rfl) rfl rfl (Yld.pure rfl) ?_
                iterate 2 refine RL.no (.no rfl rfl rfl rfl) rfl rfl ?_
                refine RL.q (.yes rfl rfl rfl) rfl rfl (Yld.pure rfl) ?_
                refine RL.p rfl rfl ?_
                refine RL.done ?_
                refine RK.condT rfl ?_
                refine RK.seq ?_
                refine RK.region ?_
                refine RL.p rfl rfl ?_
                refine RL.done ?_
                refine RK.ret_of Tryz.func106 (res1 rfl rfl) ?_ _
                exact ⟨_, rfl, congrArg _ (by first
                    | exact (NmTo.no (k := k) (by omega) (by simp [letS]; omega) (by omega)).symm
                    | (rw [hn.end (by omega)]; rw [Bool.eq_iff_iff]; simp; omega)), rfl⟩
              · iterate 4 refine RL.q (.yes rfl rfl rfl) rfl rfl (Yld.pure rfl) ?_
                first | refine RL.splitD (d := 42) rfl rfl (fun h42 => ?_) (fun h42 => ?_) | refine RL.splitN (d := 42) rfl rfl (fun h42 => ?_) (fun h42 => ?_) | refine RL.split (d := 42) rfl rfl (fun h42 => ?_) (fun h42 => ?_)
                · iterate 2 refine RL.no (.no rfl rfl rfl rfl) rfl rfl ?_
                  refine RL.q (.yes rfl rfl rfl) rfl rfl (Yld.pure rfl) ?_
                  refine RL.p rfl rfl ?_
                  refine RL.done ?_
                  refine RK.condT rfl ?_
                  refine RK.seq ?_
                  refine RK.region ?_
                  refine RL.p rfl rfl ?_
                  refine RL.done ?_
                  refine RK.ret_of Tryz.func106 (res1 rfl rfl) ?_ _
                  exact ⟨_, rfl, congrArg _ (by first
                      | exact (NmTo.no (k := k) (by omega) (by simp [letS]; omega) (by omega)).symm
                      | (rw [hn.end (by omega)]; rw [Bool.eq_iff_iff]; simp; omega)), rfl⟩
                · iterate 3 refine RL.q (.yes rfl rfl rfl) rfl rfl (Yld.pure rfl) ?_
                  refine RL.p rfl rfl ?_
                  refine RL.done ?_
                  first | refine RK.condD rfl (fun h46 => ?_) (fun h46 => ?_) | refine RK.condN rfl (fun h46 => ?_) (fun h46 => ?_) | refine RK.cond rfl (fun h46 => ?_) (fun h46 => ?_)
                  · refine RK.seq ?_
                    refine RK.region ?_
                    refine RL.p rfl rfl ?_
                    refine RL.done ?_
                    refine RK.ret_of Tryz.func106 (res1 rfl rfl) ?_ _
                    exact ⟨_, rfl, congrArg _ (by first
                        | exact (NmTo.no (k := k) (by omega) (by simp [letS]; omega) (by omega)).symm
                        | (rw [hn.end (by omega)]; rw [Bool.eq_iff_iff]; simp; omega)), rfl⟩
                  · refine RK.skip ?_
                    refine RK.inBlock ?_
                    refine RK.region ?_
                    iterate 2 refine RL.p rfl rfl ?_
                    refine RL.re (d := 11) rfl rfl (succ_i64 (by omega)) ?_
                    refine RL.p rfl rfl ?_
                    refine RL.done ?_
                    exact RK.back (ih (k + 1) _ ⟨rfl, by omega, hn.step (by first | exact .inl (by simp [letS]; omega) | exact .inr (by omega))⟩ (by omega)) ⟨rfl, rfl, trivial⟩
            · iterate 10 refine RL.no (.no rfl rfl rfl rfl) rfl rfl ?_
              refine RL.p rfl rfl ?_
              refine RL.done ?_
              refine RK.condF rfl ?_
              refine RK.skip ?_
              refine RK.inBlock ?_
              refine RK.region ?_
              iterate 2 refine RL.p rfl rfl ?_
              refine RL.re (d := 11) rfl rfl (succ_i64 (by omega)) ?_
              refine RL.p rfl rfl ?_
              refine RL.done ?_
              exact RK.back (ih (k + 1) _ ⟨rfl, by omega, hn.step (by first | exact .inl (by simp [letS]; omega) | exact .inr (by omega))⟩ (by omega)) ⟨rfl, rfl, trivial⟩
        · iterate 2 refine RL.no (.no rfl rfl rfl rfl) rfl rfl ?_
          refine RL.q (.yes rfl rfl rfl) rfl rfl (Yld.pure rfl) ?_
          iterate 2 refine RL.p rfl rfl ?_
          iterate 2 refine RL.q (.yes rfl rfl rfl) rfl rfl (Yld.pure rfl) ?_
          iterate 2 refine RL.p rfl rfl ?_
          refine RL.done ?_
          refine RK.seq ?_
          refine RK.region ?_
          iterate 3 refine RL.p rfl rfl ?_
          first | refine RL.splitD (d := 35) rfl rfl (fun h35 => ?_) (fun h35 => ?_) | refine RL.splitN (d := 35) rfl rfl (fun h35 => ?_) (fun h35 => ?_) | refine RL.split (d := 35) rfl rfl (fun h35 => ?_) (fun h35 => ?_)
          · iterate 3 refine RL.q (.yes rfl rfl rfl) rfl rfl (Yld.pure rfl) ?_
            first | refine RL.splitD (d := 38) rfl rfl (fun h38 => ?_) (fun h38 => ?_) | refine RL.splitN (d := 38) rfl rfl (fun h38 => ?_) (fun h38 => ?_) | refine RL.split (d := 38) rfl rfl (fun h38 => ?_) (fun h38 => ?_)
            · iterate 2 refine RL.no (.no rfl rfl rfl rfl) rfl rfl ?_
              iterate 2 refine RL.q (.yes rfl rfl rfl) rfl rfl (Yld.pure rfl) ?_
              iterate 2 refine RL.no (.no rfl rfl rfl rfl) rfl rfl ?_
              refine RL.q (.yes rfl rfl rfl) rfl rfl (Yld.pure rfl) ?_
              refine RL.p rfl rfl ?_
              refine RL.done ?_
              refine RK.condT rfl ?_
              refine RK.seq ?_
              refine RK.region ?_
              refine RL.p rfl rfl ?_
              refine RL.done ?_
              refine RK.ret_of Tryz.func106 (res1 rfl rfl) ?_ _
              exact ⟨_, rfl, congrArg _ (by first
                  | exact (NmTo.no (k := k) (by omega) (by simp [letS]; omega) (by omega)).symm
                  | (rw [hn.end (by omega)]; rw [Bool.eq_iff_iff]; simp; omega)), rfl⟩
            · iterate 4 refine RL.q (.yes rfl rfl rfl) rfl rfl (Yld.pure rfl) ?_
              first | refine RL.splitD (d := 42) rfl rfl (fun h42 => ?_) (fun h42 => ?_) | refine RL.splitN (d := 42) rfl rfl (fun h42 => ?_) (fun h42 => ?_) | refine RL.split (d := 42) rfl rfl (fun h42 => ?_) (fun h42 => ?_)
              · iterate 2 refine RL.no (.no rfl rfl rfl rfl) rfl rfl ?_
                refine RL.q (.yes rfl rfl rfl) rfl rfl (Yld.pure rfl) ?_
                refine RL.p rfl rfl ?_
                refine RL.done ?_
                refine RK.condT rfl ?_
                refine RK.seq ?_
                refine RK.region ?_
                refine RL.p rfl rfl ?_
                refine RL.done ?_
                refine RK.ret_of Tryz.func106 (res1 rfl rfl) ?_ _
                exact ⟨_, rfl, congrArg _ (by first
                    | exact (NmTo.no (k := k) (by omega) (by simp [letS]; omega) (by omega)).symm
                    | (rw [hn.end (by omega)]; rw [Bool.eq_iff_iff]; simp; omega)), rfl⟩
              · iterate 3 refine RL.q (.yes rfl rfl rfl) rfl rfl (Yld.pure rfl) ?_
                refine RL.p rfl rfl ?_
                refine RL.done ?_
                first | refine RK.condD rfl (fun h46 => ?_) (fun h46 => ?_) | refine RK.condN rfl (fun h46 => ?_) (fun h46 => ?_) | refine RK.cond rfl (fun h46 => ?_) (fun h46 => ?_)
                · refine RK.seq ?_
                  refine RK.region ?_
                  refine RL.p rfl rfl ?_
                  refine RL.done ?_
                  refine RK.ret_of Tryz.func106 (res1 rfl rfl) ?_ _
                  exact ⟨_, rfl, congrArg _ (by first
                      | exact (NmTo.no (k := k) (by omega) (by simp [letS]; omega) (by omega)).symm
                      | (rw [hn.end (by omega)]; rw [Bool.eq_iff_iff]; simp; omega)), rfl⟩
                · refine RK.skip ?_
                  refine RK.inBlock ?_
                  refine RK.region ?_
                  iterate 2 refine RL.p rfl rfl ?_
                  refine RL.re (d := 11) rfl rfl (succ_i64 (by omega)) ?_
                  refine RL.p rfl rfl ?_
                  refine RL.done ?_
                  exact RK.back (ih (k + 1) _ ⟨rfl, by omega, hn.step (by first | exact .inl (by simp [letS]; omega) | exact .inr (by omega))⟩ (by omega)) ⟨rfl, rfl, trivial⟩
          · iterate 10 refine RL.no (.no rfl rfl rfl rfl) rfl rfl ?_
            refine RL.p rfl rfl ?_
            refine RL.done ?_
            refine RK.condF rfl ?_
            refine RK.skip ?_
            refine RK.inBlock ?_
            refine RK.region ?_
            iterate 2 refine RL.p rfl rfl ?_
            refine RL.re (d := 11) rfl rfl (succ_i64 (by omega)) ?_
            refine RL.p rfl rfl ?_
            refine RL.done ?_
            exact RK.back (ih (k + 1) _ ⟨rfl, by omega, hn.step (by first | exact .inl (by simp [letS]; omega) | exact .inr (by omega))⟩ (by omega)) ⟨rfl, rfl, trivial⟩
    · iterate 2 refine RL.no (.no rfl rfl rfl rfl) rfl rfl ?_
      iterate 2 refine RL.p rfl rfl ?_
      iterate 3 refine RL.q (.yes rfl rfl rfl) rfl rfl (Yld.pure rfl) ?_
      first | refine RL.splitD (d := 24) rfl rfl (fun h24 => ?_) (fun h24 => ?_) | refine RL.splitN (d := 24) rfl rfl (fun h24 => ?_) (fun h24 => ?_) | refine RL.split (d := 24) rfl rfl (fun h24 => ?_) (fun h24 => ?_)
      · iterate 3 refine RL.q (.yes rfl rfl rfl) rfl rfl (Yld.pure rfl) ?_
        iterate 2 refine RL.p rfl rfl ?_
        first | refine RL.splitD (d := 29) rfl rfl (fun h29 => ?_) (fun h29 => ?_) | refine RL.splitN (d := 29) rfl rfl (fun h29 => ?_) (fun h29 => ?_) | refine RL.split (d := 29) rfl rfl (fun h29 => ?_) (fun h29 => ?_)
        · iterate 2 refine RL.no (.no rfl rfl rfl rfl) rfl rfl ?_
          iterate 2 refine RL.p rfl rfl ?_
          refine RL.done ?_
          refine RK.seq ?_
          refine RK.region ?_
          iterate 3 refine RL.p rfl rfl ?_
          iterate 10 refine RL.no (.no rfl rfl rfl rfl) rfl rfl ?_
          refine RL.p rfl rfl ?_
          refine RL.done ?_
          refine RK.condF rfl ?_
          refine RK.skip ?_
          refine RK.inBlock ?_
          refine RK.region ?_
          iterate 2 refine RL.p rfl rfl ?_
          refine RL.re (d := 11) rfl rfl (succ_i64 (by omega)) ?_
          refine RL.p rfl rfl ?_
          refine RL.done ?_
          exact RK.back (ih (k + 1) _ ⟨rfl, by omega, hn.step (by first | exact .inl (by simp [letS]; omega) | exact .inr (by omega))⟩ (by omega)) ⟨rfl, rfl, trivial⟩
        · iterate 2 refine RL.q (.yes rfl rfl rfl) rfl rfl (Yld.pure rfl) ?_
          iterate 2 refine RL.p rfl rfl ?_
          refine RL.done ?_
          refine RK.seq ?_
          refine RK.region ?_
          iterate 3 refine RL.p rfl rfl ?_
          first | refine RL.splitD (d := 35) rfl rfl (fun h35 => ?_) (fun h35 => ?_) | refine RL.splitN (d := 35) rfl rfl (fun h35 => ?_) (fun h35 => ?_) | refine RL.split (d := 35) rfl rfl (fun h35 => ?_) (fun h35 => ?_)
          · iterate 3 refine RL.q (.yes rfl rfl rfl) rfl rfl (Yld.pure rfl) ?_
            first | refine RL.splitD (d := 38) rfl rfl (fun h38 => ?_) (fun h38 => ?_) | refine RL.splitN (d := 38) rfl rfl (fun h38 => ?_) (fun h38 => ?_) | refine RL.split (d := 38) rfl rfl (fun h38 => ?_) (fun h38 => ?_)
            · iterate 2 refine RL.no (.no rfl rfl rfl rfl) rfl rfl ?_
              iterate 2 refine RL.q (.yes rfl rfl rfl) rfl rfl (Yld.pure rfl) ?_
              iterate 2 refine RL.no (.no rfl rfl rfl rfl) rfl rfl ?_
              refine RL.q (.yes rfl rfl rfl) rfl rfl (Yld.pure rfl) ?_
              refine RL.p rfl rfl ?_
              refine RL.done ?_
              refine RK.condT rfl ?_
              refine RK.seq ?_
              refine RK.region ?_
              refine RL.p rfl rfl ?_
              refine RL.done ?_
              refine RK.ret_of Tryz.func106 (res1 rfl rfl) ?_ _
              exact ⟨_, rfl, congrArg _ (by first
                  | exact (NmTo.no (k := k) (by omega) (by simp [letS]; omega) (by omega)).symm
                  | (rw [hn.end (by omega)]; rw [Bool.eq_iff_iff]; simp; omega)), rfl⟩
            · iterate 4 refine RL.q (.yes rfl rfl rfl) rfl rfl (Yld.pure rfl) ?_
              first | refine RL.splitD (d := 42) rfl rfl (fun h42 => ?_) (fun h42 => ?_) | refine RL.splitN (d := 42) rfl rfl (fun h42 => ?_) (fun h42 => ?_) | refine RL.split (d := 42) rfl rfl (fun h42 => ?_) (fun h42 => ?_)
              · iterate 2 refine RL.no (.no rfl rfl rfl rfl) rfl rfl ?_
                refine RL.q (.yes rfl rfl rfl) rfl rfl (Yld.pure rfl) ?_
                refine RL.p rfl rfl ?_
                refine RL.done ?_
                refine RK.condT rfl ?_
                refine RK.seq ?_
                refine RK.region ?_
                refine RL.p rfl rfl ?_
                refine RL.done ?_
                refine RK.ret_of Tryz.func106 (res1 rfl rfl) ?_ _
                exact ⟨_, rfl, congrArg _ (by first
                    | exact (NmTo.no (k := k) (by omega) (by simp [letS]; omega) (by omega)).symm
                    | (rw [hn.end (by omega)]; rw [Bool.eq_iff_iff]; simp; omega)), rfl⟩
              · iterate 3 refine RL.q (.yes rfl rfl rfl) rfl rfl (Yld.pure rfl) ?_
                refine RL.p rfl rfl ?_
                refine RL.done ?_
                first | refine RK.condD rfl (fun h46 => ?_) (fun h46 => ?_) | refine RK.condN rfl (fun h46 => ?_) (fun h46 => ?_) | refine RK.cond rfl (fun h46 => ?_) (fun h46 => ?_)
                · refine RK.seq ?_
                  refine RK.region ?_
                  refine RL.p rfl rfl ?_
                  refine RL.done ?_
                  refine RK.ret_of Tryz.func106 (res1 rfl rfl) ?_ _
                  exact ⟨_, rfl, congrArg _ (by first
                      | exact (NmTo.no (k := k) (by omega) (by simp [letS]; omega) (by omega)).symm
                      | (rw [hn.end (by omega)]; rw [Bool.eq_iff_iff]; simp; omega)), rfl⟩
                · refine RK.skip ?_
                  refine RK.inBlock ?_
                  refine RK.region ?_
                  iterate 2 refine RL.p rfl rfl ?_
                  refine RL.re (d := 11) rfl rfl (succ_i64 (by omega)) ?_
                  refine RL.p rfl rfl ?_
                  refine RL.done ?_
                  exact RK.back (ih (k + 1) _ ⟨rfl, by omega, hn.step (by first | exact .inl (by simp [letS]; omega) | exact .inr (by omega))⟩ (by omega)) ⟨rfl, rfl, trivial⟩
          · iterate 10 refine RL.no (.no rfl rfl rfl rfl) rfl rfl ?_
            refine RL.p rfl rfl ?_
            refine RL.done ?_
            refine RK.condF rfl ?_
            refine RK.skip ?_
            refine RK.inBlock ?_
            refine RK.region ?_
            iterate 2 refine RL.p rfl rfl ?_
            refine RL.re (d := 11) rfl rfl (succ_i64 (by omega)) ?_
            refine RL.p rfl rfl ?_
            refine RL.done ?_
            exact RK.back (ih (k + 1) _ ⟨rfl, by omega, hn.step (by first | exact .inl (by simp [letS]; omega) | exact .inr (by omega))⟩ (by omega)) ⟨rfl, rfl, trivial⟩
      · iterate 2 refine RL.no (.no rfl rfl rfl rfl) rfl rfl ?_
        refine RL.q (.yes rfl rfl rfl) rfl rfl (Yld.pure rfl) ?_
        iterate 2 refine RL.p rfl rfl ?_
        iterate 2 refine RL.q (.yes rfl rfl rfl) rfl rfl (Yld.pure rfl) ?_
        iterate 2 refine RL.p rfl rfl ?_
        refine RL.done ?_
        refine RK.seq ?_
        refine RK.region ?_
        iterate 3 refine RL.p rfl rfl ?_
        first | refine RL.splitD (d := 35) rfl rfl (fun h35 => ?_) (fun h35 => ?_) | refine RL.splitN (d := 35) rfl rfl (fun h35 => ?_) (fun h35 => ?_) | refine RL.split (d := 35) rfl rfl (fun h35 => ?_) (fun h35 => ?_)
        · iterate 3 refine RL.q (.yes rfl rfl rfl) rfl rfl (Yld.pure rfl) ?_
          first | refine RL.splitD (d := 38) rfl rfl (fun h38 => ?_) (fun h38 => ?_) | refine RL.splitN (d := 38) rfl rfl (fun h38 => ?_) (fun h38 => ?_) | refine RL.split (d := 38) rfl rfl (fun h38 => ?_) (fun h38 => ?_)
          · iterate 2 refine RL.no (.no rfl rfl rfl rfl) rfl rfl ?_
            iterate 2 refine RL.q (.yes rfl rfl rfl) rfl rfl (Yld.pure rfl) ?_
            iterate 2 refine RL.no (.no rfl rfl rfl rfl) rfl rfl ?_
            refine RL.q (.yes rfl rfl rfl) rfl rfl (Yld.pure rfl) ?_
            refine RL.p rfl rfl ?_
            refine RL.done ?_
            refine RK.condT rfl ?_
            refine RK.seq ?_
            refine RK.region ?_
            refine RL.p rfl rfl ?_
            refine RL.done ?_
            refine RK.ret_of Tryz.func106 (res1 rfl rfl) ?_ _
            exact ⟨_, rfl, congrArg _ (by first
                | exact (NmTo.no (k := k) (by omega) (by simp [letS]; omega) (by omega)).symm
                | (rw [hn.end (by omega)]; rw [Bool.eq_iff_iff]; simp; omega)), rfl⟩
          · iterate 4 refine RL.q (.yes rfl rfl rfl) rfl rfl (Yld.pure rfl) ?_
            first | refine RL.splitD (d := 42) rfl rfl (fun h42 => ?_) (fun h42 => ?_) | refine RL.splitN (d := 42) rfl rfl (fun h42 => ?_) (fun h42 => ?_) | refine RL.split (d := 42) rfl rfl (fun h42 => ?_) (fun h42 => ?_)
            · iterate 2 refine RL.no (.no rfl rfl rfl rfl) rfl rfl ?_
              refine RL.q (.yes rfl rfl rfl) rfl rfl (Yld.pure rfl) ?_
              refine RL.p rfl rfl ?_
              refine RL.done ?_
              refine RK.condT rfl ?_
              refine RK.seq ?_
              refine RK.region ?_
              refine RL.p rfl rfl ?_
              refine RL.done ?_
              refine RK.ret_of Tryz.func106 (res1 rfl rfl) ?_ _
              exact ⟨_, rfl, congrArg _ (by first
                  | exact (NmTo.no (k := k) (by omega) (by simp [letS]; omega) (by omega)).symm
                  | (rw [hn.end (by omega)]; rw [Bool.eq_iff_iff]; simp; omega)), rfl⟩
            · iterate 3 refine RL.q (.yes rfl rfl rfl) rfl rfl (Yld.pure rfl) ?_
              refine RL.p rfl rfl ?_
              refine RL.done ?_
              first | refine RK.condD rfl (fun h46 => ?_) (fun h46 => ?_) | refine RK.condN rfl (fun h46 => ?_) (fun h46 => ?_) | refine RK.cond rfl (fun h46 => ?_) (fun h46 => ?_)
              · refine RK.seq ?_
                refine RK.region ?_
                refine RL.p rfl rfl ?_
                refine RL.done ?_
                refine RK.ret_of Tryz.func106 (res1 rfl rfl) ?_ _
                exact ⟨_, rfl, congrArg _ (by first
                    | exact (NmTo.no (k := k) (by omega) (by simp [letS]; omega) (by omega)).symm
                    | (rw [hn.end (by omega)]; rw [Bool.eq_iff_iff]; simp; omega)), rfl⟩
              · refine RK.skip ?_
                refine RK.inBlock ?_
                refine RK.region ?_
                iterate 2 refine RL.p rfl rfl ?_
                refine RL.re (d := 11) rfl rfl (succ_i64 (by omega)) ?_
                refine RL.p rfl rfl ?_
                refine RL.done ?_
                exact RK.back (ih (k + 1) _ ⟨rfl, by omega, hn.step (by first | exact .inl (by simp [letS]; omega) | exact .inr (by omega))⟩ (by omega)) ⟨rfl, rfl, trivial⟩
        · iterate 10 refine RL.no (.no rfl rfl rfl rfl) rfl rfl ?_
          refine RL.p rfl rfl ?_
          refine RL.done ?_
          refine RK.condF rfl ?_
          refine RK.skip ?_
          refine RK.inBlock ?_
          refine RK.region ?_
          iterate 2 refine RL.p rfl rfl ?_
          refine RL.re (d := 11) rfl rfl (succ_i64 (by omega)) ?_
          refine RL.p rfl rfl ?_
          refine RL.done ?_
          exact RK.back (ih (k + 1) _ ⟨rfl, by omega, hn.step (by first | exact .inl (by simp [letS]; omega) | exact .inr (by omega))⟩ (by omega)) ⟨rfl, rfl, trivial⟩
  · refine RK.exit rfl ?_
    refine RK.seq ?_
    refine RK.region ?_
    refine RL.p rfl rfl ?_
    refine RL.q (.free rfl) rfl rfl (Yld.lenStr u9 rfl) ?_
    iterate 2 refine RL.p rfl rfl ?_
    first | refine RL.splitD (d := 50) rfl rfl (fun h50 => ?_) (fun h50 => ?_) | refine RL.splitN (d := 50) rfl rfl (fun h50 => ?_) (fun h50 => ?_) | refine RL.split (d := 50) rfl rfl (fun h50 => ?_) (fun h50 => ?_)
    · refine RL.q (.yes rfl rfl rfl) rfl rfl (Yld.pure rfl) ?_
      refine RL.q (.yes rfl rfl rfl) rfl rfl (Yld.lenStr u9 rfl) ?_
      refine RL.q (.yes rfl rfl rfl) rfl rfl (Yld.pure rfl) ?_
      iterate 2 refine RL.p rfl rfl ?_
      refine RL.done ?_
      refine RK.ret_of Tryz.func106 (res1 rfl rfl) ?_ _
      exact ⟨_, rfl, congrArg _ (by first
          | exact (NmTo.no (k := k) (by omega) (by simp [letS]; omega) (by omega)).symm
          | (rw [hn.end (by omega)]; rw [Bool.eq_iff_iff]; simp; omega)), rfl⟩
    · iterate 3 refine RL.no (.no rfl rfl rfl rfl) rfl rfl ?_
      iterate 2 refine RL.p rfl rfl ?_
      refine RL.done ?_
      refine RK.ret_of Tryz.func106 (res1 rfl rfl) ?_ _
      exact ⟨_, rfl, congrArg _ (by first
          | exact (NmTo.no (k := k) (by omega) (by simp [letS]; omega) (by omega)).symm
          | (rw [hn.end (by omega)]; rw [Bool.eq_iff_iff]; simp; omega)), rfl⟩
theorem isSet_ok (M : Nat → Prop) (ls : List Lab) (hsz : ∀ x ∈ ls, x.name.size ≤ 9223372036854775807) (v : Value) (w : World) (hv : SlL M w v ls) : Fx Tryz.prog 51 [v] w (fun u w' => u = .bool (isS ls) ∧ Grow w w') := by
  obtain ⟨ad, c, rfl⟩ := hv.shape
  have hbig := hv.big
  refine enter Tryz.func51 rfl rfl rfl _ (Pick.sub (l := [0]) (.cons rfl .nil)) ?_
  refine RK.seq ?_
  refine RK.region ?_
  refine RL.p rfl rfl ?_
  refine RL.done ?_
  iterate 2 refine RK.seq ?_
  refine RK.region ?_
  refine RL.p rfl rfl ?_
  refine RL.q (.free rfl) rfl rfl (Yld.lenSl u26 rfl) ?_
  iterate 2 refine RL.p rfl rfl ?_
  first | refine RL.splitD (d := 7) rfl rfl (fun h7 => ?_) (fun h7 => ?_) | refine RL.splitN (d := 7) rfl rfl (fun h7 => ?_) (fun h7 => ?_) | refine RL.split (d := 7) rfl rfl (fun h7 => ?_) (fun h7 => ?_)
  · iterate 3 refine RL.no (.no rfl rfl rfl rfl) rfl rfl ?_
    refine RL.p rfl rfl ?_
    refine RL.done ?_
    refine RK.condT rfl ?_
    refine RK.seq ?_
    refine RK.region ?_
    refine RL.p rfl rfl ?_
    refine RL.done ?_
    refine RK.ret_of Tryz.func51 (res1 rfl rfl) ?_ _
    exact ⟨_, rfl, congrArg _ (by first
        | exact (is_no1 (by omega)).symm
        | exact (is_no2 (i := k) (by omega) (okAt_no1 hx (by simpa using h25))).symm
        | exact (is_no2 (i := k) (by omega) (okAt_no2 hx (by simpa using h34))).symm
        | exact (is_no2 (i := k) (by omega) (okAt_no3 hx hj hy h51)).symm
        | exact (is_yes (by omega) (by omega) fun i hi => hall i (by omega)).symm), by first
        | exact Mod.refl _ _
        | exact hg.trans (Mod.drew _ _)
        | exact hg⟩
  · refine RL.q (.yes rfl rfl rfl) rfl rfl (Yld.pure rfl) ?_
    refine RL.q (.yes rfl rfl rfl) rfl rfl (Yld.lenSl u26 rfl) ?_
    refine RL.q (.yes rfl rfl rfl) rfl rfl (Yld.pure rfl) ?_
    refine RL.p rfl rfl ?_
    refine RL.done ?_
    first | refine RK.condD rfl (fun h11 => ?_) (fun h11 => ?_) | refine RK.condN rfl (fun h11 => ?_) (fun h11 => ?_) | refine RK.cond rfl (fun h11 => ?_) (fun h11 => ?_)
    · refine RK.seq ?_
      refine RK.region ?_
      refine RL.p rfl rfl ?_
      refine RL.done ?_
      refine RK.ret_of Tryz.func51 (res1 rfl rfl) ?_ _
      exact ⟨_, rfl, congrArg _ (by first
          | exact (is_no1 (by omega)).symm
          | exact (is_no2 (i := k) (by omega) (okAt_no1 hx (by simpa using h25))).symm
          | exact (is_no2 (i := k) (by omega) (okAt_no2 hx (by simpa using h34))).symm
          | exact (is_no2 (i := k) (by omega) (okAt_no3 hx hj hy h51)).symm
          | exact (is_yes (by omega) (by omega) fun i hi => hall i (by omega)).symm), by first
          | exact Mod.refl _ _
          | exact hg.trans (Mod.drew _ _)
          | exact hg⟩
    · refine RK.skip ?_
      iterate 2 refine RK.seq ?_
      refine RK.region ?_
      refine RL.p rfl rfl ?_
      refine RL.done ?_
      refine RK.block ?_
      refine RK.loop (fun k : Nat => [(0, .slice ad ls.length c), (3, .int .i64 k)]) (fun k w' => Grow w w' ∧ k ≤ ls.length ∧ ∀ i, i < k → okAt ls i = true) (fun k => ls.length - k) 0 ⟨rfl, rfl, trivial⟩ ⟨Mod.refl _ _, by omega, fun i hi => by omega⟩ (fun k w' hI ih => ?_)
      obtain ⟨hg, hk, hall⟩ := hI
      iterate 2 refine RK.seq ?_
      refine RK.region ?_
      iterate 2 refine RL.p rfl rfl ?_
      refine RL.q (.free rfl) rfl rfl (Yld.lenSl u26 rfl) ?_
      refine RL.p rfl rfl ?_
      refine RL.done ?_
      first | refine RK.condD rfl (fun h15 => ?_) (fun h15 => ?_) | refine RK.condN rfl (fun h15 => ?_) (fun h15 => ?_) | refine RK.cond rfl (fun h15 => ?_) (fun h15 => ?_)
      · obtain ⟨x, hx⟩ : ∃ x, ls[k]? = some x := ⟨ls[k]'(by omega), List.getElem?_eq_getElem (by omega)⟩
        obtain ⟨b, o, c', he, hb, hkl, hcell⟩ := hv.elem labC_len hx
        cases he
        refine RK.skip ?_
        refine RK.seq ?_
        refine RK.block ?_
        refine RK.seq ?_
        refine RK.drawM No [(0, false), (1, false), (2, false), (3, false), (4, false), (5, true), (6, false), (7, false), (8, false), (9, false), (10, false), (11, false), (12, false), (13, true), (14, false), (15, false), (16, false), (17, false), (18, false), (19, false), (20, false), (21, false), (22, false), (23, false), (24, false), (25, false), (26, false), (27, false), (28, false), (29, false), (30, false), (31, false), (32, false), (33, false)] [] mixed (by kernel_rfl) ?_
        iterate 2 refine DL.p rfl rfl rfl ?_
        refine DL.qf rfl (.free rfl) rfl rfl (Yld.indexAddrN u26 i46 rfl rfl (by omega)) ?_
        refine DL.qf rfl (.free rfl) rfl rfl (Yld.fieldAddr fo46_0 rfl) ?_
        refine DL.q rfl (.free rfl) rfl rfl rfl (Yld.load p9 rfl (atM (hg.cell (hcell 0 _ rfl) (fun h => h)) (fun h => h))) (Mod.drew _ _) ?_
        refine DL.op rfl (.free rfl) rfl rfl (Does.call rfl e106 (name2_ok _ (hsz x (List.mem_of_getElem? hx)) _)) ?_
        rintro _ _ ⟨rfl, rfl⟩
        refine ⟨Mod.drew _ _, ?_⟩
        iterate 2 refine DL.p rfl rfl rfl ?_
        first | refine DL.splitD (d := 25) rfl rfl (fun h25 => ?_) (fun h25 => ?_) | refine DL.splitN (d := 25) rfl rfl (fun h25 => ?_) (fun h25 => ?_) | refine DL.split (d := 25) rfl rfl (fun h25 => ?_) (fun h25 => ?_)
        · iterate 5 refine DL.no rfl (.no rfl rfl rfl rfl) rfl rfl ?_
          refine DL.lno rfl (.no rfl rfl rfl rfl) rfl rfl ?_
          refine DL.no rfl (.no rfl rfl rfl rfl) rfl rfl ?_
          iterate 2 refine DL.p rfl rfl rfl ?_
          iterate 16 refine DL.no rfl (.no rfl rfl rfl rfl) rfl rfl ?_
          refine DL.p rfl rfl rfl ?_
          refine DL.done ?_
          refine RK.condT rfl ?_
          refine RK.seq ?_
          refine RK.region ?_
          refine RL.p rfl rfl ?_
          refine RL.done ?_
          refine RK.ret_of Tryz.func51 (res1 rfl rfl) ?_ _
          exact ⟨_, rfl, congrArg _ (by first
              | exact (is_no1 (by omega)).symm
              | exact (is_no2 (i := k) (by omega) (okAt_no1 hx (by simpa using h25))).symm
              | exact (is_no2 (i := k) (by omega) (okAt_no2 hx (by simpa using h34))).symm
              | exact (is_no2 (i := k) (by omega) (okAt_no3 hx hj hy h51)).symm
              | exact (is_yes (by omega) (by omega) fun i hi => hall i (by omega)).symm), by first
              | exact Mod.refl _ _
              | exact hg.trans (Mod.drew _ _)
              | exact hg⟩
        · iterate 2 refine DL.qf rfl (.yes rfl rfl rfl) rfl rfl (Yld.pure rfl) ?_
          refine DL.qf rfl (.yes rfl rfl rfl) rfl rfl (Yld.indexAddrN u26 i46 rfl rfl (by omega)) ?_
          refine DL.qf rfl (.yes rfl rfl rfl) rfl rfl (Yld.fieldAddr fo46_1 rfl) ?_
          refine DL.q rfl (.yes rfl rfl rfl) rfl rfl rfl (Yld.load p9 rfl (atM (hg.cell (hcell 1 _ rfl) (fun h => h)) (fun h => h))) (Mod.drew _ _) ?_
          refine DL.op rfl (.yes rfl rfl rfl) rfl rfl (Does.call rfl e107 (value2_ok _ _)) ?_
          rintro _ _ ⟨rfl, rfl⟩
          refine ⟨Mod.drew _ _, ?_⟩
          refine DL.qf rfl (.yes rfl rfl rfl) rfl rfl (Yld.pure rfl) ?_
          iterate 2 refine DL.p rfl rfl rfl ?_
          first | refine DL.splitD (d := 34) rfl rfl (fun h34 => ?_) (fun h34 => ?_) | refine DL.splitN (d := 34) rfl rfl (fun h34 => ?_) (fun h34 => ?_) | refine DL.split (d := 34) rfl rfl (fun h34 => ?_) (fun h34 => ?_)
          · iterate 16 refine DL.no rfl (.no rfl rfl rfl rfl) rfl rfl ?_
            refine DL.p rfl rfl rfl ?_
            refine DL.done ?_
            refine RK.condT rfl ?_
            refine RK.seq ?_
            refine RK.region ?_
            refine RL.p rfl rfl ?_
            refine RL.done ?_
            refine RK.ret_of Tryz.func51 (res1 rfl rfl) ?_ _
            exact ⟨_, rfl, congrArg _ (by first
                | exact (is_no1 (by omega)).symm
                | exact (is_no2 (i := k) (by omega) (okAt_no1 hx (by simpa using h25))).symm
                | exact (is_no2 (i := k) (by omega) (okAt_no2 hx (by simpa using h34))).symm
                | exact (is_no2 (i := k) (by omega) (okAt_no3 hx hj hy h51)).symm
                | exact (is_yes (by omega) (by omega) fun i hi => hall i (by omega)).symm), by first
                | exact Mod.refl _ _
                | exact hg.trans (Mod.drew _ _)
                | exact hg⟩
          · iterate 3 refine DL.qf rfl (.yes rfl rfl rfl) rfl rfl (Yld.pure rfl) ?_
            first | refine DL.splitD (d := 37) rfl rfl (fun h37 => ?_) (fun h37 => ?_) | refine DL.splitN (d := 37) rfl rfl (fun h37 => ?_) (fun h37 => ?_) | refine DL.split (d := 37) rfl rfl (fun h37 => ?_) (fun h37 => ?_)
            · obtain ⟨j, hj⟩ : ∃ j, k = j + 1 := ⟨k - 1, by omega⟩
              obtain ⟨y, hy⟩ : ∃ y, ls[j]? = some y := ⟨ls[j]'(by omega), List.getElem?_eq_getElem (by omega)⟩
              obtain ⟨b', o', c', he, hb', hkl', hcell'⟩ := hv.elem labC_len hy
              cases he
              iterate 2 refine DL.qf rfl (.yes rfl rfl rfl) rfl rfl (Yld.pure rfl) ?_
              refine DL.qf rfl (.yes rfl rfl rfl) rfl rfl (Yld.indexAddrN u26 i46 rfl rfl (by omega)) ?_
              refine DL.qf rfl (.yes rfl rfl rfl) rfl rfl (Yld.fieldAddr fo46_0 rfl) ?_
              refine DL.q rfl (.yes rfl rfl rfl) rfl rfl rfl (Yld.load p9 rfl (atM (hg.cell (hcell 0 _ rfl) (fun h => h)) (fun h => h))) (Mod.drew _ _) ?_
              iterate 3 refine DL.qf rfl (.yes rfl rfl rfl) rfl rfl (Yld.pure rfl) ?_
              refine DL.re (d := 45) rfl rfl (sub_i64 (z := (j : Int)) (by omega) (by omega) (by omega)) ?_
              refine DL.qf rfl (.yes rfl rfl rfl) rfl rfl (Yld.indexAddrN u26 i46 rfl rfl (by omega)) ?_
              refine DL.qf rfl (.yes rfl rfl rfl) rfl rfl (Yld.fieldAddr fo46_0 rfl) ?_
              refine DL.q rfl (.yes rfl rfl rfl) rfl rfl rfl (Yld.load p9 rfl (atM (hg.cell (hcell' 0 _ rfl) (fun h => h)) (fun h => h))) (Mod.drew _ _) ?_
              iterate 2 refine DL.qf rfl (.yes rfl rfl rfl) rfl rfl (Yld.pure rfl) ?_
              refine DL.p rfl rfl rfl ?_
              refine DL.done ?_
              first | refine RK.condD rfl (fun h51 => ?_) (fun h51 => ?_) | refine RK.condN rfl (fun h51 => ?_) (fun h51 => ?_) | refine RK.cond rfl (fun h51 => ?_) (fun h51 => ?_)
              · refine RK.seq ?_
                refine RK.region ?_
                refine RL.p rfl rfl ?_
                refine RL.done ?_
                refine RK.ret_of Tryz.func51 (res1 rfl rfl) ?_ _
                exact ⟨_, rfl, congrArg _ (by first
                    | exact (is_no1 (by omega)).symm
                    | exact (is_no2 (i := k) (by omega) (okAt_no1 hx (by simpa using h25))).symm
                    | exact (is_no2 (i := k) (by omega) (okAt_no2 hx (by simpa using h34))).symm
                    | exact (is_no2 (i := k) (by omega) (okAt_no3 hx hj hy h51)).symm
                    | exact (is_yes (by omega) (by omega) fun i hi => hall i (by omega)).symm), by first
                    | exact Mod.refl _ _
                    | exact hg.trans (Mod.drew _ _)
                    | exact hg⟩
              · refine RK.skip ?_
                refine RK.inBlock ?_
                refine RK.region ?_
                iterate 2 refine RL.p rfl rfl ?_
                refine RL.re (d := 17) rfl rfl (succ_i64 (by omega)) ?_
                refine RL.p rfl rfl ?_
                refine RL.done ?_
                exact RK.back (ih (k + 1) _ ⟨hg.trans (Mod.drew _ _), by omega, ok_snoc hall (by first | exact okAt_yes1 hx (by simpa using h25) (by simpa using h34) hj hy h51 | exact okAt_yes0 hx (by simpa using h25) (by simpa using h34) (by omega))⟩ (by omega)) ⟨rfl, rfl, trivial⟩
            · iterate 12 refine DL.no rfl (.no rfl rfl rfl rfl) rfl rfl ?_
              refine DL.qf rfl (.yes rfl rfl rfl) rfl rfl (Yld.pure rfl) ?_
              refine DL.p rfl rfl rfl ?_
              refine DL.done ?_
              refine RK.condF rfl ?_
              refine RK.skip ?_
              refine RK.inBlock ?_
              refine RK.region ?_
              iterate 2 refine RL.p rfl rfl ?_
              refine RL.re (d := 17) rfl rfl (succ_i64 (by omega)) ?_
              refine RL.p rfl rfl ?_
              refine RL.done ?_
              exact RK.back (ih (k + 1) _ ⟨hg.trans (Mod.drew _ _), by omega, ok_snoc hall (by first | exact okAt_yes1 hx (by simpa using h25) (by simpa using h34) hj hy h51 | exact okAt_yes0 hx (by simpa using h25) (by simpa using h34) (by omega))⟩ (by omega)) ⟨rfl, rfl, trivial⟩
      · refine RK.exit rfl ?_
        refine RK.seq ?_
        refine RK.region ?_
        refine RL.p rfl rfl ?_
        refine RL.done ?_
        refine RK.ret_of Tryz.func51 (res1 rfl rfl) ?_ _
        exact ⟨_, rfl, congrArg _ (by first
            | exact (is_no1 (by omega)).symm
            | exact (is_no2 (i := k) (by omega) (okAt_no1 hx (by simpa using h25))).symm
            | exact (is_no2 (i := k) (by omega) (okAt_no2 hx (by simpa using h34))).symm
            | exact (is_no2 (i := k) (by omega) (okAt_no3 hx hj hy h51)).symm
            | exact (is_yes (by omega) (by omega) fun i hi => hall i (by omega)).symm), by first
            | exact Mod.refl _ _
            | exact hg.trans (Mod.drew _ _)
            | exact hg⟩
end Go.Proofs.YtffbcfcoddacmaaGreat
set_option linter.unusedVariables false
set_option linter.unusedSimpArgs false
set_option maxHeartbeats 400000
set_option maxRecDepth 100000
namespace Go.Proofs.YtffbcfcoddacmaaGreat
open Go Go.X
end Go.Proofs.YtffbcfcoddacmaaGreat
set_option linter.unusedVariables false
set_option linter.unusedSimpArgs false
set_option maxHeartbeats 800000
set_option maxRecDepth 100000
namespace Go.Proofs.YtffbcfcoddacmaaGreat
open Go Go.X
end Go.Proofs.YtffbcfcoddacmaaGreat
set_option linter.unusedVariables false
set_option linter.unusedSimpArgs false
set_option maxHeartbeats 400000
set_option maxRecDepth 100000
namespace Go.Proofs.YtffbcfcoddacmaaGreat
open Go Go.X
def giveS (out : List Int) (id : Int) : List Int := if out.contains id then cutRow out id else out
theorem cmpInt_ok (x y : Int) (w : World) : Fx Tryz.prog 128 [.int .i64 x, .int .i64 y] w (fun u w' => u = .int .i64 (Lib.compareInt x y) ∧ w = w') := by
  refine Calls.mono (Tryz.cmp_Compare_int x y w) ?_
  rintro e w' ⟨rfl, rfl⟩
  exact ⟨_, rfl, rfl, rfl⟩
end Go.Proofs.YtffbcfcoddacmaaGreat
set_option linter.unusedVariables false
set_option linter.unusedSimpArgs false
set_option maxHeartbeats 800000
set_option maxRecDepth 100000
namespace Go.Proofs.YtffbcfcoddacmaaGreat
open Go Go.X
end Go.Proofs.YtffbcfcoddacmaaGreat
set_option linter.unusedVariables false
set_option linter.unusedSimpArgs false
set_option maxHeartbeats 800000
set_option maxRecDepth 100000
namespace Go.Proofs.YtffbcfcoddacmaaGreat
open Go Go.X
def placeS (s : St) (id : Int) : Option Nat := s.al.findIdx? fun a => decide (a.1 = id)
def resolveS (s : St) (id : Int) : St × Int :=
  match placeS s id with
  | none => (s, 5)
  | some i => ({ s with al := s.al.eraseIdx i, out := giveS s.out id, has := cutM s.has id, rows := dropRows s.rows id ((lookM s.has id).getD []) }, 0)
end Go.Proofs.YtffbcfcoddacmaaGreat
set_option linter.unusedVariables false
set_option linter.unusedSimpArgs false
set_option maxHeartbeats 800000
set_option maxRecDepth 100000
namespace Go.Proofs.YtffbcfcoddacmaaGreat
open Go Go.X
end Go.Proofs.YtffbcfcoddacmaaGreat
set_option linter.unusedVariables false
set_option linter.unusedSimpArgs false
set_option maxHeartbeats 400000
set_option maxRecDepth 100000
namespace Go.Proofs.YtffbcfcoddacmaaGreat
open Go Go.X
abbrev AlS := Int × List Lab × Nat
end Go.Proofs.YtffbcfcoddacmaaGreat
