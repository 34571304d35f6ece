/- What the claim stands on, part 7. Of own lemmas only those that it reaches. -/
import Derived.Test.YtbcbfjnlnmhpbaaGreatKw6
set_option linter.unusedVariables false
set_option linter.unusedSimpArgs false
set_option maxHeartbeats 1000000
set_option maxRecDepth 100000
namespace Go.Proofs.YtbcbfjnlnmhpbaaGreat
open Go Go.X Go.Rex
@[irreducible] def fitS (s : ByteArray) : Bool := match parseS s with
  | some x => decide (sz x + 1 ≤ 40)
  | none => false
@[irreducible] def patS (s : ByteArray) : Bool := (parseS s).isSome
@[irreducible] def isM (m : Mt) : Bool := nameS m.name && (if likeS m then patS m.value else decide ((m.kind = 1 ∨ m.kind = 2) ∧ m.value.size ≤ 24))
@[irreducible] def largeM (m : Mt) : Bool := isM m && likeS m && !fitS m.value
@[irreducible] noncomputable def takesS (s v : ByteArray) : Bool := match parseS s with
  | some x => takes x v
  | none => false
@[irreducible] noncomputable def holdsM (m : Mt) (ls : List Lab) : Bool := isM m && !largeM m && (if m.kind = 1 then decide (getL ls m.name = m.value) else if m.kind = 2 then !decide (getL ls m.name = m.value) else takesS m.value (getL ls m.name) == decide (m.kind = 3))
theorem getL_size {ls : List Lab} (hz : ∀ x ∈ ls, x.value.size ≤ 100000) (nm : ByteArray) : (getL ls nm).size ≤ 100000 := by
  unfold getL
  cases hf : ls.find? fun x => decide (x.name = nm) with
  | none => show (0 : Nat) ≤ 100000; omega
  | some x => exact hz x (List.mem_of_find?_eq_some hf)
theorem like_kind {m : Mt} (h : likeS m = true) : m.kind = 3 ∨ m.kind = 4 := by unfold likeS at h; simpa using h
theorem isM_kind {m : Mt} (h : isM m = true) : m.kind = 1 ∨ m.kind = 2 ∨ m.kind = 3 ∨ m.kind = 4 := by
  unfold isM at h
  simp only [Bool.and_eq_true] at h
  cases hl : likeS m with
  | true => have := like_kind hl; omega
  | false => rw [hl] at h; simp at h; omega
theorem isM_pat {m : Mt} (h : isM m = true) (hl : likeS m = true) : patS m.value = true := by
  unfold isM at h
  rw [hl] at h
  simp only [Bool.and_eq_true, if_true] at h
  exact h.2
theorem pat_parse {s : ByteArray} (h : patS s = true) : ∃ x, parseS s = some x := by unfold patS at h; exact Option.isSome_iff_exists.1 h
theorem parse_sz' {s : ByteArray} {x : Rx} (h : parseS s = some x) : sz x ≤ 80 := parse_sz (fun x j h => (par_adv s 8 0 x j (Nat.zero_le _) h).2) h
theorem matchIs_ok (m : Mt) (w : World) : Fx Tryz.prog 130 [.agg #[.int .i64 m.kind, .string m.name, .string m.value]] w (fun u w' => u = .bool (isM m) ∧ Grow w w') := by
  cases hlk : likeS m with
  | false =>
    refine Fx.mono (isV_ok m hlk w) ?_
    rintro u w' ⟨rfl, hg⟩
    refine ⟨congrArg _ ?_, hg⟩
    unfold isM isV
    rw [hlk]; rfl
  | true =>
    refine enter Tryz.func130 rfl rfl rfl _ (Pick.sub (l := [0]) (.cons rfl .nil)) ?_
    refine RK.seq ?_
    refine RK.region ?_
    refine RL.op (.free rfl) rfl rfl (Does.box rfl) ?_
    rintro _ w1 ⟨b1, rfl, hn1⟩
    refine RL.p rfl rfl ?_
    refine RL.done ?_
    iterate 2 refine RK.seq ?_
    refine RK.region ?_
    refine RL.q (.free rfl) rfl rfl (Yld.fieldAddr fo108_1 rfl) ?_
    refine RL.q (.free rfl) rfl rfl (Yld.load p9 rfl (at1 (hn1.blk.cell rfl))) ?_
    refine RL.op (.free rfl) rfl rfl (Does.call rfl e157 (name_ok _ _)) ?_
    rintro _ _ ⟨rfl, rfl⟩
    refine RL.p rfl rfl ?_
    refine RL.done ?_
    first | refine RK.condD rfl (fun h8 => ?_) (fun h8 => ?_) | refine RK.condN rfl (fun h8 => ?_) (fun h8 => ?_) | refine RK.cond rfl (fun h8 => ?_) (fun h8 => ?_)
    · refine RK.seq ?_
      refine RK.region ?_
      refine RL.p rfl rfl ?_
      refine RL.done ?_
      refine RK.ret_of Tryz.func130 (res1 rfl rfl) ?_ _
      exact ⟨_, rfl, congrArg _ (by unfold isM; simp at h8; rw [h8]; rfl), hn1.grow⟩
    · refine RK.skip ?_
      iterate 2 refine RK.seq ?_
      refine RK.region ?_
      refine RL.q (.free rfl) rfl rfl (Yld.loadN (cs := [.int .i64 m.kind, .string m.name, .string m.value]) a108 rfl (atN (blk0' hn1.blk))) ?_
      refine RL.op (.free rfl) rfl rfl (Does.call rfl e158 (like_ok m _)) ?_
      rintro _ w2 ⟨rfl, hg2⟩
      refine RL.done ?_
      refine RK.condT (hcT rfl (hlk)) ?_
      refine RK.seq ?_
      refine RK.region ?_
      refine RL.q (.free rfl) rfl rfl (Yld.fieldAddr fo108_2 rfl) ?_
      refine RL.q (.free rfl) rfl rfl (Yld.load p9 rfl (at1 ((hn1.blk.mod hg2 (fun h => h)).cell rfl))) ?_
      refine RL.op (.free rfl) rfl rfl (Does.call rfl e159 (parse_ok m.value _)) ?_
      rintro _ w3 ⟨c, rfl, hg3, hx⟩
      iterate 3 refine RL.p rfl rfl ?_
      refine RL.op (.free rfl) rfl rfl (Does.alloc i180) ?_
      rintro _ w4 ⟨b3, rfl, hn3⟩
      refine RL.op' (.free rfl) rfl (Does.storeN i180 rfl rfl rfl rfl hn3.blk (Nat.le_refl 6)) ?_
      rintro _ w5 ⟨hb5, hm5, _⟩
      refine RL.p rfl rfl ?_
      refine RL.done ?_
      refine RK.seq ?_
      refine RK.region ?_
      iterate 2 refine RL.p rfl rfl ?_
      refine RL.done ?_
      refine RK.ret_of Tryz.func130 (res1 rfl rfl) ?_ _
      exact ⟨_, rfl, congrArg _ (by unfold isM patS; simp at h8; rw [h8, hlk]; rfl), (((hn1.grow.trans hg2).trans hg3).trans hn3.grow).then hm5 (fun y hy e => by have e' : y = b3 := e; have := hn3.at_; have := ((hn1.grow.trans hg2).trans hg3).size; omega)⟩
theorem program_ok (m : Mt) (hp : patS m.value = true) (w : World) : Fx Tryz.prog 140 [.agg #[.int .i64 m.kind, .string m.name, .string m.value]] w (fun u w' => (∃ v, u = .tuple #[v, .bool (fitS m.value)] ∧ (fitS m.value = true → ∃ x, parseS m.value = some x ∧ sz x + 1 ≤ 40 ∧ RowS w' v (whole x))) ∧ Grow w w') := by
  obtain ⟨x, hx⟩ := pat_parse hp
  have ht := parse_tr hx
  have hsz := parse_sz' hx
  have hfit : fitS m.value = decide (sz x + 1 ≤ 40) := by unfold fitS; rw [hx]
  refine enter Tryz.func140 rfl rfl rfl _ (Pick.sub (l := [0]) (.cons rfl .nil)) ?_
  refine RK.seq ?_
  refine RK.region ?_
  refine RL.op (.free rfl) rfl rfl (Does.box rfl) ?_
  rintro _ w1 ⟨b1, rfl, hn1⟩
  iterate 2 refine RL.p rfl rfl ?_
  refine RL.done ?_
  refine RK.seq ?_
  refine RK.region ?_
  refine RL.q (.free rfl) rfl rfl (Yld.fieldAddr fo108_2 rfl) ?_
  refine RL.q (.free rfl) rfl rfl (Yld.load p9 rfl (at1 (hn1.blk.cell rfl))) ?_
  refine RL.op (.free rfl) rfl rfl (Does.call rfl e159 (parse_ok m.value _)) ?_
  rintro _ w3 ⟨c, rfl, hg3, hxx⟩
  have hv3 := hxx x hx
  have hsm : (parseS m.value).isSome = true := by rw [hx]; rfl
  rw [hsm]
  iterate 3 refine RL.p rfl rfl ?_
  refine RL.op (.free rfl) rfl rfl (Does.alloc i180) ?_
  rintro _ w4 ⟨b3, rfl, hn3⟩
  refine RL.op' (.free rfl) rfl (Does.storeN i180 rfl rfl rfl rfl hn3.blk (Nat.le_refl 6)) ?_
  rintro _ w5 ⟨hb5, hm5, _⟩
  have hB5 : Blk w5 b3 180 (celC c) := hb5
  have hg5 : Grow w3 w5 := hn3.grow.then hm5 (fun y hy e => by have e' : y = b3 := e; have := hn3.at_; omega)
  refine RL.p rfl rfl ?_
  refine RL.done ?_
  iterate 2 refine RK.seq ?_
  refine RK.region ?_
  iterate 2 refine RL.p rfl rfl ?_
  refine RL.done ?_
  refine RK.condF (hcF rfl (rfl)) ?_
  refine RK.skip ?_
  refine RK.seq ?_
  refine RK.region ?_
  refine RL.q (.free rfl) rfl rfl (Yld.loadN (cs := celC c) a180 rfl (atN (blk0' hB5))) ?_
  refine RL.op (.free rfl) rfl rfl (Does.call rfl e169 (progMake_ok x ht (by omega) _ c _ (RxV.grow hg5 x hv3))) ?_
  rintro _ w6 ⟨⟨v, rfl, hrow⟩, hg6⟩
  iterate 4 refine RL.p rfl rfl ?_
  refine RL.done ?_
  refine RK.ret_of Tryz.func140 (res2 rfl rfl rfl) ?_ _
  exact ⟨_, rfl, ⟨v, by rw [hfit], fun hf => ⟨x, hx, by rw [hfit] at hf; simpa using hf, hrow (by rw [hfit] at hf; simpa using hf)⟩⟩, ((hn1.grow.trans hg3).trans hg5).trans hg6⟩
theorem large_no {m : Mt} (h : isM m = false) : largeM m = false := by unfold largeM; rw [h]; rfl
theorem large_no2 {m : Mt} (h : likeS m = false) : largeM m = false := by unfold largeM; rw [h]; simp
theorem large_yes {m : Mt} (h1 : isM m = true) (h2 : likeS m = true) : largeM m = !fitS m.value := by unfold largeM; rw [h1, h2]; rfl
theorem matchLarge_ok (m : Mt) (w : World) : Fx Tryz.prog 133 [.agg #[.int .i64 m.kind, .string m.name, .string m.value]] w (fun u w' => u = .bool (largeM m) ∧ Grow w w') := by
  refine enter Tryz.func133 rfl rfl rfl _ (Pick.sub (l := [0]) (.cons rfl .nil)) ?_
  refine RK.seq ?_
  refine RK.region ?_
  refine RL.op (.free rfl) rfl rfl (Does.box rfl) ?_
  rintro _ w1 ⟨b1, rfl, hn1⟩
  have hB1 : Blk w1 b1 108 [.int .i64 m.kind, .string m.name, .string m.value] := hn1.blk
  refine RL.p rfl rfl ?_
  refine RL.done ?_
  iterate 2 refine RK.seq ?_
  refine RK.region ?_
  refine RL.q (.free rfl) rfl rfl (Yld.loadN (cs := [.int .i64 m.kind, .string m.name, .string m.value]) a108 rfl (atN (blk0' hB1))) ?_
  refine RL.op (.free rfl) rfl rfl (Does.call rfl e158 (like_ok m _)) ?_
  rintro _ w2 ⟨rfl, hg2⟩
  have hB2 := hB1.mod hg2 (fun h => h)
  iterate 2 refine RL.p rfl rfl ?_
  first | refine RL.splitD (d := 8) rfl rfl (fun h8 => ?_) (fun h8 => ?_) | refine RL.splitN (d := 8) rfl rfl (fun h8 => ?_) (fun h8 => ?_) | refine RL.split (d := 8) rfl rfl (fun h8 => ?_) (fun h8 => ?_)
  · have hl : likeS m = false := by unfold likeS; simpa using h8
    iterate 3 refine RL.no (.no rfl rfl rfl rfl) rfl rfl ?_
    refine RL.p rfl rfl ?_
    refine RL.done ?_
    refine RK.condT (hcT rfl (rfl)) ?_
    refine RK.seq ?_
    refine RK.region ?_
    refine RL.p rfl rfl ?_
    refine RL.done ?_
    refine RK.ret_of Tryz.func133 (res1 rfl rfl) ?_ _
    exact ⟨_, rfl, by rw [large_no2 hl], hn1.grow.trans hg2⟩
  · have hl : likeS m = true := by unfold likeS; simpa using h8
    refine RL.q (.yes rfl rfl rfl) rfl rfl (Yld.loadN (cs := [.int .i64 m.kind, .string m.name, .string m.value]) a108 rfl (atN (blk0' hB2))) ?_
    refine RL.op (.yes rfl rfl rfl) rfl rfl (Does.call rfl e130 (matchIs_ok m _)) ?_
    rintro _ w3 ⟨rfl, hg3⟩
    have hB3 := hB2.mod hg3 (fun h => h)
    refine RL.q (.yes rfl rfl rfl) rfl rfl (Yld.pure rfl) ?_
    refine RL.p rfl rfl ?_
    refine RL.done ?_
    first | refine RK.condD rfl (fun h12 => ?_) (fun h12 => ?_) | refine RK.condN rfl (fun h12 => ?_) (fun h12 => ?_) | refine RK.cond rfl (fun h12 => ?_) (fun h12 => ?_)
    · have his : isM m = false := by simpa using h12
      refine RK.seq ?_
      refine RK.region ?_
      refine RL.p rfl rfl ?_
      refine RL.done ?_
      refine RK.ret_of Tryz.func133 (res1 rfl rfl) ?_ _
      exact ⟨_, rfl, by rw [large_no his], (hn1.grow.trans hg2).trans hg3⟩
    · have his : isM m = true := by simpa using h12
      refine RK.skip ?_
      refine RK.seq ?_
      refine RK.region ?_
      refine RL.q (.free rfl) rfl rfl (Yld.loadN (cs := [.int .i64 m.kind, .string m.name, .string m.value]) a108 rfl (atN (blk0' hB3))) ?_
      refine RL.op (.free rfl) rfl rfl (Does.call rfl e140 (program_ok m (isM_pat his hl) _)) ?_
      rintro _ w4 ⟨⟨v, rfl, _⟩, hg4⟩
      iterate 5 refine RL.p rfl rfl ?_
      refine RL.done ?_
      refine RK.seq ?_
      refine RK.region ?_
      iterate 3 refine RL.p rfl rfl ?_
      refine RL.done ?_
      refine RK.ret_of Tryz.func133 (res1 rfl rfl) ?_ _
      exact ⟨_, rfl, by rw [large_yes his hl], ((hn1.grow.trans hg2).trans hg3).trans hg4⟩
theorem matchHolds_ok (m : Mt) : HoldsC holdsM m := by
  intro M ls v w hz hv
  obtain ⟨ad, c, rfl⟩ := hv.shape
  have hgz := getL_size hz m.name
  refine enter Tryz.func103 rfl rfl rfl _ (Pick.sub (l := [0, 1]) (.cons rfl (.cons rfl .nil))) ?_
  refine RK.seq ?_
  refine RK.region ?_
  refine RL.op (.free rfl) rfl rfl (Does.box rfl) ?_
  rintro _ w1 ⟨b1, rfl, hn1⟩
  have hB1 : Blk w1 b1 108 [.int .i64 m.kind, .string m.name, .string m.value] := hn1.blk
  refine RL.p rfl rfl ?_
  refine RL.done ?_
  iterate 2 refine RK.seq ?_
  refine RK.region ?_
  refine RL.q (.free rfl) rfl rfl (Yld.loadN (cs := [.int .i64 m.kind, .string m.name, .string m.value]) a108 rfl (atN (blk0' hB1))) ?_
  refine RL.op (.free rfl) rfl rfl (Does.call rfl e130 (matchIs_ok m _)) ?_
  rintro _ w2 ⟨rfl, hg2⟩
  have hg02 := hn1.grow.trans hg2
  refine RL.p rfl rfl ?_
  refine RL.done ?_
  first | refine RK.condD rfl (fun h10 => ?_) (fun h10 => ?_) | refine RK.condN rfl (fun h10 => ?_) (fun h10 => ?_) | refine RK.cond rfl (fun h10 => ?_) (fun h10 => ?_)
  · refine RK.seq ?_
    refine RK.region ?_
    refine RL.p rfl rfl ?_
    refine RL.done ?_
    refine RK.ret_of Tryz.func103 (res1 rfl rfl) ?_ _
    exact ⟨_, rfl, congrArg _ (by simp at h10; unfold holdsM; rw [h10]; rfl), hg02⟩
  · have his : isM m = true := by simpa using h10
    have hk := isM_kind his
    refine RK.skip ?_
    refine RK.seq ?_
    refine RK.region ?_
    refine RL.p rfl rfl ?_
    refine RL.q (.free rfl) rfl rfl (Yld.fieldAddr fo108_1 rfl) ?_
    refine RL.q (.free rfl) rfl rfl (Yld.load p9 rfl (at1 ((hB1.mod hg2 (fun h => h)).cell rfl))) ?_
    refine RL.op (.free rfl) rfl rfl (Does.call rfl e139 (labelsGet_ok M ls _ m.name _ (hv.mod (Mod.any' hg02)))) ?_
    rintro _ w3 ⟨rfl, hg3⟩
    have hB3 := (hB1.mod hg2 (fun h => h)).mod hg3 (fun h => h)
    have hg03 := hg02.trans hg3
    refine RL.p rfl rfl ?_
    refine RL.done ?_
    iterate 2 refine RK.seq ?_
    refine RK.region ?_
    refine RL.q (.free rfl) rfl rfl (Yld.fieldAddr fo108_0 rfl) ?_
    refine RL.q (.free rfl) rfl rfl (Yld.load p3 rfl (at1 (hB3.cell rfl))) ?_
    refine RL.done ?_
    refine RK.block ?_
    refine RK.seq ?_
    refine RK.region ?_
    iterate 2 refine RL.p rfl rfl ?_
    refine RL.done ?_
    first | refine RK.condD rfl (fun h17 => ?_) (fun h17 => ?_) | refine RK.condN rfl (fun h17 => ?_) (fun h17 => ?_) | refine RK.cond rfl (fun h17 => ?_) (fun h17 => ?_)
    · have hnl : largeM m = false := large_no2 (by unfold likeS; simp; omega)
      refine RK.seq ?_
      refine RK.region ?_
      refine RL.p rfl rfl ?_
      refine RL.q (.free rfl) rfl rfl (Yld.fieldAddr fo108_2 rfl) ?_
      refine RL.q (.free rfl) rfl rfl (Yld.load p9 rfl (at1 (hB3.cell rfl))) ?_
      iterate 2 refine RL.p rfl rfl ?_
      refine RL.done ?_
      refine RK.ret_of Tryz.func103 (res1 rfl rfl) ?_ _
      exact ⟨_, rfl, congrArg _ (by unfold holdsM; rw [his, hnl, if_pos h17]; rfl), hg03⟩
    · refine RK.seq ?_
      refine RK.region ?_
      iterate 2 refine RL.p rfl rfl ?_
      refine RL.done ?_
      first | refine RK.condD rfl (fun h23 => ?_) (fun h23 => ?_) | refine RK.condN rfl (fun h23 => ?_) (fun h23 => ?_) | refine RK.cond rfl (fun h23 => ?_) (fun h23 => ?_)
      · have hnl : largeM m = false := large_no2 (by unfold likeS; simp; omega)
        refine RK.seq ?_
        refine RK.region ?_
        refine RL.p rfl rfl ?_
        refine RL.q (.free rfl) rfl rfl (Yld.fieldAddr fo108_2 rfl) ?_
        refine RL.q (.free rfl) rfl rfl (Yld.load p9 rfl (at1 (hB3.cell rfl))) ?_
        iterate 2 refine RL.p rfl rfl ?_
        refine RL.done ?_
        refine RK.ret_of Tryz.func103 (res1 rfl rfl) ?_ _
        exact ⟨_, rfl, congrArg _ (by unfold holdsM; rw [his, hnl, if_neg h17, if_pos h23]; rfl), hg03⟩
      · have hl : likeS m = true := by unfold likeS; simp; omega
        have hlg := large_yes his hl
        refine RK.skip ?_
        refine RK.inBlock ?_
        refine RK.seq ?_
        refine RK.region ?_
        refine RL.q (.free rfl) rfl rfl (Yld.loadN (cs := [.int .i64 m.kind, .string m.name, .string m.value]) a108 rfl (atN (blk0' hB3))) ?_
        refine RL.op (.free rfl) rfl rfl (Does.call rfl e140 (program_ok m (isM_pat his hl) _)) ?_
        rintro _ w4 ⟨⟨v4, rfl, hrow⟩, hg4⟩
        have hB4 := hB3.mod hg4 (fun h => h)
        have hg04 := hg03.trans hg4
        iterate 5 refine RL.p rfl rfl ?_
        refine RL.done ?_
        refine RK.seq ?_
        refine RK.drawM No [(0, false), (1, false), (2, false), (3, false), (5, false), (6, false), (7, false), (4, true), (8, false), (9, false), (10, false)] [] mixed (by kernel_rfl) ?_
        iterate 2 refine DL.p rfl rfl rfl ?_
        first | refine DL.splitD (d := 35) rfl rfl (fun h34 => ?_) (fun h34 => ?_) | refine DL.splitN (d := 35) rfl rfl (fun h34 => ?_) (fun h34 => ?_) | refine DL.split (d := 35) rfl rfl (fun h34 => ?_) (fun h34 => ?_)
        · obtain ⟨x, hx, hsz, hr⟩ := hrow h34
          obtain ⟨ad4, c4, rfl, hc4⟩ := hr.cap
          have hnl : largeM m = false := by rw [hlg, h34]; rfl
          have htk : takesS m.value (getL ls m.name) = takes x (getL ls m.name) := by unfold takesS; rw [hx]
          iterate 2 refine DL.qf rfl (.yes rfl rfl rfl) rfl rfl (Yld.pure rfl) ?_
          refine DL.qf rfl (.yes rfl rfl rfl) rfl rfl (Yld.fieldAddr fo108_0 rfl) ?_
          refine DL.q rfl (.yes rfl rfl rfl) rfl rfl rfl (Yld.load p3 rfl (atM (hB4.cell rfl) (fun h => h))) (Mod.drew _ _) ?_
          refine DL.qf rfl (.yes rfl rfl rfl) rfl rfl (Yld.pure rfl) ?_
          refine DL.op rfl (.yes rfl rfl rfl) rfl rfl (Does.call rfl e141 (scanMatch_ok x (parse_tr hx) hsz _ (getL ls m.name) (by omega) _ ((Sl.own hr (fun _ _ h => h)).mod (Mod.drew _ _)) ⟨ad4, c4, rfl, hc4⟩)) ?_
          rintro _ w5 ⟨rfl, hg5⟩
          have hgd : Grow w4 w5 := (Mod.drew _ _).trans hg5
          refine ⟨hgd, ?_⟩
          refine DL.qf rfl (.yes rfl rfl rfl) rfl rfl (Yld.eqBool u4 rfl rfl) ?_
          iterate 2 refine DL.p rfl rfl rfl ?_
          refine DL.done ?_
          refine RK.ret_of Tryz.func103 (res1 rfl rfl) ?_ _
          exact ⟨_, rfl, congrArg _ (by
              unfold holdsM
              rw [his, hnl, if_neg h17, if_neg h23, htk]
              cases takes x (getL ls m.name) <;> simp), hg04.trans hgd⟩
        · have hnl : largeM m = true := by rw [hlg, h34]; rfl
          iterate 5 refine DL.no rfl (.no rfl rfl rfl rfl) rfl rfl ?_
          refine DL.lno rfl (.no rfl rfl rfl rfl) rfl rfl ?_
          refine DL.no rfl (.no rfl rfl rfl rfl) rfl rfl ?_
          iterate 2 refine DL.p rfl rfl rfl ?_
          refine DL.done ?_
          refine RK.ret_of Tryz.func103 (res1 rfl rfl) ?_ _
          exact ⟨_, rfl, congrArg _ (by unfold holdsM; rw [his, hnl]; rfl), hg04.trans (Mod.drew _ _)⟩
end Go.Proofs.YtbcbfjnlnmhpbaaGreat
set_option linter.unusedVariables false
set_option linter.unusedSimpArgs false
set_option maxHeartbeats 1000000
set_option maxRecDepth 100000
namespace Go.Proofs.YtbcbfjnlnmhpbaaGreat
open Go Go.X Go.Rex
theorem pattern_ok (m : Mt) (w : World) : Fx Tryz.prog 120 [.agg #[.int .i64 m.kind, .string m.name, .string m.value]] w (fun u w' => u = .bool (likeS m) ∧ Grow w w') := by
  refine enter Tryz.func120 rfl rfl rfl _ (Pick.sub (l := [0]) (.cons rfl .nil)) ?_
  refine RK.seq ?_
  refine RK.region ?_
  refine RL.op (.free rfl) rfl rfl (Does.box rfl) ?_
  rintro _ w1 ⟨b1, rfl, hn1⟩
  refine RL.p rfl rfl ?_
  refine RL.done ?_
  refine RK.seq ?_
  refine RK.region ?_
  refine RL.q (.free rfl) rfl rfl (Yld.fieldAddr fo108_0 rfl) ?_
  refine RL.q (.free rfl) rfl rfl (Yld.load p3 rfl (at1 (hn1.blk.cell rfl))) ?_
  iterate 2 refine RL.p rfl rfl ?_
  first | refine RL.splitD (d := 6) rfl rfl (fun h6 => ?_) (fun h6 => ?_) | refine RL.splitN (d := 6) rfl rfl (fun h6 => ?_) (fun h6 => ?_) | refine RL.split (d := 6) rfl rfl (fun h6 => ?_) (fun h6 => ?_)
  · iterate 3 refine RL.no (.no rfl rfl rfl rfl) rfl rfl ?_
    iterate 2 refine RL.p rfl rfl ?_
    refine RL.done ?_
    refine RK.ret_of Tryz.func120 (res1 rfl rfl) ?_ _
    exact ⟨_, rfl, congrArg _ (by unfold likeS; simp_all), hn1.grow⟩
  · refine RL.q (.yes rfl rfl rfl) rfl rfl (Yld.fieldAddr fo108_0 rfl) ?_
    refine RL.q (.yes rfl rfl rfl) rfl rfl (Yld.load p3 rfl (at1 (hn1.blk.cell rfl))) ?_
    refine RL.q (.yes rfl rfl rfl) rfl rfl (Yld.pure rfl) ?_
    iterate 2 refine RL.p rfl rfl ?_
    refine RL.done ?_
    refine RK.ret_of Tryz.func120 (res1 rfl rfl) ?_ _
    exact ⟨_, rfl, congrArg _ (by unfold likeS; simp_all), hn1.grow⟩
theorem isMatcher_ok (m : Mt) (hsz : m.name.size ≤ 9223372036854775807) (w : World) : Fx Tryz.prog 77 [.agg #[.int .i64 m.kind, .string m.name, .string m.value]] w (fun u w' => u = .bool (isM m) ∧ Grow w w') := by
  refine enter Tryz.func77 rfl rfl rfl _ (Pick.sub (l := [0]) (.cons rfl .nil)) ?_
  refine RK.seq ?_
  refine RK.region ?_
  refine RL.op (.free rfl) rfl rfl (Does.box rfl) ?_
  rintro _ w1 ⟨b1, rfl, hn1⟩
  have hB1 : Blk w1 b1 108 [.int .i64 m.kind, .string m.name, .string m.value] := hn1.blk
  refine RL.p rfl rfl ?_
  refine RL.done ?_
  iterate 2 refine RK.seq ?_
  refine RK.region ?_
  refine RL.q (.free rfl) rfl rfl (Yld.fieldAddr fo108_1 rfl) ?_
  refine RL.q (.free rfl) rfl rfl (Yld.load p9 rfl (at1 (hB1.cell rfl))) ?_
  refine RL.op (.free rfl) rfl rfl (Does.call rfl e119 (name2_ok _ hsz _)) ?_
  rintro _ _ ⟨rfl, rfl⟩
  refine RL.p rfl rfl ?_
  refine RL.done ?_
  first | refine RK.condD rfl (fun h8 => ?_) (fun h8 => ?_) | refine RK.condN rfl (fun h8 => ?_) (fun h8 => ?_) | refine RK.cond rfl (fun h8 => ?_) (fun h8 => ?_)
  · refine RK.seq ?_
    refine RK.region ?_
    refine RL.p rfl rfl ?_
    refine RL.done ?_
    refine RK.ret_of Tryz.func77 (res1 rfl rfl) ?_ _
    exact ⟨_, rfl, congrArg _ (by unfold isM; simp at h8; rw [h8]; rfl), hn1.grow⟩
  · have hnm : nameS m.name = true := by simpa using h8
    refine RK.skip ?_
    iterate 2 refine RK.seq ?_
    refine RK.region ?_
    refine RL.q (.free rfl) rfl rfl (Yld.loadN (cs := [.int .i64 m.kind, .string m.name, .string m.value]) a108 rfl (atN (blk0' hB1))) ?_
    refine RL.op (.free rfl) rfl rfl (Does.call rfl e120 (pattern_ok m _)) ?_
    rintro _ w2 ⟨rfl, hg2⟩
    have hB2 := hB1.mod hg2 (fun h => h)
    have hg02 := hn1.grow.trans hg2
    refine RL.done ?_
    first | refine RK.condD rfl (fun h10 => ?_) (fun h10 => ?_) | refine RK.condN rfl (fun h10 => ?_) (fun h10 => ?_) | refine RK.cond rfl (fun h10 => ?_) (fun h10 => ?_)
    · have hl : likeS m = true := by first | exact h10 | (unfold likeS; simpa using h10)
      refine RK.seq ?_
      refine RK.region ?_
      refine RL.q (.free rfl) rfl rfl (Yld.fieldAddr fo108_2 rfl) ?_
      refine RL.q (.free rfl) rfl rfl (Yld.load p9 rfl (at1 (hB2.cell rfl))) ?_
      refine RL.op (.free rfl) rfl rfl (Does.call rfl e121 (rparse_ok m.value _)) ?_
      rintro _ w3 ⟨c, rfl, hg3, hx⟩
      iterate 3 refine RL.p rfl rfl ?_
      refine RL.op (.free rfl) rfl rfl (Does.alloc i180) ?_
      rintro _ w4 ⟨b3, rfl, hn3⟩
      refine RL.op' (.free rfl) rfl (Does.storeN i180 rfl rfl rfl rfl hn3.blk (Nat.le_refl 6)) ?_
      rintro _ w5 ⟨hb5, hm5, _⟩
      refine RL.p rfl rfl ?_
      refine RL.done ?_
      refine RK.seq ?_
      refine RK.region ?_
      iterate 2 refine RL.p rfl rfl ?_
      refine RL.done ?_
      refine RK.ret_of Tryz.func77 (res1 rfl rfl) ?_ _
      exact ⟨_, rfl, congrArg _ (by unfold isM patS; rw [hnm, hl]; rfl), ((hg02.trans hg3).trans hn3.grow).then hm5 (fun y hy e => by have e' : y = b3 := e; have := hn3.at_; have := (hg02.trans hg3).size; omega)⟩
    · have hl : likeS m = false := by unfold likeS; simpa using h10
      refine RK.skip ?_
      refine RK.seq ?_
      refine RK.region ?_
      refine RL.q (.free rfl) rfl rfl (Yld.fieldAddr fo108_0 rfl) ?_
      refine RL.q (.free rfl) rfl rfl (Yld.load p3 rfl (at1 (hB2.cell rfl))) ?_
      iterate 2 refine RL.p rfl rfl ?_
      first | refine RL.splitD (d := 21) rfl rfl (fun h21 => ?_) (fun h21 => ?_) | refine RL.splitN (d := 21) rfl rfl (fun h21 => ?_) (fun h21 => ?_) | refine RL.split (d := 21) rfl rfl (fun h21 => ?_) (fun h21 => ?_)
      · iterate 3 refine RL.no (.no rfl rfl rfl rfl) rfl rfl ?_
        iterate 2 refine RL.p rfl rfl ?_
        refine RL.q (.yes rfl rfl rfl) rfl rfl (Yld.fieldAddr fo108_2 rfl) ?_
        refine RL.q (.yes rfl rfl rfl) rfl rfl (Yld.load p9 rfl (at1 (hB2.cell rfl))) ?_
        refine RL.q (.yes rfl rfl rfl) rfl rfl (Yld.lenStr u9 rfl) ?_
        refine RL.q (.yes rfl rfl rfl) rfl rfl (Yld.pure rfl) ?_
        iterate 2 refine RL.p rfl rfl ?_
        refine RL.done ?_
        refine RK.ret_of Tryz.func77 (res1 rfl rfl) ?_ _
        exact ⟨_, rfl, congrArg _ (by unfold isM; rw [hnm, hl, Bool.eq_iff_iff]; simp_all <;> omega), hg02⟩
      · refine RL.q (.yes rfl rfl rfl) rfl rfl (Yld.fieldAddr fo108_0 rfl) ?_
        refine RL.q (.yes rfl rfl rfl) rfl rfl (Yld.load p3 rfl (at1 (hB2.cell rfl))) ?_
        refine RL.q (.yes rfl rfl rfl) rfl rfl (Yld.pure rfl) ?_
        iterate 2 refine RL.p rfl rfl ?_
        first | refine RL.splitD (d := 26) rfl rfl (fun h26 => ?_) (fun h26 => ?_) | refine RL.splitN (d := 26) rfl rfl (fun h26 => ?_) (fun h26 => ?_) | refine RL.split (d := 26) rfl rfl (fun h26 => ?_) (fun h26 => ?_)
        · refine RL.q (.yes rfl rfl rfl) rfl rfl (Yld.fieldAddr fo108_2 rfl) ?_
          refine RL.q (.yes rfl rfl rfl) rfl rfl (Yld.load p9 rfl (at1 (hB2.cell rfl))) ?_
          refine RL.q (.yes rfl rfl rfl) rfl rfl (Yld.lenStr u9 rfl) ?_
          refine RL.q (.yes rfl rfl rfl) rfl rfl (Yld.pure rfl) ?_
          iterate 2 refine RL.p rfl rfl ?_
          refine RL.done ?_
          refine RK.ret_of Tryz.func77 (res1 rfl rfl) ?_ _
          exact ⟨_, rfl, congrArg _ (by unfold isM; rw [hnm, hl, Bool.eq_iff_iff]; simp_all <;> omega), hg02⟩
        · iterate 4 refine RL.no (.no rfl rfl rfl rfl) rfl rfl ?_
          iterate 2 refine RL.p rfl rfl ?_
          refine RL.done ?_
          refine RK.ret_of Tryz.func77 (res1 rfl rfl) ?_ _
          exact ⟨_, rfl, congrArg _ (by unfold isM; rw [hnm, hl, Bool.eq_iff_iff]; simp_all <;> omega), hg02⟩
theorem fit_sz {s : ByteArray} {x : Rx} (h : parseS s = some x) : (!fitS s) = decide (40 < sz x + 1) := by
  unfold fitS
  rw [h, Bool.eq_iff_iff]
  simp
  omega
theorem largeR_ok (m : Mt) (hsz : m.name.size ≤ 9223372036854775807) (w : World) : Fx Tryz.prog 118 [.agg #[.int .i64 m.kind, .string m.name, .string m.value]] w (fun u w' => u = .bool (largeM m) ∧ Grow w w') := by
  refine enter Tryz.func118 rfl rfl rfl _ (Pick.sub (l := [0]) (.cons rfl .nil)) ?_
  refine RK.seq ?_
  refine RK.region ?_
  refine RL.op (.free rfl) rfl rfl (Does.box rfl) ?_
  rintro _ w1 ⟨b1, rfl, hn1⟩
  have hB1 : Blk w1 b1 108 [.int .i64 m.kind, .string m.name, .string m.value] := hn1.blk
  refine RL.p rfl rfl ?_
  refine RL.done ?_
  iterate 2 refine RK.seq ?_
  refine RK.region ?_
  refine RL.q (.free rfl) rfl rfl (Yld.loadN (cs := [.int .i64 m.kind, .string m.name, .string m.value]) a108 rfl (atN (blk0' hB1))) ?_
  refine RL.op (.free rfl) rfl rfl (Does.call rfl e77 (isMatcher_ok m hsz _)) ?_
  rintro _ w2 ⟨rfl, hg2⟩
  have hB2 := hB1.mod hg2 (fun h => h)
  iterate 2 refine RL.p rfl rfl ?_
  first | refine RL.splitD (d := 8) rfl rfl (fun h8 => ?_) (fun h8 => ?_) | refine RL.splitN (d := 8) rfl rfl (fun h8 => ?_) (fun h8 => ?_) | refine RL.split (d := 8) rfl rfl (fun h8 => ?_) (fun h8 => ?_)
  · have his : isM m = false := by simpa using h8
    iterate 3 refine RL.no (.no rfl rfl rfl rfl) rfl rfl ?_
    refine RL.p rfl rfl ?_
    refine RL.done ?_
    refine RK.condT (hcT rfl (rfl)) ?_
    refine RK.seq ?_
    refine RK.region ?_
    refine RL.p rfl rfl ?_
    refine RL.done ?_
    refine RK.ret_of Tryz.func118 (res1 rfl rfl) ?_ _
    exact ⟨_, rfl, by rw [large_no his], hn1.grow.trans hg2⟩
  · have his : isM m = true := by simpa using h8
    refine RL.q (.yes rfl rfl rfl) rfl rfl (Yld.loadN (cs := [.int .i64 m.kind, .string m.name, .string m.value]) a108 rfl (atN (blk0' hB2))) ?_
    refine RL.op (.yes rfl rfl rfl) rfl rfl (Does.call rfl e120 (pattern_ok m _)) ?_
    rintro _ w3 ⟨rfl, hg3⟩
    have hB3 := hB2.mod hg3 (fun h => h)
    have hg03 := (hn1.grow.trans hg2).trans hg3
    refine RL.q (.yes rfl rfl rfl) rfl rfl (Yld.pure rfl) ?_
    refine RL.p rfl rfl ?_
    refine RL.done ?_
    first | refine RK.condD rfl (fun h12 => ?_) (fun h12 => ?_) | refine RK.condN rfl (fun h12 => ?_) (fun h12 => ?_) | refine RK.cond rfl (fun h12 => ?_) (fun h12 => ?_)
    · have hl : likeS m = false := by unfold likeS; simpa using h12
      refine RK.seq ?_
      refine RK.region ?_
      refine RL.p rfl rfl ?_
      refine RL.done ?_
      refine RK.ret_of Tryz.func118 (res1 rfl rfl) ?_ _
      exact ⟨_, rfl, by rw [large_no2 hl], hg03⟩
    · have hl : likeS m = true := by unfold likeS; simpa using h12
      obtain ⟨x, hx⟩ := pat_parse (isM_pat his hl)
      refine RK.skip ?_
      refine RK.seq ?_
      refine RK.region ?_
      refine RL.q (.free rfl) rfl rfl (Yld.fieldAddr fo108_2 rfl) ?_
      refine RL.q (.free rfl) rfl rfl (Yld.load p9 rfl (at1 (hB3.cell rfl))) ?_
      refine RL.op (.free rfl) rfl rfl (Does.call rfl e121 (rparse_ok m.value _)) ?_
      rintro _ w4 ⟨c, rfl, hg4, hxx⟩
      have hv4 := hxx x hx
      iterate 3 refine RL.p rfl rfl ?_
      refine RL.op (.free rfl) rfl rfl (Does.alloc i180) ?_
      rintro _ w5 ⟨b3, rfl, hn3⟩
      refine RL.op' (.free rfl) rfl (Does.storeN i180 rfl rfl rfl rfl hn3.blk (Nat.le_refl 6)) ?_
      rintro _ w6 ⟨hb6, hm6, _⟩
      have hB6 : Blk w6 b3 180 (celC c) := hb6
      have hg6 : Grow w4 w6 := hn3.grow.then hm6 (fun y hy e => by have e' : y = b3 := e; have := hn3.at_; omega)
      refine RL.p rfl rfl ?_
      refine RL.done ?_
      refine RK.seq ?_
      refine RK.region ?_
      refine RL.q (.free rfl) rfl rfl (Yld.loadN (cs := celC c) a180 rfl (atN (blk0' hB6))) ?_
      refine RL.op (.free rfl) rfl rfl (Does.call rfl e149 (rsizeM_ok x (parse_tr hx) (by have := parse_sz' hx; omega) _ c _ (RxV.grow hg6 x hv4))) ?_
      rintro _ w7 ⟨rfl, hg7⟩
      iterate 2 refine RL.p rfl rfl ?_
      refine RL.done ?_
      refine RK.ret_of Tryz.func118 (res1 rfl rfl) ?_ _
      exact ⟨_, rfl, congrArg _ (by rw [large_yes his hl, fit_sz hx, Bool.eq_iff_iff]; simp; omega), ((hg03.trans hg4).trans hg6).trans hg7⟩
end Go.Proofs.YtbcbfjnlnmhpbaaGreat
set_option linter.unusedVariables false
set_option linter.unusedSimpArgs false
set_option maxHeartbeats 1000000
set_option maxRecDepth 100000
namespace Go.Proofs.YtbcbfjnlnmhpbaaGreat
open Go Go.X Go.Rex
@[irreducible] def aheadM (x y : Mt) : Bool := if x.name ≠ y.name then slt x.name y.name else if x.kind ≠ y.kind then decide (x.kind < y.kind) else slt x.value y.value
theorem before_ok (x y : Mt) (w : World) : Fx Tryz.prog 78 [.agg (mtC x).toArray, .agg (mtC y).toArray] w (fun u w' => u = .bool (aheadM x y) ∧ Grow w w') := by
  refine enter Tryz.func78 rfl rfl rfl _ (Pick.sub (l := [0, 1]) (.cons rfl (.cons rfl .nil))) ?_
  refine RK.seq ?_
  refine RK.region ?_
  refine RL.op (.free rfl) rfl rfl (Does.box rfl) ?_
  rintro _ w1 ⟨b1, rfl, hn1⟩
  refine RL.op (.free rfl) rfl rfl (Does.box rfl) ?_
  rintro _ w2 ⟨b2, rfl, hn2⟩
  have hB1 : Blk w2 b1 108 [.int .i64 x.kind, .string x.name, .string x.value] := hn1.blk.mod hn2.grow (fun h => h)
  have hB2 : Blk w2 b2 108 [.int .i64 y.kind, .string y.name, .string y.value] := hn2.blk
  have hg2 := hn1.grow.trans hn2.grow
  refine RL.p rfl rfl ?_
  refine RL.done ?_
  iterate 2 refine RK.seq ?_
  refine RK.region ?_
  refine RL.q (.free rfl) rfl rfl (Yld.fieldAddr fo108_1 rfl) ?_
  refine RL.q (.free rfl) rfl rfl (Yld.load p9 rfl (at1 (hB1.cell rfl))) ?_
  refine RL.q (.free rfl) rfl rfl (Yld.fieldAddr fo108_1 rfl) ?_
  refine RL.q (.free rfl) rfl rfl (Yld.load p9 rfl (at1 (hB2.cell rfl))) ?_
  refine RL.p rfl rfl ?_
  refine RL.done ?_
  first | refine RK.condD rfl (fun h9 => ?_) (fun h9 => ?_) | refine RK.condN rfl (fun h9 => ?_) (fun h9 => ?_) | refine RK.cond rfl (fun h9 => ?_) (fun h9 => ?_)
  · refine RK.seq ?_
    refine RK.region ?_
    refine RL.q (.free rfl) rfl rfl (Yld.fieldAddr fo108_1 rfl) ?_
    refine RL.q (.free rfl) rfl rfl (Yld.load p9 rfl (at1 (hB1.cell rfl))) ?_
    refine RL.q (.free rfl) rfl rfl (Yld.fieldAddr fo108_1 rfl) ?_
    refine RL.q (.free rfl) rfl rfl (Yld.load p9 rfl (at1 (hB2.cell rfl))) ?_
    iterate 2 refine RL.p rfl rfl ?_
    refine RL.done ?_
    refine RK.ret_of Tryz.func78 (res1 rfl rfl) ?_ _
    exact ⟨_, rfl, by unfold aheadM; rw [if_pos h9], hg2⟩
  · refine RK.skip ?_
    iterate 2 refine RK.seq ?_
    refine RK.region ?_
    refine RL.q (.free rfl) rfl rfl (Yld.fieldAddr fo108_0 rfl) ?_
    refine RL.q (.free rfl) rfl rfl (Yld.load p3 rfl (at1 (hB1.cell rfl))) ?_
    refine RL.q (.free rfl) rfl rfl (Yld.fieldAddr fo108_0 rfl) ?_
    refine RL.q (.free rfl) rfl rfl (Yld.load p3 rfl (at1 (hB2.cell rfl))) ?_
    refine RL.p rfl rfl ?_
    refine RL.done ?_
    first | refine RK.condD rfl (fun h19 => ?_) (fun h19 => ?_) | refine RK.condN rfl (fun h19 => ?_) (fun h19 => ?_) | refine RK.cond rfl (fun h19 => ?_) (fun h19 => ?_)
    · refine RK.seq ?_
      refine RK.region ?_
      refine RL.q (.free rfl) rfl rfl (Yld.fieldAddr fo108_0 rfl) ?_
      refine RL.q (.free rfl) rfl rfl (Yld.load p3 rfl (at1 (hB1.cell rfl))) ?_
      refine RL.q (.free rfl) rfl rfl (Yld.fieldAddr fo108_0 rfl) ?_
      refine RL.q (.free rfl) rfl rfl (Yld.load p3 rfl (at1 (hB2.cell rfl))) ?_
      iterate 2 refine RL.p rfl rfl ?_
      refine RL.done ?_
      refine RK.ret_of Tryz.func78 (res1 rfl rfl) ?_ _
      exact ⟨_, rfl, by unfold aheadM; rw [if_neg (fun h => h h9), if_pos h19], hg2⟩
    · refine RK.skip ?_
      refine RK.seq ?_
      refine RK.region ?_
      refine RL.q (.free rfl) rfl rfl (Yld.fieldAddr fo108_2 rfl) ?_
      refine RL.q (.free rfl) rfl rfl (Yld.load p9 rfl (at1 (hB1.cell rfl))) ?_
      refine RL.q (.free rfl) rfl rfl (Yld.fieldAddr fo108_2 rfl) ?_
      refine RL.q (.free rfl) rfl rfl (Yld.load p9 rfl (at1 (hB2.cell rfl))) ?_
      iterate 2 refine RL.p rfl rfl ?_
      refine RL.done ?_
      refine RK.ret_of Tryz.func78 (res1 rfl rfl) ?_ _
      exact ⟨_, rfl, by unfold aheadM; rw [if_neg (fun h => h h9), if_neg h19], hg2⟩
theorem allOne_mts (xs : List Mt) : ((xs.flatMap mtC).all fun x => x.oneCell') = true := by
  rw [List.all_eq_true]
  intro u hu
  obtain ⟨x, _, hx⟩ := List.mem_flatMap.1 hu
  simp only [mtC, List.mem_cons, List.not_mem_nil, or_false] at hx
  rcases hx with rfl | rfl | rfl <;> rfl
end Go.Proofs.YtbcbfjnlnmhpbaaGreat
set_option linter.unusedVariables false
set_option linter.unusedSimpArgs false
set_option maxHeartbeats 1000000
set_option maxRecDepth 100000
namespace Go.Proofs.YtbcbfjnlnmhpbaaGreat
open Go Go.X Go.Rex
theorem cmpB : ∀ (a b : List UInt8), Lib.compareBytes a b = if Op.bytesLess a b = true then -1 else if a = b then 0 else 1
  | [], [] => by simp [Lib.compareBytes, Op.bytesLess]
  | [], _ :: _ => by simp [Lib.compareBytes, Op.bytesLess]
  | _ :: _, [] => by simp [Lib.compareBytes, Op.bytesLess]
  | a :: xs, b :: ys => by
    rw [Lib.compareBytes, cmpB xs ys, show Op.bytesLess (a :: xs) (b :: ys) = (decide (a < b) || (a == b && Op.bytesLess xs ys)) from rfl]
    by_cases h1 : a < b
    · simp [h1]
    · by_cases h2 : b < a
      · have : a ≠ b := by rintro rfl; exact h1 h2
        simp [h1, h2, this]
      · have : a = b := UInt8.le_antisymm (UInt8.not_lt.1 h2) (UInt8.not_lt.1 h1)
        subst this
        simp [h1]
theorem cmpS_ok (a b : ByteArray) (w : World) : Fx Tryz.prog 161 [.string a, .string b] w (fun u w' => u = .int .i64 (if slt a b = true then -1 else if a = b then 0 else 1) ∧ w = w') := by
  refine Calls.mono (Tryz.strings_Compare a b w) ?_
  rintro e w' ⟨rfl, rfl⟩
  refine ⟨_, rfl, ?_, rfl⟩
  rw [cmpB]
  unfold slt
  by_cases h : a = b
  · subst h; rw [bl_irrefl]; simp
  · rw [if_neg h, if_neg (fun e => h (data_inj e))]
def orS : List Int → Int
  | [] => 0
  | z :: l => if z ≠ 0 then z else orS l
theorem orI_ok (M : Nat → Prop) (l : List Int) (v : Value) (w : World) (hv : Sl M w v 1 l.length (ints l)) : Fx Tryz.prog 160 [v] w (fun u w' => u = .int .i64 (orS l) ∧ w = w') := by
  obtain ⟨ad, c, rfl⟩ := hv.shape
  have hbig := hv.big
  refine enter Tryz.func160 rfl rfl rfl _ (Pick.sub (l := [0]) (.cons rfl .nil)) ?_
  refine RK.seq ?_
  refine RK.region ?_
  refine RL.p rfl rfl ?_
  refine RL.done ?_
  refine RK.seq ?_
  refine RK.region ?_
  refine RL.p rfl rfl ?_
  refine RL.done ?_
  iterate 2 refine RK.seq ?_
  refine RK.region ?_
  refine RL.p rfl rfl ?_
  refine RL.q (.free rfl) rfl rfl (Yld.lenSl u35 rfl) ?_
  refine RL.p rfl rfl ?_
  refine RL.done ?_
  refine RK.block ?_
  refine RK.loop (fun k : Nat => [(3, .int .i64 0), (6, .slice ad l.length c), (7, .int .i64 (l.length : Int)), (8, .int .i64 (k : Int))]) (fun k w' => w = w' ∧ k ≤ l.length ∧ orS (l.drop k) = orS l) (fun k => l.length - k) 0 ⟨rfl, rfl, rfl, rfl, trivial⟩ ⟨rfl, by omega, rfl⟩ (fun k w' hI ih => ?_)
  obtain ⟨rfl, hk, hst⟩ := hI
  refine RK.seq ?_
  refine RK.region ?_
  refine RL.p rfl rfl ?_
  refine RL.done ?_
  refine RK.seq ?_
  first | refine RK.condD rfl (fun h9 => ?_) (fun h9 => ?_) | refine RK.condN rfl (fun h9 => ?_) (fun h9 => ?_) | refine RK.cond rfl (fun h9 => ?_) (fun h9 => ?_)
  · obtain ⟨z, hz⟩ : ∃ z, l[k]? = some z := ⟨l[k]'(by omega), List.getElem?_eq_getElem (by omega)⟩
    obtain ⟨b1, o1, c1', he1, _, _, hc1⟩ := hv.elem1 (k := k) (u := .int .i64 z) (by simp [hz])
    cases he1
    have hdr : l.drop k = z :: l.drop (k + 1) := by rw [List.drop_eq_getElem_cons (by omega), (List.getElem?_eq_some_iff.1 hz).2]
    rw [hdr] at hst
    refine RK.skip ?_
    refine RK.seq ?_
    refine RK.block ?_
    refine RK.seq ?_
    refine RK.region ?_
    refine RL.q (.free rfl) rfl rfl (Yld.indexAddrN u35 i3 rfl rfl (by omega)) ?_
    refine RL.q (.free rfl) rfl rfl (Yld.load p3 rfl (at1 (hc1 k (.int .i64 z) (by simp [hz])))) ?_
    refine RL.p rfl rfl ?_
    refine RL.done ?_
    refine RK.seq ?_
    refine RK.region ?_
    iterate 3 refine RL.p rfl rfl ?_
    refine RL.done ?_
    first | refine RK.condD rfl (fun h14 => ?_) (fun h14 => ?_) | refine RK.condN rfl (fun h14 => ?_) (fun h14 => ?_) | refine RK.cond rfl (fun h14 => ?_) (fun h14 => ?_)
    · refine RK.seq ?_
      refine RK.region ?_
      iterate 2 refine RL.p rfl rfl ?_
      refine RL.done ?_
      refine RK.ret_of Tryz.func160 (res1 rfl rfl) ?_ _
      exact ⟨_, rfl, by rw [← hst]; unfold orS; rw [if_pos h14], rfl⟩
    · have hst2 : orS (l.drop (k + 1)) = orS l := by rw [← hst]; conv => rhs; unfold orS; rw [if_neg h14]
      refine RK.skip ?_
      refine RK.inBlock ?_
      refine RK.region ?_
      refine RL.p rfl rfl ?_
      refine RL.re (d := 16) rfl rfl (succ_i64 (by omega)) ?_
      refine RL.p rfl rfl ?_
      refine RL.done ?_
      exact RK.back (ih (k + 1) _ ⟨rfl, by omega, hst2⟩ (by omega)) ⟨rfl, rfl, rfl, rfl, trivial⟩
  · rw [List.drop_eq_nil_of_le (by omega)] at hst
    refine RK.exit rfl ?_
    refine RK.seq ?_
    refine RK.region ?_
    iterate 2 refine RL.p rfl rfl ?_
    refine RL.done ?_
    refine RK.ret_of Tryz.func160 (res1 rfl rfl) ?_ _
    exact ⟨_, rfl, by rw [← hst]; rfl, rfl⟩
theorem ahead_or (x y : Mt) : (0 ≤ orS [if slt x.name y.name = true then -1 else if x.name = y.name then 0 else 1, Lib.compareInt x.kind y.kind, if slt x.value y.value = true then -1 else if x.value = y.value then 0 else 1]) ↔ aheadM x y = false := by
  obtain ⟨xk, xn, xv⟩ := x
  obtain ⟨yk, yn, yv⟩ := y
  unfold aheadM Lib.compareInt
  simp only
  by_cases h2 : xn = yn
  · subst h2
    simp only [slt_irrefl, Bool.false_eq_true, if_false, if_true, ne_eq, not_true_eq_false]
    by_cases h3 : xk < yk
    · have hne : xk ≠ yk := by omega
      simp [orS, h3, hne]
    · by_cases h4 : xk = yk
      · subst h4
        by_cases h5 : slt xv yv = true
        · simp [orS, h5]
        · by_cases h6 : xv = yv
          · subst h6; simp [orS, slt_irrefl]
          · simp [orS, h5, h6]
      · have h5 : yk < xk := by omega
        simp [orS, h3, h4, h5]
  · by_cases h1 : slt xn yn = true
    · simp [orS, h1, h2]
    · simp [orS, h1, h2]
theorem cmpM_ok (x y : Mt) (w : World) : Fx Tryz.prog 131 [.agg (mtC x).toArray, .agg (mtC y).toArray] w (fun u w' => (∃ c : Int, u = .int .i64 c ∧ (0 ≤ c ↔ aheadM x y = false)) ∧ Grow w w') := by
  refine enter Tryz.func131 rfl rfl rfl _ (Pick.sub (l := [0, 1]) (.cons rfl (.cons rfl .nil))) ?_
  refine RK.seq ?_
  refine RK.region ?_
  refine RL.op (.free rfl) rfl rfl (Does.box rfl) ?_
  rintro _ w1 ⟨b1, rfl, hn1⟩
  refine RL.op (.free rfl) rfl rfl (Does.box rfl) ?_
  rintro _ w2 ⟨b2, rfl, hn2⟩
  have hB1 : Blk w2 b1 108 [.int .i64 x.kind, .string x.name, .string x.value] := hn1.blk.mod hn2.grow (fun h => h)
  have hB2 : Blk w2 b2 108 [.int .i64 y.kind, .string y.name, .string y.value] := hn2.blk
  have hg2 := hn1.grow.trans hn2.grow
  refine RL.p rfl rfl ?_
  refine RL.done ?_
  refine RK.seq ?_
  refine RK.drawM No [(0, false), (1, false), (2, false), (3, false), (5, false), (6, false), (7, false), (8, false), (10, false), (11, false), (12, false), (13, false), (4, true), (9, true), (14, true), (15, true), (16, true), (17, false)] [] mixed (by kernel_rfl) ?_
  refine DL.qf rfl (.free rfl) rfl rfl (Yld.fieldAddr fo108_1 rfl) ?_
  refine DL.q rfl (.free rfl) rfl rfl rfl (Yld.load p9 rfl (atM (hB1.cell rfl) (fun h => h))) (Mod.drew _ _) ?_
  refine DL.qf rfl (.free rfl) rfl rfl (Yld.fieldAddr fo108_1 rfl) ?_
  refine DL.q rfl (.free rfl) rfl rfl rfl (Yld.load p9 rfl (atM (hB2.cell rfl) (fun h => h))) (Mod.drew _ _) ?_
  refine DL.qf rfl (.free rfl) rfl rfl (Yld.fieldAddr fo108_0 rfl) ?_
  refine DL.q rfl (.free rfl) rfl rfl rfl (Yld.load p3 rfl (atM (hB1.cell rfl) (fun h => h))) (Mod.drew _ _) ?_
  refine DL.qf rfl (.free rfl) rfl rfl (Yld.fieldAddr fo108_0 rfl) ?_
  refine DL.q rfl (.free rfl) rfl rfl rfl (Yld.load p3 rfl (atM (hB2.cell rfl) (fun h => h))) (Mod.drew _ _) ?_
  refine DL.qf rfl (.free rfl) rfl rfl (Yld.fieldAddr fo108_2 rfl) ?_
  refine DL.q rfl (.free rfl) rfl rfl rfl (Yld.load p9 rfl (atM (hB1.cell rfl) (fun h => h))) (Mod.drew _ _) ?_
  refine DL.qf rfl (.free rfl) rfl rfl (Yld.fieldAddr fo108_2 rfl) ?_
  refine DL.q rfl (.free rfl) rfl rfl rfl (Yld.load p9 rfl (atM (hB2.cell rfl) (fun h => h))) (Mod.drew _ _) ?_
  refine DL.op rfl (.free rfl) rfl rfl (Does.call rfl e161 (cmpS_ok _ _ _)) ?_
  rintro _ _ ⟨rfl, rfl⟩
  refine ⟨Mod.drew _ _, ?_⟩
  refine DL.op rfl (.free rfl) rfl rfl (Does.call rfl e106 (cmpInt_ok _ _ _)) ?_
  rintro _ _ ⟨rfl, rfl⟩
  refine ⟨Mod.drew _ _, ?_⟩
  refine DL.op rfl (.free rfl) rfl rfl (Does.call rfl e161 (cmpS_ok _ _ _)) ?_
  rintro _ _ ⟨rfl, rfl⟩
  refine ⟨Mod.drew _ _, ?_⟩
  refine DL.op rfl (.free rfl) rfl rfl (Does.bslice (el := 3) ([.int .i64 (if slt x.name y.name = true then -1 else if x.name = y.name then 0 else 1), .int .i64 (Lib.compareInt x.kind y.kind), .int .i64 (if slt x.value y.value = true then -1 else if x.value = y.value then 0 else 1)]) rfl (fun w => by kernel_rfl)) ?_
  rintro _ w3 ⟨b3, rfl, hn3⟩
  refine ⟨(Mod.drew _ _).trans hn3.grow, ?_⟩
  refine DL.op rfl (.free rfl) rfl rfl (Does.call rfl e160 (orI_ok No [_, _, _] _ _ (Sl.new hn3 1 3 rfl (by omega) (fun h => h)))) ?_
  rintro _ _ ⟨rfl, rfl⟩
  refine ⟨(Mod.drew _ _).trans hn3.grow, ?_⟩
  refine DL.p rfl rfl rfl ?_
  refine DL.done ?_
  refine RK.ret_of Tryz.func131 (res1 rfl rfl) ?_ _
  exact ⟨_, rfl, ⟨_, rfl, ahead_or x y⟩, hg2.trans ((Mod.drew _ _).trans hn3.grow)⟩
@[irreducible] def okM (ms : List Mt) (i : Nat) : Bool := match ms[i]? with
  | none => true
  | some x => isM x && (match i with
    | 0 => true
    | j + 1 => match ms[j]? with
      | none => true
      | some y => aheadM y x)
@[irreducible] def listM (ms : List Mt) : Bool := decide (ms.length ≤ 5) && (List.range ms.length).all (okM ms)
theorem okM_0 {ms : List Mt} {x : Mt} (hx : ms[0]? = some x) : okM ms 0 = isM x := by unfold okM; rw [hx]; simp
theorem okM_s {ms : List Mt} {j : Nat} {x y : Mt} (hx : ms[j + 1]? = some x) (hy : ms[j]? = some y) : okM ms (j + 1) = (isM x && aheadM y x) := by unfold okM; rw [hx]; simp only; rw [hy]
theorem listM_big {ms : List Mt} (h : 5 < ms.length) : listM ms = false := by unfold listM; rw [decide_eq_false (by omega)]; rfl
theorem listM_no {ms : List Mt} {i : Nat} (hi : i < ms.length) (h : okM ms i = false) : listM ms = false := by
  unfold listM
  rw [Bool.and_eq_false_iff]; right
  exact List.all_eq_false.2 ⟨i, List.mem_range.2 hi, by simp [h]⟩
theorem listM_yes {ms : List Mt} (h5 : ms.length ≤ 5) (h : ∀ i, i < ms.length → okM ms i = true) : listM ms = true := by
  unfold listM
  rw [decide_eq_true h5, Bool.true_and]
  exact List.all_eq_true.2 fun i hi => h i (List.mem_range.1 hi)
theorem matchList_ok (M : Nat → Prop) (ms : List Mt) (v : Value) (w : World) (hv : SlM M w v ms) : Fx Tryz.prog 95 [v] w (fun u w' => u = .bool (listM ms) ∧ Grow w w') := by
  obtain ⟨ad, c, rfl⟩ := hv.shape
  have hbig := hv.big
  refine enter Tryz.func95 rfl rfl rfl _ (Pick.sub (l := [0]) (.cons rfl .nil)) ?_
  refine RK.seq ?_
  refine RK.region ?_
  refine RL.p rfl rfl ?_
  refine RL.done ?_
  iterate 2 refine RK.seq ?_
  refine RK.region ?_
  refine RL.p rfl rfl ?_
  refine RL.q (.free rfl) rfl rfl (Yld.lenSl u28 rfl) ?_
  refine RL.p rfl rfl ?_
  refine RL.done ?_
  first | refine RK.condD rfl (fun h7 => ?_) (fun h7 => ?_) | refine RK.condN rfl (fun h7 => ?_) (fun h7 => ?_) | refine RK.cond rfl (fun h7 => ?_) (fun h7 => ?_)
  · refine RK.seq ?_
    refine RK.region ?_
    refine RL.p rfl rfl ?_
    refine RL.done ?_
    refine RK.ret_of Tryz.func95 (res1 rfl rfl) ?_ _
    exact ⟨_, rfl, by rw [listM_big (by omega)], Mod.refl _ _⟩
  · refine RK.skip ?_
    iterate 2 refine RK.seq ?_
    refine RK.region ?_
    refine RL.p rfl rfl ?_
    refine RL.q (.free rfl) rfl rfl (Yld.lenSl u28 rfl) ?_
    refine RL.p rfl rfl ?_
    refine RL.done ?_
    refine RK.block ?_
    refine RK.loop (fun k : Nat => [(0, .slice ad ms.length c), (8, .slice ad ms.length c), (9, .int .i64 (ms.length : Int)), (10, .int .i64 (k : Int))]) (fun k w' => Grow w w' ∧ k ≤ ms.length ∧ ∀ i, i < k → okM ms i = true) (fun k => ms.length - k) 0 ⟨rfl, rfl, rfl, rfl, trivial⟩ ⟨Mod.refl _ _, by omega, fun i hi => by omega⟩ (fun k w' hI ih => ?_)
    obtain ⟨hg, hk, hall⟩ := hI
    refine RK.seq ?_
    refine RK.region ?_
    refine RL.p rfl rfl ?_
    refine RL.done ?_
    refine RK.seq ?_
    first | refine RK.condD rfl (fun h11 => ?_) (fun h11 => ?_) | refine RK.condN rfl (fun h11 => ?_) (fun h11 => ?_) | refine RK.cond rfl (fun h11 => ?_) (fun h11 => ?_)
    · obtain ⟨x, hx⟩ : ∃ x, ms[k]? = some x := ⟨ms[k]'(by omega), List.getElem?_eq_getElem (by omega)⟩
      obtain ⟨b1, o1, c1', he1, _, _, hc1⟩ := hv.elem mtC_len hx
      cases he1
      refine RK.skip ?_
      refine RK.seq ?_
      refine RK.block ?_
      refine RK.seq ?_
      refine RK.region ?_
      refine RL.p rfl rfl ?_
      refine RL.q (.free rfl) rfl rfl (Yld.indexAddrN u28 i108 rfl rfl (by omega)) ?_
      refine RL.q (.free rfl) rfl rfl (Yld.loadN (cs := mtC x) a108 rfl (atN (fun q z hq => hg.cell (hc1 q z hq) (fun h => h)))) ?_
      refine RL.op (.free rfl) rfl rfl (Does.alloc i108) ?_
      rintro _ w4 ⟨b4, rfl, hn4⟩
      refine RL.p rfl rfl ?_
      refine RL.op' (.free rfl) rfl (Does.storeN i108 rfl rfl rfl rfl hn4.blk (Nat.le_refl 3)) ?_
      rintro _ w5 ⟨hb5, hm5, _⟩
      have hg5 : Grow w w5 := hg.trans (hn4.grow.then hm5 (fun y hy e => by have e' : y = b4 := e; have := hn4.at_; omega))
      refine RL.done ?_
      refine RK.seq ?_
      refine RK.drawM No [(0, false), (1, true), (2, false), (3, false), (4, false), (5, false), (6, false), (7, false), (8, false), (9, false), (10, false), (11, false), (12, false), (13, true), (14, false), (15, false), (16, false)] [] mixed (by kernel_rfl) ?_
      refine DL.q rfl (.free rfl) rfl rfl rfl (Yld.loadN (cs := mtC x) a108 rfl (atNM (blk0' hb5) (fun h => h))) (Mod.drew _ _) ?_
      refine DL.op rfl (.free rfl) rfl rfl (Does.call rfl e130 (matchIs_ok x _)) ?_
      rintro _ w6 ⟨rfl, hg6⟩
      refine ⟨(Mod.drew No _).trans hg6, ?_⟩
      iterate 2 refine DL.p rfl rfl rfl ?_
      first | refine DL.splitD (d := 18) rfl rfl (fun h17 => ?_) (fun h17 => ?_) | refine DL.splitN (d := 18) rfl rfl (fun h17 => ?_) (fun h17 => ?_) | refine DL.split (d := 18) rfl rfl (fun h17 => ?_) (fun h17 => ?_)
      · iterate 9 refine DL.no rfl (.no rfl rfl rfl rfl) rfl rfl ?_
        refine DL.lno rfl (.no rfl rfl rfl rfl) rfl rfl ?_
        iterate 2 refine DL.no rfl (.no rfl rfl rfl rfl) rfl rfl ?_
        refine DL.p rfl rfl rfl ?_
        refine DL.done ?_
        refine RK.condT rfl ?_
        refine RK.seq ?_
        refine RK.region ?_
        refine RL.p rfl rfl ?_
        refine RL.done ?_
        refine RK.ret_of Tryz.func95 (res1 rfl rfl) ?_ _
        exact ⟨_, rfl, by rw [listM_no (i := k) (by omega) (by
            have hf : isM x = false := by simpa using h17
            cases k with
            | zero => rw [okM_0 hx]; exact hf
            | succ j => rw [okM_s hx (List.getElem?_eq_getElem (by omega)), hf]; rfl)], hg5.trans ((Mod.drew No _).trans hg6)⟩
      · have hix : isM x = true := by simpa using h17
        iterate 3 refine DL.qf rfl (.yes rfl rfl rfl) rfl rfl (Yld.pure rfl) ?_
        first | refine DL.splitD (d := 21) rfl rfl (fun h20 => ?_) (fun h20 => ?_) | refine DL.splitN (d := 21) rfl rfl (fun h20 => ?_) (fun h20 => ?_) | refine DL.split (d := 21) rfl rfl (fun h20 => ?_) (fun h20 => ?_)
        · obtain ⟨j, rfl⟩ : ∃ j, k = j + 1 := ⟨k - 1, by omega⟩
          obtain ⟨y, hy⟩ : ∃ y, ms[j]? = some y := ⟨ms[j]'(by omega), List.getElem?_eq_getElem (by omega)⟩
          obtain ⟨b2, o2, c2', he2, _, _, hc2⟩ := hv.elem mtC_len hy
          cases he2
          iterate 3 refine DL.qf rfl (.yes rfl rfl rfl) rfl rfl (Yld.pure rfl) ?_
          refine DL.re (d := 24) rfl rfl (sub_i64 (z := (j : Int)) (by omega) (by omega) (by omega)) ?_
          refine DL.qf rfl (.yes rfl rfl rfl) rfl rfl (Yld.indexAddrN u28 i108 rfl rfl (by omega)) ?_
          refine DL.q rfl (.yes rfl rfl rfl) rfl rfl rfl (Yld.loadN (cs := mtC y) a108 rfl (atNM (fun q z hq => hg5.cell (hc2 q z hq) (fun h => h)) (fun h => h))) ((Mod.drew No _).trans hg6) ?_
          refine DL.q rfl (.yes rfl rfl rfl) rfl rfl rfl (Yld.loadN (cs := mtC x) a108 rfl (atNM (blk0' hb5) (fun h => h))) ((Mod.drew No _).trans hg6) ?_
          refine DL.op rfl (.yes rfl rfl rfl) rfl rfl (Does.call rfl e131 (cmpM_ok y x _)) ?_
          rintro _ w7 ⟨⟨cc, rfl, hcc⟩, hg7⟩
          have hg8 := hg5.trans (((Mod.drew No _).trans hg6).trans hg7)
          refine ⟨((Mod.drew No _).trans hg6).trans hg7, ?_⟩
          iterate 2 refine DL.qf rfl (.yes rfl rfl rfl) rfl rfl (Yld.pure rfl) ?_
          refine DL.p rfl rfl rfl ?_
          refine DL.done ?_
          first | refine RK.condD rfl (fun h29 => ?_) (fun h29 => ?_) | refine RK.condN rfl (fun h29 => ?_) (fun h29 => ?_) | refine RK.cond rfl (fun h29 => ?_) (fun h29 => ?_)
          · refine RK.seq ?_
            refine RK.region ?_
            refine RL.p rfl rfl ?_
            refine RL.done ?_
            refine RK.ret_of Tryz.func95 (res1 rfl rfl) ?_ _
            exact ⟨_, rfl, by rw [listM_no (i := j + 1) (by omega) (by rw [okM_s hx hy, hix, hcc.1 h29]; rfl)], hg8⟩
          · have hay : aheadM y x = true := eq_true_of_ne_false fun hq => h29 (hcc.2 hq)
            refine RK.skip ?_
            refine RK.inBlock ?_
            refine RK.region ?_
            refine RL.p rfl rfl ?_
            refine RL.re (d := 32) rfl rfl (succ_i64 (by omega)) ?_
            refine RL.p rfl rfl ?_
            refine RL.done ?_
            exact RK.back (ih (j + 1 + 1) _ ⟨hg8, by omega, fun i hi => by by_cases e : i = j + 1; (subst e; rw [okM_s hx hy, hix, hay]; rfl); exact hall i (by omega)⟩ (by omega)) ⟨rfl, rfl, rfl, rfl, trivial⟩
        · have hk0 : k = 0 := by omega
          subst hk0
          iterate 6 refine DL.no rfl (.no rfl rfl rfl rfl) rfl rfl ?_
          refine DL.lno rfl (.no rfl rfl rfl rfl) rfl rfl ?_
          refine DL.no rfl (.no rfl rfl rfl rfl) rfl rfl ?_
          refine DL.qf rfl (.yes rfl rfl rfl) rfl rfl (Yld.pure rfl) ?_
          refine DL.p rfl rfl rfl ?_
          refine DL.done ?_
          refine RK.condF rfl ?_
          refine RK.skip ?_
          refine RK.inBlock ?_
          refine RK.region ?_
          refine RL.p rfl rfl ?_
          refine RL.re (d := 32) rfl rfl (succ_i64 (by omega)) ?_
          refine RL.p rfl rfl ?_
          refine RL.done ?_
          exact RK.back (ih (0 + 1) _ ⟨hg5.trans ((Mod.drew No _).trans hg6), by omega, fun i hi => by by_cases e : i = 0; (subst e; rw [okM_0 hx]; exact hix); omega⟩ (by omega)) ⟨rfl, rfl, rfl, rfl, trivial⟩
    · refine RK.exit rfl ?_
      refine RK.seq ?_
      refine RK.region ?_
      refine RL.p rfl rfl ?_
      refine RL.done ?_
      refine RK.ret_of Tryz.func95 (res1 rfl rfl) ?_ _
      exact ⟨_, rfl, by rw [listM_yes (by omega) (fun i hi => hall i (by omega))], hg⟩
end Go.Proofs.YtbcbfjnlnmhpbaaGreat
set_option linter.unusedVariables false
set_option linter.unusedSimpArgs false
namespace Go.X
open Go Go.RowKit
section
variable {P : Program} {n : Nat} {e : Env} {w : World}
theorem run_copyS (w : World) (dT sT ty elem : TypeId) (sz g o dLen dCap : Nat) (a : Addr) (sLen sCap : Nat) (cur : Array Value) (t : TypeId) (cs : List Value) (m : Nat)
    (hu : P.underlying dT = some (.slice elem)) (hs : (P.info? elem).map (·.size) = some sz)
    (hg : w.heap[g]? = some (.cells cur t (0, 0))) (hm : m = Nat.min sLen dLen) (hn : cs.length = m * sz)
    (hsrc : ∀ j v, cs[j]? = some v → w.cell? (a.add j) = some v) (hfit : o + cs.length ≤ cur.size) (h1 : ∀ v ∈ cs, v.oneCell' = true) :
    (Builtin.copy_ #[dT, sT] ty #[.slice (some ⟨g, o, none⟩) dLen dCap, .slice (some a) sLen sCap]).run P w =
      .ok (goInt m) (w.setRow g (cur.toList.take o ++ cs ++ cur.toList.drop (o + cs.length)).toArray) := by
  have hl := run_loadCells_list (P := P) w a cs hsrc
  have hst := run_storeCells_at P g o t cs 0 cur w hg (by simpa using hfit) h1
  cases hq : P.info? elem with
  | none => simp [hq] at hs
  | some i =>
    have hi : i.size = sz := by simpa [hq] using hs
    rw [hn] at hl
    subst hm
    simp [Builtin.copy_, run_underlying hu, Builtin.lenOf, Builtin.firstCells, sizeOf, typeInfo, hq, hi, hl, hst]
theorem Does.appendZG {d : Option Tmp} {t it el : Nat} {s x : Operand} {ty : TypeId} {pos : String} {af : Array Edge} {g : Option (Nat × Bool)} {ik : IntKind} (ht : SlT P t el) (hi : P.underlying it = some (.int ik)) {z : Value} {sz by' : Nat} (hT : TI P el z sz by') (hz : z.cells.size = sz) (hsz : Nat.ble 1 sz = true) (hb' : Nat.ble 1 by' = true)
    {b k m c : Nat} {olds : List Value} (hs : ev e s = some (.slice (some ⟨b, 0, none⟩) k c)) (hx : ev e x = some (.int .i64 (m : Int))) (ho : Sl No w (.slice (some ⟨b, 0, none⟩) k c) sz k olds) (hm : 0 < m) (hc : c < k + m) (hb : (k + m) * by' ≤ 140737488355328) :
    Does P n e w ⟨d, .call { callee := .builtin .append, args := #[s, x], argTypes := #[t, it] }, ty, pos, af, g⟩
      (fun v w' => ∃ cap zs, v = .slice (some ⟨w.heap.size, 0, none⟩) (k + m) cap ∧ New w.drew w' w.heap.size el (olds ++ zs) ∧ k + m ≤ cap ∧ cap ≤ maxLen ∧ zs.length = (cap - k) * sz ∧ Grow w w') := by
  obtain ⟨i, hi', hz', hs', hby'⟩ := hT.out
  have hby : 1 ≤ by' := by simpa using hb'
  have hkb : k + m ≤ 140737488355328 := Nat.le_trans (Nat.le_mul_of_pos_right _ hby) hb
  have hw : IntKind.i64.wrap (m : Int) = m := wrap_i64 (by omega) (by omega)
  have hge := grownCap_ge w (k + m) c el
  have hle := grownCap_le_maxLen w (k + m) c el (by simp only [maxLen]; omega)
  have hln : olds.length = k * sz := ho.len
  have hold : (Builtin.firstCells i.size k (.slice (some ⟨b, 0, none⟩) k c)).run P w.drew = .ok olds.toArray w.drew := by
    have hsrc : ∀ j v, olds[j]? = some v → w.drew.cell? ((⟨b, 0, none⟩ : Addr).add j) = some v := fun j v hj => by
      obtain ⟨ad, c', e1, hf⟩ := ho.form
      rcases Nat.eq_zero_or_pos k with h0 | h0
      · have := (List.getElem?_eq_some_iff.1 hj).1; rw [hln, h0] at this; omega
      · obtain ⟨b', o', e2, _, h3⟩ := hf h0
        cases e1
        cases e2
        rw [add_none]; exact h3 j v hj
    have := run_loadCells_list (P := P) w.drew ⟨b, 0, none⟩ olds hsrc
    rw [hln] at this
    simpa [Builtin.firstCells, hs'] using this
  have n1 : ¬ ((m : Int) < 0) := by omega
  have n2 : ¬ (281474976710656 < (m : Int) * (by' : Int)) := by
    have h1 : m * by' ≤ (k + m) * by' := Nat.mul_le_mul_right _ (by omega)
    obtain ⟨q, hq⟩ : ∃ q, q = m * by' := ⟨_, rfl⟩
    have e1 : (q : Int) = (m : Int) * (by' : Int) := by rw [hq]; exact Int.natCast_mul m by'
    rw [← hq] at h1
    rw [← e1]
    omega
  have n3 : ¬ (k + m ≤ c) := by omega
  have n4 : ¬ (9223372036854775807 < ((k : Int) + (m : Int))) := by omega
  have n5 : ¬ (281474976710656 < Builtin.nextslicecap (k + m) c * by') := by have := growslice_fits hc hb; omega
  have n6 : m ≠ 0 := by omega
  have n7 : sz ≠ 0 := by have : 1 ≤ sz := by simpa using hsz
                         omega
  have hq : (olds.toArray ++ Builtin.zeroCells z.cells m ++ Builtin.zeroCells z.cells (grownCap w (k + m) c el - (k + m))) = (olds ++ (Builtin.zeroCells z.cells m ++ Builtin.zeroCells z.cells (grownCap w (k + m) c el - (k + m))).toList).toArray := by
    apply Array.ext'
    simp only [Array.toList_append, List.append_assoc]
  refine Does.of_run (v := .slice (some ⟨w.heap.size, 0, none⟩) (k + m) (grownCap w (k + m) c el)) (w' := w.drew.alloc (.cells (olds.toArray ++ Builtin.zeroCells z.cells m ++ Builtin.zeroCells z.cells (grownCap w (k + m) c el - (k + m))) el)) (fun a ha => ?_)
    ⟨_, (Builtin.zeroCells z.cells m ++ Builtin.zeroCells z.cells (grownCap w (k + m) c el - (k + m))).toList, rfl, ?_, hge, hle, ?_, (Mod.drew No w).trans (Mod.alloc No w.drew _)⟩
  · have hold' : (Builtin.firstCells sz k (.slice (some ⟨b, 0, none⟩) k c)).run P w.drew = .ok olds.toArray w.drew := by rw [← hs']; exact hold
    simp [execOp, resolve, invoke, builtin, ha.ev hs, ha.ev hx, Builtin.append_, run_underlying ht, run_underlying hi, sizeOf, typeInfo, hi', hs', hby', hz', zeroValue, asInt, asIntOf, hw, n1, n2, n3, n4, n5, n6, n7, Question.forced, newRow, hold']
    rw [if_neg (Nat.mul_ne_zero n6 n7)]
    rfl
  · rw [hq]; exact New.of w.drew el _
  · simp only [Array.toList_append, List.length_append, Array.length_toList, size_zeroCells, hz]
    rw [← Nat.add_mul]
    congr 1
    omega
theorem Does.overlapsNo {d : Option Tmp} {gf : FuncId} {args : Array Operand} {ats : Array TypeId} {ty : TypeId} {pos : String} {af : Array Edge} {g' : Option (Nat × Bool)} {t tb el : Nat} (ht : SlT P t el) {z : Value} {sz by' : Nat} (hT : TI P el z sz by')
    (hx : ∀ (vs : Array Value) (w : World), (callFunc gf vs).run P w = ((Extern.SlicesOverlaps.overlaps #[t, t] #[tb] vs).run P w).andThen fun v w' => .ok (.value v) w')
    {a b oa la ca lb cb Ta Tb : Nat} {ad : Addr} {csa csb : List Value} (hv : evs e args.toList = some [.slice (some ⟨a, oa, none⟩) la ca, .slice (some ad) lb cb]) (had : ad.block = b) (ha : Blk w a Ta csa) (hb : Blk w b Tb csb) (hne : a ≠ b) (hn : csb ≠ []) :
    Does P n e w ⟨d, .call { callee := .value (.func gf), args := args, argTypes := ats }, ty, pos, af, g'⟩ (fun v w' => v = .bool false ∧ w = w') := by
  refine Does.of_run (v := .bool false) (w' := w) (fun ac hf => ?_) ⟨rfl, rfl⟩
  have h1 := hf.evs hv
  have : args.map ac.eval = #[.slice (some ⟨a, oa, none⟩) la ca, .slice (some ad) lb cb] := by rw [← Array.toList_inj, Array.toList_map, h1]
  have hl : csb.length ≠ 0 := fun h => hn (List.eq_nil_of_length_eq_zero h)
  subst had
  unfold Blk at ha hb
  have hr := Go.Lib.run_overlaps_apart (P := P) w t tb el ht sz (fun w => hT.sizeOf w) ⟨a, oa, none⟩ ad la ca lb cb hne Ta Tb csa.length csb.length (by simp [World.shape?, ha]) (by simp [World.shape?, hb]) hl (by simp [World.frozen?, ha]) (by simp [World.frozen?, ha])
  simp [execOp, resolve, this, Act.eval, Deferred.ofValue, invoke, hx, hr, Result.andThen]
theorem Does.copyG {d : Option Tmp} {t t2 el : Nat} {x y : Operand} {ty : TypeId} {pos : String} {af : Array Edge} {g' : Option (Nat × Bool)} (ht : SlT P t el) {z : Value} {sz by' : Nat} (hT : TI P el z sz by') {g lo cap dl dc m L T : Nat} {u : Value} {cs all : List Value}
    (hx : ev e x = some (.slice (fromAt (some ⟨g, 0, none⟩) cap lo sz) dl dc)) (hy : ev e y = some u) (hb : Blk w g T cs) (hl : cs.length = cap * sz) (hu : Sl No w u sz L all) (hm0 : 0 < m) (hm : m = min L dl) (hroom : lo + m ≤ cap) (h1 : (all.take (m * sz)).all (·.oneCell') = true) :
    Does P n e w ⟨d, .call { callee := .builtin .copy, args := #[x, y], argTypes := #[t, t2] }, ty, pos, af, g'⟩
      (fun _ w' => Blk w' g T (cs.take (lo * sz) ++ all.take (m * sz) ++ cs.drop ((lo + m) * sz)) ∧ Mod (· = g) w w' ∧ w'.heap.size = w.heap.size) := by
  obtain ⟨q, hi, hz, hs', hby⟩ := hT.out
  obtain ⟨ad, c, rfl, hf⟩ := hu.form
  have hmL : m ≤ L := by omega
  have hln : (all.take (m * sz)).length = m * sz := by
    rw [List.length_take, hu.len]
    exact Nat.min_eq_left (Nat.mul_le_mul_right _ hmL)
  have hs1 : (P.info? el).map (·.size) = some sz := by rw [hi]; simp [hs']
  obtain ⟨g1, g2, g3⟩ := hb.setRow (cs' := cs.take (lo * sz) ++ all.take (m * sz) ++ cs.drop (lo * sz + m * sz))
  obtain ⟨b, o', rfl, _, h3⟩ := hf (by omega)
  have hsrc : ∀ j v, (all.take (m * sz))[j]? = some v → w.cell? ((⟨b, o', none⟩ : Addr).add j) = some v := fun j v hj => by
    rw [add_none]
    rw [List.getElem?_take] at hj
    split at hj
    · exact h3 j v hj
    · cases hj
  have hne : ¬ cap = lo := by omega
  have hfr : fromAt (some ⟨g, 0, none⟩) cap lo sz = some ⟨g, lo * sz, none⟩ := by simp [fromAt, hne, add_none]
  rw [hfr] at hx
  have hfit : lo * sz + (all.take (m * sz)).length ≤ cs.length := by
    rw [hln, hl, ← Nat.add_mul]
    exact Nat.mul_le_mul_right _ hroom
  have hr := run_copyS (P := P) w t t2 ty el sz g (lo * sz) dl dc ⟨b, o', none⟩ L c cs.toArray T (all.take (m * sz)) m ht hs1 hb hm hln hsrc (by simpa using hfit) (List.all_eq_true.1 h1)
  rw [hln] at hr
  refine Does.of_run (w' := w.setRow g (cs.take (lo * sz) ++ all.take (m * sz) ++ cs.drop (lo * sz + m * sz)).toArray) (v := .int .i64 (m : Int)) (fun a ha => ?_) ⟨by rw [Nat.add_mul]; exact g1, g2, g3⟩
  have hr2 : (Builtin.copy_ #[t, t2] ty #[.slice (some ⟨g, lo * sz, none⟩) dl dc, .slice (some ⟨b, o', none⟩) L c]).run P w = .ok (.int .i64 (m : Int)) (w.setRow g (cs.take (lo * sz) ++ all.take (m * sz) ++ cs.drop (lo * sz + m * sz)).toArray) := hr
  simp [execOp, resolve, invoke, builtin, ha.ev hx, ha.ev hy, hr2]
theorem Yld.max2k {C : World → Prop} {d : Option Tmp} {t : Array TypeId} {x y : Operand} {ty : TypeId} {pos : String} {af : Array Edge} {g : Option (Nat × Bool)} {k : IntKind} {p q : Int} (hx : ev e x = some (.int k p)) (hy : ev e y = some (.int k q)) :
    Yld P n C e ⟨d, .call { callee := .builtin .max, args := #[x, y], argTypes := t }, ty, pos, af, g⟩ (.int k (if q > p then q else p)) := by
  intro a ha w _
  simp [execOp, resolve, invoke, builtin, ha.ev hx, ha.ev hy, Builtin.max_, Builtin.max2]
theorem Yld.min2k {C : World → Prop} {d : Option Tmp} {t : Array TypeId} {x y : Operand} {ty : TypeId} {pos : String} {af : Array Edge} {g : Option (Nat × Bool)} {k : IntKind} {p q : Int} (hx : ev e x = some (.int k p)) (hy : ev e y = some (.int k q)) :
    Yld P n C e ⟨d, .call { callee := .builtin .min, args := #[x, y], argTypes := t }, ty, pos, af, g⟩ (.int k (if q < p then q else p)) := by
  intro a ha w _
  simp [execOp, resolve, invoke, builtin, ha.ev hx, ha.ev hy, Builtin.min_, Builtin.min2]
end
end Go.X
set_option linter.unusedVariables false
set_option linter.unusedSimpArgs false
set_option maxHeartbeats 800000
set_option maxRecDepth 100000
namespace Go.Proofs.YtbcbfjnlnmhpbaaGreat
open Go Go.X
structure En where
  due : Int
  id : Int
deriving DecidableEq
def enC (e : En) : List Value := [.int .u64 e.due, .int .i64 e.id]
theorem enC_len (e : En) : (enC e).length = 2 := rfl
def ltE (x y : En) : Prop := x.due < y.due ∨ (x.due = y.due ∧ x.id < y.id)
instance (x y : En) : Decidable (ltE x y) := inferInstanceAs (Decidable (_ ∨ _))
def cmpE (x y : En) : Int := orS [cmpI x.due y.due, Lib.compareInt x.id y.id]
theorem cmpE_lt (x y : En) : cmpE x y < 0 ↔ ltE x y := by
  unfold cmpE ltE cmpI Lib.compareInt orS orS orS
  by_cases h1 : x.due < y.due
  · simp [h1]
  · by_cases h2 : x.due = y.due
    · by_cases h3 : x.id < y.id
      · simp [h1, h2, h3]
      · by_cases h4 : x.id = y.id
        · simp [h1, h2, h3, h4]
        · have h5 : y.id < x.id := by omega
          simp [h1, h2, h3, h5]
    · have h5 : y.due < x.due := by omega
      simp [h1, h2, h5]
theorem ltE_trans {x y z : En} (h : ltE x y) (h' : ltE y z) : ltE x z := by unfold ltE at *; omega
theorem ltE_total {x y : En} (h : ¬ ltE x y) : x = y ∨ ltE y x := by
  rcases x with ⟨a, b⟩; rcases y with ⟨c, d⟩
  unfold ltE at *
  simp only [En.mk.injEq] at *
  omega
theorem compareE_ok (x y : En) (w : World) : Fx Tryz.prog 136 [.agg (enC x).toArray, .agg (enC y).toArray] w (fun u w' => u = .int .i64 (cmpE x y) ∧ Grow w w') := by
  refine enter Tryz.func136 rfl rfl rfl _ (Pick.sub (l := [0, 1]) (.cons rfl (.cons rfl .nil))) ?_
  refine RK.seq ?_
  refine RK.region ?_
  refine RL.op (.free rfl) rfl rfl (Does.box rfl) ?_
  rintro _ w1 ⟨b1, rfl, hn1⟩
  refine RL.op (.free rfl) rfl rfl (Does.box rfl) ?_
  rintro _ w2 ⟨b2, rfl, hn2⟩
  have hB1 : Blk w2 b1 164 [.int .u64 x.due, .int .i64 x.id] := hn1.blk.mod hn2.grow (fun h => h)
  have hB2 : Blk w2 b2 164 [.int .u64 y.due, .int .i64 y.id] := hn2.blk
  have hg2 := hn1.grow.trans hn2.grow
  refine RL.p rfl rfl ?_
  refine RL.done ?_
  refine RK.seq ?_
  refine RK.drawM No [(0, false), (1, false), (2, false), (3, false), (5, false), (6, false), (7, false), (8, false), (4, true), (9, true), (10, true), (11, true), (12, false)] [] mixed (by kernel_rfl) ?_
  refine DL.qf rfl (.free rfl) rfl rfl (Yld.fieldAddr fo164_0 rfl) ?_
  refine DL.q rfl (.free rfl) rfl rfl rfl (Yld.load p22 rfl (atM (hB1.cell rfl) (fun h => h))) (Mod.drew _ _) ?_
  refine DL.qf rfl (.free rfl) rfl rfl (Yld.fieldAddr fo164_0 rfl) ?_
  refine DL.q rfl (.free rfl) rfl rfl rfl (Yld.load p22 rfl (atM (hB2.cell rfl) (fun h => h))) (Mod.drew _ _) ?_
  refine DL.qf rfl (.free rfl) rfl rfl (Yld.fieldAddr fo164_1 rfl) ?_
  refine DL.q rfl (.free rfl) rfl rfl rfl (Yld.load p3 rfl (atM (hB1.cell rfl) (fun h => h))) (Mod.drew _ _) ?_
  refine DL.qf rfl (.free rfl) rfl rfl (Yld.fieldAddr fo164_1 rfl) ?_
  refine DL.q rfl (.free rfl) rfl rfl rfl (Yld.load p3 rfl (atM (hB2.cell rfl) (fun h => h))) (Mod.drew _ _) ?_
  refine DL.op rfl (.free rfl) rfl rfl (Does.call rfl e164 (compare_ok _ _ _)) ?_
  rintro _ _ ⟨rfl, rfl⟩
  refine ⟨Mod.drew _ _, ?_⟩
  refine DL.op rfl (.free rfl) rfl rfl (Does.call rfl e106 (cmpInt_ok _ _ _)) ?_
  rintro _ _ ⟨rfl, rfl⟩
  refine ⟨Mod.drew _ _, ?_⟩
  refine DL.op rfl (.free rfl) rfl rfl (Does.bslice (el := 3) ([.int .i64 (cmpI x.due y.due), .int .i64 (Lib.compareInt x.id y.id)]) rfl (fun w => by kernel_rfl)) ?_
  rintro _ w3 ⟨b3, rfl, hn3⟩
  refine ⟨(Mod.drew _ _).trans hn3.grow, ?_⟩
  refine DL.op rfl (.free rfl) rfl rfl (Does.call rfl e160 (orI_ok No [_, _] _ _ (Sl.new hn3 1 2 rfl (by omega) (fun h => h)))) ?_
  rintro _ _ ⟨rfl, rfl⟩
  refine ⟨(Mod.drew _ _).trans hn3.grow, ?_⟩
  refine DL.p rfl rfl rfl ?_
  refine DL.done ?_
  refine RK.ret_of Tryz.func136 (res1 rfl rfl) ?_ _
  exact ⟨_, rfl, rfl, hg2.trans ((Mod.drew _ _).trans hn3.grow)⟩
def SortE (q : List En) : Prop := q.Pairwise ltE
theorem bsE_ok (q : List En) (e : En) (v : Value) (w : World) (hv : Sl No w v 2 q.length (q.flatMap enC)) (hs : SortE q) (hb : q.length ≤ 1000000) :
    Fx Tryz.prog 135 [v, .agg (enC e).toArray, .func (.func 136) #[] #[]] w (fun u w' => (∃ (i : Nat) (b : Bool), i ≤ q.length ∧ (∀ t a, t < i → q[t]? = some a → ltE a e) ∧ (∀ t a, i ≤ t → q[t]? = some a → ¬ ltE a e) ∧ u = .tuple #[.int .i64 i, .bool b]) ∧ Grow w w') := by
  obtain ⟨ad, c, rfl⟩ := hv.shape
  have hris : ∀ (t t' : Nat) (a a' : En), t < t' → q[t]? = some a → q[t']? = some a' → ltE a a' := fun t t' a a' h h1 h2 => by
    have h3 := (List.getElem?_eq_some_iff.1 h1).1
    have h4 := (List.getElem?_eq_some_iff.1 h2).1
    have := List.pairwise_iff_getElem.1 hs t t' h3 h4 h
    rw [(List.getElem?_eq_some_iff.1 h1).2, (List.getElem?_eq_some_iff.1 h2).2] at this
    exact this
  refine enter Tryz.func135 rfl rfl rfl _ (Pick.sub (l := [0, 1, 2]) (.cons rfl (.cons rfl (.cons rfl .nil)))) ?_
  refine RK.seq ?_
  refine RK.region ?_
  refine RL.op (.free rfl) rfl rfl (Does.box rfl) ?_
  rintro _ w0 ⟨b0, rfl, hn0⟩
  iterate 2 refine RL.p rfl rfl ?_
  refine RL.done ?_
  refine RK.seq ?_
  refine RK.region ?_
  refine RL.p rfl rfl ?_
  refine RL.q (.free rfl) rfl rfl (Yld.lenSl u153 rfl) ?_
  refine RL.p rfl rfl ?_
  refine RL.done ?_
  refine RK.seq ?_
  refine RK.region ?_
  iterate 3 refine RL.p rfl rfl ?_
  refine RL.done ?_
  refine RK.seq ?_
  refine RK.block ?_
  refine RK.loop (fun s : Nat × Nat => [(0, .slice ad q.length c), (4, pp b0), (2, .func (.func 136) #[] #[]), (8, .int .i64 q.length), (9, .int .i64 (s.1 : Int)), (10, .int .i64 (s.2 : Int))]) (fun s w' => Grow w0 w' ∧ s.1 ≤ s.2 ∧ s.2 ≤ q.length ∧ (∀ t a, t < s.1 → q[t]? = some a → ltE a e) ∧ (∀ t a, s.2 ≤ t → q[t]? = some a → ¬ ltE a e)) (fun s => s.2 - s.1) (0, q.length) ⟨rfl, rfl, rfl, rfl, rfl, rfl, trivial⟩ ⟨Mod.refl _ _, by simp, by simp, fun t a h => by simp only at h; omega, fun t a h h1 => by have := (List.getElem?_eq_some_iff.1 h1).1; simp only at h; omega⟩ (fun s w' hI ih => ?_)
  obtain ⟨i, j⟩ := s
  obtain ⟨hg, hij, hj, hlo, hhi⟩ := hI
  simp only at hij hj hlo hhi
  iterate 2 refine RK.seq ?_
  refine RK.region ?_
  iterate 3 refine RL.p rfl rfl ?_
  refine RL.done ?_
  first | refine RK.condD rfl (fun h17 => ?_) (fun h17 => ?_) | refine RK.condN rfl (fun h17 => ?_) (fun h17 => ?_) | refine RK.cond rfl (fun h17 => ?_) (fun h17 => ?_)
  · obtain ⟨m, hm⟩ : ∃ m, m = (i + j) >>> 1 := ⟨_, rfl⟩
    have hm2 : m = (i + j) / 2 := by rw [hm, Nat.shiftRight_eq_div_pow]
    obtain ⟨a, ha⟩ : ∃ a, q[m]? = some a := ⟨q[m]'(by omega), List.getElem?_eq_getElem (by omega)⟩
    obtain ⟨b1, o1, c1', he1, _, _, hc1⟩ := hv.elem enC_len ha
    cases he1
    have hgw := hn0.grow.trans hg
    have hB0 := hn0.blk.mod hg (fun h => h)
    refine RK.skip ?_
    refine RK.block ?_
    refine RK.seq ?_
    refine RK.region ?_
    iterate 3 refine RL.p rfl rfl ?_
    refine RL.re (d := 20) rfl rfl (add_i64 (z := ((i + j : Nat) : Int)) (by simp) (by omega) (by omega)) ?_
    refine RL.q (.free rfl) rfl rfl (Yld.convI Tryz.underlying3 Tryz.underlying198 rfl) ?_
    refine RL.re (d := 21) rfl rfl (congrArg (Value.int .u64) (wrap_u64 (x := i + j) (by omega))) ?_
    refine RL.q (.free rfl) rfl rfl (Yld.shr (a := i + j) (s := 1) rfl rfl (by decide)) ?_
    refine RL.q (.free rfl) rfl rfl (Yld.convI Tryz.underlying198 Tryz.underlying3 rfl) ?_
    refine RL.re (d := 23) rfl rfl ((congrArg (Value.int .i64) (wrap_i64 (x := (((i + j) >>> 1 : Nat) : Int)) (by omega) (by rw [← hm]; omega))).trans (by rw [← hm])) ?_
    refine RL.p rfl rfl ?_
    refine RL.done ?_
    refine RK.seq ?_
    refine RK.drawM No [(0, false), (1, false), (2, false), (3, false), (4, false), (5, false), (6, true), (7, false)] [] mixed (by kernel_rfl) ?_
    iterate 3 refine DL.p rfl rfl rfl ?_
    refine DL.qf rfl (.free rfl) rfl rfl (Yld.indexAddrN u153 i164 rfl rfl (by omega)) ?_
    refine DL.q rfl (.free rfl) rfl rfl rfl (Yld.loadN (cs := enC a) a164 rfl (atNM (fun q u hq => hgw.cell (hc1 q u hq) (fun h => h)) (fun h => h))) (Mod.drew _ _) ?_
    refine DL.q rfl (.free rfl) rfl rfl rfl (Yld.loadN (cs := enC e) a164 rfl (atNM (blk0' hB0) (fun h => h))) (Mod.drew _ _) ?_
    refine DL.op rfl (.free rfl) rfl rfl (Does.callv rfl rfl e136 (compareE_ok a e _)) ?_
    rintro _ w2 ⟨rfl, hg2'⟩
    have hg2 := (Mod.drew No w').trans hg2'
    refine ⟨hg2, ?_⟩
    refine DL.p rfl rfl rfl ?_
    refine DL.done ?_
    first | refine RK.condD rfl (fun h31 => ?_) (fun h31 => ?_) | refine RK.condN rfl (fun h31 => ?_) (fun h31 => ?_) | refine RK.cond rfl (fun h31 => ?_) (fun h31 => ?_)
    · have hlt := (cmpE_lt _ _).1 h31
      refine RK.region ?_
      iterate 2 refine RL.p rfl rfl ?_
      refine RL.re (d := 33) rfl rfl (succ_i64 (by omega)) ?_
      refine RL.p rfl rfl ?_
      refine RL.done ?_
      refine RK.inBlock ?_
      exact RK.back (ih (m + 1, j) _ ⟨hg.trans hg2, by simp only; omega, hj, fun t a' ht hta => by simp only at ht; by_cases e : t = m; (subst e; rw [ha] at hta; cases hta; exact hlt); exact ltE_trans (hris t m a' a (by omega) hta ha) hlt, hhi⟩ (by simp only; omega)) ⟨rfl, rfl, rfl, rfl, rfl, rfl, trivial⟩
    · have hge : ¬ ltE a e := fun h => h31 ((cmpE_lt _ _).2 h)
      refine RK.region ?_
      iterate 2 refine RL.p rfl rfl ?_
      refine RL.done ?_
      refine RK.inBlock ?_
      exact RK.back (ih (i, m) _ ⟨hg.trans hg2, by simp only; omega, by simp only; omega, hlo, fun t a' ht hta => by simp only at ht; by_cases e : t = m; (subst e; rw [ha] at hta; cases hta; exact hge); exact fun hl => hge (ltE_trans (hris m t a a' (by omega) ha hta) hl)⟩ (by simp only; omega)) ⟨rfl, rfl, rfl, rfl, rfl, rfl, trivial⟩
  · have hije : i = j := by omega
    refine RK.exit rfl ?_
    refine RK.seq ?_
    refine RK.drawM No [(0, false), (1, false), (2, false), (3, false), (4, false), (5, false), (6, false), (7, false), (8, false), (9, false), (10, false), (11, true), (12, false), (13, false), (14, false), (15, false)] [] mixed (by kernel_rfl) ?_
    iterate 5 refine DL.p rfl rfl rfl ?_
    first | refine DL.splitD (d := 39) rfl rfl (fun h39 => ?_) (fun h39 => ?_) | refine DL.splitN (d := 39) rfl rfl (fun h39 => ?_) (fun h39 => ?_) | refine DL.split (d := 39) rfl rfl (fun h39 => ?_) (fun h39 => ?_)
    · obtain ⟨a, ha⟩ : ∃ a, q[i]? = some a := ⟨q[i]'(by omega), List.getElem?_eq_getElem (by omega)⟩
      obtain ⟨b1, o1, c1', he1, _, _, hc1⟩ := hv.elem enC_len ha
      cases he1
      have hgw := hn0.grow.trans hg
      have hB0 := hn0.blk.mod hg (fun h => h)
      iterate 3 refine DL.qf rfl (.yes rfl rfl rfl) rfl rfl (Yld.pure rfl) ?_
      refine DL.qf rfl (.yes rfl rfl rfl) rfl rfl (Yld.indexAddrN u153 i164 rfl rfl (by omega)) ?_
      refine DL.q rfl (.yes rfl rfl rfl) rfl rfl rfl (Yld.loadN (cs := enC a) a164 rfl (atNM (fun q u hq => hgw.cell (hc1 q u hq) (fun h => h)) (fun h => h))) (Mod.drew _ _) ?_
      refine DL.q rfl (.yes rfl rfl rfl) rfl rfl rfl (Yld.loadN (cs := enC e) a164 rfl (atNM (blk0' hB0) (fun h => h))) (Mod.drew _ _) ?_
      refine DL.op rfl (.yes rfl rfl rfl) rfl rfl (Does.callv rfl rfl e136 (compareE_ok a e _)) ?_
      rintro _ w2 ⟨rfl, hg2'⟩
      have hg2 := (Mod.drew No w').trans hg2'
      refine ⟨hg2, ?_⟩
      refine DL.qf rfl (.yes rfl rfl rfl) rfl rfl (Yld.pure rfl) ?_
      iterate 3 refine DL.p rfl rfl rfl ?_
      refine DL.done ?_
      refine RK.ret_of Tryz.func135 (res2 rfl rfl rfl) ?_ _
      exact ⟨_, rfl, ⟨i, _, by omega, hlo, by subst hije; exact hhi, rfl⟩, hgw.trans hg2⟩
    · iterate 6 refine DL.no rfl (.no rfl rfl rfl rfl) rfl rfl ?_
      refine DL.lno rfl (.no rfl rfl rfl rfl) rfl rfl ?_
      refine DL.no rfl (.no rfl rfl rfl rfl) rfl rfl ?_
      iterate 3 refine DL.p rfl rfl rfl ?_
      refine DL.done ?_
      refine RK.ret_of Tryz.func135 (res2 rfl rfl rfl) ?_ _
      exact ⟨_, rfl, ⟨i, _, by omega, hlo, by subst hije; exact hhi, rfl⟩, hn0.grow.trans (hg.trans (Mod.drew _ _))⟩
end Go.Proofs.YtbcbfjnlnmhpbaaGreat
set_option linter.unusedVariables false
set_option linter.unusedSimpArgs false
set_option maxHeartbeats 1600000
set_option maxRecDepth 100000
namespace Go.Proofs.YtbcbfjnlnmhpbaaGreat
open Go Go.X
theorem overlapsX (vs : Array Value) (w : World) : (callFunc 165 vs).run Tryz.prog w = ((Extern.SlicesOverlaps.overlaps #[153, 153] #[4] vs).run Tryz.prog w).andThen fun v w' => .ok (.value v) w' :=
  run_callFunc_extern Tryz.func165 (by kernel_rfl) (by kernel_rfl) (by kernel_rfl) (by kernel_rfl) vs w
theorem allOne_en (q : List En) : (q.flatMap enC).all (·.oneCell') = true := by
  rw [List.all_eq_true]
  intro u hu
  obtain ⟨a, _, hu⟩ := List.mem_flatMap.1 hu
  simp only [enC, List.mem_cons, List.not_mem_nil, or_false] at hu
  rcases hu with rfl | rfl <;> rfl
theorem slE {w : World} {b T : Nat} {e : En} (M : Nat → Prop) (h : Blk w b T (enC e)) (hM : ¬ M b) : Sl M w (.slice (some ⟨b, 0, none⟩) 1 1) 2 1 (enC e) :=
  ⟨rfl, by decide, _, _, rfl, fun _ => ⟨b, 0, rfl, hM, fun j u hj => by rw [Nat.zero_add]; exact h.cell' hj⟩⟩
theorem ins_cut {A E S X R : List Value} {a s : Nat} (hA : A.length = a * 2) (hE : E.length = 2) (hS : S.length = s * 2) (hX : X = A ++ R) :
    (X.take (a * 2) ++ E ++ X.drop ((a + 1) * 2)).take ((a + 1) * 2) ++ S = A ++ E ++ S := by
  subst hX
  have e1 : (A ++ R).take (a * 2) = A := by rw [← hA, List.take_left]
  rw [e1, List.take_append_of_le_length (by simp only [List.length_append]; omega), List.take_of_length_le (by simp only [List.length_append]; omega)]
theorem ins_put {A B E S R : List Value} {a s k : Nat} (hA : A.length = a * 2) (hB : B.length = (a + 1) * 2) (hE : E.length = 2) (hS : S.length = s * 2) (hAB : B.take (a * 2) = A) (hk : k = a + 1 + s) :
    ((B ++ S ++ R).take (a * 2) ++ E ++ (B ++ S ++ R).drop ((a + 1) * 2)).take (k * 2) = A ++ E ++ S := by
  have e1 : (B ++ S ++ R).take (a * 2) = A := by
    rw [List.append_assoc, List.take_append_of_le_length (by omega)]
    exact hAB
  have e2 : (B ++ S ++ R).drop ((a + 1) * 2) = S ++ R := by
    rw [List.append_assoc, ← hB, List.drop_left]
  rw [e1, e2, ← List.append_assoc, List.take_append_of_le_length (by simp only [List.length_append]; omega), List.take_of_length_le (by simp only [List.length_append]; omega)]
theorem insEnd_ok (q : List En) (e : En) (v : Value) (b2 : Nat) (w : World) (hv : Row w 164 2 v q.length (q.flatMap enC)) (hE : Blk w b2 164 (enC e)) (hb : q.length ≤ 1000000) :
    Fx Tryz.prog 137 [v, .int .i64 (q.length : Int), .slice (some ⟨b2, 0, none⟩) 1 1] w (fun u w' => Row w' 164 2 u (q.length + 1) ((q ++ [e]).flatMap enC) ∧ Mod (fun b => v.ownBlock = some b) w w' ∧ (u.ownBlock = v.ownBlock ∨ u.ownBlock = some w.heap.size)) := by
  obtain ⟨ad, c, rfl⟩ := hv.slice
  refine enter Tryz.func137 rfl rfl rfl _ (Pick.sub (l := [0, 1, 2]) (.cons rfl (.cons rfl (.cons rfl .nil)))) ?_
  refine RK.seq ?_
  refine RK.region ?_
  refine RL.p rfl rfl ?_
  refine RL.done ?_
  refine RK.seq ?_
  refine RK.region ?_
  iterate 2 refine RL.p rfl rfl ?_
  refine RL.q (.free rfl) rfl rfl (Yld.sliceFrom u153 i164 (m := q.length) rfl rfl (Nat.le_refl _)) ?_
  refine RL.done ?_
  refine RK.seq ?_
  refine RK.region ?_
  refine RL.p rfl rfl ?_
  refine RL.q (.free rfl) rfl rfl (Yld.lenSl u153 rfl) ?_
  refine RL.p rfl rfl ?_
  refine RL.done ?_
  iterate 2 refine RK.seq ?_
  refine RK.region ?_
  iterate 2 refine RL.p rfl rfl ?_
  refine RL.done ?_
  refine RK.condF (hcF rfl (rfl)) ?_
  refine RK.skip ?_
  refine RK.seq ?_
  refine RK.region ?_
  refine RL.p rfl rfl ?_
  refine RL.q (.free rfl) rfl rfl (Yld.lenSl u153 rfl) ?_
  refine RL.p rfl rfl ?_
  refine RL.done ?_
  iterate 2 refine RK.seq ?_
  refine RK.region ?_
  iterate 3 refine RL.p rfl rfl ?_
  refine RL.done ?_
  refine RK.condT (hcT rfl (decide_eq_true rfl)) ?_
  refine RK.seq ?_
  refine RK.region ?_
  iterate 2 refine RL.p rfl rfl ?_
  refine RL.op (.free rfl) rfl rfl (Does.append u153 i164 rfl rfl rfl rfl rfl (hv) (slE No hE (fun h => h)) (rfl) (by omega)) ?_
  rintro u3 w3 ⟨hr3, hm3, hu3⟩
  refine RL.p rfl rfl ?_
  refine RL.done ?_
  refine RK.ret_of Tryz.func137 (res1 rfl rfl) ?_ _
  exact ⟨_, rfl, by rw [List.flatMap_append, List.flatMap_singleton]; exact hr3, hm3, hu3⟩
theorem insMid_ok (q : List En) (e : En) (i : Nat) (v : Value) (b2 : Nat) (w : World) (hv : Row w 164 2 v q.length (q.flatMap enC)) (hE : Blk w b2 164 (enC e)) (hne : v.ownBlock ≠ some b2) (hi : i < q.length) (hb : q.length ≤ 1000000) :
    Fx Tryz.prog 137 [v, .int .i64 (i : Int), .slice (some ⟨b2, 0, none⟩) 1 1] w (fun u w' => Row w' 164 2 u (q.length + 1) ((q.take i ++ e :: q.drop i).flatMap enC) ∧ Mod (fun b => v.ownBlock = some b) w w' ∧ (u.ownBlock = v.ownBlock ∨ u.ownBlock = some w.heap.size)) := by
  obtain ⟨gb, cp, cs, rfl, hbk, hl, hkc, hcm, htk⟩ := hv.whole (by omega)
  have hmax : maxLen ≤ 9223372036854775807 := by decide
  have hgb2 : gb ≠ b2 := fun h => hne (by rw [h]; rfl)
  have hb2lt := hE.lt
  have hgblt := hbk.lt
  have hpre : cs.take (i * 2) = (q.take i).flatMap enC := by
    rw [← flat_take enC 2 enC_len, ← htk, List.take_take, Nat.min_eq_left (by omega)]
  have hsuf : (cs.drop (i * 2)).take ((q.length - i) * 2) = (q.drop i).flatMap enC := by
    rw [← flat_drop enC 2 enC_len, ← htk, List.drop_take]
    congr 1
    omega
  have hall : (q.take i ++ e :: q.drop i).flatMap enC = cs.take (i * 2) ++ enC e ++ (cs.drop (i * 2)).take ((q.length - i) * 2) := by
    rw [List.flatMap_append, List.flatMap_cons, hpre, hsuf, List.append_assoc]
  have hA : (cs.take (i * 2)).length = i * 2 := by rw [List.length_take, hl]; omega
  have hS : ((cs.drop (i * 2)).take ((q.length - i) * 2)).length = (q.length - i) * 2 := by rw [List.length_take, List.length_drop, hl]; omega
  have hone : ((cs.drop (i * 2)).take ((q.length - i) * 2)).all (·.oneCell') = true := by rw [hsuf]; exact allOne_en _
  have hk1 : i + (q.length + 1 - i) = q.length + 1 := by omega
  refine enter Tryz.func137 rfl rfl rfl _ (Pick.sub (l := [0, 1, 2]) (.cons rfl (.cons rfl (.cons rfl .nil)))) ?_
  refine RK.seq ?_
  refine RK.region ?_
  refine RL.p rfl rfl ?_
  refine RL.done ?_
  refine RK.seq ?_
  refine RK.region ?_
  iterate 2 refine RL.p rfl rfl ?_
  refine RL.q (.free rfl) rfl rfl (Yld.sliceFrom u153 i164 (m := i) rfl rfl (by omega)) ?_
  refine RL.done ?_
  refine RK.seq ?_
  refine RK.region ?_
  refine RL.p rfl rfl ?_
  refine RL.q (.free rfl) rfl rfl (Yld.lenSl u153 rfl) ?_
  refine RL.p rfl rfl ?_
  refine RL.done ?_
  iterate 2 refine RK.seq ?_
  refine RK.region ?_
  iterate 2 refine RL.p rfl rfl ?_
  refine RL.done ?_
  refine RK.condF (hcF rfl (rfl)) ?_
  refine RK.skip ?_
  refine RK.seq ?_
  refine RK.region ?_
  refine RL.p rfl rfl ?_
  refine RL.q (.free rfl) rfl rfl (Yld.lenSl u153 rfl) ?_
  refine RL.p rfl rfl ?_
  refine RL.done ?_
  iterate 2 refine RK.seq ?_
  refine RK.region ?_
  iterate 3 refine RL.p rfl rfl ?_
  refine RL.done ?_
  refine RK.condF (hcF rfl (decide_eq_false (by omega))) ?_
  refine RK.skip ?_
  iterate 2 refine RK.seq ?_
  refine RK.region ?_
  iterate 3 refine RL.p rfl rfl ?_
  refine RL.re (d := 28) rfl rfl (add_i64 (z := ((q.length + 1 : Nat) : Int)) (by simp) (by omega) (by omega)) ?_
  refine RL.p rfl rfl ?_
  refine RL.q (.free rfl) rfl rfl (Yld.capSl u153 rfl) ?_
  refine RL.p rfl rfl ?_
  refine RL.done ?_
  first | refine RK.condD rfl (fun h31 => ?_) (fun h31 => ?_) | refine RK.condN rfl (fun h31 => ?_) (fun h31 => ?_) | refine RK.cond rfl (fun h31 => ?_) (fun h31 => ?_)
  · refine RK.seq ?_
    refine RK.region ?_
    iterate 2 refine RL.p rfl rfl ?_
    refine RL.q (.free rfl) rfl rfl (Yld.sliceHi u153 i164 (m := i) rfl rfl (by omega)) ?_
    iterate 3 refine RL.p rfl rfl ?_
    refine RL.re (d := 37) rfl rfl (add_i64 (z := ((q.length + 1 : Nat) : Int)) (by simp) (by omega) (by omega)) ?_
    iterate 2 refine RL.p rfl rfl ?_
    refine RL.re (d := 39) rfl rfl (sub_i64 (z := ((q.length + 1 - i : Nat) : Int)) (by omega) (by omega) (by omega)) ?_
    refine RL.op (.free rfl) rfl rfl (Does.appendZG u153 Tryz.underlying3 i164 rfl rfl rfl (k := i) (m := q.length + 1 - i) rfl rfl (Sl.own (Row.shut hbk hl (by omega) hcm) (fun _ _ h => h)) (by omega) (by omega) (by omega)) ?_
    rintro _ w2 ⟨cp2, zs, rfl, hn2, hc1, hc2, hzs, hg2⟩
    rw [hk1] at hc1
    have hX1 : (cs.take (i * 2) ++ zs).length = cp2 * 2 := by rw [List.length_append, hA, hzs]; omega
    have hE2 : Blk w2 b2 164 (enC e) := hE.mod hg2 (fun h => h)
    refine RL.p rfl rfl ?_
    refine RL.done ?_
    refine RK.seq ?_
    refine RK.region ?_
    iterate 2 refine RL.p rfl rfl ?_
    refine RL.q (.free rfl) rfl rfl (Yld.sliceFrom u153 i164 (m := i) rfl rfl (by omega)) ?_
    refine RL.p rfl rfl ?_
    refine RL.op (.free rfl) rfl rfl (Does.copyG u153 i164 (lo := i) (cap := cp2) (m := 1) (L := 1) rfl rfl hn2.blk hX1 (slE No hE2 (fun h => h)) (by omega) (by omega) (by omega) rfl) ?_
    rintro _ w3 ⟨hb3, hm3, hs3⟩
    have hsz := hn2.blk.lt
    have hX2 : ((cs.take (i * 2) ++ zs).take (i * 2) ++ (enC e).take (1 * 2) ++ (cs.take (i * 2) ++ zs).drop ((i + 1) * 2)).length = cp2 * 2 := by simp only [List.length_append, List.length_take, List.length_drop, hA, hzs, enC_len]; omega
    refine RL.done ?_
    refine RK.seq ?_
    refine RK.drawM (· = w.heap.size) [(0, false), (1, false), (2, false), (3, false), (4, false), (5, false), (6, false), (7, false), (8, true)] [] mixed (by kernel_rfl) ?_
    iterate 4 refine DL.p rfl rfl rfl ?_
    refine DL.re (d := 49) rfl rfl (add_i64 (z := ((i + 1 : Nat) : Int)) (by simp) (by omega) (by omega)) ?_
    refine DL.qf rfl (.free rfl) rfl rfl (Yld.sliceFrom u153 i164 (m := i + 1) rfl rfl (by omega)) ?_
    have hg3 : Mod (· = w.heap.size) w w3 := (Mod.any' hg2).trans hm3
    have hbk3 : Blk w3.drew gb 164 cs := (hbk.mod hg3 (by omega)).mod (Mod.drew No _) (fun h => h)
    iterate 2 refine DL.p rfl rfl rfl ?_
    refine DL.qf rfl (.free rfl) rfl rfl (Yld.sliceFrom u153 i164 (m := i) rfl rfl (by omega)) ?_
    refine DL.op rfl (.free rfl) rfl rfl (Does.copyG u153 i164 (lo := i + 1) (cap := cp2) (m := q.length - i) (L := q.length - i) rfl rfl (hb3.mod (Mod.drew No _) (fun h => h)) hX2 (Sl.ofBlk hbk3 hl (by omega) (fun h => h) (by omega)) (by omega) (by omega) (by omega) (by rw [List.take_take, Nat.min_self]; exact hone)) ?_
    rintro _ w4 ⟨hb4, hm4, hs4⟩
    refine ⟨(Mod.drew _ _).trans hm4, ?_⟩
    refine DL.done ?_
    refine RK.seq ?_
    refine RK.region ?_
    iterate 2 refine RL.p rfl rfl ?_
    refine RL.done ?_
    refine RK.ret_of Tryz.func137 (res1 rfl rfl) ?_ _
    exact ⟨_, rfl, by
        have hR := Row.shut hb4 (sz := 2) (cap := cp2) (k := q.length + 1) (by simp only [List.length_append, List.length_take, List.length_drop, hA, hzs, enC_len, hS, hl]; omega) (by omega) hc2
        have hcut := ins_cut (A := cs.take (i * 2)) (E := (enC e).take (1 * 2)) (S := ((cs.drop (i * 2)).take ((q.length - i) * 2)).take ((q.length - i) * 2)) (X := cs.take (i * 2) ++ zs) (R := zs) (a := i) (s := q.length - i) hA rfl (by rw [List.take_take, Nat.min_self]; exact hS) rfl
        rw [hcut, List.take_append_of_le_length (by simp only [List.length_append, List.length_take, List.length_drop, hA, enC_len, hS, hl]; omega), List.take_of_length_le (by simp only [List.length_append, List.length_take, List.length_drop, hA, enC_len, hS, hl]; omega), List.take_take, Nat.min_self] at hR
        rw [hk1, hall]
        exact hR, ((hg3.trans (Mod.drew _ _)).trans hm4).mono (fun b hb e => absurd e (Nat.ne_of_lt hb)), .inr rfl⟩
  · have hcn : q.length + 1 ≤ cp := by omega
    refine RK.skip ?_
    refine RK.seq ?_
    refine RK.region ?_
    iterate 4 refine RL.p rfl rfl ?_
    refine RL.re (d := 59) rfl rfl (add_i64 (z := ((q.length + 1 : Nat) : Int)) (by simp) (by omega) (by omega)) ?_
    refine RL.q (.free rfl) rfl rfl (Yld.sliceHi u153 i164 (m := q.length + 1) rfl rfl (by omega)) ?_
    refine RL.p rfl rfl ?_
    refine RL.done ?_
    iterate 2 refine RK.seq ?_
    refine RK.region ?_
    iterate 5 refine RL.p rfl rfl ?_
    refine RL.re (d := 65) rfl rfl (add_i64 (z := ((i + 1 : Nat) : Int)) (by simp) (by omega) (by omega)) ?_
    refine RL.q (.free rfl) rfl rfl (Yld.sliceFrom u153 i164 (m := i + 1) rfl rfl (by omega)) ?_
    refine RL.op (.free rfl) rfl rfl (Does.overlapsNo u153 i164 overlapsX rfl (by split <;> rfl) hE hbk (fun h => hgb2 h.symm) (fun h => by rw [h] at hl; simp at hl; omega)) ?_
    rintro _ _ ⟨rfl, rfl⟩
    refine RL.p rfl rfl ?_
    refine RL.done ?_
    refine RK.condT (hcT rfl (rfl)) ?_
    refine RK.seq ?_
    refine RK.drawM (· = gb) [(0, false), (1, false), (2, false), (3, false), (4, false), (5, false), (6, false), (7, false), (8, true)] [] mixed (by kernel_rfl) ?_
    iterate 4 refine DL.p rfl rfl rfl ?_
    refine DL.re (d := 72) rfl rfl (add_i64 (z := ((i + 1 : Nat) : Int)) (by simp) (by omega) (by omega)) ?_
    refine DL.qf rfl (.free rfl) rfl rfl (Yld.sliceFrom u153 i164 (m := i + 1) rfl rfl (by omega)) ?_
    have hbkd : Blk w.drew gb 164 cs := hbk.mod (Mod.drew No _) (fun h => h)
    have htt : ((cs.drop (i * 2)).take ((q.length + 1 - i) * 2)).take ((q.length - i) * 2) = (cs.drop (i * 2)).take ((q.length - i) * 2) := by rw [List.take_take]; congr 1; omega
    iterate 2 refine DL.p rfl rfl rfl ?_
    refine DL.qf rfl (.free rfl) rfl rfl (Yld.sliceFrom u153 i164 (m := i) rfl rfl (by omega)) ?_
    refine DL.op rfl (.free rfl) rfl rfl (Does.copyG u153 i164 (lo := i + 1) (cap := cp) (m := q.length - i) (L := q.length + 1 - i) rfl rfl hbkd hl (Sl.ofBlk hbkd hl (by omega) (fun h => h) (by omega)) (by omega) (by omega) (by omega) (by rw [htt]; exact hone)) ?_
    rintro _ w4 ⟨hb4, hm4, hs4⟩
    refine ⟨(Mod.drew _ _).trans hm4, ?_⟩
    rw [htt] at hb4
    have hm04 : Mod (· = gb) w w4 := (Mod.drew _ _).trans hm4
    have hE4 : Blk w4 b2 164 (enC e) := hE.mod hm04 (fun h => hgb2 h.symm)
    have hB : (cs.take ((i + 1) * 2)).length = (i + 1) * 2 := by rw [List.length_take, hl]; omega
    have hX4 : (cs.take ((i + 1) * 2) ++ (cs.drop (i * 2)).take ((q.length - i) * 2) ++ cs.drop ((i + 1 + (q.length - i)) * 2)).length = cp * 2 := by simp only [List.length_append, hS, hB, List.length_drop, hl]; omega
    refine DL.done ?_
    refine RK.seq ?_
    refine RK.region ?_
    iterate 2 refine RL.p rfl rfl ?_
    refine RL.q (.free rfl) rfl rfl (Yld.sliceFrom u153 i164 (m := i) rfl rfl (by omega)) ?_
    refine RL.p rfl rfl ?_
    refine RL.op (.free rfl) rfl rfl (Does.copyG u153 i164 (lo := i) (cap := cp) (m := 1) (L := 1) rfl rfl hb4 hX4 (slE No hE4 (fun h => h)) (by omega) (by omega) (by omega) rfl) ?_
    rintro _ w5 ⟨hb5, hm5, hs5⟩
    refine RL.done ?_
    refine RK.seq ?_
    refine RK.region ?_
    iterate 2 refine RL.p rfl rfl ?_
    refine RL.done ?_
    refine RK.ret_of Tryz.func137 (res1 rfl rfl) ?_ _
    exact ⟨_, rfl, by
        have hR := Row.shut hb5 (sz := 2) (cap := cp) (k := q.length + 1) (by simp only [List.length_append, List.length_take, List.length_drop, hS, hB, hA, enC_len, hl]; omega) (by omega) hcm
        have hcut := ins_put (A := cs.take (i * 2)) (B := cs.take ((i + 1) * 2)) (E := enC e) (S := (cs.drop (i * 2)).take ((q.length - i) * 2)) (R := cs.drop ((i + 1 + (q.length - i)) * 2)) (a := i) (s := q.length - i) (k := q.length + 1) hA hB rfl hS (by rw [List.take_take]; congr 1; omega) (by omega)
        rw [show (enC e).take (1 * 2) = enC e from rfl, hcut] at hR
        rw [hall]
        exact hR, (hm04.trans hm5).mono (fun b _ e => by rw [e]; rfl), .inl rfl⟩
end Go.Proofs.YtbcbfjnlnmhpbaaGreat
set_option linter.unusedVariables false
set_option linter.unusedSimpArgs false
set_option maxHeartbeats 1600000
set_option maxRecDepth 100000
namespace Go.Proofs.YtbcbfjnlnmhpbaaGreat
open Go Go.X
theorem insE_ok (q : List En) (e : En) (i : Nat) (v : Value) (b2 : Nat) (w : World) (hv : Row w 164 2 v q.length (q.flatMap enC)) (hE : Blk w b2 164 (enC e)) (hne : v.ownBlock ≠ some b2) (hi : i ≤ q.length) (hb : q.length ≤ 1000000) :
    Fx Tryz.prog 137 [v, .int .i64 (i : Int), .slice (some ⟨b2, 0, none⟩) 1 1] w (fun u w' => Row w' 164 2 u (q.length + 1) ((q.take i ++ e :: q.drop i).flatMap enC) ∧ Mod (fun b => v.ownBlock = some b) w w' ∧ (u.ownBlock = v.ownBlock ∨ u.ownBlock = some w.heap.size)) := by
  by_cases h : i < q.length
  · exact insMid_ok q e i v b2 w hv hE hne h hb
  · obtain rfl : i = q.length := by omega
    have h1 := insEnd_ok q e v b2 w hv hE hb
    rw [List.take_of_length_le (Nat.le_refl _), List.drop_of_length_le (Nat.le_refl _)]
    exact h1
theorem deleteE_ok (q : List En) (i : Nat) (v : Value) (w : World) (hv : Row w 164 2 v q.length (q.flatMap enC)) (hi : i < q.length) (hb : q.length ≤ 1000000) :
    Fx Tryz.prog 107 [v, .int .i64 (i : Int), .int .i64 ((i + 1 : Nat) : Int)] w (fun u w' => Row w' 164 2 u (q.eraseIdx i).length ((q.eraseIdx i).flatMap enC) ∧ u.ownBlock = v.ownBlock ∧ Mod (fun b => v.ownBlock = some b) w w') := by
  obtain ⟨gb, cp, cs, rfl, hbk, hl, hkc, hcm, htk⟩ := hv.whole (by omega)
  have hmax : maxLen ≤ 9223372036854775807 := by decide
  have hnews : (cs.drop ((i + 1) * 2)).take ((q.length - (i + 1)) * 2) = (q.drop (i + 1)).flatMap enC := by
    rw [← flat_drop enC 2 enC_len, ← htk, List.drop_take]
    congr 1
    omega
  have hpre : cs.take (i * 2) = (q.take i).flatMap enC := by
    rw [← flat_take enC 2 enC_len, ← htk, List.take_take, Nat.min_eq_left (by omega)]
  have herase : (q.take i).flatMap enC ++ (q.drop (i + 1)).flatMap enC = (q.eraseIdx i).flatMap enC := by
    rw [List.eraseIdx_eq_take_drop_succ, List.flatMap_append]
  have hlen : (q.eraseIdx i).length = i + (q.length - (i + 1)) := by rw [List.length_eraseIdx]; simp [hi]; omega
  have hone : ((cs.drop ((i + 1) * 2)).take ((q.length - (i + 1)) * 2)).all (·.oneCell') = true := by
    rw [hnews]
    exact allOne_en _
  have hbd : ∀ w', Grow w w' → Blk w' gb 164 cs := fun w' h => hbk.mod h (fun h => h)
  refine enter Tryz.func107 rfl rfl rfl _ (Pick.sub (l := [0, 1, 2]) (.cons rfl (.cons rfl (.cons rfl .nil)))) ?_
  refine RK.seq ?_
  refine RK.region ?_
  refine RL.p rfl rfl ?_
  refine RL.done ?_
  refine RK.seq ?_
  refine RK.region ?_
  iterate 4 refine RL.p rfl rfl ?_
  refine RL.q (.free rfl) rfl rfl (Yld.lenSl u153 rfl) ?_
  refine RL.q (.free rfl) rfl rfl (Yld.slice3 u153 i164 (lo := i) (hi := i + 1) (mx := q.length) rfl rfl rfl rfl (by omega) (by omega) hkc) ?_
  refine RL.done ?_
  iterate 2 refine RK.seq ?_
  refine RK.region ?_
  iterate 3 refine RL.p rfl rfl ?_
  refine RL.done ?_
  refine RK.condF (hcF rfl (decide_eq_false (by omega))) ?_
  refine RK.skip ?_
  refine RK.seq ?_
  refine RK.region ?_
  refine RL.p rfl rfl ?_
  refine RL.q (.free rfl) rfl rfl (Yld.lenSl u153 rfl) ?_
  refine RL.p rfl rfl ?_
  refine RL.done ?_
  refine RK.seq ?_
  refine RK.drawM (· = gb) [(0, false), (1, false), (2, false), (3, false), (4, false), (5, false), (6, true), (7, false)] [] mixed (by kernel_rfl) ?_
  iterate 2 refine DL.p rfl rfl rfl ?_
  refine DL.qf rfl (.free rfl) rfl rfl (Yld.sliceHi u153 i164 (m := i) rfl rfl (by omega)) ?_
  iterate 2 refine DL.p rfl rfl rfl ?_
  refine DL.qf rfl (.free rfl) rfl rfl (Yld.sliceFrom u153 i164 (m := i + 1) rfl rfl (by omega)) ?_
  refine DL.op rfl (.free rfl) rfl rfl (Does.appendIn u153 i164 (m := q.length - (i + 1)) rfl rfl (hbd _ (Mod.drew No _)) hl (Sl.ofBlk (hbd _ (Mod.drew No _)) hl (by omega) (fun h => h) (by omega)) hone (by omega)) ?_
  rintro _ w3 ⟨rfl, ⟨cs3, hb3, hl3, ht3⟩, hm3, hs3⟩
  refine ⟨(Mod.drew _ _).trans hm3, ?_⟩
  refine DL.p rfl rfl rfl ?_
  refine DL.done ?_
  refine RK.seq ?_
  refine RK.region ?_
  iterate 2 refine RL.p rfl rfl ?_
  refine RL.q (.free rfl) rfl rfl (Yld.lenSl u153 rfl) ?_
  refine RL.p rfl rfl ?_
  refine RL.q (.free rfl) rfl rfl (Yld.sliceLH u153 i164 (lo := i + (q.length - (i + 1))) (hi := q.length) rfl rfl rfl (by omega) (by omega)) ?_
  refine RL.op' (.free rfl) rfl (Does.clear u153 i164 (cap := cp) (lo := i + (q.length - (i + 1))) (m := q.length - (i + (q.length - (i + 1)))) rfl (by simp [Value.cells, Value.oneCell']) rfl hb3 (by rw [hl3, hl]) (by omega)) ?_
  rintro _ w4 ⟨⟨cs4, hb4, hl4, ht4⟩, hm4, hs4⟩
  refine RL.done ?_
  refine RK.seq ?_
  refine RK.region ?_
  iterate 2 refine RL.p rfl rfl ?_
  refine RL.done ?_
  refine RK.ret_of Tryz.func107 (res1 rfl rfl) ?_ _
  exact ⟨_, rfl, by
      rw [ht3, hpre, hnews, herase] at ht4
      rw [← ht4, hlen]
      exact Row.shut hb4 (by rw [hl4, hl3, hl]) (by omega) hcm, rfl, (((Mod.drew _ _).trans hm3).trans hm4).mono fun b _ e => congrArg some e.symm⟩
theorem placeE1_ok (w : World) (b : Nat) (id : Int) (hb : Blk w b 3 [.int .i64 id]) (x : En) : Fx Tryz.prog 198 [.agg (enC x).toArray, pp b] w (fun u w' => u = .bool (decide (x.id = id)) ∧ Grow w w') := by
  refine enter Tryz.func198 rfl rfl rfl _ (Pick.sub (l := [0, 1]) (.cons rfl (.cons rfl .nil))) ?_
  refine RK.seq ?_
  refine RK.region ?_
  refine RL.op (.free rfl) rfl rfl (Does.box rfl) ?_
  rintro _ w1 ⟨bx, rfl, hbx⟩
  refine RL.p rfl rfl ?_
  refine RL.done ?_
  refine RK.seq ?_
  refine RK.region ?_
  refine RL.q (.free rfl) rfl rfl (Yld.fieldAddr fo164_1 rfl) ?_
  refine RL.q (.free rfl) rfl rfl (Yld.load p3 rfl (at1 (hbx.blk.cell rfl))) ?_
  refine RL.q (.free rfl) rfl rfl (Yld.load p3 rfl (at1 ((hb.mod hbx.grow (fun h => h)).cell rfl))) ?_
  iterate 2 refine RL.p rfl rfl ?_
  refine RL.done ?_
  refine RK.ret_of Tryz.func198 (res1 rfl rfl) ?_ _
  exact ⟨_, rfl, rfl, hbx.grow⟩
theorem ixE_ok (q : List En) (v : Value) (id : Int) (b4 : Nat) (w : World) (hv : Sl No w v 2 q.length (q.flatMap enC)) (hb : Blk w b4 3 [.int .i64 id]) :
    Fx Tryz.prog 197 [v, .func (.func 198) #[] #[pp b4]] w (fun u w' => u = .int .i64 (optI (q.findIdx? fun x => decide (x.id = id))) ∧ Grow w w') := by
  obtain ⟨ad, c, rfl⟩ := hv.shape
  have hbig := hv.big
  refine enter Tryz.func197 rfl rfl rfl _ (Pick.sub (l := [0, 1]) (.cons rfl (.cons rfl .nil))) ?_
  refine RK.seq ?_
  refine RK.region ?_
  refine RL.p rfl rfl ?_
  refine RL.done ?_
  iterate 2 refine RK.seq ?_
  refine RK.region ?_
  refine RL.p rfl rfl ?_
  refine RL.q (.free rfl) rfl rfl (Yld.lenSl u153 rfl) ?_
  refine RL.p rfl rfl ?_
  refine RL.done ?_
  refine RK.block ?_
  refine RK.loop (fun k : Nat => [(0, .slice ad q.length c), (1, .func (.func 198) #[] #[pp b4]), (7, .int .i64 q.length), (8, .int .i64 k)]) (fun k w' => Grow w w' ∧ k ≤ q.length ∧ ∀ (i : Nat) (a : En), i < k → q[i]? = some a → a.id ≠ id) (fun k => q.length - k) 0 ⟨rfl, rfl, rfl, rfl, trivial⟩ ⟨Mod.refl _ _, by omega, fun i a h => by omega⟩ (fun k w' hI ih => ?_)
  obtain ⟨hg, hk, hno⟩ := hI
  refine RK.seq ?_
  refine RK.region ?_
  refine RL.p rfl rfl ?_
  refine RL.done ?_
  refine RK.seq ?_
  first | refine RK.condD rfl (fun h9 => ?_) (fun h9 => ?_) | refine RK.condN rfl (fun h9 => ?_) (fun h9 => ?_) | refine RK.cond rfl (fun h9 => ?_) (fun h9 => ?_)
  · obtain ⟨x, hx⟩ : ∃ x, q[k]? = some x := ⟨q[k]'(by omega), List.getElem?_eq_getElem (by omega)⟩
    obtain ⟨b1, o1, c1', he1, _, _, hc1⟩ := hv.elem enC_len hx
    cases he1
    refine RK.skip ?_
    refine RK.seq ?_
    refine RK.block ?_
    refine RK.seq ?_
    refine RK.region ?_
    iterate 2 refine RL.p rfl rfl ?_
    refine RL.done ?_
    refine RK.seq ?_
    refine RK.region ?_
    iterate 3 refine RL.p rfl rfl ?_
    refine RL.q (.free rfl) rfl rfl (Yld.indexAddrN u153 i164 rfl rfl (by omega)) ?_
    refine RL.q (.free rfl) rfl rfl (Yld.loadN (cs := enC x) a164 rfl (atN (fun j u hj => hg.cell (hc1 j u hj) (fun h => h)))) ?_
    refine RL.op (.free rfl) rfl rfl (Does.callv rfl rfl e198 (placeE1_ok _ b4 id (hb.mod hg (fun h => h)) x)) ?_
    rintro _ w2 ⟨rfl, hg2⟩
    refine RL.done ?_
    first | refine RK.condD rfl (fun h16 => ?_) (fun h16 => ?_) | refine RK.condN rfl (fun h16 => ?_) (fun h16 => ?_) | refine RK.cond rfl (fun h16 => ?_) (fun h16 => ?_)
    · refine RK.seq ?_
      refine RK.region ?_
      iterate 2 refine RL.p rfl rfl ?_
      refine RL.done ?_
      refine RK.ret_of Tryz.func197 (res1 rfl rfl) ?_ _
      exact ⟨_, rfl, congrArg _ (by
          have : q.findIdx? (fun x => decide (x.id = id)) = some k := by
            rw [List.findIdx?_eq_some_iff_getElem]
            refine ⟨by omega, ?_, fun j hj => ?_⟩
            · simp [(List.getElem?_eq_some_iff.1 hx).2, h16]
            · simpa using hno j (q[j]'(by omega)) hj (List.getElem?_eq_getElem (by omega))
          rw [this]; rfl), hg.trans hg2⟩
    · refine RK.skip ?_
      refine RK.inBlock ?_
      refine RK.region ?_
      refine RL.p rfl rfl ?_
      refine RL.re (d := 18) rfl rfl (succ_i64 (by omega)) ?_
      refine RL.p rfl rfl ?_
      refine RL.done ?_
      exact RK.back (ih (k + 1) _ ⟨hg.trans hg2, by omega, fun i a' hi ha' => by by_cases e : i = k; (subst e; rw [hx] at ha'; cases ha'; exact h16); exact hno i a' (by omega) ha'⟩ (by omega)) ⟨rfl, rfl, rfl, rfl, trivial⟩
  · refine RK.exit rfl ?_
    refine RK.seq ?_
    refine RK.region ?_
    refine RL.p rfl rfl ?_
    refine RL.done ?_
    refine RK.ret_of Tryz.func197 (res1 rfl rfl) ?_ _
    exact ⟨_, rfl, congrArg _ (by
        have : q.findIdx? (fun x => decide (x.id = id)) = none := by
          rw [List.findIdx?_eq_none_iff]
          intro x hx
          obtain ⟨i, hi⟩ := List.getElem?_of_mem hx
          have hil := (List.getElem?_eq_some_iff.1 hi).1
          simpa using hno i x (by omega) hi
        rw [this]; rfl), hg⟩
structure QAt (w : World) (p : Nat) (q : List En) (v : Value) : Prop where
  blk : Blk w p 155 [v]
  row : Row w 164 2 v q.length (q.flatMap enC)
  ne : v.ownBlock ≠ some p
theorem QAt.mod {M : Nat → Prop} {w w' : World} {p : Nat} {q : List En} {v : Value} (h : QAt w p q v) (hm : Mod M w w') (hp : ¬ M p) (hv : ∀ b, v.ownBlock = some b → ¬ M b) : QAt w' p q v := ⟨h.blk.mod hm hp, h.row.mod hm hv, h.ne⟩
theorem QAt.grow {w w' : World} {p : Nat} {q : List En} {v : Value} (h : QAt w p q v) (hm : Grow w w') : QAt w' p q v := h.mod hm (fun h => h) (fun _ _ h => h)
theorem reapNew_ok (w : World) : Fx Tryz.prog 44 [] w (fun u w' => ∃ p, u = pp p ∧ p = w.heap.size ∧ QAt w' p [] (.slice none 0 0) ∧ Grow w w' ∧ w'.heap.size = w.heap.size + 1) := by
  refine enter Tryz.func44 rfl rfl rfl _ (Pick.sub (l := []) .nil) ?_
  refine RK.seq ?_
  refine RK.region ?_
  refine RL.p rfl rfl ?_
  refine RL.done ?_
  refine RK.seq ?_
  refine RK.region ?_
  refine RL.q (.free rfl) rfl rfl (Yld.build (v := .agg #[.slice none 0 0]) rfl (fun w => by kernel_rfl)) ?_
  refine RL.op (.free rfl) rfl rfl (Does.box rfl) ?_
  rintro _ w1 ⟨b1, rfl, hn1⟩
  refine RL.p rfl rfl ?_
  refine RL.done ?_
  refine RK.ret_of Tryz.func44 (res1 rfl rfl) ?_ _
  exact ⟨_, rfl, b1, rfl, hn1.at_, ⟨hn1.blk, Row.nil _ _ _, by simp [Value.ownBlock]⟩, hn1.grow, hn1.size⟩
theorem place_ok (w : World) (p : Nat) (q : List En) (v : Value) (h : QAt w p q v) (id : Int) :
    Fx Tryz.prog 163 [pp p, .int .i64 id] w (fun u w' => u = .int .i64 (optI (q.findIdx? fun x => decide (x.id = id))) ∧ Grow w w') := by
  refine enter Tryz.func163 rfl rfl rfl _ (Pick.sub (l := [0, 1]) (.cons rfl (.cons rfl .nil))) ?_
  refine RK.seq ?_
  refine RK.region ?_
  refine RL.op (.free rfl) rfl rfl (Does.box rfl) ?_
  rintro _ w1 ⟨b3, rfl, hn3⟩
  refine RL.p rfl rfl ?_
  refine RL.done ?_
  refine RK.seq ?_
  refine RK.region ?_
  iterate 2 refine RL.p rfl rfl ?_
  refine RL.q (.free rfl) rfl rfl (Yld.fieldAddr fo155_0 rfl) ?_
  refine RL.q (.free rfl) rfl rfl (Yld.load p153 rfl (at1 ((h.blk.mod hn3.grow (fun h => h)).cell rfl))) ?_
  refine RL.p rfl rfl ?_
  refine RL.op (.free rfl) rfl rfl (Does.call rfl e197 (ixE_ok q v id b3 _ (Sl.own (h.row.mod hn3.grow (fun _ _ h => h)) (fun _ _ h => h)) hn3.blk)) ?_
  rintro _ w2 ⟨rfl, hg2⟩
  refine RL.p rfl rfl ?_
  refine RL.done ?_
  refine RK.ret_of Tryz.func163 (res1 rfl rfl) ?_ _
  exact ⟨_, rfl, rfl, hn3.grow.trans hg2⟩
def dropE (q : List En) (id : Int) : List En := q.eraseP fun x => decide (x.id = id)
theorem reapDrop_ok (w : World) (p : Nat) (q : List En) (v : Value) (h : QAt w p q v) (id : Int) (hb : q.length ≤ 1000000) :
    Fx Tryz.prog 134 [pp p, .int .i64 id] w (fun u w' => (∃ b, u = .bool b) ∧ ∃ v', QAt w' p (dropE q id) v' ∧ v'.ownBlock = v.ownBlock ∧ Mod (fun b => b = p ∨ v.ownBlock = some b) w w') := by
  have hcall := place_ok w p q v h id
  cases hf : q.findIdx? (fun x => decide (x.id = id)) with
  | none =>
    have e : dropE q id = q := by unfold dropE; rw [List.eraseP_eq_eraseIdx, hf]
    rw [hf] at hcall
    refine enter Tryz.func134 rfl rfl rfl _ (Pick.sub (l := [0, 1]) (.cons rfl (.cons rfl .nil))) ?_
    refine RK.seq ?_
    refine RK.region ?_
    refine RL.p rfl rfl ?_
    refine RL.done ?_
    refine RK.seq ?_
    refine RK.region ?_
    iterate 2 refine RL.p rfl rfl ?_
    refine RL.op (.free rfl) rfl rfl (Does.call rfl e163 (hcall)) ?_
    rintro _ w2 ⟨rfl, hg2⟩
    refine RL.p rfl rfl ?_
    refine RL.done ?_
    iterate 2 refine RK.seq ?_
    refine RK.region ?_
    iterate 2 refine RL.p rfl rfl ?_
    refine RL.done ?_
    refine RK.condT (hcT rfl (rfl)) ?_
    refine RK.seq ?_
    refine RK.region ?_
    refine RL.p rfl rfl ?_
    refine RL.done ?_
    refine RK.ret_of Tryz.func134 (res1 rfl rfl) ?_ _
    exact ⟨_, rfl, ⟨_, rfl⟩, v, e.symm ▸ h.grow hg2, rfl, Mod.any' hg2⟩
  | some k =>
    have e : dropE q id = q.eraseIdx k := by unfold dropE; rw [List.eraseP_eq_eraseIdx, hf]
    have hk : k < q.length := by obtain ⟨h1, _⟩ := List.findIdx?_eq_some_iff_getElem.1 hf; exact h1
    rw [hf] at hcall
    refine enter Tryz.func134 rfl rfl rfl _ (Pick.sub (l := [0, 1]) (.cons rfl (.cons rfl .nil))) ?_
    refine RK.seq ?_
    refine RK.region ?_
    refine RL.p rfl rfl ?_
    refine RL.done ?_
    refine RK.seq ?_
    refine RK.region ?_
    iterate 2 refine RL.p rfl rfl ?_
    refine RL.op (.free rfl) rfl rfl (Does.call rfl e163 (hcall)) ?_
    rintro _ w2 ⟨rfl, hg2⟩
    have h2 := h.grow hg2
    refine RL.p rfl rfl ?_
    refine RL.done ?_
    iterate 2 refine RK.seq ?_
    refine RK.region ?_
    iterate 2 refine RL.p rfl rfl ?_
    refine RL.done ?_
    refine RK.condF (hcF rfl (decide_eq_false (show ¬ ((k : Int) < 0) by omega))) ?_
    refine RK.skip ?_
    refine RK.seq ?_
    refine RK.region ?_
    iterate 3 refine RL.p rfl rfl ?_
    refine RL.q (.free rfl) rfl rfl (Yld.fieldAddr fo155_0 rfl) ?_
    refine RL.q (.free rfl) rfl rfl (Yld.load p153 rfl (at1 (h2.blk.cell rfl))) ?_
    iterate 3 refine RL.p rfl rfl ?_
    refine RL.re (d := 18) rfl rfl (succ_i64 (k := k) (by omega)) ?_
    refine RL.op (.free rfl) rfl rfl (Does.call rfl e107 (deleteE_ok q k v _ h2.row hk hb)) ?_
    rintro u3 w3 ⟨hr3, ho3, hm3⟩
    obtain ⟨ad3, c3, rfl⟩ := hr3.slice
    refine RL.p rfl rfl ?_
    refine RL.q (.free rfl) rfl rfl (Yld.fieldAddr fo155_0 rfl) ?_
    refine RL.op' (.free rfl) rfl (Does.store i153 rfl rfl rfl (h2.blk.mod hm3 h.ne) (.z)) ?_
    rintro _ w4 ⟨hb4, hm4, hs4⟩
    refine RL.done ?_
    refine RK.seq ?_
    refine RK.region ?_
    refine RL.p rfl rfl ?_
    refine RL.done ?_
    refine RK.ret_of Tryz.func134 (res1 rfl rfl) ?_ _
    exact ⟨_, rfl, ⟨_, rfl⟩, .slice ad3 _ c3, e.symm ▸ ⟨hb4, hr3.mod hm4 (fun b hb e => h.ne (by rw [← ho3, hb, e])), by rw [ho3]; exact h.ne⟩, ho3, ((Mod.any' hg2).trans (hm3.mono fun b _ e => .inr e)).trans (hm4.mono fun b _ e => .inl e)⟩
end Go.Proofs.YtbcbfjnlnmhpbaaGreat
set_option linter.unusedVariables false
set_option linter.unusedSimpArgs false
set_option maxHeartbeats 1600000
set_option maxRecDepth 100000
namespace Go.Proofs.YtbcbfjnlnmhpbaaGreat
open Go Go.X
def putE (q : List En) (e : En) : List En := q.filter (fun a => decide (ltE a e)) ++ e :: q.filter (fun a => !decide (ltE a e))
theorem filter_at {α : Type} (p : α → Bool) : ∀ (l : List α) (i : Nat), i ≤ l.length → (∀ t a, t < i → l[t]? = some a → p a = true) → (∀ t a, i ≤ t → l[t]? = some a → p a = false) → l.filter p = l.take i ∧ l.filter (fun a => !p a) = l.drop i
  | [], i, hi, _, _ => by simp
  | x :: l, 0, _, _, h2 => by
    have hx : ∀ a ∈ x :: l, p a = false := fun a ha => by
      obtain ⟨t, ht⟩ := List.getElem?_of_mem ha
      exact h2 t a (Nat.zero_le _) ht
    refine ⟨?_, ?_⟩
    · rw [List.take_zero, List.filter_eq_nil_iff]
      intro a ha; rw [hx a ha]; simp
    · rw [List.drop_zero, List.filter_eq_self]
      intro a ha; rw [hx a ha]; rfl
  | x :: l, i + 1, hi, h1, h2 => by
    obtain ⟨e1, e2⟩ := filter_at p l i (by simpa using hi) (fun t a ht ha => h1 (t + 1) a (by omega) (by simpa using ha)) (fun t a ht ha => h2 (t + 1) a (by omega) (by simpa using ha))
    have hx := h1 0 x (by omega) rfl
    refine ⟨?_, ?_⟩
    · rw [List.filter_cons_of_pos hx, e1, List.take_succ_cons]
    · rw [List.filter_cons_of_neg (by rw [hx]; simp), e2, List.drop_succ_cons]
theorem putE_at {q : List En} {e : En} {i : Nat} (hi : i ≤ q.length) (hlo : ∀ t a, t < i → q[t]? = some a → ltE a e) (hhi : ∀ t a, i ≤ t → q[t]? = some a → ¬ ltE a e) : putE q e = q.take i ++ e :: q.drop i := by
  obtain ⟨e1, e2⟩ := filter_at (fun a => decide (ltE a e)) q i hi (fun t a ht ha => decide_eq_true (hlo t a ht ha)) (fun t a ht ha => decide_eq_false (hhi t a ht ha))
  unfold putE
  rw [e1, e2]
theorem putE_perm (q : List En) (e : En) : (putE q e).Perm (e :: q) := by
  unfold putE
  refine (List.perm_middle).trans (List.Perm.cons _ ?_)
  exact List.filter_append_perm _ _
theorem putE_sort {q : List En} {e : En} (hs : SortE q) (hne : e ∉ q) : SortE (putE q e) := by
  unfold putE SortE
  rw [List.pairwise_append]
  refine ⟨hs.filter _, List.pairwise_cons.2 ⟨fun a ha => ?_, hs.filter _⟩, fun a ha b hb => ?_⟩
  · have h1 := List.mem_filter.1 ha
    rcases ltE_total (x := a) (y := e) (by simpa using h1.2) with h | h
    · exact absurd h1.1 (h ▸ hne)
    · exact h
  · have h1 : ltE a e := by simpa using (List.mem_filter.1 ha).2
    rcases List.mem_cons.1 hb with rfl | hb
    · exact h1
    · have h2 := List.mem_filter.1 hb
      rcases ltE_total (x := b) (y := e) (by simpa using h2.2) with h | h
      · exact absurd h2.1 (h ▸ hne)
      · exact ltE_trans h1 h
theorem dropE_sub (q : List En) (id : Int) : (dropE q id).Sublist q := List.eraseP_sublist
theorem dropE_sort {q : List En} (hs : SortE q) (id : Int) : SortE (dropE q id) := hs.sublist (dropE_sub q id)
theorem reapPut_ok (w : World) (p : Nat) (q : List En) (v : Value) (h : QAt w p q v) (hs : SortE q) (id due : Int) (hb : q.length ≤ 1000000) :
    Fx Tryz.prog 99 [pp p, .int .i64 id, .int .u64 due] w (fun u w' => u = .tuple #[] ∧ ∃ v', QAt w' p (putE (dropE q id) ⟨due, id⟩) v' ∧ Mod (fun b => b = p ∨ v.ownBlock = some b) w w' ∧ (∀ b, v'.ownBlock = some b → v.ownBlock = some b ∨ w.heap.size ≤ b)) := by
  have hs1 := dropE_sort hs id
  have hb1 : (dropE q id).length ≤ 1000000 := Nat.le_trans (dropE_sub q id).length_le hb
  refine enter Tryz.func99 rfl rfl rfl _ (Pick.sub (l := [0, 1, 2]) (.cons rfl (.cons rfl (.cons rfl .nil)))) ?_
  refine RK.seq ?_
  refine RK.region ?_
  iterate 2 refine RL.p rfl rfl ?_
  refine RL.op (.free rfl) rfl rfl (Does.call rfl e134 (reapDrop_ok w p q v h id hb)) ?_
  rintro _ w1 ⟨⟨bb, rfl⟩, v1, hq1, ho1, hm1⟩
  refine RL.done ?_
  refine RK.seq ?_
  refine RK.region ?_
  iterate 2 refine RL.p rfl rfl ?_
  refine RL.q (.free rfl) rfl rfl (Yld.build (v := .agg #[.int .u64 due, .int .i64 id]) rfl (fun w => by kernel_rfl)) ?_
  refine RL.op (.free rfl) rfl rfl (Does.alloc i164) ?_
  rintro _ w2 ⟨b6, rfl, hn6⟩
  refine RL.op' (.free rfl) rfl (Does.storeN i164 rfl rfl rfl rfl hn6.blk (Nat.le_refl 2)) ?_
  rintro _ w3 ⟨hb3, hm3, _⟩
  have hB3 : Blk w3 b6 164 (enC ⟨due, id⟩) := hb3
  have hg13 : Grow w1 w3 := hn6.grow.then hm3 (fun y hy e => by have e' : y = b6 := e; have := hn6.at_; omega)
  have hq3 := hq1.grow hg13
  have hlt1 : ∀ b, v1.ownBlock = some b → b < w1.heap.size := fun b e => hq1.row.lt e
  have hz1 := hm1.size
  refine RL.done ?_
  refine RK.seq ?_
  refine RK.drawM No [(0, false), (1, false), (2, false), (3, false), (4, false), (5, true), (6, false), (7, false), (8, false), (9, false), (10, false)] [] mixed (by kernel_rfl) ?_
  iterate 2 refine DL.p rfl rfl rfl ?_
  refine DL.qf rfl (.free rfl) rfl rfl (Yld.fieldAddr fo155_0 rfl) ?_
  refine DL.q rfl (.free rfl) rfl rfl rfl (Yld.load p153 rfl (atM (hq3.blk.cell rfl) (fun h => h))) (Mod.drew _ _) ?_
  refine DL.q rfl (.free rfl) rfl rfl rfl (Yld.loadN (cs := enC ⟨due, id⟩) a164 rfl (atNM (blk0' hB3) (fun h => h))) (Mod.drew _ _) ?_
  refine DL.op rfl (.free rfl) rfl rfl (Does.call rfl e135 (bsE_ok (dropE q id) ⟨due, id⟩ v1 _ (Sl.own (hq3.row.mod (Mod.drew No _) (fun _ _ h => h)) (fun _ _ h => h)) hs1 hb1)) ?_
  rintro _ w4 ⟨⟨i, bx, hi, hlo, hhi, rfl⟩, hg4'⟩
  have hg4 := (Mod.drew No w3).trans hg4'
  refine ⟨hg4, ?_⟩
  have hq4 := hq3.grow hg4
  have hB4 := hB3.mod hg4 (fun h => h)
  have hn6b : ¬ v1.ownBlock = some b6 := fun e => by have := hlt1 b6 e; have := hn6.at_; omega
  iterate 5 refine DL.p rfl rfl rfl ?_
  refine DL.done ?_
  refine RK.drawM (fun b => v1.ownBlock = some b) [(0, false), (1, false), (2, false), (3, false), (4, false), (5, false), (6, false), (7, true), (8, true), (9, false), (10, false), (11, true)] [11] mixed (by kernel_rfl) ?_
  iterate 3 refine DL.p rfl rfl rfl ?_
  refine DL.qf rfl (.free rfl) rfl rfl (Yld.fieldAddr fo155_0 rfl) ?_
  refine DL.q rfl (.free rfl) rfl rfl rfl (Yld.load p153 rfl (atM (hq4.blk.cell rfl) (fun h => hq4.ne h))) (Mod.drew _ _) ?_
  refine DL.p rfl rfl rfl ?_
  refine DL.q rfl (.free rfl) rfl rfl rfl (Yld.loadN (cs := enC ⟨due, id⟩) a164 rfl (atNM (blk0' hB4) (hn6b))) (Mod.drew _ _) ?_
  refine DL.op rfl (.free rfl) rfl rfl (Does.slice1 u153 i164 rfl rfl rfl rfl rfl) ?_
  rintro _ w5 ⟨b7, rfl, hn7⟩
  refine ⟨(Mod.drew _ _).trans (Mod.any' hn7.grow), ?_⟩
  have hq5 := (hq4.grow (Mod.drew No w4)).grow hn7.grow
  have hz4 : w1.heap.size ≤ w4.heap.size := Nat.le_trans hg13.size hg4.size
  have hn7a : w4.heap.size ≤ b7 := Nat.le_of_eq hn7.at_.symm
  refine DL.op rfl (.free rfl) rfl rfl (Does.call rfl e137 (insE_ok (dropE q id) ⟨due, id⟩ i v1 b7 _ hq5.row hn7.blk (fun e => by have := hlt1 b7 e; omega) hi hb1)) ?_
  rintro u8 w6 ⟨hr8, hm8, hu8⟩
  refine ⟨((Mod.drew _ _).trans (Mod.any' hn7.grow)).trans hm8, ?_⟩
  obtain ⟨ad8, c8, rfl⟩ := hr8.slice
  have hz7 := hn7.grow.size
  have hu9 : ∀ b, (Value.slice ad8 ((dropE q id).length + 1) c8).ownBlock = some b → b ≠ p ∧ (v.ownBlock = some b ∨ w.heap.size ≤ b) := fun b e => by
      have hp := hq1.blk.lt
      rcases hu8 with h8 | h8
      · rw [h8] at e
        exact ⟨fun hh => hq1.ne (hh ▸ e), .inl (ho1 ▸ e)⟩
      · rw [h8] at e
        cases e
        simp only [World.drew] at hz7
        exact ⟨by omega, .inr (by omega)⟩
  have hb6 := hq5.blk.mod hm8 hq5.ne
  refine DL.p rfl rfl rfl ?_
  refine DL.qf rfl (.free rfl) rfl rfl (Yld.fieldAddr fo155_0 rfl) ?_
  refine DL.opT rfl (.free rfl) rfl rfl (Does.store i153 rfl rfl rfl hb6 (.z)) ?_
  rintro _ w7 ⟨hb7, hm7, hs7⟩
  refine DL.done ?_
  refine RK.end_of Tryz.func99 (res0 rfl) ?_
  exact ⟨_, rfl, rfl, .slice ad8 ((dropE q id).length + 1) c8, by
      rw [putE_at hi hlo hhi]
      refine ⟨hb7, ?_, fun e => (hu9 p e).1 rfl⟩
      have e1 : (List.take i (dropE q id) ++ ⟨due, id⟩ :: List.drop i (dropE q id)).length = (dropE q id).length + 1 := by simp; omega
      rw [e1]
      exact hr8.mod hm7 (fun b e hh => (hu9 b e).1 hh), ((((hm1.trans (Mod.any' hg13)).trans (Mod.any' hg4)).trans (Mod.any' ((Mod.drew No w4).trans hn7.grow))).trans (hm8.mono fun b _ e => .inr (ho1 ▸ e))).trans (hm7.mono fun b _ e => .inl e), fun b e => (hu9 b e).2⟩
end Go.Proofs.YtbcbfjnlnmhpbaaGreat
set_option linter.unusedVariables false
set_option linter.unusedSimpArgs false
set_option maxHeartbeats 1600000
set_option maxRecDepth 100000
namespace Go.Proofs.YtbcbfjnlnmhpbaaGreat
open Go Go.X
def dueE (q : List En) (now : Int) : List En := q.filter fun a => decide (a.due ≤ now)
def restE (q : List En) (now : Int) : List En := q.filter fun a => !decide (a.due ≤ now)
theorem due_at {q : List En} {now : Int} {k : Nat} (hs : SortE q) (hk : k ≤ q.length) (hlo : ∀ t a, t < k → q[t]? = some a → a.due ≤ now) (hhi : ∀ a, q[k]? = some a → ¬ a.due ≤ now) : dueE q now = q.take k ∧ restE q now = q.drop k := by
  refine filter_at (fun a : En => decide (a.due ≤ now)) q k hk (fun t a ht ha => decide_eq_true (hlo t a ht ha)) (fun t a ht ha => decide_eq_false ?_)
  have h3 := (List.getElem?_eq_some_iff.1 ha).1
  obtain ⟨b, hb⟩ : ∃ b, q[k]? = some b := ⟨q[k]'(by omega), List.getElem?_eq_getElem (by omega)⟩
  have h1 := hhi b hb
  by_cases e : t = k
  · subst e; rw [ha] at hb; cases hb; exact h1
  · have h2 := List.pairwise_iff_getElem.1 hs k t (by omega) h3 (by omega)
    rw [(List.getElem?_eq_some_iff.1 ha).2, (List.getElem?_eq_some_iff.1 hb).2] at h2
    unfold ltE at h2
    omega
theorem reapDue_ok (w : World) (p : Nat) (q : List En) (v : Value) (h : QAt w p q v) (hs : SortE q) (now : Int) (hb : q.length ≤ 1000000) :
    Fx Tryz.prog 56 [pp p, .int .u64 now] w (fun u w' => Row w' 3 1 u (dueE q now).length (ints ((dueE q now).map (·.id))) ∧ Fresh w.heap.size u ∧ (∃ v', QAt w' p (restE q now) v' ∧ v'.ownBlock = v.ownBlock) ∧ Mod (fun b => b = p ∨ v.ownBlock = some b) w w') := by
  refine enter Tryz.func56 rfl rfl rfl _ (Pick.sub (l := [0, 1]) (.cons rfl (.cons rfl .nil))) ?_
  refine RK.seq ?_
  refine RK.region ?_
  refine RL.p rfl rfl ?_
  refine RL.done ?_
  refine RK.seq ?_
  refine RK.region ?_
  refine RL.p rfl rfl ?_
  refine RL.done ?_
  refine RK.seq ?_
  refine RK.block ?_
  refine RK.loop (fun s : Nat × Value => [(0, pp p), (1, .int .u64 now), (5, s.2)]) (fun s w' => s.1 ≤ q.length ∧ (∀ t a, t < s.1 → q[t]? = some a → a.due ≤ now) ∧ (∃ vq, QAt w' p (q.drop s.1) vq ∧ vq.ownBlock = v.ownBlock) ∧ Row w' 3 1 s.2 s.1 (ints ((q.take s.1).map (·.id))) ∧ Fresh w.heap.size s.2 ∧ Mod (fun b => b = p ∨ v.ownBlock = some b) w w') (fun s => q.length - s.1) (0, .slice none 0 0) ⟨rfl, rfl, rfl, trivial⟩ ⟨by simp, fun t a h => by simp only at h; omega, ⟨v, h, rfl⟩, by simpa using Row.nil _ _ _, fun b e => by simp [Value.ownBlock] at e, Mod.refl _ _⟩ (fun s w' hI ih => ?_)
  obtain ⟨k, u⟩ := s
  obtain ⟨hk, hlo, ⟨vq, hq, hqo⟩, hr, hf, hm⟩ := hI
  simp only at hk hlo hq hr hf
  obtain ⟨adq, cq, rfl⟩ := hq.row.slice
  have hlen : (q.drop k).length = q.length - k := by simp
  have hsz := hm.size
  iterate 2 refine RK.seq ?_
  refine RK.region ?_
  iterate 2 refine RL.p rfl rfl ?_
  refine RL.q (.free rfl) rfl rfl (Yld.fieldAddr fo155_0 rfl) ?_
  refine RL.q (.free rfl) rfl rfl (Yld.load p153 rfl (at1 (hq.blk.cell rfl))) ?_
  refine RL.q (.free rfl) rfl rfl (Yld.lenSl u153 rfl) ?_
  iterate 2 refine RL.p rfl rfl ?_
  first | refine RL.splitD (d := 12) rfl rfl (fun h11 => ?_) (fun h11 => ?_) | refine RL.splitN (d := 12) rfl rfl (fun h11 => ?_) (fun h11 => ?_) | refine RL.split (d := 12) rfl rfl (fun h11 => ?_) (fun h11 => ?_)
  · have hkl : k < q.length := by omega
    obtain ⟨x, hx⟩ : ∃ x, q[k]? = some x := ⟨q[k]'(by omega), List.getElem?_eq_getElem (by omega)⟩
    have hx0 : (q.drop k)[0]? = some x := by rw [List.getElem?_drop]; exact hx
    obtain ⟨b1, o1, c1', he1, _, _, hc1⟩ := (Sl.own (M := No) hq.row (fun _ _ h => h)).elem enC_len hx0
    cases he1
    iterate 2 refine RL.q (.yes rfl rfl rfl) rfl rfl (Yld.pure rfl) ?_
    refine RL.q (.yes rfl rfl rfl) rfl rfl (Yld.fieldAddr fo155_0 rfl) ?_
    refine RL.q (.yes rfl rfl rfl) rfl rfl (Yld.load p153 rfl (at1 (hq.blk.cell rfl))) ?_
    refine RL.q (.yes rfl rfl rfl) rfl rfl (Yld.indexAddrN u153 i164 rfl rfl (by omega)) ?_
    refine RL.q (.yes rfl rfl rfl) rfl rfl (Yld.fieldAddr fo164_0 rfl) ?_
    refine RL.q (.yes rfl rfl rfl) rfl rfl (Yld.load p22 rfl (at1 (hc1 0 _ rfl))) ?_
    iterate 2 refine RL.q (.yes rfl rfl rfl) rfl rfl (Yld.pure rfl) ?_
    refine RL.p rfl rfl ?_
    refine RL.done ?_
    first | refine RK.condD rfl (fun h22 => ?_) (fun h22 => ?_) | refine RK.condN rfl (fun h22 => ?_) (fun h22 => ?_) | refine RK.cond rfl (fun h22 => ?_) (fun h22 => ?_)
    · refine RK.skip ?_
      refine RK.block ?_
      refine RK.seq ?_
      refine RK.region ?_
      iterate 3 refine RL.p rfl rfl ?_
      refine RL.q (.free rfl) rfl rfl (Yld.fieldAddr fo155_0 rfl) ?_
      refine RL.q (.free rfl) rfl rfl (Yld.load p153 rfl (at1 (hq.blk.cell rfl))) ?_
      refine RL.q (.free rfl) rfl rfl (Yld.indexAddrN u153 i164 rfl rfl (by omega)) ?_
      refine RL.q (.free rfl) rfl rfl (Yld.fieldAddr fo164_1 rfl) ?_
      refine RL.q (.free rfl) rfl rfl (Yld.load p3 rfl (at1 (hc1 1 _ rfl))) ?_
      refine RL.op (.free rfl) rfl rfl (Does.slice1 u35 i3 rfl rfl rfl rfl rfl) ?_
      rintro _ w2 ⟨b7, rfl, hn7⟩
      refine RL.op (.free rfl) rfl rfl (Does.append u35 i3 rfl rfl rfl rfl rfl (hr.mod hn7.grow (fun _ _ h => h)) (Sl.new hn7 1 1 rfl (by omega) (fun h => h)) (rfl) (by omega)) ?_
      rintro u8 w3 ⟨hr8, hm8, hu8⟩
      have hz7 := hn7.grow.size
      have hpl := hq.blk.lt
      have hpw := h.blk.lt
      have hqf : ∀ b, (Value.slice (some ⟨b1, o1, none⟩) (q.drop k).length cq).ownBlock = some b → b < w.heap.size := fun b e => h.row.lt (hqo ▸ e)
      have hq2 := hq.grow hn7.grow
      have hq3 := hq2.mod hm8 (fun e => by have := hf p e; omega) (fun b e e2 => by have h5 := hf b e2; have h6 := hqf b e; omega)
      have hu9 : ∀ b, u8.ownBlock = some b → w.heap.size ≤ b := fun b e => by
          rcases hu8 with h8 | h8
          · rw [h8] at e; exact hf b e
          · rw [h8] at e; cases e; omega
      have hm03 : Mod (fun b => b = p ∨ v.ownBlock = some b) w w3 := (hm.trans (Mod.any' hn7.grow)).then hm8 (fun b hb e => by have := hf b e; omega)
      refine RL.p rfl rfl ?_
      refine RL.done ?_
      refine RK.region ?_
      iterate 3 refine RL.p rfl rfl ?_
      refine RL.q (.free rfl) rfl rfl (Yld.fieldAddr fo155_0 rfl) ?_
      refine RL.q (.free rfl) rfl rfl (Yld.load p153 rfl (at1 (hq3.blk.cell rfl))) ?_
      refine RL.op (.free rfl) rfl rfl (Does.call rfl e107 (deleteE_ok (q.drop k) 0 _ _ hq3.row (by omega) (by omega))) ?_
      rintro v10 w10 ⟨hr10, ho10, hm10⟩
      obtain ⟨ad10, c10, rfl⟩ := hr10.slice
      have hbp := hq3.blk.mod hm10 hq3.ne
      refine RL.p rfl rfl ?_
      refine RL.q (.free rfl) rfl rfl (Yld.fieldAddr fo155_0 rfl) ?_
      refine RL.op' (.free rfl) rfl (Does.store i153 rfl rfl rfl hbp (.z)) ?_
      rintro _ w11 ⟨hb11, hm11, hs11⟩
      have hdr : (q.drop k).eraseIdx 0 = q.drop (k + 1) := by rw [List.drop_eq_getElem_cons hkl]; rfl
      have htk : q.take (k + 1) = q.take k ++ [x] := by rw [List.take_add_one, hx]; rfl
      refine RL.done ?_
      refine RK.inBlock ?_
      exact RK.back (ih (k + 1, u8) _ ⟨by simp only; omega, fun t a ht ha => by
          simp only at ht
          by_cases e : t = k
          · subst e; rw [hx] at ha; cases ha; exact h22
          · exact hlo t a (by omega) ha, ⟨.slice ad10 ((q.drop k).eraseIdx 0).length c10, by
          simp only
          rw [← hdr]
          exact ⟨hb11, hr10.mod hm11 (fun b e hh => hq3.ne (by rw [← ho10, e, hh])), fun e => hq3.ne (by rw [← ho10, e])⟩, ho10.trans hqo⟩, by
          simp only
          rw [htk, List.map_append]
          have e1 : ints (List.map (fun x => x.id) (q.take k) ++ List.map (fun x => x.id) [x]) = ints ((q.take k).map (·.id)) ++ (Value.int .i64 x.id).cells.toList := by simp [ints, Value.cells]
          rw [e1]
          exact (hr8.mod hm10 (fun b e hh => by have h5 := hu9 b e; have h6 := hqf b hh; omega)).mod hm11 (fun b e hh => by have h5 := hu9 b e; omega), hu9, (hm03.trans (hm10.mono fun b _ e => .inr (hqo ▸ e))).trans (hm11.mono fun b _ e => .inl e)⟩ (by simp only; omega)) ⟨rfl, rfl, rfl, trivial⟩
    · obtain ⟨e1, e2⟩ := due_at hs hk hlo (fun a ha => by rw [hx] at ha; cases ha; exact h22)
      refine RK.exit rfl ?_
      refine RK.seq ?_
      refine RK.region ?_
      iterate 2 refine RL.p rfl rfl ?_
      refine RL.done ?_
      refine RK.ret_of Tryz.func56 (res1 rfl rfl) ?_ _
      exact ⟨_, rfl, by
          rw [e1, List.length_take, Nat.min_eq_left hk]; exact hr, hf, ⟨_, e2 ▸ hq, hqo⟩, hm⟩
  · have hke : k = q.length := by omega
    obtain ⟨e1, e2⟩ := due_at hs hk hlo (fun a ha => by have := (List.getElem?_eq_some_iff.1 ha).1; omega)
    iterate 9 refine RL.no (.no rfl rfl rfl rfl) rfl rfl ?_
    refine RL.p rfl rfl ?_
    refine RL.done ?_
    refine RK.condF rfl ?_
    refine RK.exit rfl ?_
    refine RK.seq ?_
    refine RK.region ?_
    iterate 2 refine RL.p rfl rfl ?_
    refine RL.done ?_
    refine RK.ret_of Tryz.func56 (res1 rfl rfl) ?_ _
    exact ⟨_, rfl, by
        rw [e1, List.length_take, Nat.min_eq_left hk]; exact hr, hf, ⟨_, e2 ▸ hq, hqo⟩, hm⟩
end Go.Proofs.YtbcbfjnlnmhpbaaGreat
set_option linter.unusedVariables false
set_option linter.unusedSimpArgs false
set_option maxHeartbeats 1000000
set_option maxRecDepth 100000
namespace Go.Proofs.YtbcbfjnlnmhpbaaGreat
open Go Go.X Go.Rex
def anyL (ms : List Mt) : Bool := ms.any largeM
theorem anyL_at {ms : List Mt} {k : Nat} {x : Mt} (hx : ms[k]? = some x) (h : largeM x = true) : anyL ms = true := List.any_eq_true.2 ⟨x, List.mem_of_getElem? hx, h⟩
theorem anyL_no {ms : List Mt} (h : ∀ (i : Nat) (x : Mt), ms[i]? = some x → largeM x = false) : anyL ms = false := by
  unfold anyL
  rw [List.any_eq_false]
  intro x hx
  obtain ⟨i, hi⟩ := List.getElem?_of_mem hx
  simp [h i x hi]
theorem indexL_ok (M : Nat → Prop) (ms : List Mt) (v : Value) (w : World) (hv : SlM M w v ms) :
    Fx Tryz.prog 138 [v, .func (.func 133) #[] #[]] w (fun u w' => (∃ z : Int, u = .int .i64 z ∧ decide (0 ≤ z) = anyL ms) ∧ Grow w w') := by
  obtain ⟨ad, c, rfl⟩ := hv.shape
  have hbig := hv.big
  refine enter Tryz.func138 rfl rfl rfl _ (Pick.sub (l := [0, 1]) (.cons rfl (.cons rfl .nil))) ?_
  refine RK.seq ?_
  refine RK.region ?_
  refine RL.p rfl rfl ?_
  refine RL.done ?_
  iterate 2 refine RK.seq ?_
  refine RK.region ?_
  refine RL.p rfl rfl ?_
  refine RL.q (.free rfl) rfl rfl (Yld.lenSl u28 rfl) ?_
  refine RL.p rfl rfl ?_
  refine RL.done ?_
  refine RK.block ?_
  refine RK.loop (fun k : Nat => [(0, .slice ad ms.length c), (1, .func (.func 133) #[] #[]), (7, .int .i64 ms.length), (8, .int .i64 k)]) (fun k w' => Grow w w' ∧ k ≤ ms.length ∧ ∀ (i : Nat) (a : Mt), i < k → ms[i]? = some a → largeM a = false) (fun k => ms.length - k) 0 ⟨rfl, rfl, rfl, rfl, trivial⟩ ⟨Mod.refl _ _, by omega, fun i a h => by omega⟩ (fun k w' hI ih => ?_)
  obtain ⟨hg, hk, hno⟩ := hI
  refine RK.seq ?_
  refine RK.region ?_
  refine RL.p rfl rfl ?_
  refine RL.done ?_
  refine RK.seq ?_
  first | refine RK.condD rfl (fun h9 => ?_) (fun h9 => ?_) | refine RK.condN rfl (fun h9 => ?_) (fun h9 => ?_) | refine RK.cond rfl (fun h9 => ?_) (fun h9 => ?_)
  · obtain ⟨x, hx⟩ : ∃ x, ms[k]? = some x := ⟨ms[k]'(by omega), List.getElem?_eq_getElem (by omega)⟩
    obtain ⟨b1, o1, c1', he1, _, _, hc1⟩ := hv.elem mtC_len hx
    cases he1
    refine RK.skip ?_
    refine RK.seq ?_
    refine RK.block ?_
    refine RK.seq ?_
    refine RK.region ?_
    iterate 2 refine RL.p rfl rfl ?_
    refine RL.done ?_
    refine RK.seq ?_
    refine RK.region ?_
    iterate 3 refine RL.p rfl rfl ?_
    refine RL.q (.free rfl) rfl rfl (Yld.indexAddrN u28 i108 rfl rfl (by omega)) ?_
    refine RL.q (.free rfl) rfl rfl (Yld.loadN (cs := [.int .i64 x.kind, .string x.name, .string x.value]) a108 rfl (atN (fun j u hj => hg.cell (hc1 j u hj) (fun h => h)))) ?_
    refine RL.op (.free rfl) rfl rfl (Does.callv rfl rfl e133 (matchLarge_ok x _)) ?_
    rintro _ w2 ⟨rfl, hg2⟩
    refine RL.done ?_
    first | refine RK.condD rfl (fun h16 => ?_) (fun h16 => ?_) | refine RK.condN rfl (fun h16 => ?_) (fun h16 => ?_) | refine RK.cond rfl (fun h16 => ?_) (fun h16 => ?_)
    · refine RK.seq ?_
      refine RK.region ?_
      iterate 2 refine RL.p rfl rfl ?_
      refine RL.done ?_
      refine RK.ret_of Tryz.func138 (res1 rfl rfl) ?_ _
      exact ⟨_, rfl, ⟨_, rfl, by rw [anyL_at hx h16]; simp⟩, hg.trans hg2⟩
    · refine RK.skip ?_
      refine RK.inBlock ?_
      refine RK.region ?_
      refine RL.p rfl rfl ?_
      refine RL.re (d := 18) rfl rfl (succ_i64 (by omega)) ?_
      refine RL.p rfl rfl ?_
      refine RL.done ?_
      exact RK.back (ih (k + 1) _ ⟨hg.trans hg2, by omega, fun i a' hi ha' => by by_cases e : i = k; (subst e; rw [hx] at ha'; cases ha'; simpa using h16); exact hno i a' (by omega) ha'⟩ (by omega)) ⟨rfl, rfl, rfl, rfl, trivial⟩
  · refine RK.exit rfl ?_
    refine RK.seq ?_
    refine RK.region ?_
    refine RL.p rfl rfl ?_
    refine RL.done ?_
    refine RK.ret_of Tryz.func138 (res1 rfl rfl) ?_ _
    exact ⟨_, rfl, ⟨_, rfl, by rw [anyL_no fun i x hx => hno i x (by have := (List.getElem?_eq_some_iff.1 hx).1; omega) hx]; rfl⟩, hg⟩
theorem containsL_ok (M : Nat → Prop) (ms : List Mt) (v : Value) (w : World) (hv : SlM M w v ms) :
    Fx Tryz.prog 101 [v, .func (.func 133) #[] #[]] w (fun u w' => u = .bool (anyL ms) ∧ Grow w w') := by
  obtain ⟨ad, c, rfl⟩ := hv.shape
  refine enter Tryz.func101 rfl rfl rfl _ (Pick.sub (l := [0, 1]) (.cons rfl (.cons rfl .nil))) ?_
  refine RK.seq ?_
  refine RK.region ?_
  refine RL.p rfl rfl ?_
  refine RL.done ?_
  refine RK.seq ?_
  refine RK.region ?_
  iterate 2 refine RL.p rfl rfl ?_
  refine RL.op (.free rfl) rfl rfl (Does.call rfl e138 (indexL_ok M ms _ _ hv)) ?_
  rintro _ w2 ⟨⟨z, rfl, hz⟩, hg2⟩
  iterate 2 refine RL.p rfl rfl ?_
  refine RL.done ?_
  refine RK.ret_of Tryz.func101 (res1 rfl rfl) ?_ _
  exact ⟨_, rfl, congrArg _ hz, hg2⟩
theorem matchAnyL_ok (M : Nat → Prop) (ms : List Mt) (v : Value) (w : World) (hv : SlM M w v ms) :
    Fx Tryz.prog 97 [v] w (fun u w' => u = .bool (anyL ms) ∧ Grow w w') := by
  obtain ⟨ad, c, rfl⟩ := hv.shape
  refine enter Tryz.func97 rfl rfl rfl _ (Pick.sub (l := [0]) (.cons rfl .nil)) ?_
  refine RK.seq ?_
  refine RK.region ?_
  refine RL.p rfl rfl ?_
  refine RL.done ?_
  refine RK.seq ?_
  refine RK.region ?_
  refine RL.p rfl rfl ?_
  refine RL.op (.free rfl) rfl rfl (Does.call rfl e101 (containsL_ok M ms _ _ hv)) ?_
  rintro _ w2 ⟨rfl, hg2⟩
  refine RL.p rfl rfl ?_
  refine RL.done ?_
  refine RK.ret_of Tryz.func97 (res1 rfl rfl) ?_ _
  exact ⟨_, rfl, rfl, hg2⟩
theorem anyLR_ok (M : Nat → Prop) (ms : List Mt) (hn : ∀ m ∈ ms, m.name.size ≤ 9223372036854775807) (v : Value) (w : World) (hv : SlM M w v ms) :
    Fx Tryz.prog 75 [v] w (fun u w' => u = .bool (anyL ms) ∧ Grow w w') := by
  obtain ⟨ad, c, rfl⟩ := hv.shape
  have hbig := hv.big
  refine enter Tryz.func75 rfl rfl rfl _ (Pick.sub (l := [0]) (.cons rfl .nil)) ?_
  refine RK.seq ?_
  refine RK.region ?_
  refine RL.p rfl rfl ?_
  refine RL.done ?_
  iterate 2 refine RK.seq ?_
  refine RK.region ?_
  refine RL.p rfl rfl ?_
  refine RL.done ?_
  refine RK.block ?_
  refine RK.loop (fun k : Nat => [(0, .slice ad ms.length c), (3, .int .i64 k)]) (fun k w' => Grow w w' ∧ k ≤ ms.length ∧ ∀ (i : Nat) (a : Mt), i < k → ms[i]? = some a → largeM a = false) (fun k => ms.length - k) 0 ⟨rfl, rfl, trivial⟩ ⟨Mod.refl _ _, by omega, fun i a h => by omega⟩ (fun k w' hI ih => ?_)
  obtain ⟨hg, hk, hno⟩ := hI
  iterate 2 refine RK.seq ?_
  refine RK.region ?_
  iterate 2 refine RL.p rfl rfl ?_
  refine RL.q (.free rfl) rfl rfl (Yld.lenSl u28 rfl) ?_
  refine RL.p rfl rfl ?_
  refine RL.done ?_
  first | refine RK.condD rfl (fun h7 => ?_) (fun h7 => ?_) | refine RK.condN rfl (fun h7 => ?_) (fun h7 => ?_) | refine RK.cond rfl (fun h7 => ?_) (fun h7 => ?_)
  · obtain ⟨x, hx⟩ : ∃ x, ms[k]? = some x := ⟨ms[k]'(by omega), List.getElem?_eq_getElem (by omega)⟩
    obtain ⟨b1, o1, c1', he1, _, _, hc1⟩ := hv.elem mtC_len hx
    cases he1
    refine RK.skip ?_
    refine RK.seq ?_
    refine RK.block ?_
    refine RK.seq ?_
    refine RK.region ?_
    iterate 2 refine RL.p rfl rfl ?_
    refine RL.q (.free rfl) rfl rfl (Yld.indexAddrN u28 i108 rfl rfl (by omega)) ?_
    refine RL.q (.free rfl) rfl rfl (Yld.loadN (cs := [.int .i64 x.kind, .string x.name, .string x.value]) a108 rfl (atN (fun j u hj => hg.cell (hc1 j u hj) (fun h => h)))) ?_
    refine RL.op (.free rfl) rfl rfl (Does.call rfl e118 (largeR_ok x (hn x (List.mem_of_getElem? hx)) _)) ?_
    rintro _ w2 ⟨rfl, hg2⟩
    refine RL.done ?_
    first | refine RK.condD rfl (fun h14 => ?_) (fun h14 => ?_) | refine RK.condN rfl (fun h14 => ?_) (fun h14 => ?_) | refine RK.cond rfl (fun h14 => ?_) (fun h14 => ?_)
    · refine RK.seq ?_
      refine RK.region ?_
      refine RL.p rfl rfl ?_
      refine RL.done ?_
      refine RK.ret_of Tryz.func75 (res1 rfl rfl) ?_ _
      exact ⟨_, rfl, congrArg _ (anyL_at hx h14).symm, hg.trans hg2⟩
    · refine RK.skip ?_
      refine RK.inBlock ?_
      refine RK.region ?_
      iterate 2 refine RL.p rfl rfl ?_
      refine RL.re (d := 9) rfl rfl (succ_i64 (by omega)) ?_
      refine RL.p rfl rfl ?_
      refine RL.done ?_
      exact RK.back (ih (k + 1) _ ⟨hg.trans hg2, by omega, fun i a' hi ha' => by by_cases e : i = k; (subst e; rw [hx] at ha'; cases ha'; simpa using h14); exact hno i a' (by omega) ha'⟩ (by omega)) ⟨rfl, rfl, trivial⟩
  · refine RK.exit rfl ?_
    refine RK.seq ?_
    refine RK.region ?_
    refine RL.p rfl rfl ?_
    refine RL.done ?_
    refine RK.ret_of Tryz.func75 (res1 rfl rfl) ?_ _
    exact ⟨_, rfl, congrArg _ (anyL_no fun i x hx => hno i x (by have := (List.getElem?_eq_some_iff.1 hx).1; omega) hx).symm, hg⟩
theorem listR_ok (M : Nat → Prop) (ms : List Mt) (hn : ∀ m ∈ ms, m.name.size ≤ 9223372036854775807) (v : Value) (w : World) (hv : SlM M w v ms) : Fx Tryz.prog 31 [v] w (fun u w' => u = .bool (listM ms) ∧ Grow w w') := by
  obtain ⟨ad, c, rfl⟩ := hv.shape
  have hbig := hv.big
  refine enter Tryz.func31 rfl rfl rfl _ (Pick.sub (l := [0]) (.cons rfl .nil)) ?_
  refine RK.seq ?_
  refine RK.region ?_
  refine RL.p rfl rfl ?_
  refine RL.done ?_
  iterate 2 refine RK.seq ?_
  refine RK.region ?_
  refine RL.p rfl rfl ?_
  refine RL.q (.free rfl) rfl rfl (Yld.lenSl u28 rfl) ?_
  refine RL.p rfl rfl ?_
  refine RL.done ?_
  first | refine RK.condD rfl (fun h6 => ?_) (fun h6 => ?_) | refine RK.condN rfl (fun h6 => ?_) (fun h6 => ?_) | refine RK.cond rfl (fun h6 => ?_) (fun h6 => ?_)
  · refine RK.seq ?_
    refine RK.region ?_
    refine RL.p rfl rfl ?_
    refine RL.done ?_
    refine RK.ret_of Tryz.func31 (res1 rfl rfl) ?_ _
    exact ⟨_, rfl, by rw [listM_big (by omega)], Mod.refl _ _⟩
  · refine RK.skip ?_
    iterate 2 refine RK.seq ?_
    refine RK.region ?_
    refine RL.p rfl rfl ?_
    refine RL.done ?_
    refine RK.block ?_
    refine RK.loop (fun k : Nat => [(0, .slice ad ms.length c), (3, .int .i64 (k : Int))]) (fun k w' => Grow w w' ∧ k ≤ ms.length ∧ ∀ i, i < k → okM ms i = true) (fun k => ms.length - k) 0 ⟨rfl, rfl, trivial⟩ ⟨Mod.refl _ _, by omega, fun i hi => by omega⟩ (fun k w' hI ih => ?_)
    obtain ⟨hg, hk, hall⟩ := hI
    iterate 2 refine RK.seq ?_
    refine RK.region ?_
    iterate 2 refine RL.p rfl rfl ?_
    refine RL.q (.free rfl) rfl rfl (Yld.lenSl u28 rfl) ?_
    refine RL.p rfl rfl ?_
    refine RL.done ?_
    first | refine RK.condD rfl (fun h10 => ?_) (fun h10 => ?_) | refine RK.condN rfl (fun h10 => ?_) (fun h10 => ?_) | refine RK.cond rfl (fun h10 => ?_) (fun h10 => ?_)
    · obtain ⟨x, hx⟩ : ∃ x, ms[k]? = some x := ⟨ms[k]'(by omega), List.getElem?_eq_getElem (by omega)⟩
      obtain ⟨b1, o1, c1', he1, _, _, hc1⟩ := hv.elem mtC_len hx
      cases he1
      refine RK.skip ?_
      refine RK.seq ?_
      refine RK.block ?_
      refine RK.seq ?_
      refine RK.drawM No [(0, false), (1, false), (2, false), (3, false), (4, true), (5, false), (6, false), (7, false), (8, false), (9, false), (10, false), (11, false), (12, false), (13, false), (14, false), (15, false), (16, false), (17, false), (18, false), (19, true), (20, false), (21, false), (22, false)] [] mixed (by kernel_rfl) ?_
      iterate 2 refine DL.p rfl rfl rfl ?_
      refine DL.qf rfl (.free rfl) rfl rfl (Yld.indexAddrN u28 i108 rfl rfl (by omega)) ?_
      refine DL.q rfl (.free rfl) rfl rfl rfl (Yld.loadN (cs := mtC x) a108 rfl (atNM (fun q z hq => hg.cell (hc1 q z hq) (fun h => h)) (fun h => h))) (Mod.drew _ _) ?_
      refine DL.op rfl (.free rfl) rfl rfl (Does.call rfl e77 (isMatcher_ok x (hn x (List.mem_of_getElem? hx)) _)) ?_
      rintro _ w6 ⟨rfl, hg6⟩
      refine ⟨(Mod.drew No _).trans hg6, ?_⟩
      have hg5 := hg.trans ((Mod.drew No _).trans hg6)
      iterate 2 refine DL.p rfl rfl rfl ?_
      first | refine DL.splitD (d := 19) rfl rfl (fun h18 => ?_) (fun h18 => ?_) | refine DL.splitN (d := 19) rfl rfl (fun h18 => ?_) (fun h18 => ?_) | refine DL.split (d := 19) rfl rfl (fun h18 => ?_) (fun h18 => ?_)
      · iterate 12 refine DL.no rfl (.no rfl rfl rfl rfl) rfl rfl ?_
        refine DL.lno rfl (.no rfl rfl rfl rfl) rfl rfl ?_
        iterate 2 refine DL.no rfl (.no rfl rfl rfl rfl) rfl rfl ?_
        refine DL.p rfl rfl rfl ?_
        refine DL.done ?_
        refine RK.condT rfl ?_
        refine RK.seq ?_
        refine RK.region ?_
        refine RL.p rfl rfl ?_
        refine RL.done ?_
        refine RK.ret_of Tryz.func31 (res1 rfl rfl) ?_ _
        exact ⟨_, rfl, by rw [listM_no (i := k) (by omega) (by
            have hf : isM x = false := by simpa using h18
            cases k with
            | zero => rw [okM_0 hx]; exact hf
            | succ j => rw [okM_s hx (List.getElem?_eq_getElem (by omega)), hf]; rfl)], hg5⟩
      · have hix : isM x = true := by simpa using h18
        iterate 3 refine DL.qf rfl (.yes rfl rfl rfl) rfl rfl (Yld.pure rfl) ?_
        first | refine DL.splitD (d := 22) rfl rfl (fun h21 => ?_) (fun h21 => ?_) | refine DL.splitN (d := 22) rfl rfl (fun h21 => ?_) (fun h21 => ?_) | refine DL.split (d := 22) rfl rfl (fun h21 => ?_) (fun h21 => ?_)
        · obtain ⟨j, rfl⟩ : ∃ j, k = j + 1 := ⟨k - 1, by omega⟩
          obtain ⟨y, hy⟩ : ∃ y, ms[j]? = some y := ⟨ms[j]'(by omega), List.getElem?_eq_getElem (by omega)⟩
          obtain ⟨b2, o2, c2', he2, _, _, hc2⟩ := hv.elem mtC_len hy
          cases he2
          iterate 3 refine DL.qf rfl (.yes rfl rfl rfl) rfl rfl (Yld.pure rfl) ?_
          refine DL.re (d := 25) rfl rfl (sub_i64 (z := (j : Int)) (by omega) (by omega) (by omega)) ?_
          refine DL.qf rfl (.yes rfl rfl rfl) rfl rfl (Yld.indexAddrN u28 i108 rfl rfl (by omega)) ?_
          refine DL.q rfl (.yes rfl rfl rfl) rfl rfl rfl (Yld.loadN (cs := mtC y) a108 rfl (atNM (fun q z hq => hg.cell (hc2 q z hq) (fun h => h)) (fun h => h))) ((Mod.drew No _).trans hg6) ?_
          iterate 2 refine DL.qf rfl (.yes rfl rfl rfl) rfl rfl (Yld.pure rfl) ?_
          refine DL.qf rfl (.yes rfl rfl rfl) rfl rfl (Yld.indexAddrN u28 i108 rfl rfl (by omega)) ?_
          refine DL.q rfl (.yes rfl rfl rfl) rfl rfl rfl (Yld.loadN (cs := mtC x) a108 rfl (atNM (fun q z hq => hg.cell (hc1 q z hq) (fun h => h)) (fun h => h))) ((Mod.drew No _).trans hg6) ?_
          refine DL.op rfl (.yes rfl rfl rfl) rfl rfl (Does.call rfl e78 (before_ok y x _)) ?_
          rintro _ w7 ⟨rfl, hg7⟩
          have hg8 := hg.trans (((Mod.drew No _).trans hg6).trans hg7)
          refine ⟨((Mod.drew No _).trans hg6).trans hg7, ?_⟩
          iterate 2 refine DL.qf rfl (.yes rfl rfl rfl) rfl rfl (Yld.pure rfl) ?_
          refine DL.p rfl rfl rfl ?_
          refine DL.done ?_
          first | refine RK.condD rfl (fun h33 => ?_) (fun h33 => ?_) | refine RK.condN rfl (fun h33 => ?_) (fun h33 => ?_) | refine RK.cond rfl (fun h33 => ?_) (fun h33 => ?_)
          · refine RK.seq ?_
            refine RK.region ?_
            refine RL.p rfl rfl ?_
            refine RL.done ?_
            refine RK.ret_of Tryz.func31 (res1 rfl rfl) ?_ _
            exact ⟨_, rfl, by rw [listM_no (i := j + 1) (by omega) (by rw [okM_s hx hy, hix, show aheadM y x = false by simpa using h33]; rfl)], hg8⟩
          · have hay : aheadM y x = true := by simpa using h33
            refine RK.skip ?_
            refine RK.inBlock ?_
            refine RK.region ?_
            iterate 2 refine RL.p rfl rfl ?_
            refine RL.re (d := 12) rfl rfl (succ_i64 (by omega)) ?_
            refine RL.p rfl rfl ?_
            refine RL.done ?_
            exact RK.back (ih (j + 1 + 1) _ ⟨hg8, by omega, fun i hi => by by_cases e : i = j + 1; (subst e; rw [okM_s hx hy, hix, hay]; rfl); exact hall i (by omega)⟩ (by omega)) ⟨rfl, rfl, trivial⟩
        · have hk0 : k = 0 := by omega
          subst hk0
          iterate 9 refine DL.no rfl (.no rfl rfl rfl rfl) rfl rfl ?_
          refine DL.lno rfl (.no rfl rfl rfl rfl) rfl rfl ?_
          refine DL.no rfl (.no rfl rfl rfl rfl) rfl rfl ?_
          refine DL.qf rfl (.yes rfl rfl rfl) rfl rfl (Yld.pure rfl) ?_
          refine DL.p rfl rfl rfl ?_
          refine DL.done ?_
          refine RK.condF rfl ?_
          refine RK.skip ?_
          refine RK.inBlock ?_
          refine RK.region ?_
          iterate 2 refine RL.p rfl rfl ?_
          refine RL.re (d := 12) rfl rfl (succ_i64 (by omega)) ?_
          refine RL.p rfl rfl ?_
          refine RL.done ?_
          exact RK.back (ih (0 + 1) _ ⟨hg5, by omega, fun i hi => by by_cases e : i = 0; (subst e; rw [okM_0 hx]; exact hix); omega⟩ (by omega)) ⟨rfl, rfl, trivial⟩
    · refine RK.exit rfl ?_
      refine RK.seq ?_
      refine RK.region ?_
      refine RL.p rfl rfl ?_
      refine RL.done ?_
      refine RK.ret_of Tryz.func31 (res1 rfl rfl) ?_ _
      exact ⟨_, rfl, by rw [listM_yes (by omega) (fun i hi => hall i (by omega))], hg⟩
end Go.Proofs.YtbcbfjnlnmhpbaaGreat
