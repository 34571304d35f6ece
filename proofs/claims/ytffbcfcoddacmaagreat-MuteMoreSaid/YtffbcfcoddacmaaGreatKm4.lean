/- What the claim stands on, part 4. Of own lemmas only those that it reaches. -/
import Derived.Test.YtffbcfcoddacmaaGreatKm3
set_option linter.unusedVariables false
set_option linter.unusedSimpArgs false
set_option maxHeartbeats 1000000
set_option maxRecDepth 100000
namespace Go.Proofs.YtffbcfcoddacmaaGreat
open Go Go.X Go.Rex
abbrev SlS (M : Nat → Prop) (w : World) (v : Value) (P : List Stp) : Prop := Sl M w v 7 P.length (P.flatMap stC)
theorem check1_ok (P : List Stp) (s : Stp) (hw : W4 s.set) (hs : okS P.length s) (v : Value) (b1 : Nat) (w : World) (hv : SlS No w v P) (hb : Blk w b1 198 [v]) :
    Fx Tryz.prog 232 [stV s, pp b1] w (fun u w' => u = .bool false ∧ Grow w w') := by
  obtain ⟨ad, c, rfl⟩ := hv.shape
  refine enter Tryz.func232 rfl rfl rfl _ (Pick.sub (l := [0, 1]) (.cons rfl (.cons rfl .nil))) ?_
  refine RK.seq ?_
  refine RK.region ?_
  refine RL.op (.free rfl) rfl rfl (Does.box rfl) ?_
  rintro _ w2 ⟨b2, rfl, hn2⟩
  refine RL.p rfl rfl ?_
  refine RL.done ?_
  refine RK.seq ?_
  refine RK.region ?_
  refine RL.q (.free rfl) rfl rfl (Yld.loadN (cs := stC s) a235 rfl (atN (blk0' hn2.blk))) ?_
  refine RL.q (.free rfl) rfl rfl (Yld.load p198 rfl (at1 ((hb.mod hn2.grow (fun h => h)).cell rfl))) ?_
  refine RL.q (.free rfl) rfl rfl (Yld.lenSl u198 rfl) ?_
  refine RL.op (.free rfl) rfl rfl (Does.call rfl e233 (right_ok P.length s false hw (.inl ⟨rfl, hs⟩) _)) ?_
  rintro _ w3 ⟨rfl, hg3⟩
  iterate 2 refine RL.p rfl rfl ?_
  refine RL.done ?_
  refine RK.ret_of Tryz.func232 (res1 rfl rfl) ?_ _
  exact ⟨_, rfl, rfl, hn2.grow.trans hg3⟩
theorem checkI_ok (P : List Stp) (hP : OkP P) (ad : Option Addr) (c : Nat) (b1 : Nat) (w : World) (hv : SlS No w (.slice ad P.length c) P) (hb : Blk w b1 198 [.slice ad P.length c]) :
    Fx Tryz.prog 253 [.slice ad (P.length - 1) c, .func (.func 232) #[] #[pp b1]] w (fun u w' => u = .int .i64 (-1) ∧ Grow w w') := by
  have hle := hP.le
  refine enter Tryz.func253 rfl rfl rfl _ (Pick.sub (l := [0, 1]) (.cons rfl (.cons rfl .nil))) ?_
  refine RK.seq ?_
  refine RK.region ?_
  refine RL.p rfl rfl ?_
  refine RL.done ?_
  iterate 2 refine RK.seq ?_
  refine RK.region ?_
  refine RL.p rfl rfl ?_
  refine RL.q (.free rfl) rfl rfl (Yld.lenSl u198 rfl) ?_
  refine RL.p rfl rfl ?_
  refine RL.done ?_
  refine RK.block ?_
  refine RK.loop (fun k : Nat => [(0, .slice ad (P.length - 1) c), (1, .func (.func 232) #[] #[pp b1]), (7, .int .i64 ((P.length - 1 : Nat) : Int)), (8, .int .i64 k)]) (fun k w' => Grow w w' ∧ k ≤ P.length - 1) (fun k => P.length - 1 - k) 0 ⟨rfl, rfl, rfl, rfl, trivial⟩ ⟨Mod.refl _ _, by omega⟩ (fun k w' hI ih => ?_)
  obtain ⟨hg, hk⟩ := hI
  refine RK.seq ?_
  refine RK.region ?_
  refine RL.p rfl rfl ?_
  refine RL.done ?_
  refine RK.seq ?_
  first | refine RK.condD rfl (fun h9 => ?_) (fun h9 => ?_) | refine RK.condN rfl (fun h9 => ?_) (fun h9 => ?_) | refine RK.cond rfl (fun h9 => ?_) (fun h9 => ?_)
  · obtain ⟨s, hs⟩ : ∃ s, P[k]? = some s := ⟨P[k]'(by omega), List.getElem?_eq_getElem (by omega)⟩
    obtain ⟨hw4, hok⟩ := hP.at_ k s hs
    have hok' : okS P.length s := by rcases hok with ⟨_, h1⟩ | ⟨h1, _⟩; exact h1; omega
    obtain ⟨b2, o2, c2, he, _, _, hcl⟩ := hv.elem stC_len hs
    cases he
    refine RK.skip ?_
    refine RK.seq ?_
    refine RK.block ?_
    refine RK.seq ?_
    refine RK.region ?_
    iterate 2 refine RL.p rfl rfl ?_
    refine RL.done ?_
    refine RK.seq ?_
    refine RK.region ?_
    iterate 3 refine RL.p rfl rfl ?_
    refine RL.q (.free rfl) rfl rfl (Yld.indexAddrN u198 i235 rfl rfl (by omega)) ?_
    refine RL.q (.free rfl) rfl rfl (Yld.loadN (cs := stC s) a235 rfl (atN (fun j u hj => hg.cell (hcl j u hj) (fun h => h)))) ?_
    refine RL.op (.free rfl) rfl rfl (Does.callv rfl rfl e232 (check1_ok P s hw4 hok' _ b1 _ (hv.mod hg) (hb.mod hg (fun h => h)))) ?_
    rintro _ w2 ⟨rfl, hg2⟩
    refine RL.done ?_
    refine RK.condF (hcF rfl (rfl)) ?_
    refine RK.skip ?_
    refine RK.inBlock ?_
    refine RK.region ?_
    refine RL.p rfl rfl ?_
    refine RL.re (d := 18) rfl rfl (succ_i64 (by omega)) ?_
    refine RL.p rfl rfl ?_
    refine RL.done ?_
    exact RK.back (ih (k + 1) _ ⟨hg.trans hg2, by omega⟩ (by omega)) ⟨rfl, rfl, rfl, rfl, trivial⟩
  · refine RK.exit rfl ?_
    refine RK.seq ?_
    refine RK.region ?_
    refine RL.p rfl rfl ?_
    refine RL.done ?_
    refine RK.ret_of Tryz.func253 (res1 rfl rfl) ?_ _
    exact ⟨_, rfl, rfl, hg⟩
theorem checkC_ok (P : List Stp) (hP : OkP P) (ad : Option Addr) (c : Nat) (b1 : Nat) (w : World) (hv : SlS No w (.slice ad P.length c) P) (hb : Blk w b1 198 [.slice ad P.length c]) :
    Fx Tryz.prog 231 [.slice ad (P.length - 1) c, .func (.func 232) #[] #[pp b1]] w (fun u w' => u = .bool false ∧ Grow w w') := by
  refine enter Tryz.func231 rfl rfl rfl _ (Pick.sub (l := [0, 1]) (.cons rfl (.cons rfl .nil))) ?_
  refine RK.seq ?_
  refine RK.region ?_
  refine RL.p rfl rfl ?_
  refine RL.done ?_
  refine RK.seq ?_
  refine RK.region ?_
  iterate 2 refine RL.p rfl rfl ?_
  refine RL.op (.free rfl) rfl rfl (Does.call rfl e253 (checkI_ok P hP ad c b1 _ hv hb)) ?_
  rintro _ w2 ⟨rfl, hg2⟩
  iterate 2 refine RL.p rfl rfl ?_
  refine RL.done ?_
  refine RK.ret_of Tryz.func231 (res1 rfl rfl) ?_ _
  exact ⟨_, rfl, rfl, hg2⟩
theorem check_ok (P : List Stp) (hP : OkP P) (ad : Option Addr) (c : Nat) (hc : P.length ≤ c) (w : World) (hv : SlS No w (.slice ad P.length c) P) :
    Fx Tryz.prog 201 [.slice ad P.length c] w (fun u w' => u = .bool true ∧ Grow w w') := by
  have hle := hP.le
  have h1 := hP.one
  obtain ⟨s, hs⟩ : ∃ s, P[P.length - 1]? = some s := ⟨P[P.length - 1]'(by omega), List.getElem?_eq_getElem (by omega)⟩
  obtain ⟨hw4, hok⟩ := hP.at_ _ s hs
  have hok' : s = matchS := by rcases hok with ⟨h1, _⟩ | ⟨_, h1⟩; omega; exact h1
  obtain ⟨b2, o2, c2, he, _, _, hcl⟩ := hv.elem stC_len hs
  cases he
  refine enter Tryz.func201 rfl rfl rfl _ (Pick.sub (l := [0]) (.cons rfl .nil)) ?_
  refine RK.seq ?_
  refine RK.region ?_
  refine RL.op (.free rfl) rfl rfl (Does.box rfl) ?_
  rintro _ w1 ⟨b1, rfl, hn1⟩
  have hB1 := hn1.blk
  refine RL.p rfl rfl ?_
  refine RL.done ?_
  iterate 2 refine RK.seq ?_
  refine RK.region ?_
  refine RL.q (.free rfl) rfl rfl (Yld.load p198 rfl (at1 (hB1.cell rfl))) ?_
  refine RL.q (.free rfl) rfl rfl (Yld.lenSl u198 rfl) ?_
  iterate 2 refine RL.p rfl rfl ?_
  refine RL.knownF (d := 7) rfl rfl (decide_eq_false (by omega)) ?_
  refine RL.q (.yes rfl rfl rfl) rfl rfl (Yld.load p198 rfl (at1 (hB1.cell rfl))) ?_
  refine RL.q (.yes rfl rfl rfl) rfl rfl (Yld.lenSl u198 rfl) ?_
  refine RL.q (.yes rfl rfl rfl) rfl rfl (Yld.pure rfl) ?_
  refine RL.p rfl rfl ?_
  refine RL.done ?_
  refine RK.condF (hcF rfl (decide_eq_false (by omega))) ?_
  refine RK.skip ?_
  refine RK.seq ?_
  refine RK.region ?_
  refine RL.q (.free rfl) rfl rfl (Yld.load p198 rfl (at1 (hB1.cell rfl))) ?_
  refine RL.q (.free rfl) rfl rfl (Yld.lenSl u198 rfl) ?_
  refine RL.p rfl rfl ?_
  refine RL.re (d := 14) rfl rfl (sub_i64 (z := ((P.length - 1 : Nat) : Int)) (by omega) (by omega) (by omega)) ?_
  refine RL.p rfl rfl ?_
  refine RL.done ?_
  refine RK.seq ?_
  refine RK.drawM No [(0, false), (1, false), (2, false), (3, false), (4, true), (5, false), (6, false), (7, false), (8, false), (9, false), (10, false), (11, false), (12, false), (13, true), (14, false), (15, false)] [] mixed (by kernel_rfl) ?_
  refine DL.q rfl (.free rfl) rfl rfl rfl (Yld.load p198 rfl (atM (hB1.cell rfl) (fun h => h))) (Mod.drew _ _) ?_
  refine DL.p rfl rfl rfl ?_
  refine DL.qf rfl (.free rfl) rfl rfl (Yld.sliceHi u198 i235 (m := P.length - 1) rfl rfl (by omega)) ?_
  refine DL.p rfl rfl rfl ?_
  refine DL.op rfl (.free rfl) rfl rfl (Does.call rfl e231 (checkC_ok P hP _ c b1 _ (hv.mod (hn1.grow.trans (Mod.drew _ _))) (hB1.mod (Mod.drew No _) (fun h => h)))) ?_
  rintro _ w2 ⟨rfl, hg2⟩
  have hgd : Grow w1 w2 := (Mod.drew _ _).trans hg2
  refine ⟨hgd, ?_⟩
  iterate 2 refine DL.p rfl rfl rfl ?_
  refine DL.knownT (d := 21) rfl rfl (rfl) ?_
  refine DL.q rfl (.yes rfl rfl rfl) rfl rfl rfl (Yld.load p198 rfl (atM (hB1.cell rfl) (fun h => h))) (hgd) ?_
  refine DL.qf rfl (.yes rfl rfl rfl) rfl rfl (Yld.pure rfl) ?_
  refine DL.qf rfl (.yes rfl rfl rfl) rfl rfl (Yld.indexAddrN u198 i235 rfl rfl (by omega)) ?_
  refine DL.q rfl (.yes rfl rfl rfl) rfl rfl rfl (Yld.loadN (cs := stC s) a235 rfl (atNM (fun j u hj => (hn1.grow).cell (hcl j u hj) (fun h => h)) (fun h => h))) (hgd) ?_
  refine DL.q rfl (.yes rfl rfl rfl) rfl rfl rfl (Yld.load p198 rfl (atM (hB1.cell rfl) (fun h => h))) (hgd) ?_
  refine DL.q rfl (.yes rfl rfl rfl) rfl rfl rfl (Yld.lenSl u198 rfl) (hgd) ?_
  refine DL.op rfl (.yes rfl rfl rfl) rfl rfl (Does.call rfl e233 (right_ok P.length s true hw4 (.inr ⟨rfl, hok'⟩) _)) ?_
  rintro _ w3 ⟨rfl, hg3⟩
  refine ⟨hgd.trans hg3, ?_⟩
  iterate 2 refine DL.p rfl rfl rfl ?_
  refine DL.done ?_
  refine RK.ret_of Tryz.func201 (res1 rfl rfl) ?_ _
  exact ⟨_, rfl, rfl, (hn1.grow.trans hgd).trans hg3⟩
theorem lt64 {a b : Nat} (ha : a < 18446744073709551616) (hb : b < 18446744073709551616) : a ||| b < 18446744073709551616 := Nat.or_lt_two_pow (n := 64) ha hb
theorem sh64 {c : Nat} (hc : c < 64) : 1 <<< c < 18446744073709551616 := by
  rw [Nat.shiftLeft_eq, Nat.one_mul]; exact Nat.pow_lt_pow_right (m := c) (n := 64) (by omega) hc
theorem shr64 {a : Nat} (ha : a < 18446744073709551616) (c : Nat) : a >>> c < 18446744073709551616 := Nat.lt_of_le_of_lt (Nat.shiftRight_le a c) ha
abbrev PU (w : World) (bp been : Nat) : Prop := Blk w bp 36 [.int .u64 (been : Int)]
theorem come_ok (P : List Stp) (hP : OkP P) (v : Value) (bp : Nat) : ∀ (m at_ been : Nat), miss P.length been ≤ m → at_ < P.length → been < 18446744073709551616 → ∀ w, SlS (· = bp) w v P → PU w bp been → Fx Tryz.prog 234 [v, .int .i64 (at_ : Int), pp bp] w (fun u w' => ∃ r b' : Nat, u = .int .u64 (r : Int) ∧ r < 18446744073709551616 ∧ b' < 18446744073709551616 ∧ Come P at_ been r b' ∧ PU w' bp b' ∧ Mod (· = bp) w w') := by
  intro m
  induction m with
  | zero =>
    intro at_ been hm hat hbe w hv hb
    have hat2 : been.testBit at_ = true := by
      cases hbt : been.testBit at_ with
      | true => rfl
      | false =>
        have := miss_lt (n := P.length) (been := been) (b' := been ||| 1 <<< at_) hat hbt (fun v hv => bit_or.2 (.inl hv)) (bit_or.2 (.inr rfl))
        omega
    have hle := hP.le
    refine enter Tryz.func234 rfl rfl rfl _ (Pick.sub (l := [0, 1, 2]) (.cons rfl (.cons rfl (.cons rfl .nil)))) ?_
    refine RK.seq ?_
    refine RK.region ?_
    refine RL.p rfl rfl ?_
    refine RL.done ?_
    iterate 2 refine RK.seq ?_
    refine RK.region ?_
    iterate 2 refine RL.p rfl rfl ?_
    refine RL.q (.free rfl) rfl rfl (Yld.load p36 rfl (at1 (hb.cell rfl))) ?_
    refine RL.p rfl rfl ?_
    refine RL.q (.free rfl) rfl rfl (Yld.shr rfl rfl (by simp [IntKind.bits]; omega)) ?_
    refine RL.p rfl rfl ?_
    refine RL.re (d := 13) rfl rfl (congrArg (Value.int .u64) (Go.X.u64_and (b := 1) (shr64 hbe at_) (by decide))) ?_
    refine RL.p rfl rfl ?_
    refine RL.done ?_
    refine RK.condT (hcT rfl (decide_eq_true ((bit1I been at_).2 hat2))) ?_
    refine RK.seq ?_
    refine RK.region ?_
    refine RL.p rfl rfl ?_
    refine RL.done ?_
    refine RK.ret_of Tryz.func234 (res1 rfl rfl) ?_ _
    exact ⟨_, rfl, 0, been, rfl, by omega, hbe, Come.there hat2, hb, Mod.refl _ _⟩
  | succ m ihm =>
    intro at_ been hm hat hbe w hv hb
    have hle := hP.le
    obtain ⟨s, hs⟩ : ∃ s, P[at_]? = some s := ⟨P[at_]'hat, List.getElem?_eq_getElem hat⟩
    obtain ⟨hw4, hok⟩ := hP.at_ at_ s hs
    obtain ⟨b2, o2, c2, rfl, hb2, _, hcl⟩ := hv.elem stC_len hs
    obtain ⟨op, t, sa, sb⟩ := s
    obtain ⟨x0, x1, x2, x3, rfl⟩ := W4.four hw4
    refine enter Tryz.func234 rfl rfl rfl _ (Pick.sub (l := [0, 1, 2]) (.cons rfl (.cons rfl (.cons rfl .nil)))) ?_
    refine RK.seq ?_
    refine RK.region ?_
    refine RL.p rfl rfl ?_
    refine RL.done ?_
    iterate 2 refine RK.seq ?_
    refine RK.region ?_
    iterate 2 refine RL.p rfl rfl ?_
    refine RL.q (.free rfl) rfl rfl (Yld.load p36 rfl (at1 (hb.cell rfl))) ?_
    refine RL.p rfl rfl ?_
    refine RL.q (.free rfl) rfl rfl (Yld.shr rfl rfl (by simp [IntKind.bits]; omega)) ?_
    refine RL.p rfl rfl ?_
    refine RL.re (d := 13) rfl rfl (congrArg (Value.int .u64) (Go.X.u64_and (b := 1) (shr64 hbe at_) (by decide))) ?_
    refine RL.p rfl rfl ?_
    refine RL.done ?_
    first | refine RK.condD rfl (fun h14 => ?_) (fun h14 => ?_) | refine RK.condN rfl (fun h14 => ?_) (fun h14 => ?_) | refine RK.cond rfl (fun h14 => ?_) (fun h14 => ?_)
    · refine RK.seq ?_
      refine RK.region ?_
      refine RL.p rfl rfl ?_
      refine RL.done ?_
      refine RK.ret_of Tryz.func234 (res1 rfl rfl) ?_ _
      exact ⟨_, rfl, 0, been, rfl, by omega, hbe, Come.there ((bit1I been at_).1 h14), hb, Mod.refl _ _⟩
    · have hbt : been.testBit at_ = false := by
          cases hx : been.testBit at_ with
          | false => rfl
          | true => exact absurd ((bit1I been at_).2 hx) h14
      have hlt := miss_lt (n := P.length) (been := been) (b' := been ||| 1 <<< at_) hat hbt (fun v hv => bit_or.2 (.inl hv)) (bit_or.2 (.inr rfl))
      have hsh := sh64 (c := at_) (by omega)
      have hbe1 := lt64 hbe hsh
      refine RK.skip ?_
      refine RK.seq ?_
      refine RK.drawM (· = bp) [(0, false), (1, false), (3, false), (4, false), (2, true), (5, false), (6, false), (7, true)] [7] mixed (by kernel_rfl) ?_
      iterate 3 refine DL.p rfl rfl rfl ?_
      refine DL.qf rfl (.free rfl) rfl rfl (Yld.shl (a := 1) rfl rfl (by simp [IntKind.bits]; omega)) ?_
      refine DL.re (d := 19) rfl rfl (congrArg (Value.int .u64) (Go.X.wrap_u64 hsh)) ?_
      refine DL.lq rfl (.free rfl) rfl rfl (Yld.load p36 rfl (at1 (hb.cell rfl))) ?_
      refine DL.p rfl rfl rfl ?_
      refine DL.re (d := 20) rfl rfl (congrArg (Value.int .u64) (Go.X.u64_or hbe hsh)) ?_
      refine DL.p rfl rfl rfl ?_
      refine DL.opT rfl (.free rfl) rfl rfl (Does.store i36 rfl rfl rfl hb (.z)) ?_
      rintro _ w1 ⟨hb1, hm1, _⟩
      have hm01 : Mod (· = bp) w w1 := (Mod.drew _ _).trans hm1
      have hb1' : PU w1 bp (been ||| 1 <<< at_) := hb1
      have hv1 := hv.mod hm01
      refine DL.done ?_
      iterate 2 refine RK.seq ?_
      refine RK.region ?_
      iterate 2 refine RL.p rfl rfl ?_
      refine RL.q (.free rfl) rfl rfl (Yld.indexAddrN u198 i235 rfl rfl (hat)) ?_
      refine RL.q (.free rfl) rfl rfl (Yld.loadN (cs := stC ⟨op, [x0, x1, x2, x3], sa, sb⟩) a235 rfl (atN (fun j u hj => hm01.cell (hcl j u hj) hb2))) ?_
      refine RL.op (.free rfl) rfl rfl (Does.alloc i235) ?_
      rintro _ w2 ⟨b7, rfl, hn7⟩
      have hbpl := hb.lt
      have hs01 := hm01.size
      have hb7 := hn7.at_
      have hb7p : ¬ b7 = bp := by omega
      refine RL.op' (.free rfl) rfl (Does.storeN i235 rfl rfl rfl rfl hn7.blk (Nat.le_refl 7)) ?_
      rintro _ w3 ⟨hb3, hm3, _⟩
      have hB3 : Blk w3 b7 235 [.int .i64 (op : Int), .int .u64 (x0 : Int), .int .u64 (x1 : Int), .int .u64 (x2 : Int), .int .u64 (x3 : Int), .int .i64 (sa : Int), .int .i64 (sb : Int)] := hb3
      have hg3 : Grow w1 w3 := hn7.grow.then hm3 (fun y hy e => by have e' : y = b7 := e; omega)
      have hb3' := hb1'.mod hg3 (fun h => h)
      have hv3 := hv1.mod (Mod.any' hg3)
      have hm03 : Mod (· = bp) w w3 := hm01.trans (Mod.any' hg3)
      refine RL.done ?_
      refine RK.seq ?_
      refine RK.region ?_
      refine RL.q (.free rfl) rfl rfl (Yld.fieldAddr fo235_0 rfl) ?_
      refine RL.q (.free rfl) rfl rfl (Yld.load p3 rfl (at1 (hB3.cell rfl))) ?_
      refine RL.done ?_
      refine RK.block ?_
      refine RK.seq ?_
      refine RK.region ?_
      iterate 2 refine RL.p rfl rfl ?_
      refine RL.done ?_
      first | refine RK.condD rfl (fun h28 => ?_) (fun h28 => ?_) | refine RK.condN rfl (fun h28 => ?_) (fun h28 => ?_) | refine RK.cond rfl (fun h28 => ?_) (fun h28 => ?_)
      · have ho : op = 2 := by omega
        subst ho
        have hab : sa < P.length ∧ sb < P.length := by
            rcases hok with ⟨_, h1⟩ | ⟨_, h1⟩
            · rcases h1 with ⟨h2, _⟩ | ⟨_, h2, h3, _⟩ | ⟨h2, _⟩
              · cases h2
              · exact ⟨h2, h3⟩
              · cases h2
            · cases h1
        refine RK.seq ?_
        refine RK.drawM (· = bp) [(0, false), (1, false), (2, false), (3, false), (5, false), (6, false), (7, false), (8, false), (4, true), (9, true), (10, false), (11, false)] [] mixed (by kernel_rfl) ?_
        refine DL.p rfl rfl rfl ?_
        refine DL.qf rfl (.free rfl) rfl rfl (Yld.fieldAddr fo235_2 rfl) ?_
        refine DL.q rfl (.free rfl) rfl rfl rfl (Yld.load p3 rfl (atM (hB3.cell rfl) (hb7p))) (Mod.drew _ _) ?_
        iterate 2 refine DL.p rfl rfl rfl ?_
        refine DL.qf rfl (.free rfl) rfl rfl (Yld.fieldAddr fo235_3 rfl) ?_
        refine DL.q rfl (.free rfl) rfl rfl rfl (Yld.load p3 rfl (atM (hB3.cell rfl) (hb7p))) (Mod.drew _ _) ?_
        refine DL.p rfl rfl rfl ?_
        refine DL.op rfl (.free rfl) rfl rfl (Does.call rfl e234 (ihm sa (been ||| 1 <<< at_) (by omega) hab.1 hbe1 _ (hv3.mod (Mod.drew _ _)) (hb3'.mod (Mod.drew No _) (fun h => h)))) ?_
        rintro _ w4 ⟨r1, b1, rfl, hr1, hb1l, hc1, hb4, hm4⟩
        have hm34 : Mod (· = bp) w3 w4 := (Mod.drew _ _).trans hm4
        refine ⟨hm34, ?_⟩
        have hlt2 := miss_lt (n := P.length) (been := been) (b' := b1) hat hbt (fun v hv => hc1.sub v (bit_or.2 (.inl hv))) (hc1.sub _ (bit_or.2 (.inr rfl)))
        refine DL.op rfl (.free rfl) rfl rfl (Does.call rfl e234 (ihm sb b1 (by omega) hab.2 hb1l _ (hv3.mod hm34) hb4)) ?_
        rintro _ w5 ⟨r2, b5, rfl, hr2, hb5l, hc2, hb5, hm5⟩
        refine ⟨hm34.trans hm5, ?_⟩
        refine DL.p rfl rfl rfl ?_
        refine DL.re (d := 40) rfl rfl (congrArg (Value.int .u64) (Go.X.u64_or hr1 hr2)) ?_
        refine DL.p rfl rfl rfl ?_
        refine DL.done ?_
        refine RK.ret_of Tryz.func234 (res1 rfl rfl) ?_ _
        exact ⟨_, rfl, r1 ||| r2, b5, rfl, lt64 hr1 hr2, hb5l, Come.split hbt hs rfl hc1 hc2, hb5, (hm03.trans hm34).trans hm5⟩
      · refine RK.seq ?_
        refine RK.region ?_
        iterate 2 refine RL.p rfl rfl ?_
        refine RL.done ?_
        first | refine RK.condD rfl (fun h41 => ?_) (fun h41 => ?_) | refine RK.condN rfl (fun h41 => ?_) (fun h41 => ?_) | refine RK.cond rfl (fun h41 => ?_) (fun h41 => ?_)
        · have ho : op = 3 := by omega
          subst ho
          have hab : sa < P.length := by
              rcases hok with ⟨_, h1⟩ | ⟨_, h1⟩
              · rcases h1 with ⟨h2, _⟩ | ⟨h2, _⟩ | ⟨_, h2, _⟩
                · cases h2
                · cases h2
                · exact h2
              · cases h1
          refine RK.seq ?_
          refine RK.region ?_
          refine RL.p rfl rfl ?_
          refine RL.q (.free rfl) rfl rfl (Yld.fieldAddr fo235_2 rfl) ?_
          refine RL.q (.free rfl) rfl rfl (Yld.load p3 rfl (at1 (hB3.cell rfl))) ?_
          refine RL.p rfl rfl ?_
          refine RL.op (.free rfl) rfl rfl (Does.call rfl e234 (ihm sa (been ||| 1 <<< at_) (by omega) hab hbe1 _ hv3 hb3')) ?_
          rintro _ w4 ⟨r1, b1, rfl, hr1, hb1l, hc1, hb4, hm4⟩
          refine RL.p rfl rfl ?_
          refine RL.done ?_
          refine RK.ret_of Tryz.func234 (res1 rfl rfl) ?_ _
          exact ⟨_, rfl, r1, b1, rfl, hr1, hb1l, Come.jump hbt hs rfl hc1, hb4, hm03.trans hm4⟩
        · refine RK.skip ?_
          refine RK.inBlock ?_
          refine RK.seq ?_
          refine RK.region ?_
          refine RL.p rfl rfl ?_
          refine RL.q (.free rfl) rfl rfl (Yld.shl (a := 1) rfl rfl (by simp [IntKind.bits]; omega)) ?_
          refine RL.re (d := 49) rfl rfl (congrArg (Value.int .u64) (Go.X.wrap_u64 hsh)) ?_
          refine RL.p rfl rfl ?_
          refine RL.done ?_
          refine RK.ret_of Tryz.func234 (res1 rfl rfl) ?_ _
          exact ⟨_, rfl, 1 <<< at_, been ||| 1 <<< at_, rfl, hsh, hbe1, Come.leaf hbt ⟨_, hs, by show op ≠ 2; omega, by show op ≠ 3; omega⟩, hb3', hm03⟩
theorem start_ok (P : List Stp) (hP : OkP P) (H : List Nat → Nat → Prop) (v : Value) (w : World) (hv : SlS No w v P) : Fx Tryz.prog 202 [v] w (fun u w' => ∃ r : Nat, u = .int .u64 (r : Int) ∧ r < 18446744073709551616 ∧ Now P H 0 r ∧ Grow w w') := by
  have h1 := hP.one
  refine enter Tryz.func202 rfl rfl rfl _ (Pick.sub (l := [0]) (.cons rfl .nil)) ?_
  refine RK.seq ?_
  refine RK.region ?_
  refine RL.p rfl rfl ?_
  refine RL.done ?_
  refine RK.seq ?_
  refine RK.region ?_
  refine RL.op (.free rfl) rfl rfl (Does.alloc i36) ?_
  rintro _ w1 ⟨b3, rfl, hn3⟩
  refine RL.op' (.free rfl) rfl (Does.store i36 rfl rfl rfl hn3.blk (.z)) ?_
  rintro _ w2 ⟨hb2, hm2, _⟩
  have hb3 := hn3.at_
  have hg2 : Grow w w2 := hn3.grow.then hm2 (fun y hy e => by have e' : y = b3 := e; omega)
  refine RL.done ?_
  refine RK.seq ?_
  refine RK.region ?_
  refine RL.p rfl rfl ?_
  refine RL.op (.free rfl) rfl rfl (Does.call rfl e234 (come_ok P hP v b3 _ 0 0 (Nat.le_refl _) h1 (by omega) _ (hv.pass (by omega) hg2 (fun b e => .inr (by have e' : b = b3 := e; omega))) hb2)) ?_
  rintro _ w3 ⟨r, b', rfl, hr, hb', hc, hb3', hm3⟩
  refine RL.p rfl rfl ?_
  refine RL.done ?_
  refine RK.ret_of Tryz.func202 (res1 rfl rfl) ?_ _
  exact ⟨_, rfl, r, rfl, hr, Now.start hc, hg2.then hm3 (fun y hy e => by have e' : y = b3 := e; omega)⟩
end Go.Proofs.YtffbcfcoddacmaaGreat
set_option linter.unusedVariables false
set_option linter.unusedSimpArgs false
set_option maxHeartbeats 1000000
set_option maxRecDepth 100000
namespace Go.Proofs.YtffbcfcoddacmaaGreat
open Go Go.X Go.Rex
theorem next_steps (P : List Stp) (hP : OkP P) (H : List Nat → Nat → Prop) (kk m c : Nat) (hc : c < 256) (hm : m < 18446744073709551616) (hH : ∀ t, H t kk ↔ inB t c = true) (hnow : Now P H kk m) (v : Value) (w : World) (hv : SlS No w v P) : Fx Tryz.prog 203 [v, .int .u64 (m : Int), .int .u8 (c : Int)] w (fun u w' => ∃ r : Nat, u = .int .u64 (r : Int) ∧ r < 18446744073709551616 ∧ Now P H (kk + 1) r ∧ Grow w w') := by
  have hle := hP.le
  obtain ⟨ad, cp, rfl⟩ := hv.shape
  have e1 : IntKind.u8.wrap ((c : Int).tdiv 64) = ((c / 64 : Nat) : Int) := by
    have e2 : (c : Int).tdiv 64 = ((c / 64 : Nat) : Int) := by rw [Int.tdiv_eq_ediv_of_nonneg (by omega)]; omega
    rw [e2]; exact Go.X.wrap_u8 (by omega)
  have e3 : (c : Int).tmod 64 = ((c % 64 : Nat) : Int) := by rw [Int.tmod_eq_emod_of_nonneg (by omega)]; omega
  refine enter Tryz.func203 rfl rfl rfl _ (Pick.sub (l := [0, 1, 2]) (.cons rfl (.cons rfl (.cons rfl .nil)))) ?_
  refine RK.seq ?_
  refine RK.region ?_
  refine RL.p rfl rfl ?_
  refine RL.done ?_
  refine RK.seq ?_
  refine RK.region ?_
  refine RL.op (.free rfl) rfl rfl (Does.alloc i36) ?_
  rintro _ w1 ⟨b7, rfl, hn7⟩
  refine RL.op' (.free rfl) rfl (Does.store i36 rfl rfl rfl hn7.blk (.z)) ?_
  rintro _ w2 ⟨hb2, hm2, _⟩
  have hb7 := hn7.at_
  have hg2 : Grow w w2 := hn7.grow.then hm2 (fun y hy e => by have e' : y = b7 := e; omega)
  have hv2 : SlS (· = b7) w2 (.slice ad P.length cp) P := hv.pass (by omega) hg2 (fun b e => .inr (by have e' : b = b7 := e; omega))
  refine RL.p rfl rfl ?_
  refine RL.done ?_
  iterate 2 refine RK.seq ?_
  refine RK.region ?_
  refine RL.p rfl rfl ?_
  refine RL.q (.free rfl) rfl rfl (Yld.lenSl u198 rfl) ?_
  refine RL.p rfl rfl ?_
  refine RL.done ?_
  refine RK.block ?_
  refine RK.loop (fun s : Nat × Nat × Nat => [(0, .slice ad P.length cp), (1, .int .u64 (m : Int)), (2, .int .u8 (c : Int)), (7, pp b7), (8, .int .u64 (s.2.2 : Int)), (11, .slice ad P.length cp), (12, .int .i64 (P.length : Int)), (13, .int .i64 (s.1 : Int))]) (fun s w' => s.1 ≤ P.length ∧ PU w' b7 s.2.1 ∧ s.2.1 < 18446744073709551616 ∧ s.2.2 < 18446744073709551616 ∧ NextI P H m kk s.1 s.2.1 s.2.2 ∧ Mod (· = b7) w2 w') (fun s => P.length - s.1) (0, 0, 0) ⟨rfl, rfl, rfl, rfl, rfl, rfl, rfl, rfl, trivial⟩ ⟨by simp, hb2, by simp, by simp, NextI.zero, Mod.refl _ _⟩ (fun s w3 hI ih => ?_)
  obtain ⟨i, been, to⟩ := s
  obtain ⟨hi, hb3, hbe, hto, hN, hm3⟩ := hI
  simp only at hi hb3 hbe hto hN
  refine RK.seq ?_
  refine RK.region ?_
  refine RL.p rfl rfl ?_
  refine RL.done ?_
  refine RK.seq ?_
  first | refine RK.condD rfl (fun h14 => ?_) (fun h14 => ?_) | refine RK.condN rfl (fun h14 => ?_) (fun h14 => ?_) | refine RK.cond rfl (fun h14 => ?_) (fun h14 => ?_)
  · have hil : i < P.length := by simp only at h14; omega
    obtain ⟨s, hs⟩ : ∃ s, P[i]? = some s := ⟨P[i]'hil, List.getElem?_eq_getElem hil⟩
    obtain ⟨hw4, hok⟩ := hP.at_ i s hs
    obtain ⟨b2, o2, c2, he, hb2n, _, hcl⟩ := hv2.elem stC_len hs
    cases he
    obtain ⟨op, t, sa, sb⟩ := s
    obtain ⟨x0, x1, x2, x3, hte⟩ := W4.four hw4
    simp only at hte
    subst hte
    refine RK.skip ?_
    refine RK.seq ?_
    refine RK.block ?_
    refine RK.seq ?_
    refine RK.region ?_
    refine RL.p rfl rfl ?_
    refine RL.q (.free rfl) rfl rfl (Yld.indexAddrN u198 i235 rfl rfl (hil)) ?_
    refine RL.q (.free rfl) rfl rfl (Yld.loadN (cs := stC ⟨op, [x0, x1, x2, x3], sa, sb⟩) a235 rfl (atN (fun j u hj => hm3.cell (hcl j u hj) hb2n))) ?_
    refine RL.op (.free rfl) rfl rfl (Does.alloc i235) ?_
    rintro _ w4 ⟨b10, rfl, hn10⟩
    refine RL.p rfl rfl ?_
    refine RL.op' (.free rfl) rfl (Does.storeN i235 rfl rfl rfl rfl hn10.blk (Nat.le_refl 7)) ?_
    rintro _ w5 ⟨hb5, hm5, _⟩
    have hb7l := hb3.lt
    have hb10 := hn10.at_
    have hB5 : Blk w5 b10 235 [.int .i64 (op : Int), .int .u64 (x0 : Int), .int .u64 (x1 : Int), .int .u64 (x2 : Int), .int .u64 (x3 : Int), .int .i64 (sa : Int), .int .i64 (sb : Int)] := hb5
    have hg5 : Grow w3 w5 := hn10.grow.then hm5 (fun y hy e => by have e' : y = b10 := e; omega)
    have hb5' := hb3.mod hg5 (fun h => h)
    have hm25 : Mod (· = b7) w2 w5 := hm3.trans (Mod.any' hg5)
    obtain ⟨y, hy⟩ : ∃ y, [x0, x1, x2, x3][c / 64]? = some y := ⟨_, List.getElem?_eq_getElem (by show c / 64 < 4; omega)⟩
    have hyl := hw4.2 y (List.mem_of_getElem? hy)
    have hcy : w5.cell? ⟨b10, 0 + 1 + c / 64 * 1, none⟩ = some (.int .u64 (y : Int)) := by
        rw [Nat.mul_one]; exact blk_set4s hB5 (c / 64) _ (by rw [List.getElem?_map, hy]; rfl)
    have hin : inB [x0, x1, x2, x3] c = y.testBit (c % 64) := by unfold inB; rw [hy]; rfl
    refine RL.done ?_
    refine RK.seq ?_
    refine RK.region ?_
    iterate 2 refine RL.p rfl rfl ?_
    refine RL.q (.free rfl) rfl rfl (Yld.shr rfl rfl (by simp [IntKind.bits]; omega)) ?_
    refine RL.p rfl rfl ?_
    refine RL.re (d := 21) rfl rfl (congrArg (Value.int .u64) (Go.X.u64_and (b := 1) (shr64 hm i) (by decide))) ?_
    iterate 2 refine RL.p rfl rfl ?_
    first | refine RL.splitD (d := 23) rfl rfl (fun h23 => ?_) (fun h23 => ?_) | refine RL.splitN (d := 23) rfl rfl (fun h23 => ?_) (fun h23 => ?_) | refine RL.split (d := 23) rfl rfl (fun h23 => ?_) (fun h23 => ?_)
    · have hbit := (bit1I m i).1 h23
      refine RL.q (.yes rfl rfl rfl) rfl rfl (Yld.fieldAddr fo235_0 rfl) ?_
      refine RL.q (.yes rfl rfl rfl) rfl rfl (Yld.load p3 rfl (at1 (hB5.cell rfl))) ?_
      refine RL.q (.yes rfl rfl rfl) rfl rfl (Yld.pure rfl) ?_
      iterate 2 refine RL.p rfl rfl ?_
      first | refine RL.splitD (d := 28) rfl rfl (fun h28 => ?_) (fun h28 => ?_) | refine RL.splitN (d := 28) rfl rfl (fun h28 => ?_) (fun h28 => ?_) | refine RL.split (d := 28) rfl rfl (fun h28 => ?_) (fun h28 => ?_)
      · have ho : op = 1 := by have h := h28; omega
        subst ho
        have hil1 : i + 1 < P.length := by
            rcases hok with ⟨h1, _⟩ | ⟨_, h1⟩
            · exact h1
            · cases h1
        refine RL.q (.yes rfl rfl rfl) rfl rfl (Yld.pure rfl) ?_
        refine RL.q (.yes rfl rfl rfl) rfl rfl (Yld.quo rfl rfl (by omega)) ?_
        refine RL.re (d := 30) rfl rfl (congrArg (Value.int .u8) e1) ?_
        refine RL.q (.yes rfl rfl rfl) rfl rfl (Yld.fieldAddr fo235_1 rfl) ?_
        refine RL.q (.yes rfl rfl rfl) rfl rfl (Yld.indexArr Tryz.underlying207 i36 rfl rfl (by omega)) ?_
        refine RL.q (.yes rfl rfl rfl) rfl rfl (Yld.load p36 rfl (at1 (hcy))) ?_
        refine RL.q (.yes rfl rfl rfl) rfl rfl (Yld.pure rfl) ?_
        refine RL.q (.yes rfl rfl rfl) rfl rfl (Yld.rem rfl rfl (by omega)) ?_
        refine RL.re (d := 35) rfl rfl (congrArg (Value.int .u8) e3) ?_
        refine RL.q (.yes rfl rfl rfl) rfl rfl (Yld.shr rfl rfl (by simp [IntKind.bits]; omega)) ?_
        refine RL.q (.yes rfl rfl rfl) rfl rfl (Yld.pure rfl) ?_
        refine RL.re (d := 37) rfl rfl (congrArg (Value.int .u64) (Go.X.u64_and (b := 1) (shr64 hyl (c % 64)) (by decide))) ?_
        refine RL.q (.yes rfl rfl rfl) rfl rfl (Yld.pure rfl) ?_
        refine RL.p rfl rfl ?_
        refine RL.done ?_
        first | refine RK.condD rfl (fun h39 => ?_) (fun h39 => ?_) | refine RK.condN rfl (fun h39 => ?_) (fun h39 => ?_) | refine RK.cond rfl (fun h39 => ?_) (fun h39 => ?_)
        · have hin1 := hin.trans ((bit1I y (c % 64)).1 h39)
          refine RK.region ?_
          iterate 4 refine RL.p rfl rfl ?_
          refine RL.re (d := 43) rfl rfl (succ_i64 (by omega)) ?_
          refine RL.op (.free rfl) rfl rfl (Does.call rfl e234 (come_ok P hP _ b7 _ (i + 1) been (Nat.le_refl _) hil1 hbe _ (hv2.mod hm25) hb5')) ?_
          rintro _ w6 ⟨r, b', rfl, hr, hb', hcome, hb6, hm6⟩
          refine RL.p rfl rfl ?_
          refine RL.re (d := 45) rfl rfl (congrArg (Value.int .u64) (Go.X.u64_or hto hr)) ?_
          refine RL.p rfl rfl ?_
          refine RL.done ?_
          refine RK.inBlock ?_
          refine RK.region ?_
          refine RL.p rfl rfl ?_
          refine RL.re (d := 46) rfl rfl (succ_i64 (by omega)) ?_
          refine RL.p rfl rfl ?_
          refine RL.done ?_
          exact RK.back (ih (i + 1, b', to ||| r) _ ⟨by simp only; omega, hb6, hb', lt64 hto hr, hN.yes hbit hs rfl ((hH _).2 hin1) hcome, hm25.trans hm6⟩ (by simp only; omega)) ⟨rfl, rfl, rfl, rfl, rfl, rfl, rfl, rfl, trivial⟩
        · refine RK.skip ?_
          refine RK.inBlock ?_
          refine RK.region ?_
          refine RL.p rfl rfl ?_
          refine RL.re (d := 46) rfl rfl (succ_i64 (by omega)) ?_
          refine RL.p rfl rfl ?_
          refine RL.done ?_
          exact RK.back (ih (i + 1, been, to) _ ⟨by simp only; omega, hb5', hbe, hto, hN.no fun st h1 h2 h3 h4 => by
              rw [hs] at h2; cases h2
              have h5 := (hH _).1 h4
              rw [hin] at h5
              exact h39 ((bit1I y (c % 64)).2 h5)
            , hm25⟩ (by simp only; omega)) ⟨rfl, rfl, rfl, rfl, rfl, rfl, rfl, rfl, trivial⟩
      · iterate 10 refine RL.no (.no rfl rfl rfl rfl) rfl rfl ?_
        refine RL.p rfl rfl ?_
        refine RL.done ?_
        refine RK.condF (hcF rfl (rfl)) ?_
        refine RK.skip ?_
        refine RK.inBlock ?_
        refine RK.region ?_
        refine RL.p rfl rfl ?_
        refine RL.re (d := 46) rfl rfl (succ_i64 (by omega)) ?_
        refine RL.p rfl rfl ?_
        refine RL.done ?_
        exact RK.back (ih (i + 1, been, to) _ ⟨by simp only; omega, hb5', hbe, hto, hN.no fun st h1 h2 h3 h4 => by
            rw [hs] at h2; cases h2
            have h := h28; simp only at h3; omega
          , hm25⟩ (by simp only; omega)) ⟨rfl, rfl, rfl, rfl, rfl, rfl, rfl, rfl, trivial⟩
    · iterate 3 refine RL.no (.no rfl rfl rfl rfl) rfl rfl ?_
      iterate 2 refine RL.p rfl rfl ?_
      iterate 10 refine RL.no (.no rfl rfl rfl rfl) rfl rfl ?_
      refine RL.p rfl rfl ?_
      refine RL.done ?_
      refine RK.condF (hcF rfl (rfl)) ?_
      refine RK.skip ?_
      refine RK.inBlock ?_
      refine RK.region ?_
      refine RL.p rfl rfl ?_
      refine RL.re (d := 46) rfl rfl (succ_i64 (by omega)) ?_
      refine RL.p rfl rfl ?_
      refine RL.done ?_
      exact RK.back (ih (i + 1, been, to) _ ⟨by simp only; omega, hb5', hbe, hto, hN.no fun st h1 h2 h3 h4 => h23 ((bit1I m i).2 h1), hm25⟩ (by simp only; omega)) ⟨rfl, rfl, rfl, rfl, rfl, rfl, rfl, rfl, trivial⟩
  · have hie : i = P.length := by simp only at h14; omega
    subst hie
    refine RK.exit rfl ?_
    refine RK.seq ?_
    refine RK.region ?_
    iterate 2 refine RL.p rfl rfl ?_
    refine RL.done ?_
    refine RK.ret_of Tryz.func203 (res1 rfl rfl) ?_ _
    exact ⟨_, rfl, to, rfl, hto, hnow.next hN, hg2.then hm3 (fun y hy e => by have e' : y = b7 := e; omega)⟩
theorem scanMatch_ok (x : Rx) (ht : Tr false x) (hsz : sz x + 1 ≤ 40) (v : Value) (s : ByteArray) (hs : s.size ≤ 9223372036854775806) (w : World) (hv : SlS No w v (whole x)) (hcap : ∃ ad c, v = .slice ad (whole x).length c ∧ (whole x).length ≤ c) : Fx Tryz.prog 167 [v, .string s] w (fun u w' => u = .bool (takes x s) ∧ Grow w w') := by
  have hP := whole_ok ht hsz
  have hw := tr_wf x false ht
  obtain ⟨P, hPe⟩ : ∃ P, whole x = P := ⟨_, rfl⟩
  have hle := hP.le
  rw [hPe] at hP hv hcap hle
  obtain ⟨ad, cp, rfl, hc⟩ := hcap
  have hend : ∀ k m, Now P (HS s) k m → ((∃ c st, m.testBit c = true ∧ P[c]? = some st ∧ st.op = 4) ↔ Lg (HS s) x true 0 k) := fun k m hm => by rw [← hPe] at hm ⊢; exact whole_match hw.1 hw.2.1 hm
  refine enter Tryz.func167 rfl rfl rfl _ (Pick.sub (l := [0, 1]) (.cons rfl (.cons rfl .nil))) ?_
  refine RK.seq ?_
  refine RK.region ?_
  refine RL.p rfl rfl ?_
  refine RL.done ?_
  iterate 2 refine RK.seq ?_
  refine RK.region ?_
  refine RL.p rfl rfl ?_
  refine RL.op (.free rfl) rfl rfl (Does.call rfl e201 (check_ok P hP ad cp hc _ hv)) ?_
  rintro _ w1 ⟨rfl, hg1⟩
  refine RL.p rfl rfl ?_
  refine RL.done ?_
  refine RK.condF (hcF rfl (rfl)) ?_
  refine RK.skip ?_
  refine RK.seq ?_
  refine RK.region ?_
  refine RL.p rfl rfl ?_
  refine RL.op (.free rfl) rfl rfl (Does.call rfl e202 (start_ok P hP (HS s) _ _ (hv.mod hg1))) ?_
  rintro _ w2 ⟨r, rfl, hr, hn0, hg2⟩
  have hg02 := hg1.trans hg2
  refine RL.p rfl rfl ?_
  refine RL.done ?_
  iterate 2 refine RK.seq ?_
  refine RK.region ?_
  refine RL.p rfl rfl ?_
  refine RL.q (.free rfl) rfl rfl (Yld.lenStr u9 rfl) ?_
  refine RL.p rfl rfl ?_
  refine RL.done ?_
  refine RK.block ?_
  refine RK.loop (fun t : Nat × Nat => [(0, .slice ad P.length cp), (1, .string s), (5, .int .u64 (t.2 : Int)), (15, .int .i64 (s.size : Int)), (16, .int .i64 (t.1 : Int))]) (fun t w' => t.1 ≤ s.size ∧ t.2 < 18446744073709551616 ∧ Now P (HS s) t.1 t.2 ∧ Grow w w') (fun t => s.size - t.1) (0, r) ⟨rfl, rfl, rfl, rfl, rfl, trivial⟩ ⟨by simp, hr, hn0, hg02⟩ (fun t w3 hI ih => ?_)
  obtain ⟨k, m⟩ := t
  obtain ⟨hk, hm, hn, hg⟩ := hI
  simp only at hk hm hn
  refine RK.seq ?_
  refine RK.region ?_
  refine RL.p rfl rfl ?_
  refine RL.done ?_
  refine RK.seq ?_
  first | refine RK.condD rfl (fun h17 => ?_) (fun h17 => ?_) | refine RK.condN rfl (fun h17 => ?_) (fun h17 => ?_) | refine RK.cond rfl (fun h17 => ?_) (fun h17 => ?_)
  · have hks : k < s.size := by simp only at h17; omega
    refine RK.skip ?_
    refine RK.seq ?_
    refine RK.block ?_
    refine RK.seq ?_
    refine RK.region ?_
    iterate 2 refine RL.p rfl rfl ?_
    refine RL.done ?_
    refine RK.region ?_
    iterate 4 refine RL.p rfl rfl ?_
    refine RL.q (.free rfl) rfl rfl (Yld.idxStrN u9 rfl rfl (hks)) ?_
    refine RL.op (.free rfl) rfl rfl (Does.call rfl e203 (next_steps P hP (HS s) k m (b8 s k) (b8_lt s k) hm (fun t => ⟨fun h => h.2, fun h => ⟨hks, h⟩⟩) hn _ _ (hv.mod hg))) ?_
    rintro _ w4 ⟨r', rfl, hr', hn', hg4⟩
    refine RL.p rfl rfl ?_
    refine RL.done ?_
    refine RK.inBlock ?_
    refine RK.region ?_
    refine RL.p rfl rfl ?_
    refine RL.re (d := 25) rfl rfl (succ_i64 (by omega)) ?_
    refine RL.p rfl rfl ?_
    refine RL.done ?_
    exact RK.back (ih (k + 1, r') _ ⟨by simp only; omega, hr', hn', hg.trans hg4⟩ (by simp only; omega)) ⟨rfl, rfl, rfl, rfl, rfl, trivial⟩
  · have hke : k = s.size := by simp only at h17; omega
    subst hke
    have he := hend _ _ hn
    refine RK.exit rfl ?_
    iterate 2 refine RK.seq ?_
    refine RK.region ?_
    refine RL.p rfl rfl ?_
    refine RL.q (.free rfl) rfl rfl (Yld.lenSl u198 rfl) ?_
    refine RL.p rfl rfl ?_
    refine RL.done ?_
    refine RK.block ?_
    refine RK.loop (fun i : Nat => [(5, .int .u64 (m : Int)), (26, .slice ad P.length cp), (27, .int .i64 (P.length : Int)), (28, .int .i64 (i : Int))]) (fun i w' => i ≤ P.length ∧ Grow w w' ∧ ∀ c st, c < i → m.testBit c = true → P[c]? = some st → st.op ≠ 4) (fun i => P.length - i) 0 ⟨rfl, rfl, rfl, rfl, trivial⟩ ⟨by omega, hg, fun c st h => by omega⟩ (fun i w4 hI2 ih2 => ?_)
    obtain ⟨hi, hg4, hno⟩ := hI2
    refine RK.seq ?_
    refine RK.region ?_
    refine RL.p rfl rfl ?_
    refine RL.done ?_
    refine RK.seq ?_
    first | refine RK.condD rfl (fun h29 => ?_) (fun h29 => ?_) | refine RK.condN rfl (fun h29 => ?_) (fun h29 => ?_) | refine RK.cond rfl (fun h29 => ?_) (fun h29 => ?_)
    · obtain ⟨st, hst⟩ : ∃ st, P[i]? = some st := ⟨P[i]'(by omega), List.getElem?_eq_getElem (by omega)⟩
      obtain ⟨b2, o2, c2, hce, _, _, hcl⟩ := hv.elem stC_len hst
      cases hce
      refine RK.skip ?_
      refine RK.seq ?_
      refine RK.block ?_
      refine RK.seq ?_
      refine RK.region ?_
      refine RL.p rfl rfl ?_
      refine RL.q (.free rfl) rfl rfl (Yld.indexAddrN u198 i235 rfl rfl (by omega)) ?_
      refine RL.q (.free rfl) rfl rfl (Yld.loadN (cs := stC st) a235 rfl (atN (fun j u hj => hg4.cell (hcl j u hj) (fun h => h)))) ?_
      refine RL.op (.free rfl) rfl rfl (Does.alloc i235) ?_
      rintro _ w5 ⟨b8, rfl, hn8⟩
      refine RL.p rfl rfl ?_
      refine RL.op' (.free rfl) rfl (Does.storeN i235 rfl rfl rfl rfl hn8.blk (Nat.le_refl 7)) ?_
      rintro _ w6 ⟨hb6, hm6, _⟩
      have hB6 : Blk w6 b8 235 (stC st) := hb6
      have hg6 : Grow w4 w6 := hn8.grow.then hm6 (fun y hy e => by have e' : y = b8 := e; have := hn8.at_; omega)
      refine RL.done ?_
      refine RK.seq ?_
      refine RK.region ?_
      iterate 2 refine RL.p rfl rfl ?_
      refine RL.q (.free rfl) rfl rfl (Yld.shr rfl rfl (by simp [IntKind.bits]; omega)) ?_
      refine RL.p rfl rfl ?_
      refine RL.re (d := 36) rfl rfl (congrArg (Value.int .u64) (Go.X.u64_and (b := 1) (shr64 hm i) (by decide))) ?_
      iterate 2 refine RL.p rfl rfl ?_
      first | refine RL.splitD (d := 38) rfl rfl (fun h38 => ?_) (fun h38 => ?_) | refine RL.splitN (d := 38) rfl rfl (fun h38 => ?_) (fun h38 => ?_) | refine RL.split (d := 38) rfl rfl (fun h38 => ?_) (fun h38 => ?_)
      · have hbit := (bit1I m i).1 h38
        refine RL.q (.yes rfl rfl rfl) rfl rfl (Yld.fieldAddr fo235_0 rfl) ?_
        refine RL.q (.yes rfl rfl rfl) rfl rfl (Yld.load p3 rfl (at1 (hB6.cell rfl))) ?_
        refine RL.q (.yes rfl rfl rfl) rfl rfl (Yld.pure rfl) ?_
        refine RL.p rfl rfl ?_
        refine RL.done ?_
        first | refine RK.condD rfl (fun h42 => ?_) (fun h42 => ?_) | refine RK.condN rfl (fun h42 => ?_) (fun h42 => ?_) | refine RK.cond rfl (fun h42 => ?_) (fun h42 => ?_)
        · have ho : st.op = 4 := by have h := h42; omega
          refine RK.seq ?_
          refine RK.region ?_
          refine RL.p rfl rfl ?_
          refine RL.done ?_
          refine RK.ret_of Tryz.func167 (res1 rfl rfl) ?_ _
          exact ⟨_, rfl, congrArg _ ((takes_iff x s).2 (he.1 ⟨i, st, hbit, hst, ho⟩)).symm, hg4.trans hg6⟩
        · refine RK.skip ?_
          refine RK.inBlock ?_
          refine RK.region ?_
          refine RL.p rfl rfl ?_
          refine RL.re (d := 43) rfl rfl (succ_i64 (by omega)) ?_
          refine RL.p rfl rfl ?_
          refine RL.done ?_
          exact RK.back (ih2 (i + 1) _ ⟨by omega, hg4.trans hg6, fun c st' hc h1 h2 h3 => by
              by_cases e : c = i
              · subst e; rw [hst] at h2; cases h2; have h := h42; omega
              · exact hno c st' (by omega) h1 h2 h3⟩ (by omega)) ⟨rfl, rfl, rfl, rfl, trivial⟩
      · iterate 3 refine RL.no (.no rfl rfl rfl rfl) rfl rfl ?_
        refine RL.p rfl rfl ?_
        refine RL.done ?_
        refine RK.condF (hcF rfl (rfl)) ?_
        refine RK.skip ?_
        refine RK.inBlock ?_
        refine RK.region ?_
        refine RL.p rfl rfl ?_
        refine RL.re (d := 43) rfl rfl (succ_i64 (by omega)) ?_
        refine RL.p rfl rfl ?_
        refine RL.done ?_
        exact RK.back (ih2 (i + 1) _ ⟨by omega, hg4.trans hg6, fun c st' hc h1 h2 h3 => by
            by_cases e : c = i
            · subst e; exact h38 ((bit1I m c).2 h1)
            · exact hno c st' (by omega) h1 h2 h3⟩ (by omega)) ⟨rfl, rfl, rfl, rfl, trivial⟩
    · refine RK.exit rfl ?_
      refine RK.seq ?_
      refine RK.region ?_
      refine RL.p rfl rfl ?_
      refine RL.done ?_
      refine RK.ret_of Tryz.func167 (res1 rfl rfl) ?_ _
      exact ⟨_, rfl, congrArg _ (by
          cases hx : takes x s with
          | false => rfl
          | true =>
            obtain ⟨c, st, h1, h2, h3⟩ := he.2 ((takes_iff x s).1 hx)
            exact absurd h3 (hno c st (by have := (List.getElem?_eq_some_iff.1 h2).1; omega) h1 h2)
        ), hg4⟩
end Go.Proofs.YtffbcfcoddacmaaGreat
set_option linter.unusedVariables false
set_option linter.unusedSimpArgs false
namespace Go.X
open Go Go.RowKit
section
variable {P : Program} {n : Nat} {e : Env} {w : World}
end
end Go.X
set_option linter.unusedVariables false
set_option linter.unusedSimpArgs false
set_option maxHeartbeats 400000
set_option maxRecDepth 100000
namespace Go.Proofs.YtffbcfcoddacmaaGreat
open Go Go.X
section
variable {α : Type}
def pos (lt : α → α → Bool) (x : α) (L : List α) : Nat := L.length - (L.reverse.takeWhile (lt x)).length
def insE (lt : α → α → Bool) (L : List α) (x : α) : List α := L.take (pos lt x L) ++ x :: L.drop (pos lt x L)
def isort (lt : α → α → Bool) (xs : List α) : List α := xs.foldl (insE lt) []
theorem insE_split {lt : α → α → Bool} {x : α} {A D : List α} (hD : ∀ y ∈ D, lt x y = true) (hA : ∀ A' y, A = A' ++ [y] → lt x y = false) : insE lt (A ++ D) x = A ++ x :: D := by
  have h1 : (A ++ D).reverse.takeWhile (lt x) = D.reverse := by
    rw [List.reverse_append, List.takeWhile_append_of_pos (by intro y hy; exact hD y (by simpa using hy))]
    have : A.reverse.takeWhile (lt x) = [] := by
      cases hr : A.reverse with
      | nil => rfl
      | cons y l =>
        have : A = l.reverse ++ [y] := by have := congrArg List.reverse hr; simpa using this
        simp [List.takeWhile, hA _ _ this]
    rw [this, List.append_nil]
  have h2 : pos lt x (A ++ D) = A.length := by unfold pos; rw [h1]; simp
  unfold insE
  rw [h2]
  simp
theorem insE_len (lt : α → α → Bool) (L : List α) (x : α) : (insE lt L x).length = L.length + 1 := by
  unfold insE
  simp
  have : pos lt x L ≤ L.length := Nat.sub_le _ _
  omega
theorem isort_snoc (lt : α → α → Bool) (xs : List α) (x : α) : isort lt (xs ++ [x]) = insE lt (isort lt xs) x := by simp [isort]
theorem isort_len (lt : α → α → Bool) (xs : List α) : (isort lt xs).length = xs.length := by
  have : ∀ xs L : List α, (xs.foldl (insE lt) L).length = xs.length + L.length := by
    intro xs
    induction xs with
    | nil => intro L; simp
    | cons x xs ih => intro L; simp only [List.foldl_cons, ih, insE_len, List.length_cons]; omega
  unfold isort
  simpa using this xs []
end
end Go.Proofs.YtffbcfcoddacmaaGreat
set_option linter.unusedVariables false
set_option linter.unusedSimpArgs false
set_option maxHeartbeats 400000
set_option maxRecDepth 100000
namespace Go.Proofs.YtffbcfcoddacmaaGreat
open Go Go.X
end Go.Proofs.YtffbcfcoddacmaaGreat
set_option linter.unusedVariables false
set_option linter.unusedSimpArgs false
set_option maxHeartbeats 400000
set_option maxRecDepth 100000
namespace Go.Proofs.YtffbcfcoddacmaaGreat
open Go Go.X
theorem take_snoc_eq {α : Type} {l1 l2 : List α} {k : Nat} {x : α} (h : l1.take k = l2.take k) (h1 : l1[k]? = some x) (h2 : l2[k]? = some x) : l1.take (k + 1) = l2.take (k + 1) := by
  rw [List.take_add_one, List.take_add_one, h, h1, h2]
theorem sameInts_ok (M : Nat → Prop) (l1 l2 : List Int) (v1 v2 : Value) (w : World) (hv1 : Sl M w v1 1 l1.length (ints l1)) (hv2 : Sl M w v2 1 l2.length (ints l2)) :
    Fx Tryz.prog 29 [v1, v2] w (fun u w' => u = .bool (decide (l1 = l2)) ∧ Grow w w') := by
  obtain ⟨a1, c1, rfl⟩ := hv1.shape
  obtain ⟨a2, c2, rfl⟩ := hv2.shape
  have hbig := hv1.big
  refine enter Tryz.func29 rfl rfl rfl _ (Pick.sub (l := [0, 1]) (.cons rfl (.cons rfl .nil))) ?_
  refine RK.seq ?_
  refine RK.region ?_
  refine RL.p rfl rfl ?_
  refine RL.done ?_
  iterate 2 refine RK.seq ?_
  refine RK.region ?_
  refine RL.p rfl rfl ?_
  refine RL.q (.free rfl) rfl rfl (Yld.lenSl u22 rfl) ?_
  refine RL.p rfl rfl ?_
  refine RL.q (.free rfl) rfl rfl (Yld.lenSl u22 rfl) ?_
  refine RL.p rfl rfl ?_
  refine RL.done ?_
  first | refine RK.condD rfl (fun h10 => ?_) (fun h10 => ?_) | refine RK.condN rfl (fun h10 => ?_) (fun h10 => ?_) | refine RK.cond rfl (fun h10 => ?_) (fun h10 => ?_)
  · refine RK.seq ?_
    refine RK.region ?_
    refine RL.p rfl rfl ?_
    refine RL.done ?_
    refine RK.ret_of Tryz.func29 (res1 rfl rfl) ?_ _
    exact ⟨_, rfl, congrArg _ (by rw [eq_comm, decide_eq_false_iff_not]; rintro rfl; simp at h10), Mod.refl _ _⟩
  · refine RK.skip ?_
    iterate 2 refine RK.seq ?_
    refine RK.region ?_
    refine RL.p rfl rfl ?_
    refine RL.done ?_
    refine RK.block ?_
    refine RK.loop (fun k : Nat => [(0, .slice a1 l1.length c1), (1, .slice a2 l2.length c2), (5, .int .i64 k)]) (fun k w' => Grow w w' ∧ k ≤ l1.length ∧ l1.take k = l2.take k) (fun k => l1.length - k) 0 ⟨rfl, rfl, rfl, trivial⟩ ⟨Mod.refl _ _, by omega, by simp⟩ (fun k w' hI ih => ?_)
    obtain ⟨hg, hk, htk⟩ := hI
    have hl : l1.length = l2.length := by simp at h10; omega
    iterate 2 refine RK.seq ?_
    refine RK.region ?_
    iterate 2 refine RL.p rfl rfl ?_
    refine RL.q (.free rfl) rfl rfl (Yld.lenSl u22 rfl) ?_
    refine RL.p rfl rfl ?_
    refine RL.done ?_
    first | refine RK.condD rfl (fun h14 => ?_) (fun h14 => ?_) | refine RK.condN rfl (fun h14 => ?_) (fun h14 => ?_) | refine RK.cond rfl (fun h14 => ?_) (fun h14 => ?_)
    · obtain ⟨x, hx⟩ : ∃ x, l1[k]? = some x := ⟨l1[k]'(by omega), List.getElem?_eq_getElem (by omega)⟩
      obtain ⟨y, hy⟩ : ∃ y, l2[k]? = some y := ⟨l2[k]'(by omega), List.getElem?_eq_getElem (by omega)⟩
      obtain ⟨b1, o1, c1', he1, _, _, hc1⟩ := hv1.elem1 (k := k) (u := .int .i64 x) (by simp [hx])
      obtain ⟨b2, o2, c2', he2, _, _, hc2⟩ := hv2.elem1 (k := k) (u := .int .i64 y) (by simp [hy])
      cases he1
      cases he2
      refine RK.skip ?_
      refine RK.seq ?_
      refine RK.block ?_
      refine RK.seq ?_
      refine RK.drawM No [(0, false), (1, false), (2, false), (3, false), (4, false), (5, false), (6, false), (7, false), (8, false)] [] mixed (by kernel_rfl) ?_
      iterate 2 refine DL.p rfl rfl rfl ?_
      refine DL.qf rfl (.free rfl) rfl rfl (Yld.indexAddrN u22 i3 rfl rfl (by omega)) ?_
      refine DL.q rfl (.free rfl) rfl rfl rfl (Yld.load p3 rfl (atM (hg.cell (hc1 k (.int .i64 x) (by simp [hx])) (fun h => h)) (id))) (Mod.drew _ _) ?_
      iterate 2 refine DL.p rfl rfl rfl ?_
      refine DL.qf rfl (.free rfl) rfl rfl (Yld.indexAddrN u22 i3 rfl rfl (by omega)) ?_
      refine DL.q rfl (.free rfl) rfl rfl rfl (Yld.load p3 rfl (atM (hg.cell (hc2 k (.int .i64 y) (by simp [hy])) (fun h => h)) (id))) (Mod.drew _ _) ?_
      refine DL.p rfl rfl rfl ?_
      refine DL.done ?_
      first | refine RK.condD rfl (fun h25 => ?_) (fun h25 => ?_) | refine RK.condN rfl (fun h25 => ?_) (fun h25 => ?_) | refine RK.cond rfl (fun h25 => ?_) (fun h25 => ?_)
      · refine RK.seq ?_
        refine RK.region ?_
        refine RL.p rfl rfl ?_
        refine RL.done ?_
        refine RK.ret_of Tryz.func29 (res1 rfl rfl) ?_ _
        exact ⟨_, rfl, congrArg _ (by rw [eq_comm, decide_eq_false_iff_not]; rintro rfl; rw [hx] at hy; cases hy; simp at h25), hg.trans (Mod.drew _ _)⟩
      · refine RK.skip ?_
        refine RK.inBlock ?_
        refine RK.region ?_
        iterate 2 refine RL.p rfl rfl ?_
        refine RL.re (d := 16) rfl rfl (succ_i64 (by omega)) ?_
        refine RL.p rfl rfl ?_
        refine RL.done ?_
        exact RK.back (ih (k + 1) _ ⟨hg.trans (Mod.drew _ _), by omega, take_snoc_eq htk hx (by
            have : x = y := by simpa using h25
            rw [this]; exact hy)⟩ (by omega)) ⟨rfl, rfl, rfl, trivial⟩
    · refine RK.exit rfl ?_
      refine RK.seq ?_
      refine RK.region ?_
      refine RL.p rfl rfl ?_
      refine RL.done ?_
      refine RK.ret_of Tryz.func29 (res1 rfl rfl) ?_ _
      exact ⟨_, rfl, congrArg _ (by
          have e1 : k = l1.length := by omega
          have h1 : l1.take k = l1 := List.take_of_length_le (by omega)
          have h2 : l2.take k = l2 := List.take_of_length_le (by omega)
          rw [h1, h2] at htk; simp [htk]), hg⟩
structure Al where
  id : Int
  ls : List Lab
  val : Nat
  v : Value
def alC (a : Al) : List Value := [.int .i64 a.id, a.v, .float .f64 a.val]
theorem alC_len (a : Al) : (alC a).length = 3 := rfl
def findS (l : List (List Lab)) (ls : List Lab) : Option Nat := l.findIdx? fun x => decide (x = ls)
def optI : Option Nat → Int
  | some i => i
  | none => -1
end Go.Proofs.YtffbcfcoddacmaaGreat
set_option linter.unusedVariables false
set_option linter.unusedSimpArgs false
set_option maxHeartbeats 400000
set_option maxRecDepth 100000
namespace Go.Proofs.YtffbcfcoddacmaaGreat
open Go Go.X
abbrev LabK := ByteArray × ByteArray
def labK (x : Lab) : LabK := (x.name, x.value)
end Go.Proofs.YtffbcfcoddacmaaGreat
set_option linter.unusedVariables false
set_option linter.unusedSimpArgs false
set_option maxHeartbeats 400000
set_option maxRecDepth 100000
namespace Go.Proofs.YtffbcfcoddacmaaGreat
open Go Go.X
def addRow1 (id : Int) (r : List (LabK × List Int)) (x : Lab) : List (LabK × List Int) := putM r (labK x) (mkRow ((lookM r (labK x)).getD [] ++ [id]))
def addRows (rows : List (LabK × List Int)) (id : Int) (ls : List Lab) : List (LabK × List Int) := ls.foldl (addRow1 id) rows
end Go.Proofs.YtffbcfcoddacmaaGreat
set_option linter.unusedVariables false
set_option linter.unusedSimpArgs false
set_option maxHeartbeats 400000
set_option maxRecDepth 100000
namespace Go.Proofs.YtffbcfcoddacmaaGreat
open Go Go.X
structure St where
  most : Int
  last : Int
  out : List Int
  al : List (Int × List Lab × Nat)
  has : List (Int × List Lab)
  rows : List (LabK × List Int)
def own (p q ix mh mr : Nat) (vo vl : Value) : Nat → Prop := fun b => b = p ∨ b = q ∨ b = mh ∨ b = mr ∨ vo.ownBlock = some b ∨ vl.ownBlock = some b ∨ b = ix
def pub (a : Al) : Int × List Lab × Nat := (a.id, a.ls, a.val)
def capS (m : Int) : Int := if 16 < (if 1 > m then 1 else m) then 16 else if 1 > m then 1 else m
def St.new (m : Int) : St := ⟨capS m, 0, [], [], [], []⟩
end Go.Proofs.YtffbcfcoddacmaaGreat
set_option linter.unusedVariables false
set_option linter.unusedSimpArgs false
set_option maxHeartbeats 400000
set_option maxRecDepth 100000
namespace Go.Proofs.YtffbcfcoddacmaaGreat
open Go Go.X
end Go.Proofs.YtffbcfcoddacmaaGreat
set_option linter.unusedVariables false
set_option linter.unusedSimpArgs false
set_option maxHeartbeats 400000
set_option maxRecDepth 100000
namespace Go.Proofs.YtffbcfcoddacmaaGreat
open Go Go.X
def fullS (most last : Int) (out : List Int) : Bool := decide (most ≤ out.length ∨ last = 2147483647)
structure Ok (s : St) : Prop where
  last0 : 0 ≤ s.last
  last1 : s.last ≤ 2147483647
  most : s.most ≤ 16
  outLe : (s.out.length : Int) ≤ s.most
  alOut : s.al.length = s.out.length
  has : ∀ t ∈ s.has, t.1 ≤ s.last
  rows : ∀ t ∈ s.rows, (t.2.length : Int) ≤ 6 * s.last
  vals : ∀ a ∈ s.al, a.2.2 < 18446744073709551616
def postS (s : St) (ls : List Lab) (val : Nat) : St × Int × Bool × Int :=
  if isS ls = false then (s, 0, false, 1) else
  match findS (s.al.map (·.2.1)) ls with
  | some i => ({ s with al := s.al.modify i fun a => (a.1, a.2.1, canS val) }, ((s.al[i]?).map (·.1)).getD 0, false, 0)
  | none => if fullS s.most s.last s.out then (s, 0, false, 10) else
    ({ most := s.most, last := s.last + 1, out := s.out ++ [s.last + 1], al := s.al ++ [(s.last + 1, ls, canS val)], has := putM s.has (s.last + 1) ls, rows := addRows s.rows (s.last + 1) ls }, s.last + 1, true, 0)
end Go.Proofs.YtffbcfcoddacmaaGreat
set_option linter.unusedVariables false
set_option linter.unusedSimpArgs false
set_option maxHeartbeats 400000
set_option maxRecDepth 100000
namespace Go.Proofs.YtffbcfcoddacmaaGreat
open Go Go.X
end Go.Proofs.YtffbcfcoddacmaaGreat
set_option linter.unusedVariables false
set_option linter.unusedSimpArgs false
set_option maxHeartbeats 400000
set_option maxRecDepth 100000
namespace Go.Proofs.YtffbcfcoddacmaaGreat
open Go Go.X
end Go.Proofs.YtffbcfcoddacmaaGreat
set_option linter.unusedVariables false
set_option linter.unusedSimpArgs false
set_option maxHeartbeats 400000
set_option maxRecDepth 100000
namespace Go.Proofs.YtffbcfcoddacmaaGreat
open Go Go.X
def ltI (x y : Int) : Bool := decide (x < y)
def insR (L : List Int) (x : Int) : List Int := if 0 < pos ltI x L ∧ L[pos ltI x L - 1]? = some x then L else L.take (pos ltI x L) ++ x :: L.drop (pos ltI x L)
def rise (xs : List Int) : List Int := xs.foldl insR []
theorem rise_snoc (xs : List Int) (x : Int) : rise (xs ++ [x]) = insR (rise xs) x := by simp [rise]
theorem pos_split {lt : Int → Int → Bool} {x : Int} {L : List Int} {j : Nat} (hj : j ≤ L.length) (hD : ∀ y ∈ L.drop j, lt x y = true) (hA : ∀ y, 0 < j → L[j - 1]? = some y → lt x y = false) : pos lt x L = j := by
  have h1 : L.reverse.takeWhile (lt x) = (L.drop j).reverse := by
    have e : L.reverse = (L.drop j).reverse ++ (L.take j).reverse := by rw [← List.reverse_append, List.take_append_drop]
    rw [e, List.takeWhile_append_of_pos (by intro y hy; exact hD y (by simpa using hy))]
    have : (L.take j).reverse.takeWhile (lt x) = [] := by
      cases hr : (L.take j).reverse with
      | nil => rfl
      | cons y l =>
        have e2 : L.take j = l.reverse ++ [y] := by have := congrArg List.reverse hr; simpa using this
        have hjl : j = l.length + 1 := by have := congrArg List.length e2; simp at this; omega
        have hy : L[j - 1]? = some y := by
          have h3 : (L.take j)[l.length]? = some y := by rw [e2]; simp
          rw [List.getElem?_take_of_lt (by omega)] at h3
          rw [hjl]; exact h3
        simp [List.takeWhile, hA y (by omega) hy]
    rw [this, List.append_nil]
  unfold pos
  rw [h1]
  simp; omega
theorem insR_len (L : List Int) (x : Int) : (insR L x).length ≤ L.length + 1 := by
  have hp : pos ltI x L ≤ L.length := Nat.sub_le _ _
  unfold insR
  split
  · omega
  · simp; omega
theorem rise_le (xs : List Int) : (rise xs).length ≤ xs.length := by
  have key : ∀ (xs L : List Int), (xs.foldl insR L).length ≤ xs.length + L.length := by
    intro xs
    induction xs with
    | nil => intro L; simp
    | cons x xs ih => intro L; rw [List.foldl_cons]; have := ih (insR L x); have := insR_len L x; simp; omega
  unfold rise
  simpa using key xs []
theorem laid {w : World} {t : TypeId} {u : Value} {L : List Int} {j : Nat} {x : Int} {R : List Int} (hj : j ≤ L.length) (hI : R = L.take j ++ x :: L.drop j) (h : Row w t 1 u (0 + j + 1 + (L.length - j)) (([] ++ ints (L.take j)) ++ (Value.int .i64 x).cells.toList ++ ints (L.drop j))) : Row w t 1 u R.length (ints R) := by
  subst hI
  have e1 : ([] ++ ints (L.take j)) ++ (Value.int .i64 x).cells.toList ++ ints (L.drop j) = ints (L.take j ++ x :: L.drop j) := by simp [Value.cells]
  have e2 : 0 + j + 1 + (L.length - j) = (L.take j ++ x :: L.drop j).length := by simp; omega
  rw [e1, e2] at h
  exact h
theorem rising_ok (M : Nat → Prop) (xs : List Int) (v : Value) (w : World) (hv : Sl M w v 1 xs.length (ints xs)) (hb : xs.length ≤ 1000000000000) :
    Fx Tryz.prog 44 [v] w (fun u w' => Row w' 3 1 u (rise xs).length (ints (rise xs)) ∧ Fresh w.heap.size u ∧ Grow w w') := by
  obtain ⟨ad, c, rfl⟩ := hv.shape
  refine enter Tryz.func44 rfl rfl rfl _ (Pick.sub (l := [0]) (.cons rfl .nil)) ?_
  refine RK.seq ?_
  refine RK.region ?_
  refine RL.p rfl rfl ?_
  refine RL.done ?_
  refine RK.seq ?_
  refine RK.region ?_
  refine RL.p rfl rfl ?_
  refine RL.done ?_
  iterate 2 refine RK.seq ?_
  refine RK.region ?_
  refine RL.p rfl rfl ?_
  refine RL.done ?_
  refine RK.block ?_
  refine RK.loop (fun s : Nat × Value => [(0, .slice ad xs.length c), (3, s.2), (4, .int .i64 (s.1 : Int))]) (fun s w' => Row w' 3 1 s.2 (rise (xs.take s.1)).length (ints (rise (xs.take s.1))) ∧ Fresh w.heap.size s.2 ∧ Grow w w' ∧ s.1 ≤ xs.length) (fun s => xs.length - s.1) (0, .slice none 0 0) ⟨rfl, rfl, rfl, trivial⟩ ⟨by simpa [rise] using Row.nil _ _ _, fun b hb => by simp [Value.ownBlock] at hb, Mod.refl _ _, by omega⟩ (fun s w' hI ih => ?_)
  obtain ⟨i, u⟩ := s
  obtain ⟨hr, hfr, hg, hi⟩ := hI
  simp only at hr hfr hi
  iterate 2 refine RK.seq ?_
  refine RK.region ?_
  iterate 2 refine RL.p rfl rfl ?_
  refine RL.q (.free rfl) rfl rfl (Yld.lenSl u22 rfl) ?_
  refine RL.p rfl rfl ?_
  refine RL.done ?_
  first | refine RK.condD rfl (fun h9 => ?_) (fun h9 => ?_) | refine RK.condN rfl (fun h9 => ?_) (fun h9 => ?_) | refine RK.cond rfl (fun h9 => ?_) (fun h9 => ?_)
  · obtain ⟨x, hx⟩ : ∃ x, xs[i]? = some x := ⟨xs[i]'(by omega), List.getElem?_eq_getElem (by omega)⟩
    have htk : xs.take (i + 1) = xs.take i ++ [x] := by rw [List.take_succ_eq_append_getElem (by omega)]; congr 2; exact (List.getElem?_eq_some_iff.1 hx).2
    obtain ⟨b1, o1, c1', he1, _, _, hc1⟩ := hv.elem1 (k := i) (u := .int .i64 x) (by simp [hx])
    cases he1
    have hLle : (rise (xs.take i)).length ≤ i := Nat.le_trans (rise_le _) (by simp; omega)
    generalize hLe : rise (xs.take i) = L at *
    obtain ⟨adu, cu, rfl, hcu⟩ := hr.cap
    have hsu : Sl No w' (.slice adu L.length cu) 1 L.length (ints L) := Sl.own hr (fun _ _ h => h)
    refine RK.skip ?_
    refine RK.seq ?_
    refine RK.block ?_
    refine RK.seq ?_
    refine RK.region ?_
    refine RL.p rfl rfl ?_
    refine RL.q (.free rfl) rfl rfl (Yld.lenSl u22 rfl) ?_
    refine RL.p rfl rfl ?_
    refine RL.done ?_
    refine RK.seq ?_
    refine RK.block ?_
    refine RK.loop (fun j : Nat => [(0, .slice (some ⟨b1, o1, none⟩) xs.length c), (3, .slice adu L.length cu), (4, .int .i64 (i : Int)), (5, .int .i64 (j : Int))]) (fun j w2 => Grow w' w2 ∧ j ≤ L.length ∧ ∀ y ∈ L.drop j, ltI x y = true) (fun j => j) L.length ⟨rfl, rfl, rfl, rfl, trivial⟩ ⟨Mod.refl _ _, Nat.le_refl _, by simp⟩ (fun j w2 hI2 ih2 => ?_)
    obtain ⟨hg2, hj, hD⟩ := hI2
    have hin : ∀ w3, Grow w' w3 → w3.cell? ⟨b1, o1 + i * 1, none⟩ = some (.int .i64 x) := fun w3 h3 => (hg.trans h3).cell (hc1 i (.int .i64 x) (by simp [hx])) (fun h => h)
    have hhi : ∀ w3, Grow w' w3 → Sl No w3 (.slice adu j cu) 1 j (ints (L.take j)) := fun w3 h3 => by have := (hsu.mod h3).take hj; rwa [← List.map_take] at this
    have hlo : ∀ w3, Grow w' w3 → Sl No w3 (.slice (fromAt adu cu j 1) (L.length - j) (cu - j)) 1 (L.length - j) (ints (L.drop j)) := fun w3 h3 => by have := (hsu.mod h3).from hj hcu; rwa [← List.map_drop] at this
    iterate 2 refine RK.seq ?_
    refine RK.drawM No [(0, false), (1, false), (2, false), (3, false), (4, false), (5, false), (6, false), (7, false), (8, false), (9, false), (10, false), (11, false), (12, false), (13, false)] [] mixed (by kernel_rfl) ?_
    iterate 3 refine DL.p rfl rfl rfl ?_
    first | refine DL.splitD (d := 16) rfl rfl (fun h15 => ?_) (fun h15 => ?_) | refine DL.splitN (d := 16) rfl rfl (fun h15 => ?_) (fun h15 => ?_) | refine DL.split (d := 16) rfl rfl (fun h15 => ?_) (fun h15 => ?_)
    · obtain ⟨y, hy⟩ : ∃ y, L[j - 1]? = some y := ⟨L[j - 1]'(by omega), List.getElem?_eq_getElem (by omega)⟩
      obtain ⟨b2, o2, c2', he2, _, _, hc2⟩ := hsu.elem1 (k := j - 1) (u := .int .i64 y) (by simp [hy])
      cases he2
      iterate 3 refine DL.qf rfl (.yes rfl rfl rfl) rfl rfl (Yld.pure rfl) ?_
      refine DL.re (d := 19) rfl rfl (sub_i64 (z := ((j - 1 : Nat) : Int)) (by omega) (by omega) (by omega)) ?_
      refine DL.qf rfl (.yes rfl rfl rfl) rfl rfl (Yld.indexAddrN u22 i3 rfl rfl (by omega)) ?_
      refine DL.q rfl (.yes rfl rfl rfl) rfl rfl rfl (Yld.load p3 rfl (atM (hg2.cell (hc2 (j - 1) (.int .i64 y) (by simp [hy])) (fun h => h)) (fun h => h))) (Mod.drew _ _) ?_
      iterate 2 refine DL.qf rfl (.yes rfl rfl rfl) rfl rfl (Yld.pure rfl) ?_
      refine DL.qf rfl (.yes rfl rfl rfl) rfl rfl (Yld.indexAddrN u22 i3 rfl rfl (by omega)) ?_
      refine DL.q rfl (.yes rfl rfl rfl) rfl rfl rfl (Yld.load p3 rfl (atM (hin _ hg2) (fun h => h))) (Mod.drew _ _) ?_
      refine DL.qf rfl (.yes rfl rfl rfl) rfl rfl (Yld.pure rfl) ?_
      refine DL.p rfl rfl rfl ?_
      refine DL.done ?_
      first | refine RK.condD rfl (fun h27 => ?_) (fun h27 => ?_) | refine RK.condN rfl (fun h27 => ?_) (fun h27 => ?_) | refine RK.cond rfl (fun h27 => ?_) (fun h27 => ?_)
      · refine RK.skip ?_
        refine RK.block ?_
        refine RK.region ?_
        iterate 2 refine RL.p rfl rfl ?_
        refine RL.re (d := 29) rfl rfl (sub_i64 (z := ((j - 1 : Nat) : Int)) (by omega) (by omega) (by omega)) ?_
        refine RL.p rfl rfl ?_
        refine RL.done ?_
        refine RK.inBlock ?_
        exact RK.back (ih2 (j - 1) _ ⟨hg2.trans (Mod.drew _ _), by omega, fun z hz => by
            rw [show L.drop (j - 1) = y :: L.drop j by rw [List.drop_eq_getElem_cons (by omega : j - 1 < L.length), show j - 1 + 1 = j by omega, (List.getElem?_eq_some_iff.1 hy).2]] at hz
            rcases List.mem_cons.1 hz with rfl | hz
            · exact decide_eq_true h27
            · exact hD z hz
          ⟩ (by omega)) ⟨rfl, rfl, rfl, rfl, trivial⟩
      · have hpos : pos ltI x L = j := pos_split hj hD (fun z _ hz => by rw [hy] at hz; cases hz; exact decide_eq_false h27)
        have hg3 : Grow w' w2.drew := hg2.trans (Mod.drew _ _)
        refine RK.exit rfl ?_
        iterate 2 refine RK.seq ?_
        refine RK.drawM No [(0, false), (1, false), (2, false), (3, false), (4, false), (5, false), (6, false), (7, false), (8, false), (9, false), (10, false), (11, false), (12, false), (13, false)] [] mixed (by kernel_rfl) ?_
        iterate 3 refine DL.p rfl rfl rfl ?_
        refine DL.knownT (d := 32) rfl rfl (decide_eq_true h15) ?_
        iterate 3 refine DL.qf rfl (.yes rfl rfl rfl) rfl rfl (Yld.pure rfl) ?_
        refine DL.re (d := 35) rfl rfl (sub_i64 (z := ((j - 1 : Nat) : Int)) (by omega) (by omega) (by omega)) ?_
        refine DL.qf rfl (.yes rfl rfl rfl) rfl rfl (Yld.indexAddrN u22 i3 rfl rfl (by omega)) ?_
        refine DL.q rfl (.yes rfl rfl rfl) rfl rfl rfl (Yld.load p3 rfl (atM (hg3.cell (hc2 (j - 1) (.int .i64 y) (by simp [hy])) (fun h => h)) (fun h => h))) (Mod.drew _ _) ?_
        iterate 2 refine DL.qf rfl (.yes rfl rfl rfl) rfl rfl (Yld.pure rfl) ?_
        refine DL.qf rfl (.yes rfl rfl rfl) rfl rfl (Yld.indexAddrN u22 i3 rfl rfl (by omega)) ?_
        refine DL.q rfl (.yes rfl rfl rfl) rfl rfl rfl (Yld.load p3 rfl (atM (hin _ hg3) (fun h => h))) (Mod.drew _ _) ?_
        refine DL.qf rfl (.yes rfl rfl rfl) rfl rfl (Yld.pure rfl) ?_
        refine DL.p rfl rfl rfl ?_
        refine DL.done ?_
        first | refine RK.condD rfl (fun h43 => ?_) (fun h43 => ?_) | refine RK.condN rfl (fun h43 => ?_) (fun h43 => ?_) | refine RK.cond rfl (fun h43 => ?_) (fun h43 => ?_)
        · have hL : insR L x = L := by unfold insR; rw [hpos, if_pos ⟨by omega, by rw [hy, h43]⟩]
          refine RK.exit rfl ?_
          refine RK.region ?_
          iterate 2 refine RL.p rfl rfl ?_
          refine RL.re (d := 11) rfl rfl (succ_i64 (by have := hv.big; omega)) ?_
          refine RL.p rfl rfl ?_
          refine RL.done ?_
          exact RK.back (ih (i + 1, _) _ ⟨by rw [htk, rise_snoc, hLe, hL]; exact (hr.mod hg3 (fun _ _ h => h)).mod (Mod.drew No _) (fun _ _ h => h), hfr, (hg.trans hg3).trans (Mod.drew _ _), by simp; omega⟩ (by simp; omega)) ⟨rfl, rfl, rfl, trivial⟩
        · have hI : insR L x = L.take j ++ x :: L.drop j := by unfold insR; rw [hpos, if_neg (by rintro ⟨_, h⟩; rw [hy] at h; cases h; exact h43 rfl)]
          have hgr0 : Grow w' w2.drew.drew := hg3.trans (Mod.drew _ _)
          obtain ⟨w9, hw9⟩ : ∃ w9, w9 = w2.drew.drew := ⟨_, rfl⟩
          rw [← hw9]
          have hgr : Grow w' w9 := hw9 ▸ hgr0
          have hgd : Grow w' w9.drew := hgr.trans (Mod.drew _ _)
          refine RK.skip ?_
          refine RK.drawF No [(0, false), (1, false), (2, false), (4, false), (5, false), (6, false), (7, false), (10, false), (11, false), (12, false)] 3 8 [(8, true), (9, true), (13, true), (14, false)] [(3, true), (9, true), (13, true), (14, false)] [] mixed (by kernel_rfl) ?_
          iterate 2 refine DL.p rfl rfl rfl ?_
          refine DL.qf rfl (.free rfl) rfl rfl (Yld.sliceHi u22 i3 (m := j) rfl rfl (by omega)) ?_
          iterate 2 refine DL.p rfl rfl rfl ?_
          refine DL.qf rfl (.free rfl) rfl rfl (Yld.indexAddrN u22 i3 rfl rfl (by omega)) ?_
          refine DL.q rfl (.free rfl) rfl rfl rfl (Yld.load p3 rfl (atM (hin _ hgr) (fun h => h))) (Mod.drew _ _) ?_
          iterate 2 refine DL.p rfl rfl rfl ?_
          refine DL.qf rfl (.free rfl) rfl rfl (Yld.sliceFrom u22 i3 (m := j) rfl rfl hj) ?_
          refine DL.fork ?_ ?_
          · refine DL.op rfl (.free rfl) rfl rfl (Does.append u22 i3 rfl rfl rfl rfl rfl (Row.nil _ _ _) (hhi _ hgd) (allOne_ints _) (by omega)) ?_
            rintro u1 v1 ⟨hr1, hm1, hu1⟩
            have hg1 : Grow w9.drew v1 := hm1.mono (fun b _ e => by simp [Value.ownBlock] at e)
            refine ⟨(Mod.drew _ _).trans hg1, ?_⟩
            refine DL.op rfl (.free rfl) rfl rfl (Does.slice1 u22 i3 rfl rfl rfl rfl rfl) ?_
            rintro _ v2 ⟨b2, rfl, hn2⟩
            refine ⟨((Mod.drew _ _).trans hg1).trans hn2.grow, ?_⟩
            refine DL.op rfl (.free rfl) rfl rfl (Does.append u22 i3 rfl rfl rfl rfl rfl (hr1.mod hn2.grow (fun _ _ h => h)) (Sl.new hn2 1 1 rfl (by omega) (fun h => h)) (rfl) (by omega)) ?_
            rintro u3 v3 ⟨hr3, hm3, hu3⟩
            have hf1 : Fresh w9.drew.heap.size u1 := fun b e => by
                rcases hu1 with h | h <;> rw [h] at e
                · simp [Value.ownBlock] at e
                · cases e; omega
            have hf3 : Fresh w9.drew.heap.size u3 := fun b e => by
                have h1 := hg1.size; have h2 := hn2.size
                rcases hu3 with h | h <;> rw [h] at e
                · exact hf1 b e
                · cases e; omega
            have hg13 : Grow w9.drew v3 := (hg1.trans hn2.grow).then hm3 (fun b hb e => by have := hf1 b e; omega)
            refine ⟨(Mod.drew _ _).trans hg13, ?_⟩
            refine DL.op rfl (.free rfl) rfl rfl (Does.append u22 i3 rfl rfl rfl rfl rfl (hr3) (hlo _ (hgd.trans hg13)) (allOne_ints _) (by omega)) ?_
            rintro u4 v4 ⟨hr4, hm4, hu4⟩
            have hg14 : Grow w9.drew v4 := hg13.then hm4 (fun b hb e => by have := hf3 b e; omega)
            have hf4 : Fresh w.heap.size u4 := fun b e => by
                have h1 := hg13.size; have h2 := (hg.trans hgd).size
                rcases hu4 with h | h <;> rw [h] at e
                · have := hf3 b e; omega
                · cases e; omega
            refine ⟨(Mod.drew _ _).trans hg14, ?_⟩
            refine DL.p rfl rfl rfl ?_
            refine DL.done ?_
            refine RK.inBlock ?_
            refine RK.region ?_
            iterate 2 refine RL.p rfl rfl ?_
            refine RL.re (d := 11) rfl rfl (succ_i64 (by have := hv.big; omega)) ?_
            refine RL.p rfl rfl ?_
            refine RL.done ?_
            exact RK.back (ih (i + 1, u4) _ ⟨by rw [htk, rise_snoc, hLe]; exact laid hj hI hr4, hf4, (hg.trans hgd).trans hg14, by simp; omega⟩ (by simp; omega)) ⟨rfl, rfl, rfl, trivial⟩
          · refine DL.op rfl (.free rfl) rfl rfl (Does.slice1 u22 i3 rfl rfl rfl rfl rfl) ?_
            rintro _ v2 ⟨b2, rfl, hn2⟩
            refine ⟨(Mod.drew _ _).trans hn2.grow, ?_⟩
            refine DL.op rfl (.free rfl) rfl rfl (Does.append u22 i3 rfl rfl rfl rfl rfl (Row.nil _ _ _) (hhi _ (hgd.trans hn2.grow)) (allOne_ints _) (by omega)) ?_
            rintro u1 v1 ⟨hr1, hm1, hu1⟩
            have hg1' : Grow v2 v1 := hm1.mono (fun b _ e => by simp [Value.ownBlock] at e)
            have hg1 : Grow w9.drew v1 := hn2.grow.trans hg1'
            refine ⟨(Mod.drew _ _).trans hg1, ?_⟩
            refine DL.op rfl (.free rfl) rfl rfl (Does.append u22 i3 rfl rfl rfl rfl rfl (hr1) ((Sl.new hn2 1 1 rfl (by omega) (fun h => h)).mod hg1') (rfl) (by omega)) ?_
            rintro u3 v3 ⟨hr3, hm3, hu3⟩
            have hf1 : Fresh w9.drew.heap.size u1 := fun b e => by
                have h2 := hn2.size
                rcases hu1 with h | h <;> rw [h] at e
                · simp [Value.ownBlock] at e
                · cases e; omega
            have hf3 : Fresh w9.drew.heap.size u3 := fun b e => by
                have h1 := hg1.size
                rcases hu3 with h | h <;> rw [h] at e
                · exact hf1 b e
                · cases e; omega
            have hg13 : Grow w9.drew v3 := hg1.then hm3 (fun b hb e => by have := hf1 b e; omega)
            refine ⟨(Mod.drew _ _).trans hg13, ?_⟩
            refine DL.op rfl (.free rfl) rfl rfl (Does.append u22 i3 rfl rfl rfl rfl rfl (hr3) (hlo _ (hgd.trans hg13)) (allOne_ints _) (by omega)) ?_
            rintro u4 v4 ⟨hr4, hm4, hu4⟩
            have hg14 : Grow w9.drew v4 := hg13.then hm4 (fun b hb e => by have := hf3 b e; omega)
            have hf4 : Fresh w.heap.size u4 := fun b e => by
                have h1 := hg13.size; have h2 := (hg.trans hgd).size
                rcases hu4 with h | h <;> rw [h] at e
                · have := hf3 b e; omega
                · cases e; omega
            refine ⟨(Mod.drew _ _).trans hg14, ?_⟩
            refine DL.p rfl rfl rfl ?_
            refine DL.done ?_
            refine RK.inBlock ?_
            refine RK.region ?_
            iterate 2 refine RL.p rfl rfl ?_
            refine RL.re (d := 11) rfl rfl (succ_i64 (by have := hv.big; omega)) ?_
            refine RL.p rfl rfl ?_
            refine RL.done ?_
            exact RK.back (ih (i + 1, u4) _ ⟨by rw [htk, rise_snoc, hLe]; exact laid hj hI hr4, hf4, (hg.trans hgd).trans hg14, by simp; omega⟩ (by simp; omega)) ⟨rfl, rfl, rfl, trivial⟩
    · have hj0 : j = 0 := by omega
      have hpos : pos ltI x L = j := pos_split hj hD (fun z h0 _ => by omega)
      have hI : insR L x = L.take j ++ x :: L.drop j := by unfold insR; rw [hpos, if_neg (by rintro ⟨h, _⟩; omega)]
      iterate 10 refine DL.no rfl (.no rfl rfl rfl rfl) rfl rfl ?_
      refine DL.p rfl rfl rfl ?_
      refine DL.done ?_
      refine RK.condF rfl ?_
      refine RK.exit rfl ?_
      iterate 2 refine RK.seq ?_
      refine RK.drawM No [(0, false), (1, false), (2, false), (3, false), (4, false), (5, false), (6, false), (7, false), (8, false), (9, false), (10, false), (11, false), (12, false), (13, false)] [] mixed (by kernel_rfl) ?_
      iterate 3 refine DL.p rfl rfl rfl ?_
      refine DL.knownF (d := 32) rfl rfl (decide_eq_false h15) ?_
      iterate 10 refine DL.no rfl (.no rfl rfl rfl rfl) rfl rfl ?_
      refine DL.p rfl rfl rfl ?_
      refine DL.done ?_
      obtain ⟨w9, hw9⟩ : ∃ w9, w9 = w2.drew.drew := ⟨_, rfl⟩
      have hgr : Grow w' w9 := hw9 ▸ ((hg2.trans (Mod.drew _ _)).trans (Mod.drew _ _))
      rw [← hw9]
      have hgd : Grow w' w9.drew := hgr.trans (Mod.drew _ _)
      refine RK.condF rfl ?_
      refine RK.skip ?_
      refine RK.drawF No [(0, false), (1, false), (2, false), (4, false), (5, false), (6, false), (7, false), (10, false), (11, false), (12, false)] 3 8 [(8, true), (9, true), (13, true), (14, false)] [(3, true), (9, true), (13, true), (14, false)] [] mixed (by kernel_rfl) ?_
      iterate 2 refine DL.p rfl rfl rfl ?_
      refine DL.qf rfl (.free rfl) rfl rfl (Yld.sliceHi u22 i3 (m := j) rfl rfl (by omega)) ?_
      iterate 2 refine DL.p rfl rfl rfl ?_
      refine DL.qf rfl (.free rfl) rfl rfl (Yld.indexAddrN u22 i3 rfl rfl (by omega)) ?_
      refine DL.q rfl (.free rfl) rfl rfl rfl (Yld.load p3 rfl (atM (hin _ hgr) (fun h => h))) (Mod.drew _ _) ?_
      iterate 2 refine DL.p rfl rfl rfl ?_
      refine DL.qf rfl (.free rfl) rfl rfl (Yld.sliceFrom u22 i3 (m := j) rfl rfl hj) ?_
      refine DL.fork ?_ ?_
      · refine DL.op rfl (.free rfl) rfl rfl (Does.append u22 i3 rfl rfl rfl rfl rfl (Row.nil _ _ _) (hhi _ hgd) (allOne_ints _) (by omega)) ?_
        rintro u1 v1 ⟨hr1, hm1, hu1⟩
        have hg1 : Grow w9.drew v1 := hm1.mono (fun b _ e => by simp [Value.ownBlock] at e)
        refine ⟨(Mod.drew _ _).trans hg1, ?_⟩
        refine DL.op rfl (.free rfl) rfl rfl (Does.slice1 u22 i3 rfl rfl rfl rfl rfl) ?_
        rintro _ v2 ⟨b2, rfl, hn2⟩
        refine ⟨((Mod.drew _ _).trans hg1).trans hn2.grow, ?_⟩
        refine DL.op rfl (.free rfl) rfl rfl (Does.append u22 i3 rfl rfl rfl rfl rfl (hr1.mod hn2.grow (fun _ _ h => h)) (Sl.new hn2 1 1 rfl (by omega) (fun h => h)) (rfl) (by omega)) ?_
        rintro u3 v3 ⟨hr3, hm3, hu3⟩
        have hf1 : Fresh w9.drew.heap.size u1 := fun b e => by
            rcases hu1 with h | h <;> rw [h] at e
            · simp [Value.ownBlock] at e
            · cases e; omega
        have hf3 : Fresh w9.drew.heap.size u3 := fun b e => by
            have h1 := hg1.size; have h2 := hn2.size
            rcases hu3 with h | h <;> rw [h] at e
            · exact hf1 b e
            · cases e; omega
        have hg13 : Grow w9.drew v3 := (hg1.trans hn2.grow).then hm3 (fun b hb e => by have := hf1 b e; omega)
        refine ⟨(Mod.drew _ _).trans hg13, ?_⟩
        refine DL.op rfl (.free rfl) rfl rfl (Does.append u22 i3 rfl rfl rfl rfl rfl (hr3) (hlo _ (hgd.trans hg13)) (allOne_ints _) (by omega)) ?_
        rintro u4 v4 ⟨hr4, hm4, hu4⟩
        have hg14 : Grow w9.drew v4 := hg13.then hm4 (fun b hb e => by have := hf3 b e; omega)
        have hf4 : Fresh w.heap.size u4 := fun b e => by
            have h1 := hg13.size; have h2 := (hg.trans hgd).size
            rcases hu4 with h | h <;> rw [h] at e
            · have := hf3 b e; omega
            · cases e; omega
        refine ⟨(Mod.drew _ _).trans hg14, ?_⟩
        refine DL.p rfl rfl rfl ?_
        refine DL.done ?_
        refine RK.inBlock ?_
        refine RK.region ?_
        iterate 2 refine RL.p rfl rfl ?_
        refine RL.re (d := 11) rfl rfl (succ_i64 (by have := hv.big; omega)) ?_
        refine RL.p rfl rfl ?_
        refine RL.done ?_
        exact RK.back (ih (i + 1, u4) _ ⟨by rw [htk, rise_snoc, hLe]; exact laid hj hI hr4, hf4, (hg.trans hgd).trans hg14, by simp; omega⟩ (by simp; omega)) ⟨rfl, rfl, rfl, trivial⟩
      · refine DL.op rfl (.free rfl) rfl rfl (Does.slice1 u22 i3 rfl rfl rfl rfl rfl) ?_
        rintro _ v2 ⟨b2, rfl, hn2⟩
        refine ⟨(Mod.drew _ _).trans hn2.grow, ?_⟩
        refine DL.op rfl (.free rfl) rfl rfl (Does.append u22 i3 rfl rfl rfl rfl rfl (Row.nil _ _ _) (hhi _ (hgd.trans hn2.grow)) (allOne_ints _) (by omega)) ?_
        rintro u1 v1 ⟨hr1, hm1, hu1⟩
        have hg1' : Grow v2 v1 := hm1.mono (fun b _ e => by simp [Value.ownBlock] at e)
        have hg1 : Grow w9.drew v1 := hn2.grow.trans hg1'
        refine ⟨(Mod.drew _ _).trans hg1, ?_⟩
        refine DL.op rfl (.free rfl) rfl rfl (Does.append u22 i3 rfl rfl rfl rfl rfl (hr1) ((Sl.new hn2 1 1 rfl (by omega) (fun h => h)).mod hg1') (rfl) (by omega)) ?_
        rintro u3 v3 ⟨hr3, hm3, hu3⟩
        have hf1 : Fresh w9.drew.heap.size u1 := fun b e => by
            have h2 := hn2.size
            rcases hu1 with h | h <;> rw [h] at e
            · simp [Value.ownBlock] at e
            · cases e; omega
        have hf3 : Fresh w9.drew.heap.size u3 := fun b e => by
            have h1 := hg1.size
            rcases hu3 with h | h <;> rw [h] at e
            · exact hf1 b e
            · cases e; omega
        have hg13 : Grow w9.drew v3 := hg1.then hm3 (fun b hb e => by have := hf1 b e; omega)
        refine ⟨(Mod.drew _ _).trans hg13, ?_⟩
        refine DL.op rfl (.free rfl) rfl rfl (Does.append u22 i3 rfl rfl rfl rfl rfl (hr3) (hlo _ (hgd.trans hg13)) (allOne_ints _) (by omega)) ?_
        rintro u4 v4 ⟨hr4, hm4, hu4⟩
        have hg14 : Grow w9.drew v4 := hg13.then hm4 (fun b hb e => by have := hf3 b e; omega)
        have hf4 : Fresh w.heap.size u4 := fun b e => by
            have h1 := hg13.size; have h2 := (hg.trans hgd).size
            rcases hu4 with h | h <;> rw [h] at e
            · have := hf3 b e; omega
            · cases e; omega
        refine ⟨(Mod.drew _ _).trans hg14, ?_⟩
        refine DL.p rfl rfl rfl ?_
        refine DL.done ?_
        refine RK.inBlock ?_
        refine RK.region ?_
        iterate 2 refine RL.p rfl rfl ?_
        refine RL.re (d := 11) rfl rfl (succ_i64 (by have := hv.big; omega)) ?_
        refine RL.p rfl rfl ?_
        refine RL.done ?_
        exact RK.back (ih (i + 1, u4) _ ⟨by rw [htk, rise_snoc, hLe]; exact laid hj hI hr4, hf4, (hg.trans hgd).trans hg14, by simp; omega⟩ (by simp; omega)) ⟨rfl, rfl, rfl, trivial⟩
  · have ek : xs.take i = xs := List.take_of_length_le (by omega)
    rw [ek] at hr
    refine RK.exit rfl ?_
    refine RK.seq ?_
    refine RK.region ?_
    iterate 2 refine RL.p rfl rfl ?_
    refine RL.done ?_
    refine RK.ret_of Tryz.func44 (res1 rfl rfl) ?_ _
    exact ⟨_, rfl, hr, hfr, hg⟩
end Go.Proofs.YtffbcfcoddacmaaGreat
set_option linter.unusedVariables false
set_option linter.unusedSimpArgs false
set_option maxHeartbeats 400000
set_option maxRecDepth 100000
namespace Go.Proofs.YtffbcfcoddacmaaGreat
open Go Go.X
abbrev Ris (l : List Int) : Prop := l.Pairwise fun x y => x < y
theorem Ris.nodup {l : List Int} (h : Ris l) : l.Nodup := List.Pairwise.imp (fun h e => by omega) h
theorem ext_ris {l1 l2 : List Int} (h1 : Ris l1) (h2 : Ris l2) (h : ∀ x, x ∈ l1 ↔ x ∈ l2) : l1 = l2 := by
  have hp : l1.Perm l2 := (List.perm_ext_iff_of_nodup h1.nodup h2.nodup).2 h
  exact List.Perm.eq_of_pairwise (le := fun a b => a < b) (fun a b _ _ h1 h2 => by omega) h1 h2 hp
theorem compactUpTo_mem (d : Array Int) : ∀ m, m ≤ d.size → ∀ x, x ∈ Lib.compactUpTo d m ↔ ∃ j, j < m ∧ d[j]! = x := by
  intro m
  induction m with
  | zero => intro _ x; simp [Lib.compactUpTo]
  | succ m ih =>
    intro hm x
    rw [Lib.compactUpTo_succ, List.mem_append, ih (by omega)]
    constructor
    · rintro (⟨j, hj, e⟩ | h)
      · exact ⟨j, by omega, e⟩
      · split at h
        · simp at h; exact ⟨m, by omega, h.symm⟩
        · simp at h
    · rintro ⟨j, hj, e⟩
      by_cases hjm : j = m
      · subst hjm
        cases hk : Lib.keeps d j with
        | true => right; simp [e]
        | false =>
          left
          simp only [Lib.keeps, decide_eq_false_iff_not, not_or, Decidable.not_not] at hk
          exact ⟨j - 1, by omega, by rw [← hk.2]; exact e⟩
      · exact .inl ⟨j, by omega, e⟩
theorem mem_compact (zs : List Int) (x : Int) : x ∈ Lib.compact zs ↔ x ∈ zs := by
  unfold Lib.compact
  rw [compactUpTo_mem _ _ (by simp)]
  constructor
  · rintro ⟨j, hj, e⟩
    have : zs.toArray[j]! = zs[j] := by simp [hj]
    rw [this] at e; subst e; exact List.getElem_mem _
  · intro h
    obtain ⟨j, hj, e⟩ := List.getElem_of_mem h
    exact ⟨j, hj, by simp [hj, e]⟩
theorem compact_ris (zs : List Int) (h : zs.Pairwise fun x y => x ≤ y) : Ris (Lib.compact zs) := by
  unfold Lib.compact
  have key : ∀ m, m ≤ zs.length → Ris (Lib.compactUpTo zs.toArray m) := by
    intro m
    induction m with
    | zero => intro _; simp [Lib.compactUpTo]
    | succ m ih =>
      intro hm
      rw [Lib.compactUpTo_succ]
      refine List.pairwise_append.2 ⟨ih (by omega), by split <;> simp, fun a ha b hb => ?_⟩
      obtain ⟨j, hj, rfl⟩ := (compactUpTo_mem _ m (by simp; omega) a).1 ha
      split at hb
      · rename_i hk
        have hb := List.mem_singleton.1 hb
        subst hb
        simp only [Lib.keeps, decide_eq_true_eq] at hk
        have e1 : ∀ i, (hi : i < zs.length) → zs.toArray[i]! = zs[i] := fun i hi => by simp [hi]
        rcases hk with rfl | hk
        · omega
        · rw [e1 m (by omega), e1 (m - 1) (by omega)] at hk
          rw [e1 j (by omega), e1 m (by omega)]
          have hle := List.pairwise_iff_getElem.1 h
          have h2 := hle (m - 1) m (by omega) (by omega) (by omega)
          by_cases hjm : j = m - 1
          · subst hjm; omega
          · have h3 := hle j (m - 1) (by omega) (by omega) (by omega)
            omega
      · simp at hb
  exact key _ (Nat.le_refl _)
theorem sortI_le (xs : List Int) : (sortI xs).Pairwise fun x y => x ≤ y := by
  have := List.pairwise_mergeSort (le := fun x y : Int => decide (x ≤ y)) (fun a b c h1 h2 => by simp only [decide_eq_true_eq] at *; omega) (fun a b => by simp only [Bool.or_eq_true, decide_eq_true_eq]; omega) xs
  exact this.imp fun h => by simpa using h
theorem mem_mkRow {xs : List Int} {x : Int} : x ∈ mkRow xs ↔ x ∈ xs := by
  unfold mkRow
  rw [mem_compact]
  simp [sortI]
theorem mkRow_ris (xs : List Int) : Ris (mkRow xs) := compact_ris _ (sortI_le xs)
theorem mkRow_id {xs : List Int} (h : Ris xs) : mkRow xs = xs := ext_ris (mkRow_ris xs) h fun _ => mem_mkRow
theorem pos_cut (x : Int) (L : List Int) : ∃ A T, L = A ++ T ∧ pos ltI x L = A.length ∧ (∀ y ∈ T, x < y) ∧ ∀ A' y, A = A' ++ [y] → ¬ x < y := by
  have e : L = (L.reverse.dropWhile (ltI x)).reverse ++ (L.reverse.takeWhile (ltI x)).reverse := by
    rw [← List.reverse_append, List.takeWhile_append_dropWhile, List.reverse_reverse]
  refine ⟨(L.reverse.dropWhile (ltI x)).reverse, (L.reverse.takeWhile (ltI x)).reverse, e, ?_, fun y hy => ?_, fun A' y h => ?_⟩
  · have h1 := congrArg List.length e
    unfold pos
    simp only [List.length_append, List.length_reverse] at h1 ⊢
    omega
  · exact of_decide_eq_true (List.all_eq_true.1 (List.all_takeWhile (p := ltI x) (l := L.reverse)) y (by simpa using hy))
  · have h2 : L.reverse.dropWhile (ltI x) = y :: A'.reverse := by have := congrArg List.reverse h; simpa using this
    have := List.head_dropWhile_not (ltI x) (l := L.reverse) (by rw [h2]; simp)
    simpa [h2, ltI] using this
theorem pos_spec (x : Int) (L : List Int) : pos ltI x L ≤ L.length ∧ (∀ y ∈ L.drop (pos ltI x L), x < y) ∧ ∀ y, 0 < pos ltI x L → L[pos ltI x L - 1]? = some y → ¬ x < y := by
  obtain ⟨A, T, rfl, hp, hT, hA⟩ := pos_cut x L
  refine ⟨Nat.sub_le _ _, fun y hy => ?_, fun y h0 hy => ?_⟩
  · rw [hp, List.drop_left] at hy; exact hT y hy
  · rw [hp] at hy h0
    rcases List.eq_nil_or_concat A with rfl | ⟨A', z, rfl⟩
    · simp at h0
    · rw [List.concat_eq_append] at hy hA
      rw [List.getElem?_append_left (by simp)] at hy
      simp at hy
      subst hy
      exact hA A' z rfl
theorem insR_mem {L : List Int} {x y : Int} : y ∈ insR L x ↔ y ∈ L ∨ y = x := by
  unfold insR
  split
  · rename_i h
    have := List.mem_of_getElem? h.2
    constructor
    · exact .inl
    · rintro (h | rfl) <;> assumption
  · have : y ∈ L ↔ y ∈ L.take (pos ltI x L) ∨ y ∈ L.drop (pos ltI x L) := by rw [← List.mem_append, List.take_append_drop]
    rw [this, List.mem_append, List.mem_cons]
    constructor
    · rintro (h | h | h) <;> simp [h]
    · rintro ((h | h) | h) <;> simp [h]
theorem insR_ris {L : List Int} (x : Int) (hL : Ris L) : Ris (insR L x) := by
  obtain ⟨h1, h2, h3⟩ := pos_spec x L
  unfold insR
  split
  · exact hL
  · rename_i hn
    generalize pos ltI x L = j at *
    have hs : Ris (L.take j ++ L.drop j) := by rw [List.take_append_drop]; exact hL
    obtain ⟨a1, a2, a3⟩ := List.pairwise_append.1 hs
    refine List.pairwise_append.2 ⟨a1, List.pairwise_cons.2 ⟨h2, a2⟩, fun a ha b hb => ?_⟩
    have hax : a < x := by
      obtain ⟨i, hi, rfl⟩ := List.getElem_of_mem ha
      simp at hi
      have hj0 : 0 < j := by omega
      have hlast : L[j - 1]? = some (L[j - 1]'(by omega)) := List.getElem?_eq_getElem (by omega)
      have h4 := h3 _ hj0 hlast
      have h5 : L[j - 1]'(by omega) ≠ x := fun e => hn ⟨hj0, by rw [hlast, e]⟩
      rw [List.getElem_take]
      by_cases e : i = j - 1
      · subst e; omega
      · have := List.pairwise_iff_getElem.1 hL i (j - 1) (by omega) (by omega) (by omega)
        omega
    rcases List.mem_cons.1 hb with rfl | hb
    · exact hax
    · have := h2 b hb; omega
theorem rise_spec (xs : List Int) : Ris (rise xs) ∧ ∀ y, y ∈ rise xs ↔ y ∈ xs := by
  have key : ∀ (xs L : List Int), Ris L → Ris (xs.foldl insR L) ∧ ∀ y, y ∈ xs.foldl insR L ↔ y ∈ L ∨ y ∈ xs := by
    intro xs
    induction xs with
    | nil => intro L h; simp [h]
    | cons x xs ih =>
      intro L h
      obtain ⟨h1, h2⟩ := ih (insR L x) (insR_ris x h)
      refine ⟨h1, fun y => ?_⟩
      rw [List.foldl_cons, h2, insR_mem, List.mem_cons]
      constructor
      · rintro ((h | h) | h) <;> simp [h]
      · rintro (h | h | h) <;> simp [h]
  obtain ⟨h1, h2⟩ := key xs [] List.Pairwise.nil
  exact ⟨h1, fun y => by rw [show rise xs = xs.foldl insR [] from rfl, h2]; simp⟩
theorem rise_ris (xs : List Int) : Ris (rise xs) := (rise_spec xs).1
theorem mem_rise {xs : List Int} {y : Int} : y ∈ rise xs ↔ y ∈ xs := (rise_spec xs).2 y
end Go.Proofs.YtffbcfcoddacmaaGreat
set_option linter.unusedVariables false
set_option linter.unusedSimpArgs false
set_option maxHeartbeats 400000
set_option maxRecDepth 100000
namespace Go.Proofs.YtffbcfcoddacmaaGreat
open Go Go.X
def cutRow (row : List Int) (id : Int) : List Int := (mkRow row).filter fun y => decide (y ≠ id)
theorem mem_cutRow {row : List Int} {id x : Int} : x ∈ cutRow row id ↔ x ∈ row ∧ x ≠ id := by simp [cutRow, mem_mkRow]
def cutRow1 (id : Int) (r : List (LabK × List Int)) (x : Lab) : List (LabK × List Int) :=
  if cutRow ((lookM r (labK x)).getD []) id = [] then cutM (putM r (labK x) (cutRow ((lookM r (labK x)).getD []) id)) (labK x) else putM r (labK x) (cutRow ((lookM r (labK x)).getD []) id)
def dropRows (rows : List (LabK × List Int)) (id : Int) (ls : List Lab) : List (LabK × List Int) := ls.foldl (cutRow1 id) rows
end Go.Proofs.YtffbcfcoddacmaaGreat
set_option linter.unusedVariables false
set_option linter.unusedSimpArgs false
set_option maxHeartbeats 1000000
set_option maxRecDepth 100000
namespace Go.Proofs.YtffbcfcoddacmaaGreat
open Go Go.X
theorem value2_ok (s : ByteArray) (w : World) : Fx Tryz.prog 107 [.string s] w (fun v w' => v = .bool (valS s) ∧ w = w') := by
  refine enter Tryz.func107 rfl rfl rfl _ (Pick.sub (l := [0]) (.cons rfl .nil)) ?_
  refine RK.seq ?_
  refine RK.region ?_
  refine RL.p rfl rfl ?_
  refine RL.done ?_
  refine RK.seq ?_
  refine RK.region ?_
  refine RL.p rfl rfl ?_
  refine RL.q (.free rfl) rfl rfl (Yld.lenStr u9 rfl) ?_
  iterate 2 refine RL.p rfl rfl ?_
  first | refine RL.splitD (d := 6) rfl rfl (fun h6 => ?_) (fun h6 => ?_) | refine RL.splitN (d := 6) rfl rfl (fun h6 => ?_) (fun h6 => ?_) | refine RL.split (d := 6) rfl rfl (fun h6 => ?_) (fun h6 => ?_)
  · refine RL.q (.yes rfl rfl rfl) rfl rfl (Yld.pure rfl) ?_
    refine RL.q (.yes rfl rfl rfl) rfl rfl (Yld.lenStr u9 rfl) ?_
    refine RL.q (.yes rfl rfl rfl) rfl rfl (Yld.pure rfl) ?_
    iterate 2 refine RL.p rfl rfl ?_
    refine RL.done ?_
    refine RK.ret_of Tryz.func107 (res1 rfl rfl) ?_ _
    exact ⟨_, rfl, congrArg _ (by rw [Bool.eq_iff_iff]; simp [valS]; omega), rfl⟩
  · iterate 3 refine RL.no (.no rfl rfl rfl rfl) rfl rfl ?_
    iterate 2 refine RL.p rfl rfl ?_
    refine RL.done ?_
    refine RK.ret_of Tryz.func107 (res1 rfl rfl) ?_ _
    exact ⟨_, rfl, congrArg _ (by rw [Bool.eq_iff_iff]; simp [valS]; omega), rfl⟩
def NmTo (s : ByteArray) (k : Nat) : Prop := (∀ i, i < k → chS (bt s i).toNat = true) ∧ (0 < k → letS (bt s 0).toNat = true)
theorem NmTo.no {s : ByteArray} {k : Nat} (hk : k < s.size) (h : letS (bt s k).toNat = false) (h' : k = 0 ∨ ¬ (48 ≤ ((bt s k).toNat : Int) ∧ ((bt s k).toNat : Int) ≤ 57)) : nameS s = false := by
  rcases h' with rfl | h'
  · exact name_no2 h
  · exact name_no3 hk (by simp [chS, h]; omega)
theorem NmTo.step {s : ByteArray} {k : Nat} (h : NmTo s k) (h' : letS (bt s k).toNat = true ∨ k ≠ 0 ∧ 48 ≤ ((bt s k).toNat : Int) ∧ ((bt s k).toNat : Int) ≤ 57) : NmTo s (k + 1) := by
  refine ⟨fun i hi => ?_, fun _ => ?_⟩
  · by_cases e : i = k
    · subst e
      rcases h' with h' | h'
      · simp [chS, h']
      · simp [chS]; exact .inr (by omega)
    · exact h.1 i (by omega)
  · by_cases e : k = 0
    · subst e
      rcases h' with h' | h'
      · exact h'
      · exact absurd rfl h'.1
    · exact h.2 (by omega)
theorem NmTo.end {s : ByteArray} {k : Nat} (h : NmTo s k) (hk : k = s.size) : nameS s = decide (1 ≤ s.size ∧ s.size ≤ 12) := by
  subst hk
  by_cases hs : 1 ≤ s.size ∧ s.size ≤ 12
  · rw [decide_eq_true hs]
    exact name_yes hs.1 hs.2 (h.2 (by omega)) h.1
  · rw [decide_eq_false hs]
    exact name_no1 hs
theorem name2_ok (s : ByteArray) (hsz : s.size ≤ 9223372036854775807) (w : World) : Fx Tryz.prog 106 [.string s] w (fun v w' => v = .bool (nameS s) ∧ w = w') := by
  refine enter Tryz.func106 rfl rfl rfl _ (Pick.sub (l := [0]) (.cons rfl .nil)) ?_
  refine RK.seq ?_
  refine RK.region ?_
  refine RL.p rfl rfl ?_
  refine RL.done ?_
  iterate 2 refine RK.seq ?_
  refine RK.region ?_
  refine RL.p rfl rfl ?_
  refine RL.done ?_
  refine RK.block ?_
  refine RK.loop (fun k : Nat => [(0, .string s), (3, .int .i64 k)]) (fun k w' => w = w' ∧ k ≤ s.size ∧ NmTo s k) (fun k => s.size - k) 0 ⟨rfl, rfl, trivial⟩ ⟨rfl, by omega, fun i hi => by omega, fun h => by omega⟩ (fun k w' hI ih => ?_)
  obtain ⟨rfl, hk, hn⟩ := hI
  iterate 2 refine RK.seq ?_
  refine RK.region ?_
  iterate 2 refine RL.p rfl rfl ?_
  refine RL.q (.free rfl) rfl rfl (Yld.lenStr u9 rfl) ?_
  refine RL.p rfl rfl ?_
  refine RL.done ?_
  first | refine RK.condD rfl (fun h9 => ?_) (fun h9 => ?_) | refine RK.condN rfl (fun h9 => ?_) (fun h9 => ?_) | refine RK.cond rfl (fun h9 => ?_) (fun h9 => ?_)
  · refine RK.skip ?_
    refine RK.seq ?_
    refine RK.block ?_
    refine RK.seq ?_
    refine RK.region ?_
    iterate 2 refine RL.p rfl rfl ?_
    refine RL.q (.free rfl) rfl rfl (Yld.idxStrN u9 rfl rfl (by omega)) ?_
    refine RL.p rfl rfl ?_
    refine RL.done ?_
    refine RK.seq ?_
    refine RK.region ?_
    iterate 3 refine RL.p rfl rfl ?_
    first | refine RL.splitD (d := 17) rfl rfl (fun h17 => ?_) (fun h17 => ?_) | refine RL.splitN (d := 17) rfl rfl (fun h17 => ?_) (fun h17 => ?_) | refine RL.split (d := 17) rfl rfl (fun h17 => ?_) (fun h17 => ?_)
    · iterate 2 refine RL.q (.yes rfl rfl rfl) rfl rfl (Yld.pure rfl) ?_
      iterate 2 refine RL.p rfl rfl ?_
      first | refine RL.splitD (d := 21) rfl rfl (fun h21 => ?_) (fun h21 => ?_) | refine RL.splitN (d := 21) rfl rfl (fun h21 => ?_) (fun h21 => ?_) | refine RL.split (d := 21) rfl rfl (fun h21 => ?_) (fun h21 => ?_)
      · iterate 6 refine RL.no (.no rfl rfl rfl rfl) rfl rfl ?_
        iterate 2 refine RL.p rfl rfl ?_
        iterate 2 refine RL.no (.no rfl rfl rfl rfl) rfl rfl ?_
        iterate 2 refine RL.p rfl rfl ?_
        refine RL.done ?_
        refine RK.seq ?_
        refine RK.region ?_
        iterate 3 refine RL.p rfl rfl ?_
        iterate 10 refine RL.no (.no rfl rfl rfl rfl) rfl rfl ?_
        refine RL.p rfl rfl ?_
        refine RL.done ?_
        refine RK.condF rfl ?_
        refine RK.skip ?_
        refine RK.inBlock ?_
        refine RK.region ?_
        iterate 2 refine RL.p rfl rfl ?_
        refine RL.re (d := 11) rfl rfl (succ_i64 (by omega)) ?_
        refine RL.p rfl rfl ?_
        refine RL.done ?_
        exact RK.back (ih (k + 1) _ ⟨rfl, by omega, hn.step (by first | exact .inl (by simp [letS]; omega) | exact .inr (by omega))⟩ (by omega)) ⟨rfl, rfl, trivial⟩
      · iterate 3 refine RL.q (.yes rfl rfl rfl) rfl rfl (Yld.pure rfl) ?_
        first | refine RL.splitD (d := 24) rfl rfl (fun h24 => ?_) (fun h24 => ?_) | refine RL.splitN (d := 24) rfl rfl (fun h24 => ?_) (fun h24 => ?_) | refine RL.split (d := 24) rfl rfl (fun h24 => ?_) (fun h24 => ?_)
        · iterate 3 refine RL.q (.yes rfl rfl rfl) rfl rfl (Yld.pure rfl) ?_
          iterate 2 refine RL.p rfl rfl ?_
          first | refine RL.splitD (d := 29) rfl rfl (fun h29 => ?_) (fun h29 => ?_) | refine RL.splitN (d := 29) rfl rfl (fun h29 => ?_) (fun h29 => ?_) | refine RL.split (d := 29) rfl rfl (fun h29 => ?_) (fun h29 => ?_)
          · iterate 2 refine RL.no (.no rfl rfl rfl rfl) rfl rfl ?_
            iterate 2 refine RL.p rfl rfl ?_
            refine RL.done ?_
            refine RK.seq ?_
            refine RK.region ?_
            iterate 3 refine RL.p rfl rfl ?_
            iterate 10 refine RL.no (.no rfl rfl rfl rfl) rfl rfl ?_
            refine RL.p rfl rfl ?_
            refine RL.done ?_
            refine RK.condF rfl ?_
            refine RK.skip ?_
            refine RK.inBlock ?_
            refine RK.region ?_
            iterate 2 refine RL.p rfl rfl ?_
            refine RL.re (d := 11) rfl rfl (succ_i64 (by omega)) ?_
            refine RL.p rfl rfl ?_
            refine RL.done ?_
            exact RK.back (ih (k + 1) _ ⟨rfl, by omega, hn.step (by first | exact .inl (by simp [letS]; omega) | exact .inr (by omega))⟩ (by omega)) ⟨rfl, rfl, trivial⟩
          · iterate 2 refine RL.q (.yes rfl rfl rfl) rfl rfl (Yld.pure rfl) ?_
            iterate 2 refine RL.p rfl rfl ?_
            refine RL.done ?_
            refine RK.seq ?_
            refine RK.region ?_
            iterate 3 refine RL.p rfl rfl ?_
            first | refine RL.splitD (d := 35) rfl rfl (fun h35 => ?_) (fun h35 => ?_) | refine RL.splitN (d := 35) rfl rfl (fun h35 => ?_) (fun h35 => ?_) | refine RL.split (d := 35) rfl rfl (fun h35 => ?_) (fun h35 => ?_)
            · iterate 3 refine RL.q (.yes rfl rfl rfl) rfl rfl (Yld.pure rfl) ?_
              first | refine RL.splitD (d := 38) rfl rfl (fun h38 => ?_) (fun h38 => ?_) | refine RL.splitN (d := 38) rfl rfl (fun h38 => ?_) (fun h38 => ?_) | refine RL.split (d := 38) rfl rfl (fun h38 => ?_) (fun h38 => ?_)
              · iterate 2 refine RL.no (.no rfl rfl rfl rfl) rfl rfl ?_
                iterate 2 refine RL.q (.yes rfl rfl rfl) rfl rfl (Yld.pure rfl) ?_
                iterate 2 refine RL.no (.no rfl rfl rfl rfl) rfl rfl ?_
                refine RL.q (.yes rfl rfl rfl) rfl rfl (Yld.pure rfl) ?_
                refine RL.p rfl rfl ?_
                refine RL.done ?_
                refine RK.condT rfl ?_
                refine RK.seq ?_
                refine RK.region ?_
                refine RL.p rfl rfl ?_
                refine RL.done ?_
                refine RK.ret_of Tryz.func106 (res1 rfl rfl) ?_ _
                exact ⟨_, rfl, congrArg _ (by first
                    | exact (NmTo.no (k := k) (by omega) (by simp [letS]; omega) (by omega)).symm
                    | (rw [hn.end (by omega)]; rw [Bool.eq_iff_iff]; simp; omega)), rfl⟩
              · iterate 4 refine RL.q (.yes rfl rfl rfl) rfl rfl (Yld.pure rfl) ?_
                first | refine RL.splitD (d := 42) rfl rfl (fun h42 => ?_) (fun h42 => ?_) | refine RL.splitN (d := 42) rfl rfl (fun h42 => ?_) (fun h42 => ?_) | refine RL.split (d := 42) rfl rfl (fun h42 => ?_) (fun h42 => ?_)
                · iterate 2 refine RL.no (.no rfl rfl rfl rfl) rfl rfl ?_
                  refine RL.q (.yes rfl rfl rfl) rfl rfl (Yld.pure rfl) ?_
                  refine RL.p rfl rfl ?_
                  refine RL.done ?_
                  refine RK.condT rfl ?_
                  refine RK.seq ?_
                  refine RK.region ?_
                  refine RL.p rfl rfl ?_
                  refine RL.done ?_
                  refine RK.ret_of Tryz.func106 (res1 rfl rfl) ?_ _
                  exact ⟨_, rfl, congrArg _ (by first
                      | exact (NmTo.no (k := k) (by omega) (by simp [letS]; omega) (by omega)).symm
                      | (rw [hn.end (by omega)]; rw [Bool.eq_iff_iff]; simp; omega)), rfl⟩
                · iterate 3 refine RL.q (.yes rfl rfl rfl) rfl rfl (Yld.pure rfl) ?_
                  refine RL.p rfl rfl ?_
                  refine RL.done ?_
                  first | refine RK.condD rfl (fun h46 => ?_) (fun h46 => ?_) | refine RK.condN rfl (fun h46 => ?_) (fun h46 => ?_) | refine RK.cond rfl (fun h46 => ?_) (fun h46 => ?_)
                  · refine RK.seq ?_
                    refine RK.region ?_
                    refine RL.p rfl rfl ?_
                    refine RL.done ?_
                    refine RK.ret_of Tryz.func106 (res1 rfl rfl) ?_ _
                    exact ⟨_, rfl, congrArg _ (by first
                        | exact (NmTo.no (k := k) (by omega) (by simp [letS]; omega) (by omega)).symm
                        | (rw [hn.end (by omega)]; rw [Bool.eq_iff_iff]; simp; omega)), rfl⟩
                  · refine RK.skip ?_
                    refine RK.inBlock ?_
                    refine RK.region ?_
                    iterate 2 refine RL.p rfl rfl ?_
                    refine RL.re (d := 11) rfl rfl (succ_i64 (by omega)) ?_
                    refine RL.p rfl rfl ?_
                    refine RL.done ?_
                    exact RK.back (ih (k + 1) _ ⟨rfl, by omega, hn.step (by first | exact .inl (by simp [letS]; omega) | exact .inr (by omega))⟩ (by omega)) ⟨rfl, rfl, trivial⟩
            · iterate 10 refine RL.no (.no rfl rfl rfl rfl) rfl rfl ?_
              refine RL.p rfl rfl ?_
              refine RL.done ?_
              refine RK.condF rfl ?_
              refine RK.skip ?_
              refine RK.inBlock ?_
              refine RK.region ?_
              iterate 2 refine RL.p rfl rfl ?_
              refine RL.re (d := 11) rfl rfl (succ_i64 (by omega)) ?_
              refine RL.p rfl rfl ?_
              refine RL.done ?_
              exact RK.back (ih (k + 1) _ ⟨rfl, by omega, hn.step (by first | exact .inl (by simp [letS]; omega) | exact .inr (by omega))⟩ (by omega)) ⟨rfl, rfl, trivial⟩
        · iterate 2 refine RL.no (.no rfl rfl rfl rfl) rfl rfl ?_
          refine RL.q (.yes rfl rfl rfl) rfl rfl (Yld.pure rfl) ?_
          iterate 2 refine RL.p rfl rfl ?_
          iterate 2 refine RL.q (.yes rfl rfl rfl) rfl rfl (Yld.pure rfl) ?_
          iterate 2 refine RL.p rfl rfl ?_
          refine RL.done ?_
          refine RK.seq ?_
          refine RK.region ?_
          iterate 3 refine RL.p rfl rfl ?_
          first | refine RL.splitD (d := 35) rfl rfl (fun h35 => ?_) (fun h35 => ?_) | refine RL.splitN (d := 35) rfl rfl (fun h35 => ?_) (fun h35 => ?_) | refine RL.split (d := 35) rfl rfl (fun h35 => ?_) (fun h35 => ?_)
          · iterate 3 refine RL.q (.yes rfl rfl rfl) rfl rfl (Yld.pure rfl) ?_
            first | refine RL.splitD (d := 38) rfl rfl (fun h38 => ?_) (fun h38 => ?_) | refine RL.splitN (d := 38) rfl rfl (fun h38 => ?_) (fun h38 => ?_) | refine RL.split (d := 38) rfl rfl (fun h38 => ?_) (fun h38 => ?_)
            · iterate 2 refine RL.no (.no rfl rfl rfl rfl) rfl rfl ?_
              iterate 2 refine RL.q (.yes rfl rfl rfl) rfl rfl (Yld.pure rfl) ?_
              iterate 2 refine RL.no (.no rfl rfl rfl rfl) rfl rfl ?_
              refine RL.q (.yes rfl rfl rfl) rfl rfl (Yld.pure rfl) ?_
              refine RL.p rfl rfl ?_
              refine RL.done ?_
              refine RK.condT rfl ?_
              refine RK.seq ?_
              refine RK.region ?_
              refine RL.p rfl rfl ?_
              refine RL.done ?_
              refine RK.ret_of Tryz.func106 (res1 rfl rfl) ?_ _
              exact ⟨_, rfl, congrArg _ (by first
                  | exact (NmTo.no (k := k) (by omega) (by simp [letS]; omega) (by omega)).symm
                  | (rw [hn.end (by omega)]; rw [Bool.eq_iff_iff]; simp; omega)), rfl⟩
            · iterate 4 refine RL.q (.yes rfl rfl rfl) rfl rfl (Yld.pure rfl) ?_
              first | refine RL.splitD (d := 42) rfl rfl (fun h42 => ?_) (fun h42 => ?_) | refine RL.splitN (d := 42) rfl rfl (fun h42 => ?_) (fun h42 => ?_) | refine RL.split (d := 42) rfl rfl (fun h42 => ?_) (fun h42 => ?_)
              · iterate 2 refine RL.no (.no rfl rfl rfl rfl) rfl rfl ?_
                refine RL.q (.yes rfl rfl rfl) rfl rfl (Yld.pure rfl) ?_
                refine RL.p rfl rfl ?_
                refine RL.done ?_
                refine RK.condT rfl ?_
                refine RK.seq ?_
                refine RK.region ?_
                refine RL.p rfl rfl ?_
                refine RL.done ?_
                refine RK.ret_of Tryz.func106 (res1 rfl rfl) ?_ _
                exact ⟨_, rfl, congrArg _ (by first
                    | exact (NmTo.no (k := k) (by omega) (by simp [letS]; omega) (by omega)).symm
                    | (rw [hn.end (by omega)]; rw [Bool.eq_iff_iff]; simp; omega)), rfl⟩
              · iterate 3 refine RL.q (.yes rfl rfl rfl) rfl rfl (Yld.pure rfl) ?_
                refine RL.p rfl rfl ?_
                refine RL.done ?_
                first | refine RK.condD rfl (fun h46 => ?_) (fun h46 => ?_) | refine RK.condN rfl (fun h46 => ?_) (fun h46 => ?_) | refine RK.cond rfl (fun h46 => ?_) (fun h46 => ?_)
                · refine RK.seq ?_
                  refine RK.region ?_
                  refine RL.p rfl rfl ?_
                  refine RL.done ?_
                  refine RK.ret_of Tryz.func106 (res1 rfl rfl) ?_ _
                  exact ⟨_, rfl, congrArg _ (by first
                      | exact (NmTo.no (k := k) (by omega) (by simp [letS]; omega) (by omega)).symm
                      | (rw [hn.end (by omega)]; rw [Bool.eq_iff_iff]; simp; omega)), rfl⟩
                · refine RK.skip ?_
                  refine RK.inBlock ?_
                  refine RK.region ?_
                  iterate 2 refine RL.p rfl rfl ?_
                  refine RL.re (d := 11) rfl rfl (succ_i64 (by omega)) ?_
                  refine RL.p rfl rfl ?_
                  refine RL.done ?_
                  exact RK.back (ih (k + 1) _ ⟨rfl, by omega, hn.step (by first | exact .inl (by simp [letS]; omega) | exact .inr (by omega))⟩ (by omega)) ⟨rfl, rfl, trivial⟩
          · iterate 10 refine RL.no (.no rfl rfl rfl rfl) rfl rfl ?_
            refine RL.p rfl rfl ?_
            refine RL.done ?_
            refine RK.condF rfl ?_
            refine RK.skip ?_
            refine RK.inBlock ?_
            refine RK.region ?_
            iterate 2 refine RL.p rfl rfl ?_
            refine RL.re (d := 11) rfl rfl (succ_i64 (by omega)) ?_
            refine RL.p rfl rfl ?_
            refine RL.done ?_
            exact RK.back (ih (k + 1) _ ⟨rfl, by omega, hn.step (by first | exact .inl (by simp [letS]; omega) | exact .inr (by omega))⟩ (by omega)) ⟨rfl, rfl, trivial⟩
    · iterate 2 refine RL.no (.no rfl rfl rfl rfl) rfl rfl ?_
      iterate 2 refine RL.p rfl rfl ?_
      iterate 3 refine RL.q (.yes rfl rfl rfl) rfl rfl (Yld.pure rfl) ?_
      first | refine RL.splitD (d := 24) rfl rfl (fun h24 => ?_) (fun h24 => ?_) | refine RL.splitN (d := 24) rfl rfl (fun h24 => ?_) (fun h24 => ?_) | refine RL.split (d := 24) rfl rfl (fun h24 => ?_) (fun h24 => ?_)
      · iterate 3 refine RL.q (.yes rfl rfl rfl) rfl rfl (Yld.pure rfl) ?_
        iterate 2 refine RL.p rfl rfl ?_
        first | refine RL.splitD (d := 29) rfl rfl (fun h29 => ?_) (fun h29 => ?_) | refine RL.splitN (d := 29) rfl rfl (fun h29 => ?_) (fun h29 => ?_) | refine RL.split (d := 29) rfl rfl (fun h29 => ?_) (fun h29 => ?_)
        · iterate 2 refine RL.no (.no rfl rfl rfl rfl) rfl rfl ?_
          iterate 2 refine RL.p rfl rfl ?_
          refine RL.done ?_
          refine RK.seq ?_
          refine RK.region ?_
          iterate 3 refine RL.p rfl rfl ?_
          iterate 10 refine RL.no (.no rfl rfl rfl rfl) rfl rfl ?_
          refine RL.p rfl rfl ?_
          refine RL.done ?_
          refine RK.condF rfl ?_
          refine RK.skip ?_
          refine RK.inBlock ?_
          refine RK.region ?_
          iterate 2 refine RL.p rfl rfl ?_
          refine RL.re (d := 11) rfl rfl (succ_i64 (by omega)) ?_
          refine RL.p rfl rfl ?_
          refine RL.done ?_
          exact RK.back (ih (k + 1) _ ⟨rfl, by omega, hn.step (by first | exact .inl (by simp [letS]; omega) | exact .inr (by omega))⟩ (by omega)) ⟨rfl, rfl, trivial⟩
        · iterate 2 refine RL.q (.yes rfl rfl rfl) rfl rfl (Yld.pure rfl) ?_
          iterate 2 refine RL.p rfl rfl ?_
          refine RL.done ?_
          refine RK.seq ?_
          refine RK.region ?_
          iterate 3 refine RL.p rfl rfl ?_
          first | refine RL.splitD (d := 35) rfl rfl (fun h35 => ?_) (fun h35 => ?_) | refine RL.splitN (d := 35) rfl rfl (fun h35 => ?_) (fun h35 => ?_) | refine RL.split (d := 35) rfl rfl (fun h35 => ?_) (fun h35 => ?_)
          · iterate 3 refine RL.q (.yes rfl rfl rfl) rfl rfl (Yld.pure rfl) ?_
            first | refine RL.splitD (d := 38) rfl rfl (fun h38 => ?_) (fun h38 => ?_) | refine RL.splitN (d := 38) rfl rfl (fun h38 => ?_) (fun h38 => ?_) | refine RL.split (d := 38) rfl rfl (fun h38 => ?_) (fun h38 => ?_)
            · iterate 2 refine RL.no (.no rfl rfl rfl rfl) rfl rfl ?_
              iterate 2 refine RL.q (.yes rfl rfl rfl) rfl rfl (Yld.pure rfl) ?_
              iterate 2 refine RL.no (.no rfl rfl rfl rfl) rfl rfl ?_
              refine RL.q (.yes rfl rfl rfl) rfl rfl (Yld.pure rfl) ?_
              refine RL.p rfl rfl ?_
              refine RL.done ?_
              refine RK.condT rfl ?_
              refine RK.seq ?_
              refine RK.region ?_
              refine RL.p rfl rfl ?_
              refine RL.done ?_
              refine RK.ret_of Tryz.func106 (res1 rfl rfl) ?_ _
              exact ⟨_, rfl, congrArg _ (by first
                  | exact (NmTo.no (k := k) (by omega) (by simp [letS]; omega) (by omega)).symm
                  | (rw [hn.end (by omega)]; rw [Bool.eq_iff_iff]; simp; omega)), rfl⟩
            · iterate 4 refine RL.q (.yes rfl rfl rfl) rfl rfl (Yld.pure rfl) ?_
              first | refine RL.splitD (d := 42) rfl rfl (fun h42 => ?_) (fun h42 => ?_) | refine RL.splitN (d := 42) rfl rfl (fun h42 => ?_) (fun h42 => ?_) | refine RL.split (d := 42) rfl rfl (fun h42 => ?_) (fun h42 => ?_)
              · iterate 2 refine RL.no (.no rfl rfl rfl rfl) rfl rfl ?_
                refine RL.q (.yes rfl rfl rfl) rfl rfl (Yld.pure rfl) ?_
                refine RL.p rfl rfl ?_
                refine RL.done ?_
                refine RK.condT rfl ?_
                refine RK.seq ?_
                refine RK.region ?_
                refine RL.p rfl rfl ?_
                refine RL.done ?_
                refine RK.ret_of Tryz.func106 (res1 rfl rfl) ?_ _
                exact ⟨_, rfl, congrArg _ (by first
                    | exact (NmTo.no (k := k) (by omega) (by simp [letS]; omega) (by omega)).symm
                    | (rw [hn.end (by omega)]; rw [Bool.eq_iff_iff]; simp; omega)), rfl⟩
              · iterate 3 refine RL.q (.yes rfl rfl rfl) rfl rfl (Yld.pure rfl) ?_
                refine RL.p rfl rfl ?_
                refine RL.done ?_
                first | refine RK.condD rfl (fun h46 => ?_) (fun h46 => ?_) | refine RK.condN rfl (fun h46 => ?_) (fun h46 => ?_) | refine RK.cond rfl (fun h46 => ?_) (fun h46 => ?_)
                · refine RK.seq ?_
                  refine RK.region ?_
                  refine RL.p rfl rfl ?_
                  refine RL.done ?_
                  refine RK.ret_of Tryz.func106 (res1 rfl rfl) ?_ _
                  exact ⟨_, rfl, congrArg _ (by first
                      | exact (NmTo.no (k := k) (by omega) (by simp [letS]; omega) (by omega)).symm
                      | (rw [hn.end (by omega)]; rw [Bool.eq_iff_iff]; simp; omega)), rfl⟩
                · refine RK.skip ?_
                  refine RK.inBlock ?_
                  refine RK.region ?_
                  iterate 2 refine RL.p rfl rfl ?_
                  refine RL.re (d := 11) rfl rfl (succ_i64 (by omega)) ?_
                  refine RL.p rfl rfl ?_
                  refine RL.done ?_
                  exact RK.back (ih (k + 1) _ ⟨rfl, by omega, hn.step (by first | exact .inl (by simp [letS]; omega) | exact .inr (by omega))⟩ (by omega)) ⟨rfl, rfl, trivial⟩
          · iterate 10 refine RL.no (.no rfl rfl rfl rfl) rfl rfl ?_
            refine RL.p rfl rfl ?_
            refine RL.done ?_
            refine RK.condF rfl ?_
            refine RK.skip ?_
            refine RK.inBlock ?_
            refine RK.region ?_
            iterate 2 refine RL.p rfl rfl ?_
            refine RL.re (d := 11) rfl rfl (succ_i64 (by omega)) ?_
            refine RL.p rfl rfl ?_
            refine RL.done ?_
            exact RK.back (ih (k + 1) _ ⟨rfl, by omega, hn.step (by first | exact .inl (by simp [letS]; omega) | exact .inr (by omega))⟩ (by omega)) ⟨rfl, rfl, trivial⟩
      · iterate 2 refine RL.no (.no rfl rfl rfl rfl) rfl rfl ?_
        refine RL.q (.yes rfl rfl rfl) rfl rfl (Yld.pure rfl) ?_
        iterate 2 refine RL.p rfl rfl ?_
        iterate 2 refine RL.q (.yes rfl rfl rfl) rfl rfl (Yld.pure rfl) ?_
        iterate 2 refine RL.p rfl rfl ?_
        refine RL.done ?_
        refine RK.seq ?_
        refine RK.region ?_
        iterate 3 refine RL.p rfl rfl ?_
        first | refine RL.splitD (d := 35) rfl rfl (fun h35 => ?_) (fun h35 => ?_) | refine RL.splitN (d := 35) rfl rfl (fun h35 => ?_) (fun h35 => ?_) | refine RL.split (d := 35) rfl rfl (fun h35 => ?_) (fun h35 => ?_)
        · iterate 3 refine RL.q (.yes rfl rfl rfl) rfl rfl (Yld.pure rfl) ?_
          first | refine RL.splitD (d := 38) rfl rfl (fun h38 => ?_) (fun h38 => ?_) | refine RL.splitN (d := 38) rfl rfl (fun h38 => ?_) (fun h38 => ?_) | refine RL.split (d := 38) rfl rfl (fun h38 => ?_) (fun h38 => ?_)
          · iterate 2 refine RL.no (.no rfl rfl rfl rfl) rfl rfl ?_
            iterate 2 refine RL.q (.yes rfl rfl rfl) rfl rfl (Yld.pure rfl) ?_
            iterate 2 refine RL.no (.no rfl rfl rfl rfl) rfl rfl ?_
            refine RL.q (.yes rfl rfl rfl) rfl rfl (Yld.pure rfl) ?_
            refine RL.p rfl rfl ?_
            refine RL.done ?_
            refine RK.condT rfl ?_
            refine RK.seq ?_
            refine RK.region ?_
            refine RL.p rfl rfl ?_
            refine RL.done ?_
            refine RK.ret_of Tryz.func106 (res1 rfl rfl) ?_ _
            exact ⟨_, rfl, congrArg _ (by first
                | exact (NmTo.no (k := k) (by omega) (by simp [letS]; omega) (by omega)).symm
                | (rw [hn.end (by omega)]; rw [Bool.eq_iff_iff]; simp; omega)), rfl⟩
          · iterate 4 refine RL.q (.yes rfl rfl rfl) rfl rfl (Yld.pure rfl) ?_
            first | refine RL.splitD (d := 42) rfl rfl (fun h42 => ?_) (fun h42 => ?_) | refine RL.splitN (d := 42) rfl rfl (fun h42 => ?_) (fun h42 => ?_) | refine RL.split (d := 42) rfl rfl (fun h42 => ?_) (fun h42 => ?_)
            · iterate 2 refine RL.no (.no rfl rfl rfl rfl) rfl rfl ?_
              refine RL.q (.yes rfl rfl rfl) rfl rfl (Yld.pure rfl) ?_
              refine RL.p rfl rfl ?_
              refine RL.done ?_
              refine RK.condT rfl ?_
              refine RK.seq ?_
              refine RK.region ?_
              refine RL.p rfl rfl ?_
              refine RL.done ?_
              refine RK.ret_of Tryz.func106 (res1 rfl rfl) ?_ _
              exact ⟨_, rfl, congrArg _ (by first
                  | exact (NmTo.no (k := k) (by omega) (by simp [letS]; omega) (by omega)).symm
                  | (rw [hn.end (by omega)]; rw [Bool.eq_iff_iff]; simp; omega)), rfl⟩
            · iterate 3 refine RL.q (.yes rfl rfl rfl) rfl rfl (Yld.pure rfl) ?_
              refine RL.p rfl rfl ?_
              refine RL.done ?_
              first | refine RK.condD rfl (fun h46 => ?_) (fun h46 => ?_) | refine RK.condN rfl (fun h46 => ?_) (fun h46 => ?_) | refine RK.cond rfl (fun h46 => ?_) (fun h46 => ?_)
              · refine RK.seq ?_
                refine RK.region ?_
                refine RL.p rfl rfl ?_
                refine RL.done ?_
                refine RK.ret_of Tryz.func106 (res1 rfl rfl) ?_ _
                exact ⟨_, rfl, congrArg _ (by first
                    | exact (NmTo.no (k := k) (by omega) (by simp [letS]; omega) (by omega)).symm
                    | (rw [hn.end (by omega)]; rw [Bool.eq_iff_iff]; simp; omega)), rfl⟩
              · refine RK.skip ?_
                refine RK.inBlock ?_
                refine RK.region ?_
                iterate 2 refine RL.p rfl rfl ?_
                refine RL.re (d := 11) rfl rfl (succ_i64 (by omega)) ?_
                refine RL.p rfl rfl ?_
                refine RL.done ?_
                exact RK.back (ih (k + 1) _ ⟨rfl, by omega, hn.step (by first | exact .inl (by simp [letS]; omega) | exact .inr (by omega))⟩ (by omega)) ⟨rfl, rfl, trivial⟩
        · iterate 10 refine RL.no (.no rfl rfl rfl rfl) rfl rfl ?_
          refine RL.p rfl rfl ?_
          refine RL.done ?_
          refine RK.condF rfl ?_
          refine RK.skip ?_
          refine RK.inBlock ?_
          refine RK.region ?_
          iterate 2 refine RL.p rfl rfl ?_
          refine RL.re (d := 11) rfl rfl (succ_i64 (by omega)) ?_
          refine RL.p rfl rfl ?_
          refine RL.done ?_
          exact RK.back (ih (k + 1) _ ⟨rfl, by omega, hn.step (by first | exact .inl (by simp [letS]; omega) | exact .inr (by omega))⟩ (by omega)) ⟨rfl, rfl, trivial⟩
  · refine RK.exit rfl ?_
    refine RK.seq ?_
    refine RK.region ?_
    refine RL.p rfl rfl ?_
    refine RL.q (.free rfl) rfl rfl (Yld.lenStr u9 rfl) ?_
    iterate 2 refine RL.p rfl rfl ?_
    first | refine RL.splitD (d := 50) rfl rfl (fun h50 => ?_) (fun h50 => ?_) | refine RL.splitN (d := 50) rfl rfl (fun h50 => ?_) (fun h50 => ?_) | refine RL.split (d := 50) rfl rfl (fun h50 => ?_) (fun h50 => ?_)
    · refine RL.q (.yes rfl rfl rfl) rfl rfl (Yld.pure rfl) ?_
      refine RL.q (.yes rfl rfl rfl) rfl rfl (Yld.lenStr u9 rfl) ?_
      refine RL.q (.yes rfl rfl rfl) rfl rfl (Yld.pure rfl) ?_
      iterate 2 refine RL.p rfl rfl ?_
      refine RL.done ?_
      refine RK.ret_of Tryz.func106 (res1 rfl rfl) ?_ _
      exact ⟨_, rfl, congrArg _ (by first
          | exact (NmTo.no (k := k) (by omega) (by simp [letS]; omega) (by omega)).symm
          | (rw [hn.end (by omega)]; rw [Bool.eq_iff_iff]; simp; omega)), rfl⟩
    · iterate 3 refine RL.no (.no rfl rfl rfl rfl) rfl rfl ?_
      iterate 2 refine RL.p rfl rfl ?_
      refine RL.done ?_
      refine RK.ret_of Tryz.func106 (res1 rfl rfl) ?_ _
      exact ⟨_, rfl, congrArg _ (by first
          | exact (NmTo.no (k := k) (by omega) (by simp [letS]; omega) (by omega)).symm
          | (rw [hn.end (by omega)]; rw [Bool.eq_iff_iff]; simp; omega)), rfl⟩
theorem isSet_ok (M : Nat → Prop) (ls : List Lab) (hsz : ∀ x ∈ ls, x.name.size ≤ 9223372036854775807) (v : Value) (w : World) (hv : SlL M w v ls) : Fx Tryz.prog 51 [v] w (fun u w' => u = .bool (isS ls) ∧ Grow w w') := by
  obtain ⟨ad, c, rfl⟩ := hv.shape
  have hbig := hv.big
  refine enter Tryz.func51 rfl rfl rfl _ (Pick.sub (l := [0]) (.cons rfl .nil)) ?_
  refine RK.seq ?_
  refine RK.region ?_
  refine RL.p rfl rfl ?_
  refine RL.done ?_
  iterate 2 refine RK.seq ?_
  refine RK.region ?_
  refine RL.p rfl rfl ?_
  refine RL.q (.free rfl) rfl rfl (Yld.lenSl u26 rfl) ?_
  iterate 2 refine RL.p rfl rfl ?_
  first | refine RL.splitD (d := 7) rfl rfl (fun h7 => ?_) (fun h7 => ?_) | refine RL.splitN (d := 7) rfl rfl (fun h7 => ?_) (fun h7 => ?_) | refine RL.split (d := 7) rfl rfl (fun h7 => ?_) (fun h7 => ?_)
  · iterate 3 refine RL.no (.no rfl rfl rfl rfl) rfl rfl ?_
    refine RL.p rfl rfl ?_
    refine RL.done ?_
    refine RK.condT rfl ?_
    refine RK.seq ?_
    refine RK.region ?_
    refine RL.p rfl rfl ?_
    refine RL.done ?_
    refine RK.ret_of Tryz.func51 (res1 rfl rfl) ?_ _
    exact ⟨_, rfl, congrArg _ (by first
        | exact (is_no1 (by omega)).symm
        | exact (is_no2 (i := k) (by omega) (okAt_no1 hx (by simpa using h25))).symm
        | exact (is_no2 (i := k) (by omega) (okAt_no2 hx (by simpa using h34))).symm
        | exact (is_no2 (i := k) (by omega) (okAt_no3 hx hj hy h51)).symm
        | exact (is_yes (by omega) (by omega) fun i hi => hall i (by omega)).symm), by first
        | exact Mod.refl _ _
        | exact hg.trans (Mod.drew _ _)
        | exact hg⟩
  · refine RL.q (.yes rfl rfl rfl) rfl rfl (Yld.pure rfl) ?_
    refine RL.q (.yes rfl rfl rfl) rfl rfl (Yld.lenSl u26 rfl) ?_
    refine RL.q (.yes rfl rfl rfl) rfl rfl (Yld.pure rfl) ?_
    refine RL.p rfl rfl ?_
    refine RL.done ?_
    first | refine RK.condD rfl (fun h11 => ?_) (fun h11 => ?_) | refine RK.condN rfl (fun h11 => ?_) (fun h11 => ?_) | refine RK.cond rfl (fun h11 => ?_) (fun h11 => ?_)
    · refine RK.seq ?_
      refine RK.region ?_
      refine RL.p rfl rfl ?_
      refine RL.done ?_
      refine RK.ret_of Tryz.func51 (res1 rfl rfl) ?_ _
      exact ⟨_, rfl, congrArg _ (by first
          | exact (is_no1 (by omega)).symm
          | exact (is_no2 (i := k) (by omega) (okAt_no1 hx (by simpa using h25))).symm
          | exact (is_no2 (i := k) (by omega) (okAt_no2 hx (by simpa using h34))).symm
          | exact (is_no2 (i := k) (by omega) (okAt_no3 hx hj hy h51)).symm
          | exact (is_yes (by omega) (by omega) fun i hi => hall i (by omega)).symm), by first
          | exact Mod.refl _ _
          | exact hg.trans (Mod.drew _ _)
          | exact hg⟩
    · refine RK.skip ?_
      iterate 2 refine RK.seq ?_
      refine RK.region ?_
      refine RL.p rfl rfl ?_
      refine RL.done ?_
      refine RK.block ?_
      refine RK.loop (fun k : Nat => [(0, .slice ad ls.length c), (3, .int .i64 k)]) (fun k w' => Grow w w' ∧ k ≤ ls.length ∧ ∀ i, i < k → okAt ls i = true) (fun k => ls.length - k) 0 ⟨rfl, rfl, trivial⟩ ⟨Mod.refl _ _, by omega, fun i hi => by omega⟩ (fun k w' hI ih => ?_)
      obtain ⟨hg, hk, hall⟩ := hI
      iterate 2 refine RK.seq ?_
      refine RK.region ?_
      iterate 2 refine RL.p rfl rfl ?_
      refine RL.q (.free rfl) rfl rfl (Yld.lenSl u26 rfl) ?_
      refine RL.p rfl rfl ?_
      refine RL.done ?_
      first | refine RK.condD rfl (fun h15 => ?_) (fun h15 => ?_) | refine RK.condN rfl (fun h15 => ?_) (fun h15 => ?_) | refine RK.cond rfl (fun h15 => ?_) (fun h15 => ?_)
      · obtain ⟨x, hx⟩ : ∃ x, ls[k]? = some x := ⟨ls[k]'(by omega), List.getElem?_eq_getElem (by omega)⟩
        obtain ⟨b, o, c', he, hb, hkl, hcell⟩ := hv.elem labC_len hx
        cases he
        refine RK.skip ?_
        refine RK.seq ?_
        refine RK.block ?_
        refine RK.seq ?_
        refine RK.drawM No [(0, false), (1, false), (2, false), (3, false), (4, false), (5, true), (6, false), (7, false), (8, false), (9, false), (10, false), (11, false), (12, false), (13, true), (14, false), (15, false), (16, false), (17, false), (18, false), (19, false), (20, false), (21, false), (22, false), (23, false), (24, false), (25, false), (26, false), (27, false), (28, false), (29, false), (30, false), (31, false), (32, false), (33, false)] [] mixed (by kernel_rfl) ?_
        iterate 2 refine DL.p rfl rfl rfl ?_
        refine DL.qf rfl (.free rfl) rfl rfl (Yld.indexAddrN u26 i46 rfl rfl (by omega)) ?_
        refine DL.qf rfl (.free rfl) rfl rfl (Yld.fieldAddr fo46_0 rfl) ?_
        refine DL.q rfl (.free rfl) rfl rfl rfl (Yld.load p9 rfl (atM (hg.cell (hcell 0 _ rfl) (fun h => h)) (fun h => h))) (Mod.drew _ _) ?_
        refine DL.op rfl (.free rfl) rfl rfl (Does.call rfl e106 (name2_ok _ (hsz x (List.mem_of_getElem? hx)) _)) ?_
        rintro _ _ ⟨rfl, rfl⟩
        refine ⟨Mod.drew _ _, ?_⟩
        iterate 2 refine DL.p rfl rfl rfl ?_
        first | refine DL.splitD (d := 25) rfl rfl (fun h25 => ?_) (fun h25 => ?_) | refine DL.splitN (d := 25) rfl rfl (fun h25 => ?_) (fun h25 => ?_) | refine DL.split (d := 25) rfl rfl (fun h25 => ?_) (fun h25 => ?_)
        · iterate 5 refine DL.no rfl (.no rfl rfl rfl rfl) rfl rfl ?_
          refine DL.lno rfl (.no rfl rfl rfl rfl) rfl rfl ?_
          refine DL.no rfl (.no rfl rfl rfl rfl) rfl rfl ?_
          iterate 2 refine DL.p rfl rfl rfl ?_
          iterate 16 refine DL.no rfl (.no rfl rfl rfl rfl) rfl rfl ?_
          refine DL.p rfl rfl rfl ?_
          refine DL.done ?_
          refine RK.condT rfl ?_
          refine RK.seq ?_
          refine RK.region ?_
          refine RL.p rfl rfl ?_
          refine RL.done ?_
          refine RK.ret_of Tryz.func51 (res1 rfl rfl) ?_ _
          exact ⟨_, rfl, congrArg _ (by first
              | exact (is_no1 (by omega)).symm
              | exact (is_no2 (i := k) (by omega) (okAt_no1 hx (by simpa using h25))).symm
              | exact (is_no2 (i := k) (by omega) (okAt_no2 hx (by simpa using h34))).symm
              | exact (is_no2 (i := k) (by omega) (okAt_no3 hx hj hy h51)).symm
              | exact (is_yes (by omega) (by omega) fun i hi => hall i (by omega)).symm), by first
              | exact Mod.refl _ _
              | exact hg.trans (Mod.drew _ _)
              | exact hg⟩
        · iterate 2 refine DL.qf rfl (.yes rfl rfl rfl) rfl rfl (Yld.pure rfl) ?_
          refine DL.qf rfl (.yes rfl rfl rfl) rfl rfl (Yld.indexAddrN u26 i46 rfl rfl (by omega)) ?_
          refine DL.qf rfl (.yes rfl rfl rfl) rfl rfl (Yld.fieldAddr fo46_1 rfl) ?_
          refine DL.q rfl (.yes rfl rfl rfl) rfl rfl rfl (Yld.load p9 rfl (atM (hg.cell (hcell 1 _ rfl) (fun h => h)) (fun h => h))) (Mod.drew _ _) ?_
          refine DL.op rfl (.yes rfl rfl rfl) rfl rfl (Does.call rfl e107 (value2_ok _ _)) ?_
          rintro _ _ ⟨rfl, rfl⟩
          refine ⟨Mod.drew _ _, ?_⟩
          refine DL.qf rfl (.yes rfl rfl rfl) rfl rfl (Yld.pure rfl) ?_
          iterate 2 refine DL.p rfl rfl rfl ?_
          first | refine DL.splitD (d := 34) rfl rfl (fun h34 => ?_) (fun h34 => ?_) | refine DL.splitN (d := 34) rfl rfl (fun h34 => ?_) (fun h34 => ?_) | refine DL.split (d := 34) rfl rfl (fun h34 => ?_) (fun h34 => ?_)
          · iterate 16 refine DL.no rfl (.no rfl rfl rfl rfl) rfl rfl ?_
            refine DL.p rfl rfl rfl ?_
            refine DL.done ?_
            refine RK.condT rfl ?_
            refine RK.seq ?_
            refine RK.region ?_
            refine RL.p rfl rfl ?_
            refine RL.done ?_
            refine RK.ret_of Tryz.func51 (res1 rfl rfl) ?_ _
            exact ⟨_, rfl, congrArg _ (by first
                | exact (is_no1 (by omega)).symm
                | exact (is_no2 (i := k) (by omega) (okAt_no1 hx (by simpa using h25))).symm
                | exact (is_no2 (i := k) (by omega) (okAt_no2 hx (by simpa using h34))).symm
                | exact (is_no2 (i := k) (by omega) (okAt_no3 hx hj hy h51)).symm
                | exact (is_yes (by omega) (by omega) fun i hi => hall i (by omega)).symm), by first
                | exact Mod.refl _ _
                | exact hg.trans (Mod.drew _ _)
                | exact hg⟩
          · iterate 3 refine DL.qf rfl (.yes rfl rfl rfl) rfl rfl (Yld.pure rfl) ?_
            first | refine DL.splitD (d := 37) rfl rfl (fun h37 => ?_) (fun h37 => ?_) | refine DL.splitN (d := 37) rfl rfl (fun h37 => ?_) (fun h37 => ?_) | refine DL.split (d := 37) rfl rfl (fun h37 => ?_) (fun h37 => ?_)
            · obtain ⟨j, hj⟩ : ∃ j, k = j + 1 := ⟨k - 1, by omega⟩
              obtain ⟨y, hy⟩ : ∃ y, ls[j]? = some y := ⟨ls[j]'(by omega), List.getElem?_eq_getElem (by omega)⟩
              obtain ⟨b', o', c', he, hb', hkl', hcell'⟩ := hv.elem labC_len hy
              cases he
              iterate 2 refine DL.qf rfl (.yes rfl rfl rfl) rfl rfl (Yld.pure rfl) ?_
              refine DL.qf rfl (.yes rfl rfl rfl) rfl rfl (Yld.indexAddrN u26 i46 rfl rfl (by omega)) ?_
              refine DL.qf rfl (.yes rfl rfl rfl) rfl rfl (Yld.fieldAddr fo46_0 rfl) ?_
              refine DL.q rfl (.yes rfl rfl rfl) rfl rfl rfl (Yld.load p9 rfl (atM (hg.cell (hcell 0 _ rfl) (fun h => h)) (fun h => h))) (Mod.drew _ _) ?_
              iterate 3 refine DL.qf rfl (.yes rfl rfl rfl) rfl rfl (Yld.pure rfl) ?_
              refine DL.re (d := 45) rfl rfl (sub_i64 (z := (j : Int)) (by omega) (by omega) (by omega)) ?_
              refine DL.qf rfl (.yes rfl rfl rfl) rfl rfl (Yld.indexAddrN u26 i46 rfl rfl (by omega)) ?_
              refine DL.qf rfl (.yes rfl rfl rfl) rfl rfl (Yld.fieldAddr fo46_0 rfl) ?_
              refine DL.q rfl (.yes rfl rfl rfl) rfl rfl rfl (Yld.load p9 rfl (atM (hg.cell (hcell' 0 _ rfl) (fun h => h)) (fun h => h))) (Mod.drew _ _) ?_
              iterate 2 refine DL.qf rfl (.yes rfl rfl rfl) rfl rfl (Yld.pure rfl) ?_
              refine DL.p rfl rfl rfl ?_
              refine DL.done ?_
              first | refine RK.condD rfl (fun h51 => ?_) (fun h51 => ?_) | refine RK.condN rfl (fun h51 => ?_) (fun h51 => ?_) | refine RK.cond rfl (fun h51 => ?_) (fun h51 => ?_)
              · refine RK.seq ?_
                refine RK.region ?_
                refine RL.p rfl rfl ?_
                refine RL.done ?_
                refine RK.ret_of Tryz.func51 (res1 rfl rfl) ?_ _
                exact ⟨_, rfl, congrArg _ (by first
                    | exact (is_no1 (by omega)).symm
                    | exact (is_no2 (i := k) (by omega) (okAt_no1 hx (by simpa using h25))).symm
                    | exact (is_no2 (i := k) (by omega) (okAt_no2 hx (by simpa using h34))).symm
                    | exact (is_no2 (i := k) (by omega) (okAt_no3 hx hj hy h51)).symm
                    | exact (is_yes (by omega) (by omega) fun i hi => hall i (by omega)).symm), by first
                    | exact Mod.refl _ _
                    | exact hg.trans (Mod.drew _ _)
                    | exact hg⟩
              · refine RK.skip ?_
                refine RK.inBlock ?_
                refine RK.region ?_
                iterate 2 refine RL.p rfl rfl ?_
                refine RL.re (d := 17) rfl rfl (succ_i64 (by omega)) ?_
                refine RL.p rfl rfl ?_
                refine RL.done ?_
                exact RK.back (ih (k + 1) _ ⟨hg.trans (Mod.drew _ _), by omega, ok_snoc hall (by first | exact okAt_yes1 hx (by simpa using h25) (by simpa using h34) hj hy h51 | exact okAt_yes0 hx (by simpa using h25) (by simpa using h34) (by omega))⟩ (by omega)) ⟨rfl, rfl, trivial⟩
            · iterate 12 refine DL.no rfl (.no rfl rfl rfl rfl) rfl rfl ?_
              refine DL.qf rfl (.yes rfl rfl rfl) rfl rfl (Yld.pure rfl) ?_
              refine DL.p rfl rfl rfl ?_
              refine DL.done ?_
              refine RK.condF rfl ?_
              refine RK.skip ?_
              refine RK.inBlock ?_
              refine RK.region ?_
              iterate 2 refine RL.p rfl rfl ?_
              refine RL.re (d := 17) rfl rfl (succ_i64 (by omega)) ?_
              refine RL.p rfl rfl ?_
              refine RL.done ?_
              exact RK.back (ih (k + 1) _ ⟨hg.trans (Mod.drew _ _), by omega, ok_snoc hall (by first | exact okAt_yes1 hx (by simpa using h25) (by simpa using h34) hj hy h51 | exact okAt_yes0 hx (by simpa using h25) (by simpa using h34) (by omega))⟩ (by omega)) ⟨rfl, rfl, trivial⟩
      · refine RK.exit rfl ?_
        refine RK.seq ?_
        refine RK.region ?_
        refine RL.p rfl rfl ?_
        refine RL.done ?_
        refine RK.ret_of Tryz.func51 (res1 rfl rfl) ?_ _
        exact ⟨_, rfl, congrArg _ (by first
            | exact (is_no1 (by omega)).symm
            | exact (is_no2 (i := k) (by omega) (okAt_no1 hx (by simpa using h25))).symm
            | exact (is_no2 (i := k) (by omega) (okAt_no2 hx (by simpa using h34))).symm
            | exact (is_no2 (i := k) (by omega) (okAt_no3 hx hj hy h51)).symm
            | exact (is_yes (by omega) (by omega) fun i hi => hall i (by omega)).symm), by first
            | exact Mod.refl _ _
            | exact hg.trans (Mod.drew _ _)
            | exact hg⟩
end Go.Proofs.YtffbcfcoddacmaaGreat
set_option linter.unusedVariables false
set_option linter.unusedSimpArgs false
set_option maxHeartbeats 400000
set_option maxRecDepth 100000
namespace Go.Proofs.YtffbcfcoddacmaaGreat
open Go Go.X
end Go.Proofs.YtffbcfcoddacmaaGreat
set_option linter.unusedVariables false
set_option linter.unusedSimpArgs false
set_option maxHeartbeats 800000
set_option maxRecDepth 100000
namespace Go.Proofs.YtffbcfcoddacmaaGreat
open Go Go.X
end Go.Proofs.YtffbcfcoddacmaaGreat
set_option linter.unusedVariables false
set_option linter.unusedSimpArgs false
set_option maxHeartbeats 400000
set_option maxRecDepth 100000
namespace Go.Proofs.YtffbcfcoddacmaaGreat
open Go Go.X
def giveS (out : List Int) (id : Int) : List Int := if out.contains id then cutRow out id else out
theorem cmpInt_ok (x y : Int) (w : World) : Fx Tryz.prog 128 [.int .i64 x, .int .i64 y] w (fun u w' => u = .int .i64 (Lib.compareInt x y) ∧ w = w') := by
  refine Calls.mono (Tryz.cmp_Compare_int x y w) ?_
  rintro e w' ⟨rfl, rfl⟩
  exact ⟨_, rfl, rfl, rfl⟩
end Go.Proofs.YtffbcfcoddacmaaGreat
set_option linter.unusedVariables false
set_option linter.unusedSimpArgs false
set_option maxHeartbeats 800000
set_option maxRecDepth 100000
namespace Go.Proofs.YtffbcfcoddacmaaGreat
open Go Go.X
end Go.Proofs.YtffbcfcoddacmaaGreat
set_option linter.unusedVariables false
set_option linter.unusedSimpArgs false
set_option maxHeartbeats 800000
set_option maxRecDepth 100000
namespace Go.Proofs.YtffbcfcoddacmaaGreat
open Go Go.X
def placeS (s : St) (id : Int) : Option Nat := s.al.findIdx? fun a => decide (a.1 = id)
def resolveS (s : St) (id : Int) : St × Int :=
  match placeS s id with
  | none => (s, 5)
  | some i => ({ s with al := s.al.eraseIdx i, out := giveS s.out id, has := cutM s.has id, rows := dropRows s.rows id ((lookM s.has id).getD []) }, 0)
end Go.Proofs.YtffbcfcoddacmaaGreat
set_option linter.unusedVariables false
set_option linter.unusedSimpArgs false
set_option maxHeartbeats 800000
set_option maxRecDepth 100000
namespace Go.Proofs.YtffbcfcoddacmaaGreat
open Go Go.X
end Go.Proofs.YtffbcfcoddacmaaGreat
set_option linter.unusedVariables false
set_option linter.unusedSimpArgs false
set_option maxHeartbeats 400000
set_option maxRecDepth 100000
namespace Go.Proofs.YtffbcfcoddacmaaGreat
open Go Go.X
abbrev AlS := Int × List Lab × Nat
end Go.Proofs.YtffbcfcoddacmaaGreat
