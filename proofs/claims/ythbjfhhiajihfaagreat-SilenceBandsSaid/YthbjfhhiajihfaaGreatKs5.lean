/- What the claim stands on, part 5. Of own lemmas only those that it reaches. -/
import Derived.Test.YthbjfhhiajihfaaGreatKs4
set_option linter.unusedVariables false
set_option linter.unusedSimpArgs false
set_option maxHeartbeats 1000000
set_option maxRecDepth 100000
namespace Go.Proofs.YthbjfhhiajihfaaGreat
open Go Go.X Go.Rex
abbrev SlS (M : Nat → Prop) (w : World) (v : Value) (P : List Stp) : Prop := Sl M w v 7 P.length (P.flatMap stC)
theorem check1_ok (P : List Stp) (s : Stp) (hw : W4 s.set) (hs : okS P.length s) (v : Value) (b1 : Nat) (w : World) (hv : SlS No w v P) (hb : Blk w b1 254 [v]) :
    Fx Tryz.prog 286 [stV s, pp b1] w (fun u w' => u = .bool false ∧ Grow w w') := by
  obtain ⟨ad, c, rfl⟩ := hv.shape
  refine enter Tryz.func286 rfl rfl rfl _ (Pick.sub (l := [0, 1]) (.cons rfl (.cons rfl .nil))) ?_
  refine RK.seq ?_
  refine RK.region ?_
  refine RL.op (.free rfl) rfl rfl (Does.box rfl) ?_
  rintro _ w2 ⟨b2, rfl, hn2⟩
  refine RL.p rfl rfl ?_
  refine RL.done ?_
  refine RK.seq ?_
  refine RK.region ?_
  refine RL.q (.free rfl) rfl rfl (Yld.loadN (cs := stC s) a301 rfl (atN (blk0' hn2.blk))) ?_
  refine RL.q (.free rfl) rfl rfl (Yld.load p254 rfl (at1 ((hb.mod hn2.grow (fun h => h)).cell rfl))) ?_
  refine RL.q (.free rfl) rfl rfl (Yld.lenSl u254 rfl) ?_
  refine RL.op (.free rfl) rfl rfl (Does.call rfl e287 (right_ok P.length s false hw (.inl ⟨rfl, hs⟩) _)) ?_
  rintro _ w3 ⟨rfl, hg3⟩
  iterate 2 refine RL.p rfl rfl ?_
  refine RL.done ?_
  refine RK.ret_of Tryz.func286 (res1 rfl rfl) ?_ _
  exact ⟨_, rfl, rfl, hn2.grow.trans hg3⟩
theorem checkI_ok (P : List Stp) (hP : OkP P) (ad : Option Addr) (c : Nat) (b1 : Nat) (w : World) (hv : SlS No w (.slice ad P.length c) P) (hb : Blk w b1 254 [.slice ad P.length c]) :
    Fx Tryz.prog 304 [.slice ad (P.length - 1) c, .func (.func 286) #[] #[pp b1]] w (fun u w' => u = .int .i64 (-1) ∧ Grow w w') := by
  have hle := hP.le
  refine enter Tryz.func304 rfl rfl rfl _ (Pick.sub (l := [0, 1]) (.cons rfl (.cons rfl .nil))) ?_
  refine RK.seq ?_
  refine RK.region ?_
  refine RL.p rfl rfl ?_
  refine RL.done ?_
  iterate 2 refine RK.seq ?_
  refine RK.region ?_
  refine RL.p rfl rfl ?_
  refine RL.q (.free rfl) rfl rfl (Yld.lenSl u254 rfl) ?_
  refine RL.p rfl rfl ?_
  refine RL.done ?_
  refine RK.block ?_
  refine RK.loop (fun k : Nat => [(0, .slice ad (P.length - 1) c), (1, .func (.func 286) #[] #[pp b1]), (7, .int .i64 ((P.length - 1 : Nat) : Int)), (8, .int .i64 k)]) (fun k w' => Grow w w' ∧ k ≤ P.length - 1) (fun k => P.length - 1 - k) 0 ⟨rfl, rfl, rfl, rfl, trivial⟩ ⟨Mod.refl _ _, by omega⟩ (fun k w' hI ih => ?_)
  obtain ⟨hg, hk⟩ := hI
  refine RK.seq ?_
  refine RK.region ?_
  refine RL.p rfl rfl ?_
  refine RL.done ?_
  refine RK.seq ?_
  first | refine RK.condD rfl (fun h9 => ?_) (fun h9 => ?_) | refine RK.condN rfl (fun h9 => ?_) (fun h9 => ?_) | refine RK.cond rfl (fun h9 => ?_) (fun h9 => ?_)
  · obtain ⟨s, hs⟩ : ∃ s, P[k]? = some s := ⟨P[k]'(by omega), List.getElem?_eq_getElem (by omega)⟩
    obtain ⟨hw4, hok⟩ := hP.at_ k s hs
    have hok' : okS P.length s := by rcases hok with ⟨_, h1⟩ | ⟨h1, _⟩; exact h1; omega
    obtain ⟨b2, o2, c2, he, _, _, hcl⟩ := hv.elem stC_len hs
    cases he
    refine RK.skip ?_
    refine RK.seq ?_
    refine RK.block ?_
    refine RK.seq ?_
    refine RK.region ?_
    iterate 2 refine RL.p rfl rfl ?_
    refine RL.done ?_
    refine RK.seq ?_
    refine RK.region ?_
    iterate 3 refine RL.p rfl rfl ?_
    refine RL.q (.free rfl) rfl rfl (Yld.indexAddrN u254 i301 rfl rfl (by omega)) ?_
    refine RL.q (.free rfl) rfl rfl (Yld.loadN (cs := stC s) a301 rfl (atN (fun j u hj => hg.cell (hcl j u hj) (fun h => h)))) ?_
    refine RL.op (.free rfl) rfl rfl (Does.callv rfl rfl e286 (check1_ok P s hw4 hok' _ b1 _ (hv.mod hg) (hb.mod hg (fun h => h)))) ?_
    rintro _ w2 ⟨rfl, hg2⟩
    refine RL.done ?_
    refine RK.condF (hcF rfl (rfl)) ?_
    refine RK.skip ?_
    refine RK.inBlock ?_
    refine RK.region ?_
    refine RL.p rfl rfl ?_
    refine RL.re (d := 18) rfl rfl (succ_i64 (by omega)) ?_
    refine RL.p rfl rfl ?_
    refine RL.done ?_
    exact RK.back (ih (k + 1) _ ⟨hg.trans hg2, by omega⟩ (by omega)) ⟨rfl, rfl, rfl, rfl, trivial⟩
  · refine RK.exit rfl ?_
    refine RK.seq ?_
    refine RK.region ?_
    refine RL.p rfl rfl ?_
    refine RL.done ?_
    refine RK.ret_of Tryz.func304 (res1 rfl rfl) ?_ _
    exact ⟨_, rfl, rfl, hg⟩
theorem checkC_ok (P : List Stp) (hP : OkP P) (ad : Option Addr) (c : Nat) (b1 : Nat) (w : World) (hv : SlS No w (.slice ad P.length c) P) (hb : Blk w b1 254 [.slice ad P.length c]) :
    Fx Tryz.prog 285 [.slice ad (P.length - 1) c, .func (.func 286) #[] #[pp b1]] w (fun u w' => u = .bool false ∧ Grow w w') := by
  refine enter Tryz.func285 rfl rfl rfl _ (Pick.sub (l := [0, 1]) (.cons rfl (.cons rfl .nil))) ?_
  refine RK.seq ?_
  refine RK.region ?_
  refine RL.p rfl rfl ?_
  refine RL.done ?_
  refine RK.seq ?_
  refine RK.region ?_
  iterate 2 refine RL.p rfl rfl ?_
  refine RL.op (.free rfl) rfl rfl (Does.call rfl e304 (checkI_ok P hP ad c b1 _ hv hb)) ?_
  rintro _ w2 ⟨rfl, hg2⟩
  iterate 2 refine RL.p rfl rfl ?_
  refine RL.done ?_
  refine RK.ret_of Tryz.func285 (res1 rfl rfl) ?_ _
  exact ⟨_, rfl, rfl, hg2⟩
theorem check_ok (P : List Stp) (hP : OkP P) (ad : Option Addr) (c : Nat) (hc : P.length ≤ c) (w : World) (hv : SlS No w (.slice ad P.length c) P) :
    Fx Tryz.prog 258 [.slice ad P.length c] w (fun u w' => u = .bool true ∧ Grow w w') := by
  have hle := hP.le
  have h1 := hP.one
  obtain ⟨s, hs⟩ : ∃ s, P[P.length - 1]? = some s := ⟨P[P.length - 1]'(by omega), List.getElem?_eq_getElem (by omega)⟩
  obtain ⟨hw4, hok⟩ := hP.at_ _ s hs
  have hok' : s = matchS := by rcases hok with ⟨h1, _⟩ | ⟨_, h1⟩; omega; exact h1
  obtain ⟨b2, o2, c2, he, _, _, hcl⟩ := hv.elem stC_len hs
  cases he
  refine enter Tryz.func258 rfl rfl rfl _ (Pick.sub (l := [0]) (.cons rfl .nil)) ?_
  refine RK.seq ?_
  refine RK.region ?_
  refine RL.op (.free rfl) rfl rfl (Does.box rfl) ?_
  rintro _ w1 ⟨b1, rfl, hn1⟩
  have hB1 := hn1.blk
  refine RL.p rfl rfl ?_
  refine RL.done ?_
  iterate 2 refine RK.seq ?_
  refine RK.region ?_
  refine RL.q (.free rfl) rfl rfl (Yld.load p254 rfl (at1 (hB1.cell rfl))) ?_
  refine RL.q (.free rfl) rfl rfl (Yld.lenSl u254 rfl) ?_
  iterate 2 refine RL.p rfl rfl ?_
  refine RL.knownF (d := 7) rfl rfl (decide_eq_false (by omega)) ?_
  refine RL.q (.yes rfl rfl rfl) rfl rfl (Yld.load p254 rfl (at1 (hB1.cell rfl))) ?_
  refine RL.q (.yes rfl rfl rfl) rfl rfl (Yld.lenSl u254 rfl) ?_
  refine RL.q (.yes rfl rfl rfl) rfl rfl (Yld.pure rfl) ?_
  refine RL.p rfl rfl ?_
  refine RL.done ?_
  refine RK.condF (hcF rfl (decide_eq_false (by omega))) ?_
  refine RK.skip ?_
  refine RK.seq ?_
  refine RK.region ?_
  refine RL.q (.free rfl) rfl rfl (Yld.load p254 rfl (at1 (hB1.cell rfl))) ?_
  refine RL.q (.free rfl) rfl rfl (Yld.lenSl u254 rfl) ?_
  refine RL.p rfl rfl ?_
  refine RL.re (d := 14) rfl rfl (sub_i64 (z := ((P.length - 1 : Nat) : Int)) (by omega) (by omega) (by omega)) ?_
  refine RL.p rfl rfl ?_
  refine RL.done ?_
  refine RK.seq ?_
  refine RK.drawM No [(0, false), (1, false), (2, false), (3, false), (4, true), (5, false), (6, false), (7, false), (8, false), (9, false), (10, false), (11, false), (12, false), (13, true), (14, false), (15, false)] [] mixed (by kernel_rfl) ?_
  refine DL.q rfl (.free rfl) rfl rfl rfl (Yld.load p254 rfl (atM (hB1.cell rfl) (fun h => h))) (Mod.drew _ _) ?_
  refine DL.p rfl rfl rfl ?_
  refine DL.qf rfl (.free rfl) rfl rfl (Yld.sliceHi u254 i301 (m := P.length - 1) rfl rfl (by omega)) ?_
  refine DL.p rfl rfl rfl ?_
  refine DL.op rfl (.free rfl) rfl rfl (Does.call rfl e285 (checkC_ok P hP _ c b1 _ (hv.mod (hn1.grow.trans (Mod.drew _ _))) (hB1.mod (Mod.drew No _) (fun h => h)))) ?_
  rintro _ w2 ⟨rfl, hg2⟩
  have hgd : Grow w1 w2 := (Mod.drew _ _).trans hg2
  refine ⟨hgd, ?_⟩
  iterate 2 refine DL.p rfl rfl rfl ?_
  refine DL.knownT (d := 21) rfl rfl (rfl) ?_
  refine DL.q rfl (.yes rfl rfl rfl) rfl rfl rfl (Yld.load p254 rfl (atM (hB1.cell rfl) (fun h => h))) (hgd) ?_
  refine DL.qf rfl (.yes rfl rfl rfl) rfl rfl (Yld.pure rfl) ?_
  refine DL.qf rfl (.yes rfl rfl rfl) rfl rfl (Yld.indexAddrN u254 i301 rfl rfl (by omega)) ?_
  refine DL.q rfl (.yes rfl rfl rfl) rfl rfl rfl (Yld.loadN (cs := stC s) a301 rfl (atNM (fun j u hj => (hn1.grow).cell (hcl j u hj) (fun h => h)) (fun h => h))) (hgd) ?_
  refine DL.q rfl (.yes rfl rfl rfl) rfl rfl rfl (Yld.load p254 rfl (atM (hB1.cell rfl) (fun h => h))) (hgd) ?_
  refine DL.q rfl (.yes rfl rfl rfl) rfl rfl rfl (Yld.lenSl u254 rfl) (hgd) ?_
  refine DL.op rfl (.yes rfl rfl rfl) rfl rfl (Does.call rfl e287 (right_ok P.length s true hw4 (.inr ⟨rfl, hok'⟩) _)) ?_
  rintro _ w3 ⟨rfl, hg3⟩
  refine ⟨hgd.trans hg3, ?_⟩
  iterate 2 refine DL.p rfl rfl rfl ?_
  refine DL.done ?_
  refine RK.ret_of Tryz.func258 (res1 rfl rfl) ?_ _
  exact ⟨_, rfl, rfl, (hn1.grow.trans hgd).trans hg3⟩
theorem lt64 {a b : Nat} (ha : a < 18446744073709551616) (hb : b < 18446744073709551616) : a ||| b < 18446744073709551616 := Nat.or_lt_two_pow (n := 64) ha hb
theorem sh64 {c : Nat} (hc : c < 64) : 1 <<< c < 18446744073709551616 := by
  rw [Nat.shiftLeft_eq, Nat.one_mul]; exact Nat.pow_lt_pow_right (m := c) (n := 64) (by omega) hc
theorem shr64 {a : Nat} (ha : a < 18446744073709551616) (c : Nat) : a >>> c < 18446744073709551616 := Nat.lt_of_le_of_lt (Nat.shiftRight_le a c) ha
abbrev PU (w : World) (bp been : Nat) : Prop := Blk w bp 66 [.int .u64 (been : Int)]
theorem come_ok (P : List Stp) (hP : OkP P) (v : Value) (bp : Nat) : ∀ (m at_ been : Nat), miss P.length been ≤ m → at_ < P.length → been < 18446744073709551616 → ∀ w, SlS (· = bp) w v P → PU w bp been → Fx Tryz.prog 288 [v, .int .i64 (at_ : Int), pp bp] w (fun u w' => ∃ r b' : Nat, u = .int .u64 (r : Int) ∧ r < 18446744073709551616 ∧ b' < 18446744073709551616 ∧ Come P at_ been r b' ∧ PU w' bp b' ∧ Mod (· = bp) w w') := by
  intro m
  induction m with
  | zero =>
    intro at_ been hm hat hbe w hv hb
    have hat2 : been.testBit at_ = true := by
      cases hbt : been.testBit at_ with
      | true => rfl
      | false =>
        have := miss_lt (n := P.length) (been := been) (b' := been ||| 1 <<< at_) hat hbt (fun v hv => bit_or.2 (.inl hv)) (bit_or.2 (.inr rfl))
        omega
    have hle := hP.le
    refine enter Tryz.func288 rfl rfl rfl _ (Pick.sub (l := [0, 1, 2]) (.cons rfl (.cons rfl (.cons rfl .nil)))) ?_
    refine RK.seq ?_
    refine RK.region ?_
    refine RL.p rfl rfl ?_
    refine RL.done ?_
    iterate 2 refine RK.seq ?_
    refine RK.region ?_
    iterate 2 refine RL.p rfl rfl ?_
    refine RL.q (.free rfl) rfl rfl (Yld.load p66 rfl (at1 (hb.cell rfl))) ?_
    refine RL.p rfl rfl ?_
    refine RL.q (.free rfl) rfl rfl (Yld.shr rfl rfl (by simp [IntKind.bits]; omega)) ?_
    refine RL.p rfl rfl ?_
    refine RL.re (d := 13) rfl rfl (congrArg (Value.int .u64) (Go.X.u64_and (b := 1) (shr64 hbe at_) (by decide))) ?_
    refine RL.p rfl rfl ?_
    refine RL.done ?_
    refine RK.condT (hcT rfl (decide_eq_true ((bit1I been at_).2 hat2))) ?_
    refine RK.seq ?_
    refine RK.region ?_
    refine RL.p rfl rfl ?_
    refine RL.done ?_
    refine RK.ret_of Tryz.func288 (res1 rfl rfl) ?_ _
    exact ⟨_, rfl, 0, been, rfl, by omega, hbe, Come.there hat2, hb, Mod.refl _ _⟩
  | succ m ihm =>
    intro at_ been hm hat hbe w hv hb
    have hle := hP.le
    obtain ⟨s, hs⟩ : ∃ s, P[at_]? = some s := ⟨P[at_]'hat, List.getElem?_eq_getElem hat⟩
    obtain ⟨hw4, hok⟩ := hP.at_ at_ s hs
    obtain ⟨b2, o2, c2, rfl, hb2, _, hcl⟩ := hv.elem stC_len hs
    obtain ⟨op, t, sa, sb⟩ := s
    obtain ⟨x0, x1, x2, x3, rfl⟩ := W4.four hw4
    refine enter Tryz.func288 rfl rfl rfl _ (Pick.sub (l := [0, 1, 2]) (.cons rfl (.cons rfl (.cons rfl .nil)))) ?_
    refine RK.seq ?_
    refine RK.region ?_
    refine RL.p rfl rfl ?_
    refine RL.done ?_
    iterate 2 refine RK.seq ?_
    refine RK.region ?_
    iterate 2 refine RL.p rfl rfl ?_
    refine RL.q (.free rfl) rfl rfl (Yld.load p66 rfl (at1 (hb.cell rfl))) ?_
    refine RL.p rfl rfl ?_
    refine RL.q (.free rfl) rfl rfl (Yld.shr rfl rfl (by simp [IntKind.bits]; omega)) ?_
    refine RL.p rfl rfl ?_
    refine RL.re (d := 13) rfl rfl (congrArg (Value.int .u64) (Go.X.u64_and (b := 1) (shr64 hbe at_) (by decide))) ?_
    refine RL.p rfl rfl ?_
    refine RL.done ?_
    first | refine RK.condD rfl (fun h14 => ?_) (fun h14 => ?_) | refine RK.condN rfl (fun h14 => ?_) (fun h14 => ?_) | refine RK.cond rfl (fun h14 => ?_) (fun h14 => ?_)
    · refine RK.seq ?_
      refine RK.region ?_
      refine RL.p rfl rfl ?_
      refine RL.done ?_
      refine RK.ret_of Tryz.func288 (res1 rfl rfl) ?_ _
      exact ⟨_, rfl, 0, been, rfl, by omega, hbe, Come.there ((bit1I been at_).1 h14), hb, Mod.refl _ _⟩
    · have hbt : been.testBit at_ = false := by
          cases hx : been.testBit at_ with
          | false => rfl
          | true => exact absurd ((bit1I been at_).2 hx) h14
      have hlt := miss_lt (n := P.length) (been := been) (b' := been ||| 1 <<< at_) hat hbt (fun v hv => bit_or.2 (.inl hv)) (bit_or.2 (.inr rfl))
      have hsh := sh64 (c := at_) (by omega)
      have hbe1 := lt64 hbe hsh
      refine RK.skip ?_
      refine RK.seq ?_
      refine RK.drawM (· = bp) [(0, false), (1, false), (3, false), (4, false), (2, true), (5, false), (6, false), (7, true)] [7] mixed (by kernel_rfl) ?_
      iterate 3 refine DL.p rfl rfl rfl ?_
      refine DL.qf rfl (.free rfl) rfl rfl (Yld.shl (a := 1) rfl rfl (by simp [IntKind.bits]; omega)) ?_
      refine DL.re (d := 19) rfl rfl (congrArg (Value.int .u64) (Go.X.wrap_u64 hsh)) ?_
      refine DL.lq rfl (.free rfl) rfl rfl (Yld.load p66 rfl (at1 (hb.cell rfl))) ?_
      refine DL.p rfl rfl rfl ?_
      refine DL.re (d := 20) rfl rfl (congrArg (Value.int .u64) (Go.X.u64_or hbe hsh)) ?_
      refine DL.p rfl rfl rfl ?_
      refine DL.opT rfl (.free rfl) rfl rfl (Does.store i66 rfl rfl rfl hb (.z)) ?_
      rintro _ w1 ⟨hb1, hm1, _⟩
      have hm01 : Mod (· = bp) w w1 := (Mod.drew _ _).trans hm1
      have hb1' : PU w1 bp (been ||| 1 <<< at_) := hb1
      have hv1 := hv.mod hm01
      refine DL.done ?_
      iterate 2 refine RK.seq ?_
      refine RK.region ?_
      iterate 2 refine RL.p rfl rfl ?_
      refine RL.q (.free rfl) rfl rfl (Yld.indexAddrN u254 i301 rfl rfl (hat)) ?_
      refine RL.q (.free rfl) rfl rfl (Yld.loadN (cs := stC ⟨op, [x0, x1, x2, x3], sa, sb⟩) a301 rfl (atN (fun j u hj => hm01.cell (hcl j u hj) hb2))) ?_
      refine RL.op (.free rfl) rfl rfl (Does.alloc i301) ?_
      rintro _ w2 ⟨b7, rfl, hn7⟩
      have hbpl := hb.lt
      have hs01 := hm01.size
      have hb7 := hn7.at_
      have hb7p : ¬ b7 = bp := by omega
      refine RL.op' (.free rfl) rfl (Does.storeN i301 rfl rfl rfl rfl hn7.blk (Nat.le_refl 7)) ?_
      rintro _ w3 ⟨hb3, hm3, _⟩
      have hB3 : Blk w3 b7 301 [.int .i64 (op : Int), .int .u64 (x0 : Int), .int .u64 (x1 : Int), .int .u64 (x2 : Int), .int .u64 (x3 : Int), .int .i64 (sa : Int), .int .i64 (sb : Int)] := hb3
      have hg3 : Grow w1 w3 := hn7.grow.then hm3 (fun y hy e => by have e' : y = b7 := e; omega)
      have hb3' := hb1'.mod hg3 (fun h => h)
      have hv3 := hv1.mod (Mod.any' hg3)
      have hm03 : Mod (· = bp) w w3 := hm01.trans (Mod.any' hg3)
      refine RL.done ?_
      refine RK.seq ?_
      refine RK.region ?_
      refine RL.q (.free rfl) rfl rfl (Yld.fieldAddr fo301_0 rfl) ?_
      refine RL.q (.free rfl) rfl rfl (Yld.load p3 rfl (at1 (hB3.cell rfl))) ?_
      refine RL.done ?_
      refine RK.block ?_
      refine RK.seq ?_
      refine RK.region ?_
      iterate 2 refine RL.p rfl rfl ?_
      refine RL.done ?_
      first | refine RK.condD rfl (fun h28 => ?_) (fun h28 => ?_) | refine RK.condN rfl (fun h28 => ?_) (fun h28 => ?_) | refine RK.cond rfl (fun h28 => ?_) (fun h28 => ?_)
      · have ho : op = 2 := by omega
        subst ho
        have hab : sa < P.length ∧ sb < P.length := by
            rcases hok with ⟨_, h1⟩ | ⟨_, h1⟩
            · rcases h1 with ⟨h2, _⟩ | ⟨_, h2, h3, _⟩ | ⟨h2, _⟩
              · cases h2
              · exact ⟨h2, h3⟩
              · cases h2
            · cases h1
        refine RK.seq ?_
        refine RK.drawM (· = bp) [(0, false), (1, false), (2, false), (3, false), (5, false), (6, false), (7, false), (8, false), (4, true), (9, true), (10, false), (11, false)] [] mixed (by kernel_rfl) ?_
        refine DL.p rfl rfl rfl ?_
        refine DL.qf rfl (.free rfl) rfl rfl (Yld.fieldAddr fo301_2 rfl) ?_
        refine DL.q rfl (.free rfl) rfl rfl rfl (Yld.load p3 rfl (atM (hB3.cell rfl) (hb7p))) (Mod.drew _ _) ?_
        iterate 2 refine DL.p rfl rfl rfl ?_
        refine DL.qf rfl (.free rfl) rfl rfl (Yld.fieldAddr fo301_3 rfl) ?_
        refine DL.q rfl (.free rfl) rfl rfl rfl (Yld.load p3 rfl (atM (hB3.cell rfl) (hb7p))) (Mod.drew _ _) ?_
        refine DL.p rfl rfl rfl ?_
        refine DL.op rfl (.free rfl) rfl rfl (Does.call rfl e288 (ihm sa (been ||| 1 <<< at_) (by omega) hab.1 hbe1 _ (hv3.mod (Mod.drew _ _)) (hb3'.mod (Mod.drew No _) (fun h => h)))) ?_
        rintro _ w4 ⟨r1, b1, rfl, hr1, hb1l, hc1, hb4, hm4⟩
        have hm34 : Mod (· = bp) w3 w4 := (Mod.drew _ _).trans hm4
        refine ⟨hm34, ?_⟩
        have hlt2 := miss_lt (n := P.length) (been := been) (b' := b1) hat hbt (fun v hv => hc1.sub v (bit_or.2 (.inl hv))) (hc1.sub _ (bit_or.2 (.inr rfl)))
        refine DL.op rfl (.free rfl) rfl rfl (Does.call rfl e288 (ihm sb b1 (by omega) hab.2 hb1l _ (hv3.mod hm34) hb4)) ?_
        rintro _ w5 ⟨r2, b5, rfl, hr2, hb5l, hc2, hb5, hm5⟩
        refine ⟨hm34.trans hm5, ?_⟩
        refine DL.p rfl rfl rfl ?_
        refine DL.re (d := 40) rfl rfl (congrArg (Value.int .u64) (Go.X.u64_or hr1 hr2)) ?_
        refine DL.p rfl rfl rfl ?_
        refine DL.done ?_
        refine RK.ret_of Tryz.func288 (res1 rfl rfl) ?_ _
        exact ⟨_, rfl, r1 ||| r2, b5, rfl, lt64 hr1 hr2, hb5l, Come.split hbt hs rfl hc1 hc2, hb5, (hm03.trans hm34).trans hm5⟩
      · refine RK.seq ?_
        refine RK.region ?_
        iterate 2 refine RL.p rfl rfl ?_
        refine RL.done ?_
        first | refine RK.condD rfl (fun h41 => ?_) (fun h41 => ?_) | refine RK.condN rfl (fun h41 => ?_) (fun h41 => ?_) | refine RK.cond rfl (fun h41 => ?_) (fun h41 => ?_)
        · have ho : op = 3 := by omega
          subst ho
          have hab : sa < P.length := by
              rcases hok with ⟨_, h1⟩ | ⟨_, h1⟩
              · rcases h1 with ⟨h2, _⟩ | ⟨h2, _⟩ | ⟨_, h2, _⟩
                · cases h2
                · cases h2
                · exact h2
              · cases h1
          refine RK.seq ?_
          refine RK.region ?_
          refine RL.p rfl rfl ?_
          refine RL.q (.free rfl) rfl rfl (Yld.fieldAddr fo301_2 rfl) ?_
          refine RL.q (.free rfl) rfl rfl (Yld.load p3 rfl (at1 (hB3.cell rfl))) ?_
          refine RL.p rfl rfl ?_
          refine RL.op (.free rfl) rfl rfl (Does.call rfl e288 (ihm sa (been ||| 1 <<< at_) (by omega) hab hbe1 _ hv3 hb3')) ?_
          rintro _ w4 ⟨r1, b1, rfl, hr1, hb1l, hc1, hb4, hm4⟩
          refine RL.p rfl rfl ?_
          refine RL.done ?_
          refine RK.ret_of Tryz.func288 (res1 rfl rfl) ?_ _
          exact ⟨_, rfl, r1, b1, rfl, hr1, hb1l, Come.jump hbt hs rfl hc1, hb4, hm03.trans hm4⟩
        · refine RK.skip ?_
          refine RK.inBlock ?_
          refine RK.seq ?_
          refine RK.region ?_
          refine RL.p rfl rfl ?_
          refine RL.q (.free rfl) rfl rfl (Yld.shl (a := 1) rfl rfl (by simp [IntKind.bits]; omega)) ?_
          refine RL.re (d := 49) rfl rfl (congrArg (Value.int .u64) (Go.X.wrap_u64 hsh)) ?_
          refine RL.p rfl rfl ?_
          refine RL.done ?_
          refine RK.ret_of Tryz.func288 (res1 rfl rfl) ?_ _
          exact ⟨_, rfl, 1 <<< at_, been ||| 1 <<< at_, rfl, hsh, hbe1, Come.leaf hbt ⟨_, hs, by show op ≠ 2; omega, by show op ≠ 3; omega⟩, hb3', hm03⟩
theorem start_ok (P : List Stp) (hP : OkP P) (H : List Nat → Nat → Prop) (v : Value) (w : World) (hv : SlS No w v P) : Fx Tryz.prog 259 [v] w (fun u w' => ∃ r : Nat, u = .int .u64 (r : Int) ∧ r < 18446744073709551616 ∧ Now P H 0 r ∧ Grow w w') := by
  have h1 := hP.one
  refine enter Tryz.func259 rfl rfl rfl _ (Pick.sub (l := [0]) (.cons rfl .nil)) ?_
  refine RK.seq ?_
  refine RK.region ?_
  refine RL.p rfl rfl ?_
  refine RL.done ?_
  refine RK.seq ?_
  refine RK.region ?_
  refine RL.op (.free rfl) rfl rfl (Does.alloc i66) ?_
  rintro _ w1 ⟨b3, rfl, hn3⟩
  refine RL.op' (.free rfl) rfl (Does.store i66 rfl rfl rfl hn3.blk (.z)) ?_
  rintro _ w2 ⟨hb2, hm2, _⟩
  have hb3 := hn3.at_
  have hg2 : Grow w w2 := hn3.grow.then hm2 (fun y hy e => by have e' : y = b3 := e; omega)
  refine RL.done ?_
  refine RK.seq ?_
  refine RK.region ?_
  refine RL.p rfl rfl ?_
  refine RL.op (.free rfl) rfl rfl (Does.call rfl e288 (come_ok P hP v b3 _ 0 0 (Nat.le_refl _) h1 (by omega) _ (hv.pass (by omega) hg2 (fun b e => .inr (by have e' : b = b3 := e; omega))) hb2)) ?_
  rintro _ w3 ⟨r, b', rfl, hr, hb', hc, hb3', hm3⟩
  refine RL.p rfl rfl ?_
  refine RL.done ?_
  refine RK.ret_of Tryz.func259 (res1 rfl rfl) ?_ _
  exact ⟨_, rfl, r, rfl, hr, Now.start hc, hg2.then hm3 (fun y hy e => by have e' : y = b3 := e; omega)⟩
end Go.Proofs.YthbjfhhiajihfaaGreat
set_option linter.unusedVariables false
set_option linter.unusedSimpArgs false
set_option maxHeartbeats 1000000
set_option maxRecDepth 100000
namespace Go.Proofs.YthbjfhhiajihfaaGreat
open Go Go.X Go.Rex
theorem next_steps (P : List Stp) (hP : OkP P) (H : List Nat → Nat → Prop) (kk m c : Nat) (hc : c < 256) (hm : m < 18446744073709551616) (hH : ∀ t, H t kk ↔ inB t c = true) (hnow : Now P H kk m) (v : Value) (w : World) (hv : SlS No w v P) : Fx Tryz.prog 260 [v, .int .u64 (m : Int), .int .u8 (c : Int)] w (fun u w' => ∃ r : Nat, u = .int .u64 (r : Int) ∧ r < 18446744073709551616 ∧ Now P H (kk + 1) r ∧ Grow w w') := by
  have hle := hP.le
  obtain ⟨ad, cp, rfl⟩ := hv.shape
  have e1 : IntKind.u8.wrap ((c : Int).tdiv 64) = ((c / 64 : Nat) : Int) := by
    have e2 : (c : Int).tdiv 64 = ((c / 64 : Nat) : Int) := by rw [Int.tdiv_eq_ediv_of_nonneg (by omega)]; omega
    rw [e2]; exact Go.X.wrap_u8 (by omega)
  have e3 : (c : Int).tmod 64 = ((c % 64 : Nat) : Int) := by rw [Int.tmod_eq_emod_of_nonneg (by omega)]; omega
  refine enter Tryz.func260 rfl rfl rfl _ (Pick.sub (l := [0, 1, 2]) (.cons rfl (.cons rfl (.cons rfl .nil)))) ?_
  refine RK.seq ?_
  refine RK.region ?_
  refine RL.p rfl rfl ?_
  refine RL.done ?_
  refine RK.seq ?_
  refine RK.region ?_
  refine RL.op (.free rfl) rfl rfl (Does.alloc i66) ?_
  rintro _ w1 ⟨b7, rfl, hn7⟩
  refine RL.op' (.free rfl) rfl (Does.store i66 rfl rfl rfl hn7.blk (.z)) ?_
  rintro _ w2 ⟨hb2, hm2, _⟩
  have hb7 := hn7.at_
  have hg2 : Grow w w2 := hn7.grow.then hm2 (fun y hy e => by have e' : y = b7 := e; omega)
  have hv2 : SlS (· = b7) w2 (.slice ad P.length cp) P := hv.pass (by omega) hg2 (fun b e => .inr (by have e' : b = b7 := e; omega))
  refine RL.p rfl rfl ?_
  refine RL.done ?_
  iterate 2 refine RK.seq ?_
  refine RK.region ?_
  refine RL.p rfl rfl ?_
  refine RL.q (.free rfl) rfl rfl (Yld.lenSl u254 rfl) ?_
  refine RL.p rfl rfl ?_
  refine RL.done ?_
  refine RK.block ?_
  refine RK.loop (fun s : Nat × Nat × Nat => [(0, .slice ad P.length cp), (1, .int .u64 (m : Int)), (2, .int .u8 (c : Int)), (7, pp b7), (8, .int .u64 (s.2.2 : Int)), (11, .slice ad P.length cp), (12, .int .i64 (P.length : Int)), (13, .int .i64 (s.1 : Int))]) (fun s w' => s.1 ≤ P.length ∧ PU w' b7 s.2.1 ∧ s.2.1 < 18446744073709551616 ∧ s.2.2 < 18446744073709551616 ∧ NextI P H m kk s.1 s.2.1 s.2.2 ∧ Mod (· = b7) w2 w') (fun s => P.length - s.1) (0, 0, 0) ⟨rfl, rfl, rfl, rfl, rfl, rfl, rfl, rfl, trivial⟩ ⟨by simp, hb2, by simp, by simp, NextI.zero, Mod.refl _ _⟩ (fun s w3 hI ih => ?_)
  obtain ⟨i, been, to⟩ := s
  obtain ⟨hi, hb3, hbe, hto, hN, hm3⟩ := hI
  simp only at hi hb3 hbe hto hN
  refine RK.seq ?_
  refine RK.region ?_
  refine RL.p rfl rfl ?_
  refine RL.done ?_
  refine RK.seq ?_
  first | refine RK.condD rfl (fun h14 => ?_) (fun h14 => ?_) | refine RK.condN rfl (fun h14 => ?_) (fun h14 => ?_) | refine RK.cond rfl (fun h14 => ?_) (fun h14 => ?_)
  · have hil : i < P.length := by simp only at h14; omega
    obtain ⟨s, hs⟩ : ∃ s, P[i]? = some s := ⟨P[i]'hil, List.getElem?_eq_getElem hil⟩
    obtain ⟨hw4, hok⟩ := hP.at_ i s hs
    obtain ⟨b2, o2, c2, he, hb2n, _, hcl⟩ := hv2.elem stC_len hs
    cases he
    obtain ⟨op, t, sa, sb⟩ := s
    obtain ⟨x0, x1, x2, x3, hte⟩ := W4.four hw4
    simp only at hte
    subst hte
    refine RK.skip ?_
    refine RK.seq ?_
    refine RK.block ?_
    refine RK.seq ?_
    refine RK.region ?_
    refine RL.p rfl rfl ?_
    refine RL.q (.free rfl) rfl rfl (Yld.indexAddrN u254 i301 rfl rfl (hil)) ?_
    refine RL.q (.free rfl) rfl rfl (Yld.loadN (cs := stC ⟨op, [x0, x1, x2, x3], sa, sb⟩) a301 rfl (atN (fun j u hj => hm3.cell (hcl j u hj) hb2n))) ?_
    refine RL.op (.free rfl) rfl rfl (Does.alloc i301) ?_
    rintro _ w4 ⟨b10, rfl, hn10⟩
    refine RL.p rfl rfl ?_
    refine RL.op' (.free rfl) rfl (Does.storeN i301 rfl rfl rfl rfl hn10.blk (Nat.le_refl 7)) ?_
    rintro _ w5 ⟨hb5, hm5, _⟩
    have hb7l := hb3.lt
    have hb10 := hn10.at_
    have hB5 : Blk w5 b10 301 [.int .i64 (op : Int), .int .u64 (x0 : Int), .int .u64 (x1 : Int), .int .u64 (x2 : Int), .int .u64 (x3 : Int), .int .i64 (sa : Int), .int .i64 (sb : Int)] := hb5
    have hg5 : Grow w3 w5 := hn10.grow.then hm5 (fun y hy e => by have e' : y = b10 := e; omega)
    have hb5' := hb3.mod hg5 (fun h => h)
    have hm25 : Mod (· = b7) w2 w5 := hm3.trans (Mod.any' hg5)
    obtain ⟨y, hy⟩ : ∃ y, [x0, x1, x2, x3][c / 64]? = some y := ⟨_, List.getElem?_eq_getElem (by show c / 64 < 4; omega)⟩
    have hyl := hw4.2 y (List.mem_of_getElem? hy)
    have hcy : w5.cell? ⟨b10, 0 + 1 + c / 64 * 1, none⟩ = some (.int .u64 (y : Int)) := by
        rw [Nat.mul_one]; exact blk_set4s hB5 (c / 64) _ (by rw [List.getElem?_map, hy]; rfl)
    have hin : inB [x0, x1, x2, x3] c = y.testBit (c % 64) := by unfold inB; rw [hy]; rfl
    refine RL.done ?_
    refine RK.seq ?_
    refine RK.region ?_
    iterate 2 refine RL.p rfl rfl ?_
    refine RL.q (.free rfl) rfl rfl (Yld.shr rfl rfl (by simp [IntKind.bits]; omega)) ?_
    refine RL.p rfl rfl ?_
    refine RL.re (d := 21) rfl rfl (congrArg (Value.int .u64) (Go.X.u64_and (b := 1) (shr64 hm i) (by decide))) ?_
    iterate 2 refine RL.p rfl rfl ?_
    first | refine RL.splitD (d := 23) rfl rfl (fun h23 => ?_) (fun h23 => ?_) | refine RL.splitN (d := 23) rfl rfl (fun h23 => ?_) (fun h23 => ?_) | refine RL.split (d := 23) rfl rfl (fun h23 => ?_) (fun h23 => ?_)
    · have hbit := (bit1I m i).1 h23
      refine RL.q (.yes rfl rfl rfl) rfl rfl (Yld.fieldAddr fo301_0 rfl) ?_
      refine RL.q (.yes rfl rfl rfl) rfl rfl (Yld.load p3 rfl (at1 (hB5.cell rfl))) ?_
      refine RL.q (.yes rfl rfl rfl) rfl rfl (Yld.pure rfl) ?_
      iterate 2 refine RL.p rfl rfl ?_
      first | refine RL.splitD (d := 28) rfl rfl (fun h28 => ?_) (fun h28 => ?_) | refine RL.splitN (d := 28) rfl rfl (fun h28 => ?_) (fun h28 => ?_) | refine RL.split (d := 28) rfl rfl (fun h28 => ?_) (fun h28 => ?_)
      · have ho : op = 1 := by have h := h28; omega
        subst ho
        have hil1 : i + 1 < P.length := by
            rcases hok with ⟨h1, _⟩ | ⟨_, h1⟩
            · exact h1
            · cases h1
        refine RL.q (.yes rfl rfl rfl) rfl rfl (Yld.pure rfl) ?_
        refine RL.q (.yes rfl rfl rfl) rfl rfl (Yld.quo rfl rfl (by omega)) ?_
        refine RL.re (d := 30) rfl rfl (congrArg (Value.int .u8) e1) ?_
        refine RL.q (.yes rfl rfl rfl) rfl rfl (Yld.fieldAddr fo301_1 rfl) ?_
        refine RL.q (.yes rfl rfl rfl) rfl rfl (Yld.indexArr Tryz.underlying221 i66 rfl rfl (by omega)) ?_
        refine RL.q (.yes rfl rfl rfl) rfl rfl (Yld.load p66 rfl (at1 (hcy))) ?_
        refine RL.q (.yes rfl rfl rfl) rfl rfl (Yld.pure rfl) ?_
        refine RL.q (.yes rfl rfl rfl) rfl rfl (Yld.rem rfl rfl (by omega)) ?_
        refine RL.re (d := 35) rfl rfl (congrArg (Value.int .u8) e3) ?_
        refine RL.q (.yes rfl rfl rfl) rfl rfl (Yld.shr rfl rfl (by simp [IntKind.bits]; omega)) ?_
        refine RL.q (.yes rfl rfl rfl) rfl rfl (Yld.pure rfl) ?_
        refine RL.re (d := 37) rfl rfl (congrArg (Value.int .u64) (Go.X.u64_and (b := 1) (shr64 hyl (c % 64)) (by decide))) ?_
        refine RL.q (.yes rfl rfl rfl) rfl rfl (Yld.pure rfl) ?_
        refine RL.p rfl rfl ?_
        refine RL.done ?_
        first | refine RK.condD rfl (fun h39 => ?_) (fun h39 => ?_) | refine RK.condN rfl (fun h39 => ?_) (fun h39 => ?_) | refine RK.cond rfl (fun h39 => ?_) (fun h39 => ?_)
        · have hin1 := hin.trans ((bit1I y (c % 64)).1 h39)
          refine RK.region ?_
          iterate 4 refine RL.p rfl rfl ?_
          refine RL.re (d := 43) rfl rfl (succ_i64 (by omega)) ?_
          refine RL.op (.free rfl) rfl rfl (Does.call rfl e288 (come_ok P hP _ b7 _ (i + 1) been (Nat.le_refl _) hil1 hbe _ (hv2.mod hm25) hb5')) ?_
          rintro _ w6 ⟨r, b', rfl, hr, hb', hcome, hb6, hm6⟩
          refine RL.p rfl rfl ?_
          refine RL.re (d := 45) rfl rfl (congrArg (Value.int .u64) (Go.X.u64_or hto hr)) ?_
          refine RL.p rfl rfl ?_
          refine RL.done ?_
          refine RK.inBlock ?_
          refine RK.region ?_
          refine RL.p rfl rfl ?_
          refine RL.re (d := 46) rfl rfl (succ_i64 (by omega)) ?_
          refine RL.p rfl rfl ?_
          refine RL.done ?_
          exact RK.back (ih (i + 1, b', to ||| r) _ ⟨by simp only; omega, hb6, hb', lt64 hto hr, hN.yes hbit hs rfl ((hH _).2 hin1) hcome, hm25.trans hm6⟩ (by simp only; omega)) ⟨rfl, rfl, rfl, rfl, rfl, rfl, rfl, rfl, trivial⟩
        · refine RK.skip ?_
          refine RK.inBlock ?_
          refine RK.region ?_
          refine RL.p rfl rfl ?_
          refine RL.re (d := 46) rfl rfl (succ_i64 (by omega)) ?_
          refine RL.p rfl rfl ?_
          refine RL.done ?_
          exact RK.back (ih (i + 1, been, to) _ ⟨by simp only; omega, hb5', hbe, hto, hN.no fun st h1 h2 h3 h4 => by
              rw [hs] at h2; cases h2
              have h5 := (hH _).1 h4
              rw [hin] at h5
              exact h39 ((bit1I y (c % 64)).2 h5)
            , hm25⟩ (by simp only; omega)) ⟨rfl, rfl, rfl, rfl, rfl, rfl, rfl, rfl, trivial⟩
      · iterate 10 refine RL.no (.no rfl rfl rfl rfl) rfl rfl ?_
        refine RL.p rfl rfl ?_
        refine RL.done ?_
        refine RK.condF (hcF rfl (rfl)) ?_
        refine RK.skip ?_
        refine RK.inBlock ?_
        refine RK.region ?_
        refine RL.p rfl rfl ?_
        refine RL.re (d := 46) rfl rfl (succ_i64 (by omega)) ?_
        refine RL.p rfl rfl ?_
        refine RL.done ?_
        exact RK.back (ih (i + 1, been, to) _ ⟨by simp only; omega, hb5', hbe, hto, hN.no fun st h1 h2 h3 h4 => by
            rw [hs] at h2; cases h2
            have h := h28; simp only at h3; omega
          , hm25⟩ (by simp only; omega)) ⟨rfl, rfl, rfl, rfl, rfl, rfl, rfl, rfl, trivial⟩
    · iterate 3 refine RL.no (.no rfl rfl rfl rfl) rfl rfl ?_
      iterate 2 refine RL.p rfl rfl ?_
      iterate 10 refine RL.no (.no rfl rfl rfl rfl) rfl rfl ?_
      refine RL.p rfl rfl ?_
      refine RL.done ?_
      refine RK.condF (hcF rfl (rfl)) ?_
      refine RK.skip ?_
      refine RK.inBlock ?_
      refine RK.region ?_
      refine RL.p rfl rfl ?_
      refine RL.re (d := 46) rfl rfl (succ_i64 (by omega)) ?_
      refine RL.p rfl rfl ?_
      refine RL.done ?_
      exact RK.back (ih (i + 1, been, to) _ ⟨by simp only; omega, hb5', hbe, hto, hN.no fun st h1 h2 h3 h4 => h23 ((bit1I m i).2 h1), hm25⟩ (by simp only; omega)) ⟨rfl, rfl, rfl, rfl, rfl, rfl, rfl, rfl, trivial⟩
  · have hie : i = P.length := by simp only at h14; omega
    subst hie
    refine RK.exit rfl ?_
    refine RK.seq ?_
    refine RK.region ?_
    iterate 2 refine RL.p rfl rfl ?_
    refine RL.done ?_
    refine RK.ret_of Tryz.func260 (res1 rfl rfl) ?_ _
    exact ⟨_, rfl, to, rfl, hto, hnow.next hN, hg2.then hm3 (fun y hy e => by have e' : y = b7 := e; omega)⟩
theorem scanMatch_ok (x : Rx) (ht : Tr false x) (hsz : sz x + 1 ≤ 40) (v : Value) (s : ByteArray) (hs : s.size ≤ 9223372036854775806) (w : World) (hv : SlS No w v (whole x)) (hcap : ∃ ad c, v = .slice ad (whole x).length c ∧ (whole x).length ≤ c) : Fx Tryz.prog 212 [v, .string s] w (fun u w' => u = .bool (takes x s) ∧ Grow w w') := by
  have hP := whole_ok ht hsz
  have hw := tr_wf x false ht
  obtain ⟨P, hPe⟩ : ∃ P, whole x = P := ⟨_, rfl⟩
  have hle := hP.le
  rw [hPe] at hP hv hcap hle
  obtain ⟨ad, cp, rfl, hc⟩ := hcap
  have hend : ∀ k m, Now P (HS s) k m → ((∃ c st, m.testBit c = true ∧ P[c]? = some st ∧ st.op = 4) ↔ Lg (HS s) x true 0 k) := fun k m hm => by rw [← hPe] at hm ⊢; exact whole_match hw.1 hw.2.1 hm
  refine enter Tryz.func212 rfl rfl rfl _ (Pick.sub (l := [0, 1]) (.cons rfl (.cons rfl .nil))) ?_
  refine RK.seq ?_
  refine RK.region ?_
  refine RL.p rfl rfl ?_
  refine RL.done ?_
  iterate 2 refine RK.seq ?_
  refine RK.region ?_
  refine RL.p rfl rfl ?_
  refine RL.op (.free rfl) rfl rfl (Does.call rfl e258 (check_ok P hP ad cp hc _ hv)) ?_
  rintro _ w1 ⟨rfl, hg1⟩
  refine RL.p rfl rfl ?_
  refine RL.done ?_
  refine RK.condF (hcF rfl (rfl)) ?_
  refine RK.skip ?_
  refine RK.seq ?_
  refine RK.region ?_
  refine RL.p rfl rfl ?_
  refine RL.op (.free rfl) rfl rfl (Does.call rfl e259 (start_ok P hP (HS s) _ _ (hv.mod hg1))) ?_
  rintro _ w2 ⟨r, rfl, hr, hn0, hg2⟩
  have hg02 := hg1.trans hg2
  refine RL.p rfl rfl ?_
  refine RL.done ?_
  iterate 2 refine RK.seq ?_
  refine RK.region ?_
  refine RL.p rfl rfl ?_
  refine RL.q (.free rfl) rfl rfl (Yld.lenStr u9 rfl) ?_
  refine RL.p rfl rfl ?_
  refine RL.done ?_
  refine RK.block ?_
  refine RK.loop (fun t : Nat × Nat => [(0, .slice ad P.length cp), (1, .string s), (5, .int .u64 (t.2 : Int)), (15, .int .i64 (s.size : Int)), (16, .int .i64 (t.1 : Int))]) (fun t w' => t.1 ≤ s.size ∧ t.2 < 18446744073709551616 ∧ Now P (HS s) t.1 t.2 ∧ Grow w w') (fun t => s.size - t.1) (0, r) ⟨rfl, rfl, rfl, rfl, rfl, trivial⟩ ⟨by simp, hr, hn0, hg02⟩ (fun t w3 hI ih => ?_)
  obtain ⟨k, m⟩ := t
  obtain ⟨hk, hm, hn, hg⟩ := hI
  simp only at hk hm hn
  refine RK.seq ?_
  refine RK.region ?_
  refine RL.p rfl rfl ?_
  refine RL.done ?_
  refine RK.seq ?_
  first | refine RK.condD rfl (fun h17 => ?_) (fun h17 => ?_) | refine RK.condN rfl (fun h17 => ?_) (fun h17 => ?_) | refine RK.cond rfl (fun h17 => ?_) (fun h17 => ?_)
  · have hks : k < s.size := by simp only at h17; omega
    refine RK.skip ?_
    refine RK.seq ?_
    refine RK.block ?_
    refine RK.seq ?_
    refine RK.region ?_
    iterate 2 refine RL.p rfl rfl ?_
    refine RL.done ?_
    refine RK.region ?_
    iterate 4 refine RL.p rfl rfl ?_
    refine RL.q (.free rfl) rfl rfl (Yld.idxStrN u9 rfl rfl (hks)) ?_
    refine RL.op (.free rfl) rfl rfl (Does.call rfl e260 (next_steps P hP (HS s) k m (b8 s k) (b8_lt s k) hm (fun t => ⟨fun h => h.2, fun h => ⟨hks, h⟩⟩) hn _ _ (hv.mod hg))) ?_
    rintro _ w4 ⟨r', rfl, hr', hn', hg4⟩
    refine RL.p rfl rfl ?_
    refine RL.done ?_
    refine RK.inBlock ?_
    refine RK.region ?_
    refine RL.p rfl rfl ?_
    refine RL.re (d := 25) rfl rfl (succ_i64 (by omega)) ?_
    refine RL.p rfl rfl ?_
    refine RL.done ?_
    exact RK.back (ih (k + 1, r') _ ⟨by simp only; omega, hr', hn', hg.trans hg4⟩ (by simp only; omega)) ⟨rfl, rfl, rfl, rfl, rfl, trivial⟩
  · have hke : k = s.size := by simp only at h17; omega
    subst hke
    have he := hend _ _ hn
    refine RK.exit rfl ?_
    iterate 2 refine RK.seq ?_
    refine RK.region ?_
    refine RL.p rfl rfl ?_
    refine RL.q (.free rfl) rfl rfl (Yld.lenSl u254 rfl) ?_
    refine RL.p rfl rfl ?_
    refine RL.done ?_
    refine RK.block ?_
    refine RK.loop (fun i : Nat => [(5, .int .u64 (m : Int)), (26, .slice ad P.length cp), (27, .int .i64 (P.length : Int)), (28, .int .i64 (i : Int))]) (fun i w' => i ≤ P.length ∧ Grow w w' ∧ ∀ c st, c < i → m.testBit c = true → P[c]? = some st → st.op ≠ 4) (fun i => P.length - i) 0 ⟨rfl, rfl, rfl, rfl, trivial⟩ ⟨by omega, hg, fun c st h => by omega⟩ (fun i w4 hI2 ih2 => ?_)
    obtain ⟨hi, hg4, hno⟩ := hI2
    refine RK.seq ?_
    refine RK.region ?_
    refine RL.p rfl rfl ?_
    refine RL.done ?_
    refine RK.seq ?_
    first | refine RK.condD rfl (fun h29 => ?_) (fun h29 => ?_) | refine RK.condN rfl (fun h29 => ?_) (fun h29 => ?_) | refine RK.cond rfl (fun h29 => ?_) (fun h29 => ?_)
    · obtain ⟨st, hst⟩ : ∃ st, P[i]? = some st := ⟨P[i]'(by omega), List.getElem?_eq_getElem (by omega)⟩
      obtain ⟨b2, o2, c2, hce, _, _, hcl⟩ := hv.elem stC_len hst
      cases hce
      refine RK.skip ?_
      refine RK.seq ?_
      refine RK.block ?_
      refine RK.seq ?_
      refine RK.region ?_
      refine RL.p rfl rfl ?_
      refine RL.q (.free rfl) rfl rfl (Yld.indexAddrN u254 i301 rfl rfl (by omega)) ?_
      refine RL.q (.free rfl) rfl rfl (Yld.loadN (cs := stC st) a301 rfl (atN (fun j u hj => hg4.cell (hcl j u hj) (fun h => h)))) ?_
      refine RL.op (.free rfl) rfl rfl (Does.alloc i301) ?_
      rintro _ w5 ⟨b8, rfl, hn8⟩
      refine RL.p rfl rfl ?_
      refine RL.op' (.free rfl) rfl (Does.storeN i301 rfl rfl rfl rfl hn8.blk (Nat.le_refl 7)) ?_
      rintro _ w6 ⟨hb6, hm6, _⟩
      have hB6 : Blk w6 b8 301 (stC st) := hb6
      have hg6 : Grow w4 w6 := hn8.grow.then hm6 (fun y hy e => by have e' : y = b8 := e; have := hn8.at_; omega)
      refine RL.done ?_
      refine RK.seq ?_
      refine RK.region ?_
      iterate 2 refine RL.p rfl rfl ?_
      refine RL.q (.free rfl) rfl rfl (Yld.shr rfl rfl (by simp [IntKind.bits]; omega)) ?_
      refine RL.p rfl rfl ?_
      refine RL.re (d := 36) rfl rfl (congrArg (Value.int .u64) (Go.X.u64_and (b := 1) (shr64 hm i) (by decide))) ?_
      iterate 2 refine RL.p rfl rfl ?_
      first | refine RL.splitD (d := 38) rfl rfl (fun h38 => ?_) (fun h38 => ?_) | refine RL.splitN (d := 38) rfl rfl (fun h38 => ?_) (fun h38 => ?_) | refine RL.split (d := 38) rfl rfl (fun h38 => ?_) (fun h38 => ?_)
      · have hbit := (bit1I m i).1 h38
        refine RL.q (.yes rfl rfl rfl) rfl rfl (Yld.fieldAddr fo301_0 rfl) ?_
        refine RL.q (.yes rfl rfl rfl) rfl rfl (Yld.load p3 rfl (at1 (hB6.cell rfl))) ?_
        refine RL.q (.yes rfl rfl rfl) rfl rfl (Yld.pure rfl) ?_
        refine RL.p rfl rfl ?_
        refine RL.done ?_
        first | refine RK.condD rfl (fun h42 => ?_) (fun h42 => ?_) | refine RK.condN rfl (fun h42 => ?_) (fun h42 => ?_) | refine RK.cond rfl (fun h42 => ?_) (fun h42 => ?_)
        · have ho : st.op = 4 := by have h := h42; omega
          refine RK.seq ?_
          refine RK.region ?_
          refine RL.p rfl rfl ?_
          refine RL.done ?_
          refine RK.ret_of Tryz.func212 (res1 rfl rfl) ?_ _
          exact ⟨_, rfl, congrArg _ ((takes_iff x s).2 (he.1 ⟨i, st, hbit, hst, ho⟩)).symm, hg4.trans hg6⟩
        · refine RK.skip ?_
          refine RK.inBlock ?_
          refine RK.region ?_
          refine RL.p rfl rfl ?_
          refine RL.re (d := 43) rfl rfl (succ_i64 (by omega)) ?_
          refine RL.p rfl rfl ?_
          refine RL.done ?_
          exact RK.back (ih2 (i + 1) _ ⟨by omega, hg4.trans hg6, fun c st' hc h1 h2 h3 => by
              by_cases e : c = i
              · subst e; rw [hst] at h2; cases h2; have h := h42; omega
              · exact hno c st' (by omega) h1 h2 h3⟩ (by omega)) ⟨rfl, rfl, rfl, rfl, trivial⟩
      · iterate 3 refine RL.no (.no rfl rfl rfl rfl) rfl rfl ?_
        refine RL.p rfl rfl ?_
        refine RL.done ?_
        refine RK.condF (hcF rfl (rfl)) ?_
        refine RK.skip ?_
        refine RK.inBlock ?_
        refine RK.region ?_
        refine RL.p rfl rfl ?_
        refine RL.re (d := 43) rfl rfl (succ_i64 (by omega)) ?_
        refine RL.p rfl rfl ?_
        refine RL.done ?_
        exact RK.back (ih2 (i + 1) _ ⟨by omega, hg4.trans hg6, fun c st' hc h1 h2 h3 => by
            by_cases e : c = i
            · subst e; exact h38 ((bit1I m c).2 h1)
            · exact hno c st' (by omega) h1 h2 h3⟩ (by omega)) ⟨rfl, rfl, rfl, rfl, trivial⟩
    · refine RK.exit rfl ?_
      refine RK.seq ?_
      refine RK.region ?_
      refine RL.p rfl rfl ?_
      refine RL.done ?_
      refine RK.ret_of Tryz.func212 (res1 rfl rfl) ?_ _
      exact ⟨_, rfl, congrArg _ (by
          cases hx : takes x s with
          | false => rfl
          | true =>
            obtain ⟨c, st, h1, h2, h3⟩ := he.2 ((takes_iff x s).1 hx)
            exact absurd h3 (hno c st (by have := (List.getElem?_eq_some_iff.1 h2).1; omega) h1 h2)
        ), hg4⟩
end Go.Proofs.YthbjfhhiajihfaaGreat
set_option linter.unusedVariables false
set_option linter.unusedSimpArgs false
namespace Go.X
open Go Go.RowKit
section
variable {P : Program} {n : Nat} {e : Env} {w : World}
end
end Go.X
namespace Go.Proofs
open Go.Shelf
def Tryz.keys234_ren : Go.Shelf.Ren := ⟨fun | 7 => 234 | 10 => 272 | n => n, fun | 23 => 237 | 26 => 3 | 3 => 33 | 28 => 276 | 0 => 0 | 27 => 275 | 33 => 172 | 4 => 4 | n => n, fun | n => n⟩
theorem Tryz.keys234 : Go.Proofs.SlLaysZI.n7 Tryz.prog Tryz.keys234_ren := {
  mixed := by kernel_rfl
  f7 := ⟨Tryz.f234.name, by decide, Tryz.func234.trans (congrArg some (by kernel_rfl))⟩
  f10 := ⟨Tryz.f272.name, by decide, Tryz.func272.trans (congrArg some (by kernel_rfl))⟩
  t0 := Tryz.underlying0
  a0 := Tryz.isAgg0
  z0 := Tryz.sizeOf0
  v0 := Tryz.zeroValue0
  t4 := Tryz.underlying4
  a4 := Tryz.isAgg4
  z4 := Tryz.sizeOf4
  v4 := Tryz.zeroValue4
  t23 := Tryz.underlying237
  a23 := Tryz.isAgg237
  z23 := Tryz.sizeOf237
  v23 := Tryz.zeroValue237
  t26 := Tryz.underlying3
  a26 := Tryz.isAgg3
  z26 := Tryz.sizeOf3
  v26 := Tryz.zeroValue3
  t27 := Tryz.underlying275
  a27 := Tryz.isAgg275
  z27 := Tryz.sizeOf275
  v27 := Tryz.zeroValue275
  t28 := Tryz.underlying276
  a28 := Tryz.isAgg276
  z28 := Tryz.sizeOf276
  v28 := Tryz.zeroValue276
  t33 := Tryz.underlying172
  a33 := Tryz.isAgg172
  z33 := Tryz.sizeOf172
  v33 := Tryz.zeroValue172 }
def Tryz.sorted233_ren : Go.Shelf.Ren := ⟨fun | 6 => 233 | 8 => 271 | 9 => 145 | 11 => 295 | 13 => 200 | 12 => 199 | 23 => 249 | 24 => 250 | 14 => 240 | 15 => 241 | 16 => 242 | 17 => 243 | 18 => 244 | 19 => 245 | 20 => 246 | 21 => 247 | 22 => 248 | 25 => 273 | 26 => 274 | 27 => 275 | 28 => 276 | 29 => 277 | 30 => 213 | 31 => 296 | n => n, fun | 26 => 3 | 28 => 276 | 24 => 37 | 0 => 0 | 3 => 3 | 37 => 248 | 48 => 291 | 50 => 66 | 4 => 4 | 40 => 284 | 39 => 283 | 45 => 164 | 5 => 5 | 9 => 9 | 51 => 310 | 55 => 314 | 57 => 330 | 58 => 331 | 33 => 172 | n => n, fun | n => n⟩
theorem Tryz.sorted233 : Go.Proofs.SlLaysZI.n6 Tryz.prog Tryz.sorted233_ren := {
  mixed := by kernel_rfl
  f6 := ⟨Tryz.f233.name, by decide, Tryz.func233.trans (congrArg some (by kernel_rfl))⟩
  f8 := ⟨Tryz.f271.name, by decide, Tryz.func271.trans (congrArg some (by kernel_rfl))⟩
  f11 := ⟨Tryz.f295.name, by decide, Tryz.func295.trans (congrArg some (by kernel_rfl))⟩
  t0 := Tryz.underlying0
  a0 := Tryz.isAgg0
  z0 := Tryz.sizeOf0
  v0 := Tryz.zeroValue0
  t24 := Tryz.underlying37
  a24 := Tryz.isAgg37
  z24 := Tryz.sizeOf37
  v24 := Tryz.zeroValue37
  t26 := Tryz.underlying3
  a26 := Tryz.isAgg3
  z26 := Tryz.sizeOf3
  v26 := Tryz.zeroValue3
  t28 := Tryz.underlying276
  a28 := Tryz.isAgg276
  z28 := Tryz.sizeOf276
  v28 := Tryz.zeroValue276
  i26 := by kernel_rfl }
end Go.Proofs
set_option linter.unusedVariables false
set_option linter.unusedSimpArgs false
set_option maxHeartbeats 800000
set_option maxRecDepth 100000
namespace Go.Proofs.YthbjfhhiajihfaaGreat
open Go Go.X
def withinS (n lo hi : Int) : Int := lo + (if n.tmod (hi - lo + 1) < 0 then n.tmod (hi - lo + 1) + hi - lo + 1 else n.tmod (hi - lo + 1))
theorem tmod_range (n : Int) {b : Int} (hb : 0 < b) : -b < n.tmod b ∧ n.tmod b < b := ⟨Int.lt_tmod_of_pos n hb, Int.tmod_lt_of_pos n hb⟩
theorem within_range (n : Int) {lo hi : Int} (h : lo ≤ hi) : lo ≤ withinS n lo hi ∧ withinS n lo hi ≤ hi := by
  have := tmod_range n (b := hi - lo + 1) (by omega)
  unfold withinS
  split <;> omega
def inS (n lo hi : Int) : Int := if lo ≤ n ∧ n ≤ hi then n else withinS n lo hi
theorem in_range (n : Int) {lo hi : Int} (h : lo ≤ hi) : lo ≤ inS n lo hi ∧ inS n lo hi ≤ hi := by
  unfold inS
  split
  · assumption
  · exact within_range n h
def nmL : List ByteArray := [⟨#[115, 101, 118]⟩, ⟨#[106, 111, 98]⟩, ⟨#[104, 111, 115, 116]⟩, ⟨#[95, 120]⟩, ⟨#[90, 111, 110, 101, 57]⟩]
def vlL : List ByteArray := [⟨#[97]⟩, ⟨#[98]⟩, ⟨#[99, 114, 105, 116]⟩, ⟨#[119, 97, 114, 110]⟩, ⟨#[97, 98]⟩, ⟨#[0, 255]⟩, ⟨#[97, 98, 97, 98, 97, 98, 97, 98, 97, 98, 97, 98, 97, 98, 97, 98, 97, 98, 97, 98, 97, 98, 97, 98]⟩]
def nmS (n : Int) : ByteArray := nmL.getD (inS n 0 4).toNat ByteArray.empty
def vlS (n : Int) : ByteArray := vlL.getD (inS n 0 6).toNat ByteArray.empty
theorem nm_mem (n : Int) : nmS n ∈ nmL := by
  have := in_range n (lo := 0) (hi := 4) (by omega)
  unfold nmS
  have h : (inS n 0 4).toNat < nmL.length := by show _ < 5; omega
  rw [List.getD_eq_getElem?_getD, List.getElem?_eq_getElem h]
  exact List.getElem_mem _
theorem vl_mem (n : Int) : vlS n ∈ vlL := by
  have := in_range n (lo := 0) (hi := 6) (by omega)
  unfold vlS
  have h : (inS n 0 6).toNat < vlL.length := by show _ < 7; omega
  rw [List.getD_eq_getElem?_getD, List.getElem?_eq_getElem h]
  exact List.getElem_mem _
end Go.Proofs.YthbjfhhiajihfaaGreat
set_option linter.unusedVariables false
set_option linter.unusedSimpArgs false
set_option maxHeartbeats 800000
set_option maxRecDepth 100000
namespace Go.Proofs.YthbjfhhiajihfaaGreat
open Go Go.X
def getL (ls : List Lab) (nm : ByteArray) : ByteArray := ((ls.find? fun x => decide (x.name = nm)).map (·.value)).getD ByteArray.empty
theorem getL_at {ls : List Lab} {nm : ByteArray} {k : Nat} {x : Lab} (hx : ls[k]? = some x) (h : x.name = nm) (hno : ∀ i y, i < k → ls[i]? = some y → y.name ≠ nm) : getL ls nm = x.value := by
  unfold getL
  have : ls.find? (fun x => decide (x.name = nm)) = some x := by
    rw [List.find?_eq_some_iff_getElem]
    obtain ⟨hk, e⟩ := List.getElem?_eq_some_iff.1 hx
    exact ⟨by simp [h], k, hk, e, fun j hj => by simpa using hno j _ hj (List.getElem?_eq_getElem (by omega))⟩
  rw [this]; rfl
theorem getL_none {ls : List Lab} {nm : ByteArray} (hno : ∀ y ∈ ls, y.name ≠ nm) : getL ls nm = ByteArray.empty := by
  unfold getL
  rw [List.find?_eq_none.2 fun y hy => by simpa using hno y hy]
  rfl
def labOf (n : Int) : Lab := ⟨nmS (withinS n 0 4), vlS (withinS (n.tdiv 5) 0 6)⟩
def labStep (out : List Lab) (n : Int) : List Lab := if getL out (labOf n).name = ByteArray.empty then out ++ [labOf n] else out
theorem vlL_ok : ∀ s ∈ vlL, valS s = true ∧ s ≠ ByteArray.empty := by
  intro s hs
  simp only [vlL, List.mem_cons, List.not_mem_nil, or_false] at hs
  rcases hs with rfl | rfl | rfl | rfl | rfl | rfl | rfl <;> exact ⟨by kernel_rfl, by decide⟩
structure Raw (ls : List Lab) : Prop where
  nd : (ls.map (·.name)).Nodup
  nm : ∀ x ∈ ls, x.name ∈ nmL
  vl : ∀ x ∈ ls, x.value ∈ vlL
theorem labOf_ok (n : Int) : (labOf n).name ∈ nmL ∧ (labOf n).value ∈ vlL := ⟨nm_mem _, vl_mem _⟩
theorem getL_empty {ls : List Lab} (h : Raw ls) {nm : ByteArray} (he : getL ls nm = ByteArray.empty) : nm ∉ ls.map (·.name) := by
  intro hm
  obtain ⟨x, hx, rfl⟩ := List.mem_map.1 hm
  unfold getL at he
  cases hf : ls.find? (fun y => decide (y.name = x.name)) with
  | none => have := List.find?_eq_none.1 hf x hx; simp at this
  | some y =>
    rw [hf] at he
    have hy := List.mem_of_find?_eq_some hf
    exact (vlL_ok _ (h.vl y hy)).2 he
theorem Raw.step {ls : List Lab} (h : Raw ls) (n : Int) : Raw (labStep ls n) := by
  unfold labStep
  split
  · rename_i he
    have hn := getL_empty h he
    refine ⟨?_, fun x hx => ?_, fun x hx => ?_⟩
    · rw [List.map_append, List.nodup_append]
      exact ⟨h.nd, by simp, fun a ha b hb e => hn (by simp at hb; subst hb; exact e ▸ ha)⟩
    · rcases List.mem_append.1 hx with h1 | h1
      · exact h.nm x h1
      · simp at h1; subst h1; exact (labOf_ok n).1
    · rcases List.mem_append.1 hx with h1 | h1
      · exact h.vl x h1
      · simp at h1; subst h1; exact (labOf_ok n).2
  · exact h
theorem Raw.nil : Raw [] := ⟨by simp, by simp, by simp⟩
end Go.Proofs.YthbjfhhiajihfaaGreat
set_option linter.unusedVariables false
set_option linter.unusedSimpArgs false
set_option maxHeartbeats 800000
set_option maxRecDepth 100000
namespace Go.Proofs.YthbjfhhiajihfaaGreat
open Go Go.X
theorem find_self (ls : List Lab) : findS [ls] ls = some 0 := by simp [findS]
section
variable (ls : List Lab) (his : isS ls = true) (u v : Nat)
def vS1 : St := (postS (St.new 3) ls u).1
def vS2 : St := (postS (vS1 ls u) ls v).1
def vS3 : St := (resolveS (vS2 ls u v) 1).1
def vS4 : St := (postS (vS3 ls u v) ls u).1
include his
theorem v1 : postS (St.new 3) ls u = (vS1 ls u, 1, true, 0) ∧ (vS1 ls u).al = [(1, ls, canS u)] ∧ (vS1 ls u).last = 1 ∧ (vS1 ls u).out = [1] ∧ (vS1 ls u).most = 3 := by
  have hf : fullS (St.new 3).most (St.new 3).last (St.new 3).out = false := by decide
  have hn : findS ((St.new 3).al.map (·.2.1)) ls = none := rfl
  have e : postS (St.new 3) ls u = (⟨(St.new 3).most, (St.new 3).last + 1, (St.new 3).out ++ [(St.new 3).last + 1], (St.new 3).al ++ [((St.new 3).last + 1, ls, canS u)], putM (St.new 3).has ((St.new 3).last + 1) ls, addRows (St.new 3).rows ((St.new 3).last + 1) ls⟩, (St.new 3).last + 1, true, 0) := by
    unfold postS; rw [if_neg (by simp [his]), hn]; simp [hf]
  unfold vS1
  rw [e]
  exact ⟨rfl, rfl, rfl, rfl, rfl⟩
theorem v2 : postS (vS1 ls u) ls v = (vS2 ls u v, 1, false, 0) ∧ (vS2 ls u v).al = [(1, ls, canS v)] ∧ (vS2 ls u v).last = 1 ∧ (vS2 ls u v).out = [1] ∧ (vS2 ls u v).most = 3 := by
  obtain ⟨_, h1, h2, h3, h4⟩ := v1 ls his u
  have hn : findS ((vS1 ls u).al.map (·.2.1)) ls = some 0 := by rw [h1]; exact find_self ls
  have e : postS (vS1 ls u) ls v = ({ vS1 ls u with al := (vS1 ls u).al.modify 0 fun a => (a.1, a.2.1, canS v) }, (((vS1 ls u).al[0]?).map (·.1)).getD 0, false, 0) := by
    unfold postS; rw [if_neg (by simp [his]), hn]
  unfold vS2
  rw [e]
  refine ⟨by rw [h1]; rfl, by simp only; rw [h1]; rfl, h2, h3, h4⟩
theorem v3 : resolveS (vS2 ls u v) 1 = (vS3 ls u v, 0) ∧ (vS3 ls u v).al = [] ∧ (vS3 ls u v).last = 1 ∧ (vS3 ls u v).out = [] ∧ (vS3 ls u v).most = 3 := by
  obtain ⟨_, h1, h2, h3, h4⟩ := v2 ls his u v
  have hp : placeS (vS2 ls u v) 1 = some 0 := by unfold placeS; rw [h1]; rfl
  have e : resolveS (vS2 ls u v) 1 = ({ vS2 ls u v with al := (vS2 ls u v).al.eraseIdx 0, out := giveS (vS2 ls u v).out 1, has := cutM (vS2 ls u v).has 1, rows := dropRows (vS2 ls u v).rows 1 ((lookM (vS2 ls u v).has 1).getD []) }, 0) := by
    unfold resolveS; rw [hp]
  unfold vS3
  rw [e]
  refine ⟨rfl, by simp only; rw [h1]; rfl, h2, ?_, h4⟩
  simp only
  rw [h3]
  have : ∀ x, x ∉ giveS [1] 1 := fun x hx => by
    unfold giveS at hx
    rw [if_pos (by decide), mem_cutRow] at hx
    simp at hx
  exact List.eq_nil_iff_forall_not_mem.2 this
theorem v4 : postS (vS3 ls u v) ls u = (vS4 ls u v, 2, true, 0) ∧ (vS4 ls u v).al = [(2, ls, canS u)] := by
  obtain ⟨_, h1, h2, h3, h4⟩ := v3 ls his u v
  have hf : fullS (vS3 ls u v).most (vS3 ls u v).last (vS3 ls u v).out = false := by rw [h2, h3, h4]; decide
  have hn : findS ((vS3 ls u v).al.map (·.2.1)) ls = none := by rw [h1]; rfl
  have e : postS (vS3 ls u v) ls u = (⟨(vS3 ls u v).most, (vS3 ls u v).last + 1, (vS3 ls u v).out ++ [(vS3 ls u v).last + 1], (vS3 ls u v).al ++ [((vS3 ls u v).last + 1, ls, canS u)], putM (vS3 ls u v).has ((vS3 ls u v).last + 1) ls, addRows (vS3 ls u v).rows ((vS3 ls u v).last + 1) ls⟩, (vS3 ls u v).last + 1, true, 0) := by
    unfold postS; rw [if_neg (by simp [his]), hn]; simp [hf]
  unfold vS4
  rw [e]
  refine ⟨by rw [h2]; rfl, by simp only; rw [h1, h2]; rfl⟩
theorem v5 : resolveS (vS4 ls u v) 1 = (vS4 ls u v, 5) := by
  obtain ⟨_, h1⟩ := v4 ls his u v
  have hp : placeS (vS4 ls u v) 1 = none := by unfold placeS; rw [h1]; rfl
  unfold resolveS; rw [hp]
end
end Go.Proofs.YthbjfhhiajihfaaGreat
set_option linter.unusedVariables false
set_option linter.unusedSimpArgs false
set_option maxHeartbeats 800000
set_option maxRecDepth 100000
namespace Go.Proofs.YthbjfhhiajihfaaGreat
open Go Go.X
theorem owns_of {w : World} {m : Nat} {l : List (Int × Value)} (h : MapAt (Value.int .i64) w m l) (hn : (l.map (·.1)).Nodup) (hr : ∀ t ∈ l, -9223372036854775808 ≤ t.1 ∧ t.1 ≤ 9223372036854775807) (hl : l.length ≤ maxLen) :
    ∃ D : DataW Unit, w.ownsMap Tryz.prog 3 (fun _ => some (.lit (.bool true), [])) m l.length D ∧ (intKeys D).Perm (l.map (·.1)) ∧ Maps.size D = l.length := by
  obtain ⟨es, c, h1, h2, h3, h4⟩ := h.out
  have hlen : es.toList.length = l.length := by have := congrArg List.length h2; simpa using this
  have hkey : ∀ x : Int, -9223372036854775808 ≤ x ∧ x ≤ 9223372036854775807 → keyOf Tryz.prog 3 (.int .i64 x) = some (.int .i64 x) := fun x hx => by
    simp [keyOf, Tryz.underlying3, mapKey, Lit.wf, IntKind.min, IntKind.max, IntKind.signed, IntKind.bits]
    omega
  have hread : ∀ x ∈ es.toList, ∃ k : Int, x.key = .int .i64 k ∧ -9223372036854775808 ≤ k ∧ k ≤ 9223372036854775807 := fun x hx => by
    have h5 : (x.key, x.val) ∈ l.map fun p => (Value.int .i64 p.1, p.2) := by rw [← h2]; exact List.mem_map_of_mem (f := fun e : MapEntry => (e.key, e.val)) hx
    obtain ⟨p, hp, e⟩ := List.mem_map.1 h5
    simp only [Prod.mk.injEq] at e
    exact ⟨p.1, e.1.symm, hr p hp⟩
  have hrd : ∀ x ∈ es.toList, ∀ k : Int, x.key = .int .i64 k → WideElems.rd (H := Unit) Tryz.prog 3 (fun _ => some (.lit (.bool true), [])) x = some (.int .i64 k, .lit (.bool true)) := fun x hx k hk => by
    obtain ⟨k', hk', h6⟩ := hread x hx
    rw [hk] at hk'
    cases hk'
    simp [WideElems.rd, hk, hkey k h6]
  have hkeys : es.toList.map (·.key) = (l.map (·.1)).map (Value.int .i64) := by
    have := congrArg (List.map fun p : Value × Value => p.1) h2
    rw [List.map_map, List.map_map] at this
    rw [List.map_map]
    exact this
  have hg : es.toList.map (WideElems.rg (H := Unit) Tryz.prog 3 fun _ => some (.lit (.bool true), [])) = (l.map (·.1)).map fun k => ((Lit.int .i64 k : Lit), (DataW.lit (.bool true) : DataW Unit)) := by
    apply List.ext_getElem?
    intro i
    have h7 := congrArg (fun q => q[i]?) hkeys
    simp only [List.getElem?_map] at h7 ⊢
    cases he : es.toList[i]? with
    | none => rw [he] at h7; cases hll : l[i]? with
      | none => rfl
      | some p => rw [hll] at h7; simp at h7
    | some x =>
      rw [he] at h7
      cases hll : l[i]? with
      | none => rw [hll] at h7; simp at h7
      | some p =>
        rw [hll] at h7
        simp at h7
        have := hrd x (List.mem_of_getElem? he) p.1 h7
        simp [WideElems.rg, this]
  have hnd : (es.toList.map (·.key)).Nodup := by
    rw [hkeys]
    exact List.pairwise_map.2 (hn.imp fun {a b} hne e => hne (by simpa using e))
  have hsz : es.size = l.length := by rw [← hlen]; simp
  refine ⟨.map ((es.toList.map (WideElems.rg (H := Unit) Tryz.prog 3 fun _ => some (.lit (.bool true), []))).foldr DataW.insert []), ⟨es, c, h1, ⟨by omega, ⟨h4, h3, hnd⟩, fun x hx => by obtain ⟨k, hk, _⟩ := hread x hx; exact ⟨_, hrd x hx k hk⟩⟩, by omega, rfl⟩, ?_, ?_⟩
  · rw [hg]
    refine ((WideShapes.sorted_perm _).map _).trans ?_
    rw [List.map_map]
    have : ((fun p : Lit × DataW Unit => Go.intOf p.1) ∘ fun k => ((Lit.int .i64 k : Lit), (DataW.lit (.bool true) : DataW Unit))) = id := by funext k; rfl
    rw [this, List.map_id]
  · rw [hg, Maps.size_eq, (WideShapes.sorted_perm _).length_eq]
    simp
theorem sortsI (m : Nat) : AnyZI.SortsIn Tryz.prog Tryz.sorted233_ren Fence.wide m :=
  ⟨fun blk off cap ss W hH hblk hsz => callsIn_wide.2 (Tryz.slices_Sort_int blk off cap ss W hH hblk hsz), fun p cap W => callsIn_wide.2 (Tryz.slices_Sort_int_none p cap W)⟩
theorem keysCall (mb : Option Nat) (w : World) : Fx Tryz.prog 234 [.map mb] w (fun u w' => u = .func (.func 272) #[] #[.pointer (some ⟨w.heap.size, 0, none⟩)] ∧ w' = w.alloc (.cells #[.map mb] 237)) := by
  refine Calls.mono ((callsIn_wide (n := 5)).1 (AnyZI.keys_in Tryz.keys234 Fence.wide 5 trivial rfl mb w)) ?_
  rintro e w' ⟨rfl, rfl⟩
  exact ⟨_, rfl, rfl, rfl⟩
end Go.Proofs.YthbjfhhiajihfaaGreat
set_option linter.unusedVariables false
set_option linter.unusedSimpArgs false
set_option maxHeartbeats 800000
set_option maxRecDepth 100000
namespace Go.Proofs.YthbjfhhiajihfaaGreat
open Go Go.X
theorem row_of {w : World} {base : Nat} {t : TypeId} {sz : Nat} {v : Value} {k : Nat} {xs : List Value} (h : w.ownsRow base t sz v k xs) : Row w t sz v k xs ∧ Fresh base v := by
  refine ⟨⟨h.1, ?_⟩, fun b e => ?_⟩
  · rcases h.2 with h2 | ⟨g, cap, cur, h2, _, r⟩
    · exact .inl h2
    · exact .inr ⟨g, cap, cur, h2, Nat.zero_le _, r⟩
  · rcases h.2 with ⟨rfl, _⟩ | ⟨g, cap, cur, rfl, hb, _⟩
    · simp [Value.ownBlock] at e
    · simp [Value.ownBlock] at e; omega
theorem sortI_perm {l l' : List Int} (h : l.Perm l') : l.mergeSort (fun x y => decide (x ≤ y)) = sortI l' := mergeSort_of_perm_i h
theorem sortedCall {w : World} {m : Nat} {l : List (Int × Value)} (h : MapAt (Value.int .i64) w m l) (hn : (l.map (·.1)).Nodup) (hr : ∀ t ∈ l, -9223372036854775808 ≤ t.1 ∧ t.1 ≤ 9223372036854775807) (hl : l.length ≤ 1000000) :
    Fx Tryz.prog 233 [.func (.func 272) #[] #[.pointer (some ⟨w.heap.size, 0, none⟩)]] (w.alloc (.cells #[.map (some m)] 237)) (fun u w' => Row w' 3 1 u (sortI (l.map (·.1))).length (ints (sortI (l.map (·.1)))) ∧ Fresh w.heap.size u ∧ Grow w w') := by
  have hml : (1000000 : Nat) ≤ maxLen := by decide
  obtain ⟨D, hown, hperm, hsize⟩ := owns_of h hn hr (by omega)
  have hbl := hown.lt
  have hseq : SeqGives Fence.wide 2 Tryz.prog 272 #[.pointer (some ⟨w.heap.size, 0, none⟩)] encZ (fun ss => ss.Perm (intKeys D)) (Maps.size D) (w.alloc (.cells #[.map (some m)] 237)) :=
    AnyZI.keys_gives (ρ := Tryz.keys234_ren) { Tryz.keys234 with } Fence.wide _ trivial rfl (by omega) w.heap.size m l.length D _ (by simp) (by simp) (by
      obtain ⟨es, clock, hb, Ft, hs, hD⟩ := hown
      exact ⟨es, clock, (RowKit.Below.heap_alloc _ _ m hbl).trans hb, Ft, hs, hD⟩)
  refine Calls.mono ((callsIn_wide (n := 5)).1 (AnyZI.sorted_in Tryz.sorted233 Fence.wide 5 trivial trivial trivial trivial rfl (by omega) (sortsI _) (enters_of Tryz.func145 (by kernel_rfl) rfl) 272 #[.pointer (some ⟨w.heap.size, 0, none⟩)] trivial (enters_of Tryz.func272 (by kernel_rfl) rfl) _ _ (by omega) (by omega) _ hseq)) ?_
  rintro e w' ⟨v, ss, rfl, hS, hrow, _, hb⟩
  obtain ⟨h1, h2⟩ := row_of hrow
  have e1 := sortI_perm (hS.trans hperm)
  have e2 : ss.length = (sortI (l.map (·.1))).length := by rw [sortI_len, ← (hS.trans hperm).length_eq]
  refine ⟨v, rfl, ?_, fun b e => ?_, (Mod.alloc No w _).trans (Grow.of_below hb)⟩
  · rw [← e2, ← e1]; exact h1
  · have := h2 b e
    simp at this
    omega
def idsS (has : List (Int × List Lab)) : List Int := sortI (has.map (·.1))
theorem idsS_ris {has : List (Int × List Lab)} (hn : (has.map (·.1)).Nodup) : Ris (idsS has) := by
  have h1 := sortI_le (has.map (·.1))
  have h2 : (sortI (has.map (·.1))).Nodup := (List.mergeSort_perm _ _).nodup_iff.2 hn
  exact (h1.and h2).imp fun ⟨a, b⟩ => by omega
theorem mem_idsS {has : List (Int × List Lab)} {x : Int} : x ∈ idsS has ↔ x ∈ has.map (·.1) := by unfold idsS sortI; simp
theorem ids_ok (M : Nat → Prop) (w : World) (ix mh mr : Nat) (has : List (Int × List Lab)) (rows : List (LabK × List Int)) (h : IdxAt M w ix mh mr has rows) (hn : (has.map (·.1)).Nodup) (hr : ∀ t ∈ has, -9223372036854775808 ≤ t.1 ∧ t.1 ≤ 9223372036854775807) (hl : has.length ≤ 1000000) :
    Fx Tryz.prog 189 [pp ix] w (fun u w' => Row w' 3 1 u (idsS has).length (ints (idsS has)) ∧ Fresh w.heap.size u ∧ Grow w w') := by
  obtain ⟨l, hl1, hl2, hl3⟩ := h.hl
  have hk : (l.map fun t => (t.1, t.2.2)).map (·.1) = has.map (·.1) := by rw [← hl1]; simp [List.map_map]
  have hlen : l.length = has.length := by rw [← hl1]; simp
  have hcall := sortedCall hl2 (by rw [hk]; exact hn) (fun t ht => by
    obtain ⟨t', ht', rfl⟩ := List.mem_map.1 ht
    exact hr (t'.1, t'.2.1) (by rw [← hl1]; exact List.mem_map_of_mem (f := fun t : Int × (List Lab × Value) => (t.1, t.2.1)) ht')) (by simpa [hlen] using hl)
  rw [hk] at hcall
  refine enter Tryz.func189 rfl rfl rfl _ (Pick.sub (l := [0]) (.cons rfl .nil)) ?_
  refine RK.seq ?_
  refine RK.region ?_
  refine RL.p rfl rfl ?_
  refine RL.done ?_
  refine RK.seq ?_
  refine RK.region ?_
  iterate 2 refine RL.p rfl rfl ?_
  refine RL.q (.free rfl) rfl rfl (Yld.fieldAddr fo240_0 rfl) ?_
  refine RL.q (.free rfl) rfl rfl (Yld.load p237 rfl (at1 (h.blk.cell rfl))) ?_
  refine RL.op (.free rfl) rfl rfl (Does.call rfl e234 (keysCall (some mh) _)) ?_
  rintro _ _ ⟨rfl, rfl⟩
  refine RL.op (.free rfl) rfl rfl (Does.call rfl e233 (hcall)) ?_
  rintro u2 w2 ⟨hr2, hf2, hg2⟩
  refine RL.p rfl rfl ?_
  refine RL.done ?_
  refine RK.ret_of Tryz.func189 (res1 rfl rfl) ?_ _
  exact ⟨_, rfl, hr2, hf2, hg2⟩
theorem posting_ok (M : Nat → Prop) (w : World) (ix mh mr : Nat) (has : List (Int × List Lab)) (rows : List (LabK × List Int)) (h : IdxAt M w ix mh mr has rows) (hB : ∀ t ∈ rows, t.2.length ≤ 1000000000000) (nm vl : ByteArray) :
    Fx Tryz.prog 191 [pp ix, .string nm, .string vl] w (fun u w' => Row w' 3 1 u ((lookM rows (nm, vl)).getD []).length (ints ((lookM rows (nm, vl)).getD [])) ∧ Fresh w.heap.size u ∧ Grow w w') := by
  obtain ⟨r, hr1, hr2, hr3⟩ := h.rl
  have hbnd := look_bound (B := 1000000000000) hB (nm, vl)
  obtain ⟨row0, hrow0⟩ : ∃ row0, (lookM rows (nm, vl)).getD [] = row0 := ⟨_, rfl⟩
  rw [hrow0] at hbnd ⊢
  obtain ⟨vv, hval, hsl⟩ : ∃ vv, (lookM (r.map fun t => (t.1, t.2.2)) (nm, vl)).getD (.slice none 0 0) = vv ∧ Sl M w vv 1 row0.length (ints row0) := by
    rw [← hrow0]
    have e1 := lookM_map (fun a : List Int × Value => a.1) (nm, vl) r
    have e2 := lookM_map (fun a : List Int × Value => a.2) (nm, vl) r
    rw [hr1] at e1
    rw [e1, e2]
    cases hh : lookM r (nm, vl) with
    | none => exact ⟨_, rfl, Sl.nil _ _ _ _ _⟩
    | some a => exact ⟨_, rfl, hr3 _ (lookM_mem hh)⟩
  refine enter Tryz.func191 rfl rfl rfl _ (Pick.sub (l := [0, 1, 2]) (.cons rfl (.cons rfl (.cons rfl .nil)))) ?_
  refine RK.seq ?_
  refine RK.region ?_
  refine RL.p rfl rfl ?_
  refine RL.done ?_
  refine RK.seq ?_
  refine RK.region ?_
  iterate 2 refine RL.p rfl rfl ?_
  refine RL.q (.free rfl) rfl rfl (Yld.fieldAddr fo240_1 rfl) ?_
  refine RL.q (.free rfl) rfl rfl (Yld.load p238 rfl (at1 (h.blk.cell rfl))) ?_
  iterate 2 refine RL.p rfl rfl ?_
  refine RL.q (.free rfl) rfl rfl (Yld.build (v := .agg #[.string nm, .string vl]) rfl (fun w => by kernel_rfl)) ?_
  refine RL.q (.free rfl) rfl rfl (Yld.lookup Tryz.underlying238 key79 i37 (k := (nm, vl)) rfl rfl (fun w' e => e ▸ hr2)) ?_
  refine RL.re (d := 14) rfl rfl (hval) ?_
  refine RL.op (.free rfl) rfl rfl (Does.call rfl e144 (cloneI_ok M row0 vv _ hsl (by omega))) ?_
  rintro u2 w2 ⟨hr2', hf2, hg2⟩
  refine RL.p rfl rfl ?_
  refine RL.done ?_
  refine RK.ret_of Tryz.func191 (res1 rfl rfl) ?_ _
  exact ⟨_, rfl, hr2', hf2, hg2⟩
theorem get1_ok (w : World) (b : Nat) (nm : ByteArray) (hb : Blk w b 9 [.string nm]) (x : Lab) : Fx Tryz.prog 239 [.agg #[.string x.name, .string x.value], pp b] w (fun u w' => u = .bool (decide (x.name = nm)) ∧ Grow w w') := by
  refine enter Tryz.func239 rfl rfl rfl _ (Pick.sub (l := [0, 1]) (.cons rfl (.cons rfl .nil))) ?_
  refine RK.seq ?_
  refine RK.region ?_
  refine RL.op (.free rfl) rfl rfl (Does.box rfl) ?_
  rintro _ w1 ⟨bx, rfl, hbx⟩
  refine RL.p rfl rfl ?_
  refine RL.done ?_
  refine RK.seq ?_
  refine RK.region ?_
  refine RL.q (.free rfl) rfl rfl (Yld.fieldAddr fo79_0 rfl) ?_
  refine RL.q (.free rfl) rfl rfl (Yld.load p9 rfl (at1 (hbx.blk.cell rfl))) ?_
  refine RL.q (.free rfl) rfl rfl (Yld.load p9 rfl (at1 ((hb.mod hbx.grow (fun h => h)).cell rfl))) ?_
  iterate 2 refine RL.p rfl rfl ?_
  refine RL.done ?_
  refine RK.ret_of Tryz.func239 (res1 rfl rfl) ?_ _
  exact ⟨_, rfl, rfl, hbx.grow⟩
theorem getFirst_ok (M : Nat → Prop) (ls : List Lab) (v : Value) (nm : ByteArray) (b4 : Nat) (w : World) (hv : SlL M w v ls) (hb : Blk w b4 9 [.string nm]) :
    Fx Tryz.prog 238 [v, .func (.func 239) #[] #[pp b4]] w (fun u w' => u = .int .i64 (optI (ls.findIdx? fun x => decide (x.name = nm))) ∧ Grow w w') := by
  obtain ⟨ad, c, rfl⟩ := hv.shape
  have hbig := hv.big
  refine enter Tryz.func238 rfl rfl rfl _ (Pick.sub (l := [0, 1]) (.cons rfl (.cons rfl .nil))) ?_
  refine RK.seq ?_
  refine RK.region ?_
  refine RL.p rfl rfl ?_
  refine RL.done ?_
  iterate 2 refine RK.seq ?_
  refine RK.region ?_
  refine RL.p rfl rfl ?_
  refine RL.q (.free rfl) rfl rfl (Yld.lenSl u33 rfl) ?_
  refine RL.p rfl rfl ?_
  refine RL.done ?_
  refine RK.block ?_
  refine RK.loop (fun k : Nat => [(0, .slice ad ls.length c), (1, .func (.func 239) #[] #[pp b4]), (7, .int .i64 ls.length), (8, .int .i64 k)]) (fun k w' => Grow w w' ∧ k ≤ ls.length ∧ ∀ (i : Nat) (a : Lab), i < k → ls[i]? = some a → a.name ≠ nm) (fun k => ls.length - k) 0 ⟨rfl, rfl, rfl, rfl, trivial⟩ ⟨Mod.refl _ _, by omega, fun i a h => by omega⟩ (fun k w' hI ih => ?_)
  obtain ⟨hg, hk, hno⟩ := hI
  refine RK.seq ?_
  refine RK.region ?_
  refine RL.p rfl rfl ?_
  refine RL.done ?_
  refine RK.seq ?_
  first | refine RK.condD rfl (fun h9 => ?_) (fun h9 => ?_) | refine RK.condN rfl (fun h9 => ?_) (fun h9 => ?_) | refine RK.cond rfl (fun h9 => ?_) (fun h9 => ?_)
  · obtain ⟨x, hx⟩ : ∃ x, ls[k]? = some x := ⟨ls[k]'(by omega), List.getElem?_eq_getElem (by omega)⟩
    obtain ⟨b1, o1, c1', he1, _, _, hc1⟩ := hv.elem labC_len hx
    cases he1
    refine RK.skip ?_
    refine RK.seq ?_
    refine RK.block ?_
    refine RK.seq ?_
    refine RK.region ?_
    iterate 2 refine RL.p rfl rfl ?_
    refine RL.done ?_
    refine RK.seq ?_
    refine RK.region ?_
    iterate 3 refine RL.p rfl rfl ?_
    refine RL.q (.free rfl) rfl rfl (Yld.indexAddrN u33 i79 rfl rfl (by omega)) ?_
    refine RL.q (.free rfl) rfl rfl (Yld.loadN (cs := [.string x.name, .string x.value]) a79 rfl (atN (fun j u hj => hg.cell (hc1 j u hj) (fun h => h)))) ?_
    refine RL.op (.free rfl) rfl rfl (Does.callv rfl rfl e239 (get1_ok _ b4 nm (hb.mod hg (fun h => h)) x)) ?_
    rintro _ w2 ⟨rfl, hg2⟩
    refine RL.done ?_
    first | refine RK.condD rfl (fun h16 => ?_) (fun h16 => ?_) | refine RK.condN rfl (fun h16 => ?_) (fun h16 => ?_) | refine RK.cond rfl (fun h16 => ?_) (fun h16 => ?_)
    · refine RK.seq ?_
      refine RK.region ?_
      iterate 2 refine RL.p rfl rfl ?_
      refine RL.done ?_
      refine RK.ret_of Tryz.func238 (res1 rfl rfl) ?_ _
      exact ⟨_, rfl, congrArg _ (by
          have : ls.findIdx? (fun x => decide (x.name = nm)) = some k := by
            rw [List.findIdx?_eq_some_iff_getElem]
            refine ⟨by omega, ?_, fun j hj => ?_⟩
            · simp [(List.getElem?_eq_some_iff.1 hx).2, h16]
            · simpa using hno j (ls[j]'(by omega)) hj (List.getElem?_eq_getElem (by omega))
          rw [this]; rfl), hg.trans hg2⟩
    · refine RK.skip ?_
      refine RK.inBlock ?_
      refine RK.region ?_
      refine RL.p rfl rfl ?_
      refine RL.re (d := 18) rfl rfl (succ_i64 (by omega)) ?_
      refine RL.p rfl rfl ?_
      refine RL.done ?_
      exact RK.back (ih (k + 1) _ ⟨hg.trans hg2, by omega, fun i a' hi ha' => by by_cases e : i = k; (subst e; rw [hx] at ha'; cases ha'; exact h16); exact hno i a' (by omega) ha'⟩ (by omega)) ⟨rfl, rfl, rfl, rfl, trivial⟩
  · refine RK.exit rfl ?_
    refine RK.seq ?_
    refine RK.region ?_
    refine RL.p rfl rfl ?_
    refine RL.done ?_
    refine RK.ret_of Tryz.func238 (res1 rfl rfl) ?_ _
    exact ⟨_, rfl, congrArg _ (by
        have : ls.findIdx? (fun x => decide (x.name = nm)) = none := by
          rw [List.findIdx?_eq_none_iff]
          intro x hx
          obtain ⟨i, hi⟩ := List.getElem?_of_mem hx
          have hil := (List.getElem?_eq_some_iff.1 hi).1
          simpa using hno i x (by omega) hi
        rw [this]; rfl), hg⟩
theorem labelsGet_ok (M : Nat → Prop) (ls : List Lab) (v : Value) (nm : ByteArray) (w : World) (hv : SlL M w v ls) : Fx Tryz.prog 198 [v, .string nm] w (fun u w' => u = .string (getL ls nm) ∧ Grow w w') := by
  obtain ⟨ad, c, rfl⟩ := hv.shape
  have hbig := hv.big
  cases hf : ls.findIdx? (fun x => decide (x.name = nm)) with
  | none =>
    have e : getL ls nm = ByteArray.empty := getL_none fun y hy => by simpa using List.findIdx?_eq_none_iff.1 hf y hy
    refine enter Tryz.func198 rfl rfl rfl _ (Pick.sub (l := [0, 1]) (.cons rfl (.cons rfl .nil))) ?_
    refine RK.seq ?_
    refine RK.region ?_
    refine RL.op (.free rfl) rfl rfl (Does.box rfl) ?_
    rintro _ w1 ⟨b1, rfl, hn1⟩
    have hcall := getFirst_ok M ls _ nm b1 w1 (hv.mod (Mod.any' hn1.grow)) hn1.blk
    rw [hf] at hcall
    refine RL.p rfl rfl ?_
    refine RL.done ?_
    refine RK.seq ?_
    refine RK.region ?_
    iterate 2 refine RL.p rfl rfl ?_
    refine RL.op (.free rfl) rfl rfl (Does.call rfl e238 (hcall)) ?_
    rintro _ w2 ⟨rfl, hg2⟩
    refine RL.p rfl rfl ?_
    refine RL.done ?_
    iterate 2 refine RK.seq ?_
    refine RK.region ?_
    iterate 2 refine RL.p rfl rfl ?_
    refine RL.done ?_
    refine RK.condT (hcT rfl (rfl)) ?_
    refine RK.seq ?_
    refine RK.region ?_
    refine RL.p rfl rfl ?_
    refine RL.done ?_
    refine RK.ret_of Tryz.func198 (res1 rfl rfl) ?_ _
    exact ⟨_, rfl, by rw [e]; rfl, hn1.grow.trans hg2⟩
  | some k =>
    obtain ⟨hk, hp, hlt⟩ := List.findIdx?_eq_some_iff_getElem.1 hf
    have hx : ls[k]? = some ls[k] := List.getElem?_eq_getElem hk
    have e : getL ls nm = ls[k].value := getL_at hx (by simpa using hp) fun i y hi hy => by
      have := hlt i hi
      rw [(List.getElem?_eq_some_iff.1 hy).2] at this
      simpa using this
    generalize ls[k] = x at *
    refine enter Tryz.func198 rfl rfl rfl _ (Pick.sub (l := [0, 1]) (.cons rfl (.cons rfl .nil))) ?_
    refine RK.seq ?_
    refine RK.region ?_
    refine RL.op (.free rfl) rfl rfl (Does.box rfl) ?_
    rintro _ w1 ⟨b1, rfl, hn1⟩
    have hcall := getFirst_ok M ls _ nm b1 w1 (hv.mod (Mod.any' hn1.grow)) hn1.blk
    rw [hf] at hcall
    obtain ⟨b2, o2, c2', he2, _, _, hc2⟩ := hv.elem labC_len hx
    cases he2
    refine RL.p rfl rfl ?_
    refine RL.done ?_
    refine RK.seq ?_
    refine RK.region ?_
    iterate 2 refine RL.p rfl rfl ?_
    refine RL.op (.free rfl) rfl rfl (Does.call rfl e238 (hcall)) ?_
    rintro _ w2 ⟨rfl, hg2⟩
    have hg02 := hn1.grow.trans hg2
    have hk' : optI (some k) = (k : Int) := rfl
    rw [hk']
    refine RL.p rfl rfl ?_
    refine RL.done ?_
    iterate 2 refine RK.seq ?_
    refine RK.region ?_
    iterate 2 refine RL.p rfl rfl ?_
    refine RL.done ?_
    refine RK.condF (hcF rfl (decide_eq_false (by omega))) ?_
    refine RK.skip ?_
    refine RK.seq ?_
    refine RK.region ?_
    iterate 2 refine RL.p rfl rfl ?_
    refine RL.q (.free rfl) rfl rfl (Yld.indexAddrN u33 i79 rfl rfl (by omega)) ?_
    refine RL.q (.free rfl) rfl rfl (Yld.fieldAddr fo79_1 rfl) ?_
    refine RL.q (.free rfl) rfl rfl (Yld.load p9 rfl (at1 (hg02.cell (hc2 1 _ rfl) (fun h => h)))) ?_
    refine RL.p rfl rfl ?_
    refine RL.done ?_
    refine RK.ret_of Tryz.func198 (res1 rfl rfl) ?_ _
    exact ⟨_, rfl, by rw [e], hg02⟩
end Go.Proofs.YthbjfhhiajihfaaGreat
set_option linter.unusedVariables false
set_option linter.unusedSimpArgs false
set_option maxHeartbeats 800000
set_option maxRecDepth 100000
namespace Go.Proofs.YthbjfhhiajihfaaGreat
open Go Go.X
theorem isS_val {ls : List Lab} (h : isS ls = true) (x : Lab) (hx : x ∈ ls) : x.value.size ≤ 24 := by
  obtain ⟨i, hi⟩ := List.getElem?_of_mem hx
  unfold isS at h
  simp only [Bool.and_eq_true, List.all_eq_true, List.mem_range] at h
  have h2 := h.2 i (List.getElem?_eq_some_iff.1 hi).1
  unfold okAt at h2
  rw [hi] at h2
  simp only [Bool.and_eq_true] at h2
  have h3 := h2.1.2
  unfold valS at h3
  simp at h3; omega
structure Mt where
  kind : Int
  name : ByteArray
  value : ByteArray
  deriving DecidableEq, Inhabited
def mtC (m : Mt) : List Value := [.int .i64 m.kind, .string m.name, .string m.value]
theorem mtC_len (m : Mt) : (mtC m).length = 3 := rfl
abbrev SlM (M : Nat → Prop) (w : World) (v : Value) (ms : List Mt) : Prop := Sl M w v 3 ms.length (ms.flatMap mtC)
def likeS (m : Mt) : Bool := decide (m.kind = 3 ∨ m.kind = 4)
theorem like_ok (m : Mt) (w : World) : Fx Tryz.prog 229 [.agg #[.int .i64 m.kind, .string m.name, .string m.value]] w (fun u w' => u = .bool (likeS m) ∧ Grow w w') := by
  refine enter Tryz.func229 rfl rfl rfl _ (Pick.sub (l := [0]) (.cons rfl .nil)) ?_
  refine RK.seq ?_
  refine RK.region ?_
  refine RL.op (.free rfl) rfl rfl (Does.box rfl) ?_
  rintro _ w1 ⟨b1, rfl, hn1⟩
  refine RL.p rfl rfl ?_
  refine RL.done ?_
  refine RK.seq ?_
  refine RK.region ?_
  refine RL.q (.free rfl) rfl rfl (Yld.fieldAddr fo135_0 rfl) ?_
  refine RL.q (.free rfl) rfl rfl (Yld.load p3 rfl (at1 (hn1.blk.cell rfl))) ?_
  iterate 2 refine RL.p rfl rfl ?_
  first | refine RL.splitD (d := 6) rfl rfl (fun h6 => ?_) (fun h6 => ?_) | refine RL.splitN (d := 6) rfl rfl (fun h6 => ?_) (fun h6 => ?_) | refine RL.split (d := 6) rfl rfl (fun h6 => ?_) (fun h6 => ?_)
  · iterate 3 refine RL.no (.no rfl rfl rfl rfl) rfl rfl ?_
    iterate 2 refine RL.p rfl rfl ?_
    refine RL.done ?_
    refine RK.ret_of Tryz.func229 (res1 rfl rfl) ?_ _
    exact ⟨_, rfl, congrArg _ (by unfold likeS; simp_all), hn1.grow⟩
  · refine RL.q (.yes rfl rfl rfl) rfl rfl (Yld.fieldAddr fo135_0 rfl) ?_
    refine RL.q (.yes rfl rfl rfl) rfl rfl (Yld.load p3 rfl (at1 (hn1.blk.cell rfl))) ?_
    refine RL.q (.yes rfl rfl rfl) rfl rfl (Yld.pure rfl) ?_
    iterate 2 refine RL.p rfl rfl ?_
    refine RL.done ?_
    refine RK.ret_of Tryz.func229 (res1 rfl rfl) ?_ _
    exact ⟨_, rfl, congrArg _ (by unfold likeS; simp_all), hn1.grow⟩
def isV (m : Mt) : Bool := nameS m.name && decide ((m.kind = 1 ∨ m.kind = 2) ∧ m.value.size ≤ 24)
theorem isV_ok (m : Mt) (hk : likeS m = false) (w : World) : Fx Tryz.prog 186 [.agg #[.int .i64 m.kind, .string m.name, .string m.value]] w (fun u w' => u = .bool (isV m) ∧ Grow w w') := by
  refine enter Tryz.func186 rfl rfl rfl _ (Pick.sub (l := [0]) (.cons rfl .nil)) ?_
  refine RK.seq ?_
  refine RK.region ?_
  refine RL.op (.free rfl) rfl rfl (Does.box rfl) ?_
  rintro _ w1 ⟨b1, rfl, hn1⟩
  refine RL.p rfl rfl ?_
  refine RL.done ?_
  iterate 2 refine RK.seq ?_
  refine RK.region ?_
  refine RL.q (.free rfl) rfl rfl (Yld.fieldAddr fo135_1 rfl) ?_
  refine RL.q (.free rfl) rfl rfl (Yld.load p9 rfl (at1 (hn1.blk.cell rfl))) ?_
  refine RL.op (.free rfl) rfl rfl (Does.call rfl e219 (name_ok _ _)) ?_
  rintro _ _ ⟨rfl, rfl⟩
  refine RL.p rfl rfl ?_
  refine RL.done ?_
  first | refine RK.condD rfl (fun h8 => ?_) (fun h8 => ?_) | refine RK.condN rfl (fun h8 => ?_) (fun h8 => ?_) | refine RK.cond rfl (fun h8 => ?_) (fun h8 => ?_)
  · refine RK.seq ?_
    refine RK.region ?_
    refine RL.p rfl rfl ?_
    refine RL.done ?_
    refine RK.ret_of Tryz.func186 (res1 rfl rfl) ?_ _
    exact ⟨_, rfl, congrArg _ (by unfold isV; simp at h8; rw [h8]; rfl), hn1.grow⟩
  · refine RK.skip ?_
    iterate 2 refine RK.seq ?_
    refine RK.region ?_
    refine RL.q (.free rfl) rfl rfl (Yld.loadN (cs := [.int .i64 m.kind, .string m.name, .string m.value]) a135 rfl (atN (fun j u hj => by rw [Nat.zero_add]; exact hn1.blk.cell' hj))) ?_
    refine RL.op (.free rfl) rfl rfl (Does.call rfl e229 (like_ok m _)) ?_
    rintro _ w2 ⟨rfl, hg2⟩
    refine RL.done ?_
    refine RK.condF (hcF rfl (hk)) ?_
    refine RK.skip ?_
    refine RK.seq ?_
    refine RK.region ?_
    refine RL.q (.free rfl) rfl rfl (Yld.fieldAddr fo135_0 rfl) ?_
    refine RL.q (.free rfl) rfl rfl (Yld.load p3 rfl (at1 ((hn1.blk.mod hg2 (fun h => h)).cell rfl))) ?_
    iterate 2 refine RL.p rfl rfl ?_
    first | refine RL.splitD (d := 21) rfl rfl (fun h21 => ?_) (fun h21 => ?_) | refine RL.splitN (d := 21) rfl rfl (fun h21 => ?_) (fun h21 => ?_) | refine RL.split (d := 21) rfl rfl (fun h21 => ?_) (fun h21 => ?_)
    · iterate 3 refine RL.no (.no rfl rfl rfl rfl) rfl rfl ?_
      iterate 2 refine RL.p rfl rfl ?_
      refine RL.q (.yes rfl rfl rfl) rfl rfl (Yld.fieldAddr fo135_2 rfl) ?_
      refine RL.q (.yes rfl rfl rfl) rfl rfl (Yld.load p9 rfl (at1 ((hn1.blk.mod hg2 (fun h => h)).cell rfl))) ?_
      refine RL.q (.yes rfl rfl rfl) rfl rfl (Yld.lenStr u9 rfl) ?_
      refine RL.q (.yes rfl rfl rfl) rfl rfl (Yld.pure rfl) ?_
      iterate 2 refine RL.p rfl rfl ?_
      refine RL.done ?_
      refine RK.ret_of Tryz.func186 (res1 rfl rfl) ?_ _
      exact ⟨_, rfl, congrArg _ (by unfold isV; simp at h8; rw [h8, Bool.eq_iff_iff]; simp_all <;> omega), hn1.grow.trans hg2⟩
    · refine RL.q (.yes rfl rfl rfl) rfl rfl (Yld.fieldAddr fo135_0 rfl) ?_
      refine RL.q (.yes rfl rfl rfl) rfl rfl (Yld.load p3 rfl (at1 ((hn1.blk.mod hg2 (fun h => h)).cell rfl))) ?_
      refine RL.q (.yes rfl rfl rfl) rfl rfl (Yld.pure rfl) ?_
      iterate 2 refine RL.p rfl rfl ?_
      first | refine RL.splitD (d := 26) rfl rfl (fun h26 => ?_) (fun h26 => ?_) | refine RL.splitN (d := 26) rfl rfl (fun h26 => ?_) (fun h26 => ?_) | refine RL.split (d := 26) rfl rfl (fun h26 => ?_) (fun h26 => ?_)
      · refine RL.q (.yes rfl rfl rfl) rfl rfl (Yld.fieldAddr fo135_2 rfl) ?_
        refine RL.q (.yes rfl rfl rfl) rfl rfl (Yld.load p9 rfl (at1 ((hn1.blk.mod hg2 (fun h => h)).cell rfl))) ?_
        refine RL.q (.yes rfl rfl rfl) rfl rfl (Yld.lenStr u9 rfl) ?_
        refine RL.q (.yes rfl rfl rfl) rfl rfl (Yld.pure rfl) ?_
        iterate 2 refine RL.p rfl rfl ?_
        refine RL.done ?_
        refine RK.ret_of Tryz.func186 (res1 rfl rfl) ?_ _
        exact ⟨_, rfl, congrArg _ (by unfold isV; simp at h8; rw [h8, Bool.eq_iff_iff]; simp_all <;> omega), hn1.grow.trans hg2⟩
      · iterate 4 refine RL.no (.no rfl rfl rfl rfl) rfl rfl ?_
        iterate 2 refine RL.p rfl rfl ?_
        refine RL.done ?_
        refine RK.ret_of Tryz.func186 (res1 rfl rfl) ?_ _
        exact ⟨_, rfl, congrArg _ (by unfold isV; simp at h8; rw [h8, Bool.eq_iff_iff]; simp_all <;> omega), hn1.grow.trans hg2⟩
def HoldsC (h : Mt → List Lab → Bool) (m : Mt) : Prop := ∀ (M : Nat → Prop) (ls : List Lab) (v : Value) (w : World), (∀ x ∈ ls, x.value.size ≤ 100000) → SlL M w v ls → Fx Tryz.prog 157 [.agg #[.int .i64 m.kind, .string m.name, .string m.value], v] w (fun u w' => u = .bool (h m ls) ∧ Grow w w')
theorem all1_ok (h : Mt → List Lab → Bool) (m : Mt) (hh : HoldsC h m) (M : Nat → Prop) (ls : List Lab) (hz : ∀ x ∈ ls, x.value.size ≤ 100000) (vl : Value) (b4 : Nat) (w : World) (hl : SlL M w vl ls) (hb : Blk w b4 33 [vl]) : Fx Tryz.prog 156 [.agg #[.int .i64 m.kind, .string m.name, .string m.value], pp b4] w (fun u w' => u = .bool (!h m ls) ∧ Grow w w') := by
  obtain ⟨ad, c, rfl⟩ := hl.shape
  refine enter Tryz.func156 rfl rfl rfl _ (Pick.sub (l := [0, 1]) (.cons rfl (.cons rfl .nil))) ?_
  refine RK.seq ?_
  refine RK.region ?_
  refine RL.op (.free rfl) rfl rfl (Does.box rfl) ?_
  rintro _ w1 ⟨b1, rfl, hn1⟩
  refine RL.p rfl rfl ?_
  refine RL.done ?_
  refine RK.seq ?_
  refine RK.region ?_
  refine RL.q (.free rfl) rfl rfl (Yld.loadN (cs := [.int .i64 m.kind, .string m.name, .string m.value]) a135 rfl (atN (fun j u hj => by rw [Nat.zero_add]; exact hn1.blk.cell' hj))) ?_
  refine RL.q (.free rfl) rfl rfl (Yld.load p33 rfl (at1 ((hb.mod hn1.grow (fun h => h)).cell rfl))) ?_
  refine RL.op (.free rfl) rfl rfl (Does.call rfl e157 (hh M ls _ _ hz (hl.mod (Mod.any' hn1.grow)))) ?_
  rintro _ w2 ⟨rfl, hg2⟩
  iterate 2 refine RL.p rfl rfl ?_
  refine RL.done ?_
  refine RK.ret_of Tryz.func156 (res1 rfl rfl) ?_ _
  exact ⟨_, rfl, rfl, hn1.grow.trans hg2⟩
theorem indexM_ok (h : Mt → List Lab → Bool) (ms : List Mt) (hh : ∀ m ∈ ms, HoldsC h m) (M M' : Nat → Prop) (ls : List Lab) (hz : ∀ x ∈ ls, x.value.size ≤ 100000) (v vl : Value) (b4 : Nat) (w : World) (hv : SlM M' w v ms) (hl : SlL M w vl ls) (hb : Blk w b4 33 [vl]) :
    Fx Tryz.prog 210 [v, .func (.func 156) #[] #[pp b4]] w (fun u w' => u = .int .i64 (optI (ms.findIdx? fun m => !h m ls)) ∧ Grow w w') := by
  obtain ⟨ad, c, rfl⟩ := hv.shape
  have hbig := hv.big
  refine enter Tryz.func210 rfl rfl rfl _ (Pick.sub (l := [0, 1]) (.cons rfl (.cons rfl .nil))) ?_
  refine RK.seq ?_
  refine RK.region ?_
  refine RL.p rfl rfl ?_
  refine RL.done ?_
  iterate 2 refine RK.seq ?_
  refine RK.region ?_
  refine RL.p rfl rfl ?_
  refine RL.q (.free rfl) rfl rfl (Yld.lenSl u24 rfl) ?_
  refine RL.p rfl rfl ?_
  refine RL.done ?_
  refine RK.block ?_
  refine RK.loop (fun k : Nat => [(0, .slice ad ms.length c), (1, .func (.func 156) #[] #[pp b4]), (7, .int .i64 ms.length), (8, .int .i64 k)]) (fun k w' => Grow w w' ∧ k ≤ ms.length ∧ ∀ (i : Nat) (a : Mt), i < k → ms[i]? = some a → h a ls = true) (fun k => ms.length - k) 0 ⟨rfl, rfl, rfl, rfl, trivial⟩ ⟨Mod.refl _ _, by omega, fun i a h => by omega⟩ (fun k w' hI ih => ?_)
  obtain ⟨hg, hk, hno⟩ := hI
  refine RK.seq ?_
  refine RK.region ?_
  refine RL.p rfl rfl ?_
  refine RL.done ?_
  refine RK.seq ?_
  first | refine RK.condD rfl (fun h9 => ?_) (fun h9 => ?_) | refine RK.condN rfl (fun h9 => ?_) (fun h9 => ?_) | refine RK.cond rfl (fun h9 => ?_) (fun h9 => ?_)
  · obtain ⟨x, hx⟩ : ∃ x, ms[k]? = some x := ⟨ms[k]'(by omega), List.getElem?_eq_getElem (by omega)⟩
    obtain ⟨b1, o1, c1', he1, _, _, hc1⟩ := hv.elem mtC_len hx
    cases he1
    refine RK.skip ?_
    refine RK.seq ?_
    refine RK.block ?_
    refine RK.seq ?_
    refine RK.region ?_
    iterate 2 refine RL.p rfl rfl ?_
    refine RL.done ?_
    refine RK.seq ?_
    refine RK.region ?_
    iterate 3 refine RL.p rfl rfl ?_
    refine RL.q (.free rfl) rfl rfl (Yld.indexAddrN u24 i135 rfl rfl (by omega)) ?_
    refine RL.q (.free rfl) rfl rfl (Yld.loadN (cs := [.int .i64 x.kind, .string x.name, .string x.value]) a135 rfl (atN (fun j u hj => hg.cell (hc1 j u hj) (fun h => h)))) ?_
    refine RL.op (.free rfl) rfl rfl (Does.callv rfl rfl e156 (all1_ok h x (hh x (List.mem_of_getElem? hx)) M ls hz vl b4 _ (hl.mod (Mod.any' hg)) (hb.mod hg (fun h => h)))) ?_
    rintro _ w2 ⟨rfl, hg2⟩
    refine RL.done ?_
    first | refine RK.condD rfl (fun h16 => ?_) (fun h16 => ?_) | refine RK.condN rfl (fun h16 => ?_) (fun h16 => ?_) | refine RK.cond rfl (fun h16 => ?_) (fun h16 => ?_)
    · refine RK.seq ?_
      refine RK.region ?_
      iterate 2 refine RL.p rfl rfl ?_
      refine RL.done ?_
      refine RK.ret_of Tryz.func210 (res1 rfl rfl) ?_ _
      exact ⟨_, rfl, congrArg _ (by
          have : ms.findIdx? (fun m => !h m ls) = some k := by
            rw [List.findIdx?_eq_some_iff_getElem]
            refine ⟨by omega, ?_, fun j hj => ?_⟩
            · rw [(List.getElem?_eq_some_iff.1 hx).2]; exact h16
            · simpa using hno j (ms[j]'(by omega)) hj (List.getElem?_eq_getElem (by omega))
          rw [this]; rfl), hg.trans hg2⟩
    · refine RK.skip ?_
      refine RK.inBlock ?_
      refine RK.region ?_
      refine RL.p rfl rfl ?_
      refine RL.re (d := 18) rfl rfl (succ_i64 (by omega)) ?_
      refine RL.p rfl rfl ?_
      refine RL.done ?_
      exact RK.back (ih (k + 1) _ ⟨hg.trans hg2, by omega, fun i a' hi ha' => by by_cases e : i = k; (subst e; rw [hx] at ha'; cases ha'; simpa using h16); exact hno i a' (by omega) ha'⟩ (by omega)) ⟨rfl, rfl, rfl, rfl, trivial⟩
  · refine RK.exit rfl ?_
    refine RK.seq ?_
    refine RK.region ?_
    refine RL.p rfl rfl ?_
    refine RL.done ?_
    refine RK.ret_of Tryz.func210 (res1 rfl rfl) ?_ _
    exact ⟨_, rfl, congrArg _ (by
        have : ms.findIdx? (fun m => !h m ls) = none := by
          rw [List.findIdx?_eq_none_iff]
          intro x hx
          obtain ⟨i, hi⟩ := List.getElem?_of_mem hx
          have hil := (List.getElem?_eq_some_iff.1 hi).1
          simpa using hno i x (by omega) hi
        rw [this]; rfl), hg⟩
theorem allM_ok (h : Mt → List Lab → Bool) (ms : List Mt) (hh : ∀ m ∈ ms, HoldsC h m) (M M' : Nat → Prop) (ls : List Lab) (hz : ∀ x ∈ ls, x.value.size ≤ 100000) (v vl : Value) (w : World) (hv : SlM M' w v ms) (hl : SlL M w vl ls) :
    Fx Tryz.prog 104 [v, vl] w (fun u w' => u = .bool (ms.all fun m => h m ls) ∧ Grow w w') := by
  obtain ⟨ad, c, rfl⟩ := hl.shape
  have hcont : ∀ (b4 : Nat) (w1 : World), Grow w w1 → Blk w1 b4 33 [.slice ad ls.length c] → Fx Tryz.prog 155 [v, .func (.func 156) #[] #[pp b4]] w1 (fun u w' => u = .bool (!ms.all fun m => h m ls) ∧ Grow w1 w') := fun b4 w1 hg1 hb => by
    have hcall := indexM_ok h ms hh M M' ls hz v _ b4 w1 (hv.mod (Mod.any' hg1)) (hl.mod (Mod.any' hg1)) hb
    obtain ⟨ad2, c2, rfl⟩ := hv.shape
    refine enter Tryz.func155 rfl rfl rfl _ (Pick.sub (l := [0, 1]) (.cons rfl (.cons rfl .nil))) ?_
    refine RK.seq ?_
    refine RK.region ?_
    refine RL.p rfl rfl ?_
    refine RL.done ?_
    refine RK.seq ?_
    refine RK.region ?_
    iterate 2 refine RL.p rfl rfl ?_
    refine RL.op (.free rfl) rfl rfl (Does.call rfl e210 (hcall)) ?_
    rintro _ w2 ⟨rfl, hg2⟩
    iterate 2 refine RL.p rfl rfl ?_
    refine RL.done ?_
    refine RK.ret_of Tryz.func155 (res1 rfl rfl) ?_ _
    exact ⟨_, rfl, congrArg _ (by
        cases hf : ms.findIdx? (fun m => !h m ls) with
        | none =>
          have : (ms.all fun m => h m ls) = true := List.all_eq_true.2 fun m hm => by simpa using List.findIdx?_eq_none_iff.1 hf m hm
          rw [this]; rfl
        | some k =>
          obtain ⟨hk, hp, _⟩ := List.findIdx?_eq_some_iff_getElem.1 hf
          have : (ms.all fun m => h m ls) = false := List.all_eq_false.2 ⟨_, List.getElem_mem hk, by simpa using hp⟩
          rw [this]
          show decide ((0 : Int) ≤ (k : Int)) = true
          simp), hg2⟩
  refine enter Tryz.func104 rfl rfl rfl _ (Pick.sub (l := [0, 1]) (.cons rfl (.cons rfl .nil))) ?_
  refine RK.seq ?_
  refine RK.region ?_
  refine RL.op (.free rfl) rfl rfl (Does.box rfl) ?_
  rintro _ w1 ⟨b1, rfl, hn1⟩
  refine RL.p rfl rfl ?_
  refine RL.done ?_
  refine RK.seq ?_
  refine RK.region ?_
  iterate 2 refine RL.p rfl rfl ?_
  refine RL.op (.free rfl) rfl rfl (Does.call rfl e155 (hcont b1 _ hn1.grow hn1.blk)) ?_
  rintro _ w2 ⟨rfl, hg2⟩
  iterate 2 refine RL.p rfl rfl ?_
  refine RL.done ?_
  refine RK.ret_of Tryz.func104 (res1 rfl rfl) ?_ _
  exact ⟨_, rfl, by simp, hn1.grow.trans hg2⟩
end Go.Proofs.YthbjfhhiajihfaaGreat
set_option linter.unusedVariables false
set_option linter.unusedSimpArgs false
set_option maxHeartbeats 800000
set_option maxRecDepth 100000
namespace Go.Proofs.YthbjfhhiajihfaaGreat
open Go Go.X
structure IM (M X : Nat → Prop) (w : World) (ix : Nat) (has : List (Int × List Lab)) (rows : List (LabK × List Int)) : Prop where
  at_ : ∃ mh mr, IdxAt (fun b => M b ∨ X b) w ix mh mr has rows ∧ (∀ b, M b ↔ b = mh ∨ b = mr)
  apart : ∀ b, X b → ¬ M b ∧ b ≠ ix ∧ b < w.heap.size
  inv : IxI has rows
  sets : ∀ t ∈ has, isS t.2 = true
  rng : ∀ t ∈ has, -9223372036854775808 ≤ t.1 ∧ t.1 ≤ 9223372036854775807
  len : has.length ≤ 1000
  bd : ∀ t ∈ rows, t.2.length ≤ 6000
theorem IM.lt {M X : Nat → Prop} {w : World} {ix : Nat} {has : List (Int × List Lab)} {rows : List (LabK × List Int)} (h : IM M X w ix has rows) {b : Nat} (hb : M b) : b < w.heap.size := by
  obtain ⟨mh, mr, h1, h2⟩ := h.at_
  rcases (h2 b).1 hb with rfl | rfl
  · exact h1.mps.1.lt
  · exact h1.mps.2.lt
theorem IM.lt2 {M X : Nat → Prop} {w : World} {ix : Nat} {has : List (Int × List Lab)} {rows : List (LabK × List Int)} (h : IM M X w ix has rows) {b : Nat} (hb : M b ∨ X b) : b < w.heap.size := by
  rcases hb with hb | hb
  · exact h.lt hb
  · exact (h.apart b hb).2.2
theorem IM.grow {M X : Nat → Prop} {w w' : World} {ix : Nat} {has : List (Int × List Lab)} {rows : List (LabK × List Int)} (h : IM M X w ix has rows) (hg : Grow w w') : IM M X w' ix has rows := by
  obtain ⟨mh, mr, h1, h2⟩ := h.at_
  exact ⟨⟨mh, mr, h1.mod hg (fun _ _ h => h.elim) (fun h => h) (fun h => h) (fun h => h), h2⟩, fun b hb => by have h3 := h.apart b hb; have := hg.size; exact ⟨h3.1, h3.2.1, by omega⟩, h.inv, h.sets, h.rng, h.len, h.bd⟩
theorem add_no (M : Nat → Prop) (w : World) (ix mh mr : Nat) (has : List (Int × List Lab)) (rows : List (LabK × List Int)) (h : IdxAt M w ix mh mr has rows) (id : Int) (ls : List Lab) (v : Value) (hv : SlL M w v ls) (hno : (lookM has id).isSome = true ∨ isS ls = false) :
    Fx Tryz.prog 177 [pp ix, .int .i64 id, v] w (fun u w' => u = .bool false ∧ Grow w w') := by
  obtain ⟨ad, c, rfl⟩ := hv.shape
  obtain ⟨l, hl1, hl2, hl3⟩ := h.hl
  have hsome : (lookM (l.map fun t => (t.1, t.2.2)) id).isSome = (lookM has id).isSome := by
    have e1 := lookM_map (fun a : List Lab × Value => a.1) id l
    have e2 := lookM_map (fun a : List Lab × Value => a.2) id l
    rw [hl1] at e1
    rw [e1, e2]; simp
  cases hs : (lookM has id).isSome with
  | true =>
    rw [hs] at hsome
    obtain ⟨z, hz⟩ : ∃ z, (lookM (l.map fun t => (t.1, t.2.2)) id).getD (.slice none 0 0) = z := ⟨_, rfl⟩
    refine enter Tryz.func177 rfl rfl rfl _ (Pick.sub (l := [0, 1, 2]) (.cons rfl (.cons rfl (.cons rfl .nil)))) ?_
    refine RK.seq ?_
    refine RK.region ?_
    refine RL.p rfl rfl ?_
    refine RL.done ?_
    iterate 2 refine RK.seq ?_
    refine RK.region ?_
    iterate 2 refine RL.p rfl rfl ?_
    refine RL.q (.free rfl) rfl rfl (Yld.fieldAddr fo240_0 rfl) ?_
    refine RL.q (.free rfl) rfl rfl (Yld.load p237 rfl (at1 (h.blk.cell rfl))) ?_
    refine RL.p rfl rfl ?_
    refine RL.q (.free rfl) rfl rfl (Yld.lookup Tryz.underlying237 key3 i33 rfl rfl (fun w' e => e ▸ hl2)) ?_
    refine RL.re (d := 17) rfl rfl (show _ = Value.tuple #[z, .bool true] by rw [hz, hsome]; rfl) ?_
    iterate 5 refine RL.p rfl rfl ?_
    refine RL.done ?_
    refine RK.seq ?_
    refine RK.region ?_
    iterate 2 refine RL.p rfl rfl ?_
    refine RL.knownT (d := 21) rfl rfl (rfl) ?_
    iterate 3 refine RL.no (.no rfl rfl rfl rfl) rfl rfl ?_
    refine RL.p rfl rfl ?_
    refine RL.done ?_
    refine RK.condT rfl ?_
    refine RK.seq ?_
    refine RK.region ?_
    refine RL.p rfl rfl ?_
    refine RL.done ?_
    refine RK.ret_of Tryz.func177 (res1 rfl rfl) ?_ _
    exact ⟨_, rfl, rfl, Mod.refl _ _⟩
  | false =>
    have his : isS ls = false := by rcases hno with h1 | h1; (rw [hs] at h1; cases h1); exact h1
    rw [hs] at hsome
    obtain ⟨z, hz⟩ : ∃ z, (lookM (l.map fun t => (t.1, t.2.2)) id).getD (.slice none 0 0) = z := ⟨_, rfl⟩
    refine enter Tryz.func177 rfl rfl rfl _ (Pick.sub (l := [0, 1, 2]) (.cons rfl (.cons rfl (.cons rfl .nil)))) ?_
    refine RK.seq ?_
    refine RK.region ?_
    refine RL.p rfl rfl ?_
    refine RL.done ?_
    iterate 2 refine RK.seq ?_
    refine RK.region ?_
    iterate 2 refine RL.p rfl rfl ?_
    refine RL.q (.free rfl) rfl rfl (Yld.fieldAddr fo240_0 rfl) ?_
    refine RL.q (.free rfl) rfl rfl (Yld.load p237 rfl (at1 (h.blk.cell rfl))) ?_
    refine RL.p rfl rfl ?_
    refine RL.q (.free rfl) rfl rfl (Yld.lookup Tryz.underlying237 key3 i33 rfl rfl (fun w' e => e ▸ hl2)) ?_
    refine RL.re (d := 17) rfl rfl (show _ = Value.tuple #[z, .bool false] by rw [hz, hsome]; rfl) ?_
    iterate 5 refine RL.p rfl rfl ?_
    refine RL.done ?_
    refine RK.seq ?_
    refine RK.region ?_
    iterate 2 refine RL.p rfl rfl ?_
    refine RL.knownF (d := 21) rfl rfl (rfl) ?_
    refine RL.q (.yes rfl rfl rfl) rfl rfl (Yld.pure rfl) ?_
    refine RL.op (.yes rfl rfl rfl) rfl rfl (Does.call rfl e171 (is_ok M ls _ _ hv)) ?_
    rintro _ w2 ⟨rfl, hg2⟩
    refine RL.q (.yes rfl rfl rfl) rfl rfl (Yld.pure rfl) ?_
    refine RL.p rfl rfl ?_
    refine RL.done ?_
    refine RK.condT (hcT rfl (by rw [his]; rfl)) ?_
    refine RK.seq ?_
    refine RK.region ?_
    refine RL.p rfl rfl ?_
    refine RL.done ?_
    refine RK.ret_of Tryz.func177 (res1 rfl rfl) ?_ _
    exact ⟨_, rfl, rfl, hg2⟩
def addable (has : List (Int × List Lab)) (id : Int) (ls : List Lab) : Bool := (lookM has id).isNone && isS ls
def addH (has : List (Int × List Lab)) (id : Int) (ls : List Lab) : List (Int × List Lab) := if addable has id ls then putM has id ls else has
def addR (has : List (Int × List Lab)) (rows : List (LabK × List Int)) (id : Int) (ls : List Lab) : List (LabK × List Int) := if addable has id ls then addRows rows id ls else rows
theorem IM.add {M X : Nat → Prop} {w : World} {ix : Nat} {has : List (Int × List Lab)} {rows : List (LabK × List Int)} (h : IM M X w ix has rows) (hlen : has.length < 1000) (hbd : ∀ t ∈ rows, t.2.length ≤ 5994) {id : Int} (hid : -9223372036854775808 ≤ id ∧ id ≤ 9223372036854775807) {ls : List Lab} {v : Value} (hv : SlL (fun b => M b ∨ X b) w v ls) :
    Fx Tryz.prog 177 [pp ix, .int .i64 id, v] w (fun u w' => u = .bool (addable has id ls) ∧ IM M X w' ix (addH has id ls) (addR has rows id ls) ∧ Mod M w w') := by
  obtain ⟨mh, mr, h1, h2⟩ := h.at_
  cases ha : addable has id ls with
  | true =>
    have eH : addH has id ls = putM has id ls := by unfold addH; rw [ha]; rfl
    have eR : addR has rows id ls = addRows rows id ls := by unfold addR; rw [ha]; rfl
    rw [eH, eR]
    unfold addable at ha
    simp only [Bool.and_eq_true, Option.isNone_iff_eq_none] at ha
    have h6 := isS_len ha.2
    refine Fx.mono (add_ok _ w ix mh mr has rows h1 (.inl ((h2 mh).2 (.inl rfl))) (.inl ((h2 mr).2 (.inr rfl))) (fun b hb => h.lt2 hb) id ls v hv ha.1 ha.2 (fun t ht => by have := h.bd t ht; omega)) ?_
    rintro u w' ⟨rfl, h3, h4⟩
    refine ⟨rfl, ⟨⟨mh, mr, h3, h2⟩, fun b hb => by have h9 := h.apart b hb; have := h4.size; exact ⟨h9.1, h9.2.1, by omega⟩, h.inv.add ha.1 ls, fun t ht => ?_, fun t ht => ?_, ?_, fun t ht => ?_⟩, h4.mono fun b _ e => (h2 b).2 e⟩
    · rcases mem_putM ht with h5 | rfl
      · exact h.sets t h5
      · exact ha.2
    · rcases mem_putM ht with h5 | rfl
      · exact h.rng t h5
      · exact hid
    · rw [putM_new ha.1]; simp; omega
    · have := addRows_bound (B := 5994) hbd id ls t ht; omega
  | false =>
    have eH : addH has id ls = has := by unfold addH; rw [ha]; rfl
    have eR : addR has rows id ls = rows := by unfold addR; rw [ha]; rfl
    rw [eH, eR]
    refine Fx.mono (add_no _ w ix mh mr has rows h1 id ls v hv ?_) ?_
    · unfold addable at ha
      cases hl : lookM has id with
      | none => rw [hl] at ha; right; simpa using ha
      | some x => left; rfl
    · rintro u w' ⟨rfl, hg⟩
      exact ⟨rfl, h.grow hg, Mod.any' hg⟩
theorem IM.drop {M X : Nat → Prop} {w : World} {ix : Nat} {has : List (Int × List Lab)} {rows : List (LabK × List Int)} (h : IM M X w ix has rows) (id : Int) :
    Fx Tryz.prog 183 [pp ix, .int .i64 id] w (fun u w' => u = .bool (lookM has id).isSome ∧ IM M X w' ix (cutM has id) (dropRows rows id ((lookM has id).getD [])) ∧ Mod M w w') := by
  obtain ⟨mh, mr, h1, h2⟩ := h.at_
  refine Fx.mono (drop_ok _ w ix mh mr has rows h1 (.inl ((h2 mh).2 (.inl rfl))) (.inl ((h2 mr).2 (.inr rfl))) (fun b hb => h.lt2 hb) id (fun t ht => by have := h.bd t ht; omega)) ?_
  rintro u w' ⟨rfl, h3, h4⟩
  exact ⟨rfl, ⟨⟨mh, mr, h3, h2⟩, fun b hb => by have h9 := h.apart b hb; have := h4.size; exact ⟨h9.1, h9.2.1, by omega⟩, h.inv.drop id, fun t ht => h.sets t (mem_cutM' ht), fun t ht => h.rng t (mem_cutM' ht), Nat.le_trans (cutM_sub id has).length_le h.len, dropRows_bound h.bd id _⟩, h4.mono fun b _ e => (h2 b).2 e⟩
theorem IM.ids {M X : Nat → Prop} {w : World} {ix : Nat} {has : List (Int × List Lab)} {rows : List (LabK × List Int)} (h : IM M X w ix has rows) : Fx Tryz.prog 189 [pp ix] w (fun u w' => Row w' 3 1 u (idsS has).length (ints (idsS has)) ∧ Fresh w.heap.size u ∧ Grow w w') := by
  obtain ⟨mh, mr, h1, h2⟩ := h.at_
  exact ids_ok _ w ix mh mr has rows h1 h.inv.nd h.rng (by have := h.len; omega)
theorem IM.posting {M X : Nat → Prop} {w : World} {ix : Nat} {has : List (Int × List Lab)} {rows : List (LabK × List Int)} (h : IM M X w ix has rows) (nm vl : ByteArray) : Fx Tryz.prog 191 [pp ix, .string nm, .string vl] w (fun u w' => Row w' 3 1 u ((lookM rows (nm, vl)).getD []).length (ints ((lookM rows (nm, vl)).getD [])) ∧ Fresh w.heap.size u ∧ Grow w w') := by
  obtain ⟨mh, mr, h1, h2⟩ := h.at_
  exact posting_ok _ w ix mh mr has rows h1 (fun t ht => by have := h.bd t ht; omega) nm vl
theorem IM.size {M X : Nat → Prop} {w : World} {ix : Nat} {has : List (Int × List Lab)} {rows : List (LabK × List Int)} (h : IM M X w ix has rows) : Fx Tryz.prog 180 [pp ix] w (fun u w' => u = .int .i64 rows.length ∧ w = w') := by
  obtain ⟨mh, mr, h1, h2⟩ := h.at_
  exact idxLen_ok _ w ix mh mr has rows h1
theorem find1M_ok (h : Mt → List Lab → Bool) (ms : List Mt) (hh : ∀ m ∈ ms, HoldsC h m) (M : Nat → Prop) (w : World) (ix mh mr : Nat) (has : List (Int × List Lab)) (rows : List (LabK × List Int)) (hi : IdxAt M w ix mh mr has rows) (hsz : ∀ t ∈ has, ∀ x ∈ t.2, x.value.size ≤ 100000) (b2 b3 : Nat) (vm : Value) (hm : SlM No w vm ms) (hb2 : Blk w b2 187 [pp ix]) (hb3 : Blk w b3 24 [vm]) (id : Int) :
    Fx Tryz.prog 193 [.int .i64 id, pp b3, pp b2] w (fun u w' => u = .bool (!ms.all fun m => h m ((lookM has id).getD [])) ∧ Grow w w') := by
  obtain ⟨l, hl1, hl2, hl3⟩ := hi.hl
  obtain ⟨adm, cm, rfl⟩ := hm.shape
  obtain ⟨ls, hls⟩ : ∃ ls, (lookM has id).getD [] = ls := ⟨_, rfl⟩
  rw [hls]
  have hlz : ∀ x ∈ ls, x.value.size ≤ 100000 := by
    intro x hx
    cases hl9 : lookM has id with
    | none => rw [hl9] at hls; simp at hls; subst hls; cases hx
    | some q => rw [hl9] at hls; simp at hls; subst hls; exact hsz _ (lookM_mem hl9) x hx
  obtain ⟨vl, hvl, hv⟩ : ∃ vl, (lookM (l.map fun t => (t.1, t.2.2)) id).getD (.slice none 0 0) = vl ∧ SlL M w vl ls := by
    have e1 := lookM_map (fun a : List Lab × Value => a.1) id l
    have e2 := lookM_map (fun a : List Lab × Value => a.2) id l
    rw [hl1] at e1
    rw [e1] at hls
    rw [e2]
    cases hh : lookM l id with
    | none => rw [hh] at hls; simp at hls; subst hls; exact ⟨_, rfl, Sl.nil _ _ _ _ _⟩
    | some a => rw [hh] at hls; simp at hls; subst hls; exact ⟨_, rfl, hl3 _ (lookM_mem hh)⟩
  refine enter Tryz.func193 rfl rfl rfl _ (Pick.sub (l := [0, 1, 2]) (.cons rfl (.cons rfl (.cons rfl .nil)))) ?_
  refine RK.seq ?_
  refine RK.region ?_
  refine RL.p rfl rfl ?_
  refine RL.done ?_
  refine RK.seq ?_
  refine RK.drawM No [(0, false), (1, false), (2, false), (3, false), (4, false), (5, false), (6, false), (7, true), (8, false), (9, false)] [] mixed (by kernel_rfl) ?_
  refine DL.q rfl (.free rfl) rfl rfl rfl (Yld.load p24 rfl (atM (hb3.cell rfl) (fun h => h))) (Mod.drew _ _) ?_
  refine DL.q rfl (.free rfl) rfl rfl rfl (Yld.load p187 rfl (atM (hb2.cell rfl) (fun h => h))) (Mod.drew _ _) ?_
  refine DL.p rfl rfl rfl ?_
  refine DL.qf rfl (.free rfl) rfl rfl (Yld.fieldAddr fo240_0 rfl) ?_
  refine DL.q rfl (.free rfl) rfl rfl rfl (Yld.load p237 rfl (atM (hi.blk.cell rfl) (fun h => h))) (Mod.drew _ _) ?_
  refine DL.p rfl rfl rfl ?_
  refine DL.q rfl (.free rfl) rfl rfl rfl (Yld.lookup Tryz.underlying237 key3 i33 (k := id) rfl rfl (fun w' hm => hl2.mod hm (fun h => h))) (Mod.drew _ _) ?_
  refine DL.re (d := 11) rfl rfl (hvl) ?_
  refine DL.op rfl (.free rfl) rfl rfl (Does.call rfl e104 (allM_ok h ms hh M No ls hlz _ vl _ (hm.mod (Mod.drew _ _)) (hv.mod (Mod.drew _ _)))) ?_
  rintro _ w2 ⟨rfl, hg2⟩
  refine ⟨(Mod.drew _ _).trans hg2, ?_⟩
  iterate 2 refine DL.p rfl rfl rfl ?_
  refine DL.done ?_
  refine RK.ret_of Tryz.func193 (res1 rfl rfl) ?_ _
  exact ⟨_, rfl, rfl, (Mod.drew _ _).trans hg2⟩
theorem IM.find {M X : Nat → Prop} {w : World} {ix : Nat} {has : List (Int × List Lab)} {rows : List (LabK × List Int)} (hI : IM M X w ix has rows) (h : Mt → List Lab → Bool) (ms : List Mt) (hh : ∀ m ∈ ms, HoldsC h m) (heq : ∀ m ∈ ms, m.kind = 1 → m.value ≠ ByteArray.empty → ∀ ls, h m ls = true → getL ls m.name = m.value) (v : Value) (hv : SlM No w v ms) :
    Fx Tryz.prog 138 [pp ix, v] w (fun u w' => (∃ R : List Int, Row w' 3 1 u R.length (ints R) ∧ Ris R ∧ ∀ id, id ∈ R ↔ ∃ ls, (id, ls) ∈ has ∧ (ms.all fun m => h m ls) = true) ∧ Fresh w.heap.size u ∧ Grow w w') := by
  obtain ⟨mh, mr, hi, h2⟩ := hI.at_
  obtain ⟨adm, cm, rfl⟩ := hv.shape
  have hlook : ∀ id ls, (id, ls) ∈ has → (lookM has id).getD [] = ls := fun id ls hm => by rw [(lookM_iff hI.inv.nd).2 hm]; rfl
  have hids : (idsS has).length = has.length := by unfold idsS; rw [sortI_len]; simp
  have hl1000 := hI.len
  have hbig := hv.big
  have hpost : ∀ m ∈ ms, m.kind = 1 → m.value ≠ ByteArray.empty → ∀ id ls, (id, ls) ∈ has → h m ls = true → id ∈ (lookM rows (m.name, m.value)).getD [] := fun m hm hk hne id ls hmem hho => by
    have hg := heq m hm hk hne ls hho
    refine (hI.inv.mem _ _).2 ⟨ls, hmem, ?_⟩
    unfold getL at hg
    cases hf : ls.find? (fun x => decide (x.name = m.name)) with
    | none => rw [hf] at hg; exact absurd hg.symm hne
    | some x =>
      rw [hf] at hg
      have hx := List.find?_some hf
      refine ⟨x, List.mem_of_find?_eq_some hf, ?_⟩
      simp only [labK]
      rw [show x.name = m.name by simpa using hx, show x.value = m.value by simpa using hg]
  refine enter Tryz.func138 rfl rfl rfl _ (Pick.sub (l := [0, 1]) (.cons rfl (.cons rfl .nil))) ?_
  refine RK.seq ?_
  refine RK.region ?_
  refine RL.op (.free rfl) rfl rfl (Does.box rfl) ?_
  rintro _ w1 ⟨b2, rfl, hn2⟩
  refine RL.op (.free rfl) rfl rfl (Does.box rfl) ?_
  rintro _ w2 ⟨b3, rfl, hn3⟩
  have hg02 := hn2.grow.trans hn3.grow
  have hB2 := hn2.blk.mod hn3.grow (fun h => h)
  have hB3 := hn3.blk
  refine RL.p rfl rfl ?_
  refine RL.done ?_
  refine RK.seq ?_
  refine RK.region ?_
  refine RL.q (.free rfl) rfl rfl (Yld.load p187 rfl (at1 (hB2.cell rfl))) ?_
  refine RL.op (.free rfl) rfl rfl (Does.call rfl e189 ((hI.grow hg02).ids)) ?_
  rintro u3 w3 ⟨hr3, hf3, hg3⟩
  refine RL.p rfl rfl ?_
  refine RL.done ?_
  iterate 2 refine RK.seq ?_
  refine RK.region ?_
  refine RL.q (.free rfl) rfl rfl (Yld.load p24 rfl (at1 ((hB3.mod hg3 (fun h => h)).cell rfl))) ?_
  have hg03 := hg02.trans hg3
  have hs02 := hg02.size
  refine RL.q (.free rfl) rfl rfl (Yld.lenSl u24 rfl) ?_
  refine RL.p rfl rfl ?_
  refine RL.done ?_
  refine RK.block ?_
  refine RK.loop (fun s : Nat × Value => [(2, pp b2), (3, pp b3), (10, .slice adm ms.length cm), (11, .int .i64 ms.length), (12, .int .i64 (s.1 : Int)), (5, s.2)]) (fun s w' => (∃ R : List Int, Row w' 3 1 s.2 R.length (ints R) ∧ Ris R ∧ (∀ id ∈ R, id ∈ idsS has) ∧ R.length ≤ 1000 ∧ ∀ id ls, (id, ls) ∈ has → (ms.all fun m => h m ls) = true → id ∈ R) ∧ Fresh w2.heap.size s.2 ∧ Grow w2 w' ∧ s.1 ≤ ms.length) (fun s => ms.length - s.1) (0, u3) ⟨rfl, rfl, rfl, rfl, rfl, rfl, trivial⟩ ⟨⟨idsS has, hr3, idsS_ris hI.inv.nd, fun id h => h, by omega, fun id ls hm _ => mem_idsS.2 (List.mem_map_of_mem (f := fun t : Int × List Lab => t.1) hm)⟩, hf3, hg3, by simp⟩ (fun s w' hI' ih => ?_)
  obtain ⟨k, u⟩ := s
  obtain ⟨⟨R, hr, hris, hsub, hRl, hall⟩, hf, hg, hk⟩ := hI'
  simp only at hr hf hk
  have hg0 := hg02.trans hg
  refine RK.seq ?_
  refine RK.region ?_
  refine RL.p rfl rfl ?_
  refine RL.done ?_
  refine RK.seq ?_
  first | refine RK.condD rfl (fun h13 => ?_) (fun h13 => ?_) | refine RK.condN rfl (fun h13 => ?_) (fun h13 => ?_) | refine RK.cond rfl (fun h13 => ?_) (fun h13 => ?_)
  · obtain ⟨x, hx⟩ : ∃ x, ms[k]? = some x := ⟨ms[k]'(by omega), List.getElem?_eq_getElem (by omega)⟩
    obtain ⟨b1, o1, c1', he1, _, _, hc1⟩ := hv.elem mtC_len hx
    cases he1
    refine RK.skip ?_
    refine RK.seq ?_
    refine RK.block ?_
    refine RK.seq ?_
    refine RK.region ?_
    refine RL.q (.free rfl) rfl rfl (Yld.indexAddrN u24 i135 rfl rfl (by omega)) ?_
    refine RL.q (.free rfl) rfl rfl (Yld.loadN (cs := [.int .i64 x.kind, .string x.name, .string x.value]) a135 rfl (atN (fun q z hq => hg0.cell (hc1 q z hq) (fun h => h)))) ?_
    refine RL.op (.free rfl) rfl rfl (Does.alloc i135) ?_
    rintro _ w7 ⟨b7, rfl, hn7⟩
    refine RL.op' (.free rfl) rfl (Does.storeN i135 rfl rfl rfl rfl hn7.blk (Nat.le_refl 3)) ?_
    rintro _ w8 ⟨hb8, hm8, _⟩
    have hB8 : Blk w8 b7 135 [.int .i64 x.kind, .string x.name, .string x.value] := hb8
    have hg8 : Grow w' w8 := hn7.grow.then hm8 (fun y hy e => by have e' : y = b7 := e; have := hn7.at_; omega)
    refine RL.done ?_
    refine RK.seq ?_
    refine RK.region ?_
    refine RL.q (.free rfl) rfl rfl (Yld.fieldAddr fo135_0 rfl) ?_
    refine RL.q (.free rfl) rfl rfl (Yld.load p3 rfl (at1 (hB8.cell rfl))) ?_
    iterate 2 refine RL.p rfl rfl ?_
    first | refine RL.splitD (d := 19) rfl rfl (fun h19 => ?_) (fun h19 => ?_) | refine RL.splitN (d := 19) rfl rfl (fun h19 => ?_) (fun h19 => ?_) | refine RL.split (d := 19) rfl rfl (fun h19 => ?_) (fun h19 => ?_)
    · refine RL.q (.yes rfl rfl rfl) rfl rfl (Yld.fieldAddr fo135_2 rfl) ?_
      refine RL.q (.yes rfl rfl rfl) rfl rfl (Yld.load p9 rfl (at1 (hB8.cell rfl))) ?_
      refine RL.q (.yes rfl rfl rfl) rfl rfl (Yld.pure rfl) ?_
      refine RL.p rfl rfl ?_
      refine RL.done ?_
      first | refine RK.condD rfl (fun h23 => ?_) (fun h23 => ?_) | refine RK.condN rfl (fun h23 => ?_) (fun h23 => ?_) | refine RK.cond rfl (fun h23 => ?_) (fun h23 => ?_)
      · refine RK.region ?_
        refine RL.p rfl rfl ?_
        refine RL.q (.free rfl) rfl rfl (Yld.load p187 rfl (at1 ((hB2.mod (hg.trans hg8) (fun h => h)).cell rfl))) ?_
        refine RL.q (.free rfl) rfl rfl (Yld.fieldAddr fo135_1 rfl) ?_
        refine RL.q (.free rfl) rfl rfl (Yld.load p9 rfl (at1 (hB8.cell rfl))) ?_
        refine RL.q (.free rfl) rfl rfl (Yld.fieldAddr fo135_2 rfl) ?_
        refine RL.q (.free rfl) rfl rfl (Yld.load p9 rfl (at1 (hB8.cell rfl))) ?_
        refine RL.op (.free rfl) rfl rfl (Does.call rfl e191 ((hI.grow (hg0.trans hg8)).posting x.name x.value)) ?_
        rintro u9 w9 ⟨hr9, hf9, hg9⟩
        refine RL.op (.free rfl) rfl rfl (Does.call rfl e190 (and_ok No R ((lookM rows (x.name, x.value)).getD []) u u9 _ (Sl.own (hr.mod (hg8.trans hg9) (fun _ _ h => h)) (fun _ _ h => h)) (Sl.own hr9 (fun _ _ h => h)) (by omega))) ?_
        rintro u10 w10 ⟨hr10, hf10, hg10⟩
        rw [mkRow_id hris] at hr10
        have hg210 := ((hg.trans hg8).trans hg9).trans hg10
        refine RL.p rfl rfl ?_
        refine RL.done ?_
        refine RK.inBlock ?_
        refine RK.region ?_
        refine RL.p rfl rfl ?_
        refine RL.re (d := 32) rfl rfl (succ_i64 (by omega)) ?_
        refine RL.p rfl rfl ?_
        refine RL.done ?_
        exact RK.back (ih (k + 1, u10) _ ⟨⟨R.filter fun n => ((lookM rows (x.name, x.value)).getD []).contains n, hr10, hris.sublist List.filter_sublist, fun id hid => hsub id (List.mem_filter.1 hid).1, Nat.le_trans (List.length_filter_le _ _) hRl, fun id ls hm hal => List.mem_filter.2 ⟨hall id ls hm hal, by
            have := hpost x (List.mem_of_getElem? hx) (by first | assumption | (simp_all; done)) (by first | assumption | (simp_all; done)) id ls hm (List.all_eq_true.1 hal x (List.mem_of_getElem? hx))
            simpa using this⟩⟩, fun b e => by have := hf10 b e; have := ((hg.trans hg8).trans hg9).size; omega, hg210, by simp only; omega⟩ (by simp only; omega)) ⟨rfl, rfl, rfl, rfl, rfl, rfl, trivial⟩
      · refine RK.skip ?_
        refine RK.inBlock ?_
        refine RK.region ?_
        refine RL.p rfl rfl ?_
        refine RL.re (d := 32) rfl rfl (succ_i64 (by omega)) ?_
        refine RL.p rfl rfl ?_
        refine RL.done ?_
        exact RK.back (ih (k + 1, u) _ ⟨⟨R, hr.mod hg8 (fun _ _ h => h), hris, hsub, hRl, hall⟩, hf, hg.trans hg8, by simp only; omega⟩ (by simp only; omega)) ⟨rfl, rfl, rfl, rfl, rfl, rfl, trivial⟩
    · iterate 3 refine RL.no (.no rfl rfl rfl rfl) rfl rfl ?_
      refine RL.p rfl rfl ?_
      refine RL.done ?_
      first | refine RK.condD rfl (fun h23 => ?_) (fun h23 => ?_) | refine RK.condN rfl (fun h23 => ?_) (fun h23 => ?_) | refine RK.cond rfl (fun h23 => ?_) (fun h23 => ?_)
      · refine RK.region ?_
        refine RL.p rfl rfl ?_
        refine RL.q (.free rfl) rfl rfl (Yld.load p187 rfl (at1 ((hB2.mod (hg.trans hg8) (fun h => h)).cell rfl))) ?_
        refine RL.q (.free rfl) rfl rfl (Yld.fieldAddr fo135_1 rfl) ?_
        refine RL.q (.free rfl) rfl rfl (Yld.load p9 rfl (at1 (hB8.cell rfl))) ?_
        refine RL.q (.free rfl) rfl rfl (Yld.fieldAddr fo135_2 rfl) ?_
        refine RL.q (.free rfl) rfl rfl (Yld.load p9 rfl (at1 (hB8.cell rfl))) ?_
        refine RL.op (.free rfl) rfl rfl (Does.call rfl e191 ((hI.grow (hg0.trans hg8)).posting x.name x.value)) ?_
        rintro u9 w9 ⟨hr9, hf9, hg9⟩
        refine RL.op (.free rfl) rfl rfl (Does.call rfl e190 (and_ok No R ((lookM rows (x.name, x.value)).getD []) u u9 _ (Sl.own (hr.mod (hg8.trans hg9) (fun _ _ h => h)) (fun _ _ h => h)) (Sl.own hr9 (fun _ _ h => h)) (by omega))) ?_
        rintro u10 w10 ⟨hr10, hf10, hg10⟩
        rw [mkRow_id hris] at hr10
        have hg210 := ((hg.trans hg8).trans hg9).trans hg10
        refine RL.p rfl rfl ?_
        refine RL.done ?_
        refine RK.inBlock ?_
        refine RK.region ?_
        refine RL.p rfl rfl ?_
        refine RL.re (d := 32) rfl rfl (succ_i64 (by omega)) ?_
        refine RL.p rfl rfl ?_
        refine RL.done ?_
        exact RK.back (ih (k + 1, u10) _ ⟨⟨R.filter fun n => ((lookM rows (x.name, x.value)).getD []).contains n, hr10, hris.sublist List.filter_sublist, fun id hid => hsub id (List.mem_filter.1 hid).1, Nat.le_trans (List.length_filter_le _ _) hRl, fun id ls hm hal => List.mem_filter.2 ⟨hall id ls hm hal, by
            have := hpost x (List.mem_of_getElem? hx) (by first | assumption | (simp_all; done)) (by first | assumption | (simp_all; done)) id ls hm (List.all_eq_true.1 hal x (List.mem_of_getElem? hx))
            simpa using this⟩⟩, fun b e => by have := hf10 b e; have := ((hg.trans hg8).trans hg9).size; omega, hg210, by simp only; omega⟩ (by simp only; omega)) ⟨rfl, rfl, rfl, rfl, rfl, rfl, trivial⟩
      · refine RK.skip ?_
        refine RK.inBlock ?_
        refine RK.region ?_
        refine RL.p rfl rfl ?_
        refine RL.re (d := 32) rfl rfl (succ_i64 (by omega)) ?_
        refine RL.p rfl rfl ?_
        refine RL.done ?_
        exact RK.back (ih (k + 1, u) _ ⟨⟨R, hr.mod hg8 (fun _ _ h => h), hris, hsub, hRl, hall⟩, hf, hg.trans hg8, by simp only; omega⟩ (by simp only; omega)) ⟨rfl, rfl, rfl, rfl, rfl, rfl, trivial⟩
  · refine RK.exit rfl ?_
    refine RK.seq ?_
    refine RK.region ?_
    iterate 2 refine RL.p rfl rfl ?_
    refine RL.op (.free rfl) rfl rfl (Does.call rfl e192 (deleteFuncI_ok w2 R u _ (fun id => !ms.all fun m => h m ((lookM has id).getD [])) _ hr hf hg ⟨_, _, rfl, e193, fun n w9 hg9 => find1M_ok h ms hh _ w9 ix mh mr has rows (hi.mod (hg02.trans hg9) (fun _ _ h => h.elim) (fun h => h) (fun h => h) (fun h => h)) (fun t ht x hx => by have := isS_val (hI.sets t ht) x hx; omega) b2 b3 _ (hv.mod (hg02.trans hg9)) (hB2.mod hg9 (fun h => h)) (hB3.mod hg9 (fun h => h)) n⟩)) ?_
    rintro u9 w9 ⟨hr9, hu9, hm9⟩
    refine RL.p rfl rfl ?_
    refine RL.done ?_
    refine RK.ret_of Tryz.func138 (res1 rfl rfl) ?_ _
    exact ⟨_, rfl, ⟨_, hr9, hris.sublist List.filter_sublist, fun id => by
        unfold keepI
        rw [List.mem_filter]
        dsimp only
        constructor
        · rintro ⟨a, b⟩
          obtain ⟨t, ht, e⟩ := List.mem_map.1 (mem_idsS.1 (hsub id a))
          have e2 := hlook t.1 t.2 ht
          subst e
          rw [e2] at b
          exact ⟨t.2, ht, by simpa using b⟩
        · rintro ⟨ls, hm, hal⟩
          refine ⟨hall id ls hm hal, ?_⟩
          rw [hlook id ls hm, hal]; rfl⟩, fun b e => by rw [hu9] at e; have := hf b e; omega, (hg02.trans hg).then hm9 (fun b hb e => by have := hf b e; omega)⟩
end Go.Proofs.YthbjfhhiajihfaaGreat
set_option linter.unusedVariables false
set_option linter.unusedSimpArgs false
set_option maxHeartbeats 800000
set_option maxRecDepth 100000
namespace Go.Proofs.YthbjfhhiajihfaaGreat
open Go Go.X
end Go.Proofs.YthbjfhhiajihfaaGreat
set_option linter.unusedVariables false
set_option linter.unusedSimpArgs false
set_option maxHeartbeats 1000000
set_option maxRecDepth 100000
namespace Go.Proofs.YthbjfhhiajihfaaGreat
open Go Go.X Go.Rex
@[irreducible] def fitS (s : ByteArray) : Bool := match parseS s with
  | some x => decide (sz x + 1 ≤ 40)
  | none => false
@[irreducible] def patS (s : ByteArray) : Bool := (parseS s).isSome
@[irreducible] def isM (m : Mt) : Bool := nameS m.name && (if likeS m then patS m.value else decide ((m.kind = 1 ∨ m.kind = 2) ∧ m.value.size ≤ 24))
@[irreducible] def largeM (m : Mt) : Bool := isM m && likeS m && !fitS m.value
@[irreducible] noncomputable def takesS (s v : ByteArray) : Bool := match parseS s with
  | some x => takes x v
  | none => false
@[irreducible] noncomputable def holdsM (m : Mt) (ls : List Lab) : Bool := isM m && !largeM m && (if m.kind = 1 then decide (getL ls m.name = m.value) else if m.kind = 2 then !decide (getL ls m.name = m.value) else takesS m.value (getL ls m.name) == decide (m.kind = 3))
theorem getL_size {ls : List Lab} (hz : ∀ x ∈ ls, x.value.size ≤ 100000) (nm : ByteArray) : (getL ls nm).size ≤ 100000 := by
  unfold getL
  cases hf : ls.find? fun x => decide (x.name = nm) with
  | none => show (0 : Nat) ≤ 100000; omega
  | some x => exact hz x (List.mem_of_find?_eq_some hf)
theorem like_kind {m : Mt} (h : likeS m = true) : m.kind = 3 ∨ m.kind = 4 := by unfold likeS at h; simpa using h
theorem isM_kind {m : Mt} (h : isM m = true) : m.kind = 1 ∨ m.kind = 2 ∨ m.kind = 3 ∨ m.kind = 4 := by
  unfold isM at h
  simp only [Bool.and_eq_true] at h
  cases hl : likeS m with
  | true => have := like_kind hl; omega
  | false => rw [hl] at h; simp at h; omega
theorem isM_pat {m : Mt} (h : isM m = true) (hl : likeS m = true) : patS m.value = true := by
  unfold isM at h
  rw [hl] at h
  simp only [Bool.and_eq_true, if_true] at h
  exact h.2
theorem pat_parse {s : ByteArray} (h : patS s = true) : ∃ x, parseS s = some x := by unfold patS at h; exact Option.isSome_iff_exists.1 h
theorem parse_sz' {s : ByteArray} {x : Rx} (h : parseS s = some x) : sz x ≤ 80 := parse_sz (fun x j h => (par_adv s 8 0 x j (Nat.zero_le _) h).2) h
theorem matchIs_ok (m : Mt) (w : World) : Fx Tryz.prog 186 [.agg #[.int .i64 m.kind, .string m.name, .string m.value]] w (fun u w' => u = .bool (isM m) ∧ Grow w w') := by
  cases hlk : likeS m with
  | false =>
    refine Fx.mono (isV_ok m hlk w) ?_
    rintro u w' ⟨rfl, hg⟩
    refine ⟨congrArg _ ?_, hg⟩
    unfold isM isV
    rw [hlk]; rfl
  | true =>
    refine enter Tryz.func186 rfl rfl rfl _ (Pick.sub (l := [0]) (.cons rfl .nil)) ?_
    refine RK.seq ?_
    refine RK.region ?_
    refine RL.op (.free rfl) rfl rfl (Does.box rfl) ?_
    rintro _ w1 ⟨b1, rfl, hn1⟩
    refine RL.p rfl rfl ?_
    refine RL.done ?_
    iterate 2 refine RK.seq ?_
    refine RK.region ?_
    refine RL.q (.free rfl) rfl rfl (Yld.fieldAddr fo135_1 rfl) ?_
    refine RL.q (.free rfl) rfl rfl (Yld.load p9 rfl (at1 (hn1.blk.cell rfl))) ?_
    refine RL.op (.free rfl) rfl rfl (Does.call rfl e219 (name_ok _ _)) ?_
    rintro _ _ ⟨rfl, rfl⟩
    refine RL.p rfl rfl ?_
    refine RL.done ?_
    first | refine RK.condD rfl (fun h8 => ?_) (fun h8 => ?_) | refine RK.condN rfl (fun h8 => ?_) (fun h8 => ?_) | refine RK.cond rfl (fun h8 => ?_) (fun h8 => ?_)
    · refine RK.seq ?_
      refine RK.region ?_
      refine RL.p rfl rfl ?_
      refine RL.done ?_
      refine RK.ret_of Tryz.func186 (res1 rfl rfl) ?_ _
      exact ⟨_, rfl, congrArg _ (by unfold isM; simp at h8; rw [h8]; rfl), hn1.grow⟩
    · refine RK.skip ?_
      iterate 2 refine RK.seq ?_
      refine RK.region ?_
      refine RL.q (.free rfl) rfl rfl (Yld.loadN (cs := [.int .i64 m.kind, .string m.name, .string m.value]) a135 rfl (atN (blk0' hn1.blk))) ?_
      refine RL.op (.free rfl) rfl rfl (Does.call rfl e229 (like_ok m _)) ?_
      rintro _ w2 ⟨rfl, hg2⟩
      refine RL.done ?_
      refine RK.condT (hcT rfl (hlk)) ?_
      refine RK.seq ?_
      refine RK.region ?_
      refine RL.q (.free rfl) rfl rfl (Yld.fieldAddr fo135_2 rfl) ?_
      refine RL.q (.free rfl) rfl rfl (Yld.load p9 rfl (at1 ((hn1.blk.mod hg2 (fun h => h)).cell rfl))) ?_
      refine RL.op (.free rfl) rfl rfl (Does.call rfl e230 (parse_ok m.value _)) ?_
      rintro _ w3 ⟨c, rfl, hg3, hx⟩
      iterate 3 refine RL.p rfl rfl ?_
      refine RL.op (.free rfl) rfl rfl (Does.alloc i224) ?_
      rintro _ w4 ⟨b3, rfl, hn3⟩
      refine RL.op' (.free rfl) rfl (Does.storeN i224 rfl rfl rfl rfl hn3.blk (Nat.le_refl 6)) ?_
      rintro _ w5 ⟨hb5, hm5, _⟩
      refine RL.p rfl rfl ?_
      refine RL.done ?_
      refine RK.seq ?_
      refine RK.region ?_
      iterate 2 refine RL.p rfl rfl ?_
      refine RL.done ?_
      refine RK.ret_of Tryz.func186 (res1 rfl rfl) ?_ _
      exact ⟨_, rfl, congrArg _ (by unfold isM patS; simp at h8; rw [h8, hlk]; rfl), (((hn1.grow.trans hg2).trans hg3).trans hn3.grow).then hm5 (fun y hy e => by have e' : y = b3 := e; have := hn3.at_; have := ((hn1.grow.trans hg2).trans hg3).size; omega)⟩
theorem program_ok (m : Mt) (hp : patS m.value = true) (w : World) : Fx Tryz.prog 211 [.agg #[.int .i64 m.kind, .string m.name, .string m.value]] w (fun u w' => (∃ v, u = .tuple #[v, .bool (fitS m.value)] ∧ (fitS m.value = true → ∃ x, parseS m.value = some x ∧ sz x + 1 ≤ 40 ∧ RowS w' v (whole x))) ∧ Grow w w') := by
  obtain ⟨x, hx⟩ := pat_parse hp
  have ht := parse_tr hx
  have hsz := parse_sz' hx
  have hfit : fitS m.value = decide (sz x + 1 ≤ 40) := by unfold fitS; rw [hx]
  refine enter Tryz.func211 rfl rfl rfl _ (Pick.sub (l := [0]) (.cons rfl .nil)) ?_
  refine RK.seq ?_
  refine RK.region ?_
  refine RL.op (.free rfl) rfl rfl (Does.box rfl) ?_
  rintro _ w1 ⟨b1, rfl, hn1⟩
  iterate 2 refine RL.p rfl rfl ?_
  refine RL.done ?_
  refine RK.seq ?_
  refine RK.region ?_
  refine RL.q (.free rfl) rfl rfl (Yld.fieldAddr fo135_2 rfl) ?_
  refine RL.q (.free rfl) rfl rfl (Yld.load p9 rfl (at1 (hn1.blk.cell rfl))) ?_
  refine RL.op (.free rfl) rfl rfl (Does.call rfl e230 (parse_ok m.value _)) ?_
  rintro _ w3 ⟨c, rfl, hg3, hxx⟩
  have hv3 := hxx x hx
  have hsm : (parseS m.value).isSome = true := by rw [hx]; rfl
  rw [hsm]
  iterate 3 refine RL.p rfl rfl ?_
  refine RL.op (.free rfl) rfl rfl (Does.alloc i224) ?_
  rintro _ w4 ⟨b3, rfl, hn3⟩
  refine RL.op' (.free rfl) rfl (Does.storeN i224 rfl rfl rfl rfl hn3.blk (Nat.le_refl 6)) ?_
  rintro _ w5 ⟨hb5, hm5, _⟩
  have hB5 : Blk w5 b3 224 (celC c) := hb5
  have hg5 : Grow w3 w5 := hn3.grow.then hm5 (fun y hy e => by have e' : y = b3 := e; have := hn3.at_; omega)
  refine RL.p rfl rfl ?_
  refine RL.done ?_
  iterate 2 refine RK.seq ?_
  refine RK.region ?_
  iterate 2 refine RL.p rfl rfl ?_
  refine RL.done ?_
  refine RK.condF (hcF rfl (rfl)) ?_
  refine RK.skip ?_
  refine RK.seq ?_
  refine RK.region ?_
  refine RL.q (.free rfl) rfl rfl (Yld.loadN (cs := celC c) a224 rfl (atN (blk0' hB5))) ?_
  refine RL.op (.free rfl) rfl rfl (Does.call rfl e257 (progMake_ok x ht (by omega) _ c _ (RxV.grow hg5 x hv3))) ?_
  rintro _ w6 ⟨⟨v, rfl, hrow⟩, hg6⟩
  iterate 4 refine RL.p rfl rfl ?_
  refine RL.done ?_
  refine RK.ret_of Tryz.func211 (res2 rfl rfl rfl) ?_ _
  exact ⟨_, rfl, ⟨v, by rw [hfit], fun hf => ⟨x, hx, by rw [hfit] at hf; simpa using hf, hrow (by rw [hfit] at hf; simpa using hf)⟩⟩, ((hn1.grow.trans hg3).trans hg5).trans hg6⟩
theorem large_no {m : Mt} (h : isM m = false) : largeM m = false := by unfold largeM; rw [h]; rfl
theorem large_no2 {m : Mt} (h : likeS m = false) : largeM m = false := by unfold largeM; rw [h]; simp
theorem large_yes {m : Mt} (h1 : isM m = true) (h2 : likeS m = true) : largeM m = !fitS m.value := by unfold largeM; rw [h1, h2]; rfl
theorem matchLarge_ok (m : Mt) (w : World) : Fx Tryz.prog 188 [.agg #[.int .i64 m.kind, .string m.name, .string m.value]] w (fun u w' => u = .bool (largeM m) ∧ Grow w w') := by
  refine enter Tryz.func188 rfl rfl rfl _ (Pick.sub (l := [0]) (.cons rfl .nil)) ?_
  refine RK.seq ?_
  refine RK.region ?_
  refine RL.op (.free rfl) rfl rfl (Does.box rfl) ?_
  rintro _ w1 ⟨b1, rfl, hn1⟩
  have hB1 : Blk w1 b1 135 [.int .i64 m.kind, .string m.name, .string m.value] := hn1.blk
  refine RL.p rfl rfl ?_
  refine RL.done ?_
  iterate 2 refine RK.seq ?_
  refine RK.region ?_
  refine RL.q (.free rfl) rfl rfl (Yld.loadN (cs := [.int .i64 m.kind, .string m.name, .string m.value]) a135 rfl (atN (blk0' hB1))) ?_
  refine RL.op (.free rfl) rfl rfl (Does.call rfl e229 (like_ok m _)) ?_
  rintro _ w2 ⟨rfl, hg2⟩
  have hB2 := hB1.mod hg2 (fun h => h)
  iterate 2 refine RL.p rfl rfl ?_
  first | refine RL.splitD (d := 8) rfl rfl (fun h8 => ?_) (fun h8 => ?_) | refine RL.splitN (d := 8) rfl rfl (fun h8 => ?_) (fun h8 => ?_) | refine RL.split (d := 8) rfl rfl (fun h8 => ?_) (fun h8 => ?_)
  · have hl : likeS m = false := by unfold likeS; simpa using h8
    iterate 3 refine RL.no (.no rfl rfl rfl rfl) rfl rfl ?_
    refine RL.p rfl rfl ?_
    refine RL.done ?_
    refine RK.condT (hcT rfl (rfl)) ?_
    refine RK.seq ?_
    refine RK.region ?_
    refine RL.p rfl rfl ?_
    refine RL.done ?_
    refine RK.ret_of Tryz.func188 (res1 rfl rfl) ?_ _
    exact ⟨_, rfl, by rw [large_no2 hl], hn1.grow.trans hg2⟩
  · have hl : likeS m = true := by unfold likeS; simpa using h8
    refine RL.q (.yes rfl rfl rfl) rfl rfl (Yld.loadN (cs := [.int .i64 m.kind, .string m.name, .string m.value]) a135 rfl (atN (blk0' hB2))) ?_
    refine RL.op (.yes rfl rfl rfl) rfl rfl (Does.call rfl e186 (matchIs_ok m _)) ?_
    rintro _ w3 ⟨rfl, hg3⟩
    have hB3 := hB2.mod hg3 (fun h => h)
    refine RL.q (.yes rfl rfl rfl) rfl rfl (Yld.pure rfl) ?_
    refine RL.p rfl rfl ?_
    refine RL.done ?_
    first | refine RK.condD rfl (fun h12 => ?_) (fun h12 => ?_) | refine RK.condN rfl (fun h12 => ?_) (fun h12 => ?_) | refine RK.cond rfl (fun h12 => ?_) (fun h12 => ?_)
    · have his : isM m = false := by simpa using h12
      refine RK.seq ?_
      refine RK.region ?_
      refine RL.p rfl rfl ?_
      refine RL.done ?_
      refine RK.ret_of Tryz.func188 (res1 rfl rfl) ?_ _
      exact ⟨_, rfl, by rw [large_no his], (hn1.grow.trans hg2).trans hg3⟩
    · have his : isM m = true := by simpa using h12
      refine RK.skip ?_
      refine RK.seq ?_
      refine RK.region ?_
      refine RL.q (.free rfl) rfl rfl (Yld.loadN (cs := [.int .i64 m.kind, .string m.name, .string m.value]) a135 rfl (atN (blk0' hB3))) ?_
      refine RL.op (.free rfl) rfl rfl (Does.call rfl e211 (program_ok m (isM_pat his hl) _)) ?_
      rintro _ w4 ⟨⟨v, rfl, _⟩, hg4⟩
      iterate 5 refine RL.p rfl rfl ?_
      refine RL.done ?_
      refine RK.seq ?_
      refine RK.region ?_
      iterate 3 refine RL.p rfl rfl ?_
      refine RL.done ?_
      refine RK.ret_of Tryz.func188 (res1 rfl rfl) ?_ _
      exact ⟨_, rfl, by rw [large_yes his hl], ((hn1.grow.trans hg2).trans hg3).trans hg4⟩
theorem matchHolds_ok (m : Mt) : HoldsC holdsM m := by
  intro M ls v w hz hv
  obtain ⟨ad, c, rfl⟩ := hv.shape
  have hgz := getL_size hz m.name
  refine enter Tryz.func157 rfl rfl rfl _ (Pick.sub (l := [0, 1]) (.cons rfl (.cons rfl .nil))) ?_
  refine RK.seq ?_
  refine RK.region ?_
  refine RL.op (.free rfl) rfl rfl (Does.box rfl) ?_
  rintro _ w1 ⟨b1, rfl, hn1⟩
  have hB1 : Blk w1 b1 135 [.int .i64 m.kind, .string m.name, .string m.value] := hn1.blk
  refine RL.p rfl rfl ?_
  refine RL.done ?_
  iterate 2 refine RK.seq ?_
  refine RK.region ?_
  refine RL.q (.free rfl) rfl rfl (Yld.loadN (cs := [.int .i64 m.kind, .string m.name, .string m.value]) a135 rfl (atN (blk0' hB1))) ?_
  refine RL.op (.free rfl) rfl rfl (Does.call rfl e186 (matchIs_ok m _)) ?_
  rintro _ w2 ⟨rfl, hg2⟩
  have hg02 := hn1.grow.trans hg2
  refine RL.p rfl rfl ?_
  refine RL.done ?_
  first | refine RK.condD rfl (fun h10 => ?_) (fun h10 => ?_) | refine RK.condN rfl (fun h10 => ?_) (fun h10 => ?_) | refine RK.cond rfl (fun h10 => ?_) (fun h10 => ?_)
  · refine RK.seq ?_
    refine RK.region ?_
    refine RL.p rfl rfl ?_
    refine RL.done ?_
    refine RK.ret_of Tryz.func157 (res1 rfl rfl) ?_ _
    exact ⟨_, rfl, congrArg _ (by simp at h10; unfold holdsM; rw [h10]; rfl), hg02⟩
  · have his : isM m = true := by simpa using h10
    have hk := isM_kind his
    refine RK.skip ?_
    refine RK.seq ?_
    refine RK.region ?_
    refine RL.p rfl rfl ?_
    refine RL.q (.free rfl) rfl rfl (Yld.fieldAddr fo135_1 rfl) ?_
    refine RL.q (.free rfl) rfl rfl (Yld.load p9 rfl (at1 ((hB1.mod hg2 (fun h => h)).cell rfl))) ?_
    refine RL.op (.free rfl) rfl rfl (Does.call rfl e198 (labelsGet_ok M ls _ m.name _ (hv.mod (Mod.any' hg02)))) ?_
    rintro _ w3 ⟨rfl, hg3⟩
    have hB3 := (hB1.mod hg2 (fun h => h)).mod hg3 (fun h => h)
    have hg03 := hg02.trans hg3
    refine RL.p rfl rfl ?_
    refine RL.done ?_
    iterate 2 refine RK.seq ?_
    refine RK.region ?_
    refine RL.q (.free rfl) rfl rfl (Yld.fieldAddr fo135_0 rfl) ?_
    refine RL.q (.free rfl) rfl rfl (Yld.load p3 rfl (at1 (hB3.cell rfl))) ?_
    refine RL.done ?_
    refine RK.block ?_
    refine RK.seq ?_
    refine RK.region ?_
    iterate 2 refine RL.p rfl rfl ?_
    refine RL.done ?_
    first | refine RK.condD rfl (fun h17 => ?_) (fun h17 => ?_) | refine RK.condN rfl (fun h17 => ?_) (fun h17 => ?_) | refine RK.cond rfl (fun h17 => ?_) (fun h17 => ?_)
    · have hnl : largeM m = false := large_no2 (by unfold likeS; simp; omega)
      refine RK.seq ?_
      refine RK.region ?_
      refine RL.p rfl rfl ?_
      refine RL.q (.free rfl) rfl rfl (Yld.fieldAddr fo135_2 rfl) ?_
      refine RL.q (.free rfl) rfl rfl (Yld.load p9 rfl (at1 (hB3.cell rfl))) ?_
      iterate 2 refine RL.p rfl rfl ?_
      refine RL.done ?_
      refine RK.ret_of Tryz.func157 (res1 rfl rfl) ?_ _
      exact ⟨_, rfl, congrArg _ (by unfold holdsM; rw [his, hnl, if_pos h17]; rfl), hg03⟩
    · refine RK.seq ?_
      refine RK.region ?_
      iterate 2 refine RL.p rfl rfl ?_
      refine RL.done ?_
      first | refine RK.condD rfl (fun h23 => ?_) (fun h23 => ?_) | refine RK.condN rfl (fun h23 => ?_) (fun h23 => ?_) | refine RK.cond rfl (fun h23 => ?_) (fun h23 => ?_)
      · have hnl : largeM m = false := large_no2 (by unfold likeS; simp; omega)
        refine RK.seq ?_
        refine RK.region ?_
        refine RL.p rfl rfl ?_
        refine RL.q (.free rfl) rfl rfl (Yld.fieldAddr fo135_2 rfl) ?_
        refine RL.q (.free rfl) rfl rfl (Yld.load p9 rfl (at1 (hB3.cell rfl))) ?_
        iterate 2 refine RL.p rfl rfl ?_
        refine RL.done ?_
        refine RK.ret_of Tryz.func157 (res1 rfl rfl) ?_ _
        exact ⟨_, rfl, congrArg _ (by unfold holdsM; rw [his, hnl, if_neg h17, if_pos h23]; rfl), hg03⟩
      · have hl : likeS m = true := by unfold likeS; simp; omega
        have hlg := large_yes his hl
        refine RK.skip ?_
        refine RK.inBlock ?_
        refine RK.seq ?_
        refine RK.region ?_
        refine RL.q (.free rfl) rfl rfl (Yld.loadN (cs := [.int .i64 m.kind, .string m.name, .string m.value]) a135 rfl (atN (blk0' hB3))) ?_
        refine RL.op (.free rfl) rfl rfl (Does.call rfl e211 (program_ok m (isM_pat his hl) _)) ?_
        rintro _ w4 ⟨⟨v4, rfl, hrow⟩, hg4⟩
        have hB4 := hB3.mod hg4 (fun h => h)
        have hg04 := hg03.trans hg4
        iterate 5 refine RL.p rfl rfl ?_
        refine RL.done ?_
        refine RK.seq ?_
        refine RK.drawM No [(0, false), (1, false), (2, false), (3, false), (5, false), (6, false), (7, false), (4, true), (8, false), (9, false), (10, false)] [] mixed (by kernel_rfl) ?_
        iterate 2 refine DL.p rfl rfl rfl ?_
        first | refine DL.splitD (d := 35) rfl rfl (fun h34 => ?_) (fun h34 => ?_) | refine DL.splitN (d := 35) rfl rfl (fun h34 => ?_) (fun h34 => ?_) | refine DL.split (d := 35) rfl rfl (fun h34 => ?_) (fun h34 => ?_)
        · obtain ⟨x, hx, hsz, hr⟩ := hrow h34
          obtain ⟨ad4, c4, rfl, hc4⟩ := hr.cap
          have hnl : largeM m = false := by rw [hlg, h34]; rfl
          have htk : takesS m.value (getL ls m.name) = takes x (getL ls m.name) := by unfold takesS; rw [hx]
          iterate 2 refine DL.qf rfl (.yes rfl rfl rfl) rfl rfl (Yld.pure rfl) ?_
          refine DL.qf rfl (.yes rfl rfl rfl) rfl rfl (Yld.fieldAddr fo135_0 rfl) ?_
          refine DL.q rfl (.yes rfl rfl rfl) rfl rfl rfl (Yld.load p3 rfl (atM (hB4.cell rfl) (fun h => h))) (Mod.drew _ _) ?_
          refine DL.qf rfl (.yes rfl rfl rfl) rfl rfl (Yld.pure rfl) ?_
          refine DL.op rfl (.yes rfl rfl rfl) rfl rfl (Does.call rfl e212 (scanMatch_ok x (parse_tr hx) hsz _ (getL ls m.name) (by omega) _ ((Sl.own hr (fun _ _ h => h)).mod (Mod.drew _ _)) ⟨ad4, c4, rfl, hc4⟩)) ?_
          rintro _ w5 ⟨rfl, hg5⟩
          have hgd : Grow w4 w5 := (Mod.drew _ _).trans hg5
          refine ⟨hgd, ?_⟩
          refine DL.qf rfl (.yes rfl rfl rfl) rfl rfl (Yld.eqBool u4 rfl rfl) ?_
          iterate 2 refine DL.p rfl rfl rfl ?_
          refine DL.done ?_
          refine RK.ret_of Tryz.func157 (res1 rfl rfl) ?_ _
          exact ⟨_, rfl, congrArg _ (by
              unfold holdsM
              rw [his, hnl, if_neg h17, if_neg h23, htk]
              cases takes x (getL ls m.name) <;> simp), hg04.trans hgd⟩
        · have hnl : largeM m = true := by rw [hlg, h34]; rfl
          iterate 5 refine DL.no rfl (.no rfl rfl rfl rfl) rfl rfl ?_
          refine DL.lno rfl (.no rfl rfl rfl rfl) rfl rfl ?_
          refine DL.no rfl (.no rfl rfl rfl rfl) rfl rfl ?_
          iterate 2 refine DL.p rfl rfl rfl ?_
          refine DL.done ?_
          refine RK.ret_of Tryz.func157 (res1 rfl rfl) ?_ _
          exact ⟨_, rfl, congrArg _ (by unfold holdsM; rw [his, hnl]; rfl), hg04.trans (Mod.drew _ _)⟩
end Go.Proofs.YthbjfhhiajihfaaGreat
set_option linter.unusedVariables false
set_option linter.unusedSimpArgs false
set_option maxHeartbeats 1000000
set_option maxRecDepth 100000
namespace Go.Proofs.YthbjfhhiajihfaaGreat
open Go Go.X Go.Rex
@[irreducible] def aheadM (x y : Mt) : Bool := if x.name ≠ y.name then slt x.name y.name else if x.kind ≠ y.kind then decide (x.kind < y.kind) else slt x.value y.value
theorem allOne_mts (xs : List Mt) : ((xs.flatMap mtC).all fun x => x.oneCell') = true := by
  rw [List.all_eq_true]
  intro u hu
  obtain ⟨x, _, hx⟩ := List.mem_flatMap.1 hu
  simp only [mtC, List.mem_cons, List.not_mem_nil, or_false] at hx
  rcases hx with rfl | rfl | rfl <;> rfl
end Go.Proofs.YthbjfhhiajihfaaGreat
