/- What the claim stands on, part 4. Of own lemmas only those that it reaches. -/
import Derived.Test.YthbjfhhiajihfaaGreatKv3
set_option linter.unusedVariables false
set_option linter.unusedSimpArgs false
set_option maxHeartbeats 1000000
set_option maxRecDepth 100000
namespace Go.Proofs.YthbjfhhiajihfaaGreat
open Go Go.X Go.Rex
abbrev SlS (M : Nat → Prop) (w : World) (v : Value) (P : List Stp) : Prop := Sl M w v 7 P.length (P.flatMap stC)
theorem check1_ok (P : List Stp) (s : Stp) (hw : W4 s.set) (hs : okS P.length s) (v : Value) (b1 : Nat) (w : World) (hv : SlS No w v P) (hb : Blk w b1 254 [v]) :
    Fx Tryz.prog 286 [stV s, pp b1] w (fun u w' => u = .bool false ∧ Grow w w') := by
  obtain ⟨ad, c, rfl⟩ := hv.shape
  refine enter Tryz.func286 rfl rfl rfl _ (Pick.sub (l := [0, 1]) (.cons rfl (.cons rfl .nil))) ?_
  refine RK.seq ?_
  refine RK.region ?_
  refine RL.op (.free rfl) rfl rfl (Does.box rfl) ?_
  rintro _ w2 ⟨b2, rfl, hn2⟩
  refine RL.p rfl rfl ?_
  refine RL.done ?_
  refine RK.seq ?_
  refine RK.region ?_
  refine RL.q (.free rfl) rfl rfl (Yld.loadN (cs := stC s) a301 rfl (atN (blk0' hn2.blk))) ?_
  refine RL.q (.free rfl) rfl rfl (Yld.load p254 rfl (at1 ((hb.mod hn2.grow (fun h => h)).cell rfl))) ?_
  refine RL.q (.free rfl) rfl rfl (Yld.lenSl u254 rfl) ?_
  refine RL.op (.free rfl) rfl rfl (Does.call rfl e287 (right_ok P.length s false hw (.inl ⟨rfl, hs⟩) _)) ?_
  rintro _ w3 ⟨rfl, hg3⟩
  iterate 2 refine RL.p rfl rfl ?_
  refine RL.done ?_
  refine RK.ret_of Tryz.func286 (res1 rfl rfl) ?_ _
  exact ⟨_, rfl, rfl, hn2.grow.trans hg3⟩
theorem checkI_ok (P : List Stp) (hP : OkP P) (ad : Option Addr) (c : Nat) (b1 : Nat) (w : World) (hv : SlS No w (.slice ad P.length c) P) (hb : Blk w b1 254 [.slice ad P.length c]) :
    Fx Tryz.prog 304 [.slice ad (P.length - 1) c, .func (.func 286) #[] #[pp b1]] w (fun u w' => u = .int .i64 (-1) ∧ Grow w w') := by
  have hle := hP.le
  refine enter Tryz.func304 rfl rfl rfl _ (Pick.sub (l := [0, 1]) (.cons rfl (.cons rfl .nil))) ?_
  refine RK.seq ?_
  refine RK.region ?_
  refine RL.p rfl rfl ?_
  refine RL.done ?_
  iterate 2 refine RK.seq ?_
  refine RK.region ?_
  refine RL.p rfl rfl ?_
  refine RL.q (.free rfl) rfl rfl (Yld.lenSl u254 rfl) ?_
  refine RL.p rfl rfl ?_
  refine RL.done ?_
  refine RK.block ?_
  refine RK.loop (fun k : Nat => [(0, .slice ad (P.length - 1) c), (1, .func (.func 286) #[] #[pp b1]), (7, .int .i64 ((P.length - 1 : Nat) : Int)), (8, .int .i64 k)]) (fun k w' => Grow w w' ∧ k ≤ P.length - 1) (fun k => P.length - 1 - k) 0 ⟨rfl, rfl, rfl, rfl, trivial⟩ ⟨Mod.refl _ _, by omega⟩ (fun k w' hI ih => ?_)
  obtain ⟨hg, hk⟩ := hI
  refine RK.seq ?_
  refine RK.region ?_
  refine RL.p rfl rfl ?_
  refine RL.done ?_
  refine RK.seq ?_
  first | refine RK.condD rfl (fun h9 => ?_) (fun h9 => ?_) | refine RK.condN rfl (fun h9 => ?_) (fun h9 => ?_) | refine RK.cond rfl (fun h9 => ?_) (fun h9 => ?_)
  · obtain ⟨s, hs⟩ : ∃ s, P[k]? = some s := ⟨P[k]'(by omega), List.getElem?_eq_getElem (by omega)⟩
    obtain ⟨hw4, hok⟩ := hP.at_ k s hs
    have hok' : okS P.length s := by rcases hok with ⟨_, h1⟩ | ⟨h1, _⟩; exact h1; omega
    obtain ⟨b2, o2, c2, he, _, _, hcl⟩ := hv.elem stC_len hs
    cases he
    refine RK.skip ?_
    refine RK.seq ?_
    refine RK.block ?_
    refine RK.seq ?_
    refine RK.region ?_
    iterate 2 refine RL.p rfl rfl ?_
    refine RL.done ?_
    refine RK.seq ?_
    refine RK.region ?_
    iterate 3 refine RL.p rfl rfl ?_
    refine RL.q (.free rfl) rfl rfl (Yld.indexAddrN u254 i301 rfl rfl (by omega)) ?_
    refine RL.q (.free rfl) rfl rfl (Yld.loadN (cs := stC s) a301 rfl (atN (fun j u hj => hg.cell (hcl j u hj) (fun h => h)))) ?_
    refine RL.op (.free rfl) rfl rfl (Does.callv rfl rfl e286 (check1_ok P s hw4 hok' _ b1 _ (hv.mod hg) (hb.mod hg (fun h => h)))) ?_
    rintro _ w2 ⟨rfl, hg2⟩
    refine RL.done ?_
    refine RK.condF (hcF rfl (rfl)) ?_
    refine RK.skip ?_
    refine RK.inBlock ?_
    refine RK.region ?_
    refine RL.p rfl rfl ?_
    refine RL.re (d := 18) rfl rfl (succ_i64 (by omega)) ?_
    refine RL.p rfl rfl ?_
    refine RL.done ?_
    exact RK.back (ih (k + 1) _ ⟨hg.trans hg2, by omega⟩ (by omega)) ⟨rfl, rfl, rfl, rfl, trivial⟩
  · refine RK.exit rfl ?_
    refine RK.seq ?_
    refine RK.region ?_
    refine RL.p rfl rfl ?_
    refine RL.done ?_
    refine RK.ret_of Tryz.func304 (res1 rfl rfl) ?_ _
    exact ⟨_, rfl, rfl, hg⟩
theorem checkC_ok (P : List Stp) (hP : OkP P) (ad : Option Addr) (c : Nat) (b1 : Nat) (w : World) (hv : SlS No w (.slice ad P.length c) P) (hb : Blk w b1 254 [.slice ad P.length c]) :
    Fx Tryz.prog 285 [.slice ad (P.length - 1) c, .func (.func 286) #[] #[pp b1]] w (fun u w' => u = .bool false ∧ Grow w w') := by
  refine enter Tryz.func285 rfl rfl rfl _ (Pick.sub (l := [0, 1]) (.cons rfl (.cons rfl .nil))) ?_
  refine RK.seq ?_
  refine RK.region ?_
  refine RL.p rfl rfl ?_
  refine RL.done ?_
  refine RK.seq ?_
  refine RK.region ?_
  iterate 2 refine RL.p rfl rfl ?_
  refine RL.op (.free rfl) rfl rfl (Does.call rfl e304 (checkI_ok P hP ad c b1 _ hv hb)) ?_
  rintro _ w2 ⟨rfl, hg2⟩
  iterate 2 refine RL.p rfl rfl ?_
  refine RL.done ?_
  refine RK.ret_of Tryz.func285 (res1 rfl rfl) ?_ _
  exact ⟨_, rfl, rfl, hg2⟩
theorem check_ok (P : List Stp) (hP : OkP P) (ad : Option Addr) (c : Nat) (hc : P.length ≤ c) (w : World) (hv : SlS No w (.slice ad P.length c) P) :
    Fx Tryz.prog 258 [.slice ad P.length c] w (fun u w' => u = .bool true ∧ Grow w w') := by
  have hle := hP.le
  have h1 := hP.one
  obtain ⟨s, hs⟩ : ∃ s, P[P.length - 1]? = some s := ⟨P[P.length - 1]'(by omega), List.getElem?_eq_getElem (by omega)⟩
  obtain ⟨hw4, hok⟩ := hP.at_ _ s hs
  have hok' : s = matchS := by rcases hok with ⟨h1, _⟩ | ⟨_, h1⟩; omega; exact h1
  obtain ⟨b2, o2, c2, he, _, _, hcl⟩ := hv.elem stC_len hs
  cases he
  refine enter Tryz.func258 rfl rfl rfl _ (Pick.sub (l := [0]) (.cons rfl .nil)) ?_
  refine RK.seq ?_
  refine RK.region ?_
  refine RL.op (.free rfl) rfl rfl (Does.box rfl) ?_
  rintro _ w1 ⟨b1, rfl, hn1⟩
  have hB1 := hn1.blk
  refine RL.p rfl rfl ?_
  refine RL.done ?_
  iterate 2 refine RK.seq ?_
  refine RK.region ?_
  refine RL.q (.free rfl) rfl rfl (Yld.load p254 rfl (at1 (hB1.cell rfl))) ?_
  refine RL.q (.free rfl) rfl rfl (Yld.lenSl u254 rfl) ?_
  iterate 2 refine RL.p rfl rfl ?_
  refine RL.knownF (d := 7) rfl rfl (decide_eq_false (by omega)) ?_
  refine RL.q (.yes rfl rfl rfl) rfl rfl (Yld.load p254 rfl (at1 (hB1.cell rfl))) ?_
  refine RL.q (.yes rfl rfl rfl) rfl rfl (Yld.lenSl u254 rfl) ?_
  refine RL.q (.yes rfl rfl rfl) rfl rfl (Yld.pure rfl) ?_
  refine RL.p rfl rfl ?_
  refine RL.done ?_
  refine RK.condF (hcF rfl (decide_eq_false (by omega))) ?_
  refine RK.skip ?_
  refine RK.seq ?_
  refine RK.region ?_
  refine RL.q (.free rfl) rfl rfl (Yld.load p254 rfl (at1 (hB1.cell rfl))) ?_
  refine RL.q (.free rfl) rfl rfl (Yld.lenSl u254 rfl) ?_
  refine RL.p rfl rfl ?_
  refine RL.re (d := 14) rfl rfl (sub_i64 (z := ((P.length - 1 : Nat) : Int)) (by omega) (by omega) (by omega)) ?_
  refine RL.p rfl rfl ?_
  refine RL.done ?_
  refine RK.seq ?_
  refine RK.drawM No [(0, false), (1, false), (2, false), (3, false), (4, true), (5, false), (6, false), (7, false), (8, false), (9, false), (10, false), (11, false), (12, false), (13, true), (14, false), (15, false)] [] mixed (by kernel_rfl) ?_
  refine DL.q rfl (.free rfl) rfl rfl rfl (Yld.load p254 rfl (atM (hB1.cell rfl) (fun h => h))) (Mod.drew _ _) ?_
  refine DL.p rfl rfl rfl ?_
  refine DL.qf rfl (.free rfl) rfl rfl (Yld.sliceHi u254 i301 (m := P.length - 1) rfl rfl (by omega)) ?_
  refine DL.p rfl rfl rfl ?_
  refine DL.op rfl (.free rfl) rfl rfl (Does.call rfl e285 (checkC_ok P hP _ c b1 _ (hv.mod (hn1.grow.trans (Mod.drew _ _))) (hB1.mod (Mod.drew No _) (fun h => h)))) ?_
  rintro _ w2 ⟨rfl, hg2⟩
  have hgd : Grow w1 w2 := (Mod.drew _ _).trans hg2
  refine ⟨hgd, ?_⟩
  iterate 2 refine DL.p rfl rfl rfl ?_
  refine DL.knownT (d := 21) rfl rfl (rfl) ?_
  refine DL.q rfl (.yes rfl rfl rfl) rfl rfl rfl (Yld.load p254 rfl (atM (hB1.cell rfl) (fun h => h))) (hgd) ?_
  refine DL.qf rfl (.yes rfl rfl rfl) rfl rfl (Yld.pure rfl) ?_
  refine DL.qf rfl (.yes rfl rfl rfl) rfl rfl (Yld.indexAddrN u254 i301 rfl rfl (by omega)) ?_
  refine DL.q rfl (.yes rfl rfl rfl) rfl rfl rfl (Yld.loadN (cs := stC s) a301 rfl (atNM (fun j u hj => (hn1.grow).cell (hcl j u hj) (fun h => h)) (fun h => h))) (hgd) ?_
  refine DL.q rfl (.yes rfl rfl rfl) rfl rfl rfl (Yld.load p254 rfl (atM (hB1.cell rfl) (fun h => h))) (hgd) ?_
  refine DL.q rfl (.yes rfl rfl rfl) rfl rfl rfl (Yld.lenSl u254 rfl) (hgd) ?_
  refine DL.op rfl (.yes rfl rfl rfl) rfl rfl (Does.call rfl e287 (right_ok P.length s true hw4 (.inr ⟨rfl, hok'⟩) _)) ?_
  rintro _ w3 ⟨rfl, hg3⟩
  refine ⟨hgd.trans hg3, ?_⟩
  iterate 2 refine DL.p rfl rfl rfl ?_
  refine DL.done ?_
  refine RK.ret_of Tryz.func258 (res1 rfl rfl) ?_ _
  exact ⟨_, rfl, rfl, (hn1.grow.trans hgd).trans hg3⟩
theorem lt64 {a b : Nat} (ha : a < 18446744073709551616) (hb : b < 18446744073709551616) : a ||| b < 18446744073709551616 := Nat.or_lt_two_pow (n := 64) ha hb
theorem sh64 {c : Nat} (hc : c < 64) : 1 <<< c < 18446744073709551616 := by
  rw [Nat.shiftLeft_eq, Nat.one_mul]; exact Nat.pow_lt_pow_right (m := c) (n := 64) (by omega) hc
theorem shr64 {a : Nat} (ha : a < 18446744073709551616) (c : Nat) : a >>> c < 18446744073709551616 := Nat.lt_of_le_of_lt (Nat.shiftRight_le a c) ha
abbrev PU (w : World) (bp been : Nat) : Prop := Blk w bp 66 [.int .u64 (been : Int)]
theorem come_ok (P : List Stp) (hP : OkP P) (v : Value) (bp : Nat) : ∀ (m at_ been : Nat), miss P.length been ≤ m → at_ < P.length → been < 18446744073709551616 → ∀ w, SlS (· = bp) w v P → PU w bp been → Fx Tryz.prog 288 [v, .int .i64 (at_ : Int), pp bp] w (fun u w' => ∃ r b' : Nat, u = .int .u64 (r : Int) ∧ r < 18446744073709551616 ∧ b' < 18446744073709551616 ∧ Come P at_ been r b' ∧ PU w' bp b' ∧ Mod (· = bp) w w') := by
  intro m
  induction m with
  | zero =>
    intro at_ been hm hat hbe w hv hb
    have hat2 : been.testBit at_ = true := by
      cases hbt : been.testBit at_ with
      | true => rfl
      | false =>
        have := miss_lt (n := P.length) (been := been) (b' := been ||| 1 <<< at_) hat hbt (fun v hv => bit_or.2 (.inl hv)) (bit_or.2 (.inr rfl))
        omega
    have hle := hP.le
    refine enter Tryz.func288 rfl rfl rfl _ (Pick.sub (l := [0, 1, 2]) (.cons rfl (.cons rfl (.cons rfl .nil)))) ?_
    refine RK.seq ?_
    refine RK.region ?_
    refine RL.p rfl rfl ?_
    refine RL.done ?_
    iterate 2 refine RK.seq ?_
    refine RK.region ?_
    iterate 2 refine RL.p rfl rfl ?_
    refine RL.q (.free rfl) rfl rfl (Yld.load p66 rfl (at1 (hb.cell rfl))) ?_
    refine RL.p rfl rfl ?_
    refine RL.q (.free rfl) rfl rfl (Yld.shr rfl rfl (by simp [IntKind.bits]; omega)) ?_
    refine RL.p rfl rfl ?_
    refine RL.re (d := 13) rfl rfl (congrArg (Value.int .u64) (Go.X.u64_and (b := 1) (shr64 hbe at_) (by decide))) ?_
    refine RL.p rfl rfl ?_
    refine RL.done ?_
    refine RK.condT (hcT rfl (decide_eq_true ((bit1I been at_).2 hat2))) ?_
    refine RK.seq ?_
    refine RK.region ?_
    refine RL.p rfl rfl ?_
    refine RL.done ?_
    refine RK.ret_of Tryz.func288 (res1 rfl rfl) ?_ _
    exact ⟨_, rfl, 0, been, rfl, by omega, hbe, Come.there hat2, hb, Mod.refl _ _⟩
  | succ m ihm =>
    intro at_ been hm hat hbe w hv hb
    have hle := hP.le
    obtain ⟨s, hs⟩ : ∃ s, P[at_]? = some s := ⟨P[at_]'hat, List.getElem?_eq_getElem hat⟩
    obtain ⟨hw4, hok⟩ := hP.at_ at_ s hs
    obtain ⟨b2, o2, c2, rfl, hb2, _, hcl⟩ := hv.elem stC_len hs
    obtain ⟨op, t, sa, sb⟩ := s
    obtain ⟨x0, x1, x2, x3, rfl⟩ := W4.four hw4
    refine enter Tryz.func288 rfl rfl rfl _ (Pick.sub (l := [0, 1, 2]) (.cons rfl (.cons rfl (.cons rfl .nil)))) ?_
    refine RK.seq ?_
    refine RK.region ?_
    refine RL.p rfl rfl ?_
    refine RL.done ?_
    iterate 2 refine RK.seq ?_
    refine RK.region ?_
    iterate 2 refine RL.p rfl rfl ?_
    refine RL.q (.free rfl) rfl rfl (Yld.load p66 rfl (at1 (hb.cell rfl))) ?_
    refine RL.p rfl rfl ?_
    refine RL.q (.free rfl) rfl rfl (Yld.shr rfl rfl (by simp [IntKind.bits]; omega)) ?_
    refine RL.p rfl rfl ?_
    refine RL.re (d := 13) rfl rfl (congrArg (Value.int .u64) (Go.X.u64_and (b := 1) (shr64 hbe at_) (by decide))) ?_
    refine RL.p rfl rfl ?_
    refine RL.done ?_
    first | refine RK.condD rfl (fun h14 => ?_) (fun h14 => ?_) | refine RK.condN rfl (fun h14 => ?_) (fun h14 => ?_) | refine RK.cond rfl (fun h14 => ?_) (fun h14 => ?_)
    · refine RK.seq ?_
      refine RK.region ?_
      refine RL.p rfl rfl ?_
      refine RL.done ?_
      refine RK.ret_of Tryz.func288 (res1 rfl rfl) ?_ _
      exact ⟨_, rfl, 0, been, rfl, by omega, hbe, Come.there ((bit1I been at_).1 h14), hb, Mod.refl _ _⟩
    · have hbt : been.testBit at_ = false := by
          cases hx : been.testBit at_ with
          | false => rfl
          | true => exact absurd ((bit1I been at_).2 hx) h14
      have hlt := miss_lt (n := P.length) (been := been) (b' := been ||| 1 <<< at_) hat hbt (fun v hv => bit_or.2 (.inl hv)) (bit_or.2 (.inr rfl))
      have hsh := sh64 (c := at_) (by omega)
      have hbe1 := lt64 hbe hsh
      refine RK.skip ?_
      refine RK.seq ?_
      refine RK.drawM (· = bp) [(0, false), (1, false), (3, false), (4, false), (2, true), (5, false), (6, false), (7, true)] [7] mixed (by kernel_rfl) ?_
      iterate 3 refine DL.p rfl rfl rfl ?_
      refine DL.qf rfl (.free rfl) rfl rfl (Yld.shl (a := 1) rfl rfl (by simp [IntKind.bits]; omega)) ?_
      refine DL.re (d := 19) rfl rfl (congrArg (Value.int .u64) (Go.X.wrap_u64 hsh)) ?_
      refine DL.lq rfl (.free rfl) rfl rfl (Yld.load p66 rfl (at1 (hb.cell rfl))) ?_
      refine DL.p rfl rfl rfl ?_
      refine DL.re (d := 20) rfl rfl (congrArg (Value.int .u64) (Go.X.u64_or hbe hsh)) ?_
      refine DL.p rfl rfl rfl ?_
      refine DL.opT rfl (.free rfl) rfl rfl (Does.store i66 rfl rfl rfl hb (.z)) ?_
      rintro _ w1 ⟨hb1, hm1, _⟩
      have hm01 : Mod (· = bp) w w1 := (Mod.drew _ _).trans hm1
      have hb1' : PU w1 bp (been ||| 1 <<< at_) := hb1
      have hv1 := hv.mod hm01
      refine DL.done ?_
      iterate 2 refine RK.seq ?_
      refine RK.region ?_
      iterate 2 refine RL.p rfl rfl ?_
      refine RL.q (.free rfl) rfl rfl (Yld.indexAddrN u254 i301 rfl rfl (hat)) ?_
      refine RL.q (.free rfl) rfl rfl (Yld.loadN (cs := stC ⟨op, [x0, x1, x2, x3], sa, sb⟩) a301 rfl (atN (fun j u hj => hm01.cell (hcl j u hj) hb2))) ?_
      refine RL.op (.free rfl) rfl rfl (Does.alloc i301) ?_
      rintro _ w2 ⟨b7, rfl, hn7⟩
      have hbpl := hb.lt
      have hs01 := hm01.size
      have hb7 := hn7.at_
      have hb7p : ¬ b7 = bp := by omega
      refine RL.op' (.free rfl) rfl (Does.storeN i301 rfl rfl rfl rfl hn7.blk (Nat.le_refl 7)) ?_
      rintro _ w3 ⟨hb3, hm3, _⟩
      have hB3 : Blk w3 b7 301 [.int .i64 (op : Int), .int .u64 (x0 : Int), .int .u64 (x1 : Int), .int .u64 (x2 : Int), .int .u64 (x3 : Int), .int .i64 (sa : Int), .int .i64 (sb : Int)] := hb3
      have hg3 : Grow w1 w3 := hn7.grow.then hm3 (fun y hy e => by have e' : y = b7 := e; omega)
      have hb3' := hb1'.mod hg3 (fun h => h)
      have hv3 := hv1.mod (Mod.any' hg3)
      have hm03 : Mod (· = bp) w w3 := hm01.trans (Mod.any' hg3)
      refine RL.done ?_
      refine RK.seq ?_
      refine RK.region ?_
      refine RL.q (.free rfl) rfl rfl (Yld.fieldAddr fo301_0 rfl) ?_
      refine RL.q (.free rfl) rfl rfl (Yld.load p3 rfl (at1 (hB3.cell rfl))) ?_
      refine RL.done ?_
      refine RK.block ?_
      refine RK.seq ?_
      refine RK.region ?_
      iterate 2 refine RL.p rfl rfl ?_
      refine RL.done ?_
      first | refine RK.condD rfl (fun h28 => ?_) (fun h28 => ?_) | refine RK.condN rfl (fun h28 => ?_) (fun h28 => ?_) | refine RK.cond rfl (fun h28 => ?_) (fun h28 => ?_)
      · have ho : op = 2 := by omega
        subst ho
        have hab : sa < P.length ∧ sb < P.length := by
            rcases hok with ⟨_, h1⟩ | ⟨_, h1⟩
            · rcases h1 with ⟨h2, _⟩ | ⟨_, h2, h3, _⟩ | ⟨h2, _⟩
              · cases h2
              · exact ⟨h2, h3⟩
              · cases h2
            · cases h1
        refine RK.seq ?_
        refine RK.drawM (· = bp) [(0, false), (1, false), (2, false), (3, false), (5, false), (6, false), (7, false), (8, false), (4, true), (9, true), (10, false), (11, false)] [] mixed (by kernel_rfl) ?_
        refine DL.p rfl rfl rfl ?_
        refine DL.qf rfl (.free rfl) rfl rfl (Yld.fieldAddr fo301_2 rfl) ?_
        refine DL.q rfl (.free rfl) rfl rfl rfl (Yld.load p3 rfl (atM (hB3.cell rfl) (hb7p))) (Mod.drew _ _) ?_
        iterate 2 refine DL.p rfl rfl rfl ?_
        refine DL.qf rfl (.free rfl) rfl rfl (Yld.fieldAddr fo301_3 rfl) ?_
        refine DL.q rfl (.free rfl) rfl rfl rfl (Yld.load p3 rfl (atM (hB3.cell rfl) (hb7p))) (Mod.drew _ _) ?_
        refine DL.p rfl rfl rfl ?_
        refine DL.op rfl (.free rfl) rfl rfl (Does.call rfl e288 (ihm sa (been ||| 1 <<< at_) (by omega) hab.1 hbe1 _ (hv3.mod (Mod.drew _ _)) (hb3'.mod (Mod.drew No _) (fun h => h)))) ?_
        rintro _ w4 ⟨r1, b1, rfl, hr1, hb1l, hc1, hb4, hm4⟩
        have hm34 : Mod (· = bp) w3 w4 := (Mod.drew _ _).trans hm4
        refine ⟨hm34, ?_⟩
        have hlt2 := miss_lt (n := P.length) (been := been) (b' := b1) hat hbt (fun v hv => hc1.sub v (bit_or.2 (.inl hv))) (hc1.sub _ (bit_or.2 (.inr rfl)))
        refine DL.op rfl (.free rfl) rfl rfl (Does.call rfl e288 (ihm sb b1 (by omega) hab.2 hb1l _ (hv3.mod hm34) hb4)) ?_
        rintro _ w5 ⟨r2, b5, rfl, hr2, hb5l, hc2, hb5, hm5⟩
        refine ⟨hm34.trans hm5, ?_⟩
        refine DL.p rfl rfl rfl ?_
        refine DL.re (d := 40) rfl rfl (congrArg (Value.int .u64) (Go.X.u64_or hr1 hr2)) ?_
        refine DL.p rfl rfl rfl ?_
        refine DL.done ?_
        refine RK.ret_of Tryz.func288 (res1 rfl rfl) ?_ _
        exact ⟨_, rfl, r1 ||| r2, b5, rfl, lt64 hr1 hr2, hb5l, Come.split hbt hs rfl hc1 hc2, hb5, (hm03.trans hm34).trans hm5⟩
      · refine RK.seq ?_
        refine RK.region ?_
        iterate 2 refine RL.p rfl rfl ?_
        refine RL.done ?_
        first | refine RK.condD rfl (fun h41 => ?_) (fun h41 => ?_) | refine RK.condN rfl (fun h41 => ?_) (fun h41 => ?_) | refine RK.cond rfl (fun h41 => ?_) (fun h41 => ?_)
        · have ho : op = 3 := by omega
          subst ho
          have hab : sa < P.length := by
              rcases hok with ⟨_, h1⟩ | ⟨_, h1⟩
              · rcases h1 with ⟨h2, _⟩ | ⟨h2, _⟩ | ⟨_, h2, _⟩
                · cases h2
                · cases h2
                · exact h2
              · cases h1
          refine RK.seq ?_
          refine RK.region ?_
          refine RL.p rfl rfl ?_
          refine RL.q (.free rfl) rfl rfl (Yld.fieldAddr fo301_2 rfl) ?_
          refine RL.q (.free rfl) rfl rfl (Yld.load p3 rfl (at1 (hB3.cell rfl))) ?_
          refine RL.p rfl rfl ?_
          refine RL.op (.free rfl) rfl rfl (Does.call rfl e288 (ihm sa (been ||| 1 <<< at_) (by omega) hab hbe1 _ hv3 hb3')) ?_
          rintro _ w4 ⟨r1, b1, rfl, hr1, hb1l, hc1, hb4, hm4⟩
          refine RL.p rfl rfl ?_
          refine RL.done ?_
          refine RK.ret_of Tryz.func288 (res1 rfl rfl) ?_ _
          exact ⟨_, rfl, r1, b1, rfl, hr1, hb1l, Come.jump hbt hs rfl hc1, hb4, hm03.trans hm4⟩
        · refine RK.skip ?_
          refine RK.inBlock ?_
          refine RK.seq ?_
          refine RK.region ?_
          refine RL.p rfl rfl ?_
          refine RL.q (.free rfl) rfl rfl (Yld.shl (a := 1) rfl rfl (by simp [IntKind.bits]; omega)) ?_
          refine RL.re (d := 49) rfl rfl (congrArg (Value.int .u64) (Go.X.wrap_u64 hsh)) ?_
          refine RL.p rfl rfl ?_
          refine RL.done ?_
          refine RK.ret_of Tryz.func288 (res1 rfl rfl) ?_ _
          exact ⟨_, rfl, 1 <<< at_, been ||| 1 <<< at_, rfl, hsh, hbe1, Come.leaf hbt ⟨_, hs, by show op ≠ 2; omega, by show op ≠ 3; omega⟩, hb3', hm03⟩
theorem start_ok (P : List Stp) (hP : OkP P) (H : List Nat → Nat → Prop) (v : Value) (w : World) (hv : SlS No w v P) : Fx Tryz.prog 259 [v] w (fun u w' => ∃ r : Nat, u = .int .u64 (r : Int) ∧ r < 18446744073709551616 ∧ Now P H 0 r ∧ Grow w w') := by
  have h1 := hP.one
  refine enter Tryz.func259 rfl rfl rfl _ (Pick.sub (l := [0]) (.cons rfl .nil)) ?_
  refine RK.seq ?_
  refine RK.region ?_
  refine RL.p rfl rfl ?_
  refine RL.done ?_
  refine RK.seq ?_
  refine RK.region ?_
  refine RL.op (.free rfl) rfl rfl (Does.alloc i66) ?_
  rintro _ w1 ⟨b3, rfl, hn3⟩
  refine RL.op' (.free rfl) rfl (Does.store i66 rfl rfl rfl hn3.blk (.z)) ?_
  rintro _ w2 ⟨hb2, hm2, _⟩
  have hb3 := hn3.at_
  have hg2 : Grow w w2 := hn3.grow.then hm2 (fun y hy e => by have e' : y = b3 := e; omega)
  refine RL.done ?_
  refine RK.seq ?_
  refine RK.region ?_
  refine RL.p rfl rfl ?_
  refine RL.op (.free rfl) rfl rfl (Does.call rfl e288 (come_ok P hP v b3 _ 0 0 (Nat.le_refl _) h1 (by omega) _ (hv.pass (by omega) hg2 (fun b e => .inr (by have e' : b = b3 := e; omega))) hb2)) ?_
  rintro _ w3 ⟨r, b', rfl, hr, hb', hc, hb3', hm3⟩
  refine RL.p rfl rfl ?_
  refine RL.done ?_
  refine RK.ret_of Tryz.func259 (res1 rfl rfl) ?_ _
  exact ⟨_, rfl, r, rfl, hr, Now.start hc, hg2.then hm3 (fun y hy e => by have e' : y = b3 := e; omega)⟩
end Go.Proofs.YthbjfhhiajihfaaGreat
set_option linter.unusedVariables false
set_option linter.unusedSimpArgs false
set_option maxHeartbeats 1000000
set_option maxRecDepth 100000
namespace Go.Proofs.YthbjfhhiajihfaaGreat
open Go Go.X Go.Rex
theorem next_steps (P : List Stp) (hP : OkP P) (H : List Nat → Nat → Prop) (kk m c : Nat) (hc : c < 256) (hm : m < 18446744073709551616) (hH : ∀ t, H t kk ↔ inB t c = true) (hnow : Now P H kk m) (v : Value) (w : World) (hv : SlS No w v P) : Fx Tryz.prog 260 [v, .int .u64 (m : Int), .int .u8 (c : Int)] w (fun u w' => ∃ r : Nat, u = .int .u64 (r : Int) ∧ r < 18446744073709551616 ∧ Now P H (kk + 1) r ∧ Grow w w') := by
  have hle := hP.le
  obtain ⟨ad, cp, rfl⟩ := hv.shape
  have e1 : IntKind.u8.wrap ((c : Int).tdiv 64) = ((c / 64 : Nat) : Int) := by
    have e2 : (c : Int).tdiv 64 = ((c / 64 : Nat) : Int) := by rw [Int.tdiv_eq_ediv_of_nonneg (by omega)]; omega
    rw [e2]; exact Go.X.wrap_u8 (by omega)
  have e3 : (c : Int).tmod 64 = ((c % 64 : Nat) : Int) := by rw [Int.tmod_eq_emod_of_nonneg (by omega)]; omega
  refine enter Tryz.func260 rfl rfl rfl _ (Pick.sub (l := [0, 1, 2]) (.cons rfl (.cons rfl (.cons rfl .nil)))) ?_
  refine RK.seq ?_
  refine RK.region ?_
  refine RL.p rfl rfl ?_
  refine RL.done ?_
  refine RK.seq ?_
  refine RK.region ?_
  refine RL.op (.free rfl) rfl rfl (Does.alloc i66) ?_
  rintro _ w1 ⟨b7, rfl, hn7⟩
  refine RL.op' (.free rfl) rfl (Does.store i66 rfl rfl rfl hn7.blk (.z)) ?_
  rintro _ w2 ⟨hb2, hm2, _⟩
  have hb7 := hn7.at_
  have hg2 : Grow w w2 := hn7.grow.then hm2 (fun y hy e => by have e' : y = b7 := e; omega)
  have hv2 : SlS (· = b7) w2 (.slice ad P.length cp) P := hv.pass (by omega) hg2 (fun b e => .inr (by have e' : b = b7 := e; omega))
  refine RL.p rfl rfl ?_
  refine RL.done ?_
  iterate 2 refine RK.seq ?_
  refine RK.region ?_
  refine RL.p rfl rfl ?_
  refine RL.q (.free rfl) rfl rfl (Yld.lenSl u254 rfl) ?_
  refine RL.p rfl rfl ?_
  refine RL.done ?_
  refine RK.block ?_
  refine RK.loop (fun s : Nat × Nat × Nat => [(0, .slice ad P.length cp), (1, .int .u64 (m : Int)), (2, .int .u8 (c : Int)), (7, pp b7), (8, .int .u64 (s.2.2 : Int)), (11, .slice ad P.length cp), (12, .int .i64 (P.length : Int)), (13, .int .i64 (s.1 : Int))]) (fun s w' => s.1 ≤ P.length ∧ PU w' b7 s.2.1 ∧ s.2.1 < 18446744073709551616 ∧ s.2.2 < 18446744073709551616 ∧ NextI P H m kk s.1 s.2.1 s.2.2 ∧ Mod (· = b7) w2 w') (fun s => P.length - s.1) (0, 0, 0) ⟨rfl, rfl, rfl, rfl, rfl, rfl, rfl, rfl, trivial⟩ ⟨by simp, hb2, by simp, by simp, NextI.zero, Mod.refl _ _⟩ (fun s w3 hI ih => ?_)
  obtain ⟨i, been, to⟩ := s
  obtain ⟨hi, hb3, hbe, hto, hN, hm3⟩ := hI
  simp only at hi hb3 hbe hto hN
  refine RK.seq ?_
  refine RK.region ?_
  refine RL.p rfl rfl ?_
  refine RL.done ?_
  refine RK.seq ?_
  first | refine RK.condD rfl (fun h14 => ?_) (fun h14 => ?_) | refine RK.condN rfl (fun h14 => ?_) (fun h14 => ?_) | refine RK.cond rfl (fun h14 => ?_) (fun h14 => ?_)
  · have hil : i < P.length := by simp only at h14; omega
    obtain ⟨s, hs⟩ : ∃ s, P[i]? = some s := ⟨P[i]'hil, List.getElem?_eq_getElem hil⟩
    obtain ⟨hw4, hok⟩ := hP.at_ i s hs
    obtain ⟨b2, o2, c2, he, hb2n, _, hcl⟩ := hv2.elem stC_len hs
    cases he
    obtain ⟨op, t, sa, sb⟩ := s
    obtain ⟨x0, x1, x2, x3, hte⟩ := W4.four hw4
    simp only at hte
    subst hte
    refine RK.skip ?_
    refine RK.seq ?_
    refine RK.block ?_
    refine RK.seq ?_
    refine RK.region ?_
    refine RL.p rfl rfl ?_
    refine RL.q (.free rfl) rfl rfl (Yld.indexAddrN u254 i301 rfl rfl (hil)) ?_
    refine RL.q (.free rfl) rfl rfl (Yld.loadN (cs := stC ⟨op, [x0, x1, x2, x3], sa, sb⟩) a301 rfl (atN (fun j u hj => hm3.cell (hcl j u hj) hb2n))) ?_
    refine RL.op (.free rfl) rfl rfl (Does.alloc i301) ?_
    rintro _ w4 ⟨b10, rfl, hn10⟩
    refine RL.p rfl rfl ?_
    refine RL.op' (.free rfl) rfl (Does.storeN i301 rfl rfl rfl rfl hn10.blk (Nat.le_refl 7)) ?_
    rintro _ w5 ⟨hb5, hm5, _⟩
    have hb7l := hb3.lt
    have hb10 := hn10.at_
    have hB5 : Blk w5 b10 301 [.int .i64 (op : Int), .int .u64 (x0 : Int), .int .u64 (x1 : Int), .int .u64 (x2 : Int), .int .u64 (x3 : Int), .int .i64 (sa : Int), .int .i64 (sb : Int)] := hb5
    have hg5 : Grow w3 w5 := hn10.grow.then hm5 (fun y hy e => by have e' : y = b10 := e; omega)
    have hb5' := hb3.mod hg5 (fun h => h)
    have hm25 : Mod (· = b7) w2 w5 := hm3.trans (Mod.any' hg5)
    obtain ⟨y, hy⟩ : ∃ y, [x0, x1, x2, x3][c / 64]? = some y := ⟨_, List.getElem?_eq_getElem (by show c / 64 < 4; omega)⟩
    have hyl := hw4.2 y (List.mem_of_getElem? hy)
    have hcy : w5.cell? ⟨b10, 0 + 1 + c / 64 * 1, none⟩ = some (.int .u64 (y : Int)) := by
        rw [Nat.mul_one]; exact blk_set4s hB5 (c / 64) _ (by rw [List.getElem?_map, hy]; rfl)
    have hin : inB [x0, x1, x2, x3] c = y.testBit (c % 64) := by unfold inB; rw [hy]; rfl
    refine RL.done ?_
    refine RK.seq ?_
    refine RK.region ?_
    iterate 2 refine RL.p rfl rfl ?_
    refine RL.q (.free rfl) rfl rfl (Yld.shr rfl rfl (by simp [IntKind.bits]; omega)) ?_
    refine RL.p rfl rfl ?_
    refine RL.re (d := 21) rfl rfl (congrArg (Value.int .u64) (Go.X.u64_and (b := 1) (shr64 hm i) (by decide))) ?_
    iterate 2 refine RL.p rfl rfl ?_
    first | refine RL.splitD (d := 23) rfl rfl (fun h23 => ?_) (fun h23 => ?_) | refine RL.splitN (d := 23) rfl rfl (fun h23 => ?_) (fun h23 => ?_) | refine RL.split (d := 23) rfl rfl (fun h23 => ?_) (fun h23 => ?_)
    · have hbit := (bit1I m i).1 h23
      refine RL.q (.yes rfl rfl rfl) rfl rfl (Yld.fieldAddr fo301_0 rfl) ?_
      refine RL.q (.yes rfl rfl rfl) rfl rfl (Yld.load p3 rfl (at1 (hB5.cell rfl))) ?_
      refine RL.q (.yes rfl rfl rfl) rfl rfl (Yld.pure rfl) ?_
      iterate 2 refine RL.p rfl rfl ?_
      first | refine RL.splitD (d := 28) rfl rfl (fun h28 => ?_) (fun h28 => ?_) | refine RL.splitN (d := 28) rfl rfl (fun h28 => ?_) (fun h28 => ?_) | refine RL.split (d := 28) rfl rfl (fun h28 => ?_) (fun h28 => ?_)
      · have ho : op = 1 := by have h := h28; omega
        subst ho
        have hil1 : i + 1 < P.length := by
            rcases hok with ⟨h1, _⟩ | ⟨_, h1⟩
            · exact h1
            · cases h1
        refine RL.q (.yes rfl rfl rfl) rfl rfl (Yld.pure rfl) ?_
        refine RL.q (.yes rfl rfl rfl) rfl rfl (Yld.quo rfl rfl (by omega)) ?_
        refine RL.re (d := 30) rfl rfl (congrArg (Value.int .u8) e1) ?_
        refine RL.q (.yes rfl rfl rfl) rfl rfl (Yld.fieldAddr fo301_1 rfl) ?_
        refine RL.q (.yes rfl rfl rfl) rfl rfl (Yld.indexArr Tryz.underlying221 i66 rfl rfl (by omega)) ?_
        refine RL.q (.yes rfl rfl rfl) rfl rfl (Yld.load p66 rfl (at1 (hcy))) ?_
        refine RL.q (.yes rfl rfl rfl) rfl rfl (Yld.pure rfl) ?_
        refine RL.q (.yes rfl rfl rfl) rfl rfl (Yld.rem rfl rfl (by omega)) ?_
        refine RL.re (d := 35) rfl rfl (congrArg (Value.int .u8) e3) ?_
        refine RL.q (.yes rfl rfl rfl) rfl rfl (Yld.shr rfl rfl (by simp [IntKind.bits]; omega)) ?_
        refine RL.q (.yes rfl rfl rfl) rfl rfl (Yld.pure rfl) ?_
        refine RL.re (d := 37) rfl rfl (congrArg (Value.int .u64) (Go.X.u64_and (b := 1) (shr64 hyl (c % 64)) (by decide))) ?_
        refine RL.q (.yes rfl rfl rfl) rfl rfl (Yld.pure rfl) ?_
        refine RL.p rfl rfl ?_
        refine RL.done ?_
        first | refine RK.condD rfl (fun h39 => ?_) (fun h39 => ?_) | refine RK.condN rfl (fun h39 => ?_) (fun h39 => ?_) | refine RK.cond rfl (fun h39 => ?_) (fun h39 => ?_)
        · have hin1 := hin.trans ((bit1I y (c % 64)).1 h39)
          refine RK.region ?_
          iterate 4 refine RL.p rfl rfl ?_
          refine RL.re (d := 43) rfl rfl (succ_i64 (by omega)) ?_
          refine RL.op (.free rfl) rfl rfl (Does.call rfl e288 (come_ok P hP _ b7 _ (i + 1) been (Nat.le_refl _) hil1 hbe _ (hv2.mod hm25) hb5')) ?_
          rintro _ w6 ⟨r, b', rfl, hr, hb', hcome, hb6, hm6⟩
          refine RL.p rfl rfl ?_
          refine RL.re (d := 45) rfl rfl (congrArg (Value.int .u64) (Go.X.u64_or hto hr)) ?_
          refine RL.p rfl rfl ?_
          refine RL.done ?_
          refine RK.inBlock ?_
          refine RK.region ?_
          refine RL.p rfl rfl ?_
          refine RL.re (d := 46) rfl rfl (succ_i64 (by omega)) ?_
          refine RL.p rfl rfl ?_
          refine RL.done ?_
          exact RK.back (ih (i + 1, b', to ||| r) _ ⟨by simp only; omega, hb6, hb', lt64 hto hr, hN.yes hbit hs rfl ((hH _).2 hin1) hcome, hm25.trans hm6⟩ (by simp only; omega)) ⟨rfl, rfl, rfl, rfl, rfl, rfl, rfl, rfl, trivial⟩
        · refine RK.skip ?_
          refine RK.inBlock ?_
          refine RK.region ?_
          refine RL.p rfl rfl ?_
          refine RL.re (d := 46) rfl rfl (succ_i64 (by omega)) ?_
          refine RL.p rfl rfl ?_
          refine RL.done ?_
          exact RK.back (ih (i + 1, been, to) _ ⟨by simp only; omega, hb5', hbe, hto, hN.no fun st h1 h2 h3 h4 => by
              rw [hs] at h2; cases h2
              have h5 := (hH _).1 h4
              rw [hin] at h5
              exact h39 ((bit1I y (c % 64)).2 h5)
            , hm25⟩ (by simp only; omega)) ⟨rfl, rfl, rfl, rfl, rfl, rfl, rfl, rfl, trivial⟩
      · iterate 10 refine RL.no (.no rfl rfl rfl rfl) rfl rfl ?_
        refine RL.p rfl rfl ?_
        refine RL.done ?_
        refine RK.condF (hcF rfl (rfl)) ?_
        refine RK.skip ?_
        refine RK.inBlock ?_
        refine RK.region ?_
        refine RL.p rfl rfl ?_
        refine RL.re (d := 46) rfl rfl (succ_i64 (by omega)) ?_
        refine RL.p rfl rfl ?_
        refine RL.done ?_
        exact RK.back (ih (i + 1, been, to) _ ⟨by simp only; omega, hb5', hbe, hto, hN.no fun st h1 h2 h3 h4 => by
            rw [hs] at h2; cases h2
            have h := h28; simp only at h3; omega
          , hm25⟩ (by simp only; omega)) ⟨rfl, rfl, rfl, rfl, rfl, rfl, rfl, rfl, trivial⟩
    · iterate 3 refine RL.no (.no rfl rfl rfl rfl) rfl rfl ?_
      iterate 2 refine RL.p rfl rfl ?_
      iterate 10 refine RL.no (.no rfl rfl rfl rfl) rfl rfl ?_
      refine RL.p rfl rfl ?_
      refine RL.done ?_
      refine RK.condF (hcF rfl (rfl)) ?_
      refine RK.skip ?_
      refine RK.inBlock ?_
      refine RK.region ?_
      refine RL.p rfl rfl ?_
      refine RL.re (d := 46) rfl rfl (succ_i64 (by omega)) ?_
      refine RL.p rfl rfl ?_
      refine RL.done ?_
      exact RK.back (ih (i + 1, been, to) _ ⟨by simp only; omega, hb5', hbe, hto, hN.no fun st h1 h2 h3 h4 => h23 ((bit1I m i).2 h1), hm25⟩ (by simp only; omega)) ⟨rfl, rfl, rfl, rfl, rfl, rfl, rfl, rfl, trivial⟩
  · have hie : i = P.length := by simp only at h14; omega
    subst hie
    refine RK.exit rfl ?_
    refine RK.seq ?_
    refine RK.region ?_
    iterate 2 refine RL.p rfl rfl ?_
    refine RL.done ?_
    refine RK.ret_of Tryz.func260 (res1 rfl rfl) ?_ _
    exact ⟨_, rfl, to, rfl, hto, hnow.next hN, hg2.then hm3 (fun y hy e => by have e' : y = b7 := e; omega)⟩
theorem scanMatch_ok (x : Rx) (ht : Tr false x) (hsz : sz x + 1 ≤ 40) (v : Value) (s : ByteArray) (hs : s.size ≤ 9223372036854775806) (w : World) (hv : SlS No w v (whole x)) (hcap : ∃ ad c, v = .slice ad (whole x).length c ∧ (whole x).length ≤ c) : Fx Tryz.prog 212 [v, .string s] w (fun u w' => u = .bool (takes x s) ∧ Grow w w') := by
  have hP := whole_ok ht hsz
  have hw := tr_wf x false ht
  obtain ⟨P, hPe⟩ : ∃ P, whole x = P := ⟨_, rfl⟩
  have hle := hP.le
  rw [hPe] at hP hv hcap hle
  obtain ⟨ad, cp, rfl, hc⟩ := hcap
  have hend : ∀ k m, Now P (HS s) k m → ((∃ c st, m.testBit c = true ∧ P[c]? = some st ∧ st.op = 4) ↔ Lg (HS s) x true 0 k) := fun k m hm => by rw [← hPe] at hm ⊢; exact whole_match hw.1 hw.2.1 hm
  refine enter Tryz.func212 rfl rfl rfl _ (Pick.sub (l := [0, 1]) (.cons rfl (.cons rfl .nil))) ?_
  refine RK.seq ?_
  refine RK.region ?_
  refine RL.p rfl rfl ?_
  refine RL.done ?_
  iterate 2 refine RK.seq ?_
  refine RK.region ?_
  refine RL.p rfl rfl ?_
  refine RL.op (.free rfl) rfl rfl (Does.call rfl e258 (check_ok P hP ad cp hc _ hv)) ?_
  rintro _ w1 ⟨rfl, hg1⟩
  refine RL.p rfl rfl ?_
  refine RL.done ?_
  refine RK.condF (hcF rfl (rfl)) ?_
  refine RK.skip ?_
  refine RK.seq ?_
  refine RK.region ?_
  refine RL.p rfl rfl ?_
  refine RL.op (.free rfl) rfl rfl (Does.call rfl e259 (start_ok P hP (HS s) _ _ (hv.mod hg1))) ?_
  rintro _ w2 ⟨r, rfl, hr, hn0, hg2⟩
  have hg02 := hg1.trans hg2
  refine RL.p rfl rfl ?_
  refine RL.done ?_
  iterate 2 refine RK.seq ?_
  refine RK.region ?_
  refine RL.p rfl rfl ?_
  refine RL.q (.free rfl) rfl rfl (Yld.lenStr u9 rfl) ?_
  refine RL.p rfl rfl ?_
  refine RL.done ?_
  refine RK.block ?_
  refine RK.loop (fun t : Nat × Nat => [(0, .slice ad P.length cp), (1, .string s), (5, .int .u64 (t.2 : Int)), (15, .int .i64 (s.size : Int)), (16, .int .i64 (t.1 : Int))]) (fun t w' => t.1 ≤ s.size ∧ t.2 < 18446744073709551616 ∧ Now P (HS s) t.1 t.2 ∧ Grow w w') (fun t => s.size - t.1) (0, r) ⟨rfl, rfl, rfl, rfl, rfl, trivial⟩ ⟨by simp, hr, hn0, hg02⟩ (fun t w3 hI ih => ?_)
  obtain ⟨k, m⟩ := t
  obtain ⟨hk, hm, hn, hg⟩ := hI
  simp only at hk hm hn
  refine RK.seq ?_
  refine RK.region ?_
  refine RL.p rfl rfl ?_
  refine RL.done ?_
  refine RK.seq ?_
  first | refine RK.condD rfl (fun h17 => ?_) (fun h17 => ?_) | refine RK.condN rfl (fun h17 => ?_) (fun h17 => ?_) | refine RK.cond rfl (fun h17 => ?_) (fun h17 => ?_)
  · have hks : k < s.size := by simp only at h17; omega
    refine RK.skip ?_
    refine RK.seq ?_
    refine RK.block ?_
    refine RK.seq ?_
    refine RK.region ?_
    iterate 2 refine RL.p rfl rfl ?_
    refine RL.done ?_
    refine RK.region ?_
    iterate 4 refine RL.p rfl rfl ?_
    refine RL.q (.free rfl) rfl rfl (Yld.idxStrN u9 rfl rfl (hks)) ?_
    refine RL.op (.free rfl) rfl rfl (Does.call rfl e260 (next_steps P hP (HS s) k m (b8 s k) (b8_lt s k) hm (fun t => ⟨fun h => h.2, fun h => ⟨hks, h⟩⟩) hn _ _ (hv.mod hg))) ?_
    rintro _ w4 ⟨r', rfl, hr', hn', hg4⟩
    refine RL.p rfl rfl ?_
    refine RL.done ?_
    refine RK.inBlock ?_
    refine RK.region ?_
    refine RL.p rfl rfl ?_
    refine RL.re (d := 25) rfl rfl (succ_i64 (by omega)) ?_
    refine RL.p rfl rfl ?_
    refine RL.done ?_
    exact RK.back (ih (k + 1, r') _ ⟨by simp only; omega, hr', hn', hg.trans hg4⟩ (by simp only; omega)) ⟨rfl, rfl, rfl, rfl, rfl, trivial⟩
  · have hke : k = s.size := by simp only at h17; omega
    subst hke
    have he := hend _ _ hn
    refine RK.exit rfl ?_
    iterate 2 refine RK.seq ?_
    refine RK.region ?_
    refine RL.p rfl rfl ?_
    refine RL.q (.free rfl) rfl rfl (Yld.lenSl u254 rfl) ?_
    refine RL.p rfl rfl ?_
    refine RL.done ?_
    refine RK.block ?_
    refine RK.loop (fun i : Nat => [(5, .int .u64 (m : Int)), (26, .slice ad P.length cp), (27, .int .i64 (P.length : Int)), (28, .int .i64 (i : Int))]) (fun i w' => i ≤ P.length ∧ Grow w w' ∧ ∀ c st, c < i → m.testBit c = true → P[c]? = some st → st.op ≠ 4) (fun i => P.length - i) 0 ⟨rfl, rfl, rfl, rfl, trivial⟩ ⟨by omega, hg, fun c st h => by omega⟩ (fun i w4 hI2 ih2 => ?_)
    obtain ⟨hi, hg4, hno⟩ := hI2
    refine RK.seq ?_
    refine RK.region ?_
    refine RL.p rfl rfl ?_
    refine RL.done ?_
    refine RK.seq ?_
    first | refine RK.condD rfl (fun h29 => ?_) (fun h29 => ?_) | refine RK.condN rfl (fun h29 => ?_) (fun h29 => ?_) | refine RK.cond rfl (fun h29 => ?_) (fun h29 => ?_)
    · obtain ⟨st, hst⟩ : ∃ st, P[i]? = some st := ⟨P[i]'(by omega), List.getElem?_eq_getElem (by omega)⟩
      obtain ⟨b2, o2, c2, hce, _, _, hcl⟩ := hv.elem stC_len hst
      cases hce
      refine RK.skip ?_
      refine RK.seq ?_
      refine RK.block ?_
      refine RK.seq ?_
      refine RK.region ?_
      refine RL.p rfl rfl ?_
      refine RL.q (.free rfl) rfl rfl (Yld.indexAddrN u254 i301 rfl rfl (by omega)) ?_
      refine RL.q (.free rfl) rfl rfl (Yld.loadN (cs := stC st) a301 rfl (atN (fun j u hj => hg4.cell (hcl j u hj) (fun h => h)))) ?_
      refine RL.op (.free rfl) rfl rfl (Does.alloc i301) ?_
      rintro _ w5 ⟨b8, rfl, hn8⟩
      refine RL.p rfl rfl ?_
      refine RL.op' (.free rfl) rfl (Does.storeN i301 rfl rfl rfl rfl hn8.blk (Nat.le_refl 7)) ?_
      rintro _ w6 ⟨hb6, hm6, _⟩
      have hB6 : Blk w6 b8 301 (stC st) := hb6
      have hg6 : Grow w4 w6 := hn8.grow.then hm6 (fun y hy e => by have e' : y = b8 := e; have := hn8.at_; omega)
      refine RL.done ?_
      refine RK.seq ?_
      refine RK.region ?_
      iterate 2 refine RL.p rfl rfl ?_
      refine RL.q (.free rfl) rfl rfl (Yld.shr rfl rfl (by simp [IntKind.bits]; omega)) ?_
      refine RL.p rfl rfl ?_
      refine RL.re (d := 36) rfl rfl (congrArg (Value.int .u64) (Go.X.u64_and (b := 1) (shr64 hm i) (by decide))) ?_
      iterate 2 refine RL.p rfl rfl ?_
      first | refine RL.splitD (d := 38) rfl rfl (fun h38 => ?_) (fun h38 => ?_) | refine RL.splitN (d := 38) rfl rfl (fun h38 => ?_) (fun h38 => ?_) | refine RL.split (d := 38) rfl rfl (fun h38 => ?_) (fun h38 => ?_)
      · have hbit := (bit1I m i).1 h38
        refine RL.q (.yes rfl rfl rfl) rfl rfl (Yld.fieldAddr fo301_0 rfl) ?_
        refine RL.q (.yes rfl rfl rfl) rfl rfl (Yld.load p3 rfl (at1 (hB6.cell rfl))) ?_
        refine RL.q (.yes rfl rfl rfl) rfl rfl (Yld.pure rfl) ?_
        refine RL.p rfl rfl ?_
        refine RL.done ?_
        first | refine RK.condD rfl (fun h42 => ?_) (fun h42 => ?_) | refine RK.condN rfl (fun h42 => ?_) (fun h42 => ?_) | refine RK.cond rfl (fun h42 => ?_) (fun h42 => ?_)
        · have ho : st.op = 4 := by have h := h42; omega
          refine RK.seq ?_
          refine RK.region ?_
          refine RL.p rfl rfl ?_
          refine RL.done ?_
          refine RK.ret_of Tryz.func212 (res1 rfl rfl) ?_ _
          exact ⟨_, rfl, congrArg _ ((takes_iff x s).2 (he.1 ⟨i, st, hbit, hst, ho⟩)).symm, hg4.trans hg6⟩
        · refine RK.skip ?_
          refine RK.inBlock ?_
          refine RK.region ?_
          refine RL.p rfl rfl ?_
          refine RL.re (d := 43) rfl rfl (succ_i64 (by omega)) ?_
          refine RL.p rfl rfl ?_
          refine RL.done ?_
          exact RK.back (ih2 (i + 1) _ ⟨by omega, hg4.trans hg6, fun c st' hc h1 h2 h3 => by
              by_cases e : c = i
              · subst e; rw [hst] at h2; cases h2; have h := h42; omega
              · exact hno c st' (by omega) h1 h2 h3⟩ (by omega)) ⟨rfl, rfl, rfl, rfl, trivial⟩
      · iterate 3 refine RL.no (.no rfl rfl rfl rfl) rfl rfl ?_
        refine RL.p rfl rfl ?_
        refine RL.done ?_
        refine RK.condF (hcF rfl (rfl)) ?_
        refine RK.skip ?_
        refine RK.inBlock ?_
        refine RK.region ?_
        refine RL.p rfl rfl ?_
        refine RL.re (d := 43) rfl rfl (succ_i64 (by omega)) ?_
        refine RL.p rfl rfl ?_
        refine RL.done ?_
        exact RK.back (ih2 (i + 1) _ ⟨by omega, hg4.trans hg6, fun c st' hc h1 h2 h3 => by
            by_cases e : c = i
            · subst e; exact h38 ((bit1I m c).2 h1)
            · exact hno c st' (by omega) h1 h2 h3⟩ (by omega)) ⟨rfl, rfl, rfl, rfl, trivial⟩
    · refine RK.exit rfl ?_
      refine RK.seq ?_
      refine RK.region ?_
      refine RL.p rfl rfl ?_
      refine RL.done ?_
      refine RK.ret_of Tryz.func212 (res1 rfl rfl) ?_ _
      exact ⟨_, rfl, congrArg _ (by
          cases hx : takes x s with
          | false => rfl
          | true =>
            obtain ⟨c, st, h1, h2, h3⟩ := he.2 ((takes_iff x s).1 hx)
            exact absurd h3 (hno c st (by have := (List.getElem?_eq_some_iff.1 h2).1; omega) h1 h2)
        ), hg4⟩
end Go.Proofs.YthbjfhhiajihfaaGreat
set_option linter.unusedVariables false
set_option linter.unusedSimpArgs false
namespace Go.X
open Go Go.RowKit
section
variable {P : Program} {n : Nat} {e : Env} {w : World}
end
end Go.X
set_option linter.unusedVariables false
set_option linter.unusedSimpArgs false
set_option maxHeartbeats 400000
set_option maxRecDepth 100000
namespace Go.Proofs.YthbjfhhiajihfaaGreat
open Go Go.X
section
variable {α : Type}
def pos (lt : α → α → Bool) (x : α) (L : List α) : Nat := L.length - (L.reverse.takeWhile (lt x)).length
theorem SetAt.of : ∀ {l : List Value} {i : Nat} {v : Value}, i < l.length → SetAt l i v (l.set i v)
  | u :: l, 0, v, _ => .z
  | u :: l, i + 1, v, h => .s (SetAt.of (by simpa using h))
end
end Go.Proofs.YthbjfhhiajihfaaGreat
set_option linter.unusedVariables false
set_option linter.unusedSimpArgs false
set_option maxHeartbeats 400000
set_option maxRecDepth 100000
namespace Go.Proofs.YthbjfhhiajihfaaGreat
open Go Go.X
end Go.Proofs.YthbjfhhiajihfaaGreat
set_option linter.unusedVariables false
set_option linter.unusedSimpArgs false
set_option maxHeartbeats 400000
set_option maxRecDepth 100000
namespace Go.Proofs.YthbjfhhiajihfaaGreat
open Go Go.X
theorem take_snoc_eq {α : Type} {l1 l2 : List α} {k : Nat} {x : α} (h : l1.take k = l2.take k) (h1 : l1[k]? = some x) (h2 : l2[k]? = some x) : l1.take (k + 1) = l2.take (k + 1) := by
  rw [List.take_add_one, List.take_add_one, h, h1, h2]
theorem sameInts_ok (M : Nat → Prop) (l1 l2 : List Int) (v1 v2 : Value) (w : World) (hv1 : Sl M w v1 1 l1.length (ints l1)) (hv2 : Sl M w v2 1 l2.length (ints l2)) :
    Fx Tryz.prog 23 [v1, v2] w (fun u w' => u = .bool (decide (l1 = l2)) ∧ Grow w w') := by
  obtain ⟨a1, c1, rfl⟩ := hv1.shape
  obtain ⟨a2, c2, rfl⟩ := hv2.shape
  have hbig := hv1.big
  refine enter Tryz.func23 rfl rfl rfl _ (Pick.sub (l := [0, 1]) (.cons rfl (.cons rfl .nil))) ?_
  refine RK.seq ?_
  refine RK.region ?_
  refine RL.p rfl rfl ?_
  refine RL.done ?_
  iterate 2 refine RK.seq ?_
  refine RK.region ?_
  refine RL.p rfl rfl ?_
  refine RL.q (.free rfl) rfl rfl (Yld.lenSl u37 rfl) ?_
  refine RL.p rfl rfl ?_
  refine RL.q (.free rfl) rfl rfl (Yld.lenSl u37 rfl) ?_
  refine RL.p rfl rfl ?_
  refine RL.done ?_
  first | refine RK.condD rfl (fun h10 => ?_) (fun h10 => ?_) | refine RK.condN rfl (fun h10 => ?_) (fun h10 => ?_) | refine RK.cond rfl (fun h10 => ?_) (fun h10 => ?_)
  · refine RK.seq ?_
    refine RK.region ?_
    refine RL.p rfl rfl ?_
    refine RL.done ?_
    refine RK.ret_of Tryz.func23 (res1 rfl rfl) ?_ _
    exact ⟨_, rfl, congrArg _ (by rw [eq_comm, decide_eq_false_iff_not]; rintro rfl; simp at h10), Mod.refl _ _⟩
  · refine RK.skip ?_
    iterate 2 refine RK.seq ?_
    refine RK.region ?_
    refine RL.p rfl rfl ?_
    refine RL.done ?_
    refine RK.block ?_
    refine RK.loop (fun k : Nat => [(0, .slice a1 l1.length c1), (1, .slice a2 l2.length c2), (5, .int .i64 k)]) (fun k w' => Grow w w' ∧ k ≤ l1.length ∧ l1.take k = l2.take k) (fun k => l1.length - k) 0 ⟨rfl, rfl, rfl, trivial⟩ ⟨Mod.refl _ _, by omega, by simp⟩ (fun k w' hI ih => ?_)
    obtain ⟨hg, hk, htk⟩ := hI
    have hl : l1.length = l2.length := by simp at h10; omega
    iterate 2 refine RK.seq ?_
    refine RK.region ?_
    iterate 2 refine RL.p rfl rfl ?_
    refine RL.q (.free rfl) rfl rfl (Yld.lenSl u37 rfl) ?_
    refine RL.p rfl rfl ?_
    refine RL.done ?_
    first | refine RK.condD rfl (fun h14 => ?_) (fun h14 => ?_) | refine RK.condN rfl (fun h14 => ?_) (fun h14 => ?_) | refine RK.cond rfl (fun h14 => ?_) (fun h14 => ?_)
    · obtain ⟨x, hx⟩ : ∃ x, l1[k]? = some x := ⟨l1[k]'(by omega), List.getElem?_eq_getElem (by omega)⟩
      obtain ⟨y, hy⟩ : ∃ y, l2[k]? = some y := ⟨l2[k]'(by omega), List.getElem?_eq_getElem (by omega)⟩
      obtain ⟨b1, o1, c1', he1, _, _, hc1⟩ := hv1.elem1 (k := k) (u := .int .i64 x) (by simp [hx])
      obtain ⟨b2, o2, c2', he2, _, _, hc2⟩ := hv2.elem1 (k := k) (u := .int .i64 y) (by simp [hy])
      cases he1
      cases he2
      refine RK.skip ?_
      refine RK.seq ?_
      refine RK.block ?_
      refine RK.seq ?_
      refine RK.drawM No [(0, false), (1, false), (2, false), (3, false), (4, false), (5, false), (6, false), (7, false), (8, false)] [] mixed (by kernel_rfl) ?_
      iterate 2 refine DL.p rfl rfl rfl ?_
      refine DL.qf rfl (.free rfl) rfl rfl (Yld.indexAddrN u37 i3 rfl rfl (by omega)) ?_
      refine DL.q rfl (.free rfl) rfl rfl rfl (Yld.load p3 rfl (atM (hg.cell (hc1 k (.int .i64 x) (by simp [hx])) (fun h => h)) (id))) (Mod.drew _ _) ?_
      iterate 2 refine DL.p rfl rfl rfl ?_
      refine DL.qf rfl (.free rfl) rfl rfl (Yld.indexAddrN u37 i3 rfl rfl (by omega)) ?_
      refine DL.q rfl (.free rfl) rfl rfl rfl (Yld.load p3 rfl (atM (hg.cell (hc2 k (.int .i64 y) (by simp [hy])) (fun h => h)) (id))) (Mod.drew _ _) ?_
      refine DL.p rfl rfl rfl ?_
      refine DL.done ?_
      first | refine RK.condD rfl (fun h25 => ?_) (fun h25 => ?_) | refine RK.condN rfl (fun h25 => ?_) (fun h25 => ?_) | refine RK.cond rfl (fun h25 => ?_) (fun h25 => ?_)
      · refine RK.seq ?_
        refine RK.region ?_
        refine RL.p rfl rfl ?_
        refine RL.done ?_
        refine RK.ret_of Tryz.func23 (res1 rfl rfl) ?_ _
        exact ⟨_, rfl, congrArg _ (by rw [eq_comm, decide_eq_false_iff_not]; rintro rfl; rw [hx] at hy; cases hy; simp at h25), hg.trans (Mod.drew _ _)⟩
      · refine RK.skip ?_
        refine RK.inBlock ?_
        refine RK.region ?_
        iterate 2 refine RL.p rfl rfl ?_
        refine RL.re (d := 16) rfl rfl (succ_i64 (by omega)) ?_
        refine RL.p rfl rfl ?_
        refine RL.done ?_
        exact RK.back (ih (k + 1) _ ⟨hg.trans (Mod.drew _ _), by omega, take_snoc_eq htk hx (by
            have : x = y := by simpa using h25
            rw [this]; exact hy)⟩ (by omega)) ⟨rfl, rfl, rfl, trivial⟩
    · refine RK.exit rfl ?_
      refine RK.seq ?_
      refine RK.region ?_
      refine RL.p rfl rfl ?_
      refine RL.done ?_
      refine RK.ret_of Tryz.func23 (res1 rfl rfl) ?_ _
      exact ⟨_, rfl, congrArg _ (by
          have e1 : k = l1.length := by omega
          have h1 : l1.take k = l1 := List.take_of_length_le (by omega)
          have h2 : l2.take k = l2 := List.take_of_length_le (by omega)
          rw [h1, h2] at htk; simp [htk]), hg⟩
structure Al where
  id : Int
  ls : List Lab
  val : Nat
  v : Value
def alC (a : Al) : List Value := [.int .i64 a.id, a.v, .float .f64 a.val]
def findS (l : List (List Lab)) (ls : List Lab) : Option Nat := l.findIdx? fun x => decide (x = ls)
def optI : Option Nat → Int
  | some i => i
  | none => -1
end Go.Proofs.YthbjfhhiajihfaaGreat
set_option linter.unusedVariables false
set_option linter.unusedSimpArgs false
set_option maxHeartbeats 400000
set_option maxRecDepth 100000
namespace Go.Proofs.YthbjfhhiajihfaaGreat
open Go Go.X
abbrev LabK := ByteArray × ByteArray
def labK (x : Lab) : LabK := (x.name, x.value)
end Go.Proofs.YthbjfhhiajihfaaGreat
set_option linter.unusedVariables false
set_option linter.unusedSimpArgs false
set_option maxHeartbeats 400000
set_option maxRecDepth 100000
namespace Go.Proofs.YthbjfhhiajihfaaGreat
open Go Go.X
def addRow1 (id : Int) (r : List (LabK × List Int)) (x : Lab) : List (LabK × List Int) := putM r (labK x) (mkRow ((lookM r (labK x)).getD [] ++ [id]))
def addRows (rows : List (LabK × List Int)) (id : Int) (ls : List Lab) : List (LabK × List Int) := ls.foldl (addRow1 id) rows
end Go.Proofs.YthbjfhhiajihfaaGreat
set_option linter.unusedVariables false
set_option linter.unusedSimpArgs false
set_option maxHeartbeats 400000
set_option maxRecDepth 100000
namespace Go.Proofs.YthbjfhhiajihfaaGreat
open Go Go.X
structure St where
  most : Int
  last : Int
  out : List Int
  al : List (Int × List Lab × Nat)
  has : List (Int × List Lab)
  rows : List (LabK × List Int)
def own (p q ix mh mr : Nat) (vo vl : Value) : Nat → Prop := fun b => b = p ∨ b = q ∨ b = mh ∨ b = mr ∨ vo.ownBlock = some b ∨ vl.ownBlock = some b ∨ b = ix
def capS (m : Int) : Int := if 16 < (if 1 > m then 1 else m) then 16 else if 1 > m then 1 else m
def St.new (m : Int) : St := ⟨capS m, 0, [], [], [], []⟩
end Go.Proofs.YthbjfhhiajihfaaGreat
set_option linter.unusedVariables false
set_option linter.unusedSimpArgs false
set_option maxHeartbeats 400000
set_option maxRecDepth 100000
namespace Go.Proofs.YthbjfhhiajihfaaGreat
open Go Go.X
end Go.Proofs.YthbjfhhiajihfaaGreat
set_option linter.unusedVariables false
set_option linter.unusedSimpArgs false
set_option maxHeartbeats 400000
set_option maxRecDepth 100000
namespace Go.Proofs.YthbjfhhiajihfaaGreat
open Go Go.X
def fullS (most last : Int) (out : List Int) : Bool := decide (most ≤ out.length ∨ last = 2147483647)
structure Ok (s : St) : Prop where
  last0 : 0 ≤ s.last
  last1 : s.last ≤ 2147483647
  most : s.most ≤ 16
  outLe : (s.out.length : Int) ≤ s.most
  alOut : s.al.length = s.out.length
  has : ∀ t ∈ s.has, t.1 ≤ s.last
  rows : ∀ t ∈ s.rows, (t.2.length : Int) ≤ 6 * s.last
  vals : ∀ a ∈ s.al, a.2.2 < 18446744073709551616
def postS (s : St) (ls : List Lab) (val : Nat) : St × Int × Bool × Int :=
  if isS ls = false then (s, 0, false, 1) else
  match findS (s.al.map (·.2.1)) ls with
  | some i => ({ s with al := s.al.modify i fun a => (a.1, a.2.1, canS val) }, ((s.al[i]?).map (·.1)).getD 0, false, 0)
  | none => if fullS s.most s.last s.out then (s, 0, false, 10) else
    ({ most := s.most, last := s.last + 1, out := s.out ++ [s.last + 1], al := s.al ++ [(s.last + 1, ls, canS val)], has := putM s.has (s.last + 1) ls, rows := addRows s.rows (s.last + 1) ls }, s.last + 1, true, 0)
end Go.Proofs.YthbjfhhiajihfaaGreat
set_option linter.unusedVariables false
set_option linter.unusedSimpArgs false
set_option maxHeartbeats 400000
set_option maxRecDepth 100000
namespace Go.Proofs.YthbjfhhiajihfaaGreat
open Go Go.X
end Go.Proofs.YthbjfhhiajihfaaGreat
set_option linter.unusedVariables false
set_option linter.unusedSimpArgs false
set_option maxHeartbeats 400000
set_option maxRecDepth 100000
namespace Go.Proofs.YthbjfhhiajihfaaGreat
open Go Go.X
end Go.Proofs.YthbjfhhiajihfaaGreat
set_option linter.unusedVariables false
set_option linter.unusedSimpArgs false
set_option maxHeartbeats 400000
set_option maxRecDepth 100000
namespace Go.Proofs.YthbjfhhiajihfaaGreat
open Go Go.X
end Go.Proofs.YthbjfhhiajihfaaGreat
set_option linter.unusedVariables false
set_option linter.unusedSimpArgs false
set_option maxHeartbeats 400000
set_option maxRecDepth 100000
namespace Go.Proofs.YthbjfhhiajihfaaGreat
open Go Go.X
abbrev Ris (l : List Int) : Prop := l.Pairwise fun x y => x < y
theorem Ris.nodup {l : List Int} (h : Ris l) : l.Nodup := List.Pairwise.imp (fun h e => by omega) h
theorem ext_ris {l1 l2 : List Int} (h1 : Ris l1) (h2 : Ris l2) (h : ∀ x, x ∈ l1 ↔ x ∈ l2) : l1 = l2 := by
  have hp : l1.Perm l2 := (List.perm_ext_iff_of_nodup h1.nodup h2.nodup).2 h
  exact List.Perm.eq_of_pairwise (le := fun a b => a < b) (fun a b _ _ h1 h2 => by omega) h1 h2 hp
theorem compactUpTo_mem (d : Array Int) : ∀ m, m ≤ d.size → ∀ x, x ∈ Lib.compactUpTo d m ↔ ∃ j, j < m ∧ d[j]! = x := by
  intro m
  induction m with
  | zero => intro _ x; simp [Lib.compactUpTo]
  | succ m ih =>
    intro hm x
    rw [Lib.compactUpTo_succ, List.mem_append, ih (by omega)]
    constructor
    · rintro (⟨j, hj, e⟩ | h)
      · exact ⟨j, by omega, e⟩
      · split at h
        · simp at h; exact ⟨m, by omega, h.symm⟩
        · simp at h
    · rintro ⟨j, hj, e⟩
      by_cases hjm : j = m
      · subst hjm
        cases hk : Lib.keeps d j with
        | true => right; simp [e]
        | false =>
          left
          simp only [Lib.keeps, decide_eq_false_iff_not, not_or, Decidable.not_not] at hk
          exact ⟨j - 1, by omega, by rw [← hk.2]; exact e⟩
      · exact .inl ⟨j, by omega, e⟩
theorem mem_compact (zs : List Int) (x : Int) : x ∈ Lib.compact zs ↔ x ∈ zs := by
  unfold Lib.compact
  rw [compactUpTo_mem _ _ (by simp)]
  constructor
  · rintro ⟨j, hj, e⟩
    have : zs.toArray[j]! = zs[j] := by simp [hj]
    rw [this] at e; subst e; exact List.getElem_mem _
  · intro h
    obtain ⟨j, hj, e⟩ := List.getElem_of_mem h
    exact ⟨j, hj, by simp [hj, e]⟩
theorem compact_ris (zs : List Int) (h : zs.Pairwise fun x y => x ≤ y) : Ris (Lib.compact zs) := by
  unfold Lib.compact
  have key : ∀ m, m ≤ zs.length → Ris (Lib.compactUpTo zs.toArray m) := by
    intro m
    induction m with
    | zero => intro _; simp [Lib.compactUpTo]
    | succ m ih =>
      intro hm
      rw [Lib.compactUpTo_succ]
      refine List.pairwise_append.2 ⟨ih (by omega), by split <;> simp, fun a ha b hb => ?_⟩
      obtain ⟨j, hj, rfl⟩ := (compactUpTo_mem _ m (by simp; omega) a).1 ha
      split at hb
      · rename_i hk
        have hb := List.mem_singleton.1 hb
        subst hb
        simp only [Lib.keeps, decide_eq_true_eq] at hk
        have e1 : ∀ i, (hi : i < zs.length) → zs.toArray[i]! = zs[i] := fun i hi => by simp [hi]
        rcases hk with rfl | hk
        · omega
        · rw [e1 m (by omega), e1 (m - 1) (by omega)] at hk
          rw [e1 j (by omega), e1 m (by omega)]
          have hle := List.pairwise_iff_getElem.1 h
          have h2 := hle (m - 1) m (by omega) (by omega) (by omega)
          by_cases hjm : j = m - 1
          · subst hjm; omega
          · have h3 := hle j (m - 1) (by omega) (by omega) (by omega)
            omega
      · simp at hb
  exact key _ (Nat.le_refl _)
theorem sortI_le (xs : List Int) : (sortI xs).Pairwise fun x y => x ≤ y := by
  have := List.pairwise_mergeSort (le := fun x y : Int => decide (x ≤ y)) (fun a b c h1 h2 => by simp only [decide_eq_true_eq] at *; omega) (fun a b => by simp only [Bool.or_eq_true, decide_eq_true_eq]; omega) xs
  exact this.imp fun h => by simpa using h
theorem mem_mkRow {xs : List Int} {x : Int} : x ∈ mkRow xs ↔ x ∈ xs := by
  unfold mkRow
  rw [mem_compact]
  simp [sortI]
theorem mkRow_ris (xs : List Int) : Ris (mkRow xs) := compact_ris _ (sortI_le xs)
end Go.Proofs.YthbjfhhiajihfaaGreat
set_option linter.unusedVariables false
set_option linter.unusedSimpArgs false
set_option maxHeartbeats 400000
set_option maxRecDepth 100000
namespace Go.Proofs.YthbjfhhiajihfaaGreat
open Go Go.X
def cutRow (row : List Int) (id : Int) : List Int := (mkRow row).filter fun y => decide (y ≠ id)
theorem mem_cutRow {row : List Int} {id x : Int} : x ∈ cutRow row id ↔ x ∈ row ∧ x ≠ id := by simp [cutRow, mem_mkRow]
theorem cutRow_ris (row : List Int) (id : Int) : Ris (cutRow row id) := (mkRow_ris row).sublist List.filter_sublist
def cutRow1 (id : Int) (r : List (LabK × List Int)) (x : Lab) : List (LabK × List Int) :=
  if cutRow ((lookM r (labK x)).getD []) id = [] then cutM (putM r (labK x) (cutRow ((lookM r (labK x)).getD []) id)) (labK x) else putM r (labK x) (cutRow ((lookM r (labK x)).getD []) id)
def dropRows (rows : List (LabK × List Int)) (id : Int) (ls : List Lab) : List (LabK × List Int) := ls.foldl (cutRow1 id) rows
theorem cutRow_le (row : List Int) (id : Int) : (cutRow row id).length ≤ row.length := Nat.le_trans (List.length_filter_le _ _) (mkRow_le row)
theorem mem_cutM' {κ α : Type} [DecidableEq κ] {k : κ} {l : List (κ × α)} {t : κ × α} (h : t ∈ cutM l k) : t ∈ l := (cutM_sub k l).mem h
theorem mkRow_ne {xs : List Int} {x : Int} (h : x ∈ xs) : mkRow xs ≠ [] := fun e => by
  have := mem_mkRow.2 h
  rw [e] at this
  cases this
end Go.Proofs.YthbjfhhiajihfaaGreat
set_option linter.unusedVariables false
set_option linter.unusedSimpArgs false
set_option maxHeartbeats 1000000
set_option maxRecDepth 100000
namespace Go.Proofs.YthbjfhhiajihfaaGreat
open Go Go.X
end Go.Proofs.YthbjfhhiajihfaaGreat
set_option linter.unusedVariables false
set_option linter.unusedSimpArgs false
set_option maxHeartbeats 400000
set_option maxRecDepth 100000
namespace Go.Proofs.YthbjfhhiajihfaaGreat
open Go Go.X
def PredI (w : World) (fv : Value) (p : Int → Bool) : Prop := ∃ g cap, fv = .func (.func g) #[] cap ∧ Go.Proofs.Enters Tryz.prog g ∧ ∀ (n : Int) w', Grow w w' → Fx Tryz.prog g ([.int .i64 n] ++ cap.toList) w' (fun u w'' => u = .bool (p n) ∧ Grow w' w'')
theorem PredI.grow {w w' : World} {fv : Value} {p : Int → Bool} (h : PredI w fv p) (hg : Grow w w') : PredI w' fv p := by
  obtain ⟨g, cap, h1, h2, h3⟩ := h
  exact ⟨g, cap, h1, h2, fun n w'' h => h3 n w'' (hg.trans h)⟩
def ixF (p : Int → Bool) (xs : List Int) : Int := optI (xs.findIdx? p)
theorem indexFuncI_ok (M : Nat → Prop) (xs : List Int) (v fv : Value) (p : Int → Bool) (w : World) (hv : Sl M w v 1 xs.length (ints xs)) (hp : PredI w fv p) :
    Fx Tryz.prog 236 [v, fv] w (fun u w' => u = .int .i64 (ixF p xs) ∧ Grow w w') := by
  obtain ⟨ad, c, rfl⟩ := hv.shape
  obtain ⟨g, cap, rfl, hE, hp⟩ := hp
  have hbig := hv.big
  refine enter Tryz.func236 rfl rfl rfl _ (Pick.sub (l := [0, 1]) (.cons rfl (.cons rfl .nil))) ?_
  refine RK.seq ?_
  refine RK.region ?_
  refine RL.p rfl rfl ?_
  refine RL.done ?_
  iterate 2 refine RK.seq ?_
  refine RK.region ?_
  refine RL.p rfl rfl ?_
  refine RL.q (.free rfl) rfl rfl (Yld.lenSl u37 rfl) ?_
  refine RL.p rfl rfl ?_
  refine RL.done ?_
  refine RK.block ?_
  refine RK.loop (fun k : Nat => [(0, .slice ad xs.length c), (1, .func (.func g) #[] cap), (7, .int .i64 xs.length), (8, .int .i64 k)]) (fun k w' => Grow w w' ∧ k ≤ xs.length ∧ ∀ i a, i < k → xs[i]? = some a → p a = false) (fun k => xs.length - k) 0 ⟨rfl, rfl, rfl, rfl, trivial⟩ ⟨Mod.refl _ _, by omega, fun i a h => by omega⟩ (fun k w' hI ih => ?_)
  obtain ⟨hg, hk, hno⟩ := hI
  refine RK.seq ?_
  refine RK.region ?_
  refine RL.p rfl rfl ?_
  refine RL.done ?_
  refine RK.seq ?_
  first | refine RK.condD rfl (fun h9 => ?_) (fun h9 => ?_) | refine RK.condN rfl (fun h9 => ?_) (fun h9 => ?_) | refine RK.cond rfl (fun h9 => ?_) (fun h9 => ?_)
  · obtain ⟨x, hx⟩ : ∃ x, xs[k]? = some x := ⟨xs[k]'(by omega), List.getElem?_eq_getElem (by omega)⟩
    obtain ⟨b1, o1, c1', he1, _, _, hc1⟩ := hv.elem1 (k := k) (u := .int .i64 x) (by simp [hx])
    cases he1
    refine RK.skip ?_
    refine RK.seq ?_
    refine RK.block ?_
    refine RK.seq ?_
    refine RK.region ?_
    iterate 2 refine RL.p rfl rfl ?_
    refine RL.done ?_
    refine RK.seq ?_
    refine RK.region ?_
    iterate 3 refine RL.p rfl rfl ?_
    refine RL.q (.free rfl) rfl rfl (Yld.indexAddrN u37 i3 rfl rfl (by omega)) ?_
    refine RL.q (.free rfl) rfl rfl (Yld.load p3 rfl (at1 (hg.cell (hc1 k (.int .i64 x) (by simp [hx])) (fun h => h)))) ?_
    refine RL.op (.free rfl) rfl rfl (Does.callv rfl rfl (by assumption) (hp x _ hg)) ?_
    rintro _ w2 ⟨rfl, hg2⟩
    refine RL.done ?_
    first | refine RK.condD rfl (fun h16 => ?_) (fun h16 => ?_) | refine RK.condN rfl (fun h16 => ?_) (fun h16 => ?_) | refine RK.cond rfl (fun h16 => ?_) (fun h16 => ?_)
    · refine RK.seq ?_
      refine RK.region ?_
      iterate 2 refine RL.p rfl rfl ?_
      refine RL.done ?_
      refine RK.ret_of Tryz.func236 (res1 rfl rfl) ?_ _
      exact ⟨_, rfl, congrArg _ (by
          have : xs.findIdx? p = some k := by
            rw [List.findIdx?_eq_some_iff_getElem]
            refine ⟨by omega, ?_, ?_⟩
            · rw [(List.getElem?_eq_some_iff.1 hx).2]; exact h16
            · intro j hj
              simpa using hno j (xs[j]'(by omega)) hj (List.getElem?_eq_getElem (by omega))
          unfold ixF; rw [this]; rfl), hg.trans hg2⟩
    · refine RK.skip ?_
      refine RK.inBlock ?_
      refine RK.region ?_
      refine RL.p rfl rfl ?_
      refine RL.re (d := 18) rfl rfl (succ_i64 (by omega)) ?_
      refine RL.p rfl rfl ?_
      refine RL.done ?_
      exact RK.back (ih (k + 1) _ ⟨hg.trans hg2, by omega, fun i a' hi ha' => by by_cases e : i = k; (subst e; rw [hx] at ha'; cases ha'; exact h16); exact hno i a' (by omega) ha'⟩ (by omega)) ⟨rfl, rfl, rfl, rfl, trivial⟩
  · refine RK.exit rfl ?_
    refine RK.seq ?_
    refine RK.region ?_
    refine RL.p rfl rfl ?_
    refine RL.done ?_
    refine RK.ret_of Tryz.func236 (res1 rfl rfl) ?_ _
    exact ⟨_, rfl, congrArg _ (by
        have : xs.findIdx? p = none := by
          rw [List.findIdx?_eq_none_iff]
          intro x hx
          obtain ⟨i, hi⟩ := List.getElem?_of_mem hx
          have hil := (List.getElem?_eq_some_iff.1 hi).1
          exact hno i x (by omega) hi
        unfold ixF; rw [this]; rfl), hg⟩
def keepI (p : Int → Bool) (xs : List Int) : List Int := xs.filter fun x => !p x
theorem keep_snoc (p : Int → Bool) {xs : List Int} {k : Nat} {x : Int} (hx : xs[k]? = some x) : keepI p (xs.take (k + 1)) = keepI p (xs.take k) ++ (if p x then [] else [x]) := by
  have hk := (List.getElem?_eq_some_iff.1 hx).1
  unfold keepI
  rw [List.take_succ_eq_append_getElem hk, (List.getElem?_eq_some_iff.1 hx).2, List.filter_append]
  cases h : p x <;> simp [h]
theorem set_snoc {cs : List Value} {i : Nat} {ys : List Int} {x : Int} (h : cs.take i = ints ys) (hi : i < cs.length) : (cs.set i (.int .i64 x)).take (i + 1) = ints (ys ++ [x]) := by
  have e : (cs.set i (.int .i64 x)).length = cs.length := List.length_set
  rw [List.take_succ_eq_append_getElem (by omega), List.getElem_set_self]
  have : (cs.set i (Value.int .i64 x)).take i = cs.take i := by
    apply List.ext_getElem?
    intro j
    simp only [List.getElem?_take]
    split
    · rw [List.getElem?_set_ne (by omega)]
    · rfl
  rw [this, h]
  simp [ints]
theorem deleteFuncI_ok (w0 : World) (xs : List Int) (v fv : Value) (p : Int → Bool) (w : World) (hv : Row w 3 1 v xs.length (ints xs)) (hf : Fresh w0.heap.size v) (hg0 : Grow w0 w) (hp : PredI w0 fv p) :
    Fx Tryz.prog 192 [v, fv] w (fun u w' => Row w' 3 1 u (keepI p xs).length (ints (keepI p xs)) ∧ u.ownBlock = v.ownBlock ∧ Mod (fun b => v.ownBlock = some b) w w') := by
  have hcall := indexFuncI_ok No xs v fv p w (Sl.own hv (fun _ _ h => h)) (hp.grow hg0)
  obtain ⟨g, cap, rfl, hE, hp⟩ := hp
  have hbig : xs.length ≤ 9223372036854775807 := (Sl.own (M := No) hv (fun _ _ h => h)).big
  by_cases hn : xs.findIdx? p = none
  · have hix : ixF p xs = -1 := by unfold ixF; rw [hn]; rfl
    rw [hix] at hcall
    have hkeep : keepI p xs = xs := List.filter_eq_self.2 fun x hx => by simp [List.findIdx?_eq_none_iff.1 hn x hx]
    refine enter Tryz.func192 rfl rfl rfl _ (Pick.sub (l := [0, 1]) (.cons rfl (.cons rfl .nil))) ?_
    refine RK.seq ?_
    refine RK.region ?_
    refine RL.p rfl rfl ?_
    refine RL.done ?_
    refine RK.seq ?_
    refine RK.region ?_
    iterate 2 refine RL.p rfl rfl ?_
    refine RL.op (.free rfl) rfl rfl (Does.call rfl e236 (hcall)) ?_
    rintro _ w2 ⟨rfl, hg2⟩
    refine RL.p rfl rfl ?_
    refine RL.done ?_
    iterate 2 refine RK.seq ?_
    refine RK.region ?_
    iterate 2 refine RL.p rfl rfl ?_
    refine RL.done ?_
    refine RK.condT (hcT rfl (decide_eq_true rfl)) ?_
    refine RK.seq ?_
    refine RK.region ?_
    iterate 2 refine RL.p rfl rfl ?_
    refine RL.done ?_
    refine RK.ret_of Tryz.func192 (res1 rfl rfl) ?_ _
    exact ⟨_, rfl, by rw [hkeep]; exact hv.mod hg2 (fun _ _ h => h), rfl, Mod.any' hg2⟩
  · obtain ⟨i0, hi0⟩ : ∃ i, xs.findIdx? p = some i := by cases h : xs.findIdx? p with | none => exact absurd h hn | some i => exact ⟨i, rfl⟩
    have hix : ixF p xs = (i0 : Int) := by unfold ixF; rw [hi0]; rfl
    rw [hix] at hcall
    obtain ⟨hi0l, hpi0, hlt0⟩ := List.findIdx?_eq_some_iff_getElem.1 hi0
    have hx0 : xs[i0]? = some xs[i0] := List.getElem?_eq_getElem hi0l
    have hk0 : keepI p (xs.take i0) = xs.take i0 := List.filter_eq_self.2 fun x hx => by
      obtain ⟨j, hj, rfl⟩ := List.getElem_of_mem hx
      simp at hj
      rw [List.getElem_take]
      simpa using hlt0 j (by omega)
    have hk1 : keepI p (xs.take (i0 + 1)) = xs.take i0 := by rw [keep_snoc p hx0, hk0]; simp [hpi0]
    obtain ⟨gb, cp, cs, rfl, hb, hl, hkc, hcm, htk⟩ := hv.whole (by omega)
    rw [Nat.mul_one] at hl htk
    have hgb : w0.heap.size ≤ gb := hf gb rfl
    refine enter Tryz.func192 rfl rfl rfl _ (Pick.sub (l := [0, 1]) (.cons rfl (.cons rfl .nil))) ?_
    refine RK.seq ?_
    refine RK.region ?_
    refine RL.p rfl rfl ?_
    refine RL.done ?_
    refine RK.seq ?_
    refine RK.region ?_
    iterate 2 refine RL.p rfl rfl ?_
    refine RL.op (.free rfl) rfl rfl (Does.call rfl e236 (hcall)) ?_
    rintro _ w2 ⟨rfl, hg2⟩
    refine RL.p rfl rfl ?_
    refine RL.done ?_
    iterate 2 refine RK.seq ?_
    refine RK.region ?_
    iterate 2 refine RL.p rfl rfl ?_
    refine RL.done ?_
    refine RK.condF (hcF rfl (decide_eq_false (by omega))) ?_
    refine RK.skip ?_
    iterate 2 refine RK.seq ?_
    refine RK.region ?_
    iterate 2 refine RL.p rfl rfl ?_
    refine RL.re (d := 15) rfl rfl (add_i64 (z := ((i0 + 1 : Nat) : Int)) (by simp) (by omega) (by omega)) ?_
    refine RL.p rfl rfl ?_
    refine RL.done ?_
    refine RK.block ?_
    refine RK.loop (fun s : Nat × Nat => [(0, .slice (some ⟨gb, 0, none⟩) xs.length cp), (1, .func (.func g) #[] cap), (5, .int .i64 (s.1 : Int)), (6, .int .i64 (s.2 : Int))]) (fun s w' => Mod (· = gb) w w' ∧ s.1 < s.2 ∧ s.2 ≤ xs.length ∧ s.1 = (keepI p (xs.take s.2)).length ∧ ∃ cs', Blk w' gb 3 cs' ∧ cs'.length = cp ∧ cs'.take s.1 = ints (keepI p (xs.take s.2)) ∧ ∀ t x, s.2 ≤ t → xs[t]? = some x → cs'[t]? = some (.int .i64 x)) (fun s => xs.length - s.2) (i0, i0 + 1) ⟨rfl, rfl, rfl, rfl, trivial⟩ ⟨Mod.any' hg2, by omega, by simp only; omega, by rw [hk1]; simp; omega, cs, hb.mod hg2 (fun h => h), hl, by rw [hk1]; simp only; have := congrArg (List.take i0) htk; rw [List.take_take, Nat.min_eq_left (by omega)] at this; rw [this]; simp [ints, List.map_take], fun t x ht hx => by have hxl := (List.getElem?_eq_some_iff.1 hx).1; have := congrArg (fun l => l[t]?) htk; simp only [List.getElem?_take, if_pos hxl] at this; rw [this]; simp [hx]⟩ (fun s w' hI ih => ?_)
    obtain ⟨i, j⟩ := s
    obtain ⟨hm, hij, hj, hic, cs1, hb1, hl1, ht1, hr1⟩ := hI
    simp only at hm hij hj hic ht1 hr1
    iterate 2 refine RK.seq ?_
    refine RK.region ?_
    iterate 2 refine RL.p rfl rfl ?_
    refine RL.q (.free rfl) rfl rfl (Yld.lenSl u37 rfl) ?_
    refine RL.p rfl rfl ?_
    refine RL.done ?_
    first | refine RK.condD rfl (fun h19 => ?_) (fun h19 => ?_) | refine RK.condN rfl (fun h19 => ?_) (fun h19 => ?_) | refine RK.cond rfl (fun h19 => ?_) (fun h19 => ?_)
    · obtain ⟨x, hx⟩ : ∃ x, xs[j]? = some x := ⟨xs[j]'(by omega), List.getElem?_eq_getElem (by omega)⟩
      have hks := keep_snoc p hx
      refine RK.skip ?_
      refine RK.seq ?_
      refine RK.block ?_
      refine RK.seq ?_
      refine RK.region ?_
      iterate 2 refine RL.p rfl rfl ?_
      refine RL.q (.free rfl) rfl rfl (Yld.indexAddrN u37 i3 rfl rfl (by omega)) ?_
      refine RL.q (.free rfl) rfl rfl (Yld.load p3 rfl (at1 (hb1.at1 (hr1 j x (Nat.le_refl _) hx)))) ?_
      refine RL.p rfl rfl ?_
      refine RL.done ?_
      refine RK.seq ?_
      refine RK.region ?_
      iterate 2 refine RL.p rfl rfl ?_
      refine RL.op (.free rfl) rfl rfl (Does.callv rfl rfl (by assumption) (hp x _ (hg0.then hm (fun b hb e => by have e' : b = gb := e; omega)))) ?_
      rintro _ w3 ⟨rfl, hg3⟩
      have hm3 : Mod (· = gb) w w3 := hm.trans (Mod.any' hg3)
      have hb3 := hb1.mod hg3 (fun h => h)
      refine RL.p rfl rfl ?_
      refine RL.done ?_
      first | refine RK.condD rfl (fun h29 => ?_) (fun h29 => ?_) | refine RK.condN rfl (fun h29 => ?_) (fun h29 => ?_) | refine RK.cond rfl (fun h29 => ?_) (fun h29 => ?_)
      · have hpx : p x = false := by simpa using h29
        refine RK.seq ?_
        refine RK.region ?_
        iterate 3 refine RL.p rfl rfl ?_
        refine RL.q (.free rfl) rfl rfl (Yld.indexAddrN u37 i3 rfl rfl (by omega)) ?_
        refine RL.op' (.free rfl) rfl (Does.store i3 rfl rfl rfl hb3 (SetAt.of (by omega))) ?_
        rintro _ w4 ⟨hb4, hm4, _⟩
        have hil : i < cs1.length := by omega
        have e0 : 0 + i * 1 = i := by omega
        rw [e0] at hb4
        refine RL.done ?_
        refine RK.region ?_
        iterate 2 refine RL.p rfl rfl ?_
        refine RL.re (d := 35) rfl rfl (succ_i64 (by omega)) ?_
        refine RL.p rfl rfl ?_
        refine RL.done ?_
        refine RK.inBlock ?_
        refine RK.region ?_
        iterate 2 refine RL.p rfl rfl ?_
        refine RL.re (d := 21) rfl rfl (succ_i64 (by omega)) ?_
        refine RL.p rfl rfl ?_
        refine RL.done ?_
        exact RK.back (ih (i + 1, j + 1) _ ⟨hm3.trans hm4, by omega, by simp only; omega, by rw [hks, hpx]; simpa using hic, _, hb4, by simpa using hl1, by rw [hks, hpx]; simp only [Bool.false_eq_true, if_false]; exact set_snoc ht1 hil, fun t y ht hy => by rw [List.getElem?_set_ne (by simp only at ht; omega)]; exact hr1 t y (by simp only at ht; omega) hy⟩ (by simp only; omega)) ⟨rfl, rfl, rfl, rfl, trivial⟩
      · have hpx : p x = true := by simpa using h29
        refine RK.skip ?_
        refine RK.inBlock ?_
        refine RK.region ?_
        iterate 2 refine RL.p rfl rfl ?_
        refine RL.re (d := 21) rfl rfl (succ_i64 (by omega)) ?_
        refine RL.p rfl rfl ?_
        refine RL.done ?_
        exact RK.back (ih (i, j + 1) _ ⟨hm3, by omega, by simp only; omega, by rw [hks, hpx]; simpa using hic, cs1, hb3, hl1, by rw [hks, hpx]; simpa using ht1, fun t y ht hy => hr1 t y (by simp only at ht; omega) hy⟩ (by simp only; omega)) ⟨rfl, rfl, rfl, rfl, trivial⟩
    · have ek : xs.take j = xs := List.take_of_length_le (by omega)
      rw [ek] at hic ht1
      refine RK.exit rfl ?_
      refine RK.seq ?_
      refine RK.region ?_
      iterate 2 refine RL.p rfl rfl ?_
      refine RL.q (.free rfl) rfl rfl (Yld.sliceFrom u37 i3 rfl rfl (by omega)) ?_
      refine RL.op' (.free rfl) rfl (Does.clear u37 i3 (cap := cp) (lo := i) (m := xs.length - i) rfl (by simp [Value.cells, Value.oneCell']) rfl hb1 (by rw [Nat.mul_one]; exact hl1) (by omega)) ?_
      rintro _ w5 ⟨⟨cs5, hb5, hl5, ht5⟩, hm5, hs5⟩
      refine RL.done ?_
      refine RK.seq ?_
      refine RK.region ?_
      iterate 2 refine RL.p rfl rfl ?_
      refine RL.q (.free rfl) rfl rfl (Yld.sliceHi u37 i3 rfl rfl (by omega)) ?_
      refine RL.p rfl rfl ?_
      refine RL.done ?_
      refine RK.ret_of Tryz.func192 (res1 rfl rfl) ?_ _
      exact ⟨_, rfl, by have h9 := Row.shut (sz := 1) (k := i) hb5 (by rw [hl5, hl1, Nat.mul_one]) (by omega) hcm; rw [ht5] at h9; rw [Nat.mul_one, ht1] at h9; rw [← hic]; exact h9, rfl, (hm.trans hm5).mono fun b _ e => congrArg some e.symm⟩
theorem kept1_ok (w : World) (b : Nat) (fv : Value) (p : Int → Bool) (hb : Blk w b 172 [fv]) (hp : PredI w fv p) (n : Int) : Fx Tryz.prog 251 [.int .i64 n, pp b] w (fun u w' => u = .bool (!p n) ∧ Grow w w') := by
  obtain ⟨g, cap, rfl, hE, hp⟩ := hp
  refine enter Tryz.func251 rfl rfl rfl _ (Pick.sub (l := [0, 1]) (.cons rfl (.cons rfl .nil))) ?_
  refine RK.seq ?_
  refine RK.region ?_
  refine RL.p rfl rfl ?_
  refine RL.done ?_
  refine RK.seq ?_
  refine RK.region ?_
  refine RL.q (.free rfl) rfl rfl (Yld.load p172 rfl (at1 (hb.cell rfl))) ?_
  refine RL.p rfl rfl ?_
  refine RL.op (.free rfl) rfl rfl (Does.callv rfl rfl (by assumption) (hp n _ (Mod.refl _ _))) ?_
  rintro _ w2 ⟨rfl, hg2⟩
  iterate 2 refine RL.p rfl rfl ?_
  refine RL.done ?_
  refine RK.ret_of Tryz.func251 (res1 rfl rfl) ?_ _
  exact ⟨_, rfl, rfl, hg2⟩
theorem kept_ok (M : Nat → Prop) (xs : List Int) (v fv : Value) (p : Int → Bool) (w : World) (hv : Sl M w v 1 xs.length (ints xs)) (hb : xs.length * 8 ≤ 140737488355328) (hp : PredI w fv p) :
    Fx Tryz.prog 201 [v, fv] w (fun u w' => Row w' 3 1 u ((mkRow xs).filter p).length (ints ((mkRow xs).filter p)) ∧ Fresh w.heap.size u ∧ Grow w w') := by
  obtain ⟨g, cap, rfl, hE, hp0⟩ := id hp
  have he : keepI (fun n => !p n) (mkRow xs) = (mkRow xs).filter p := by unfold keepI; simp
  refine enter Tryz.func201 rfl rfl rfl _ (Pick.sub (l := [0, 1]) (.cons rfl (.cons rfl .nil))) ?_
  refine RK.seq ?_
  refine RK.region ?_
  refine RL.op (.free rfl) rfl rfl (Does.box rfl) ?_
  rintro _ w1 ⟨b1, rfl, hn1⟩
  refine RL.p rfl rfl ?_
  refine RL.done ?_
  refine RK.seq ?_
  refine RK.region ?_
  refine RL.p rfl rfl ?_
  refine RL.op (.free rfl) rfl rfl (Does.call rfl e78 (make_ok No xs v _ (hv.mod (Mod.any' hn1.grow)).noM hb)) ?_
  rintro u2 w2 ⟨hr2, hf2, hg2⟩
  refine RL.p rfl rfl ?_
  refine RL.op (.free rfl) rfl rfl (Does.call rfl e192 (deleteFuncI_ok w1 (mkRow xs) u2 _ (fun n => !p n) _ hr2 hf2 hg2 ⟨_, _, rfl, e251, fun n w' hg => kept1_ok w' b1 _ p (hn1.blk.mod hg (fun h => h)) (hp.grow (hn1.grow.trans hg)) n⟩)) ?_
  rintro u3 w3 ⟨hr3, hu3, hm3⟩
  refine RL.p rfl rfl ?_
  refine RL.done ?_
  refine RK.ret_of Tryz.func201 (res1 rfl rfl) ?_ _
  exact ⟨_, rfl, he ▸ hr3, fun b hb => by rw [hu3] at hb; have := hf2 b hb; have := hn1.grow.size; omega, (hn1.grow.trans hg2).then hm3 (fun x hx e => by have := hf2 x e; have := hn1.grow.size; omega)⟩
theorem contains_ok (M : Nat → Prop) (xs : List Int) (v : Value) (x : Int) (w : World) (hv : Sl M w v 1 xs.length (ints xs)) : Fx Tryz.prog 252 [v, .int .i64 x] w (fun u w' => u = .bool (xs.contains x) ∧ w = w') := by
  obtain ⟨ad, c, b, o, rfl, hf⟩ := hv.open
  by_cases h0 : xs.length = 0
  · have : xs = [] := List.eq_nil_of_length_eq_zero h0
    subst this
    refine Calls.mono (Tryz.slices_Contains_int_empty ad c x w) ?_
    rintro e w' ⟨rfl, rfl⟩
    exact ⟨_, rfl, rfl, rfl⟩
  · obtain ⟨rfl, _, hc⟩ := hf (by omega)
    refine Calls.mono (Tryz.slices_Contains_int b o xs.length c xs x w (Nat.le_refl _) hv.big (fun j hj => hc j _ (by simp [hj]))) ?_
    rintro e w' ⟨rfl, rfl⟩
    exact ⟨_, rfl, by rw [List.take_length], rfl⟩
theorem has_ok (M : Nat → Prop) (xs : List Int) (v : Value) (x : Int) (w : World) (hv : Sl M w v 1 xs.length (ints xs)) : Fx Tryz.prog 203 [v, .int .i64 x] w (fun u w' => u = .bool (xs.contains x) ∧ w = w') := by
  refine enter Tryz.func203 rfl rfl rfl _ (Pick.sub (l := [0, 1]) (.cons rfl (.cons rfl .nil))) ?_
  refine RK.seq ?_
  refine RK.region ?_
  refine RL.p rfl rfl ?_
  refine RL.done ?_
  refine RK.seq ?_
  refine RK.region ?_
  iterate 2 refine RL.p rfl rfl ?_
  refine RL.op (.free rfl) rfl rfl (Does.call rfl e252 (contains_ok M xs v x _ hv)) ?_
  rintro _ _ ⟨rfl, rfl⟩
  refine RL.p rfl rfl ?_
  refine RL.done ?_
  refine RK.ret_of Tryz.func203 (res1 rfl rfl) ?_ _
  exact ⟨_, rfl, rfl, rfl⟩
theorem not1_ok (M : Nat → Prop) (w : World) (b : Nat) (ys : List Int) (vb : Value) (hb : Blk w b 37 [vb]) (hv : Sl M w vb 1 ys.length (ints ys)) (n : Int) : Fx Tryz.prog 202 [.int .i64 n, pp b] w (fun u w' => u = .bool (!ys.contains n) ∧ Grow w w') := by
  refine enter Tryz.func202 rfl rfl rfl _ (Pick.sub (l := [0, 1]) (.cons rfl (.cons rfl .nil))) ?_
  refine RK.seq ?_
  refine RK.region ?_
  refine RL.p rfl rfl ?_
  refine RL.done ?_
  refine RK.seq ?_
  refine RK.region ?_
  refine RL.q (.free rfl) rfl rfl (Yld.load p37 rfl (at1 (hb.cell rfl))) ?_
  refine RL.p rfl rfl ?_
  refine RL.op (.free rfl) rfl rfl (Does.call rfl e203 (has_ok M ys vb n _ hv)) ?_
  rintro _ _ ⟨rfl, rfl⟩
  iterate 2 refine RL.p rfl rfl ?_
  refine RL.done ?_
  refine RK.ret_of Tryz.func202 (res1 rfl rfl) ?_ _
  exact ⟨_, rfl, rfl, Mod.refl _ _⟩
theorem not_ok (M : Nat → Prop) (xs ys : List Int) (va vb : Value) (w : World) (ha : Sl M w va 1 xs.length (ints xs)) (hvb : Sl M w vb 1 ys.length (ints ys)) (hb : xs.length * 8 ≤ 140737488355328) :
    Fx Tryz.prog 148 [va, vb] w (fun u w' => Row w' 3 1 u ((mkRow xs).filter fun n => !ys.contains n).length (ints ((mkRow xs).filter fun n => !ys.contains n)) ∧ Fresh w.heap.size u ∧ Grow w w') := by
  obtain ⟨ad', c', rfl⟩ := hvb.shape
  refine enter Tryz.func148 rfl rfl rfl _ (Pick.sub (l := [0, 1]) (.cons rfl (.cons rfl .nil))) ?_
  refine RK.seq ?_
  refine RK.region ?_
  refine RL.op (.free rfl) rfl rfl (Does.box rfl) ?_
  rintro _ w1 ⟨b1, rfl, hn1⟩
  refine RL.p rfl rfl ?_
  refine RL.done ?_
  refine RK.seq ?_
  refine RK.region ?_
  iterate 2 refine RL.p rfl rfl ?_
  refine RL.op (.free rfl) rfl rfl (Does.call rfl e201 (kept_ok No xs va _ (fun n => !ys.contains n) _ (ha.mod (Mod.any' hn1.grow)).noM hb ⟨_, _, rfl, e202, fun n w' hg => not1_ok No w' b1 ys _ (hn1.blk.mod hg (fun h => h)) (hvb.noM.mod (hn1.grow.trans hg)) n⟩)) ?_
  rintro u2 w2 ⟨hr2, hf2, hg2⟩
  refine RL.p rfl rfl ?_
  refine RL.done ?_
  refine RK.ret_of Tryz.func148 (res1 rfl rfl) ?_ _
  exact ⟨_, rfl, hr2, fun b hb => by have := hf2 b hb; have := hn1.grow.size; omega, hn1.grow.trans hg2⟩
theorem cut_ok (M : Nat → Prop) (xs : List Int) (x : Int) (v : Value) (w : World) (hv : Sl M w v 1 xs.length (ints xs)) (hb : xs.length * 8 ≤ 140737488355328) :
    Fx Tryz.prog 82 [v, .int .i64 x] w (fun u w' => Row w' 3 1 u (cutRow xs x).length (ints (cutRow xs x)) ∧ Fresh w.heap.size u ∧ Grow w w') := by
  have he : (mkRow xs).filter (fun n => ![x].contains n) = cutRow xs x := by
    unfold cutRow
    apply List.filter_congr
    intro y _
    by_cases h : y = x <;> simp [h]
  refine enter Tryz.func82 rfl rfl rfl _ (Pick.sub (l := [0, 1]) (.cons rfl (.cons rfl .nil))) ?_
  refine RK.seq ?_
  refine RK.region ?_
  refine RL.p rfl rfl ?_
  refine RL.done ?_
  refine RK.seq ?_
  refine RK.region ?_
  iterate 2 refine RL.p rfl rfl ?_
  refine RL.op (.free rfl) rfl rfl (Does.slice1 u37 i3 rfl rfl rfl rfl rfl) ?_
  rintro _ w1 ⟨b1, rfl, hn1⟩
  refine RL.op (.free rfl) rfl rfl (Does.call rfl e148 (not_ok No xs [x] v _ _ (hv.mod (Mod.any' hn1.grow)).noM (Sl.new hn1 1 1 rfl (by omega) (fun h => h)) hb)) ?_
  rintro u2 w2 ⟨hr2, hf2, hg2⟩
  refine RL.p rfl rfl ?_
  refine RL.done ?_
  refine RK.ret_of Tryz.func82 (res1 rfl rfl) ?_ _
  exact ⟨_, rfl, by rw [he] at hr2; exact hr2, fun b hb => by have := hf2 b hb; have := hn1.grow.size; omega, hn1.grow.trans hg2⟩
end Go.Proofs.YthbjfhhiajihfaaGreat
set_option linter.unusedVariables false
set_option linter.unusedSimpArgs false
set_option maxHeartbeats 800000
set_option maxRecDepth 100000
namespace Go.Proofs.YthbjfhhiajihfaaGreat
open Go Go.X
end Go.Proofs.YthbjfhhiajihfaaGreat
set_option linter.unusedVariables false
set_option linter.unusedSimpArgs false
set_option maxHeartbeats 400000
set_option maxRecDepth 100000
namespace Go.Proofs.YthbjfhhiajihfaaGreat
open Go Go.X
def giveS (out : List Int) (id : Int) : List Int := if out.contains id then cutRow out id else out
theorem cmpInt_ok (x y : Int) (w : World) : Fx Tryz.prog 160 [.int .i64 x, .int .i64 y] w (fun u w' => u = .int .i64 (Lib.compareInt x y) ∧ w = w') := by
  refine Calls.mono (Tryz.cmp_Compare_int x y w) ?_
  rintro e w' ⟨rfl, rfl⟩
  exact ⟨_, rfl, rfl, rfl⟩
end Go.Proofs.YthbjfhhiajihfaaGreat
set_option linter.unusedVariables false
set_option linter.unusedSimpArgs false
set_option maxHeartbeats 800000
set_option maxRecDepth 100000
namespace Go.Proofs.YthbjfhhiajihfaaGreat
open Go Go.X
end Go.Proofs.YthbjfhhiajihfaaGreat
set_option linter.unusedVariables false
set_option linter.unusedSimpArgs false
set_option maxHeartbeats 800000
set_option maxRecDepth 100000
namespace Go.Proofs.YthbjfhhiajihfaaGreat
open Go Go.X
def placeS (s : St) (id : Int) : Option Nat := s.al.findIdx? fun a => decide (a.1 = id)
def resolveS (s : St) (id : Int) : St × Int :=
  match placeS s id with
  | none => (s, 5)
  | some i => ({ s with al := s.al.eraseIdx i, out := giveS s.out id, has := cutM s.has id, rows := dropRows s.rows id ((lookM s.has id).getD []) }, 0)
end Go.Proofs.YthbjfhhiajihfaaGreat
set_option linter.unusedVariables false
set_option linter.unusedSimpArgs false
set_option maxHeartbeats 800000
set_option maxRecDepth 100000
namespace Go.Proofs.YthbjfhhiajihfaaGreat
open Go Go.X
end Go.Proofs.YthbjfhhiajihfaaGreat
set_option linter.unusedVariables false
set_option linter.unusedSimpArgs false
set_option maxHeartbeats 400000
set_option maxRecDepth 100000
namespace Go.Proofs.YthbjfhhiajihfaaGreat
open Go Go.X
end Go.Proofs.YthbjfhhiajihfaaGreat
set_option linter.unusedVariables false
set_option linter.unusedSimpArgs false
set_option maxHeartbeats 800000
set_option maxRecDepth 100000
namespace Go.Proofs.YthbjfhhiajihfaaGreat
open Go Go.X
end Go.Proofs.YthbjfhhiajihfaaGreat
set_option linter.unusedVariables false
set_option linter.unusedSimpArgs false
set_option maxHeartbeats 800000
set_option maxRecDepth 100000
namespace Go.Proofs.YthbjfhhiajihfaaGreat
open Go Go.X
def getL (ls : List Lab) (nm : ByteArray) : ByteArray := ((ls.find? fun x => decide (x.name = nm)).map (·.value)).getD ByteArray.empty
theorem getL_at {ls : List Lab} {nm : ByteArray} {k : Nat} {x : Lab} (hx : ls[k]? = some x) (h : x.name = nm) (hno : ∀ i y, i < k → ls[i]? = some y → y.name ≠ nm) : getL ls nm = x.value := by
  unfold getL
  have : ls.find? (fun x => decide (x.name = nm)) = some x := by
    rw [List.find?_eq_some_iff_getElem]
    obtain ⟨hk, e⟩ := List.getElem?_eq_some_iff.1 hx
    exact ⟨by simp [h], k, hk, e, fun j hj => by simpa using hno j _ hj (List.getElem?_eq_getElem (by omega))⟩
  rw [this]; rfl
theorem getL_none {ls : List Lab} {nm : ByteArray} (hno : ∀ y ∈ ls, y.name ≠ nm) : getL ls nm = ByteArray.empty := by
  unfold getL
  rw [List.find?_eq_none.2 fun y hy => by simpa using hno y hy]
  rfl
end Go.Proofs.YthbjfhhiajihfaaGreat
set_option linter.unusedVariables false
set_option linter.unusedSimpArgs false
set_option maxHeartbeats 800000
set_option maxRecDepth 100000
namespace Go.Proofs.YthbjfhhiajihfaaGreat
open Go Go.X
theorem find_self (ls : List Lab) : findS [ls] ls = some 0 := by simp [findS]
section
variable (ls : List Lab) (his : isS ls = true) (u v : Nat)
def vS1 : St := (postS (St.new 3) ls u).1
def vS2 : St := (postS (vS1 ls u) ls v).1
def vS3 : St := (resolveS (vS2 ls u v) 1).1
def vS4 : St := (postS (vS3 ls u v) ls u).1
include his
theorem v1 : postS (St.new 3) ls u = (vS1 ls u, 1, true, 0) ∧ (vS1 ls u).al = [(1, ls, canS u)] ∧ (vS1 ls u).last = 1 ∧ (vS1 ls u).out = [1] ∧ (vS1 ls u).most = 3 := by
  have hf : fullS (St.new 3).most (St.new 3).last (St.new 3).out = false := by decide
  have hn : findS ((St.new 3).al.map (·.2.1)) ls = none := rfl
  have e : postS (St.new 3) ls u = (⟨(St.new 3).most, (St.new 3).last + 1, (St.new 3).out ++ [(St.new 3).last + 1], (St.new 3).al ++ [((St.new 3).last + 1, ls, canS u)], putM (St.new 3).has ((St.new 3).last + 1) ls, addRows (St.new 3).rows ((St.new 3).last + 1) ls⟩, (St.new 3).last + 1, true, 0) := by
    unfold postS; rw [if_neg (by simp [his]), hn]; simp [hf]
  unfold vS1
  rw [e]
  exact ⟨rfl, rfl, rfl, rfl, rfl⟩
theorem v2 : postS (vS1 ls u) ls v = (vS2 ls u v, 1, false, 0) ∧ (vS2 ls u v).al = [(1, ls, canS v)] ∧ (vS2 ls u v).last = 1 ∧ (vS2 ls u v).out = [1] ∧ (vS2 ls u v).most = 3 := by
  obtain ⟨_, h1, h2, h3, h4⟩ := v1 ls his u
  have hn : findS ((vS1 ls u).al.map (·.2.1)) ls = some 0 := by rw [h1]; exact find_self ls
  have e : postS (vS1 ls u) ls v = ({ vS1 ls u with al := (vS1 ls u).al.modify 0 fun a => (a.1, a.2.1, canS v) }, (((vS1 ls u).al[0]?).map (·.1)).getD 0, false, 0) := by
    unfold postS; rw [if_neg (by simp [his]), hn]
  unfold vS2
  rw [e]
  refine ⟨by rw [h1]; rfl, by simp only; rw [h1]; rfl, h2, h3, h4⟩
theorem v3 : resolveS (vS2 ls u v) 1 = (vS3 ls u v, 0) ∧ (vS3 ls u v).al = [] ∧ (vS3 ls u v).last = 1 ∧ (vS3 ls u v).out = [] ∧ (vS3 ls u v).most = 3 := by
  obtain ⟨_, h1, h2, h3, h4⟩ := v2 ls his u v
  have hp : placeS (vS2 ls u v) 1 = some 0 := by unfold placeS; rw [h1]; rfl
  have e : resolveS (vS2 ls u v) 1 = ({ vS2 ls u v with al := (vS2 ls u v).al.eraseIdx 0, out := giveS (vS2 ls u v).out 1, has := cutM (vS2 ls u v).has 1, rows := dropRows (vS2 ls u v).rows 1 ((lookM (vS2 ls u v).has 1).getD []) }, 0) := by
    unfold resolveS; rw [hp]
  unfold vS3
  rw [e]
  refine ⟨rfl, by simp only; rw [h1]; rfl, h2, ?_, h4⟩
  simp only
  rw [h3]
  have : ∀ x, x ∉ giveS [1] 1 := fun x hx => by
    unfold giveS at hx
    rw [if_pos (by decide), mem_cutRow] at hx
    simp at hx
  exact List.eq_nil_iff_forall_not_mem.2 this
theorem v4 : postS (vS3 ls u v) ls u = (vS4 ls u v, 2, true, 0) ∧ (vS4 ls u v).al = [(2, ls, canS u)] := by
  obtain ⟨_, h1, h2, h3, h4⟩ := v3 ls his u v
  have hf : fullS (vS3 ls u v).most (vS3 ls u v).last (vS3 ls u v).out = false := by rw [h2, h3, h4]; decide
  have hn : findS ((vS3 ls u v).al.map (·.2.1)) ls = none := by rw [h1]; rfl
  have e : postS (vS3 ls u v) ls u = (⟨(vS3 ls u v).most, (vS3 ls u v).last + 1, (vS3 ls u v).out ++ [(vS3 ls u v).last + 1], (vS3 ls u v).al ++ [((vS3 ls u v).last + 1, ls, canS u)], putM (vS3 ls u v).has ((vS3 ls u v).last + 1) ls, addRows (vS3 ls u v).rows ((vS3 ls u v).last + 1) ls⟩, (vS3 ls u v).last + 1, true, 0) := by
    unfold postS; rw [if_neg (by simp [his]), hn]; simp [hf]
  unfold vS4
  rw [e]
  refine ⟨by rw [h2]; rfl, by simp only; rw [h1, h2]; rfl⟩
theorem v5 : resolveS (vS4 ls u v) 1 = (vS4 ls u v, 5) := by
  obtain ⟨_, h1⟩ := v4 ls his u v
  have hp : placeS (vS4 ls u v) 1 = none := by unfold placeS; rw [h1]; rfl
  unfold resolveS; rw [hp]
end
end Go.Proofs.YthbjfhhiajihfaaGreat
set_option linter.unusedVariables false
set_option linter.unusedSimpArgs false
set_option maxHeartbeats 800000
set_option maxRecDepth 100000
namespace Go.Proofs.YthbjfhhiajihfaaGreat
open Go Go.X
end Go.Proofs.YthbjfhhiajihfaaGreat
set_option linter.unusedVariables false
set_option linter.unusedSimpArgs false
set_option maxHeartbeats 800000
set_option maxRecDepth 100000
namespace Go.Proofs.YthbjfhhiajihfaaGreat
open Go Go.X
theorem get1_ok (w : World) (b : Nat) (nm : ByteArray) (hb : Blk w b 9 [.string nm]) (x : Lab) : Fx Tryz.prog 239 [.agg #[.string x.name, .string x.value], pp b] w (fun u w' => u = .bool (decide (x.name = nm)) ∧ Grow w w') := by
  refine enter Tryz.func239 rfl rfl rfl _ (Pick.sub (l := [0, 1]) (.cons rfl (.cons rfl .nil))) ?_
  refine RK.seq ?_
  refine RK.region ?_
  refine RL.op (.free rfl) rfl rfl (Does.box rfl) ?_
  rintro _ w1 ⟨bx, rfl, hbx⟩
  refine RL.p rfl rfl ?_
  refine RL.done ?_
  refine RK.seq ?_
  refine RK.region ?_
  refine RL.q (.free rfl) rfl rfl (Yld.fieldAddr fo79_0 rfl) ?_
  refine RL.q (.free rfl) rfl rfl (Yld.load p9 rfl (at1 (hbx.blk.cell rfl))) ?_
  refine RL.q (.free rfl) rfl rfl (Yld.load p9 rfl (at1 ((hb.mod hbx.grow (fun h => h)).cell rfl))) ?_
  iterate 2 refine RL.p rfl rfl ?_
  refine RL.done ?_
  refine RK.ret_of Tryz.func239 (res1 rfl rfl) ?_ _
  exact ⟨_, rfl, rfl, hbx.grow⟩
theorem getFirst_ok (M : Nat → Prop) (ls : List Lab) (v : Value) (nm : ByteArray) (b4 : Nat) (w : World) (hv : SlL M w v ls) (hb : Blk w b4 9 [.string nm]) :
    Fx Tryz.prog 238 [v, .func (.func 239) #[] #[pp b4]] w (fun u w' => u = .int .i64 (optI (ls.findIdx? fun x => decide (x.name = nm))) ∧ Grow w w') := by
  obtain ⟨ad, c, rfl⟩ := hv.shape
  have hbig := hv.big
  refine enter Tryz.func238 rfl rfl rfl _ (Pick.sub (l := [0, 1]) (.cons rfl (.cons rfl .nil))) ?_
  refine RK.seq ?_
  refine RK.region ?_
  refine RL.p rfl rfl ?_
  refine RL.done ?_
  iterate 2 refine RK.seq ?_
  refine RK.region ?_
  refine RL.p rfl rfl ?_
  refine RL.q (.free rfl) rfl rfl (Yld.lenSl u33 rfl) ?_
  refine RL.p rfl rfl ?_
  refine RL.done ?_
  refine RK.block ?_
  refine RK.loop (fun k : Nat => [(0, .slice ad ls.length c), (1, .func (.func 239) #[] #[pp b4]), (7, .int .i64 ls.length), (8, .int .i64 k)]) (fun k w' => Grow w w' ∧ k ≤ ls.length ∧ ∀ (i : Nat) (a : Lab), i < k → ls[i]? = some a → a.name ≠ nm) (fun k => ls.length - k) 0 ⟨rfl, rfl, rfl, rfl, trivial⟩ ⟨Mod.refl _ _, by omega, fun i a h => by omega⟩ (fun k w' hI ih => ?_)
  obtain ⟨hg, hk, hno⟩ := hI
  refine RK.seq ?_
  refine RK.region ?_
  refine RL.p rfl rfl ?_
  refine RL.done ?_
  refine RK.seq ?_
  first | refine RK.condD rfl (fun h9 => ?_) (fun h9 => ?_) | refine RK.condN rfl (fun h9 => ?_) (fun h9 => ?_) | refine RK.cond rfl (fun h9 => ?_) (fun h9 => ?_)
  · obtain ⟨x, hx⟩ : ∃ x, ls[k]? = some x := ⟨ls[k]'(by omega), List.getElem?_eq_getElem (by omega)⟩
    obtain ⟨b1, o1, c1', he1, _, _, hc1⟩ := hv.elem labC_len hx
    cases he1
    refine RK.skip ?_
    refine RK.seq ?_
    refine RK.block ?_
    refine RK.seq ?_
    refine RK.region ?_
    iterate 2 refine RL.p rfl rfl ?_
    refine RL.done ?_
    refine RK.seq ?_
    refine RK.region ?_
    iterate 3 refine RL.p rfl rfl ?_
    refine RL.q (.free rfl) rfl rfl (Yld.indexAddrN u33 i79 rfl rfl (by omega)) ?_
    refine RL.q (.free rfl) rfl rfl (Yld.loadN (cs := [.string x.name, .string x.value]) a79 rfl (atN (fun j u hj => hg.cell (hc1 j u hj) (fun h => h)))) ?_
    refine RL.op (.free rfl) rfl rfl (Does.callv rfl rfl e239 (get1_ok _ b4 nm (hb.mod hg (fun h => h)) x)) ?_
    rintro _ w2 ⟨rfl, hg2⟩
    refine RL.done ?_
    first | refine RK.condD rfl (fun h16 => ?_) (fun h16 => ?_) | refine RK.condN rfl (fun h16 => ?_) (fun h16 => ?_) | refine RK.cond rfl (fun h16 => ?_) (fun h16 => ?_)
    · refine RK.seq ?_
      refine RK.region ?_
      iterate 2 refine RL.p rfl rfl ?_
      refine RL.done ?_
      refine RK.ret_of Tryz.func238 (res1 rfl rfl) ?_ _
      exact ⟨_, rfl, congrArg _ (by
          have : ls.findIdx? (fun x => decide (x.name = nm)) = some k := by
            rw [List.findIdx?_eq_some_iff_getElem]
            refine ⟨by omega, ?_, fun j hj => ?_⟩
            · simp [(List.getElem?_eq_some_iff.1 hx).2, h16]
            · simpa using hno j (ls[j]'(by omega)) hj (List.getElem?_eq_getElem (by omega))
          rw [this]; rfl), hg.trans hg2⟩
    · refine RK.skip ?_
      refine RK.inBlock ?_
      refine RK.region ?_
      refine RL.p rfl rfl ?_
      refine RL.re (d := 18) rfl rfl (succ_i64 (by omega)) ?_
      refine RL.p rfl rfl ?_
      refine RL.done ?_
      exact RK.back (ih (k + 1) _ ⟨hg.trans hg2, by omega, fun i a' hi ha' => by by_cases e : i = k; (subst e; rw [hx] at ha'; cases ha'; exact h16); exact hno i a' (by omega) ha'⟩ (by omega)) ⟨rfl, rfl, rfl, rfl, trivial⟩
  · refine RK.exit rfl ?_
    refine RK.seq ?_
    refine RK.region ?_
    refine RL.p rfl rfl ?_
    refine RL.done ?_
    refine RK.ret_of Tryz.func238 (res1 rfl rfl) ?_ _
    exact ⟨_, rfl, congrArg _ (by
        have : ls.findIdx? (fun x => decide (x.name = nm)) = none := by
          rw [List.findIdx?_eq_none_iff]
          intro x hx
          obtain ⟨i, hi⟩ := List.getElem?_of_mem hx
          have hil := (List.getElem?_eq_some_iff.1 hi).1
          simpa using hno i x (by omega) hi
        rw [this]; rfl), hg⟩
theorem labelsGet_ok (M : Nat → Prop) (ls : List Lab) (v : Value) (nm : ByteArray) (w : World) (hv : SlL M w v ls) : Fx Tryz.prog 198 [v, .string nm] w (fun u w' => u = .string (getL ls nm) ∧ Grow w w') := by
  obtain ⟨ad, c, rfl⟩ := hv.shape
  have hbig := hv.big
  cases hf : ls.findIdx? (fun x => decide (x.name = nm)) with
  | none =>
    have e : getL ls nm = ByteArray.empty := getL_none fun y hy => by simpa using List.findIdx?_eq_none_iff.1 hf y hy
    refine enter Tryz.func198 rfl rfl rfl _ (Pick.sub (l := [0, 1]) (.cons rfl (.cons rfl .nil))) ?_
    refine RK.seq ?_
    refine RK.region ?_
    refine RL.op (.free rfl) rfl rfl (Does.box rfl) ?_
    rintro _ w1 ⟨b1, rfl, hn1⟩
    have hcall := getFirst_ok M ls _ nm b1 w1 (hv.mod (Mod.any' hn1.grow)) hn1.blk
    rw [hf] at hcall
    refine RL.p rfl rfl ?_
    refine RL.done ?_
    refine RK.seq ?_
    refine RK.region ?_
    iterate 2 refine RL.p rfl rfl ?_
    refine RL.op (.free rfl) rfl rfl (Does.call rfl e238 (hcall)) ?_
    rintro _ w2 ⟨rfl, hg2⟩
    refine RL.p rfl rfl ?_
    refine RL.done ?_
    iterate 2 refine RK.seq ?_
    refine RK.region ?_
    iterate 2 refine RL.p rfl rfl ?_
    refine RL.done ?_
    refine RK.condT (hcT rfl (rfl)) ?_
    refine RK.seq ?_
    refine RK.region ?_
    refine RL.p rfl rfl ?_
    refine RL.done ?_
    refine RK.ret_of Tryz.func198 (res1 rfl rfl) ?_ _
    exact ⟨_, rfl, by rw [e]; rfl, hn1.grow.trans hg2⟩
  | some k =>
    obtain ⟨hk, hp, hlt⟩ := List.findIdx?_eq_some_iff_getElem.1 hf
    have hx : ls[k]? = some ls[k] := List.getElem?_eq_getElem hk
    have e : getL ls nm = ls[k].value := getL_at hx (by simpa using hp) fun i y hi hy => by
      have := hlt i hi
      rw [(List.getElem?_eq_some_iff.1 hy).2] at this
      simpa using this
    generalize ls[k] = x at *
    refine enter Tryz.func198 rfl rfl rfl _ (Pick.sub (l := [0, 1]) (.cons rfl (.cons rfl .nil))) ?_
    refine RK.seq ?_
    refine RK.region ?_
    refine RL.op (.free rfl) rfl rfl (Does.box rfl) ?_
    rintro _ w1 ⟨b1, rfl, hn1⟩
    have hcall := getFirst_ok M ls _ nm b1 w1 (hv.mod (Mod.any' hn1.grow)) hn1.blk
    rw [hf] at hcall
    obtain ⟨b2, o2, c2', he2, _, _, hc2⟩ := hv.elem labC_len hx
    cases he2
    refine RL.p rfl rfl ?_
    refine RL.done ?_
    refine RK.seq ?_
    refine RK.region ?_
    iterate 2 refine RL.p rfl rfl ?_
    refine RL.op (.free rfl) rfl rfl (Does.call rfl e238 (hcall)) ?_
    rintro _ w2 ⟨rfl, hg2⟩
    have hg02 := hn1.grow.trans hg2
    have hk' : optI (some k) = (k : Int) := rfl
    rw [hk']
    refine RL.p rfl rfl ?_
    refine RL.done ?_
    iterate 2 refine RK.seq ?_
    refine RK.region ?_
    iterate 2 refine RL.p rfl rfl ?_
    refine RL.done ?_
    refine RK.condF (hcF rfl (decide_eq_false (by omega))) ?_
    refine RK.skip ?_
    refine RK.seq ?_
    refine RK.region ?_
    iterate 2 refine RL.p rfl rfl ?_
    refine RL.q (.free rfl) rfl rfl (Yld.indexAddrN u33 i79 rfl rfl (by omega)) ?_
    refine RL.q (.free rfl) rfl rfl (Yld.fieldAddr fo79_1 rfl) ?_
    refine RL.q (.free rfl) rfl rfl (Yld.load p9 rfl (at1 (hg02.cell (hc2 1 _ rfl) (fun h => h)))) ?_
    refine RL.p rfl rfl ?_
    refine RL.done ?_
    refine RK.ret_of Tryz.func198 (res1 rfl rfl) ?_ _
    exact ⟨_, rfl, by rw [e], hg02⟩
end Go.Proofs.YthbjfhhiajihfaaGreat
set_option linter.unusedVariables false
set_option linter.unusedSimpArgs false
set_option maxHeartbeats 800000
set_option maxRecDepth 100000
namespace Go.Proofs.YthbjfhhiajihfaaGreat
open Go Go.X
structure Mt where
  kind : Int
  name : ByteArray
  value : ByteArray
  deriving DecidableEq, Inhabited
def mtC (m : Mt) : List Value := [.int .i64 m.kind, .string m.name, .string m.value]
theorem mtC_len (m : Mt) : (mtC m).length = 3 := rfl
abbrev SlM (M : Nat → Prop) (w : World) (v : Value) (ms : List Mt) : Prop := Sl M w v 3 ms.length (ms.flatMap mtC)
def likeS (m : Mt) : Bool := decide (m.kind = 3 ∨ m.kind = 4)
theorem like_ok (m : Mt) (w : World) : Fx Tryz.prog 229 [.agg #[.int .i64 m.kind, .string m.name, .string m.value]] w (fun u w' => u = .bool (likeS m) ∧ Grow w w') := by
  refine enter Tryz.func229 rfl rfl rfl _ (Pick.sub (l := [0]) (.cons rfl .nil)) ?_
  refine RK.seq ?_
  refine RK.region ?_
  refine RL.op (.free rfl) rfl rfl (Does.box rfl) ?_
  rintro _ w1 ⟨b1, rfl, hn1⟩
  refine RL.p rfl rfl ?_
  refine RL.done ?_
  refine RK.seq ?_
  refine RK.region ?_
  refine RL.q (.free rfl) rfl rfl (Yld.fieldAddr fo135_0 rfl) ?_
  refine RL.q (.free rfl) rfl rfl (Yld.load p3 rfl (at1 (hn1.blk.cell rfl))) ?_
  iterate 2 refine RL.p rfl rfl ?_
  first | refine RL.splitD (d := 6) rfl rfl (fun h6 => ?_) (fun h6 => ?_) | refine RL.splitN (d := 6) rfl rfl (fun h6 => ?_) (fun h6 => ?_) | refine RL.split (d := 6) rfl rfl (fun h6 => ?_) (fun h6 => ?_)
  · iterate 3 refine RL.no (.no rfl rfl rfl rfl) rfl rfl ?_
    iterate 2 refine RL.p rfl rfl ?_
    refine RL.done ?_
    refine RK.ret_of Tryz.func229 (res1 rfl rfl) ?_ _
    exact ⟨_, rfl, congrArg _ (by unfold likeS; simp_all), hn1.grow⟩
  · refine RL.q (.yes rfl rfl rfl) rfl rfl (Yld.fieldAddr fo135_0 rfl) ?_
    refine RL.q (.yes rfl rfl rfl) rfl rfl (Yld.load p3 rfl (at1 (hn1.blk.cell rfl))) ?_
    refine RL.q (.yes rfl rfl rfl) rfl rfl (Yld.pure rfl) ?_
    iterate 2 refine RL.p rfl rfl ?_
    refine RL.done ?_
    refine RK.ret_of Tryz.func229 (res1 rfl rfl) ?_ _
    exact ⟨_, rfl, congrArg _ (by unfold likeS; simp_all), hn1.grow⟩
def isV (m : Mt) : Bool := nameS m.name && decide ((m.kind = 1 ∨ m.kind = 2) ∧ m.value.size ≤ 24)
theorem isV_ok (m : Mt) (hk : likeS m = false) (w : World) : Fx Tryz.prog 186 [.agg #[.int .i64 m.kind, .string m.name, .string m.value]] w (fun u w' => u = .bool (isV m) ∧ Grow w w') := by
  refine enter Tryz.func186 rfl rfl rfl _ (Pick.sub (l := [0]) (.cons rfl .nil)) ?_
  refine RK.seq ?_
  refine RK.region ?_
  refine RL.op (.free rfl) rfl rfl (Does.box rfl) ?_
  rintro _ w1 ⟨b1, rfl, hn1⟩
  refine RL.p rfl rfl ?_
  refine RL.done ?_
  iterate 2 refine RK.seq ?_
  refine RK.region ?_
  refine RL.q (.free rfl) rfl rfl (Yld.fieldAddr fo135_1 rfl) ?_
  refine RL.q (.free rfl) rfl rfl (Yld.load p9 rfl (at1 (hn1.blk.cell rfl))) ?_
  refine RL.op (.free rfl) rfl rfl (Does.call rfl e219 (name_ok _ _)) ?_
  rintro _ _ ⟨rfl, rfl⟩
  refine RL.p rfl rfl ?_
  refine RL.done ?_
  first | refine RK.condD rfl (fun h8 => ?_) (fun h8 => ?_) | refine RK.condN rfl (fun h8 => ?_) (fun h8 => ?_) | refine RK.cond rfl (fun h8 => ?_) (fun h8 => ?_)
  · refine RK.seq ?_
    refine RK.region ?_
    refine RL.p rfl rfl ?_
    refine RL.done ?_
    refine RK.ret_of Tryz.func186 (res1 rfl rfl) ?_ _
    exact ⟨_, rfl, congrArg _ (by unfold isV; simp at h8; rw [h8]; rfl), hn1.grow⟩
  · refine RK.skip ?_
    iterate 2 refine RK.seq ?_
    refine RK.region ?_
    refine RL.q (.free rfl) rfl rfl (Yld.loadN (cs := [.int .i64 m.kind, .string m.name, .string m.value]) a135 rfl (atN (fun j u hj => by rw [Nat.zero_add]; exact hn1.blk.cell' hj))) ?_
    refine RL.op (.free rfl) rfl rfl (Does.call rfl e229 (like_ok m _)) ?_
    rintro _ w2 ⟨rfl, hg2⟩
    refine RL.done ?_
    refine RK.condF (hcF rfl (hk)) ?_
    refine RK.skip ?_
    refine RK.seq ?_
    refine RK.region ?_
    refine RL.q (.free rfl) rfl rfl (Yld.fieldAddr fo135_0 rfl) ?_
    refine RL.q (.free rfl) rfl rfl (Yld.load p3 rfl (at1 ((hn1.blk.mod hg2 (fun h => h)).cell rfl))) ?_
    iterate 2 refine RL.p rfl rfl ?_
    first | refine RL.splitD (d := 21) rfl rfl (fun h21 => ?_) (fun h21 => ?_) | refine RL.splitN (d := 21) rfl rfl (fun h21 => ?_) (fun h21 => ?_) | refine RL.split (d := 21) rfl rfl (fun h21 => ?_) (fun h21 => ?_)
    · iterate 3 refine RL.no (.no rfl rfl rfl rfl) rfl rfl ?_
      iterate 2 refine RL.p rfl rfl ?_
      refine RL.q (.yes rfl rfl rfl) rfl rfl (Yld.fieldAddr fo135_2 rfl) ?_
      refine RL.q (.yes rfl rfl rfl) rfl rfl (Yld.load p9 rfl (at1 ((hn1.blk.mod hg2 (fun h => h)).cell rfl))) ?_
      refine RL.q (.yes rfl rfl rfl) rfl rfl (Yld.lenStr u9 rfl) ?_
      refine RL.q (.yes rfl rfl rfl) rfl rfl (Yld.pure rfl) ?_
      iterate 2 refine RL.p rfl rfl ?_
      refine RL.done ?_
      refine RK.ret_of Tryz.func186 (res1 rfl rfl) ?_ _
      exact ⟨_, rfl, congrArg _ (by unfold isV; simp at h8; rw [h8, Bool.eq_iff_iff]; simp_all <;> omega), hn1.grow.trans hg2⟩
    · refine RL.q (.yes rfl rfl rfl) rfl rfl (Yld.fieldAddr fo135_0 rfl) ?_
      refine RL.q (.yes rfl rfl rfl) rfl rfl (Yld.load p3 rfl (at1 ((hn1.blk.mod hg2 (fun h => h)).cell rfl))) ?_
      refine RL.q (.yes rfl rfl rfl) rfl rfl (Yld.pure rfl) ?_
      iterate 2 refine RL.p rfl rfl ?_
      first | refine RL.splitD (d := 26) rfl rfl (fun h26 => ?_) (fun h26 => ?_) | refine RL.splitN (d := 26) rfl rfl (fun h26 => ?_) (fun h26 => ?_) | refine RL.split (d := 26) rfl rfl (fun h26 => ?_) (fun h26 => ?_)
      · refine RL.q (.yes rfl rfl rfl) rfl rfl (Yld.fieldAddr fo135_2 rfl) ?_
        refine RL.q (.yes rfl rfl rfl) rfl rfl (Yld.load p9 rfl (at1 ((hn1.blk.mod hg2 (fun h => h)).cell rfl))) ?_
        refine RL.q (.yes rfl rfl rfl) rfl rfl (Yld.lenStr u9 rfl) ?_
        refine RL.q (.yes rfl rfl rfl) rfl rfl (Yld.pure rfl) ?_
        iterate 2 refine RL.p rfl rfl ?_
        refine RL.done ?_
        refine RK.ret_of Tryz.func186 (res1 rfl rfl) ?_ _
        exact ⟨_, rfl, congrArg _ (by unfold isV; simp at h8; rw [h8, Bool.eq_iff_iff]; simp_all <;> omega), hn1.grow.trans hg2⟩
      · iterate 4 refine RL.no (.no rfl rfl rfl rfl) rfl rfl ?_
        iterate 2 refine RL.p rfl rfl ?_
        refine RL.done ?_
        refine RK.ret_of Tryz.func186 (res1 rfl rfl) ?_ _
        exact ⟨_, rfl, congrArg _ (by unfold isV; simp at h8; rw [h8, Bool.eq_iff_iff]; simp_all <;> omega), hn1.grow.trans hg2⟩
def HoldsC (h : Mt → List Lab → Bool) (m : Mt) : Prop := ∀ (M : Nat → Prop) (ls : List Lab) (v : Value) (w : World), (∀ x ∈ ls, x.value.size ≤ 100000) → SlL M w v ls → Fx Tryz.prog 157 [.agg #[.int .i64 m.kind, .string m.name, .string m.value], v] w (fun u w' => u = .bool (h m ls) ∧ Grow w w')
theorem all1_ok (h : Mt → List Lab → Bool) (m : Mt) (hh : HoldsC h m) (M : Nat → Prop) (ls : List Lab) (hz : ∀ x ∈ ls, x.value.size ≤ 100000) (vl : Value) (b4 : Nat) (w : World) (hl : SlL M w vl ls) (hb : Blk w b4 33 [vl]) : Fx Tryz.prog 156 [.agg #[.int .i64 m.kind, .string m.name, .string m.value], pp b4] w (fun u w' => u = .bool (!h m ls) ∧ Grow w w') := by
  obtain ⟨ad, c, rfl⟩ := hl.shape
  refine enter Tryz.func156 rfl rfl rfl _ (Pick.sub (l := [0, 1]) (.cons rfl (.cons rfl .nil))) ?_
  refine RK.seq ?_
  refine RK.region ?_
  refine RL.op (.free rfl) rfl rfl (Does.box rfl) ?_
  rintro _ w1 ⟨b1, rfl, hn1⟩
  refine RL.p rfl rfl ?_
  refine RL.done ?_
  refine RK.seq ?_
  refine RK.region ?_
  refine RL.q (.free rfl) rfl rfl (Yld.loadN (cs := [.int .i64 m.kind, .string m.name, .string m.value]) a135 rfl (atN (fun j u hj => by rw [Nat.zero_add]; exact hn1.blk.cell' hj))) ?_
  refine RL.q (.free rfl) rfl rfl (Yld.load p33 rfl (at1 ((hb.mod hn1.grow (fun h => h)).cell rfl))) ?_
  refine RL.op (.free rfl) rfl rfl (Does.call rfl e157 (hh M ls _ _ hz (hl.mod (Mod.any' hn1.grow)))) ?_
  rintro _ w2 ⟨rfl, hg2⟩
  iterate 2 refine RL.p rfl rfl ?_
  refine RL.done ?_
  refine RK.ret_of Tryz.func156 (res1 rfl rfl) ?_ _
  exact ⟨_, rfl, rfl, hn1.grow.trans hg2⟩
theorem indexM_ok (h : Mt → List Lab → Bool) (ms : List Mt) (hh : ∀ m ∈ ms, HoldsC h m) (M M' : Nat → Prop) (ls : List Lab) (hz : ∀ x ∈ ls, x.value.size ≤ 100000) (v vl : Value) (b4 : Nat) (w : World) (hv : SlM M' w v ms) (hl : SlL M w vl ls) (hb : Blk w b4 33 [vl]) :
    Fx Tryz.prog 210 [v, .func (.func 156) #[] #[pp b4]] w (fun u w' => u = .int .i64 (optI (ms.findIdx? fun m => !h m ls)) ∧ Grow w w') := by
  obtain ⟨ad, c, rfl⟩ := hv.shape
  have hbig := hv.big
  refine enter Tryz.func210 rfl rfl rfl _ (Pick.sub (l := [0, 1]) (.cons rfl (.cons rfl .nil))) ?_
  refine RK.seq ?_
  refine RK.region ?_
  refine RL.p rfl rfl ?_
  refine RL.done ?_
  iterate 2 refine RK.seq ?_
  refine RK.region ?_
  refine RL.p rfl rfl ?_
  refine RL.q (.free rfl) rfl rfl (Yld.lenSl u24 rfl) ?_
  refine RL.p rfl rfl ?_
  refine RL.done ?_
  refine RK.block ?_
  refine RK.loop (fun k : Nat => [(0, .slice ad ms.length c), (1, .func (.func 156) #[] #[pp b4]), (7, .int .i64 ms.length), (8, .int .i64 k)]) (fun k w' => Grow w w' ∧ k ≤ ms.length ∧ ∀ (i : Nat) (a : Mt), i < k → ms[i]? = some a → h a ls = true) (fun k => ms.length - k) 0 ⟨rfl, rfl, rfl, rfl, trivial⟩ ⟨Mod.refl _ _, by omega, fun i a h => by omega⟩ (fun k w' hI ih => ?_)
  obtain ⟨hg, hk, hno⟩ := hI
  refine RK.seq ?_
  refine RK.region ?_
  refine RL.p rfl rfl ?_
  refine RL.done ?_
  refine RK.seq ?_
  first | refine RK.condD rfl (fun h9 => ?_) (fun h9 => ?_) | refine RK.condN rfl (fun h9 => ?_) (fun h9 => ?_) | refine RK.cond rfl (fun h9 => ?_) (fun h9 => ?_)
  · obtain ⟨x, hx⟩ : ∃ x, ms[k]? = some x := ⟨ms[k]'(by omega), List.getElem?_eq_getElem (by omega)⟩
    obtain ⟨b1, o1, c1', he1, _, _, hc1⟩ := hv.elem mtC_len hx
    cases he1
    refine RK.skip ?_
    refine RK.seq ?_
    refine RK.block ?_
    refine RK.seq ?_
    refine RK.region ?_
    iterate 2 refine RL.p rfl rfl ?_
    refine RL.done ?_
    refine RK.seq ?_
    refine RK.region ?_
    iterate 3 refine RL.p rfl rfl ?_
    refine RL.q (.free rfl) rfl rfl (Yld.indexAddrN u24 i135 rfl rfl (by omega)) ?_
    refine RL.q (.free rfl) rfl rfl (Yld.loadN (cs := [.int .i64 x.kind, .string x.name, .string x.value]) a135 rfl (atN (fun j u hj => hg.cell (hc1 j u hj) (fun h => h)))) ?_
    refine RL.op (.free rfl) rfl rfl (Does.callv rfl rfl e156 (all1_ok h x (hh x (List.mem_of_getElem? hx)) M ls hz vl b4 _ (hl.mod (Mod.any' hg)) (hb.mod hg (fun h => h)))) ?_
    rintro _ w2 ⟨rfl, hg2⟩
    refine RL.done ?_
    first | refine RK.condD rfl (fun h16 => ?_) (fun h16 => ?_) | refine RK.condN rfl (fun h16 => ?_) (fun h16 => ?_) | refine RK.cond rfl (fun h16 => ?_) (fun h16 => ?_)
    · refine RK.seq ?_
      refine RK.region ?_
      iterate 2 refine RL.p rfl rfl ?_
      refine RL.done ?_
      refine RK.ret_of Tryz.func210 (res1 rfl rfl) ?_ _
      exact ⟨_, rfl, congrArg _ (by
          have : ms.findIdx? (fun m => !h m ls) = some k := by
            rw [List.findIdx?_eq_some_iff_getElem]
            refine ⟨by omega, ?_, fun j hj => ?_⟩
            · rw [(List.getElem?_eq_some_iff.1 hx).2]; exact h16
            · simpa using hno j (ms[j]'(by omega)) hj (List.getElem?_eq_getElem (by omega))
          rw [this]; rfl), hg.trans hg2⟩
    · refine RK.skip ?_
      refine RK.inBlock ?_
      refine RK.region ?_
      refine RL.p rfl rfl ?_
      refine RL.re (d := 18) rfl rfl (succ_i64 (by omega)) ?_
      refine RL.p rfl rfl ?_
      refine RL.done ?_
      exact RK.back (ih (k + 1) _ ⟨hg.trans hg2, by omega, fun i a' hi ha' => by by_cases e : i = k; (subst e; rw [hx] at ha'; cases ha'; simpa using h16); exact hno i a' (by omega) ha'⟩ (by omega)) ⟨rfl, rfl, rfl, rfl, trivial⟩
  · refine RK.exit rfl ?_
    refine RK.seq ?_
    refine RK.region ?_
    refine RL.p rfl rfl ?_
    refine RL.done ?_
    refine RK.ret_of Tryz.func210 (res1 rfl rfl) ?_ _
    exact ⟨_, rfl, congrArg _ (by
        have : ms.findIdx? (fun m => !h m ls) = none := by
          rw [List.findIdx?_eq_none_iff]
          intro x hx
          obtain ⟨i, hi⟩ := List.getElem?_of_mem hx
          have hil := (List.getElem?_eq_some_iff.1 hi).1
          simpa using hno i x (by omega) hi
        rw [this]; rfl), hg⟩
theorem allM_ok (h : Mt → List Lab → Bool) (ms : List Mt) (hh : ∀ m ∈ ms, HoldsC h m) (M M' : Nat → Prop) (ls : List Lab) (hz : ∀ x ∈ ls, x.value.size ≤ 100000) (v vl : Value) (w : World) (hv : SlM M' w v ms) (hl : SlL M w vl ls) :
    Fx Tryz.prog 104 [v, vl] w (fun u w' => u = .bool (ms.all fun m => h m ls) ∧ Grow w w') := by
  obtain ⟨ad, c, rfl⟩ := hl.shape
  have hcont : ∀ (b4 : Nat) (w1 : World), Grow w w1 → Blk w1 b4 33 [.slice ad ls.length c] → Fx Tryz.prog 155 [v, .func (.func 156) #[] #[pp b4]] w1 (fun u w' => u = .bool (!ms.all fun m => h m ls) ∧ Grow w1 w') := fun b4 w1 hg1 hb => by
    have hcall := indexM_ok h ms hh M M' ls hz v _ b4 w1 (hv.mod (Mod.any' hg1)) (hl.mod (Mod.any' hg1)) hb
    obtain ⟨ad2, c2, rfl⟩ := hv.shape
    refine enter Tryz.func155 rfl rfl rfl _ (Pick.sub (l := [0, 1]) (.cons rfl (.cons rfl .nil))) ?_
    refine RK.seq ?_
    refine RK.region ?_
    refine RL.p rfl rfl ?_
    refine RL.done ?_
    refine RK.seq ?_
    refine RK.region ?_
    iterate 2 refine RL.p rfl rfl ?_
    refine RL.op (.free rfl) rfl rfl (Does.call rfl e210 (hcall)) ?_
    rintro _ w2 ⟨rfl, hg2⟩
    iterate 2 refine RL.p rfl rfl ?_
    refine RL.done ?_
    refine RK.ret_of Tryz.func155 (res1 rfl rfl) ?_ _
    exact ⟨_, rfl, congrArg _ (by
        cases hf : ms.findIdx? (fun m => !h m ls) with
        | none =>
          have : (ms.all fun m => h m ls) = true := List.all_eq_true.2 fun m hm => by simpa using List.findIdx?_eq_none_iff.1 hf m hm
          rw [this]; rfl
        | some k =>
          obtain ⟨hk, hp, _⟩ := List.findIdx?_eq_some_iff_getElem.1 hf
          have : (ms.all fun m => h m ls) = false := List.all_eq_false.2 ⟨_, List.getElem_mem hk, by simpa using hp⟩
          rw [this]
          show decide ((0 : Int) ≤ (k : Int)) = true
          simp), hg2⟩
  refine enter Tryz.func104 rfl rfl rfl _ (Pick.sub (l := [0, 1]) (.cons rfl (.cons rfl .nil))) ?_
  refine RK.seq ?_
  refine RK.region ?_
  refine RL.op (.free rfl) rfl rfl (Does.box rfl) ?_
  rintro _ w1 ⟨b1, rfl, hn1⟩
  refine RL.p rfl rfl ?_
  refine RL.done ?_
  refine RK.seq ?_
  refine RK.region ?_
  iterate 2 refine RL.p rfl rfl ?_
  refine RL.op (.free rfl) rfl rfl (Does.call rfl e155 (hcont b1 _ hn1.grow hn1.blk)) ?_
  rintro _ w2 ⟨rfl, hg2⟩
  iterate 2 refine RL.p rfl rfl ?_
  refine RL.done ?_
  refine RK.ret_of Tryz.func104 (res1 rfl rfl) ?_ _
  exact ⟨_, rfl, by simp, hn1.grow.trans hg2⟩
end Go.Proofs.YthbjfhhiajihfaaGreat
set_option linter.unusedVariables false
set_option linter.unusedSimpArgs false
set_option maxHeartbeats 800000
set_option maxRecDepth 100000
namespace Go.Proofs.YthbjfhhiajihfaaGreat
open Go Go.X
end Go.Proofs.YthbjfhhiajihfaaGreat
set_option linter.unusedVariables false
set_option linter.unusedSimpArgs false
set_option maxHeartbeats 800000
set_option maxRecDepth 100000
namespace Go.Proofs.YthbjfhhiajihfaaGreat
open Go Go.X
end Go.Proofs.YthbjfhhiajihfaaGreat
set_option linter.unusedVariables false
set_option linter.unusedSimpArgs false
set_option maxHeartbeats 1000000
set_option maxRecDepth 100000
namespace Go.Proofs.YthbjfhhiajihfaaGreat
open Go Go.X Go.Rex
@[irreducible] def fitS (s : ByteArray) : Bool := match parseS s with
  | some x => decide (sz x + 1 ≤ 40)
  | none => false
@[irreducible] def patS (s : ByteArray) : Bool := (parseS s).isSome
@[irreducible] def isM (m : Mt) : Bool := nameS m.name && (if likeS m then patS m.value else decide ((m.kind = 1 ∨ m.kind = 2) ∧ m.value.size ≤ 24))
@[irreducible] def largeM (m : Mt) : Bool := isM m && likeS m && !fitS m.value
@[irreducible] noncomputable def takesS (s v : ByteArray) : Bool := match parseS s with
  | some x => takes x v
  | none => false
@[irreducible] noncomputable def holdsM (m : Mt) (ls : List Lab) : Bool := isM m && !largeM m && (if m.kind = 1 then decide (getL ls m.name = m.value) else if m.kind = 2 then !decide (getL ls m.name = m.value) else takesS m.value (getL ls m.name) == decide (m.kind = 3))
theorem getL_size {ls : List Lab} (hz : ∀ x ∈ ls, x.value.size ≤ 100000) (nm : ByteArray) : (getL ls nm).size ≤ 100000 := by
  unfold getL
  cases hf : ls.find? fun x => decide (x.name = nm) with
  | none => show (0 : Nat) ≤ 100000; omega
  | some x => exact hz x (List.mem_of_find?_eq_some hf)
theorem like_kind {m : Mt} (h : likeS m = true) : m.kind = 3 ∨ m.kind = 4 := by unfold likeS at h; simpa using h
theorem isM_kind {m : Mt} (h : isM m = true) : m.kind = 1 ∨ m.kind = 2 ∨ m.kind = 3 ∨ m.kind = 4 := by
  unfold isM at h
  simp only [Bool.and_eq_true] at h
  cases hl : likeS m with
  | true => have := like_kind hl; omega
  | false => rw [hl] at h; simp at h; omega
theorem isM_pat {m : Mt} (h : isM m = true) (hl : likeS m = true) : patS m.value = true := by
  unfold isM at h
  rw [hl] at h
  simp only [Bool.and_eq_true, if_true] at h
  exact h.2
theorem pat_parse {s : ByteArray} (h : patS s = true) : ∃ x, parseS s = some x := by unfold patS at h; exact Option.isSome_iff_exists.1 h
theorem parse_sz' {s : ByteArray} {x : Rx} (h : parseS s = some x) : sz x ≤ 80 := parse_sz (fun x j h => (par_adv s 8 0 x j (Nat.zero_le _) h).2) h
theorem matchIs_ok (m : Mt) (w : World) : Fx Tryz.prog 186 [.agg #[.int .i64 m.kind, .string m.name, .string m.value]] w (fun u w' => u = .bool (isM m) ∧ Grow w w') := by
  cases hlk : likeS m with
  | false =>
    refine Fx.mono (isV_ok m hlk w) ?_
    rintro u w' ⟨rfl, hg⟩
    refine ⟨congrArg _ ?_, hg⟩
    unfold isM isV
    rw [hlk]; rfl
  | true =>
    refine enter Tryz.func186 rfl rfl rfl _ (Pick.sub (l := [0]) (.cons rfl .nil)) ?_
    refine RK.seq ?_
    refine RK.region ?_
    refine RL.op (.free rfl) rfl rfl (Does.box rfl) ?_
    rintro _ w1 ⟨b1, rfl, hn1⟩
    refine RL.p rfl rfl ?_
    refine RL.done ?_
    iterate 2 refine RK.seq ?_
    refine RK.region ?_
    refine RL.q (.free rfl) rfl rfl (Yld.fieldAddr fo135_1 rfl) ?_
    refine RL.q (.free rfl) rfl rfl (Yld.load p9 rfl (at1 (hn1.blk.cell rfl))) ?_
    refine RL.op (.free rfl) rfl rfl (Does.call rfl e219 (name_ok _ _)) ?_
    rintro _ _ ⟨rfl, rfl⟩
    refine RL.p rfl rfl ?_
    refine RL.done ?_
    first | refine RK.condD rfl (fun h8 => ?_) (fun h8 => ?_) | refine RK.condN rfl (fun h8 => ?_) (fun h8 => ?_) | refine RK.cond rfl (fun h8 => ?_) (fun h8 => ?_)
    · refine RK.seq ?_
      refine RK.region ?_
      refine RL.p rfl rfl ?_
      refine RL.done ?_
      refine RK.ret_of Tryz.func186 (res1 rfl rfl) ?_ _
      exact ⟨_, rfl, congrArg _ (by unfold isM; simp at h8; rw [h8]; rfl), hn1.grow⟩
    · refine RK.skip ?_
      iterate 2 refine RK.seq ?_
      refine RK.region ?_
      refine RL.q (.free rfl) rfl rfl (Yld.loadN (cs := [.int .i64 m.kind, .string m.name, .string m.value]) a135 rfl (atN (blk0' hn1.blk))) ?_
      refine RL.op (.free rfl) rfl rfl (Does.call rfl e229 (like_ok m _)) ?_
      rintro _ w2 ⟨rfl, hg2⟩
      refine RL.done ?_
      refine RK.condT (hcT rfl (hlk)) ?_
      refine RK.seq ?_
      refine RK.region ?_
      refine RL.q (.free rfl) rfl rfl (Yld.fieldAddr fo135_2 rfl) ?_
      refine RL.q (.free rfl) rfl rfl (Yld.load p9 rfl (at1 ((hn1.blk.mod hg2 (fun h => h)).cell rfl))) ?_
      refine RL.op (.free rfl) rfl rfl (Does.call rfl e230 (parse_ok m.value _)) ?_
      rintro _ w3 ⟨c, rfl, hg3, hx⟩
      iterate 3 refine RL.p rfl rfl ?_
      refine RL.op (.free rfl) rfl rfl (Does.alloc i224) ?_
      rintro _ w4 ⟨b3, rfl, hn3⟩
      refine RL.op' (.free rfl) rfl (Does.storeN i224 rfl rfl rfl rfl hn3.blk (Nat.le_refl 6)) ?_
      rintro _ w5 ⟨hb5, hm5, _⟩
      refine RL.p rfl rfl ?_
      refine RL.done ?_
      refine RK.seq ?_
      refine RK.region ?_
      iterate 2 refine RL.p rfl rfl ?_
      refine RL.done ?_
      refine RK.ret_of Tryz.func186 (res1 rfl rfl) ?_ _
      exact ⟨_, rfl, congrArg _ (by unfold isM patS; simp at h8; rw [h8, hlk]; rfl), (((hn1.grow.trans hg2).trans hg3).trans hn3.grow).then hm5 (fun y hy e => by have e' : y = b3 := e; have := hn3.at_; have := ((hn1.grow.trans hg2).trans hg3).size; omega)⟩
theorem program_ok (m : Mt) (hp : patS m.value = true) (w : World) : Fx Tryz.prog 211 [.agg #[.int .i64 m.kind, .string m.name, .string m.value]] w (fun u w' => (∃ v, u = .tuple #[v, .bool (fitS m.value)] ∧ (fitS m.value = true → ∃ x, parseS m.value = some x ∧ sz x + 1 ≤ 40 ∧ RowS w' v (whole x))) ∧ Grow w w') := by
  obtain ⟨x, hx⟩ := pat_parse hp
  have ht := parse_tr hx
  have hsz := parse_sz' hx
  have hfit : fitS m.value = decide (sz x + 1 ≤ 40) := by unfold fitS; rw [hx]
  refine enter Tryz.func211 rfl rfl rfl _ (Pick.sub (l := [0]) (.cons rfl .nil)) ?_
  refine RK.seq ?_
  refine RK.region ?_
  refine RL.op (.free rfl) rfl rfl (Does.box rfl) ?_
  rintro _ w1 ⟨b1, rfl, hn1⟩
  iterate 2 refine RL.p rfl rfl ?_
  refine RL.done ?_
  refine RK.seq ?_
  refine RK.region ?_
  refine RL.q (.free rfl) rfl rfl (Yld.fieldAddr fo135_2 rfl) ?_
  refine RL.q (.free rfl) rfl rfl (Yld.load p9 rfl (at1 (hn1.blk.cell rfl))) ?_
  refine RL.op (.free rfl) rfl rfl (Does.call rfl e230 (parse_ok m.value _)) ?_
  rintro _ w3 ⟨c, rfl, hg3, hxx⟩
  have hv3 := hxx x hx
  have hsm : (parseS m.value).isSome = true := by rw [hx]; rfl
  rw [hsm]
  iterate 3 refine RL.p rfl rfl ?_
  refine RL.op (.free rfl) rfl rfl (Does.alloc i224) ?_
  rintro _ w4 ⟨b3, rfl, hn3⟩
  refine RL.op' (.free rfl) rfl (Does.storeN i224 rfl rfl rfl rfl hn3.blk (Nat.le_refl 6)) ?_
  rintro _ w5 ⟨hb5, hm5, _⟩
  have hB5 : Blk w5 b3 224 (celC c) := hb5
  have hg5 : Grow w3 w5 := hn3.grow.then hm5 (fun y hy e => by have e' : y = b3 := e; have := hn3.at_; omega)
  refine RL.p rfl rfl ?_
  refine RL.done ?_
  iterate 2 refine RK.seq ?_
  refine RK.region ?_
  iterate 2 refine RL.p rfl rfl ?_
  refine RL.done ?_
  refine RK.condF (hcF rfl (rfl)) ?_
  refine RK.skip ?_
  refine RK.seq ?_
  refine RK.region ?_
  refine RL.q (.free rfl) rfl rfl (Yld.loadN (cs := celC c) a224 rfl (atN (blk0' hB5))) ?_
  refine RL.op (.free rfl) rfl rfl (Does.call rfl e257 (progMake_ok x ht (by omega) _ c _ (RxV.grow hg5 x hv3))) ?_
  rintro _ w6 ⟨⟨v, rfl, hrow⟩, hg6⟩
  iterate 4 refine RL.p rfl rfl ?_
  refine RL.done ?_
  refine RK.ret_of Tryz.func211 (res2 rfl rfl rfl) ?_ _
  exact ⟨_, rfl, ⟨v, by rw [hfit], fun hf => ⟨x, hx, by rw [hfit] at hf; simpa using hf, hrow (by rw [hfit] at hf; simpa using hf)⟩⟩, ((hn1.grow.trans hg3).trans hg5).trans hg6⟩
theorem large_no {m : Mt} (h : isM m = false) : largeM m = false := by unfold largeM; rw [h]; rfl
theorem large_no2 {m : Mt} (h : likeS m = false) : largeM m = false := by unfold largeM; rw [h]; simp
theorem large_yes {m : Mt} (h1 : isM m = true) (h2 : likeS m = true) : largeM m = !fitS m.value := by unfold largeM; rw [h1, h2]; rfl
theorem matchLarge_ok (m : Mt) (w : World) : Fx Tryz.prog 188 [.agg #[.int .i64 m.kind, .string m.name, .string m.value]] w (fun u w' => u = .bool (largeM m) ∧ Grow w w') := by
  refine enter Tryz.func188 rfl rfl rfl _ (Pick.sub (l := [0]) (.cons rfl .nil)) ?_
  refine RK.seq ?_
  refine RK.region ?_
  refine RL.op (.free rfl) rfl rfl (Does.box rfl) ?_
  rintro _ w1 ⟨b1, rfl, hn1⟩
  have hB1 : Blk w1 b1 135 [.int .i64 m.kind, .string m.name, .string m.value] := hn1.blk
  refine RL.p rfl rfl ?_
  refine RL.done ?_
  iterate 2 refine RK.seq ?_
  refine RK.region ?_
  refine RL.q (.free rfl) rfl rfl (Yld.loadN (cs := [.int .i64 m.kind, .string m.name, .string m.value]) a135 rfl (atN (blk0' hB1))) ?_
  refine RL.op (.free rfl) rfl rfl (Does.call rfl e229 (like_ok m _)) ?_
  rintro _ w2 ⟨rfl, hg2⟩
  have hB2 := hB1.mod hg2 (fun h => h)
  iterate 2 refine RL.p rfl rfl ?_
  first | refine RL.splitD (d := 8) rfl rfl (fun h8 => ?_) (fun h8 => ?_) | refine RL.splitN (d := 8) rfl rfl (fun h8 => ?_) (fun h8 => ?_) | refine RL.split (d := 8) rfl rfl (fun h8 => ?_) (fun h8 => ?_)
  · have hl : likeS m = false := by unfold likeS; simpa using h8
    iterate 3 refine RL.no (.no rfl rfl rfl rfl) rfl rfl ?_
    refine RL.p rfl rfl ?_
    refine RL.done ?_
    refine RK.condT (hcT rfl (rfl)) ?_
    refine RK.seq ?_
    refine RK.region ?_
    refine RL.p rfl rfl ?_
    refine RL.done ?_
    refine RK.ret_of Tryz.func188 (res1 rfl rfl) ?_ _
    exact ⟨_, rfl, by rw [large_no2 hl], hn1.grow.trans hg2⟩
  · have hl : likeS m = true := by unfold likeS; simpa using h8
    refine RL.q (.yes rfl rfl rfl) rfl rfl (Yld.loadN (cs := [.int .i64 m.kind, .string m.name, .string m.value]) a135 rfl (atN (blk0' hB2))) ?_
    refine RL.op (.yes rfl rfl rfl) rfl rfl (Does.call rfl e186 (matchIs_ok m _)) ?_
    rintro _ w3 ⟨rfl, hg3⟩
    have hB3 := hB2.mod hg3 (fun h => h)
    refine RL.q (.yes rfl rfl rfl) rfl rfl (Yld.pure rfl) ?_
    refine RL.p rfl rfl ?_
    refine RL.done ?_
    first | refine RK.condD rfl (fun h12 => ?_) (fun h12 => ?_) | refine RK.condN rfl (fun h12 => ?_) (fun h12 => ?_) | refine RK.cond rfl (fun h12 => ?_) (fun h12 => ?_)
    · have his : isM m = false := by simpa using h12
      refine RK.seq ?_
      refine RK.region ?_
      refine RL.p rfl rfl ?_
      refine RL.done ?_
      refine RK.ret_of Tryz.func188 (res1 rfl rfl) ?_ _
      exact ⟨_, rfl, by rw [large_no his], (hn1.grow.trans hg2).trans hg3⟩
    · have his : isM m = true := by simpa using h12
      refine RK.skip ?_
      refine RK.seq ?_
      refine RK.region ?_
      refine RL.q (.free rfl) rfl rfl (Yld.loadN (cs := [.int .i64 m.kind, .string m.name, .string m.value]) a135 rfl (atN (blk0' hB3))) ?_
      refine RL.op (.free rfl) rfl rfl (Does.call rfl e211 (program_ok m (isM_pat his hl) _)) ?_
      rintro _ w4 ⟨⟨v, rfl, _⟩, hg4⟩
      iterate 5 refine RL.p rfl rfl ?_
      refine RL.done ?_
      refine RK.seq ?_
      refine RK.region ?_
      iterate 3 refine RL.p rfl rfl ?_
      refine RL.done ?_
      refine RK.ret_of Tryz.func188 (res1 rfl rfl) ?_ _
      exact ⟨_, rfl, by rw [large_yes his hl], ((hn1.grow.trans hg2).trans hg3).trans hg4⟩
theorem matchHolds_ok (m : Mt) : HoldsC holdsM m := by
  intro M ls v w hz hv
  obtain ⟨ad, c, rfl⟩ := hv.shape
  have hgz := getL_size hz m.name
  refine enter Tryz.func157 rfl rfl rfl _ (Pick.sub (l := [0, 1]) (.cons rfl (.cons rfl .nil))) ?_
  refine RK.seq ?_
  refine RK.region ?_
  refine RL.op (.free rfl) rfl rfl (Does.box rfl) ?_
  rintro _ w1 ⟨b1, rfl, hn1⟩
  have hB1 : Blk w1 b1 135 [.int .i64 m.kind, .string m.name, .string m.value] := hn1.blk
  refine RL.p rfl rfl ?_
  refine RL.done ?_
  iterate 2 refine RK.seq ?_
  refine RK.region ?_
  refine RL.q (.free rfl) rfl rfl (Yld.loadN (cs := [.int .i64 m.kind, .string m.name, .string m.value]) a135 rfl (atN (blk0' hB1))) ?_
  refine RL.op (.free rfl) rfl rfl (Does.call rfl e186 (matchIs_ok m _)) ?_
  rintro _ w2 ⟨rfl, hg2⟩
  have hg02 := hn1.grow.trans hg2
  refine RL.p rfl rfl ?_
  refine RL.done ?_
  first | refine RK.condD rfl (fun h10 => ?_) (fun h10 => ?_) | refine RK.condN rfl (fun h10 => ?_) (fun h10 => ?_) | refine RK.cond rfl (fun h10 => ?_) (fun h10 => ?_)
  · refine RK.seq ?_
    refine RK.region ?_
    refine RL.p rfl rfl ?_
    refine RL.done ?_
    refine RK.ret_of Tryz.func157 (res1 rfl rfl) ?_ _
    exact ⟨_, rfl, congrArg _ (by simp at h10; unfold holdsM; rw [h10]; rfl), hg02⟩
  · have his : isM m = true := by simpa using h10
    have hk := isM_kind his
    refine RK.skip ?_
    refine RK.seq ?_
    refine RK.region ?_
    refine RL.p rfl rfl ?_
    refine RL.q (.free rfl) rfl rfl (Yld.fieldAddr fo135_1 rfl) ?_
    refine RL.q (.free rfl) rfl rfl (Yld.load p9 rfl (at1 ((hB1.mod hg2 (fun h => h)).cell rfl))) ?_
    refine RL.op (.free rfl) rfl rfl (Does.call rfl e198 (labelsGet_ok M ls _ m.name _ (hv.mod (Mod.any' hg02)))) ?_
    rintro _ w3 ⟨rfl, hg3⟩
    have hB3 := (hB1.mod hg2 (fun h => h)).mod hg3 (fun h => h)
    have hg03 := hg02.trans hg3
    refine RL.p rfl rfl ?_
    refine RL.done ?_
    iterate 2 refine RK.seq ?_
    refine RK.region ?_
    refine RL.q (.free rfl) rfl rfl (Yld.fieldAddr fo135_0 rfl) ?_
    refine RL.q (.free rfl) rfl rfl (Yld.load p3 rfl (at1 (hB3.cell rfl))) ?_
    refine RL.done ?_
    refine RK.block ?_
    refine RK.seq ?_
    refine RK.region ?_
    iterate 2 refine RL.p rfl rfl ?_
    refine RL.done ?_
    first | refine RK.condD rfl (fun h17 => ?_) (fun h17 => ?_) | refine RK.condN rfl (fun h17 => ?_) (fun h17 => ?_) | refine RK.cond rfl (fun h17 => ?_) (fun h17 => ?_)
    · have hnl : largeM m = false := large_no2 (by unfold likeS; simp; omega)
      refine RK.seq ?_
      refine RK.region ?_
      refine RL.p rfl rfl ?_
      refine RL.q (.free rfl) rfl rfl (Yld.fieldAddr fo135_2 rfl) ?_
      refine RL.q (.free rfl) rfl rfl (Yld.load p9 rfl (at1 (hB3.cell rfl))) ?_
      iterate 2 refine RL.p rfl rfl ?_
      refine RL.done ?_
      refine RK.ret_of Tryz.func157 (res1 rfl rfl) ?_ _
      exact ⟨_, rfl, congrArg _ (by unfold holdsM; rw [his, hnl, if_pos h17]; rfl), hg03⟩
    · refine RK.seq ?_
      refine RK.region ?_
      iterate 2 refine RL.p rfl rfl ?_
      refine RL.done ?_
      first | refine RK.condD rfl (fun h23 => ?_) (fun h23 => ?_) | refine RK.condN rfl (fun h23 => ?_) (fun h23 => ?_) | refine RK.cond rfl (fun h23 => ?_) (fun h23 => ?_)
      · have hnl : largeM m = false := large_no2 (by unfold likeS; simp; omega)
        refine RK.seq ?_
        refine RK.region ?_
        refine RL.p rfl rfl ?_
        refine RL.q (.free rfl) rfl rfl (Yld.fieldAddr fo135_2 rfl) ?_
        refine RL.q (.free rfl) rfl rfl (Yld.load p9 rfl (at1 (hB3.cell rfl))) ?_
        iterate 2 refine RL.p rfl rfl ?_
        refine RL.done ?_
        refine RK.ret_of Tryz.func157 (res1 rfl rfl) ?_ _
        exact ⟨_, rfl, congrArg _ (by unfold holdsM; rw [his, hnl, if_neg h17, if_pos h23]; rfl), hg03⟩
      · have hl : likeS m = true := by unfold likeS; simp; omega
        have hlg := large_yes his hl
        refine RK.skip ?_
        refine RK.inBlock ?_
        refine RK.seq ?_
        refine RK.region ?_
        refine RL.q (.free rfl) rfl rfl (Yld.loadN (cs := [.int .i64 m.kind, .string m.name, .string m.value]) a135 rfl (atN (blk0' hB3))) ?_
        refine RL.op (.free rfl) rfl rfl (Does.call rfl e211 (program_ok m (isM_pat his hl) _)) ?_
        rintro _ w4 ⟨⟨v4, rfl, hrow⟩, hg4⟩
        have hB4 := hB3.mod hg4 (fun h => h)
        have hg04 := hg03.trans hg4
        iterate 5 refine RL.p rfl rfl ?_
        refine RL.done ?_
        refine RK.seq ?_
        refine RK.drawM No [(0, false), (1, false), (2, false), (3, false), (5, false), (6, false), (7, false), (4, true), (8, false), (9, false), (10, false)] [] mixed (by kernel_rfl) ?_
        iterate 2 refine DL.p rfl rfl rfl ?_
        first | refine DL.splitD (d := 35) rfl rfl (fun h34 => ?_) (fun h34 => ?_) | refine DL.splitN (d := 35) rfl rfl (fun h34 => ?_) (fun h34 => ?_) | refine DL.split (d := 35) rfl rfl (fun h34 => ?_) (fun h34 => ?_)
        · obtain ⟨x, hx, hsz, hr⟩ := hrow h34
          obtain ⟨ad4, c4, rfl, hc4⟩ := hr.cap
          have hnl : largeM m = false := by rw [hlg, h34]; rfl
          have htk : takesS m.value (getL ls m.name) = takes x (getL ls m.name) := by unfold takesS; rw [hx]
          iterate 2 refine DL.qf rfl (.yes rfl rfl rfl) rfl rfl (Yld.pure rfl) ?_
          refine DL.qf rfl (.yes rfl rfl rfl) rfl rfl (Yld.fieldAddr fo135_0 rfl) ?_
          refine DL.q rfl (.yes rfl rfl rfl) rfl rfl rfl (Yld.load p3 rfl (atM (hB4.cell rfl) (fun h => h))) (Mod.drew _ _) ?_
          refine DL.qf rfl (.yes rfl rfl rfl) rfl rfl (Yld.pure rfl) ?_
          refine DL.op rfl (.yes rfl rfl rfl) rfl rfl (Does.call rfl e212 (scanMatch_ok x (parse_tr hx) hsz _ (getL ls m.name) (by omega) _ ((Sl.own hr (fun _ _ h => h)).mod (Mod.drew _ _)) ⟨ad4, c4, rfl, hc4⟩)) ?_
          rintro _ w5 ⟨rfl, hg5⟩
          have hgd : Grow w4 w5 := (Mod.drew _ _).trans hg5
          refine ⟨hgd, ?_⟩
          refine DL.qf rfl (.yes rfl rfl rfl) rfl rfl (Yld.eqBool u4 rfl rfl) ?_
          iterate 2 refine DL.p rfl rfl rfl ?_
          refine DL.done ?_
          refine RK.ret_of Tryz.func157 (res1 rfl rfl) ?_ _
          exact ⟨_, rfl, congrArg _ (by
              unfold holdsM
              rw [his, hnl, if_neg h17, if_neg h23, htk]
              cases takes x (getL ls m.name) <;> simp), hg04.trans hgd⟩
        · have hnl : largeM m = true := by rw [hlg, h34]; rfl
          iterate 5 refine DL.no rfl (.no rfl rfl rfl rfl) rfl rfl ?_
          refine DL.lno rfl (.no rfl rfl rfl rfl) rfl rfl ?_
          refine DL.no rfl (.no rfl rfl rfl rfl) rfl rfl ?_
          iterate 2 refine DL.p rfl rfl rfl ?_
          refine DL.done ?_
          refine RK.ret_of Tryz.func157 (res1 rfl rfl) ?_ _
          exact ⟨_, rfl, congrArg _ (by unfold holdsM; rw [his, hnl]; rfl), hg04.trans (Mod.drew _ _)⟩
end Go.Proofs.YthbjfhhiajihfaaGreat
set_option linter.unusedVariables false
set_option linter.unusedSimpArgs false
set_option maxHeartbeats 1000000
set_option maxRecDepth 100000
namespace Go.Proofs.YthbjfhhiajihfaaGreat
open Go Go.X Go.Rex
@[irreducible] def aheadM (x y : Mt) : Bool := if x.name ≠ y.name then slt x.name y.name else if x.kind ≠ y.kind then decide (x.kind < y.kind) else slt x.value y.value
theorem allOne_mts (xs : List Mt) : ((xs.flatMap mtC).all fun x => x.oneCell') = true := by
  rw [List.all_eq_true]
  intro u hu
  obtain ⟨x, _, hx⟩ := List.mem_flatMap.1 hu
  simp only [mtC, List.mem_cons, List.not_mem_nil, or_false] at hx
  rcases hx with rfl | rfl | rfl <;> rfl
end Go.Proofs.YthbjfhhiajihfaaGreat
set_option linter.unusedVariables false
set_option linter.unusedSimpArgs false
set_option maxHeartbeats 1000000
set_option maxRecDepth 100000
namespace Go.Proofs.YthbjfhhiajihfaaGreat
open Go Go.X Go.Rex
theorem cmpB : ∀ (a b : List UInt8), Lib.compareBytes a b = if Op.bytesLess a b = true then -1 else if a = b then 0 else 1
  | [], [] => by simp [Lib.compareBytes, Op.bytesLess]
  | [], _ :: _ => by simp [Lib.compareBytes, Op.bytesLess]
  | _ :: _, [] => by simp [Lib.compareBytes, Op.bytesLess]
  | a :: xs, b :: ys => by
    rw [Lib.compareBytes, cmpB xs ys, show Op.bytesLess (a :: xs) (b :: ys) = (decide (a < b) || (a == b && Op.bytesLess xs ys)) from rfl]
    by_cases h1 : a < b
    · simp [h1]
    · by_cases h2 : b < a
      · have : a ≠ b := by rintro rfl; exact h1 h2
        simp [h1, h2, this]
      · have : a = b := UInt8.le_antisymm (UInt8.not_lt.1 h2) (UInt8.not_lt.1 h1)
        subst this
        simp [h1]
theorem cmpS_ok (a b : ByteArray) (w : World) : Fx Tryz.prog 232 [.string a, .string b] w (fun u w' => u = .int .i64 (if slt a b = true then -1 else if a = b then 0 else 1) ∧ w = w') := by
  refine Calls.mono (Tryz.strings_Compare a b w) ?_
  rintro e w' ⟨rfl, rfl⟩
  refine ⟨_, rfl, ?_, rfl⟩
  rw [cmpB]
  unfold slt
  by_cases h : a = b
  · subst h; rw [bl_irrefl]; simp
  · rw [if_neg h, if_neg (fun e => h (data_inj e))]
def orS : List Int → Int
  | [] => 0
  | z :: l => if z ≠ 0 then z else orS l
theorem orI_ok (M : Nat → Prop) (l : List Int) (v : Value) (w : World) (hv : Sl M w v 1 l.length (ints l)) : Fx Tryz.prog 231 [v] w (fun u w' => u = .int .i64 (orS l) ∧ w = w') := by
  obtain ⟨ad, c, rfl⟩ := hv.shape
  have hbig := hv.big
  refine enter Tryz.func231 rfl rfl rfl _ (Pick.sub (l := [0]) (.cons rfl .nil)) ?_
  refine RK.seq ?_
  refine RK.region ?_
  refine RL.p rfl rfl ?_
  refine RL.done ?_
  refine RK.seq ?_
  refine RK.region ?_
  refine RL.p rfl rfl ?_
  refine RL.done ?_
  iterate 2 refine RK.seq ?_
  refine RK.region ?_
  refine RL.p rfl rfl ?_
  refine RL.q (.free rfl) rfl rfl (Yld.lenSl u37 rfl) ?_
  refine RL.p rfl rfl ?_
  refine RL.done ?_
  refine RK.block ?_
  refine RK.loop (fun k : Nat => [(3, .int .i64 0), (6, .slice ad l.length c), (7, .int .i64 (l.length : Int)), (8, .int .i64 (k : Int))]) (fun k w' => w = w' ∧ k ≤ l.length ∧ orS (l.drop k) = orS l) (fun k => l.length - k) 0 ⟨rfl, rfl, rfl, rfl, trivial⟩ ⟨rfl, by omega, rfl⟩ (fun k w' hI ih => ?_)
  obtain ⟨rfl, hk, hst⟩ := hI
  refine RK.seq ?_
  refine RK.region ?_
  refine RL.p rfl rfl ?_
  refine RL.done ?_
  refine RK.seq ?_
  first | refine RK.condD rfl (fun h9 => ?_) (fun h9 => ?_) | refine RK.condN rfl (fun h9 => ?_) (fun h9 => ?_) | refine RK.cond rfl (fun h9 => ?_) (fun h9 => ?_)
  · obtain ⟨z, hz⟩ : ∃ z, l[k]? = some z := ⟨l[k]'(by omega), List.getElem?_eq_getElem (by omega)⟩
    obtain ⟨b1, o1, c1', he1, _, _, hc1⟩ := hv.elem1 (k := k) (u := .int .i64 z) (by simp [hz])
    cases he1
    have hdr : l.drop k = z :: l.drop (k + 1) := by rw [List.drop_eq_getElem_cons (by omega), (List.getElem?_eq_some_iff.1 hz).2]
    rw [hdr] at hst
    refine RK.skip ?_
    refine RK.seq ?_
    refine RK.block ?_
    refine RK.seq ?_
    refine RK.region ?_
    refine RL.q (.free rfl) rfl rfl (Yld.indexAddrN u37 i3 rfl rfl (by omega)) ?_
    refine RL.q (.free rfl) rfl rfl (Yld.load p3 rfl (at1 (hc1 k (.int .i64 z) (by simp [hz])))) ?_
    refine RL.p rfl rfl ?_
    refine RL.done ?_
    refine RK.seq ?_
    refine RK.region ?_
    iterate 3 refine RL.p rfl rfl ?_
    refine RL.done ?_
    first | refine RK.condD rfl (fun h14 => ?_) (fun h14 => ?_) | refine RK.condN rfl (fun h14 => ?_) (fun h14 => ?_) | refine RK.cond rfl (fun h14 => ?_) (fun h14 => ?_)
    · refine RK.seq ?_
      refine RK.region ?_
      iterate 2 refine RL.p rfl rfl ?_
      refine RL.done ?_
      refine RK.ret_of Tryz.func231 (res1 rfl rfl) ?_ _
      exact ⟨_, rfl, by rw [← hst]; unfold orS; rw [if_pos h14], rfl⟩
    · have hst2 : orS (l.drop (k + 1)) = orS l := by rw [← hst]; conv => rhs; unfold orS; rw [if_neg h14]
      refine RK.skip ?_
      refine RK.inBlock ?_
      refine RK.region ?_
      refine RL.p rfl rfl ?_
      refine RL.re (d := 16) rfl rfl (succ_i64 (by omega)) ?_
      refine RL.p rfl rfl ?_
      refine RL.done ?_
      exact RK.back (ih (k + 1) _ ⟨rfl, by omega, hst2⟩ (by omega)) ⟨rfl, rfl, rfl, rfl, trivial⟩
  · rw [List.drop_eq_nil_of_le (by omega)] at hst
    refine RK.exit rfl ?_
    refine RK.seq ?_
    refine RK.region ?_
    iterate 2 refine RL.p rfl rfl ?_
    refine RL.done ?_
    refine RK.ret_of Tryz.func231 (res1 rfl rfl) ?_ _
    exact ⟨_, rfl, by rw [← hst]; rfl, rfl⟩
theorem ahead_or (x y : Mt) : (0 ≤ orS [if slt x.name y.name = true then -1 else if x.name = y.name then 0 else 1, Lib.compareInt x.kind y.kind, if slt x.value y.value = true then -1 else if x.value = y.value then 0 else 1]) ↔ aheadM x y = false := by
  obtain ⟨xk, xn, xv⟩ := x
  obtain ⟨yk, yn, yv⟩ := y
  unfold aheadM Lib.compareInt
  simp only
  by_cases h2 : xn = yn
  · subst h2
    simp only [slt_irrefl, Bool.false_eq_true, if_false, if_true, ne_eq, not_true_eq_false]
    by_cases h3 : xk < yk
    · have hne : xk ≠ yk := by omega
      simp [orS, h3, hne]
    · by_cases h4 : xk = yk
      · subst h4
        by_cases h5 : slt xv yv = true
        · simp [orS, h5]
        · by_cases h6 : xv = yv
          · subst h6; simp [orS, slt_irrefl]
          · simp [orS, h5, h6]
      · have h5 : yk < xk := by omega
        simp [orS, h3, h4, h5]
  · by_cases h1 : slt xn yn = true
    · simp [orS, h1, h2]
    · simp [orS, h1, h2]
theorem cmpM_ok (x y : Mt) (w : World) : Fx Tryz.prog 187 [.agg (mtC x).toArray, .agg (mtC y).toArray] w (fun u w' => (∃ c : Int, u = .int .i64 c ∧ (0 ≤ c ↔ aheadM x y = false)) ∧ Grow w w') := by
  refine enter Tryz.func187 rfl rfl rfl _ (Pick.sub (l := [0, 1]) (.cons rfl (.cons rfl .nil))) ?_
  refine RK.seq ?_
  refine RK.region ?_
  refine RL.op (.free rfl) rfl rfl (Does.box rfl) ?_
  rintro _ w1 ⟨b1, rfl, hn1⟩
  refine RL.op (.free rfl) rfl rfl (Does.box rfl) ?_
  rintro _ w2 ⟨b2, rfl, hn2⟩
  have hB1 : Blk w2 b1 135 [.int .i64 x.kind, .string x.name, .string x.value] := hn1.blk.mod hn2.grow (fun h => h)
  have hB2 : Blk w2 b2 135 [.int .i64 y.kind, .string y.name, .string y.value] := hn2.blk
  have hg2 := hn1.grow.trans hn2.grow
  refine RL.p rfl rfl ?_
  refine RL.done ?_
  refine RK.seq ?_
  refine RK.drawM No [(0, false), (1, false), (2, false), (3, false), (5, false), (6, false), (7, false), (8, false), (10, false), (11, false), (12, false), (13, false), (4, true), (9, true), (14, true), (15, true), (16, true), (17, false)] [] mixed (by kernel_rfl) ?_
  refine DL.qf rfl (.free rfl) rfl rfl (Yld.fieldAddr fo135_1 rfl) ?_
  refine DL.q rfl (.free rfl) rfl rfl rfl (Yld.load p9 rfl (atM (hB1.cell rfl) (fun h => h))) (Mod.drew _ _) ?_
  refine DL.qf rfl (.free rfl) rfl rfl (Yld.fieldAddr fo135_1 rfl) ?_
  refine DL.q rfl (.free rfl) rfl rfl rfl (Yld.load p9 rfl (atM (hB2.cell rfl) (fun h => h))) (Mod.drew _ _) ?_
  refine DL.qf rfl (.free rfl) rfl rfl (Yld.fieldAddr fo135_0 rfl) ?_
  refine DL.q rfl (.free rfl) rfl rfl rfl (Yld.load p3 rfl (atM (hB1.cell rfl) (fun h => h))) (Mod.drew _ _) ?_
  refine DL.qf rfl (.free rfl) rfl rfl (Yld.fieldAddr fo135_0 rfl) ?_
  refine DL.q rfl (.free rfl) rfl rfl rfl (Yld.load p3 rfl (atM (hB2.cell rfl) (fun h => h))) (Mod.drew _ _) ?_
  refine DL.qf rfl (.free rfl) rfl rfl (Yld.fieldAddr fo135_2 rfl) ?_
  refine DL.q rfl (.free rfl) rfl rfl rfl (Yld.load p9 rfl (atM (hB1.cell rfl) (fun h => h))) (Mod.drew _ _) ?_
  refine DL.qf rfl (.free rfl) rfl rfl (Yld.fieldAddr fo135_2 rfl) ?_
  refine DL.q rfl (.free rfl) rfl rfl rfl (Yld.load p9 rfl (atM (hB2.cell rfl) (fun h => h))) (Mod.drew _ _) ?_
  refine DL.op rfl (.free rfl) rfl rfl (Does.call rfl e232 (cmpS_ok _ _ _)) ?_
  rintro _ _ ⟨rfl, rfl⟩
  refine ⟨Mod.drew _ _, ?_⟩
  refine DL.op rfl (.free rfl) rfl rfl (Does.call rfl e160 (cmpInt_ok _ _ _)) ?_
  rintro _ _ ⟨rfl, rfl⟩
  refine ⟨Mod.drew _ _, ?_⟩
  refine DL.op rfl (.free rfl) rfl rfl (Does.call rfl e232 (cmpS_ok _ _ _)) ?_
  rintro _ _ ⟨rfl, rfl⟩
  refine ⟨Mod.drew _ _, ?_⟩
  refine DL.op rfl (.free rfl) rfl rfl (Does.bslice (el := 3) ([.int .i64 (if slt x.name y.name = true then -1 else if x.name = y.name then 0 else 1), .int .i64 (Lib.compareInt x.kind y.kind), .int .i64 (if slt x.value y.value = true then -1 else if x.value = y.value then 0 else 1)]) rfl (fun w => by kernel_rfl)) ?_
  rintro _ w3 ⟨b3, rfl, hn3⟩
  refine ⟨(Mod.drew _ _).trans hn3.grow, ?_⟩
  refine DL.op rfl (.free rfl) rfl rfl (Does.call rfl e231 (orI_ok No [_, _, _] _ _ (Sl.new hn3 1 3 rfl (by omega) (fun h => h)))) ?_
  rintro _ _ ⟨rfl, rfl⟩
  refine ⟨(Mod.drew _ _).trans hn3.grow, ?_⟩
  refine DL.p rfl rfl rfl ?_
  refine DL.done ?_
  refine RK.ret_of Tryz.func187 (res1 rfl rfl) ?_ _
  exact ⟨_, rfl, ⟨_, rfl, ahead_or x y⟩, hg2.trans ((Mod.drew _ _).trans hn3.grow)⟩
@[irreducible] def okM (ms : List Mt) (i : Nat) : Bool := match ms[i]? with
  | none => true
  | some x => isM x && (match i with
    | 0 => true
    | j + 1 => match ms[j]? with
      | none => true
      | some y => aheadM y x)
@[irreducible] def listM (ms : List Mt) : Bool := decide (ms.length ≤ 5) && (List.range ms.length).all (okM ms)
theorem okM_0 {ms : List Mt} {x : Mt} (hx : ms[0]? = some x) : okM ms 0 = isM x := by unfold okM; rw [hx]; simp
theorem okM_s {ms : List Mt} {j : Nat} {x y : Mt} (hx : ms[j + 1]? = some x) (hy : ms[j]? = some y) : okM ms (j + 1) = (isM x && aheadM y x) := by unfold okM; rw [hx]; simp only; rw [hy]
theorem listM_big {ms : List Mt} (h : 5 < ms.length) : listM ms = false := by unfold listM; rw [decide_eq_false (by omega)]; rfl
theorem listM_no {ms : List Mt} {i : Nat} (hi : i < ms.length) (h : okM ms i = false) : listM ms = false := by
  unfold listM
  rw [Bool.and_eq_false_iff]; right
  exact List.all_eq_false.2 ⟨i, List.mem_range.2 hi, by simp [h]⟩
theorem listM_yes {ms : List Mt} (h5 : ms.length ≤ 5) (h : ∀ i, i < ms.length → okM ms i = true) : listM ms = true := by
  unfold listM
  rw [decide_eq_true h5, Bool.true_and]
  exact List.all_eq_true.2 fun i hi => h i (List.mem_range.1 hi)
theorem matchList_ok (M : Nat → Prop) (ms : List Mt) (v : Value) (w : World) (hv : SlM M w v ms) : Fx Tryz.prog 136 [v] w (fun u w' => u = .bool (listM ms) ∧ Grow w w') := by
  obtain ⟨ad, c, rfl⟩ := hv.shape
  have hbig := hv.big
  refine enter Tryz.func136 rfl rfl rfl _ (Pick.sub (l := [0]) (.cons rfl .nil)) ?_
  refine RK.seq ?_
  refine RK.region ?_
  refine RL.p rfl rfl ?_
  refine RL.done ?_
  iterate 2 refine RK.seq ?_
  refine RK.region ?_
  refine RL.p rfl rfl ?_
  refine RL.q (.free rfl) rfl rfl (Yld.lenSl u24 rfl) ?_
  refine RL.p rfl rfl ?_
  refine RL.done ?_
  first | refine RK.condD rfl (fun h7 => ?_) (fun h7 => ?_) | refine RK.condN rfl (fun h7 => ?_) (fun h7 => ?_) | refine RK.cond rfl (fun h7 => ?_) (fun h7 => ?_)
  · refine RK.seq ?_
    refine RK.region ?_
    refine RL.p rfl rfl ?_
    refine RL.done ?_
    refine RK.ret_of Tryz.func136 (res1 rfl rfl) ?_ _
    exact ⟨_, rfl, by rw [listM_big (by omega)], Mod.refl _ _⟩
  · refine RK.skip ?_
    iterate 2 refine RK.seq ?_
    refine RK.region ?_
    refine RL.p rfl rfl ?_
    refine RL.q (.free rfl) rfl rfl (Yld.lenSl u24 rfl) ?_
    refine RL.p rfl rfl ?_
    refine RL.done ?_
    refine RK.block ?_
    refine RK.loop (fun k : Nat => [(0, .slice ad ms.length c), (8, .slice ad ms.length c), (9, .int .i64 (ms.length : Int)), (10, .int .i64 (k : Int))]) (fun k w' => Grow w w' ∧ k ≤ ms.length ∧ ∀ i, i < k → okM ms i = true) (fun k => ms.length - k) 0 ⟨rfl, rfl, rfl, rfl, trivial⟩ ⟨Mod.refl _ _, by omega, fun i hi => by omega⟩ (fun k w' hI ih => ?_)
    obtain ⟨hg, hk, hall⟩ := hI
    refine RK.seq ?_
    refine RK.region ?_
    refine RL.p rfl rfl ?_
    refine RL.done ?_
    refine RK.seq ?_
    first | refine RK.condD rfl (fun h11 => ?_) (fun h11 => ?_) | refine RK.condN rfl (fun h11 => ?_) (fun h11 => ?_) | refine RK.cond rfl (fun h11 => ?_) (fun h11 => ?_)
    · obtain ⟨x, hx⟩ : ∃ x, ms[k]? = some x := ⟨ms[k]'(by omega), List.getElem?_eq_getElem (by omega)⟩
      obtain ⟨b1, o1, c1', he1, _, _, hc1⟩ := hv.elem mtC_len hx
      cases he1
      refine RK.skip ?_
      refine RK.seq ?_
      refine RK.block ?_
      refine RK.seq ?_
      refine RK.region ?_
      refine RL.p rfl rfl ?_
      refine RL.q (.free rfl) rfl rfl (Yld.indexAddrN u24 i135 rfl rfl (by omega)) ?_
      refine RL.q (.free rfl) rfl rfl (Yld.loadN (cs := mtC x) a135 rfl (atN (fun q z hq => hg.cell (hc1 q z hq) (fun h => h)))) ?_
      refine RL.op (.free rfl) rfl rfl (Does.alloc i135) ?_
      rintro _ w4 ⟨b4, rfl, hn4⟩
      refine RL.p rfl rfl ?_
      refine RL.op' (.free rfl) rfl (Does.storeN i135 rfl rfl rfl rfl hn4.blk (Nat.le_refl 3)) ?_
      rintro _ w5 ⟨hb5, hm5, _⟩
      have hg5 : Grow w w5 := hg.trans (hn4.grow.then hm5 (fun y hy e => by have e' : y = b4 := e; have := hn4.at_; omega))
      refine RL.done ?_
      refine RK.seq ?_
      refine RK.drawM No [(0, false), (1, true), (2, false), (3, false), (4, false), (5, false), (6, false), (7, false), (8, false), (9, false), (10, false), (11, false), (12, false), (13, true), (14, false), (15, false), (16, false)] [] mixed (by kernel_rfl) ?_
      refine DL.q rfl (.free rfl) rfl rfl rfl (Yld.loadN (cs := mtC x) a135 rfl (atNM (blk0' hb5) (fun h => h))) (Mod.drew _ _) ?_
      refine DL.op rfl (.free rfl) rfl rfl (Does.call rfl e186 (matchIs_ok x _)) ?_
      rintro _ w6 ⟨rfl, hg6⟩
      refine ⟨(Mod.drew No _).trans hg6, ?_⟩
      iterate 2 refine DL.p rfl rfl rfl ?_
      first | refine DL.splitD (d := 18) rfl rfl (fun h17 => ?_) (fun h17 => ?_) | refine DL.splitN (d := 18) rfl rfl (fun h17 => ?_) (fun h17 => ?_) | refine DL.split (d := 18) rfl rfl (fun h17 => ?_) (fun h17 => ?_)
      · iterate 9 refine DL.no rfl (.no rfl rfl rfl rfl) rfl rfl ?_
        refine DL.lno rfl (.no rfl rfl rfl rfl) rfl rfl ?_
        iterate 2 refine DL.no rfl (.no rfl rfl rfl rfl) rfl rfl ?_
        refine DL.p rfl rfl rfl ?_
        refine DL.done ?_
        refine RK.condT rfl ?_
        refine RK.seq ?_
        refine RK.region ?_
        refine RL.p rfl rfl ?_
        refine RL.done ?_
        refine RK.ret_of Tryz.func136 (res1 rfl rfl) ?_ _
        exact ⟨_, rfl, by rw [listM_no (i := k) (by omega) (by
            have hf : isM x = false := by simpa using h17
            cases k with
            | zero => rw [okM_0 hx]; exact hf
            | succ j => rw [okM_s hx (List.getElem?_eq_getElem (by omega)), hf]; rfl)], hg5.trans ((Mod.drew No _).trans hg6)⟩
      · have hix : isM x = true := by simpa using h17
        iterate 3 refine DL.qf rfl (.yes rfl rfl rfl) rfl rfl (Yld.pure rfl) ?_
        first | refine DL.splitD (d := 21) rfl rfl (fun h20 => ?_) (fun h20 => ?_) | refine DL.splitN (d := 21) rfl rfl (fun h20 => ?_) (fun h20 => ?_) | refine DL.split (d := 21) rfl rfl (fun h20 => ?_) (fun h20 => ?_)
        · obtain ⟨j, rfl⟩ : ∃ j, k = j + 1 := ⟨k - 1, by omega⟩
          obtain ⟨y, hy⟩ : ∃ y, ms[j]? = some y := ⟨ms[j]'(by omega), List.getElem?_eq_getElem (by omega)⟩
          obtain ⟨b2, o2, c2', he2, _, _, hc2⟩ := hv.elem mtC_len hy
          cases he2
          iterate 3 refine DL.qf rfl (.yes rfl rfl rfl) rfl rfl (Yld.pure rfl) ?_
          refine DL.re (d := 24) rfl rfl (sub_i64 (z := (j : Int)) (by omega) (by omega) (by omega)) ?_
          refine DL.qf rfl (.yes rfl rfl rfl) rfl rfl (Yld.indexAddrN u24 i135 rfl rfl (by omega)) ?_
          refine DL.q rfl (.yes rfl rfl rfl) rfl rfl rfl (Yld.loadN (cs := mtC y) a135 rfl (atNM (fun q z hq => hg5.cell (hc2 q z hq) (fun h => h)) (fun h => h))) ((Mod.drew No _).trans hg6) ?_
          refine DL.q rfl (.yes rfl rfl rfl) rfl rfl rfl (Yld.loadN (cs := mtC x) a135 rfl (atNM (blk0' hb5) (fun h => h))) ((Mod.drew No _).trans hg6) ?_
          refine DL.op rfl (.yes rfl rfl rfl) rfl rfl (Does.call rfl e187 (cmpM_ok y x _)) ?_
          rintro _ w7 ⟨⟨cc, rfl, hcc⟩, hg7⟩
          have hg8 := hg5.trans (((Mod.drew No _).trans hg6).trans hg7)
          refine ⟨((Mod.drew No _).trans hg6).trans hg7, ?_⟩
          iterate 2 refine DL.qf rfl (.yes rfl rfl rfl) rfl rfl (Yld.pure rfl) ?_
          refine DL.p rfl rfl rfl ?_
          refine DL.done ?_
          first | refine RK.condD rfl (fun h29 => ?_) (fun h29 => ?_) | refine RK.condN rfl (fun h29 => ?_) (fun h29 => ?_) | refine RK.cond rfl (fun h29 => ?_) (fun h29 => ?_)
          · refine RK.seq ?_
            refine RK.region ?_
            refine RL.p rfl rfl ?_
            refine RL.done ?_
            refine RK.ret_of Tryz.func136 (res1 rfl rfl) ?_ _
            exact ⟨_, rfl, by rw [listM_no (i := j + 1) (by omega) (by rw [okM_s hx hy, hix, hcc.1 h29]; rfl)], hg8⟩
          · have hay : aheadM y x = true := eq_true_of_ne_false fun hq => h29 (hcc.2 hq)
            refine RK.skip ?_
            refine RK.inBlock ?_
            refine RK.region ?_
            refine RL.p rfl rfl ?_
            refine RL.re (d := 32) rfl rfl (succ_i64 (by omega)) ?_
            refine RL.p rfl rfl ?_
            refine RL.done ?_
            exact RK.back (ih (j + 1 + 1) _ ⟨hg8, by omega, fun i hi => by by_cases e : i = j + 1; (subst e; rw [okM_s hx hy, hix, hay]; rfl); exact hall i (by omega)⟩ (by omega)) ⟨rfl, rfl, rfl, rfl, trivial⟩
        · have hk0 : k = 0 := by omega
          subst hk0
          iterate 6 refine DL.no rfl (.no rfl rfl rfl rfl) rfl rfl ?_
          refine DL.lno rfl (.no rfl rfl rfl rfl) rfl rfl ?_
          refine DL.no rfl (.no rfl rfl rfl rfl) rfl rfl ?_
          refine DL.qf rfl (.yes rfl rfl rfl) rfl rfl (Yld.pure rfl) ?_
          refine DL.p rfl rfl rfl ?_
          refine DL.done ?_
          refine RK.condF rfl ?_
          refine RK.skip ?_
          refine RK.inBlock ?_
          refine RK.region ?_
          refine RL.p rfl rfl ?_
          refine RL.re (d := 32) rfl rfl (succ_i64 (by omega)) ?_
          refine RL.p rfl rfl ?_
          refine RL.done ?_
          exact RK.back (ih (0 + 1) _ ⟨hg5.trans ((Mod.drew No _).trans hg6), by omega, fun i hi => by by_cases e : i = 0; (subst e; rw [okM_0 hx]; exact hix); omega⟩ (by omega)) ⟨rfl, rfl, rfl, rfl, trivial⟩
    · refine RK.exit rfl ?_
      refine RK.seq ?_
      refine RK.region ?_
      refine RL.p rfl rfl ?_
      refine RL.done ?_
      refine RK.ret_of Tryz.func136 (res1 rfl rfl) ?_ _
      exact ⟨_, rfl, by rw [listM_yes (by omega) (fun i hi => hall i (by omega))], hg⟩
end Go.Proofs.YthbjfhhiajihfaaGreat
