/- What the claim stands on, part 6. Of own lemmas only those that it reaches. -/
import Derived.Test.YtffbcfcoddacmaaGreatKi5
set_option linter.unusedVariables false
set_option linter.unusedSimpArgs false
set_option maxHeartbeats 1000000
set_option maxRecDepth 100000
namespace Go.Proofs.YtffbcfcoddacmaaGreat
open Go Go.X Go.Rex
theorem next_steps (P : List Stp) (hP : OkP P) (H : List Nat → Nat → Prop) (kk m c : Nat) (hc : c < 256) (hm : m < 18446744073709551616) (hH : ∀ t, H t kk ↔ inB t c = true) (hnow : Now P H kk m) (v : Value) (w : World) (hv : SlS No w v P) : Fx Tryz.prog 203 [v, .int .u64 (m : Int), .int .u8 (c : Int)] w (fun u w' => ∃ r : Nat, u = .int .u64 (r : Int) ∧ r < 18446744073709551616 ∧ Now P H (kk + 1) r ∧ Grow w w') := by
  have hle := hP.le
  obtain ⟨ad, cp, rfl⟩ := hv.shape
  have e1 : IntKind.u8.wrap ((c : Int).tdiv 64) = ((c / 64 : Nat) : Int) := by
    have e2 : (c : Int).tdiv 64 = ((c / 64 : Nat) : Int) := by rw [Int.tdiv_eq_ediv_of_nonneg (by omega)]; omega
    rw [e2]; exact Go.X.wrap_u8 (by omega)
  have e3 : (c : Int).tmod 64 = ((c % 64 : Nat) : Int) := by rw [Int.tmod_eq_emod_of_nonneg (by omega)]; omega
  refine enter Tryz.func203 rfl rfl rfl _ (Pick.sub (l := [0, 1, 2]) (.cons rfl (.cons rfl (.cons rfl .nil)))) ?_
  refine RK.seq ?_
  refine RK.region ?_
  refine RL.p rfl rfl ?_
  refine RL.done ?_
  refine RK.seq ?_
  refine RK.region ?_
  refine RL.op (.free rfl) rfl rfl (Does.alloc i36) ?_
  rintro _ w1 ⟨b7, rfl, hn7⟩
  refine RL.op' (.free rfl) rfl (Does.store i36 rfl rfl rfl hn7.blk (.z)) ?_
  rintro _ w2 ⟨hb2, hm2, _⟩
  have hb7 := hn7.at_
  have hg2 : Grow w w2 := hn7.grow.then hm2 (fun y hy e => by have e' : y = b7 := e; omega)
  have hv2 : SlS (· = b7) w2 (.slice ad P.length cp) P := hv.pass (by omega) hg2 (fun b e => .inr (by have e' : b = b7 := e; omega))
  refine RL.p rfl rfl ?_
  refine RL.done ?_
  iterate 2 refine RK.seq ?_
  refine RK.region ?_
  refine RL.p rfl rfl ?_
  refine RL.q (.free rfl) rfl rfl (Yld.lenSl u198 rfl) ?_
  refine RL.p rfl rfl ?_
  refine RL.done ?_
  refine RK.block ?_
  refine RK.loop (fun s : Nat × Nat × Nat => [(0, .slice ad P.length cp), (1, .int .u64 (m : Int)), (2, .int .u8 (c : Int)), (7, pp b7), (8, .int .u64 (s.2.2 : Int)), (11, .slice ad P.length cp), (12, .int .i64 (P.length : Int)), (13, .int .i64 (s.1 : Int))]) (fun s w' => s.1 ≤ P.length ∧ PU w' b7 s.2.1 ∧ s.2.1 < 18446744073709551616 ∧ s.2.2 < 18446744073709551616 ∧ NextI P H m kk s.1 s.2.1 s.2.2 ∧ Mod (· = b7) w2 w') (fun s => P.length - s.1) (0, 0, 0) ⟨rfl, rfl, rfl, rfl, rfl, rfl, rfl, rfl, trivial⟩ ⟨by simp, hb2, by simp, by simp, NextI.zero, Mod.refl _ _⟩ (fun s w3 hI ih => ?_)
  obtain ⟨i, been, to⟩ := s
  obtain ⟨hi, hb3, hbe, hto, hN, hm3⟩ := hI
  simp only at hi hb3 hbe hto hN
  refine RK.seq ?_
  refine RK.region ?_
  refine RL.p rfl rfl ?_
  refine RL.done ?_
  refine RK.seq ?_
  first | refine RK.condD rfl (fun h14 => ?_) (fun h14 => ?_) | refine RK.condN rfl (fun h14 => ?_) (fun h14 => ?_) | refine RK.cond rfl (fun h14 => ?_) (fun h14 => ?_)
  · have hil : i < P.length := by simp only at h14; omega
    obtain ⟨s, hs⟩ : ∃ s, P[i]? = some s := ⟨P[i]'hil, List.getElem?_eq_getElem hil⟩
    obtain ⟨hw4, hok⟩ := hP.at_ i s hs
    obtain ⟨b2, o2, c2, he, hb2n, _, hcl⟩ := hv2.elem stC_len hs
    cases he
    obtain ⟨op, t, sa, sb⟩ := s
    obtain ⟨x0, x1, x2, x3, hte⟩ := W4.four hw4
    simp only at hte
    subst hte
    refine RK.skip ?_
    refine RK.seq ?_
    refine RK.block ?_
    refine RK.seq ?_
    refine RK.region ?_
    refine RL.p rfl rfl ?_
    refine RL.q (.free rfl) rfl rfl (Yld.indexAddrN u198 i235 rfl rfl (hil)) ?_
    refine RL.q (.free rfl) rfl rfl (Yld.loadN (cs := stC ⟨op, [x0, x1, x2, x3], sa, sb⟩) a235 rfl (atN (fun j u hj => hm3.cell (hcl j u hj) hb2n))) ?_
    refine RL.op (.free rfl) rfl rfl (Does.alloc i235) ?_
    rintro _ w4 ⟨b10, rfl, hn10⟩
    refine RL.p rfl rfl ?_
    refine RL.op' (.free rfl) rfl (Does.storeN i235 rfl rfl rfl rfl hn10.blk (Nat.le_refl 7)) ?_
    rintro _ w5 ⟨hb5, hm5, _⟩
    have hb7l := hb3.lt
    have hb10 := hn10.at_
    have hB5 : Blk w5 b10 235 [.int .i64 (op : Int), .int .u64 (x0 : Int), .int .u64 (x1 : Int), .int .u64 (x2 : Int), .int .u64 (x3 : Int), .int .i64 (sa : Int), .int .i64 (sb : Int)] := hb5
    have hg5 : Grow w3 w5 := hn10.grow.then hm5 (fun y hy e => by have e' : y = b10 := e; omega)
    have hb5' := hb3.mod hg5 (fun h => h)
    have hm25 : Mod (· = b7) w2 w5 := hm3.trans (Mod.any' hg5)
    obtain ⟨y, hy⟩ : ∃ y, [x0, x1, x2, x3][c / 64]? = some y := ⟨_, List.getElem?_eq_getElem (by show c / 64 < 4; omega)⟩
    have hyl := hw4.2 y (List.mem_of_getElem? hy)
    have hcy : w5.cell? ⟨b10, 0 + 1 + c / 64 * 1, none⟩ = some (.int .u64 (y : Int)) := by
        rw [Nat.mul_one]; exact blk_set4s hB5 (c / 64) _ (by rw [List.getElem?_map, hy]; rfl)
    have hin : inB [x0, x1, x2, x3] c = y.testBit (c % 64) := by unfold inB; rw [hy]; rfl
    refine RL.done ?_
    refine RK.seq ?_
    refine RK.region ?_
    iterate 2 refine RL.p rfl rfl ?_
    refine RL.q (.free rfl) rfl rfl (Yld.shr rfl rfl (by simp [IntKind.bits]; omega)) ?_
    refine RL.p rfl rfl ?_
    refine RL.re (d := 21) rfl rfl (congrArg (Value.int .u64) (Go.X.u64_and (b := 1) (shr64 hm i) (by decide))) ?_
    iterate 2 refine RL.p rfl rfl ?_
    first | refine RL.splitD (d := 23) rfl rfl (fun h23 => ?_) (fun h23 => ?_) | refine RL.splitN (d := 23) rfl rfl (fun h23 => ?_) (fun h23 => ?_) | refine RL.split (d := 23) rfl rfl (fun h23 => ?_) (fun h23 => ?_)
    · have hbit := (bit1I m i).1 h23
      refine RL.q (.yes rfl rfl rfl) rfl rfl (Yld.fieldAddr fo235_0 rfl) ?_
      refine RL.q (.yes rfl rfl rfl) rfl rfl (Yld.load p3 rfl (at1 (hB5.cell rfl))) ?_
      refine RL.q (.yes rfl rfl rfl) rfl rfl (Yld.pure rfl) ?_
      iterate 2 refine RL.p rfl rfl ?_
      first | refine RL.splitD (d := 28) rfl rfl (fun h28 => ?_) (fun h28 => ?_) | refine RL.splitN (d := 28) rfl rfl (fun h28 => ?_) (fun h28 => ?_) | refine RL.split (d := 28) rfl rfl (fun h28 => ?_) (fun h28 => ?_)
      · have ho : op = 1 := by have h := h28; omega
        subst ho
        have hil1 : i + 1 < P.length := by
            rcases hok with ⟨h1, _⟩ | ⟨_, h1⟩
            · exact h1
            · cases h1
        refine RL.q (.yes rfl rfl rfl) rfl rfl (Yld.pure rfl) ?_
        refine RL.q (.yes rfl rfl rfl) rfl rfl (Yld.quo rfl rfl (by omega)) ?_
        refine RL.re (d := 30) rfl rfl (congrArg (Value.int .u8) e1) ?_
        refine RL.q (.yes rfl rfl rfl) rfl rfl (Yld.fieldAddr fo235_1 rfl) ?_
        refine RL.q (.yes rfl rfl rfl) rfl rfl (Yld.indexArr Tryz.underlying207 i36 rfl rfl (by omega)) ?_
        refine RL.q (.yes rfl rfl rfl) rfl rfl (Yld.load p36 rfl (at1 (hcy))) ?_
        refine RL.q (.yes rfl rfl rfl) rfl rfl (Yld.pure rfl) ?_
        refine RL.q (.yes rfl rfl rfl) rfl rfl (Yld.rem rfl rfl (by omega)) ?_
        refine RL.re (d := 35) rfl rfl (congrArg (Value.int .u8) e3) ?_
        refine RL.q (.yes rfl rfl rfl) rfl rfl (Yld.shr rfl rfl (by simp [IntKind.bits]; omega)) ?_
        refine RL.q (.yes rfl rfl rfl) rfl rfl (Yld.pure rfl) ?_
        refine RL.re (d := 37) rfl rfl (congrArg (Value.int .u64) (Go.X.u64_and (b := 1) (shr64 hyl (c % 64)) (by decide))) ?_
        refine RL.q (.yes rfl rfl rfl) rfl rfl (Yld.pure rfl) ?_
        refine RL.p rfl rfl ?_
        refine RL.done ?_
        first | refine RK.condD rfl (fun h39 => ?_) (fun h39 => ?_) | refine RK.condN rfl (fun h39 => ?_) (fun h39 => ?_) | refine RK.cond rfl (fun h39 => ?_) (fun h39 => ?_)
        · have hin1 := hin.trans ((bit1I y (c % 64)).1 h39)
          refine RK.region ?_
          iterate 4 refine RL.p rfl rfl ?_
          refine RL.re (d := 43) rfl rfl (succ_i64 (by omega)) ?_
          refine RL.op (.free rfl) rfl rfl (Does.call rfl e234 (come_ok P hP _ b7 _ (i + 1) been (Nat.le_refl _) hil1 hbe _ (hv2.mod hm25) hb5')) ?_
          rintro _ w6 ⟨r, b', rfl, hr, hb', hcome, hb6, hm6⟩
          refine RL.p rfl rfl ?_
          refine RL.re (d := 45) rfl rfl (congrArg (Value.int .u64) (Go.X.u64_or hto hr)) ?_
          refine RL.p rfl rfl ?_
          refine RL.done ?_
          refine RK.inBlock ?_
          refine RK.region ?_
          refine RL.p rfl rfl ?_
          refine RL.re (d := 46) rfl rfl (succ_i64 (by omega)) ?_
          refine RL.p rfl rfl ?_
          refine RL.done ?_
          exact RK.back (ih (i + 1, b', to ||| r) _ ⟨by simp only; omega, hb6, hb', lt64 hto hr, hN.yes hbit hs rfl ((hH _).2 hin1) hcome, hm25.trans hm6⟩ (by simp only; omega)) ⟨rfl, rfl, rfl, rfl, rfl, rfl, rfl, rfl, trivial⟩
        · refine RK.skip ?_
          refine RK.inBlock ?_
          refine RK.region ?_
          refine RL.p rfl rfl ?_
          refine RL.re (d := 46) rfl rfl (succ_i64 (by omega)) ?_
          refine RL.p rfl rfl ?_
          refine RL.done ?_
          exact RK.back (ih (i + 1, been, to) _ ⟨by simp only; omega, hb5', hbe, hto, hN.no fun st h1 h2 h3 h4 => by
              rw [hs] at h2; cases h2
              have h5 := (hH _).1 h4
              rw [hin] at h5
              exact h39 ((bit1I y (c % 64)).2 h5)
            , hm25⟩ (by simp only; omega)) ⟨rfl, rfl, rfl, rfl, rfl, rfl, rfl, rfl, trivial⟩
      · iterate 10 refine RL.no (.no rfl rfl rfl rfl) rfl rfl ?_
        refine RL.p rfl rfl ?_
        refine RL.done ?_
        refine RK.condF (hcF rfl (rfl)) ?_
        refine RK.skip ?_
        refine RK.inBlock ?_
        refine RK.region ?_
        refine RL.p rfl rfl ?_
        refine RL.re (d := 46) rfl rfl (succ_i64 (by omega)) ?_
        refine RL.p rfl rfl ?_
        refine RL.done ?_
        exact RK.back (ih (i + 1, been, to) _ ⟨by simp only; omega, hb5', hbe, hto, hN.no fun st h1 h2 h3 h4 => by
            rw [hs] at h2; cases h2
            have h := h28; simp only at h3; omega
          , hm25⟩ (by simp only; omega)) ⟨rfl, rfl, rfl, rfl, rfl, rfl, rfl, rfl, trivial⟩
    · iterate 3 refine RL.no (.no rfl rfl rfl rfl) rfl rfl ?_
      iterate 2 refine RL.p rfl rfl ?_
      iterate 10 refine RL.no (.no rfl rfl rfl rfl) rfl rfl ?_
      refine RL.p rfl rfl ?_
      refine RL.done ?_
      refine RK.condF (hcF rfl (rfl)) ?_
      refine RK.skip ?_
      refine RK.inBlock ?_
      refine RK.region ?_
      refine RL.p rfl rfl ?_
      refine RL.re (d := 46) rfl rfl (succ_i64 (by omega)) ?_
      refine RL.p rfl rfl ?_
      refine RL.done ?_
      exact RK.back (ih (i + 1, been, to) _ ⟨by simp only; omega, hb5', hbe, hto, hN.no fun st h1 h2 h3 h4 => h23 ((bit1I m i).2 h1), hm25⟩ (by simp only; omega)) ⟨rfl, rfl, rfl, rfl, rfl, rfl, rfl, rfl, trivial⟩
  · have hie : i = P.length := by simp only at h14; omega
    subst hie
    refine RK.exit rfl ?_
    refine RK.seq ?_
    refine RK.region ?_
    iterate 2 refine RL.p rfl rfl ?_
    refine RL.done ?_
    refine RK.ret_of Tryz.func203 (res1 rfl rfl) ?_ _
    exact ⟨_, rfl, to, rfl, hto, hnow.next hN, hg2.then hm3 (fun y hy e => by have e' : y = b7 := e; omega)⟩
theorem scanMatch_ok (x : Rx) (ht : Tr false x) (hsz : sz x + 1 ≤ 40) (v : Value) (s : ByteArray) (hs : s.size ≤ 9223372036854775806) (w : World) (hv : SlS No w v (whole x)) (hcap : ∃ ad c, v = .slice ad (whole x).length c ∧ (whole x).length ≤ c) : Fx Tryz.prog 167 [v, .string s] w (fun u w' => u = .bool (takes x s) ∧ Grow w w') := by
  have hP := whole_ok ht hsz
  have hw := tr_wf x false ht
  obtain ⟨P, hPe⟩ : ∃ P, whole x = P := ⟨_, rfl⟩
  have hle := hP.le
  rw [hPe] at hP hv hcap hle
  obtain ⟨ad, cp, rfl, hc⟩ := hcap
  have hend : ∀ k m, Now P (HS s) k m → ((∃ c st, m.testBit c = true ∧ P[c]? = some st ∧ st.op = 4) ↔ Lg (HS s) x true 0 k) := fun k m hm => by rw [← hPe] at hm ⊢; exact whole_match hw.1 hw.2.1 hm
  refine enter Tryz.func167 rfl rfl rfl _ (Pick.sub (l := [0, 1]) (.cons rfl (.cons rfl .nil))) ?_
  refine RK.seq ?_
  refine RK.region ?_
  refine RL.p rfl rfl ?_
  refine RL.done ?_
  iterate 2 refine RK.seq ?_
  refine RK.region ?_
  refine RL.p rfl rfl ?_
  refine RL.op (.free rfl) rfl rfl (Does.call rfl e201 (check_ok P hP ad cp hc _ hv)) ?_
  rintro _ w1 ⟨rfl, hg1⟩
  refine RL.p rfl rfl ?_
  refine RL.done ?_
  refine RK.condF (hcF rfl (rfl)) ?_
  refine RK.skip ?_
  refine RK.seq ?_
  refine RK.region ?_
  refine RL.p rfl rfl ?_
  refine RL.op (.free rfl) rfl rfl (Does.call rfl e202 (start_ok P hP (HS s) _ _ (hv.mod hg1))) ?_
  rintro _ w2 ⟨r, rfl, hr, hn0, hg2⟩
  have hg02 := hg1.trans hg2
  refine RL.p rfl rfl ?_
  refine RL.done ?_
  iterate 2 refine RK.seq ?_
  refine RK.region ?_
  refine RL.p rfl rfl ?_
  refine RL.q (.free rfl) rfl rfl (Yld.lenStr u9 rfl) ?_
  refine RL.p rfl rfl ?_
  refine RL.done ?_
  refine RK.block ?_
  refine RK.loop (fun t : Nat × Nat => [(0, .slice ad P.length cp), (1, .string s), (5, .int .u64 (t.2 : Int)), (15, .int .i64 (s.size : Int)), (16, .int .i64 (t.1 : Int))]) (fun t w' => t.1 ≤ s.size ∧ t.2 < 18446744073709551616 ∧ Now P (HS s) t.1 t.2 ∧ Grow w w') (fun t => s.size - t.1) (0, r) ⟨rfl, rfl, rfl, rfl, rfl, trivial⟩ ⟨by simp, hr, hn0, hg02⟩ (fun t w3 hI ih => ?_)
  obtain ⟨k, m⟩ := t
  obtain ⟨hk, hm, hn, hg⟩ := hI
  simp only at hk hm hn
  refine RK.seq ?_
  refine RK.region ?_
  refine RL.p rfl rfl ?_
  refine RL.done ?_
  refine RK.seq ?_
  first | refine RK.condD rfl (fun h17 => ?_) (fun h17 => ?_) | refine RK.condN rfl (fun h17 => ?_) (fun h17 => ?_) | refine RK.cond rfl (fun h17 => ?_) (fun h17 => ?_)
  · have hks : k < s.size := by simp only at h17; omega
    refine RK.skip ?_
    refine RK.seq ?_
    refine RK.block ?_
    refine RK.seq ?_
    refine RK.region ?_
    iterate 2 refine RL.p rfl rfl ?_
    refine RL.done ?_
    refine RK.region ?_
    iterate 4 refine RL.p rfl rfl ?_
    refine RL.q (.free rfl) rfl rfl (Yld.idxStrN u9 rfl rfl (hks)) ?_
    refine RL.op (.free rfl) rfl rfl (Does.call rfl e203 (next_steps P hP (HS s) k m (b8 s k) (b8_lt s k) hm (fun t => ⟨fun h => h.2, fun h => ⟨hks, h⟩⟩) hn _ _ (hv.mod hg))) ?_
    rintro _ w4 ⟨r', rfl, hr', hn', hg4⟩
    refine RL.p rfl rfl ?_
    refine RL.done ?_
    refine RK.inBlock ?_
    refine RK.region ?_
    refine RL.p rfl rfl ?_
    refine RL.re (d := 25) rfl rfl (succ_i64 (by omega)) ?_
    refine RL.p rfl rfl ?_
    refine RL.done ?_
    exact RK.back (ih (k + 1, r') _ ⟨by simp only; omega, hr', hn', hg.trans hg4⟩ (by simp only; omega)) ⟨rfl, rfl, rfl, rfl, rfl, trivial⟩
  · have hke : k = s.size := by simp only at h17; omega
    subst hke
    have he := hend _ _ hn
    refine RK.exit rfl ?_
    iterate 2 refine RK.seq ?_
    refine RK.region ?_
    refine RL.p rfl rfl ?_
    refine RL.q (.free rfl) rfl rfl (Yld.lenSl u198 rfl) ?_
    refine RL.p rfl rfl ?_
    refine RL.done ?_
    refine RK.block ?_
    refine RK.loop (fun i : Nat => [(5, .int .u64 (m : Int)), (26, .slice ad P.length cp), (27, .int .i64 (P.length : Int)), (28, .int .i64 (i : Int))]) (fun i w' => i ≤ P.length ∧ Grow w w' ∧ ∀ c st, c < i → m.testBit c = true → P[c]? = some st → st.op ≠ 4) (fun i => P.length - i) 0 ⟨rfl, rfl, rfl, rfl, trivial⟩ ⟨by omega, hg, fun c st h => by omega⟩ (fun i w4 hI2 ih2 => ?_)
    obtain ⟨hi, hg4, hno⟩ := hI2
    refine RK.seq ?_
    refine RK.region ?_
    refine RL.p rfl rfl ?_
    refine RL.done ?_
    refine RK.seq ?_
    first | refine RK.condD rfl (fun h29 => ?_) (fun h29 => ?_) | refine RK.condN rfl (fun h29 => ?_) (fun h29 => ?_) | refine RK.cond rfl (fun h29 => ?_) (fun h29 => ?_)
    · obtain ⟨st, hst⟩ : ∃ st, P[i]? = some st := ⟨P[i]'(by omega), List.getElem?_eq_getElem (by omega)⟩
      obtain ⟨b2, o2, c2, hce, _, _, hcl⟩ := hv.elem stC_len hst
      cases hce
      refine RK.skip ?_
      refine RK.seq ?_
      refine RK.block ?_
      refine RK.seq ?_
      refine RK.region ?_
      refine RL.p rfl rfl ?_
      refine RL.q (.free rfl) rfl rfl (Yld.indexAddrN u198 i235 rfl rfl (by omega)) ?_
      refine RL.q (.free rfl) rfl rfl (Yld.loadN (cs := stC st) a235 rfl (atN (fun j u hj => hg4.cell (hcl j u hj) (fun h => h)))) ?_
      refine RL.op (.free rfl) rfl rfl (Does.alloc i235) ?_
      rintro _ w5 ⟨b8, rfl, hn8⟩
      refine RL.p rfl rfl ?_
      refine RL.op' (.free rfl) rfl (Does.storeN i235 rfl rfl rfl rfl hn8.blk (Nat.le_refl 7)) ?_
      rintro _ w6 ⟨hb6, hm6, _⟩
      have hB6 : Blk w6 b8 235 (stC st) := hb6
      have hg6 : Grow w4 w6 := hn8.grow.then hm6 (fun y hy e => by have e' : y = b8 := e; have := hn8.at_; omega)
      refine RL.done ?_
      refine RK.seq ?_
      refine RK.region ?_
      iterate 2 refine RL.p rfl rfl ?_
      refine RL.q (.free rfl) rfl rfl (Yld.shr rfl rfl (by simp [IntKind.bits]; omega)) ?_
      refine RL.p rfl rfl ?_
      refine RL.re (d := 36) rfl rfl (congrArg (Value.int .u64) (Go.X.u64_and (b := 1) (shr64 hm i) (by decide))) ?_
      iterate 2 refine RL.p rfl rfl ?_
      first | refine RL.splitD (d := 38) rfl rfl (fun h38 => ?_) (fun h38 => ?_) | refine RL.splitN (d := 38) rfl rfl (fun h38 => ?_) (fun h38 => ?_) | refine RL.split (d := 38) rfl rfl (fun h38 => ?_) (fun h38 => ?_)
      · have hbit := (bit1I m i).1 h38
        refine RL.q (.yes rfl rfl rfl) rfl rfl (Yld.fieldAddr fo235_0 rfl) ?_
        refine RL.q (.yes rfl rfl rfl) rfl rfl (Yld.load p3 rfl (at1 (hB6.cell rfl))) ?_
        refine RL.q (.yes rfl rfl rfl) rfl rfl (Yld.pure rfl) ?_
        refine RL.p rfl rfl ?_
        refine RL.done ?_
        first | refine RK.condD rfl (fun h42 => ?_) (fun h42 => ?_) | refine RK.condN rfl (fun h42 => ?_) (fun h42 => ?_) | refine RK.cond rfl (fun h42 => ?_) (fun h42 => ?_)
        · have ho : st.op = 4 := by have h := h42; omega
          refine RK.seq ?_
          refine RK.region ?_
          refine RL.p rfl rfl ?_
          refine RL.done ?_
          refine RK.ret_of Tryz.func167 (res1 rfl rfl) ?_ _
          exact ⟨_, rfl, congrArg _ ((takes_iff x s).2 (he.1 ⟨i, st, hbit, hst, ho⟩)).symm, hg4.trans hg6⟩
        · refine RK.skip ?_
          refine RK.inBlock ?_
          refine RK.region ?_
          refine RL.p rfl rfl ?_
          refine RL.re (d := 43) rfl rfl (succ_i64 (by omega)) ?_
          refine RL.p rfl rfl ?_
          refine RL.done ?_
          exact RK.back (ih2 (i + 1) _ ⟨by omega, hg4.trans hg6, fun c st' hc h1 h2 h3 => by
              by_cases e : c = i
              · subst e; rw [hst] at h2; cases h2; have h := h42; omega
              · exact hno c st' (by omega) h1 h2 h3⟩ (by omega)) ⟨rfl, rfl, rfl, rfl, trivial⟩
      · iterate 3 refine RL.no (.no rfl rfl rfl rfl) rfl rfl ?_
        refine RL.p rfl rfl ?_
        refine RL.done ?_
        refine RK.condF (hcF rfl (rfl)) ?_
        refine RK.skip ?_
        refine RK.inBlock ?_
        refine RK.region ?_
        refine RL.p rfl rfl ?_
        refine RL.re (d := 43) rfl rfl (succ_i64 (by omega)) ?_
        refine RL.p rfl rfl ?_
        refine RL.done ?_
        exact RK.back (ih2 (i + 1) _ ⟨by omega, hg4.trans hg6, fun c st' hc h1 h2 h3 => by
            by_cases e : c = i
            · subst e; exact h38 ((bit1I m c).2 h1)
            · exact hno c st' (by omega) h1 h2 h3⟩ (by omega)) ⟨rfl, rfl, rfl, rfl, trivial⟩
    · refine RK.exit rfl ?_
      refine RK.seq ?_
      refine RK.region ?_
      refine RL.p rfl rfl ?_
      refine RL.done ?_
      refine RK.ret_of Tryz.func167 (res1 rfl rfl) ?_ _
      exact ⟨_, rfl, congrArg _ (by
          cases hx : takes x s with
          | false => rfl
          | true =>
            obtain ⟨c, st, h1, h2, h3⟩ := he.2 ((takes_iff x s).1 hx)
            exact absurd h3 (hno c st (by have := (List.getElem?_eq_some_iff.1 h2).1; omega) h1 h2)
        ), hg4⟩
end Go.Proofs.YtffbcfcoddacmaaGreat
set_option linter.unusedVariables false
set_option linter.unusedSimpArgs false
namespace Go.X
open Go Go.RowKit
section
variable {P : Program} {n : Nat} {e : Env} {w : World}
theorem Does.copyN {d : Option Tmp} {t t2 el : Nat} {x y : Operand} {ty : TypeId} {pos : String} {af : Array Edge} {g' : Option (Nat × Bool)} (ht : SlT P t el) {z : Value} {by' : Nat} (hT : TI P el z 1 by') {g o dl dc m T : Nat} {u : Value} {cs news : List Value}
    (hx : ev e x = some (.slice (some ⟨g, o, none⟩) dl dc)) (hy : ev e y = some u) (hb : Blk w g T cs) (hu : Sl No w u 1 m news) (hm : m ≤ dl) (hfit : o + m ≤ cs.length) (h1 : news.all (·.oneCell') = true) :
    Does P n e w ⟨d, .call { callee := .builtin .copy, args := #[x, y], argTypes := #[t, t2] }, ty, pos, af, g'⟩
      (fun v' w' => v' = .int .i64 (m : Int) ∧ Blk w' g T (cs.take o ++ news ++ cs.drop (o + m)) ∧ Mod (· = g) w w' ∧ w'.heap.size = w.heap.size) := by
  obtain ⟨q, hi, hz, hs', hby⟩ := hT.out
  obtain ⟨ad, c, rfl, hf⟩ := hu.form
  have hln : news.length = m := by have := hu.len; omega
  have hs1 : (P.info? el).map (·.size) = some 1 := by rw [hi]; simp [hs']
  have hso : ((P.info? el).map (·.size)).isSome = true := by rw [hs1]; rfl
  obtain ⟨g1, g2, g3⟩ := hb.setRow (cs' := cs.take o ++ news ++ cs.drop (o + m))
  cases ad with
  | none =>
    have hm0 : m = 0 := by
      by_cases h : 0 < m
      · obtain ⟨b, o', h2, _⟩ := hf h; cases h2
      · omega
    subst hm0
    have hn : news = [] := List.eq_nil_of_length_eq_zero hln
    subst hn
    refine Does.of_run (w' := w) (v := .int .i64 0) (fun a ha => ?_) ⟨rfl, by simpa using hb, Mod.refl _ _, rfl⟩
    have : (Builtin.copy_ #[t, t2] ty #[.slice (some ⟨g, o, none⟩) dl dc, .slice none 0 c]).run P w = .ok (goInt 0) w := by
      cases hq : P.info? el with
      | none => rw [hq] at hs1; simp at hs1
      | some i => simp [Builtin.copy_, run_underlying ht, Builtin.lenOf, Builtin.firstCells, sizeOf, typeInfo, hq, storeCells]
    simp [execOp, resolve, invoke, builtin, ha.ev hx, ha.ev hy, this, goInt]
  | some ad =>
    have hsrc : ∀ j v, news[j]? = some v → w.cell? (ad.add j) = some v := fun j v hj => by
      have hj' := (List.getElem?_eq_some_iff.1 hj).1
      obtain ⟨b, o', h2, _, h3⟩ := hf (by omega)
      cases h2
      rw [add_none]; exact h3 j v hj
    have hr := run_copy_row (P := P) w t t2 ty el g o dl dc ad m c cs.toArray T news ht hs1 hb (by rw [hln]; exact (Nat.min_eq_left hm).symm) hsrc (by rw [hln]; simpa using hfit) (List.all_eq_true.1 h1)
    rw [hln] at hr
    refine Does.of_run (w' := w.setRow g (cs.take o ++ news ++ cs.drop (o + m)).toArray) (v := .int .i64 (m : Int)) (fun a ha => ?_) ⟨rfl, g1, g2, g3⟩
    have hr2 : (Builtin.copy_ #[t, t2] ty #[.slice (some ⟨g, o, none⟩) dl dc, .slice (some ad) m c]).run P w = .ok (.int .i64 (m : Int)) (w.setRow g (cs.take o ++ news ++ cs.drop (o + m)).toArray) := hr
    simp [execOp, resolve, invoke, builtin, ha.ev hx, ha.ev hy, hr2]
end
end Go.X
set_option linter.unusedVariables false
set_option linter.unusedSimpArgs false
set_option maxHeartbeats 1000000
set_option maxRecDepth 100000
namespace Go.Proofs.YtffbcfcoddacmaaGreat
open Go Go.X Go.Rex
abbrev bls (xs : List Bool) : List Value := xs.map Value.bool
abbrev SlB (M : Nat → Prop) (w : World) (v : Value) (xs : List Bool) : Prop := Sl M w v 1 xs.length (bls xs)
theorem bls_get {xs : List Bool} {k : Nat} {b : Bool} (h : xs[k]? = some b) : (bls xs)[k]? = some (.bool b) := by simp [h]
theorem set_take_bool {xs ys : List Bool} {k : Nat} {b : Bool} (hl : xs.length = ys.length) (hy : ys[k]? = some b) : (ys.take k ++ xs.drop k).set k b = ys.take (k + 1) ++ xs.drop (k + 1) := by
  have hk := (List.getElem?_eq_some_iff.1 hy).1
  rw [List.drop_eq_getElem_cons (by omega : k < xs.length), List.set_append_right _ _ (by simp; omega)]
  have e : k - (ys.take k).length = 0 := by simp; omega
  rw [e, List.set_cons_zero, List.take_succ_eq_append_getElem hk, (List.getElem?_eq_some_iff.1 hy).2]
  simp
theorem joinL_ok (M : Nat → Prop) (xs ys : List Bool) (hl : xs.length = ys.length) (hb : xs.length ≤ 1000000) (v u : Value) (w : World) (hv : SlB M w v xs) (hu : SlB M w u ys) : Fx Tryz.prog 259 [v, u] w (fun z w' => SlB No w' z (joinS xs ys) ∧ Grow w w') := by
  obtain ⟨ad, c, rfl⟩ := hv.shape
  obtain ⟨ad2, c2, rfl⟩ := hu.shape
  have hjl := joinS_len hl
  refine enter Tryz.func259 rfl rfl rfl _ (Pick.sub (l := [0, 1]) (.cons rfl (.cons rfl .nil))) ?_
  refine RK.seq ?_
  refine RK.region ?_
  refine RL.p rfl rfl ?_
  refine RL.done ?_
  refine RK.seq ?_
  refine RK.region ?_
  refine RL.p rfl rfl ?_
  refine RL.q (.free rfl) rfl rfl (Yld.lenSl u270 rfl) ?_
  refine RL.op (.free rfl) rfl rfl (Does.mkSlice u270 i4 rfl rfl rfl (by omega) (by omega)) ?_
  rintro _ w1 ⟨b, rfl, hn1⟩
  have hb1 := hn1.at_
  have hB0 : Blk w1 b 4 (bls ((joinS xs ys).take 0 ++ (List.replicate xs.length false).drop 0)) := by simpa using hn1.blk
  refine RL.p rfl rfl ?_
  refine RL.done ?_
  iterate 2 refine RK.seq ?_
  refine RK.region ?_
  refine RL.p rfl rfl ?_
  refine RL.done ?_
  refine RK.block ?_
  refine RK.loop (fun k : Nat => [(0, .slice ad xs.length c), (1, .slice ad2 ys.length c2), (5, .slice (some ⟨b, 0, none⟩) xs.length xs.length), (6, .int .i64 (k : Int))]) (fun k w' => k ≤ xs.length ∧ Blk w' b 4 (bls ((joinS xs ys).take k ++ (List.replicate xs.length false).drop k)) ∧ Mod (· = b) w1 w') (fun k => xs.length - k) 0 ⟨rfl, rfl, rfl, rfl, trivial⟩ ⟨by omega, hB0, Mod.refl _ _⟩ (fun k w2 hI ih => ?_)
  obtain ⟨hk, hB, hm⟩ := hI
  have hg2 : Grow w w2 := hn1.grow.then hm (fun y hy e => by have e' : y = b := e; omega)
  iterate 2 refine RK.seq ?_
  refine RK.region ?_
  iterate 2 refine RL.p rfl rfl ?_
  refine RL.q (.free rfl) rfl rfl (Yld.lenSl u270 rfl) ?_
  refine RL.p rfl rfl ?_
  refine RL.done ?_
  first | refine RK.condD rfl (fun h13 => ?_) (fun h13 => ?_) | refine RK.condN rfl (fun h13 => ?_) (fun h13 => ?_) | refine RK.cond rfl (fun h13 => ?_) (fun h13 => ?_)
  · obtain ⟨x, hx⟩ : ∃ x, xs[k]? = some x := ⟨xs[k]'(by omega), List.getElem?_eq_getElem (by omega)⟩
    obtain ⟨y, hy⟩ : ∃ y, ys[k]? = some y := ⟨ys[k]'(by omega), List.getElem?_eq_getElem (by omega)⟩
    obtain ⟨b3, o3, c3, he3, _, _, hc3⟩ := hv.elem1 (bls_get hx)
    cases he3
    obtain ⟨b4, o4, c4, he4, _, _, hc4⟩ := hu.elem1 (bls_get hy)
    cases he4
    have hz : (joinS xs ys)[k]? = some (x || y) := by unfold joinS; rw [List.getElem?_zipWith, hx, hy]
    refine RK.skip ?_
    refine RK.seq ?_
    refine RK.block ?_
    refine RK.region ?_
    iterate 4 refine RL.p rfl rfl ?_
    refine RL.q (.free rfl) rfl rfl (Yld.indexAddrN u270 i4 rfl rfl (by omega)) ?_
    refine RL.q (.free rfl) rfl rfl (Yld.load p4 rfl (at1 (hg2.cell (hc3 k _ (bls_get hx)) (fun h => h)))) ?_
    refine RL.p rfl rfl ?_
    first | refine RL.splitD (d := 22) rfl rfl (fun h22 => ?_) (fun h22 => ?_) | refine RL.splitN (d := 22) rfl rfl (fun h22 => ?_) (fun h22 => ?_) | refine RL.split (d := 22) rfl rfl (fun h22 => ?_) (fun h22 => ?_)
    · have hzt : (joinS xs ys)[k]? = some true := by rw [hz, h22]; rfl
      iterate 4 refine RL.no (.no rfl rfl rfl rfl) rfl rfl ?_
      refine RL.p rfl rfl ?_
      refine RL.q (.free rfl) rfl rfl (Yld.indexAddrN u270 i4 rfl rfl (by omega)) ?_
      refine RL.op' (.free rfl) rfl (Does.store i4 rfl rfl rfl hB (setAt_of (by simp [hjl]; omega))) ?_
      rintro _ w3 ⟨hb3, hm3, _⟩
      refine RL.done ?_
      refine RK.inBlock ?_
      refine RK.region ?_
      iterate 2 refine RL.p rfl rfl ?_
      refine RL.re (d := 15) rfl rfl (succ_i64 (by omega)) ?_
      refine RL.p rfl rfl ?_
      refine RL.done ?_
      exact RK.back (ih (k + 1) _ ⟨by omega, by rw [Nat.zero_add, Nat.mul_one, ← List.map_set, set_take_bool (by simp [hjl]) hzt] at hb3; exact hb3, hm.trans hm3⟩ (by omega)) ⟨rfl, rfl, rfl, rfl, trivial⟩
    · have hzt : (joinS xs ys)[k]? = some y := by rw [hz, h22]; rfl
      iterate 2 refine RL.q (.yes rfl rfl rfl) rfl rfl (Yld.pure rfl) ?_
      refine RL.q (.yes rfl rfl rfl) rfl rfl (Yld.indexAddrN u270 i4 rfl rfl (by omega)) ?_
      refine RL.q (.yes rfl rfl rfl) rfl rfl (Yld.load p4 rfl (at1 (hg2.cell (hc4 k _ (bls_get hy)) (fun h => h)))) ?_
      refine RL.p rfl rfl ?_
      refine RL.q (.free rfl) rfl rfl (Yld.indexAddrN u270 i4 rfl rfl (by omega)) ?_
      refine RL.op' (.free rfl) rfl (Does.store i4 rfl rfl rfl hB (setAt_of (by simp [hjl]; omega))) ?_
      rintro _ w3 ⟨hb3, hm3, _⟩
      refine RL.done ?_
      refine RK.inBlock ?_
      refine RK.region ?_
      iterate 2 refine RL.p rfl rfl ?_
      refine RL.re (d := 15) rfl rfl (succ_i64 (by omega)) ?_
      refine RL.p rfl rfl ?_
      refine RL.done ?_
      exact RK.back (ih (k + 1) _ ⟨by omega, by rw [Nat.zero_add, Nat.mul_one, ← List.map_set, set_take_bool (by simp [hjl]) hzt] at hb3; exact hb3, hm.trans hm3⟩ (by omega)) ⟨rfl, rfl, rfl, rfl, trivial⟩
  · have hke : k = xs.length := by omega
    rw [hke, List.take_of_length_le (by omega), List.drop_eq_nil_of_le (by simp), List.append_nil] at hB
    refine RK.exit rfl ?_
    refine RK.seq ?_
    refine RK.region ?_
    iterate 2 refine RL.p rfl rfl ?_
    refine RL.done ?_
    refine RK.ret_of Tryz.func259 (res1 rfl rfl) ?_ _
    exact ⟨_, rfl, ⟨by simp [hjl], by omega, _, _, by rw [hjl], fun _ => ⟨b, 0, rfl, fun h => h, fun j u hj => by rw [Nat.zero_add]; exact hB.cell' hj⟩⟩, hg2⟩
theorem sameL_ok (M : Nat → Prop) (xs ys : List Bool) (hl : xs.length = ys.length) (v u : Value) (w : World) (hv : SlB M w v xs) (hu : SlB M w u ys) : Fx Tryz.prog 260 [v, u] w (fun z w' => z = .bool (decide (xs = ys)) ∧ Grow w w') := by
  obtain ⟨ad, c, rfl⟩ := hv.shape
  obtain ⟨ad2, c2, rfl⟩ := hu.shape
  have hbig := hv.big
  refine enter Tryz.func260 rfl rfl rfl _ (Pick.sub (l := [0, 1]) (.cons rfl (.cons rfl .nil))) ?_
  refine RK.seq ?_
  refine RK.region ?_
  refine RL.p rfl rfl ?_
  refine RL.done ?_
  iterate 2 refine RK.seq ?_
  refine RK.region ?_
  refine RL.p rfl rfl ?_
  refine RL.done ?_
  refine RK.block ?_
  refine RK.loop (fun k : Nat => [(0, .slice ad xs.length c), (1, .slice ad2 ys.length c2), (5, .int .i64 (k : Int))]) (fun k w' => k ≤ xs.length ∧ Grow w w' ∧ xs.take k = ys.take k) (fun k => xs.length - k) 0 ⟨rfl, rfl, rfl, trivial⟩ ⟨by omega, Mod.refl _ _, by simp⟩ (fun k w2 hI ih => ?_)
  obtain ⟨hk, hg2, he⟩ := hI
  iterate 2 refine RK.seq ?_
  refine RK.region ?_
  iterate 2 refine RL.p rfl rfl ?_
  refine RL.q (.free rfl) rfl rfl (Yld.lenSl u270 rfl) ?_
  refine RL.p rfl rfl ?_
  refine RL.done ?_
  first | refine RK.condD rfl (fun h9 => ?_) (fun h9 => ?_) | refine RK.condN rfl (fun h9 => ?_) (fun h9 => ?_) | refine RK.cond rfl (fun h9 => ?_) (fun h9 => ?_)
  · obtain ⟨x, hx⟩ : ∃ x, xs[k]? = some x := ⟨xs[k]'(by omega), List.getElem?_eq_getElem (by omega)⟩
    obtain ⟨y, hy⟩ : ∃ y, ys[k]? = some y := ⟨ys[k]'(by omega), List.getElem?_eq_getElem (by omega)⟩
    obtain ⟨b3, o3, c3, he3, _, _, hc3⟩ := hv.elem1 (bls_get hx)
    cases he3
    obtain ⟨b4, o4, c4, he4, _, _, hc4⟩ := hu.elem1 (bls_get hy)
    cases he4
    refine RK.skip ?_
    refine RK.seq ?_
    refine RK.block ?_
    refine RK.seq ?_
    refine RK.drawM No [(0, false), (1, false), (2, false), (3, false), (4, false), (5, false), (6, false), (7, false), (8, false)] [] mixed (by kernel_rfl) ?_
    iterate 2 refine DL.p rfl rfl rfl ?_
    refine DL.qf rfl (.free rfl) rfl rfl (Yld.indexAddrN u270 i4 rfl rfl (by omega)) ?_
    refine DL.q rfl (.free rfl) rfl rfl rfl (Yld.load p4 rfl (atM (hg2.cell (hc3 k _ (bls_get hx)) (fun h => h)) (fun h => h))) (Mod.drew _ _) ?_
    iterate 2 refine DL.p rfl rfl rfl ?_
    refine DL.qf rfl (.free rfl) rfl rfl (Yld.indexAddrN u270 i4 rfl rfl (by omega)) ?_
    refine DL.q rfl (.free rfl) rfl rfl rfl (Yld.load p4 rfl (atM (hg2.cell (hc4 k _ (bls_get hy)) (fun h => h)) (fun h => h))) (Mod.drew _ _) ?_
    refine DL.qf rfl (.free rfl) rfl rfl (Yld.neqBool u4 rfl rfl) ?_
    refine DL.done ?_
    first | refine RK.condD rfl (fun h20 => ?_) (fun h20 => ?_) | refine RK.condN rfl (fun h20 => ?_) (fun h20 => ?_) | refine RK.cond rfl (fun h20 => ?_) (fun h20 => ?_)
    · have hne : x ≠ y := by have h := h20; simpa using h
      refine RK.seq ?_
      refine RK.region ?_
      refine RL.p rfl rfl ?_
      refine RL.done ?_
      refine RK.ret_of Tryz.func260 (res1 rfl rfl) ?_ _
      exact ⟨_, rfl, congrArg _ (decide_eq_false (fun e => by subst e; rw [hx] at hy; cases hy; exact hne rfl)).symm, hg2.trans (Mod.drew _ _)⟩
    · have hxy : x = y := by have h := h20; simpa using h
      subst hxy
      refine RK.skip ?_
      refine RK.inBlock ?_
      refine RK.region ?_
      iterate 2 refine RL.p rfl rfl ?_
      refine RL.re (d := 11) rfl rfl (succ_i64 (by omega)) ?_
      refine RL.p rfl rfl ?_
      refine RL.done ?_
      exact RK.back (ih (k + 1) _ ⟨by omega, hg2.trans (Mod.drew _ _), by rw [List.take_succ_eq_append_getElem (by omega), List.take_succ_eq_append_getElem (by omega), he, (List.getElem?_eq_some_iff.1 hx).2, (List.getElem?_eq_some_iff.1 hy).2]⟩ (by omega)) ⟨rfl, rfl, rfl, trivial⟩
  · refine RK.exit rfl ?_
    refine RK.seq ?_
    refine RK.region ?_
    refine RL.p rfl rfl ?_
    refine RL.done ?_
    refine RK.ret_of Tryz.func260 (res1 rfl rfl) ?_ _
    exact ⟨_, rfl, congrArg _ (decide_eq_true (by rw [List.take_of_length_le (by omega), List.take_of_length_le (by omega)] at he; exact he)).symm, hg2⟩
theorem setHas_ok (t : List Nat) (hw : W4 t) (c : Nat) (hc : c < 256) (w : World) : Fx Tryz.prog 258 [.agg (wds t).toArray, .int .u8 (c : Int)] w (fun u w' => u = .bool (inB t c) ∧ Grow w w') := by
  obtain ⟨x0, x1, x2, x3, rfl⟩ := W4.four hw
  have e1 : IntKind.u8.wrap ((c : Int).tdiv 64) = ((c / 64 : Nat) : Int) := by
    have e2 : (c : Int).tdiv 64 = ((c / 64 : Nat) : Int) := by rw [Int.tdiv_eq_ediv_of_nonneg (by omega)]; omega
    rw [e2]; exact Go.X.wrap_u8 (by omega)
  have e3 : (c : Int).tmod 64 = ((c % 64 : Nat) : Int) := by rw [Int.tmod_eq_emod_of_nonneg (by omega)]; omega
  obtain ⟨y, hy⟩ : ∃ y, [x0, x1, x2, x3][c / 64]? = some y := ⟨_, List.getElem?_eq_getElem (by show c / 64 < 4; omega)⟩
  have hyl := hw.2 y (List.mem_of_getElem? hy)
  have hin : inB [x0, x1, x2, x3] c = y.testBit (c % 64) := by unfold inB; rw [hy]; rfl
  refine enter Tryz.func258 rfl rfl rfl _ (Pick.sub (l := [0, 1]) (.cons rfl (.cons rfl .nil))) ?_
  refine RK.seq ?_
  refine RK.region ?_
  refine RL.op (.free rfl) rfl rfl (Does.box rfl) ?_
  rintro _ w1 ⟨b1, rfl, hn1⟩
  have hB1 : Blk w1 b1 207 (wds [x0, x1, x2, x3]) := hn1.blk
  refine RL.p rfl rfl ?_
  refine RL.done ?_
  refine RK.seq ?_
  refine RK.region ?_
  refine RL.p rfl rfl ?_
  refine RL.q (.free rfl) rfl rfl (Yld.quo rfl rfl (by omega)) ?_
  refine RL.re (d := 6) rfl rfl (congrArg (Value.int .u8) e1) ?_
  refine RL.q (.free rfl) rfl rfl (Yld.indexArr Tryz.underlying207 i36 rfl rfl (by omega)) ?_
  refine RL.q (.free rfl) rfl rfl (Yld.load p36 rfl (at1 (hB1.at1 (v := .int .u64 (y : Int)) (by rw [List.getElem?_map, hy]; rfl)))) ?_
  refine RL.p rfl rfl ?_
  refine RL.q (.free rfl) rfl rfl (Yld.rem rfl rfl (by omega)) ?_
  refine RL.re (d := 10) rfl rfl (congrArg (Value.int .u8) e3) ?_
  refine RL.q (.free rfl) rfl rfl (Yld.convI Tryz.underlying5 Tryz.underlying193 rfl) ?_
  refine RL.re (d := 11) rfl rfl (congrArg (Value.int .u64) (Go.X.wrap_u64 (x := c % 64) (by omega))) ?_
  refine RL.q (.free rfl) rfl rfl (Yld.shr rfl rfl (by simp [IntKind.bits]; omega)) ?_
  refine RL.p rfl rfl ?_
  refine RL.re (d := 13) rfl rfl (congrArg (Value.int .u64) (Go.X.u64_and (b := 1) (shr64 hyl (c % 64)) (by decide))) ?_
  iterate 2 refine RL.p rfl rfl ?_
  refine RL.done ?_
  refine RK.ret_of Tryz.func258 (res1 rfl rfl) ?_ _
  exact ⟨_, rfl, congrArg _ (by rw [hin, Bool.eq_iff_iff, decide_eq_true_eq]; exact bit1I y (c % 64)), hn1.grow⟩
def setO (s : ByteArray) (t : List Nat) (f : List Bool) : List Bool := false :: (List.range s.size).map fun i => (f[i]?).getD false && inB t (b8 s i)
theorem setO_ends (s : ByteArray) (t : List Nat) (f : List Bool) (hf : f.length = s.size + 1) : Endz (Lg (HS s) (.set t) true) s.size f (setO s t f) := by
  refine ⟨by simp [setO], fun j => ?_⟩
  unfold setO
  cases j with
  | zero =>
    simp only [List.getElem?_cons_zero, Option.some.injEq, Bool.false_eq_true, false_iff, Lg, not_and, not_exists]
    rintro _ i _ _ h
    omega
  | succ j =>
    simp only [List.getElem?_cons_succ, List.getElem?_map, Lg]
    constructor
    · intro h
      obtain ⟨i, hi, h2⟩ := Option.map_eq_some_iff.1 h
      have hj := (List.getElem?_eq_some_iff.1 hi).1
      simp at hj
      rw [List.getElem?_range hj] at hi
      cases hi
      simp only [Bool.and_eq_true] at h2
      refine ⟨by omega, j, ?_, ⟨hj, h2.2⟩, rfl⟩
      cases hq : f[j]? with
      | none => rw [hq] at h2; simp at h2
      | some q => rw [hq] at h2; simpa using h2.1
    · rintro ⟨_, i, hi, ⟨h1, h2⟩, h3⟩
      have : i = j := by omega
      subst this
      rw [List.getElem?_range h1]
      simp [hi, h2]
theorem rt_iff {R S : Nat → Nat → Prop} (h : ∀ i j, R i j → S i j) {i j : Nat} (hr : Rt R i j) : Rt S i j := by
  induction hr with
  | refl => exact .refl _
  | step h1 _ ih => exact .step (h _ _ h1) ih
def afterC (s : ByteArray) (x : Rx) : Prop := ∀ (M : Nat → Prop) (c : Cel) (v : Value) (f : List Bool) (w : World), RxV M w x [c] → SlB No w v f → f.length = s.size + 1 → Fx Tryz.prog 243 [.agg (celC c).toArray, .string s, v] w (fun u w' => (∃ o, Endz (Lg (HS s) x true) s.size f o ∧ SlB No w' u o) ∧ Grow w w')
theorem lg_fwd {s : ByteArray} (x : Rx) : ∀ i j, Lg (HS s) x true i j → i ≤ j := fun i j h => Lg.fwd x true i j h
theorem after_ok (s : ByteArray) (hs : s.size ≤ 100000) : ∀ (m : Nat) (x : Rx), hiR x ≤ m → Tr false x → afterC s x
  | 0, .set _, h, _ => by simp [hiR] at h
  | 0, .node _ _, h, _ => by simp [hiR] at h
  | 0, .nil, _, ht => ht.elim
  | 0, .cons _ _, _, ht => ht.elim
  | m + 1, x, hx, ht => by
    intro M k v f w hxv hv hf
    obtain ⟨op, a, b, c, d, ad, n, cap, l, kss, rfl, h⟩ := hxv.open ht
    have hkind := h.kind
    have hn := h.n
    have hlen := h.len
    have hbig := h.sl.big
    obtain ⟨adv, cv, rfl⟩ := hv.shape
    have hkl : (kidsR l).length = n := by rw [kids_len]; omega
    have hgood := kids_tr h.tr
    refine enter Tryz.func243 rfl rfl rfl _ (Pick.sub (l := [0, 1, 2]) (.cons rfl (.cons rfl (.cons rfl .nil)))) ?_
    refine RK.seq ?_
    refine RK.region ?_
    refine RL.op (.free rfl) rfl rfl (Does.box rfl) ?_
    rintro _ w1 ⟨b3, rfl, hn3⟩
    have hb3 := hn3.at_
    have hB3 : Blk w1 b3 210 [.int .i64 op, .int .u64 (a : Int), .int .u64 (b : Int), .int .u64 (c : Int), .int .u64 (d : Int), .slice ad n cap] := hn3.blk
    refine RL.p rfl rfl ?_
    refine RL.done ?_
    refine RK.seq ?_
    refine RK.region ?_
    refine RL.p rfl rfl ?_
    refine RL.q (.free rfl) rfl rfl (Yld.lenStr u9 rfl) ?_
    refine RL.p rfl rfl ?_
    refine RL.re (d := 16) rfl rfl (succ_i64 (by omega)) ?_
    refine RL.op (.free rfl) rfl rfl (Does.mkSlice u270 i4 rfl rfl rfl (by omega) (by omega)) ?_
    rintro _ w2 ⟨b7, rfl, hn7⟩
    have hb7 := hn7.at_
    have hs1 := hn3.size
    have hg2 := hn3.grow.trans hn7.grow
    have hB2 := hB3.mod hn7.grow (fun h => h)
    have hv2 := hv.mod hg2
    have hb37 : b3 ≠ b7 := by omega
    refine RL.p rfl rfl ?_
    refine RL.done ?_
    iterate 2 refine RK.seq ?_
    refine RK.region ?_
    refine RL.q (.free rfl) rfl rfl (Yld.fieldAddr fo210_0 rfl) ?_
    refine RL.q (.free rfl) rfl rfl (Yld.load p3 rfl (at1 (hB2.cell rfl))) ?_
    refine RL.done ?_
    refine RK.cutS (fun u : Value => [(1, .string s), (3, pp b3), (7, u)]) (fun u w' => ∃ (y : Rx) (o0 : List Bool), l = .cons y .nil ∧ o0.length = s.size + 1 ∧ SlB No w' u o0 ∧ Grow w w' ∧ Blk w' b3 210 [.int .i64 op, .int .u64 (a : Int), .int .u64 (b : Int), .int .u64 (c : Int), .int .u64 (d : Int), .slice ad n cap] ∧ (∀ res, Endz (Rt (Lg (HS s) y true)) s.size o0 res → Endz (Lg (HS s) x true) s.size f res) ∧ afterC s y) (fun u w3 hQ => ?_) (fun hj => ?_)
    · obtain ⟨y, o0, rfl, ho0, hu, hg3, hBx, hfin, hay⟩ := hQ
      have hn1 : n = 1 := by rw [hn, hlen]; rfl
      have hR := lg_fwd (s := s) y
      iterate 2 refine RK.seq ?_
      refine RK.region ?_
      refine RL.p rfl rfl ?_
      refine RL.done ?_
      refine RK.block ?_
      refine RK.loop (fun t : Nat × Value => [(1, .string s), (3, pp b3), (7, t.2), (12, .int .i64 (t.1 : Int))]) (fun t w' => t.1 ≤ s.size + 1 ∧ Grow w3 w' ∧ ∃ o, Endz (RtLe (Lg (HS s) y true) t.1) s.size o0 o ∧ SlB No w' t.2 o) (fun t => s.size + 1 - t.1) (0, u) ⟨rfl, rfl, rfl, rfl, trivial⟩ ⟨by simp, Mod.refl _ _, o0, (Endz.id ho0).iff (fun i j => ⟨fun e => ⟨0, Nat.le_refl _, e ▸ .zero _⟩, fun ⟨q, hq, hr⟩ => by have hq0 : q = 0 := (by simpa using hq); subst hq0; cases hr; rfl⟩), hu⟩ (fun t w4 hI ih => ?_)
      obtain ⟨r, u4⟩ := t
      obtain ⟨hr, hg4, o, hE, hu4⟩ := hI
      simp only at hr hE hu4
      obtain ⟨ad4, c4, rfl⟩ := hu4.shape
      iterate 2 refine RK.seq ?_
      refine RK.region ?_
      iterate 2 refine RL.p rfl rfl ?_
      refine RL.q (.free rfl) rfl rfl (Yld.lenStr u9 rfl) ?_
      refine RL.p rfl rfl ?_
      refine RL.done ?_
      first | refine RK.condD rfl (fun h113 => ?_) (fun h113 => ?_) | refine RK.condN rfl (fun h113 => ?_) (fun h113 => ?_) | refine RK.cond rfl (fun h113 => ?_) (fun h113 => ?_)
      · obtain ⟨ck, y', b5, o5, rfl, hyk, _, hyt, hyv, _, hcl⟩ := h.kid (k := 0) (by omega)
        have hyy : y' = y := by simpa [kidsR] using hyk.symm
        subst hyy
        have hgw := hg3.trans hg4
        refine RK.skip ?_
        refine RK.seq ?_
        refine RK.block ?_
        refine RK.seq ?_
        refine RK.region ?_
        refine RL.p rfl rfl ?_
        refine RL.q (.free rfl) rfl rfl (Yld.fieldAddr fo210_2 rfl) ?_
        refine RL.q (.free rfl) rfl rfl (Yld.load p208 rfl (at1 ((hBx.mod hg4 (fun h => h)).cell rfl))) ?_
        refine RL.q (.free rfl) rfl rfl (Yld.indexAddr u208 i210 rfl rfl (by omega) (by omega)) ?_
        refine RL.q (.free rfl) rfl rfl (Yld.loadN (cs := celC ck) a210 rfl (atN (hcl _ hgw))) ?_
        iterate 2 refine RL.p rfl rfl ?_
        refine RL.op (.free rfl) rfl rfl (Does.call rfl e243 (hay M ck _ o _ (RxV.grow hgw _ hyv) hu4 hE.1)) ?_
        rintro u5 w5 ⟨⟨o1, hE1, hu5⟩, hg5⟩
        obtain ⟨ad5, c5, rfl⟩ := hu5.shape
        have hol : o.length = o1.length := by rw [hE.1, hE1.1]
        refine RL.op (.free rfl) rfl rfl (Does.call rfl e259 (joinL_ok No o o1 hol (by rw [hE.1]; omega) _ _ _ (hu4.mod hg5) hu5)) ?_
        rintro u6 w6 ⟨hu6, hg6⟩
        have hjl := joinS_len hol
        refine RL.p rfl rfl ?_
        refine RL.done ?_
        iterate 2 refine RK.seq ?_
        refine RK.region ?_
        iterate 2 refine RL.p rfl rfl ?_
        refine RL.op (.free rfl) rfl rfl (Does.call rfl e260 (sameL_ok No (joinS o o1) o hjl _ _ _ hu6 ((hu4.mod hg5).mod hg6))) ?_
        rintro _ w7 ⟨rfl, hg7⟩
        have hg47 := (hg5.trans hg6).trans hg7
        refine RL.done ?_
        first | refine RK.condD rfl (fun h127 => ?_) (fun h127 => ?_) | refine RK.condN rfl (fun h127 => ?_) (fun h127 => ?_) | refine RK.cond rfl (fun h127 => ?_) (fun h127 => ?_)
        · refine RK.exit rfl ?_
          refine RK.seq ?_
          refine RK.region ?_
          iterate 2 refine RL.p rfl rfl ?_
          refine RL.done ?_
          refine RK.ret_of Tryz.func243 (res1 rfl rfl) ?_ _
          exact ⟨_, rfl, ⟨o, hfin o (hE.still hR hE1 h127), hu4.mod hg47⟩, (hg3.trans hg4).trans hg47⟩
        · refine RK.skip ?_
          refine RK.region ?_
          iterate 2 refine RL.p rfl rfl ?_
          refine RL.done ?_
          refine RK.inBlock ?_
          refine RK.region ?_
          iterate 2 refine RL.p rfl rfl ?_
          refine RL.re (d := 115) rfl rfl (succ_i64 (by omega)) ?_
          refine RL.p rfl rfl ?_
          refine RL.done ?_
          exact RK.back (ih (r + 1, u6) _ ⟨by simp only at h113 ⊢; omega, hg4.trans hg47, joinS o o1, hE.round hR hE1, hu6.mod hg7⟩ (by simp only at h113 ⊢; omega)) ⟨rfl, rfl, rfl, rfl, trivial⟩
      · refine RK.exit rfl ?_
        refine RK.seq ?_
        refine RK.region ?_
        iterate 2 refine RL.p rfl rfl ?_
        refine RL.done ?_
        refine RK.ret_of Tryz.func243 (res1 rfl rfl) ?_ _
        exact ⟨_, rfl, ⟨o, hfin o (hE.enough hR (by simp only at h113; omega)), hu4⟩, hg3.trans hg4⟩
    · refine RK.block ?_
      refine RK.seq ?_
      refine RK.region ?_
      iterate 2 refine RL.p rfl rfl ?_
      refine RL.done ?_
      first | refine RK.condD rfl (fun h23 => ?_) (fun h23 => ?_) | refine RK.condN rfl (fun h23 => ?_) (fun h23 => ?_) | refine RK.cond rfl (fun h23 => ?_) (fun h23 => ?_)
      · obtain ⟨hxe, hW⟩ : x = .set [a, b, c, d] ∧ W4 [a, b, c, d] := by
            rcases hkind with ⟨h1, _, _, h2⟩ | ⟨o, _, h5, _, _, _, _, h6⟩
            · exact ⟨h1, h2⟩
            · omega
        subst hxe
        clear hkind
        obtain ⟨tg, htg⟩ : ∃ tg, setO s [a, b, c, d] f = tg := ⟨_, rfl⟩
        have hE := setO_ends s [a, b, c, d] f hf
        rw [htg] at hE
        have hB7 : Blk w2 b7 4 (bls (tg.take (0 + 1) ++ (List.replicate (s.size + 1) false).drop (0 + 1))) := by
            have h9 := hn7.blk
            rw [← htg]
            simpa [setO, List.replicate_succ] using h9
        iterate 2 refine RK.seq ?_
        refine RK.region ?_
        refine RL.p rfl rfl ?_
        refine RL.done ?_
        refine RK.block ?_
        refine RK.loop (fun q : Nat => [(1, .string s), (2, .slice adv f.length cv), (3, pp b3), (7, .slice (some ⟨b7, 0, none⟩) (s.size + 1) (s.size + 1)), (8, .int .i64 (q : Int))]) (fun q w' => q ≤ s.size ∧ Blk w' b7 4 (bls (tg.take (q + 1) ++ (List.replicate (s.size + 1) false).drop (q + 1))) ∧ Mod (· = b7) w2 w') (fun q => s.size - q) 0 ⟨rfl, rfl, rfl, rfl, rfl, trivial⟩ ⟨by omega, hB7, Mod.refl _ _⟩ (fun q w3 hI ih => ?_)
        obtain ⟨hq, hB, hm⟩ := hI
        have hgw3 : Grow w w3 := hg2.then hm (fun y hy e => by have e' : y = b7 := e; omega)
        have hB3q := hB2.mod hm hb37
        iterate 2 refine RK.seq ?_
        refine RK.region ?_
        iterate 2 refine RL.p rfl rfl ?_
        refine RL.q (.free rfl) rfl rfl (Yld.lenStr u9 rfl) ?_
        refine RL.p rfl rfl ?_
        refine RL.done ?_
        first | refine RK.condD rfl (fun h28 => ?_) (fun h28 => ?_) | refine RK.condN rfl (fun h28 => ?_) (fun h28 => ?_) | refine RK.cond rfl (fun h28 => ?_) (fun h28 => ?_)
        · obtain ⟨x, hxq⟩ : ∃ x, f[q]? = some x := ⟨f[q]'(by omega), List.getElem?_eq_getElem (by omega)⟩
          obtain ⟨b5, o5, c5, he5, _, _, hc5⟩ := hv.elem1 (bls_get hxq)
          cases he5
          have hb5l := World.block_lt_of_cell? w _ (hc5 q _ (bls_get hxq))
          have hb57 : ¬ b5 = b7 := by simp only at hb5l; omega
          have htq : tg[q + 1]? = some (x && inB [a, b, c, d] (b8 s q)) := by
              rw [← htg]; unfold setO
              rw [List.getElem?_cons_succ, List.getElem?_map, List.getElem?_range (by omega)]
              simp [hxq]
          refine RK.skip ?_
          refine RK.seq ?_
          refine RK.block ?_
          refine RK.drawM (· = b7) [(0, false), (1, false), (2, false), (3, false), (4, false), (5, false), (6, false), (7, false), (8, false), (9, false), (10, false), (11, false), (12, false), (13, true), (14, false), (15, false), (16, true)] [16] mixed (by kernel_rfl) ?_
          iterate 3 refine DL.p rfl rfl rfl ?_
          refine DL.re (d := 33) rfl rfl (succ_i64 (by omega)) ?_
          iterate 2 refine DL.p rfl rfl rfl ?_
          refine DL.qf rfl (.free rfl) rfl rfl (Yld.indexAddrN u270 i4 rfl rfl (by omega)) ?_
          refine DL.q rfl (.free rfl) rfl rfl rfl (Yld.load p4 rfl (atM (hgw3.cell (hc5 q _ (bls_get hxq)) (fun h => h)) (hb57))) (Mod.drew _ _) ?_
          refine DL.p rfl rfl rfl ?_
          first | refine DL.splitD (d := 38) rfl rfl (fun h38 => ?_) (fun h38 => ?_) | refine DL.splitN (d := 38) rfl rfl (fun h38 => ?_) (fun h38 => ?_) | refine DL.split (d := 38) rfl rfl (fun h38 => ?_) (fun h38 => ?_)
          · have htq1 : tg[q + 1]? = some (inB [a, b, c, d] (b8 s q)) := by rw [htq, h38]; rfl
            refine DL.qf rfl (.yes rfl rfl rfl) rfl rfl (Yld.fieldAddr fo210_1 rfl) ?_
            refine DL.q rfl (.yes rfl rfl rfl) rfl rfl rfl (Yld.loadN (cs := wds [a, b, c, d]) a207 rfl (atNM (blk_set4 hB3q) (hb37))) (Mod.drew _ _) ?_
            iterate 2 refine DL.qf rfl (.yes rfl rfl rfl) rfl rfl (Yld.pure rfl) ?_
            refine DL.qf rfl (.yes rfl rfl rfl) rfl rfl (Yld.idxStrN u9 rfl rfl (by omega)) ?_
            refine DL.op rfl (.yes rfl rfl rfl) rfl rfl (Does.call rfl e258 (setHas_ok [a, b, c, d] hW (b8 s q) (b8_lt s q) _)) ?_
            rintro _ w4 ⟨rfl, hg4⟩
            have hm34 : Mod (· = b7) w3 w4 := (Mod.drew _ _).trans (Mod.any' hg4)
            refine ⟨hm34, ?_⟩
            have hB4 := (hB.mod (Mod.drew No _) (fun h => h)).mod hg4 (fun h => h)
            refine DL.p rfl rfl rfl ?_
            refine DL.qf rfl (.free rfl) rfl rfl (Yld.indexAddrN u270 i4 rfl rfl (by omega)) ?_
            refine DL.opT rfl (.free rfl) rfl rfl (Does.store i4 rfl rfl rfl hB4 (setAt_of (by simp [hE.1]; omega))) ?_
            rintro _ w5 ⟨hb5, hm5, _⟩
            refine DL.done ?_
            refine RK.inBlock ?_
            refine RK.region ?_
            iterate 2 refine RL.p rfl rfl ?_
            refine RL.re (d := 30) rfl rfl (succ_i64 (by omega)) ?_
            refine RL.p rfl rfl ?_
            refine RL.done ?_
            exact RK.back (ih (q + 1) _ ⟨by omega, by rw [Nat.zero_add, Nat.mul_one, ← List.map_set, set_take_bool (by simp [hE.1]) htq1] at hb5; exact hb5, (hm.trans hm34).trans hm5⟩ (by omega)) ⟨rfl, rfl, rfl, rfl, rfl, trivial⟩
          · have htq1 : tg[q + 1]? = some false := by rw [htq, h38]; rfl
            have hB4 := hB.mod (Mod.drew No _) (fun h => h)
            iterate 5 refine DL.no rfl (.no rfl rfl rfl rfl) rfl rfl ?_
            refine DL.lno rfl (.no rfl rfl rfl rfl) rfl rfl ?_
            refine DL.p rfl rfl rfl ?_
            refine DL.qf rfl (.free rfl) rfl rfl (Yld.indexAddrN u270 i4 rfl rfl (by omega)) ?_
            refine DL.opT rfl (.free rfl) rfl rfl (Does.store i4 rfl rfl rfl hB4 (setAt_of (by simp [hE.1]; omega))) ?_
            rintro _ w5 ⟨hb5, hm5, _⟩
            refine DL.done ?_
            refine RK.inBlock ?_
            refine RK.region ?_
            iterate 2 refine RL.p rfl rfl ?_
            refine RL.re (d := 30) rfl rfl (succ_i64 (by omega)) ?_
            refine RL.p rfl rfl ?_
            refine RL.done ?_
            exact RK.back (ih (q + 1) _ ⟨by omega, by rw [Nat.zero_add, Nat.mul_one, ← List.map_set, set_take_bool (by simp [hE.1]) htq1] at hb5; exact hb5, (hm.trans (Mod.drew _ _)).trans hm5⟩ (by omega)) ⟨rfl, rfl, rfl, rfl, rfl, trivial⟩
        · have hqe : q = s.size := by omega
          rw [hqe, List.take_of_length_le (by rw [hE.1]; omega), List.drop_eq_nil_of_le (by simp), List.append_nil] at hB
          refine RK.exit rfl ?_
          refine RK.seq ?_
          refine RK.region ?_
          iterate 2 refine RL.p rfl rfl ?_
          refine RL.done ?_
          refine RK.ret_of Tryz.func243 (res1 rfl rfl) ?_ _
          exact ⟨_, rfl, ⟨tg, hE, ⟨by simp [hE.1], by rw [hE.1]; omega, _, _, by rw [hE.1], fun _ => ⟨b7, 0, rfl, fun h => h, fun j u hj => by rw [Nat.zero_add]; exact hB.cell' hj⟩⟩⟩, hg2.then hm (fun y hy e => by have e' : y = b7 := e; omega)⟩
      · obtain ⟨o, rfl, rfl, h3⟩ : ∃ o : Nat, x = .node o l ∧ op = o ∧ (o = 2 ∨ o = 3 ∧ cnt l ≠ 0 ∨ (o = 4 ∨ o = 5 ∨ o = 6) ∧ cnt l = 1) := by
            rcases hkind with ⟨_, _, h2, _⟩ | ⟨o, h4, h5, _, _, _, _, h6⟩
            · omega
            · exact ⟨o, h4, h5, h6⟩
        clear hkind
        have hk : ∀ y ∈ kidsR l, afterC s y := fun y hy => after_ok s hs m y (by have := hiR_kid hy; simp only [hiR] at hx; omega) (hgood y hy)
        have hlgn : ∀ i j, Lg (HS s) (.node o l) true i j ↔ (if o = 2 then Lg (HS s) l true i j else if o = 3 then Lg (HS s) l false i j else if o = 4 then Rt (Lg (HS s) l true) i j else if o = 5 then ∃ k, Lg (HS s) l true i k ∧ Rt (Lg (HS s) l true) k j else i = j ∨ Lg (HS s) l true i j) := fun i j => Iff.rfl
        have hid := Endz.id hf
        refine RK.seq ?_
        refine RK.region ?_
        iterate 2 refine RL.p rfl rfl ?_
        refine RL.done ?_
        first | refine RK.condD rfl (fun h48 => ?_) (fun h48 => ?_) | refine RK.condN rfl (fun h48 => ?_) (fun h48 => ?_) | refine RK.cond rfl (fun h48 => ?_) (fun h48 => ?_)
        · have ho : o = 2 := by omega
          subst ho
          refine RK.seq ?_
          refine RK.region ?_
          iterate 2 refine RL.p rfl rfl ?_
          refine RL.done ?_
          iterate 2 refine RK.seq ?_
          refine RK.region ?_
          refine RL.p rfl rfl ?_
          refine RL.done ?_
          refine RK.block ?_
          refine RK.loop (fun t : Nat × Value => [(1, .string s), (2, .slice adv f.length cv), (3, pp b3), (7, .slice (some ⟨b7, 0, none⟩) (s.size + 1) (s.size + 1)), (9, t.2), (10, .int .i64 (t.1 : Int))]) (fun t w' => t.1 ≤ n ∧ Grow w2 w' ∧ ∃ g, Endz (LgS (HS s) ((kidsR l).take t.1)) s.size f g ∧ SlB No w' t.2 g) (fun t => n - t.1) (0, .slice adv f.length cv) ⟨rfl, rfl, rfl, rfl, rfl, rfl, trivial⟩ ⟨by simp, Mod.refl _ _, f, hid.iff (fun i j => by simp [LgS]), hv2⟩ (fun t w3 hI ih => ?_)
          obtain ⟨q, u⟩ := t
          obtain ⟨hq, hg3, g, hE, hu⟩ := hI
          simp only at hq hE hu
          have hB3q := hB2.mod hg3 (fun h => h)
          iterate 2 refine RK.seq ?_
          refine RK.region ?_
          refine RL.p rfl rfl ?_
          refine RL.q (.free rfl) rfl rfl (Yld.fieldAddr fo210_2 rfl) ?_
          refine RL.q (.free rfl) rfl rfl (Yld.load p208 rfl (at1 (hB3q.cell rfl))) ?_
          refine RL.q (.free rfl) rfl rfl (Yld.lenSl u208 rfl) ?_
          refine RL.p rfl rfl ?_
          refine RL.done ?_
          first | refine RK.condD rfl (fun h55 => ?_) (fun h55 => ?_) | refine RK.condN rfl (fun h55 => ?_) (fun h55 => ?_) | refine RK.cond rfl (fun h55 => ?_) (fun h55 => ?_)
          · obtain ⟨ck, y, b5, o5, rfl, hyk, hym, hyt, hyv, _, hcl⟩ := h.kid (k := q) (by simp only at h55; omega)
            refine RK.skip ?_
            refine RK.seq ?_
            refine RK.block ?_
            refine RK.region ?_
            refine RL.q (.free rfl) rfl rfl (Yld.fieldAddr fo210_2 rfl) ?_
            refine RL.q (.free rfl) rfl rfl (Yld.load p208 rfl (at1 (hB3q.cell rfl))) ?_
            refine RL.p rfl rfl ?_
            refine RL.q (.free rfl) rfl rfl (Yld.indexAddrN u208 i210 rfl rfl (by simp only at h55; omega)) ?_
            refine RL.q (.free rfl) rfl rfl (Yld.loadN (cs := celC ck) a210 rfl (atN (hcl _ (hg2.trans hg3)))) ?_
            iterate 2 refine RL.p rfl rfl ?_
            refine RL.op (.free rfl) rfl rfl (Does.call rfl e243 (hk y hym M ck u g _ (RxV.grow (hg2.trans hg3) y hyv) hu hE.1)) ?_
            rintro u4 w4 ⟨⟨o1, hE1, hu4⟩, hg4⟩
            refine RL.p rfl rfl ?_
            refine RL.done ?_
            refine RK.inBlock ?_
            refine RK.region ?_
            iterate 2 refine RL.p rfl rfl ?_
            refine RL.re (d := 57) rfl rfl (succ_i64 (by simp only at h55; omega)) ?_
            refine RL.p rfl rfl ?_
            refine RL.done ?_
            exact RK.back (ih (q + 1, u4) _ ⟨by simp only at h55 ⊢; omega, hg3.trans hg4, o1, (hE.seq hE1 (lg_fwd y)).iff (fun i j => by rw [take_snoc hyk, lgS_snoc]), hu4⟩ (by simp only at h55 ⊢; omega)) ⟨rfl, rfl, rfl, rfl, rfl, rfl, trivial⟩
          · have ek : (kidsR l).take q = kidsR l := List.take_of_length_le (by simp only at h55; omega)
            rw [ek] at hE
            have hEf : Endz (Lg (HS s) (.node 2 l) true) s.size f g := hE.iff (fun i j => by rw [hlgn, if_pos rfl]; exact (lgS_iff (HS s) h.tr i j).symm)
            refine RK.exit rfl ?_
            refine RK.seq ?_
            refine RK.region ?_
            iterate 2 refine RL.p rfl rfl ?_
            refine RL.op (.free rfl) rfl rfl (Does.copyN u270 i4 rfl rfl (hn7.blk.mod hg3 (fun h => h)) hu (by rw [hE.1]; omega) (by rw [hE.1]; simp) (by simp [Value.oneCell'])) ?_
            rintro _ w4 ⟨rfl, hb4, hm4, _⟩
            refine RL.done ?_
            refine RK.seq ?_
            refine RK.region ?_
            iterate 2 refine RL.p rfl rfl ?_
            refine RL.done ?_
            refine RK.ret_of Tryz.func243 (res1 rfl rfl) ?_ _
            exact ⟨_, rfl, ⟨g, hEf, ⟨by simp [hE.1], by rw [hE.1]; omega, _, _, by rw [hE.1], fun _ => ⟨b7, 0, rfl, fun h => h, fun j u hj => by
                rw [Nat.zero_add]
                refine hb4.cell' ?_
                rw [List.take_zero, List.nil_append, List.getElem?_append_left (List.getElem?_eq_some_iff.1 hj).1]
                exact hj⟩⟩⟩, (hg2.trans hg3).then hm4 (fun y hy e => by have e' : y = b7 := e; omega)⟩
        · refine RK.seq ?_
          refine RK.region ?_
          iterate 2 refine RL.p rfl rfl ?_
          refine RL.done ?_
          first | refine RK.condD rfl (fun h70 => ?_) (fun h70 => ?_) | refine RK.condN rfl (fun h70 => ?_) (fun h70 => ?_) | refine RK.cond rfl (fun h70 => ?_) (fun h70 => ?_)
          · have ho : o = 3 := by omega
            subst ho
            have hE0 : Endz (fun i j => ∃ x ∈ (kidsR l).take 0, Lg (HS s) x true i j) s.size f (List.replicate (s.size + 1) false) := ⟨by simp, fun j => by simp [List.getElem?_replicate]⟩
            have hu0 : SlB No w2 (.slice (some ⟨b7, 0, none⟩) (s.size + 1) (s.size + 1)) (List.replicate (s.size + 1) false) := ⟨by simp, by simp; omega, some ⟨b7, 0, none⟩, s.size + 1, by simp, fun _ => ⟨b7, 0, rfl, fun h => h, fun j u hj => by rw [Nat.zero_add]; exact hn7.blk.cell' (by simpa using hj)⟩⟩
            iterate 2 refine RK.seq ?_
            refine RK.region ?_
            refine RL.p rfl rfl ?_
            refine RL.done ?_
            refine RK.block ?_
            refine RK.loop (fun t : Nat × Value => [(1, .string s), (2, .slice adv f.length cv), (3, pp b3), (7, t.2), (11, .int .i64 (t.1 : Int))]) (fun t w' => t.1 ≤ n ∧ Grow w2 w' ∧ ∃ g, Endz (fun i j => ∃ x ∈ (kidsR l).take t.1, Lg (HS s) x true i j) s.size f g ∧ SlB No w' t.2 g) (fun t => n - t.1) (0, .slice (some ⟨b7, 0, none⟩) (s.size + 1) (s.size + 1)) ⟨rfl, rfl, rfl, rfl, rfl, trivial⟩ ⟨by simp, Mod.refl _ _, _, hE0, hu0⟩ (fun t w3 hI ih => ?_)
            obtain ⟨q, u⟩ := t
            obtain ⟨hq, hg3, g, hE, hu⟩ := hI
            simp only at hq hE hu
            have hB3q := hB2.mod hg3 (fun h => h)
            iterate 2 refine RK.seq ?_
            refine RK.region ?_
            refine RL.p rfl rfl ?_
            refine RL.q (.free rfl) rfl rfl (Yld.fieldAddr fo210_2 rfl) ?_
            refine RL.q (.free rfl) rfl rfl (Yld.load p208 rfl (at1 (hB3q.cell rfl))) ?_
            refine RL.q (.free rfl) rfl rfl (Yld.lenSl u208 rfl) ?_
            refine RL.p rfl rfl ?_
            refine RL.done ?_
            first | refine RK.condD rfl (fun h76 => ?_) (fun h76 => ?_) | refine RK.condN rfl (fun h76 => ?_) (fun h76 => ?_) | refine RK.cond rfl (fun h76 => ?_) (fun h76 => ?_)
            · obtain ⟨ck, y, b5, o5, rfl, hyk, hym, hyt, hyv, _, hcl⟩ := h.kid (k := q) (by simp only at h76; omega)
              refine RK.skip ?_
              refine RK.seq ?_
              refine RK.block ?_
              refine RK.region ?_
              refine RL.p rfl rfl ?_
              refine RL.q (.free rfl) rfl rfl (Yld.fieldAddr fo210_2 rfl) ?_
              refine RL.q (.free rfl) rfl rfl (Yld.load p208 rfl (at1 (hB3q.cell rfl))) ?_
              refine RL.p rfl rfl ?_
              refine RL.q (.free rfl) rfl rfl (Yld.indexAddrN u208 i210 rfl rfl (by simp only at h76; omega)) ?_
              refine RL.q (.free rfl) rfl rfl (Yld.loadN (cs := celC ck) a210 rfl (atN (hcl _ (hg2.trans hg3)))) ?_
              iterate 2 refine RL.p rfl rfl ?_
              refine RL.op (.free rfl) rfl rfl (Does.call rfl e243 (hk y hym M ck _ f _ (RxV.grow (hg2.trans hg3) y hyv) (hv2.mod hg3) hf)) ?_
              rintro u4 w4 ⟨⟨o1, hE1, hu4⟩, hg4⟩
              have hol : g.length = o1.length := by rw [hE.1, hE1.1]
              refine RL.op (.free rfl) rfl rfl (Does.call rfl e259 (joinL_ok No g o1 hol (by rw [hE.1]; omega) _ _ _ (hu.mod hg4) hu4)) ?_
              rintro u6 w6 ⟨hu6, hg6⟩
              refine RL.p rfl rfl ?_
              refine RL.done ?_
              refine RK.inBlock ?_
              refine RK.region ?_
              iterate 2 refine RL.p rfl rfl ?_
              refine RL.re (d := 78) rfl rfl (succ_i64 (by simp only at h76; omega)) ?_
              refine RL.p rfl rfl ?_
              refine RL.done ?_
              exact RK.back (ih (q + 1, u6) _ ⟨by simp only at h76 ⊢; omega, (hg3.trans hg4).trans hg6, joinS g o1, (hE.or hE1).iff (fun i j => by
                  rw [take_snoc hyk]
                  constructor
                  · rintro (⟨z, hz, hz2⟩ | hz)
                    · exact ⟨z, List.mem_append_left _ hz, hz2⟩
                    · exact ⟨y, by simp, hz⟩
                  · rintro ⟨z, hz, hz2⟩
                    rcases List.mem_append.1 hz with h1 | h1
                    · exact .inl ⟨z, h1, hz2⟩
                    · simp at h1; subst h1; exact .inr hz2), hu6⟩ (by simp only at h76 ⊢; omega)) ⟨rfl, rfl, rfl, rfl, rfl, trivial⟩
            · have ek : (kidsR l).take q = kidsR l := List.take_of_length_le (by simp only at h76; omega)
              rw [ek] at hE
              have hEf : Endz (Lg (HS s) (.node 3 l) true) s.size f g := hE.iff (fun i j => by rw [hlgn, if_neg (by omega), if_pos rfl]; exact (lgA_iff (HS s) h.tr i j).symm)
              refine RK.exit rfl ?_
              refine RK.seq ?_
              refine RK.region ?_
              iterate 2 refine RL.p rfl rfl ?_
              refine RL.done ?_
              refine RK.ret_of Tryz.func243 (res1 rfl rfl) ?_ _
              exact ⟨_, rfl, ⟨g, hEf, hu⟩, hg2.trans hg3⟩
          · obtain ⟨y, hly⟩ := only_kid h.tr (by omega)
            subst hly
            have hn1 : n = 1 := by rw [hn, hlen]; rfl
            obtain ⟨ck, y', b5, o5, rfl, hyk, hym, hyt, hyv, _, hcl⟩ := h.kid (k := 0) (by omega)
            have hyy : y' = y := by simpa [kidsR] using hyk.symm
            subst hyy
            have hay := hk y' hym
            have hlo : ∀ i j, Lg (HS s) (.cons y' .nil) true i j ↔ Lg (HS s) y' true i j := lg_only (HS s)
            have hrt : ∀ i j, Rt (Lg (HS s) (.cons y' .nil) true) i j ↔ Rt (Lg (HS s) y' true) i j := fun i j => ⟨fun h => rt_iff (fun i j => (hlo i j).1) h, fun h => rt_iff (fun i j => (hlo i j).2) h⟩
            refine RK.seq ?_
            refine RK.region ?_
            iterate 2 refine RL.p rfl rfl ?_
            refine RL.done ?_
            first | refine RK.condD rfl (fun h90 => ?_) (fun h90 => ?_) | refine RK.condN rfl (fun h90 => ?_) (fun h90 => ?_) | refine RK.cond rfl (fun h90 => ?_) (fun h90 => ?_)
            · have ho : o = 6 := by omega
              subst ho
              refine RK.seq ?_
              refine RK.region ?_
              refine RL.p rfl rfl ?_
              refine RL.q (.free rfl) rfl rfl (Yld.fieldAddr fo210_2 rfl) ?_
              refine RL.q (.free rfl) rfl rfl (Yld.load p208 rfl (at1 (hB2.cell rfl))) ?_
              refine RL.q (.free rfl) rfl rfl (Yld.indexAddr u208 i210 rfl rfl (by omega) (by omega)) ?_
              refine RL.q (.free rfl) rfl rfl (Yld.loadN (cs := celC ck) a210 rfl (atN (hcl _ hg2))) ?_
              iterate 2 refine RL.p rfl rfl ?_
              refine RL.op (.free rfl) rfl rfl (Does.call rfl e243 (hay M ck _ f _ (RxV.grow hg2 _ hyv) hv2 hf)) ?_
              rintro u4 w4 ⟨⟨o1, hE1, hu4⟩, hg4⟩
              have hol : f.length = o1.length := by rw [hf, hE1.1]
              refine RL.op (.free rfl) rfl rfl (Does.call rfl e259 (joinL_ok No f o1 hol (by omega) _ _ _ (hv2.mod hg4) hu4)) ?_
              rintro u6 w6 ⟨hu6, hg6⟩
              refine RL.p rfl rfl ?_
              refine RL.done ?_
              refine RK.ret_of Tryz.func243 (res1 rfl rfl) ?_ _
              exact ⟨_, rfl, ⟨joinS f o1, (hid.or hE1).iff (fun i j => by rw [hlgn, if_neg (by omega), if_neg (by omega), if_neg (by omega), if_neg (by omega), hlo]), hu6⟩, (hg2.trans hg4).trans hg6⟩
            · refine RK.seq ?_
              refine RK.region ?_
              iterate 2 refine RL.p rfl rfl ?_
              refine RL.done ?_
              first | refine RK.condD rfl (fun h101 => ?_) (fun h101 => ?_) | refine RK.condN rfl (fun h101 => ?_) (fun h101 => ?_) | refine RK.cond rfl (fun h101 => ?_) (fun h101 => ?_)
              · have ho : o = 5 := by omega
                subst ho
                refine RK.region ?_
                refine RL.q (.free rfl) rfl rfl (Yld.fieldAddr fo210_2 rfl) ?_
                refine RL.q (.free rfl) rfl rfl (Yld.load p208 rfl (at1 (hB2.cell rfl))) ?_
                refine RL.q (.free rfl) rfl rfl (Yld.indexAddr u208 i210 rfl rfl (by omega) (by omega)) ?_
                refine RL.q (.free rfl) rfl rfl (Yld.loadN (cs := celC ck) a210 rfl (atN (hcl _ hg2))) ?_
                iterate 2 refine RL.p rfl rfl ?_
                refine RL.op (.free rfl) rfl rfl (Does.call rfl e243 (hay M ck _ f _ (RxV.grow hg2 _ hyv) hv2 hf)) ?_
                rintro u4 w4 ⟨⟨o1, hE1, hu4⟩, hg4⟩
                refine RL.p rfl rfl ?_
                refine RL.done ?_
                refine RK.inBlock ?_
                exact RK.back (hj u4 _ ⟨y', o1, rfl, hE1.1, hu4, hg2.trans hg4, hB2.mod hg4 (fun h => h), fun res hres => (hE1.seq hres (fun i j h => (rt_rounds (lg_fwd y') h).1)).iff (fun i j => by
                    rw [hlgn, if_neg (by omega), if_neg (by omega), if_neg (by omega), if_pos rfl]
                    constructor
                    · rintro ⟨k, h1, h2⟩; exact ⟨k, (hlo _ _).2 h1, (hrt _ _).2 h2⟩
                    · rintro ⟨k, h1, h2⟩; exact ⟨k, (hlo _ _).1 h1, (hrt _ _).1 h2⟩), hay⟩) ⟨rfl, rfl, rfl, trivial⟩
              · have ho : o = 4 := by omega
                subst ho
                refine RK.region ?_
                iterate 2 refine RL.p rfl rfl ?_
                refine RL.op (.free rfl) rfl rfl (Does.copyN u270 i4 rfl rfl hn7.blk hv2 (by omega) (by rw [hf]; simp) (by simp [Value.oneCell'])) ?_
                rintro _ w4 ⟨rfl, hb4, hm4, _⟩
                have hu4 : SlB No w4 (.slice (some ⟨b7, 0, none⟩) (s.size + 1) (s.size + 1)) f := ⟨by simp, by omega, _, _, by rw [hf], fun _ => ⟨b7, 0, rfl, fun h => h, fun j u hj => by
                    rw [Nat.zero_add]
                    refine hb4.cell' ?_
                    rw [List.take_zero, List.nil_append, List.getElem?_append_left (List.getElem?_eq_some_iff.1 hj).1]
                    exact hj⟩⟩
                refine RL.done ?_
                refine RK.inBlock ?_
                exact RK.back (hj _ _ ⟨y', f, rfl, hf, hu4, hg2.then hm4 (fun y hy e => by have e' : y = b7 := e; omega), hB2.mod hm4 hb37, fun res hres => hres.iff (fun i j => by rw [hlgn, if_neg (by omega), if_neg (by omega), if_pos rfl, hrt]), hay⟩) ⟨rfl, rfl, rfl, trivial⟩
end Go.Proofs.YtffbcfcoddacmaaGreat
set_option linter.unusedVariables false
set_option linter.unusedSimpArgs false
set_option maxHeartbeats 400000
set_option maxRecDepth 100000
namespace Go.Proofs.YtffbcfcoddacmaaGreat
open Go Go.X
section
variable {α : Type}
def pos (lt : α → α → Bool) (x : α) (L : List α) : Nat := L.length - (L.reverse.takeWhile (lt x)).length
def insE (lt : α → α → Bool) (L : List α) (x : α) : List α := L.take (pos lt x L) ++ x :: L.drop (pos lt x L)
def isort (lt : α → α → Bool) (xs : List α) : List α := xs.foldl (insE lt) []
theorem insE_split {lt : α → α → Bool} {x : α} {A D : List α} (hD : ∀ y ∈ D, lt x y = true) (hA : ∀ A' y, A = A' ++ [y] → lt x y = false) : insE lt (A ++ D) x = A ++ x :: D := by
  have h1 : (A ++ D).reverse.takeWhile (lt x) = D.reverse := by
    rw [List.reverse_append, List.takeWhile_append_of_pos (by intro y hy; exact hD y (by simpa using hy))]
    have : A.reverse.takeWhile (lt x) = [] := by
      cases hr : A.reverse with
      | nil => rfl
      | cons y l =>
        have : A = l.reverse ++ [y] := by have := congrArg List.reverse hr; simpa using this
        simp [List.takeWhile, hA _ _ this]
    rw [this, List.append_nil]
  have h2 : pos lt x (A ++ D) = A.length := by unfold pos; rw [h1]; simp
  unfold insE
  rw [h2]
  simp
theorem insE_len (lt : α → α → Bool) (L : List α) (x : α) : (insE lt L x).length = L.length + 1 := by
  unfold insE
  simp
  have : pos lt x L ≤ L.length := Nat.sub_le _ _
  omega
theorem isort_snoc (lt : α → α → Bool) (xs : List α) (x : α) : isort lt (xs ++ [x]) = insE lt (isort lt xs) x := by simp [isort]
theorem isort_len (lt : α → α → Bool) (xs : List α) : (isort lt xs).length = xs.length := by
  have : ∀ xs L : List α, (xs.foldl (insE lt) L).length = xs.length + L.length := by
    intro xs
    induction xs with
    | nil => intro L; simp
    | cons x xs ih => intro L; simp only [List.foldl_cons, ih, insE_len, List.length_cons]; omega
  unfold isort
  simpa using this xs []
theorem SetAt.of : ∀ {l : List Value} {i : Nat} {v : Value}, i < l.length → SetAt l i v (l.set i v)
  | u :: l, 0, v, _ => .z
  | u :: l, i + 1, v, h => .s (SetAt.of (by simpa using h))
end
end Go.Proofs.YtffbcfcoddacmaaGreat
set_option linter.unusedVariables false
set_option linter.unusedSimpArgs false
set_option maxHeartbeats 400000
set_option maxRecDepth 100000
namespace Go.Proofs.YtffbcfcoddacmaaGreat
open Go Go.X
end Go.Proofs.YtffbcfcoddacmaaGreat
set_option linter.unusedVariables false
set_option linter.unusedSimpArgs false
set_option maxHeartbeats 400000
set_option maxRecDepth 100000
namespace Go.Proofs.YtffbcfcoddacmaaGreat
open Go Go.X
theorem cloneL_ok (M : Nat → Prop) (ls : List Lab) (v : Value) (w : World) (hv : SlL M w v ls) (hb : ls.length ≤ 1000) :
    Fx Tryz.prog 80 [v] w (fun u w' => Row w' 46 2 u ls.length (ls.flatMap labC) ∧ Fresh w.heap.size u ∧ Grow w w') := by
  obtain ⟨ad, c, b, o, rfl, hf⟩ := hv.open
  refine enter Tryz.func80 rfl rfl rfl _ (Pick.sub (l := [0]) (.cons rfl .nil)) ?_
  refine RK.seq ?_
  refine RK.region ?_
  refine RL.p rfl rfl ?_
  refine RL.done ?_
  iterate 2 refine RK.seq ?_
  refine RK.region ?_
  refine RL.p rfl rfl ?_
  refine RL.q (.free rfl) rfl rfl (Yld.eqNil u26 rfl rfl) ?_
  refine RL.done ?_
  first | refine RK.condD rfl (fun h4 => ?_) (fun h4 => ?_) | refine RK.condN rfl (fun h4 => ?_) (fun h4 => ?_) | refine RK.cond rfl (fun h4 => ?_) (fun h4 => ?_)
  · refine RK.seq ?_
    refine RK.region ?_
    refine RL.p rfl rfl ?_
    refine RL.done ?_
    refine RK.ret_of Tryz.func80 (res1 rfl rfl) ?_ _
    exact ⟨_, rfl, by cases ad with | none => (have h0 : ls.length = 0 := by (rcases Nat.eq_zero_or_pos ls.length with h | h; exact h; exact absurd (hf h).1 (by simp))); have : ls = [] := List.eq_nil_of_length_eq_zero h0; subst this; exact ⟨Row.nil _ _ _, fun b hb => by simp [Value.ownBlock] at hb, Mod.refl _ _⟩ | some a => simp at h4⟩
  · refine RK.skip ?_
    refine RK.seq ?_
    refine RK.region ?_
    refine RL.op (.free rfl) rfl rfl (Does.slice0 u26 i46) ?_
    rintro _ w1 ⟨b1, rfl, hn1⟩
    refine RL.p rfl rfl ?_
    refine RL.op (.free rfl) rfl rfl (Does.append u26 i46 rfl rfl rfl rfl rfl (Row.new hn1 2 0 rfl (by omega)) ((hv.mod (Mod.any' hn1.grow)).noM) (allOne_labs ls) (by omega)) ?_
    rintro u w2 ⟨hr, hm, hu⟩
    refine RL.p rfl rfl ?_
    refine RL.done ?_
    refine RK.ret_of Tryz.func80 (res1 rfl rfl) ?_ _
    exact ⟨_, rfl, by simpa using hr, fun b hb => by rcases hu with hu | hu <;> rw [hu] at hb <;> simp [Value.ownBlock] at hb <;> (have := hn1.at_; have := hn1.size; omega), hn1.grow.then hm (fun x hx e => by simp [Value.ownBlock] at e; have := hn1.at_; omega)⟩
theorem take_snoc_eq {α : Type} {l1 l2 : List α} {k : Nat} {x : α} (h : l1.take k = l2.take k) (h1 : l1[k]? = some x) (h2 : l2[k]? = some x) : l1.take (k + 1) = l2.take (k + 1) := by
  rw [List.take_add_one, List.take_add_one, h, h1, h2]
theorem sameInts_ok (M : Nat → Prop) (l1 l2 : List Int) (v1 v2 : Value) (w : World) (hv1 : Sl M w v1 1 l1.length (ints l1)) (hv2 : Sl M w v2 1 l2.length (ints l2)) :
    Fx Tryz.prog 29 [v1, v2] w (fun u w' => u = .bool (decide (l1 = l2)) ∧ Grow w w') := by
  obtain ⟨a1, c1, rfl⟩ := hv1.shape
  obtain ⟨a2, c2, rfl⟩ := hv2.shape
  have hbig := hv1.big
  refine enter Tryz.func29 rfl rfl rfl _ (Pick.sub (l := [0, 1]) (.cons rfl (.cons rfl .nil))) ?_
  refine RK.seq ?_
  refine RK.region ?_
  refine RL.p rfl rfl ?_
  refine RL.done ?_
  iterate 2 refine RK.seq ?_
  refine RK.region ?_
  refine RL.p rfl rfl ?_
  refine RL.q (.free rfl) rfl rfl (Yld.lenSl u22 rfl) ?_
  refine RL.p rfl rfl ?_
  refine RL.q (.free rfl) rfl rfl (Yld.lenSl u22 rfl) ?_
  refine RL.p rfl rfl ?_
  refine RL.done ?_
  first | refine RK.condD rfl (fun h10 => ?_) (fun h10 => ?_) | refine RK.condN rfl (fun h10 => ?_) (fun h10 => ?_) | refine RK.cond rfl (fun h10 => ?_) (fun h10 => ?_)
  · refine RK.seq ?_
    refine RK.region ?_
    refine RL.p rfl rfl ?_
    refine RL.done ?_
    refine RK.ret_of Tryz.func29 (res1 rfl rfl) ?_ _
    exact ⟨_, rfl, congrArg _ (by rw [eq_comm, decide_eq_false_iff_not]; rintro rfl; simp at h10), Mod.refl _ _⟩
  · refine RK.skip ?_
    iterate 2 refine RK.seq ?_
    refine RK.region ?_
    refine RL.p rfl rfl ?_
    refine RL.done ?_
    refine RK.block ?_
    refine RK.loop (fun k : Nat => [(0, .slice a1 l1.length c1), (1, .slice a2 l2.length c2), (5, .int .i64 k)]) (fun k w' => Grow w w' ∧ k ≤ l1.length ∧ l1.take k = l2.take k) (fun k => l1.length - k) 0 ⟨rfl, rfl, rfl, trivial⟩ ⟨Mod.refl _ _, by omega, by simp⟩ (fun k w' hI ih => ?_)
    obtain ⟨hg, hk, htk⟩ := hI
    have hl : l1.length = l2.length := by simp at h10; omega
    iterate 2 refine RK.seq ?_
    refine RK.region ?_
    iterate 2 refine RL.p rfl rfl ?_
    refine RL.q (.free rfl) rfl rfl (Yld.lenSl u22 rfl) ?_
    refine RL.p rfl rfl ?_
    refine RL.done ?_
    first | refine RK.condD rfl (fun h14 => ?_) (fun h14 => ?_) | refine RK.condN rfl (fun h14 => ?_) (fun h14 => ?_) | refine RK.cond rfl (fun h14 => ?_) (fun h14 => ?_)
    · obtain ⟨x, hx⟩ : ∃ x, l1[k]? = some x := ⟨l1[k]'(by omega), List.getElem?_eq_getElem (by omega)⟩
      obtain ⟨y, hy⟩ : ∃ y, l2[k]? = some y := ⟨l2[k]'(by omega), List.getElem?_eq_getElem (by omega)⟩
      obtain ⟨b1, o1, c1', he1, _, _, hc1⟩ := hv1.elem1 (k := k) (u := .int .i64 x) (by simp [hx])
      obtain ⟨b2, o2, c2', he2, _, _, hc2⟩ := hv2.elem1 (k := k) (u := .int .i64 y) (by simp [hy])
      cases he1
      cases he2
      refine RK.skip ?_
      refine RK.seq ?_
      refine RK.block ?_
      refine RK.seq ?_
      refine RK.drawM No [(0, false), (1, false), (2, false), (3, false), (4, false), (5, false), (6, false), (7, false), (8, false)] [] mixed (by kernel_rfl) ?_
      iterate 2 refine DL.p rfl rfl rfl ?_
      refine DL.qf rfl (.free rfl) rfl rfl (Yld.indexAddrN u22 i3 rfl rfl (by omega)) ?_
      refine DL.q rfl (.free rfl) rfl rfl rfl (Yld.load p3 rfl (atM (hg.cell (hc1 k (.int .i64 x) (by simp [hx])) (fun h => h)) (id))) (Mod.drew _ _) ?_
      iterate 2 refine DL.p rfl rfl rfl ?_
      refine DL.qf rfl (.free rfl) rfl rfl (Yld.indexAddrN u22 i3 rfl rfl (by omega)) ?_
      refine DL.q rfl (.free rfl) rfl rfl rfl (Yld.load p3 rfl (atM (hg.cell (hc2 k (.int .i64 y) (by simp [hy])) (fun h => h)) (id))) (Mod.drew _ _) ?_
      refine DL.p rfl rfl rfl ?_
      refine DL.done ?_
      first | refine RK.condD rfl (fun h25 => ?_) (fun h25 => ?_) | refine RK.condN rfl (fun h25 => ?_) (fun h25 => ?_) | refine RK.cond rfl (fun h25 => ?_) (fun h25 => ?_)
      · refine RK.seq ?_
        refine RK.region ?_
        refine RL.p rfl rfl ?_
        refine RL.done ?_
        refine RK.ret_of Tryz.func29 (res1 rfl rfl) ?_ _
        exact ⟨_, rfl, congrArg _ (by rw [eq_comm, decide_eq_false_iff_not]; rintro rfl; rw [hx] at hy; cases hy; simp at h25), hg.trans (Mod.drew _ _)⟩
      · refine RK.skip ?_
        refine RK.inBlock ?_
        refine RK.region ?_
        iterate 2 refine RL.p rfl rfl ?_
        refine RL.re (d := 16) rfl rfl (succ_i64 (by omega)) ?_
        refine RL.p rfl rfl ?_
        refine RL.done ?_
        exact RK.back (ih (k + 1) _ ⟨hg.trans (Mod.drew _ _), by omega, take_snoc_eq htk hx (by
            have : x = y := by simpa using h25
            rw [this]; exact hy)⟩ (by omega)) ⟨rfl, rfl, rfl, trivial⟩
    · refine RK.exit rfl ?_
      refine RK.seq ?_
      refine RK.region ?_
      refine RL.p rfl rfl ?_
      refine RL.done ?_
      refine RK.ret_of Tryz.func29 (res1 rfl rfl) ?_ _
      exact ⟨_, rfl, congrArg _ (by
          have e1 : k = l1.length := by omega
          have h1 : l1.take k = l1 := List.take_of_length_le (by omega)
          have h2 : l2.take k = l2 := List.take_of_length_le (by omega)
          rw [h1, h2] at htk; simp [htk]), hg⟩
structure Al where
  id : Int
  ls : List Lab
  val : Nat
  v : Value
def alC (a : Al) : List Value := [.int .i64 a.id, a.v, .float .f64 a.val]
theorem alC_len (a : Al) : (alC a).length = 3 := rfl
def findS (l : List (List Lab)) (ls : List Lab) : Option Nat := l.findIdx? fun x => decide (x = ls)
def optI : Option Nat → Int
  | some i => i
  | none => -1
end Go.Proofs.YtffbcfcoddacmaaGreat
set_option linter.unusedVariables false
set_option linter.unusedSimpArgs false
set_option maxHeartbeats 400000
set_option maxRecDepth 100000
namespace Go.Proofs.YtffbcfcoddacmaaGreat
open Go Go.X
abbrev LabK := ByteArray × ByteArray
def labK (x : Lab) : LabK := (x.name, x.value)
structure IdxAt (M : Nat → Prop) (w : World) (ix mh mr : Nat) (has : List (Int × List Lab)) (rows : List (LabK × List Int)) : Prop where
  blk : Blk w ix 144 [.map (some mh), .map (some mr)]
  ne : mh ≠ mr
  hl : ∃ l : List (Int × (List Lab × Value)), l.map (fun t => (t.1, t.2.1)) = has ∧ MapAt (Value.int .i64) w mh (l.map fun t => (t.1, t.2.2)) ∧ ∀ t ∈ l, SlL M w t.2.2 t.2.1
  rl : ∃ r : List (LabK × (List Int × Value)), r.map (fun t => (t.1, t.2.1)) = rows ∧ MapAt pairV w mr (r.map fun t => (t.1, t.2.2)) ∧ ∀ t ∈ r, Sl M w t.2.2 1 t.2.1.length (ints t.2.1)
theorem IdxAt.mod {M M0 : Nat → Prop} {w w' : World} {ix mh mr : Nat} {has : List (Int × List Lab)} {rows : List (LabK × List Int)} (h : IdxAt M w ix mh mr has rows) (hm : Mod M0 w w') (h0 : ∀ b, b < w.heap.size → M0 b → M b) (n1 : ¬ M0 ix) (n2 : ¬ M0 mh) (n3 : ¬ M0 mr) : IdxAt M w' ix mh mr has rows := by
  obtain ⟨l, hl1, hl2, hl3⟩ := h.hl
  obtain ⟨r, hr1, hr2, hr3⟩ := h.rl
  exact ⟨h.blk.mod hm n1, h.ne, ⟨l, hl1, hl2.mod hm n2, fun t ht => (hl3 t ht).mod (hm.mono h0)⟩, ⟨r, hr1, hr2.mod hm n3, fun t ht => (hr3 t ht).mod (hm.mono h0)⟩⟩
theorem IdxAt.off {M M' : Nat → Prop} {w : World} {ix mh mr : Nat} {has : List (Int × List Lab)} {rows : List (LabK × List Int)} (h : IdxAt M w ix mh mr has rows) (hM : ∀ b, b < w.heap.size → M' b → M b) : IdxAt M' w ix mh mr has rows := by
  obtain ⟨l, hl1, hl2, hl3⟩ := h.hl
  obtain ⟨r, hr1, hr2, hr3⟩ := h.rl
  exact ⟨h.blk, h.ne, ⟨l, hl1, hl2, fun t ht => (hl3 t ht).off (by omega) hM⟩, ⟨r, hr1, hr2, fun t ht => (hr3 t ht).off (by omega) hM⟩⟩
theorem idxNew_ok (w : World) : Fx Tryz.prog 27 [] w (fun u w' => ∃ ix mh mr, u = pp ix ∧ (∀ b, b = ix ∨ b = mh ∨ b = mr → w.heap.size ≤ b) ∧ (∀ M, IdxAt M w' ix mh mr [] []) ∧ Grow w w') := by
  refine enter Tryz.func27 rfl rfl rfl _ (Pick.sub (l := []) .nil) ?_
  refine RK.seq ?_
  refine RK.region ?_
  refine RL.p rfl rfl ?_
  refine RL.done ?_
  refine RK.seq ?_
  refine RK.region ?_
  refine RL.op (.free rfl) rfl rfl (Does.makeMap (Value.int .i64)) ?_
  rintro _ w1 ⟨mh, rfl, hmh, hm1, hg1, hs1⟩
  refine RL.op (.free rfl) rfl rfl (Does.makeMap pairV) ?_
  rintro _ w2 ⟨mr, rfl, hmr, hm2, hg2, hs2⟩
  refine RL.q (.free rfl) rfl rfl (Yld.build (v := .agg #[.map (some mh), .map (some mr)]) rfl (fun w => by kernel_rfl)) ?_
  refine RL.op (.free rfl) rfl rfl (Does.box rfl) ?_
  rintro _ w3 ⟨b3, rfl, hn3⟩
  refine RL.p rfl rfl ?_
  refine RL.done ?_
  refine RK.ret_of Tryz.func27 (res1 rfl rfl) ?_ _
  exact ⟨_, rfl, b3, mh, mr, rfl, fun b h => by have := hn3.at_; omega, fun M => ⟨hn3.blk, by omega, ⟨[], rfl, (hm1.mod hg2 (fun h => h)).mod hn3.grow (fun h => h), by simp⟩, ⟨[], rfl, hm2.mod hn3.grow (fun h => h), by simp⟩⟩, (hg1.trans hg2).trans hn3.grow⟩
theorem idxLen_ok (M : Nat → Prop) (w : World) (ix mh mr : Nat) (has : List (Int × List Lab)) (rows : List (LabK × List Int)) (h : IdxAt M w ix mh mr has rows) : Fx Tryz.prog 31 [pp ix] w (fun u w' => u = .int .i64 rows.length ∧ w = w') := by
  obtain ⟨r, hr1, hr2, hr3⟩ := h.rl
  refine enter Tryz.func31 rfl rfl rfl _ (Pick.sub (l := [0]) (.cons rfl .nil)) ?_
  refine RK.seq ?_
  refine RK.region ?_
  refine RL.p rfl rfl ?_
  refine RL.done ?_
  refine RK.seq ?_
  refine RK.region ?_
  iterate 2 refine RL.p rfl rfl ?_
  refine RL.q (.free rfl) rfl rfl (Yld.fieldAddr fo144_1 rfl) ?_
  refine RL.q (.free rfl) rfl rfl (Yld.load p142 rfl (at1 (h.blk.cell rfl))) ?_
  refine RL.q (.free rfl) rfl rfl (Yld.lenMap Tryz.underlying142 rfl (fun w' e => e ▸ hr2)) ?_
  refine RL.p rfl rfl ?_
  refine RL.done ?_
  refine RK.ret_of Tryz.func31 (res1 rfl rfl) ?_ _
  exact ⟨_, rfl, by rw [← hr1]; simp, rfl⟩
end Go.Proofs.YtffbcfcoddacmaaGreat
set_option linter.unusedVariables false
set_option linter.unusedSimpArgs false
set_option maxHeartbeats 400000
set_option maxRecDepth 100000
namespace Go.Proofs.YtffbcfcoddacmaaGreat
open Go Go.X
def addRow1 (id : Int) (r : List (LabK × List Int)) (x : Lab) : List (LabK × List Int) := putM r (labK x) (mkRow ((lookM r (labK x)).getD [] ++ [id]))
def addRows (rows : List (LabK × List Int)) (id : Int) (ls : List Lab) : List (LabK × List Int) := ls.foldl (addRow1 id) rows
theorem addRows_snoc (rows : List (LabK × List Int)) (id : Int) (ls : List Lab) (x : Lab) : addRows rows id (ls ++ [x]) = addRow1 id (addRows rows id ls) x := by simp [addRows]
theorem look_bound {r : List (LabK × List Int)} {B : Nat} (h : ∀ t ∈ r, t.2.length ≤ B) (k : LabK) : ((lookM r k).getD []).length ≤ B := by
  cases hl : lookM r k with
  | none => simp
  | some a => exact h _ (lookM_mem hl)
theorem addRow1_bound {r : List (LabK × List Int)} {B : Nat} (h : ∀ t ∈ r, t.2.length ≤ B) (id : Int) (x : Lab) : ∀ t ∈ addRow1 id r x, t.2.length ≤ B + 1 := by
  intro t ht
  rcases mem_putM ht with h1 | rfl
  · have := h t h1; omega
  · have := mkRow_le ((lookM r (labK x)).getD [] ++ [id])
    have h2 := look_bound h (labK x)
    simp at this ⊢
    omega
theorem addRows_bound {r : List (LabK × List Int)} {B : Nat} (h : ∀ t ∈ r, t.2.length ≤ B) (id : Int) (ls : List Lab) : ∀ t ∈ addRows r id ls, t.2.length ≤ B + ls.length := by
  induction ls generalizing r B with
  | nil => exact h
  | cons x ls ih =>
    intro t ht
    have := ih (addRow1_bound h id x) t ht
    simp; omega
theorem isS_len {ls : List Lab} (h : isS ls = true) : 1 ≤ ls.length ∧ ls.length ≤ 6 := by
  simp only [isS, Bool.and_eq_true, decide_eq_true_eq] at h
  exact h.1
theorem add_ok (M : Nat → Prop) (w : World) (ix mh mr : Nat) (has : List (Int × List Lab)) (rows : List (LabK × List Int)) (h : IdxAt M w ix mh mr has rows) (hMh : M mh) (hMr : M mr) (hM : ∀ b, M b → b < w.heap.size) (id : Int) (ls : List Lab) (v : Value) (hv : SlL M w v ls)
    (hnew : lookM has id = none) (his : isS ls = true) (hB : ∀ t ∈ rows, t.2.length ≤ 100000000000) :
    Fx Tryz.prog 28 [pp ix, .int .i64 id, v] w (fun u w' => u = .bool true ∧ IdxAt M w' ix mh mr (putM has id ls) (addRows rows id ls) ∧ Mod (fun b => b = mh ∨ b = mr) w w') := by
  obtain ⟨ad, c, rfl⟩ := hv.shape
  obtain ⟨l, hl1, hl2, hl3⟩ := h.hl
  have hlk : lookM (l.map fun t => (t.1, t.2.2)) id = none := by
    have e1 := lookM_map (fun a : List Lab × Value => a.1) id l
    have e2 := lookM_map (fun a : List Lab × Value => a.2) id l
    rw [hl1, hnew] at e1
    have : lookM l id = none := by cases hh : lookM l id with
      | none => rfl
      | some a => rw [hh] at e1; simp at e1
    rw [this] at e2
    exact e2
  obtain ⟨h61, h66⟩ := isS_len his
  have n1 : ix ≠ mh := h.blk.ty.nem hl2.mp
  have n2 : ix ≠ mr := by obtain ⟨r, _, hr2, _⟩ := h.rl; exact h.blk.ty.nem hr2.mp
  refine enter Tryz.func28 rfl rfl rfl _ (Pick.sub (l := [0, 1, 2]) (.cons rfl (.cons rfl (.cons rfl .nil)))) ?_
  refine RK.seq ?_
  refine RK.region ?_
  refine RL.p rfl rfl ?_
  refine RL.done ?_
  iterate 2 refine RK.seq ?_
  refine RK.region ?_
  iterate 2 refine RL.p rfl rfl ?_
  refine RL.q (.free rfl) rfl rfl (Yld.fieldAddr fo144_0 rfl) ?_
  refine RL.q (.free rfl) rfl rfl (Yld.load p141 rfl (at1 (h.blk.cell rfl))) ?_
  refine RL.p rfl rfl ?_
  refine RL.q (.free rfl) rfl rfl (Yld.lookup Tryz.underlying141 key3 i26 rfl rfl (fun w' e => e ▸ hl2)) ?_
  refine RL.p rfl rfl ?_
  refine RL.re (d := 11) rfl rfl (show _ = Value.tuple #[.slice none 0 0, .bool false] by rw [hlk]; rfl) ?_
  iterate 4 refine RL.p rfl rfl ?_
  refine RL.done ?_
  refine RK.seq ?_
  refine RK.region ?_
  iterate 2 refine RL.p rfl rfl ?_
  refine RL.knownF (d := 21) rfl rfl (rfl) ?_
  refine RL.q (.yes rfl rfl rfl) rfl rfl (Yld.pure rfl) ?_
  refine RL.op (.yes rfl rfl rfl) rfl rfl (Does.call rfl e73 (is_ok M ls _ _ hv)) ?_
  rintro _ w2 ⟨rfl, hg2⟩
  refine RL.q (.yes rfl rfl rfl) rfl rfl (Yld.pure rfl) ?_
  refine RL.p rfl rfl ?_
  refine RL.done ?_
  refine RK.condF (hcF rfl (by rw [his]; rfl)) ?_
  refine RK.skip ?_
  refine RK.seq ?_
  refine RK.drawM No [(0, false), (1, false), (2, false), (3, false), (4, false), (5, false), (6, true), (7, true)] [7] mixed (by kernel_rfl) ?_
  iterate 2 refine DL.p rfl rfl rfl ?_
  refine DL.qf rfl (.free rfl) rfl rfl (Yld.fieldAddr fo144_0 rfl) ?_
  refine DL.q rfl (.free rfl) rfl rfl rfl (Yld.load p141 rfl (atM ((h.blk.mod hg2 (fun h => h)).cell rfl) (fun h => h))) (Mod.drew _ _) ?_
  iterate 2 refine DL.p rfl rfl rfl ?_
  refine DL.op rfl (.free rfl) rfl rfl (Does.call rfl e80 (cloneL_ok M ls _ _ ((hv.mod (Mod.any' hg2)).mod (Mod.drew M _)) (by omega))) ?_
  rintro u3 w3 ⟨hr3, hf3, hg3⟩
  refine ⟨(Mod.drew _ _).trans hg3, ?_⟩
  obtain ⟨ad3, c3, rfl⟩ := hr3.slice
  have hg03 : Grow w w3 := (hg2.trans (Mod.drew _ _)).trans hg3
  refine DL.opT rfl (.free rfl) rfl rfl (Does.mapUpdate Tryz.underlying141 key3 rfl rfl rfl (hl2.mod hg03 (fun h => h))) ?_
  rintro _ w4 ⟨hm4, hmod4, hs4⟩
  have hmod04 : Mod (· = mh) w w4 := (Mod.any' hg03).trans hmod4
  have hu3 : SlL M w4 (.slice ad3 ls.length c3) ls := (Sl.own hr3 (fun k e hk => by have h1 := hf3 k e; have h2 := hM k hk; have h3 := hg2.size; simp only [World.drew] at h1; omega)).mod (hmod4.mono fun b _ e => e ▸ hMh)
  have hidx4 : IdxAt M w4 ix mh mr (putM has id ls) rows := by
      obtain ⟨r, hr1, hr2, hr3⟩ := h.rl
      refine ⟨h.blk.mod hmod04 n1, h.ne, ⟨putM l id (ls, .slice ad3 ls.length c3), ?_, ?_, fun t ht => ?_⟩, ⟨r, hr1, hr2.mod hmod04 h.ne.symm, fun t ht => (hr3 t ht).mod (hmod04.mono fun b _ e => e ▸ hMh)⟩⟩
      · rw [← hl1]; exact (putM_map (fun a : List Lab × Value => a.1) id (ls, .slice ad3 ls.length c3) l).symm
      · rw [← putM_map (fun a : List Lab × Value => a.2) id (ls, .slice ad3 ls.length c3) l]; exact hm4
      · rcases mem_putM ht with h1 | rfl
        · exact (hl3 t h1).mod (hmod04.mono fun b _ e => e ▸ hMh)
        · exact hu3
  have hmodA : Mod (fun b => b = mh ∨ b = mr) w w4 := hmod04.mono fun b _ e => .inl e
  refine DL.done ?_
  iterate 2 refine RK.seq ?_
  refine RK.region ?_
  refine RL.p rfl rfl ?_
  refine RL.q (.free rfl) rfl rfl (Yld.lenSl u26 rfl) ?_
  refine RL.p rfl rfl ?_
  refine RL.done ?_
  refine RK.block ?_
  refine RK.loop (fun k : Nat => [(0, pp ix), (1, .int .i64 id), (33, .slice ad ls.length c), (34, .int .i64 ls.length), (35, .int .i64 k)]) (fun k w' => IdxAt M w' ix mh mr (putM has id ls) (addRows rows id (ls.take k)) ∧ Mod (fun b => b = mh ∨ b = mr) w w' ∧ k ≤ ls.length) (fun k => ls.length - k) 0 ⟨rfl, rfl, rfl, rfl, rfl, trivial⟩ ⟨by simpa [addRows] using hidx4, hmodA, by omega⟩ (fun k w' hI ih => ?_)
  obtain ⟨hi, hmod, hk⟩ := hI
  refine RK.seq ?_
  refine RK.region ?_
  refine RL.p rfl rfl ?_
  refine RL.done ?_
  refine RK.seq ?_
  first | refine RK.condD rfl (fun h36 => ?_) (fun h36 => ?_) | refine RK.condN rfl (fun h36 => ?_) (fun h36 => ?_) | refine RK.cond rfl (fun h36 => ?_) (fun h36 => ?_)
  · obtain ⟨x, hx⟩ : ∃ x, ls[k]? = some x := ⟨ls[k]'(by omega), List.getElem?_eq_getElem (by omega)⟩
    obtain ⟨bx, ox, cx, he, hbM, hkl, hcell⟩ := hv.elem labC_len hx
    cases he
    obtain ⟨r, hr1, hr2, hr3⟩ := hi.rl
    have hmodM : Mod M w w' := hmod.mono fun b _ e => by rcases e with rfl | rfl <;> assumption
    have htk : ls.take (k + 1) = ls.take k ++ [x] := by rw [List.take_succ_eq_append_getElem (by omega)]; congr 2; exact (List.getElem?_eq_some_iff.1 hx).2
    have hbnd : ((lookM (addRows rows id (ls.take k)) (labK x)).getD []).length ≤ 100000000000 + 6 := Nat.le_trans (look_bound (addRows_bound hB id (ls.take k)) (labK x)) (by simp; omega)
    obtain ⟨vv, hval, hsl⟩ : ∃ vv, (lookM (r.map fun t => (t.1, t.2.2)) (labK x)).getD (.slice none 0 0) = vv ∧ Sl M w' vv 1 ((lookM (addRows rows id (ls.take k)) (labK x)).getD []).length (ints ((lookM (addRows rows id (ls.take k)) (labK x)).getD [])) := by
        have e1 := lookM_map (fun a : List Int × Value => a.1) (labK x) r
        have e2 := lookM_map (fun a : List Int × Value => a.2) (labK x) r
        rw [hr1] at e1
        rw [e1, e2]
        cases hh : lookM r (labK x) with
        | none => exact ⟨_, rfl, Sl.nil _ _ _ _ _⟩
        | some a => exact ⟨_, rfl, hr3 _ (lookM_mem hh)⟩
    refine RK.skip ?_
    refine RK.seq ?_
    refine RK.block ?_
    refine RK.seq ?_
    refine RK.region ?_
    refine RL.q (.free rfl) rfl rfl (Yld.indexAddrN u26 i46 rfl rfl (by omega)) ?_
    refine RL.q (.free rfl) rfl rfl (Yld.loadN (cs := [.string x.name, .string x.value]) a46 rfl (atN (fun j u hj => hmodM.cell (hcell j u hj) hbM))) ?_
    refine RL.op (.free rfl) rfl rfl (Does.alloc i46) ?_
    rintro _ w5 ⟨b1, rfl, hn1⟩
    refine RL.op' (.free rfl) rfl (Does.storeN i46 rfl rfl rfl rfl hn1.blk (Nat.le_refl 2)) ?_
    rintro _ w6 ⟨hb6, hm6, _⟩
    have hB6 : Blk w6 b1 46 [.string x.name, .string x.value] := hb6
    have hg6 : Grow w' w6 := hn1.grow.then hm6 (fun y hy e => by have e' : y = b1 := e; have := hn1.at_; omega)
    refine RL.done ?_
    refine RK.drawM No [(0, false), (1, false), (2, false), (3, false), (4, false), (5, false), (6, false), (7, false), (8, false), (9, false), (10, false), (11, false), (12, true), (13, true)] [13] mixed (by kernel_rfl) ?_
    iterate 2 refine DL.p rfl rfl rfl ?_
    refine DL.qf rfl (.free rfl) rfl rfl (Yld.fieldAddr fo144_1 rfl) ?_
    refine DL.q rfl (.free rfl) rfl rfl rfl (Yld.load p142 rfl (atM ((hi.blk.mod hg6 (fun h => h)).cell rfl) (fun h => h))) (Mod.drew _ _) ?_
    refine DL.q rfl (.free rfl) rfl rfl rfl (Yld.loadN (cs := [.string x.name, .string x.value]) a46 rfl (atNM (fun j u hj => by rw [Nat.zero_add]; exact hB6.cell' hj) (fun h => h))) (Mod.drew _ _) ?_
    iterate 2 refine DL.p rfl rfl rfl ?_
    refine DL.qf rfl (.free rfl) rfl rfl (Yld.fieldAddr fo144_1 rfl) ?_
    refine DL.q rfl (.free rfl) rfl rfl rfl (Yld.load p142 rfl (atM ((hi.blk.mod hg6 (fun h => h)).cell rfl) (fun h => h))) (Mod.drew _ _) ?_
    refine DL.q rfl (.free rfl) rfl rfl rfl (Yld.loadN (cs := [.string x.name, .string x.value]) a46 rfl (atNM (fun j u hj => by rw [Nat.zero_add]; exact hB6.cell' hj) (fun h => h))) (Mod.drew _ _) ?_
    refine DL.q rfl (.free rfl) rfl rfl rfl (Yld.lookup Tryz.underlying142 key46 i22 (k := labK x) rfl rfl (fun w' hm => (hr2.mod hg6 (fun h => h)).mod hm (fun h => h))) (Mod.drew _ _) ?_
    refine DL.re (d := 49) rfl rfl (hval) ?_
    refine DL.p rfl rfl rfl ?_
    refine DL.op rfl (.free rfl) rfl rfl (Does.call rfl e87 (put_ok M _ id vv _ ((hsl.mod (Mod.any' hg6)).mod (Mod.drew M _)) (by omega))) ?_
    rintro u7 w7 ⟨hr7, hf7, hg7⟩
    refine ⟨(Mod.drew _ _).trans hg7, ?_⟩
    have hg07 : Grow w' w7 := (hg6.trans (Mod.drew _ _)).trans hg7
    refine DL.opT rfl (.free rfl) rfl rfl (Does.mapUpdate Tryz.underlying142 key46 (k := labK x) rfl rfl rfl (hr2.mod hg07 (fun h => h))) ?_
    rintro _ w8 ⟨hm8, hmod8, hs8⟩
    have hmodk : Mod (· = mr) w' w8 := (Mod.any' hg07).trans hmod8
    have hu7 : Sl M w8 u7 1 (mkRow ((lookM (addRows rows id (ls.take k)) (labK x)).getD [] ++ [id])).length (ints (mkRow ((lookM (addRows rows id (ls.take k)) (labK x)).getD [] ++ [id]))) := (Sl.own hr7 (fun b e hb => by have h1 := hf7 b e; have h2 := hM b hb; have h3 := hg6.size; have h4 := hmod.size; simp only [World.drew] at h1; omega)).mod (hmod8.mono fun b _ e => e ▸ hMr)
    have hidx8 : IdxAt M w8 ix mh mr (putM has id ls) (addRows rows id (ls.take (k + 1))) := by
        obtain ⟨l', hl1', hl2', hl3'⟩ := hi.hl
        refine ⟨hi.blk.mod hmodk n2, hi.ne, ⟨l', hl1', hl2'.mod hmodk hi.ne, fun t ht => (hl3' t ht).mod (hmodk.mono fun b _ e => e ▸ hMr)⟩, ⟨putM r (labK x) (mkRow ((lookM (addRows rows id (ls.take k)) (labK x)).getD [] ++ [id]), u7), ?_, ?_, fun t ht => ?_⟩⟩
        · rw [htk, addRows_snoc, addRow1, ← hr1]; exact (putM_map (fun a : List Int × Value => a.1) (labK x) (_, u7) r).symm
        · rw [← putM_map (fun a : List Int × Value => a.2) (labK x) (_, u7) r]; exact hm8
        · rcases mem_putM ht with h1 | rfl
          · exact (hr3 t h1).mod (hmodk.mono fun b _ e => e ▸ hMr)
          · exact hu7
    refine DL.done ?_
    refine RK.inBlock ?_
    refine RK.region ?_
    refine RL.p rfl rfl ?_
    refine RL.re (d := 52) rfl rfl (succ_i64 (by omega)) ?_
    refine RL.p rfl rfl ?_
    refine RL.done ?_
    exact RK.back (ih (k + 1) _ ⟨hidx8, hmod.trans (hmodk.mono fun b _ e => .inr e), by omega⟩ (by omega)) ⟨rfl, rfl, rfl, rfl, rfl, trivial⟩
  · have ek : ls.take k = ls := List.take_of_length_le (by omega)
    rw [ek] at hi
    refine RK.exit rfl ?_
    refine RK.seq ?_
    refine RK.region ?_
    refine RL.p rfl rfl ?_
    refine RL.done ?_
    refine RK.ret_of Tryz.func28 (res1 rfl rfl) ?_ _
    exact ⟨_, rfl, rfl, hi, hmod⟩
end Go.Proofs.YtffbcfcoddacmaaGreat
set_option linter.unusedVariables false
set_option linter.unusedSimpArgs false
set_option maxHeartbeats 400000
set_option maxRecDepth 100000
namespace Go.Proofs.YtffbcfcoddacmaaGreat
open Go Go.X
structure St where
  most : Int
  last : Int
  out : List Int
  al : List (Int × List Lab × Nat)
  has : List (Int × List Lab)
  rows : List (LabK × List Int)
def own (p q ix mh mr : Nat) (vo vl : Value) : Nat → Prop := fun b => b = p ∨ b = q ∨ b = mh ∨ b = mr ∨ vo.ownBlock = some b ∨ vl.ownBlock = some b ∨ b = ix
def pub (a : Al) : Int × List Lab × Nat := (a.id, a.ls, a.val)
theorem IdxAt.mps {M : Nat → Prop} {w : World} {ix mh mr : Nat} {has : List (Int × List Lab)} {rows : List (LabK × List Int)} (h : IdxAt M w ix mh mr has rows) : Mp w mh ∧ Mp w mr := by
  obtain ⟨l, _, h2, _⟩ := h.hl
  obtain ⟨r, _, h3, _⟩ := h.rl
  exact ⟨h2.mp, h3.mp⟩
def capS (m : Int) : Int := if 16 < (if 1 > m then 1 else m) then 16 else if 1 > m then 1 else m
def St.new (m : Int) : St := ⟨capS m, 0, [], [], [], []⟩
end Go.Proofs.YtffbcfcoddacmaaGreat
set_option linter.unusedVariables false
set_option linter.unusedSimpArgs false
set_option maxHeartbeats 400000
set_option maxRecDepth 100000
namespace Go.Proofs.YtffbcfcoddacmaaGreat
open Go Go.X
end Go.Proofs.YtffbcfcoddacmaaGreat
set_option linter.unusedVariables false
set_option linter.unusedSimpArgs false
set_option maxHeartbeats 400000
set_option maxRecDepth 100000
namespace Go.Proofs.YtffbcfcoddacmaaGreat
open Go Go.X
def fullS (most last : Int) (out : List Int) : Bool := decide (most ≤ out.length ∨ last = 2147483647)
def postS (s : St) (ls : List Lab) (val : Nat) : St × Int × Bool × Int :=
  if isS ls = false then (s, 0, false, 1) else
  match findS (s.al.map (·.2.1)) ls with
  | some i => ({ s with al := s.al.modify i fun a => (a.1, a.2.1, canS val) }, ((s.al[i]?).map (·.1)).getD 0, false, 0)
  | none => if fullS s.most s.last s.out then (s, 0, false, 10) else
    ({ most := s.most, last := s.last + 1, out := s.out ++ [s.last + 1], al := s.al ++ [(s.last + 1, ls, canS val)], has := putM s.has (s.last + 1) ls, rows := addRows s.rows (s.last + 1) ls }, s.last + 1, true, 0)
end Go.Proofs.YtffbcfcoddacmaaGreat
set_option linter.unusedVariables false
set_option linter.unusedSimpArgs false
set_option maxHeartbeats 400000
set_option maxRecDepth 100000
namespace Go.Proofs.YtffbcfcoddacmaaGreat
open Go Go.X
end Go.Proofs.YtffbcfcoddacmaaGreat
set_option linter.unusedVariables false
set_option linter.unusedSimpArgs false
set_option maxHeartbeats 400000
set_option maxRecDepth 100000
namespace Go.Proofs.YtffbcfcoddacmaaGreat
open Go Go.X
end Go.Proofs.YtffbcfcoddacmaaGreat
