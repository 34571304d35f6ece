/- AlertRanks: the walk. -/
import Derived.Test.YtmghlfdejceieaaRa
set_option linter.unusedVariables false
set_option linter.unusedSimpArgs false
set_option maxHeartbeats 400000
set_option maxRecDepth 100000
namespace Go.Proofs.Ytmghlfdejceieaa
open Go Go.X

theorem ranks_ok (vs : List Nat) (hlt : ∀ v ∈ vs, v < 18446744073709551616) (v : Value) (w : World) (hv : Sl No w v 1 vs.length (flts vs)) : Fx Try.prog 6 [v] w (fun u w' => u = .bool true ∧ Grow w w') := by
  obtain ⟨ad, c, rfl⟩ := hv.shape
  have hbig := hv.big
  refine enter Try.func6 rfl rfl rfl _ (Pick.sub (l := [0]) (.cons rfl .nil)) ?_
  refine RK.seq ?_
  refine RK.region ?_
  refine RL.p rfl rfl ?_
  refine RL.done ?_
  refine RK.seq ?_
  refine RK.region ?_
  refine RL.op (.free rfl) rfl rfl (Does.call rfl e7 (new_at _ _)) ?_
  rintro _ w1 ⟨p, rfl, h1⟩
  refine RL.p rfl rfl ?_
  refine RL.done ?_
  iterate 2 refine RK.seq ?_
  refine RK.region ?_
  refine RL.p rfl rfl ?_
  refine RL.q (.free rfl) rfl rfl (Yld.eqPtr Try.underlying22 rfl rfl) ?_
  refine RL.done ?_
  refine RK.condF rfl ?_
  refine RK.skip ?_
  refine RK.seq ?_
  refine RK.region ?_
  refine RL.p rfl rfl ?_
  refine RL.done ?_
  iterate 2 refine RK.seq ?_
  refine RK.region ?_
  refine RL.p rfl rfl ?_
  refine RL.done ?_
  refine RK.block ?_
  refine RK.loop (fun k : Nat => [(0, .slice ad vs.length c), (3, pp p), (4, .int .i64 (k : Int)), (5, .int .i64 (k : Int))]) (fun k w' => ∃ s, At w w' p s ∧ InvR vs k s ∧ k ≤ vs.length ∧ k ≤ 16) (fun k => 16 - k) 0 ⟨rfl, rfl, rfl, rfl, trivial⟩ ⟨_, h1, InvR.new vs, by omega, by omega⟩ (fun k w2 hI ih => ?_)
  obtain ⟨s, hs, hi, hk, hk16⟩ := hI
  iterate 2 refine RK.seq ?_
  refine RK.region ?_
  iterate 2 refine RL.p rfl rfl ?_
  refine RL.q (.free rfl) rfl rfl (Yld.lenSl u43 rfl) ?_
  iterate 2 refine RL.p rfl rfl ?_
  first | refine RL.splitD (d := 20) rfl rfl (fun h19 => ?_) (fun h19 => ?_) | refine RL.splitN (d := 20) rfl rfl (fun h19 => ?_) (fun h19 => ?_) | refine RL.split (d := 20) rfl rfl (fun h19 => ?_) (fun h19 => ?_)
  · iterate 2 refine RL.q (.yes rfl rfl rfl) rfl rfl (Yld.pure rfl) ?_
    refine RL.p rfl rfl ?_
    refine RL.done ?_
    first | refine RK.condD rfl (fun h23 => ?_) (fun h23 => ?_) | refine RK.condN rfl (fun h23 => ?_) (fun h23 => ?_) | refine RK.cond rfl (fun h23 => ?_) (fun h23 => ?_)
    · obtain ⟨x, hx⟩ : ∃ x, vs[k]? = some x := ⟨vs[k]'(by omega), List.getElem?_eq_getElem (by omega)⟩
      have hxlt := hlt x (List.mem_of_getElem? hx)
      obtain ⟨s', he, hi'⟩ := hi.step (by omega) hx
      obtain ⟨bv, ov, cv, hev, _, _, hcv⟩ := hv.elem1 (k := k) (u := .float .f64 x) (by simp [hx])
      cases hev
      have hgs := hs.all
      have hcx : w2.cell? ⟨bv, ov + k * 1, none⟩ = some (.float .f64 x) := hgs.cell (hcv k (.float .f64 x) (by simp [hx])) (fun h => h)
      have hbv : ¬ w.heap.size ≤ bv := by have := World.block_lt_of_cell? w _ (hcv k (.float .f64 x) (by simp [hx])); simp only at this; omega
      refine RK.skip ?_
      refine RK.seq ?_
      refine RK.block ?_
      refine RK.seq ?_
      refine RK.drawM (fun b => w.heap.size ≤ b) [(0, false), (1, false), (2, false), (3, false), (8, false), (9, false), (10, false), (11, false), (4, true), (5, true), (6, false), (7, true), (12, true), (13, false), (14, false), (15, false), (16, false), (17, false), (18, false), (19, false)] [] mixed (by kernel_rfl) ?_
      iterate 3 refine DL.p rfl rfl rfl ?_
      refine DL.re (d := 29) rfl rfl (add_i64 (z := ((97 + k : Nat) : Int)) (by simp) (by omega) (by omega)) ?_
      refine DL.qf rfl (.free rfl) rfl rfl (Yld.convI Try.underlying3 Try.underlying5 rfl) ?_
      refine DL.re (d := 30) rfl rfl (congrArg (Value.int .u8) (show _ = ((97 + k : Nat) : Int) by rw [IntKind.wrap_u8]; omega)) ?_
      iterate 2 refine DL.p rfl rfl rfl ?_
      refine DL.qf rfl (.free rfl) rfl rfl (Yld.indexAddrN u43 i30 rfl rfl (by omega)) ?_
      refine DL.q rfl (.free rfl) rfl rfl rfl (Yld.load p30 rfl (atM (hcx) (hbv))) (Mod.drew _ _) ?_
      refine DL.op rfl (.free rfl) rfl rfl (Does.slice1 u38 i5 rfl rfl rfl rfl rfl) ?_
      rintro _ w3 ⟨b1, rfl, hn1⟩
      refine ⟨(Mod.drew _ _).trans (Mod.any' hn1.grow), ?_⟩
      refine DL.lq rfl (.free rfl) rfl rfl (Yld.bytesStr u38 Try.underlying5 Try.underlying9 (xs := [((97 + k : Nat) : Int)]) rfl rfl (atN (fun j u hj => by rw [Nat.zero_add]; exact hn1.blk.cell' hj))) ?_
      refine DL.qf rfl (.free rfl) rfl rfl (Yld.build (v := .agg #[.string ⟨#[97]⟩, .string (mkS [((97 + k : Nat) : Int)])]) rfl (fun w => by kernel_rfl)) ?_
      refine DL.op rfl (.free rfl) rfl rfl (Does.slice1 u29 i28 rfl rfl rfl rfl rfl) ?_
      rintro _ w4 ⟨b2, rfl, hn2⟩
      refine ⟨((Mod.drew _ _).trans (Mod.any' hn1.grow)).trans (Mod.any' hn2.grow), ?_⟩
      refine DL.op rfl (.free rfl) rfl rfl (Does.call rfl e8 (((hs.grow (Mod.drew _ _)).grow hn1.grow).postD hn2 (ls := lsM k) rfl rfl (show 1 ≤ 1000 by omega) hxlt he)) ?_
      rintro _ w5 ⟨rfl, h5, hm5⟩
      refine ⟨(((Mod.drew _ _).trans (Mod.any' hn1.grow)).trans (Mod.any' hn2.grow)).trans hm5, ?_⟩
      iterate 7 refine DL.p rfl rfl rfl ?_
      refine DL.done ?_
      iterate 2 refine RK.seq ?_
      refine RK.region ?_
      iterate 5 refine RL.p rfl rfl ?_
      refine RL.knownF (d := 47) rfl rfl (decide_eq_false (by rw [wrap_i64 (by omega) (by omega)]; simp)) ?_
      iterate 2 refine RL.q (.yes rfl rfl rfl) rfl rfl (Yld.pure rfl) ?_
      refine RL.p rfl rfl ?_
      refine RL.done ?_
      refine RK.condF (hcF rfl (rfl)) ?_
      refine RK.skip ?_
      refine RK.region ?_
      iterate 2 refine RL.p rfl rfl ?_
      refine RL.re (d := 52) rfl rfl (succ_i64 (by omega)) ?_
      refine RL.p rfl rfl ?_
      refine RL.done ?_
      refine RK.inBlock ?_
      refine RK.region ?_
      iterate 2 refine RL.p rfl rfl ?_
      refine RL.re (d := 25) rfl rfl (succ_i64 (by omega)) ?_
      refine RL.p rfl rfl ?_
      refine RL.done ?_
      exact RK.back (ih (k + 1) _ ⟨s', h5, hi', by omega, by omega⟩ (by omega)) ⟨rfl, rfl, rfl, rfl, trivial⟩
    · refine RK.exit rfl ?_
      refine RK.seq ?_
      refine RK.region ?_
      refine RL.p rfl rfl ?_
      refine RL.op (.free rfl) rfl rfl (Does.call rfl e12 (hs.rank)) ?_
      rintro u9 w9 ⟨hr9, hf9, hg9⟩
      have hal := hi.al
      obtain ⟨ad9, c9, rfl⟩ := hr9.slice
      have hrl := rankIds_len s
      have hsl9 : Sl No w9 (.slice ad9 s.al.length c9) 1 (rankIds s).length (ints (rankIds s)) := by rw [hrl]; exact Sl.own hr9 (fun _ _ h => h)
      refine RL.p rfl rfl ?_
      refine RL.done ?_
      iterate 2 refine RK.seq ?_
      refine RK.region ?_
      refine RL.p rfl rfl ?_
      refine RL.q (.free rfl) rfl rfl (Yld.lenSl u34 rfl) ?_
      iterate 3 refine RL.p rfl rfl ?_
      refine RL.knownF (d := 59) rfl rfl (decide_eq_false (by rw [hal]; simp)) ?_
      refine RL.q (.yes rfl rfl rfl) rfl rfl (Yld.pure rfl) ?_
      refine RL.op (.yes rfl rfl rfl) rfl rfl (Does.call rfl e17 (rising_ok No (rankIds s) _ _ hsl9 (by omega))) ?_
      rintro u10 w10 ⟨hr10, hf10, hg10⟩
      obtain ⟨ad10, c10, rfl⟩ := hr10.slice
      refine RL.q (.yes rfl rfl rfl) rfl rfl (Yld.lenSl u34 rfl) ?_
      iterate 2 refine RL.q (.yes rfl rfl rfl) rfl rfl (Yld.pure rfl) ?_
      refine RL.p rfl rfl ?_
      refine RL.done ?_
      refine RK.condF (hcF rfl (decide_eq_false (by rw [rise_len (rankIds_nodup hi), rankIds_len, hal]; simp))) ?_
      refine RK.skip ?_
      iterate 2 refine RK.seq ?_
      refine RK.region ?_
      refine RL.p rfl rfl ?_
      refine RL.done ?_
      refine RK.block ?_
      refine RK.loop (fun i : Nat => [(0, .slice ad vs.length c), (4, .int .i64 (k : Int)), (9, .slice ad9 s.al.length c9), (10, .int .i64 (i : Int))]) (fun i w' => Grow w10 w' ∧ i ≤ k) (fun i => k - i) 0 ⟨rfl, rfl, rfl, rfl, trivial⟩ ⟨Mod.refl _ _, by omega⟩ (fun i w3 hI2 ih2 => ?_)
      obtain ⟨hg3, hik⟩ := hI2
      have hg93 := hg10.trans hg3
      have hg03 : Grow w w3 := (hs.all.trans hg9).trans hg93
      iterate 2 refine RK.seq ?_
      refine RK.region ?_
      iterate 3 refine RL.p rfl rfl ?_
      refine RL.done ?_
      first | refine RK.condD rfl (fun h68 => ?_) (fun h68 => ?_) | refine RK.condN rfl (fun h68 => ?_) (fun h68 => ?_) | refine RK.cond rfl (fun h68 => ?_) (fun h68 => ?_)
      · have hrk := rankR hi
        have hrol : (rankOf (valsS s)).length = k := by rw [rankOf_len]; simp only [valsS, List.length_map]; exact hal
        obtain ⟨x, hx⟩ : ∃ x, (rankOf (valsS s))[i]? = some x := ⟨(rankOf (valsS s))[i]'(by omega), List.getElem?_eq_getElem (by omega)⟩
        have hxk : x < k := by have := rankOf_lt (List.mem_of_getElem? hx); simp only [valsS, List.length_map] at this; omega
        have hRx : (ints (rankIds s))[i]? = some (.int .i64 ((x + 1 : Nat) : Int)) := by rw [hrk]; simp [hx]
        obtain ⟨b9, o9, c9', he9, _, _, hc9⟩ := hsl9.elem1 (k := i) hRx
        rw [hrl] at he9
        cases he9
        refine RK.skip ?_
        refine RK.seq ?_
        refine RK.block ?_
        iterate 2 refine RK.seq ?_
        refine RK.region ?_
        iterate 2 refine RL.p rfl rfl ?_
        refine RL.q (.free rfl) rfl rfl (Yld.indexAddrN u34 i3 rfl rfl (by omega)) ?_
        refine RL.q (.free rfl) rfl rfl (Yld.load p3 rfl (at1 (hg93.cell (hc9 i _ hRx) (fun h => h)))) ?_
        iterate 2 refine RL.p rfl rfl ?_
        refine RL.knownF (d := 76) rfl rfl (decide_eq_false (by omega)) ?_
        iterate 2 refine RL.q (.yes rfl rfl rfl) rfl rfl (Yld.pure rfl) ?_
        refine RL.q (.yes rfl rfl rfl) rfl rfl (Yld.indexAddrN u34 i3 rfl rfl (by omega)) ?_
        refine RL.q (.yes rfl rfl rfl) rfl rfl (Yld.load p3 rfl (at1 (hg93.cell (hc9 i _ hRx) (fun h => h)))) ?_
        iterate 2 refine RL.q (.yes rfl rfl rfl) rfl rfl (Yld.pure rfl) ?_
        refine RL.p rfl rfl ?_
        refine RL.done ?_
        refine RK.condF (hcF rfl (decide_eq_false (by omega))) ?_
        refine RK.skip ?_
        iterate 2 refine RK.seq ?_
        refine RK.region ?_
        iterate 2 refine RL.p rfl rfl ?_
        refine RL.done ?_
        first | refine RK.condD rfl (fun h85 => ?_) (fun h85 => ?_) | refine RK.condN rfl (fun h85 => ?_) (fun h85 => ?_) | refine RK.cond rfl (fun h85 => ?_) (fun h85 => ?_)
        · refine RK.exit rfl ?_
          refine RK.region ?_
          iterate 2 refine RL.p rfl rfl ?_
          refine RL.re (d := 70) rfl rfl (succ_i64 (by omega)) ?_
          refine RL.p rfl rfl ?_
          refine RL.done ?_
          exact RK.back (ih2 _ _ ⟨by first | exact hg3.trans (Mod.drew _ _) | exact hg3, by omega⟩ (by omega)) ⟨rfl, rfl, rfl, rfl, trivial⟩
        · obtain ⟨j, rfl⟩ : ∃ j, i = j + 1 := ⟨i - 1, by omega⟩
          obtain ⟨y, hy⟩ : ∃ y, (rankOf (valsS s))[j]? = some y := ⟨(rankOf (valsS s))[j]'(by omega), List.getElem?_eq_getElem (by omega)⟩
          have hyk : y < k := by have := rankOf_lt (List.mem_of_getElem? hy); simp only [valsS, List.length_map] at this; omega
          have hRy : (ints (rankIds s))[j]? = some (.int .i64 ((y + 1 : Nat) : Int)) := by rw [hrk]; simp [hy]
          have hnb := rank_nb hi hk hy hx
          have hvx : vs[x]? = some (vs.getD x 0) := by simp [List.getD, List.getElem?_eq_getElem (show x < vs.length by omega)]
          have hvy : vs[y]? = some (vs.getD y 0) := by simp [List.getD, List.getElem?_eq_getElem (show y < vs.length by omega)]
          have hlx := hlt _ (List.mem_of_getElem? hvx)
          have hly := hlt _ (List.mem_of_getElem? hvy)
          generalize vs.getD x 0 = b at *
          generalize vs.getD y 0 = a at *
          obtain ⟨bv, ov, cv, hev, _, _, hcv⟩ := hv.elem1 (k := x) (u := .float .f64 b) (by simp [hvx])
          cases hev
          refine RK.skip ?_
          refine RK.seq ?_
          refine RK.drawM No [(0, false), (1, false), (2, false), (3, false), (4, false), (5, false), (6, false), (7, false), (8, false), (9, false), (10, false), (11, false), (12, false), (13, false), (14, false), (15, false), (16, false), (17, false), (18, false)] [] mixed (by kernel_rfl) ?_
          iterate 4 refine DL.p rfl rfl rfl ?_
          refine DL.re (d := 89) rfl rfl (sub_i64 (z := (j : Int)) (by omega) (by omega) (by omega)) ?_
          refine DL.qf rfl (.free rfl) rfl rfl (Yld.indexAddrN u34 i3 rfl rfl (by omega)) ?_
          refine DL.q rfl (.free rfl) rfl rfl rfl (Yld.load p3 rfl (atM (hg93.cell (hc9 j _ hRy) (fun h => h)) (fun h => h))) (Mod.drew _ _) ?_
          refine DL.p rfl rfl rfl ?_
          refine DL.re (d := 92) rfl rfl (sub_i64 (z := (y : Int)) (by omega) (by omega) (by omega)) ?_
          refine DL.qf rfl (.free rfl) rfl rfl (Yld.indexAddrN u43 i30 rfl rfl (by omega)) ?_
          refine DL.q rfl (.free rfl) rfl rfl rfl (Yld.load p30 rfl (atM (hg03.cell (hcv y (.float .f64 a) (by simp [hvy])) (fun h => h)) (fun h => h))) (Mod.drew _ _) ?_
          iterate 3 refine DL.p rfl rfl rfl ?_
          refine DL.qf rfl (.free rfl) rfl rfl (Yld.indexAddrN u34 i3 rfl rfl (by omega)) ?_
          refine DL.q rfl (.free rfl) rfl rfl rfl (Yld.load p3 rfl (atM (hg93.cell (hc9 (j + 1) _ hRx) (fun h => h)) (fun h => h))) (Mod.drew _ _) ?_
          refine DL.p rfl rfl rfl ?_
          refine DL.re (d := 100) rfl rfl (sub_i64 (z := (x : Int)) (by omega) (by omega) (by omega)) ?_
          refine DL.qf rfl (.free rfl) rfl rfl (Yld.indexAddrN u43 i30 rfl rfl (by omega)) ?_
          refine DL.q rfl (.free rfl) rfl rfl rfl (Yld.load p30 rfl (atM (hg03.cell (hcv x (.float .f64 b) (by simp [hvx])) (fun h => h)) (fun h => h))) (Mod.drew _ _) ?_
          iterate 2 refine DL.p rfl rfl rfl ?_
          refine DL.done ?_
          refine RK.seq ?_
          refine RK.region ?_
          iterate 4 refine RL.p rfl rfl ?_
          first | refine RL.splitD (d := 106) rfl rfl (fun h106 => ?_) (fun h106 => ?_) | refine RL.splitN (d := 106) rfl rfl (fun h106 => ?_) (fun h106 => ?_) | refine RL.split (d := 106) rfl rfl (fun h106 => ?_) (fun h106 => ?_)
          · have hna : nanS a = true := by unfold nanS; exact h106
            have hnb' : nanS b = true := nb_nan hnb hna
            iterate 3 refine RL.q (.yes rfl rfl rfl) rfl rfl (Yld.pure rfl) ?_
            iterate 2 refine RL.p rfl rfl ?_
            refine RL.knownF (d := 111) rfl rfl ((by have h := hnb'; unfold nanS at h; have h2 : ¬ Ieee.double.order b b = some .eq := (by simpa using h); exact beq_eq_false_iff_ne.2 h2)) ?_
            iterate 3 refine RL.q (.yes rfl rfl rfl) rfl rfl (Yld.pure rfl) ?_
            iterate 2 refine RL.p rfl rfl ?_
            refine RL.knownF (d := 116) rfl rfl (nb_lt hnb hly hlx) ?_
            iterate 4 refine RL.q (.yes rfl rfl rfl) rfl rfl (Yld.pure rfl) ?_
            first | refine RL.splitD (d := 120) rfl rfl (fun h120 => ?_) (fun h120 => ?_) | refine RL.splitN (d := 120) rfl rfl (fun h120 => ?_) (fun h120 => ?_) | refine RL.split (d := 120) rfl rfl (fun h120 => ?_) (fun h120 => ?_)
            · refine RL.q (.yes rfl rfl rfl) rfl rfl (Yld.pure rfl) ?_
              refine RL.op (.yes rfl rfl rfl) rfl rfl (Does.call rfl e18 (signbit_ok a hly _)) ?_
              rintro _ _ ⟨rfl, rfl⟩
              iterate 2 refine RL.q (.yes rfl rfl rfl) rfl rfl (Yld.pure rfl) ?_
              first | refine RL.splitD (d := 124) rfl rfl (fun h124 => ?_) (fun h124 => ?_) | refine RL.splitN (d := 124) rfl rfl (fun h124 => ?_) (fun h124 => ?_) | refine RL.split (d := 124) rfl rfl (fun h124 => ?_) (fun h124 => ?_)
              · refine RL.q (.yes rfl rfl rfl) rfl rfl (Yld.pure rfl) ?_
                refine RL.op (.yes rfl rfl rfl) rfl rfl (Does.call rfl e18 (signbit_ok b hlx _)) ?_
                rintro _ _ ⟨rfl, rfl⟩
                iterate 2 refine RL.q (.yes rfl rfl rfl) rfl rfl (Yld.pure rfl) ?_
                refine RL.p rfl rfl ?_
                refine RL.done ?_
                refine RK.condF (hcF rfl ((by rw [nb_sgn hnb hly hlx h120 (decide_eq_true h124)]; rfl))) ?_
                refine RK.skip ?_
                refine RK.inBlock ?_
                refine RK.region ?_
                iterate 2 refine RL.p rfl rfl ?_
                refine RL.re (d := 70) rfl rfl (succ_i64 (by omega)) ?_
                refine RL.p rfl rfl ?_
                refine RL.done ?_
                exact RK.back (ih2 _ _ ⟨by first | exact hg3.trans (Mod.drew _ _) | exact hg3, by omega⟩ (by omega)) ⟨rfl, rfl, rfl, rfl, trivial⟩
              · iterate 3 refine RL.no (.no rfl rfl rfl rfl) rfl rfl ?_
                refine RL.q (.yes rfl rfl rfl) rfl rfl (Yld.pure rfl) ?_
                refine RL.p rfl rfl ?_
                refine RL.done ?_
                refine RK.condF rfl ?_
                refine RK.skip ?_
                refine RK.inBlock ?_
                refine RK.region ?_
                iterate 2 refine RL.p rfl rfl ?_
                refine RL.re (d := 70) rfl rfl (succ_i64 (by omega)) ?_
                refine RL.p rfl rfl ?_
                refine RL.done ?_
                exact RK.back (ih2 _ _ ⟨by first | exact hg3.trans (Mod.drew _ _) | exact hg3, by omega⟩ (by omega)) ⟨rfl, rfl, rfl, rfl, trivial⟩
            · iterate 2 refine RL.no (.no rfl rfl rfl rfl) rfl rfl ?_
              iterate 2 refine RL.q (.yes rfl rfl rfl) rfl rfl (Yld.pure rfl) ?_
              iterate 3 refine RL.no (.no rfl rfl rfl rfl) rfl rfl ?_
              refine RL.q (.yes rfl rfl rfl) rfl rfl (Yld.pure rfl) ?_
              refine RL.p rfl rfl ?_
              refine RL.done ?_
              refine RK.condF rfl ?_
              refine RK.skip ?_
              refine RK.inBlock ?_
              refine RK.region ?_
              iterate 2 refine RL.p rfl rfl ?_
              refine RL.re (d := 70) rfl rfl (succ_i64 (by omega)) ?_
              refine RL.p rfl rfl ?_
              refine RL.done ?_
              exact RK.back (ih2 _ _ ⟨by first | exact hg3.trans (Mod.drew _ _) | exact hg3, by omega⟩ (by omega)) ⟨rfl, rfl, rfl, rfl, trivial⟩
          · iterate 3 refine RL.no (.no rfl rfl rfl rfl) rfl rfl ?_
            iterate 2 refine RL.p rfl rfl ?_
            iterate 3 refine RL.q (.yes rfl rfl rfl) rfl rfl (Yld.pure rfl) ?_
            iterate 2 refine RL.p rfl rfl ?_
            refine RL.knownF (d := 116) rfl rfl (nb_lt hnb hly hlx) ?_
            iterate 4 refine RL.q (.yes rfl rfl rfl) rfl rfl (Yld.pure rfl) ?_
            first | refine RL.splitD (d := 120) rfl rfl (fun h120 => ?_) (fun h120 => ?_) | refine RL.splitN (d := 120) rfl rfl (fun h120 => ?_) (fun h120 => ?_) | refine RL.split (d := 120) rfl rfl (fun h120 => ?_) (fun h120 => ?_)
            · refine RL.q (.yes rfl rfl rfl) rfl rfl (Yld.pure rfl) ?_
              refine RL.op (.yes rfl rfl rfl) rfl rfl (Does.call rfl e18 (signbit_ok a hly _)) ?_
              rintro _ _ ⟨rfl, rfl⟩
              iterate 2 refine RL.q (.yes rfl rfl rfl) rfl rfl (Yld.pure rfl) ?_
              first | refine RL.splitD (d := 124) rfl rfl (fun h124 => ?_) (fun h124 => ?_) | refine RL.splitN (d := 124) rfl rfl (fun h124 => ?_) (fun h124 => ?_) | refine RL.split (d := 124) rfl rfl (fun h124 => ?_) (fun h124 => ?_)
              · refine RL.q (.yes rfl rfl rfl) rfl rfl (Yld.pure rfl) ?_
                refine RL.op (.yes rfl rfl rfl) rfl rfl (Does.call rfl e18 (signbit_ok b hlx _)) ?_
                rintro _ _ ⟨rfl, rfl⟩
                iterate 2 refine RL.q (.yes rfl rfl rfl) rfl rfl (Yld.pure rfl) ?_
                refine RL.p rfl rfl ?_
                refine RL.done ?_
                refine RK.condF (hcF rfl ((by rw [nb_sgn hnb hly hlx h120 (decide_eq_true h124)]; rfl))) ?_
                refine RK.skip ?_
                refine RK.inBlock ?_
                refine RK.region ?_
                iterate 2 refine RL.p rfl rfl ?_
                refine RL.re (d := 70) rfl rfl (succ_i64 (by omega)) ?_
                refine RL.p rfl rfl ?_
                refine RL.done ?_
                exact RK.back (ih2 _ _ ⟨by first | exact hg3.trans (Mod.drew _ _) | exact hg3, by omega⟩ (by omega)) ⟨rfl, rfl, rfl, rfl, trivial⟩
              · iterate 3 refine RL.no (.no rfl rfl rfl rfl) rfl rfl ?_
                refine RL.q (.yes rfl rfl rfl) rfl rfl (Yld.pure rfl) ?_
                refine RL.p rfl rfl ?_
                refine RL.done ?_
                refine RK.condF rfl ?_
                refine RK.skip ?_
                refine RK.inBlock ?_
                refine RK.region ?_
                iterate 2 refine RL.p rfl rfl ?_
                refine RL.re (d := 70) rfl rfl (succ_i64 (by omega)) ?_
                refine RL.p rfl rfl ?_
                refine RL.done ?_
                exact RK.back (ih2 _ _ ⟨by first | exact hg3.trans (Mod.drew _ _) | exact hg3, by omega⟩ (by omega)) ⟨rfl, rfl, rfl, rfl, trivial⟩
            · iterate 2 refine RL.no (.no rfl rfl rfl rfl) rfl rfl ?_
              iterate 2 refine RL.q (.yes rfl rfl rfl) rfl rfl (Yld.pure rfl) ?_
              iterate 3 refine RL.no (.no rfl rfl rfl rfl) rfl rfl ?_
              refine RL.q (.yes rfl rfl rfl) rfl rfl (Yld.pure rfl) ?_
              refine RL.p rfl rfl ?_
              refine RL.done ?_
              refine RK.condF rfl ?_
              refine RK.skip ?_
              refine RK.inBlock ?_
              refine RK.region ?_
              iterate 2 refine RL.p rfl rfl ?_
              refine RL.re (d := 70) rfl rfl (succ_i64 (by omega)) ?_
              refine RL.p rfl rfl ?_
              refine RL.done ?_
              exact RK.back (ih2 _ _ ⟨by first | exact hg3.trans (Mod.drew _ _) | exact hg3, by omega⟩ (by omega)) ⟨rfl, rfl, rfl, rfl, trivial⟩
      · refine RK.exit rfl ?_
        refine RK.seq ?_
        refine RK.region ?_
        refine RL.op (.free rfl) rfl rfl (Does.call rfl e3 (runs_ok _)) ?_
        rintro _ w4 ⟨rfl, hg4⟩
        refine RL.p rfl rfl ?_
        refine RL.done ?_
        refine RK.ret_of Try.func6 (res1 rfl rfl) ?_ _
        exact ⟨_, rfl, rfl, hg03.trans hg4⟩
  · iterate 2 refine RL.no (.no rfl rfl rfl rfl) rfl rfl ?_
    refine RL.p rfl rfl ?_
    refine RL.done ?_
    refine RK.condF rfl ?_
    refine RK.exit rfl ?_
    refine RK.seq ?_
    refine RK.region ?_
    refine RL.p rfl rfl ?_
    refine RL.op (.free rfl) rfl rfl (Does.call rfl e12 (hs.rank)) ?_
    rintro u9 w9 ⟨hr9, hf9, hg9⟩
    have hal := hi.al
    obtain ⟨ad9, c9, rfl⟩ := hr9.slice
    have hrl := rankIds_len s
    have hsl9 : Sl No w9 (.slice ad9 s.al.length c9) 1 (rankIds s).length (ints (rankIds s)) := by rw [hrl]; exact Sl.own hr9 (fun _ _ h => h)
    refine RL.p rfl rfl ?_
    refine RL.done ?_
    iterate 2 refine RK.seq ?_
    refine RK.region ?_
    refine RL.p rfl rfl ?_
    refine RL.q (.free rfl) rfl rfl (Yld.lenSl u34 rfl) ?_
    iterate 3 refine RL.p rfl rfl ?_
    refine RL.knownF (d := 59) rfl rfl (decide_eq_false (by rw [hal]; simp)) ?_
    refine RL.q (.yes rfl rfl rfl) rfl rfl (Yld.pure rfl) ?_
    refine RL.op (.yes rfl rfl rfl) rfl rfl (Does.call rfl e17 (rising_ok No (rankIds s) _ _ hsl9 (by omega))) ?_
    rintro u10 w10 ⟨hr10, hf10, hg10⟩
    obtain ⟨ad10, c10, rfl⟩ := hr10.slice
    refine RL.q (.yes rfl rfl rfl) rfl rfl (Yld.lenSl u34 rfl) ?_
    iterate 2 refine RL.q (.yes rfl rfl rfl) rfl rfl (Yld.pure rfl) ?_
    refine RL.p rfl rfl ?_
    refine RL.done ?_
    refine RK.condF (hcF rfl (decide_eq_false (by rw [rise_len (rankIds_nodup hi), rankIds_len, hal]; simp))) ?_
    refine RK.skip ?_
    iterate 2 refine RK.seq ?_
    refine RK.region ?_
    refine RL.p rfl rfl ?_
    refine RL.done ?_
    refine RK.block ?_
    refine RK.loop (fun i : Nat => [(0, .slice ad vs.length c), (4, .int .i64 (k : Int)), (9, .slice ad9 s.al.length c9), (10, .int .i64 (i : Int))]) (fun i w' => Grow w10 w' ∧ i ≤ k) (fun i => k - i) 0 ⟨rfl, rfl, rfl, rfl, trivial⟩ ⟨Mod.refl _ _, by omega⟩ (fun i w3 hI2 ih2 => ?_)
    obtain ⟨hg3, hik⟩ := hI2
    have hg93 := hg10.trans hg3
    have hg03 : Grow w w3 := (hs.all.trans hg9).trans hg93
    iterate 2 refine RK.seq ?_
    refine RK.region ?_
    iterate 3 refine RL.p rfl rfl ?_
    refine RL.done ?_
    first | refine RK.condD rfl (fun h68 => ?_) (fun h68 => ?_) | refine RK.condN rfl (fun h68 => ?_) (fun h68 => ?_) | refine RK.cond rfl (fun h68 => ?_) (fun h68 => ?_)
    · have hrk := rankR hi
      have hrol : (rankOf (valsS s)).length = k := by rw [rankOf_len]; simp only [valsS, List.length_map]; exact hal
      obtain ⟨x, hx⟩ : ∃ x, (rankOf (valsS s))[i]? = some x := ⟨(rankOf (valsS s))[i]'(by omega), List.getElem?_eq_getElem (by omega)⟩
      have hxk : x < k := by have := rankOf_lt (List.mem_of_getElem? hx); simp only [valsS, List.length_map] at this; omega
      have hRx : (ints (rankIds s))[i]? = some (.int .i64 ((x + 1 : Nat) : Int)) := by rw [hrk]; simp [hx]
      obtain ⟨b9, o9, c9', he9, _, _, hc9⟩ := hsl9.elem1 (k := i) hRx
      rw [hrl] at he9
      cases he9
      refine RK.skip ?_
      refine RK.seq ?_
      refine RK.block ?_
      iterate 2 refine RK.seq ?_
      refine RK.region ?_
      iterate 2 refine RL.p rfl rfl ?_
      refine RL.q (.free rfl) rfl rfl (Yld.indexAddrN u34 i3 rfl rfl (by omega)) ?_
      refine RL.q (.free rfl) rfl rfl (Yld.load p3 rfl (at1 (hg93.cell (hc9 i _ hRx) (fun h => h)))) ?_
      iterate 2 refine RL.p rfl rfl ?_
      refine RL.knownF (d := 76) rfl rfl (decide_eq_false (by omega)) ?_
      iterate 2 refine RL.q (.yes rfl rfl rfl) rfl rfl (Yld.pure rfl) ?_
      refine RL.q (.yes rfl rfl rfl) rfl rfl (Yld.indexAddrN u34 i3 rfl rfl (by omega)) ?_
      refine RL.q (.yes rfl rfl rfl) rfl rfl (Yld.load p3 rfl (at1 (hg93.cell (hc9 i _ hRx) (fun h => h)))) ?_
      iterate 2 refine RL.q (.yes rfl rfl rfl) rfl rfl (Yld.pure rfl) ?_
      refine RL.p rfl rfl ?_
      refine RL.done ?_
      refine RK.condF (hcF rfl (decide_eq_false (by omega))) ?_
      refine RK.skip ?_
      iterate 2 refine RK.seq ?_
      refine RK.region ?_
      iterate 2 refine RL.p rfl rfl ?_
      refine RL.done ?_
      first | refine RK.condD rfl (fun h85 => ?_) (fun h85 => ?_) | refine RK.condN rfl (fun h85 => ?_) (fun h85 => ?_) | refine RK.cond rfl (fun h85 => ?_) (fun h85 => ?_)
      · refine RK.exit rfl ?_
        refine RK.region ?_
        iterate 2 refine RL.p rfl rfl ?_
        refine RL.re (d := 70) rfl rfl (succ_i64 (by omega)) ?_
        refine RL.p rfl rfl ?_
        refine RL.done ?_
        exact RK.back (ih2 _ _ ⟨by first | exact hg3.trans (Mod.drew _ _) | exact hg3, by omega⟩ (by omega)) ⟨rfl, rfl, rfl, rfl, trivial⟩
      · obtain ⟨j, rfl⟩ : ∃ j, i = j + 1 := ⟨i - 1, by omega⟩
        obtain ⟨y, hy⟩ : ∃ y, (rankOf (valsS s))[j]? = some y := ⟨(rankOf (valsS s))[j]'(by omega), List.getElem?_eq_getElem (by omega)⟩
        have hyk : y < k := by have := rankOf_lt (List.mem_of_getElem? hy); simp only [valsS, List.length_map] at this; omega
        have hRy : (ints (rankIds s))[j]? = some (.int .i64 ((y + 1 : Nat) : Int)) := by rw [hrk]; simp [hy]
        have hnb := rank_nb hi hk hy hx
        have hvx : vs[x]? = some (vs.getD x 0) := by simp [List.getD, List.getElem?_eq_getElem (show x < vs.length by omega)]
        have hvy : vs[y]? = some (vs.getD y 0) := by simp [List.getD, List.getElem?_eq_getElem (show y < vs.length by omega)]
        have hlx := hlt _ (List.mem_of_getElem? hvx)
        have hly := hlt _ (List.mem_of_getElem? hvy)
        generalize vs.getD x 0 = b at *
        generalize vs.getD y 0 = a at *
        obtain ⟨bv, ov, cv, hev, _, _, hcv⟩ := hv.elem1 (k := x) (u := .float .f64 b) (by simp [hvx])
        cases hev
        refine RK.skip ?_
        refine RK.seq ?_
        refine RK.drawM No [(0, false), (1, false), (2, false), (3, false), (4, false), (5, false), (6, false), (7, false), (8, false), (9, false), (10, false), (11, false), (12, false), (13, false), (14, false), (15, false), (16, false), (17, false), (18, false)] [] mixed (by kernel_rfl) ?_
        iterate 4 refine DL.p rfl rfl rfl ?_
        refine DL.re (d := 89) rfl rfl (sub_i64 (z := (j : Int)) (by omega) (by omega) (by omega)) ?_
        refine DL.qf rfl (.free rfl) rfl rfl (Yld.indexAddrN u34 i3 rfl rfl (by omega)) ?_
        refine DL.q rfl (.free rfl) rfl rfl rfl (Yld.load p3 rfl (atM (hg93.cell (hc9 j _ hRy) (fun h => h)) (fun h => h))) (Mod.drew _ _) ?_
        refine DL.p rfl rfl rfl ?_
        refine DL.re (d := 92) rfl rfl (sub_i64 (z := (y : Int)) (by omega) (by omega) (by omega)) ?_
        refine DL.qf rfl (.free rfl) rfl rfl (Yld.indexAddrN u43 i30 rfl rfl (by omega)) ?_
        refine DL.q rfl (.free rfl) rfl rfl rfl (Yld.load p30 rfl (atM (hg03.cell (hcv y (.float .f64 a) (by simp [hvy])) (fun h => h)) (fun h => h))) (Mod.drew _ _) ?_
        iterate 3 refine DL.p rfl rfl rfl ?_
        refine DL.qf rfl (.free rfl) rfl rfl (Yld.indexAddrN u34 i3 rfl rfl (by omega)) ?_
        refine DL.q rfl (.free rfl) rfl rfl rfl (Yld.load p3 rfl (atM (hg93.cell (hc9 (j + 1) _ hRx) (fun h => h)) (fun h => h))) (Mod.drew _ _) ?_
        refine DL.p rfl rfl rfl ?_
        refine DL.re (d := 100) rfl rfl (sub_i64 (z := (x : Int)) (by omega) (by omega) (by omega)) ?_
        refine DL.qf rfl (.free rfl) rfl rfl (Yld.indexAddrN u43 i30 rfl rfl (by omega)) ?_
        refine DL.q rfl (.free rfl) rfl rfl rfl (Yld.load p30 rfl (atM (hg03.cell (hcv x (.float .f64 b) (by simp [hvx])) (fun h => h)) (fun h => h))) (Mod.drew _ _) ?_
        iterate 2 refine DL.p rfl rfl rfl ?_
        refine DL.done ?_
        refine RK.seq ?_
        refine RK.region ?_
        iterate 4 refine RL.p rfl rfl ?_
        first | refine RL.splitD (d := 106) rfl rfl (fun h106 => ?_) (fun h106 => ?_) | refine RL.splitN (d := 106) rfl rfl (fun h106 => ?_) (fun h106 => ?_) | refine RL.split (d := 106) rfl rfl (fun h106 => ?_) (fun h106 => ?_)
        · have hna : nanS a = true := by unfold nanS; exact h106
          have hnb' : nanS b = true := nb_nan hnb hna
          iterate 3 refine RL.q (.yes rfl rfl rfl) rfl rfl (Yld.pure rfl) ?_
          iterate 2 refine RL.p rfl rfl ?_
          refine RL.knownF (d := 111) rfl rfl ((by have h := hnb'; unfold nanS at h; have h2 : ¬ Ieee.double.order b b = some .eq := (by simpa using h); exact beq_eq_false_iff_ne.2 h2)) ?_
          iterate 3 refine RL.q (.yes rfl rfl rfl) rfl rfl (Yld.pure rfl) ?_
          iterate 2 refine RL.p rfl rfl ?_
          refine RL.knownF (d := 116) rfl rfl (nb_lt hnb hly hlx) ?_
          iterate 4 refine RL.q (.yes rfl rfl rfl) rfl rfl (Yld.pure rfl) ?_
          first | refine RL.splitD (d := 120) rfl rfl (fun h120 => ?_) (fun h120 => ?_) | refine RL.splitN (d := 120) rfl rfl (fun h120 => ?_) (fun h120 => ?_) | refine RL.split (d := 120) rfl rfl (fun h120 => ?_) (fun h120 => ?_)
          · refine RL.q (.yes rfl rfl rfl) rfl rfl (Yld.pure rfl) ?_
            refine RL.op (.yes rfl rfl rfl) rfl rfl (Does.call rfl e18 (signbit_ok a hly _)) ?_
            rintro _ _ ⟨rfl, rfl⟩
            iterate 2 refine RL.q (.yes rfl rfl rfl) rfl rfl (Yld.pure rfl) ?_
            first | refine RL.splitD (d := 124) rfl rfl (fun h124 => ?_) (fun h124 => ?_) | refine RL.splitN (d := 124) rfl rfl (fun h124 => ?_) (fun h124 => ?_) | refine RL.split (d := 124) rfl rfl (fun h124 => ?_) (fun h124 => ?_)
            · refine RL.q (.yes rfl rfl rfl) rfl rfl (Yld.pure rfl) ?_
              refine RL.op (.yes rfl rfl rfl) rfl rfl (Does.call rfl e18 (signbit_ok b hlx _)) ?_
              rintro _ _ ⟨rfl, rfl⟩
              iterate 2 refine RL.q (.yes rfl rfl rfl) rfl rfl (Yld.pure rfl) ?_
              refine RL.p rfl rfl ?_
              refine RL.done ?_
              refine RK.condF (hcF rfl ((by rw [nb_sgn hnb hly hlx h120 (decide_eq_true h124)]; rfl))) ?_
              refine RK.skip ?_
              refine RK.inBlock ?_
              refine RK.region ?_
              iterate 2 refine RL.p rfl rfl ?_
              refine RL.re (d := 70) rfl rfl (succ_i64 (by omega)) ?_
              refine RL.p rfl rfl ?_
              refine RL.done ?_
              exact RK.back (ih2 _ _ ⟨by first | exact hg3.trans (Mod.drew _ _) | exact hg3, by omega⟩ (by omega)) ⟨rfl, rfl, rfl, rfl, trivial⟩
            · iterate 3 refine RL.no (.no rfl rfl rfl rfl) rfl rfl ?_
              refine RL.q (.yes rfl rfl rfl) rfl rfl (Yld.pure rfl) ?_
              refine RL.p rfl rfl ?_
              refine RL.done ?_
              refine RK.condF rfl ?_
              refine RK.skip ?_
              refine RK.inBlock ?_
              refine RK.region ?_
              iterate 2 refine RL.p rfl rfl ?_
              refine RL.re (d := 70) rfl rfl (succ_i64 (by omega)) ?_
              refine RL.p rfl rfl ?_
              refine RL.done ?_
              exact RK.back (ih2 _ _ ⟨by first | exact hg3.trans (Mod.drew _ _) | exact hg3, by omega⟩ (by omega)) ⟨rfl, rfl, rfl, rfl, trivial⟩
          · iterate 2 refine RL.no (.no rfl rfl rfl rfl) rfl rfl ?_
            iterate 2 refine RL.q (.yes rfl rfl rfl) rfl rfl (Yld.pure rfl) ?_
            iterate 3 refine RL.no (.no rfl rfl rfl rfl) rfl rfl ?_
            refine RL.q (.yes rfl rfl rfl) rfl rfl (Yld.pure rfl) ?_
            refine RL.p rfl rfl ?_
            refine RL.done ?_
            refine RK.condF rfl ?_
            refine RK.skip ?_
            refine RK.inBlock ?_
            refine RK.region ?_
            iterate 2 refine RL.p rfl rfl ?_
            refine RL.re (d := 70) rfl rfl (succ_i64 (by omega)) ?_
            refine RL.p rfl rfl ?_
            refine RL.done ?_
            exact RK.back (ih2 _ _ ⟨by first | exact hg3.trans (Mod.drew _ _) | exact hg3, by omega⟩ (by omega)) ⟨rfl, rfl, rfl, rfl, trivial⟩
        · iterate 3 refine RL.no (.no rfl rfl rfl rfl) rfl rfl ?_
          iterate 2 refine RL.p rfl rfl ?_
          iterate 3 refine RL.q (.yes rfl rfl rfl) rfl rfl (Yld.pure rfl) ?_
          iterate 2 refine RL.p rfl rfl ?_
          refine RL.knownF (d := 116) rfl rfl (nb_lt hnb hly hlx) ?_
          iterate 4 refine RL.q (.yes rfl rfl rfl) rfl rfl (Yld.pure rfl) ?_
          first | refine RL.splitD (d := 120) rfl rfl (fun h120 => ?_) (fun h120 => ?_) | refine RL.splitN (d := 120) rfl rfl (fun h120 => ?_) (fun h120 => ?_) | refine RL.split (d := 120) rfl rfl (fun h120 => ?_) (fun h120 => ?_)
          · refine RL.q (.yes rfl rfl rfl) rfl rfl (Yld.pure rfl) ?_
            refine RL.op (.yes rfl rfl rfl) rfl rfl (Does.call rfl e18 (signbit_ok a hly _)) ?_
            rintro _ _ ⟨rfl, rfl⟩
            iterate 2 refine RL.q (.yes rfl rfl rfl) rfl rfl (Yld.pure rfl) ?_
            first | refine RL.splitD (d := 124) rfl rfl (fun h124 => ?_) (fun h124 => ?_) | refine RL.splitN (d := 124) rfl rfl (fun h124 => ?_) (fun h124 => ?_) | refine RL.split (d := 124) rfl rfl (fun h124 => ?_) (fun h124 => ?_)
            · refine RL.q (.yes rfl rfl rfl) rfl rfl (Yld.pure rfl) ?_
              refine RL.op (.yes rfl rfl rfl) rfl rfl (Does.call rfl e18 (signbit_ok b hlx _)) ?_
              rintro _ _ ⟨rfl, rfl⟩
              iterate 2 refine RL.q (.yes rfl rfl rfl) rfl rfl (Yld.pure rfl) ?_
              refine RL.p rfl rfl ?_
              refine RL.done ?_
              refine RK.condF (hcF rfl ((by rw [nb_sgn hnb hly hlx h120 (decide_eq_true h124)]; rfl))) ?_
              refine RK.skip ?_
              refine RK.inBlock ?_
              refine RK.region ?_
              iterate 2 refine RL.p rfl rfl ?_
              refine RL.re (d := 70) rfl rfl (succ_i64 (by omega)) ?_
              refine RL.p rfl rfl ?_
              refine RL.done ?_
              exact RK.back (ih2 _ _ ⟨by first | exact hg3.trans (Mod.drew _ _) | exact hg3, by omega⟩ (by omega)) ⟨rfl, rfl, rfl, rfl, trivial⟩
            · iterate 3 refine RL.no (.no rfl rfl rfl rfl) rfl rfl ?_
              refine RL.q (.yes rfl rfl rfl) rfl rfl (Yld.pure rfl) ?_
              refine RL.p rfl rfl ?_
              refine RL.done ?_
              refine RK.condF rfl ?_
              refine RK.skip ?_
              refine RK.inBlock ?_
              refine RK.region ?_
              iterate 2 refine RL.p rfl rfl ?_
              refine RL.re (d := 70) rfl rfl (succ_i64 (by omega)) ?_
              refine RL.p rfl rfl ?_
              refine RL.done ?_
              exact RK.back (ih2 _ _ ⟨by first | exact hg3.trans (Mod.drew _ _) | exact hg3, by omega⟩ (by omega)) ⟨rfl, rfl, rfl, rfl, trivial⟩
          · iterate 2 refine RL.no (.no rfl rfl rfl rfl) rfl rfl ?_
            iterate 2 refine RL.q (.yes rfl rfl rfl) rfl rfl (Yld.pure rfl) ?_
            iterate 3 refine RL.no (.no rfl rfl rfl rfl) rfl rfl ?_
            refine RL.q (.yes rfl rfl rfl) rfl rfl (Yld.pure rfl) ?_
            refine RL.p rfl rfl ?_
            refine RL.done ?_
            refine RK.condF rfl ?_
            refine RK.skip ?_
            refine RK.inBlock ?_
            refine RK.region ?_
            iterate 2 refine RL.p rfl rfl ?_
            refine RL.re (d := 70) rfl rfl (succ_i64 (by omega)) ?_
            refine RL.p rfl rfl ?_
            refine RL.done ?_
            exact RK.back (ih2 _ _ ⟨by first | exact hg3.trans (Mod.drew _ _) | exact hg3, by omega⟩ (by omega)) ⟨rfl, rfl, rfl, rfl, trivial⟩
    · refine RK.exit rfl ?_
      refine RK.seq ?_
      refine RK.region ?_
      refine RL.op (.free rfl) rfl rfl (Does.call rfl e3 (runs_ok _)) ?_
      rintro _ w4 ⟨rfl, hg4⟩
      refine RL.p rfl rfl ?_
      refine RL.done ?_
      refine RK.ret_of Try.func6 (res1 rfl rfl) ?_ _
      exact ⟨_, rfl, rfl, hg03.trans hg4⟩
end Go.Proofs.Ytmghlfdejceieaa

