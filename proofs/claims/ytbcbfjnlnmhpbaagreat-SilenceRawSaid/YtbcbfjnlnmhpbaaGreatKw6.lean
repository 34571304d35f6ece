/- What the claim stands on, part 6. Of own lemmas only those that it reaches. -/
import Derived.Test.YtbcbfjnlnmhpbaaGreatKw5
set_option linter.unusedVariables false
set_option linter.unusedSimpArgs false
set_option maxHeartbeats 2000000
set_option maxRecDepth 100000
namespace Go.Proofs.YtbcbfjnlnmhpbaaGreat
open Go Go.X Go.Rex
def OB (v : Value) : Nat → Prop := fun b => v.ownBlock = some b
abbrev RowS (w : World) (v : Value) (P : List Stp) : Prop := Row w 226 7 v P.length (P.flatMap stC)
structure LayR (w w' : World) (v u : Value) (P : List Stp) : Prop where
  row : RowS w' u P
  own : ∀ b, u.ownBlock = some b → v.ownBlock = some b ∨ w.heap.size ≤ b
  mod : Mod (OB v) w w'
theorem LayR.refl {w : World} {v : Value} {P : List Stp} (h : RowS w v P) : LayR w w v v P := ⟨h, fun b e => .inl e, Mod.refl _ _⟩
theorem LayR.grow {w w' w2 : World} {v u : Value} {P : List Stp} (h : LayR w w' v u P) (hg : Grow w' w2) : LayR w w2 v u P := ⟨h.row.mod hg (fun _ _ h => h), h.own, h.mod.trans (Mod.any' hg)⟩
theorem LayR.trans {w w' w2 : World} {v u u2 : Value} {P Q : List Stp} (h : LayR w w' v u P) (h2 : LayR w' w2 u u2 Q) : LayR w w2 v u2 Q := ⟨h2.row, fun b e => by
  rcases h2.own b e with h3 | h3
  · exact h.own b h3
  · have := h.mod.size; exact .inr (by omega), h.mod.then h2.mod (fun x hx e => by rcases h.own x e with h3 | h3; exact h3; omega)⟩
theorem LayR.grow0 {w0 w w' : World} {v u : Value} {P : List Stp} (hg : Grow w0 w) (h : LayR w w' v u P) : LayR w0 w' v u P := ⟨h.row, fun b e => by
  rcases h.own b e with h3 | h3
  · exact .inl h3
  · have := hg.size; exact .inr (by omega), (Mod.any' hg).trans h.mod⟩
def Far (w : World) (v : Value) : Nat → Prop := fun b => v.ownBlock = some b ∨ w.heap.size ≤ b
def layC (x : Rx) : Prop := ∀ (P : List Stp) (c : Cel) (v : Value) (w : World), RxV (OB v) w x [c] → RowS w v P → P.length + sz x ≤ 1000 → Fx Tryz.prog 202 [v, .agg (celC c).toArray] w (fun u w' => LayR w w' v u (P ++ code x none P.length))
theorem app_one {w w1 w2 : World} {v u : Value} {b : Nat} {P : List Stp} {s : Stp} {T : Nat} (hn : New w w1 b T (stC s)) (hr : Row w2 226 7 u (P.length + 1) (P.flatMap stC ++ stC s)) (hm : Mod (OB v) w1 w2) (hu : u.ownBlock = v.ownBlock ∨ u.ownBlock = some w1.heap.size) : LayR w w2 v u (P ++ [s]) := ⟨by
    show Row _ _ _ _ _ _
    rw [List.length_append, List.flatMap_append]
    simpa using hr, fun b e => by
    rcases hu with h1 | h1
    · exact .inl (h1 ▸ e)
    · rw [h1] at e; cases e; have := hn.size; exact .inr (by omega), (Mod.any' hn.grow).trans hm⟩
theorem lay_set {w w' w2 : World} {v u : Value} {A : List Stp} {s s' : Stp} {R : List Stp} (h : LayR w w' v u (A ++ s :: R)) {g cap : Nat} {i : Nat} {z : Value} (hu : u = .slice (some ⟨g, 0, none⟩) (A ++ s :: R).length cap) (hrow : Row w2 226 7 u (A ++ s :: R).length (((A ++ s :: R).flatMap stC).set (A.length * 7 + i) z)) (hi : i < 7) (hs : (stC s).set i z = stC s') (hm : Mod (· = g) w' w2) : LayR w w2 v u (A ++ s' :: R) := by
  rw [flat_set stC 7 stC_len _ A.length i s s' z (by simp) hi hs, set_mid] at hrow
  refine ⟨by show Row _ _ _ _ _ _; simpa using hrow, h.own, h.mod.then hm fun x hx e => ?_⟩
  have e' : x = g := e
  rcases h.own x (by rw [hu, e']; rfl) with h3 | h3
  · exact h3
  · omega
theorem kid_far {w : World} {v : Value} {l : Rx} {kss : List Cel} {ad : Option Addr} {n cap : Nat} (ht : Tr true l) (hn : n = kss.length) (hsl : Sl (OB v) w (.slice ad n cap) 6 kss.length (kss.flatMap celC)) (hks : RxV (OB v) w l kss) {k : Nat} (hkn : k < n) {w' : World} (hm : Mod (OB v) w w') : ∃ (c : Cel) (y : Rx) (b o : Nat), ad = some ⟨b, o, none⟩ ∧ (kidsR l)[k]? = some y ∧ y ∈ kidsR l ∧ RxV (Far w v) w' y [c] ∧ ¬ OB v b ∧ b < w.heap.size ∧ ∀ j u, (celC c)[j]? = some u → w'.cell? ⟨b, o + k * 6 + j, none⟩ = some u := by
  obtain ⟨c, hc⟩ : ∃ c, kss[k]? = some c := ⟨kss[k]'(by omega), List.getElem?_eq_getElem (by omega)⟩
  obtain ⟨y, hy, hv⟩ := RxV.kid ht hks hc
  obtain ⟨b1, o1, c1, heq, hb1, _, hcl⟩ := (hn ▸ hsl).elem celC_len hc
  cases heq
  have hf : RxV (Far w v) w y [c] := RxV.off (fun b hb e => e.elim (fun e => e) (fun e => by omega)) y hv
  exact ⟨c, y, b1, o1, rfl, hy, List.mem_of_getElem? hy, RxV.mod hm (fun b _ e => .inl e) y hf, hb1, World.block_lt_of_cell? w _ (hcl 0 _ rfl), fun j u hj => hm.cell (hcl j u hj) hb1⟩
theorem ways_lay {w : World} {l : Rx} {kss : List Cel} {ad : Option Addr} {n cap : Nat} (ht : Tr true l) (hn : n = kss.length) (hcap : n ≤ cap) (hlen : kss.length = cnt l) (h1 : 1 ≤ n) (hk : ∀ y ∈ kidsR l, layC y) (P : List Stp) (v : Value) (hsl : Sl (OB v) w (.slice ad n cap) 6 kss.length (kss.flatMap celC)) (hks : RxV (OB v) w l kss) (hv : RowS w v P) (hb : P.length + (sz l + 2 * (cnt l - 1)) ≤ 1000) :
    Fx Tryz.prog 223 [v, .slice ad n cap] w (fun u w' => LayR w w' v u (P ++ code l (some (P.length + (sz l + 2 * (cnt l - 1)))) P.length)) := by
  have hbig := hsl.big
  have hkl : (kidsR l).length = n := by rw [kids_len]; omega
  obtain ⟨xs, y0, hxs⟩ : ∃ xs y0, kidsR l = xs ++ [y0] := ⟨(kidsR l).dropLast, (kidsR l).getLast (by intro h; rw [h] at hkl; simp at hkl; omega), (List.dropLast_concat_getLast _).symm⟩
  have hxl : xs.length = n - 1 := by have := congrArg List.length hxs; simp at this; omega
  have hgood : GoodL (kidsR l) := kids_tr ht
  have hgx : GoodL xs := fun x hx => hgood x (by rw [hxs]; simp [hx])
  have hty : Tr false y0 := hgood y0 (by rw [hxs]; simp)
  have hszl : sz l = (xs.map sz).sum + sz y0 := by rw [sz_cons l ht, hxs]; simp
  have hcnt : cnt l = xs.length + 1 := by omega
  have hwl := wlen_sz xs
  have hcode := code_alt l ht xs y0 hxs (P.length + (sz l + 2 * (cnt l - 1))) P.length
  rw [hcode]
  have he : P.length + (sz l + 2 * (cnt l - 1)) = P.length + wlen xs + sz y0 := by omega
  rw [he] at hb ⊢
  clear hcode he
  obtain ⟨e, hee⟩ : ∃ e, P.length + wlen xs + sz y0 = e := ⟨_, rfl⟩
  rw [hee] at hb ⊢
  have hly := codeN_len hty (P.length + wlen xs)
  refine enter Tryz.func223 rfl rfl rfl _ (Pick.sub (l := [0, 1]) (.cons rfl (.cons rfl .nil))) ?_
  refine RK.seq ?_
  refine RK.region ?_
  refine RL.p rfl rfl ?_
  refine RL.done ?_
  refine RK.seq ?_
  refine RK.region ?_
  refine RL.p rfl rfl ?_
  refine RL.done ?_
  refine RK.seq ?_
  refine RK.region ?_
  refine RL.p rfl rfl ?_
  refine RL.q (.free rfl) rfl rfl (Yld.lenSl u178 rfl) ?_
  refine RL.p rfl rfl ?_
  refine RL.re (d := 14) rfl rfl (sub_i64 (z := ((n - 1 : Nat) : Int)) (by omega) (by omega) (by omega)) ?_
  refine RL.p rfl rfl ?_
  refine RL.done ?_
  iterate 2 refine RK.seq ?_
  refine RK.region ?_
  iterate 2 refine RL.p rfl rfl ?_
  refine RL.q (.free rfl) rfl rfl (Yld.sliceHi u178 i180 (m := n - 1) rfl rfl (by omega)) ?_
  refine RL.q (.free rfl) rfl rfl (Yld.lenSl u178 rfl) ?_
  refine RL.p rfl rfl ?_
  refine RL.done ?_
  refine RK.block ?_
  refine RK.loop (fun s : Nat × Value × Value => [(0, s.2.1), (1, .slice ad n cap), (5, s.2.2), (6, .int .i64 ((n - 1 : Nat) : Int)), (17, .slice ad (n - 1) cap), (18, .int .i64 ((n - 1 : Nat) : Int)), (19, .int .i64 (s.1 : Int))]) (fun s w' => s.1 ≤ n - 1 ∧ LayR w w' v s.2.1 (P ++ wayC (xs.take s.1) 0 P.length) ∧ Row w' 3 1 s.2.2 s.1 (ints (wayJ (xs.take s.1) P.length)) ∧ Fresh w.heap.size s.2.2 ∧ (∀ b, s.2.2.ownBlock = some b → ¬ s.2.1.ownBlock = some b)) (fun s => n - 1 - s.1) (0, v, .slice none 0 0) ⟨rfl, rfl, rfl, rfl, rfl, rfl, rfl, trivial⟩ ⟨by simp, by simpa [wayC] using LayR.refl hv, by simpa [wayJ] using Row.nil _ _ _, fun b hb => by simp [Value.ownBlock] at hb, fun b hb => by simp [Value.ownBlock] at hb⟩ (fun s w1 hI ih => ?_)
  obtain ⟨k, u, jv⟩ := s
  obtain ⟨hkn, hL, hJ, hJf, hJu⟩ := hI
  simp only at hkn hL hJ hJf hJu
  have hwk := wlen_take xs k
  have hlenk := wayC_len (xs.take k) 0 P.length (hgx.take k)
  have hs1 := hL.mod.size
  have hpk : (P ++ wayC (xs.take k) 0 P.length).length = P.length + wlen (xs.take k) := by rw [List.length_append, hlenk]
  refine RK.seq ?_
  refine RK.region ?_
  refine RL.p rfl rfl ?_
  refine RL.done ?_
  refine RK.seq ?_
  first | refine RK.condD rfl (fun h20 => ?_) (fun h20 => ?_) | refine RK.condN rfl (fun h20 => ?_) (fun h20 => ?_) | refine RK.cond rfl (fun h20 => ?_) (fun h20 => ?_)
  · obtain ⟨ck, x, b1, o1, rfl, hx, hxm, hxv, hb1, hb1l, hcl⟩ := kid_far ht hn hsl hks (k := k) (by omega) hL.mod
    have hxk : xs[k]? = some x := by rw [hxs, List.getElem?_append_left (by omega)] at hx; exact hx
    have hwk1 := wlen_take xs (k + 1)
    have htk := take_snoc hxk
    have hwsn : wlen (xs.take (k + 1)) = wlen (xs.take k) + (sz x + 2) := by rw [htk, wlen_app]; simp [wlen]
    have hxt := hgood x hxm
    refine RK.skip ?_
    refine RK.seq ?_
    refine RK.block ?_
    refine RK.seq ?_
    refine RK.region ?_
    refine RL.q (.free rfl) rfl rfl (Yld.indexAddrN u178 i180 rfl rfl (by omega)) ?_
    refine RL.q (.free rfl) rfl rfl (Yld.loadN (cs := celC ck) a180 rfl (atN (hcl))) ?_
    refine RL.op (.free rfl) rfl rfl (Does.alloc i180) ?_
    rintro _ w2 ⟨b2, rfl, hn2⟩
    refine RL.op' (.free rfl) rfl (Does.storeN i180 rfl rfl rfl rfl hn2.blk (Nat.le_refl 6)) ?_
    rintro _ w3 ⟨hb3, hm3, _⟩
    have hB3 : Blk w3 b2 180 (celC ck) := hb3
    have hg3 : Grow w1 w3 := hn2.grow.then hm3 (fun y hy e => by have e' : y = b2 := e; have := hn2.at_; omega)
    have hL3 := hL.grow hg3
    have hb2 := hn2.at_
    have hs3 := hg3.size
    have huf : ∀ b, u.ownBlock = some b → b < w1.heap.size := fun b e => hL.row.lt e
    have hjf : ∀ b, jv.ownBlock = some b → b < w1.heap.size := fun b e => hJ.lt e
    obtain ⟨adu, cu, hue⟩ := hL.row.slice
    refine RL.done ?_
    refine RK.seq ?_
    refine RK.region ?_
    refine RL.p rfl rfl ?_
    refine RL.q (.free rfl) rfl rfl (Yld.lenSl u194 (congrArg some hue)) ?_
    refine RL.re (d := 24) rfl rfl (congrArg (Value.int .i64) (show _ = ((P.length + wlen (xs.take k) : Nat) : Int) by rw [hpk])) ?_
    refine RL.p rfl rfl ?_
    refine RL.done ?_
    refine RK.seq ?_
    refine RK.drawM (OB u) [(0, false), (1, false), (2, false), (3, false), (6, false), (4, true), (5, true), (7, true), (8, false)] [] mixed (by kernel_rfl) ?_
    iterate 3 refine DL.p rfl rfl rfl ?_
    refine DL.re (d := 27) rfl rfl (succ_i64 (by omega)) ?_
    refine DL.qf rfl (.free rfl) rfl rfl (Yld.build (v := .agg #[.int .i64 2, .int .u64 0, .int .u64 0, .int .u64 0, .int .u64 0, .int .i64 ((P.length + wlen (xs.take k) + 1 : Nat) : Int), .int .i64 0]) rfl (fun w => by kernel_rfl)) ?_
    have hnb2 : ¬ OB u b2 := fun e => by have := huf b2 e; omega
    refine DL.q rfl (.free rfl) rfl rfl rfl (Yld.loadN (cs := celC ck) a180 rfl (atNM (blk0' hB3) (hnb2))) (Mod.drew _ _) ?_
    refine DL.op rfl (.free rfl) rfl rfl (Does.slice1 u194 i226 rfl rfl rfl rfl rfl) ?_
    rintro _ w4 ⟨b4, rfl, hn4⟩
    refine ⟨(Mod.drew _ _).trans (Mod.any' hn4.grow), ?_⟩
    have hr3 : RowS w3.drew u _ := hL3.row.mod (Mod.drew No _) (fun _ _ h => h)
    refine DL.op rfl (.free rfl) rfl rfl (Does.append u194 i226 rfl rfl rfl rfl rfl (hr3.mod hn4.grow (fun _ _ h => h)) (Sl.new hn4 7 1 rfl (by omega) (fun h => h)) (rfl) (by omega)) ?_
    rintro u5 w5 ⟨hr5, hm5, hu5⟩
    have hL5 : LayR w3.drew w5 u u5 ((P ++ wayC (xs.take k) 0 P.length) ++ [splitS (P.length + wlen (xs.take k) + 1) 0]) := app_one (s := splitS (P.length + wlen (xs.take k) + 1) 0) hn4 hr5 hm5 hu5
    refine ⟨(Mod.drew _ _).trans hL5.mod, ?_⟩
    have hxv5 : RxV (OB u5) w5 x [ck] := RxV.off (M := fun b => Far w v b) (fun b hb e => by
        rcases hL5.own b e with h3 | h3
        · exact hL.own b h3
        · exact .inr (by have : w3.drew.heap.size = w3.heap.size := rfl; omega)) x (RxV.mod hL5.mod (fun b _ e => hL.own b e) x (RxV.grow (hg3.trans (Mod.drew _ _)) x hxv))
    have hp5 : ((P ++ wayC (xs.take k) 0 P.length) ++ [splitS (P.length + wlen (xs.take k) + 1) 0]).length = P.length + wlen (xs.take k) + 1 := by rw [List.length_append, hpk]; rfl
    refine DL.op rfl (.free rfl) rfl rfl (Does.call rfl e202 (hk x hxm _ ck u5 w5 hxv5 hL5.row (by rw [hp5]; omega))) ?_
    rintro u6 w6 hL6
    rw [hp5] at hL6
    have hL56 := hL5.trans hL6
    refine ⟨(Mod.drew _ _).trans hL56.mod, ?_⟩
    have hL36 : LayR w3 w6 u u6 _ := LayR.grow0 (Mod.drew No _) hL56
    have hs6 := hL36.mod.size
    have hL06 := (hL.grow (hg3.trans (Mod.drew No _))).trans hL56
    obtain ⟨ad6, c6, hue6⟩ := hL6.row.slice
    have hp6 : ((P ++ wayC (xs.take k) 0 P.length ++ [splitS (P.length + wlen (xs.take k) + 1) 0]) ++ code x none (P.length + wlen (xs.take k) + 1)).length = P.length + wlen (xs.take k) + 1 + sz x := by rw [List.length_append, hp5, codeN_len hxt]
    have hJ6 := (hJ.mod hg3 (fun _ _ h => h)).mod hL36.mod (fun b e => hJu b e)
    refine DL.p rfl rfl rfl ?_
    refine DL.done ?_
    refine RK.seq ?_
    refine RK.region ?_
    iterate 2 refine RL.p rfl rfl ?_
    refine RL.q (.free rfl) rfl rfl (Yld.lenSl u194 (congrArg some hue6)) ?_
    refine RL.re (d := 35) rfl rfl (congrArg (Value.int .i64) (show _ = ((P.length + wlen (xs.take k) + 1 + sz x : Nat) : Int) by rw [hp6])) ?_
    refine RL.op (.free rfl) rfl rfl (Does.slice1 u35 i3 rfl rfl rfl rfl rfl) ?_
    rintro _ w7 ⟨b7, rfl, hn7⟩
    refine RL.op (.free rfl) rfl rfl (Does.append u35 i3 rfl rfl rfl rfl rfl (hJ6.mod hn7.grow (fun _ _ h => h)) (Sl.new hn7 1 1 rfl (by omega) (fun h => h)) (rfl) (by omega)) ?_
    rintro jv8 w8 ⟨hr8, hm8, hu8⟩
    have hJ8 : Row w8 3 1 jv8 (k + 1) (ints (wayJ (xs.take (k + 1)) P.length)) := by
        have e9 : ints (wayJ (xs.take (k + 1)) P.length) = ints (wayJ (xs.take k) P.length) ++ [.int .i64 ((P.length + wlen (xs.take k) + 1 + sz x : Nat) : Int)] := by rw [htk, wayJ_app]; simp [ints, wayJ]
        rw [e9]; exact hr8
    have hb7 := hn7.at_
    have hs7 := hn7.size
    have hu6f : ∀ b, u6.ownBlock = some b → b < w6.heap.size := fun b e => hL6.row.lt e
    have hJ8u : ∀ b, jv8.ownBlock = some b → ¬ u6.ownBlock = some b := fun b e e2 => by
        have h3 := hu6f b e2
        rcases hu8 with h4 | h4
        · have h5 := hjf b (h4 ▸ e)
          rcases hL36.own b e2 with h6 | h6
          · exact hJu b (h4 ▸ e) h6
          · omega
        · rw [h4] at e; cases e; omega
    have hr6 := (hL6.row.mod hn7.grow (fun _ _ h => h)).mod hm8 (fun b e e2 => by
        have h5 := hjf b e2
        rcases hL36.own b e with h6 | h6
        · exact hJu b e2 h6
        · omega)
    have hL08 : LayR w w8 v u6 _ := ⟨hr6, hL06.own, (hL06.mod.trans (Mod.any' hn7.grow)).then hm8 (fun b hb e => by have := hJf b e; omega)⟩
    refine RL.p rfl rfl ?_
    refine RL.done ?_
    refine RK.seq ?_
    refine RK.region ?_
    refine RL.p rfl rfl ?_
    refine RL.q (.free rfl) rfl rfl (Yld.build (v := .agg #[.int .i64 3, .int .u64 0, .int .u64 0, .int .u64 0, .int .u64 0, .int .i64 0, .int .i64 0]) rfl (fun w => by kernel_rfl)) ?_
    refine RL.op (.free rfl) rfl rfl (Does.slice1 u194 i226 rfl rfl rfl rfl rfl) ?_
    rintro _ w9 ⟨b9, rfl, hn9⟩
    refine RL.op (.free rfl) rfl rfl (Does.append u194 i226 rfl rfl rfl rfl rfl (hr6.mod hn9.grow (fun _ _ h => h)) (Sl.new hn9 7 1 rfl (by omega) (fun h => h)) (rfl) (by omega)) ?_
    rintro u10 w10 ⟨hr10, hm10, hu10⟩
    have hL810 := app_one (s := jumpS 0) hn9 hr10 hm10 hu10
    have hL10 := hL08.trans hL810
    have hp10 : (((P ++ wayC (xs.take k) 0 P.length ++ [splitS (P.length + wlen (xs.take k) + 1) 0]) ++ code x none (P.length + wlen (xs.take k) + 1)) ++ [jumpS 0]).length = P.length + wlen (xs.take k) + 2 + sz x := by rw [List.length_append, hp6]; show _ + 1 = _; omega
    have hJ10 : Row w10 3 1 jv8 (k + 1) (ints (wayJ (xs.take (k + 1)) P.length)) := (hJ8.mod hn9.grow (fun _ _ h => h)).mod hm10 (fun b e e2 => hJ8u b e e2)
    have hs8 := hm8.size
    have hs810 := hL810.mod.size
    have hJ8l : ∀ b, jv8.ownBlock = some b → b < w8.heap.size := fun b e => hJ8.lt e
    have hL10' := hL10
    have hre : (((P ++ wayC (xs.take k) 0 P.length ++ [splitS (P.length + wlen (xs.take k) + 1) 0]) ++ code x none (P.length + wlen (xs.take k) + 1)) ++ [jumpS 0]) = (P ++ wayC (xs.take k) 0 P.length) ++ splitS (P.length + wlen (xs.take k) + 1) 0 :: (code x none (P.length + wlen (xs.take k) + 1) ++ [jumpS 0]) := by simp
    rw [hre] at hL10 hp10
    obtain ⟨g, cap9, cs9, hue, hB9, hcs9, hturn⟩ := Row.turn hL10.row (by omega)
    subst hue
    rw [hp10] at hcs9
    refine RL.p rfl rfl ?_
    refine RL.done ?_
    refine RK.region ?_
    iterate 3 refine RL.p rfl rfl ?_
    refine RL.q (.free rfl) rfl rfl (Yld.lenSl u194 rfl) ?_
    refine RL.re (d := 45) rfl rfl (congrArg (Value.int .i64) (show _ = ((P.length + wlen (xs.take k) + 2 + sz x : Nat) : Int) by rw [hp10])) ?_
    refine RL.q (.free rfl) rfl rfl (Yld.indexAddrN u194 i226 rfl rfl (by omega)) ?_
    refine RL.q (.free rfl) rfl rfl (Yld.fieldAddr fo226_3 rfl) ?_
    refine RL.op' (.free rfl) rfl (Does.store i3 rfl rfl rfl hB9 (setAt_of (by omega))) ?_
    rintro _ w11 ⟨hb11, hm11, _⟩
    have hL11 := lay_set (s' := splitS (P.length + wlen (xs.take k) + 1) (P.length + wlen (xs.take k) + 2 + sz x)) (i := 6) hL10 rfl (hturn w11 _ _ (by rw [hp10, hpk]; omega) (by have h9 := hb11; rw [Nat.zero_add] at h9; rw [hpk]; exact h9)) (by omega) rfl hm11
    have hfin : (P ++ wayC (xs.take k) 0 P.length) ++ splitS (P.length + wlen (xs.take k) + 1) (P.length + wlen (xs.take k) + 2 + sz x) :: (code x none (P.length + wlen (xs.take k) + 1) ++ [jumpS 0]) = P ++ wayC (xs.take (k + 1)) 0 P.length := by rw [htk, wayC_app]; simp [wayC]
    rw [hfin] at hL11
    have hgu : ∀ b, jv8.ownBlock = some b → ¬ b = g := fun b e e2 => by
        subst e2
        have h4 := hJ8l _ e
        rcases hu10 with h5 | h5
        · exact hJ8u _ e (h5 ▸ rfl)
        · have h6 : some b = some w9.heap.size := h5
          cases h6
          have := hn9.size; omega
    have hJ11 := hJ10.mod hm11 (fun b e e2 => hgu b e e2)
    have hfp := congrArg List.length hfin
    have hfp2 : (P ++ wayC (xs.take k) 0 P.length ++ splitS (P.length + wlen (xs.take k) + 1) 0 :: (code x none (P.length + wlen (xs.take k) + 1) ++ [jumpS 0])).length = (P ++ wayC (xs.take (k + 1)) 0 P.length).length := by rw [← hfin]; simp
    refine RL.done ?_
    refine RK.inBlock ?_
    refine RK.region ?_
    refine RL.p rfl rfl ?_
    refine RL.re (d := 48) rfl rfl (succ_i64 (by omega)) ?_
    refine RL.p rfl rfl ?_
    refine RL.done ?_
    exact RK.back (ih (k + 1, .slice (some ⟨g, 0, none⟩) _ cap9, jv8) _ ⟨by simp only; omega, hL11, hJ11, fun b e => by
        rcases hu8 with h4 | h4
        · exact hJf b (h4 ▸ e)
        · simp only at e; rw [h4] at e; cases e; omega, fun b e e2 => hgu b e (by simp [Value.ownBlock] at e2; exact e2.symm)⟩ (by simp only; omega)) ⟨rfl, rfl, rfl, rfl, rfl, rfl, rfl, trivial⟩
  · have hkx : k = xs.length := by simp only at h20; omega
    have ek : xs.take k = xs := List.take_of_length_le (by omega)
    rw [ek] at hL hJ hpk
    obtain ⟨ck, x, b1, o1, rfl, hx, hxm, hxv, hb1, hb1l, hcl⟩ := kid_far ht hn hsl hks (k := n - 1) (by omega) hL.mod
    have hxy : x = y0 := by rw [hxs, List.getElem?_append_right (by omega)] at hx; rw [show n - 1 - xs.length = 0 by omega] at hx; simpa using hx.symm
    subst hxy
    refine RK.exit rfl ?_
    refine RK.seq ?_
    refine RK.region ?_
    iterate 3 refine RL.p rfl rfl ?_
    refine RL.q (.free rfl) rfl rfl (Yld.indexAddrN u178 i180 rfl rfl (by omega)) ?_
    refine RL.q (.free rfl) rfl rfl (Yld.loadN (cs := celC ck) a180 rfl (atN (hcl))) ?_
    have hxv5 : RxV (OB u) w1 x [ck] := RxV.off (M := fun b => Far w v b) (fun b hb e => hL.own b e) x hxv
    refine RL.op (.free rfl) rfl rfl (Does.call rfl e202 (hk x hxm _ ck u w1 hxv5 hL.row (by rw [hpk]; omega))) ?_
    rintro u6 w6 hL6
    rw [hpk] at hL6
    have hL06 := hL.trans hL6
    have hJ6 := hJ.mod hL6.mod (fun b e e2 => hJu b e e2)
    have hu6f : ∀ b, jv.ownBlock = some b → ¬ u6.ownBlock = some b := fun b e e2 => by
        rcases hL6.own b e2 with h3 | h3
        · exact hJu b e h3
        · have := hJ.lt e; omega
    obtain ⟨adj, cj, hje⟩ := hJ6.slice
    have hlJ := wayJ_len xs P.length
    have hz0 := wayP_zero xs e P.length
    refine RL.p rfl rfl ?_
    refine RL.done ?_
    iterate 2 refine RK.seq ?_
    refine RK.region ?_
    refine RL.p rfl rfl ?_
    refine RL.q (.free rfl) rfl rfl (Yld.lenSl u35 (congrArg some hje)) ?_
    refine RL.p rfl rfl ?_
    refine RL.done ?_
    refine RK.block ?_
    refine RK.loop (fun m : Nat => [(0, u6), (55, .slice adj k cj), (56, .int .i64 (k : Int)), (57, .int .i64 (m : Int))]) (fun m w' => m ≤ k ∧ LayR w w' v u6 (P ++ wayP xs m e P.length ++ code x none (P.length + wlen xs)) ∧ Row w' 3 1 jv k (ints (wayJ xs P.length))) (fun m => k - m) 0 ⟨rfl, by rw [← hje]; rfl, rfl, rfl, trivial⟩ ⟨by omega, by rw [hz0]; exact hL06, hJ6⟩ (fun m w7 hI2 ih2 => ?_)
    obtain ⟨hmk, hLm, hJm⟩ := hI2
    refine RK.seq ?_
    refine RK.region ?_
    refine RL.p rfl rfl ?_
    refine RL.done ?_
    refine RK.seq ?_
    first | refine RK.condD rfl (fun h58 => ?_) (fun h58 => ?_) | refine RK.condN rfl (fun h58 => ?_) (fun h58 => ?_) | refine RK.cond rfl (fun h58 => ?_) (fun h58 => ?_)
    · obtain ⟨z, hz⟩ : ∃ z, xs[m]? = some z := ⟨xs[m]'(by omega), List.getElem?_eq_getElem (by omega)⟩
      have hjz := wayJ_get hz P.length
      have hhead := wayP_head_len hgx hz e P.length
      have hsp := wayP_split hz e P.length
      have hnx := wayP_next hz e P.length
      have hwz := wlen_take xs (m + 1)
      have hwsn : wlen (xs.take (m + 1)) = wlen (xs.take m) + (sz z + 2) := by rw [take_snoc hz, wlen_app]; simp [wlen]
      have hsJ : Sl No w7 (.slice adj k cj) 1 k (ints (wayJ xs P.length)) := by rw [← hje]; exact Sl.own hJm (fun _ _ h => h)
      obtain ⟨bj, oj, cj', hej, _, _, hcj⟩ := hsJ.elem1 (k := m) (u := .int .i64 ((P.length + wlen (xs.take m) + 1 + sz z : Nat) : Int)) (by simp [ints, hjz])
      cases hej
      refine RK.skip ?_
      refine RK.seq ?_
      refine RK.block ?_
      refine RK.seq ?_
      refine RK.region ?_
      refine RL.q (.free rfl) rfl rfl (Yld.indexAddrN u35 i3 rfl rfl (by omega)) ?_
      refine RL.q (.free rfl) rfl rfl (Yld.load p3 rfl (at1 (hcj m (.int .i64 ((P.length + wlen (xs.take m) + 1 + sz z : Nat) : Int)) (by simp [ints, hjz])))) ?_
      rw [hsp] at hLm
      generalize hA : (wayC (xs.take m) e P.length ++ splitS (P.length + wlen (xs.take m) + 1) (P.length + wlen (xs.take m) + 2 + sz z) :: code z none (P.length + wlen (xs.take m) + 1)) = A at *
      generalize hR : wayC (xs.drop (m + 1)) 0 (P.length + wlen (xs.take m) + 2 + sz z) = R at *
      have hre : P ++ (A ++ jumpS 0 :: R) ++ code x none (P.length + wlen xs) = (P ++ A) ++ jumpS 0 :: (R ++ code x none (P.length + wlen xs)) := by simp
      rw [hre] at hLm
      have hlen9 : ((P ++ A) ++ jumpS 0 :: (R ++ code x none (P.length + wlen xs))).length = e := by
          have h9 := congrArg List.length hsp
          have h8 := wayP_len hgx m e P.length
          rw [h8] at h9
          simp only [List.length_append, List.length_cons] at h9 ⊢
          omega
      obtain ⟨g, cap9, cs9, hue, hB9, hcs9, hturn⟩ := Row.turn hLm.row (by omega)
      subst hue
      have hcs9' := hcs9
      rw [hlen9] at hcs9'
      refine RL.p rfl rfl ?_
      refine RL.done ?_
      refine RK.region ?_
      iterate 3 refine RL.p rfl rfl ?_
      refine RL.q (.free rfl) rfl rfl (Yld.lenSl u194 rfl) ?_
      refine RL.re (d := 64) rfl rfl (congrArg (Value.int .i64) (show _ = ((e : Nat) : Int) by rw [hlen9])) ?_
      refine RL.q (.free rfl) rfl rfl (Yld.indexAddrN u194 i226 rfl rfl (by rw [hlen9]; omega)) ?_
      refine RL.q (.free rfl) rfl rfl (Yld.fieldAddr fo226_2 rfl) ?_
      refine RL.op' (.free rfl) rfl (Does.store i3 rfl rfl rfl hB9 (setAt_of (by omega))) ?_
      rintro _ w11 ⟨hb11, hm11, _⟩
      have hPA : (P ++ A).length = P.length + wlen (xs.take m) + 1 + sz z := by rw [List.length_append, hhead]; omega
      have hL11 := lay_set (s' := jumpS e) (i := 5) hLm rfl (hturn w11 _ _ (by rw [hlen9, hPA]; omega) (by have h9 := hb11; rw [Nat.zero_add] at h9; rw [hPA]; exact h9)) (by omega) rfl hm11
      have hfin : (P ++ A) ++ jumpS e :: (R ++ code x none (P.length + wlen xs)) = P ++ wayP xs (m + 1) e P.length ++ code x none (P.length + wlen xs) := by rw [hnx]; simp
      rw [hfin] at hL11
      refine RL.done ?_
      refine RK.inBlock ?_
      refine RK.region ?_
      refine RL.p rfl rfl ?_
      refine RL.re (d := 67) rfl rfl (succ_i64 (by omega)) ?_
      refine RL.p rfl rfl ?_
      refine RL.done ?_
      exact RK.back (ih2 (m + 1) _ ⟨by omega, hL11, hJm.mod hm11 (fun b e1 e2 => hu6f b e1 (by have e3 : b = g := e2; rw [e3]; rfl))⟩ (by omega)) ⟨rfl, rfl, rfl, rfl, trivial⟩
    · have hm9 : xs.length ≤ m := by omega
      rw [wayP_all xs e P.length hm9] at hLm
      refine RK.exit rfl ?_
      refine RK.seq ?_
      refine RK.region ?_
      iterate 2 refine RL.p rfl rfl ?_
      refine RL.done ?_
      refine RK.ret_of Tryz.func223 (res1 rfl rfl) ?_ _
      exact ⟨_, rfl, by rw [← List.append_assoc]; exact hLm⟩
theorem only_kid {l : Rx} (ht : Tr true l) (hc : cnt l = 1) : ∃ y, l = .cons y .nil := by
  cases l with
  | nil => simp [cnt] at hc
  | set => exact ht.elim
  | node => exact ht.elim
  | cons y l =>
    refine ⟨y, ?_⟩
    cases l with
    | nil => rfl
    | set => exact ht.2.elim
    | node => exact ht.2.elim
    | cons => simp [cnt] at hc
theorem lay_ok : ∀ (m : Nat) (x : Rx), hiR x ≤ m → Tr false x → layC x
  | 0, .set _, h, _ => by simp [hiR] at h
  | 0, .node _ _, h, _ => by simp [hiR] at h
  | 0, .nil, _, ht => ht.elim
  | 0, .cons _ _, _, ht => ht.elim
  | m + 1, x, hx, ht => by
    intro P k v w hxv hv hb
    obtain ⟨op, a, b, c, d, ad, n, cap, l, kss, rfl, h⟩ := hxv.open ht
    have hkind := h.kind
    have hn := h.n
    have hlen := h.len
    have hbig := h.sl.big
    have hvl : ∀ b, v.ownBlock = some b → b < w.heap.size := fun b e => hv.lt e
    obtain ⟨adv, cv, rfl⟩ := hv.slice
    refine enter Tryz.func202 rfl rfl rfl _ (Pick.sub (l := [0, 1]) (.cons rfl (.cons rfl .nil))) ?_
    refine RK.seq ?_
    refine RK.region ?_
    refine RL.op (.free rfl) rfl rfl (Does.box rfl) ?_
    rintro _ w1 ⟨b3, rfl, hn1⟩
    have hb3 := hn1.at_
    have hB1 : Blk w1 b3 180 [.int .i64 op, .int .u64 (a : Int), .int .u64 (b : Int), .int .u64 (c : Int), .int .u64 (d : Int), .slice ad n cap] := hn1.blk
    have hnb3 : ¬ OB (.slice adv P.length cv) b3 := fun e => by have := hvl _ e; omega
    have hv1 : RowS w1 (.slice adv P.length cv) P := hv.mod hn1.grow (fun _ _ h => h)
    have hs1 := hn1.size
    refine RL.p rfl rfl ?_
    refine RL.done ?_
    refine RK.seq ?_
    refine RK.region ?_
    refine RL.p rfl rfl ?_
    refine RL.q (.free rfl) rfl rfl (Yld.lenSl u194 rfl) ?_
    refine RL.p rfl rfl ?_
    refine RL.done ?_
    iterate 2 refine RK.seq ?_
    refine RK.region ?_
    refine RL.q (.free rfl) rfl rfl (Yld.fieldAddr fo180_0 rfl) ?_
    refine RL.q (.free rfl) rfl rfl (Yld.load p3 rfl (at1 (hB1.cell rfl))) ?_
    refine RL.done ?_
    refine RK.block ?_
    refine RK.seq ?_
    refine RK.region ?_
    iterate 2 refine RL.p rfl rfl ?_
    refine RL.done ?_
    first | refine RK.condD rfl (fun h12 => ?_) (fun h12 => ?_) | refine RK.condN rfl (fun h12 => ?_) (fun h12 => ?_) | refine RK.cond rfl (fun h12 => ?_) (fun h12 => ?_)
    · obtain ⟨hxe, hW⟩ : x = .set [a, b, c, d] ∧ W4 [a, b, c, d] := by
          rcases hkind with ⟨h1, _, _, h2⟩ | ⟨o, _, h5, _, _, _, _, h6⟩
          · exact ⟨h1, h2⟩
          · omega
      subst hxe
      refine RK.seq ?_
      refine RK.region ?_
      refine RL.p rfl rfl ?_
      refine RL.q (.free rfl) rfl rfl (Yld.fieldAddr fo180_1 rfl) ?_
      refine RL.q (.free rfl) rfl rfl (Yld.loadN (cs := wds [a, b, c, d]) a177 rfl (atN (blk_set4 hB1))) ?_
      refine RL.q (.free rfl) rfl rfl (Yld.build (v := .agg #[.int .i64 1, .int .u64 (a : Int), .int .u64 (b : Int), .int .u64 (c : Int), .int .u64 (d : Int), .int .i64 0, .int .i64 0]) rfl (fun w => by kernel_rfl)) ?_
      refine RL.op (.free rfl) rfl rfl (Does.slice1 u194 i226 rfl rfl rfl rfl rfl) ?_
      rintro _ w4 ⟨b4, rfl, hn4⟩
      simp only [sz] at hb
      refine RL.op (.free rfl) rfl rfl (Does.append u194 i226 rfl rfl rfl rfl rfl (hv1.mod hn4.grow (fun _ _ h => h)) (Sl.new hn4 7 1 rfl (by omega) (fun h => h)) (rfl) (by omega)) ?_
      rintro u5 w5 ⟨hr5, hm5, hu5⟩
      refine RL.p rfl rfl ?_
      refine RL.done ?_
      refine RK.ret_of Tryz.func202 (res1 rfl rfl) ?_ _
      exact ⟨_, rfl, LayR.grow0 hn1.grow (app_one (s := byteS [a, b, c, d]) hn4 hr5 hm5 hu5)⟩
    · obtain ⟨o, rfl, rfl, h3⟩ : ∃ o : Nat, x = .node o l ∧ op = o ∧ (o = 2 ∨ o = 3 ∧ cnt l ≠ 0 ∨ (o = 4 ∨ o = 5 ∨ o = 6) ∧ cnt l = 1) := by
          rcases hkind with ⟨_, _, h2, _⟩ | ⟨o, h4, h5, _, _, _, _, h6⟩
          · omega
          · exact ⟨o, h4, h5, h6⟩
      clear hkind
      have hk : ∀ y ∈ kidsR l, layC y := fun y hy => lay_ok m y (by have := hiR_kid hy; simp only [hiR] at hx; omega) (kids_tr h.tr y hy)
      refine RK.seq ?_
      refine RK.region ?_
      iterate 2 refine RL.p rfl rfl ?_
      refine RL.done ?_
      first | refine RK.condD rfl (fun h20 => ?_) (fun h20 => ?_) | refine RK.condN rfl (fun h20 => ?_) (fun h20 => ?_) | refine RK.cond rfl (fun h20 => ?_) (fun h20 => ?_)
      · have ho : o = 2 := by omega
        subst ho
        rw [node_sz, if_pos rfl] at hb
        have hkl : (kidsR l).length = n := by rw [kids_len]; omega
        have hszl := sz_cons l h.tr
        have hgood : GoodL (kidsR l) := kids_tr h.tr
        refine RK.seq ?_
        refine RK.region ?_
        refine RL.q (.free rfl) rfl rfl (Yld.fieldAddr fo180_2 rfl) ?_
        refine RL.q (.free rfl) rfl rfl (Yld.load p178 rfl (at1 (hB1.cell rfl))) ?_
        refine RL.q (.free rfl) rfl rfl (Yld.lenSl u178 rfl) ?_
        refine RL.p rfl rfl ?_
        refine RL.done ?_
        refine RK.block ?_
        refine RK.loop (fun s : Nat × Value => [(0, s.2), (23, .slice ad n cap), (24, .int .i64 (n : Int)), (25, .int .i64 (s.1 : Int))]) (fun s w' => s.1 ≤ n ∧ LayR w w' (.slice adv P.length cv) s.2 (P ++ code (lstS ((kidsR l).take s.1)) none P.length)) (fun s => n - s.1) (0, .slice adv P.length cv) ⟨rfl, rfl, rfl, rfl, trivial⟩ ⟨by simp, by simpa [code, lstS] using (LayR.refl hv).grow hn1.grow⟩ (fun s w2 hI ih => ?_)
        obtain ⟨k, u⟩ := s
        obtain ⟨hkn, hL⟩ := hI
        simp only at hkn hL
        refine RK.seq ?_
        refine RK.region ?_
        refine RL.p rfl rfl ?_
        refine RL.done ?_
        refine RK.seq ?_
        first | refine RK.condD rfl (fun h26 => ?_) (fun h26 => ?_) | refine RK.condN rfl (fun h26 => ?_) (fun h26 => ?_) | refine RK.cond rfl (fun h26 => ?_) (fun h26 => ?_)
        · obtain ⟨ck, y, b1, o1, rfl, hy, hym, hyv, hb1, hb1l, hcl⟩ := kid_far h.tr hn h.sl h.ks (k := k) (by simp only at h26; omega) hL.mod
          refine RK.skip ?_
          refine RK.seq ?_
          refine RK.block ?_
          refine RK.seq ?_
          refine RK.region ?_
          refine RL.q (.free rfl) rfl rfl (Yld.indexAddrN u178 i180 rfl rfl (by simp only at h26; omega)) ?_
          refine RL.q (.free rfl) rfl rfl (Yld.loadN (cs := celC ck) a180 rfl (atN (hcl))) ?_
          refine RL.op (.free rfl) rfl rfl (Does.alloc i180) ?_
          rintro _ w5 ⟨b5, rfl, hn5⟩
          refine RL.op' (.free rfl) rfl (Does.storeN i180 rfl rfl rfl rfl hn5.blk (Nat.le_refl 6)) ?_
          rintro _ w6 ⟨hb6, hm6, _⟩
          have hB6 : Blk w6 b5 180 (celC ck) := hb6
          have hg6 : Grow w2 w6 := hn5.grow.then hm6 (fun y hy e => by have e' : y = b5 := e; have := hn5.at_; omega)
          refine RL.done ?_
          refine RK.region ?_
          refine RL.p rfl rfl ?_
          refine RL.q (.free rfl) rfl rfl (Yld.loadN (cs := celC ck) a180 rfl (atN (blk0' hB6))) ?_
          have hyv6 : RxV (OB u) w6 y [ck] := RxV.off (M := fun b => Far w (.slice adv P.length cv) b) (fun b hb e => hL.own b e) y (RxV.grow hg6 y hyv)
          have hL6 := hL.grow hg6
          have hlen1 : (P ++ code (lstS ((kidsR l).take k)) none P.length).length = P.length + sz (lstS ((kidsR l).take k)) := by rw [List.length_append, codeL_len (tr_lst _ (hgood.take k))]
          have hsum := sum_take hy
          have hle1 := sum_take_le (kidsR l) (k + 1)
          have hszt := szS ((kidsR l).take k)
          refine RL.op (.free rfl) rfl rfl (Does.call rfl e202 (hk y hym _ ck u w6 hyv6 hL6.row (by rw [hlen1, hszt]; omega))) ?_
          rintro u7 w7 hL7
          have hL8 := hL6.trans hL7
          rw [hlen1, List.append_assoc, ← codeS_snoc, ← take_snoc hy] at hL8
          refine RL.p rfl rfl ?_
          refine RL.done ?_
          refine RK.inBlock ?_
          refine RK.region ?_
          refine RL.p rfl rfl ?_
          refine RL.re (d := 32) rfl rfl (succ_i64 (by omega)) ?_
          refine RL.p rfl rfl ?_
          refine RL.done ?_
          exact RK.back (ih (k + 1, u7) _ ⟨by simp only at h26 ⊢; omega, hL8⟩ (by simp only at h26 ⊢; omega)) ⟨rfl, rfl, rfl, rfl, trivial⟩
        · have ek : (kidsR l).take k = kidsR l := List.take_of_length_le (by simp only at h26; omega)
          rw [ek, lst_kids h.tr] at hL
          refine RK.exit rfl ?_
          refine RK.inBlock ?_
          refine RK.seq ?_
          refine RK.region ?_
          iterate 2 refine RL.p rfl rfl ?_
          refine RL.done ?_
          refine RK.ret_of Tryz.func202 (res1 rfl rfl) ?_ _
          exact ⟨_, rfl, hL⟩
      · refine RK.seq ?_
        refine RK.region ?_
        iterate 2 refine RL.p rfl rfl ?_
        refine RL.done ?_
        first | refine RK.condD rfl (fun h33 => ?_) (fun h33 => ?_) | refine RK.condN rfl (fun h33 => ?_) (fun h33 => ?_) | refine RK.cond rfl (fun h33 => ?_) (fun h33 => ?_)
        · have ho : o = 3 := by omega
          subst ho
          rw [node_sz, if_neg (by omega), if_pos rfl] at hb
          refine RK.seq ?_
          refine RK.region ?_
          refine RL.p rfl rfl ?_
          refine RL.q (.free rfl) rfl rfl (Yld.fieldAddr fo180_2 rfl) ?_
          refine RL.q (.free rfl) rfl rfl (Yld.load p178 rfl (at1 (hB1.cell rfl))) ?_
          refine RL.op (.free rfl) rfl rfl (Does.call rfl e223 (ways_lay h.tr hn h.cp hlen (by omega) hk P _ ((h.sl.mod (Mod.any' hn1.grow))) (RxV.grow hn1.grow _ h.ks) hv1 (by omega))) ?_
          rintro u5 w5 hL5
          refine RL.p rfl rfl ?_
          refine RL.done ?_
          refine RK.ret_of Tryz.func202 (res1 rfl rfl) ?_ _
          exact ⟨_, rfl, LayR.grow0 hn1.grow hL5⟩
        · refine RK.seq ?_
          refine RK.region ?_
          iterate 2 refine RL.p rfl rfl ?_
          refine RL.done ?_
          first | refine RK.condD rfl (fun h39 => ?_) (fun h39 => ?_) | refine RK.condN rfl (fun h39 => ?_) (fun h39 => ?_) | refine RK.cond rfl (fun h39 => ?_) (fun h39 => ?_)
          · have ho : o = 4 := by omega
            subst ho
            obtain ⟨ck, y, b1, o1, rfl, hy, hym, hyv, hb1, hb1l, hcl⟩ := kid_far h.tr hn h.sl h.ks (k := 0) (by omega) (Mod.any' hn1.grow)
            obtain ⟨y', rfl⟩ := only_kid h.tr (by omega)
            have hyy : y = y' := by simpa [kidsR] using hy.symm
            subst hyy
            have hyt : Tr false y := h.tr.1
            have hszy : sz (.cons y .nil) = sz y := by simp [sz]
            rw [node_sz] at hb
            rw [if_neg (by omega), if_neg (by omega), if_pos rfl, hszy] at hb
            refine RK.seq ?_
            refine RK.drawM (OB (.slice adv P.length cv)) [(0, false), (1, false), (2, false), (3, false), (6, false), (7, false), (8, false), (9, false), (4, true), (5, true), (10, true), (11, false)] [] mixed (by kernel_rfl) ?_
            iterate 3 refine DL.p rfl rfl rfl ?_
            refine DL.re (d := 43) rfl rfl (succ_i64 (by omega)) ?_
            refine DL.qf rfl (.free rfl) rfl rfl (Yld.build (v := .agg #[.int .i64 2, .int .u64 0, .int .u64 0, .int .u64 0, .int .u64 0, .int .i64 ((P.length + 1 : Nat) : Int), .int .i64 0]) rfl (fun w => by kernel_rfl)) ?_
            refine DL.qf rfl (.free rfl) rfl rfl (Yld.fieldAddr fo180_2 rfl) ?_
            refine DL.q rfl (.free rfl) rfl rfl rfl (Yld.load p178 rfl (atM (hB1.cell rfl) (hnb3))) (Mod.drew _ _) ?_
            refine DL.qf rfl (.free rfl) rfl rfl (Yld.indexAddr u178 i180 rfl rfl (by omega) (by omega)) ?_
            refine DL.q rfl (.free rfl) rfl rfl rfl (Yld.loadN (cs := celC ck) a180 rfl (atNM (hcl) (hb1))) (Mod.drew _ _) ?_
            refine DL.op rfl (.free rfl) rfl rfl (Does.slice1 u194 i226 rfl rfl rfl rfl rfl) ?_
            rintro _ w4 ⟨b4, rfl, hn4⟩
            refine ⟨(Mod.drew _ _).trans (Mod.any' hn4.grow), ?_⟩
            refine DL.op rfl (.free rfl) rfl rfl (Does.append u194 i226 rfl rfl rfl rfl rfl ((hv1.mod (Mod.drew No _) (fun _ _ h => h)).mod hn4.grow (fun _ _ h => h)) (Sl.new hn4 7 1 rfl (by omega) (fun h => h)) (rfl) (by omega)) ?_
            rintro u5 w5 ⟨hr5, hm5, hu5⟩
            have hL5 : LayR w1.drew w5 (.slice adv P.length cv) u5 (P ++ [splitS (P.length + 1) 0]) := app_one (s := splitS (P.length + 1) 0) hn4 hr5 hm5 hu5
            refine ⟨(Mod.drew _ _).trans hL5.mod, ?_⟩
            have hyv5 : RxV (OB u5) w5 y [ck] := RxV.off (M := fun b => Far w (.slice adv P.length cv) b) (fun b hb e => by
                rcases hL5.own b e with h3 | h3
                · exact .inl h3
                · exact .inr (by have : w1.drew.heap.size = w1.heap.size := rfl; omega)) y (RxV.mod hL5.mod (fun b _ e => .inl e) y (RxV.grow (Mod.drew _ _) y hyv))
            have hp5 : (P ++ [splitS (P.length + 1) 0]).length = P.length + 1 := by simp
            refine DL.op rfl (.free rfl) rfl rfl (Does.call rfl e202 (hk y (by simp [kidsR]) _ ck u5 w5 hyv5 hL5.row (by rw [hp5]; omega))) ?_
            rintro u6 w6 hL6
            rw [hp5] at hL6
            have hL56 := hL5.trans hL6
            refine ⟨(Mod.drew _ _).trans hL56.mod, ?_⟩
            have hL06 : LayR w w6 (.slice adv P.length cv) u6 _ := LayR.grow0 (hn1.grow.trans (Mod.drew _ _)) hL56
            have hp6 : ((P ++ [splitS (P.length + 1) 0]) ++ code y none (P.length + 1)).length = P.length + 1 + sz y := by rw [List.length_append, hp5, codeN_len hyt]
            refine DL.p rfl rfl rfl ?_
            refine DL.done ?_
            refine RK.seq ?_
            refine RK.region ?_
            iterate 2 refine RL.p rfl rfl ?_
            refine RL.q (.free rfl) rfl rfl (Yld.build (v := .agg #[.int .i64 3, .int .u64 0, .int .u64 0, .int .u64 0, .int .u64 0, .int .i64 ((P.length : Nat) : Int), .int .i64 0]) rfl (fun w => by kernel_rfl)) ?_
            refine RL.op (.free rfl) rfl rfl (Does.slice1 u194 i226 rfl rfl rfl rfl rfl) ?_
            rintro _ w7 ⟨b7, rfl, hn7⟩
            refine RL.op (.free rfl) rfl rfl (Does.append u194 i226 rfl rfl rfl rfl rfl (hL06.row.mod hn7.grow (fun _ _ h => h)) (Sl.new hn7 7 1 rfl (by omega) (fun h => h)) (rfl) (by omega)) ?_
            rintro u8 w8 ⟨hr8, hm8, hu8⟩
            have hL9 := hL06.trans (app_one (s := jumpS P.length) hn7 hr8 hm8 hu8)
            have hre : (((P ++ [splitS (P.length + 1) 0]) ++ code y none (P.length + 1)) ++ [jumpS P.length]) = P ++ splitS (P.length + 1) 0 :: (code y none (P.length + 1) ++ [jumpS P.length]) := by simp
            have hp9 : (P ++ splitS (P.length + 1) 0 :: (code y none (P.length + 1) ++ [jumpS P.length])).length = P.length + 2 + sz y := by rw [← hre, List.length_append, hp6]; show _ + 1 = _; omega
            rw [hre] at hL9
            obtain ⟨g, cap9, cs9, hue, hB9, hcs9, hturn⟩ := Row.turn hL9.row (by omega)
            subst hue
            rw [hp9] at hcs9
            refine RL.p rfl rfl ?_
            refine RL.done ?_
            refine RK.region ?_
            iterate 3 refine RL.p rfl rfl ?_
            refine RL.q (.free rfl) rfl rfl (Yld.lenSl u194 rfl) ?_
            refine RL.re (d := 60) rfl rfl (congrArg (Value.int .i64) (show _ = ((P.length + 2 + sz y : Nat) : Int) by rw [hp9])) ?_
            refine RL.q (.free rfl) rfl rfl (Yld.indexAddrN u194 i226 rfl rfl (by omega)) ?_
            refine RL.q (.free rfl) rfl rfl (Yld.fieldAddr fo226_3 rfl) ?_
            refine RL.op' (.free rfl) rfl (Does.store i3 rfl rfl rfl hB9 (setAt_of (by omega))) ?_
            rintro _ w11 ⟨hb11, hm11, _⟩
            have hL11 := lay_set (s' := splitS (P.length + 1) (P.length + 2 + sz y)) (i := 6) hL9 rfl (hturn w11 _ _ (by rw [hp9]; omega) (by have h9 := hb11; rw [Nat.zero_add] at h9; exact h9)) (by omega) rfl hm11
            refine RL.done ?_
            refine RK.inBlock ?_
            refine RK.seq ?_
            refine RK.region ?_
            iterate 2 refine RL.p rfl rfl ?_
            refine RL.done ?_
            refine RK.ret_of Tryz.func202 (res1 rfl rfl) ?_ _
            exact ⟨_, rfl, by simpa [code, sz] using hL11⟩
          · refine RK.seq ?_
            refine RK.region ?_
            iterate 2 refine RL.p rfl rfl ?_
            refine RL.done ?_
            first | refine RK.condD rfl (fun h63 => ?_) (fun h63 => ?_) | refine RK.condN rfl (fun h63 => ?_) (fun h63 => ?_) | refine RK.cond rfl (fun h63 => ?_) (fun h63 => ?_)
            · have ho : o = 5 := by omega
              subst ho
              obtain ⟨ck, y, b1, o1, rfl, hy, hym, hyv, hb1, hb1l, hcl⟩ := kid_far h.tr hn h.sl h.ks (k := 0) (by omega) (Mod.any' hn1.grow)
              obtain ⟨y', rfl⟩ := only_kid h.tr (by omega)
              have hyy : y = y' := by simpa [kidsR] using hy.symm
              subst hyy
              have hyt : Tr false y := h.tr.1
              have hszy : sz (.cons y .nil) = sz y := by simp [sz]
              rw [node_sz] at hb
              rw [if_neg (by omega), if_neg (by omega), if_neg (by omega), hszy] at hb
              refine RK.seq ?_
              refine RK.region ?_
              refine RL.p rfl rfl ?_
              refine RL.q (.free rfl) rfl rfl (Yld.fieldAddr fo180_2 rfl) ?_
              refine RL.q (.free rfl) rfl rfl (Yld.load p178 rfl (at1 (hB1.cell rfl))) ?_
              refine RL.q (.free rfl) rfl rfl (Yld.indexAddr u178 i180 rfl rfl (by omega) (by omega)) ?_
              refine RL.q (.free rfl) rfl rfl (Yld.loadN (cs := celC ck) a180 rfl (atN (hcl))) ?_
              have hyv5 : RxV (OB (.slice adv P.length cv)) w1 y [ck] := RxV.off (M := fun b => Far w (.slice adv P.length cv) b) (fun b hb e => .inl e) y hyv
              refine RL.op (.free rfl) rfl rfl (Does.call rfl e202 (hk y (by simp [kidsR]) _ ck _ w1 hyv5 hv1 (by omega))) ?_
              rintro u6 w6 hL6
              have hL06 := LayR.grow0 hn1.grow hL6
              have hp6 : (P ++ code y none P.length).length = P.length + sz y := by rw [List.length_append, codeN_len hyt]
              obtain ⟨ad6, c6, hue6⟩ := hL6.row.slice
              refine RL.p rfl rfl ?_
              refine RL.done ?_
              refine RK.region ?_
              iterate 3 refine RL.p rfl rfl ?_
              refine RL.q (.free rfl) rfl rfl (Yld.lenSl u194 (congrArg some hue6)) ?_
              refine RL.re (d := 74) rfl rfl (congrArg (Value.int .i64) (show _ = ((P.length + sz y : Nat) : Int) by rw [hp6])) ?_
              refine RL.p rfl rfl ?_
              refine RL.re (d := 75) rfl rfl (succ_i64 (by omega)) ?_
              refine RL.q (.free rfl) rfl rfl (Yld.build (v := .agg #[.int .i64 2, .int .u64 0, .int .u64 0, .int .u64 0, .int .u64 0, .int .i64 ((P.length : Nat) : Int), .int .i64 ((P.length + sz y + 1 : Nat) : Int)]) rfl (fun w => by kernel_rfl)) ?_
              refine RL.op (.free rfl) rfl rfl (Does.slice1 u194 i226 rfl rfl rfl rfl rfl) ?_
              rintro _ w7 ⟨b7, rfl, hn7⟩
              refine RL.op (.free rfl) rfl rfl (Does.append u194 i226 rfl rfl rfl rfl rfl (hL06.row.mod hn7.grow (fun _ _ h => h)) (Sl.new hn7 7 1 rfl (by omega) (fun h => h)) (rfl) (by omega)) ?_
              rintro u8 w8 ⟨hr8, hm8, hu8⟩
              have hL9 := hL06.trans (app_one (s := splitS P.length (P.length + sz y + 1)) hn7 hr8 hm8 hu8)
              refine RL.p rfl rfl ?_
              refine RL.done ?_
              refine RK.inBlock ?_
              refine RK.seq ?_
              refine RK.region ?_
              iterate 2 refine RL.p rfl rfl ?_
              refine RL.done ?_
              refine RK.ret_of Tryz.func202 (res1 rfl rfl) ?_ _
              exact ⟨_, rfl, by simpa [code, sz] using hL9⟩
            · have ho : o = 6 := by omega
              subst ho
              refine RK.seq ?_
              refine RK.region ?_
              iterate 2 refine RL.p rfl rfl ?_
              refine RL.done ?_
              refine RK.condT (hcT rfl (decide_eq_true (by omega))) ?_
              obtain ⟨ck, y, b1, o1, rfl, hy, hym, hyv, hb1, hb1l, hcl⟩ := kid_far h.tr hn h.sl h.ks (k := 0) (by omega) (Mod.any' hn1.grow)
              obtain ⟨y', rfl⟩ := only_kid h.tr (by omega)
              have hyy : y = y' := by simpa [kidsR] using hy.symm
              subst hyy
              have hyt : Tr false y := h.tr.1
              have hszy : sz (.cons y .nil) = sz y := by simp [sz]
              rw [node_sz] at hb
              rw [if_neg (by omega), if_neg (by omega), if_neg (by omega), hszy] at hb
              refine RK.seq ?_
              refine RK.drawM (OB (.slice adv P.length cv)) [(0, false), (1, false), (2, false), (3, false), (6, false), (7, false), (8, false), (9, false), (4, true), (5, true), (10, true), (11, false)] [] mixed (by kernel_rfl) ?_
              iterate 3 refine DL.p rfl rfl rfl ?_
              refine DL.re (d := 83) rfl rfl (succ_i64 (by omega)) ?_
              refine DL.qf rfl (.free rfl) rfl rfl (Yld.build (v := .agg #[.int .i64 2, .int .u64 0, .int .u64 0, .int .u64 0, .int .u64 0, .int .i64 ((P.length + 1 : Nat) : Int), .int .i64 0]) rfl (fun w => by kernel_rfl)) ?_
              refine DL.qf rfl (.free rfl) rfl rfl (Yld.fieldAddr fo180_2 rfl) ?_
              refine DL.q rfl (.free rfl) rfl rfl rfl (Yld.load p178 rfl (atM (hB1.cell rfl) (hnb3))) (Mod.drew _ _) ?_
              refine DL.qf rfl (.free rfl) rfl rfl (Yld.indexAddr u178 i180 rfl rfl (by omega) (by omega)) ?_
              refine DL.q rfl (.free rfl) rfl rfl rfl (Yld.loadN (cs := celC ck) a180 rfl (atNM (hcl) (hb1))) (Mod.drew _ _) ?_
              refine DL.op rfl (.free rfl) rfl rfl (Does.slice1 u194 i226 rfl rfl rfl rfl rfl) ?_
              rintro _ w4 ⟨b4, rfl, hn4⟩
              refine ⟨(Mod.drew _ _).trans (Mod.any' hn4.grow), ?_⟩
              refine DL.op rfl (.free rfl) rfl rfl (Does.append u194 i226 rfl rfl rfl rfl rfl ((hv1.mod (Mod.drew No _) (fun _ _ h => h)).mod hn4.grow (fun _ _ h => h)) (Sl.new hn4 7 1 rfl (by omega) (fun h => h)) (rfl) (by omega)) ?_
              rintro u5 w5 ⟨hr5, hm5, hu5⟩
              have hL5 : LayR w1.drew w5 (.slice adv P.length cv) u5 (P ++ [splitS (P.length + 1) 0]) := app_one (s := splitS (P.length + 1) 0) hn4 hr5 hm5 hu5
              refine ⟨(Mod.drew _ _).trans hL5.mod, ?_⟩
              have hyv5 : RxV (OB u5) w5 y [ck] := RxV.off (M := fun b => Far w (.slice adv P.length cv) b) (fun b hb e => by
                  rcases hL5.own b e with h3 | h3
                  · exact .inl h3
                  · exact .inr (by have : w1.drew.heap.size = w1.heap.size := rfl; omega)) y (RxV.mod hL5.mod (fun b _ e => .inl e) y (RxV.grow (Mod.drew _ _) y hyv))
              have hp5 : (P ++ [splitS (P.length + 1) 0]).length = P.length + 1 := by simp
              refine DL.op rfl (.free rfl) rfl rfl (Does.call rfl e202 (hk y (by simp [kidsR]) _ ck u5 w5 hyv5 hL5.row (by rw [hp5]; omega))) ?_
              rintro u6 w6 hL6
              rw [hp5] at hL6
              have hL56 := hL5.trans hL6
              refine ⟨(Mod.drew _ _).trans hL56.mod, ?_⟩
              have hL06 : LayR w w6 (.slice adv P.length cv) u6 _ := LayR.grow0 (hn1.grow.trans (Mod.drew _ _)) hL56
              have hp6 : ((P ++ [splitS (P.length + 1) 0]) ++ code y none (P.length + 1)).length = P.length + 1 + sz y := by rw [List.length_append, hp5, codeN_len hyt]
              have hre : ((P ++ [splitS (P.length + 1) 0]) ++ code y none (P.length + 1)) = P ++ splitS (P.length + 1) 0 :: code y none (P.length + 1) := by simp
              have hp9 : (P ++ splitS (P.length + 1) 0 :: code y none (P.length + 1)).length = P.length + 1 + sz y := by rw [← hre, hp6]
              have hL9 := hL06
              rw [hre] at hL9
              obtain ⟨g, cap9, cs9, hue, hB9, hcs9, hturn⟩ := Row.turn hL9.row (by omega)
              subst hue
              rw [hp9] at hcs9
              refine DL.p rfl rfl rfl ?_
              refine DL.done ?_
              refine RK.region ?_
              iterate 3 refine RL.p rfl rfl ?_
              refine RL.q (.free rfl) rfl rfl (Yld.lenSl u194 rfl) ?_
              refine RL.re (d := 95) rfl rfl (congrArg (Value.int .i64) (show _ = ((P.length + 1 + sz y : Nat) : Int) by rw [hp9])) ?_
              refine RL.q (.free rfl) rfl rfl (Yld.indexAddrN u194 i226 rfl rfl (by omega)) ?_
              refine RL.q (.free rfl) rfl rfl (Yld.fieldAddr fo226_3 rfl) ?_
              refine RL.op' (.free rfl) rfl (Does.store i3 rfl rfl rfl hB9 (setAt_of (by omega))) ?_
              rintro _ w11 ⟨hb11, hm11, _⟩
              have hL11 := lay_set (s' := splitS (P.length + 1) (P.length + 1 + sz y)) (i := 6) hL9 rfl (hturn w11 _ _ (by rw [hp9]; omega) (by have h9 := hb11; rw [Nat.zero_add] at h9; exact h9)) (by omega) rfl hm11
              refine RL.done ?_
              refine RK.inBlock ?_
              refine RK.seq ?_
              refine RK.region ?_
              iterate 2 refine RL.p rfl rfl ?_
              refine RL.done ?_
              refine RK.ret_of Tryz.func202 (res1 rfl rfl) ?_ _
              exact ⟨_, rfl, by simpa [code, sz] using hL11⟩
theorem progMake_ok (x : Rx) (ht : Tr false x) (hs : sz x ≤ 1000) (M : Nat → Prop) (k : Cel) (w : World) (hv : RxV M w x [k]) : Fx Tryz.prog 169 [.agg (celC k).toArray] w (fun u w' => (∃ v, u = .tuple #[v, .bool (decide (sz x + 1 ≤ 40))] ∧ (sz x + 1 ≤ 40 → RowS w' v (whole x))) ∧ Grow w w') := by
  refine enter Tryz.func169 rfl rfl rfl _ (Pick.sub (l := [0]) (.cons rfl .nil)) ?_
  refine RK.seq ?_
  refine RK.region ?_
  refine RL.op (.free rfl) rfl rfl (Does.box rfl) ?_
  rintro _ w1 ⟨b1, rfl, hn1⟩
  iterate 2 refine RL.p rfl rfl ?_
  refine RL.done ?_
  refine RK.seq ?_
  refine RK.region ?_
  refine RL.q (.free rfl) rfl rfl (Yld.loadN (cs := celC k) a180 rfl (atN (blk0' hn1.blk))) ?_
  refine RL.op (.free rfl) rfl rfl (Does.call rfl e201 (sizeM_ok x ht hs M k _ (RxV.grow hn1.grow x hv))) ?_
  rintro _ w2 ⟨rfl, hg2⟩
  refine RL.p rfl rfl ?_
  refine RL.done ?_
  iterate 2 refine RK.seq ?_
  refine RK.region ?_
  iterate 3 refine RL.p rfl rfl ?_
  refine RL.knownF (d := 9) rfl rfl (decide_eq_false (by omega)) ?_
  iterate 2 refine RL.q (.yes rfl rfl rfl) rfl rfl (Yld.pure rfl) ?_
  refine RL.p rfl rfl ?_
  refine RL.done ?_
  first | refine RK.condD rfl (fun h12 => ?_) (fun h12 => ?_) | refine RK.condN rfl (fun h12 => ?_) (fun h12 => ?_) | refine RK.cond rfl (fun h12 => ?_) (fun h12 => ?_)
  · refine RK.seq ?_
    refine RK.region ?_
    iterate 2 refine RL.p rfl rfl ?_
    refine RL.done ?_
    refine RK.ret_of Tryz.func169 (res2 rfl rfl rfl) ?_ _
    exact ⟨_, rfl, ⟨_, by rw [decide_eq_false (by omega)], fun h => by omega⟩, hn1.grow.trans hg2⟩
  · refine RK.skip ?_
    refine RK.seq ?_
    refine RK.region ?_
    refine RL.q (.free rfl) rfl rfl (Yld.loadN (cs := celC k) a180 rfl (atN (blk0' (hn1.blk.mod hg2 (fun h => h))))) ?_
    refine RL.op (.free rfl) rfl rfl (Does.call rfl e202 (lay_ok _ x (Nat.le_refl _) ht [] k (.slice none 0 0) w2 (RxV.off (M := fun _ => False) (fun b _ e => by simp [OB, Value.ownBlock] at e) x (RxV.off (fun b _ e => e.elim) x (RxV.grow (hn1.grow.trans hg2) x hv))) (Row.nil _ _ _) (by simp; omega))) ?_
    rintro u3 w3 hL3
    refine RL.q (.free rfl) rfl rfl (Yld.build (v := .agg #[.int .i64 4, .int .u64 0, .int .u64 0, .int .u64 0, .int .u64 0, .int .i64 0, .int .i64 0]) rfl (fun w => by kernel_rfl)) ?_
    refine RL.op (.free rfl) rfl rfl (Does.slice1 u194 i226 rfl rfl rfl rfl rfl) ?_
    rintro _ w4 ⟨b4, rfl, hn4⟩
    have hp3 : ([] ++ code x none ([] : List Stp).length).length = sz x := by simp [codeN_len ht]
    refine RL.op (.free rfl) rfl rfl (Does.append u194 i226 rfl rfl rfl rfl rfl (hL3.row.mod hn4.grow (fun _ _ h => h)) (Sl.new hn4 7 1 rfl (by omega) (fun h => h)) (rfl) (by rw [hp3]; omega)) ?_
    rintro u5 w5 ⟨hr5, hm5, hu5⟩
    have hL5 := hL3.trans (app_one (s := matchS) hn4 hr5 hm5 hu5)
    iterate 2 refine RL.p rfl rfl ?_
    refine RL.done ?_
    refine RK.ret_of Tryz.func169 (res2 rfl rfl rfl) ?_ _
    exact ⟨_, rfl, ⟨_, by rw [decide_eq_true (by omega)], fun _ => by simpa [whole] using hL5.row⟩, (hn1.grow.trans hg2).trans (hL5.mod.mono fun b _ e => by simp [OB, Value.ownBlock] at e)⟩
end Go.Proofs.YtbcbfjnlnmhpbaaGreat
set_option linter.unusedVariables false
set_option linter.unusedSimpArgs false
set_option maxHeartbeats 1000000
set_option maxRecDepth 100000
namespace Go.Rex
open Go Go.X
theorem bit1 (a c : Nat) : a >>> c &&& 1 = 1 ↔ a.testBit c = true := by
  rw [Nat.testBit, Nat.and_comm]
  have : 1 &&& a >>> c = (a >>> c) % 2 := by rw [Nat.and_comm]; exact Nat.and_one_is_mod _
  rw [this]
  simp
theorem bit1I (a c : Nat) : ((a >>> c &&& 1 : Nat) : Int) = 1 ↔ a.testBit c = true := by
  rw [← bit1]
  exact ⟨fun h => by exact_mod_cast h, fun h => by exact_mod_cast h⟩
def inB (t : List Nat) (c : Nat) : Bool := ((t[c / 64]?).getD 0).testBit (c % 64)
def HS (s : ByteArray) (t : List Nat) (i : Nat) : Prop := i < s.size ∧ inB t (b8 s i) = true
open Classical in
noncomputable def takes (x : Rx) (s : ByteArray) : Bool := decide (Lg (HS s) x true 0 s.size)
theorem takes_iff (x : Rx) (s : ByteArray) : takes x s = true ↔ Lg (HS s) x true 0 s.size := by unfold takes; simp
structure OkP (P : List Stp) : Prop where
  one : 1 ≤ P.length
  le : P.length ≤ 40
  at_ : ∀ i st, P[i]? = some st → W4 st.set ∧ (i + 1 < P.length ∧ okS P.length st ∨ i + 1 = P.length ∧ st = matchS)
theorem code_w4 : ∀ (x : Rx) (b : Bool), Tr b x → ∀ p, (∀ s ∈ code x none p, W4 s.set) ∧ ∀ e, ∀ s ∈ code x (some e) p, W4 s.set := by
  intro x
  induction x with
  | set t =>
    intro b h p
    cases b with
    | true => exact h.elim
    | false => exact ⟨fun s hs => by simp [code] at hs; subst hs; exact h, fun e s hs => by simp [code] at hs; subst hs; exact h⟩
  | nil => intro b h p; exact ⟨fun s hs => by simp [code] at hs, fun e s hs => by simp [code] at hs⟩
  | node op l ih =>
    intro b h p
    cases b with
    | true => exact h.elim
    | false =>
      have h1 := ih true h.2
      have key : ∀ e, ∀ s ∈ code (.node op l) e p, W4 s.set := by
        intro e s hs
        simp only [code] at hs
        split at hs
        · exact (h1 _).1 s hs
        · split at hs
          · exact (h1 _).2 _ s hs
          · split at hs
            · rcases List.mem_cons.1 hs with rfl | hs
              · exact W4.zero
              · rcases List.mem_append.1 hs with hs | hs
                · exact (h1 _).1 s hs
                · simp at hs; subst hs; exact W4.zero
            · split at hs
              · rcases List.mem_append.1 hs with hs | hs
                · exact (h1 _).1 s hs
                · simp at hs; subst hs; exact W4.zero
              · rcases List.mem_cons.1 hs with rfl | hs
                · exact W4.zero
                · exact (h1 _).1 s hs
      exact ⟨key none, fun e => key (some e)⟩
  | cons x l ihx ihl =>
    intro b h p
    cases b with
    | false => exact h.elim
    | true =>
      have hx := ihx false h.1
      have hl := ihl true h.2
      refine ⟨fun s hs => ?_, fun e s hs => ?_⟩
      · simp only [code] at hs
        rcases List.mem_append.1 hs with hs | hs
        · exact (hx _).1 s hs
        · exact (hl _).1 s hs
      · simp only [code] at hs
        split at hs
        · exact (hx _).1 s hs
        · rcases List.mem_cons.1 hs with rfl | hs
          · exact W4.zero
          · rcases List.mem_append.1 hs with hs | hs
            · exact (hx _).1 s hs
            · rcases List.mem_cons.1 hs with rfl | hs
              · exact W4.zero
              · exact (hl _).2 _ s hs
theorem whole_ok {x : Rx} (ht : Tr false x) (hs : sz x + 1 ≤ 40) : OkP (whole x) := by
  obtain ⟨hw, hl, _⟩ := tr_wf x false ht
  have hlen := whole_len hw hl
  refine ⟨by omega, by omega, fun i st h => ⟨?_, ?_⟩⟩
  · have hm : st ∈ code x none 0 ++ [matchS] := List.mem_of_getElem? h
    rcases List.mem_append.1 hm with h1 | h1
    · exact (code_w4 x false ht 0).1 st h1
    · simp at h1; subst h1; exact W4.zero
  · rcases whole_at hw hl h with ⟨h1, h2⟩ | ⟨h1, h2⟩
    · exact .inl ⟨by omega, by rw [hlen]; exact h2⟩
    · exact .inr ⟨by omega, h2⟩
end Go.Rex
namespace Go.Proofs.YtbcbfjnlnmhpbaaGreat
open Go Go.X Go.Rex
def stV (s : Stp) : Value := .agg (stC s).toArray
theorem stepIn_ok (n at_ b : Nat) (w : World) (hb : Blk w b 3 [.int .i64 (n : Int)]) : Fx Tryz.prog 225 [.int .i64 (at_ : Int), pp b] w (fun u w' => u = .bool (decide (at_ < n)) ∧ w = w') := by
  refine enter Tryz.func225 rfl rfl rfl _ (Pick.sub (l := [0, 1]) (.cons rfl (.cons rfl .nil))) ?_
  refine RK.seq ?_
  refine RK.region ?_
  refine RL.p rfl rfl ?_
  refine RL.done ?_
  refine RK.seq ?_
  refine RK.region ?_
  iterate 3 refine RL.p rfl rfl ?_
  refine RL.knownT (d := 6) rfl rfl (decide_eq_true (Int.natCast_nonneg at_)) ?_
  refine RL.q (.yes rfl rfl rfl) rfl rfl (Yld.pure rfl) ?_
  refine RL.q (.yes rfl rfl rfl) rfl rfl (Yld.load p3 rfl (at1 (hb.cell rfl))) ?_
  refine RL.q (.yes rfl rfl rfl) rfl rfl (Yld.pure rfl) ?_
  iterate 2 refine RL.p rfl rfl ?_
  refine RL.done ?_
  refine RK.ret_of Tryz.func225 (res1 rfl rfl) ?_ _
  exact ⟨_, rfl, congrArg _ (by simp), rfl⟩
theorem blk_set4s {w : World} {b1 t : Nat} {op : Int} {a b c d : Nat} {v u : Value} (h : Blk w b1 t [.int .i64 op, .int .u64 (a : Int), .int .u64 (b : Int), .int .u64 (c : Int), .int .u64 (d : Int), v, u]) : ∀ (j : Nat) (z : Value), (wds [a, b, c, d])[j]? = some z → w.cell? ⟨b1, 0 + 1 + j, none⟩ = some z := blk_mid (rest := [v, u]) (ws := wds [a, b, c, d]) h
theorem right_ok (n : Nat) (s : Stp) (last : Bool) (hw : W4 s.set) (h : last = false ∧ okS n s ∨ last = true ∧ s = matchS) (w : World) : Fx Tryz.prog 205 [stV s, .int .i64 (n : Int), .bool last] w (fun u w' => u = .bool true ∧ Grow w w') := by
  obtain ⟨op, t, a, b⟩ := s
  obtain ⟨x0, x1, x2, x3, rfl⟩ := W4.four hw
  have hkind : op = 1 ∧ a = 0 ∧ b = 0 ∧ last = false ∨ (op = 2 ∧ a < n ∧ b < n ∨ op = 3 ∧ a < n ∧ b = 0 ∨ op = 4 ∧ a = 0 ∧ b = 0) ∧ x0 = 0 ∧ x1 = 0 ∧ x2 = 0 ∧ x3 = 0 := by
    rcases h with ⟨h1, h2⟩ | ⟨h1, h2⟩
    · rcases h2 with ⟨h3, h4, h5⟩ | ⟨h3, h4, h5, h6⟩ | ⟨h3, h4, h5, h6⟩
      · exact .inl ⟨h3, h4, h5, h1⟩
      · simp only [zero4, List.cons.injEq] at h6; exact .inr ⟨.inl ⟨h3, h4, h5⟩, by omega⟩
      · simp only [zero4, List.cons.injEq] at h6; exact .inr ⟨.inr (.inl ⟨h3, h4, h5⟩), by omega⟩
    · simp only [matchS, zero4, Stp.mk.injEq, List.cons.injEq] at h2
      exact .inr ⟨.inr (.inr ⟨h2.1, h2.2.2.1, h2.2.2.2⟩), by omega⟩
  clear h
  refine enter Tryz.func205 rfl rfl rfl _ (Pick.sub (l := [0, 1, 2]) (.cons rfl (.cons rfl (.cons rfl .nil)))) ?_
  refine RK.seq ?_
  refine RK.region ?_
  refine RL.op (.free rfl) rfl rfl (Does.box rfl) ?_
  rintro _ w1 ⟨b1, rfl, hn1⟩
  have hB1' : Blk w1 b1 226 [.int .i64 (op : Int), .int .u64 (x0 : Int), .int .u64 (x1 : Int), .int .u64 (x2 : Int), .int .u64 (x3 : Int), .int .i64 (a : Int), .int .i64 (b : Int)] := hn1.blk
  refine RL.op (.free rfl) rfl rfl (Does.box rfl) ?_
  rintro _ w2 ⟨b2, rfl, hn2⟩
  have hB1 := hB1'.mod hn2.grow (fun h => h)
  have hg2 := hn1.grow.trans hn2.grow
  refine RL.p rfl rfl ?_
  refine RL.done ?_
  refine RK.seq ?_
  refine RK.region ?_
  iterate 2 refine RL.p rfl rfl ?_
  refine RL.done ?_
  refine RK.seq ?_
  refine RK.cut [(2, .bool last), (3, pp b1), (4, pp b2), (7, .func (.func 225) #[] #[pp b2])] (fun w' => w' = w2) (fun w3 hQ => ?_) (fun hj => ?_)
  · subst hQ
    iterate 2 refine RK.seq ?_
    refine RK.region ?_
    refine RL.q (.free rfl) rfl rfl (Yld.fieldAddr fo226_0 rfl) ?_
    refine RL.q (.free rfl) rfl rfl (Yld.load p3 rfl (at1 (hB1.cell rfl))) ?_
    refine RL.done ?_
    refine RK.block ?_
    refine RK.seq ?_
    refine RK.region ?_
    iterate 2 refine RL.p rfl rfl ?_
    refine RL.done ?_
    first | refine RK.condD rfl (fun h20 => ?_) (fun h20 => ?_) | refine RK.condN rfl (fun h20 => ?_) (fun h20 => ?_) | refine RK.cond rfl (fun h20 => ?_) (fun h20 => ?_)
    · have ho : a = 0 ∧ b = 0 ∧ last = false := by rcases hkind with h9 | ⟨h9, _⟩; exact h9.2; (exfalso; omega)
      obtain ⟨rfl, rfl, rfl⟩ := ho
      refine RK.seq ?_
      refine RK.region ?_
      refine RL.q (.free rfl) rfl rfl (Yld.fieldAddr fo226_2 rfl) ?_
      refine RL.q (.free rfl) rfl rfl (Yld.load p3 rfl (at1 (hB1.cell rfl))) ?_
      iterate 2 refine RL.p rfl rfl ?_
      refine RL.knownT (d := 25) rfl rfl (rfl) ?_
      refine RL.q (.yes rfl rfl rfl) rfl rfl (Yld.fieldAddr fo226_3 rfl) ?_
      refine RL.q (.yes rfl rfl rfl) rfl rfl (Yld.load p3 rfl (at1 (hB1.cell rfl))) ?_
      refine RL.q (.yes rfl rfl rfl) rfl rfl (Yld.pure rfl) ?_
      iterate 2 refine RL.p rfl rfl ?_
      refine RL.knownT (d := 30) rfl rfl (rfl) ?_
      iterate 2 refine RL.q (.yes rfl rfl rfl) rfl rfl (Yld.pure rfl) ?_
      iterate 2 refine RL.p rfl rfl ?_
      refine RL.done ?_
      refine RK.ret_of Tryz.func205 (res1 rfl rfl) ?_ _
      exact ⟨_, rfl, rfl, hg2⟩
    · refine RK.seq ?_
      refine RK.region ?_
      iterate 2 refine RL.p rfl rfl ?_
      refine RL.done ?_
      first | refine RK.condD rfl (fun h34 => ?_) (fun h34 => ?_) | refine RK.condN rfl (fun h34 => ?_) (fun h34 => ?_) | refine RK.cond rfl (fun h34 => ?_) (fun h34 => ?_)
      · have ho : a < n ∧ b < n := by omega
        refine RK.seq ?_
        refine RK.region ?_
        refine RL.p rfl rfl ?_
        refine RL.q (.free rfl) rfl rfl (Yld.fieldAddr fo226_2 rfl) ?_
        refine RL.q (.free rfl) rfl rfl (Yld.load p3 rfl (at1 (hB1.cell rfl))) ?_
        refine RL.op (.free rfl) rfl rfl (Does.callv rfl rfl e225 (stepIn_ok n a b2 _ hn2.blk)) ?_
        rintro _ _ ⟨rfl, rfl⟩
        refine RL.p rfl rfl ?_
        refine RL.knownT (d := 40) rfl rfl (decide_eq_true ho.1) ?_
        refine RL.q (.yes rfl rfl rfl) rfl rfl (Yld.pure rfl) ?_
        refine RL.q (.yes rfl rfl rfl) rfl rfl (Yld.fieldAddr fo226_3 rfl) ?_
        refine RL.q (.yes rfl rfl rfl) rfl rfl (Yld.load p3 rfl (at1 (hB1.cell rfl))) ?_
        refine RL.op (.yes rfl rfl rfl) rfl rfl (Does.callv rfl rfl e225 (stepIn_ok n b b2 _ hn2.blk)) ?_
        rintro _ _ ⟨rfl, rfl⟩
        iterate 2 refine RL.p rfl rfl ?_
        refine RL.done ?_
        refine RK.ret_of Tryz.func205 (res1 rfl rfl) ?_ _
        exact ⟨_, rfl, by simp [ho], hg2⟩
      · refine RK.seq ?_
        refine RK.region ?_
        iterate 2 refine RL.p rfl rfl ?_
        refine RL.done ?_
        first | refine RK.condD rfl (fun h46 => ?_) (fun h46 => ?_) | refine RK.condN rfl (fun h46 => ?_) (fun h46 => ?_) | refine RK.cond rfl (fun h46 => ?_) (fun h46 => ?_)
        · have ho : a < n ∧ b = 0 := by omega
          refine RK.seq ?_
          refine RK.region ?_
          refine RL.p rfl rfl ?_
          refine RL.q (.free rfl) rfl rfl (Yld.fieldAddr fo226_2 rfl) ?_
          refine RL.q (.free rfl) rfl rfl (Yld.load p3 rfl (at1 (hB1.cell rfl))) ?_
          refine RL.op (.free rfl) rfl rfl (Does.callv rfl rfl e225 (stepIn_ok n a b2 _ hn2.blk)) ?_
          rintro _ _ ⟨rfl, rfl⟩
          refine RL.p rfl rfl ?_
          refine RL.knownT (d := 52) rfl rfl (decide_eq_true ho.1) ?_
          refine RL.q (.yes rfl rfl rfl) rfl rfl (Yld.fieldAddr fo226_3 rfl) ?_
          refine RL.q (.yes rfl rfl rfl) rfl rfl (Yld.load p3 rfl (at1 (hB1.cell rfl))) ?_
          refine RL.q (.yes rfl rfl rfl) rfl rfl (Yld.pure rfl) ?_
          iterate 2 refine RL.p rfl rfl ?_
          refine RL.done ?_
          refine RK.ret_of Tryz.func205 (res1 rfl rfl) ?_ _
          exact ⟨_, rfl, by simp [ho], hg2⟩
        · have ho : op = 4 ∧ a = 0 ∧ b = 0 := by omega
          refine RK.skip ?_
          refine RK.inBlock ?_
          refine RK.seq ?_
          refine RK.region ?_
          refine RL.q (.free rfl) rfl rfl (Yld.fieldAddr fo226_0 rfl) ?_
          refine RL.q (.free rfl) rfl rfl (Yld.load p3 rfl (at1 (hB1.cell rfl))) ?_
          iterate 2 refine RL.p rfl rfl ?_
          refine RL.knownT (d := 60) rfl rfl (decide_eq_true (by omega)) ?_
          refine RL.q (.yes rfl rfl rfl) rfl rfl (Yld.fieldAddr fo226_2 rfl) ?_
          refine RL.q (.yes rfl rfl rfl) rfl rfl (Yld.load p3 rfl (at1 (hB1.cell rfl))) ?_
          refine RL.q (.yes rfl rfl rfl) rfl rfl (Yld.pure rfl) ?_
          iterate 2 refine RL.p rfl rfl ?_
          refine RL.knownT (d := 65) rfl rfl (decide_eq_true (by omega)) ?_
          refine RL.q (.yes rfl rfl rfl) rfl rfl (Yld.fieldAddr fo226_3 rfl) ?_
          refine RL.q (.yes rfl rfl rfl) rfl rfl (Yld.load p3 rfl (at1 (hB1.cell rfl))) ?_
          refine RL.q (.yes rfl rfl rfl) rfl rfl (Yld.pure rfl) ?_
          iterate 2 refine RL.p rfl rfl ?_
          refine RL.done ?_
          refine RK.ret_of Tryz.func205 (res1 rfl rfl) ?_ _
          exact ⟨_, rfl, by simp [ho], hg2⟩
  · refine RK.seq ?_
    refine RK.region ?_
    refine RL.q (.free rfl) rfl rfl (Yld.fieldAddr fo226_0 rfl) ?_
    refine RL.q (.free rfl) rfl rfl (Yld.load p3 rfl (at1 (hB1.cell rfl))) ?_
    iterate 2 refine RL.p rfl rfl ?_
    first | refine RL.splitD (d := 12) rfl rfl (fun h12 => ?_) (fun h12 => ?_) | refine RL.splitN (d := 12) rfl rfl (fun h12 => ?_) (fun h12 => ?_) | refine RL.split (d := 12) rfl rfl (fun h12 => ?_) (fun h12 => ?_)
    · obtain ⟨rfl, rfl, rfl, rfl⟩ : x0 = 0 ∧ x1 = 0 ∧ x2 = 0 ∧ x3 = 0 := by omega
      refine RL.q (.yes rfl rfl rfl) rfl rfl (Yld.fieldAddr fo226_1 rfl) ?_
      refine RL.q (.yes rfl rfl rfl) rfl rfl (Yld.loadN (cs := wds [0, 0, 0, 0]) a177 rfl (atN (blk_set4s hB1))) ?_
      refine RL.q (.yes rfl rfl rfl) rfl rfl (Yld.build (v := .agg (wds [0, 0, 0, 0]).toArray) rfl (fun w => by kernel_rfl)) ?_
      refine RL.q (.yes rfl rfl rfl) rfl rfl (Yld.neqArr arr177 (ps := [0, 0, 0, 0]) (qs := [0, 0, 0, 0]) rfl rfl rfl rfl rfl rfl) ?_
      refine RL.p rfl rfl ?_
      refine RL.done ?_
      refine RK.condF (hcF rfl (rfl)) ?_
      refine RK.skip ?_
      exact RK.back (hj _ rfl) ⟨rfl, rfl, rfl, rfl, trivial⟩
    · iterate 4 refine RL.no (.no rfl rfl rfl rfl) rfl rfl ?_
      refine RL.p rfl rfl ?_
      refine RL.done ?_
      refine RK.condF rfl ?_
      refine RK.skip ?_
      exact RK.back (hj _ rfl) ⟨rfl, rfl, rfl, rfl, trivial⟩
end Go.Proofs.YtbcbfjnlnmhpbaaGreat
set_option linter.unusedVariables false
set_option linter.unusedSimpArgs false
set_option maxHeartbeats 1000000
set_option maxRecDepth 100000
namespace Go.Proofs.YtbcbfjnlnmhpbaaGreat
open Go Go.X Go.Rex
abbrev SlS (M : Nat → Prop) (w : World) (v : Value) (P : List Stp) : Prop := Sl M w v 7 P.length (P.flatMap stC)
theorem check1_ok (P : List Stp) (s : Stp) (hw : W4 s.set) (hs : okS P.length s) (v : Value) (b1 : Nat) (w : World) (hv : SlS No w v P) (hb : Blk w b1 194 [v]) :
    Fx Tryz.prog 204 [stV s, pp b1] w (fun u w' => u = .bool false ∧ Grow w w') := by
  obtain ⟨ad, c, rfl⟩ := hv.shape
  refine enter Tryz.func204 rfl rfl rfl _ (Pick.sub (l := [0, 1]) (.cons rfl (.cons rfl .nil))) ?_
  refine RK.seq ?_
  refine RK.region ?_
  refine RL.op (.free rfl) rfl rfl (Does.box rfl) ?_
  rintro _ w2 ⟨b2, rfl, hn2⟩
  refine RL.p rfl rfl ?_
  refine RL.done ?_
  refine RK.seq ?_
  refine RK.region ?_
  refine RL.q (.free rfl) rfl rfl (Yld.loadN (cs := stC s) a226 rfl (atN (blk0' hn2.blk))) ?_
  refine RL.q (.free rfl) rfl rfl (Yld.load p194 rfl (at1 ((hb.mod hn2.grow (fun h => h)).cell rfl))) ?_
  refine RL.q (.free rfl) rfl rfl (Yld.lenSl u194 rfl) ?_
  refine RL.op (.free rfl) rfl rfl (Does.call rfl e205 (right_ok P.length s false hw (.inl ⟨rfl, hs⟩) _)) ?_
  rintro _ w3 ⟨rfl, hg3⟩
  iterate 2 refine RL.p rfl rfl ?_
  refine RL.done ?_
  refine RK.ret_of Tryz.func204 (res1 rfl rfl) ?_ _
  exact ⟨_, rfl, rfl, hn2.grow.trans hg3⟩
theorem checkI_ok (P : List Stp) (hP : OkP P) (ad : Option Addr) (c : Nat) (b1 : Nat) (w : World) (hv : SlS No w (.slice ad P.length c) P) (hb : Blk w b1 194 [.slice ad P.length c]) :
    Fx Tryz.prog 224 [.slice ad (P.length - 1) c, .func (.func 204) #[] #[pp b1]] w (fun u w' => u = .int .i64 (-1) ∧ Grow w w') := by
  have hle := hP.le
  refine enter Tryz.func224 rfl rfl rfl _ (Pick.sub (l := [0, 1]) (.cons rfl (.cons rfl .nil))) ?_
  refine RK.seq ?_
  refine RK.region ?_
  refine RL.p rfl rfl ?_
  refine RL.done ?_
  iterate 2 refine RK.seq ?_
  refine RK.region ?_
  refine RL.p rfl rfl ?_
  refine RL.q (.free rfl) rfl rfl (Yld.lenSl u194 rfl) ?_
  refine RL.p rfl rfl ?_
  refine RL.done ?_
  refine RK.block ?_
  refine RK.loop (fun k : Nat => [(0, .slice ad (P.length - 1) c), (1, .func (.func 204) #[] #[pp b1]), (7, .int .i64 ((P.length - 1 : Nat) : Int)), (8, .int .i64 k)]) (fun k w' => Grow w w' ∧ k ≤ P.length - 1) (fun k => P.length - 1 - k) 0 ⟨rfl, rfl, rfl, rfl, trivial⟩ ⟨Mod.refl _ _, by omega⟩ (fun k w' hI ih => ?_)
  obtain ⟨hg, hk⟩ := hI
  refine RK.seq ?_
  refine RK.region ?_
  refine RL.p rfl rfl ?_
  refine RL.done ?_
  refine RK.seq ?_
  first | refine RK.condD rfl (fun h9 => ?_) (fun h9 => ?_) | refine RK.condN rfl (fun h9 => ?_) (fun h9 => ?_) | refine RK.cond rfl (fun h9 => ?_) (fun h9 => ?_)
  · obtain ⟨s, hs⟩ : ∃ s, P[k]? = some s := ⟨P[k]'(by omega), List.getElem?_eq_getElem (by omega)⟩
    obtain ⟨hw4, hok⟩ := hP.at_ k s hs
    have hok' : okS P.length s := by rcases hok with ⟨_, h1⟩ | ⟨h1, _⟩; exact h1; omega
    obtain ⟨b2, o2, c2, he, _, _, hcl⟩ := hv.elem stC_len hs
    cases he
    refine RK.skip ?_
    refine RK.seq ?_
    refine RK.block ?_
    refine RK.seq ?_
    refine RK.region ?_
    iterate 2 refine RL.p rfl rfl ?_
    refine RL.done ?_
    refine RK.seq ?_
    refine RK.region ?_
    iterate 3 refine RL.p rfl rfl ?_
    refine RL.q (.free rfl) rfl rfl (Yld.indexAddrN u194 i226 rfl rfl (by omega)) ?_
    refine RL.q (.free rfl) rfl rfl (Yld.loadN (cs := stC s) a226 rfl (atN (fun j u hj => hg.cell (hcl j u hj) (fun h => h)))) ?_
    refine RL.op (.free rfl) rfl rfl (Does.callv rfl rfl e204 (check1_ok P s hw4 hok' _ b1 _ (hv.mod hg) (hb.mod hg (fun h => h)))) ?_
    rintro _ w2 ⟨rfl, hg2⟩
    refine RL.done ?_
    refine RK.condF (hcF rfl (rfl)) ?_
    refine RK.skip ?_
    refine RK.inBlock ?_
    refine RK.region ?_
    refine RL.p rfl rfl ?_
    refine RL.re (d := 18) rfl rfl (succ_i64 (by omega)) ?_
    refine RL.p rfl rfl ?_
    refine RL.done ?_
    exact RK.back (ih (k + 1) _ ⟨hg.trans hg2, by omega⟩ (by omega)) ⟨rfl, rfl, rfl, rfl, trivial⟩
  · refine RK.exit rfl ?_
    refine RK.seq ?_
    refine RK.region ?_
    refine RL.p rfl rfl ?_
    refine RL.done ?_
    refine RK.ret_of Tryz.func224 (res1 rfl rfl) ?_ _
    exact ⟨_, rfl, rfl, hg⟩
theorem checkC_ok (P : List Stp) (hP : OkP P) (ad : Option Addr) (c : Nat) (b1 : Nat) (w : World) (hv : SlS No w (.slice ad P.length c) P) (hb : Blk w b1 194 [.slice ad P.length c]) :
    Fx Tryz.prog 203 [.slice ad (P.length - 1) c, .func (.func 204) #[] #[pp b1]] w (fun u w' => u = .bool false ∧ Grow w w') := by
  refine enter Tryz.func203 rfl rfl rfl _ (Pick.sub (l := [0, 1]) (.cons rfl (.cons rfl .nil))) ?_
  refine RK.seq ?_
  refine RK.region ?_
  refine RL.p rfl rfl ?_
  refine RL.done ?_
  refine RK.seq ?_
  refine RK.region ?_
  iterate 2 refine RL.p rfl rfl ?_
  refine RL.op (.free rfl) rfl rfl (Does.call rfl e224 (checkI_ok P hP ad c b1 _ hv hb)) ?_
  rintro _ w2 ⟨rfl, hg2⟩
  iterate 2 refine RL.p rfl rfl ?_
  refine RL.done ?_
  refine RK.ret_of Tryz.func203 (res1 rfl rfl) ?_ _
  exact ⟨_, rfl, rfl, hg2⟩
theorem check_ok (P : List Stp) (hP : OkP P) (ad : Option Addr) (c : Nat) (hc : P.length ≤ c) (w : World) (hv : SlS No w (.slice ad P.length c) P) :
    Fx Tryz.prog 170 [.slice ad P.length c] w (fun u w' => u = .bool true ∧ Grow w w') := by
  have hle := hP.le
  have h1 := hP.one
  obtain ⟨s, hs⟩ : ∃ s, P[P.length - 1]? = some s := ⟨P[P.length - 1]'(by omega), List.getElem?_eq_getElem (by omega)⟩
  obtain ⟨hw4, hok⟩ := hP.at_ _ s hs
  have hok' : s = matchS := by rcases hok with ⟨h1, _⟩ | ⟨_, h1⟩; omega; exact h1
  obtain ⟨b2, o2, c2, he, _, _, hcl⟩ := hv.elem stC_len hs
  cases he
  refine enter Tryz.func170 rfl rfl rfl _ (Pick.sub (l := [0]) (.cons rfl .nil)) ?_
  refine RK.seq ?_
  refine RK.region ?_
  refine RL.op (.free rfl) rfl rfl (Does.box rfl) ?_
  rintro _ w1 ⟨b1, rfl, hn1⟩
  have hB1 := hn1.blk
  refine RL.p rfl rfl ?_
  refine RL.done ?_
  iterate 2 refine RK.seq ?_
  refine RK.region ?_
  refine RL.q (.free rfl) rfl rfl (Yld.load p194 rfl (at1 (hB1.cell rfl))) ?_
  refine RL.q (.free rfl) rfl rfl (Yld.lenSl u194 rfl) ?_
  iterate 2 refine RL.p rfl rfl ?_
  refine RL.knownF (d := 7) rfl rfl (decide_eq_false (by omega)) ?_
  refine RL.q (.yes rfl rfl rfl) rfl rfl (Yld.load p194 rfl (at1 (hB1.cell rfl))) ?_
  refine RL.q (.yes rfl rfl rfl) rfl rfl (Yld.lenSl u194 rfl) ?_
  refine RL.q (.yes rfl rfl rfl) rfl rfl (Yld.pure rfl) ?_
  refine RL.p rfl rfl ?_
  refine RL.done ?_
  refine RK.condF (hcF rfl (decide_eq_false (by omega))) ?_
  refine RK.skip ?_
  refine RK.seq ?_
  refine RK.region ?_
  refine RL.q (.free rfl) rfl rfl (Yld.load p194 rfl (at1 (hB1.cell rfl))) ?_
  refine RL.q (.free rfl) rfl rfl (Yld.lenSl u194 rfl) ?_
  refine RL.p rfl rfl ?_
  refine RL.re (d := 14) rfl rfl (sub_i64 (z := ((P.length - 1 : Nat) : Int)) (by omega) (by omega) (by omega)) ?_
  refine RL.p rfl rfl ?_
  refine RL.done ?_
  refine RK.seq ?_
  refine RK.drawM No [(0, false), (1, false), (2, false), (3, false), (4, true), (5, false), (6, false), (7, false), (8, false), (9, false), (10, false), (11, false), (12, false), (13, true), (14, false), (15, false)] [] mixed (by kernel_rfl) ?_
  refine DL.q rfl (.free rfl) rfl rfl rfl (Yld.load p194 rfl (atM (hB1.cell rfl) (fun h => h))) (Mod.drew _ _) ?_
  refine DL.p rfl rfl rfl ?_
  refine DL.qf rfl (.free rfl) rfl rfl (Yld.sliceHi u194 i226 (m := P.length - 1) rfl rfl (by omega)) ?_
  refine DL.p rfl rfl rfl ?_
  refine DL.op rfl (.free rfl) rfl rfl (Does.call rfl e203 (checkC_ok P hP _ c b1 _ (hv.mod (hn1.grow.trans (Mod.drew _ _))) (hB1.mod (Mod.drew No _) (fun h => h)))) ?_
  rintro _ w2 ⟨rfl, hg2⟩
  have hgd : Grow w1 w2 := (Mod.drew _ _).trans hg2
  refine ⟨hgd, ?_⟩
  iterate 2 refine DL.p rfl rfl rfl ?_
  refine DL.knownT (d := 21) rfl rfl (rfl) ?_
  refine DL.q rfl (.yes rfl rfl rfl) rfl rfl rfl (Yld.load p194 rfl (atM (hB1.cell rfl) (fun h => h))) (hgd) ?_
  refine DL.qf rfl (.yes rfl rfl rfl) rfl rfl (Yld.pure rfl) ?_
  refine DL.qf rfl (.yes rfl rfl rfl) rfl rfl (Yld.indexAddrN u194 i226 rfl rfl (by omega)) ?_
  refine DL.q rfl (.yes rfl rfl rfl) rfl rfl rfl (Yld.loadN (cs := stC s) a226 rfl (atNM (fun j u hj => (hn1.grow).cell (hcl j u hj) (fun h => h)) (fun h => h))) (hgd) ?_
  refine DL.q rfl (.yes rfl rfl rfl) rfl rfl rfl (Yld.load p194 rfl (atM (hB1.cell rfl) (fun h => h))) (hgd) ?_
  refine DL.q rfl (.yes rfl rfl rfl) rfl rfl rfl (Yld.lenSl u194 rfl) (hgd) ?_
  refine DL.op rfl (.yes rfl rfl rfl) rfl rfl (Does.call rfl e205 (right_ok P.length s true hw4 (.inr ⟨rfl, hok'⟩) _)) ?_
  rintro _ w3 ⟨rfl, hg3⟩
  refine ⟨hgd.trans hg3, ?_⟩
  iterate 2 refine DL.p rfl rfl rfl ?_
  refine DL.done ?_
  refine RK.ret_of Tryz.func170 (res1 rfl rfl) ?_ _
  exact ⟨_, rfl, rfl, (hn1.grow.trans hgd).trans hg3⟩
theorem lt64 {a b : Nat} (ha : a < 18446744073709551616) (hb : b < 18446744073709551616) : a ||| b < 18446744073709551616 := Nat.or_lt_two_pow (n := 64) ha hb
theorem sh64 {c : Nat} (hc : c < 64) : 1 <<< c < 18446744073709551616 := by
  rw [Nat.shiftLeft_eq, Nat.one_mul]; exact Nat.pow_lt_pow_right (m := c) (n := 64) (by omega) hc
theorem shr64 {a : Nat} (ha : a < 18446744073709551616) (c : Nat) : a >>> c < 18446744073709551616 := Nat.lt_of_le_of_lt (Nat.shiftRight_le a c) ha
abbrev PU (w : World) (bp been : Nat) : Prop := Blk w bp 22 [.int .u64 (been : Int)]
theorem come_ok (P : List Stp) (hP : OkP P) (v : Value) (bp : Nat) : ∀ (m at_ been : Nat), miss P.length been ≤ m → at_ < P.length → been < 18446744073709551616 → ∀ w, SlS (· = bp) w v P → PU w bp been → Fx Tryz.prog 206 [v, .int .i64 (at_ : Int), pp bp] w (fun u w' => ∃ r b' : Nat, u = .int .u64 (r : Int) ∧ r < 18446744073709551616 ∧ b' < 18446744073709551616 ∧ Come P at_ been r b' ∧ PU w' bp b' ∧ Mod (· = bp) w w') := by
  intro m
  induction m with
  | zero =>
    intro at_ been hm hat hbe w hv hb
    have hat2 : been.testBit at_ = true := by
      cases hbt : been.testBit at_ with
      | true => rfl
      | false =>
        have := miss_lt (n := P.length) (been := been) (b' := been ||| 1 <<< at_) hat hbt (fun v hv => bit_or.2 (.inl hv)) (bit_or.2 (.inr rfl))
        omega
    have hle := hP.le
    refine enter Tryz.func206 rfl rfl rfl _ (Pick.sub (l := [0, 1, 2]) (.cons rfl (.cons rfl (.cons rfl .nil)))) ?_
    refine RK.seq ?_
    refine RK.region ?_
    refine RL.p rfl rfl ?_
    refine RL.done ?_
    iterate 2 refine RK.seq ?_
    refine RK.region ?_
    iterate 2 refine RL.p rfl rfl ?_
    refine RL.q (.free rfl) rfl rfl (Yld.load p22 rfl (at1 (hb.cell rfl))) ?_
    refine RL.p rfl rfl ?_
    refine RL.q (.free rfl) rfl rfl (Yld.shr rfl rfl (by simp [IntKind.bits]; omega)) ?_
    refine RL.p rfl rfl ?_
    refine RL.re (d := 13) rfl rfl (congrArg (Value.int .u64) (Go.X.u64_and (b := 1) (shr64 hbe at_) (by decide))) ?_
    refine RL.p rfl rfl ?_
    refine RL.done ?_
    refine RK.condT (hcT rfl (decide_eq_true ((bit1I been at_).2 hat2))) ?_
    refine RK.seq ?_
    refine RK.region ?_
    refine RL.p rfl rfl ?_
    refine RL.done ?_
    refine RK.ret_of Tryz.func206 (res1 rfl rfl) ?_ _
    exact ⟨_, rfl, 0, been, rfl, by omega, hbe, Come.there hat2, hb, Mod.refl _ _⟩
  | succ m ihm =>
    intro at_ been hm hat hbe w hv hb
    have hle := hP.le
    obtain ⟨s, hs⟩ : ∃ s, P[at_]? = some s := ⟨P[at_]'hat, List.getElem?_eq_getElem hat⟩
    obtain ⟨hw4, hok⟩ := hP.at_ at_ s hs
    obtain ⟨b2, o2, c2, rfl, hb2, _, hcl⟩ := hv.elem stC_len hs
    obtain ⟨op, t, sa, sb⟩ := s
    obtain ⟨x0, x1, x2, x3, rfl⟩ := W4.four hw4
    refine enter Tryz.func206 rfl rfl rfl _ (Pick.sub (l := [0, 1, 2]) (.cons rfl (.cons rfl (.cons rfl .nil)))) ?_
    refine RK.seq ?_
    refine RK.region ?_
    refine RL.p rfl rfl ?_
    refine RL.done ?_
    iterate 2 refine RK.seq ?_
    refine RK.region ?_
    iterate 2 refine RL.p rfl rfl ?_
    refine RL.q (.free rfl) rfl rfl (Yld.load p22 rfl (at1 (hb.cell rfl))) ?_
    refine RL.p rfl rfl ?_
    refine RL.q (.free rfl) rfl rfl (Yld.shr rfl rfl (by simp [IntKind.bits]; omega)) ?_
    refine RL.p rfl rfl ?_
    refine RL.re (d := 13) rfl rfl (congrArg (Value.int .u64) (Go.X.u64_and (b := 1) (shr64 hbe at_) (by decide))) ?_
    refine RL.p rfl rfl ?_
    refine RL.done ?_
    first | refine RK.condD rfl (fun h14 => ?_) (fun h14 => ?_) | refine RK.condN rfl (fun h14 => ?_) (fun h14 => ?_) | refine RK.cond rfl (fun h14 => ?_) (fun h14 => ?_)
    · refine RK.seq ?_
      refine RK.region ?_
      refine RL.p rfl rfl ?_
      refine RL.done ?_
      refine RK.ret_of Tryz.func206 (res1 rfl rfl) ?_ _
      exact ⟨_, rfl, 0, been, rfl, by omega, hbe, Come.there ((bit1I been at_).1 h14), hb, Mod.refl _ _⟩
    · have hbt : been.testBit at_ = false := by
          cases hx : been.testBit at_ with
          | false => rfl
          | true => exact absurd ((bit1I been at_).2 hx) h14
      have hlt := miss_lt (n := P.length) (been := been) (b' := been ||| 1 <<< at_) hat hbt (fun v hv => bit_or.2 (.inl hv)) (bit_or.2 (.inr rfl))
      have hsh := sh64 (c := at_) (by omega)
      have hbe1 := lt64 hbe hsh
      refine RK.skip ?_
      refine RK.seq ?_
      refine RK.drawM (· = bp) [(0, false), (1, false), (3, false), (4, false), (2, true), (5, false), (6, false), (7, true)] [7] mixed (by kernel_rfl) ?_
      iterate 3 refine DL.p rfl rfl rfl ?_
      refine DL.qf rfl (.free rfl) rfl rfl (Yld.shl (a := 1) rfl rfl (by simp [IntKind.bits]; omega)) ?_
      refine DL.re (d := 19) rfl rfl (congrArg (Value.int .u64) (Go.X.wrap_u64 hsh)) ?_
      refine DL.lq rfl (.free rfl) rfl rfl (Yld.load p22 rfl (at1 (hb.cell rfl))) ?_
      refine DL.p rfl rfl rfl ?_
      refine DL.re (d := 20) rfl rfl (congrArg (Value.int .u64) (Go.X.u64_or hbe hsh)) ?_
      refine DL.p rfl rfl rfl ?_
      refine DL.opT rfl (.free rfl) rfl rfl (Does.store i22 rfl rfl rfl hb (.z)) ?_
      rintro _ w1 ⟨hb1, hm1, _⟩
      have hm01 : Mod (· = bp) w w1 := (Mod.drew _ _).trans hm1
      have hb1' : PU w1 bp (been ||| 1 <<< at_) := hb1
      have hv1 := hv.mod hm01
      refine DL.done ?_
      iterate 2 refine RK.seq ?_
      refine RK.region ?_
      iterate 2 refine RL.p rfl rfl ?_
      refine RL.q (.free rfl) rfl rfl (Yld.indexAddrN u194 i226 rfl rfl (hat)) ?_
      refine RL.q (.free rfl) rfl rfl (Yld.loadN (cs := stC ⟨op, [x0, x1, x2, x3], sa, sb⟩) a226 rfl (atN (fun j u hj => hm01.cell (hcl j u hj) hb2))) ?_
      refine RL.op (.free rfl) rfl rfl (Does.alloc i226) ?_
      rintro _ w2 ⟨b7, rfl, hn7⟩
      have hbpl := hb.lt
      have hs01 := hm01.size
      have hb7 := hn7.at_
      have hb7p : ¬ b7 = bp := by omega
      refine RL.op' (.free rfl) rfl (Does.storeN i226 rfl rfl rfl rfl hn7.blk (Nat.le_refl 7)) ?_
      rintro _ w3 ⟨hb3, hm3, _⟩
      have hB3 : Blk w3 b7 226 [.int .i64 (op : Int), .int .u64 (x0 : Int), .int .u64 (x1 : Int), .int .u64 (x2 : Int), .int .u64 (x3 : Int), .int .i64 (sa : Int), .int .i64 (sb : Int)] := hb3
      have hg3 : Grow w1 w3 := hn7.grow.then hm3 (fun y hy e => by have e' : y = b7 := e; omega)
      have hb3' := hb1'.mod hg3 (fun h => h)
      have hv3 := hv1.mod (Mod.any' hg3)
      have hm03 : Mod (· = bp) w w3 := hm01.trans (Mod.any' hg3)
      refine RL.done ?_
      refine RK.seq ?_
      refine RK.region ?_
      refine RL.q (.free rfl) rfl rfl (Yld.fieldAddr fo226_0 rfl) ?_
      refine RL.q (.free rfl) rfl rfl (Yld.load p3 rfl (at1 (hB3.cell rfl))) ?_
      refine RL.done ?_
      refine RK.block ?_
      refine RK.seq ?_
      refine RK.region ?_
      iterate 2 refine RL.p rfl rfl ?_
      refine RL.done ?_
      first | refine RK.condD rfl (fun h28 => ?_) (fun h28 => ?_) | refine RK.condN rfl (fun h28 => ?_) (fun h28 => ?_) | refine RK.cond rfl (fun h28 => ?_) (fun h28 => ?_)
      · have ho : op = 2 := by omega
        subst ho
        have hab : sa < P.length ∧ sb < P.length := by
            rcases hok with ⟨_, h1⟩ | ⟨_, h1⟩
            · rcases h1 with ⟨h2, _⟩ | ⟨_, h2, h3, _⟩ | ⟨h2, _⟩
              · cases h2
              · exact ⟨h2, h3⟩
              · cases h2
            · cases h1
        refine RK.seq ?_
        refine RK.drawM (· = bp) [(0, false), (1, false), (2, false), (3, false), (5, false), (6, false), (7, false), (8, false), (4, true), (9, true), (10, false), (11, false)] [] mixed (by kernel_rfl) ?_
        refine DL.p rfl rfl rfl ?_
        refine DL.qf rfl (.free rfl) rfl rfl (Yld.fieldAddr fo226_2 rfl) ?_
        refine DL.q rfl (.free rfl) rfl rfl rfl (Yld.load p3 rfl (atM (hB3.cell rfl) (hb7p))) (Mod.drew _ _) ?_
        iterate 2 refine DL.p rfl rfl rfl ?_
        refine DL.qf rfl (.free rfl) rfl rfl (Yld.fieldAddr fo226_3 rfl) ?_
        refine DL.q rfl (.free rfl) rfl rfl rfl (Yld.load p3 rfl (atM (hB3.cell rfl) (hb7p))) (Mod.drew _ _) ?_
        refine DL.p rfl rfl rfl ?_
        refine DL.op rfl (.free rfl) rfl rfl (Does.call rfl e206 (ihm sa (been ||| 1 <<< at_) (by omega) hab.1 hbe1 _ (hv3.mod (Mod.drew _ _)) (hb3'.mod (Mod.drew No _) (fun h => h)))) ?_
        rintro _ w4 ⟨r1, b1, rfl, hr1, hb1l, hc1, hb4, hm4⟩
        have hm34 : Mod (· = bp) w3 w4 := (Mod.drew _ _).trans hm4
        refine ⟨hm34, ?_⟩
        have hlt2 := miss_lt (n := P.length) (been := been) (b' := b1) hat hbt (fun v hv => hc1.sub v (bit_or.2 (.inl hv))) (hc1.sub _ (bit_or.2 (.inr rfl)))
        refine DL.op rfl (.free rfl) rfl rfl (Does.call rfl e206 (ihm sb b1 (by omega) hab.2 hb1l _ (hv3.mod hm34) hb4)) ?_
        rintro _ w5 ⟨r2, b5, rfl, hr2, hb5l, hc2, hb5, hm5⟩
        refine ⟨hm34.trans hm5, ?_⟩
        refine DL.p rfl rfl rfl ?_
        refine DL.re (d := 40) rfl rfl (congrArg (Value.int .u64) (Go.X.u64_or hr1 hr2)) ?_
        refine DL.p rfl rfl rfl ?_
        refine DL.done ?_
        refine RK.ret_of Tryz.func206 (res1 rfl rfl) ?_ _
        exact ⟨_, rfl, r1 ||| r2, b5, rfl, lt64 hr1 hr2, hb5l, Come.split hbt hs rfl hc1 hc2, hb5, (hm03.trans hm34).trans hm5⟩
      · refine RK.seq ?_
        refine RK.region ?_
        iterate 2 refine RL.p rfl rfl ?_
        refine RL.done ?_
        first | refine RK.condD rfl (fun h41 => ?_) (fun h41 => ?_) | refine RK.condN rfl (fun h41 => ?_) (fun h41 => ?_) | refine RK.cond rfl (fun h41 => ?_) (fun h41 => ?_)
        · have ho : op = 3 := by omega
          subst ho
          have hab : sa < P.length := by
              rcases hok with ⟨_, h1⟩ | ⟨_, h1⟩
              · rcases h1 with ⟨h2, _⟩ | ⟨h2, _⟩ | ⟨_, h2, _⟩
                · cases h2
                · cases h2
                · exact h2
              · cases h1
          refine RK.seq ?_
          refine RK.region ?_
          refine RL.p rfl rfl ?_
          refine RL.q (.free rfl) rfl rfl (Yld.fieldAddr fo226_2 rfl) ?_
          refine RL.q (.free rfl) rfl rfl (Yld.load p3 rfl (at1 (hB3.cell rfl))) ?_
          refine RL.p rfl rfl ?_
          refine RL.op (.free rfl) rfl rfl (Does.call rfl e206 (ihm sa (been ||| 1 <<< at_) (by omega) hab hbe1 _ hv3 hb3')) ?_
          rintro _ w4 ⟨r1, b1, rfl, hr1, hb1l, hc1, hb4, hm4⟩
          refine RL.p rfl rfl ?_
          refine RL.done ?_
          refine RK.ret_of Tryz.func206 (res1 rfl rfl) ?_ _
          exact ⟨_, rfl, r1, b1, rfl, hr1, hb1l, Come.jump hbt hs rfl hc1, hb4, hm03.trans hm4⟩
        · refine RK.skip ?_
          refine RK.inBlock ?_
          refine RK.seq ?_
          refine RK.region ?_
          refine RL.p rfl rfl ?_
          refine RL.q (.free rfl) rfl rfl (Yld.shl (a := 1) rfl rfl (by simp [IntKind.bits]; omega)) ?_
          refine RL.re (d := 49) rfl rfl (congrArg (Value.int .u64) (Go.X.wrap_u64 hsh)) ?_
          refine RL.p rfl rfl ?_
          refine RL.done ?_
          refine RK.ret_of Tryz.func206 (res1 rfl rfl) ?_ _
          exact ⟨_, rfl, 1 <<< at_, been ||| 1 <<< at_, rfl, hsh, hbe1, Come.leaf hbt ⟨_, hs, by show op ≠ 2; omega, by show op ≠ 3; omega⟩, hb3', hm03⟩
theorem start_ok (P : List Stp) (hP : OkP P) (H : List Nat → Nat → Prop) (v : Value) (w : World) (hv : SlS No w v P) : Fx Tryz.prog 171 [v] w (fun u w' => ∃ r : Nat, u = .int .u64 (r : Int) ∧ r < 18446744073709551616 ∧ Now P H 0 r ∧ Grow w w') := by
  have h1 := hP.one
  refine enter Tryz.func171 rfl rfl rfl _ (Pick.sub (l := [0]) (.cons rfl .nil)) ?_
  refine RK.seq ?_
  refine RK.region ?_
  refine RL.p rfl rfl ?_
  refine RL.done ?_
  refine RK.seq ?_
  refine RK.region ?_
  refine RL.op (.free rfl) rfl rfl (Does.alloc i22) ?_
  rintro _ w1 ⟨b3, rfl, hn3⟩
  refine RL.op' (.free rfl) rfl (Does.store i22 rfl rfl rfl hn3.blk (.z)) ?_
  rintro _ w2 ⟨hb2, hm2, _⟩
  have hb3 := hn3.at_
  have hg2 : Grow w w2 := hn3.grow.then hm2 (fun y hy e => by have e' : y = b3 := e; omega)
  refine RL.done ?_
  refine RK.seq ?_
  refine RK.region ?_
  refine RL.p rfl rfl ?_
  refine RL.op (.free rfl) rfl rfl (Does.call rfl e206 (come_ok P hP v b3 _ 0 0 (Nat.le_refl _) h1 (by omega) _ (hv.pass (by omega) hg2 (fun b e => .inr (by have e' : b = b3 := e; omega))) hb2)) ?_
  rintro _ w3 ⟨r, b', rfl, hr, hb', hc, hb3', hm3⟩
  refine RL.p rfl rfl ?_
  refine RL.done ?_
  refine RK.ret_of Tryz.func171 (res1 rfl rfl) ?_ _
  exact ⟨_, rfl, r, rfl, hr, Now.start hc, hg2.then hm3 (fun y hy e => by have e' : y = b3 := e; omega)⟩
end Go.Proofs.YtbcbfjnlnmhpbaaGreat
set_option linter.unusedVariables false
set_option linter.unusedSimpArgs false
set_option maxHeartbeats 1000000
set_option maxRecDepth 100000
namespace Go.Proofs.YtbcbfjnlnmhpbaaGreat
open Go Go.X Go.Rex
theorem next_steps (P : List Stp) (hP : OkP P) (H : List Nat → Nat → Prop) (kk m c : Nat) (hc : c < 256) (hm : m < 18446744073709551616) (hH : ∀ t, H t kk ↔ inB t c = true) (hnow : Now P H kk m) (v : Value) (w : World) (hv : SlS No w v P) : Fx Tryz.prog 172 [v, .int .u64 (m : Int), .int .u8 (c : Int)] w (fun u w' => ∃ r : Nat, u = .int .u64 (r : Int) ∧ r < 18446744073709551616 ∧ Now P H (kk + 1) r ∧ Grow w w') := by
  have hle := hP.le
  obtain ⟨ad, cp, rfl⟩ := hv.shape
  have e1 : IntKind.u8.wrap ((c : Int).tdiv 64) = ((c / 64 : Nat) : Int) := by
    have e2 : (c : Int).tdiv 64 = ((c / 64 : Nat) : Int) := by rw [Int.tdiv_eq_ediv_of_nonneg (by omega)]; omega
    rw [e2]; exact Go.X.wrap_u8 (by omega)
  have e3 : (c : Int).tmod 64 = ((c % 64 : Nat) : Int) := by rw [Int.tmod_eq_emod_of_nonneg (by omega)]; omega
  refine enter Tryz.func172 rfl rfl rfl _ (Pick.sub (l := [0, 1, 2]) (.cons rfl (.cons rfl (.cons rfl .nil)))) ?_
  refine RK.seq ?_
  refine RK.region ?_
  refine RL.p rfl rfl ?_
  refine RL.done ?_
  refine RK.seq ?_
  refine RK.region ?_
  refine RL.op (.free rfl) rfl rfl (Does.alloc i22) ?_
  rintro _ w1 ⟨b7, rfl, hn7⟩
  refine RL.op' (.free rfl) rfl (Does.store i22 rfl rfl rfl hn7.blk (.z)) ?_
  rintro _ w2 ⟨hb2, hm2, _⟩
  have hb7 := hn7.at_
  have hg2 : Grow w w2 := hn7.grow.then hm2 (fun y hy e => by have e' : y = b7 := e; omega)
  have hv2 : SlS (· = b7) w2 (.slice ad P.length cp) P := hv.pass (by omega) hg2 (fun b e => .inr (by have e' : b = b7 := e; omega))
  refine RL.p rfl rfl ?_
  refine RL.done ?_
  iterate 2 refine RK.seq ?_
  refine RK.region ?_
  refine RL.p rfl rfl ?_
  refine RL.q (.free rfl) rfl rfl (Yld.lenSl u194 rfl) ?_
  refine RL.p rfl rfl ?_
  refine RL.done ?_
  refine RK.block ?_
  refine RK.loop (fun s : Nat × Nat × Nat => [(0, .slice ad P.length cp), (1, .int .u64 (m : Int)), (2, .int .u8 (c : Int)), (7, pp b7), (8, .int .u64 (s.2.2 : Int)), (11, .slice ad P.length cp), (12, .int .i64 (P.length : Int)), (13, .int .i64 (s.1 : Int))]) (fun s w' => s.1 ≤ P.length ∧ PU w' b7 s.2.1 ∧ s.2.1 < 18446744073709551616 ∧ s.2.2 < 18446744073709551616 ∧ NextI P H m kk s.1 s.2.1 s.2.2 ∧ Mod (· = b7) w2 w') (fun s => P.length - s.1) (0, 0, 0) ⟨rfl, rfl, rfl, rfl, rfl, rfl, rfl, rfl, trivial⟩ ⟨by simp, hb2, by simp, by simp, NextI.zero, Mod.refl _ _⟩ (fun s w3 hI ih => ?_)
  obtain ⟨i, been, to⟩ := s
  obtain ⟨hi, hb3, hbe, hto, hN, hm3⟩ := hI
  simp only at hi hb3 hbe hto hN
  refine RK.seq ?_
  refine RK.region ?_
  refine RL.p rfl rfl ?_
  refine RL.done ?_
  refine RK.seq ?_
  first | refine RK.condD rfl (fun h14 => ?_) (fun h14 => ?_) | refine RK.condN rfl (fun h14 => ?_) (fun h14 => ?_) | refine RK.cond rfl (fun h14 => ?_) (fun h14 => ?_)
  · have hil : i < P.length := by simp only at h14; omega
    obtain ⟨s, hs⟩ : ∃ s, P[i]? = some s := ⟨P[i]'hil, List.getElem?_eq_getElem hil⟩
    obtain ⟨hw4, hok⟩ := hP.at_ i s hs
    obtain ⟨b2, o2, c2, he, hb2n, _, hcl⟩ := hv2.elem stC_len hs
    cases he
    obtain ⟨op, t, sa, sb⟩ := s
    obtain ⟨x0, x1, x2, x3, hte⟩ := W4.four hw4
    simp only at hte
    subst hte
    refine RK.skip ?_
    refine RK.seq ?_
    refine RK.block ?_
    refine RK.seq ?_
    refine RK.region ?_
    refine RL.p rfl rfl ?_
    refine RL.q (.free rfl) rfl rfl (Yld.indexAddrN u194 i226 rfl rfl (hil)) ?_
    refine RL.q (.free rfl) rfl rfl (Yld.loadN (cs := stC ⟨op, [x0, x1, x2, x3], sa, sb⟩) a226 rfl (atN (fun j u hj => hm3.cell (hcl j u hj) hb2n))) ?_
    refine RL.op (.free rfl) rfl rfl (Does.alloc i226) ?_
    rintro _ w4 ⟨b10, rfl, hn10⟩
    refine RL.p rfl rfl ?_
    refine RL.op' (.free rfl) rfl (Does.storeN i226 rfl rfl rfl rfl hn10.blk (Nat.le_refl 7)) ?_
    rintro _ w5 ⟨hb5, hm5, _⟩
    have hb7l := hb3.lt
    have hb10 := hn10.at_
    have hB5 : Blk w5 b10 226 [.int .i64 (op : Int), .int .u64 (x0 : Int), .int .u64 (x1 : Int), .int .u64 (x2 : Int), .int .u64 (x3 : Int), .int .i64 (sa : Int), .int .i64 (sb : Int)] := hb5
    have hg5 : Grow w3 w5 := hn10.grow.then hm5 (fun y hy e => by have e' : y = b10 := e; omega)
    have hb5' := hb3.mod hg5 (fun h => h)
    have hm25 : Mod (· = b7) w2 w5 := hm3.trans (Mod.any' hg5)
    obtain ⟨y, hy⟩ : ∃ y, [x0, x1, x2, x3][c / 64]? = some y := ⟨_, List.getElem?_eq_getElem (by show c / 64 < 4; omega)⟩
    have hyl := hw4.2 y (List.mem_of_getElem? hy)
    have hcy : w5.cell? ⟨b10, 0 + 1 + c / 64 * 1, none⟩ = some (.int .u64 (y : Int)) := by
        rw [Nat.mul_one]; exact blk_set4s hB5 (c / 64) _ (by rw [List.getElem?_map, hy]; rfl)
    have hin : inB [x0, x1, x2, x3] c = y.testBit (c % 64) := by unfold inB; rw [hy]; rfl
    refine RL.done ?_
    refine RK.seq ?_
    refine RK.region ?_
    iterate 2 refine RL.p rfl rfl ?_
    refine RL.q (.free rfl) rfl rfl (Yld.shr rfl rfl (by simp [IntKind.bits]; omega)) ?_
    refine RL.p rfl rfl ?_
    refine RL.re (d := 21) rfl rfl (congrArg (Value.int .u64) (Go.X.u64_and (b := 1) (shr64 hm i) (by decide))) ?_
    iterate 2 refine RL.p rfl rfl ?_
    first | refine RL.splitD (d := 23) rfl rfl (fun h23 => ?_) (fun h23 => ?_) | refine RL.splitN (d := 23) rfl rfl (fun h23 => ?_) (fun h23 => ?_) | refine RL.split (d := 23) rfl rfl (fun h23 => ?_) (fun h23 => ?_)
    · have hbit := (bit1I m i).1 h23
      refine RL.q (.yes rfl rfl rfl) rfl rfl (Yld.fieldAddr fo226_0 rfl) ?_
      refine RL.q (.yes rfl rfl rfl) rfl rfl (Yld.load p3 rfl (at1 (hB5.cell rfl))) ?_
      refine RL.q (.yes rfl rfl rfl) rfl rfl (Yld.pure rfl) ?_
      iterate 2 refine RL.p rfl rfl ?_
      first | refine RL.splitD (d := 28) rfl rfl (fun h28 => ?_) (fun h28 => ?_) | refine RL.splitN (d := 28) rfl rfl (fun h28 => ?_) (fun h28 => ?_) | refine RL.split (d := 28) rfl rfl (fun h28 => ?_) (fun h28 => ?_)
      · have ho : op = 1 := by have h := h28; omega
        subst ho
        have hil1 : i + 1 < P.length := by
            rcases hok with ⟨h1, _⟩ | ⟨_, h1⟩
            · exact h1
            · cases h1
        refine RL.q (.yes rfl rfl rfl) rfl rfl (Yld.pure rfl) ?_
        refine RL.q (.yes rfl rfl rfl) rfl rfl (Yld.quo rfl rfl (by omega)) ?_
        refine RL.re (d := 30) rfl rfl (congrArg (Value.int .u8) e1) ?_
        refine RL.q (.yes rfl rfl rfl) rfl rfl (Yld.fieldAddr fo226_1 rfl) ?_
        refine RL.q (.yes rfl rfl rfl) rfl rfl (Yld.indexArr Tryz.underlying177 i22 rfl rfl (by omega)) ?_
        refine RL.q (.yes rfl rfl rfl) rfl rfl (Yld.load p22 rfl (at1 (hcy))) ?_
        refine RL.q (.yes rfl rfl rfl) rfl rfl (Yld.pure rfl) ?_
        refine RL.q (.yes rfl rfl rfl) rfl rfl (Yld.rem rfl rfl (by omega)) ?_
        refine RL.re (d := 35) rfl rfl (congrArg (Value.int .u8) e3) ?_
        refine RL.q (.yes rfl rfl rfl) rfl rfl (Yld.shr rfl rfl (by simp [IntKind.bits]; omega)) ?_
        refine RL.q (.yes rfl rfl rfl) rfl rfl (Yld.pure rfl) ?_
        refine RL.re (d := 37) rfl rfl (congrArg (Value.int .u64) (Go.X.u64_and (b := 1) (shr64 hyl (c % 64)) (by decide))) ?_
        refine RL.q (.yes rfl rfl rfl) rfl rfl (Yld.pure rfl) ?_
        refine RL.p rfl rfl ?_
        refine RL.done ?_
        first | refine RK.condD rfl (fun h39 => ?_) (fun h39 => ?_) | refine RK.condN rfl (fun h39 => ?_) (fun h39 => ?_) | refine RK.cond rfl (fun h39 => ?_) (fun h39 => ?_)
        · have hin1 := hin.trans ((bit1I y (c % 64)).1 h39)
          refine RK.region ?_
          iterate 4 refine RL.p rfl rfl ?_
          refine RL.re (d := 43) rfl rfl (succ_i64 (by omega)) ?_
          refine RL.op (.free rfl) rfl rfl (Does.call rfl e206 (come_ok P hP _ b7 _ (i + 1) been (Nat.le_refl _) hil1 hbe _ (hv2.mod hm25) hb5')) ?_
          rintro _ w6 ⟨r, b', rfl, hr, hb', hcome, hb6, hm6⟩
          refine RL.p rfl rfl ?_
          refine RL.re (d := 45) rfl rfl (congrArg (Value.int .u64) (Go.X.u64_or hto hr)) ?_
          refine RL.p rfl rfl ?_
          refine RL.done ?_
          refine RK.inBlock ?_
          refine RK.region ?_
          refine RL.p rfl rfl ?_
          refine RL.re (d := 46) rfl rfl (succ_i64 (by omega)) ?_
          refine RL.p rfl rfl ?_
          refine RL.done ?_
          exact RK.back (ih (i + 1, b', to ||| r) _ ⟨by simp only; omega, hb6, hb', lt64 hto hr, hN.yes hbit hs rfl ((hH _).2 hin1) hcome, hm25.trans hm6⟩ (by simp only; omega)) ⟨rfl, rfl, rfl, rfl, rfl, rfl, rfl, rfl, trivial⟩
        · refine RK.skip ?_
          refine RK.inBlock ?_
          refine RK.region ?_
          refine RL.p rfl rfl ?_
          refine RL.re (d := 46) rfl rfl (succ_i64 (by omega)) ?_
          refine RL.p rfl rfl ?_
          refine RL.done ?_
          exact RK.back (ih (i + 1, been, to) _ ⟨by simp only; omega, hb5', hbe, hto, hN.no fun st h1 h2 h3 h4 => by
              rw [hs] at h2; cases h2
              have h5 := (hH _).1 h4
              rw [hin] at h5
              exact h39 ((bit1I y (c % 64)).2 h5)
            , hm25⟩ (by simp only; omega)) ⟨rfl, rfl, rfl, rfl, rfl, rfl, rfl, rfl, trivial⟩
      · iterate 10 refine RL.no (.no rfl rfl rfl rfl) rfl rfl ?_
        refine RL.p rfl rfl ?_
        refine RL.done ?_
        refine RK.condF (hcF rfl (rfl)) ?_
        refine RK.skip ?_
        refine RK.inBlock ?_
        refine RK.region ?_
        refine RL.p rfl rfl ?_
        refine RL.re (d := 46) rfl rfl (succ_i64 (by omega)) ?_
        refine RL.p rfl rfl ?_
        refine RL.done ?_
        exact RK.back (ih (i + 1, been, to) _ ⟨by simp only; omega, hb5', hbe, hto, hN.no fun st h1 h2 h3 h4 => by
            rw [hs] at h2; cases h2
            have h := h28; simp only at h3; omega
          , hm25⟩ (by simp only; omega)) ⟨rfl, rfl, rfl, rfl, rfl, rfl, rfl, rfl, trivial⟩
    · iterate 3 refine RL.no (.no rfl rfl rfl rfl) rfl rfl ?_
      iterate 2 refine RL.p rfl rfl ?_
      iterate 10 refine RL.no (.no rfl rfl rfl rfl) rfl rfl ?_
      refine RL.p rfl rfl ?_
      refine RL.done ?_
      refine RK.condF (hcF rfl (rfl)) ?_
      refine RK.skip ?_
      refine RK.inBlock ?_
      refine RK.region ?_
      refine RL.p rfl rfl ?_
      refine RL.re (d := 46) rfl rfl (succ_i64 (by omega)) ?_
      refine RL.p rfl rfl ?_
      refine RL.done ?_
      exact RK.back (ih (i + 1, been, to) _ ⟨by simp only; omega, hb5', hbe, hto, hN.no fun st h1 h2 h3 h4 => h23 ((bit1I m i).2 h1), hm25⟩ (by simp only; omega)) ⟨rfl, rfl, rfl, rfl, rfl, rfl, rfl, rfl, trivial⟩
  · have hie : i = P.length := by simp only at h14; omega
    subst hie
    refine RK.exit rfl ?_
    refine RK.seq ?_
    refine RK.region ?_
    iterate 2 refine RL.p rfl rfl ?_
    refine RL.done ?_
    refine RK.ret_of Tryz.func172 (res1 rfl rfl) ?_ _
    exact ⟨_, rfl, to, rfl, hto, hnow.next hN, hg2.then hm3 (fun y hy e => by have e' : y = b7 := e; omega)⟩
theorem scanMatch_ok (x : Rx) (ht : Tr false x) (hsz : sz x + 1 ≤ 40) (v : Value) (s : ByteArray) (hs : s.size ≤ 9223372036854775806) (w : World) (hv : SlS No w v (whole x)) (hcap : ∃ ad c, v = .slice ad (whole x).length c ∧ (whole x).length ≤ c) : Fx Tryz.prog 141 [v, .string s] w (fun u w' => u = .bool (takes x s) ∧ Grow w w') := by
  have hP := whole_ok ht hsz
  have hw := tr_wf x false ht
  obtain ⟨P, hPe⟩ : ∃ P, whole x = P := ⟨_, rfl⟩
  have hle := hP.le
  rw [hPe] at hP hv hcap hle
  obtain ⟨ad, cp, rfl, hc⟩ := hcap
  have hend : ∀ k m, Now P (HS s) k m → ((∃ c st, m.testBit c = true ∧ P[c]? = some st ∧ st.op = 4) ↔ Lg (HS s) x true 0 k) := fun k m hm => by rw [← hPe] at hm ⊢; exact whole_match hw.1 hw.2.1 hm
  refine enter Tryz.func141 rfl rfl rfl _ (Pick.sub (l := [0, 1]) (.cons rfl (.cons rfl .nil))) ?_
  refine RK.seq ?_
  refine RK.region ?_
  refine RL.p rfl rfl ?_
  refine RL.done ?_
  iterate 2 refine RK.seq ?_
  refine RK.region ?_
  refine RL.p rfl rfl ?_
  refine RL.op (.free rfl) rfl rfl (Does.call rfl e170 (check_ok P hP ad cp hc _ hv)) ?_
  rintro _ w1 ⟨rfl, hg1⟩
  refine RL.p rfl rfl ?_
  refine RL.done ?_
  refine RK.condF (hcF rfl (rfl)) ?_
  refine RK.skip ?_
  refine RK.seq ?_
  refine RK.region ?_
  refine RL.p rfl rfl ?_
  refine RL.op (.free rfl) rfl rfl (Does.call rfl e171 (start_ok P hP (HS s) _ _ (hv.mod hg1))) ?_
  rintro _ w2 ⟨r, rfl, hr, hn0, hg2⟩
  have hg02 := hg1.trans hg2
  refine RL.p rfl rfl ?_
  refine RL.done ?_
  iterate 2 refine RK.seq ?_
  refine RK.region ?_
  refine RL.p rfl rfl ?_
  refine RL.q (.free rfl) rfl rfl (Yld.lenStr u9 rfl) ?_
  refine RL.p rfl rfl ?_
  refine RL.done ?_
  refine RK.block ?_
  refine RK.loop (fun t : Nat × Nat => [(0, .slice ad P.length cp), (1, .string s), (5, .int .u64 (t.2 : Int)), (15, .int .i64 (s.size : Int)), (16, .int .i64 (t.1 : Int))]) (fun t w' => t.1 ≤ s.size ∧ t.2 < 18446744073709551616 ∧ Now P (HS s) t.1 t.2 ∧ Grow w w') (fun t => s.size - t.1) (0, r) ⟨rfl, rfl, rfl, rfl, rfl, trivial⟩ ⟨by simp, hr, hn0, hg02⟩ (fun t w3 hI ih => ?_)
  obtain ⟨k, m⟩ := t
  obtain ⟨hk, hm, hn, hg⟩ := hI
  simp only at hk hm hn
  refine RK.seq ?_
  refine RK.region ?_
  refine RL.p rfl rfl ?_
  refine RL.done ?_
  refine RK.seq ?_
  first | refine RK.condD rfl (fun h17 => ?_) (fun h17 => ?_) | refine RK.condN rfl (fun h17 => ?_) (fun h17 => ?_) | refine RK.cond rfl (fun h17 => ?_) (fun h17 => ?_)
  · have hks : k < s.size := by simp only at h17; omega
    refine RK.skip ?_
    refine RK.seq ?_
    refine RK.block ?_
    refine RK.seq ?_
    refine RK.region ?_
    iterate 2 refine RL.p rfl rfl ?_
    refine RL.done ?_
    refine RK.region ?_
    iterate 4 refine RL.p rfl rfl ?_
    refine RL.q (.free rfl) rfl rfl (Yld.idxStrN u9 rfl rfl (hks)) ?_
    refine RL.op (.free rfl) rfl rfl (Does.call rfl e172 (next_steps P hP (HS s) k m (b8 s k) (b8_lt s k) hm (fun t => ⟨fun h => h.2, fun h => ⟨hks, h⟩⟩) hn _ _ (hv.mod hg))) ?_
    rintro _ w4 ⟨r', rfl, hr', hn', hg4⟩
    refine RL.p rfl rfl ?_
    refine RL.done ?_
    refine RK.inBlock ?_
    refine RK.region ?_
    refine RL.p rfl rfl ?_
    refine RL.re (d := 25) rfl rfl (succ_i64 (by omega)) ?_
    refine RL.p rfl rfl ?_
    refine RL.done ?_
    exact RK.back (ih (k + 1, r') _ ⟨by simp only; omega, hr', hn', hg.trans hg4⟩ (by simp only; omega)) ⟨rfl, rfl, rfl, rfl, rfl, trivial⟩
  · have hke : k = s.size := by simp only at h17; omega
    subst hke
    have he := hend _ _ hn
    refine RK.exit rfl ?_
    iterate 2 refine RK.seq ?_
    refine RK.region ?_
    refine RL.p rfl rfl ?_
    refine RL.q (.free rfl) rfl rfl (Yld.lenSl u194 rfl) ?_
    refine RL.p rfl rfl ?_
    refine RL.done ?_
    refine RK.block ?_
    refine RK.loop (fun i : Nat => [(5, .int .u64 (m : Int)), (26, .slice ad P.length cp), (27, .int .i64 (P.length : Int)), (28, .int .i64 (i : Int))]) (fun i w' => i ≤ P.length ∧ Grow w w' ∧ ∀ c st, c < i → m.testBit c = true → P[c]? = some st → st.op ≠ 4) (fun i => P.length - i) 0 ⟨rfl, rfl, rfl, rfl, trivial⟩ ⟨by omega, hg, fun c st h => by omega⟩ (fun i w4 hI2 ih2 => ?_)
    obtain ⟨hi, hg4, hno⟩ := hI2
    refine RK.seq ?_
    refine RK.region ?_
    refine RL.p rfl rfl ?_
    refine RL.done ?_
    refine RK.seq ?_
    first | refine RK.condD rfl (fun h29 => ?_) (fun h29 => ?_) | refine RK.condN rfl (fun h29 => ?_) (fun h29 => ?_) | refine RK.cond rfl (fun h29 => ?_) (fun h29 => ?_)
    · obtain ⟨st, hst⟩ : ∃ st, P[i]? = some st := ⟨P[i]'(by omega), List.getElem?_eq_getElem (by omega)⟩
      obtain ⟨b2, o2, c2, hce, _, _, hcl⟩ := hv.elem stC_len hst
      cases hce
      refine RK.skip ?_
      refine RK.seq ?_
      refine RK.block ?_
      refine RK.seq ?_
      refine RK.region ?_
      refine RL.p rfl rfl ?_
      refine RL.q (.free rfl) rfl rfl (Yld.indexAddrN u194 i226 rfl rfl (by omega)) ?_
      refine RL.q (.free rfl) rfl rfl (Yld.loadN (cs := stC st) a226 rfl (atN (fun j u hj => hg4.cell (hcl j u hj) (fun h => h)))) ?_
      refine RL.op (.free rfl) rfl rfl (Does.alloc i226) ?_
      rintro _ w5 ⟨b8, rfl, hn8⟩
      refine RL.p rfl rfl ?_
      refine RL.op' (.free rfl) rfl (Does.storeN i226 rfl rfl rfl rfl hn8.blk (Nat.le_refl 7)) ?_
      rintro _ w6 ⟨hb6, hm6, _⟩
      have hB6 : Blk w6 b8 226 (stC st) := hb6
      have hg6 : Grow w4 w6 := hn8.grow.then hm6 (fun y hy e => by have e' : y = b8 := e; have := hn8.at_; omega)
      refine RL.done ?_
      refine RK.seq ?_
      refine RK.region ?_
      iterate 2 refine RL.p rfl rfl ?_
      refine RL.q (.free rfl) rfl rfl (Yld.shr rfl rfl (by simp [IntKind.bits]; omega)) ?_
      refine RL.p rfl rfl ?_
      refine RL.re (d := 36) rfl rfl (congrArg (Value.int .u64) (Go.X.u64_and (b := 1) (shr64 hm i) (by decide))) ?_
      iterate 2 refine RL.p rfl rfl ?_
      first | refine RL.splitD (d := 38) rfl rfl (fun h38 => ?_) (fun h38 => ?_) | refine RL.splitN (d := 38) rfl rfl (fun h38 => ?_) (fun h38 => ?_) | refine RL.split (d := 38) rfl rfl (fun h38 => ?_) (fun h38 => ?_)
      · have hbit := (bit1I m i).1 h38
        refine RL.q (.yes rfl rfl rfl) rfl rfl (Yld.fieldAddr fo226_0 rfl) ?_
        refine RL.q (.yes rfl rfl rfl) rfl rfl (Yld.load p3 rfl (at1 (hB6.cell rfl))) ?_
        refine RL.q (.yes rfl rfl rfl) rfl rfl (Yld.pure rfl) ?_
        refine RL.p rfl rfl ?_
        refine RL.done ?_
        first | refine RK.condD rfl (fun h42 => ?_) (fun h42 => ?_) | refine RK.condN rfl (fun h42 => ?_) (fun h42 => ?_) | refine RK.cond rfl (fun h42 => ?_) (fun h42 => ?_)
        · have ho : st.op = 4 := by have h := h42; omega
          refine RK.seq ?_
          refine RK.region ?_
          refine RL.p rfl rfl ?_
          refine RL.done ?_
          refine RK.ret_of Tryz.func141 (res1 rfl rfl) ?_ _
          exact ⟨_, rfl, congrArg _ ((takes_iff x s).2 (he.1 ⟨i, st, hbit, hst, ho⟩)).symm, hg4.trans hg6⟩
        · refine RK.skip ?_
          refine RK.inBlock ?_
          refine RK.region ?_
          refine RL.p rfl rfl ?_
          refine RL.re (d := 43) rfl rfl (succ_i64 (by omega)) ?_
          refine RL.p rfl rfl ?_
          refine RL.done ?_
          exact RK.back (ih2 (i + 1) _ ⟨by omega, hg4.trans hg6, fun c st' hc h1 h2 h3 => by
              by_cases e : c = i
              · subst e; rw [hst] at h2; cases h2; have h := h42; omega
              · exact hno c st' (by omega) h1 h2 h3⟩ (by omega)) ⟨rfl, rfl, rfl, rfl, trivial⟩
      · iterate 3 refine RL.no (.no rfl rfl rfl rfl) rfl rfl ?_
        refine RL.p rfl rfl ?_
        refine RL.done ?_
        refine RK.condF (hcF rfl (rfl)) ?_
        refine RK.skip ?_
        refine RK.inBlock ?_
        refine RK.region ?_
        refine RL.p rfl rfl ?_
        refine RL.re (d := 43) rfl rfl (succ_i64 (by omega)) ?_
        refine RL.p rfl rfl ?_
        refine RL.done ?_
        exact RK.back (ih2 (i + 1) _ ⟨by omega, hg4.trans hg6, fun c st' hc h1 h2 h3 => by
            by_cases e : c = i
            · subst e; exact h38 ((bit1I m c).2 h1)
            · exact hno c st' (by omega) h1 h2 h3⟩ (by omega)) ⟨rfl, rfl, rfl, rfl, trivial⟩
    · refine RK.exit rfl ?_
      refine RK.seq ?_
      refine RK.region ?_
      refine RL.p rfl rfl ?_
      refine RL.done ?_
      refine RK.ret_of Tryz.func141 (res1 rfl rfl) ?_ _
      exact ⟨_, rfl, congrArg _ (by
          cases hx : takes x s with
          | false => rfl
          | true =>
            obtain ⟨c, st, h1, h2, h3⟩ := he.2 ((takes_iff x s).1 hx)
            exact absurd h3 (hno c st (by have := (List.getElem?_eq_some_iff.1 h2).1; omega) h1 h2)
        ), hg4⟩
end Go.Proofs.YtbcbfjnlnmhpbaaGreat
set_option linter.unusedVariables false
set_option linter.unusedSimpArgs false
namespace Go.X
open Go Go.RowKit
section
variable {P : Program} {n : Nat} {e : Env} {w : World}
end
end Go.X
set_option linter.unusedVariables false
set_option linter.unusedSimpArgs false
set_option maxHeartbeats 800000
set_option maxRecDepth 100000
namespace Go.Proofs.YtbcbfjnlnmhpbaaGreat
open Go Go.X
def withinS (n lo hi : Int) : Int := lo + (if n.tmod (hi - lo + 1) < 0 then n.tmod (hi - lo + 1) + hi - lo + 1 else n.tmod (hi - lo + 1))
theorem tmod_range (n : Int) {b : Int} (hb : 0 < b) : -b < n.tmod b ∧ n.tmod b < b := ⟨Int.lt_tmod_of_pos n hb, Int.tmod_lt_of_pos n hb⟩
theorem within_range (n : Int) {lo hi : Int} (h : lo ≤ hi) : lo ≤ withinS n lo hi ∧ withinS n lo hi ≤ hi := by
  have := tmod_range n (b := hi - lo + 1) (by omega)
  unfold withinS
  split <;> omega
def inS (n lo hi : Int) : Int := if lo ≤ n ∧ n ≤ hi then n else withinS n lo hi
theorem in_range (n : Int) {lo hi : Int} (h : lo ≤ hi) : lo ≤ inS n lo hi ∧ inS n lo hi ≤ hi := by
  unfold inS
  split
  · assumption
  · exact within_range n h
def nmL : List ByteArray := [⟨#[115, 101, 118]⟩, ⟨#[106, 111, 98]⟩, ⟨#[104, 111, 115, 116]⟩, ⟨#[95, 120]⟩, ⟨#[90, 111, 110, 101, 57]⟩]
def vlL : List ByteArray := [⟨#[97]⟩, ⟨#[98]⟩, ⟨#[99, 114, 105, 116]⟩, ⟨#[119, 97, 114, 110]⟩, ⟨#[97, 98]⟩, ⟨#[0, 255]⟩, ⟨#[97, 98, 97, 98, 97, 98, 97, 98, 97, 98, 97, 98, 97, 98, 97, 98, 97, 98, 97, 98, 97, 98, 97, 98]⟩]
def nmS (n : Int) : ByteArray := nmL.getD (inS n 0 4).toNat ByteArray.empty
def vlS (n : Int) : ByteArray := vlL.getD (inS n 0 6).toNat ByteArray.empty
theorem nm_mem (n : Int) : nmS n ∈ nmL := by
  have := in_range n (lo := 0) (hi := 4) (by omega)
  unfold nmS
  have h : (inS n 0 4).toNat < nmL.length := by show _ < 5; omega
  rw [List.getD_eq_getElem?_getD, List.getElem?_eq_getElem h]
  exact List.getElem_mem _
theorem vl_mem (n : Int) : vlS n ∈ vlL := by
  have := in_range n (lo := 0) (hi := 6) (by omega)
  unfold vlS
  have h : (inS n 0 6).toNat < vlL.length := by show _ < 7; omega
  rw [List.getD_eq_getElem?_getD, List.getElem?_eq_getElem h]
  exact List.getElem_mem _
end Go.Proofs.YtbcbfjnlnmhpbaaGreat
set_option linter.unusedVariables false
set_option linter.unusedSimpArgs false
set_option maxHeartbeats 800000
set_option maxRecDepth 100000
namespace Go.Proofs.YtbcbfjnlnmhpbaaGreat
open Go Go.X
def getL (ls : List Lab) (nm : ByteArray) : ByteArray := ((ls.find? fun x => decide (x.name = nm)).map (·.value)).getD ByteArray.empty
theorem getL_at {ls : List Lab} {nm : ByteArray} {k : Nat} {x : Lab} (hx : ls[k]? = some x) (h : x.name = nm) (hno : ∀ i y, i < k → ls[i]? = some y → y.name ≠ nm) : getL ls nm = x.value := by
  unfold getL
  have : ls.find? (fun x => decide (x.name = nm)) = some x := by
    rw [List.find?_eq_some_iff_getElem]
    obtain ⟨hk, e⟩ := List.getElem?_eq_some_iff.1 hx
    exact ⟨by simp [h], k, hk, e, fun j hj => by simpa using hno j _ hj (List.getElem?_eq_getElem (by omega))⟩
  rw [this]; rfl
theorem getL_none {ls : List Lab} {nm : ByteArray} (hno : ∀ y ∈ ls, y.name ≠ nm) : getL ls nm = ByteArray.empty := by
  unfold getL
  rw [List.find?_eq_none.2 fun y hy => by simpa using hno y hy]
  rfl
def labOf (n : Int) : Lab := ⟨nmS (withinS n 0 4), vlS (withinS (n.tdiv 5) 0 6)⟩
def labStep (out : List Lab) (n : Int) : List Lab := if getL out (labOf n).name = ByteArray.empty then out ++ [labOf n] else out
theorem vlL_ok : ∀ s ∈ vlL, valS s = true ∧ s ≠ ByteArray.empty := by
  intro s hs
  simp only [vlL, List.mem_cons, List.not_mem_nil, or_false] at hs
  rcases hs with rfl | rfl | rfl | rfl | rfl | rfl | rfl <;> exact ⟨by kernel_rfl, by decide⟩
structure Raw (ls : List Lab) : Prop where
  nd : (ls.map (·.name)).Nodup
  nm : ∀ x ∈ ls, x.name ∈ nmL
  vl : ∀ x ∈ ls, x.value ∈ vlL
theorem labOf_ok (n : Int) : (labOf n).name ∈ nmL ∧ (labOf n).value ∈ vlL := ⟨nm_mem _, vl_mem _⟩
theorem getL_empty {ls : List Lab} (h : Raw ls) {nm : ByteArray} (he : getL ls nm = ByteArray.empty) : nm ∉ ls.map (·.name) := by
  intro hm
  obtain ⟨x, hx, rfl⟩ := List.mem_map.1 hm
  unfold getL at he
  cases hf : ls.find? (fun y => decide (y.name = x.name)) with
  | none => have := List.find?_eq_none.1 hf x hx; simp at this
  | some y =>
    rw [hf] at he
    have hy := List.mem_of_find?_eq_some hf
    exact (vlL_ok _ (h.vl y hy)).2 he
theorem Raw.step {ls : List Lab} (h : Raw ls) (n : Int) : Raw (labStep ls n) := by
  unfold labStep
  split
  · rename_i he
    have hn := getL_empty h he
    refine ⟨?_, fun x hx => ?_, fun x hx => ?_⟩
    · rw [List.map_append, List.nodup_append]
      exact ⟨h.nd, by simp, fun a ha b hb e => hn (by simp at hb; subst hb; exact e ▸ ha)⟩
    · rcases List.mem_append.1 hx with h1 | h1
      · exact h.nm x h1
      · simp at h1; subst h1; exact (labOf_ok n).1
    · rcases List.mem_append.1 hx with h1 | h1
      · exact h.vl x h1
      · simp at h1; subst h1; exact (labOf_ok n).2
  · exact h
theorem Raw.nil : Raw [] := ⟨by simp, by simp, by simp⟩
end Go.Proofs.YtbcbfjnlnmhpbaaGreat
set_option linter.unusedVariables false
set_option linter.unusedSimpArgs false
set_option maxHeartbeats 800000
set_option maxRecDepth 100000
namespace Go.Proofs.YtbcbfjnlnmhpbaaGreat
open Go Go.X
theorem bits1_ok (b : Nat) (w : World) : Fx Tryz.prog 79 [.float .f64 b] w (fun v w' => v = .int .u64 (bitsS b) ∧ w = w') := by
  refine enter Tryz.func79 rfl rfl rfl _ (Pick.sub (l := [0]) (.cons rfl .nil)) ?_
  refine RK.seq ?_
  refine RK.region ?_
  refine RL.p rfl rfl ?_
  refine RL.done ?_
  iterate 2 refine RK.seq ?_
  refine RK.region ?_
  iterate 3 refine RL.p rfl rfl ?_
  refine RL.done ?_
  first | refine RK.condD rfl (fun h5 => ?_) (fun h5 => ?_) | refine RK.condN rfl (fun h5 => ?_) (fun h5 => ?_) | refine RK.cond rfl (fun h5 => ?_) (fun h5 => ?_)
  · refine RK.seq ?_
    refine RK.region ?_
    refine RL.p rfl rfl ?_
    refine RL.done ?_
    refine RK.ret_of Tryz.func79 (res1 rfl rfl) ?_ _
    exact ⟨_, rfl, by unfold bitsS nanS; rw [show Ieee.double.order b b = FloatKind.f64.format.order b b from rfl]; simp_all, rfl⟩
  · refine RK.skip ?_
    refine RK.seq ?_
    refine RK.region ?_
    refine RL.p rfl rfl ?_
    refine RL.q (.free rfl) rfl rfl (Yld.callx rfl (fun w => x122 _ w)) ?_
    refine RL.p rfl rfl ?_
    refine RL.done ?_
    refine RK.ret_of Tryz.func79 (res1 rfl rfl) ?_ _
    exact ⟨_, rfl, by unfold bitsS nanS; rw [show Ieee.double.order b b = FloatKind.f64.format.order b b from rfl]; simp_all, rfl⟩
theorem find_self (ls : List Lab) : findS [ls] ls = some 0 := by simp [findS]
section
variable (ls : List Lab) (his : isS ls = true) (u v : Nat)
def vS1 : St := (postS (St.new 3) ls u).1
def vS2 : St := (postS (vS1 ls u) ls v).1
def vS3 : St := (resolveS (vS2 ls u v) 1).1
def vS4 : St := (postS (vS3 ls u v) ls u).1
include his
theorem v1 : postS (St.new 3) ls u = (vS1 ls u, 1, true, 0) ∧ (vS1 ls u).al = [(1, ls, canS u)] ∧ (vS1 ls u).last = 1 ∧ (vS1 ls u).out = [1] ∧ (vS1 ls u).most = 3 := by
  have hf : fullS (St.new 3).most (St.new 3).last (St.new 3).out = false := by decide
  have hn : findS ((St.new 3).al.map (·.2.1)) ls = none := rfl
  have e : postS (St.new 3) ls u = (⟨(St.new 3).most, (St.new 3).last + 1, (St.new 3).out ++ [(St.new 3).last + 1], (St.new 3).al ++ [((St.new 3).last + 1, ls, canS u)], putM (St.new 3).has ((St.new 3).last + 1) ls, addRows (St.new 3).rows ((St.new 3).last + 1) ls⟩, (St.new 3).last + 1, true, 0) := by
    unfold postS; rw [if_neg (by simp [his]), hn]; simp [hf]
  unfold vS1
  rw [e]
  exact ⟨rfl, rfl, rfl, rfl, rfl⟩
theorem v2 : postS (vS1 ls u) ls v = (vS2 ls u v, 1, false, 0) ∧ (vS2 ls u v).al = [(1, ls, canS v)] ∧ (vS2 ls u v).last = 1 ∧ (vS2 ls u v).out = [1] ∧ (vS2 ls u v).most = 3 := by
  obtain ⟨_, h1, h2, h3, h4⟩ := v1 ls his u
  have hn : findS ((vS1 ls u).al.map (·.2.1)) ls = some 0 := by rw [h1]; exact find_self ls
  have e : postS (vS1 ls u) ls v = ({ vS1 ls u with al := (vS1 ls u).al.modify 0 fun a => (a.1, a.2.1, canS v) }, (((vS1 ls u).al[0]?).map (·.1)).getD 0, false, 0) := by
    unfold postS; rw [if_neg (by simp [his]), hn]
  unfold vS2
  rw [e]
  refine ⟨by rw [h1]; rfl, by simp only; rw [h1]; rfl, h2, h3, h4⟩
theorem v3 : resolveS (vS2 ls u v) 1 = (vS3 ls u v, 0) ∧ (vS3 ls u v).al = [] ∧ (vS3 ls u v).last = 1 ∧ (vS3 ls u v).out = [] ∧ (vS3 ls u v).most = 3 := by
  obtain ⟨_, h1, h2, h3, h4⟩ := v2 ls his u v
  have hp : placeS (vS2 ls u v) 1 = some 0 := by unfold placeS; rw [h1]; rfl
  have e : resolveS (vS2 ls u v) 1 = ({ vS2 ls u v with al := (vS2 ls u v).al.eraseIdx 0, out := giveS (vS2 ls u v).out 1, has := cutM (vS2 ls u v).has 1, rows := dropRows (vS2 ls u v).rows 1 ((lookM (vS2 ls u v).has 1).getD []) }, 0) := by
    unfold resolveS; rw [hp]
  unfold vS3
  rw [e]
  refine ⟨rfl, by simp only; rw [h1]; rfl, h2, ?_, h4⟩
  simp only
  rw [h3]
  have : ∀ x, x ∉ giveS [1] 1 := fun x hx => by
    unfold giveS at hx
    rw [if_pos (by decide), mem_cutRow] at hx
    simp at hx
  exact List.eq_nil_iff_forall_not_mem.2 this
theorem v4 : postS (vS3 ls u v) ls u = (vS4 ls u v, 2, true, 0) ∧ (vS4 ls u v).al = [(2, ls, canS u)] := by
  obtain ⟨_, h1, h2, h3, h4⟩ := v3 ls his u v
  have hf : fullS (vS3 ls u v).most (vS3 ls u v).last (vS3 ls u v).out = false := by rw [h2, h3, h4]; decide
  have hn : findS ((vS3 ls u v).al.map (·.2.1)) ls = none := by rw [h1]; rfl
  have e : postS (vS3 ls u v) ls u = (⟨(vS3 ls u v).most, (vS3 ls u v).last + 1, (vS3 ls u v).out ++ [(vS3 ls u v).last + 1], (vS3 ls u v).al ++ [((vS3 ls u v).last + 1, ls, canS u)], putM (vS3 ls u v).has ((vS3 ls u v).last + 1) ls, addRows (vS3 ls u v).rows ((vS3 ls u v).last + 1) ls⟩, (vS3 ls u v).last + 1, true, 0) := by
    unfold postS; rw [if_neg (by simp [his]), hn]; simp [hf]
  unfold vS4
  rw [e]
  refine ⟨by rw [h2]; rfl, by simp only; rw [h1, h2]; rfl⟩
theorem v5 : resolveS (vS4 ls u v) 1 = (vS4 ls u v, 5) := by
  obtain ⟨_, h1⟩ := v4 ls his u v
  have hp : placeS (vS4 ls u v) 1 = none := by unfold placeS; rw [h1]; rfl
  unfold resolveS; rw [hp]
end
end Go.Proofs.YtbcbfjnlnmhpbaaGreat
set_option linter.unusedVariables false
set_option linter.unusedSimpArgs false
set_option maxHeartbeats 800000
set_option maxRecDepth 100000
namespace Go.Proofs.YtbcbfjnlnmhpbaaGreat
open Go Go.X
end Go.Proofs.YtbcbfjnlnmhpbaaGreat
set_option linter.unusedVariables false
set_option linter.unusedSimpArgs false
set_option maxHeartbeats 800000
set_option maxRecDepth 100000
namespace Go.Proofs.YtbcbfjnlnmhpbaaGreat
open Go Go.X
theorem get1_ok (w : World) (b : Nat) (nm : ByteArray) (hb : Blk w b 9 [.string nm]) (x : Lab) : Fx Tryz.prog 168 [.agg #[.string x.name, .string x.value], pp b] w (fun u w' => u = .bool (decide (x.name = nm)) ∧ Grow w w') := by
  refine enter Tryz.func168 rfl rfl rfl _ (Pick.sub (l := [0, 1]) (.cons rfl (.cons rfl .nil))) ?_
  refine RK.seq ?_
  refine RK.region ?_
  refine RL.op (.free rfl) rfl rfl (Does.box rfl) ?_
  rintro _ w1 ⟨bx, rfl, hbx⟩
  refine RL.p rfl rfl ?_
  refine RL.done ?_
  refine RK.seq ?_
  refine RK.region ?_
  refine RL.q (.free rfl) rfl rfl (Yld.fieldAddr fo38_0 rfl) ?_
  refine RL.q (.free rfl) rfl rfl (Yld.load p9 rfl (at1 (hbx.blk.cell rfl))) ?_
  refine RL.q (.free rfl) rfl rfl (Yld.load p9 rfl (at1 ((hb.mod hbx.grow (fun h => h)).cell rfl))) ?_
  iterate 2 refine RL.p rfl rfl ?_
  refine RL.done ?_
  refine RK.ret_of Tryz.func168 (res1 rfl rfl) ?_ _
  exact ⟨_, rfl, rfl, hbx.grow⟩
theorem getFirst_ok (M : Nat → Prop) (ls : List Lab) (v : Value) (nm : ByteArray) (b4 : Nat) (w : World) (hv : SlL M w v ls) (hb : Blk w b4 9 [.string nm]) :
    Fx Tryz.prog 167 [v, .func (.func 168) #[] #[pp b4]] w (fun u w' => u = .int .i64 (optI (ls.findIdx? fun x => decide (x.name = nm))) ∧ Grow w w') := by
  obtain ⟨ad, c, rfl⟩ := hv.shape
  have hbig := hv.big
  refine enter Tryz.func167 rfl rfl rfl _ (Pick.sub (l := [0, 1]) (.cons rfl (.cons rfl .nil))) ?_
  refine RK.seq ?_
  refine RK.region ?_
  refine RL.p rfl rfl ?_
  refine RL.done ?_
  iterate 2 refine RK.seq ?_
  refine RK.region ?_
  refine RL.p rfl rfl ?_
  refine RL.q (.free rfl) rfl rfl (Yld.lenSl u39 rfl) ?_
  refine RL.p rfl rfl ?_
  refine RL.done ?_
  refine RK.block ?_
  refine RK.loop (fun k : Nat => [(0, .slice ad ls.length c), (1, .func (.func 168) #[] #[pp b4]), (7, .int .i64 ls.length), (8, .int .i64 k)]) (fun k w' => Grow w w' ∧ k ≤ ls.length ∧ ∀ (i : Nat) (a : Lab), i < k → ls[i]? = some a → a.name ≠ nm) (fun k => ls.length - k) 0 ⟨rfl, rfl, rfl, rfl, trivial⟩ ⟨Mod.refl _ _, by omega, fun i a h => by omega⟩ (fun k w' hI ih => ?_)
  obtain ⟨hg, hk, hno⟩ := hI
  refine RK.seq ?_
  refine RK.region ?_
  refine RL.p rfl rfl ?_
  refine RL.done ?_
  refine RK.seq ?_
  first | refine RK.condD rfl (fun h9 => ?_) (fun h9 => ?_) | refine RK.condN rfl (fun h9 => ?_) (fun h9 => ?_) | refine RK.cond rfl (fun h9 => ?_) (fun h9 => ?_)
  · obtain ⟨x, hx⟩ : ∃ x, ls[k]? = some x := ⟨ls[k]'(by omega), List.getElem?_eq_getElem (by omega)⟩
    obtain ⟨b1, o1, c1', he1, _, _, hc1⟩ := hv.elem labC_len hx
    cases he1
    refine RK.skip ?_
    refine RK.seq ?_
    refine RK.block ?_
    refine RK.seq ?_
    refine RK.region ?_
    iterate 2 refine RL.p rfl rfl ?_
    refine RL.done ?_
    refine RK.seq ?_
    refine RK.region ?_
    iterate 3 refine RL.p rfl rfl ?_
    refine RL.q (.free rfl) rfl rfl (Yld.indexAddrN u39 i38 rfl rfl (by omega)) ?_
    refine RL.q (.free rfl) rfl rfl (Yld.loadN (cs := [.string x.name, .string x.value]) a38 rfl (atN (fun j u hj => hg.cell (hc1 j u hj) (fun h => h)))) ?_
    refine RL.op (.free rfl) rfl rfl (Does.callv rfl rfl e168 (get1_ok _ b4 nm (hb.mod hg (fun h => h)) x)) ?_
    rintro _ w2 ⟨rfl, hg2⟩
    refine RL.done ?_
    first | refine RK.condD rfl (fun h16 => ?_) (fun h16 => ?_) | refine RK.condN rfl (fun h16 => ?_) (fun h16 => ?_) | refine RK.cond rfl (fun h16 => ?_) (fun h16 => ?_)
    · refine RK.seq ?_
      refine RK.region ?_
      iterate 2 refine RL.p rfl rfl ?_
      refine RL.done ?_
      refine RK.ret_of Tryz.func167 (res1 rfl rfl) ?_ _
      exact ⟨_, rfl, congrArg _ (by
          have : ls.findIdx? (fun x => decide (x.name = nm)) = some k := by
            rw [List.findIdx?_eq_some_iff_getElem]
            refine ⟨by omega, ?_, fun j hj => ?_⟩
            · simp [(List.getElem?_eq_some_iff.1 hx).2, h16]
            · simpa using hno j (ls[j]'(by omega)) hj (List.getElem?_eq_getElem (by omega))
          rw [this]; rfl), hg.trans hg2⟩
    · refine RK.skip ?_
      refine RK.inBlock ?_
      refine RK.region ?_
      refine RL.p rfl rfl ?_
      refine RL.re (d := 18) rfl rfl (succ_i64 (by omega)) ?_
      refine RL.p rfl rfl ?_
      refine RL.done ?_
      exact RK.back (ih (k + 1) _ ⟨hg.trans hg2, by omega, fun i a' hi ha' => by by_cases e : i = k; (subst e; rw [hx] at ha'; cases ha'; exact h16); exact hno i a' (by omega) ha'⟩ (by omega)) ⟨rfl, rfl, rfl, rfl, trivial⟩
  · refine RK.exit rfl ?_
    refine RK.seq ?_
    refine RK.region ?_
    refine RL.p rfl rfl ?_
    refine RL.done ?_
    refine RK.ret_of Tryz.func167 (res1 rfl rfl) ?_ _
    exact ⟨_, rfl, congrArg _ (by
        have : ls.findIdx? (fun x => decide (x.name = nm)) = none := by
          rw [List.findIdx?_eq_none_iff]
          intro x hx
          obtain ⟨i, hi⟩ := List.getElem?_of_mem hx
          have hil := (List.getElem?_eq_some_iff.1 hi).1
          simpa using hno i x (by omega) hi
        rw [this]; rfl), hg⟩
theorem labelsGet_ok (M : Nat → Prop) (ls : List Lab) (v : Value) (nm : ByteArray) (w : World) (hv : SlL M w v ls) : Fx Tryz.prog 139 [v, .string nm] w (fun u w' => u = .string (getL ls nm) ∧ Grow w w') := by
  obtain ⟨ad, c, rfl⟩ := hv.shape
  have hbig := hv.big
  cases hf : ls.findIdx? (fun x => decide (x.name = nm)) with
  | none =>
    have e : getL ls nm = ByteArray.empty := getL_none fun y hy => by simpa using List.findIdx?_eq_none_iff.1 hf y hy
    refine enter Tryz.func139 rfl rfl rfl _ (Pick.sub (l := [0, 1]) (.cons rfl (.cons rfl .nil))) ?_
    refine RK.seq ?_
    refine RK.region ?_
    refine RL.op (.free rfl) rfl rfl (Does.box rfl) ?_
    rintro _ w1 ⟨b1, rfl, hn1⟩
    have hcall := getFirst_ok M ls _ nm b1 w1 (hv.mod (Mod.any' hn1.grow)) hn1.blk
    rw [hf] at hcall
    refine RL.p rfl rfl ?_
    refine RL.done ?_
    refine RK.seq ?_
    refine RK.region ?_
    iterate 2 refine RL.p rfl rfl ?_
    refine RL.op (.free rfl) rfl rfl (Does.call rfl e167 (hcall)) ?_
    rintro _ w2 ⟨rfl, hg2⟩
    refine RL.p rfl rfl ?_
    refine RL.done ?_
    iterate 2 refine RK.seq ?_
    refine RK.region ?_
    iterate 2 refine RL.p rfl rfl ?_
    refine RL.done ?_
    refine RK.condT (hcT rfl (rfl)) ?_
    refine RK.seq ?_
    refine RK.region ?_
    refine RL.p rfl rfl ?_
    refine RL.done ?_
    refine RK.ret_of Tryz.func139 (res1 rfl rfl) ?_ _
    exact ⟨_, rfl, by rw [e]; rfl, hn1.grow.trans hg2⟩
  | some k =>
    obtain ⟨hk, hp, hlt⟩ := List.findIdx?_eq_some_iff_getElem.1 hf
    have hx : ls[k]? = some ls[k] := List.getElem?_eq_getElem hk
    have e : getL ls nm = ls[k].value := getL_at hx (by simpa using hp) fun i y hi hy => by
      have := hlt i hi
      rw [(List.getElem?_eq_some_iff.1 hy).2] at this
      simpa using this
    generalize ls[k] = x at *
    refine enter Tryz.func139 rfl rfl rfl _ (Pick.sub (l := [0, 1]) (.cons rfl (.cons rfl .nil))) ?_
    refine RK.seq ?_
    refine RK.region ?_
    refine RL.op (.free rfl) rfl rfl (Does.box rfl) ?_
    rintro _ w1 ⟨b1, rfl, hn1⟩
    have hcall := getFirst_ok M ls _ nm b1 w1 (hv.mod (Mod.any' hn1.grow)) hn1.blk
    rw [hf] at hcall
    obtain ⟨b2, o2, c2', he2, _, _, hc2⟩ := hv.elem labC_len hx
    cases he2
    refine RL.p rfl rfl ?_
    refine RL.done ?_
    refine RK.seq ?_
    refine RK.region ?_
    iterate 2 refine RL.p rfl rfl ?_
    refine RL.op (.free rfl) rfl rfl (Does.call rfl e167 (hcall)) ?_
    rintro _ w2 ⟨rfl, hg2⟩
    have hg02 := hn1.grow.trans hg2
    have hk' : optI (some k) = (k : Int) := rfl
    rw [hk']
    refine RL.p rfl rfl ?_
    refine RL.done ?_
    iterate 2 refine RK.seq ?_
    refine RK.region ?_
    iterate 2 refine RL.p rfl rfl ?_
    refine RL.done ?_
    refine RK.condF (hcF rfl (decide_eq_false (by omega))) ?_
    refine RK.skip ?_
    refine RK.seq ?_
    refine RK.region ?_
    iterate 2 refine RL.p rfl rfl ?_
    refine RL.q (.free rfl) rfl rfl (Yld.indexAddrN u39 i38 rfl rfl (by omega)) ?_
    refine RL.q (.free rfl) rfl rfl (Yld.fieldAddr fo38_1 rfl) ?_
    refine RL.q (.free rfl) rfl rfl (Yld.load p9 rfl (at1 (hg02.cell (hc2 1 _ rfl) (fun h => h)))) ?_
    refine RL.p rfl rfl ?_
    refine RL.done ?_
    refine RK.ret_of Tryz.func139 (res1 rfl rfl) ?_ _
    exact ⟨_, rfl, by rw [e], hg02⟩
end Go.Proofs.YtbcbfjnlnmhpbaaGreat
set_option linter.unusedVariables false
set_option linter.unusedSimpArgs false
set_option maxHeartbeats 800000
set_option maxRecDepth 100000
namespace Go.Proofs.YtbcbfjnlnmhpbaaGreat
open Go Go.X
structure Mt where
  kind : Int
  name : ByteArray
  value : ByteArray
  deriving DecidableEq, Inhabited
def mtC (m : Mt) : List Value := [.int .i64 m.kind, .string m.name, .string m.value]
theorem mtC_len (m : Mt) : (mtC m).length = 3 := rfl
abbrev SlM (M : Nat → Prop) (w : World) (v : Value) (ms : List Mt) : Prop := Sl M w v 3 ms.length (ms.flatMap mtC)
def likeS (m : Mt) : Bool := decide (m.kind = 3 ∨ m.kind = 4)
theorem like_ok (m : Mt) (w : World) : Fx Tryz.prog 158 [.agg #[.int .i64 m.kind, .string m.name, .string m.value]] w (fun u w' => u = .bool (likeS m) ∧ Grow w w') := by
  refine enter Tryz.func158 rfl rfl rfl _ (Pick.sub (l := [0]) (.cons rfl .nil)) ?_
  refine RK.seq ?_
  refine RK.region ?_
  refine RL.op (.free rfl) rfl rfl (Does.box rfl) ?_
  rintro _ w1 ⟨b1, rfl, hn1⟩
  refine RL.p rfl rfl ?_
  refine RL.done ?_
  refine RK.seq ?_
  refine RK.region ?_
  refine RL.q (.free rfl) rfl rfl (Yld.fieldAddr fo108_0 rfl) ?_
  refine RL.q (.free rfl) rfl rfl (Yld.load p3 rfl (at1 (hn1.blk.cell rfl))) ?_
  iterate 2 refine RL.p rfl rfl ?_
  first | refine RL.splitD (d := 6) rfl rfl (fun h6 => ?_) (fun h6 => ?_) | refine RL.splitN (d := 6) rfl rfl (fun h6 => ?_) (fun h6 => ?_) | refine RL.split (d := 6) rfl rfl (fun h6 => ?_) (fun h6 => ?_)
  · iterate 3 refine RL.no (.no rfl rfl rfl rfl) rfl rfl ?_
    iterate 2 refine RL.p rfl rfl ?_
    refine RL.done ?_
    refine RK.ret_of Tryz.func158 (res1 rfl rfl) ?_ _
    exact ⟨_, rfl, congrArg _ (by unfold likeS; simp_all), hn1.grow⟩
  · refine RL.q (.yes rfl rfl rfl) rfl rfl (Yld.fieldAddr fo108_0 rfl) ?_
    refine RL.q (.yes rfl rfl rfl) rfl rfl (Yld.load p3 rfl (at1 (hn1.blk.cell rfl))) ?_
    refine RL.q (.yes rfl rfl rfl) rfl rfl (Yld.pure rfl) ?_
    iterate 2 refine RL.p rfl rfl ?_
    refine RL.done ?_
    refine RK.ret_of Tryz.func158 (res1 rfl rfl) ?_ _
    exact ⟨_, rfl, congrArg _ (by unfold likeS; simp_all), hn1.grow⟩
def isV (m : Mt) : Bool := nameS m.name && decide ((m.kind = 1 ∨ m.kind = 2) ∧ m.value.size ≤ 24)
theorem isV_ok (m : Mt) (hk : likeS m = false) (w : World) : Fx Tryz.prog 130 [.agg #[.int .i64 m.kind, .string m.name, .string m.value]] w (fun u w' => u = .bool (isV m) ∧ Grow w w') := by
  refine enter Tryz.func130 rfl rfl rfl _ (Pick.sub (l := [0]) (.cons rfl .nil)) ?_
  refine RK.seq ?_
  refine RK.region ?_
  refine RL.op (.free rfl) rfl rfl (Does.box rfl) ?_
  rintro _ w1 ⟨b1, rfl, hn1⟩
  refine RL.p rfl rfl ?_
  refine RL.done ?_
  iterate 2 refine RK.seq ?_
  refine RK.region ?_
  refine RL.q (.free rfl) rfl rfl (Yld.fieldAddr fo108_1 rfl) ?_
  refine RL.q (.free rfl) rfl rfl (Yld.load p9 rfl (at1 (hn1.blk.cell rfl))) ?_
  refine RL.op (.free rfl) rfl rfl (Does.call rfl e157 (name_ok _ _)) ?_
  rintro _ _ ⟨rfl, rfl⟩
  refine RL.p rfl rfl ?_
  refine RL.done ?_
  first | refine RK.condD rfl (fun h8 => ?_) (fun h8 => ?_) | refine RK.condN rfl (fun h8 => ?_) (fun h8 => ?_) | refine RK.cond rfl (fun h8 => ?_) (fun h8 => ?_)
  · refine RK.seq ?_
    refine RK.region ?_
    refine RL.p rfl rfl ?_
    refine RL.done ?_
    refine RK.ret_of Tryz.func130 (res1 rfl rfl) ?_ _
    exact ⟨_, rfl, congrArg _ (by unfold isV; simp at h8; rw [h8]; rfl), hn1.grow⟩
  · refine RK.skip ?_
    iterate 2 refine RK.seq ?_
    refine RK.region ?_
    refine RL.q (.free rfl) rfl rfl (Yld.loadN (cs := [.int .i64 m.kind, .string m.name, .string m.value]) a108 rfl (atN (fun j u hj => by rw [Nat.zero_add]; exact hn1.blk.cell' hj))) ?_
    refine RL.op (.free rfl) rfl rfl (Does.call rfl e158 (like_ok m _)) ?_
    rintro _ w2 ⟨rfl, hg2⟩
    refine RL.done ?_
    refine RK.condF (hcF rfl (hk)) ?_
    refine RK.skip ?_
    refine RK.seq ?_
    refine RK.region ?_
    refine RL.q (.free rfl) rfl rfl (Yld.fieldAddr fo108_0 rfl) ?_
    refine RL.q (.free rfl) rfl rfl (Yld.load p3 rfl (at1 ((hn1.blk.mod hg2 (fun h => h)).cell rfl))) ?_
    iterate 2 refine RL.p rfl rfl ?_
    first | refine RL.splitD (d := 21) rfl rfl (fun h21 => ?_) (fun h21 => ?_) | refine RL.splitN (d := 21) rfl rfl (fun h21 => ?_) (fun h21 => ?_) | refine RL.split (d := 21) rfl rfl (fun h21 => ?_) (fun h21 => ?_)
    · iterate 3 refine RL.no (.no rfl rfl rfl rfl) rfl rfl ?_
      iterate 2 refine RL.p rfl rfl ?_
      refine RL.q (.yes rfl rfl rfl) rfl rfl (Yld.fieldAddr fo108_2 rfl) ?_
      refine RL.q (.yes rfl rfl rfl) rfl rfl (Yld.load p9 rfl (at1 ((hn1.blk.mod hg2 (fun h => h)).cell rfl))) ?_
      refine RL.q (.yes rfl rfl rfl) rfl rfl (Yld.lenStr u9 rfl) ?_
      refine RL.q (.yes rfl rfl rfl) rfl rfl (Yld.pure rfl) ?_
      iterate 2 refine RL.p rfl rfl ?_
      refine RL.done ?_
      refine RK.ret_of Tryz.func130 (res1 rfl rfl) ?_ _
      exact ⟨_, rfl, congrArg _ (by unfold isV; simp at h8; rw [h8, Bool.eq_iff_iff]; simp_all <;> omega), hn1.grow.trans hg2⟩
    · refine RL.q (.yes rfl rfl rfl) rfl rfl (Yld.fieldAddr fo108_0 rfl) ?_
      refine RL.q (.yes rfl rfl rfl) rfl rfl (Yld.load p3 rfl (at1 ((hn1.blk.mod hg2 (fun h => h)).cell rfl))) ?_
      refine RL.q (.yes rfl rfl rfl) rfl rfl (Yld.pure rfl) ?_
      iterate 2 refine RL.p rfl rfl ?_
      first | refine RL.splitD (d := 26) rfl rfl (fun h26 => ?_) (fun h26 => ?_) | refine RL.splitN (d := 26) rfl rfl (fun h26 => ?_) (fun h26 => ?_) | refine RL.split (d := 26) rfl rfl (fun h26 => ?_) (fun h26 => ?_)
      · refine RL.q (.yes rfl rfl rfl) rfl rfl (Yld.fieldAddr fo108_2 rfl) ?_
        refine RL.q (.yes rfl rfl rfl) rfl rfl (Yld.load p9 rfl (at1 ((hn1.blk.mod hg2 (fun h => h)).cell rfl))) ?_
        refine RL.q (.yes rfl rfl rfl) rfl rfl (Yld.lenStr u9 rfl) ?_
        refine RL.q (.yes rfl rfl rfl) rfl rfl (Yld.pure rfl) ?_
        iterate 2 refine RL.p rfl rfl ?_
        refine RL.done ?_
        refine RK.ret_of Tryz.func130 (res1 rfl rfl) ?_ _
        exact ⟨_, rfl, congrArg _ (by unfold isV; simp at h8; rw [h8, Bool.eq_iff_iff]; simp_all <;> omega), hn1.grow.trans hg2⟩
      · iterate 4 refine RL.no (.no rfl rfl rfl rfl) rfl rfl ?_
        iterate 2 refine RL.p rfl rfl ?_
        refine RL.done ?_
        refine RK.ret_of Tryz.func130 (res1 rfl rfl) ?_ _
        exact ⟨_, rfl, congrArg _ (by unfold isV; simp at h8; rw [h8, Bool.eq_iff_iff]; simp_all <;> omega), hn1.grow.trans hg2⟩
def HoldsC (h : Mt → List Lab → Bool) (m : Mt) : Prop := ∀ (M : Nat → Prop) (ls : List Lab) (v : Value) (w : World), (∀ x ∈ ls, x.value.size ≤ 100000) → SlL M w v ls → Fx Tryz.prog 103 [.agg #[.int .i64 m.kind, .string m.name, .string m.value], v] w (fun u w' => u = .bool (h m ls) ∧ Grow w w')
theorem all1_ok (h : Mt → List Lab → Bool) (m : Mt) (hh : HoldsC h m) (M : Nat → Prop) (ls : List Lab) (hz : ∀ x ∈ ls, x.value.size ≤ 100000) (vl : Value) (b4 : Nat) (w : World) (hl : SlL M w vl ls) (hb : Blk w b4 39 [vl]) : Fx Tryz.prog 102 [.agg #[.int .i64 m.kind, .string m.name, .string m.value], pp b4] w (fun u w' => u = .bool (!h m ls) ∧ Grow w w') := by
  obtain ⟨ad, c, rfl⟩ := hl.shape
  refine enter Tryz.func102 rfl rfl rfl _ (Pick.sub (l := [0, 1]) (.cons rfl (.cons rfl .nil))) ?_
  refine RK.seq ?_
  refine RK.region ?_
  refine RL.op (.free rfl) rfl rfl (Does.box rfl) ?_
  rintro _ w1 ⟨b1, rfl, hn1⟩
  refine RL.p rfl rfl ?_
  refine RL.done ?_
  refine RK.seq ?_
  refine RK.region ?_
  refine RL.q (.free rfl) rfl rfl (Yld.loadN (cs := [.int .i64 m.kind, .string m.name, .string m.value]) a108 rfl (atN (fun j u hj => by rw [Nat.zero_add]; exact hn1.blk.cell' hj))) ?_
  refine RL.q (.free rfl) rfl rfl (Yld.load p39 rfl (at1 ((hb.mod hn1.grow (fun h => h)).cell rfl))) ?_
  refine RL.op (.free rfl) rfl rfl (Does.call rfl e103 (hh M ls _ _ hz (hl.mod (Mod.any' hn1.grow)))) ?_
  rintro _ w2 ⟨rfl, hg2⟩
  iterate 2 refine RL.p rfl rfl ?_
  refine RL.done ?_
  refine RK.ret_of Tryz.func102 (res1 rfl rfl) ?_ _
  exact ⟨_, rfl, rfl, hn1.grow.trans hg2⟩
theorem indexM_ok (h : Mt → List Lab → Bool) (ms : List Mt) (hh : ∀ m ∈ ms, HoldsC h m) (M M' : Nat → Prop) (ls : List Lab) (hz : ∀ x ∈ ls, x.value.size ≤ 100000) (v vl : Value) (b4 : Nat) (w : World) (hv : SlM M' w v ms) (hl : SlL M w vl ls) (hb : Blk w b4 39 [vl]) :
    Fx Tryz.prog 138 [v, .func (.func 102) #[] #[pp b4]] w (fun u w' => u = .int .i64 (optI (ms.findIdx? fun m => !h m ls)) ∧ Grow w w') := by
  obtain ⟨ad, c, rfl⟩ := hv.shape
  have hbig := hv.big
  refine enter Tryz.func138 rfl rfl rfl _ (Pick.sub (l := [0, 1]) (.cons rfl (.cons rfl .nil))) ?_
  refine RK.seq ?_
  refine RK.region ?_
  refine RL.p rfl rfl ?_
  refine RL.done ?_
  iterate 2 refine RK.seq ?_
  refine RK.region ?_
  refine RL.p rfl rfl ?_
  refine RL.q (.free rfl) rfl rfl (Yld.lenSl u28 rfl) ?_
  refine RL.p rfl rfl ?_
  refine RL.done ?_
  refine RK.block ?_
  refine RK.loop (fun k : Nat => [(0, .slice ad ms.length c), (1, .func (.func 102) #[] #[pp b4]), (7, .int .i64 ms.length), (8, .int .i64 k)]) (fun k w' => Grow w w' ∧ k ≤ ms.length ∧ ∀ (i : Nat) (a : Mt), i < k → ms[i]? = some a → h a ls = true) (fun k => ms.length - k) 0 ⟨rfl, rfl, rfl, rfl, trivial⟩ ⟨Mod.refl _ _, by omega, fun i a h => by omega⟩ (fun k w' hI ih => ?_)
  obtain ⟨hg, hk, hno⟩ := hI
  refine RK.seq ?_
  refine RK.region ?_
  refine RL.p rfl rfl ?_
  refine RL.done ?_
  refine RK.seq ?_
  first | refine RK.condD rfl (fun h9 => ?_) (fun h9 => ?_) | refine RK.condN rfl (fun h9 => ?_) (fun h9 => ?_) | refine RK.cond rfl (fun h9 => ?_) (fun h9 => ?_)
  · obtain ⟨x, hx⟩ : ∃ x, ms[k]? = some x := ⟨ms[k]'(by omega), List.getElem?_eq_getElem (by omega)⟩
    obtain ⟨b1, o1, c1', he1, _, _, hc1⟩ := hv.elem mtC_len hx
    cases he1
    refine RK.skip ?_
    refine RK.seq ?_
    refine RK.block ?_
    refine RK.seq ?_
    refine RK.region ?_
    iterate 2 refine RL.p rfl rfl ?_
    refine RL.done ?_
    refine RK.seq ?_
    refine RK.region ?_
    iterate 3 refine RL.p rfl rfl ?_
    refine RL.q (.free rfl) rfl rfl (Yld.indexAddrN u28 i108 rfl rfl (by omega)) ?_
    refine RL.q (.free rfl) rfl rfl (Yld.loadN (cs := [.int .i64 x.kind, .string x.name, .string x.value]) a108 rfl (atN (fun j u hj => hg.cell (hc1 j u hj) (fun h => h)))) ?_
    refine RL.op (.free rfl) rfl rfl (Does.callv rfl rfl e102 (all1_ok h x (hh x (List.mem_of_getElem? hx)) M ls hz vl b4 _ (hl.mod (Mod.any' hg)) (hb.mod hg (fun h => h)))) ?_
    rintro _ w2 ⟨rfl, hg2⟩
    refine RL.done ?_
    first | refine RK.condD rfl (fun h16 => ?_) (fun h16 => ?_) | refine RK.condN rfl (fun h16 => ?_) (fun h16 => ?_) | refine RK.cond rfl (fun h16 => ?_) (fun h16 => ?_)
    · refine RK.seq ?_
      refine RK.region ?_
      iterate 2 refine RL.p rfl rfl ?_
      refine RL.done ?_
      refine RK.ret_of Tryz.func138 (res1 rfl rfl) ?_ _
      exact ⟨_, rfl, congrArg _ (by
          have : ms.findIdx? (fun m => !h m ls) = some k := by
            rw [List.findIdx?_eq_some_iff_getElem]
            refine ⟨by omega, ?_, fun j hj => ?_⟩
            · rw [(List.getElem?_eq_some_iff.1 hx).2]; exact h16
            · simpa using hno j (ms[j]'(by omega)) hj (List.getElem?_eq_getElem (by omega))
          rw [this]; rfl), hg.trans hg2⟩
    · refine RK.skip ?_
      refine RK.inBlock ?_
      refine RK.region ?_
      refine RL.p rfl rfl ?_
      refine RL.re (d := 18) rfl rfl (succ_i64 (by omega)) ?_
      refine RL.p rfl rfl ?_
      refine RL.done ?_
      exact RK.back (ih (k + 1) _ ⟨hg.trans hg2, by omega, fun i a' hi ha' => by by_cases e : i = k; (subst e; rw [hx] at ha'; cases ha'; simpa using h16); exact hno i a' (by omega) ha'⟩ (by omega)) ⟨rfl, rfl, rfl, rfl, trivial⟩
  · refine RK.exit rfl ?_
    refine RK.seq ?_
    refine RK.region ?_
    refine RL.p rfl rfl ?_
    refine RL.done ?_
    refine RK.ret_of Tryz.func138 (res1 rfl rfl) ?_ _
    exact ⟨_, rfl, congrArg _ (by
        have : ms.findIdx? (fun m => !h m ls) = none := by
          rw [List.findIdx?_eq_none_iff]
          intro x hx
          obtain ⟨i, hi⟩ := List.getElem?_of_mem hx
          have hil := (List.getElem?_eq_some_iff.1 hi).1
          simpa using hno i x (by omega) hi
        rw [this]; rfl), hg⟩
theorem allM_ok (h : Mt → List Lab → Bool) (ms : List Mt) (hh : ∀ m ∈ ms, HoldsC h m) (M M' : Nat → Prop) (ls : List Lab) (hz : ∀ x ∈ ls, x.value.size ≤ 100000) (v vl : Value) (w : World) (hv : SlM M' w v ms) (hl : SlL M w vl ls) :
    Fx Tryz.prog 52 [v, vl] w (fun u w' => u = .bool (ms.all fun m => h m ls) ∧ Grow w w') := by
  obtain ⟨ad, c, rfl⟩ := hl.shape
  have hcont : ∀ (b4 : Nat) (w1 : World), Grow w w1 → Blk w1 b4 39 [.slice ad ls.length c] → Fx Tryz.prog 101 [v, .func (.func 102) #[] #[pp b4]] w1 (fun u w' => u = .bool (!ms.all fun m => h m ls) ∧ Grow w1 w') := fun b4 w1 hg1 hb => by
    have hcall := indexM_ok h ms hh M M' ls hz v _ b4 w1 (hv.mod (Mod.any' hg1)) (hl.mod (Mod.any' hg1)) hb
    obtain ⟨ad2, c2, rfl⟩ := hv.shape
    refine enter Tryz.func101 rfl rfl rfl _ (Pick.sub (l := [0, 1]) (.cons rfl (.cons rfl .nil))) ?_
    refine RK.seq ?_
    refine RK.region ?_
    refine RL.p rfl rfl ?_
    refine RL.done ?_
    refine RK.seq ?_
    refine RK.region ?_
    iterate 2 refine RL.p rfl rfl ?_
    refine RL.op (.free rfl) rfl rfl (Does.call rfl e138 (hcall)) ?_
    rintro _ w2 ⟨rfl, hg2⟩
    iterate 2 refine RL.p rfl rfl ?_
    refine RL.done ?_
    refine RK.ret_of Tryz.func101 (res1 rfl rfl) ?_ _
    exact ⟨_, rfl, congrArg _ (by
        cases hf : ms.findIdx? (fun m => !h m ls) with
        | none =>
          have : (ms.all fun m => h m ls) = true := List.all_eq_true.2 fun m hm => by simpa using List.findIdx?_eq_none_iff.1 hf m hm
          rw [this]; rfl
        | some k =>
          obtain ⟨hk, hp, _⟩ := List.findIdx?_eq_some_iff_getElem.1 hf
          have : (ms.all fun m => h m ls) = false := List.all_eq_false.2 ⟨_, List.getElem_mem hk, by simpa using hp⟩
          rw [this]
          show decide ((0 : Int) ≤ (k : Int)) = true
          simp), hg2⟩
  refine enter Tryz.func52 rfl rfl rfl _ (Pick.sub (l := [0, 1]) (.cons rfl (.cons rfl .nil))) ?_
  refine RK.seq ?_
  refine RK.region ?_
  refine RL.op (.free rfl) rfl rfl (Does.box rfl) ?_
  rintro _ w1 ⟨b1, rfl, hn1⟩
  refine RL.p rfl rfl ?_
  refine RL.done ?_
  refine RK.seq ?_
  refine RK.region ?_
  iterate 2 refine RL.p rfl rfl ?_
  refine RL.op (.free rfl) rfl rfl (Does.call rfl e101 (hcont b1 _ hn1.grow hn1.blk)) ?_
  rintro _ w2 ⟨rfl, hg2⟩
  iterate 2 refine RL.p rfl rfl ?_
  refine RL.done ?_
  refine RK.ret_of Tryz.func52 (res1 rfl rfl) ?_ _
  exact ⟨_, rfl, by simp, hn1.grow.trans hg2⟩
end Go.Proofs.YtbcbfjnlnmhpbaaGreat
set_option linter.unusedVariables false
set_option linter.unusedSimpArgs false
set_option maxHeartbeats 800000
set_option maxRecDepth 100000
namespace Go.Proofs.YtbcbfjnlnmhpbaaGreat
open Go Go.X
end Go.Proofs.YtbcbfjnlnmhpbaaGreat
set_option linter.unusedVariables false
set_option linter.unusedSimpArgs false
set_option maxHeartbeats 800000
set_option maxRecDepth 100000
namespace Go.Proofs.YtbcbfjnlnmhpbaaGreat
open Go Go.X
end Go.Proofs.YtbcbfjnlnmhpbaaGreat
