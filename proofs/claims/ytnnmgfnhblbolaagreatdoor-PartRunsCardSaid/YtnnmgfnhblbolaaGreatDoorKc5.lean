/- What the claim stands on, part 5. Of own lemmas only those that it reaches. -/
import Derived.Test.YtnnmgfnhblbolaaGreatDoorKc4
set_option linter.unusedVariables false
set_option linter.unusedSimpArgs false
set_option maxHeartbeats 2000000
set_option maxRecDepth 100000
namespace Go.Proofs.YtnnmgfnhblbolaaGreatDoor
open Go Go.X Go.Rex
def OB (v : Value) : Nat → Prop := fun b => v.ownBlock = some b
abbrev RowS (w : World) (v : Value) (P : List Stp) : Prop := Row w 381 7 v P.length (P.flatMap stC)
structure LayR (w w' : World) (v u : Value) (P : List Stp) : Prop where
  row : RowS w' u P
  own : ∀ b, u.ownBlock = some b → v.ownBlock = some b ∨ w.heap.size ≤ b
  mod : Mod (OB v) w w'
theorem LayR.refl {w : World} {v : Value} {P : List Stp} (h : RowS w v P) : LayR w w v v P := ⟨h, fun b e => .inl e, Mod.refl _ _⟩
theorem LayR.grow {w w' w2 : World} {v u : Value} {P : List Stp} (h : LayR w w' v u P) (hg : Grow w' w2) : LayR w w2 v u P := ⟨h.row.mod hg (fun _ _ h => h), h.own, h.mod.trans (Mod.any' hg)⟩
theorem LayR.trans {w w' w2 : World} {v u u2 : Value} {P Q : List Stp} (h : LayR w w' v u P) (h2 : LayR w' w2 u u2 Q) : LayR w w2 v u2 Q := ⟨h2.row, fun b e => by
  rcases h2.own b e with h3 | h3
  · exact h.own b h3
  · have := h.mod.size; exact .inr (by omega), h.mod.then h2.mod (fun x hx e => by rcases h.own x e with h3 | h3; exact h3; omega)⟩
theorem LayR.grow0 {w0 w w' : World} {v u : Value} {P : List Stp} (hg : Grow w0 w) (h : LayR w w' v u P) : LayR w0 w' v u P := ⟨h.row, fun b e => by
  rcases h.own b e with h3 | h3
  · exact .inl h3
  · have := hg.size; exact .inr (by omega), (Mod.any' hg).trans h.mod⟩
def Far (w : World) (v : Value) : Nat → Prop := fun b => v.ownBlock = some b ∨ w.heap.size ≤ b
def layC (x : Rx) : Prop := ∀ (P : List Stp) (c : Cel) (v : Value) (w : World), RxV (OB v) w x [c] → RowS w v P → P.length + sz x ≤ 1000 → Fx Tryz.prog 319 [v, .agg (celC c).toArray] w (fun u w' => LayR w w' v u (P ++ code x none P.length))
theorem app_one {w w1 w2 : World} {v u : Value} {b : Nat} {P : List Stp} {s : Stp} {T : Nat} (hn : New w w1 b T (stC s)) (hr : Row w2 381 7 u (P.length + 1) (P.flatMap stC ++ stC s)) (hm : Mod (OB v) w1 w2) (hu : u.ownBlock = v.ownBlock ∨ u.ownBlock = some w1.heap.size) : LayR w w2 v u (P ++ [s]) := ⟨by
    show Row _ _ _ _ _ _
    rw [List.length_append, List.flatMap_append]
    simpa using hr, fun b e => by
    rcases hu with h1 | h1
    · exact .inl (h1 ▸ e)
    · rw [h1] at e; cases e; have := hn.size; exact .inr (by omega), (Mod.any' hn.grow).trans hm⟩
theorem lay_set {w w' w2 : World} {v u : Value} {A : List Stp} {s s' : Stp} {R : List Stp} (h : LayR w w' v u (A ++ s :: R)) {g cap : Nat} {i : Nat} {z : Value} (hu : u = .slice (some ⟨g, 0, none⟩) (A ++ s :: R).length cap) (hrow : Row w2 381 7 u (A ++ s :: R).length (((A ++ s :: R).flatMap stC).set (A.length * 7 + i) z)) (hi : i < 7) (hs : (stC s).set i z = stC s') (hm : Mod (· = g) w' w2) : LayR w w2 v u (A ++ s' :: R) := by
  rw [flat_set stC 7 stC_len _ A.length i s s' z (by simp) hi hs, set_mid] at hrow
  refine ⟨by show Row _ _ _ _ _ _; simpa using hrow, h.own, h.mod.then hm fun x hx e => ?_⟩
  have e' : x = g := e
  rcases h.own x (by rw [hu, e']; rfl) with h3 | h3
  · exact h3
  · omega
theorem kid_far {w : World} {v : Value} {l : Rx} {kss : List Cel} {ad : Option Addr} {n cap : Nat} (ht : Tr true l) (hn : n = kss.length) (hsl : Sl (OB v) w (.slice ad n cap) 6 kss.length (kss.flatMap celC)) (hks : RxV (OB v) w l kss) {k : Nat} (hkn : k < n) {w' : World} (hm : Mod (OB v) w w') : ∃ (c : Cel) (y : Rx) (b o : Nat), ad = some ⟨b, o, none⟩ ∧ (kidsR l)[k]? = some y ∧ y ∈ kidsR l ∧ RxV (Far w v) w' y [c] ∧ ¬ OB v b ∧ b < w.heap.size ∧ ∀ j u, (celC c)[j]? = some u → w'.cell? ⟨b, o + k * 6 + j, none⟩ = some u := by
  obtain ⟨c, hc⟩ : ∃ c, kss[k]? = some c := ⟨kss[k]'(by omega), List.getElem?_eq_getElem (by omega)⟩
  obtain ⟨y, hy, hv⟩ := RxV.kid ht hks hc
  obtain ⟨b1, o1, c1, heq, hb1, _, hcl⟩ := (hn ▸ hsl).elem celC_len hc
  cases heq
  have hf : RxV (Far w v) w y [c] := RxV.off (fun b hb e => e.elim (fun e => e) (fun e => by omega)) y hv
  exact ⟨c, y, b1, o1, rfl, hy, List.mem_of_getElem? hy, RxV.mod hm (fun b _ e => .inl e) y hf, hb1, World.block_lt_of_cell? w _ (hcl 0 _ rfl), fun j u hj => hm.cell (hcl j u hj) hb1⟩
theorem ways_lay {w : World} {l : Rx} {kss : List Cel} {ad : Option Addr} {n cap : Nat} (ht : Tr true l) (hn : n = kss.length) (hcap : n ≤ cap) (hlen : kss.length = cnt l) (h1 : 1 ≤ n) (hk : ∀ y ∈ kidsR l, layC y) (P : List Stp) (v : Value) (hsl : Sl (OB v) w (.slice ad n cap) 6 kss.length (kss.flatMap celC)) (hks : RxV (OB v) w l kss) (hv : RowS w v P) (hb : P.length + (sz l + 2 * (cnt l - 1)) ≤ 1000) :
    Fx Tryz.prog 341 [v, .slice ad n cap] w (fun u w' => LayR w w' v u (P ++ code l (some (P.length + (sz l + 2 * (cnt l - 1)))) P.length)) := by
  have hbig := hsl.big
  have hkl : (kidsR l).length = n := by rw [kids_len]; omega
  obtain ⟨xs, y0, hxs⟩ : ∃ xs y0, kidsR l = xs ++ [y0] := ⟨(kidsR l).dropLast, (kidsR l).getLast (by intro h; rw [h] at hkl; simp at hkl; omega), (List.dropLast_concat_getLast _).symm⟩
  have hxl : xs.length = n - 1 := by have := congrArg List.length hxs; simp at this; omega
  have hgood : GoodL (kidsR l) := kids_tr ht
  have hgx : GoodL xs := fun x hx => hgood x (by rw [hxs]; simp [hx])
  have hty : Tr false y0 := hgood y0 (by rw [hxs]; simp)
  have hszl : sz l = (xs.map sz).sum + sz y0 := by rw [sz_cons l ht, hxs]; simp
  have hcnt : cnt l = xs.length + 1 := by omega
  have hwl := wlen_sz xs
  have hcode := code_alt l ht xs y0 hxs (P.length + (sz l + 2 * (cnt l - 1))) P.length
  rw [hcode]
  have he : P.length + (sz l + 2 * (cnt l - 1)) = P.length + wlen xs + sz y0 := by omega
  rw [he] at hb ⊢
  clear hcode he
  obtain ⟨e, hee⟩ : ∃ e, P.length + wlen xs + sz y0 = e := ⟨_, rfl⟩
  rw [hee] at hb ⊢
  have hly := codeN_len hty (P.length + wlen xs)
  refine enter Tryz.func341 rfl rfl rfl _ (Pick.sub (l := [0, 1]) (.cons rfl (.cons rfl .nil))) ?_
  refine RK.seq ?_
  refine RK.region ?_
  refine RL.p rfl rfl ?_
  refine RL.done ?_
  refine RK.seq ?_
  refine RK.region ?_
  refine RL.p rfl rfl ?_
  refine RL.done ?_
  refine RK.seq ?_
  refine RK.region ?_
  refine RL.p rfl rfl ?_
  refine RL.q (.free rfl) rfl rfl (Yld.lenSl u325 rfl) ?_
  refine RL.p rfl rfl ?_
  refine RL.re (d := 14) rfl rfl (sub_i64 (z := ((n - 1 : Nat) : Int)) (by omega) (by omega) (by omega)) ?_
  refine RL.p rfl rfl ?_
  refine RL.done ?_
  iterate 2 refine RK.seq ?_
  refine RK.region ?_
  iterate 2 refine RL.p rfl rfl ?_
  refine RL.q (.free rfl) rfl rfl (Yld.sliceHi u325 i327 (m := n - 1) rfl rfl (by omega)) ?_
  refine RL.q (.free rfl) rfl rfl (Yld.lenSl u325 rfl) ?_
  refine RL.p rfl rfl ?_
  refine RL.done ?_
  refine RK.block ?_
  refine RK.loop (fun s : Nat × Value × Value => [(0, s.2.1), (1, .slice ad n cap), (5, s.2.2), (6, .int .i64 ((n - 1 : Nat) : Int)), (17, .slice ad (n - 1) cap), (18, .int .i64 ((n - 1 : Nat) : Int)), (19, .int .i64 (s.1 : Int))]) (fun s w' => s.1 ≤ n - 1 ∧ LayR w w' v s.2.1 (P ++ wayC (xs.take s.1) 0 P.length) ∧ Row w' 3 1 s.2.2 s.1 (ints (wayJ (xs.take s.1) P.length)) ∧ Fresh w.heap.size s.2.2 ∧ (∀ b, s.2.2.ownBlock = some b → ¬ s.2.1.ownBlock = some b)) (fun s => n - 1 - s.1) (0, v, .slice none 0 0) ⟨rfl, rfl, rfl, rfl, rfl, rfl, rfl, trivial⟩ ⟨by simp, by simpa [wayC] using LayR.refl hv, by simpa [wayJ] using Row.nil _ _ _, fun b hb => by simp [Value.ownBlock] at hb, fun b hb => by simp [Value.ownBlock] at hb⟩ (fun s w1 hI ih => ?_)
  obtain ⟨k, u, jv⟩ := s
  obtain ⟨hkn, hL, hJ, hJf, hJu⟩ := hI
  simp only at hkn hL hJ hJf hJu
  have hwk := wlen_take xs k
  have hlenk := wayC_len (xs.take k) 0 P.length (hgx.take k)
  have hs1 := hL.mod.size
  have hpk : (P ++ wayC (xs.take k) 0 P.length).length = P.length + wlen (xs.take k) := by rw [List.length_append, hlenk]
  refine RK.seq ?_
  refine RK.region ?_
  refine RL.p rfl rfl ?_
  refine RL.done ?_
  refine RK.seq ?_
  first | refine RK.condD rfl (fun h20 => ?_) (fun h20 => ?_) | refine RK.condN rfl (fun h20 => ?_) (fun h20 => ?_) | refine RK.cond rfl (fun h20 => ?_) (fun h20 => ?_)
  · obtain ⟨ck, x, b1, o1, rfl, hx, hxm, hxv, hb1, hb1l, hcl⟩ := kid_far ht hn hsl hks (k := k) (by omega) hL.mod
    have hxk : xs[k]? = some x := by rw [hxs, List.getElem?_append_left (by omega)] at hx; exact hx
    have hwk1 := wlen_take xs (k + 1)
    have htk := take_snoc hxk
    have hwsn : wlen (xs.take (k + 1)) = wlen (xs.take k) + (sz x + 2) := by rw [htk, wlen_app]; simp [wlen]
    have hxt := hgood x hxm
    refine RK.skip ?_
    refine RK.seq ?_
    refine RK.block ?_
    refine RK.seq ?_
    refine RK.region ?_
    refine RL.q (.free rfl) rfl rfl (Yld.indexAddrN u325 i327 rfl rfl (by omega)) ?_
    refine RL.q (.free rfl) rfl rfl (Yld.loadN (cs := celC ck) a327 rfl (atN (hcl))) ?_
    refine RL.op (.free rfl) rfl rfl (Does.alloc i327) ?_
    rintro _ w2 ⟨b2, rfl, hn2⟩
    refine RL.op' (.free rfl) rfl (Does.storeN i327 rfl rfl rfl rfl hn2.blk (Nat.le_refl 6)) ?_
    rintro _ w3 ⟨hb3, hm3, _⟩
    have hB3 : Blk w3 b2 327 (celC ck) := hb3
    have hg3 : Grow w1 w3 := hn2.grow.then hm3 (fun y hy e => by have e' : y = b2 := e; have := hn2.at_; omega)
    have hL3 := hL.grow hg3
    have hb2 := hn2.at_
    have hs3 := hg3.size
    have huf : ∀ b, u.ownBlock = some b → b < w1.heap.size := fun b e => hL.row.lt e
    have hjf : ∀ b, jv.ownBlock = some b → b < w1.heap.size := fun b e => hJ.lt e
    obtain ⟨adu, cu, hue⟩ := hL.row.slice
    refine RL.done ?_
    refine RK.seq ?_
    refine RK.region ?_
    refine RL.p rfl rfl ?_
    refine RL.q (.free rfl) rfl rfl (Yld.lenSl u333 (congrArg some hue)) ?_
    refine RL.re (d := 24) rfl rfl (congrArg (Value.int .i64) (show _ = ((P.length + wlen (xs.take k) : Nat) : Int) by rw [hpk])) ?_
    refine RL.p rfl rfl ?_
    refine RL.done ?_
    refine RK.seq ?_
    refine RK.drawM (OB u) [(0, false), (1, false), (2, false), (3, false), (6, false), (4, true), (5, true), (7, true), (8, false)] [] mixed (by kernel_rfl) ?_
    iterate 3 refine DL.p rfl rfl rfl ?_
    refine DL.re (d := 27) rfl rfl (succ_i64 (by omega)) ?_
    refine DL.qf rfl (.free rfl) rfl rfl (Yld.build (v := .agg #[.int .i64 2, .int .u64 0, .int .u64 0, .int .u64 0, .int .u64 0, .int .i64 ((P.length + wlen (xs.take k) + 1 : Nat) : Int), .int .i64 0]) rfl (fun w => by kernel_rfl)) ?_
    have hnb2 : ¬ OB u b2 := fun e => by have := huf b2 e; omega
    refine DL.q rfl (.free rfl) rfl rfl rfl (Yld.loadN (cs := celC ck) a327 rfl (atNM (blk0' hB3) (hnb2))) (Mod.drew _ _) ?_
    refine DL.op rfl (.free rfl) rfl rfl (Does.slice1 u333 i381 rfl rfl rfl rfl rfl) ?_
    rintro _ w4 ⟨b4, rfl, hn4⟩
    refine ⟨(Mod.drew _ _).trans (Mod.any' hn4.grow), ?_⟩
    have hr3 : RowS w3.drew u _ := hL3.row.mod (Mod.drew No _) (fun _ _ h => h)
    refine DL.op rfl (.free rfl) rfl rfl (Does.append u333 i381 rfl rfl rfl rfl rfl (hr3.mod hn4.grow (fun _ _ h => h)) (Sl.new hn4 7 1 rfl (by omega) (fun h => h)) (rfl) (by omega)) ?_
    rintro u5 w5 ⟨hr5, hm5, hu5⟩
    have hL5 : LayR w3.drew w5 u u5 ((P ++ wayC (xs.take k) 0 P.length) ++ [splitS (P.length + wlen (xs.take k) + 1) 0]) := app_one (s := splitS (P.length + wlen (xs.take k) + 1) 0) hn4 hr5 hm5 hu5
    refine ⟨(Mod.drew _ _).trans hL5.mod, ?_⟩
    have hxv5 : RxV (OB u5) w5 x [ck] := RxV.off (M := fun b => Far w v b) (fun b hb e => by
        rcases hL5.own b e with h3 | h3
        · exact hL.own b h3
        · exact .inr (by have : w3.drew.heap.size = w3.heap.size := rfl; omega)) x (RxV.mod hL5.mod (fun b _ e => hL.own b e) x (RxV.grow (hg3.trans (Mod.drew _ _)) x hxv))
    have hp5 : ((P ++ wayC (xs.take k) 0 P.length) ++ [splitS (P.length + wlen (xs.take k) + 1) 0]).length = P.length + wlen (xs.take k) + 1 := by rw [List.length_append, hpk]; rfl
    refine DL.op rfl (.free rfl) rfl rfl (Does.call rfl e319 (hk x hxm _ ck u5 w5 hxv5 hL5.row (by rw [hp5]; omega))) ?_
    rintro u6 w6 hL6
    rw [hp5] at hL6
    have hL56 := hL5.trans hL6
    refine ⟨(Mod.drew _ _).trans hL56.mod, ?_⟩
    have hL36 : LayR w3 w6 u u6 _ := LayR.grow0 (Mod.drew No _) hL56
    have hs6 := hL36.mod.size
    have hL06 := (hL.grow (hg3.trans (Mod.drew No _))).trans hL56
    obtain ⟨ad6, c6, hue6⟩ := hL6.row.slice
    have hp6 : ((P ++ wayC (xs.take k) 0 P.length ++ [splitS (P.length + wlen (xs.take k) + 1) 0]) ++ code x none (P.length + wlen (xs.take k) + 1)).length = P.length + wlen (xs.take k) + 1 + sz x := by rw [List.length_append, hp5, codeN_len hxt]
    have hJ6 := (hJ.mod hg3 (fun _ _ h => h)).mod hL36.mod (fun b e => hJu b e)
    refine DL.p rfl rfl rfl ?_
    refine DL.done ?_
    refine RK.seq ?_
    refine RK.region ?_
    iterate 2 refine RL.p rfl rfl ?_
    refine RL.q (.free rfl) rfl rfl (Yld.lenSl u333 (congrArg some hue6)) ?_
    refine RL.re (d := 35) rfl rfl (congrArg (Value.int .i64) (show _ = ((P.length + wlen (xs.take k) + 1 + sz x : Nat) : Int) by rw [hp6])) ?_
    refine RL.op (.free rfl) rfl rfl (Does.slice1 u41 i3 rfl rfl rfl rfl rfl) ?_
    rintro _ w7 ⟨b7, rfl, hn7⟩
    refine RL.op (.free rfl) rfl rfl (Does.append u41 i3 rfl rfl rfl rfl rfl (hJ6.mod hn7.grow (fun _ _ h => h)) (Sl.new hn7 1 1 rfl (by omega) (fun h => h)) (rfl) (by omega)) ?_
    rintro jv8 w8 ⟨hr8, hm8, hu8⟩
    have hJ8 : Row w8 3 1 jv8 (k + 1) (ints (wayJ (xs.take (k + 1)) P.length)) := by
        have e9 : ints (wayJ (xs.take (k + 1)) P.length) = ints (wayJ (xs.take k) P.length) ++ [.int .i64 ((P.length + wlen (xs.take k) + 1 + sz x : Nat) : Int)] := by rw [htk, wayJ_app]; simp [ints, wayJ]
        rw [e9]; exact hr8
    have hb7 := hn7.at_
    have hs7 := hn7.size
    have hu6f : ∀ b, u6.ownBlock = some b → b < w6.heap.size := fun b e => hL6.row.lt e
    have hJ8u : ∀ b, jv8.ownBlock = some b → ¬ u6.ownBlock = some b := fun b e e2 => by
        have h3 := hu6f b e2
        rcases hu8 with h4 | h4
        · have h5 := hjf b (h4 ▸ e)
          rcases hL36.own b e2 with h6 | h6
          · exact hJu b (h4 ▸ e) h6
          · omega
        · rw [h4] at e; cases e; omega
    have hr6 := (hL6.row.mod hn7.grow (fun _ _ h => h)).mod hm8 (fun b e e2 => by
        have h5 := hjf b e2
        rcases hL36.own b e with h6 | h6
        · exact hJu b e2 h6
        · omega)
    have hL08 : LayR w w8 v u6 _ := ⟨hr6, hL06.own, (hL06.mod.trans (Mod.any' hn7.grow)).then hm8 (fun b hb e => by have := hJf b e; omega)⟩
    refine RL.p rfl rfl ?_
    refine RL.done ?_
    refine RK.seq ?_
    refine RK.region ?_
    refine RL.p rfl rfl ?_
    refine RL.q (.free rfl) rfl rfl (Yld.build (v := .agg #[.int .i64 3, .int .u64 0, .int .u64 0, .int .u64 0, .int .u64 0, .int .i64 0, .int .i64 0]) rfl (fun w => by kernel_rfl)) ?_
    refine RL.op (.free rfl) rfl rfl (Does.slice1 u333 i381 rfl rfl rfl rfl rfl) ?_
    rintro _ w9 ⟨b9, rfl, hn9⟩
    refine RL.op (.free rfl) rfl rfl (Does.append u333 i381 rfl rfl rfl rfl rfl (hr6.mod hn9.grow (fun _ _ h => h)) (Sl.new hn9 7 1 rfl (by omega) (fun h => h)) (rfl) (by omega)) ?_
    rintro u10 w10 ⟨hr10, hm10, hu10⟩
    have hL810 := app_one (s := jumpS 0) hn9 hr10 hm10 hu10
    have hL10 := hL08.trans hL810
    have hp10 : (((P ++ wayC (xs.take k) 0 P.length ++ [splitS (P.length + wlen (xs.take k) + 1) 0]) ++ code x none (P.length + wlen (xs.take k) + 1)) ++ [jumpS 0]).length = P.length + wlen (xs.take k) + 2 + sz x := by rw [List.length_append, hp6]; show _ + 1 = _; omega
    have hJ10 : Row w10 3 1 jv8 (k + 1) (ints (wayJ (xs.take (k + 1)) P.length)) := (hJ8.mod hn9.grow (fun _ _ h => h)).mod hm10 (fun b e e2 => hJ8u b e e2)
    have hs8 := hm8.size
    have hs810 := hL810.mod.size
    have hJ8l : ∀ b, jv8.ownBlock = some b → b < w8.heap.size := fun b e => hJ8.lt e
    have hL10' := hL10
    have hre : (((P ++ wayC (xs.take k) 0 P.length ++ [splitS (P.length + wlen (xs.take k) + 1) 0]) ++ code x none (P.length + wlen (xs.take k) + 1)) ++ [jumpS 0]) = (P ++ wayC (xs.take k) 0 P.length) ++ splitS (P.length + wlen (xs.take k) + 1) 0 :: (code x none (P.length + wlen (xs.take k) + 1) ++ [jumpS 0]) := by simp
    rw [hre] at hL10 hp10
    obtain ⟨g, cap9, cs9, hue, hB9, hcs9, hturn⟩ := Row.turn hL10.row (by omega)
    subst hue
    rw [hp10] at hcs9
    refine RL.p rfl rfl ?_
    refine RL.done ?_
    refine RK.region ?_
    iterate 3 refine RL.p rfl rfl ?_
    refine RL.q (.free rfl) rfl rfl (Yld.lenSl u333 rfl) ?_
    refine RL.re (d := 45) rfl rfl (congrArg (Value.int .i64) (show _ = ((P.length + wlen (xs.take k) + 2 + sz x : Nat) : Int) by rw [hp10])) ?_
    refine RL.q (.free rfl) rfl rfl (Yld.indexAddrN u333 i381 rfl rfl (by omega)) ?_
    refine RL.q (.free rfl) rfl rfl (Yld.fieldAddr fo381_3 rfl) ?_
    refine RL.op' (.free rfl) rfl (Does.store i3 rfl rfl rfl hB9 (setAt_of (by omega))) ?_
    rintro _ w11 ⟨hb11, hm11, _⟩
    have hL11 := lay_set (s' := splitS (P.length + wlen (xs.take k) + 1) (P.length + wlen (xs.take k) + 2 + sz x)) (i := 6) hL10 rfl (hturn w11 _ _ (by rw [hp10, hpk]; omega) (by have h9 := hb11; rw [Nat.zero_add] at h9; rw [hpk]; exact h9)) (by omega) rfl hm11
    have hfin : (P ++ wayC (xs.take k) 0 P.length) ++ splitS (P.length + wlen (xs.take k) + 1) (P.length + wlen (xs.take k) + 2 + sz x) :: (code x none (P.length + wlen (xs.take k) + 1) ++ [jumpS 0]) = P ++ wayC (xs.take (k + 1)) 0 P.length := by rw [htk, wayC_app]; simp [wayC]
    rw [hfin] at hL11
    have hgu : ∀ b, jv8.ownBlock = some b → ¬ b = g := fun b e e2 => by
        subst e2
        have h4 := hJ8l _ e
        rcases hu10 with h5 | h5
        · exact hJ8u _ e (h5 ▸ rfl)
        · have h6 : some b = some w9.heap.size := h5
          cases h6
          have := hn9.size; omega
    have hJ11 := hJ10.mod hm11 (fun b e e2 => hgu b e e2)
    have hfp := congrArg List.length hfin
    have hfp2 : (P ++ wayC (xs.take k) 0 P.length ++ splitS (P.length + wlen (xs.take k) + 1) 0 :: (code x none (P.length + wlen (xs.take k) + 1) ++ [jumpS 0])).length = (P ++ wayC (xs.take (k + 1)) 0 P.length).length := by rw [← hfin]; simp
    refine RL.done ?_
    refine RK.inBlock ?_
    refine RK.region ?_
    refine RL.p rfl rfl ?_
    refine RL.re (d := 48) rfl rfl (succ_i64 (by omega)) ?_
    refine RL.p rfl rfl ?_
    refine RL.done ?_
    exact RK.back (ih (k + 1, .slice (some ⟨g, 0, none⟩) _ cap9, jv8) _ ⟨by simp only; omega, hL11, hJ11, fun b e => by
        rcases hu8 with h4 | h4
        · exact hJf b (h4 ▸ e)
        · simp only at e; rw [h4] at e; cases e; omega, fun b e e2 => hgu b e (by simp [Value.ownBlock] at e2; exact e2.symm)⟩ (by simp only; omega)) ⟨rfl, rfl, rfl, rfl, rfl, rfl, rfl, trivial⟩
  · have hkx : k = xs.length := by simp only at h20; omega
    have ek : xs.take k = xs := List.take_of_length_le (by omega)
    rw [ek] at hL hJ hpk
    obtain ⟨ck, x, b1, o1, rfl, hx, hxm, hxv, hb1, hb1l, hcl⟩ := kid_far ht hn hsl hks (k := n - 1) (by omega) hL.mod
    have hxy : x = y0 := by rw [hxs, List.getElem?_append_right (by omega)] at hx; rw [show n - 1 - xs.length = 0 by omega] at hx; simpa using hx.symm
    subst hxy
    refine RK.exit rfl ?_
    refine RK.seq ?_
    refine RK.region ?_
    iterate 3 refine RL.p rfl rfl ?_
    refine RL.q (.free rfl) rfl rfl (Yld.indexAddrN u325 i327 rfl rfl (by omega)) ?_
    refine RL.q (.free rfl) rfl rfl (Yld.loadN (cs := celC ck) a327 rfl (atN (hcl))) ?_
    have hxv5 : RxV (OB u) w1 x [ck] := RxV.off (M := fun b => Far w v b) (fun b hb e => hL.own b e) x hxv
    refine RL.op (.free rfl) rfl rfl (Does.call rfl e319 (hk x hxm _ ck u w1 hxv5 hL.row (by rw [hpk]; omega))) ?_
    rintro u6 w6 hL6
    rw [hpk] at hL6
    have hL06 := hL.trans hL6
    have hJ6 := hJ.mod hL6.mod (fun b e e2 => hJu b e e2)
    have hu6f : ∀ b, jv.ownBlock = some b → ¬ u6.ownBlock = some b := fun b e e2 => by
        rcases hL6.own b e2 with h3 | h3
        · exact hJu b e h3
        · have := hJ.lt e; omega
    obtain ⟨adj, cj, hje⟩ := hJ6.slice
    have hlJ := wayJ_len xs P.length
    have hz0 := wayP_zero xs e P.length
    refine RL.p rfl rfl ?_
    refine RL.done ?_
    iterate 2 refine RK.seq ?_
    refine RK.region ?_
    refine RL.p rfl rfl ?_
    refine RL.q (.free rfl) rfl rfl (Yld.lenSl u41 (congrArg some hje)) ?_
    refine RL.p rfl rfl ?_
    refine RL.done ?_
    refine RK.block ?_
    refine RK.loop (fun m : Nat => [(0, u6), (55, .slice adj k cj), (56, .int .i64 (k : Int)), (57, .int .i64 (m : Int))]) (fun m w' => m ≤ k ∧ LayR w w' v u6 (P ++ wayP xs m e P.length ++ code x none (P.length + wlen xs)) ∧ Row w' 3 1 jv k (ints (wayJ xs P.length))) (fun m => k - m) 0 ⟨rfl, by rw [← hje]; rfl, rfl, rfl, trivial⟩ ⟨by omega, by rw [hz0]; exact hL06, hJ6⟩ (fun m w7 hI2 ih2 => ?_)
    obtain ⟨hmk, hLm, hJm⟩ := hI2
    refine RK.seq ?_
    refine RK.region ?_
    refine RL.p rfl rfl ?_
    refine RL.done ?_
    refine RK.seq ?_
    first | refine RK.condD rfl (fun h58 => ?_) (fun h58 => ?_) | refine RK.condN rfl (fun h58 => ?_) (fun h58 => ?_) | refine RK.cond rfl (fun h58 => ?_) (fun h58 => ?_)
    · obtain ⟨z, hz⟩ : ∃ z, xs[m]? = some z := ⟨xs[m]'(by omega), List.getElem?_eq_getElem (by omega)⟩
      have hjz := wayJ_get hz P.length
      have hhead := wayP_head_len hgx hz e P.length
      have hsp := wayP_split hz e P.length
      have hnx := wayP_next hz e P.length
      have hwz := wlen_take xs (m + 1)
      have hwsn : wlen (xs.take (m + 1)) = wlen (xs.take m) + (sz z + 2) := by rw [take_snoc hz, wlen_app]; simp [wlen]
      have hsJ : Sl No w7 (.slice adj k cj) 1 k (ints (wayJ xs P.length)) := by rw [← hje]; exact Sl.own hJm (fun _ _ h => h)
      obtain ⟨bj, oj, cj', hej, _, _, hcj⟩ := hsJ.elem1 (k := m) (u := .int .i64 ((P.length + wlen (xs.take m) + 1 + sz z : Nat) : Int)) (by simp [ints, hjz])
      cases hej
      refine RK.skip ?_
      refine RK.seq ?_
      refine RK.block ?_
      refine RK.seq ?_
      refine RK.region ?_
      refine RL.q (.free rfl) rfl rfl (Yld.indexAddrN u41 i3 rfl rfl (by omega)) ?_
      refine RL.q (.free rfl) rfl rfl (Yld.load p3 rfl (at1 (hcj m (.int .i64 ((P.length + wlen (xs.take m) + 1 + sz z : Nat) : Int)) (by simp [ints, hjz])))) ?_
      rw [hsp] at hLm
      generalize hA : (wayC (xs.take m) e P.length ++ splitS (P.length + wlen (xs.take m) + 1) (P.length + wlen (xs.take m) + 2 + sz z) :: code z none (P.length + wlen (xs.take m) + 1)) = A at *
      generalize hR : wayC (xs.drop (m + 1)) 0 (P.length + wlen (xs.take m) + 2 + sz z) = R at *
      have hre : P ++ (A ++ jumpS 0 :: R) ++ code x none (P.length + wlen xs) = (P ++ A) ++ jumpS 0 :: (R ++ code x none (P.length + wlen xs)) := by simp
      rw [hre] at hLm
      have hlen9 : ((P ++ A) ++ jumpS 0 :: (R ++ code x none (P.length + wlen xs))).length = e := by
          have h9 := congrArg List.length hsp
          have h8 := wayP_len hgx m e P.length
          rw [h8] at h9
          simp only [List.length_append, List.length_cons] at h9 ⊢
          omega
      obtain ⟨g, cap9, cs9, hue, hB9, hcs9, hturn⟩ := Row.turn hLm.row (by omega)
      subst hue
      have hcs9' := hcs9
      rw [hlen9] at hcs9'
      refine RL.p rfl rfl ?_
      refine RL.done ?_
      refine RK.region ?_
      iterate 3 refine RL.p rfl rfl ?_
      refine RL.q (.free rfl) rfl rfl (Yld.lenSl u333 rfl) ?_
      refine RL.re (d := 64) rfl rfl (congrArg (Value.int .i64) (show _ = ((e : Nat) : Int) by rw [hlen9])) ?_
      refine RL.q (.free rfl) rfl rfl (Yld.indexAddrN u333 i381 rfl rfl (by rw [hlen9]; omega)) ?_
      refine RL.q (.free rfl) rfl rfl (Yld.fieldAddr fo381_2 rfl) ?_
      refine RL.op' (.free rfl) rfl (Does.store i3 rfl rfl rfl hB9 (setAt_of (by omega))) ?_
      rintro _ w11 ⟨hb11, hm11, _⟩
      have hPA : (P ++ A).length = P.length + wlen (xs.take m) + 1 + sz z := by rw [List.length_append, hhead]; omega
      have hL11 := lay_set (s' := jumpS e) (i := 5) hLm rfl (hturn w11 _ _ (by rw [hlen9, hPA]; omega) (by have h9 := hb11; rw [Nat.zero_add] at h9; rw [hPA]; exact h9)) (by omega) rfl hm11
      have hfin : (P ++ A) ++ jumpS e :: (R ++ code x none (P.length + wlen xs)) = P ++ wayP xs (m + 1) e P.length ++ code x none (P.length + wlen xs) := by rw [hnx]; simp
      rw [hfin] at hL11
      refine RL.done ?_
      refine RK.inBlock ?_
      refine RK.region ?_
      refine RL.p rfl rfl ?_
      refine RL.re (d := 67) rfl rfl (succ_i64 (by omega)) ?_
      refine RL.p rfl rfl ?_
      refine RL.done ?_
      exact RK.back (ih2 (m + 1) _ ⟨by omega, hL11, hJm.mod hm11 (fun b e1 e2 => hu6f b e1 (by have e3 : b = g := e2; rw [e3]; rfl))⟩ (by omega)) ⟨rfl, rfl, rfl, rfl, trivial⟩
    · have hm9 : xs.length ≤ m := by omega
      rw [wayP_all xs e P.length hm9] at hLm
      refine RK.exit rfl ?_
      refine RK.seq ?_
      refine RK.region ?_
      iterate 2 refine RL.p rfl rfl ?_
      refine RL.done ?_
      refine RK.ret_of Tryz.func341 (res1 rfl rfl) ?_ _
      exact ⟨_, rfl, by rw [← List.append_assoc]; exact hLm⟩
theorem only_kid {l : Rx} (ht : Tr true l) (hc : cnt l = 1) : ∃ y, l = .cons y .nil := by
  cases l with
  | nil => simp [cnt] at hc
  | set => exact ht.elim
  | node => exact ht.elim
  | cons y l =>
    refine ⟨y, ?_⟩
    cases l with
    | nil => rfl
    | set => exact ht.2.elim
    | node => exact ht.2.elim
    | cons => simp [cnt] at hc
theorem lay_ok : ∀ (m : Nat) (x : Rx), hiR x ≤ m → Tr false x → layC x
  | 0, .set _, h, _ => by simp [hiR] at h
  | 0, .node _ _, h, _ => by simp [hiR] at h
  | 0, .nil, _, ht => ht.elim
  | 0, .cons _ _, _, ht => ht.elim
  | m + 1, x, hx, ht => by
    intro P k v w hxv hv hb
    obtain ⟨op, a, b, c, d, ad, n, cap, l, kss, rfl, h⟩ := hxv.open ht
    have hkind := h.kind
    have hn := h.n
    have hlen := h.len
    have hbig := h.sl.big
    have hvl : ∀ b, v.ownBlock = some b → b < w.heap.size := fun b e => hv.lt e
    obtain ⟨adv, cv, rfl⟩ := hv.slice
    refine enter Tryz.func319 rfl rfl rfl _ (Pick.sub (l := [0, 1]) (.cons rfl (.cons rfl .nil))) ?_
    refine RK.seq ?_
    refine RK.region ?_
    refine RL.op (.free rfl) rfl rfl (Does.box rfl) ?_
    rintro _ w1 ⟨b3, rfl, hn1⟩
    have hb3 := hn1.at_
    have hB1 : Blk w1 b3 327 [.int .i64 op, .int .u64 (a : Int), .int .u64 (b : Int), .int .u64 (c : Int), .int .u64 (d : Int), .slice ad n cap] := hn1.blk
    have hnb3 : ¬ OB (.slice adv P.length cv) b3 := fun e => by have := hvl _ e; omega
    have hv1 : RowS w1 (.slice adv P.length cv) P := hv.mod hn1.grow (fun _ _ h => h)
    have hs1 := hn1.size
    refine RL.p rfl rfl ?_
    refine RL.done ?_
    refine RK.seq ?_
    refine RK.region ?_
    refine RL.p rfl rfl ?_
    refine RL.q (.free rfl) rfl rfl (Yld.lenSl u333 rfl) ?_
    refine RL.p rfl rfl ?_
    refine RL.done ?_
    iterate 2 refine RK.seq ?_
    refine RK.region ?_
    refine RL.q (.free rfl) rfl rfl (Yld.fieldAddr fo327_0 rfl) ?_
    refine RL.q (.free rfl) rfl rfl (Yld.load p3 rfl (at1 (hB1.cell rfl))) ?_
    refine RL.done ?_
    refine RK.block ?_
    refine RK.seq ?_
    refine RK.region ?_
    iterate 2 refine RL.p rfl rfl ?_
    refine RL.done ?_
    first | refine RK.condD rfl (fun h12 => ?_) (fun h12 => ?_) | refine RK.condN rfl (fun h12 => ?_) (fun h12 => ?_) | refine RK.cond rfl (fun h12 => ?_) (fun h12 => ?_)
    · obtain ⟨hxe, hW⟩ : x = .set [a, b, c, d] ∧ W4 [a, b, c, d] := by
          rcases hkind with ⟨h1, _, _, h2⟩ | ⟨o, _, h5, _, _, _, _, h6⟩
          · exact ⟨h1, h2⟩
          · omega
      subst hxe
      refine RK.seq ?_
      refine RK.region ?_
      refine RL.p rfl rfl ?_
      refine RL.q (.free rfl) rfl rfl (Yld.fieldAddr fo327_1 rfl) ?_
      refine RL.q (.free rfl) rfl rfl (Yld.loadN (cs := wds [a, b, c, d]) a324 rfl (atN (blk_set4 hB1))) ?_
      refine RL.q (.free rfl) rfl rfl (Yld.build (v := .agg #[.int .i64 1, .int .u64 (a : Int), .int .u64 (b : Int), .int .u64 (c : Int), .int .u64 (d : Int), .int .i64 0, .int .i64 0]) rfl (fun w => by kernel_rfl)) ?_
      refine RL.op (.free rfl) rfl rfl (Does.slice1 u333 i381 rfl rfl rfl rfl rfl) ?_
      rintro _ w4 ⟨b4, rfl, hn4⟩
      simp only [sz] at hb
      refine RL.op (.free rfl) rfl rfl (Does.append u333 i381 rfl rfl rfl rfl rfl (hv1.mod hn4.grow (fun _ _ h => h)) (Sl.new hn4 7 1 rfl (by omega) (fun h => h)) (rfl) (by omega)) ?_
      rintro u5 w5 ⟨hr5, hm5, hu5⟩
      refine RL.p rfl rfl ?_
      refine RL.done ?_
      refine RK.ret_of Tryz.func319 (res1 rfl rfl) ?_ _
      exact ⟨_, rfl, LayR.grow0 hn1.grow (app_one (s := byteS [a, b, c, d]) hn4 hr5 hm5 hu5)⟩
    · obtain ⟨o, rfl, rfl, h3⟩ : ∃ o : Nat, x = .node o l ∧ op = o ∧ (o = 2 ∨ o = 3 ∧ cnt l ≠ 0 ∨ (o = 4 ∨ o = 5 ∨ o = 6) ∧ cnt l = 1) := by
          rcases hkind with ⟨_, _, h2, _⟩ | ⟨o, h4, h5, _, _, _, _, h6⟩
          · omega
          · exact ⟨o, h4, h5, h6⟩
      clear hkind
      have hk : ∀ y ∈ kidsR l, layC y := fun y hy => lay_ok m y (by have := hiR_kid hy; simp only [hiR] at hx; omega) (kids_tr h.tr y hy)
      refine RK.seq ?_
      refine RK.region ?_
      iterate 2 refine RL.p rfl rfl ?_
      refine RL.done ?_
      first | refine RK.condD rfl (fun h20 => ?_) (fun h20 => ?_) | refine RK.condN rfl (fun h20 => ?_) (fun h20 => ?_) | refine RK.cond rfl (fun h20 => ?_) (fun h20 => ?_)
      · have ho : o = 2 := by omega
        subst ho
        rw [node_sz, if_pos rfl] at hb
        have hkl : (kidsR l).length = n := by rw [kids_len]; omega
        have hszl := sz_cons l h.tr
        have hgood : GoodL (kidsR l) := kids_tr h.tr
        refine RK.seq ?_
        refine RK.region ?_
        refine RL.q (.free rfl) rfl rfl (Yld.fieldAddr fo327_2 rfl) ?_
        refine RL.q (.free rfl) rfl rfl (Yld.load p325 rfl (at1 (hB1.cell rfl))) ?_
        refine RL.q (.free rfl) rfl rfl (Yld.lenSl u325 rfl) ?_
        refine RL.p rfl rfl ?_
        refine RL.done ?_
        refine RK.block ?_
        refine RK.loop (fun s : Nat × Value => [(0, s.2), (23, .slice ad n cap), (24, .int .i64 (n : Int)), (25, .int .i64 (s.1 : Int))]) (fun s w' => s.1 ≤ n ∧ LayR w w' (.slice adv P.length cv) s.2 (P ++ code (lstS ((kidsR l).take s.1)) none P.length)) (fun s => n - s.1) (0, .slice adv P.length cv) ⟨rfl, rfl, rfl, rfl, trivial⟩ ⟨by simp, by simpa [code, lstS] using (LayR.refl hv).grow hn1.grow⟩ (fun s w2 hI ih => ?_)
        obtain ⟨k, u⟩ := s
        obtain ⟨hkn, hL⟩ := hI
        simp only at hkn hL
        refine RK.seq ?_
        refine RK.region ?_
        refine RL.p rfl rfl ?_
        refine RL.done ?_
        refine RK.seq ?_
        first | refine RK.condD rfl (fun h26 => ?_) (fun h26 => ?_) | refine RK.condN rfl (fun h26 => ?_) (fun h26 => ?_) | refine RK.cond rfl (fun h26 => ?_) (fun h26 => ?_)
        · obtain ⟨ck, y, b1, o1, rfl, hy, hym, hyv, hb1, hb1l, hcl⟩ := kid_far h.tr hn h.sl h.ks (k := k) (by simp only at h26; omega) hL.mod
          refine RK.skip ?_
          refine RK.seq ?_
          refine RK.block ?_
          refine RK.seq ?_
          refine RK.region ?_
          refine RL.q (.free rfl) rfl rfl (Yld.indexAddrN u325 i327 rfl rfl (by simp only at h26; omega)) ?_
          refine RL.q (.free rfl) rfl rfl (Yld.loadN (cs := celC ck) a327 rfl (atN (hcl))) ?_
          refine RL.op (.free rfl) rfl rfl (Does.alloc i327) ?_
          rintro _ w5 ⟨b5, rfl, hn5⟩
          refine RL.op' (.free rfl) rfl (Does.storeN i327 rfl rfl rfl rfl hn5.blk (Nat.le_refl 6)) ?_
          rintro _ w6 ⟨hb6, hm6, _⟩
          have hB6 : Blk w6 b5 327 (celC ck) := hb6
          have hg6 : Grow w2 w6 := hn5.grow.then hm6 (fun y hy e => by have e' : y = b5 := e; have := hn5.at_; omega)
          refine RL.done ?_
          refine RK.region ?_
          refine RL.p rfl rfl ?_
          refine RL.q (.free rfl) rfl rfl (Yld.loadN (cs := celC ck) a327 rfl (atN (blk0' hB6))) ?_
          have hyv6 : RxV (OB u) w6 y [ck] := RxV.off (M := fun b => Far w (.slice adv P.length cv) b) (fun b hb e => hL.own b e) y (RxV.grow hg6 y hyv)
          have hL6 := hL.grow hg6
          have hlen1 : (P ++ code (lstS ((kidsR l).take k)) none P.length).length = P.length + sz (lstS ((kidsR l).take k)) := by rw [List.length_append, codeL_len (tr_lst _ (hgood.take k))]
          have hsum := sum_take hy
          have hle1 := sum_take_le (kidsR l) (k + 1)
          have hszt := szS ((kidsR l).take k)
          refine RL.op (.free rfl) rfl rfl (Does.call rfl e319 (hk y hym _ ck u w6 hyv6 hL6.row (by rw [hlen1, hszt]; omega))) ?_
          rintro u7 w7 hL7
          have hL8 := hL6.trans hL7
          rw [hlen1, List.append_assoc, ← codeS_snoc, ← take_snoc hy] at hL8
          refine RL.p rfl rfl ?_
          refine RL.done ?_
          refine RK.inBlock ?_
          refine RK.region ?_
          refine RL.p rfl rfl ?_
          refine RL.re (d := 32) rfl rfl (succ_i64 (by omega)) ?_
          refine RL.p rfl rfl ?_
          refine RL.done ?_
          exact RK.back (ih (k + 1, u7) _ ⟨by simp only at h26 ⊢; omega, hL8⟩ (by simp only at h26 ⊢; omega)) ⟨rfl, rfl, rfl, rfl, trivial⟩
        · have ek : (kidsR l).take k = kidsR l := List.take_of_length_le (by simp only at h26; omega)
          rw [ek, lst_kids h.tr] at hL
          refine RK.exit rfl ?_
          refine RK.inBlock ?_
          refine RK.seq ?_
          refine RK.region ?_
          iterate 2 refine RL.p rfl rfl ?_
          refine RL.done ?_
          refine RK.ret_of Tryz.func319 (res1 rfl rfl) ?_ _
          exact ⟨_, rfl, hL⟩
      · refine RK.seq ?_
        refine RK.region ?_
        iterate 2 refine RL.p rfl rfl ?_
        refine RL.done ?_
        first | refine RK.condD rfl (fun h33 => ?_) (fun h33 => ?_) | refine RK.condN rfl (fun h33 => ?_) (fun h33 => ?_) | refine RK.cond rfl (fun h33 => ?_) (fun h33 => ?_)
        · have ho : o = 3 := by omega
          subst ho
          rw [node_sz, if_neg (by omega), if_pos rfl] at hb
          refine RK.seq ?_
          refine RK.region ?_
          refine RL.p rfl rfl ?_
          refine RL.q (.free rfl) rfl rfl (Yld.fieldAddr fo327_2 rfl) ?_
          refine RL.q (.free rfl) rfl rfl (Yld.load p325 rfl (at1 (hB1.cell rfl))) ?_
          refine RL.op (.free rfl) rfl rfl (Does.call rfl e341 (ways_lay h.tr hn h.cp hlen (by omega) hk P _ ((h.sl.mod (Mod.any' hn1.grow))) (RxV.grow hn1.grow _ h.ks) hv1 (by omega))) ?_
          rintro u5 w5 hL5
          refine RL.p rfl rfl ?_
          refine RL.done ?_
          refine RK.ret_of Tryz.func319 (res1 rfl rfl) ?_ _
          exact ⟨_, rfl, LayR.grow0 hn1.grow hL5⟩
        · refine RK.seq ?_
          refine RK.region ?_
          iterate 2 refine RL.p rfl rfl ?_
          refine RL.done ?_
          first | refine RK.condD rfl (fun h39 => ?_) (fun h39 => ?_) | refine RK.condN rfl (fun h39 => ?_) (fun h39 => ?_) | refine RK.cond rfl (fun h39 => ?_) (fun h39 => ?_)
          · have ho : o = 4 := by omega
            subst ho
            obtain ⟨ck, y, b1, o1, rfl, hy, hym, hyv, hb1, hb1l, hcl⟩ := kid_far h.tr hn h.sl h.ks (k := 0) (by omega) (Mod.any' hn1.grow)
            obtain ⟨y', rfl⟩ := only_kid h.tr (by omega)
            have hyy : y = y' := by simpa [kidsR] using hy.symm
            subst hyy
            have hyt : Tr false y := h.tr.1
            have hszy : sz (.cons y .nil) = sz y := by simp [sz]
            rw [node_sz] at hb
            rw [if_neg (by omega), if_neg (by omega), if_pos rfl, hszy] at hb
            refine RK.seq ?_
            refine RK.drawM (OB (.slice adv P.length cv)) [(0, false), (1, false), (2, false), (3, false), (6, false), (7, false), (8, false), (9, false), (4, true), (5, true), (10, true), (11, false)] [] mixed (by kernel_rfl) ?_
            iterate 3 refine DL.p rfl rfl rfl ?_
            refine DL.re (d := 43) rfl rfl (succ_i64 (by omega)) ?_
            refine DL.qf rfl (.free rfl) rfl rfl (Yld.build (v := .agg #[.int .i64 2, .int .u64 0, .int .u64 0, .int .u64 0, .int .u64 0, .int .i64 ((P.length + 1 : Nat) : Int), .int .i64 0]) rfl (fun w => by kernel_rfl)) ?_
            refine DL.qf rfl (.free rfl) rfl rfl (Yld.fieldAddr fo327_2 rfl) ?_
            refine DL.q rfl (.free rfl) rfl rfl rfl (Yld.load p325 rfl (atM (hB1.cell rfl) (hnb3))) (Mod.drew _ _) ?_
            refine DL.qf rfl (.free rfl) rfl rfl (Yld.indexAddr u325 i327 rfl rfl (by omega) (by omega)) ?_
            refine DL.q rfl (.free rfl) rfl rfl rfl (Yld.loadN (cs := celC ck) a327 rfl (atNM (hcl) (hb1))) (Mod.drew _ _) ?_
            refine DL.op rfl (.free rfl) rfl rfl (Does.slice1 u333 i381 rfl rfl rfl rfl rfl) ?_
            rintro _ w4 ⟨b4, rfl, hn4⟩
            refine ⟨(Mod.drew _ _).trans (Mod.any' hn4.grow), ?_⟩
            refine DL.op rfl (.free rfl) rfl rfl (Does.append u333 i381 rfl rfl rfl rfl rfl ((hv1.mod (Mod.drew No _) (fun _ _ h => h)).mod hn4.grow (fun _ _ h => h)) (Sl.new hn4 7 1 rfl (by omega) (fun h => h)) (rfl) (by omega)) ?_
            rintro u5 w5 ⟨hr5, hm5, hu5⟩
            have hL5 : LayR w1.drew w5 (.slice adv P.length cv) u5 (P ++ [splitS (P.length + 1) 0]) := app_one (s := splitS (P.length + 1) 0) hn4 hr5 hm5 hu5
            refine ⟨(Mod.drew _ _).trans hL5.mod, ?_⟩
            have hyv5 : RxV (OB u5) w5 y [ck] := RxV.off (M := fun b => Far w (.slice adv P.length cv) b) (fun b hb e => by
                rcases hL5.own b e with h3 | h3
                · exact .inl h3
                · exact .inr (by have : w1.drew.heap.size = w1.heap.size := rfl; omega)) y (RxV.mod hL5.mod (fun b _ e => .inl e) y (RxV.grow (Mod.drew _ _) y hyv))
            have hp5 : (P ++ [splitS (P.length + 1) 0]).length = P.length + 1 := by simp
            refine DL.op rfl (.free rfl) rfl rfl (Does.call rfl e319 (hk y (by simp [kidsR]) _ ck u5 w5 hyv5 hL5.row (by rw [hp5]; omega))) ?_
            rintro u6 w6 hL6
            rw [hp5] at hL6
            have hL56 := hL5.trans hL6
            refine ⟨(Mod.drew _ _).trans hL56.mod, ?_⟩
            have hL06 : LayR w w6 (.slice adv P.length cv) u6 _ := LayR.grow0 (hn1.grow.trans (Mod.drew _ _)) hL56
            have hp6 : ((P ++ [splitS (P.length + 1) 0]) ++ code y none (P.length + 1)).length = P.length + 1 + sz y := by rw [List.length_append, hp5, codeN_len hyt]
            refine DL.p rfl rfl rfl ?_
            refine DL.done ?_
            refine RK.seq ?_
            refine RK.region ?_
            iterate 2 refine RL.p rfl rfl ?_
            refine RL.q (.free rfl) rfl rfl (Yld.build (v := .agg #[.int .i64 3, .int .u64 0, .int .u64 0, .int .u64 0, .int .u64 0, .int .i64 ((P.length : Nat) : Int), .int .i64 0]) rfl (fun w => by kernel_rfl)) ?_
            refine RL.op (.free rfl) rfl rfl (Does.slice1 u333 i381 rfl rfl rfl rfl rfl) ?_
            rintro _ w7 ⟨b7, rfl, hn7⟩
            refine RL.op (.free rfl) rfl rfl (Does.append u333 i381 rfl rfl rfl rfl rfl (hL06.row.mod hn7.grow (fun _ _ h => h)) (Sl.new hn7 7 1 rfl (by omega) (fun h => h)) (rfl) (by omega)) ?_
            rintro u8 w8 ⟨hr8, hm8, hu8⟩
            have hL9 := hL06.trans (app_one (s := jumpS P.length) hn7 hr8 hm8 hu8)
            have hre : (((P ++ [splitS (P.length + 1) 0]) ++ code y none (P.length + 1)) ++ [jumpS P.length]) = P ++ splitS (P.length + 1) 0 :: (code y none (P.length + 1) ++ [jumpS P.length]) := by simp
            have hp9 : (P ++ splitS (P.length + 1) 0 :: (code y none (P.length + 1) ++ [jumpS P.length])).length = P.length + 2 + sz y := by rw [← hre, List.length_append, hp6]; show _ + 1 = _; omega
            rw [hre] at hL9
            obtain ⟨g, cap9, cs9, hue, hB9, hcs9, hturn⟩ := Row.turn hL9.row (by omega)
            subst hue
            rw [hp9] at hcs9
            refine RL.p rfl rfl ?_
            refine RL.done ?_
            refine RK.region ?_
            iterate 3 refine RL.p rfl rfl ?_
            refine RL.q (.free rfl) rfl rfl (Yld.lenSl u333 rfl) ?_
            refine RL.re (d := 60) rfl rfl (congrArg (Value.int .i64) (show _ = ((P.length + 2 + sz y : Nat) : Int) by rw [hp9])) ?_
            refine RL.q (.free rfl) rfl rfl (Yld.indexAddrN u333 i381 rfl rfl (by omega)) ?_
            refine RL.q (.free rfl) rfl rfl (Yld.fieldAddr fo381_3 rfl) ?_
            refine RL.op' (.free rfl) rfl (Does.store i3 rfl rfl rfl hB9 (setAt_of (by omega))) ?_
            rintro _ w11 ⟨hb11, hm11, _⟩
            have hL11 := lay_set (s' := splitS (P.length + 1) (P.length + 2 + sz y)) (i := 6) hL9 rfl (hturn w11 _ _ (by rw [hp9]; omega) (by have h9 := hb11; rw [Nat.zero_add] at h9; exact h9)) (by omega) rfl hm11
            refine RL.done ?_
            refine RK.inBlock ?_
            refine RK.seq ?_
            refine RK.region ?_
            iterate 2 refine RL.p rfl rfl ?_
            refine RL.done ?_
            refine RK.ret_of Tryz.func319 (res1 rfl rfl) ?_ _
            exact ⟨_, rfl, by simpa [code, sz] using hL11⟩
          · refine RK.seq ?_
            refine RK.region ?_
            iterate 2 refine RL.p rfl rfl ?_
            refine RL.done ?_
            first | refine RK.condD rfl (fun h63 => ?_) (fun h63 => ?_) | refine RK.condN rfl (fun h63 => ?_) (fun h63 => ?_) | refine RK.cond rfl (fun h63 => ?_) (fun h63 => ?_)
            · have ho : o = 5 := by omega
              subst ho
              obtain ⟨ck, y, b1, o1, rfl, hy, hym, hyv, hb1, hb1l, hcl⟩ := kid_far h.tr hn h.sl h.ks (k := 0) (by omega) (Mod.any' hn1.grow)
              obtain ⟨y', rfl⟩ := only_kid h.tr (by omega)
              have hyy : y = y' := by simpa [kidsR] using hy.symm
              subst hyy
              have hyt : Tr false y := h.tr.1
              have hszy : sz (.cons y .nil) = sz y := by simp [sz]
              rw [node_sz] at hb
              rw [if_neg (by omega), if_neg (by omega), if_neg (by omega), hszy] at hb
              refine RK.seq ?_
              refine RK.region ?_
              refine RL.p rfl rfl ?_
              refine RL.q (.free rfl) rfl rfl (Yld.fieldAddr fo327_2 rfl) ?_
              refine RL.q (.free rfl) rfl rfl (Yld.load p325 rfl (at1 (hB1.cell rfl))) ?_
              refine RL.q (.free rfl) rfl rfl (Yld.indexAddr u325 i327 rfl rfl (by omega) (by omega)) ?_
              refine RL.q (.free rfl) rfl rfl (Yld.loadN (cs := celC ck) a327 rfl (atN (hcl))) ?_
              have hyv5 : RxV (OB (.slice adv P.length cv)) w1 y [ck] := RxV.off (M := fun b => Far w (.slice adv P.length cv) b) (fun b hb e => .inl e) y hyv
              refine RL.op (.free rfl) rfl rfl (Does.call rfl e319 (hk y (by simp [kidsR]) _ ck _ w1 hyv5 hv1 (by omega))) ?_
              rintro u6 w6 hL6
              have hL06 := LayR.grow0 hn1.grow hL6
              have hp6 : (P ++ code y none P.length).length = P.length + sz y := by rw [List.length_append, codeN_len hyt]
              obtain ⟨ad6, c6, hue6⟩ := hL6.row.slice
              refine RL.p rfl rfl ?_
              refine RL.done ?_
              refine RK.region ?_
              iterate 3 refine RL.p rfl rfl ?_
              refine RL.q (.free rfl) rfl rfl (Yld.lenSl u333 (congrArg some hue6)) ?_
              refine RL.re (d := 74) rfl rfl (congrArg (Value.int .i64) (show _ = ((P.length + sz y : Nat) : Int) by rw [hp6])) ?_
              refine RL.p rfl rfl ?_
              refine RL.re (d := 75) rfl rfl (succ_i64 (by omega)) ?_
              refine RL.q (.free rfl) rfl rfl (Yld.build (v := .agg #[.int .i64 2, .int .u64 0, .int .u64 0, .int .u64 0, .int .u64 0, .int .i64 ((P.length : Nat) : Int), .int .i64 ((P.length + sz y + 1 : Nat) : Int)]) rfl (fun w => by kernel_rfl)) ?_
              refine RL.op (.free rfl) rfl rfl (Does.slice1 u333 i381 rfl rfl rfl rfl rfl) ?_
              rintro _ w7 ⟨b7, rfl, hn7⟩
              refine RL.op (.free rfl) rfl rfl (Does.append u333 i381 rfl rfl rfl rfl rfl (hL06.row.mod hn7.grow (fun _ _ h => h)) (Sl.new hn7 7 1 rfl (by omega) (fun h => h)) (rfl) (by omega)) ?_
              rintro u8 w8 ⟨hr8, hm8, hu8⟩
              have hL9 := hL06.trans (app_one (s := splitS P.length (P.length + sz y + 1)) hn7 hr8 hm8 hu8)
              refine RL.p rfl rfl ?_
              refine RL.done ?_
              refine RK.inBlock ?_
              refine RK.seq ?_
              refine RK.region ?_
              iterate 2 refine RL.p rfl rfl ?_
              refine RL.done ?_
              refine RK.ret_of Tryz.func319 (res1 rfl rfl) ?_ _
              exact ⟨_, rfl, by simpa [code, sz] using hL9⟩
            · have ho : o = 6 := by omega
              subst ho
              refine RK.seq ?_
              refine RK.region ?_
              iterate 2 refine RL.p rfl rfl ?_
              refine RL.done ?_
              refine RK.condT (hcT rfl (decide_eq_true (by omega))) ?_
              obtain ⟨ck, y, b1, o1, rfl, hy, hym, hyv, hb1, hb1l, hcl⟩ := kid_far h.tr hn h.sl h.ks (k := 0) (by omega) (Mod.any' hn1.grow)
              obtain ⟨y', rfl⟩ := only_kid h.tr (by omega)
              have hyy : y = y' := by simpa [kidsR] using hy.symm
              subst hyy
              have hyt : Tr false y := h.tr.1
              have hszy : sz (.cons y .nil) = sz y := by simp [sz]
              rw [node_sz] at hb
              rw [if_neg (by omega), if_neg (by omega), if_neg (by omega), hszy] at hb
              refine RK.seq ?_
              refine RK.drawM (OB (.slice adv P.length cv)) [(0, false), (1, false), (2, false), (3, false), (6, false), (7, false), (8, false), (9, false), (4, true), (5, true), (10, true), (11, false)] [] mixed (by kernel_rfl) ?_
              iterate 3 refine DL.p rfl rfl rfl ?_
              refine DL.re (d := 83) rfl rfl (succ_i64 (by omega)) ?_
              refine DL.qf rfl (.free rfl) rfl rfl (Yld.build (v := .agg #[.int .i64 2, .int .u64 0, .int .u64 0, .int .u64 0, .int .u64 0, .int .i64 ((P.length + 1 : Nat) : Int), .int .i64 0]) rfl (fun w => by kernel_rfl)) ?_
              refine DL.qf rfl (.free rfl) rfl rfl (Yld.fieldAddr fo327_2 rfl) ?_
              refine DL.q rfl (.free rfl) rfl rfl rfl (Yld.load p325 rfl (atM (hB1.cell rfl) (hnb3))) (Mod.drew _ _) ?_
              refine DL.qf rfl (.free rfl) rfl rfl (Yld.indexAddr u325 i327 rfl rfl (by omega) (by omega)) ?_
              refine DL.q rfl (.free rfl) rfl rfl rfl (Yld.loadN (cs := celC ck) a327 rfl (atNM (hcl) (hb1))) (Mod.drew _ _) ?_
              refine DL.op rfl (.free rfl) rfl rfl (Does.slice1 u333 i381 rfl rfl rfl rfl rfl) ?_
              rintro _ w4 ⟨b4, rfl, hn4⟩
              refine ⟨(Mod.drew _ _).trans (Mod.any' hn4.grow), ?_⟩
              refine DL.op rfl (.free rfl) rfl rfl (Does.append u333 i381 rfl rfl rfl rfl rfl ((hv1.mod (Mod.drew No _) (fun _ _ h => h)).mod hn4.grow (fun _ _ h => h)) (Sl.new hn4 7 1 rfl (by omega) (fun h => h)) (rfl) (by omega)) ?_
              rintro u5 w5 ⟨hr5, hm5, hu5⟩
              have hL5 : LayR w1.drew w5 (.slice adv P.length cv) u5 (P ++ [splitS (P.length + 1) 0]) := app_one (s := splitS (P.length + 1) 0) hn4 hr5 hm5 hu5
              refine ⟨(Mod.drew _ _).trans hL5.mod, ?_⟩
              have hyv5 : RxV (OB u5) w5 y [ck] := RxV.off (M := fun b => Far w (.slice adv P.length cv) b) (fun b hb e => by
                  rcases hL5.own b e with h3 | h3
                  · exact .inl h3
                  · exact .inr (by have : w1.drew.heap.size = w1.heap.size := rfl; omega)) y (RxV.mod hL5.mod (fun b _ e => .inl e) y (RxV.grow (Mod.drew _ _) y hyv))
              have hp5 : (P ++ [splitS (P.length + 1) 0]).length = P.length + 1 := by simp
              refine DL.op rfl (.free rfl) rfl rfl (Does.call rfl e319 (hk y (by simp [kidsR]) _ ck u5 w5 hyv5 hL5.row (by rw [hp5]; omega))) ?_
              rintro u6 w6 hL6
              rw [hp5] at hL6
              have hL56 := hL5.trans hL6
              refine ⟨(Mod.drew _ _).trans hL56.mod, ?_⟩
              have hL06 : LayR w w6 (.slice adv P.length cv) u6 _ := LayR.grow0 (hn1.grow.trans (Mod.drew _ _)) hL56
              have hp6 : ((P ++ [splitS (P.length + 1) 0]) ++ code y none (P.length + 1)).length = P.length + 1 + sz y := by rw [List.length_append, hp5, codeN_len hyt]
              have hre : ((P ++ [splitS (P.length + 1) 0]) ++ code y none (P.length + 1)) = P ++ splitS (P.length + 1) 0 :: code y none (P.length + 1) := by simp
              have hp9 : (P ++ splitS (P.length + 1) 0 :: code y none (P.length + 1)).length = P.length + 1 + sz y := by rw [← hre, hp6]
              have hL9 := hL06
              rw [hre] at hL9
              obtain ⟨g, cap9, cs9, hue, hB9, hcs9, hturn⟩ := Row.turn hL9.row (by omega)
              subst hue
              rw [hp9] at hcs9
              refine DL.p rfl rfl rfl ?_
              refine DL.done ?_
              refine RK.region ?_
              iterate 3 refine RL.p rfl rfl ?_
              refine RL.q (.free rfl) rfl rfl (Yld.lenSl u333 rfl) ?_
              refine RL.re (d := 95) rfl rfl (congrArg (Value.int .i64) (show _ = ((P.length + 1 + sz y : Nat) : Int) by rw [hp9])) ?_
              refine RL.q (.free rfl) rfl rfl (Yld.indexAddrN u333 i381 rfl rfl (by omega)) ?_
              refine RL.q (.free rfl) rfl rfl (Yld.fieldAddr fo381_3 rfl) ?_
              refine RL.op' (.free rfl) rfl (Does.store i3 rfl rfl rfl hB9 (setAt_of (by omega))) ?_
              rintro _ w11 ⟨hb11, hm11, _⟩
              have hL11 := lay_set (s' := splitS (P.length + 1) (P.length + 1 + sz y)) (i := 6) hL9 rfl (hturn w11 _ _ (by rw [hp9]; omega) (by have h9 := hb11; rw [Nat.zero_add] at h9; exact h9)) (by omega) rfl hm11
              refine RL.done ?_
              refine RK.inBlock ?_
              refine RK.seq ?_
              refine RK.region ?_
              iterate 2 refine RL.p rfl rfl ?_
              refine RL.done ?_
              refine RK.ret_of Tryz.func319 (res1 rfl rfl) ?_ _
              exact ⟨_, rfl, by simpa [code, sz] using hL11⟩
theorem progMake_ok (x : Rx) (ht : Tr false x) (hs : sz x ≤ 1000) (M : Nat → Prop) (k : Cel) (w : World) (hv : RxV M w x [k]) : Fx Tryz.prog 295 [.agg (celC k).toArray] w (fun u w' => (∃ v, u = .tuple #[v, .bool (decide (sz x + 1 ≤ 40))] ∧ (sz x + 1 ≤ 40 → RowS w' v (whole x))) ∧ Grow w w') := by
  refine enter Tryz.func295 rfl rfl rfl _ (Pick.sub (l := [0]) (.cons rfl .nil)) ?_
  refine RK.seq ?_
  refine RK.region ?_
  refine RL.op (.free rfl) rfl rfl (Does.box rfl) ?_
  rintro _ w1 ⟨b1, rfl, hn1⟩
  iterate 2 refine RL.p rfl rfl ?_
  refine RL.done ?_
  refine RK.seq ?_
  refine RK.region ?_
  refine RL.q (.free rfl) rfl rfl (Yld.loadN (cs := celC k) a327 rfl (atN (blk0' hn1.blk))) ?_
  refine RL.op (.free rfl) rfl rfl (Does.call rfl e318 (sizeM_ok x ht hs M k _ (RxV.grow hn1.grow x hv))) ?_
  rintro _ w2 ⟨rfl, hg2⟩
  refine RL.p rfl rfl ?_
  refine RL.done ?_
  iterate 2 refine RK.seq ?_
  refine RK.region ?_
  iterate 3 refine RL.p rfl rfl ?_
  refine RL.knownF (d := 9) rfl rfl (decide_eq_false (by omega)) ?_
  iterate 2 refine RL.q (.yes rfl rfl rfl) rfl rfl (Yld.pure rfl) ?_
  refine RL.p rfl rfl ?_
  refine RL.done ?_
  first | refine RK.condD rfl (fun h12 => ?_) (fun h12 => ?_) | refine RK.condN rfl (fun h12 => ?_) (fun h12 => ?_) | refine RK.cond rfl (fun h12 => ?_) (fun h12 => ?_)
  · refine RK.seq ?_
    refine RK.region ?_
    iterate 2 refine RL.p rfl rfl ?_
    refine RL.done ?_
    refine RK.ret_of Tryz.func295 (res2 rfl rfl rfl) ?_ _
    exact ⟨_, rfl, ⟨_, by rw [decide_eq_false (by omega)], fun h => by omega⟩, hn1.grow.trans hg2⟩
  · refine RK.skip ?_
    refine RK.seq ?_
    refine RK.region ?_
    refine RL.q (.free rfl) rfl rfl (Yld.loadN (cs := celC k) a327 rfl (atN (blk0' (hn1.blk.mod hg2 (fun h => h))))) ?_
    refine RL.op (.free rfl) rfl rfl (Does.call rfl e319 (lay_ok _ x (Nat.le_refl _) ht [] k (.slice none 0 0) w2 (RxV.off (M := fun _ => False) (fun b _ e => by simp [OB, Value.ownBlock] at e) x (RxV.off (fun b _ e => e.elim) x (RxV.grow (hn1.grow.trans hg2) x hv))) (Row.nil _ _ _) (by simp; omega))) ?_
    rintro u3 w3 hL3
    refine RL.q (.free rfl) rfl rfl (Yld.build (v := .agg #[.int .i64 4, .int .u64 0, .int .u64 0, .int .u64 0, .int .u64 0, .int .i64 0, .int .i64 0]) rfl (fun w => by kernel_rfl)) ?_
    refine RL.op (.free rfl) rfl rfl (Does.slice1 u333 i381 rfl rfl rfl rfl rfl) ?_
    rintro _ w4 ⟨b4, rfl, hn4⟩
    have hp3 : ([] ++ code x none ([] : List Stp).length).length = sz x := by simp [codeN_len ht]
    refine RL.op (.free rfl) rfl rfl (Does.append u333 i381 rfl rfl rfl rfl rfl (hL3.row.mod hn4.grow (fun _ _ h => h)) (Sl.new hn4 7 1 rfl (by omega) (fun h => h)) (rfl) (by rw [hp3]; omega)) ?_
    rintro u5 w5 ⟨hr5, hm5, hu5⟩
    have hL5 := hL3.trans (app_one (s := matchS) hn4 hr5 hm5 hu5)
    iterate 2 refine RL.p rfl rfl ?_
    refine RL.done ?_
    refine RK.ret_of Tryz.func295 (res2 rfl rfl rfl) ?_ _
    exact ⟨_, rfl, ⟨_, by rw [decide_eq_true (by omega)], fun _ => by simpa [whole] using hL5.row⟩, (hn1.grow.trans hg2).trans (hL5.mod.mono fun b _ e => by simp [OB, Value.ownBlock] at e)⟩
end Go.Proofs.YtnnmgfnhblbolaaGreatDoor
set_option linter.unusedVariables false
set_option linter.unusedSimpArgs false
set_option maxHeartbeats 400000
set_option maxRecDepth 100000
namespace Go.Proofs.YtnnmgfnhblbolaaGreatDoor
open Go Go.X
structure St where
  most : Int
  last : Int
  out : List Int
  al : List (Int × List Lab × Nat)
  has : List (Int × List Lab)
  rows : List (LabK × List Int)
def own (p q ix mh mr : Nat) (vo vl : Value) : Nat → Prop := fun b => b = p ∨ b = q ∨ b = mh ∨ b = mr ∨ vo.ownBlock = some b ∨ vl.ownBlock = some b ∨ b = ix
def pub (a : Al) : Int × List Lab × Nat := (a.id, a.ls, a.val)
structure SA (w : World) (p : Nat) (s : St) (M : Nat → Prop) (q ix mh mr : Nat) (vo vl : Value) (al : List Al) : Prop where
  blk : Blk w p 118 [pp q, pp ix, vl]
  pool : PoolAt w q s.most s.last s.out vo
  idx : IdxAt M w ix mh mr s.has s.rows
  row : Row w 137 3 vl al.length (al.flatMap alC)
  als : al.map pub = s.al
  sls : ∀ a ∈ al, SlL M w a.v a.ls
  ownM : ∀ b, own p q ix mh mr vo vl b → M b
  ltM : ∀ b, M b → b < w.heap.size
def StoreX (O M : Nat → Prop) (w : World) (p : Nat) (s : St) : Prop := ∃ q ix mh mr vo vl al, (∀ b, O b ↔ own p q ix mh mr vo vl b) ∧ SA w p s M q ix mh mr vo vl al
abbrev StoreAt (w : World) (p : Nat) (s : St) (M : Nat → Prop) : Prop := StoreX M M w p s
theorem IdxAt.mps {M : Nat → Prop} {w : World} {ix mh mr : Nat} {has : List (Int × List Lab)} {rows : List (LabK × List Int)} (h : IdxAt M w ix mh mr has rows) : Mp w mh ∧ Mp w mr := by
  obtain ⟨l, _, h2, _⟩ := h.hl
  obtain ⟨r, _, h3, _⟩ := h.rl
  exact ⟨h2.mp, h3.mp⟩
theorem SA.own_lt {w : World} {p : Nat} {s : St} {M : Nat → Prop} {q ix mh mr : Nat} {vo vl : Value} {al : List Al} (h : SA w p s M q ix mh mr vo vl al) {b : Nat} (hb : own p q ix mh mr vo vl b) : b < w.heap.size := h.ltM b (h.ownM b hb)
theorem SA.lt {w : World} {p : Nat} {s : St} {M : Nat → Prop} {q ix mh mr : Nat} {vo vl : Value} {al : List Al} (h : SA w p s M q ix mh mr vo vl al) {b : Nat} (hb : M b) : b < w.heap.size := h.ltM b hb
theorem own_lt {w : World} {p q ix mh mr : Nat} {cs : List Value} {tp : TypeId} {m l : Int} {o : List Int} {vo vl : Value} {tl k n : Nat} {xs : List Value} {M : Nat → Prop} {has : List (Int × List Lab)} {rows : List (LabK × List Int)} (hb : Blk w p tp cs) (hp : PoolAt w q m l o vo) (hi : IdxAt M w ix mh mr has rows) (hr : Row w tl k vl n xs) : ∀ b, own p q ix mh mr vo vl b → b < w.heap.size := by
  rintro b (rfl | rfl | rfl | rfl | e | e | rfl)
  · exact hb.lt
  · exact hp.blk.lt
  · exact hi.mps.1.lt
  · exact hi.mps.2.lt
  · exact hp.row.lt e
  · exact hr.lt e
  · exact hi.blk.lt
theorem StoreX.lt {w : World} {p : Nat} {s : St} {O M : Nat → Prop} (h : StoreX O M w p s) {b : Nat} (hb : M b) : b < w.heap.size := by
  obtain ⟨q, ix, mh, mr, vo, vl, al, hO, h⟩ := h
  exact h.lt hb
theorem PoolAt.mod {w w' : World} {p : Nat} {most last : Int} {out : List Int} {v : Value} {M0 : Nat → Prop} (h : PoolAt w p most last out v) (hm : Mod M0 w w') (n1 : ¬ M0 p) (n2 : ∀ b, v.ownBlock = some b → ¬ M0 b) : PoolAt w' p most last out v :=
  ⟨h.blk.mod hm n1, h.row.mod hm n2, h.ne⟩
theorem SA.grow {w w' : World} {p : Nat} {s : St} {M : Nat → Prop} {q ix mh mr : Nat} {vo vl : Value} {al : List Al} (h : SA w p s M q ix mh mr vo vl al) (hg : Grow w w') : SA w' p s M q ix mh mr vo vl al :=
  ⟨h.blk.mod hg (fun h => h), h.pool.mod hg (fun h => h) (fun _ _ h => h), h.idx.mod hg (fun _ _ h => h.elim) (fun h => h) (fun h => h) (fun h => h), h.row.mod hg (fun _ _ h => h), h.als, fun a ha => (h.sls a ha).mod (Mod.any' hg), h.ownM, fun b hb => Nat.lt_of_lt_of_le (h.ltM b hb) hg.size⟩
theorem StoreX.grow {w w' : World} {p : Nat} {s : St} {O M : Nat → Prop} (h : StoreX O M w p s) (hg : Grow w w') : StoreX O M w' p s := by
  obtain ⟨q, ix, mh, mr, vo, vl, al, hO, h⟩ := h
  exact ⟨q, ix, mh, mr, vo, vl, al, hO, h.grow hg⟩
theorem StoreX.sub {w : World} {p : Nat} {s : St} {O M : Nat → Prop} (h : StoreX O M w p s) {b : Nat} (hb : O b) : M b := by
  obtain ⟨q, ix, mh, mr, vo, vl, al, hO, h⟩ := h
  exact h.ownM b ((hO b).1 hb)
theorem StoreX.off {w : World} {p : Nat} {s : St} {O M M' : Nat → Prop} (h : StoreX O M w p s) (h1 : ∀ b, O b → M' b) (h2 : ∀ b, M' b → M b) : StoreX O M' w p s := by
  obtain ⟨q, ix, mh, mr, vo, vl, al, hO, h⟩ := h
  exact ⟨q, ix, mh, mr, vo, vl, al, hO, h.blk, h.pool, h.idx.off fun b _ e => h2 b e, h.row, h.als, fun a ha => (h.sls a ha).off (by omega) (fun b _ e => h2 b e), fun b e => h1 b ((hO b).2 e), fun b e => h.ltM b (h2 b e)⟩
theorem StoreX.at_ {w : World} {p : Nat} {s : St} {O M : Nat → Prop} (h : StoreX O M w p s) : StoreAt w p s O := h.off (fun _ e => e) (fun _ e => h.sub e)
theorem StoreX.mod {w w' : World} {p : Nat} {s : St} {O M N : Nat → Prop} (h : StoreX O M w p s) (hm : Mod N w w') (h1 : ∀ b, O b → ¬ N b) (h2 : ∀ b, N b → b < w.heap.size → M b) : StoreX O M w' p s := by
  obtain ⟨q, ix, mh, mr, vo, vl, al, hO, h⟩ := h
  have h3 : ∀ b, own p q ix mh mr vo vl b → ¬ N b := fun b e => h1 b ((hO b).2 e)
  exact ⟨q, ix, mh, mr, vo, vl, al, hO, h.blk.mod hm (h3 p (.inl rfl)), h.pool.mod hm (h3 q (.inr (.inl rfl))) (fun b e => h3 b (.inr (.inr (.inr (.inr (.inl e)))))), h.idx.mod hm (fun b hb e => h2 b e hb) (h3 ix (.inr (.inr (.inr (.inr (.inr (.inr rfl))))))) (h3 mh (.inr (.inr (.inl rfl)))) (h3 mr (.inr (.inr (.inr (.inl rfl))))), h.row.mod hm (fun b e => h3 b (.inr (.inr (.inr (.inr (.inr (.inl e))))))), h.als, fun a ha => (h.sls a ha).mod (hm.mono fun b hb e => h2 b e hb), h.ownM, fun b e => Nat.lt_of_lt_of_le (h.ltM b e) hm.size⟩
def capS (m : Int) : Int := if 16 < (if 1 > m then 1 else m) then 16 else if 1 > m then 1 else m
def St.new (m : Int) : St := ⟨capS m, 0, [], [], [], []⟩
theorem alertNew_ok (m : Int) (w : World) : Fx Tryz.prog 22 [.int .i64 m] w (fun u w' => ∃ p M, u = pp p ∧ StoreAt w' p (St.new m) M ∧ (∀ b, M b → w.heap.size ≤ b) ∧ Grow w w') := by
  refine enter Tryz.func22 rfl rfl rfl _ (Pick.sub (l := [0]) (.cons rfl .nil)) ?_
  refine RK.seq ?_
  refine RK.region ?_
  refine RL.p rfl rfl ?_
  refine RL.done ?_
  refine RK.seq ?_
  refine RK.region ?_
  refine RL.p rfl rfl ?_
  refine RL.q (.free rfl) rfl rfl (Yld.max2 rfl rfl) ?_
  refine RL.q (.free rfl) rfl rfl (Yld.min2 rfl rfl) ?_
  refine RL.op (.free rfl) rfl rfl (Does.call rfl e23 (poolNew_ok _ _)) ?_
  rintro _ w1 ⟨q, rfl, hq, hp1, hg1, _⟩
  refine RL.op (.free rfl) rfl rfl (Does.call rfl e50 (idxNew_ok _)) ?_
  rintro _ w2 ⟨ix, mh, mr, rfl, hix, hi2, hg2⟩
  refine RL.q (.free rfl) rfl rfl (Yld.build (v := .agg #[pp q, pp ix, .slice none 0 0]) rfl (fun w => by kernel_rfl)) ?_
  refine RL.op (.free rfl) rfl rfl (Does.box rfl) ?_
  rintro _ w3 ⟨p, rfl, hn3⟩
  refine RL.p rfl rfl ?_
  refine RL.done ?_
  refine RK.ret_of Tryz.func22 (res1 rfl rfl) ?_ _
  exact ⟨_, rfl, p, own p q ix mh mr (.slice none 0 0) (.slice none 0 0), rfl, ⟨q, ix, mh, mr, .slice none 0 0, .slice none 0 0, [], fun _ => Iff.rfl, hn3.blk, by
      have e : (if 0 > capS m then 0 else capS m) = capS m := by unfold capS; split <;> omega
      have h1 : PoolAt w3 q (if 0 > capS m then 0 else capS m) 0 [] (.slice none 0 0) := hp1.mod (hg2.trans hn3.grow) (fun h => h) (fun _ _ h => h)
      rw [e] at h1
      exact h1, (hi2 _).mod hn3.grow (fun _ _ h => h.elim) (fun h => h) (fun h => h) (fun h => h), Row.nil _ _ _, rfl, by simp, fun _ e => e, own_lt hn3.blk (hp1.mod (hg2.trans hn3.grow) (fun h => h) (fun _ _ h => h)) ((hi2 No).mod hn3.grow (fun _ _ h => h.elim) (fun h => h) (fun h => h) (fun h => h)) (Row.nil w3 3 1)⟩, fun b hb => by
      have h1 := hn3.at_; have h2 := hg1.size; have h3 := hg2.size
      rcases hb with rfl | rfl | rfl | rfl | e | e | rfl
      · omega
      · omega
      · have := hix b (.inr (.inl rfl)); omega
      · have := hix b (.inr (.inr rfl)); omega
      · simp [Value.ownBlock] at e
      · simp [Value.ownBlock] at e
      · have := hix b (.inl rfl); omega
    , (hg1.trans hg2).trans hn3.grow⟩
theorem alertLen_ok (w : World) (p : Nat) (s : St) (M : Nat → Prop) (h : StoreAt w p s M) : Fx Tryz.prog 26 [pp p] w (fun u w' => u = .int .i64 s.al.length ∧ w = w') := by
  obtain ⟨q, ix, mh, mr, vo, vl, al, hO, h⟩ := h
  obtain ⟨ad, c, rfl⟩ := h.row.slice
  refine enter Tryz.func26 rfl rfl rfl _ (Pick.sub (l := [0]) (.cons rfl .nil)) ?_
  refine RK.seq ?_
  refine RK.region ?_
  refine RL.p rfl rfl ?_
  refine RL.done ?_
  refine RK.seq ?_
  refine RK.region ?_
  iterate 2 refine RL.p rfl rfl ?_
  refine RL.q (.free rfl) rfl rfl (Yld.fieldAddr fo118_2 rfl) ?_
  refine RL.q (.free rfl) rfl rfl (Yld.load p116 rfl (at1 (h.blk.cell rfl))) ?_
  refine RL.q (.free rfl) rfl rfl (Yld.lenSl u116 rfl) ?_
  refine RL.p rfl rfl ?_
  refine RL.done ?_
  refine RK.ret_of Tryz.func26 (res1 rfl rfl) ?_ _
  exact ⟨_, rfl, by rw [← h.als]; simp, rfl⟩
end Go.Proofs.YtnnmgfnhblbolaaGreatDoor
set_option linter.unusedVariables false
set_option linter.unusedSimpArgs false
set_option maxHeartbeats 400000
set_option maxRecDepth 100000
namespace Go.Proofs.YtnnmgfnhblbolaaGreatDoor
open Go Go.X
end Go.Proofs.YtnnmgfnhblbolaaGreatDoor
set_option linter.unusedVariables false
set_option linter.unusedSimpArgs false
set_option maxHeartbeats 400000
set_option maxRecDepth 100000
namespace Go.Proofs.YtnnmgfnhblbolaaGreatDoor
open Go Go.X
def fullS (most last : Int) (out : List Int) : Bool := decide (most ≤ out.length ∨ last = 2147483647)
structure Ok (s : St) : Prop where
  last0 : 0 ≤ s.last
  last1 : s.last ≤ 2147483647
  most : s.most ≤ 16
  outLe : (s.out.length : Int) ≤ s.most
  alOut : s.al.length = s.out.length
  has : ∀ t ∈ s.has, t.1 ≤ s.last
  rows : ∀ t ∈ s.rows, (t.2.length : Int) ≤ 6 * s.last
  vals : ∀ a ∈ s.al, a.2.2 < 18446744073709551616
def postS (s : St) (ls : List Lab) (val : Nat) : St × Int × Bool × Int :=
  if isS ls = false then (s, 0, false, 1) else
  match findS (s.al.map (·.2.1)) ls with
  | some i => ({ s with al := s.al.modify i fun a => (a.1, a.2.1, canS val) }, ((s.al[i]?).map (·.1)).getD 0, false, 0)
  | none => if fullS s.most s.last s.out then (s, 0, false, 10) else
    ({ most := s.most, last := s.last + 1, out := s.out ++ [s.last + 1], al := s.al ++ [(s.last + 1, ls, canS val)], has := putM s.has (s.last + 1) ls, rows := addRows s.rows (s.last + 1) ls }, s.last + 1, true, 0)
theorem Ok.new (m : Int) : Ok (St.new m) := by
  refine ⟨by simp [St.new], by simp [St.new], ?_, ?_, rfl, by simp [St.new], by simp [St.new], by simp [St.new]⟩
  · simp only [St.new, capS]; split <;> omega
  · simp only [St.new, capS]; simp; split <;> omega
end Go.Proofs.YtnnmgfnhblbolaaGreatDoor
set_option linter.unusedVariables false
set_option linter.unusedSimpArgs false
set_option maxHeartbeats 400000
set_option maxRecDepth 100000
namespace Go.Proofs.YtnnmgfnhblbolaaGreatDoor
open Go Go.X
end Go.Proofs.YtnnmgfnhblbolaaGreatDoor
set_option linter.unusedVariables false
set_option linter.unusedSimpArgs false
set_option maxHeartbeats 400000
set_option maxRecDepth 100000
namespace Go.Proofs.YtnnmgfnhblbolaaGreatDoor
open Go Go.X
def At (w0 w : World) (p : Nat) (s : St) : Prop := ∃ M, StoreAt w p s M ∧ (∀ b, M b → w0.heap.size ≤ b) ∧ Grow w0 w ∧ Ok s
theorem At.grow {w0 w w' : World} {p : Nat} {s : St} (h : At w0 w p s) (hg : Grow w w') : At w0 w' p s := by
  obtain ⟨M, h1, h2, h3, h4⟩ := h
  exact ⟨M, h1.grow hg, h2, h3.trans hg, h4⟩
theorem At.all {w0 w : World} {p : Nat} {s : St} (h : At w0 w p s) : Grow w0 w := by
  obtain ⟨M, h1, h2, h3, h4⟩ := h
  exact h3
theorem At.len {w0 w : World} {p : Nat} {s : St} (h : At w0 w p s) : Fx Tryz.prog 26 [pp p] w (fun u w' => u = .int .i64 s.al.length ∧ w = w') := by
  obtain ⟨M, h1, h2, h3, h4⟩ := h
  exact alertLen_ok w p s M h1
end Go.Proofs.YtnnmgfnhblbolaaGreatDoor
set_option linter.unusedVariables false
set_option linter.unusedSimpArgs false
set_option maxHeartbeats 400000
set_option maxRecDepth 100000
namespace Go.Proofs.YtnnmgfnhblbolaaGreatDoor
open Go Go.X
end Go.Proofs.YtnnmgfnhblbolaaGreatDoor
set_option linter.unusedVariables false
set_option linter.unusedSimpArgs false
set_option maxHeartbeats 400000
set_option maxRecDepth 100000
namespace Go.Proofs.YtnnmgfnhblbolaaGreatDoor
open Go Go.X
abbrev Ris (l : List Int) : Prop := l.Pairwise fun x y => x < y
theorem Ris.nodup {l : List Int} (h : Ris l) : l.Nodup := List.Pairwise.imp (fun h e => by omega) h
theorem ext_ris {l1 l2 : List Int} (h1 : Ris l1) (h2 : Ris l2) (h : ∀ x, x ∈ l1 ↔ x ∈ l2) : l1 = l2 := by
  have hp : l1.Perm l2 := (List.perm_ext_iff_of_nodup h1.nodup h2.nodup).2 h
  exact List.Perm.eq_of_pairwise (le := fun a b => a < b) (fun a b _ _ h1 h2 => by omega) h1 h2 hp
theorem compactUpTo_mem (d : Array Int) : ∀ m, m ≤ d.size → ∀ x, x ∈ Lib.compactUpTo d m ↔ ∃ j, j < m ∧ d[j]! = x := by
  intro m
  induction m with
  | zero => intro _ x; simp [Lib.compactUpTo]
  | succ m ih =>
    intro hm x
    rw [Lib.compactUpTo_succ, List.mem_append, ih (by omega)]
    constructor
    · rintro (⟨j, hj, e⟩ | h)
      · exact ⟨j, by omega, e⟩
      · split at h
        · simp at h; exact ⟨m, by omega, h.symm⟩
        · simp at h
    · rintro ⟨j, hj, e⟩
      by_cases hjm : j = m
      · subst hjm
        cases hk : Lib.keeps d j with
        | true => right; simp [e]
        | false =>
          left
          simp only [Lib.keeps, decide_eq_false_iff_not, not_or, Decidable.not_not] at hk
          exact ⟨j - 1, by omega, by rw [← hk.2]; exact e⟩
      · exact .inl ⟨j, by omega, e⟩
theorem mem_compact (zs : List Int) (x : Int) : x ∈ Lib.compact zs ↔ x ∈ zs := by
  unfold Lib.compact
  rw [compactUpTo_mem _ _ (by simp)]
  constructor
  · rintro ⟨j, hj, e⟩
    have : zs.toArray[j]! = zs[j] := by simp [hj]
    rw [this] at e; subst e; exact List.getElem_mem _
  · intro h
    obtain ⟨j, hj, e⟩ := List.getElem_of_mem h
    exact ⟨j, hj, by simp [hj, e]⟩
theorem compact_ris (zs : List Int) (h : zs.Pairwise fun x y => x ≤ y) : Ris (Lib.compact zs) := by
  unfold Lib.compact
  have key : ∀ m, m ≤ zs.length → Ris (Lib.compactUpTo zs.toArray m) := by
    intro m
    induction m with
    | zero => intro _; simp [Lib.compactUpTo]
    | succ m ih =>
      intro hm
      rw [Lib.compactUpTo_succ]
      refine List.pairwise_append.2 ⟨ih (by omega), by split <;> simp, fun a ha b hb => ?_⟩
      obtain ⟨j, hj, rfl⟩ := (compactUpTo_mem _ m (by simp; omega) a).1 ha
      split at hb
      · rename_i hk
        have hb := List.mem_singleton.1 hb
        subst hb
        simp only [Lib.keeps, decide_eq_true_eq] at hk
        have e1 : ∀ i, (hi : i < zs.length) → zs.toArray[i]! = zs[i] := fun i hi => by simp [hi]
        rcases hk with rfl | hk
        · omega
        · rw [e1 m (by omega), e1 (m - 1) (by omega)] at hk
          rw [e1 j (by omega), e1 m (by omega)]
          have hle := List.pairwise_iff_getElem.1 h
          have h2 := hle (m - 1) m (by omega) (by omega) (by omega)
          by_cases hjm : j = m - 1
          · subst hjm; omega
          · have h3 := hle j (m - 1) (by omega) (by omega) (by omega)
            omega
      · simp at hb
  exact key _ (Nat.le_refl _)
theorem sortI_le (xs : List Int) : (sortI xs).Pairwise fun x y => x ≤ y := by
  have := List.pairwise_mergeSort (le := fun x y : Int => decide (x ≤ y)) (fun a b c h1 h2 => by simp only [decide_eq_true_eq] at *; omega) (fun a b => by simp only [Bool.or_eq_true, decide_eq_true_eq]; omega) xs
  exact this.imp fun h => by simpa using h
theorem mem_mkRow {xs : List Int} {x : Int} : x ∈ mkRow xs ↔ x ∈ xs := by
  unfold mkRow
  rw [mem_compact]
  simp [sortI]
theorem mkRow_ris (xs : List Int) : Ris (mkRow xs) := compact_ris _ (sortI_le xs)
theorem mkRow_id {xs : List Int} (h : Ris xs) : mkRow xs = xs := ext_ris (mkRow_ris xs) h fun _ => mem_mkRow
end Go.Proofs.YtnnmgfnhblbolaaGreatDoor
set_option linter.unusedVariables false
set_option linter.unusedSimpArgs false
set_option maxHeartbeats 400000
set_option maxRecDepth 100000
namespace Go.Proofs.YtnnmgfnhblbolaaGreatDoor
open Go Go.X
def cutRow (row : List Int) (id : Int) : List Int := (mkRow row).filter fun y => decide (y ≠ id)
theorem mem_cutRow {row : List Int} {id x : Int} : x ∈ cutRow row id ↔ x ∈ row ∧ x ≠ id := by simp [cutRow, mem_mkRow]
theorem cutRow_ris (row : List Int) (id : Int) : Ris (cutRow row id) := (mkRow_ris row).sublist List.filter_sublist
def cutRow1 (id : Int) (r : List (LabK × List Int)) (x : Lab) : List (LabK × List Int) :=
  if cutRow ((lookM r (labK x)).getD []) id = [] then cutM (putM r (labK x) (cutRow ((lookM r (labK x)).getD []) id)) (labK x) else putM r (labK x) (cutRow ((lookM r (labK x)).getD []) id)
def dropRows (rows : List (LabK × List Int)) (id : Int) (ls : List Lab) : List (LabK × List Int) := ls.foldl (cutRow1 id) rows
theorem dropRows_snoc (rows : List (LabK × List Int)) (id : Int) (ls : List Lab) (x : Lab) : dropRows rows id (ls ++ [x]) = cutRow1 id (dropRows rows id ls) x := by simp [dropRows]
theorem cutRow_le (row : List Int) (id : Int) : (cutRow row id).length ≤ row.length := Nat.le_trans (List.length_filter_le _ _) (mkRow_le row)
theorem mem_cutM' {κ α : Type} [DecidableEq κ] {k : κ} {l : List (κ × α)} {t : κ × α} (h : t ∈ cutM l k) : t ∈ l := (cutM_sub k l).mem h
theorem cutRow1_bound {r : List (LabK × List Int)} {B : Nat} (h : ∀ t ∈ r, t.2.length ≤ B) (id : Int) (x : Lab) : ∀ t ∈ cutRow1 id r x, t.2.length ≤ B := by
  have hput : ∀ t ∈ putM r (labK x) (cutRow ((lookM r (labK x)).getD []) id), t.2.length ≤ B := fun t ht => by
    rcases mem_putM ht with h1 | rfl
    · exact h t h1
    · exact Nat.le_trans (cutRow_le _ _) (look_bound h (labK x))
  intro t ht
  unfold cutRow1 at ht
  split at ht
  · exact hput t (mem_cutM' ht)
  · exact hput t ht
theorem dropRows_bound {r : List (LabK × List Int)} {B : Nat} (h : ∀ t ∈ r, t.2.length ≤ B) (id : Int) (ls : List Lab) : ∀ t ∈ dropRows r id ls, t.2.length ≤ B := by
  induction ls generalizing r with
  | nil => exact h
  | cons x ls ih => exact ih (cutRow1_bound h id x)
structure RowsOk (rows : List (LabK × List Int)) : Prop where
  nd : (rows.map (·.1)).Nodup
  row : ∀ t ∈ rows, Ris t.2 ∧ t.2 ≠ []
theorem mkRow_ne {xs : List Int} {x : Int} (h : x ∈ xs) : mkRow xs ≠ [] := fun e => by
  have := mem_mkRow.2 h
  rw [e] at this
  cases this
theorem RowsOk.add1 {rows : List (LabK × List Int)} (h : RowsOk rows) (id : Int) (x : Lab) : RowsOk (addRow1 id rows x) := by
  refine ⟨putM_nodup h.nd, fun t ht => ?_⟩
  rcases mem_putM ht with h1 | rfl
  · exact h.row t h1
  · exact ⟨mkRow_ris _, mkRow_ne (x := id) (by simp)⟩
theorem RowsOk.cut1 {rows : List (LabK × List Int)} (h : RowsOk rows) (id : Int) (x : Lab) : RowsOk (cutRow1 id rows x) := by
  unfold cutRow1
  have hp := putM_nodup (k := labK x) (v := cutRow ((lookM rows (labK x)).getD []) id) h.nd
  split
  · refine ⟨cutM_nodup hp, fun t ht => ?_⟩
    obtain ⟨h1, h2⟩ := (mem_cutM hp).1 ht
    rcases mem_putM h1 with h3 | rfl
    · exact h.row t h3
    · exact absurd rfl h2
  · rename_i hne
    refine ⟨hp, fun t ht => ?_⟩
    rcases mem_putM ht with h3 | rfl
    · exact h.row t h3
    · exact ⟨cutRow_ris _ _, hne⟩
theorem look_add1 (rows : List (LabK × List Int)) (id : Int) (x : Lab) (k : LabK) (j : Int) : j ∈ (lookM (addRow1 id rows x) k).getD [] ↔ j ∈ (lookM rows k).getD [] ∨ j = id ∧ labK x = k := by
  unfold addRow1
  rw [lookM_putM]
  by_cases hk : k = labK x
  · subst hk
    simp [mem_mkRow]
  · rw [if_neg hk]
    simp [Ne.symm hk]
theorem look_cut1 {rows : List (LabK × List Int)} (h : RowsOk rows) (id : Int) (x : Lab) (k : LabK) (j : Int) : j ∈ (lookM (cutRow1 id rows x) k).getD [] ↔ j ∈ (lookM rows k).getD [] ∧ ¬ (j = id ∧ labK x = k) := by
  have hp := putM_nodup (k := labK x) (v := cutRow ((lookM rows (labK x)).getD []) id) h.nd
  have e : (lookM (cutRow1 id rows x) k).getD [] = if k = labK x then cutRow ((lookM rows (labK x)).getD []) id else (lookM rows k).getD [] := by
    unfold cutRow1
    split
    · rename_i h0
      rw [lookM_cutM hp, lookM_putM]
      split
      · simp [h0]
      · rfl
    · rw [lookM_putM]
      split <;> rfl
  rw [e]
  by_cases hk : k = labK x
  · subst hk
    simp [mem_cutRow]
  · rw [if_neg hk]
    simp [Ne.symm hk]
theorem add_spec (id : Int) (ls : List Lab) : ∀ {rows : List (LabK × List Int)}, RowsOk rows → RowsOk (addRows rows id ls) ∧ ∀ k j, j ∈ (lookM (addRows rows id ls) k).getD [] ↔ j ∈ (lookM rows k).getD [] ∨ j = id ∧ ∃ x ∈ ls, labK x = k := by
  induction ls with
  | nil => intro rows h; exact ⟨h, by simp [addRows]⟩
  | cons x ls ih =>
    intro rows h
    obtain ⟨h1, h2⟩ := ih (h.add1 id x)
    refine ⟨h1, fun k j => ?_⟩
    have := h2 k j
    rw [look_add1] at this
    rw [show addRows rows id (x :: ls) = addRows (addRow1 id rows x) id ls from rfl, this]
    constructor
    · rintro ((h | ⟨rfl, h⟩) | ⟨rfl, y, hy, h⟩)
      · exact .inl h
      · exact .inr ⟨rfl, x, by simp, h⟩
      · exact .inr ⟨rfl, y, by simp [hy], h⟩
    · rintro (h | ⟨rfl, y, hy, h⟩)
      · exact .inl (.inl h)
      · rcases List.mem_cons.1 hy with rfl | hy
        · exact .inl (.inr ⟨rfl, h⟩)
        · exact .inr ⟨rfl, y, hy, h⟩
theorem drop_spec (id : Int) (ls : List Lab) : ∀ {rows : List (LabK × List Int)}, RowsOk rows → RowsOk (dropRows rows id ls) ∧ ∀ k j, j ∈ (lookM (dropRows rows id ls) k).getD [] ↔ j ∈ (lookM rows k).getD [] ∧ ¬ (j = id ∧ ∃ x ∈ ls, labK x = k) := by
  induction ls with
  | nil => intro rows h; exact ⟨h, by simp [dropRows]⟩
  | cons x ls ih =>
    intro rows h
    obtain ⟨h1, h2⟩ := ih (h.cut1 id x)
    refine ⟨h1, fun k j => ?_⟩
    have := h2 k j
    rw [look_cut1 h] at this
    rw [show dropRows rows id (x :: ls) = dropRows (cutRow1 id rows x) id ls from rfl, this]
    constructor
    · rintro ⟨⟨a, b⟩, c⟩
      refine ⟨a, ?_⟩
      rintro ⟨rfl, y, hy, h⟩
      rcases List.mem_cons.1 hy with rfl | hy
      · exact b ⟨rfl, h⟩
      · exact c ⟨rfl, y, hy, h⟩
    · rintro ⟨a, b⟩
      exact ⟨⟨a, fun ⟨e, h⟩ => b ⟨e, x, by simp, h⟩⟩, fun ⟨e, y, hy, h⟩ => b ⟨e, y, by simp [hy], h⟩⟩
structure IxI (has : List (Int × List Lab)) (rows : List (LabK × List Int)) : Prop where
  nd : (has.map (·.1)).Nodup
  ok : RowsOk rows
  mem : ∀ k id, id ∈ (lookM rows k).getD [] ↔ ∃ ls, (id, ls) ∈ has ∧ ∃ x ∈ ls, labK x = k
theorem IxI.nil : IxI [] [] := ⟨by simp, ⟨by simp, by simp⟩, by simp [lookM, placeM]⟩
theorem IxI.add {has : List (Int × List Lab)} {rows : List (LabK × List Int)} (h : IxI has rows) {id : Int} (hn : lookM has id = none) (ls : List Lab) : IxI (putM has id ls) (addRows rows id ls) := by
  obtain ⟨h1, h2⟩ := add_spec id ls h.ok
  refine ⟨putM_nodup h.nd, h1, fun k j => ?_⟩
  rw [h2, h.mem, putM_new hn]
  simp only [List.mem_append, List.mem_singleton, Prod.mk.injEq]
  constructor
  · rintro (⟨l, a, b⟩ | ⟨rfl, b⟩)
    · exact ⟨l, .inl a, b⟩
    · exact ⟨ls, .inr ⟨rfl, rfl⟩, b⟩
  · rintro ⟨l, a | ⟨rfl, rfl⟩, b⟩
    · exact .inl ⟨l, a, b⟩
    · exact .inr ⟨rfl, b⟩
theorem IxI.drop {has : List (Int × List Lab)} {rows : List (LabK × List Int)} (h : IxI has rows) (id : Int) : IxI (cutM has id) (dropRows rows id ((lookM has id).getD [])) := by
  obtain ⟨h1, h2⟩ := drop_spec id ((lookM has id).getD []) h.ok
  refine ⟨cutM_nodup h.nd, h1, fun k j => ?_⟩
  rw [h2, h.mem]
  constructor
  · rintro ⟨⟨l, a, b⟩, c⟩
    refine ⟨l, (mem_cutM h.nd).2 ⟨a, fun e => c ⟨e, ?_⟩⟩, b⟩
    simp only at e
    subst e
    rw [(lookM_iff h.nd).2 a]
    exact b
  · rintro ⟨l, a, b⟩
    obtain ⟨a1, a2⟩ := (mem_cutM h.nd).1 a
    exact ⟨⟨l, a1, b⟩, fun c => a2 c.1⟩
theorem IxI.keys {has : List (Int × List Lab)} {rows : List (LabK × List Int)} (h : IxI has rows) (k : LabK) : k ∈ rows.map (·.1) ↔ ∃ t ∈ has, ∃ x ∈ t.2, labK x = k := by
  constructor
  · intro hk
    obtain ⟨t, ht, rfl⟩ := List.mem_map.1 hk
    obtain ⟨_, hne⟩ := h.ok.row t ht
    obtain ⟨id, hid⟩ := List.exists_mem_of_ne_nil _ hne
    have hl : lookM rows t.1 = some t.2 := (lookM_iff h.ok.nd).2 ht
    obtain ⟨ls, a, b⟩ := (h.mem t.1 id).1 (by rw [hl]; exact hid)
    exact ⟨(id, ls), a, b⟩
  · rintro ⟨t, ht, hx⟩
    have hm := (h.mem k t.1).2 ⟨t.2, ht, hx⟩
    refine Classical.byContradiction fun hk => ?_
    rw [lookM_none.2 hk] at hm
    cases hm
theorem IxI.len {has : List (Int × List Lab)} {rows : List (LabK × List Int)} (h : IxI has rows) {D : List Lab} (hD : D.Nodup) (hm : ∀ x, x ∈ D ↔ ∃ t ∈ has, x ∈ t.2) : rows.length = D.length := by
  have hinj : ∀ x y : Lab, labK x = labK y → x = y := fun x y e => by
    cases x; cases y
    simp only [labK, Prod.mk.injEq] at e
    obtain ⟨rfl, rfl⟩ := e
    rfl
  have hD' : (D.map labK).Nodup := by
    refine List.pairwise_map.2 (hD.imp fun {a b} hne e => hne (hinj a b e))
  have hp : (rows.map (·.1)).Perm (D.map labK) := (List.perm_ext_iff_of_nodup h.ok.nd hD').2 fun k => by
    rw [h.keys, List.mem_map]
    constructor
    · rintro ⟨t, ht, x, hx, e⟩
      exact ⟨x, (hm x).2 ⟨t, ht, hx⟩, e⟩
    · rintro ⟨x, hx, e⟩
      obtain ⟨t, ht, hx'⟩ := (hm x).1 hx
      exact ⟨t, ht, x, hx', e⟩
  simpa using hp.length_eq
end Go.Proofs.YtnnmgfnhblbolaaGreatDoor
set_option linter.unusedVariables false
set_option linter.unusedSimpArgs false
set_option maxHeartbeats 1000000
set_option maxRecDepth 100000
namespace Go.Proofs.YtnnmgfnhblbolaaGreatDoor
open Go Go.X
def NmTo (s : ByteArray) (k : Nat) : Prop := (∀ i, i < k → chS (bt s i).toNat = true) ∧ (0 < k → letS (bt s 0).toNat = true)
theorem NmTo.no {s : ByteArray} {k : Nat} (hk : k < s.size) (h : letS (bt s k).toNat = false) (h' : k = 0 ∨ ¬ (48 ≤ ((bt s k).toNat : Int) ∧ ((bt s k).toNat : Int) ≤ 57)) : nameS s = false := by
  rcases h' with rfl | h'
  · exact name_no2 h
  · exact name_no3 hk (by simp [chS, h]; omega)
theorem NmTo.step {s : ByteArray} {k : Nat} (h : NmTo s k) (h' : letS (bt s k).toNat = true ∨ k ≠ 0 ∧ 48 ≤ ((bt s k).toNat : Int) ∧ ((bt s k).toNat : Int) ≤ 57) : NmTo s (k + 1) := by
  refine ⟨fun i hi => ?_, fun _ => ?_⟩
  · by_cases e : i = k
    · subst e
      rcases h' with h' | h'
      · simp [chS, h']
      · simp [chS]; exact .inr (by omega)
    · exact h.1 i (by omega)
  · by_cases e : k = 0
    · subst e
      rcases h' with h' | h'
      · exact h'
      · exact absurd rfl h'.1
    · exact h.2 (by omega)
end Go.Proofs.YtnnmgfnhblbolaaGreatDoor
set_option linter.unusedVariables false
set_option linter.unusedSimpArgs false
set_option maxHeartbeats 400000
set_option maxRecDepth 100000
namespace Go.Proofs.YtnnmgfnhblbolaaGreatDoor
open Go Go.X
def PredI (w : World) (fv : Value) (p : Int → Bool) : Prop := ∃ g cap, fv = .func (.func g) #[] cap ∧ Go.Proofs.Enters Tryz.prog g ∧ ∀ (n : Int) w', Grow w w' → Fx Tryz.prog g ([.int .i64 n] ++ cap.toList) w' (fun u w'' => u = .bool (p n) ∧ Grow w' w'')
theorem PredI.grow {w w' : World} {fv : Value} {p : Int → Bool} (h : PredI w fv p) (hg : Grow w w') : PredI w' fv p := by
  obtain ⟨g, cap, h1, h2, h3⟩ := h
  exact ⟨g, cap, h1, h2, fun n w'' h => h3 n w'' (hg.trans h)⟩
def ixF (p : Int → Bool) (xs : List Int) : Int := optI (xs.findIdx? p)
theorem indexFuncI_ok (M : Nat → Prop) (xs : List Int) (v fv : Value) (p : Int → Bool) (w : World) (hv : Sl M w v 1 xs.length (ints xs)) (hp : PredI w fv p) :
    Fx Tryz.prog 265 [v, fv] w (fun u w' => u = .int .i64 (ixF p xs) ∧ Grow w w') := by
  obtain ⟨ad, c, rfl⟩ := hv.shape
  obtain ⟨g, cap, rfl, hE, hp⟩ := hp
  have hbig := hv.big
  refine enter Tryz.func265 rfl rfl rfl _ (Pick.sub (l := [0, 1]) (.cons rfl (.cons rfl .nil))) ?_
  refine RK.seq ?_
  refine RK.region ?_
  refine RL.p rfl rfl ?_
  refine RL.done ?_
  iterate 2 refine RK.seq ?_
  refine RK.region ?_
  refine RL.p rfl rfl ?_
  refine RL.q (.free rfl) rfl rfl (Yld.lenSl u41 rfl) ?_
  refine RL.p rfl rfl ?_
  refine RL.done ?_
  refine RK.block ?_
  refine RK.loop (fun k : Nat => [(0, .slice ad xs.length c), (1, .func (.func g) #[] cap), (7, .int .i64 xs.length), (8, .int .i64 k)]) (fun k w' => Grow w w' ∧ k ≤ xs.length ∧ ∀ i a, i < k → xs[i]? = some a → p a = false) (fun k => xs.length - k) 0 ⟨rfl, rfl, rfl, rfl, trivial⟩ ⟨Mod.refl _ _, by omega, fun i a h => by omega⟩ (fun k w' hI ih => ?_)
  obtain ⟨hg, hk, hno⟩ := hI
  refine RK.seq ?_
  refine RK.region ?_
  refine RL.p rfl rfl ?_
  refine RL.done ?_
  refine RK.seq ?_
  first | refine RK.condD rfl (fun h9 => ?_) (fun h9 => ?_) | refine RK.condN rfl (fun h9 => ?_) (fun h9 => ?_) | refine RK.cond rfl (fun h9 => ?_) (fun h9 => ?_)
  · obtain ⟨x, hx⟩ : ∃ x, xs[k]? = some x := ⟨xs[k]'(by omega), List.getElem?_eq_getElem (by omega)⟩
    obtain ⟨b1, o1, c1', he1, _, _, hc1⟩ := hv.elem1 (k := k) (u := .int .i64 x) (by simp [hx])
    cases he1
    refine RK.skip ?_
    refine RK.seq ?_
    refine RK.block ?_
    refine RK.seq ?_
    refine RK.region ?_
    iterate 2 refine RL.p rfl rfl ?_
    refine RL.done ?_
    refine RK.seq ?_
    refine RK.region ?_
    iterate 3 refine RL.p rfl rfl ?_
    refine RL.q (.free rfl) rfl rfl (Yld.indexAddrN u41 i3 rfl rfl (by omega)) ?_
    refine RL.q (.free rfl) rfl rfl (Yld.load p3 rfl (at1 (hg.cell (hc1 k (.int .i64 x) (by simp [hx])) (fun h => h)))) ?_
    refine RL.op (.free rfl) rfl rfl (Does.callv rfl rfl (by assumption) (hp x _ hg)) ?_
    rintro _ w2 ⟨rfl, hg2⟩
    refine RL.done ?_
    first | refine RK.condD rfl (fun h16 => ?_) (fun h16 => ?_) | refine RK.condN rfl (fun h16 => ?_) (fun h16 => ?_) | refine RK.cond rfl (fun h16 => ?_) (fun h16 => ?_)
    · refine RK.seq ?_
      refine RK.region ?_
      iterate 2 refine RL.p rfl rfl ?_
      refine RL.done ?_
      refine RK.ret_of Tryz.func265 (res1 rfl rfl) ?_ _
      exact ⟨_, rfl, congrArg _ (by
          have : xs.findIdx? p = some k := by
            rw [List.findIdx?_eq_some_iff_getElem]
            refine ⟨by omega, ?_, ?_⟩
            · rw [(List.getElem?_eq_some_iff.1 hx).2]; exact h16
            · intro j hj
              simpa using hno j (xs[j]'(by omega)) hj (List.getElem?_eq_getElem (by omega))
          unfold ixF; rw [this]; rfl), hg.trans hg2⟩
    · refine RK.skip ?_
      refine RK.inBlock ?_
      refine RK.region ?_
      refine RL.p rfl rfl ?_
      refine RL.re (d := 18) rfl rfl (succ_i64 (by omega)) ?_
      refine RL.p rfl rfl ?_
      refine RL.done ?_
      exact RK.back (ih (k + 1) _ ⟨hg.trans hg2, by omega, fun i a' hi ha' => by by_cases e : i = k; (subst e; rw [hx] at ha'; cases ha'; exact h16); exact hno i a' (by omega) ha'⟩ (by omega)) ⟨rfl, rfl, rfl, rfl, trivial⟩
  · refine RK.exit rfl ?_
    refine RK.seq ?_
    refine RK.region ?_
    refine RL.p rfl rfl ?_
    refine RL.done ?_
    refine RK.ret_of Tryz.func265 (res1 rfl rfl) ?_ _
    exact ⟨_, rfl, congrArg _ (by
        have : xs.findIdx? p = none := by
          rw [List.findIdx?_eq_none_iff]
          intro x hx
          obtain ⟨i, hi⟩ := List.getElem?_of_mem hx
          have hil := (List.getElem?_eq_some_iff.1 hi).1
          exact hno i x (by omega) hi
        unfold ixF; rw [this]; rfl), hg⟩
def keepI (p : Int → Bool) (xs : List Int) : List Int := xs.filter fun x => !p x
theorem keep_snoc (p : Int → Bool) {xs : List Int} {k : Nat} {x : Int} (hx : xs[k]? = some x) : keepI p (xs.take (k + 1)) = keepI p (xs.take k) ++ (if p x then [] else [x]) := by
  have hk := (List.getElem?_eq_some_iff.1 hx).1
  unfold keepI
  rw [List.take_succ_eq_append_getElem hk, (List.getElem?_eq_some_iff.1 hx).2, List.filter_append]
  cases h : p x <;> simp [h]
theorem set_snoc {cs : List Value} {i : Nat} {ys : List Int} {x : Int} (h : cs.take i = ints ys) (hi : i < cs.length) : (cs.set i (.int .i64 x)).take (i + 1) = ints (ys ++ [x]) := by
  have e : (cs.set i (.int .i64 x)).length = cs.length := List.length_set
  rw [List.take_succ_eq_append_getElem (by omega), List.getElem_set_self]
  have : (cs.set i (Value.int .i64 x)).take i = cs.take i := by
    apply List.ext_getElem?
    intro j
    simp only [List.getElem?_take]
    split
    · rw [List.getElem?_set_ne (by omega)]
    · rfl
  rw [this, h]
  simp [ints]
theorem deleteFuncI_ok (w0 : World) (xs : List Int) (v fv : Value) (p : Int → Bool) (w : World) (hv : Row w 3 1 v xs.length (ints xs)) (hf : Fresh w0.heap.size v) (hg0 : Grow w0 w) (hp : PredI w0 fv p) :
    Fx Tryz.prog 210 [v, fv] w (fun u w' => Row w' 3 1 u (keepI p xs).length (ints (keepI p xs)) ∧ u.ownBlock = v.ownBlock ∧ Mod (fun b => v.ownBlock = some b) w w') := by
  have hcall := indexFuncI_ok No xs v fv p w (Sl.own hv (fun _ _ h => h)) (hp.grow hg0)
  obtain ⟨g, cap, rfl, hE, hp⟩ := hp
  have hbig : xs.length ≤ 9223372036854775807 := (Sl.own (M := No) hv (fun _ _ h => h)).big
  by_cases hn : xs.findIdx? p = none
  · have hix : ixF p xs = -1 := by unfold ixF; rw [hn]; rfl
    rw [hix] at hcall
    have hkeep : keepI p xs = xs := List.filter_eq_self.2 fun x hx => by simp [List.findIdx?_eq_none_iff.1 hn x hx]
    refine enter Tryz.func210 rfl rfl rfl _ (Pick.sub (l := [0, 1]) (.cons rfl (.cons rfl .nil))) ?_
    refine RK.seq ?_
    refine RK.region ?_
    refine RL.p rfl rfl ?_
    refine RL.done ?_
    refine RK.seq ?_
    refine RK.region ?_
    iterate 2 refine RL.p rfl rfl ?_
    refine RL.op (.free rfl) rfl rfl (Does.call rfl e265 (hcall)) ?_
    rintro _ w2 ⟨rfl, hg2⟩
    refine RL.p rfl rfl ?_
    refine RL.done ?_
    iterate 2 refine RK.seq ?_
    refine RK.region ?_
    iterate 2 refine RL.p rfl rfl ?_
    refine RL.done ?_
    refine RK.condT (hcT rfl (decide_eq_true rfl)) ?_
    refine RK.seq ?_
    refine RK.region ?_
    iterate 2 refine RL.p rfl rfl ?_
    refine RL.done ?_
    refine RK.ret_of Tryz.func210 (res1 rfl rfl) ?_ _
    exact ⟨_, rfl, by rw [hkeep]; exact hv.mod hg2 (fun _ _ h => h), rfl, Mod.any' hg2⟩
  · obtain ⟨i0, hi0⟩ : ∃ i, xs.findIdx? p = some i := by cases h : xs.findIdx? p with | none => exact absurd h hn | some i => exact ⟨i, rfl⟩
    have hix : ixF p xs = (i0 : Int) := by unfold ixF; rw [hi0]; rfl
    rw [hix] at hcall
    obtain ⟨hi0l, hpi0, hlt0⟩ := List.findIdx?_eq_some_iff_getElem.1 hi0
    have hx0 : xs[i0]? = some xs[i0] := List.getElem?_eq_getElem hi0l
    have hk0 : keepI p (xs.take i0) = xs.take i0 := List.filter_eq_self.2 fun x hx => by
      obtain ⟨j, hj, rfl⟩ := List.getElem_of_mem hx
      simp at hj
      rw [List.getElem_take]
      simpa using hlt0 j (by omega)
    have hk1 : keepI p (xs.take (i0 + 1)) = xs.take i0 := by rw [keep_snoc p hx0, hk0]; simp [hpi0]
    obtain ⟨gb, cp, cs, rfl, hb, hl, hkc, hcm, htk⟩ := hv.whole (by omega)
    rw [Nat.mul_one] at hl htk
    have hgb : w0.heap.size ≤ gb := hf gb rfl
    refine enter Tryz.func210 rfl rfl rfl _ (Pick.sub (l := [0, 1]) (.cons rfl (.cons rfl .nil))) ?_
    refine RK.seq ?_
    refine RK.region ?_
    refine RL.p rfl rfl ?_
    refine RL.done ?_
    refine RK.seq ?_
    refine RK.region ?_
    iterate 2 refine RL.p rfl rfl ?_
    refine RL.op (.free rfl) rfl rfl (Does.call rfl e265 (hcall)) ?_
    rintro _ w2 ⟨rfl, hg2⟩
    refine RL.p rfl rfl ?_
    refine RL.done ?_
    iterate 2 refine RK.seq ?_
    refine RK.region ?_
    iterate 2 refine RL.p rfl rfl ?_
    refine RL.done ?_
    refine RK.condF (hcF rfl (decide_eq_false (by omega))) ?_
    refine RK.skip ?_
    iterate 2 refine RK.seq ?_
    refine RK.region ?_
    iterate 2 refine RL.p rfl rfl ?_
    refine RL.re (d := 15) rfl rfl (add_i64 (z := ((i0 + 1 : Nat) : Int)) (by simp) (by omega) (by omega)) ?_
    refine RL.p rfl rfl ?_
    refine RL.done ?_
    refine RK.block ?_
    refine RK.loop (fun s : Nat × Nat => [(0, .slice (some ⟨gb, 0, none⟩) xs.length cp), (1, .func (.func g) #[] cap), (5, .int .i64 (s.1 : Int)), (6, .int .i64 (s.2 : Int))]) (fun s w' => Mod (· = gb) w w' ∧ s.1 < s.2 ∧ s.2 ≤ xs.length ∧ s.1 = (keepI p (xs.take s.2)).length ∧ ∃ cs', Blk w' gb 3 cs' ∧ cs'.length = cp ∧ cs'.take s.1 = ints (keepI p (xs.take s.2)) ∧ ∀ t x, s.2 ≤ t → xs[t]? = some x → cs'[t]? = some (.int .i64 x)) (fun s => xs.length - s.2) (i0, i0 + 1) ⟨rfl, rfl, rfl, rfl, trivial⟩ ⟨Mod.any' hg2, by omega, by simp only; omega, by rw [hk1]; simp; omega, cs, hb.mod hg2 (fun h => h), hl, by rw [hk1]; simp only; have := congrArg (List.take i0) htk; rw [List.take_take, Nat.min_eq_left (by omega)] at this; rw [this]; simp [ints, List.map_take], fun t x ht hx => by have hxl := (List.getElem?_eq_some_iff.1 hx).1; have := congrArg (fun l => l[t]?) htk; simp only [List.getElem?_take, if_pos hxl] at this; rw [this]; simp [hx]⟩ (fun s w' hI ih => ?_)
    obtain ⟨i, j⟩ := s
    obtain ⟨hm, hij, hj, hic, cs1, hb1, hl1, ht1, hr1⟩ := hI
    simp only at hm hij hj hic ht1 hr1
    iterate 2 refine RK.seq ?_
    refine RK.region ?_
    iterate 2 refine RL.p rfl rfl ?_
    refine RL.q (.free rfl) rfl rfl (Yld.lenSl u41 rfl) ?_
    refine RL.p rfl rfl ?_
    refine RL.done ?_
    first | refine RK.condD rfl (fun h19 => ?_) (fun h19 => ?_) | refine RK.condN rfl (fun h19 => ?_) (fun h19 => ?_) | refine RK.cond rfl (fun h19 => ?_) (fun h19 => ?_)
    · obtain ⟨x, hx⟩ : ∃ x, xs[j]? = some x := ⟨xs[j]'(by omega), List.getElem?_eq_getElem (by omega)⟩
      have hks := keep_snoc p hx
      refine RK.skip ?_
      refine RK.seq ?_
      refine RK.block ?_
      refine RK.seq ?_
      refine RK.region ?_
      iterate 2 refine RL.p rfl rfl ?_
      refine RL.q (.free rfl) rfl rfl (Yld.indexAddrN u41 i3 rfl rfl (by omega)) ?_
      refine RL.q (.free rfl) rfl rfl (Yld.load p3 rfl (at1 (hb1.at1 (hr1 j x (Nat.le_refl _) hx)))) ?_
      refine RL.p rfl rfl ?_
      refine RL.done ?_
      refine RK.seq ?_
      refine RK.region ?_
      iterate 2 refine RL.p rfl rfl ?_
      refine RL.op (.free rfl) rfl rfl (Does.callv rfl rfl (by assumption) (hp x _ (hg0.then hm (fun b hb e => by have e' : b = gb := e; omega)))) ?_
      rintro _ w3 ⟨rfl, hg3⟩
      have hm3 : Mod (· = gb) w w3 := hm.trans (Mod.any' hg3)
      have hb3 := hb1.mod hg3 (fun h => h)
      refine RL.p rfl rfl ?_
      refine RL.done ?_
      first | refine RK.condD rfl (fun h29 => ?_) (fun h29 => ?_) | refine RK.condN rfl (fun h29 => ?_) (fun h29 => ?_) | refine RK.cond rfl (fun h29 => ?_) (fun h29 => ?_)
      · have hpx : p x = false := by simpa using h29
        refine RK.seq ?_
        refine RK.region ?_
        iterate 3 refine RL.p rfl rfl ?_
        refine RL.q (.free rfl) rfl rfl (Yld.indexAddrN u41 i3 rfl rfl (by omega)) ?_
        refine RL.op' (.free rfl) rfl (Does.store i3 rfl rfl rfl hb3 (SetAt.of (by omega))) ?_
        rintro _ w4 ⟨hb4, hm4, _⟩
        have hil : i < cs1.length := by omega
        have e0 : 0 + i * 1 = i := by omega
        rw [e0] at hb4
        refine RL.done ?_
        refine RK.region ?_
        iterate 2 refine RL.p rfl rfl ?_
        refine RL.re (d := 35) rfl rfl (succ_i64 (by omega)) ?_
        refine RL.p rfl rfl ?_
        refine RL.done ?_
        refine RK.inBlock ?_
        refine RK.region ?_
        iterate 2 refine RL.p rfl rfl ?_
        refine RL.re (d := 21) rfl rfl (succ_i64 (by omega)) ?_
        refine RL.p rfl rfl ?_
        refine RL.done ?_
        exact RK.back (ih (i + 1, j + 1) _ ⟨hm3.trans hm4, by omega, by simp only; omega, by rw [hks, hpx]; simpa using hic, _, hb4, by simpa using hl1, by rw [hks, hpx]; simp only [Bool.false_eq_true, if_false]; exact set_snoc ht1 hil, fun t y ht hy => by rw [List.getElem?_set_ne (by simp only at ht; omega)]; exact hr1 t y (by simp only at ht; omega) hy⟩ (by simp only; omega)) ⟨rfl, rfl, rfl, rfl, trivial⟩
      · have hpx : p x = true := by simpa using h29
        refine RK.skip ?_
        refine RK.inBlock ?_
        refine RK.region ?_
        iterate 2 refine RL.p rfl rfl ?_
        refine RL.re (d := 21) rfl rfl (succ_i64 (by omega)) ?_
        refine RL.p rfl rfl ?_
        refine RL.done ?_
        exact RK.back (ih (i, j + 1) _ ⟨hm3, by omega, by simp only; omega, by rw [hks, hpx]; simpa using hic, cs1, hb3, hl1, by rw [hks, hpx]; simpa using ht1, fun t y ht hy => hr1 t y (by simp only at ht; omega) hy⟩ (by simp only; omega)) ⟨rfl, rfl, rfl, rfl, trivial⟩
    · have ek : xs.take j = xs := List.take_of_length_le (by omega)
      rw [ek] at hic ht1
      refine RK.exit rfl ?_
      refine RK.seq ?_
      refine RK.region ?_
      iterate 2 refine RL.p rfl rfl ?_
      refine RL.q (.free rfl) rfl rfl (Yld.sliceFrom u41 i3 rfl rfl (by omega)) ?_
      refine RL.op' (.free rfl) rfl (Does.clear u41 i3 (cap := cp) (lo := i) (m := xs.length - i) rfl (by simp [Value.cells, Value.oneCell']) rfl hb1 (by rw [Nat.mul_one]; exact hl1) (by omega)) ?_
      rintro _ w5 ⟨⟨cs5, hb5, hl5, ht5⟩, hm5, hs5⟩
      refine RL.done ?_
      refine RK.seq ?_
      refine RK.region ?_
      iterate 2 refine RL.p rfl rfl ?_
      refine RL.q (.free rfl) rfl rfl (Yld.sliceHi u41 i3 rfl rfl (by omega)) ?_
      refine RL.p rfl rfl ?_
      refine RL.done ?_
      refine RK.ret_of Tryz.func210 (res1 rfl rfl) ?_ _
      exact ⟨_, rfl, by have h9 := Row.shut (sz := 1) (k := i) hb5 (by rw [hl5, hl1, Nat.mul_one]) (by omega) hcm; rw [ht5] at h9; rw [Nat.mul_one, ht1] at h9; rw [← hic]; exact h9, rfl, (hm.trans hm5).mono fun b _ e => congrArg some e.symm⟩
theorem kept1_ok (w : World) (b : Nat) (fv : Value) (p : Int → Bool) (hb : Blk w b 122 [fv]) (hp : PredI w fv p) (n : Int) : Fx Tryz.prog 298 [.int .i64 n, pp b] w (fun u w' => u = .bool (!p n) ∧ Grow w w') := by
  obtain ⟨g, cap, rfl, hE, hp⟩ := hp
  refine enter Tryz.func298 rfl rfl rfl _ (Pick.sub (l := [0, 1]) (.cons rfl (.cons rfl .nil))) ?_
  refine RK.seq ?_
  refine RK.region ?_
  refine RL.p rfl rfl ?_
  refine RL.done ?_
  refine RK.seq ?_
  refine RK.region ?_
  refine RL.q (.free rfl) rfl rfl (Yld.load p122 rfl (at1 (hb.cell rfl))) ?_
  refine RL.p rfl rfl ?_
  refine RL.op (.free rfl) rfl rfl (Does.callv rfl rfl (by assumption) (hp n _ (Mod.refl _ _))) ?_
  rintro _ w2 ⟨rfl, hg2⟩
  iterate 2 refine RL.p rfl rfl ?_
  refine RL.done ?_
  refine RK.ret_of Tryz.func298 (res1 rfl rfl) ?_ _
  exact ⟨_, rfl, rfl, hg2⟩
theorem kept_ok (M : Nat → Prop) (xs : List Int) (v fv : Value) (p : Int → Bool) (w : World) (hv : Sl M w v 1 xs.length (ints xs)) (hb : xs.length * 8 ≤ 140737488355328) (hp : PredI w fv p) :
    Fx Tryz.prog 262 [v, fv] w (fun u w' => Row w' 3 1 u ((mkRow xs).filter p).length (ints ((mkRow xs).filter p)) ∧ Fresh w.heap.size u ∧ Grow w w') := by
  obtain ⟨g, cap, rfl, hE, hp0⟩ := id hp
  have he : keepI (fun n => !p n) (mkRow xs) = (mkRow xs).filter p := by unfold keepI; simp
  refine enter Tryz.func262 rfl rfl rfl _ (Pick.sub (l := [0, 1]) (.cons rfl (.cons rfl .nil))) ?_
  refine RK.seq ?_
  refine RK.region ?_
  refine RL.op (.free rfl) rfl rfl (Does.box rfl) ?_
  rintro _ w1 ⟨b1, rfl, hn1⟩
  refine RL.p rfl rfl ?_
  refine RL.done ?_
  refine RK.seq ?_
  refine RK.region ?_
  refine RL.p rfl rfl ?_
  refine RL.op (.free rfl) rfl rfl (Does.call rfl e221 (make_ok No xs v _ (hv.mod (Mod.any' hn1.grow)).noM hb)) ?_
  rintro u2 w2 ⟨hr2, hf2, hg2⟩
  refine RL.p rfl rfl ?_
  refine RL.op (.free rfl) rfl rfl (Does.call rfl e210 (deleteFuncI_ok w1 (mkRow xs) u2 _ (fun n => !p n) _ hr2 hf2 hg2 ⟨_, _, rfl, e298, fun n w' hg => kept1_ok w' b1 _ p (hn1.blk.mod hg (fun h => h)) (hp.grow (hn1.grow.trans hg)) n⟩)) ?_
  rintro u3 w3 ⟨hr3, hu3, hm3⟩
  refine RL.p rfl rfl ?_
  refine RL.done ?_
  refine RK.ret_of Tryz.func262 (res1 rfl rfl) ?_ _
  exact ⟨_, rfl, he ▸ hr3, fun b hb => by rw [hu3] at hb; have := hf2 b hb; have := hn1.grow.size; omega, (hn1.grow.trans hg2).then hm3 (fun x hx e => by have := hf2 x e; have := hn1.grow.size; omega)⟩
theorem contains_ok (M : Nat → Prop) (xs : List Int) (v : Value) (x : Int) (w : World) (hv : Sl M w v 1 xs.length (ints xs)) : Fx Tryz.prog 299 [v, .int .i64 x] w (fun u w' => u = .bool (xs.contains x) ∧ w = w') := by
  obtain ⟨ad, c, b, o, rfl, hf⟩ := hv.open
  by_cases h0 : xs.length = 0
  · have : xs = [] := List.eq_nil_of_length_eq_zero h0
    subst this
    refine Calls.mono (Tryz.slices_Contains_int_empty ad c x w) ?_
    rintro e w' ⟨rfl, rfl⟩
    exact ⟨_, rfl, rfl, rfl⟩
  · obtain ⟨rfl, _, hc⟩ := hf (by omega)
    refine Calls.mono (Tryz.slices_Contains_int b o xs.length c xs x w (Nat.le_refl _) hv.big (fun j hj => hc j _ (by simp [hj]))) ?_
    rintro e w' ⟨rfl, rfl⟩
    exact ⟨_, rfl, by rw [List.take_length], rfl⟩
theorem has_ok (M : Nat → Prop) (xs : List Int) (v : Value) (x : Int) (w : World) (hv : Sl M w v 1 xs.length (ints xs)) : Fx Tryz.prog 264 [v, .int .i64 x] w (fun u w' => u = .bool (xs.contains x) ∧ w = w') := by
  refine enter Tryz.func264 rfl rfl rfl _ (Pick.sub (l := [0, 1]) (.cons rfl (.cons rfl .nil))) ?_
  refine RK.seq ?_
  refine RK.region ?_
  refine RL.p rfl rfl ?_
  refine RL.done ?_
  refine RK.seq ?_
  refine RK.region ?_
  iterate 2 refine RL.p rfl rfl ?_
  refine RL.op (.free rfl) rfl rfl (Does.call rfl e299 (contains_ok M xs v x _ hv)) ?_
  rintro _ _ ⟨rfl, rfl⟩
  refine RL.p rfl rfl ?_
  refine RL.done ?_
  refine RK.ret_of Tryz.func264 (res1 rfl rfl) ?_ _
  exact ⟨_, rfl, rfl, rfl⟩
theorem not1_ok (M : Nat → Prop) (w : World) (b : Nat) (ys : List Int) (vb : Value) (hb : Blk w b 41 [vb]) (hv : Sl M w vb 1 ys.length (ints ys)) (n : Int) : Fx Tryz.prog 292 [.int .i64 n, pp b] w (fun u w' => u = .bool (!ys.contains n) ∧ Grow w w') := by
  refine enter Tryz.func292 rfl rfl rfl _ (Pick.sub (l := [0, 1]) (.cons rfl (.cons rfl .nil))) ?_
  refine RK.seq ?_
  refine RK.region ?_
  refine RL.p rfl rfl ?_
  refine RL.done ?_
  refine RK.seq ?_
  refine RK.region ?_
  refine RL.q (.free rfl) rfl rfl (Yld.load p41 rfl (at1 (hb.cell rfl))) ?_
  refine RL.p rfl rfl ?_
  refine RL.op (.free rfl) rfl rfl (Does.call rfl e264 (has_ok M ys vb n _ hv)) ?_
  rintro _ _ ⟨rfl, rfl⟩
  iterate 2 refine RL.p rfl rfl ?_
  refine RL.done ?_
  refine RK.ret_of Tryz.func292 (res1 rfl rfl) ?_ _
  exact ⟨_, rfl, rfl, Mod.refl _ _⟩
theorem not_ok (M : Nat → Prop) (xs ys : List Int) (va vb : Value) (w : World) (ha : Sl M w va 1 xs.length (ints xs)) (hvb : Sl M w vb 1 ys.length (ints ys)) (hb : xs.length * 8 ≤ 140737488355328) :
    Fx Tryz.prog 253 [va, vb] w (fun u w' => Row w' 3 1 u ((mkRow xs).filter fun n => !ys.contains n).length (ints ((mkRow xs).filter fun n => !ys.contains n)) ∧ Fresh w.heap.size u ∧ Grow w w') := by
  obtain ⟨ad', c', rfl⟩ := hvb.shape
  refine enter Tryz.func253 rfl rfl rfl _ (Pick.sub (l := [0, 1]) (.cons rfl (.cons rfl .nil))) ?_
  refine RK.seq ?_
  refine RK.region ?_
  refine RL.op (.free rfl) rfl rfl (Does.box rfl) ?_
  rintro _ w1 ⟨b1, rfl, hn1⟩
  refine RL.p rfl rfl ?_
  refine RL.done ?_
  refine RK.seq ?_
  refine RK.region ?_
  iterate 2 refine RL.p rfl rfl ?_
  refine RL.op (.free rfl) rfl rfl (Does.call rfl e262 (kept_ok No xs va _ (fun n => !ys.contains n) _ (ha.mod (Mod.any' hn1.grow)).noM hb ⟨_, _, rfl, e292, fun n w' hg => not1_ok No w' b1 ys _ (hn1.blk.mod hg (fun h => h)) (hvb.noM.mod (hn1.grow.trans hg)) n⟩)) ?_
  rintro u2 w2 ⟨hr2, hf2, hg2⟩
  refine RL.p rfl rfl ?_
  refine RL.done ?_
  refine RK.ret_of Tryz.func253 (res1 rfl rfl) ?_ _
  exact ⟨_, rfl, hr2, fun b hb => by have := hf2 b hb; have := hn1.grow.size; omega, hn1.grow.trans hg2⟩
theorem cut_ok (M : Nat → Prop) (xs : List Int) (x : Int) (v : Value) (w : World) (hv : Sl M w v 1 xs.length (ints xs)) (hb : xs.length * 8 ≤ 140737488355328) :
    Fx Tryz.prog 195 [v, .int .i64 x] w (fun u w' => Row w' 3 1 u (cutRow xs x).length (ints (cutRow xs x)) ∧ Fresh w.heap.size u ∧ Grow w w') := by
  have he : (mkRow xs).filter (fun n => ![x].contains n) = cutRow xs x := by
    unfold cutRow
    apply List.filter_congr
    intro y _
    by_cases h : y = x <;> simp [h]
  refine enter Tryz.func195 rfl rfl rfl _ (Pick.sub (l := [0, 1]) (.cons rfl (.cons rfl .nil))) ?_
  refine RK.seq ?_
  refine RK.region ?_
  refine RL.p rfl rfl ?_
  refine RL.done ?_
  refine RK.seq ?_
  refine RK.region ?_
  iterate 2 refine RL.p rfl rfl ?_
  refine RL.op (.free rfl) rfl rfl (Does.slice1 u41 i3 rfl rfl rfl rfl rfl) ?_
  rintro _ w1 ⟨b1, rfl, hn1⟩
  refine RL.op (.free rfl) rfl rfl (Does.call rfl e253 (not_ok No xs [x] v _ _ (hv.mod (Mod.any' hn1.grow)).noM (Sl.new hn1 1 1 rfl (by omega) (fun h => h)) hb)) ?_
  rintro u2 w2 ⟨hr2, hf2, hg2⟩
  refine RL.p rfl rfl ?_
  refine RL.done ?_
  refine RK.ret_of Tryz.func195 (res1 rfl rfl) ?_ _
  exact ⟨_, rfl, by rw [he] at hr2; exact hr2, fun b hb => by have := hf2 b hb; have := hn1.grow.size; omega, hn1.grow.trans hg2⟩
theorem and1_ok (M : Nat → Prop) (w : World) (b : Nat) (ys : List Int) (vb : Value) (hb : Blk w b 41 [vb]) (hv : Sl M w vb 1 ys.length (ints ys)) (n : Int) : Fx Tryz.prog 263 [.int .i64 n, pp b] w (fun u w' => u = .bool (ys.contains n) ∧ Grow w w') := by
  refine enter Tryz.func263 rfl rfl rfl _ (Pick.sub (l := [0, 1]) (.cons rfl (.cons rfl .nil))) ?_
  refine RK.seq ?_
  refine RK.region ?_
  refine RL.p rfl rfl ?_
  refine RL.done ?_
  refine RK.seq ?_
  refine RK.region ?_
  refine RL.q (.free rfl) rfl rfl (Yld.load p41 rfl (at1 (hb.cell rfl))) ?_
  refine RL.p rfl rfl ?_
  refine RL.op (.free rfl) rfl rfl (Does.call rfl e264 (has_ok M ys vb n _ hv)) ?_
  rintro _ _ ⟨rfl, rfl⟩
  refine RL.p rfl rfl ?_
  refine RL.done ?_
  refine RK.ret_of Tryz.func263 (res1 rfl rfl) ?_ _
  exact ⟨_, rfl, rfl, Mod.refl _ _⟩
theorem and_ok (M : Nat → Prop) (xs ys : List Int) (va vb : Value) (w : World) (ha : Sl M w va 1 xs.length (ints xs)) (hvb : Sl M w vb 1 ys.length (ints ys)) (hb : xs.length * 8 ≤ 140737488355328) :
    Fx Tryz.prog 208 [va, vb] w (fun u w' => Row w' 3 1 u ((mkRow xs).filter fun n => ys.contains n).length (ints ((mkRow xs).filter fun n => ys.contains n)) ∧ Fresh w.heap.size u ∧ Grow w w') := by
  obtain ⟨ad', c', rfl⟩ := hvb.shape
  refine enter Tryz.func208 rfl rfl rfl _ (Pick.sub (l := [0, 1]) (.cons rfl (.cons rfl .nil))) ?_
  refine RK.seq ?_
  refine RK.region ?_
  refine RL.op (.free rfl) rfl rfl (Does.box rfl) ?_
  rintro _ w1 ⟨b1, rfl, hn1⟩
  refine RL.p rfl rfl ?_
  refine RL.done ?_
  refine RK.seq ?_
  refine RK.region ?_
  iterate 2 refine RL.p rfl rfl ?_
  refine RL.op (.free rfl) rfl rfl (Does.call rfl e262 (kept_ok No xs va _ (fun n => ys.contains n) _ (ha.mod (Mod.any' hn1.grow)).noM hb ⟨_, _, rfl, e263, fun n w' hg => and1_ok No w' b1 ys _ (hn1.blk.mod hg (fun h => h)) (hvb.noM.mod (hn1.grow.trans hg)) n⟩)) ?_
  rintro u2 w2 ⟨hr2, hf2, hg2⟩
  refine RL.p rfl rfl ?_
  refine RL.done ?_
  refine RK.ret_of Tryz.func208 (res1 rfl rfl) ?_ _
  exact ⟨_, rfl, hr2, fun b hb => by have := hf2 b hb; have := hn1.grow.size; omega, hn1.grow.trans hg2⟩
end Go.Proofs.YtnnmgfnhblbolaaGreatDoor
set_option linter.unusedVariables false
set_option linter.unusedSimpArgs false
set_option maxHeartbeats 800000
set_option maxRecDepth 100000
namespace Go.Proofs.YtnnmgfnhblbolaaGreatDoor
open Go Go.X
theorem drop_ok (M : Nat → Prop) (w : World) (ix mh mr : Nat) (has : List (Int × List Lab)) (rows : List (LabK × List Int)) (h : IdxAt M w ix mh mr has rows) (hMh : M mh) (hMr : M mr) (hM : ∀ b, M b → b < w.heap.size) (id : Int)
    (hB : ∀ t ∈ rows, t.2.length ≤ 1000000000000) :
    Fx Tryz.prog 202 [pp ix, .int .i64 id] w (fun u w' => u = .bool (lookM has id).isSome ∧ IdxAt M w' ix mh mr (cutM has id) (dropRows rows id ((lookM has id).getD [])) ∧ Mod (fun b => b = mh ∨ b = mr) w w') := by
  obtain ⟨l, hl1, hl2, hl3⟩ := h.hl
  have n1 : ix ≠ mh := h.blk.ty.nem hl2.mp
  have n2 : ix ≠ mr := by obtain ⟨r, _, hr2, _⟩ := h.rl; exact h.blk.ty.nem hr2.mp
  obtain ⟨ls, hls⟩ : ∃ ls, (lookM has id).getD [] = ls := ⟨_, rfl⟩
  rw [hls]
  obtain ⟨vl, hvl, hv⟩ : ∃ vl, (lookM (l.map fun t => (t.1, t.2.2)) id).getD (.slice none 0 0) = vl ∧ SlL M w vl ls := by
    have e1 := lookM_map (fun a : List Lab × Value => a.1) id l
    have e2 := lookM_map (fun a : List Lab × Value => a.2) id l
    rw [hl1] at e1
    rw [e1] at hls
    rw [e2]
    cases hh : lookM l id with
    | none => rw [hh] at hls; simp at hls; subst hls; exact ⟨_, rfl, Sl.nil _ _ _ _ _⟩
    | some a => rw [hh] at hls; simp at hls; subst hls; exact ⟨_, rfl, hl3 _ (lookM_mem hh)⟩
  have hsome : (lookM (l.map fun t => (t.1, t.2.2)) id).isSome = (lookM has id).isSome := by
    have e1 := lookM_map (fun a : List Lab × Value => a.1) id l
    have e2 := lookM_map (fun a : List Lab × Value => a.2) id l
    rw [hl1] at e1
    rw [e1, e2]; simp
  obtain ⟨ad, c, rfl⟩ := hv.shape
  have hbig := hv.big
  refine enter Tryz.func202 rfl rfl rfl _ (Pick.sub (l := [0, 1]) (.cons rfl (.cons rfl .nil))) ?_
  refine RK.seq ?_
  refine RK.region ?_
  refine RL.p rfl rfl ?_
  refine RL.done ?_
  refine RK.seq ?_
  refine RK.region ?_
  iterate 2 refine RL.p rfl rfl ?_
  refine RL.q (.free rfl) rfl rfl (Yld.fieldAddr fo178_0 rfl) ?_
  refine RL.q (.free rfl) rfl rfl (Yld.load p175 rfl (at1 (h.blk.cell rfl))) ?_
  refine RL.p rfl rfl ?_
  refine RL.q (.free rfl) rfl rfl (Yld.lookup Tryz.underlying175 key3 i37 rfl rfl (fun w' e => e ▸ hl2)) ?_
  refine RL.re (d := 15) rfl rfl (show _ = Value.tuple #[.slice ad ls.length c, .bool (lookM has id).isSome] by rw [hvl, hsome]; rfl) ?_
  iterate 5 refine RL.p rfl rfl ?_
  refine RL.done ?_
  iterate 2 refine RK.seq ?_
  refine RK.region ?_
  refine RL.p rfl rfl ?_
  refine RL.q (.free rfl) rfl rfl (Yld.lenSl u37 rfl) ?_
  refine RL.p rfl rfl ?_
  refine RL.done ?_
  refine RK.block ?_
  refine RK.loop (fun k : Nat => [(0, pp ix), (1, .int .i64 id), (18, .slice ad ls.length c), (19, .int .i64 ls.length), (20, .int .i64 k), (6, .bool (lookM has id).isSome)]) (fun k w' => IdxAt M w' ix mh mr has (dropRows rows id (ls.take k)) ∧ Mod (fun b => b = mh ∨ b = mr) w w' ∧ k ≤ ls.length) (fun k => ls.length - k) 0 ⟨rfl, rfl, rfl, rfl, rfl, rfl, trivial⟩ ⟨by simpa [dropRows] using h, Mod.refl _ _, by omega⟩ (fun k w' hI ih => ?_)
  obtain ⟨hi, hmod, hk⟩ := hI
  refine RK.seq ?_
  refine RK.region ?_
  refine RL.p rfl rfl ?_
  refine RL.done ?_
  refine RK.seq ?_
  first | refine RK.condD rfl (fun h21 => ?_) (fun h21 => ?_) | refine RK.condN rfl (fun h21 => ?_) (fun h21 => ?_) | refine RK.cond rfl (fun h21 => ?_) (fun h21 => ?_)
  · obtain ⟨x, hx⟩ : ∃ x, ls[k]? = some x := ⟨ls[k]'(by omega), List.getElem?_eq_getElem (by omega)⟩
    obtain ⟨bx, ox, cx, he, hbM, hkl, hcell⟩ := hv.elem labC_len hx
    cases he
    obtain ⟨r, hr1, hr2, hr3⟩ := hi.rl
    have hmodM : Mod M w w' := hmod.mono fun b _ e => by rcases e with rfl | rfl <;> assumption
    have htk : ls.take (k + 1) = ls.take k ++ [x] := by rw [List.take_succ_eq_append_getElem (by omega)]; congr 2; exact (List.getElem?_eq_some_iff.1 hx).2
    have hbnd : ((lookM (dropRows rows id (ls.take k)) (labK x)).getD []).length ≤ 1000000000000 := look_bound (dropRows_bound hB id (ls.take k)) (labK x)
    obtain ⟨row0, hrow0⟩ : ∃ row0, (lookM (dropRows rows id (ls.take k)) (labK x)).getD [] = row0 := ⟨_, rfl⟩
    rw [hrow0] at hbnd
    obtain ⟨vv, hval, hsl⟩ : ∃ vv, (lookM (r.map fun t => (t.1, t.2.2)) (labK x)).getD (.slice none 0 0) = vv ∧ Sl M w' vv 1 row0.length (ints row0) := by
        rw [← hrow0]
        have e1 := lookM_map (fun a : List Int × Value => a.1) (labK x) r
        have e2 := lookM_map (fun a : List Int × Value => a.2) (labK x) r
        rw [hr1] at e1
        rw [e1, e2]
        cases hh : lookM r (labK x) with
        | none => exact ⟨_, rfl, Sl.nil _ _ _ _ _⟩
        | some a => exact ⟨_, rfl, hr3 _ (lookM_mem hh)⟩
    refine RK.skip ?_
    refine RK.seq ?_
    refine RK.block ?_
    refine RK.seq ?_
    refine RK.region ?_
    refine RL.q (.free rfl) rfl rfl (Yld.indexAddrN u37 i261 rfl rfl (by omega)) ?_
    refine RL.q (.free rfl) rfl rfl (Yld.loadN (cs := [.string x.name, .string x.value]) a261 rfl (atN (fun j u hj => hmodM.cell (hcell j u hj) hbM))) ?_
    refine RL.op (.free rfl) rfl rfl (Does.alloc i261) ?_
    rintro _ w5 ⟨b1, rfl, hn1⟩
    refine RL.op' (.free rfl) rfl (Does.storeN i261 rfl rfl rfl rfl hn1.blk (Nat.le_refl 2)) ?_
    rintro _ w6 ⟨hb6, hm6, _⟩
    have hB6 : Blk w6 b1 261 [.string x.name, .string x.value] := hb6
    have hg6 : Grow w' w6 := hn1.grow.then hm6 (fun y hy e => by have e' : y = b1 := e; have := hn1.at_; omega)
    refine RL.done ?_
    refine RK.seq ?_
    refine RK.drawM No [(0, false), (1, false), (2, false), (3, false), (4, false), (5, false), (6, false), (7, false), (8, false), (9, false), (10, false), (11, false), (12, true), (13, true)] [13] mixed (by kernel_rfl) ?_
    iterate 2 refine DL.p rfl rfl rfl ?_
    refine DL.qf rfl (.free rfl) rfl rfl (Yld.fieldAddr fo178_1 rfl) ?_
    refine DL.q rfl (.free rfl) rfl rfl rfl (Yld.load p176 rfl (atM ((hi.blk.mod hg6 (fun h => h)).cell rfl) (fun h => h))) (Mod.drew _ _) ?_
    refine DL.q rfl (.free rfl) rfl rfl rfl (Yld.loadN (cs := [.string x.name, .string x.value]) a261 rfl (atNM (fun j u hj => by rw [Nat.zero_add]; exact hB6.cell' hj) (fun h => h))) (Mod.drew _ _) ?_
    iterate 2 refine DL.p rfl rfl rfl ?_
    refine DL.qf rfl (.free rfl) rfl rfl (Yld.fieldAddr fo178_1 rfl) ?_
    refine DL.q rfl (.free rfl) rfl rfl rfl (Yld.load p176 rfl (atM ((hi.blk.mod hg6 (fun h => h)).cell rfl) (fun h => h))) (Mod.drew _ _) ?_
    refine DL.q rfl (.free rfl) rfl rfl rfl (Yld.loadN (cs := [.string x.name, .string x.value]) a261 rfl (atNM (fun j u hj => by rw [Nat.zero_add]; exact hB6.cell' hj) (fun h => h))) (Mod.drew _ _) ?_
    refine DL.q rfl (.free rfl) rfl rfl rfl (Yld.lookup Tryz.underlying176 key261 i41 (k := labK x) rfl rfl (fun w' hm => (hr2.mod hg6 (fun h => h)).mod hm (fun h => h))) (Mod.drew _ _) ?_
    refine DL.re (d := 34) rfl rfl (hval) ?_
    refine DL.p rfl rfl rfl ?_
    refine DL.op rfl (.free rfl) rfl rfl (Does.call rfl e195 (cut_ok M row0 id vv _ ((hsl.mod (Mod.any' hg6)).mod (Mod.drew M _)) (by omega))) ?_
    rintro u7 w7 ⟨hr7, hf7, hg7⟩
    refine ⟨(Mod.drew _ _).trans hg7, ?_⟩
    have hg07 : Grow w' w7 := (hg6.trans (Mod.drew _ _)).trans hg7
    refine DL.opT rfl (.free rfl) rfl rfl (Does.mapUpdate Tryz.underlying176 key261 (k := labK x) rfl rfl rfl (hr2.mod hg07 (fun h => h))) ?_
    rintro _ w8 ⟨hm8, hmod8, hs8⟩
    obtain ⟨ad7, c7, rfl⟩ := hr7.slice
    have hmodk : Mod (· = mr) w' w8 := (Mod.any' hg07).trans hmod8
    have hb1r : b1 ≠ mr := hB6.ty.nem (hr2.mod hg6 (fun h => h)).mp
    have hB8 : Blk w8 b1 261 [.string x.name, .string x.value] := (hB6.mod ((Mod.drew No _).trans hg7) (fun h => h)).mod hmod8 hb1r
    have hu7 : Sl M w8 (.slice ad7 (cutRow row0 id).length c7) 1 (cutRow row0 id).length (ints (cutRow row0 id)) := (Sl.own hr7 (fun b e hb => by have h1 := hf7 b e; have h2 := hM b hb; have h3 := hg6.size; have h4 := hmod.size; simp only [World.drew] at h1; omega)).mod (hmod8.mono fun b _ e => e ▸ hMr)
    have hI8 : ∀ w9, Mod (· = mr) w8 w9 → ∀ r9 : List (LabK × (List Int × Value)), (∀ t ∈ r9, t ∈ putM r (labK x) (cutRow row0 id, .slice ad7 (cutRow row0 id).length c7)) → MapAt pairV w9 mr (r9.map fun t => (t.1, t.2.2)) → r9.map (fun t => (t.1, t.2.1)) = dropRows rows id (ls.take (k + 1)) → IdxAt M w9 ix mh mr has (dropRows rows id (ls.take (k + 1))) := by
        intro w9 h9 r9 hsub hmap hrows
        obtain ⟨l', hl1', hl2', hl3'⟩ := hi.hl
        have hm9 := hmodk.trans h9
        refine ⟨hi.blk.mod hm9 n2, hi.ne, ⟨l', hl1', hl2'.mod hm9 hi.ne, fun t ht => (hl3' t ht).mod (hm9.mono fun b _ e => e ▸ hMr)⟩, ⟨r9, hrows, hmap, fun t ht => ?_⟩⟩
        rcases mem_putM (hsub t ht) with h1 | rfl
        · exact (hr3 t h1).mod (hm9.mono fun b _ e => e ▸ hMr)
        · exact hu7.mod (h9.mono fun b _ e => e ▸ hMr)
    have hput : (putM r (labK x) (cutRow row0 id, Value.slice ad7 (cutRow row0 id).length c7)).map (fun t => (t.1, t.2.1)) = putM (dropRows rows id (ls.take k)) (labK x) (cutRow row0 id) := by
        rw [← hr1]; exact (putM_map (fun a : List Int × Value => a.1) (labK x) (_, Value.slice ad7 (cutRow row0 id).length c7) r).symm
    have hput2 : MapAt pairV w8 mr ((putM r (labK x) (cutRow row0 id, Value.slice ad7 (cutRow row0 id).length c7)).map fun t => (t.1, t.2.2)) := by
        rw [← putM_map (fun a : List Int × Value => a.2) (labK x) (_, Value.slice ad7 (cutRow row0 id).length c7) r]; exact hm8
    have hlk8 : (lookM ((putM r (labK x) (cutRow row0 id, Value.slice ad7 (cutRow row0 id).length c7)).map fun t => (t.1, t.2.2)) (labK x)).getD (.slice none 0 0) = .slice ad7 (cutRow row0 id).length c7 := by
        rw [lookM_map (fun a : List Int × Value => a.2), lookM_putM]; simp
    refine DL.done ?_
    refine RK.seq ?_
    refine RK.drawM No [(0, false), (1, false), (2, false), (3, false), (4, false), (5, false), (6, false), (7, false)] [] mixed (by kernel_rfl) ?_
    iterate 2 refine DL.p rfl rfl rfl ?_
    refine DL.qf rfl (.free rfl) rfl rfl (Yld.fieldAddr fo178_1 rfl) ?_
    refine DL.q rfl (.free rfl) rfl rfl rfl (Yld.load p176 rfl (atM ((hi.blk.mod hmodk n2).cell rfl) (fun h => h))) (Mod.drew _ _) ?_
    refine DL.q rfl (.free rfl) rfl rfl rfl (Yld.loadN (cs := [.string x.name, .string x.value]) a261 rfl (atNM (fun j u hj => by rw [Nat.zero_add]; exact hB8.cell' hj) (fun h => h))) (Mod.drew _ _) ?_
    refine DL.q rfl (.free rfl) rfl rfl rfl (Yld.lookup Tryz.underlying176 key261 i41 (k := labK x) rfl rfl (fun w' hm => hput2.mod hm (fun h => h))) (Mod.drew _ _) ?_
    refine DL.re (d := 42) rfl rfl (hlk8) ?_
    refine DL.q rfl (.free rfl) rfl rfl rfl (Yld.lenSl u41 rfl) (Mod.drew _ _) ?_
    refine DL.p rfl rfl rfl ?_
    refine DL.done ?_
    first | refine RK.condD rfl (fun h44 => ?_) (fun h44 => ?_) | refine RK.condN rfl (fun h44 => ?_) (fun h44 => ?_) | refine RK.cond rfl (fun h44 => ?_) (fun h44 => ?_)
    · have hemp : cutRow row0 id = [] := List.eq_nil_of_length_eq_zero (by omega)
      have hstep : cutM (putM (dropRows rows id (ls.take k)) (labK x) (cutRow row0 id)) (labK x) = dropRows rows id (ls.take (k + 1)) := by rw [htk, dropRows_snoc, cutRow1, hrow0, if_pos hemp]
      have hput3 := hput2.mod (Mod.drew No w8) (fun h => h)
      refine RK.drawM No [(0, false), (1, false), (2, false), (3, false), (4, false), (5, true)] [5] mixed (by kernel_rfl) ?_
      iterate 2 refine DL.p rfl rfl rfl ?_
      refine DL.qf rfl (.free rfl) rfl rfl (Yld.fieldAddr fo178_1 rfl) ?_
      refine DL.q rfl (.free rfl) rfl rfl rfl (Yld.load p176 rfl (atM ((hi.blk.mod (hmodk.trans (Mod.drew _ _)) n2).cell rfl) (fun h => h))) (Mod.drew _ _) ?_
      refine DL.q rfl (.free rfl) rfl rfl rfl (Yld.loadN (cs := [.string x.name, .string x.value]) a261 rfl (atNM (fun j u hj => by rw [Nat.zero_add]; exact (hB8.mod (Mod.drew No _) (fun h => h)).cell' hj) (fun h => h))) (Mod.drew _ _) ?_
      refine DL.opT rfl (.free rfl) rfl rfl (Does.delete Tryz.underlying176 key261 (k := labK x) rfl rfl ((hput2.mod (Mod.drew No w8) (fun h => h)).mod (Mod.drew No _) (fun h => h))) ?_
      rintro _ w9 ⟨hm9, hmod9, hs9⟩
      have hmod89 : Mod (· = mr) w8 w9 := ((Mod.drew _ _).trans (Mod.drew _ _)).trans hmod9
      have hidx9 := hI8 w9 hmod89 (cutM (putM r (labK x) (cutRow row0 id, Value.slice ad7 (cutRow row0 id).length c7)) (labK x)) (fun t ht => mem_cutM' ht) (by rw [← cutM_map (fun a : List Int × Value => a.2) (labK x)]; exact hm9) (by rw [← hstep, ← hput]; exact (cutM_map (fun a : List Int × Value => a.1) (labK x) _).symm)
      refine DL.done ?_
      refine RK.inBlock ?_
      refine RK.region ?_
      refine RL.p rfl rfl ?_
      refine RL.re (d := 50) rfl rfl (succ_i64 (by omega)) ?_
      refine RL.p rfl rfl ?_
      refine RL.done ?_
      exact RK.back (ih (k + 1) _ ⟨hidx9, hmod.trans ((hmodk.trans hmod89).mono fun b _ e => .inr e), by omega⟩ (by omega)) ⟨rfl, rfl, rfl, rfl, rfl, rfl, trivial⟩
    · have hemp : ¬ cutRow row0 id = [] := fun e => h44 (by rw [e]; rfl)
      have hstep : putM (dropRows rows id (ls.take k)) (labK x) (cutRow row0 id) = dropRows rows id (ls.take (k + 1)) := by rw [htk, dropRows_snoc, cutRow1, hrow0, if_neg hemp]
      have hidx9 := hI8 w8.drew (Mod.drew _ _) _ (fun t ht => ht) (hput2.mod (Mod.drew No _) (fun h => h)) (hput.trans hstep)
      refine RK.skip ?_
      refine RK.inBlock ?_
      refine RK.region ?_
      refine RL.p rfl rfl ?_
      refine RL.re (d := 50) rfl rfl (succ_i64 (by omega)) ?_
      refine RL.p rfl rfl ?_
      refine RL.done ?_
      exact RK.back (ih (k + 1) _ ⟨hidx9, hmod.trans ((hmodk.trans (Mod.drew _ _)).mono fun b _ e => .inr e), by omega⟩ (by omega)) ⟨rfl, rfl, rfl, rfl, rfl, rfl, trivial⟩
  · have ek : ls.take k = ls := List.take_of_length_le (by omega)
    rw [ek] at hi
    obtain ⟨l', hl1', hl2', hl3'⟩ := hi.hl
    refine RK.exit rfl ?_
    refine RK.seq ?_
    refine RK.region ?_
    iterate 2 refine RL.p rfl rfl ?_
    refine RL.q (.free rfl) rfl rfl (Yld.fieldAddr fo178_0 rfl) ?_
    refine RL.q (.free rfl) rfl rfl (Yld.load p175 rfl (at1 (hi.blk.cell rfl))) ?_
    refine RL.p rfl rfl ?_
    refine RL.op' (.free rfl) rfl (Does.delete Tryz.underlying175 key3 (k := id) rfl rfl hl2') ?_
    rintro _ w9 ⟨hm9, hmod9, hs9⟩
    refine RL.done ?_
    refine RK.seq ?_
    refine RK.region ?_
    iterate 2 refine RL.p rfl rfl ?_
    refine RL.done ?_
    refine RK.ret_of Tryz.func202 (res1 rfl rfl) ?_ _
    exact ⟨_, rfl, rfl, by
        obtain ⟨r, hr1, hr2, hr3⟩ := hi.rl
        refine ⟨hi.blk.mod hmod9 n1, hi.ne, ⟨cutM l' id, ?_, ?_, fun t ht => ?_⟩, ⟨r, hr1, hr2.mod hmod9 hi.ne.symm, fun t ht => (hr3 t ht).mod (hmod9.mono fun b _ e => e ▸ hMh)⟩⟩
        · rw [← hl1']; exact (cutM_map (fun a : List Lab × Value => a.1) id l').symm
        · rw [← cutM_map (fun a : List Lab × Value => a.2) id l']; exact hm9
        · exact (hl3' t (mem_cutM' ht)).mod (hmod9.mono fun b _ e => e ▸ hMh)
      , hmod.trans (hmod9.mono fun b _ e => .inl e)⟩
end Go.Proofs.YtnnmgfnhblbolaaGreatDoor
set_option linter.unusedVariables false
set_option linter.unusedSimpArgs false
set_option maxHeartbeats 400000
set_option maxRecDepth 100000
namespace Go.Proofs.YtnnmgfnhblbolaaGreatDoor
open Go Go.X
def giveS (out : List Int) (id : Int) : List Int := if out.contains id then cutRow out id else out
theorem cmpInt_ok (x y : Int) (w : World) : Fx Tryz.prog 188 [.int .i64 x, .int .i64 y] w (fun u w' => u = .int .i64 (Lib.compareInt x y) ∧ w = w') := by
  refine Calls.mono (Tryz.cmp_Compare_int x y w) ?_
  rintro e w' ⟨rfl, rfl⟩
  exact ⟨_, rfl, rfl, rfl⟩
end Go.Proofs.YtnnmgfnhblbolaaGreatDoor
set_option linter.unusedVariables false
set_option linter.unusedSimpArgs false
set_option maxHeartbeats 800000
set_option maxRecDepth 100000
namespace Go.Proofs.YtnnmgfnhblbolaaGreatDoor
open Go Go.X
end Go.Proofs.YtnnmgfnhblbolaaGreatDoor
set_option linter.unusedVariables false
set_option linter.unusedSimpArgs false
set_option maxHeartbeats 800000
set_option maxRecDepth 100000
namespace Go.Proofs.YtnnmgfnhblbolaaGreatDoor
open Go Go.X
def placeS (s : St) (id : Int) : Option Nat := s.al.findIdx? fun a => decide (a.1 = id)
def resolveS (s : St) (id : Int) : St × Int :=
  match placeS s id with
  | none => (s, 5)
  | some i => ({ s with al := s.al.eraseIdx i, out := giveS s.out id, has := cutM s.has id, rows := dropRows s.rows id ((lookM s.has id).getD []) }, 0)
end Go.Proofs.YtnnmgfnhblbolaaGreatDoor
set_option linter.unusedVariables false
set_option linter.unusedSimpArgs false
set_option maxHeartbeats 800000
set_option maxRecDepth 100000
namespace Go.Proofs.YtnnmgfnhblbolaaGreatDoor
open Go Go.X
theorem told_ok (M : Nat → Prop) (a : Al) (w : World) (ha : SlL M w a.v a.ls) (hb : a.ls.length ≤ 1000) :
    Fx Tryz.prog 139 [.agg #[.int .i64 a.id, a.v, .float .f64 a.val]] w (fun u w' => ∃ ad c, u = .agg #[.int .i64 a.id, .slice ad a.ls.length c, .float .f64 a.val] ∧ Row w' 261 2 (.slice ad a.ls.length c) a.ls.length (a.ls.flatMap labC) ∧ Fresh w.heap.size (.slice ad a.ls.length c) ∧ Grow w w') := by
  obtain ⟨ad, c, hva⟩ := ha.shape
  obtain ⟨aid, als, val, va⟩ := a
  simp only at hva ha hb
  subst hva
  refine enter Tryz.func139 rfl rfl rfl _ (Pick.sub (l := [0]) (.cons rfl .nil)) ?_
  refine RK.seq ?_
  refine RK.region ?_
  refine RL.op (.free rfl) rfl rfl (Does.box rfl) ?_
  rintro _ w1 ⟨b1, rfl, hn1⟩
  refine RL.op (.free rfl) rfl rfl (Does.alloc i137) ?_
  rintro _ w2 ⟨b2, rfl, hn2⟩
  have hg02 := hn1.grow.trans hn2.grow
  have h11 := hn1.at_
  have h12 := hn1.size
  have h21 := hn2.at_
  have h22 := hn2.size
  refine RL.done ?_
  refine RK.seq ?_
  refine RK.region ?_
  refine RL.q (.free rfl) rfl rfl (Yld.fieldAddr fo137_1 rfl) ?_
  refine RL.q (.free rfl) rfl rfl (Yld.load p37 rfl (at1 ((hn1.blk.mod hn2.grow (fun h => h)).cell rfl))) ?_
  refine RL.op (.free rfl) rfl rfl (Does.call rfl e200 (cloneL_ok M als _ _ (ha.mod (Mod.any' hg02)) hb)) ?_
  rintro u3 w3 ⟨hr3, hf3, hg3⟩
  obtain ⟨ad3, c3, rfl⟩ := hr3.slice
  refine RL.q (.free rfl) rfl rfl (Yld.fieldAddr fo137_1 rfl) ?_
  refine RL.op' (.free rfl) rfl (Does.store i37 rfl rfl rfl (hn1.blk.mod (hn2.grow.trans hg3) (fun h => h)) (.s .z)) ?_
  rintro _ w4 ⟨hb4, hm4, hs4⟩
  refine RL.done ?_
  refine RK.seq ?_
  refine RK.region ?_
  refine RL.q (.free rfl) rfl rfl (Yld.loadN (cs := [.int .i64 aid, .slice ad3 als.length c3, .float .f64 val]) a137 rfl (atN (fun j u hj => by rw [Nat.zero_add]; exact Blk.cell' hb4 hj))) ?_
  refine RL.op' (.free rfl) rfl (Does.storeN i137 rfl rfl rfl rfl ((hn2.blk.mod hg3 (fun h => h)).mod hm4 (by omega)) (Nat.le_refl 3)) ?_
  rintro _ w5 ⟨hb5, hm5, _⟩
  refine RL.done ?_
  refine RK.ret_of Tryz.func139 (resC (cs := [.int .i64 aid, .slice ad3 als.length c3, .float .f64 val]) rfl rfl a137 hb5) ?_ _
  exact ⟨_, rfl, ad3, c3, rfl, (hr3.mod hm4 (fun b e e2 => by have e2' : b = b1 := e2; have := hf3 b e; omega)).mod hm5 (fun b e e2 => by have e2' : b = b2 := e2; have := hf3 b e; omega), fun b e => by have := hf3 b e; omega, ((hg02.trans hg3).then hm4 (fun b hb e => by have e' : b = b1 := e; omega)).then hm5 (fun b hb e => by have e' : b = b2 := e; omega)⟩
theorem all_ok (w : World) (p : Nat) (s : St) (M : Nat → Prop) (h : StoreAt w p s M) (hb : s.al.length ≤ 1000000) (hl : ∀ a ∈ s.al, a.2.1.length ≤ 1000) :
    Fx Tryz.prog 126 [pp p] w (fun u w' => ∃ al' : List Al, Row w' 137 3 u al'.length (al'.flatMap alC) ∧ al'.map pub = s.al ∧ (∀ a ∈ al', SlL No w' a.v a.ls) ∧ Grow w w') := by
  obtain ⟨q, ix, mh, mr, vo, vl, al, hO, h⟩ := h
  have hlen : al.length = s.al.length := by rw [← h.als]; simp
  have hsl := Sl.own (M := No) h.row (fun _ _ h => h)
  obtain ⟨ad, c, rfl⟩ := h.row.slice
  refine enter Tryz.func126 rfl rfl rfl _ (Pick.sub (l := [0]) (.cons rfl .nil)) ?_
  refine RK.seq ?_
  refine RK.region ?_
  refine RL.p rfl rfl ?_
  refine RL.done ?_
  refine RK.seq ?_
  refine RK.region ?_
  refine RL.p rfl rfl ?_
  refine RL.done ?_
  iterate 2 refine RK.seq ?_
  refine RK.region ?_
  iterate 2 refine RL.p rfl rfl ?_
  refine RL.q (.free rfl) rfl rfl (Yld.fieldAddr fo118_2 rfl) ?_
  refine RL.q (.free rfl) rfl rfl (Yld.load p116 rfl (at1 (h.blk.cell rfl))) ?_
  refine RL.q (.free rfl) rfl rfl (Yld.lenSl u116 rfl) ?_
  refine RL.p rfl rfl ?_
  refine RL.done ?_
  refine RK.block ?_
  refine RK.loop (fun s : Nat × Value => [(9, .slice ad al.length c), (10, .int .i64 al.length), (11, .int .i64 (s.1 : Int)), (3, s.2)]) (fun s w' => (∃ al' : List Al, al'.length = s.1 ∧ Row w' 137 3 s.2 s.1 (al'.flatMap alC) ∧ al'.map pub = (al.take s.1).map pub ∧ ∀ a ∈ al', SlL (fun b => s.2.ownBlock = some b) w' a.v a.ls) ∧ Fresh w.heap.size s.2 ∧ Grow w w' ∧ s.1 ≤ al.length) (fun s => al.length - s.1) (0, .slice none 0 0) ⟨rfl, rfl, rfl, rfl, trivial⟩ ⟨⟨[], rfl, Row.nil _ _ _, rfl, by simp⟩, fun b hb => by simp [Value.ownBlock] at hb, Mod.refl _ _, by simp⟩ (fun s w' hI ih => ?_)
  obtain ⟨k, u⟩ := s
  obtain ⟨⟨al', hl', hr, hpub, hsls⟩, hf, hg, hk⟩ := hI
  simp only at hl' hr hpub hsls hf hk
  refine RK.seq ?_
  refine RK.region ?_
  refine RL.p rfl rfl ?_
  refine RL.done ?_
  refine RK.seq ?_
  first | refine RK.condD rfl (fun h12 => ?_) (fun h12 => ?_) | refine RK.condN rfl (fun h12 => ?_) (fun h12 => ?_) | refine RK.cond rfl (fun h12 => ?_) (fun h12 => ?_)
  · obtain ⟨a, hx⟩ : ∃ a, al[k]? = some a := ⟨al[k]'(by omega), List.getElem?_eq_getElem (by omega)⟩
    obtain ⟨b1, o1, c1', he1, _, _, hc1⟩ := hsl.elem alC_len hx
    cases he1
    have hsx : (a.id, a.ls, a.val) ∈ s.al := by rw [← h.als]; exact List.mem_map_of_mem (f := pub) (List.mem_of_getElem? hx)
    have hsla := h.sls a (List.mem_of_getElem? hx)
    obtain ⟨ada, ca, hva⟩ := hsla.shape
    obtain ⟨aid, als, aval, av⟩ := a
    simp only at hva hsx hsla
    subst hva
    refine RK.skip ?_
    refine RK.seq ?_
    refine RK.block ?_
    refine RK.seq ?_
    refine RK.region ?_
    refine RL.q (.free rfl) rfl rfl (Yld.indexAddrN u116 i137 rfl rfl (by omega)) ?_
    refine RL.q (.free rfl) rfl rfl (Yld.loadN (cs := [.int .i64 aid, .slice ada als.length ca, .float .f64 aval]) a137 rfl (atN (fun q u hq => hg.cell (hc1 q u hq) (fun h => h)))) ?_
    refine RL.op (.free rfl) rfl rfl (Does.alloc i137) ?_
    rintro _ w2 ⟨b2, rfl, hn2⟩
    refine RL.op' (.free rfl) rfl (Does.storeN i137 rfl rfl rfl rfl hn2.blk (Nat.le_refl 3)) ?_
    rintro _ w3 ⟨hb3, hm3, _⟩
    have hB3 : Blk w3 b2 137 [.int .i64 aid, .slice ada als.length ca, .float .f64 aval] := hb3
    have hg3 : Grow w' w3 := hn2.grow.then hm3 (fun y hy e => by have e' : y = b2 := e; have := hn2.at_; omega)
    refine RL.done ?_
    refine RK.region ?_
    refine RL.p rfl rfl ?_
    refine RL.q (.free rfl) rfl rfl (Yld.loadN (cs := [.int .i64 aid, .slice ada als.length ca, .float .f64 aval]) a137 rfl (atN (fun q u hq => by rw [Nat.zero_add]; exact hB3.cell' hq))) ?_
    refine RL.op (.free rfl) rfl rfl (Does.call rfl e139 (told_ok M ⟨aid, als, aval, .slice ada als.length ca⟩ _ (hsla.mod (Mod.any' (hg.trans hg3))) (hl _ hsx))) ?_
    rintro _ w4 ⟨ad4, c4, rfl, hr4, hf4, hg4⟩
    refine RL.op (.free rfl) rfl rfl (Does.slice1 u116 i137 rfl rfl rfl rfl rfl) ?_
    rintro _ w5 ⟨b5, rfl, hn5⟩
    have hg35 := (hg3.trans hg4).trans hn5.grow
    have hb5 : al'.length + 1 ≤ 1000001 := by omega
    refine RL.op (.free rfl) rfl rfl (Does.append u116 i137 rfl rfl rfl rfl rfl (hr.mod hg35 (fun _ _ h => h)) (Sl.new hn5 3 1 rfl (by omega) (fun h => h)) (rfl) (by omega)) ?_
    rintro u6 w6 ⟨hr6, hm6, hu6⟩
    have hs35 := hg35.size
    have hs3 := hg3.size
    have hs4 := hg4.size
    have hs5 := hn5.grow.size
    have hlt5 : ∀ b, u.ownBlock = some b → b < w'.heap.size := fun b e => hr.lt e
    have hoff : ∀ b, b < w5.heap.size → (u.ownBlock = some b ∨ u6.ownBlock = some b) → u.ownBlock = some b := fun b hb e => by
        rcases e with e | e
        · exact e
        · rcases hu6 with h1 | h1
          · rw [← h1]; exact e
          · rw [h1] at e; cases e; omega
    have hr4' := hr4.mod hn5.grow (fun _ _ h => h)
    have hslN : SlL (fun b => u.ownBlock = some b ∨ u6.ownBlock = some b) w5 (.slice ad4 als.length c4) als := Sl.own hr4' (fun b e hb => by have h1 := hr4'.lt e; have h2 := hf4 b e; have h3 := hlt5 b (hoff b h1 hb); omega)
    refine RL.p rfl rfl ?_
    refine RL.done ?_
    refine RK.inBlock ?_
    refine RK.region ?_
    refine RL.p rfl rfl ?_
    refine RL.re (d := 20) rfl rfl (succ_i64 (by omega)) ?_
    refine RL.p rfl rfl ?_
    refine RL.done ?_
    exact RK.back (ih (k + 1, u6) _ ⟨⟨al' ++ [⟨aid, als, aval, .slice ad4 als.length c4⟩], by simp [hl'], by
        have e1 : (al' ++ [(⟨aid, als, aval, .slice ad4 als.length c4⟩ : Al)]).flatMap alC = al'.flatMap alC ++ (Value.agg #[.int .i64 aid, .slice ad4 als.length c4, .float .f64 aval]).cells.toList := by simp [alC, Value.cells]
        rw [e1]; exact hr6, by
        rw [List.map_append, hpub, List.take_succ_eq_append_getElem (by omega), List.map_append, (List.getElem?_eq_some_iff.1 hx).2]
        rfl, fun a' ha' => by
        rcases List.mem_append.1 ha' with h1 | h1
        · exact ((((hsls a' h1).mod (Mod.any' hg35)).off (by omega) hoff).mod (hm6.mono fun b _ e => .inl e)).off (by omega) (fun b _ e => .inr e)
        · simp at h1; subst h1
          exact (hslN.mod (hm6.mono fun b _ e => .inl e)).off (by omega) (fun b _ e => .inr e)⟩, fun b e => by
        rcases hu6 with h1 | h1
        · exact hf b (h1 ▸ e)
        · simp only at e; rw [h1] at e; cases e; have := hg.size; omega, (hg.trans hg35).then hm6 (fun b hb e => by have := hf b e; omega), by simp only; omega⟩ (by simp only; omega)) ⟨rfl, rfl, rfl, rfl, trivial⟩
  · have ek : al.take k = al := List.take_of_length_le (by omega)
    rw [ek, h.als] at hpub
    refine RK.exit rfl ?_
    refine RK.seq ?_
    refine RK.region ?_
    iterate 2 refine RL.p rfl rfl ?_
    refine RL.done ?_
    refine RK.ret_of Tryz.func126 (res1 rfl rfl) ?_ _
    exact ⟨_, rfl, al', by rw [hl']; exact hr, hpub, fun a ha => (hsls a ha).noM, hg⟩
end Go.Proofs.YtnnmgfnhblbolaaGreatDoor
set_option linter.unusedVariables false
set_option linter.unusedSimpArgs false
set_option maxHeartbeats 400000
set_option maxRecDepth 100000
namespace Go.Proofs.YtnnmgfnhblbolaaGreatDoor
open Go Go.X
abbrev AlS := Int × List Lab × Nat
def hasOf (al : List AlS) : List (Int × List Lab) := al.map fun a => (a.1, a.2.1)
structure Gd (s : St) : Prop where
  ids : Ris (s.al.map (·.1))
  out : s.out = s.al.map (·.1)
  has : s.has = hasOf s.al
  ix : IxI s.has s.rows
  le : ∀ a ∈ s.al, 1 ≤ a.1 ∧ a.1 ≤ s.last
  sets : ∀ a ∈ s.al, isS a.2.1 = true
theorem Gd.new (m : Int) : Gd (St.new m) := ⟨by simp [St.new], rfl, rfl, IxI.nil, by simp [St.new], by simp [St.new]⟩
structure KM (M : Nat → Prop) (w : World) (p : Nat) (s : St) : Prop where
  at_ : StoreAt w p s M
  ok : Ok s
  gd : Gd s
theorem Gd.labs {s : St} (h : Gd s) : ∀ a ∈ s.al, a.2.1.length ≤ 1000 := fun a ha => by have := isS_len (h.sets a ha); omega
theorem KM.len16 {M : Nat → Prop} {w : World} {p : Nat} {s : St} (h : KM M w p s) : s.al.length ≤ 16 ∧ s.out.length ≤ 16 := by
  have h1 := h.ok.most; have h2 := h.ok.outLe; have h3 := h.ok.alOut
  omega
theorem KM.lt {M : Nat → Prop} {w : World} {p : Nat} {s : St} (h : KM M w p s) {b : Nat} (hb : M b) : b < w.heap.size := h.at_.lt hb
theorem KM.grow {M : Nat → Prop} {w w' : World} {p : Nat} {s : St} (h : KM M w p s) (hg : Grow w w') : KM M w' p s := ⟨h.at_.grow hg, h.ok, h.gd⟩
theorem KM.all {M : Nat → Prop} {w : World} {p : Nat} {s : St} (h : KM M w p s) : Fx Tryz.prog 126 [pp p] w (fun u w' => ∃ al' : List Al, Row w' 137 3 u al'.length (al'.flatMap alC) ∧ al'.map pub = s.al ∧ (∀ a ∈ al', SlL No w' a.v a.ls) ∧ Grow w w') :=
  all_ok w p s M h.at_ (by have := h.len16; omega) h.gd.labs
theorem KM.size {M : Nat → Prop} {w : World} {p : Nat} {s : St} (h : KM M w p s) : Fx Tryz.prog 26 [pp p] w (fun u w' => u = .int .i64 s.al.length ∧ w = w') := alertLen_ok w p s M h.at_
structure KX (O M : Nat → Prop) (w : World) (p : Nat) (s : St) : Prop where
  at_ : StoreX O M w p s
  ok : Ok s
  gd : Gd s
theorem KX.grow {O M : Nat → Prop} {w w' : World} {p : Nat} {s : St} (h : KX O M w p s) (hg : Grow w w') : KX O M w' p s := ⟨h.at_.grow hg, h.ok, h.gd⟩
theorem KX.off {O M M' : Nat → Prop} {w : World} {p : Nat} {s : St} (h : KX O M w p s) (h1 : ∀ b, O b → M' b) (h2 : ∀ b, M' b → M b) : KX O M' w p s := ⟨h.at_.off h1 h2, h.ok, h.gd⟩
theorem KX.mod {O M N : Nat → Prop} {w w' : World} {p : Nat} {s : St} (h : KX O M w p s) (hm : Mod N w w') (h1 : ∀ b, O b → ¬ N b) (h2 : ∀ b, N b → b < w.heap.size → M b) : KX O M w' p s := ⟨h.at_.mod hm h1 h2, h.ok, h.gd⟩
end Go.Proofs.YtnnmgfnhblbolaaGreatDoor
namespace Go.Proofs
open Go.Shelf
def Tryz.keys261_ren : Go.Shelf.Ren := ⟨fun | 7 => 261 | 10 => 297 | n => n, fun | 23 => 175 | 26 => 3 | 3 => 37 | 28 => 338 | 0 => 0 | 27 => 337 | 33 => 122 | 4 => 4 | n => n, fun | n => n⟩
theorem Tryz.keys261 : Go.Proofs.SlLaysZI.n7 Tryz.prog Tryz.keys261_ren := {
  mixed := by kernel_rfl
  f7 := ⟨Tryz.f261.name, by decide, Tryz.func261.trans (congrArg some (by kernel_rfl))⟩
  f10 := ⟨Tryz.f297.name, by decide, Tryz.func297.trans (congrArg some (by kernel_rfl))⟩
  t0 := Tryz.underlying0
  a0 := Tryz.isAgg0
  z0 := Tryz.sizeOf0
  v0 := Tryz.zeroValue0
  t4 := Tryz.underlying4
  a4 := Tryz.isAgg4
  z4 := Tryz.sizeOf4
  v4 := Tryz.zeroValue4
  t23 := Tryz.underlying175
  a23 := Tryz.isAgg175
  z23 := Tryz.sizeOf175
  v23 := Tryz.zeroValue175
  t26 := Tryz.underlying3
  a26 := Tryz.isAgg3
  z26 := Tryz.sizeOf3
  v26 := Tryz.zeroValue3
  t27 := Tryz.underlying337
  a27 := Tryz.isAgg337
  z27 := Tryz.sizeOf337
  v27 := Tryz.zeroValue337
  t28 := Tryz.underlying338
  a28 := Tryz.isAgg338
  z28 := Tryz.sizeOf338
  v28 := Tryz.zeroValue338
  t33 := Tryz.underlying122
  a33 := Tryz.isAgg122
  z33 := Tryz.sizeOf122
  v33 := Tryz.zeroValue122 }
def Tryz.sorted260_ren : Go.Shelf.Ren := ⟨fun | 6 => 260 | 8 => 296 | 9 => 270 | 11 => 320 | 13 => 237 | 12 => 303 | 23 => 283 | 24 => 284 | 14 => 326 | 15 => 327 | 16 => 328 | 17 => 329 | 18 => 330 | 19 => 331 | 20 => 290 | 21 => 332 | 22 => 333 | 25 => 347 | 26 => 305 | 27 => 306 | 28 => 348 | 29 => 349 | 30 => 249 | 31 => 355 | n => n, fun | 26 => 3 | 28 => 338 | 24 => 41 | 0 => 0 | 3 => 3 | 37 => 248 | 48 => 253 | 50 => 24 | 4 => 4 | 40 => 349 | 39 => 348 | 45 => 95 | 5 => 5 | 9 => 9 | 51 => 369 | 55 => 372 | 57 => 392 | 58 => 393 | 33 => 122 | n => n, fun | n => n⟩
theorem Tryz.sorted260 : Go.Proofs.SlLaysZI.n6 Tryz.prog Tryz.sorted260_ren := {
  mixed := by kernel_rfl
  f6 := ⟨Tryz.f260.name, by decide, Tryz.func260.trans (congrArg some (by kernel_rfl))⟩
  f8 := ⟨Tryz.f296.name, by decide, Tryz.func296.trans (congrArg some (by kernel_rfl))⟩
  f11 := ⟨Tryz.f320.name, by decide, Tryz.func320.trans (congrArg some (by kernel_rfl))⟩
  t0 := Tryz.underlying0
  a0 := Tryz.isAgg0
  z0 := Tryz.sizeOf0
  v0 := Tryz.zeroValue0
  t24 := Tryz.underlying41
  a24 := Tryz.isAgg41
  z24 := Tryz.sizeOf41
  v24 := Tryz.zeroValue41
  t26 := Tryz.underlying3
  a26 := Tryz.isAgg3
  z26 := Tryz.sizeOf3
  v26 := Tryz.zeroValue3
  t28 := Tryz.underlying338
  a28 := Tryz.isAgg338
  z28 := Tryz.sizeOf338
  v28 := Tryz.zeroValue338
  i26 := by kernel_rfl }
end Go.Proofs
set_option linter.unusedVariables false
set_option linter.unusedSimpArgs false
set_option maxHeartbeats 800000
set_option maxRecDepth 100000
namespace Go.Proofs.YtnnmgfnhblbolaaGreatDoor
open Go Go.X
def withinS (n lo hi : Int) : Int := lo + (if n.tmod (hi - lo + 1) < 0 then n.tmod (hi - lo + 1) + hi - lo + 1 else n.tmod (hi - lo + 1))
theorem tmod_range (n : Int) {b : Int} (hb : 0 < b) : -b < n.tmod b ∧ n.tmod b < b := ⟨Int.lt_tmod_of_pos n hb, Int.tmod_lt_of_pos n hb⟩
theorem within_range (n : Int) {lo hi : Int} (h : lo ≤ hi) : lo ≤ withinS n lo hi ∧ withinS n lo hi ≤ hi := by
  have := tmod_range n (b := hi - lo + 1) (by omega)
  unfold withinS
  split <;> omega
def inS (n lo hi : Int) : Int := if lo ≤ n ∧ n ≤ hi then n else withinS n lo hi
theorem in_range (n : Int) {lo hi : Int} (h : lo ≤ hi) : lo ≤ inS n lo hi ∧ inS n lo hi ≤ hi := by
  unfold inS
  split
  · assumption
  · exact within_range n h
def nmL : List ByteArray := [⟨#[115, 101, 118]⟩, ⟨#[106, 111, 98]⟩, ⟨#[104, 111, 115, 116]⟩, ⟨#[95, 120]⟩, ⟨#[90, 111, 110, 101, 57]⟩]
def vlL : List ByteArray := [⟨#[97]⟩, ⟨#[98]⟩, ⟨#[99, 114, 105, 116]⟩, ⟨#[119, 97, 114, 110]⟩, ⟨#[97, 98]⟩, ⟨#[0, 255]⟩, ⟨#[97, 98, 97, 98, 97, 98, 97, 98, 97, 98, 97, 98, 97, 98, 97, 98, 97, 98, 97, 98, 97, 98, 97, 98]⟩]
def nmS (n : Int) : ByteArray := nmL.getD (inS n 0 4).toNat ByteArray.empty
def vlS (n : Int) : ByteArray := vlL.getD (inS n 0 6).toNat ByteArray.empty
theorem nm_mem (n : Int) : nmS n ∈ nmL := by
  have := in_range n (lo := 0) (hi := 4) (by omega)
  unfold nmS
  have h : (inS n 0 4).toNat < nmL.length := by show _ < 5; omega
  rw [List.getD_eq_getElem?_getD, List.getElem?_eq_getElem h]
  exact List.getElem_mem _
theorem vl_mem (n : Int) : vlS n ∈ vlL := by
  have := in_range n (lo := 0) (hi := 6) (by omega)
  unfold vlS
  have h : (inS n 0 6).toNat < vlL.length := by show _ < 7; omega
  rw [List.getD_eq_getElem?_getD, List.getElem?_eq_getElem h]
  exact List.getElem_mem _
end Go.Proofs.YtnnmgfnhblbolaaGreatDoor
set_option linter.unusedVariables false
set_option linter.unusedSimpArgs false
set_option maxHeartbeats 800000
set_option maxRecDepth 100000
namespace Go.Proofs.YtnnmgfnhblbolaaGreatDoor
open Go Go.X
def getL (ls : List Lab) (nm : ByteArray) : ByteArray := ((ls.find? fun x => decide (x.name = nm)).map (·.value)).getD ByteArray.empty
def labOf (n : Int) : Lab := ⟨nmS (withinS n 0 4), vlS (withinS (n.tdiv 5) 0 6)⟩
def labStep (out : List Lab) (n : Int) : List Lab := if getL out (labOf n).name = ByteArray.empty then out ++ [labOf n] else out
theorem vlL_ok : ∀ s ∈ vlL, valS s = true ∧ s ≠ ByteArray.empty := by
  intro s hs
  simp only [vlL, List.mem_cons, List.not_mem_nil, or_false] at hs
  rcases hs with rfl | rfl | rfl | rfl | rfl | rfl | rfl <;> exact ⟨by kernel_rfl, by decide⟩
structure Raw (ls : List Lab) : Prop where
  nd : (ls.map (·.name)).Nodup
  nm : ∀ x ∈ ls, x.name ∈ nmL
  vl : ∀ x ∈ ls, x.value ∈ vlL
theorem labOf_ok (n : Int) : (labOf n).name ∈ nmL ∧ (labOf n).value ∈ vlL := ⟨nm_mem _, vl_mem _⟩
theorem getL_empty {ls : List Lab} (h : Raw ls) {nm : ByteArray} (he : getL ls nm = ByteArray.empty) : nm ∉ ls.map (·.name) := by
  intro hm
  obtain ⟨x, hx, rfl⟩ := List.mem_map.1 hm
  unfold getL at he
  cases hf : ls.find? (fun y => decide (y.name = x.name)) with
  | none => have := List.find?_eq_none.1 hf x hx; simp at this
  | some y =>
    rw [hf] at he
    have hy := List.mem_of_find?_eq_some hf
    exact (vlL_ok _ (h.vl y hy)).2 he
theorem Raw.step {ls : List Lab} (h : Raw ls) (n : Int) : Raw (labStep ls n) := by
  unfold labStep
  split
  · rename_i he
    have hn := getL_empty h he
    refine ⟨?_, fun x hx => ?_, fun x hx => ?_⟩
    · rw [List.map_append, List.nodup_append]
      exact ⟨h.nd, by simp, fun a ha b hb e => hn (by simp at hb; subst hb; exact e ▸ ha)⟩
    · rcases List.mem_append.1 hx with h1 | h1
      · exact h.nm x h1
      · simp at h1; subst h1; exact (labOf_ok n).1
    · rcases List.mem_append.1 hx with h1 | h1
      · exact h.vl x h1
      · simp at h1; subst h1; exact (labOf_ok n).2
  · exact h
theorem Raw.nil : Raw [] := ⟨by simp, by simp, by simp⟩
end Go.Proofs.YtnnmgfnhblbolaaGreatDoor
set_option linter.unusedVariables false
set_option linter.unusedSimpArgs false
set_option maxHeartbeats 800000
set_option maxRecDepth 100000
namespace Go.Proofs.YtnnmgfnhblbolaaGreatDoor
open Go Go.X
theorem find_self (ls : List Lab) : findS [ls] ls = some 0 := by simp [findS]
section
variable (ls : List Lab) (his : isS ls = true) (u v : Nat)
def vS1 : St := (postS (St.new 3) ls u).1
def vS2 : St := (postS (vS1 ls u) ls v).1
def vS3 : St := (resolveS (vS2 ls u v) 1).1
def vS4 : St := (postS (vS3 ls u v) ls u).1
include his
theorem v1 : postS (St.new 3) ls u = (vS1 ls u, 1, true, 0) ∧ (vS1 ls u).al = [(1, ls, canS u)] ∧ (vS1 ls u).last = 1 ∧ (vS1 ls u).out = [1] ∧ (vS1 ls u).most = 3 := by
  have hf : fullS (St.new 3).most (St.new 3).last (St.new 3).out = false := by decide
  have hn : findS ((St.new 3).al.map (·.2.1)) ls = none := rfl
  have e : postS (St.new 3) ls u = (⟨(St.new 3).most, (St.new 3).last + 1, (St.new 3).out ++ [(St.new 3).last + 1], (St.new 3).al ++ [((St.new 3).last + 1, ls, canS u)], putM (St.new 3).has ((St.new 3).last + 1) ls, addRows (St.new 3).rows ((St.new 3).last + 1) ls⟩, (St.new 3).last + 1, true, 0) := by
    unfold postS; rw [if_neg (by simp [his]), hn]; simp [hf]
  unfold vS1
  rw [e]
  exact ⟨rfl, rfl, rfl, rfl, rfl⟩
theorem v2 : postS (vS1 ls u) ls v = (vS2 ls u v, 1, false, 0) ∧ (vS2 ls u v).al = [(1, ls, canS v)] ∧ (vS2 ls u v).last = 1 ∧ (vS2 ls u v).out = [1] ∧ (vS2 ls u v).most = 3 := by
  obtain ⟨_, h1, h2, h3, h4⟩ := v1 ls his u
  have hn : findS ((vS1 ls u).al.map (·.2.1)) ls = some 0 := by rw [h1]; exact find_self ls
  have e : postS (vS1 ls u) ls v = ({ vS1 ls u with al := (vS1 ls u).al.modify 0 fun a => (a.1, a.2.1, canS v) }, (((vS1 ls u).al[0]?).map (·.1)).getD 0, false, 0) := by
    unfold postS; rw [if_neg (by simp [his]), hn]
  unfold vS2
  rw [e]
  refine ⟨by rw [h1]; rfl, by simp only; rw [h1]; rfl, h2, h3, h4⟩
theorem v3 : resolveS (vS2 ls u v) 1 = (vS3 ls u v, 0) ∧ (vS3 ls u v).al = [] ∧ (vS3 ls u v).last = 1 ∧ (vS3 ls u v).out = [] ∧ (vS3 ls u v).most = 3 := by
  obtain ⟨_, h1, h2, h3, h4⟩ := v2 ls his u v
  have hp : placeS (vS2 ls u v) 1 = some 0 := by unfold placeS; rw [h1]; rfl
  have e : resolveS (vS2 ls u v) 1 = ({ vS2 ls u v with al := (vS2 ls u v).al.eraseIdx 0, out := giveS (vS2 ls u v).out 1, has := cutM (vS2 ls u v).has 1, rows := dropRows (vS2 ls u v).rows 1 ((lookM (vS2 ls u v).has 1).getD []) }, 0) := by
    unfold resolveS; rw [hp]
  unfold vS3
  rw [e]
  refine ⟨rfl, by simp only; rw [h1]; rfl, h2, ?_, h4⟩
  simp only
  rw [h3]
  have : ∀ x, x ∉ giveS [1] 1 := fun x hx => by
    unfold giveS at hx
    rw [if_pos (by decide), mem_cutRow] at hx
    simp at hx
  exact List.eq_nil_iff_forall_not_mem.2 this
theorem v4 : postS (vS3 ls u v) ls u = (vS4 ls u v, 2, true, 0) ∧ (vS4 ls u v).al = [(2, ls, canS u)] := by
  obtain ⟨_, h1, h2, h3, h4⟩ := v3 ls his u v
  have hf : fullS (vS3 ls u v).most (vS3 ls u v).last (vS3 ls u v).out = false := by rw [h2, h3, h4]; decide
  have hn : findS ((vS3 ls u v).al.map (·.2.1)) ls = none := by rw [h1]; rfl
  have e : postS (vS3 ls u v) ls u = (⟨(vS3 ls u v).most, (vS3 ls u v).last + 1, (vS3 ls u v).out ++ [(vS3 ls u v).last + 1], (vS3 ls u v).al ++ [((vS3 ls u v).last + 1, ls, canS u)], putM (vS3 ls u v).has ((vS3 ls u v).last + 1) ls, addRows (vS3 ls u v).rows ((vS3 ls u v).last + 1) ls⟩, (vS3 ls u v).last + 1, true, 0) := by
    unfold postS; rw [if_neg (by simp [his]), hn]; simp [hf]
  unfold vS4
  rw [e]
  refine ⟨by rw [h2]; rfl, by simp only; rw [h1, h2]; rfl⟩
theorem v5 : resolveS (vS4 ls u v) 1 = (vS4 ls u v, 5) := by
  obtain ⟨_, h1⟩ := v4 ls his u v
  have hp : placeS (vS4 ls u v) 1 = none := by unfold placeS; rw [h1]; rfl
  unfold resolveS; rw [hp]
end
end Go.Proofs.YtnnmgfnhblbolaaGreatDoor
