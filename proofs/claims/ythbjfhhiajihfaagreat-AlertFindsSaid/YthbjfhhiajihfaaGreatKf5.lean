/- What the claim stands on, part 5. Of own lemmas only those that it reaches. -/
import Derived.Test.YthbjfhhiajihfaaGreatKf4
set_option linter.unusedVariables false
set_option linter.unusedSimpArgs false
set_option maxHeartbeats 2000000
set_option maxRecDepth 100000
namespace Go.Proofs.YthbjfhhiajihfaaGreat
open Go Go.X Go.Rex
def OB (v : Value) : Nat → Prop := fun b => v.ownBlock = some b
abbrev RowS (w : World) (v : Value) (P : List Stp) : Prop := Row w 301 7 v P.length (P.flatMap stC)
structure LayR (w w' : World) (v u : Value) (P : List Stp) : Prop where
 row : RowS w' u P
 own : ∀ b, u.ownBlock = some b → v.ownBlock = some b ∨ w.heap.size ≤ b
 mod : Mod (OB v) w w'
theorem LayR.refl {w : World} {v : Value} {P : List Stp} (h : RowS w v P) : LayR w w v v P := ⟨h, fun b e => .inl e, Mod.refl _ _⟩
theorem LayR.grow {w w' w2 : World} {v u : Value} {P : List Stp} (h : LayR w w' v u P) (hg : Grow w' w2) : LayR w w2 v u P := ⟨h.row.mod hg (fun _ _ h => h), h.own, h.mod.trans (Mod.any' hg)⟩
theorem LayR.trans {w w' w2 : World} {v u u2 : Value} {P Q : List Stp} (h : LayR w w' v u P) (h2 : LayR w' w2 u u2 Q) : LayR w w2 v u2 Q := ⟨h2.row, fun b e => by
 rcases h2.own b e with h3 | h3
 ·exact h.own b h3
 ·have := h.mod.size; exact .inr (by omega), h.mod.then h2.mod (fun x hx e => by rcases h.own x e with h3 | h3; exact h3; omega)⟩
theorem LayR.grow0 {w0 w w' : World} {v u : Value} {P : List Stp} (hg : Grow w0 w) (h : LayR w w' v u P) : LayR w0 w' v u P := ⟨h.row, fun b e => by
 rcases h.own b e with h3 | h3
 ·exact .inl h3
 ·have := hg.size; exact .inr (by omega), (Mod.any' hg).trans h.mod⟩
def Far (w : World) (v : Value) : Nat → Prop := fun b => v.ownBlock = some b ∨ w.heap.size ≤ b
def layC (x : Rx) : Prop := ∀ (P : List Stp) (c : Cel) (v : Value) (w : World), RxV (OB v) w x [c] → RowS w v P → P.length + sz x ≤ 1000 → Fx Tryz.prog 284 [v, .agg (celC c).toArray] w (fun u w' => LayR w w' v u (P ++ code x none P.length))
theorem app_one {w w1 w2 : World} {v u : Value} {b : Nat} {P : List Stp} {s : Stp} {T : Nat} (hn : New w w1 b T (stC s)) (hr : Row w2 301 7 u (P.length + 1) (P.flatMap stC ++ stC s)) (hm : Mod (OB v) w1 w2) (hu : u.ownBlock = v.ownBlock ∨ u.ownBlock = some w1.heap.size) : LayR w w2 v u (P ++ [s]) := ⟨by
  show Row _ _ _ _ _ _
  rw [List.length_append, List.flatMap_append]
  simpa using hr, fun b e => by
  rcases hu with h1 | h1
  ·exact .inl (h1 ▸ e)
  ·rw [h1] at e; cases e; have := hn.size; exact .inr (by omega), (Mod.any' hn.grow).trans hm⟩
theorem lay_set {w w' w2 : World} {v u : Value} {A : List Stp} {s s' : Stp} {R : List Stp} (h : LayR w w' v u (A ++ s :: R)) {g cap : Nat} {i : Nat} {z : Value} (hu : u = .slice (some ⟨g, 0, none⟩) (A ++ s :: R).length cap) (hrow : Row w2 301 7 u (A ++ s :: R).length (((A ++ s :: R).flatMap stC).set (A.length * 7 + i) z)) (hi : i < 7) (hs : (stC s).set i z = stC s') (hm : Mod (· = g) w' w2) : LayR w w2 v u (A ++ s' :: R) := by
 rw [flat_set stC 7 stC_len _ A.length i s s' z (by simp) hi hs, set_mid] at hrow
 refine ⟨by show Row _ _ _ _ _ _; simpa using hrow, h.own, h.mod.then hm fun x hx e => ?_⟩
 have e' : x = g := e
 rcases h.own x (by rw [hu, e']; rfl) with h3 | h3
 ·exact h3
 ·omega
theorem kid_far {w : World} {v : Value} {l : Rx} {kss : List Cel} {ad : Option Addr} {n cap : Nat} (ht : Tr true l) (hn : n = kss.length) (hsl : Sl (OB v) w (.slice ad n cap) 6 kss.length (kss.flatMap celC)) (hks : RxV (OB v) w l kss) {k : Nat} (hkn : k < n) {w' : World} (hm : Mod (OB v) w w') : ∃ (c : Cel) (y : Rx) (b o : Nat), ad = some ⟨b, o, none⟩ ∧ (kidsR l)[k]? = some y ∧ y ∈ kidsR l ∧ RxV (Far w v) w' y [c] ∧ ¬ OB v b ∧ b < w.heap.size ∧ ∀ j u, (celC c)[j]? = some u → w'.cell? ⟨b, o + k * 6 + j, none⟩ = some u := by
 obtain ⟨c, hc⟩ : ∃ c, kss[k]? = some c := ⟨kss[k]'(by omega), List.getElem?_eq_getElem (by omega)⟩
 obtain ⟨y, hy, hv⟩ := RxV.kid ht hks hc
 obtain ⟨b1, o1, c1, heq, hb1, _, hcl⟩ := (hn ▸ hsl).elem celC_len hc
 cases heq
 have hf : RxV (Far w v) w y [c] := RxV.off (fun b hb e => e.elim (fun e => e) (fun e => by omega)) y hv
 exact ⟨c, y, b1, o1, rfl, hy, List.mem_of_getElem? hy, RxV.mod hm (fun b _ e => .inl e) y hf, hb1, World.block_lt_of_cell? w _ (hcl 0 _ rfl), fun j u hj => hm.cell (hcl j u hj) hb1⟩
theorem ways_lay {w : World} {l : Rx} {kss : List Cel} {ad : Option Addr} {n cap : Nat} (ht : Tr true l) (hn : n = kss.length) (hcap : n ≤ cap) (hlen : kss.length = cnt l) (h1 : 1 ≤ n) (hk : ∀ y ∈ kidsR l, layC y) (P : List Stp) (v : Value) (hsl : Sl (OB v) w (.slice ad n cap) 6 kss.length (kss.flatMap celC)) (hks : RxV (OB v) w l kss) (hv : RowS w v P) (hb : P.length + (sz l + 2 * (cnt l - 1)) ≤ 1000) :
  Fx Tryz.prog 303 [v, .slice ad n cap] w (fun u w' => LayR w w' v u (P ++ code l (some (P.length + (sz l + 2 * (cnt l - 1)))) P.length)) := by
 have hbig := hsl.big
 have hkl : (kidsR l).length = n := by rw [kids_len]; omega
 obtain ⟨xs, y0, hxs⟩ : ∃ xs y0, kidsR l = xs ++ [y0] := ⟨(kidsR l).dropLast, (kidsR l).getLast (by intro h; rw [h] at hkl; simp at hkl; omega), (List.dropLast_concat_getLast _).symm⟩
 have hxl : xs.length = n - 1 := by have := congrArg List.length hxs; simp at this; omega
 have hgood : GoodL (kidsR l) := kids_tr ht
 have hgx : GoodL xs := fun x hx => hgood x (by rw [hxs]; simp [hx])
 have hty : Tr false y0 := hgood y0 (by rw [hxs]; simp)
 have hszl : sz l = (xs.map sz).sum + sz y0 := by rw [sz_cons l ht, hxs]; simp
 have hcnt : cnt l = xs.length + 1 := by omega
 have hwl := wlen_sz xs
 have hcode := code_alt l ht xs y0 hxs (P.length + (sz l + 2 * (cnt l - 1))) P.length
 rw [hcode]
 have he : P.length + (sz l + 2 * (cnt l - 1)) = P.length + wlen xs + sz y0 := by omega
 rw [he] at hb ⊢
 clear hcode he
 obtain ⟨e, hee⟩ : ∃ e, P.length + wlen xs + sz y0 = e := ⟨_, rfl⟩
 rw [hee] at hb ⊢
 have hly := codeN_len hty (P.length + wlen xs)
 refine enter Tryz.func303 rfl rfl rfl _ (Pick.sub (l := [0, 1]) (.cons rfl (.cons rfl .nil))) ?_
 refine GG ?_
 refine QQ (Yld.lenSl u222 rfl) ?_
 refine RL.p rfl rfl ?_
 refine RL.re (d := 14) rfl rfl (sub_i64 (z := ((n - 1 : Nat) : Int)) (by omega) (by omega) (by omega)) ?_
 refine GG ?_
 refine QQ (Yld.sliceHi u222 i224 (m := n - 1) rfl rfl (by omega)) ?_
 refine QQ (Yld.lenSl u222 rfl) ?_
 refine GG ?_
 refine RK.loop (fun s : Nat × Value × Value => [(0, s.2.1), (1, .slice ad n cap), (5, s.2.2), (6, .int .i64 ((n - 1 : Nat) : Int)), (17, .slice ad (n - 1) cap), (18, .int .i64 ((n - 1 : Nat) : Int)), (19, .int .i64 (s.1 : Int))]) (fun s w' => s.1 ≤ n - 1 ∧ LayR w w' v s.2.1 (P ++ wayC (xs.take s.1) 0 P.length) ∧ Row w' 3 1 s.2.2 s.1 (ints (wayJ (xs.take s.1) P.length)) ∧ Fresh w.heap.size s.2.2 ∧ (∀ b, s.2.2.ownBlock = some b → ¬ s.2.1.ownBlock = some b)) (fun s => n - 1 - s.1) (0, v, .slice none 0 0) ⟨rfl, rfl, rfl, rfl, rfl, rfl, rfl, trivial⟩ ⟨by simp, by simpa [wayC] using LayR.refl hv, by simpa [wayJ] using Row.nil _ _ _, fun b hb => by simp [Value.ownBlock] at hb, fun b hb => by simp [Value.ownBlock] at hb⟩ (fun s w1 hI ih => ?_)
 obtain ⟨k, u, jv⟩ := s
 obtain ⟨hkn, hL, hJ, hJf, hJu⟩ := hI
 simp only at hkn hL hJ hJf hJu
 have hwk := wlen_take xs k
 have hlenk := wayC_len (xs.take k) 0 P.length (hgx.take k)
 have hs1 := hL.mod.size
 have hpk : (P ++ wayC (xs.take k) 0 P.length).length = P.length + wlen (xs.take k) := by rw [List.length_append, hlenk]
 refine GG ?_
 refine CD (fun h20 => ?_) (fun h20 => ?_)
 ·obtain ⟨ck, x, b1, o1, rfl, hx, hxm, hxv, hb1, hb1l, hcl⟩ := kid_far ht hn hsl hks (k := k) (by omega) hL.mod
  have hxk : xs[k]? = some x := by rw [hxs, List.getElem?_append_left (by omega)] at hx; exact hx
  have hwk1 := wlen_take xs (k + 1)
  have htk := take_snoc hxk
  have hwsn : wlen (xs.take (k + 1)) = wlen (xs.take k) + (sz x + 2) := by rw [htk, wlen_app]; simp [wlen]
  have hxt := hgood x hxm
  refine GG ?_
  refine QQ (Yld.indexAddrN u222 i224 rfl rfl (by omega)) ?_
  refine QQ (Yld.loadN (cs := celC ck) a224 rfl (atN (hcl))) ?_
  refine OP (Does.alloc i224) ?_
  rintro _ w2 ⟨b2, rfl, hn2⟩
  refine OQ (Does.storeN i224 rfl rfl rfl rfl hn2.blk (Nat.le_refl 6)) ?_
  rintro _ w3 ⟨hb3, hm3, _⟩
  have hB3 : Blk w3 b2 224 (celC ck) := hb3
  have hg3 : Grow w1 w3 := hn2.grow.then hm3 (fun y hy e => by have e' : y = b2 := e; have := hn2.at_; omega)
  have hL3 := hL.grow hg3
  have hb2 := hn2.at_
  have hs3 := hg3.size
  have huf : ∀ b, u.ownBlock = some b → b < w1.heap.size := fun b e => hL.row.lt e
  have hjf : ∀ b, jv.ownBlock = some b → b < w1.heap.size := fun b e => hJ.lt e
  obtain ⟨adu, cu, hue⟩ := hL.row.slice
  refine GG ?_
  refine QQ (Yld.lenSl u254 (congrArg some hue)) ?_
  refine RL.re (d := 24) rfl rfl (congrArg (Value.int .i64) (show _ = ((P.length + wlen (xs.take k) : Nat) : Int) by rw [hpk])) ?_
  refine GG ?_
  refine RK.drawM (OB u) [(0, false), (1, false), (2, false), (3, false), (6, false), (4, true), (5, true), (7, true), (8, false)] [] mixed (by kernel_rfl) ?_
  iterate 3 refine DL.p rfl rfl rfl ?_
  refine DL.re (d := 27) rfl rfl (succ_i64 (by omega)) ?_
  refine DF (Yld.build (v := .agg #[.int .i64 2, .int .u64 0, .int .u64 0, .int .u64 0, .int .u64 0, .int .i64 ((P.length + wlen (xs.take k) + 1 : Nat) : Int), .int .i64 0]) rfl (fun w => by kernel_rfl)) ?_
  have hnb2 : ¬ OB u b2 := fun e => by have := huf b2 e; omega
  refine DQ (Yld.loadN (cs := celC ck) a224 rfl (atNM (blk0' hB3) (hnb2))) (Mod.drew _ _) ?_
  refine OD (Does.slice1 u254 i301 rfl rfl rfl rfl rfl) ?_
  rintro _ w4 ⟨b4, rfl, hn4⟩
  refine ⟨(Mod.drew _ _).trans (Mod.any' hn4.grow), ?_⟩
  have hr3 : RowS w3.drew u _ := hL3.row.mod (Mod.drew No _) (fun _ _ h => h)
  refine OD (Does.append u254 i301 rfl rfl rfl rfl rfl (hr3.mod hn4.grow (fun _ _ h => h)) (Sl.new hn4 7 1 rfl (by omega) (fun h => h)) (rfl) (by omega)) ?_
  rintro u5 w5 ⟨hr5, hm5, hu5⟩
  have hL5 : LayR w3.drew w5 u u5 ((P ++ wayC (xs.take k) 0 P.length) ++ [splitS (P.length + wlen (xs.take k) + 1) 0]) := app_one (s := splitS (P.length + wlen (xs.take k) + 1) 0) hn4 hr5 hm5 hu5
  refine ⟨(Mod.drew _ _).trans hL5.mod, ?_⟩
  have hxv5 : RxV (OB u5) w5 x [ck] := RxV.off (M := fun b => Far w v b) (fun b hb e => by
    rcases hL5.own b e with h3 | h3
    ·exact hL.own b h3
    ·exact .inr (by have : w3.drew.heap.size = w3.heap.size := rfl; omega)) x (RxV.mod hL5.mod (fun b _ e => hL.own b e) x (RxV.grow (hg3.trans (Mod.drew _ _)) x hxv))
  have hp5 : ((P ++ wayC (xs.take k) 0 P.length) ++ [splitS (P.length + wlen (xs.take k) + 1) 0]).length = P.length + wlen (xs.take k) + 1 := by rw [List.length_append, hpk]; rfl
  refine OD (Does.call rfl e284 (hk x hxm _ ck u5 w5 hxv5 hL5.row (by rw [hp5]; omega))) ?_
  rintro u6 w6 hL6
  rw [hp5] at hL6
  have hL56 := hL5.trans hL6
  refine ⟨(Mod.drew _ _).trans hL56.mod, ?_⟩
  have hL36 : LayR w3 w6 u u6 _ := LayR.grow0 (Mod.drew No _) hL56
  have hs6 := hL36.mod.size
  have hL06 := (hL.grow (hg3.trans (Mod.drew No _))).trans hL56
  obtain ⟨ad6, c6, hue6⟩ := hL6.row.slice
  have hp6 : ((P ++ wayC (xs.take k) 0 P.length ++ [splitS (P.length + wlen (xs.take k) + 1) 0]) ++ code x none (P.length + wlen (xs.take k) + 1)).length = P.length + wlen (xs.take k) + 1 + sz x := by rw [List.length_append, hp5, codeN_len hxt]
  have hJ6 := (hJ.mod hg3 (fun _ _ h => h)).mod hL36.mod (fun b e => hJu b e)
  refine GG ?_
  refine QQ (Yld.lenSl u254 (congrArg some hue6)) ?_
  refine RL.re (d := 35) rfl rfl (congrArg (Value.int .i64) (show _ = ((P.length + wlen (xs.take k) + 1 + sz x : Nat) : Int) by rw [hp6])) ?_
  refine OP (Does.slice1 u37 i3 rfl rfl rfl rfl rfl) ?_
  rintro _ w7 ⟨b7, rfl, hn7⟩
  refine OP (Does.append u37 i3 rfl rfl rfl rfl rfl (hJ6.mod hn7.grow (fun _ _ h => h)) (Sl.new hn7 1 1 rfl (by omega) (fun h => h)) (rfl) (by omega)) ?_
  rintro jv8 w8 ⟨hr8, hm8, hu8⟩
  have hJ8 : Row w8 3 1 jv8 (k + 1) (ints (wayJ (xs.take (k + 1)) P.length)) := by
    have e9 : ints (wayJ (xs.take (k + 1)) P.length) = ints (wayJ (xs.take k) P.length) ++ [.int .i64 ((P.length + wlen (xs.take k) + 1 + sz x : Nat) : Int)] := by rw [htk, wayJ_app]; simp [ints, wayJ]
    rw [e9]; exact hr8
  have hb7 := hn7.at_
  have hs7 := hn7.size
  have hu6f : ∀ b, u6.ownBlock = some b → b < w6.heap.size := fun b e => hL6.row.lt e
  have hJ8u : ∀ b, jv8.ownBlock = some b → ¬ u6.ownBlock = some b := fun b e e2 => by
    have h3 := hu6f b e2
    rcases hu8 with h4 | h4
    ·have h5 := hjf b (h4 ▸ e)
     rcases hL36.own b e2 with h6 | h6
     ·exact hJu b (h4 ▸ e) h6
     ·omega
    ·rw [h4] at e; cases e; omega
  have hr6 := (hL6.row.mod hn7.grow (fun _ _ h => h)).mod hm8 (fun b e e2 => by
    have h5 := hjf b e2
    rcases hL36.own b e with h6 | h6
    ·exact hJu b e2 h6
    ·omega)
  have hL08 : LayR w w8 v u6 _ := ⟨hr6, hL06.own, (hL06.mod.trans (Mod.any' hn7.grow)).then hm8 (fun b hb e => by have := hJf b e; omega)⟩
  refine GG ?_
  refine QQ (Yld.build (v := .agg #[.int .i64 3, .int .u64 0, .int .u64 0, .int .u64 0, .int .u64 0, .int .i64 0, .int .i64 0]) rfl (fun w => by kernel_rfl)) ?_
  refine OP (Does.slice1 u254 i301 rfl rfl rfl rfl rfl) ?_
  rintro _ w9 ⟨b9, rfl, hn9⟩
  refine OP (Does.append u254 i301 rfl rfl rfl rfl rfl (hr6.mod hn9.grow (fun _ _ h => h)) (Sl.new hn9 7 1 rfl (by omega) (fun h => h)) (rfl) (by omega)) ?_
  rintro u10 w10 ⟨hr10, hm10, hu10⟩
  have hL810 := app_one (s := jumpS 0) hn9 hr10 hm10 hu10
  have hL10 := hL08.trans hL810
  have hp10 : (((P ++ wayC (xs.take k) 0 P.length ++ [splitS (P.length + wlen (xs.take k) + 1) 0]) ++ code x none (P.length + wlen (xs.take k) + 1)) ++ [jumpS 0]).length = P.length + wlen (xs.take k) + 2 + sz x := by rw [List.length_append, hp6]; show _ + 1 = _; omega
  have hJ10 : Row w10 3 1 jv8 (k + 1) (ints (wayJ (xs.take (k + 1)) P.length)) := (hJ8.mod hn9.grow (fun _ _ h => h)).mod hm10 (fun b e e2 => hJ8u b e e2)
  have hs8 := hm8.size
  have hs810 := hL810.mod.size
  have hJ8l : ∀ b, jv8.ownBlock = some b → b < w8.heap.size := fun b e => hJ8.lt e
  have hL10' := hL10
  have hre : (((P ++ wayC (xs.take k) 0 P.length ++ [splitS (P.length + wlen (xs.take k) + 1) 0]) ++ code x none (P.length + wlen (xs.take k) + 1)) ++ [jumpS 0]) = (P ++ wayC (xs.take k) 0 P.length) ++ splitS (P.length + wlen (xs.take k) + 1) 0 :: (code x none (P.length + wlen (xs.take k) + 1) ++ [jumpS 0]) := by simp
  rw [hre] at hL10 hp10
  obtain ⟨g, cap9, cs9, hue, hB9, hcs9, hturn⟩ := Row.turn hL10.row (by omega)
  subst hue
  rw [hp10] at hcs9
  refine GG ?_
  refine QQ (Yld.lenSl u254 rfl) ?_
  refine RL.re (d := 45) rfl rfl (congrArg (Value.int .i64) (show _ = ((P.length + wlen (xs.take k) + 2 + sz x : Nat) : Int) by rw [hp10])) ?_
  refine QQ (Yld.indexAddrN u254 i301 rfl rfl (by omega)) ?_
  refine QQ (Yld.fieldAddr fo301_3 rfl) ?_
  refine OQ (Does.store i3 rfl rfl rfl hB9 (setAt_of (by omega))) ?_
  rintro _ w11 ⟨hb11, hm11, _⟩
  have hL11 := lay_set (s' := splitS (P.length + wlen (xs.take k) + 1) (P.length + wlen (xs.take k) + 2 + sz x)) (i := 6) hL10 rfl (hturn w11 _ _ (by rw [hp10, hpk]; omega) (by have h9 := hb11; rw [Nat.zero_add] at h9; rw [hpk]; exact h9)) (by omega) rfl hm11
  have hfin : (P ++ wayC (xs.take k) 0 P.length) ++ splitS (P.length + wlen (xs.take k) + 1) (P.length + wlen (xs.take k) + 2 + sz x) :: (code x none (P.length + wlen (xs.take k) + 1) ++ [jumpS 0]) = P ++ wayC (xs.take (k + 1)) 0 P.length := by rw [htk, wayC_app]; simp [wayC]
  rw [hfin] at hL11
  have hgu : ∀ b, jv8.ownBlock = some b → ¬ b = g := fun b e e2 => by
    subst e2
    have h4 := hJ8l _ e
    rcases hu10 with h5 | h5
    ·exact hJ8u _ e (h5 ▸ rfl)
    ·have h6 : some b = some w9.heap.size := h5
     cases h6
     have := hn9.size; omega
  have hJ11 := hJ10.mod hm11 (fun b e e2 => hgu b e e2)
  have hfp := congrArg List.length hfin
  have hfp2 : (P ++ wayC (xs.take k) 0 P.length ++ splitS (P.length + wlen (xs.take k) + 1) 0 :: (code x none (P.length + wlen (xs.take k) + 1) ++ [jumpS 0])).length = (P ++ wayC (xs.take (k + 1)) 0 P.length).length := by rw [← hfin]; simp
  refine RL.done ?_
  refine RK.inBlock ?_
  refine RK.region ?_
  refine RL.p rfl rfl ?_
  refine RL.re (d := 48) rfl rfl (succ_i64 (by omega)) ?_
  refine GG ?_
  exact RK.back (ih (k + 1, .slice (some ⟨g, 0, none⟩) _ cap9, jv8) _ ⟨by simp only; omega, hL11, hJ11, fun b e => by
    rcases hu8 with h4 | h4
    ·exact hJf b (h4 ▸ e)
    ·simp only at e; rw [h4] at e; cases e; omega, fun b e e2 => hgu b e (by simp [Value.ownBlock] at e2; exact e2.symm)⟩ (by simp only; omega)) ⟨rfl, rfl, rfl, rfl, rfl, rfl, rfl, trivial⟩
 ·have hkx : k = xs.length := by simp only at h20; omega
  have ek : xs.take k = xs := List.take_of_length_le (by omega)
  rw [ek] at hL hJ hpk
  obtain ⟨ck, x, b1, o1, rfl, hx, hxm, hxv, hb1, hb1l, hcl⟩ := kid_far ht hn hsl hks (k := n - 1) (by omega) hL.mod
  have hxy : x = y0 := by rw [hxs, List.getElem?_append_right (by omega)] at hx; rw [show n - 1 - xs.length = 0 by omega] at hx; simpa using hx.symm
  subst hxy
  refine RK.exit rfl ?_
  refine GG ?_
  refine QQ (Yld.indexAddrN u222 i224 rfl rfl (by omega)) ?_
  refine QQ (Yld.loadN (cs := celC ck) a224 rfl (atN (hcl))) ?_
  have hxv5 : RxV (OB u) w1 x [ck] := RxV.off (M := fun b => Far w v b) (fun b hb e => hL.own b e) x hxv
  refine OP (Does.call rfl e284 (hk x hxm _ ck u w1 hxv5 hL.row (by rw [hpk]; omega))) ?_
  rintro u6 w6 hL6
  rw [hpk] at hL6
  have hL06 := hL.trans hL6
  have hJ6 := hJ.mod hL6.mod (fun b e e2 => hJu b e e2)
  have hu6f : ∀ b, jv.ownBlock = some b → ¬ u6.ownBlock = some b := fun b e e2 => by
    rcases hL6.own b e2 with h3 | h3
    ·exact hJu b e h3
    ·have := hJ.lt e; omega
  obtain ⟨adj, cj, hje⟩ := hJ6.slice
  have hlJ := wayJ_len xs P.length
  have hz0 := wayP_zero xs e P.length
  refine GG ?_
  refine QQ (Yld.lenSl u37 (congrArg some hje)) ?_
  refine GG ?_
  refine RK.loop (fun m : Nat => [(0, u6), (55, .slice adj k cj), (56, .int .i64 (k : Int)), (57, .int .i64 (m : Int))]) (fun m w' => m ≤ k ∧ LayR w w' v u6 (P ++ wayP xs m e P.length ++ code x none (P.length + wlen xs)) ∧ Row w' 3 1 jv k (ints (wayJ xs P.length))) (fun m => k - m) 0 ⟨rfl, by rw [← hje]; rfl, rfl, rfl, trivial⟩ ⟨by omega, by rw [hz0]; exact hL06, hJ6⟩ (fun m w7 hI2 ih2 => ?_)
  obtain ⟨hmk, hLm, hJm⟩ := hI2
  refine GG ?_
  refine CD (fun h58 => ?_) (fun h58 => ?_)
  ·obtain ⟨z, hz⟩ : ∃ z, xs[m]? = some z := ⟨xs[m]'(by omega), List.getElem?_eq_getElem (by omega)⟩
   have hjz := wayJ_get hz P.length
   have hhead := wayP_head_len hgx hz e P.length
   have hsp := wayP_split hz e P.length
   have hnx := wayP_next hz e P.length
   have hwz := wlen_take xs (m + 1)
   have hwsn : wlen (xs.take (m + 1)) = wlen (xs.take m) + (sz z + 2) := by rw [take_snoc hz, wlen_app]; simp [wlen]
   have hsJ : Sl No w7 (.slice adj k cj) 1 k (ints (wayJ xs P.length)) := by rw [← hje]; exact Sl.own hJm (fun _ _ h => h)
   obtain ⟨bj, oj, cj', hej, _, _, hcj⟩ := hsJ.elem1 (k := m) (u := .int .i64 ((P.length + wlen (xs.take m) + 1 + sz z : Nat) : Int)) (by simp [ints, hjz])
   cases hej
   refine GG ?_
   refine QQ (Yld.indexAddrN u37 i3 rfl rfl (by omega)) ?_
   refine QQ (Yld.load p3 rfl (at1 (hcj m (.int .i64 ((P.length + wlen (xs.take m) + 1 + sz z : Nat) : Int)) (by simp [ints, hjz])))) ?_
   rw [hsp] at hLm
   generalize hA : (wayC (xs.take m) e P.length ++ splitS (P.length + wlen (xs.take m) + 1) (P.length + wlen (xs.take m) + 2 + sz z) :: code z none (P.length + wlen (xs.take m) + 1)) = A at *
   generalize hR : wayC (xs.drop (m + 1)) 0 (P.length + wlen (xs.take m) + 2 + sz z) = R at *
   have hre : P ++ (A ++ jumpS 0 :: R) ++ code x none (P.length + wlen xs) = (P ++ A) ++ jumpS 0 :: (R ++ code x none (P.length + wlen xs)) := by simp
   rw [hre] at hLm
   have hlen9 : ((P ++ A) ++ jumpS 0 :: (R ++ code x none (P.length + wlen xs))).length = e := by
     have h9 := congrArg List.length hsp
     have h8 := wayP_len hgx m e P.length
     rw [h8] at h9
     simp only [List.length_append, List.length_cons] at h9 ⊢
     omega
   obtain ⟨g, cap9, cs9, hue, hB9, hcs9, hturn⟩ := Row.turn hLm.row (by omega)
   subst hue
   have hcs9' := hcs9
   rw [hlen9] at hcs9'
   refine GG ?_
   refine QQ (Yld.lenSl u254 rfl) ?_
   refine RL.re (d := 64) rfl rfl (congrArg (Value.int .i64) (show _ = ((e : Nat) : Int) by rw [hlen9])) ?_
   refine QQ (Yld.indexAddrN u254 i301 rfl rfl (by rw [hlen9]; omega)) ?_
   refine QQ (Yld.fieldAddr fo301_2 rfl) ?_
   refine OQ (Does.store i3 rfl rfl rfl hB9 (setAt_of (by omega))) ?_
   rintro _ w11 ⟨hb11, hm11, _⟩
   have hPA : (P ++ A).length = P.length + wlen (xs.take m) + 1 + sz z := by rw [List.length_append, hhead]; omega
   have hL11 := lay_set (s' := jumpS e) (i := 5) hLm rfl (hturn w11 _ _ (by rw [hlen9, hPA]; omega) (by have h9 := hb11; rw [Nat.zero_add] at h9; rw [hPA]; exact h9)) (by omega) rfl hm11
   have hfin : (P ++ A) ++ jumpS e :: (R ++ code x none (P.length + wlen xs)) = P ++ wayP xs (m + 1) e P.length ++ code x none (P.length + wlen xs) := by rw [hnx]; simp
   rw [hfin] at hL11
   refine RL.done ?_
   refine RK.inBlock ?_
   refine RK.region ?_
   refine RL.p rfl rfl ?_
   refine RL.re (d := 67) rfl rfl (succ_i64 (by omega)) ?_
   refine GG ?_
   exact RK.back (ih2 (m + 1) _ ⟨by omega, hL11, hJm.mod hm11 (fun b e1 e2 => hu6f b e1 (by have e3 : b = g := e2; rw [e3]; rfl))⟩ (by omega)) ⟨rfl, rfl, rfl, rfl, trivial⟩
  ·have hm9 : xs.length ≤ m := by omega
   rw [wayP_all xs e P.length hm9] at hLm
   refine RK.exit rfl ?_
   refine GG ?_
   refine RK.ret_of Tryz.func303 (res1 rfl rfl) ?_ _
   exact ⟨_, rfl, by rw [← List.append_assoc]; exact hLm⟩
theorem only_kid {l : Rx} (ht : Tr true l) (hc : cnt l = 1) : ∃ y, l = .cons y .nil := by
 cases l with
 | nil => simp [cnt] at hc
 | set => exact ht.elim
 | node => exact ht.elim
 | cons y l =>
  refine ⟨y, ?_⟩
  cases l with
  | nil => rfl
  | set => exact ht.2.elim
  | node => exact ht.2.elim
  | cons => simp [cnt] at hc
theorem lay_ok : ∀ (m : Nat) (x : Rx), hiR x ≤ m → Tr false x → layC x
  | 0, .set _, h, _ => by simp [hiR] at h
  | 0, .node _ _, h, _ => by simp [hiR] at h
  | 0, .nil, _, ht => ht.elim
  | 0, .cons _ _, _, ht => ht.elim
  | m + 1, x, hx, ht => by
    intro P k v w hxv hv hb
    obtain ⟨op, a, b, c, d, ad, n, cap, l, kss, rfl, h⟩ := hxv.open ht
    have hkind := h.kind
    have hn := h.n
    have hlen := h.len
    have hbig := h.sl.big
    have hvl : ∀ b, v.ownBlock = some b → b < w.heap.size := fun b e => hv.lt e
    obtain ⟨adv, cv, rfl⟩ := hv.slice
    refine enter Tryz.func284 rfl rfl rfl _ (Pick.sub (l := [0, 1]) (.cons rfl (.cons rfl .nil))) ?_
    refine RK.seq ?_
    refine RK.region ?_
    refine RL.op (.free rfl) rfl rfl (Does.box rfl) ?_
    rintro _ w1 ⟨b3, rfl, hn1⟩
    have hb3 := hn1.at_
    have hB1 : Blk w1 b3 224 [.int .i64 op, .int .u64 (a : Int), .int .u64 (b : Int), .int .u64 (c : Int), .int .u64 (d : Int), .slice ad n cap] := hn1.blk
    have hnb3 : ¬ OB (.slice adv P.length cv) b3 := fun e => by have := hvl _ e; omega
    have hv1 : RowS w1 (.slice adv P.length cv) P := hv.mod hn1.grow (fun _ _ h => h)
    have hs1 := hn1.size
    refine RL.p rfl rfl ?_
    refine RL.done ?_
    refine RK.seq ?_
    refine RK.region ?_
    refine RL.p rfl rfl ?_
    refine RL.q (.free rfl) rfl rfl (Yld.lenSl u254 rfl) ?_
    refine RL.p rfl rfl ?_
    refine RL.done ?_
    iterate 2 refine RK.seq ?_
    refine RK.region ?_
    refine RL.q (.free rfl) rfl rfl (Yld.fieldAddr fo224_0 rfl) ?_
    refine RL.q (.free rfl) rfl rfl (Yld.load p3 rfl (at1 (hB1.cell rfl))) ?_
    refine RL.done ?_
    refine RK.block ?_
    refine RK.seq ?_
    refine RK.region ?_
    iterate 2 refine RL.p rfl rfl ?_
    refine RL.done ?_
    first | refine RK.condD rfl (fun h12 => ?_) (fun h12 => ?_) | refine RK.condN rfl (fun h12 => ?_) (fun h12 => ?_) | refine RK.cond rfl (fun h12 => ?_) (fun h12 => ?_)
    · obtain ⟨hxe, hW⟩ : x = .set [a, b, c, d] ∧ W4 [a, b, c, d] := by
          rcases hkind with ⟨h1, _, _, h2⟩ | ⟨o, _, h5, _, _, _, _, h6⟩
          · exact ⟨h1, h2⟩
          · omega
      subst hxe
      refine RK.seq ?_
      refine RK.region ?_
      refine RL.p rfl rfl ?_
      refine RL.q (.free rfl) rfl rfl (Yld.fieldAddr fo224_1 rfl) ?_
      refine RL.q (.free rfl) rfl rfl (Yld.loadN (cs := wds [a, b, c, d]) a221 rfl (atN (blk_set4 hB1))) ?_
      refine RL.q (.free rfl) rfl rfl (Yld.build (v := .agg #[.int .i64 1, .int .u64 (a : Int), .int .u64 (b : Int), .int .u64 (c : Int), .int .u64 (d : Int), .int .i64 0, .int .i64 0]) rfl (fun w => by kernel_rfl)) ?_
      refine RL.op (.free rfl) rfl rfl (Does.slice1 u254 i301 rfl rfl rfl rfl rfl) ?_
      rintro _ w4 ⟨b4, rfl, hn4⟩
      simp only [sz] at hb
      refine RL.op (.free rfl) rfl rfl (Does.append u254 i301 rfl rfl rfl rfl rfl (hv1.mod hn4.grow (fun _ _ h => h)) (Sl.new hn4 7 1 rfl (by omega) (fun h => h)) (rfl) (by omega)) ?_
      rintro u5 w5 ⟨hr5, hm5, hu5⟩
      refine RL.p rfl rfl ?_
      refine RL.done ?_
      refine RK.ret_of Tryz.func284 (res1 rfl rfl) ?_ _
      exact ⟨_, rfl, LayR.grow0 hn1.grow (app_one (s := byteS [a, b, c, d]) hn4 hr5 hm5 hu5)⟩
    · obtain ⟨o, rfl, rfl, h3⟩ : ∃ o : Nat, x = .node o l ∧ op = o ∧ (o = 2 ∨ o = 3 ∧ cnt l ≠ 0 ∨ (o = 4 ∨ o = 5 ∨ o = 6) ∧ cnt l = 1) := by
          rcases hkind with ⟨_, _, h2, _⟩ | ⟨o, h4, h5, _, _, _, _, h6⟩
          · omega
          · exact ⟨o, h4, h5, h6⟩
      clear hkind
      have hk : ∀ y ∈ kidsR l, layC y := fun y hy => lay_ok m y (by have := hiR_kid hy; simp only [hiR] at hx; omega) (kids_tr h.tr y hy)
      refine RK.seq ?_
      refine RK.region ?_
      iterate 2 refine RL.p rfl rfl ?_
      refine RL.done ?_
      first | refine RK.condD rfl (fun h20 => ?_) (fun h20 => ?_) | refine RK.condN rfl (fun h20 => ?_) (fun h20 => ?_) | refine RK.cond rfl (fun h20 => ?_) (fun h20 => ?_)
      · have ho : o = 2 := by omega
        subst ho
        rw [node_sz, if_pos rfl] at hb
        have hkl : (kidsR l).length = n := by rw [kids_len]; omega
        have hszl := sz_cons l h.tr
        have hgood : GoodL (kidsR l) := kids_tr h.tr
        refine RK.seq ?_
        refine RK.region ?_
        refine RL.q (.free rfl) rfl rfl (Yld.fieldAddr fo224_2 rfl) ?_
        refine RL.q (.free rfl) rfl rfl (Yld.load p222 rfl (at1 (hB1.cell rfl))) ?_
        refine RL.q (.free rfl) rfl rfl (Yld.lenSl u222 rfl) ?_
        refine RL.p rfl rfl ?_
        refine RL.done ?_
        refine RK.block ?_
        refine RK.loop (fun s : Nat × Value => [(0, s.2), (23, .slice ad n cap), (24, .int .i64 (n : Int)), (25, .int .i64 (s.1 : Int))]) (fun s w' => s.1 ≤ n ∧ LayR w w' (.slice adv P.length cv) s.2 (P ++ code (lstS ((kidsR l).take s.1)) none P.length)) (fun s => n - s.1) (0, .slice adv P.length cv) ⟨rfl, rfl, rfl, rfl, trivial⟩ ⟨by simp, by simpa [code, lstS] using (LayR.refl hv).grow hn1.grow⟩ (fun s w2 hI ih => ?_)
        obtain ⟨k, u⟩ := s
        obtain ⟨hkn, hL⟩ := hI
        simp only at hkn hL
        refine RK.seq ?_
        refine RK.region ?_
        refine RL.p rfl rfl ?_
        refine RL.done ?_
        refine RK.seq ?_
        first | refine RK.condD rfl (fun h26 => ?_) (fun h26 => ?_) | refine RK.condN rfl (fun h26 => ?_) (fun h26 => ?_) | refine RK.cond rfl (fun h26 => ?_) (fun h26 => ?_)
        · obtain ⟨ck, y, b1, o1, rfl, hy, hym, hyv, hb1, hb1l, hcl⟩ := kid_far h.tr hn h.sl h.ks (k := k) (by simp only at h26; omega) hL.mod
          refine RK.skip ?_
          refine RK.seq ?_
          refine RK.block ?_
          refine RK.seq ?_
          refine RK.region ?_
          refine RL.q (.free rfl) rfl rfl (Yld.indexAddrN u222 i224 rfl rfl (by simp only at h26; omega)) ?_
          refine RL.q (.free rfl) rfl rfl (Yld.loadN (cs := celC ck) a224 rfl (atN (hcl))) ?_
          refine RL.op (.free rfl) rfl rfl (Does.alloc i224) ?_
          rintro _ w5 ⟨b5, rfl, hn5⟩
          refine RL.op' (.free rfl) rfl (Does.storeN i224 rfl rfl rfl rfl hn5.blk (Nat.le_refl 6)) ?_
          rintro _ w6 ⟨hb6, hm6, _⟩
          have hB6 : Blk w6 b5 224 (celC ck) := hb6
          have hg6 : Grow w2 w6 := hn5.grow.then hm6 (fun y hy e => by have e' : y = b5 := e; have := hn5.at_; omega)
          refine RL.done ?_
          refine RK.region ?_
          refine RL.p rfl rfl ?_
          refine RL.q (.free rfl) rfl rfl (Yld.loadN (cs := celC ck) a224 rfl (atN (blk0' hB6))) ?_
          have hyv6 : RxV (OB u) w6 y [ck] := RxV.off (M := fun b => Far w (.slice adv P.length cv) b) (fun b hb e => hL.own b e) y (RxV.grow hg6 y hyv)
          have hL6 := hL.grow hg6
          have hlen1 : (P ++ code (lstS ((kidsR l).take k)) none P.length).length = P.length + sz (lstS ((kidsR l).take k)) := by rw [List.length_append, codeL_len (tr_lst _ (hgood.take k))]
          have hsum := sum_take hy
          have hle1 := sum_take_le (kidsR l) (k + 1)
          have hszt := szS ((kidsR l).take k)
          refine RL.op (.free rfl) rfl rfl (Does.call rfl e284 (hk y hym _ ck u w6 hyv6 hL6.row (by rw [hlen1, hszt]; omega))) ?_
          rintro u7 w7 hL7
          have hL8 := hL6.trans hL7
          rw [hlen1, List.append_assoc, ← codeS_snoc, ← take_snoc hy] at hL8
          refine RL.p rfl rfl ?_
          refine RL.done ?_
          refine RK.inBlock ?_
          refine RK.region ?_
          refine RL.p rfl rfl ?_
          refine RL.re (d := 32) rfl rfl (succ_i64 (by omega)) ?_
          refine RL.p rfl rfl ?_
          refine RL.done ?_
          exact RK.back (ih (k + 1, u7) _ ⟨by simp only at h26 ⊢; omega, hL8⟩ (by simp only at h26 ⊢; omega)) ⟨rfl, rfl, rfl, rfl, trivial⟩
        · have ek : (kidsR l).take k = kidsR l := List.take_of_length_le (by simp only at h26; omega)
          rw [ek, lst_kids h.tr] at hL
          refine RK.exit rfl ?_
          refine RK.inBlock ?_
          refine RK.seq ?_
          refine RK.region ?_
          iterate 2 refine RL.p rfl rfl ?_
          refine RL.done ?_
          refine RK.ret_of Tryz.func284 (res1 rfl rfl) ?_ _
          exact ⟨_, rfl, hL⟩
      · refine RK.seq ?_
        refine RK.region ?_
        iterate 2 refine RL.p rfl rfl ?_
        refine RL.done ?_
        first | refine RK.condD rfl (fun h33 => ?_) (fun h33 => ?_) | refine RK.condN rfl (fun h33 => ?_) (fun h33 => ?_) | refine RK.cond rfl (fun h33 => ?_) (fun h33 => ?_)
        · have ho : o = 3 := by omega
          subst ho
          rw [node_sz, if_neg (by omega), if_pos rfl] at hb
          refine RK.seq ?_
          refine RK.region ?_
          refine RL.p rfl rfl ?_
          refine RL.q (.free rfl) rfl rfl (Yld.fieldAddr fo224_2 rfl) ?_
          refine RL.q (.free rfl) rfl rfl (Yld.load p222 rfl (at1 (hB1.cell rfl))) ?_
          refine RL.op (.free rfl) rfl rfl (Does.call rfl e303 (ways_lay h.tr hn h.cp hlen (by omega) hk P _ ((h.sl.mod (Mod.any' hn1.grow))) (RxV.grow hn1.grow _ h.ks) hv1 (by omega))) ?_
          rintro u5 w5 hL5
          refine RL.p rfl rfl ?_
          refine RL.done ?_
          refine RK.ret_of Tryz.func284 (res1 rfl rfl) ?_ _
          exact ⟨_, rfl, LayR.grow0 hn1.grow hL5⟩
        · refine RK.seq ?_
          refine RK.region ?_
          iterate 2 refine RL.p rfl rfl ?_
          refine RL.done ?_
          first | refine RK.condD rfl (fun h39 => ?_) (fun h39 => ?_) | refine RK.condN rfl (fun h39 => ?_) (fun h39 => ?_) | refine RK.cond rfl (fun h39 => ?_) (fun h39 => ?_)
          · have ho : o = 4 := by omega
            subst ho
            obtain ⟨ck, y, b1, o1, rfl, hy, hym, hyv, hb1, hb1l, hcl⟩ := kid_far h.tr hn h.sl h.ks (k := 0) (by omega) (Mod.any' hn1.grow)
            obtain ⟨y', rfl⟩ := only_kid h.tr (by omega)
            have hyy : y = y' := by simpa [kidsR] using hy.symm
            subst hyy
            have hyt : Tr false y := h.tr.1
            have hszy : sz (.cons y .nil) = sz y := by simp [sz]
            rw [node_sz] at hb
            rw [if_neg (by omega), if_neg (by omega), if_pos rfl, hszy] at hb
            refine RK.seq ?_
            refine RK.drawM (OB (.slice adv P.length cv)) [(0, false), (1, false), (2, false), (3, false), (6, false), (7, false), (8, false), (9, false), (4, true), (5, true), (10, true), (11, false)] [] mixed (by kernel_rfl) ?_
            iterate 3 refine DL.p rfl rfl rfl ?_
            refine DL.re (d := 43) rfl rfl (succ_i64 (by omega)) ?_
            refine DL.qf rfl (.free rfl) rfl rfl (Yld.build (v := .agg #[.int .i64 2, .int .u64 0, .int .u64 0, .int .u64 0, .int .u64 0, .int .i64 ((P.length + 1 : Nat) : Int), .int .i64 0]) rfl (fun w => by kernel_rfl)) ?_
            refine DL.qf rfl (.free rfl) rfl rfl (Yld.fieldAddr fo224_2 rfl) ?_
            refine DL.q rfl (.free rfl) rfl rfl rfl (Yld.load p222 rfl (atM (hB1.cell rfl) (hnb3))) (Mod.drew _ _) ?_
            refine DL.qf rfl (.free rfl) rfl rfl (Yld.indexAddr u222 i224 rfl rfl (by omega) (by omega)) ?_
            refine DL.q rfl (.free rfl) rfl rfl rfl (Yld.loadN (cs := celC ck) a224 rfl (atNM (hcl) (hb1))) (Mod.drew _ _) ?_
            refine DL.op rfl (.free rfl) rfl rfl (Does.slice1 u254 i301 rfl rfl rfl rfl rfl) ?_
            rintro _ w4 ⟨b4, rfl, hn4⟩
            refine ⟨(Mod.drew _ _).trans (Mod.any' hn4.grow), ?_⟩
            refine DL.op rfl (.free rfl) rfl rfl (Does.append u254 i301 rfl rfl rfl rfl rfl ((hv1.mod (Mod.drew No _) (fun _ _ h => h)).mod hn4.grow (fun _ _ h => h)) (Sl.new hn4 7 1 rfl (by omega) (fun h => h)) (rfl) (by omega)) ?_
            rintro u5 w5 ⟨hr5, hm5, hu5⟩
            have hL5 : LayR w1.drew w5 (.slice adv P.length cv) u5 (P ++ [splitS (P.length + 1) 0]) := app_one (s := splitS (P.length + 1) 0) hn4 hr5 hm5 hu5
            refine ⟨(Mod.drew _ _).trans hL5.mod, ?_⟩
            have hyv5 : RxV (OB u5) w5 y [ck] := RxV.off (M := fun b => Far w (.slice adv P.length cv) b) (fun b hb e => by
                rcases hL5.own b e with h3 | h3
                · exact .inl h3
                · exact .inr (by have : w1.drew.heap.size = w1.heap.size := rfl; omega)) y (RxV.mod hL5.mod (fun b _ e => .inl e) y (RxV.grow (Mod.drew _ _) y hyv))
            have hp5 : (P ++ [splitS (P.length + 1) 0]).length = P.length + 1 := by simp
            refine DL.op rfl (.free rfl) rfl rfl (Does.call rfl e284 (hk y (by simp [kidsR]) _ ck u5 w5 hyv5 hL5.row (by rw [hp5]; omega))) ?_
            rintro u6 w6 hL6
            rw [hp5] at hL6
            have hL56 := hL5.trans hL6
            refine ⟨(Mod.drew _ _).trans hL56.mod, ?_⟩
            have hL06 : LayR w w6 (.slice adv P.length cv) u6 _ := LayR.grow0 (hn1.grow.trans (Mod.drew _ _)) hL56
            have hp6 : ((P ++ [splitS (P.length + 1) 0]) ++ code y none (P.length + 1)).length = P.length + 1 + sz y := by rw [List.length_append, hp5, codeN_len hyt]
            refine DL.p rfl rfl rfl ?_
            refine DL.done ?_
            refine RK.seq ?_
            refine RK.region ?_
            iterate 2 refine RL.p rfl rfl ?_
            refine RL.q (.free rfl) rfl rfl (Yld.build (v := .agg #[.int .i64 3, .int .u64 0, .int .u64 0, .int .u64 0, .int .u64 0, .int .i64 ((P.length : Nat) : Int), .int .i64 0]) rfl (fun w => by kernel_rfl)) ?_
            refine RL.op (.free rfl) rfl rfl (Does.slice1 u254 i301 rfl rfl rfl rfl rfl) ?_
            rintro _ w7 ⟨b7, rfl, hn7⟩
            refine RL.op (.free rfl) rfl rfl (Does.append u254 i301 rfl rfl rfl rfl rfl (hL06.row.mod hn7.grow (fun _ _ h => h)) (Sl.new hn7 7 1 rfl (by omega) (fun h => h)) (rfl) (by omega)) ?_
            rintro u8 w8 ⟨hr8, hm8, hu8⟩
            have hL9 := hL06.trans (app_one (s := jumpS P.length) hn7 hr8 hm8 hu8)
            have hre : (((P ++ [splitS (P.length + 1) 0]) ++ code y none (P.length + 1)) ++ [jumpS P.length]) = P ++ splitS (P.length + 1) 0 :: (code y none (P.length + 1) ++ [jumpS P.length]) := by simp
            have hp9 : (P ++ splitS (P.length + 1) 0 :: (code y none (P.length + 1) ++ [jumpS P.length])).length = P.length + 2 + sz y := by rw [← hre, List.length_append, hp6]; show _ + 1 = _; omega
            rw [hre] at hL9
            obtain ⟨g, cap9, cs9, hue, hB9, hcs9, hturn⟩ := Row.turn hL9.row (by omega)
            subst hue
            rw [hp9] at hcs9
            refine RL.p rfl rfl ?_
            refine RL.done ?_
            refine RK.region ?_
            iterate 3 refine RL.p rfl rfl ?_
            refine RL.q (.free rfl) rfl rfl (Yld.lenSl u254 rfl) ?_
            refine RL.re (d := 60) rfl rfl (congrArg (Value.int .i64) (show _ = ((P.length + 2 + sz y : Nat) : Int) by rw [hp9])) ?_
            refine RL.q (.free rfl) rfl rfl (Yld.indexAddrN u254 i301 rfl rfl (by omega)) ?_
            refine RL.q (.free rfl) rfl rfl (Yld.fieldAddr fo301_3 rfl) ?_
            refine RL.op' (.free rfl) rfl (Does.store i3 rfl rfl rfl hB9 (setAt_of (by omega))) ?_
            rintro _ w11 ⟨hb11, hm11, _⟩
            have hL11 := lay_set (s' := splitS (P.length + 1) (P.length + 2 + sz y)) (i := 6) hL9 rfl (hturn w11 _ _ (by rw [hp9]; omega) (by have h9 := hb11; rw [Nat.zero_add] at h9; exact h9)) (by omega) rfl hm11
            refine RL.done ?_
            refine RK.inBlock ?_
            refine RK.seq ?_
            refine RK.region ?_
            iterate 2 refine RL.p rfl rfl ?_
            refine RL.done ?_
            refine RK.ret_of Tryz.func284 (res1 rfl rfl) ?_ _
            exact ⟨_, rfl, by simpa [code, sz] using hL11⟩
          · refine RK.seq ?_
            refine RK.region ?_
            iterate 2 refine RL.p rfl rfl ?_
            refine RL.done ?_
            first | refine RK.condD rfl (fun h63 => ?_) (fun h63 => ?_) | refine RK.condN rfl (fun h63 => ?_) (fun h63 => ?_) | refine RK.cond rfl (fun h63 => ?_) (fun h63 => ?_)
            · have ho : o = 5 := by omega
              subst ho
              obtain ⟨ck, y, b1, o1, rfl, hy, hym, hyv, hb1, hb1l, hcl⟩ := kid_far h.tr hn h.sl h.ks (k := 0) (by omega) (Mod.any' hn1.grow)
              obtain ⟨y', rfl⟩ := only_kid h.tr (by omega)
              have hyy : y = y' := by simpa [kidsR] using hy.symm
              subst hyy
              have hyt : Tr false y := h.tr.1
              have hszy : sz (.cons y .nil) = sz y := by simp [sz]
              rw [node_sz] at hb
              rw [if_neg (by omega), if_neg (by omega), if_neg (by omega), hszy] at hb
              refine RK.seq ?_
              refine RK.region ?_
              refine RL.p rfl rfl ?_
              refine RL.q (.free rfl) rfl rfl (Yld.fieldAddr fo224_2 rfl) ?_
              refine RL.q (.free rfl) rfl rfl (Yld.load p222 rfl (at1 (hB1.cell rfl))) ?_
              refine RL.q (.free rfl) rfl rfl (Yld.indexAddr u222 i224 rfl rfl (by omega) (by omega)) ?_
              refine RL.q (.free rfl) rfl rfl (Yld.loadN (cs := celC ck) a224 rfl (atN (hcl))) ?_
              have hyv5 : RxV (OB (.slice adv P.length cv)) w1 y [ck] := RxV.off (M := fun b => Far w (.slice adv P.length cv) b) (fun b hb e => .inl e) y hyv
              refine RL.op (.free rfl) rfl rfl (Does.call rfl e284 (hk y (by simp [kidsR]) _ ck _ w1 hyv5 hv1 (by omega))) ?_
              rintro u6 w6 hL6
              have hL06 := LayR.grow0 hn1.grow hL6
              have hp6 : (P ++ code y none P.length).length = P.length + sz y := by rw [List.length_append, codeN_len hyt]
              obtain ⟨ad6, c6, hue6⟩ := hL6.row.slice
              refine RL.p rfl rfl ?_
              refine RL.done ?_
              refine RK.region ?_
              iterate 3 refine RL.p rfl rfl ?_
              refine RL.q (.free rfl) rfl rfl (Yld.lenSl u254 (congrArg some hue6)) ?_
              refine RL.re (d := 74) rfl rfl (congrArg (Value.int .i64) (show _ = ((P.length + sz y : Nat) : Int) by rw [hp6])) ?_
              refine RL.p rfl rfl ?_
              refine RL.re (d := 75) rfl rfl (succ_i64 (by omega)) ?_
              refine RL.q (.free rfl) rfl rfl (Yld.build (v := .agg #[.int .i64 2, .int .u64 0, .int .u64 0, .int .u64 0, .int .u64 0, .int .i64 ((P.length : Nat) : Int), .int .i64 ((P.length + sz y + 1 : Nat) : Int)]) rfl (fun w => by kernel_rfl)) ?_
              refine RL.op (.free rfl) rfl rfl (Does.slice1 u254 i301 rfl rfl rfl rfl rfl) ?_
              rintro _ w7 ⟨b7, rfl, hn7⟩
              refine RL.op (.free rfl) rfl rfl (Does.append u254 i301 rfl rfl rfl rfl rfl (hL06.row.mod hn7.grow (fun _ _ h => h)) (Sl.new hn7 7 1 rfl (by omega) (fun h => h)) (rfl) (by omega)) ?_
              rintro u8 w8 ⟨hr8, hm8, hu8⟩
              have hL9 := hL06.trans (app_one (s := splitS P.length (P.length + sz y + 1)) hn7 hr8 hm8 hu8)
              refine RL.p rfl rfl ?_
              refine RL.done ?_
              refine RK.inBlock ?_
              refine RK.seq ?_
              refine RK.region ?_
              iterate 2 refine RL.p rfl rfl ?_
              refine RL.done ?_
              refine RK.ret_of Tryz.func284 (res1 rfl rfl) ?_ _
              exact ⟨_, rfl, by simpa [code, sz] using hL9⟩
            · have ho : o = 6 := by omega
              subst ho
              refine RK.seq ?_
              refine RK.region ?_
              iterate 2 refine RL.p rfl rfl ?_
              refine RL.done ?_
              refine RK.condT (hcT rfl (decide_eq_true (by omega))) ?_
              obtain ⟨ck, y, b1, o1, rfl, hy, hym, hyv, hb1, hb1l, hcl⟩ := kid_far h.tr hn h.sl h.ks (k := 0) (by omega) (Mod.any' hn1.grow)
              obtain ⟨y', rfl⟩ := only_kid h.tr (by omega)
              have hyy : y = y' := by simpa [kidsR] using hy.symm
              subst hyy
              have hyt : Tr false y := h.tr.1
              have hszy : sz (.cons y .nil) = sz y := by simp [sz]
              rw [node_sz] at hb
              rw [if_neg (by omega), if_neg (by omega), if_neg (by omega), hszy] at hb
              refine RK.seq ?_
              refine RK.drawM (OB (.slice adv P.length cv)) [(0, false), (1, false), (2, false), (3, false), (6, false), (7, false), (8, false), (9, false), (4, true), (5, true), (10, true), (11, false)] [] mixed (by kernel_rfl) ?_
              iterate 3 refine DL.p rfl rfl rfl ?_
              refine DL.re (d := 83) rfl rfl (succ_i64 (by omega)) ?_
              refine DL.qf rfl (.free rfl) rfl rfl (Yld.build (v := .agg #[.int .i64 2, .int .u64 0, .int .u64 0, .int .u64 0, .int .u64 0, .int .i64 ((P.length + 1 : Nat) : Int), .int .i64 0]) rfl (fun w => by kernel_rfl)) ?_
              refine DL.qf rfl (.free rfl) rfl rfl (Yld.fieldAddr fo224_2 rfl) ?_
              refine DL.q rfl (.free rfl) rfl rfl rfl (Yld.load p222 rfl (atM (hB1.cell rfl) (hnb3))) (Mod.drew _ _) ?_
              refine DL.qf rfl (.free rfl) rfl rfl (Yld.indexAddr u222 i224 rfl rfl (by omega) (by omega)) ?_
              refine DL.q rfl (.free rfl) rfl rfl rfl (Yld.loadN (cs := celC ck) a224 rfl (atNM (hcl) (hb1))) (Mod.drew _ _) ?_
              refine DL.op rfl (.free rfl) rfl rfl (Does.slice1 u254 i301 rfl rfl rfl rfl rfl) ?_
              rintro _ w4 ⟨b4, rfl, hn4⟩
              refine ⟨(Mod.drew _ _).trans (Mod.any' hn4.grow), ?_⟩
              refine DL.op rfl (.free rfl) rfl rfl (Does.append u254 i301 rfl rfl rfl rfl rfl ((hv1.mod (Mod.drew No _) (fun _ _ h => h)).mod hn4.grow (fun _ _ h => h)) (Sl.new hn4 7 1 rfl (by omega) (fun h => h)) (rfl) (by omega)) ?_
              rintro u5 w5 ⟨hr5, hm5, hu5⟩
              have hL5 : LayR w1.drew w5 (.slice adv P.length cv) u5 (P ++ [splitS (P.length + 1) 0]) := app_one (s := splitS (P.length + 1) 0) hn4 hr5 hm5 hu5
              refine ⟨(Mod.drew _ _).trans hL5.mod, ?_⟩
              have hyv5 : RxV (OB u5) w5 y [ck] := RxV.off (M := fun b => Far w (.slice adv P.length cv) b) (fun b hb e => by
                  rcases hL5.own b e with h3 | h3
                  · exact .inl h3
                  · exact .inr (by have : w1.drew.heap.size = w1.heap.size := rfl; omega)) y (RxV.mod hL5.mod (fun b _ e => .inl e) y (RxV.grow (Mod.drew _ _) y hyv))
              have hp5 : (P ++ [splitS (P.length + 1) 0]).length = P.length + 1 := by simp
              refine DL.op rfl (.free rfl) rfl rfl (Does.call rfl e284 (hk y (by simp [kidsR]) _ ck u5 w5 hyv5 hL5.row (by rw [hp5]; omega))) ?_
              rintro u6 w6 hL6
              rw [hp5] at hL6
              have hL56 := hL5.trans hL6
              refine ⟨(Mod.drew _ _).trans hL56.mod, ?_⟩
              have hL06 : LayR w w6 (.slice adv P.length cv) u6 _ := LayR.grow0 (hn1.grow.trans (Mod.drew _ _)) hL56
              have hp6 : ((P ++ [splitS (P.length + 1) 0]) ++ code y none (P.length + 1)).length = P.length + 1 + sz y := by rw [List.length_append, hp5, codeN_len hyt]
              have hre : ((P ++ [splitS (P.length + 1) 0]) ++ code y none (P.length + 1)) = P ++ splitS (P.length + 1) 0 :: code y none (P.length + 1) := by simp
              have hp9 : (P ++ splitS (P.length + 1) 0 :: code y none (P.length + 1)).length = P.length + 1 + sz y := by rw [← hre, hp6]
              have hL9 := hL06
              rw [hre] at hL9
              obtain ⟨g, cap9, cs9, hue, hB9, hcs9, hturn⟩ := Row.turn hL9.row (by omega)
              subst hue
              rw [hp9] at hcs9
              refine DL.p rfl rfl rfl ?_
              refine DL.done ?_
              refine RK.region ?_
              iterate 3 refine RL.p rfl rfl ?_
              refine RL.q (.free rfl) rfl rfl (Yld.lenSl u254 rfl) ?_
              refine RL.re (d := 95) rfl rfl (congrArg (Value.int .i64) (show _ = ((P.length + 1 + sz y : Nat) : Int) by rw [hp9])) ?_
              refine RL.q (.free rfl) rfl rfl (Yld.indexAddrN u254 i301 rfl rfl (by omega)) ?_
              refine RL.q (.free rfl) rfl rfl (Yld.fieldAddr fo301_3 rfl) ?_
              refine RL.op' (.free rfl) rfl (Does.store i3 rfl rfl rfl hB9 (setAt_of (by omega))) ?_
              rintro _ w11 ⟨hb11, hm11, _⟩
              have hL11 := lay_set (s' := splitS (P.length + 1) (P.length + 1 + sz y)) (i := 6) hL9 rfl (hturn w11 _ _ (by rw [hp9]; omega) (by have h9 := hb11; rw [Nat.zero_add] at h9; exact h9)) (by omega) rfl hm11
              refine RL.done ?_
              refine RK.inBlock ?_
              refine RK.seq ?_
              refine RK.region ?_
              iterate 2 refine RL.p rfl rfl ?_
              refine RL.done ?_
              refine RK.ret_of Tryz.func284 (res1 rfl rfl) ?_ _
              exact ⟨_, rfl, by simpa [code, sz] using hL11⟩
theorem progMake_ok (x : Rx) (ht : Tr false x) (hs : sz x ≤ 1000) (M : Nat → Prop) (k : Cel) (w : World) (hv : RxV M w x [k]) : Fx Tryz.prog 257 [.agg (celC k).toArray] w (fun u w' => (∃ v, u = .tuple #[v, .bool (decide (sz x + 1 ≤ 40))] ∧ (sz x + 1 ≤ 40 → RowS w' v (whole x))) ∧ Grow w w') := by
 refine enter Tryz.func257 rfl rfl rfl _ (Pick.sub (l := [0]) (.cons rfl .nil)) ?_
 refine GG ?_
 refine OP (Does.box rfl) ?_
 rintro _ w1 ⟨b1, rfl, hn1⟩
 refine GG ?_
 refine QQ (Yld.loadN (cs := celC k) a224 rfl (atN (blk0' hn1.blk))) ?_
 refine OP (Does.call rfl e283 (sizeM_ok x ht hs M k _ (RxV.grow hn1.grow x hv))) ?_
 rintro _ w2 ⟨rfl, hg2⟩
 refine GG ?_
 refine RL.knownF (d := 9) rfl rfl (decide_eq_false (by omega)) ?_
 iterate 2 refine QQ (Yld.pure rfl) ?_
 refine GG ?_
 refine CD (fun h12 => ?_) (fun h12 => ?_)
 ·refine GG ?_
  refine RK.ret_of Tryz.func257 (res2 rfl rfl rfl) ?_ _
  exact ⟨_, rfl, ⟨_, by rw [decide_eq_false (by omega)], fun h => by omega⟩, hn1.grow.trans hg2⟩
 ·refine GG ?_
  refine QQ (Yld.loadN (cs := celC k) a224 rfl (atN (blk0' (hn1.blk.mod hg2 (fun h => h))))) ?_
  refine OP (Does.call rfl e284 (lay_ok _ x (Nat.le_refl _) ht [] k (.slice none 0 0) w2 (RxV.off (M := fun _ => False) (fun b _ e => by simp [OB, Value.ownBlock] at e) x (RxV.off (fun b _ e => e.elim) x (RxV.grow (hn1.grow.trans hg2) x hv))) (Row.nil _ _ _) (by simp; omega))) ?_
  rintro u3 w3 hL3
  refine QQ (Yld.build (v := .agg #[.int .i64 4, .int .u64 0, .int .u64 0, .int .u64 0, .int .u64 0, .int .i64 0, .int .i64 0]) rfl (fun w => by kernel_rfl)) ?_
  refine OP (Does.slice1 u254 i301 rfl rfl rfl rfl rfl) ?_
  rintro _ w4 ⟨b4, rfl, hn4⟩
  have hp3 : ([] ++ code x none ([] : List Stp).length).length = sz x := by simp [codeN_len ht]
  refine OP (Does.append u254 i301 rfl rfl rfl rfl rfl (hL3.row.mod hn4.grow (fun _ _ h => h)) (Sl.new hn4 7 1 rfl (by omega) (fun h => h)) (rfl) (by rw [hp3]; omega)) ?_
  rintro u5 w5 ⟨hr5, hm5, hu5⟩
  have hL5 := hL3.trans (app_one (s := matchS) hn4 hr5 hm5 hu5)
  refine GG ?_
  refine RK.ret_of Tryz.func257 (res2 rfl rfl rfl) ?_ _
  exact ⟨_, rfl, ⟨_, by rw [decide_eq_true (by omega)], fun _ => by simpa [whole] using hL5.row⟩, (hn1.grow.trans hg2).trans (hL5.mod.mono fun b _ e => by simp [OB, Value.ownBlock] at e)⟩
end Go.Proofs.YthbjfhhiajihfaaGreat
set_option linter.unusedVariables false
set_option linter.unusedSimpArgs false
set_option maxHeartbeats 1000000
set_option maxRecDepth 100000
namespace Go.Rex
open Go Go.X
theorem bit1 (a c : Nat) : a >>> c &&& 1 = 1 ↔ a.testBit c = true := by
 rw [Nat.testBit, Nat.and_comm]
 have : 1 &&& a >>> c = (a >>> c) % 2 := by rw [Nat.and_comm]; exact Nat.and_one_is_mod _
 rw [this]
 simp
theorem bit1I (a c : Nat) : ((a >>> c &&& 1 : Nat) : Int) = 1 ↔ a.testBit c = true := by
 rw [← bit1]
 exact ⟨fun h => by exact_mod_cast h, fun h => by exact_mod_cast h⟩
def inB (t : List Nat) (c : Nat) : Bool := ((t[c / 64]?).getD 0).testBit (c % 64)
def HS (s : ByteArray) (t : List Nat) (i : Nat) : Prop := i < s.size ∧ inB t (b8 s i) = true
open Classical in
noncomputable def takes (x : Rx) (s : ByteArray) : Bool := decide (Lg (HS s) x true 0 s.size)
theorem takes_iff (x : Rx) (s : ByteArray) : takes x s = true ↔ Lg (HS s) x true 0 s.size := by unfold takes; simp
structure OkP (P : List Stp) : Prop where
 one : 1 ≤ P.length
 le : P.length ≤ 40
 at_ : ∀ i st, P[i]? = some st → W4 st.set ∧ (i + 1 < P.length ∧ okS P.length st ∨ i + 1 = P.length ∧ st = matchS)
theorem code_w4 : ∀ (x : Rx) (b : Bool), Tr b x → ∀ p, (∀ s ∈ code x none p, W4 s.set) ∧ ∀ e, ∀ s ∈ code x (some e) p, W4 s.set := by
 intro x
 induction x with
 | set t =>
  intro b h p
  cases b with
  | true => exact h.elim
  | false => exact ⟨fun s hs => by simp [code] at hs; subst hs; exact h, fun e s hs => by simp [code] at hs; subst hs; exact h⟩
 | nil => intro b h p; exact ⟨fun s hs => by simp [code] at hs, fun e s hs => by simp [code] at hs⟩
 | node op l ih =>
  intro b h p
  cases b with
  | true => exact h.elim
  | false =>
   have h1 := ih true h.2
   have key : ∀ e, ∀ s ∈ code (.node op l) e p, W4 s.set := by
    intro e s hs
    simp only [code] at hs
    split at hs
    ·exact (h1 _).1 s hs
    ·split at hs
     ·exact (h1 _).2 _ s hs
     ·split at hs
      ·rcases List.mem_cons.1 hs with rfl | hs
       ·exact W4.zero
       ·rcases List.mem_append.1 hs with hs | hs
        ·exact (h1 _).1 s hs
        ·simp at hs; subst hs; exact W4.zero
      ·split at hs
       ·rcases List.mem_append.1 hs with hs | hs
        ·exact (h1 _).1 s hs
        ·simp at hs; subst hs; exact W4.zero
       ·rcases List.mem_cons.1 hs with rfl | hs
        ·exact W4.zero
        ·exact (h1 _).1 s hs
   exact ⟨key none, fun e => key (some e)⟩
 | cons x l ihx ihl =>
  intro b h p
  cases b with
  | false => exact h.elim
  | true =>
   have hx := ihx false h.1
   have hl := ihl true h.2
   refine ⟨fun s hs => ?_, fun e s hs => ?_⟩
   ·simp only [code] at hs
    rcases List.mem_append.1 hs with hs | hs
    ·exact (hx _).1 s hs
    ·exact (hl _).1 s hs
   ·simp only [code] at hs
    split at hs
    ·exact (hx _).1 s hs
    ·rcases List.mem_cons.1 hs with rfl | hs
     ·exact W4.zero
     ·rcases List.mem_append.1 hs with hs | hs
      ·exact (hx _).1 s hs
      ·rcases List.mem_cons.1 hs with rfl | hs
       ·exact W4.zero
       ·exact (hl _).2 _ s hs
theorem whole_ok {x : Rx} (ht : Tr false x) (hs : sz x + 1 ≤ 40) : OkP (whole x) := by
 obtain ⟨hw, hl, _⟩ := tr_wf x false ht
 have hlen := whole_len hw hl
 refine ⟨by omega, by omega, fun i st h => ⟨?_, ?_⟩⟩
 ·have hm : st ∈ code x none 0 ++ [matchS] := List.mem_of_getElem? h
  rcases List.mem_append.1 hm with h1 | h1
  ·exact (code_w4 x false ht 0).1 st h1
  ·simp at h1; subst h1; exact W4.zero
 ·rcases whole_at hw hl h with ⟨h1, h2⟩ | ⟨h1, h2⟩
  ·exact .inl ⟨by omega, by rw [hlen]; exact h2⟩
  ·exact .inr ⟨by omega, h2⟩
end Go.Rex
namespace Go.Proofs.YthbjfhhiajihfaaGreat
open Go Go.X Go.Rex
def stV (s : Stp) : Value := .agg (stC s).toArray
theorem stepIn_ok (n at_ b : Nat) (w : World) (hb : Blk w b 3 [.int .i64 (n : Int)]) : Fx Tryz.prog 305 [.int .i64 (at_ : Int), pp b] w (fun u w' => u = .bool (decide (at_ < n)) ∧ w = w') := by
 refine enter Tryz.func305 rfl rfl rfl _ (Pick.sub (l := [0, 1]) (.cons rfl (.cons rfl .nil))) ?_
 refine GG ?_
 refine RL.knownT (d := 6) rfl rfl (decide_eq_true (Int.natCast_nonneg at_)) ?_
 refine QQ (Yld.pure rfl) ?_
 refine QQ (Yld.load p3 rfl (at1 (hb.cell rfl))) ?_
 refine QQ (Yld.pure rfl) ?_
 refine GG ?_
 refine RK.ret_of Tryz.func305 (res1 rfl rfl) ?_ _
 exact ⟨_, rfl, congrArg _ (by simp), rfl⟩
theorem blk_set4s {w : World} {b1 t : Nat} {op : Int} {a b c d : Nat} {v u : Value} (h : Blk w b1 t [.int .i64 op, .int .u64 (a : Int), .int .u64 (b : Int), .int .u64 (c : Int), .int .u64 (d : Int), v, u]) : ∀ (j : Nat) (z : Value), (wds [a, b, c, d])[j]? = some z → w.cell? ⟨b1, 0 + 1 + j, none⟩ = some z := blk_mid (rest := [v, u]) (ws := wds [a, b, c, d]) h
theorem right_ok (n : Nat) (s : Stp) (last : Bool) (hw : W4 s.set) (h : last = false ∧ okS n s ∨ last = true ∧ s = matchS) (w : World) : Fx Tryz.prog 287 [stV s, .int .i64 (n : Int), .bool last] w (fun u w' => u = .bool true ∧ Grow w w') := by
 obtain ⟨op, t, a, b⟩ := s
 obtain ⟨x0, x1, x2, x3, rfl⟩ := W4.four hw
 have hkind : op = 1 ∧ a = 0 ∧ b = 0 ∧ last = false ∨ (op = 2 ∧ a < n ∧ b < n ∨ op = 3 ∧ a < n ∧ b = 0 ∨ op = 4 ∧ a = 0 ∧ b = 0) ∧ x0 = 0 ∧ x1 = 0 ∧ x2 = 0 ∧ x3 = 0 := by
  rcases h with ⟨h1, h2⟩ | ⟨h1, h2⟩
  ·rcases h2 with ⟨h3, h4, h5⟩ | ⟨h3, h4, h5, h6⟩ | ⟨h3, h4, h5, h6⟩
   ·exact .inl ⟨h3, h4, h5, h1⟩
   ·simp only [zero4, List.cons.injEq] at h6; exact .inr ⟨.inl ⟨h3, h4, h5⟩, by omega⟩
   ·simp only [zero4, List.cons.injEq] at h6; exact .inr ⟨.inr (.inl ⟨h3, h4, h5⟩), by omega⟩
  ·simp only [matchS, zero4, Stp.mk.injEq, List.cons.injEq] at h2
   exact .inr ⟨.inr (.inr ⟨h2.1, h2.2.2.1, h2.2.2.2⟩), by omega⟩
 clear h
 refine enter Tryz.func287 rfl rfl rfl _ (Pick.sub (l := [0, 1, 2]) (.cons rfl (.cons rfl (.cons rfl .nil)))) ?_
 refine GG ?_
 refine OP (Does.box rfl) ?_
 rintro _ w1 ⟨b1, rfl, hn1⟩
 have hB1' : Blk w1 b1 301 [.int .i64 (op : Int), .int .u64 (x0 : Int), .int .u64 (x1 : Int), .int .u64 (x2 : Int), .int .u64 (x3 : Int), .int .i64 (a : Int), .int .i64 (b : Int)] := hn1.blk
 refine OP (Does.box rfl) ?_
 rintro _ w2 ⟨b2, rfl, hn2⟩
 have hB1 := hB1'.mod hn2.grow (fun h => h)
 have hg2 := hn1.grow.trans hn2.grow
 refine RL.p rfl rfl ?_
 refine RL.done ?_
 refine RK.seq ?_
 refine RK.region ?_
 iterate 2 refine RL.p rfl rfl ?_
 refine RL.done ?_
 refine RK.seq ?_
 refine RK.cut [(2, .bool last), (3, pp b1), (4, pp b2), (7, .func (.func 305) #[] #[pp b2])] (fun w' => w' = w2) (fun w3 hQ => ?_) (fun hj => ?_)
 ·subst hQ
  refine GG ?_
  refine QQ (Yld.fieldAddr fo301_0 rfl) ?_
  refine QQ (Yld.load p3 rfl (at1 (hB1.cell rfl))) ?_
  refine GG ?_
  refine CD (fun h20 => ?_) (fun h20 => ?_)
  ·have ho : a = 0 ∧ b = 0 ∧ last = false := by rcases hkind with h9 | ⟨h9, _⟩; exact h9.2; (exfalso; omega)
   obtain ⟨rfl, rfl, rfl⟩ := ho
   refine GG ?_
   refine QQ (Yld.fieldAddr fo301_2 rfl) ?_
   refine QQ (Yld.load p3 rfl (at1 (hB1.cell rfl))) ?_
   refine GG ?_
   refine RL.knownT (d := 25) rfl rfl (rfl) ?_
   refine QQ (Yld.fieldAddr fo301_3 rfl) ?_
   refine QQ (Yld.load p3 rfl (at1 (hB1.cell rfl))) ?_
   refine QQ (Yld.pure rfl) ?_
   refine GG ?_
   refine RL.knownT (d := 30) rfl rfl (rfl) ?_
   iterate 2 refine QQ (Yld.pure rfl) ?_
   refine GG ?_
   refine RK.ret_of Tryz.func287 (res1 rfl rfl) ?_ _
   exact ⟨_, rfl, rfl, hg2⟩
  ·refine GG ?_
   refine CD (fun h34 => ?_) (fun h34 => ?_)
   ·have ho : a < n ∧ b < n := by omega
    refine GG ?_
    refine QQ (Yld.fieldAddr fo301_2 rfl) ?_
    refine QQ (Yld.load p3 rfl (at1 (hB1.cell rfl))) ?_
    refine OP (Does.callv rfl rfl e305 (stepIn_ok n a b2 _ hn2.blk)) ?_
    rintro _ _ ⟨rfl, rfl⟩
    refine RL.p rfl rfl ?_
    refine RL.knownT (d := 40) rfl rfl (decide_eq_true ho.1) ?_
    refine QQ (Yld.pure rfl) ?_
    refine QQ (Yld.fieldAddr fo301_3 rfl) ?_
    refine QQ (Yld.load p3 rfl (at1 (hB1.cell rfl))) ?_
    refine OP (Does.callv rfl rfl e305 (stepIn_ok n b b2 _ hn2.blk)) ?_
    rintro _ _ ⟨rfl, rfl⟩
    refine GG ?_
    refine RK.ret_of Tryz.func287 (res1 rfl rfl) ?_ _
    exact ⟨_, rfl, by simp [ho], hg2⟩
   ·refine GG ?_
    refine CD (fun h46 => ?_) (fun h46 => ?_)
    ·have ho : a < n ∧ b = 0 := by omega
     refine GG ?_
     refine QQ (Yld.fieldAddr fo301_2 rfl) ?_
     refine QQ (Yld.load p3 rfl (at1 (hB1.cell rfl))) ?_
     refine OP (Does.callv rfl rfl e305 (stepIn_ok n a b2 _ hn2.blk)) ?_
     rintro _ _ ⟨rfl, rfl⟩
     refine RL.p rfl rfl ?_
     refine RL.knownT (d := 52) rfl rfl (decide_eq_true ho.1) ?_
     refine QQ (Yld.fieldAddr fo301_3 rfl) ?_
     refine QQ (Yld.load p3 rfl (at1 (hB1.cell rfl))) ?_
     refine QQ (Yld.pure rfl) ?_
     refine GG ?_
     refine RK.ret_of Tryz.func287 (res1 rfl rfl) ?_ _
     exact ⟨_, rfl, by simp [ho], hg2⟩
    ·have ho : op = 4 ∧ a = 0 ∧ b = 0 := by omega
     refine GG ?_
     refine QQ (Yld.fieldAddr fo301_0 rfl) ?_
     refine QQ (Yld.load p3 rfl (at1 (hB1.cell rfl))) ?_
     refine GG ?_
     refine RL.knownT (d := 60) rfl rfl (decide_eq_true (by omega)) ?_
     refine QQ (Yld.fieldAddr fo301_2 rfl) ?_
     refine QQ (Yld.load p3 rfl (at1 (hB1.cell rfl))) ?_
     refine QQ (Yld.pure rfl) ?_
     refine GG ?_
     refine RL.knownT (d := 65) rfl rfl (decide_eq_true (by omega)) ?_
     refine QQ (Yld.fieldAddr fo301_3 rfl) ?_
     refine QQ (Yld.load p3 rfl (at1 (hB1.cell rfl))) ?_
     refine QQ (Yld.pure rfl) ?_
     refine GG ?_
     refine RK.ret_of Tryz.func287 (res1 rfl rfl) ?_ _
     exact ⟨_, rfl, by simp [ho], hg2⟩
 ·refine GG ?_
  refine QQ (Yld.fieldAddr fo301_0 rfl) ?_
  refine QQ (Yld.load p3 rfl (at1 (hB1.cell rfl))) ?_
  refine GG ?_
  refine SP 12 (fun h12 => ?_) (fun h12 => ?_)
  ·obtain ⟨rfl, rfl, rfl, rfl⟩ : x0 = 0 ∧ x1 = 0 ∧ x2 = 0 ∧ x3 = 0 := by omega
   refine QQ (Yld.fieldAddr fo301_1 rfl) ?_
   refine QQ (Yld.loadN (cs := wds [0, 0, 0, 0]) a221 rfl (atN (blk_set4s hB1))) ?_
   refine QQ (Yld.build (v := .agg (wds [0, 0, 0, 0]).toArray) rfl (fun w => by kernel_rfl)) ?_
   refine QQ (Yld.neqArr arr221 (ps := [0, 0, 0, 0]) (qs := [0, 0, 0, 0]) rfl rfl rfl rfl rfl rfl) ?_
   refine GG ?_
   refine RK.condF (hcF rfl (rfl)) ?_
   refine RK.skip ?_
   exact RK.back (hj _ rfl) ⟨rfl, rfl, rfl, rfl, trivial⟩
  ·iterate 4 refine RL.no (.no rfl rfl rfl rfl) rfl rfl ?_
   refine GG ?_
   refine RK.condF rfl ?_
   refine RK.skip ?_
   exact RK.back (hj _ rfl) ⟨rfl, rfl, rfl, rfl, trivial⟩
end Go.Proofs.YthbjfhhiajihfaaGreat
set_option linter.unusedVariables false
set_option linter.unusedSimpArgs false
set_option maxHeartbeats 1000000
set_option maxRecDepth 100000
namespace Go.Proofs.YthbjfhhiajihfaaGreat
open Go Go.X Go.Rex
abbrev SlS (M : Nat → Prop) (w : World) (v : Value) (P : List Stp) : Prop := Sl M w v 7 P.length (P.flatMap stC)
theorem check1_ok (P : List Stp) (s : Stp) (hw : W4 s.set) (hs : okS P.length s) (v : Value) (b1 : Nat) (w : World) (hv : SlS No w v P) (hb : Blk w b1 254 [v]) :
  Fx Tryz.prog 286 [stV s, pp b1] w (fun u w' => u = .bool false ∧ Grow w w') := by
 obtain ⟨ad, c, rfl⟩ := hv.shape
 refine enter Tryz.func286 rfl rfl rfl _ (Pick.sub (l := [0, 1]) (.cons rfl (.cons rfl .nil))) ?_
 refine GG ?_
 refine OP (Does.box rfl) ?_
 rintro _ w2 ⟨b2, rfl, hn2⟩
 refine GG ?_
 refine QQ (Yld.loadN (cs := stC s) a301 rfl (atN (blk0' hn2.blk))) ?_
 refine QQ (Yld.load p254 rfl (at1 ((hb.mod hn2.grow (fun h => h)).cell rfl))) ?_
 refine QQ (Yld.lenSl u254 rfl) ?_
 refine OP (Does.call rfl e287 (right_ok P.length s false hw (.inl ⟨rfl, hs⟩) _)) ?_
 rintro _ w3 ⟨rfl, hg3⟩
 refine GG ?_
 refine RK.ret_of Tryz.func286 (res1 rfl rfl) ?_ _
 exact ⟨_, rfl, rfl, hn2.grow.trans hg3⟩
theorem checkI_ok (P : List Stp) (hP : OkP P) (ad : Option Addr) (c : Nat) (b1 : Nat) (w : World) (hv : SlS No w (.slice ad P.length c) P) (hb : Blk w b1 254 [.slice ad P.length c]) :
  Fx Tryz.prog 304 [.slice ad (P.length - 1) c, .func (.func 286) #[] #[pp b1]] w (fun u w' => u = .int .i64 (-1) ∧ Grow w w') := by
 have hle := hP.le
 refine enter Tryz.func304 rfl rfl rfl _ (Pick.sub (l := [0, 1]) (.cons rfl (.cons rfl .nil))) ?_
 refine GG ?_
 refine QQ (Yld.lenSl u254 rfl) ?_
 refine GG ?_
 refine RK.loop (fun k : Nat => [(0, .slice ad (P.length - 1) c), (1, .func (.func 286) #[] #[pp b1]), (7, .int .i64 ((P.length - 1 : Nat) : Int)), (8, .int .i64 k)]) (fun k w' => Grow w w' ∧ k ≤ P.length - 1) (fun k => P.length - 1 - k) 0 ⟨rfl, rfl, rfl, rfl, trivial⟩ ⟨Mod.refl _ _, by omega⟩ (fun k w' hI ih => ?_)
 obtain ⟨hg, hk⟩ := hI
 refine GG ?_
 refine CD (fun h9 => ?_) (fun h9 => ?_)
 ·obtain ⟨s, hs⟩ : ∃ s, P[k]? = some s := ⟨P[k]'(by omega), List.getElem?_eq_getElem (by omega)⟩
  obtain ⟨hw4, hok⟩ := hP.at_ k s hs
  have hok' : okS P.length s := by rcases hok with ⟨_, h1⟩ | ⟨h1, _⟩; exact h1; omega
  obtain ⟨b2, o2, c2, he, _, _, hcl⟩ := hv.elem stC_len hs
  cases he
  refine GG ?_
  refine QQ (Yld.indexAddrN u254 i301 rfl rfl (by omega)) ?_
  refine QQ (Yld.loadN (cs := stC s) a301 rfl (atN (fun j u hj => hg.cell (hcl j u hj) (fun h => h)))) ?_
  refine OP (Does.callv rfl rfl e286 (check1_ok P s hw4 hok' _ b1 _ (hv.mod hg) (hb.mod hg (fun h => h)))) ?_
  rintro _ w2 ⟨rfl, hg2⟩
  refine RL.done ?_
  refine RK.condF (hcF rfl (rfl)) ?_
  refine RK.skip ?_
  refine RK.inBlock ?_
  refine RK.region ?_
  refine RL.p rfl rfl ?_
  refine RL.re (d := 18) rfl rfl (succ_i64 (by omega)) ?_
  refine GG ?_
  exact RK.back (ih (k + 1) _ ⟨hg.trans hg2, by omega⟩ (by omega)) ⟨rfl, rfl, rfl, rfl, trivial⟩
 ·refine RK.exit rfl ?_
  refine GG ?_
  refine RK.ret_of Tryz.func304 (res1 rfl rfl) ?_ _
  exact ⟨_, rfl, rfl, hg⟩
theorem checkC_ok (P : List Stp) (hP : OkP P) (ad : Option Addr) (c : Nat) (b1 : Nat) (w : World) (hv : SlS No w (.slice ad P.length c) P) (hb : Blk w b1 254 [.slice ad P.length c]) :
  Fx Tryz.prog 285 [.slice ad (P.length - 1) c, .func (.func 286) #[] #[pp b1]] w (fun u w' => u = .bool false ∧ Grow w w') := by
 refine enter Tryz.func285 rfl rfl rfl _ (Pick.sub (l := [0, 1]) (.cons rfl (.cons rfl .nil))) ?_
 refine GG ?_
 refine OP (Does.call rfl e304 (checkI_ok P hP ad c b1 _ hv hb)) ?_
 rintro _ w2 ⟨rfl, hg2⟩
 refine GG ?_
 refine RK.ret_of Tryz.func285 (res1 rfl rfl) ?_ _
 exact ⟨_, rfl, rfl, hg2⟩
theorem check_ok (P : List Stp) (hP : OkP P) (ad : Option Addr) (c : Nat) (hc : P.length ≤ c) (w : World) (hv : SlS No w (.slice ad P.length c) P) :
    Fx Tryz.prog 258 [.slice ad P.length c] w (fun u w' => u = .bool true ∧ Grow w w') := by
  have hle := hP.le
  have h1 := hP.one
  obtain ⟨s, hs⟩ : ∃ s, P[P.length - 1]? = some s := ⟨P[P.length - 1]'(by omega), List.getElem?_eq_getElem (by omega)⟩
  obtain ⟨hw4, hok⟩ := hP.at_ _ s hs
  have hok' : s = matchS := by rcases hok with ⟨h1, _⟩ | ⟨_, h1⟩; omega; exact h1
  obtain ⟨b2, o2, c2, he, _, _, hcl⟩ := hv.elem stC_len hs
  cases he
  refine enter Tryz.func258 rfl rfl rfl _ (Pick.sub (l := [0]) (.cons rfl .nil)) ?_
  refine RK.seq ?_
  refine RK.region ?_
  refine RL.op (.free rfl) rfl rfl (Does.box rfl) ?_
  rintro _ w1 ⟨b1, rfl, hn1⟩
  have hB1 := hn1.blk
  refine RL.p rfl rfl ?_
  refine RL.done ?_
  iterate 2 refine RK.seq ?_
  refine RK.region ?_
  refine RL.q (.free rfl) rfl rfl (Yld.load p254 rfl (at1 (hB1.cell rfl))) ?_
  refine RL.q (.free rfl) rfl rfl (Yld.lenSl u254 rfl) ?_
  iterate 2 refine RL.p rfl rfl ?_
  refine RL.knownF (d := 7) rfl rfl (decide_eq_false (by omega)) ?_
  refine RL.q (.yes rfl rfl rfl) rfl rfl (Yld.load p254 rfl (at1 (hB1.cell rfl))) ?_
  refine RL.q (.yes rfl rfl rfl) rfl rfl (Yld.lenSl u254 rfl) ?_
  refine RL.q (.yes rfl rfl rfl) rfl rfl (Yld.pure rfl) ?_
  refine RL.p rfl rfl ?_
  refine RL.done ?_
  refine RK.condF (hcF rfl (decide_eq_false (by omega))) ?_
  refine RK.skip ?_
  refine RK.seq ?_
  refine RK.region ?_
  refine RL.q (.free rfl) rfl rfl (Yld.load p254 rfl (at1 (hB1.cell rfl))) ?_
  refine RL.q (.free rfl) rfl rfl (Yld.lenSl u254 rfl) ?_
  refine RL.p rfl rfl ?_
  refine RL.re (d := 14) rfl rfl (sub_i64 (z := ((P.length - 1 : Nat) : Int)) (by omega) (by omega) (by omega)) ?_
  refine RL.p rfl rfl ?_
  refine RL.done ?_
  refine RK.seq ?_
  refine RK.drawM No [(0, false), (1, false), (2, false), (3, false), (4, true), (5, false), (6, false), (7, false), (8, false), (9, false), (10, false), (11, false), (12, false), (13, true), (14, false), (15, false)] [] mixed (by kernel_rfl) ?_
  refine DL.q rfl (.free rfl) rfl rfl rfl (Yld.load p254 rfl (atM (hB1.cell rfl) (fun h => h))) (Mod.drew _ _) ?_
  refine DL.p rfl rfl rfl ?_
  refine DL.qf rfl (.free rfl) rfl rfl (Yld.sliceHi u254 i301 (m := P.length - 1) rfl rfl (by omega)) ?_
  refine DL.p rfl rfl rfl ?_
  refine DL.op rfl (.free rfl) rfl rfl (Does.call rfl e285 (checkC_ok P hP _ c b1 _ (hv.mod (hn1.grow.trans (Mod.drew _ _))) (hB1.mod (Mod.drew No _) (fun h => h)))) ?_
  rintro _ w2 ⟨rfl, hg2⟩
  have hgd : Grow w1 w2 := (Mod.drew _ _).trans hg2
  refine ⟨hgd, ?_⟩
  iterate 2 refine DL.p rfl rfl rfl ?_
  refine DL.knownT (d := 21) rfl rfl (rfl) ?_
  refine DL.q rfl (.yes rfl rfl rfl) rfl rfl rfl (Yld.load p254 rfl (atM (hB1.cell rfl) (fun h => h))) (hgd) ?_
  refine DL.qf rfl (.yes rfl rfl rfl) rfl rfl (Yld.pure rfl) ?_
  refine DL.qf rfl (.yes rfl rfl rfl) rfl rfl (Yld.indexAddrN u254 i301 rfl rfl (by omega)) ?_
  refine DL.q rfl (.yes rfl rfl rfl) rfl rfl rfl (Yld.loadN (cs := stC s) a301 rfl (atNM (fun j u hj => (hn1.grow).cell (hcl j u hj) (fun h => h)) (fun h => h))) (hgd) ?_
  refine DL.q rfl (.yes rfl rfl rfl) rfl rfl rfl (Yld.load p254 rfl (atM (hB1.cell rfl) (fun h => h))) (hgd) ?_
  refine DL.q rfl (.yes rfl rfl rfl) rfl rfl rfl (Yld.lenSl u254 rfl) (hgd) ?_
  refine DL.op rfl (.yes rfl rfl rfl) rfl rfl (Does.call rfl e287 (right_ok P.length s true hw4 (.inr ⟨rfl, hok'⟩) _)) ?_
  rintro _ w3 ⟨rfl, hg3⟩
  refine ⟨hgd.trans hg3, ?_⟩
  iterate 2 refine DL.p rfl rfl rfl ?_
  refine DL.done ?_
  refine RK.ret_of Tryz.func258 (res1 rfl rfl) ?_ _
  exact ⟨_, rfl, rfl, (hn1.grow.trans hgd).trans hg3⟩
theorem lt64 {a b : Nat} (ha : a < 18446744073709551616) (hb : b < 18446744073709551616) : a ||| b < 18446744073709551616 := Nat.or_lt_two_pow (n := 64) ha hb
theorem sh64 {c : Nat} (hc : c < 64) : 1 <<< c < 18446744073709551616 := by
 rw [Nat.shiftLeft_eq, Nat.one_mul]; exact Nat.pow_lt_pow_right (m := c) (n := 64) (by omega) hc
theorem shr64 {a : Nat} (ha : a < 18446744073709551616) (c : Nat) : a >>> c < 18446744073709551616 := Nat.lt_of_le_of_lt (Nat.shiftRight_le a c) ha
abbrev PU (w : World) (bp been : Nat) : Prop := Blk w bp 66 [.int .u64 (been : Int)]
theorem come_ok (P : List Stp) (hP : OkP P) (v : Value) (bp : Nat) : ∀ (m at_ been : Nat), miss P.length been ≤ m → at_ < P.length → been < 18446744073709551616 → ∀ w, SlS (· = bp) w v P → PU w bp been → Fx Tryz.prog 288 [v, .int .i64 (at_ : Int), pp bp] w (fun u w' => ∃ r b' : Nat, u = .int .u64 (r : Int) ∧ r < 18446744073709551616 ∧ b' < 18446744073709551616 ∧ Come P at_ been r b' ∧ PU w' bp b' ∧ Mod (· = bp) w w') := by
  intro m
  induction m with
  | zero =>
    intro at_ been hm hat hbe w hv hb
    have hat2 : been.testBit at_ = true := by
      cases hbt : been.testBit at_ with
      | true => rfl
      | false =>
        have := miss_lt (n := P.length) (been := been) (b' := been ||| 1 <<< at_) hat hbt (fun v hv => bit_or.2 (.inl hv)) (bit_or.2 (.inr rfl))
        omega
    have hle := hP.le
    refine enter Tryz.func288 rfl rfl rfl _ (Pick.sub (l := [0, 1, 2]) (.cons rfl (.cons rfl (.cons rfl .nil)))) ?_
    refine RK.seq ?_
    refine RK.region ?_
    refine RL.p rfl rfl ?_
    refine RL.done ?_
    iterate 2 refine RK.seq ?_
    refine RK.region ?_
    iterate 2 refine RL.p rfl rfl ?_
    refine RL.q (.free rfl) rfl rfl (Yld.load p66 rfl (at1 (hb.cell rfl))) ?_
    refine RL.p rfl rfl ?_
    refine RL.q (.free rfl) rfl rfl (Yld.shr rfl rfl (by simp [IntKind.bits]; omega)) ?_
    refine RL.p rfl rfl ?_
    refine RL.re (d := 13) rfl rfl (congrArg (Value.int .u64) (Go.X.u64_and (b := 1) (shr64 hbe at_) (by decide))) ?_
    refine RL.p rfl rfl ?_
    refine RL.done ?_
    refine RK.condT (hcT rfl (decide_eq_true ((bit1I been at_).2 hat2))) ?_
    refine RK.seq ?_
    refine RK.region ?_
    refine RL.p rfl rfl ?_
    refine RL.done ?_
    refine RK.ret_of Tryz.func288 (res1 rfl rfl) ?_ _
    exact ⟨_, rfl, 0, been, rfl, by omega, hbe, Come.there hat2, hb, Mod.refl _ _⟩
  | succ m ihm =>
    intro at_ been hm hat hbe w hv hb
    have hle := hP.le
    obtain ⟨s, hs⟩ : ∃ s, P[at_]? = some s := ⟨P[at_]'hat, List.getElem?_eq_getElem hat⟩
    obtain ⟨hw4, hok⟩ := hP.at_ at_ s hs
    obtain ⟨b2, o2, c2, rfl, hb2, _, hcl⟩ := hv.elem stC_len hs
    obtain ⟨op, t, sa, sb⟩ := s
    obtain ⟨x0, x1, x2, x3, rfl⟩ := W4.four hw4
    refine enter Tryz.func288 rfl rfl rfl _ (Pick.sub (l := [0, 1, 2]) (.cons rfl (.cons rfl (.cons rfl .nil)))) ?_
    refine RK.seq ?_
    refine RK.region ?_
    refine RL.p rfl rfl ?_
    refine RL.done ?_
    iterate 2 refine RK.seq ?_
    refine RK.region ?_
    iterate 2 refine RL.p rfl rfl ?_
    refine RL.q (.free rfl) rfl rfl (Yld.load p66 rfl (at1 (hb.cell rfl))) ?_
    refine RL.p rfl rfl ?_
    refine RL.q (.free rfl) rfl rfl (Yld.shr rfl rfl (by simp [IntKind.bits]; omega)) ?_
    refine RL.p rfl rfl ?_
    refine RL.re (d := 13) rfl rfl (congrArg (Value.int .u64) (Go.X.u64_and (b := 1) (shr64 hbe at_) (by decide))) ?_
    refine RL.p rfl rfl ?_
    refine RL.done ?_
    first | refine RK.condD rfl (fun h14 => ?_) (fun h14 => ?_) | refine RK.condN rfl (fun h14 => ?_) (fun h14 => ?_) | refine RK.cond rfl (fun h14 => ?_) (fun h14 => ?_)
    · refine RK.seq ?_
      refine RK.region ?_
      refine RL.p rfl rfl ?_
      refine RL.done ?_
      refine RK.ret_of Tryz.func288 (res1 rfl rfl) ?_ _
      exact ⟨_, rfl, 0, been, rfl, by omega, hbe, Come.there ((bit1I been at_).1 h14), hb, Mod.refl _ _⟩
    · have hbt : been.testBit at_ = false := by
          cases hx : been.testBit at_ with
          | false => rfl
          | true => exact absurd ((bit1I been at_).2 hx) h14
      have hlt := miss_lt (n := P.length) (been := been) (b' := been ||| 1 <<< at_) hat hbt (fun v hv => bit_or.2 (.inl hv)) (bit_or.2 (.inr rfl))
      have hsh := sh64 (c := at_) (by omega)
      have hbe1 := lt64 hbe hsh
      refine RK.skip ?_
      refine RK.seq ?_
      refine RK.drawM (· = bp) [(0, false), (1, false), (3, false), (4, false), (2, true), (5, false), (6, false), (7, true)] [7] mixed (by kernel_rfl) ?_
      iterate 3 refine DL.p rfl rfl rfl ?_
      refine DL.qf rfl (.free rfl) rfl rfl (Yld.shl (a := 1) rfl rfl (by simp [IntKind.bits]; omega)) ?_
      refine DL.re (d := 19) rfl rfl (congrArg (Value.int .u64) (Go.X.wrap_u64 hsh)) ?_
      refine DL.lq rfl (.free rfl) rfl rfl (Yld.load p66 rfl (at1 (hb.cell rfl))) ?_
      refine DL.p rfl rfl rfl ?_
      refine DL.re (d := 20) rfl rfl (congrArg (Value.int .u64) (Go.X.u64_or hbe hsh)) ?_
      refine DL.p rfl rfl rfl ?_
      refine DL.opT rfl (.free rfl) rfl rfl (Does.store i66 rfl rfl rfl hb (.z)) ?_
      rintro _ w1 ⟨hb1, hm1, _⟩
      have hm01 : Mod (· = bp) w w1 := (Mod.drew _ _).trans hm1
      have hb1' : PU w1 bp (been ||| 1 <<< at_) := hb1
      have hv1 := hv.mod hm01
      refine DL.done ?_
      iterate 2 refine RK.seq ?_
      refine RK.region ?_
      iterate 2 refine RL.p rfl rfl ?_
      refine RL.q (.free rfl) rfl rfl (Yld.indexAddrN u254 i301 rfl rfl (hat)) ?_
      refine RL.q (.free rfl) rfl rfl (Yld.loadN (cs := stC ⟨op, [x0, x1, x2, x3], sa, sb⟩) a301 rfl (atN (fun j u hj => hm01.cell (hcl j u hj) hb2))) ?_
      refine RL.op (.free rfl) rfl rfl (Does.alloc i301) ?_
      rintro _ w2 ⟨b7, rfl, hn7⟩
      have hbpl := hb.lt
      have hs01 := hm01.size
      have hb7 := hn7.at_
      have hb7p : ¬ b7 = bp := by omega
      refine RL.op' (.free rfl) rfl (Does.storeN i301 rfl rfl rfl rfl hn7.blk (Nat.le_refl 7)) ?_
      rintro _ w3 ⟨hb3, hm3, _⟩
      have hB3 : Blk w3 b7 301 [.int .i64 (op : Int), .int .u64 (x0 : Int), .int .u64 (x1 : Int), .int .u64 (x2 : Int), .int .u64 (x3 : Int), .int .i64 (sa : Int), .int .i64 (sb : Int)] := hb3
      have hg3 : Grow w1 w3 := hn7.grow.then hm3 (fun y hy e => by have e' : y = b7 := e; omega)
      have hb3' := hb1'.mod hg3 (fun h => h)
      have hv3 := hv1.mod (Mod.any' hg3)
      have hm03 : Mod (· = bp) w w3 := hm01.trans (Mod.any' hg3)
      refine RL.done ?_
      refine RK.seq ?_
      refine RK.region ?_
      refine RL.q (.free rfl) rfl rfl (Yld.fieldAddr fo301_0 rfl) ?_
      refine RL.q (.free rfl) rfl rfl (Yld.load p3 rfl (at1 (hB3.cell rfl))) ?_
      refine RL.done ?_
      refine RK.block ?_
      refine RK.seq ?_
      refine RK.region ?_
      iterate 2 refine RL.p rfl rfl ?_
      refine RL.done ?_
      first | refine RK.condD rfl (fun h28 => ?_) (fun h28 => ?_) | refine RK.condN rfl (fun h28 => ?_) (fun h28 => ?_) | refine RK.cond rfl (fun h28 => ?_) (fun h28 => ?_)
      · have ho : op = 2 := by omega
        subst ho
        have hab : sa < P.length ∧ sb < P.length := by
            rcases hok with ⟨_, h1⟩ | ⟨_, h1⟩
            · rcases h1 with ⟨h2, _⟩ | ⟨_, h2, h3, _⟩ | ⟨h2, _⟩
              · cases h2
              · exact ⟨h2, h3⟩
              · cases h2
            · cases h1
        refine RK.seq ?_
        refine RK.drawM (· = bp) [(0, false), (1, false), (2, false), (3, false), (5, false), (6, false), (7, false), (8, false), (4, true), (9, true), (10, false), (11, false)] [] mixed (by kernel_rfl) ?_
        refine DL.p rfl rfl rfl ?_
        refine DL.qf rfl (.free rfl) rfl rfl (Yld.fieldAddr fo301_2 rfl) ?_
        refine DL.q rfl (.free rfl) rfl rfl rfl (Yld.load p3 rfl (atM (hB3.cell rfl) (hb7p))) (Mod.drew _ _) ?_
        iterate 2 refine DL.p rfl rfl rfl ?_
        refine DL.qf rfl (.free rfl) rfl rfl (Yld.fieldAddr fo301_3 rfl) ?_
        refine DL.q rfl (.free rfl) rfl rfl rfl (Yld.load p3 rfl (atM (hB3.cell rfl) (hb7p))) (Mod.drew _ _) ?_
        refine DL.p rfl rfl rfl ?_
        refine DL.op rfl (.free rfl) rfl rfl (Does.call rfl e288 (ihm sa (been ||| 1 <<< at_) (by omega) hab.1 hbe1 _ (hv3.mod (Mod.drew _ _)) (hb3'.mod (Mod.drew No _) (fun h => h)))) ?_
        rintro _ w4 ⟨r1, b1, rfl, hr1, hb1l, hc1, hb4, hm4⟩
        have hm34 : Mod (· = bp) w3 w4 := (Mod.drew _ _).trans hm4
        refine ⟨hm34, ?_⟩
        have hlt2 := miss_lt (n := P.length) (been := been) (b' := b1) hat hbt (fun v hv => hc1.sub v (bit_or.2 (.inl hv))) (hc1.sub _ (bit_or.2 (.inr rfl)))
        refine DL.op rfl (.free rfl) rfl rfl (Does.call rfl e288 (ihm sb b1 (by omega) hab.2 hb1l _ (hv3.mod hm34) hb4)) ?_
        rintro _ w5 ⟨r2, b5, rfl, hr2, hb5l, hc2, hb5, hm5⟩
        refine ⟨hm34.trans hm5, ?_⟩
        refine DL.p rfl rfl rfl ?_
        refine DL.re (d := 40) rfl rfl (congrArg (Value.int .u64) (Go.X.u64_or hr1 hr2)) ?_
        refine DL.p rfl rfl rfl ?_
        refine DL.done ?_
        refine RK.ret_of Tryz.func288 (res1 rfl rfl) ?_ _
        exact ⟨_, rfl, r1 ||| r2, b5, rfl, lt64 hr1 hr2, hb5l, Come.split hbt hs rfl hc1 hc2, hb5, (hm03.trans hm34).trans hm5⟩
      · refine RK.seq ?_
        refine RK.region ?_
        iterate 2 refine RL.p rfl rfl ?_
        refine RL.done ?_
        first | refine RK.condD rfl (fun h41 => ?_) (fun h41 => ?_) | refine RK.condN rfl (fun h41 => ?_) (fun h41 => ?_) | refine RK.cond rfl (fun h41 => ?_) (fun h41 => ?_)
        · have ho : op = 3 := by omega
          subst ho
          have hab : sa < P.length := by
              rcases hok with ⟨_, h1⟩ | ⟨_, h1⟩
              · rcases h1 with ⟨h2, _⟩ | ⟨h2, _⟩ | ⟨_, h2, _⟩
                · cases h2
                · cases h2
                · exact h2
              · cases h1
          refine RK.seq ?_
          refine RK.region ?_
          refine RL.p rfl rfl ?_
          refine RL.q (.free rfl) rfl rfl (Yld.fieldAddr fo301_2 rfl) ?_
          refine RL.q (.free rfl) rfl rfl (Yld.load p3 rfl (at1 (hB3.cell rfl))) ?_
          refine RL.p rfl rfl ?_
          refine RL.op (.free rfl) rfl rfl (Does.call rfl e288 (ihm sa (been ||| 1 <<< at_) (by omega) hab hbe1 _ hv3 hb3')) ?_
          rintro _ w4 ⟨r1, b1, rfl, hr1, hb1l, hc1, hb4, hm4⟩
          refine RL.p rfl rfl ?_
          refine RL.done ?_
          refine RK.ret_of Tryz.func288 (res1 rfl rfl) ?_ _
          exact ⟨_, rfl, r1, b1, rfl, hr1, hb1l, Come.jump hbt hs rfl hc1, hb4, hm03.trans hm4⟩
        · refine RK.skip ?_
          refine RK.inBlock ?_
          refine RK.seq ?_
          refine RK.region ?_
          refine RL.p rfl rfl ?_
          refine RL.q (.free rfl) rfl rfl (Yld.shl (a := 1) rfl rfl (by simp [IntKind.bits]; omega)) ?_
          refine RL.re (d := 49) rfl rfl (congrArg (Value.int .u64) (Go.X.wrap_u64 hsh)) ?_
          refine RL.p rfl rfl ?_
          refine RL.done ?_
          refine RK.ret_of Tryz.func288 (res1 rfl rfl) ?_ _
          exact ⟨_, rfl, 1 <<< at_, been ||| 1 <<< at_, rfl, hsh, hbe1, Come.leaf hbt ⟨_, hs, by show op ≠ 2; omega, by show op ≠ 3; omega⟩, hb3', hm03⟩
theorem start_ok (P : List Stp) (hP : OkP P) (H : List Nat → Nat → Prop) (v : Value) (w : World) (hv : SlS No w v P) : Fx Tryz.prog 259 [v] w (fun u w' => ∃ r : Nat, u = .int .u64 (r : Int) ∧ r < 18446744073709551616 ∧ Now P H 0 r ∧ Grow w w') := by
 have h1 := hP.one
 refine enter Tryz.func259 rfl rfl rfl _ (Pick.sub (l := [0]) (.cons rfl .nil)) ?_
 refine GG ?_
 refine OP (Does.alloc i66) ?_
 rintro _ w1 ⟨b3, rfl, hn3⟩
 refine OQ (Does.store i66 rfl rfl rfl hn3.blk (.z)) ?_
 rintro _ w2 ⟨hb2, hm2, _⟩
 have hb3 := hn3.at_
 have hg2 : Grow w w2 := hn3.grow.then hm2 (fun y hy e => by have e' : y = b3 := e; omega)
 refine GG ?_
 refine OP (Does.call rfl e288 (come_ok P hP v b3 _ 0 0 (Nat.le_refl _) h1 (by omega) _ (hv.pass (by omega) hg2 (fun b e => .inr (by have e' : b = b3 := e; omega))) hb2)) ?_
 rintro _ w3 ⟨r, b', rfl, hr, hb', hc, hb3', hm3⟩
 refine GG ?_
 refine RK.ret_of Tryz.func259 (res1 rfl rfl) ?_ _
 exact ⟨_, rfl, r, rfl, hr, Now.start hc, hg2.then hm3 (fun y hy e => by have e' : y = b3 := e; omega)⟩
end Go.Proofs.YthbjfhhiajihfaaGreat
set_option linter.unusedVariables false
set_option linter.unusedSimpArgs false
set_option maxHeartbeats 1000000
set_option maxRecDepth 100000
namespace Go.Proofs.YthbjfhhiajihfaaGreat
open Go Go.X Go.Rex
theorem next_steps (P : List Stp) (hP : OkP P) (H : List Nat → Nat → Prop) (kk m c : Nat) (hc : c < 256) (hm : m < 18446744073709551616) (hH : ∀ t, H t kk ↔ inB t c = true) (hnow : Now P H kk m) (v : Value) (w : World) (hv : SlS No w v P) : Fx Tryz.prog 260 [v, .int .u64 (m : Int), .int .u8 (c : Int)] w (fun u w' => ∃ r : Nat, u = .int .u64 (r : Int) ∧ r < 18446744073709551616 ∧ Now P H (kk + 1) r ∧ Grow w w') := by
 have hle := hP.le
 obtain ⟨ad, cp, rfl⟩ := hv.shape
 have e1 : IntKind.u8.wrap ((c : Int).tdiv 64) = ((c / 64 : Nat) : Int) := by
  have e2 : (c : Int).tdiv 64 = ((c / 64 : Nat) : Int) := by rw [Int.tdiv_eq_ediv_of_nonneg (by omega)]; omega
  rw [e2]; exact Go.X.wrap_u8 (by omega)
 have e3 : (c : Int).tmod 64 = ((c % 64 : Nat) : Int) := by rw [Int.tmod_eq_emod_of_nonneg (by omega)]; omega
 refine enter Tryz.func260 rfl rfl rfl _ (Pick.sub (l := [0, 1, 2]) (.cons rfl (.cons rfl (.cons rfl .nil)))) ?_
 refine GG ?_
 refine OP (Does.alloc i66) ?_
 rintro _ w1 ⟨b7, rfl, hn7⟩
 refine OQ (Does.store i66 rfl rfl rfl hn7.blk (.z)) ?_
 rintro _ w2 ⟨hb2, hm2, _⟩
 have hb7 := hn7.at_
 have hg2 : Grow w w2 := hn7.grow.then hm2 (fun y hy e => by have e' : y = b7 := e; omega)
 have hv2 : SlS (· = b7) w2 (.slice ad P.length cp) P := hv.pass (by omega) hg2 (fun b e => .inr (by have e' : b = b7 := e; omega))
 refine GG ?_
 refine QQ (Yld.lenSl u254 rfl) ?_
 refine GG ?_
 refine RK.loop (fun s : Nat × Nat × Nat => [(0, .slice ad P.length cp), (1, .int .u64 (m : Int)), (2, .int .u8 (c : Int)), (7, pp b7), (8, .int .u64 (s.2.2 : Int)), (11, .slice ad P.length cp), (12, .int .i64 (P.length : Int)), (13, .int .i64 (s.1 : Int))]) (fun s w' => s.1 ≤ P.length ∧ PU w' b7 s.2.1 ∧ s.2.1 < 18446744073709551616 ∧ s.2.2 < 18446744073709551616 ∧ NextI P H m kk s.1 s.2.1 s.2.2 ∧ Mod (· = b7) w2 w') (fun s => P.length - s.1) (0, 0, 0) ⟨rfl, rfl, rfl, rfl, rfl, rfl, rfl, rfl, trivial⟩ ⟨by simp, hb2, by simp, by simp, NextI.zero, Mod.refl _ _⟩ (fun s w3 hI ih => ?_)
 obtain ⟨i, been, to⟩ := s
 obtain ⟨hi, hb3, hbe, hto, hN, hm3⟩ := hI
 simp only at hi hb3 hbe hto hN
 refine GG ?_
 refine CD (fun h14 => ?_) (fun h14 => ?_)
 ·have hil : i < P.length := by simp only at h14; omega
  obtain ⟨s, hs⟩ : ∃ s, P[i]? = some s := ⟨P[i]'hil, List.getElem?_eq_getElem hil⟩
  obtain ⟨hw4, hok⟩ := hP.at_ i s hs
  obtain ⟨b2, o2, c2, he, hb2n, _, hcl⟩ := hv2.elem stC_len hs
  cases he
  obtain ⟨op, t, sa, sb⟩ := s
  obtain ⟨x0, x1, x2, x3, hte⟩ := W4.four hw4
  simp only at hte
  subst hte
  refine GG ?_
  refine QQ (Yld.indexAddrN u254 i301 rfl rfl (hil)) ?_
  refine QQ (Yld.loadN (cs := stC ⟨op, [x0, x1, x2, x3], sa, sb⟩) a301 rfl (atN (fun j u hj => hm3.cell (hcl j u hj) hb2n))) ?_
  refine OP (Does.alloc i301) ?_
  rintro _ w4 ⟨b10, rfl, hn10⟩
  refine RL.p rfl rfl ?_
  refine OQ (Does.storeN i301 rfl rfl rfl rfl hn10.blk (Nat.le_refl 7)) ?_
  rintro _ w5 ⟨hb5, hm5, _⟩
  have hb7l := hb3.lt
  have hb10 := hn10.at_
  have hB5 : Blk w5 b10 301 [.int .i64 (op : Int), .int .u64 (x0 : Int), .int .u64 (x1 : Int), .int .u64 (x2 : Int), .int .u64 (x3 : Int), .int .i64 (sa : Int), .int .i64 (sb : Int)] := hb5
  have hg5 : Grow w3 w5 := hn10.grow.then hm5 (fun y hy e => by have e' : y = b10 := e; omega)
  have hb5' := hb3.mod hg5 (fun h => h)
  have hm25 : Mod (· = b7) w2 w5 := hm3.trans (Mod.any' hg5)
  obtain ⟨y, hy⟩ : ∃ y, [x0, x1, x2, x3][c / 64]? = some y := ⟨_, List.getElem?_eq_getElem (by show c / 64 < 4; omega)⟩
  have hyl := hw4.2 y (List.mem_of_getElem? hy)
  have hcy : w5.cell? ⟨b10, 0 + 1 + c / 64 * 1, none⟩ = some (.int .u64 (y : Int)) := by
    rw [Nat.mul_one]; exact blk_set4s hB5 (c / 64) _ (by rw [List.getElem?_map, hy]; rfl)
  have hin : inB [x0, x1, x2, x3] c = y.testBit (c % 64) := by unfold inB; rw [hy]; rfl
  refine GG ?_
  refine QQ (Yld.shr rfl rfl (by simp [IntKind.bits]; omega)) ?_
  refine RL.p rfl rfl ?_
  refine RL.re (d := 21) rfl rfl (congrArg (Value.int .u64) (Go.X.u64_and (b := 1) (shr64 hm i) (by decide))) ?_
  refine GG ?_
  refine SP 23 (fun h23 => ?_) (fun h23 => ?_)
  ·have hbit := (bit1I m i).1 h23
   refine QQ (Yld.fieldAddr fo301_0 rfl) ?_
   refine QQ (Yld.load p3 rfl (at1 (hB5.cell rfl))) ?_
   refine QQ (Yld.pure rfl) ?_
   refine GG ?_
   refine SP 28 (fun h28 => ?_) (fun h28 => ?_)
   ·have ho : op = 1 := by have h := h28; omega
    subst ho
    have hil1 : i + 1 < P.length := by
      rcases hok with ⟨h1, _⟩ | ⟨_, h1⟩
      ·exact h1
      ·cases h1
    refine QQ (Yld.pure rfl) ?_
    refine QQ (Yld.quo rfl rfl (by omega)) ?_
    refine RL.re (d := 30) rfl rfl (congrArg (Value.int .u8) e1) ?_
    refine QQ (Yld.fieldAddr fo301_1 rfl) ?_
    refine QQ (Yld.indexArr Tryz.underlying221 i66 rfl rfl (by omega)) ?_
    refine QQ (Yld.load p66 rfl (at1 (hcy))) ?_
    refine QQ (Yld.pure rfl) ?_
    refine QQ (Yld.rem rfl rfl (by omega)) ?_
    refine RL.re (d := 35) rfl rfl (congrArg (Value.int .u8) e3) ?_
    refine QQ (Yld.shr rfl rfl (by simp [IntKind.bits]; omega)) ?_
    refine QQ (Yld.pure rfl) ?_
    refine RL.re (d := 37) rfl rfl (congrArg (Value.int .u64) (Go.X.u64_and (b := 1) (shr64 hyl (c % 64)) (by decide))) ?_
    refine QQ (Yld.pure rfl) ?_
    refine GG ?_
    refine CD (fun h39 => ?_) (fun h39 => ?_)
    ·have hin1 := hin.trans ((bit1I y (c % 64)).1 h39)
     refine RK.region ?_
     iterate 4 refine RL.p rfl rfl ?_
     refine RL.re (d := 43) rfl rfl (succ_i64 (by omega)) ?_
     refine OP (Does.call rfl e288 (come_ok P hP _ b7 _ (i + 1) been (Nat.le_refl _) hil1 hbe _ (hv2.mod hm25) hb5')) ?_
     rintro _ w6 ⟨r, b', rfl, hr, hb', hcome, hb6, hm6⟩
     refine RL.p rfl rfl ?_
     refine RL.re (d := 45) rfl rfl (congrArg (Value.int .u64) (Go.X.u64_or hto hr)) ?_
     refine RL.p rfl rfl ?_
     refine RL.done ?_
     refine RK.inBlock ?_
     refine RK.region ?_
     refine RL.p rfl rfl ?_
     refine RL.re (d := 46) rfl rfl (succ_i64 (by omega)) ?_
     refine GG ?_
     exact RK.back (ih (i + 1, b', to ||| r) _ ⟨by simp only; omega, hb6, hb', lt64 hto hr, hN.yes hbit hs rfl ((hH _).2 hin1) hcome, hm25.trans hm6⟩ (by simp only; omega)) ⟨rfl, rfl, rfl, rfl, rfl, rfl, rfl, rfl, trivial⟩
    ·refine RK.skip ?_
     refine RK.inBlock ?_
     refine RK.region ?_
     refine RL.p rfl rfl ?_
     refine RL.re (d := 46) rfl rfl (succ_i64 (by omega)) ?_
     refine GG ?_
     exact RK.back (ih (i + 1, been, to) _ ⟨by simp only; omega, hb5', hbe, hto, hN.no fun st h1 h2 h3 h4 => by
       rw [hs] at h2; cases h2
       have h5 := (hH _).1 h4
       rw [hin] at h5
       exact h39 ((bit1I y (c % 64)).2 h5)
      , hm25⟩ (by simp only; omega)) ⟨rfl, rfl, rfl, rfl, rfl, rfl, rfl, rfl, trivial⟩
   ·iterate 10 refine RL.no (.no rfl rfl rfl rfl) rfl rfl ?_
    refine GG ?_
    refine RK.condF (hcF rfl (rfl)) ?_
    refine RK.skip ?_
    refine RK.inBlock ?_
    refine RK.region ?_
    refine RL.p rfl rfl ?_
    refine RL.re (d := 46) rfl rfl (succ_i64 (by omega)) ?_
    refine GG ?_
    exact RK.back (ih (i + 1, been, to) _ ⟨by simp only; omega, hb5', hbe, hto, hN.no fun st h1 h2 h3 h4 => by
      rw [hs] at h2; cases h2
      have h := h28; simp only at h3; omega
     , hm25⟩ (by simp only; omega)) ⟨rfl, rfl, rfl, rfl, rfl, rfl, rfl, rfl, trivial⟩
  ·iterate 3 refine RL.no (.no rfl rfl rfl rfl) rfl rfl ?_
   refine GG ?_
   iterate 10 refine RL.no (.no rfl rfl rfl rfl) rfl rfl ?_
   refine GG ?_
   refine RK.condF (hcF rfl (rfl)) ?_
   refine RK.skip ?_
   refine RK.inBlock ?_
   refine RK.region ?_
   refine RL.p rfl rfl ?_
   refine RL.re (d := 46) rfl rfl (succ_i64 (by omega)) ?_
   refine GG ?_
   exact RK.back (ih (i + 1, been, to) _ ⟨by simp only; omega, hb5', hbe, hto, hN.no fun st h1 h2 h3 h4 => h23 ((bit1I m i).2 h1), hm25⟩ (by simp only; omega)) ⟨rfl, rfl, rfl, rfl, rfl, rfl, rfl, rfl, trivial⟩
 ·have hie : i = P.length := by simp only at h14; omega
  subst hie
  refine RK.exit rfl ?_
  refine GG ?_
  refine RK.ret_of Tryz.func260 (res1 rfl rfl) ?_ _
  exact ⟨_, rfl, to, rfl, hto, hnow.next hN, hg2.then hm3 (fun y hy e => by have e' : y = b7 := e; omega)⟩
theorem scanMatch_ok (x : Rx) (ht : Tr false x) (hsz : sz x + 1 ≤ 40) (v : Value) (s : ByteArray) (hs : s.size ≤ 9223372036854775806) (w : World) (hv : SlS No w v (whole x)) (hcap : ∃ ad c, v = .slice ad (whole x).length c ∧ (whole x).length ≤ c) : Fx Tryz.prog 212 [v, .string s] w (fun u w' => u = .bool (takes x s) ∧ Grow w w') := by
 have hP := whole_ok ht hsz
 have hw := tr_wf x false ht
 obtain ⟨P, hPe⟩ : ∃ P, whole x = P := ⟨_, rfl⟩
 have hle := hP.le
 rw [hPe] at hP hv hcap hle
 obtain ⟨ad, cp, rfl, hc⟩ := hcap
 have hend : ∀ k m, Now P (HS s) k m → ((∃ c st, m.testBit c = true ∧ P[c]? = some st ∧ st.op = 4) ↔ Lg (HS s) x true 0 k) := fun k m hm => by rw [← hPe] at hm ⊢; exact whole_match hw.1 hw.2.1 hm
 refine enter Tryz.func212 rfl rfl rfl _ (Pick.sub (l := [0, 1]) (.cons rfl (.cons rfl .nil))) ?_
 refine GG ?_
 refine OP (Does.call rfl e258 (check_ok P hP ad cp hc _ hv)) ?_
 rintro _ w1 ⟨rfl, hg1⟩
 refine GG ?_
 refine RK.condF (hcF rfl (rfl)) ?_
 refine GG ?_
 refine OP (Does.call rfl e259 (start_ok P hP (HS s) _ _ (hv.mod hg1))) ?_
 rintro _ w2 ⟨r, rfl, hr, hn0, hg2⟩
 have hg02 := hg1.trans hg2
 refine GG ?_
 refine QQ (Yld.lenStr u9 rfl) ?_
 refine GG ?_
 refine RK.loop (fun t : Nat × Nat => [(0, .slice ad P.length cp), (1, .string s), (5, .int .u64 (t.2 : Int)), (15, .int .i64 (s.size : Int)), (16, .int .i64 (t.1 : Int))]) (fun t w' => t.1 ≤ s.size ∧ t.2 < 18446744073709551616 ∧ Now P (HS s) t.1 t.2 ∧ Grow w w') (fun t => s.size - t.1) (0, r) ⟨rfl, rfl, rfl, rfl, rfl, trivial⟩ ⟨by simp, hr, hn0, hg02⟩ (fun t w3 hI ih => ?_)
 obtain ⟨k, m⟩ := t
 obtain ⟨hk, hm, hn, hg⟩ := hI
 simp only at hk hm hn
 refine GG ?_
 refine CD (fun h17 => ?_) (fun h17 => ?_)
 ·have hks : k < s.size := by simp only at h17; omega
  refine GG ?_
  refine QQ (Yld.idxStrN u9 rfl rfl (hks)) ?_
  refine OP (Does.call rfl e260 (next_steps P hP (HS s) k m (b8 s k) (b8_lt s k) hm (fun t => ⟨fun h => h.2, fun h => ⟨hks, h⟩⟩) hn _ _ (hv.mod hg))) ?_
  rintro _ w4 ⟨r', rfl, hr', hn', hg4⟩
  refine RL.p rfl rfl ?_
  refine RL.done ?_
  refine RK.inBlock ?_
  refine RK.region ?_
  refine RL.p rfl rfl ?_
  refine RL.re (d := 25) rfl rfl (succ_i64 (by omega)) ?_
  refine GG ?_
  exact RK.back (ih (k + 1, r') _ ⟨by simp only; omega, hr', hn', hg.trans hg4⟩ (by simp only; omega)) ⟨rfl, rfl, rfl, rfl, rfl, trivial⟩
 ·have hke : k = s.size := by simp only at h17; omega
  subst hke
  have he := hend _ _ hn
  refine RK.exit rfl ?_
  refine GG ?_
  refine QQ (Yld.lenSl u254 rfl) ?_
  refine GG ?_
  refine RK.loop (fun i : Nat => [(5, .int .u64 (m : Int)), (26, .slice ad P.length cp), (27, .int .i64 (P.length : Int)), (28, .int .i64 (i : Int))]) (fun i w' => i ≤ P.length ∧ Grow w w' ∧ ∀ c st, c < i → m.testBit c = true → P[c]? = some st → st.op ≠ 4) (fun i => P.length - i) 0 ⟨rfl, rfl, rfl, rfl, trivial⟩ ⟨by omega, hg, fun c st h => by omega⟩ (fun i w4 hI2 ih2 => ?_)
  obtain ⟨hi, hg4, hno⟩ := hI2
  refine GG ?_
  refine CD (fun h29 => ?_) (fun h29 => ?_)
  ·obtain ⟨st, hst⟩ : ∃ st, P[i]? = some st := ⟨P[i]'(by omega), List.getElem?_eq_getElem (by omega)⟩
   obtain ⟨b2, o2, c2, hce, _, _, hcl⟩ := hv.elem stC_len hst
   cases hce
   refine GG ?_
   refine QQ (Yld.indexAddrN u254 i301 rfl rfl (by omega)) ?_
   refine QQ (Yld.loadN (cs := stC st) a301 rfl (atN (fun j u hj => hg4.cell (hcl j u hj) (fun h => h)))) ?_
   refine OP (Does.alloc i301) ?_
   rintro _ w5 ⟨b8, rfl, hn8⟩
   refine RL.p rfl rfl ?_
   refine OQ (Does.storeN i301 rfl rfl rfl rfl hn8.blk (Nat.le_refl 7)) ?_
   rintro _ w6 ⟨hb6, hm6, _⟩
   have hB6 : Blk w6 b8 301 (stC st) := hb6
   have hg6 : Grow w4 w6 := hn8.grow.then hm6 (fun y hy e => by have e' : y = b8 := e; have := hn8.at_; omega)
   refine GG ?_
   refine QQ (Yld.shr rfl rfl (by simp [IntKind.bits]; omega)) ?_
   refine RL.p rfl rfl ?_
   refine RL.re (d := 36) rfl rfl (congrArg (Value.int .u64) (Go.X.u64_and (b := 1) (shr64 hm i) (by decide))) ?_
   refine GG ?_
   refine SP 38 (fun h38 => ?_) (fun h38 => ?_)
   ·have hbit := (bit1I m i).1 h38
    refine QQ (Yld.fieldAddr fo301_0 rfl) ?_
    refine QQ (Yld.load p3 rfl (at1 (hB6.cell rfl))) ?_
    refine QQ (Yld.pure rfl) ?_
    refine GG ?_
    refine CD (fun h42 => ?_) (fun h42 => ?_)
    ·have ho : st.op = 4 := by have h := h42; omega
     refine GG ?_
     refine RK.ret_of Tryz.func212 (res1 rfl rfl) ?_ _
     exact ⟨_, rfl, congrArg _ ((takes_iff x s).2 (he.1 ⟨i, st, hbit, hst, ho⟩)).symm, hg4.trans hg6⟩
    ·refine RK.skip ?_
     refine RK.inBlock ?_
     refine RK.region ?_
     refine RL.p rfl rfl ?_
     refine RL.re (d := 43) rfl rfl (succ_i64 (by omega)) ?_
     refine GG ?_
     exact RK.back (ih2 (i + 1) _ ⟨by omega, hg4.trans hg6, fun c st' hc h1 h2 h3 => by
       by_cases e : c = i
       ·subst e; rw [hst] at h2; cases h2; have h := h42; omega
       ·exact hno c st' (by omega) h1 h2 h3⟩ (by omega)) ⟨rfl, rfl, rfl, rfl, trivial⟩
   ·iterate 3 refine RL.no (.no rfl rfl rfl rfl) rfl rfl ?_
    refine GG ?_
    refine RK.condF (hcF rfl (rfl)) ?_
    refine RK.skip ?_
    refine RK.inBlock ?_
    refine RK.region ?_
    refine RL.p rfl rfl ?_
    refine RL.re (d := 43) rfl rfl (succ_i64 (by omega)) ?_
    refine GG ?_
    exact RK.back (ih2 (i + 1) _ ⟨by omega, hg4.trans hg6, fun c st' hc h1 h2 h3 => by
      by_cases e : c = i
      ·subst e; exact h38 ((bit1I m c).2 h1)
      ·exact hno c st' (by omega) h1 h2 h3⟩ (by omega)) ⟨rfl, rfl, rfl, rfl, trivial⟩
  ·refine RK.exit rfl ?_
   refine GG ?_
   refine RK.ret_of Tryz.func212 (res1 rfl rfl) ?_ _
   exact ⟨_, rfl, congrArg _ (by
     cases hx : takes x s with
     | false => rfl
     | true =>
      obtain ⟨c, st, h1, h2, h3⟩ := he.2 ((takes_iff x s).1 hx)
      exact absurd h3 (hno c st (by have := (List.getElem?_eq_some_iff.1 h2).1; omega) h1 h2)
    ), hg4⟩
end Go.Proofs.YthbjfhhiajihfaaGreat
set_option linter.unusedVariables false
set_option linter.unusedSimpArgs false
set_option maxHeartbeats 1000000
set_option maxRecDepth 100000
namespace Go.Proofs.YthbjfhhiajihfaaGreat
open Go Go.X Go.Rex
abbrev bls (xs : List Bool) : List Value := xs.map Value.bool
abbrev SlB (M : Nat → Prop) (w : World) (v : Value) (xs : List Bool) : Prop := Sl M w v 1 xs.length (bls xs)
theorem bls_get {xs : List Bool} {k : Nat} {b : Bool} (h : xs[k]? = some b) : (bls xs)[k]? = some (.bool b) := by simp [h]
theorem set_take_bool {xs ys : List Bool} {k : Nat} {b : Bool} (hl : xs.length = ys.length) (hy : ys[k]? = some b) : (ys.take k ++ xs.drop k).set k b = ys.take (k + 1) ++ xs.drop (k + 1) := by
 have hk := (List.getElem?_eq_some_iff.1 hy).1
 rw [List.drop_eq_getElem_cons (by omega : k < xs.length), List.set_append_right _ _ (by simp; omega)]
 have e : k - (ys.take k).length = 0 := by simp; omega
 rw [e, List.set_cons_zero, List.take_succ_eq_append_getElem hk, (List.getElem?_eq_some_iff.1 hy).2]
 simp
theorem joinL_ok (M : Nat → Prop) (xs ys : List Bool) (hl : xs.length = ys.length) (hb : xs.length ≤ 1000000) (v u : Value) (w : World) (hv : SlB M w v xs) (hu : SlB M w u ys) : Fx Tryz.prog 298 [v, u] w (fun z w' => SlB No w' z (joinS xs ys) ∧ Grow w w') := by
 obtain ⟨ad, c, rfl⟩ := hv.shape
 obtain ⟨ad2, c2, rfl⟩ := hu.shape
 have hjl := joinS_len hl
 refine enter Tryz.func298 rfl rfl rfl _ (Pick.sub (l := [0, 1]) (.cons rfl (.cons rfl .nil))) ?_
 refine GG ?_
 refine QQ (Yld.lenSl u317 rfl) ?_
 refine OP (Does.mkSlice u317 i4 rfl rfl rfl (by omega) (by omega)) ?_
 rintro _ w1 ⟨b, rfl, hn1⟩
 have hb1 := hn1.at_
 have hB0 : Blk w1 b 4 (bls ((joinS xs ys).take 0 ++ (List.replicate xs.length false).drop 0)) := by simpa using hn1.blk
 refine GG ?_
 refine RK.loop (fun k : Nat => [(0, .slice ad xs.length c), (1, .slice ad2 ys.length c2), (5, .slice (some ⟨b, 0, none⟩) xs.length xs.length), (6, .int .i64 (k : Int))]) (fun k w' => k ≤ xs.length ∧ Blk w' b 4 (bls ((joinS xs ys).take k ++ (List.replicate xs.length false).drop k)) ∧ Mod (· = b) w1 w') (fun k => xs.length - k) 0 ⟨rfl, rfl, rfl, rfl, trivial⟩ ⟨by omega, hB0, Mod.refl _ _⟩ (fun k w2 hI ih => ?_)
 obtain ⟨hk, hB, hm⟩ := hI
 have hg2 : Grow w w2 := hn1.grow.then hm (fun y hy e => by have e' : y = b := e; omega)
 refine GG ?_
 refine QQ (Yld.lenSl u317 rfl) ?_
 refine GG ?_
 refine CD (fun h13 => ?_) (fun h13 => ?_)
 ·obtain ⟨x, hx⟩ : ∃ x, xs[k]? = some x := ⟨xs[k]'(by omega), List.getElem?_eq_getElem (by omega)⟩
  obtain ⟨y, hy⟩ : ∃ y, ys[k]? = some y := ⟨ys[k]'(by omega), List.getElem?_eq_getElem (by omega)⟩
  obtain ⟨b3, o3, c3, he3, _, _, hc3⟩ := hv.elem1 (bls_get hx)
  cases he3
  obtain ⟨b4, o4, c4, he4, _, _, hc4⟩ := hu.elem1 (bls_get hy)
  cases he4
  have hz : (joinS xs ys)[k]? = some (x || y) := by unfold joinS; rw [List.getElem?_zipWith, hx, hy]
  refine GG ?_
  refine QQ (Yld.indexAddrN u317 i4 rfl rfl (by omega)) ?_
  refine QQ (Yld.load p4 rfl (at1 (hg2.cell (hc3 k _ (bls_get hx)) (fun h => h)))) ?_
  refine RL.p rfl rfl ?_
  refine SP 22 (fun h22 => ?_) (fun h22 => ?_)
  ·have hzt : (joinS xs ys)[k]? = some true := by rw [hz, h22]; rfl
   iterate 4 refine RL.no (.no rfl rfl rfl rfl) rfl rfl ?_
   refine RL.p rfl rfl ?_
   refine QQ (Yld.indexAddrN u317 i4 rfl rfl (by omega)) ?_
   refine OQ (Does.store i4 rfl rfl rfl hB (setAt_of (by simp [hjl]; omega))) ?_
   rintro _ w3 ⟨hb3, hm3, _⟩
   refine RL.done ?_
   refine RK.inBlock ?_
   refine RK.region ?_
   iterate 2 refine RL.p rfl rfl ?_
   refine RL.re (d := 15) rfl rfl (succ_i64 (by omega)) ?_
   refine GG ?_
   exact RK.back (ih (k + 1) _ ⟨by omega, by rw [Nat.zero_add, Nat.mul_one, ← List.map_set, set_take_bool (by simp [hjl]) hzt] at hb3; exact hb3, hm.trans hm3⟩ (by omega)) ⟨rfl, rfl, rfl, rfl, trivial⟩
  ·have hzt : (joinS xs ys)[k]? = some y := by rw [hz, h22]; rfl
   iterate 2 refine QQ (Yld.pure rfl) ?_
   refine QQ (Yld.indexAddrN u317 i4 rfl rfl (by omega)) ?_
   refine QQ (Yld.load p4 rfl (at1 (hg2.cell (hc4 k _ (bls_get hy)) (fun h => h)))) ?_
   refine RL.p rfl rfl ?_
   refine QQ (Yld.indexAddrN u317 i4 rfl rfl (by omega)) ?_
   refine OQ (Does.store i4 rfl rfl rfl hB (setAt_of (by simp [hjl]; omega))) ?_
   rintro _ w3 ⟨hb3, hm3, _⟩
   refine RL.done ?_
   refine RK.inBlock ?_
   refine RK.region ?_
   iterate 2 refine RL.p rfl rfl ?_
   refine RL.re (d := 15) rfl rfl (succ_i64 (by omega)) ?_
   refine GG ?_
   exact RK.back (ih (k + 1) _ ⟨by omega, by rw [Nat.zero_add, Nat.mul_one, ← List.map_set, set_take_bool (by simp [hjl]) hzt] at hb3; exact hb3, hm.trans hm3⟩ (by omega)) ⟨rfl, rfl, rfl, rfl, trivial⟩
 ·have hke : k = xs.length := by omega
  rw [hke, List.take_of_length_le (by omega), List.drop_eq_nil_of_le (by simp), List.append_nil] at hB
  refine RK.exit rfl ?_
  refine GG ?_
  refine RK.ret_of Tryz.func298 (res1 rfl rfl) ?_ _
  exact ⟨_, rfl, ⟨by simp [hjl], by omega, _, _, by rw [hjl], fun _ => ⟨b, 0, rfl, fun h => h, fun j u hj => by rw [Nat.zero_add]; exact hB.cell' hj⟩⟩, hg2⟩
theorem sameL_ok (M : Nat → Prop) (xs ys : List Bool) (hl : xs.length = ys.length) (v u : Value) (w : World) (hv : SlB M w v xs) (hu : SlB M w u ys) : Fx Tryz.prog 299 [v, u] w (fun z w' => z = .bool (decide (xs = ys)) ∧ Grow w w') := by
  obtain ⟨ad, c, rfl⟩ := hv.shape
  obtain ⟨ad2, c2, rfl⟩ := hu.shape
  have hbig := hv.big
  refine enter Tryz.func299 rfl rfl rfl _ (Pick.sub (l := [0, 1]) (.cons rfl (.cons rfl .nil))) ?_
  refine RK.seq ?_
  refine RK.region ?_
  refine RL.p rfl rfl ?_
  refine RL.done ?_
  iterate 2 refine RK.seq ?_
  refine RK.region ?_
  refine RL.p rfl rfl ?_
  refine RL.done ?_
  refine RK.block ?_
  refine RK.loop (fun k : Nat => [(0, .slice ad xs.length c), (1, .slice ad2 ys.length c2), (5, .int .i64 (k : Int))]) (fun k w' => k ≤ xs.length ∧ Grow w w' ∧ xs.take k = ys.take k) (fun k => xs.length - k) 0 ⟨rfl, rfl, rfl, trivial⟩ ⟨by omega, Mod.refl _ _, by simp⟩ (fun k w2 hI ih => ?_)
  obtain ⟨hk, hg2, he⟩ := hI
  iterate 2 refine RK.seq ?_
  refine RK.region ?_
  iterate 2 refine RL.p rfl rfl ?_
  refine RL.q (.free rfl) rfl rfl (Yld.lenSl u317 rfl) ?_
  refine RL.p rfl rfl ?_
  refine RL.done ?_
  first | refine RK.condD rfl (fun h9 => ?_) (fun h9 => ?_) | refine RK.condN rfl (fun h9 => ?_) (fun h9 => ?_) | refine RK.cond rfl (fun h9 => ?_) (fun h9 => ?_)
  · obtain ⟨x, hx⟩ : ∃ x, xs[k]? = some x := ⟨xs[k]'(by omega), List.getElem?_eq_getElem (by omega)⟩
    obtain ⟨y, hy⟩ : ∃ y, ys[k]? = some y := ⟨ys[k]'(by omega), List.getElem?_eq_getElem (by omega)⟩
    obtain ⟨b3, o3, c3, he3, _, _, hc3⟩ := hv.elem1 (bls_get hx)
    cases he3
    obtain ⟨b4, o4, c4, he4, _, _, hc4⟩ := hu.elem1 (bls_get hy)
    cases he4
    refine RK.skip ?_
    refine RK.seq ?_
    refine RK.block ?_
    refine RK.seq ?_
    refine RK.drawM No [(0, false), (1, false), (2, false), (3, false), (4, false), (5, false), (6, false), (7, false), (8, false)] [] mixed (by kernel_rfl) ?_
    iterate 2 refine DL.p rfl rfl rfl ?_
    refine DL.qf rfl (.free rfl) rfl rfl (Yld.indexAddrN u317 i4 rfl rfl (by omega)) ?_
    refine DL.q rfl (.free rfl) rfl rfl rfl (Yld.load p4 rfl (atM (hg2.cell (hc3 k _ (bls_get hx)) (fun h => h)) (fun h => h))) (Mod.drew _ _) ?_
    iterate 2 refine DL.p rfl rfl rfl ?_
    refine DL.qf rfl (.free rfl) rfl rfl (Yld.indexAddrN u317 i4 rfl rfl (by omega)) ?_
    refine DL.q rfl (.free rfl) rfl rfl rfl (Yld.load p4 rfl (atM (hg2.cell (hc4 k _ (bls_get hy)) (fun h => h)) (fun h => h))) (Mod.drew _ _) ?_
    refine DL.qf rfl (.free rfl) rfl rfl (Yld.neqBool u4 rfl rfl) ?_
    refine DL.done ?_
    first | refine RK.condD rfl (fun h20 => ?_) (fun h20 => ?_) | refine RK.condN rfl (fun h20 => ?_) (fun h20 => ?_) | refine RK.cond rfl (fun h20 => ?_) (fun h20 => ?_)
    · have hne : x ≠ y := by have h := h20; simpa using h
      refine RK.seq ?_
      refine RK.region ?_
      refine RL.p rfl rfl ?_
      refine RL.done ?_
      refine RK.ret_of Tryz.func299 (res1 rfl rfl) ?_ _
      exact ⟨_, rfl, congrArg _ (decide_eq_false (fun e => by subst e; rw [hx] at hy; cases hy; exact hne rfl)).symm, hg2.trans (Mod.drew _ _)⟩
    · have hxy : x = y := by have h := h20; simpa using h
      subst hxy
      refine RK.skip ?_
      refine RK.inBlock ?_
      refine RK.region ?_
      iterate 2 refine RL.p rfl rfl ?_
      refine RL.re (d := 11) rfl rfl (succ_i64 (by omega)) ?_
      refine RL.p rfl rfl ?_
      refine RL.done ?_
      exact RK.back (ih (k + 1) _ ⟨by omega, hg2.trans (Mod.drew _ _), by rw [List.take_succ_eq_append_getElem (by omega), List.take_succ_eq_append_getElem (by omega), he, (List.getElem?_eq_some_iff.1 hx).2, (List.getElem?_eq_some_iff.1 hy).2]⟩ (by omega)) ⟨rfl, rfl, rfl, trivial⟩
  · refine RK.exit rfl ?_
    refine RK.seq ?_
    refine RK.region ?_
    refine RL.p rfl rfl ?_
    refine RL.done ?_
    refine RK.ret_of Tryz.func299 (res1 rfl rfl) ?_ _
    exact ⟨_, rfl, congrArg _ (decide_eq_true (by rw [List.take_of_length_le (by omega), List.take_of_length_le (by omega)] at he; exact he)).symm, hg2⟩
theorem setHas_ok (t : List Nat) (hw : W4 t) (c : Nat) (hc : c < 256) (w : World) : Fx Tryz.prog 297 [.agg (wds t).toArray, .int .u8 (c : Int)] w (fun u w' => u = .bool (inB t c) ∧ Grow w w') := by
 obtain ⟨x0, x1, x2, x3, rfl⟩ := W4.four hw
 have e1 : IntKind.u8.wrap ((c : Int).tdiv 64) = ((c / 64 : Nat) : Int) := by
  have e2 : (c : Int).tdiv 64 = ((c / 64 : Nat) : Int) := by rw [Int.tdiv_eq_ediv_of_nonneg (by omega)]; omega
  rw [e2]; exact Go.X.wrap_u8 (by omega)
 have e3 : (c : Int).tmod 64 = ((c % 64 : Nat) : Int) := by rw [Int.tmod_eq_emod_of_nonneg (by omega)]; omega
 obtain ⟨y, hy⟩ : ∃ y, [x0, x1, x2, x3][c / 64]? = some y := ⟨_, List.getElem?_eq_getElem (by show c / 64 < 4; omega)⟩
 have hyl := hw.2 y (List.mem_of_getElem? hy)
 have hin : inB [x0, x1, x2, x3] c = y.testBit (c % 64) := by unfold inB; rw [hy]; rfl
 refine enter Tryz.func297 rfl rfl rfl _ (Pick.sub (l := [0, 1]) (.cons rfl (.cons rfl .nil))) ?_
 refine GG ?_
 refine OP (Does.box rfl) ?_
 rintro _ w1 ⟨b1, rfl, hn1⟩
 have hB1 : Blk w1 b1 221 (wds [x0, x1, x2, x3]) := hn1.blk
 refine GG ?_
 refine QQ (Yld.quo rfl rfl (by omega)) ?_
 refine RL.re (d := 6) rfl rfl (congrArg (Value.int .u8) e1) ?_
 refine QQ (Yld.indexArr Tryz.underlying221 i66 rfl rfl (by omega)) ?_
 refine QQ (Yld.load p66 rfl (at1 (hB1.at1 (v := .int .u64 (y : Int)) (by rw [List.getElem?_map, hy]; rfl)))) ?_
 refine RL.p rfl rfl ?_
 refine QQ (Yld.rem rfl rfl (by omega)) ?_
 refine RL.re (d := 10) rfl rfl (congrArg (Value.int .u8) e3) ?_
 refine QQ (Yld.convI Tryz.underlying5 Tryz.underlying248 rfl) ?_
 refine RL.re (d := 11) rfl rfl (congrArg (Value.int .u64) (Go.X.wrap_u64 (x := c % 64) (by omega))) ?_
 refine QQ (Yld.shr rfl rfl (by simp [IntKind.bits]; omega)) ?_
 refine RL.p rfl rfl ?_
 refine RL.re (d := 13) rfl rfl (congrArg (Value.int .u64) (Go.X.u64_and (b := 1) (shr64 hyl (c % 64)) (by decide))) ?_
 refine GG ?_
 refine RK.ret_of Tryz.func297 (res1 rfl rfl) ?_ _
 exact ⟨_, rfl, congrArg _ (by rw [hin, Bool.eq_iff_iff, decide_eq_true_eq]; exact bit1I y (c % 64)), hn1.grow⟩
def setO (s : ByteArray) (t : List Nat) (f : List Bool) : List Bool := false :: (List.range s.size).map fun i => (f[i]?).getD false && inB t (b8 s i)
theorem setO_ends (s : ByteArray) (t : List Nat) (f : List Bool) (hf : f.length = s.size + 1) : Endz (Lg (HS s) (.set t) true) s.size f (setO s t f) := by
 refine ⟨by simp [setO], fun j => ?_⟩
 unfold setO
 cases j with
 | zero =>
  simp only [List.getElem?_cons_zero, Option.some.injEq, Bool.false_eq_true, false_iff, Lg, not_and, not_exists]
  rintro _ i _ _ h
  omega
 | succ j =>
  simp only [List.getElem?_cons_succ, List.getElem?_map, Lg]
  constructor
  ·intro h
   obtain ⟨i, hi, h2⟩ := Option.map_eq_some_iff.1 h
   have hj := (List.getElem?_eq_some_iff.1 hi).1
   simp at hj
   rw [List.getElem?_range hj] at hi
   cases hi
   simp only [Bool.and_eq_true] at h2
   refine ⟨by omega, j, ?_, ⟨hj, h2.2⟩, rfl⟩
   cases hq : f[j]? with
   | none => rw [hq] at h2; simp at h2
   | some q => rw [hq] at h2; simpa using h2.1
  ·rintro ⟨_, i, hi, ⟨h1, h2⟩, h3⟩
   have : i = j := by omega
   subst this
   rw [List.getElem?_range h1]
   simp [hi, h2]
theorem rt_iff {R S : Nat → Nat → Prop} (h : ∀ i j, R i j → S i j) {i j : Nat} (hr : Rt R i j) : Rt S i j := by
 induction hr with
 | refl => exact .refl _
 | step h1 _ ih => exact .step (h _ _ h1) ih
def afterC (s : ByteArray) (x : Rx) : Prop := ∀ (M : Nat → Prop) (c : Cel) (v : Value) (f : List Bool) (w : World), RxV M w x [c] → SlB No w v f → f.length = s.size + 1 → Fx Tryz.prog 279 [.agg (celC c).toArray, .string s, v] w (fun u w' => (∃ o, Endz (Lg (HS s) x true) s.size f o ∧ SlB No w' u o) ∧ Grow w w')
theorem lg_fwd {s : ByteArray} (x : Rx) : ∀ i j, Lg (HS s) x true i j → i ≤ j := fun i j h => Lg.fwd x true i j h
theorem after_ok (s : ByteArray) (hs : s.size ≤ 100000) : ∀ (m : Nat) (x : Rx), hiR x ≤ m → Tr false x → afterC s x
  | 0, .set _, h, _ => by simp [hiR] at h
  | 0, .node _ _, h, _ => by simp [hiR] at h
  | 0, .nil, _, ht => ht.elim
  | 0, .cons _ _, _, ht => ht.elim
  | m + 1, x, hx, ht => by
    intro M k v f w hxv hv hf
    obtain ⟨op, a, b, c, d, ad, n, cap, l, kss, rfl, h⟩ := hxv.open ht
    have hkind := h.kind
    have hn := h.n
    have hlen := h.len
    have hbig := h.sl.big
    obtain ⟨adv, cv, rfl⟩ := hv.shape
    have hkl : (kidsR l).length = n := by rw [kids_len]; omega
    have hgood := kids_tr h.tr
    refine enter Tryz.func279 rfl rfl rfl _ (Pick.sub (l := [0, 1, 2]) (.cons rfl (.cons rfl (.cons rfl .nil)))) ?_
    refine RK.seq ?_
    refine RK.region ?_
    refine RL.op (.free rfl) rfl rfl (Does.box rfl) ?_
    rintro _ w1 ⟨b3, rfl, hn3⟩
    have hb3 := hn3.at_
    have hB3 : Blk w1 b3 224 [.int .i64 op, .int .u64 (a : Int), .int .u64 (b : Int), .int .u64 (c : Int), .int .u64 (d : Int), .slice ad n cap] := hn3.blk
    refine RL.p rfl rfl ?_
    refine RL.done ?_
    refine RK.seq ?_
    refine RK.region ?_
    refine RL.p rfl rfl ?_
    refine RL.q (.free rfl) rfl rfl (Yld.lenStr u9 rfl) ?_
    refine RL.p rfl rfl ?_
    refine RL.re (d := 16) rfl rfl (succ_i64 (by omega)) ?_
    refine RL.op (.free rfl) rfl rfl (Does.mkSlice u317 i4 rfl rfl rfl (by omega) (by omega)) ?_
    rintro _ w2 ⟨b7, rfl, hn7⟩
    have hb7 := hn7.at_
    have hs1 := hn3.size
    have hg2 := hn3.grow.trans hn7.grow
    have hB2 := hB3.mod hn7.grow (fun h => h)
    have hv2 := hv.mod hg2
    have hb37 : b3 ≠ b7 := by omega
    refine RL.p rfl rfl ?_
    refine RL.done ?_
    iterate 2 refine RK.seq ?_
    refine RK.region ?_
    refine RL.q (.free rfl) rfl rfl (Yld.fieldAddr fo224_0 rfl) ?_
    refine RL.q (.free rfl) rfl rfl (Yld.load p3 rfl (at1 (hB2.cell rfl))) ?_
    refine RL.done ?_
    refine RK.cutS (fun u : Value => [(1, .string s), (3, pp b3), (7, u)]) (fun u w' => ∃ (y : Rx) (o0 : List Bool), l = .cons y .nil ∧ o0.length = s.size + 1 ∧ SlB No w' u o0 ∧ Grow w w' ∧ Blk w' b3 224 [.int .i64 op, .int .u64 (a : Int), .int .u64 (b : Int), .int .u64 (c : Int), .int .u64 (d : Int), .slice ad n cap] ∧ (∀ res, Endz (Rt (Lg (HS s) y true)) s.size o0 res → Endz (Lg (HS s) x true) s.size f res) ∧ afterC s y) (fun u w3 hQ => ?_) (fun hj => ?_)
    · obtain ⟨y, o0, rfl, ho0, hu, hg3, hBx, hfin, hay⟩ := hQ
      have hn1 : n = 1 := by rw [hn, hlen]; rfl
      have hR := lg_fwd (s := s) y
      iterate 2 refine RK.seq ?_
      refine RK.region ?_
      refine RL.p rfl rfl ?_
      refine RL.done ?_
      refine RK.block ?_
      refine RK.loop (fun t : Nat × Value => [(1, .string s), (3, pp b3), (7, t.2), (12, .int .i64 (t.1 : Int))]) (fun t w' => t.1 ≤ s.size + 1 ∧ Grow w3 w' ∧ ∃ o, Endz (RtLe (Lg (HS s) y true) t.1) s.size o0 o ∧ SlB No w' t.2 o) (fun t => s.size + 1 - t.1) (0, u) ⟨rfl, rfl, rfl, rfl, trivial⟩ ⟨by simp, Mod.refl _ _, o0, (Endz.id ho0).iff (fun i j => ⟨fun e => ⟨0, Nat.le_refl _, e ▸ .zero _⟩, fun ⟨q, hq, hr⟩ => by have hq0 : q = 0 := (by simpa using hq); subst hq0; cases hr; rfl⟩), hu⟩ (fun t w4 hI ih => ?_)
      obtain ⟨r, u4⟩ := t
      obtain ⟨hr, hg4, o, hE, hu4⟩ := hI
      simp only at hr hE hu4
      obtain ⟨ad4, c4, rfl⟩ := hu4.shape
      iterate 2 refine RK.seq ?_
      refine RK.region ?_
      iterate 2 refine RL.p rfl rfl ?_
      refine RL.q (.free rfl) rfl rfl (Yld.lenStr u9 rfl) ?_
      refine RL.p rfl rfl ?_
      refine RL.done ?_
      first | refine RK.condD rfl (fun h113 => ?_) (fun h113 => ?_) | refine RK.condN rfl (fun h113 => ?_) (fun h113 => ?_) | refine RK.cond rfl (fun h113 => ?_) (fun h113 => ?_)
      · obtain ⟨ck, y', b5, o5, rfl, hyk, _, hyt, hyv, _, hcl⟩ := h.kid (k := 0) (by omega)
        have hyy : y' = y := by simpa [kidsR] using hyk.symm
        subst hyy
        have hgw := hg3.trans hg4
        refine RK.skip ?_
        refine RK.seq ?_
        refine RK.block ?_
        refine RK.seq ?_
        refine RK.region ?_
        refine RL.p rfl rfl ?_
        refine RL.q (.free rfl) rfl rfl (Yld.fieldAddr fo224_2 rfl) ?_
        refine RL.q (.free rfl) rfl rfl (Yld.load p222 rfl (at1 ((hBx.mod hg4 (fun h => h)).cell rfl))) ?_
        refine RL.q (.free rfl) rfl rfl (Yld.indexAddr u222 i224 rfl rfl (by omega) (by omega)) ?_
        refine RL.q (.free rfl) rfl rfl (Yld.loadN (cs := celC ck) a224 rfl (atN (hcl _ hgw))) ?_
        iterate 2 refine RL.p rfl rfl ?_
        refine RL.op (.free rfl) rfl rfl (Does.call rfl e279 (hay M ck _ o _ (RxV.grow hgw _ hyv) hu4 hE.1)) ?_
        rintro u5 w5 ⟨⟨o1, hE1, hu5⟩, hg5⟩
        obtain ⟨ad5, c5, rfl⟩ := hu5.shape
        have hol : o.length = o1.length := by rw [hE.1, hE1.1]
        refine RL.op (.free rfl) rfl rfl (Does.call rfl e298 (joinL_ok No o o1 hol (by rw [hE.1]; omega) _ _ _ (hu4.mod hg5) hu5)) ?_
        rintro u6 w6 ⟨hu6, hg6⟩
        have hjl := joinS_len hol
        refine RL.p rfl rfl ?_
        refine RL.done ?_
        iterate 2 refine RK.seq ?_
        refine RK.region ?_
        iterate 2 refine RL.p rfl rfl ?_
        refine RL.op (.free rfl) rfl rfl (Does.call rfl e299 (sameL_ok No (joinS o o1) o hjl _ _ _ hu6 ((hu4.mod hg5).mod hg6))) ?_
        rintro _ w7 ⟨rfl, hg7⟩
        have hg47 := (hg5.trans hg6).trans hg7
        refine RL.done ?_
        first | refine RK.condD rfl (fun h127 => ?_) (fun h127 => ?_) | refine RK.condN rfl (fun h127 => ?_) (fun h127 => ?_) | refine RK.cond rfl (fun h127 => ?_) (fun h127 => ?_)
        · refine RK.exit rfl ?_
          refine RK.seq ?_
          refine RK.region ?_
          iterate 2 refine RL.p rfl rfl ?_
          refine RL.done ?_
          refine RK.ret_of Tryz.func279 (res1 rfl rfl) ?_ _
          exact ⟨_, rfl, ⟨o, hfin o (hE.still hR hE1 h127), hu4.mod hg47⟩, (hg3.trans hg4).trans hg47⟩
        · refine RK.skip ?_
          refine RK.region ?_
          iterate 2 refine RL.p rfl rfl ?_
          refine RL.done ?_
          refine RK.inBlock ?_
          refine RK.region ?_
          iterate 2 refine RL.p rfl rfl ?_
          refine RL.re (d := 115) rfl rfl (succ_i64 (by omega)) ?_
          refine RL.p rfl rfl ?_
          refine RL.done ?_
          exact RK.back (ih (r + 1, u6) _ ⟨by simp only at h113 ⊢; omega, hg4.trans hg47, joinS o o1, hE.round hR hE1, hu6.mod hg7⟩ (by simp only at h113 ⊢; omega)) ⟨rfl, rfl, rfl, rfl, trivial⟩
      · refine RK.exit rfl ?_
        refine RK.seq ?_
        refine RK.region ?_
        iterate 2 refine RL.p rfl rfl ?_
        refine RL.done ?_
        refine RK.ret_of Tryz.func279 (res1 rfl rfl) ?_ _
        exact ⟨_, rfl, ⟨o, hfin o (hE.enough hR (by simp only at h113; omega)), hu4⟩, hg3.trans hg4⟩
    · refine RK.block ?_
      refine RK.seq ?_
      refine RK.region ?_
      iterate 2 refine RL.p rfl rfl ?_
      refine RL.done ?_
      first | refine RK.condD rfl (fun h23 => ?_) (fun h23 => ?_) | refine RK.condN rfl (fun h23 => ?_) (fun h23 => ?_) | refine RK.cond rfl (fun h23 => ?_) (fun h23 => ?_)
      · obtain ⟨hxe, hW⟩ : x = .set [a, b, c, d] ∧ W4 [a, b, c, d] := by
            rcases hkind with ⟨h1, _, _, h2⟩ | ⟨o, _, h5, _, _, _, _, h6⟩
            · exact ⟨h1, h2⟩
            · omega
        subst hxe
        clear hkind
        obtain ⟨tg, htg⟩ : ∃ tg, setO s [a, b, c, d] f = tg := ⟨_, rfl⟩
        have hE := setO_ends s [a, b, c, d] f hf
        rw [htg] at hE
        have hB7 : Blk w2 b7 4 (bls (tg.take (0 + 1) ++ (List.replicate (s.size + 1) false).drop (0 + 1))) := by
            have h9 := hn7.blk
            rw [← htg]
            simpa [setO, List.replicate_succ] using h9
        iterate 2 refine RK.seq ?_
        refine RK.region ?_
        refine RL.p rfl rfl ?_
        refine RL.done ?_
        refine RK.block ?_
        refine RK.loop (fun q : Nat => [(1, .string s), (2, .slice adv f.length cv), (3, pp b3), (7, .slice (some ⟨b7, 0, none⟩) (s.size + 1) (s.size + 1)), (8, .int .i64 (q : Int))]) (fun q w' => q ≤ s.size ∧ Blk w' b7 4 (bls (tg.take (q + 1) ++ (List.replicate (s.size + 1) false).drop (q + 1))) ∧ Mod (· = b7) w2 w') (fun q => s.size - q) 0 ⟨rfl, rfl, rfl, rfl, rfl, trivial⟩ ⟨by omega, hB7, Mod.refl _ _⟩ (fun q w3 hI ih => ?_)
        obtain ⟨hq, hB, hm⟩ := hI
        have hgw3 : Grow w w3 := hg2.then hm (fun y hy e => by have e' : y = b7 := e; omega)
        have hB3q := hB2.mod hm hb37
        iterate 2 refine RK.seq ?_
        refine RK.region ?_
        iterate 2 refine RL.p rfl rfl ?_
        refine RL.q (.free rfl) rfl rfl (Yld.lenStr u9 rfl) ?_
        refine RL.p rfl rfl ?_
        refine RL.done ?_
        first | refine RK.condD rfl (fun h28 => ?_) (fun h28 => ?_) | refine RK.condN rfl (fun h28 => ?_) (fun h28 => ?_) | refine RK.cond rfl (fun h28 => ?_) (fun h28 => ?_)
        · obtain ⟨x, hxq⟩ : ∃ x, f[q]? = some x := ⟨f[q]'(by omega), List.getElem?_eq_getElem (by omega)⟩
          obtain ⟨b5, o5, c5, he5, _, _, hc5⟩ := hv.elem1 (bls_get hxq)
          cases he5
          have hb5l := World.block_lt_of_cell? w _ (hc5 q _ (bls_get hxq))
          have hb57 : ¬ b5 = b7 := by simp only at hb5l; omega
          have htq : tg[q + 1]? = some (x && inB [a, b, c, d] (b8 s q)) := by
              rw [← htg]; unfold setO
              rw [List.getElem?_cons_succ, List.getElem?_map, List.getElem?_range (by omega)]
              simp [hxq]
          refine RK.skip ?_
          refine RK.seq ?_
          refine RK.block ?_
          refine RK.drawM (· = b7) [(0, false), (1, false), (2, false), (3, false), (4, false), (5, false), (6, false), (7, false), (8, false), (9, false), (10, false), (11, false), (12, false), (13, true), (14, false), (15, false), (16, true)] [16] mixed (by kernel_rfl) ?_
          iterate 3 refine DL.p rfl rfl rfl ?_
          refine DL.re (d := 33) rfl rfl (succ_i64 (by omega)) ?_
          iterate 2 refine DL.p rfl rfl rfl ?_
          refine DL.qf rfl (.free rfl) rfl rfl (Yld.indexAddrN u317 i4 rfl rfl (by omega)) ?_
          refine DL.q rfl (.free rfl) rfl rfl rfl (Yld.load p4 rfl (atM (hgw3.cell (hc5 q _ (bls_get hxq)) (fun h => h)) (hb57))) (Mod.drew _ _) ?_
          refine DL.p rfl rfl rfl ?_
          first | refine DL.splitD (d := 38) rfl rfl (fun h38 => ?_) (fun h38 => ?_) | refine DL.splitN (d := 38) rfl rfl (fun h38 => ?_) (fun h38 => ?_) | refine DL.split (d := 38) rfl rfl (fun h38 => ?_) (fun h38 => ?_)
          · have htq1 : tg[q + 1]? = some (inB [a, b, c, d] (b8 s q)) := by rw [htq, h38]; rfl
            refine DL.qf rfl (.yes rfl rfl rfl) rfl rfl (Yld.fieldAddr fo224_1 rfl) ?_
            refine DL.q rfl (.yes rfl rfl rfl) rfl rfl rfl (Yld.loadN (cs := wds [a, b, c, d]) a221 rfl (atNM (blk_set4 hB3q) (hb37))) (Mod.drew _ _) ?_
            iterate 2 refine DL.qf rfl (.yes rfl rfl rfl) rfl rfl (Yld.pure rfl) ?_
            refine DL.qf rfl (.yes rfl rfl rfl) rfl rfl (Yld.idxStrN u9 rfl rfl (by omega)) ?_
            refine DL.op rfl (.yes rfl rfl rfl) rfl rfl (Does.call rfl e297 (setHas_ok [a, b, c, d] hW (b8 s q) (b8_lt s q) _)) ?_
            rintro _ w4 ⟨rfl, hg4⟩
            have hm34 : Mod (· = b7) w3 w4 := (Mod.drew _ _).trans (Mod.any' hg4)
            refine ⟨hm34, ?_⟩
            have hB4 := (hB.mod (Mod.drew No _) (fun h => h)).mod hg4 (fun h => h)
            refine DL.p rfl rfl rfl ?_
            refine DL.qf rfl (.free rfl) rfl rfl (Yld.indexAddrN u317 i4 rfl rfl (by omega)) ?_
            refine DL.opT rfl (.free rfl) rfl rfl (Does.store i4 rfl rfl rfl hB4 (setAt_of (by simp [hE.1]; omega))) ?_
            rintro _ w5 ⟨hb5, hm5, _⟩
            refine DL.done ?_
            refine RK.inBlock ?_
            refine RK.region ?_
            iterate 2 refine RL.p rfl rfl ?_
            refine RL.re (d := 30) rfl rfl (succ_i64 (by omega)) ?_
            refine RL.p rfl rfl ?_
            refine RL.done ?_
            exact RK.back (ih (q + 1) _ ⟨by omega, by rw [Nat.zero_add, Nat.mul_one, ← List.map_set, set_take_bool (by simp [hE.1]) htq1] at hb5; exact hb5, (hm.trans hm34).trans hm5⟩ (by omega)) ⟨rfl, rfl, rfl, rfl, rfl, trivial⟩
          · have htq1 : tg[q + 1]? = some false := by rw [htq, h38]; rfl
            have hB4 := hB.mod (Mod.drew No _) (fun h => h)
            iterate 5 refine DL.no rfl (.no rfl rfl rfl rfl) rfl rfl ?_
            refine DL.lno rfl (.no rfl rfl rfl rfl) rfl rfl ?_
            refine DL.p rfl rfl rfl ?_
            refine DL.qf rfl (.free rfl) rfl rfl (Yld.indexAddrN u317 i4 rfl rfl (by omega)) ?_
            refine DL.opT rfl (.free rfl) rfl rfl (Does.store i4 rfl rfl rfl hB4 (setAt_of (by simp [hE.1]; omega))) ?_
            rintro _ w5 ⟨hb5, hm5, _⟩
            refine DL.done ?_
            refine RK.inBlock ?_
            refine RK.region ?_
            iterate 2 refine RL.p rfl rfl ?_
            refine RL.re (d := 30) rfl rfl (succ_i64 (by omega)) ?_
            refine RL.p rfl rfl ?_
            refine RL.done ?_
            exact RK.back (ih (q + 1) _ ⟨by omega, by rw [Nat.zero_add, Nat.mul_one, ← List.map_set, set_take_bool (by simp [hE.1]) htq1] at hb5; exact hb5, (hm.trans (Mod.drew _ _)).trans hm5⟩ (by omega)) ⟨rfl, rfl, rfl, rfl, rfl, trivial⟩
        · have hqe : q = s.size := by omega
          rw [hqe, List.take_of_length_le (by rw [hE.1]; omega), List.drop_eq_nil_of_le (by simp), List.append_nil] at hB
          refine RK.exit rfl ?_
          refine RK.seq ?_
          refine RK.region ?_
          iterate 2 refine RL.p rfl rfl ?_
          refine RL.done ?_
          refine RK.ret_of Tryz.func279 (res1 rfl rfl) ?_ _
          exact ⟨_, rfl, ⟨tg, hE, ⟨by simp [hE.1], by rw [hE.1]; omega, _, _, by rw [hE.1], fun _ => ⟨b7, 0, rfl, fun h => h, fun j u hj => by rw [Nat.zero_add]; exact hB.cell' hj⟩⟩⟩, hg2.then hm (fun y hy e => by have e' : y = b7 := e; omega)⟩
      · obtain ⟨o, rfl, rfl, h3⟩ : ∃ o : Nat, x = .node o l ∧ op = o ∧ (o = 2 ∨ o = 3 ∧ cnt l ≠ 0 ∨ (o = 4 ∨ o = 5 ∨ o = 6) ∧ cnt l = 1) := by
            rcases hkind with ⟨_, _, h2, _⟩ | ⟨o, h4, h5, _, _, _, _, h6⟩
            · omega
            · exact ⟨o, h4, h5, h6⟩
        clear hkind
        have hk : ∀ y ∈ kidsR l, afterC s y := fun y hy => after_ok s hs m y (by have := hiR_kid hy; simp only [hiR] at hx; omega) (hgood y hy)
        have hlgn : ∀ i j, Lg (HS s) (.node o l) true i j ↔ (if o = 2 then Lg (HS s) l true i j else if o = 3 then Lg (HS s) l false i j else if o = 4 then Rt (Lg (HS s) l true) i j else if o = 5 then ∃ k, Lg (HS s) l true i k ∧ Rt (Lg (HS s) l true) k j else i = j ∨ Lg (HS s) l true i j) := fun i j => Iff.rfl
        have hid := Endz.id hf
        refine RK.seq ?_
        refine RK.region ?_
        iterate 2 refine RL.p rfl rfl ?_
        refine RL.done ?_
        first | refine RK.condD rfl (fun h48 => ?_) (fun h48 => ?_) | refine RK.condN rfl (fun h48 => ?_) (fun h48 => ?_) | refine RK.cond rfl (fun h48 => ?_) (fun h48 => ?_)
        · have ho : o = 2 := by omega
          subst ho
          refine RK.seq ?_
          refine RK.region ?_
          iterate 2 refine RL.p rfl rfl ?_
          refine RL.done ?_
          iterate 2 refine RK.seq ?_
          refine RK.region ?_
          refine RL.p rfl rfl ?_
          refine RL.done ?_
          refine RK.block ?_
          refine RK.loop (fun t : Nat × Value => [(1, .string s), (2, .slice adv f.length cv), (3, pp b3), (7, .slice (some ⟨b7, 0, none⟩) (s.size + 1) (s.size + 1)), (9, t.2), (10, .int .i64 (t.1 : Int))]) (fun t w' => t.1 ≤ n ∧ Grow w2 w' ∧ ∃ g, Endz (LgS (HS s) ((kidsR l).take t.1)) s.size f g ∧ SlB No w' t.2 g) (fun t => n - t.1) (0, .slice adv f.length cv) ⟨rfl, rfl, rfl, rfl, rfl, rfl, trivial⟩ ⟨by simp, Mod.refl _ _, f, hid.iff (fun i j => by simp [LgS]), hv2⟩ (fun t w3 hI ih => ?_)
          obtain ⟨q, u⟩ := t
          obtain ⟨hq, hg3, g, hE, hu⟩ := hI
          simp only at hq hE hu
          have hB3q := hB2.mod hg3 (fun h => h)
          iterate 2 refine RK.seq ?_
          refine RK.region ?_
          refine RL.p rfl rfl ?_
          refine RL.q (.free rfl) rfl rfl (Yld.fieldAddr fo224_2 rfl) ?_
          refine RL.q (.free rfl) rfl rfl (Yld.load p222 rfl (at1 (hB3q.cell rfl))) ?_
          refine RL.q (.free rfl) rfl rfl (Yld.lenSl u222 rfl) ?_
          refine RL.p rfl rfl ?_
          refine RL.done ?_
          first | refine RK.condD rfl (fun h55 => ?_) (fun h55 => ?_) | refine RK.condN rfl (fun h55 => ?_) (fun h55 => ?_) | refine RK.cond rfl (fun h55 => ?_) (fun h55 => ?_)
          · obtain ⟨ck, y, b5, o5, rfl, hyk, hym, hyt, hyv, _, hcl⟩ := h.kid (k := q) (by simp only at h55; omega)
            refine RK.skip ?_
            refine RK.seq ?_
            refine RK.block ?_
            refine RK.region ?_
            refine RL.q (.free rfl) rfl rfl (Yld.fieldAddr fo224_2 rfl) ?_
            refine RL.q (.free rfl) rfl rfl (Yld.load p222 rfl (at1 (hB3q.cell rfl))) ?_
            refine RL.p rfl rfl ?_
            refine RL.q (.free rfl) rfl rfl (Yld.indexAddrN u222 i224 rfl rfl (by simp only at h55; omega)) ?_
            refine RL.q (.free rfl) rfl rfl (Yld.loadN (cs := celC ck) a224 rfl (atN (hcl _ (hg2.trans hg3)))) ?_
            iterate 2 refine RL.p rfl rfl ?_
            refine RL.op (.free rfl) rfl rfl (Does.call rfl e279 (hk y hym M ck u g _ (RxV.grow (hg2.trans hg3) y hyv) hu hE.1)) ?_
            rintro u4 w4 ⟨⟨o1, hE1, hu4⟩, hg4⟩
            refine RL.p rfl rfl ?_
            refine RL.done ?_
            refine RK.inBlock ?_
            refine RK.region ?_
            iterate 2 refine RL.p rfl rfl ?_
            refine RL.re (d := 57) rfl rfl (succ_i64 (by simp only at h55; omega)) ?_
            refine RL.p rfl rfl ?_
            refine RL.done ?_
            exact RK.back (ih (q + 1, u4) _ ⟨by simp only at h55 ⊢; omega, hg3.trans hg4, o1, (hE.seq hE1 (lg_fwd y)).iff (fun i j => by rw [take_snoc hyk, lgS_snoc]), hu4⟩ (by simp only at h55 ⊢; omega)) ⟨rfl, rfl, rfl, rfl, rfl, rfl, trivial⟩
          · have ek : (kidsR l).take q = kidsR l := List.take_of_length_le (by simp only at h55; omega)
            rw [ek] at hE
            have hEf : Endz (Lg (HS s) (.node 2 l) true) s.size f g := hE.iff (fun i j => by rw [hlgn, if_pos rfl]; exact (lgS_iff (HS s) h.tr i j).symm)
            refine RK.exit rfl ?_
            refine RK.seq ?_
            refine RK.region ?_
            iterate 2 refine RL.p rfl rfl ?_
            refine RL.op (.free rfl) rfl rfl (Does.copyN u317 i4 rfl rfl (hn7.blk.mod hg3 (fun h => h)) hu (by rw [hE.1]; omega) (by rw [hE.1]; simp) (by simp [Value.oneCell'])) ?_
            rintro _ w4 ⟨rfl, hb4, hm4, _⟩
            refine RL.done ?_
            refine RK.seq ?_
            refine RK.region ?_
            iterate 2 refine RL.p rfl rfl ?_
            refine RL.done ?_
            refine RK.ret_of Tryz.func279 (res1 rfl rfl) ?_ _
            exact ⟨_, rfl, ⟨g, hEf, ⟨by simp [hE.1], by rw [hE.1]; omega, _, _, by rw [hE.1], fun _ => ⟨b7, 0, rfl, fun h => h, fun j u hj => by
                rw [Nat.zero_add]
                refine hb4.cell' ?_
                rw [List.take_zero, List.nil_append, List.getElem?_append_left (List.getElem?_eq_some_iff.1 hj).1]
                exact hj⟩⟩⟩, (hg2.trans hg3).then hm4 (fun y hy e => by have e' : y = b7 := e; omega)⟩
        · refine RK.seq ?_
          refine RK.region ?_
          iterate 2 refine RL.p rfl rfl ?_
          refine RL.done ?_
          first | refine RK.condD rfl (fun h70 => ?_) (fun h70 => ?_) | refine RK.condN rfl (fun h70 => ?_) (fun h70 => ?_) | refine RK.cond rfl (fun h70 => ?_) (fun h70 => ?_)
          · have ho : o = 3 := by omega
            subst ho
            have hE0 : Endz (fun i j => ∃ x ∈ (kidsR l).take 0, Lg (HS s) x true i j) s.size f (List.replicate (s.size + 1) false) := ⟨by simp, fun j => by simp [List.getElem?_replicate]⟩
            have hu0 : SlB No w2 (.slice (some ⟨b7, 0, none⟩) (s.size + 1) (s.size + 1)) (List.replicate (s.size + 1) false) := ⟨by simp, by simp; omega, some ⟨b7, 0, none⟩, s.size + 1, by simp, fun _ => ⟨b7, 0, rfl, fun h => h, fun j u hj => by rw [Nat.zero_add]; exact hn7.blk.cell' (by simpa using hj)⟩⟩
            iterate 2 refine RK.seq ?_
            refine RK.region ?_
            refine RL.p rfl rfl ?_
            refine RL.done ?_
            refine RK.block ?_
            refine RK.loop (fun t : Nat × Value => [(1, .string s), (2, .slice adv f.length cv), (3, pp b3), (7, t.2), (11, .int .i64 (t.1 : Int))]) (fun t w' => t.1 ≤ n ∧ Grow w2 w' ∧ ∃ g, Endz (fun i j => ∃ x ∈ (kidsR l).take t.1, Lg (HS s) x true i j) s.size f g ∧ SlB No w' t.2 g) (fun t => n - t.1) (0, .slice (some ⟨b7, 0, none⟩) (s.size + 1) (s.size + 1)) ⟨rfl, rfl, rfl, rfl, rfl, trivial⟩ ⟨by simp, Mod.refl _ _, _, hE0, hu0⟩ (fun t w3 hI ih => ?_)
            obtain ⟨q, u⟩ := t
            obtain ⟨hq, hg3, g, hE, hu⟩ := hI
            simp only at hq hE hu
            have hB3q := hB2.mod hg3 (fun h => h)
            iterate 2 refine RK.seq ?_
            refine RK.region ?_
            refine RL.p rfl rfl ?_
            refine RL.q (.free rfl) rfl rfl (Yld.fieldAddr fo224_2 rfl) ?_
            refine RL.q (.free rfl) rfl rfl (Yld.load p222 rfl (at1 (hB3q.cell rfl))) ?_
            refine RL.q (.free rfl) rfl rfl (Yld.lenSl u222 rfl) ?_
            refine RL.p rfl rfl ?_
            refine RL.done ?_
            first | refine RK.condD rfl (fun h76 => ?_) (fun h76 => ?_) | refine RK.condN rfl (fun h76 => ?_) (fun h76 => ?_) | refine RK.cond rfl (fun h76 => ?_) (fun h76 => ?_)
            · obtain ⟨ck, y, b5, o5, rfl, hyk, hym, hyt, hyv, _, hcl⟩ := h.kid (k := q) (by simp only at h76; omega)
              refine RK.skip ?_
              refine RK.seq ?_
              refine RK.block ?_
              refine RK.region ?_
              refine RL.p rfl rfl ?_
              refine RL.q (.free rfl) rfl rfl (Yld.fieldAddr fo224_2 rfl) ?_
              refine RL.q (.free rfl) rfl rfl (Yld.load p222 rfl (at1 (hB3q.cell rfl))) ?_
              refine RL.p rfl rfl ?_
              refine RL.q (.free rfl) rfl rfl (Yld.indexAddrN u222 i224 rfl rfl (by simp only at h76; omega)) ?_
              refine RL.q (.free rfl) rfl rfl (Yld.loadN (cs := celC ck) a224 rfl (atN (hcl _ (hg2.trans hg3)))) ?_
              iterate 2 refine RL.p rfl rfl ?_
              refine RL.op (.free rfl) rfl rfl (Does.call rfl e279 (hk y hym M ck _ f _ (RxV.grow (hg2.trans hg3) y hyv) (hv2.mod hg3) hf)) ?_
              rintro u4 w4 ⟨⟨o1, hE1, hu4⟩, hg4⟩
              have hol : g.length = o1.length := by rw [hE.1, hE1.1]
              refine RL.op (.free rfl) rfl rfl (Does.call rfl e298 (joinL_ok No g o1 hol (by rw [hE.1]; omega) _ _ _ (hu.mod hg4) hu4)) ?_
              rintro u6 w6 ⟨hu6, hg6⟩
              refine RL.p rfl rfl ?_
              refine RL.done ?_
              refine RK.inBlock ?_
              refine RK.region ?_
              iterate 2 refine RL.p rfl rfl ?_
              refine RL.re (d := 78) rfl rfl (succ_i64 (by simp only at h76; omega)) ?_
              refine RL.p rfl rfl ?_
              refine RL.done ?_
              exact RK.back (ih (q + 1, u6) _ ⟨by simp only at h76 ⊢; omega, (hg3.trans hg4).trans hg6, joinS g o1, (hE.or hE1).iff (fun i j => by
                  rw [take_snoc hyk]
                  constructor
                  · rintro (⟨z, hz, hz2⟩ | hz)
                    · exact ⟨z, List.mem_append_left _ hz, hz2⟩
                    · exact ⟨y, by simp, hz⟩
                  · rintro ⟨z, hz, hz2⟩
                    rcases List.mem_append.1 hz with h1 | h1
                    · exact .inl ⟨z, h1, hz2⟩
                    · simp at h1; subst h1; exact .inr hz2), hu6⟩ (by simp only at h76 ⊢; omega)) ⟨rfl, rfl, rfl, rfl, rfl, trivial⟩
            · have ek : (kidsR l).take q = kidsR l := List.take_of_length_le (by simp only at h76; omega)
              rw [ek] at hE
              have hEf : Endz (Lg (HS s) (.node 3 l) true) s.size f g := hE.iff (fun i j => by rw [hlgn, if_neg (by omega), if_pos rfl]; exact (lgA_iff (HS s) h.tr i j).symm)
              refine RK.exit rfl ?_
              refine RK.seq ?_
              refine RK.region ?_
              iterate 2 refine RL.p rfl rfl ?_
              refine RL.done ?_
              refine RK.ret_of Tryz.func279 (res1 rfl rfl) ?_ _
              exact ⟨_, rfl, ⟨g, hEf, hu⟩, hg2.trans hg3⟩
          · obtain ⟨y, hly⟩ := only_kid h.tr (by omega)
            subst hly
            have hn1 : n = 1 := by rw [hn, hlen]; rfl
            obtain ⟨ck, y', b5, o5, rfl, hyk, hym, hyt, hyv, _, hcl⟩ := h.kid (k := 0) (by omega)
            have hyy : y' = y := by simpa [kidsR] using hyk.symm
            subst hyy
            have hay := hk y' hym
            have hlo : ∀ i j, Lg (HS s) (.cons y' .nil) true i j ↔ Lg (HS s) y' true i j := lg_only (HS s)
            have hrt : ∀ i j, Rt (Lg (HS s) (.cons y' .nil) true) i j ↔ Rt (Lg (HS s) y' true) i j := fun i j => ⟨fun h => rt_iff (fun i j => (hlo i j).1) h, fun h => rt_iff (fun i j => (hlo i j).2) h⟩
            refine RK.seq ?_
            refine RK.region ?_
            iterate 2 refine RL.p rfl rfl ?_
            refine RL.done ?_
            first | refine RK.condD rfl (fun h90 => ?_) (fun h90 => ?_) | refine RK.condN rfl (fun h90 => ?_) (fun h90 => ?_) | refine RK.cond rfl (fun h90 => ?_) (fun h90 => ?_)
            · have ho : o = 6 := by omega
              subst ho
              refine RK.seq ?_
              refine RK.region ?_
              refine RL.p rfl rfl ?_
              refine RL.q (.free rfl) rfl rfl (Yld.fieldAddr fo224_2 rfl) ?_
              refine RL.q (.free rfl) rfl rfl (Yld.load p222 rfl (at1 (hB2.cell rfl))) ?_
              refine RL.q (.free rfl) rfl rfl (Yld.indexAddr u222 i224 rfl rfl (by omega) (by omega)) ?_
              refine RL.q (.free rfl) rfl rfl (Yld.loadN (cs := celC ck) a224 rfl (atN (hcl _ hg2))) ?_
              iterate 2 refine RL.p rfl rfl ?_
              refine RL.op (.free rfl) rfl rfl (Does.call rfl e279 (hay M ck _ f _ (RxV.grow hg2 _ hyv) hv2 hf)) ?_
              rintro u4 w4 ⟨⟨o1, hE1, hu4⟩, hg4⟩
              have hol : f.length = o1.length := by rw [hf, hE1.1]
              refine RL.op (.free rfl) rfl rfl (Does.call rfl e298 (joinL_ok No f o1 hol (by omega) _ _ _ (hv2.mod hg4) hu4)) ?_
              rintro u6 w6 ⟨hu6, hg6⟩
              refine RL.p rfl rfl ?_
              refine RL.done ?_
              refine RK.ret_of Tryz.func279 (res1 rfl rfl) ?_ _
              exact ⟨_, rfl, ⟨joinS f o1, (hid.or hE1).iff (fun i j => by rw [hlgn, if_neg (by omega), if_neg (by omega), if_neg (by omega), if_neg (by omega), hlo]), hu6⟩, (hg2.trans hg4).trans hg6⟩
            · refine RK.seq ?_
              refine RK.region ?_
              iterate 2 refine RL.p rfl rfl ?_
              refine RL.done ?_
              first | refine RK.condD rfl (fun h101 => ?_) (fun h101 => ?_) | refine RK.condN rfl (fun h101 => ?_) (fun h101 => ?_) | refine RK.cond rfl (fun h101 => ?_) (fun h101 => ?_)
              · have ho : o = 5 := by omega
                subst ho
                refine RK.region ?_
                refine RL.q (.free rfl) rfl rfl (Yld.fieldAddr fo224_2 rfl) ?_
                refine RL.q (.free rfl) rfl rfl (Yld.load p222 rfl (at1 (hB2.cell rfl))) ?_
                refine RL.q (.free rfl) rfl rfl (Yld.indexAddr u222 i224 rfl rfl (by omega) (by omega)) ?_
                refine RL.q (.free rfl) rfl rfl (Yld.loadN (cs := celC ck) a224 rfl (atN (hcl _ hg2))) ?_
                iterate 2 refine RL.p rfl rfl ?_
                refine RL.op (.free rfl) rfl rfl (Does.call rfl e279 (hay M ck _ f _ (RxV.grow hg2 _ hyv) hv2 hf)) ?_
                rintro u4 w4 ⟨⟨o1, hE1, hu4⟩, hg4⟩
                refine RL.p rfl rfl ?_
                refine RL.done ?_
                refine RK.inBlock ?_
                exact RK.back (hj u4 _ ⟨y', o1, rfl, hE1.1, hu4, hg2.trans hg4, hB2.mod hg4 (fun h => h), fun res hres => (hE1.seq hres (fun i j h => (rt_rounds (lg_fwd y') h).1)).iff (fun i j => by
                    rw [hlgn, if_neg (by omega), if_neg (by omega), if_neg (by omega), if_pos rfl]
                    constructor
                    · rintro ⟨k, h1, h2⟩; exact ⟨k, (hlo _ _).2 h1, (hrt _ _).2 h2⟩
                    · rintro ⟨k, h1, h2⟩; exact ⟨k, (hlo _ _).1 h1, (hrt _ _).1 h2⟩), hay⟩) ⟨rfl, rfl, rfl, trivial⟩
              · have ho : o = 4 := by omega
                subst ho
                refine RK.region ?_
                iterate 2 refine RL.p rfl rfl ?_
                refine RL.op (.free rfl) rfl rfl (Does.copyN u317 i4 rfl rfl hn7.blk hv2 (by omega) (by rw [hf]; simp) (by simp [Value.oneCell'])) ?_
                rintro _ w4 ⟨rfl, hb4, hm4, _⟩
                have hu4 : SlB No w4 (.slice (some ⟨b7, 0, none⟩) (s.size + 1) (s.size + 1)) f := ⟨by simp, by omega, _, _, by rw [hf], fun _ => ⟨b7, 0, rfl, fun h => h, fun j u hj => by
                    rw [Nat.zero_add]
                    refine hb4.cell' ?_
                    rw [List.take_zero, List.nil_append, List.getElem?_append_left (List.getElem?_eq_some_iff.1 hj).1]
                    exact hj⟩⟩
                refine RL.done ?_
                refine RK.inBlock ?_
                exact RK.back (hj _ _ ⟨y', f, rfl, hf, hu4, hg2.then hm4 (fun y hy e => by have e' : y = b7 := e; omega), hB2.mod hm4 hb37, fun res hres => hres.iff (fun i j => by rw [hlgn, if_neg (by omega), if_neg (by omega), if_pos rfl, hrt]), hay⟩) ⟨rfl, rfl, rfl, trivial⟩
end Go.Proofs.YthbjfhhiajihfaaGreat
