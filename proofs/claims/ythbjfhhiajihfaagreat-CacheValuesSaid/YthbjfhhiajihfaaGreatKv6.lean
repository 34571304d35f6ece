/- What the claim stands on, part 6. Of own lemmas only those that it reaches. -/
import Derived.Test.YthbjfhhiajihfaaGreatKv5
set_option linter.unusedVariables false
set_option linter.unusedSimpArgs false
set_option maxHeartbeats 4000000
set_option maxRecDepth 100000
namespace Go.Proofs.YthbjfhhiajihfaaGreat
open Go Go.X Go.Rex Ieee
theorem datum_swap (a b : Datum) : b.order a = (a.order b).map Ordering.swap := by
  cases a <;> cases b <;> simp only [Datum.order, Option.map_none, Option.map_some, Option.some.injEq]
  case number.number s m i t n j => rw [Int.min_comm]; exact Std.OrientedCmp.eq_swap
  case number.infinity s m i t => cases t <;> rfl
  case infinity.number t s m i => cases t <;> rfl
  case infinity.infinity s t => exact Std.OrientedCmp.eq_swap
theorem ge_le (a b : Nat) : (FloatKind.f64.format.order b a == some .gt || FloatKind.f64.format.order b a == some .eq) = leF a b := by
  unfold leF Format.order
  rw [datum_swap]
  cases (FloatKind.f64.format.read a).order (FloatKind.f64.format.read b) with
  | none => rfl
  | some o => cases o <;> rfl
def cT : ByteArray := ⟨#[99]⟩
def ls17 (s c : ByteArray) : List Lab := [⟨cT, c⟩, ⟨sevT, s⟩]
def mTgt17 : Mt := ⟨1, sevT, warnT⟩
def bd17 : Bd := ⟨false, 4607182418800017408, 4621256167635550208⟩
def crV (v1 v2 v3 : Value) : Ru := ⟨v1, v2, v3, [mSrc], [mTgt17], bd17, [cT]⟩
def al17 (id : Int) (s c : ByteArray) (v : Nat) (b : Nat) : Al := ⟨id, ls17 s c, v, .slice (some ⟨b, 0, none⟩) 2 2⟩
theorem ls17_z {s c : ByteArray} (hs : s.size ≤ 100000) (hc : c.size ≤ 100000) : ∀ x ∈ ls17 s c, x.value.size ≤ 100000 := fun x hx => by
  simp only [ls17, List.mem_cons, List.not_mem_nil, or_false] at hx
  rcases hx with rfl | rfl
  · exact hc
  · exact hs
theorem of17_ok (id : Int) (s c : ByteArray) (v : Nat) (hs : s.size ≤ 100000) (hc : c.size ≤ 100000) (w : World) : Fx Tryz.prog 21 [.int .i64 id, .string s, .string c, .float .f64 v] w (fun u w' => ∃ b, u = .agg (alC (al17 id s c v b)).toArray ∧ (∀ M : Nat → Prop, (∀ b, M b → b < w.heap.size) → AlOk M w' (al17 id s c v b)) ∧ Grow w w') := by
  refine enter Tryz.func21 rfl rfl rfl _ (Pick.sub (l := [0, 1, 2, 3]) (.cons rfl (.cons rfl (.cons rfl (.cons rfl .nil))))) ?_
  refine RK.seq ?_
  refine RK.region ?_
  refine RL.op (.free rfl) rfl rfl (Does.alloc i35) ?_
  rintro _ w1 ⟨b8, rfl, hn8⟩
  refine RL.done ?_
  refine RK.seq ?_
  refine RK.region ?_
  iterate 2 refine RL.p rfl rfl ?_
  refine RL.q (.free rfl) rfl rfl (Yld.build (v := .agg #[.string cT, .string c]) rfl (fun w => by kernel_rfl)) ?_
  refine RL.p rfl rfl ?_
  refine RL.q (.free rfl) rfl rfl (Yld.build (v := .agg #[.string sevT, .string s]) rfl (fun w => by kernel_rfl)) ?_
  refine RL.op (.free rfl) rfl rfl (Does.bslice (el := 79) ([.string cT, .string c, .string sevT, .string s]) rfl (fun w => by kernel_rfl)) ?_
  rintro _ w2 ⟨b14, rfl, hn14⟩
  refine RL.p rfl rfl ?_
  refine RL.q (.free rfl) rfl rfl (Yld.build (v := .agg (alC (al17 id s c v b14)).toArray) rfl (fun w => by kernel_rfl)) ?_
  refine RL.op' (.free rfl) rfl (Does.storeN i35 rfl rfl rfl rfl (hn8.blk.mod hn14.grow (fun h => h)) (Nat.le_refl 3)) ?_
  rintro _ w3 ⟨hb3, hm3, _⟩
  have ha8 := hn8.at_
  have ha14 := hn14.at_
  have hz8 := hn8.size
  refine RL.done ?_
  refine RK.ret_of Tryz.func21 (resC (cs := alC (al17 id s c v b14)) rfl rfl a35 hb3) ?_ _
  exact ⟨_, rfl, b14, rfl, fun M hM => ⟨((Sl.new (M := fun b => M b ∨ b = b8) hn14 2 2 rfl (by omega) (fun h => by exact h.elim (fun h => by have := hM _ h; omega) (fun h => by omega))).mod (hm3.mono (fun b _ e => .inr e))).off (by omega) (fun b _ e => .inl e), ls17_z hs hc⟩, (hn8.grow.trans hn14.grow).then hm3 (fun y hy e => by have e' : y = b8 := e; omega)⟩
theorem crit17_ok (w : World) : Fx Tryz.prog 19 [] w (fun u w' => ∃ v1 v2 v3, u = .agg (ruC (crV v1 v2 v3)).toArray ∧ (crV v1 v2 v3).Ok No w' ∧ Grow w w') := by
  refine enter Tryz.func19 rfl rfl rfl _ (Pick.sub (l := []) .nil) ?_
  refine RK.seq ?_
  refine RK.region ?_
  refine RL.op (.free rfl) rfl rfl (Does.alloc i30) ?_
  rintro _ w1 ⟨b0, rfl, hn0⟩
  refine RL.done ?_
  refine RK.seq ?_
  refine RK.region ?_
  refine RL.q (.free rfl) rfl rfl (Yld.build (v := .agg (mtC mSrc).toArray) rfl (fun w => by kernel_rfl)) ?_
  refine RL.op (.free rfl) rfl rfl (Does.slice1 u24 i135 rfl rfl rfl rfl rfl) ?_
  rintro _ w2 ⟨b1, rfl, hn1⟩
  refine RL.q (.free rfl) rfl rfl (Yld.build (v := .agg (mtC mTgt17).toArray) rfl (fun w => by kernel_rfl)) ?_
  refine RL.op (.free rfl) rfl rfl (Does.slice1 u24 i135 rfl rfl rfl rfl rfl) ?_
  rintro _ w3 ⟨b2, rfl, hn2⟩
  refine RL.q (.free rfl) rfl rfl (Yld.build (v := .agg (bdC bd17).toArray) rfl (fun w => by kernel_rfl)) ?_
  refine RL.op (.free rfl) rfl rfl (Does.slice1 u28 i9 rfl rfl rfl rfl rfl) ?_
  rintro _ w4 ⟨b3, rfl, hn3⟩
  have hB0 := ((hn0.blk.mod hn1.grow (fun h => h)).mod hn2.grow (fun h => h)).mod hn3.grow (fun h => h)
  refine RL.q (.free rfl) rfl rfl (Yld.build (v := .agg (ruC (crV (.slice (some ⟨b1, 0, none⟩) 1 1) (.slice (some ⟨b2, 0, none⟩) 1 1) (.slice (some ⟨b3, 0, none⟩) 1 1))).toArray) rfl (fun w => by kernel_rfl)) ?_
  refine RL.op' (.free rfl) rfl (Does.storeN i30 rfl rfl rfl rfl hB0 (Nat.le_refl 6)) ?_
  rintro _ w5 ⟨hb5, hm5, _⟩
  have hs0 := hn0.at_
  have hs1 := hn1.at_
  have hs2 := hn2.at_
  have hs3 := hn3.at_
  have hz0 := hn0.size
  have hz1 := hn1.size
  have hz2 := hn2.size
  refine RL.done ?_
  refine RK.ret_of Tryz.func19 (resC (cs := ruC (crV (.slice (some ⟨b1, 0, none⟩) 1 1) (.slice (some ⟨b2, 0, none⟩) 1 1) (.slice (some ⟨b3, 0, none⟩) 1 1))) rfl rfl a30 hb5) ?_ _
  exact ⟨_, rfl, _, _, _, rfl, ⟨((Sl.new (M := (· = b0)) hn1 3 1 rfl (by omega) (by omega)).mod (Mod.any' (hn2.grow.trans hn3.grow))).mod hm5 |>.noM, ((Sl.new (M := (· = b0)) hn2 3 1 rfl (by omega) (by omega)).mod (Mod.any' hn3.grow)).mod hm5 |>.noM, (Sl.new (M := (· = b0)) hn3 1 1 rfl (by omega) (by omega)).mod hm5 |>.noM⟩, (((hn0.grow.trans hn1.grow).trans hn2.grow).trans hn3.grow).then hm5 (fun y hy e => by have e' : y = b0 := e; omega)⟩
theorem mTgt17_is : isM mTgt17 = true := by kernel_rfl
theorem mTgt17_large : largeM mTgt17 = false := by kernel_rfl
theorem getL17 (s c : ByteArray) : getL (ls17 s c) sevT = s := by
  unfold getL ls17
  simp [show ¬ cT = sevT by decide]
theorem getL17c (s c : ByteArray) : getL (ls17 s c) cT = c := by unfold getL ls17; simp
theorem src17 (s c : ByteArray) : holdsM mSrc (ls17 s c) = decide (s = critT) := by
  unfold holdsM
  rw [mSrc_is, mSrc_large]
  simp [mSrc, getL17]
theorem may17 : mayB bd17 = true := by kernel_rfl
theorem okE17 : ∀ i, i < 1 → okE [cT] i = true := fun i hi => by
  obtain rfl : i = 0 := by omega
  unfold okE; kernel_rfl
theorem works17 (v1 v2 v3 : Value) : worksRu (crV v1 v2 v3) = true := by
  have h1 : isRu (crV v1 v2 v3) = true := isRu_yes (by simp [crV]) (by simp [crV]) (list1 mSrc_is) (list1 mTgt17_is) may17 (by simp [crV]) fun i hi => okE17 i (by simpa [crV] using hi)
  have h2 : largeRu (crV v1 v2 v3) = false := by
    unfold largeRu anyL
    simp [crV, mSrc_large, mTgt17_large]
  unfold worksRu
  rw [h1, h2]; rfl
theorem source17 (v1 v2 v3 : Value) (s c : ByteArray) (v : Nat) : sourceS (crV v1 v2 v3) (ls17 s c) v = (decide (s = critT) && inBd bd17 v) := by
  unfold sourceS
  rw [works17]
  simp [crV, src17]
def key17 (c : ByteArray) : ByteArray := keyT [cT] (ls17 critT c)
theorem key17_eq (s c : ByteArray) : keyT [cT] (ls17 s c) = key17 c := (keyT_iff _ _ _).2 fun x hx => by
  simp only [List.mem_singleton] at hx
  subst hx
  rw [getL17c, getL17c]
theorem key17_inj {c d : ByteArray} (h : key17 c = key17 d) : c = d := by
  have := (keyT_iff _ _ _).1 h cT (by simp)
  rwa [getL17c, getL17c] at this
theorem nodup_of_map {α β : Type} {f : α → β} {l : List α} (h : (l.map f).Nodup) : l.Nodup := (List.pairwise_map.1 h).imp fun hne e => hne (congrArg f e)
structure One17 (c : CRows × CKeys) (id : Int) (k : Option ByteArray) : Prop where
  ci : CI c
  look : ∀ j, lookM c.2 j = if j = id then k else none
theorem One17.put {c : CRows × CKeys} {id : Int} {k0 : Option ByteArray} (h : One17 c id k0) (s : Bool) (k : ByteArray) : One17 (putC c id s k) id (if s = true then some k else none) :=
  ⟨h.ci.put _ _ _, fun j => by rw [putC_look h.ci, h.look]; by_cases e : j = id <;> simp [e]⟩
theorem One17.nil (id : Int) : One17 ([], []) id none := ⟨CI.nil, fun j => by simp [lookM, placeM]⟩
theorem One17.row {c : CRows × CKeys} {id : Int} {k : Option ByteArray} (h : One17 c id k) (k2 : ByteArray) : rowC c k2 = if k = some k2 then [id] else [] := by
  refine ext_ris (rowC_ris _ _) (by split <;> simp [Ris]) fun j => ?_
  rw [h.ci.mem_row, h.look]
  by_cases e : j = id
  · rw [if_pos e]; by_cases e2 : k = some k2 <;> simp [e, e2]
  · rw [if_neg e]; by_cases e2 : k = some k2 <;> simp [e, e2]
theorem One17.lens {c : CRows × CKeys} {id : Int} {k : Option ByteArray} (h : One17 c id k) : c.2.length = (if k.isSome then 1 else 0) ∧ c.1.length = (if k.isSome then 1 else 0) := by
  cases k with
  | none =>
    have h2 : c.2 = [] := keys_nil fun j k e => by rw [h.look] at e; split at e <;> cases e
    rw [h2, h.ci.empty h2]; exact ⟨rfl, rfl⟩
  | some k =>
    have hk : ∀ t, t ∈ c.2 ↔ t = (id, k) := fun t => by
      obtain ⟨j, k'⟩ := t
      rw [← lookM_iff h.ci.nk, h.look]
      by_cases e : j = id
      · rw [if_pos e]; simp [e, eq_comm]
      · rw [if_neg e]; simp [e]
    have hr : ∀ x, x ∈ c.1.map (·.1) ↔ x = k := fun x => by
      constructor
      · intro hx
        obtain ⟨t, ht, rfl⟩ := List.mem_map.1 hx
        obtain ⟨_, hne⟩ := h.ci.row t ht
        obtain ⟨j, hj⟩ := List.exists_mem_of_ne_nil _ hne
        have h3 := (h.ci.mem t.1 j).1 (by rw [(lookM_iff h.ci.nr).2 ht]; exact hj)
        rw [h.look] at h3
        split at h3
        · exact (Option.some.inj h3).symm
        · cases h3
      · rintro rfl
        refine Classical.byContradiction fun hn => ?_
        have h3 := (h.ci.mem x id).2 (by rw [h.look, if_pos rfl])
        rw [lookM_none.2 hn] at h3
        cases h3
    have p1 : c.2.Perm [(id, k)] := (List.perm_ext_iff_of_nodup (nodup_of_map h.ci.nk) (by simp)).2 fun t => by rw [hk]; simp
    have p2 : (c.1.map (·.1)).Perm [k] := (List.perm_ext_iff_of_nodup h.ci.nr (by simp)).2 fun t => by rw [hr]; simp
    exact ⟨by simpa using p1.length_eq, by simpa using p2.length_eq⟩
theorem put17 {M : Nat → Prop} {w : World} {p mr mk : Nat} {v1 v2 v3 : Value} {c : CRows × CKeys} {id : Int} {x : ByteArray} {v b : Nat} (h : CacheAt M w p mr mk (crV v1 v2 v3) (putC c (al17 id critT x v b).id (sourceS (crV v1 v2 v3) (al17 id critT x v b).ls (al17 id critT x v b).val) (keyT (crV v1 v2 v3).eq (al17 id critT x v b).ls))) : CacheAt M w p mr mk (crV v1 v2 v3) (putC c id (inBd bd17 v) (key17 x)) := by
  have e : sourceS (crV v1 v2 v3) (ls17 critT x) v = inBd bd17 v := by rw [source17]; simp
  have e2 : sourceS (crV v1 v2 v3) (al17 id critT x v b).ls (al17 id critT x v b).val = inBd bd17 v := e
  rw [e2] at h
  exact h
theorem row17 {w : World} {z : Value} {v1 v2 v3 : Value} {c : CRows × CKeys} {id j : Int} {k : Option ByteArray} {s x : ByteArray} {v b : Nat} (h : One17 c id k) (hr : Row w 3 1 z (rowC c (keyT (crV v1 v2 v3).eq (al17 j s x v b).ls)).length (ints (rowC c (keyT (crV v1 v2 v3).eq (al17 j s x v b).ls)))) :
    Row w 3 1 z (if k = some (key17 x) then [id] else []).length (ints (if k = some (key17 x) then [id] else [])) := by
  have e : keyT (crV v1 v2 v3).eq (al17 j s x v b).ls = key17 x := key17_eq s x
  rw [e, h.row] at hr
  exact hr
theorem CacheAt.lts {M : Nat → Prop} {w : World} {p mr mk : Nat} {r : Ru} {c : CRows × CKeys} (h : CacheAt M w p mr mk r c) : ∀ b, b = mr ∨ b = mk → b < w.heap.size := fun b e => by
  obtain ⟨l, _, hl, _⟩ := h.rl
  rcases e with rfl | rfl
  · exact hl.lt
  · exact h.kl.lt
def xT : ByteArray := ⟨#[120]⟩
def yT : ByteArray := ⟨#[121]⟩
def zT : ByteArray := ⟨#[122]⟩
theorem cruns_ok (w : World) : Fx Tryz.prog 3 [] w (fun u w' => u = .bool true ∧ Grow w w') := by
  refine enter Tryz.func3 rfl rfl rfl _ (Pick.sub (l := []) .nil) ?_
  refine RK.seq ?_
  refine RK.region ?_
  refine RL.p rfl rfl ?_
  refine RL.done ?_
  refine RK.seq ?_
  refine RK.region ?_
  refine RL.op (.free rfl) rfl rfl (Does.call rfl e19 (crit17_ok _)) ?_
  rintro _ w1 ⟨a1, a2, a3, rfl, hru, hg1⟩
  refine RL.op (.free rfl) rfl rfl (Does.call rfl e18 (cacheNew_ok No _ _ hru ⟨by simp [crV], by simp [crV], by simp [crV]⟩)) ?_
  rintro _ w2 ⟨p, mr, mk, v1, v2, v3, rfl, ⟨hp, hmr, hmk, hpl⟩, hc0, hg2⟩
  have hc2 : CacheAt (fun b => b = mr ∨ b = mk) w2 p mr mk (crV v1 v2 v3) ([], []) := hc0 _ (fun b _ e => .inr e)
  have hM2 := hc2.lts
  refine RL.p rfl rfl ?_
  refine RL.done ?_
  iterate 2 refine RK.seq ?_
  refine RK.region ?_
  refine RL.p rfl rfl ?_
  refine RL.q (.free rfl) rfl rfl (Yld.eqPtr Tryz.underlying22 rfl rfl) ?_
  refine RL.done ?_
  refine RK.condF (hcF rfl (rfl)) ?_
  refine RK.skip ?_
  refine RK.seq ?_
  refine RK.region ?_
  refine RL.p rfl rfl ?_
  refine RL.op (.free rfl) rfl rfl (Does.call rfl e21 (of17_ok 1 critT xT 4617315517961601024 (by decide) (by decide) _)) ?_
  rintro _ w3 ⟨b3, rfl, ha3, hg3⟩
  refine RL.op (.free rfl) rfl rfl (Does.call rfl e20 (cachePut_ok (fun b => b = mr ∨ b = mk) _ p mr mk _ _ (hc2.grow hg3) (.inl rfl) (.inr rfl) (hc2.grow hg3).lts _ (ha3 _ hM2) (CB.nil.mono (by omega)))) ?_
  rintro _ w4 ⟨rfl, hc4', hm4⟩
  have hc4 := put17 hc4'
  have hin : inBd bd17 4617315517961601024 = true := by kernel_rfl
  have ho4 := (One17.nil 1).put (inBd bd17 4617315517961601024) (key17 xT)
  rw [if_pos hin] at ho4
  have hb4 : CB (putC ([], []) 1 (inBd bd17 4617315517961601024) (key17 xT)) 1000000 := (CB.nil.put _ _ _).mono (by omega)
  have hz1 := (hg1.trans hg2).size
  have hg04 : Grow w w4 := ((hg1.trans hg2).trans hg3).then hm4 (fun b hb e => by have := hg1.size; rcases e with rfl | rfl <;> omega)
  refine RL.done ?_
  refine RK.seq ?_
  refine RK.region ?_
  refine RL.p rfl rfl ?_
  refine RL.op (.free rfl) rfl rfl (Does.call rfl e21 (of17_ok 2 warnT xT 0 (by decide) (by decide) _)) ?_
  rintro _ w5 ⟨b5, rfl, ha5, hg5⟩
  refine RL.op (.free rfl) rfl rfl (Does.call rfl e22 (cacheSources_ok (fun b => b = mr ∨ b = mk) No _ p mr mk _ _ (hc4.grow hg5) (by simp [crV]) _ (ha5 No (fun b h => h.elim)) hb4)) ?_
  rintro z6 w6 ⟨hr6', hf6, hg6⟩
  have hr6 := row17 ho4 hr6'
  rw [if_pos rfl] at hr6
  refine RL.p rfl rfl ?_
  refine RL.op (.free rfl) rfl rfl (Does.call rfl e21 (of17_ok 2 warnT yT 0 (by decide) (by decide) _)) ?_
  rintro _ w7 ⟨b7, rfl, ha7, hg7⟩
  have hg47 := (hg5.trans hg6).trans hg7
  refine RL.op (.free rfl) rfl rfl (Does.call rfl e22 (cacheSources_ok (fun b => b = mr ∨ b = mk) No _ p mr mk _ _ (hc4.grow hg47) (by simp [crV]) _ (ha7 No (fun b h => h.elim)) hb4)) ?_
  rintro z8 w8 ⟨hr8', hf8, hg8⟩
  have hr8 := row17 ho4 hr8'
  rw [if_neg (fun e => absurd (key17_inj (Option.some.inj e)) (by decide))] at hr8
  obtain ⟨ad8, c8, rfl⟩ := hr8.slice
  iterate 2 refine RL.p rfl rfl ?_
  refine RL.done ?_
  refine RK.seq ?_
  refine RK.region ?_
  refine RL.p rfl rfl ?_
  refine RL.op (.free rfl) rfl rfl (Does.slice1 u37 i3 rfl rfl rfl rfl rfl) ?_
  rintro _ w18 ⟨b18, rfl, hn18⟩
  have hg68 := (hg7.trans hg8).trans hn18.grow
  refine RL.op (.free rfl) rfl rfl (Does.call rfl e23 (sameInts_ok No [1] [1] z6 _ _ (Sl.own (hr6.mod hg68 (fun _ _ h => h)) (fun _ _ h => h)) (Sl.new hn18 1 1 rfl (by omega) (fun h => h)))) ?_
  rintro _ w9 ⟨rfl, hg9⟩
  have hg49 := ((hg5.trans hg6).trans hg68).trans hg9
  refine RL.p rfl rfl ?_
  refine RL.knownT (d := 20) rfl rfl (by simp) ?_
  refine RL.q (.yes rfl rfl rfl) rfl rfl (Yld.pure rfl) ?_
  refine RL.q (.yes rfl rfl rfl) rfl rfl (Yld.lenSl u37 rfl) ?_
  refine RL.q (.yes rfl rfl rfl) rfl rfl (Yld.pure rfl) ?_
  iterate 2 refine RL.p rfl rfl ?_
  refine RL.knownT (d := 25) rfl rfl (rfl) ?_
  refine RL.q (.yes rfl rfl rfl) rfl rfl (Yld.pure rfl) ?_
  refine RL.op (.yes rfl rfl rfl) rfl rfl (Does.call rfl e24 (cacheLen_ok _ _ p mr mk _ _ (hc4.grow hg49))) ?_
  rintro _ w10 ⟨rfl, hg10⟩
  refine RL.q (.yes rfl rfl rfl) rfl rfl (Yld.pure rfl) ?_
  iterate 2 refine RL.p rfl rfl ?_
  refine RL.knownT (d := 30) rfl rfl (decide_eq_true (by rw [ho4.lens.1]; rfl)) ?_
  refine RL.q (.yes rfl rfl rfl) rfl rfl (Yld.pure rfl) ?_
  refine RL.op (.yes rfl rfl rfl) rfl rfl (Does.call rfl e25 (cacheKeys_ok _ _ p mr mk _ _ (hc4.grow (hg49.trans hg10)))) ?_
  rintro _ w11 ⟨rfl, hg11⟩
  refine RL.q (.yes rfl rfl rfl) rfl rfl (Yld.pure rfl) ?_
  iterate 2 refine RL.p rfl rfl ?_
  refine RL.done ?_
  refine RK.ret_of Tryz.func3 (res1 rfl rfl) ?_ _
  exact ⟨_, rfl, congrArg _ (decide_eq_true (by rw [ho4.lens.2]; rfl)), (hg04.trans hg49).trans (hg10.trans hg11)⟩
theorem len1 (b : Bool) (n : Int) : decide (((if b = true then [n] else []).length : Int) = 1) = b := by cases b <;> rfl
theorem lenK (b : Bool) (k : ByteArray) : decide (((if (if b = true then some k else none).isSome then 1 else 0 : Nat) : Int) = 1) = b := by cases b <;> rfl
theorem ifK (b : Bool) (k : ByteArray) (n : Int) : (if (if b = true then some k else none) = some k then [n] else []) = (if b = true then [n] else []) := by cases b <;> simp
theorem ifN {k k2 : ByteArray} (h : k ≠ k2) (b : Bool) (n : Int) : (if (if b = true then some k else none) = some k2 then [n] else []) = [] := by cases b <;> simp [h]
theorem negT {a b : Bool} (h : a = b) : (!decide (a = b)) = false := by rw [decide_eq_true h]; rfl
theorem cvalues_ok (u v : Nat) (move : Bool) (w : World) : Fx Tryz.prog 7 [.float .f64 u, .float .f64 v, .bool move] w (fun u w' => u = .bool true ∧ Grow w w') := by
  have hnan : inBd bd17 9221120237041090561 = false := by kernel_rfl
  refine enter Tryz.func7 rfl rfl rfl _ (Pick.sub (l := [0, 1, 2]) (.cons rfl (.cons rfl (.cons rfl .nil)))) ?_
  refine RK.seq ?_
  refine RK.region ?_
  refine RL.p rfl rfl ?_
  refine RL.done ?_
  refine RK.seq ?_
  refine RK.region ?_
  refine RL.op (.free rfl) rfl rfl (Does.call rfl e19 (crit17_ok _)) ?_
  rintro _ w1 ⟨a1, a2, a3, rfl, hru, hg1⟩
  refine RL.op (.free rfl) rfl rfl (Does.call rfl e18 (cacheNew_ok No _ _ hru ⟨by simp [crV], by simp [crV], by simp [crV]⟩)) ?_
  rintro _ w2 ⟨p, mr, mk, v1, v2, v3, rfl, ⟨hp, hmr, hmk, hpl⟩, hc0, hg2⟩
  have hc2 : CacheAt (fun b => b = mr ∨ b = mk) w2 p mr mk (crV v1 v2 v3) ([], []) := hc0 _ (fun b _ e => .inr e)
  have hM2 := hc2.lts
  refine RL.p rfl rfl ?_
  refine RL.done ?_
  iterate 2 refine RK.seq ?_
  refine RK.region ?_
  refine RL.p rfl rfl ?_
  refine RL.q (.free rfl) rfl rfl (Yld.eqPtr Tryz.underlying22 rfl rfl) ?_
  refine RL.done ?_
  refine RK.condF (hcF rfl (rfl)) ?_
  refine RK.skip ?_
  refine RK.seq ?_
  refine RK.region ?_
  iterate 2 refine RL.p rfl rfl ?_
  refine RL.op (.free rfl) rfl rfl (Does.call rfl e21 (of17_ok 7 critT xT u (by decide) (by decide) _)) ?_
  rintro _ w3 ⟨b3, rfl, ha3, hg3⟩
  refine RL.op (.free rfl) rfl rfl (Does.call rfl e20 (cachePut_ok (fun b => b = mr ∨ b = mk) _ p mr mk _ _ (hc2.grow hg3) (.inl rfl) (.inr rfl) (hc2.grow hg3).lts _ (ha3 _ hM2) (CB.nil.mono (by omega)))) ?_
  rintro _ w4 ⟨rfl, hc4', hm4⟩
  have hc4 := put17 hc4'
  have ho4 := (One17.nil 7).put (inBd bd17 u) (key17 xT)
  have hb4 : CB (putC ([], []) 7 (inBd bd17 u) (key17 xT)) 1 := CB.nil.put _ _ _
  have hz1 := hg1.size
  have hg04 : Grow w w4 := ((hg1.trans hg2).trans hg3).then hm4 (fun b hb e => by rcases e with rfl | rfl <;> omega)
  refine RL.done ?_
  refine RK.seq ?_
  refine RK.region ?_
  refine RL.p rfl rfl ?_
  refine RL.op (.free rfl) rfl rfl (Does.call rfl e21 (of17_ok 1 warnT xT 0 (by decide) (by decide) _)) ?_
  rintro _ w5 ⟨b5, rfl, ha5, hg5⟩
  refine RL.op (.free rfl) rfl rfl (Does.call rfl e22 (cacheSources_ok (fun b => b = mr ∨ b = mk) No _ p mr mk _ _ (hc4.grow hg5) (by simp [crV]) _ (ha5 No (fun b h => h.elim)) (hb4.mono (by omega)))) ?_
  rintro z6 w6 ⟨hr6', hf6, hg6⟩
  have hr6 := row17 ho4 hr6'
  rw [ifK] at hr6
  have hg46 := hg5.trans hg6
  refine RL.p rfl rfl ?_
  refine RL.done ?_
  refine RK.seq ?_
  refine RK.region ?_
  refine RL.p rfl rfl ?_
  refine RL.done ?_
  refine RK.seq ?_
  refine RK.cut [(0, .float .f64 u), (1, .float .f64 v), (2, .bool move), (7, pp p), (8, z6), (9, .string (if move = true then yT else xT))] (fun w' => w6 = w') (fun w6' hw => ?_) (fun hj => ?_)
  · subst hw
    have hr12x0 : move = true → key17 (if move = true then yT else xT) ≠ key17 xT := fun h e => by rw [if_pos h] at e; exact absurd (key17_inj e) (by decide)
    have hatz : (if move = true then yT else xT).size ≤ 100000 := by split <;> decide
    have hatn : key17 (if move = true then yT else xT) ≠ key17 zT := fun e => by have := key17_inj e; split at this <;> exact absurd this (by decide)
    generalize (if move = true then yT else xT) = at_ at *
    refine RK.seq ?_
    refine RK.region ?_
    iterate 3 refine RL.p rfl rfl ?_
    refine RL.op (.free rfl) rfl rfl (Does.call rfl e21 (of17_ok 7 critT at_ v (by decide) hatz _)) ?_
    rintro _ w7 ⟨b7, rfl, ha7, hg7⟩
    have hg47 := hg46.trans hg7
    refine RL.op (.free rfl) rfl rfl (Does.call rfl e20 (cachePut_ok (fun b => b = mr ∨ b = mk) _ p mr mk _ _ (hc4.grow hg47) (.inl rfl) (.inr rfl) (hc4.grow hg47).lts _ (ha7 _ (hc4.grow hg46).lts) (hb4.mono (by omega)))) ?_
    rintro _ w8 ⟨rfl, hc8', hm8⟩
    have hc8 := put17 hc8'
    have ho8 := ho4.put (inBd bd17 v) (key17 at_)
    have hb8 := hb4.put 7 (inBd bd17 v) (key17 at_)
    have hr68 := hr6.mod hg7 (fun _ _ h => h)
    have hr68' := hr68.mod hm8 (fun b e h => by have h1 := hf6 b e; have h2 := hc4.lts b h; have := hg5.size; omega)
    have hg08 : Grow w w8 := (hg04.trans hg47).then hm8 (fun b hb e => by rcases e with rfl | rfl <;> omega)
    refine RL.done ?_
    refine RK.seq ?_
    refine RK.region ?_
    iterate 2 refine RL.p rfl rfl ?_
    refine RL.op (.free rfl) rfl rfl (Does.call rfl e21 (of17_ok 1 warnT at_ 0 (by decide) hatz _)) ?_
    rintro _ w9 ⟨b9, rfl, ha9, hg9⟩
    refine RL.op (.free rfl) rfl rfl (Does.call rfl e22 (cacheSources_ok (fun b => b = mr ∨ b = mk) No _ p mr mk _ _ (hc8.grow hg9) (by simp [crV]) _ (ha9 No (fun b h => h.elim)) (hb8.mono (by omega)))) ?_
    rintro z10 w10 ⟨hr10', hf10, hg10⟩
    have hr10 := row17 ho8 hr10'
    rw [ifK] at hr10
    have hg8a := hg9.trans hg10
    refine RL.p rfl rfl ?_
    refine RL.op (.free rfl) rfl rfl (Does.call rfl e21 (of17_ok 1 warnT zT 0 (by decide) (by decide) _)) ?_
    rintro _ w11 ⟨b11, rfl, ha11, hg11⟩
    refine RL.op (.free rfl) rfl rfl (Does.call rfl e22 (cacheSources_ok (fun b => b = mr ∨ b = mk) No _ p mr mk _ _ (hc8.grow (hg8a.trans hg11)) (by simp [crV]) _ (ha11 No (fun b h => h.elim)) (hb8.mono (by omega)))) ?_
    rintro z11 w12 ⟨hr11', hf11, hg12⟩
    have hr11 := row17 ho8 hr11'
    rw [ifN hatn] at hr11
    have hg8b := (hg8a.trans hg11).trans hg12
    iterate 2 refine RL.p rfl rfl ?_
    refine RL.done ?_
    refine RK.seq ?_
    refine RK.region ?_
    refine RL.p rfl rfl ?_
    refine RL.op (.free rfl) rfl rfl (Does.call rfl e21 (of17_ok 1 warnT xT 0 (by decide) (by decide) _)) ?_
    rintro _ w13 ⟨b13, rfl, ha13, hg13⟩
    refine RL.op (.free rfl) rfl rfl (Does.call rfl e22 (cacheSources_ok (fun b => b = mr ∨ b = mk) No _ p mr mk _ _ (hc8.grow (hg8b.trans hg13)) (by simp [crV]) _ (ha13 No (fun b h => h.elim)) (hb8.mono (by omega)))) ?_
    rintro z12 w14 ⟨hr12', hf12, hg14⟩
    have hr12 := row17 ho8 hr12'
    have hr12x := fun h => ifN (hr12x0 h) (inBd bd17 v) 7
    have hg8c := (hg8b.trans hg13).trans hg14
    have hr68'' := hr68'.mod hg8c (fun _ _ h => h)
    have hr10'' := hr10.mod ((hg11.trans hg12).trans (hg13.trans hg14)) (fun _ _ h => h)
    have hr11'' := hr11.mod (hg13.trans hg14) (fun _ _ h => h)
    obtain ⟨ad6, c6, rfl⟩ := hr68''.slice
    obtain ⟨ad10, c10, rfl⟩ := hr10''.slice
    obtain ⟨ad11, c11, rfl⟩ := hr11''.slice
    refine RL.p rfl rfl ?_
    refine RL.done ?_
    refine RK.seq ?_
    refine RK.cut [(0, .float .f64 u), (2, .bool move), (7, pp p), (8, .slice ad6 (if inBd bd17 u = true then [(7 : Int)] else []).length c6), (9, .string at_), (10, .slice ad10 (if inBd bd17 v = true then [(7 : Int)] else []).length c10), (11, .slice ad11 ([] : List Int).length c11), (12, z12), (13, .bool (inBd bd17 v))] (fun w' => Grow w14 w') (fun w15 hg15 => ?_) (fun hj => ?_)
    · have hg8e := hg8c.trans hg15
      iterate 2 refine RK.seq ?_
      refine RK.region ?_
      refine RL.p rfl rfl ?_
      refine RL.q (.free rfl) rfl rfl (Yld.lenSl u37 rfl) ?_
      iterate 3 refine RL.p rfl rfl ?_
      refine RL.re (d := 51) rfl rfl (congrArg Value.bool (ge_le 4607182418800017408 u)) ?_
      refine RL.p rfl rfl ?_
      first | refine RL.splitD (d := 52) rfl rfl (fun h52 => ?_) (fun h52 => ?_) | refine RL.splitN (d := 52) rfl rfl (fun h52 => ?_) (fun h52 => ?_) | refine RL.split (d := 52) rfl rfl (fun h52 => ?_) (fun h52 => ?_)
      · iterate 2 refine RL.q (.yes rfl rfl rfl) rfl rfl (Yld.pure rfl) ?_
        refine RL.p rfl rfl ?_
        refine RL.q (.free rfl) rfl rfl (Yld.neqBool u4 rfl rfl) ?_
        refine RL.p rfl rfl ?_
        refine RL.knownF (d := 57) rfl rfl (negT ((len1 _ _).trans (show inBd bd17 u = leF u 4621256167635550208 by unfold inBd; rw [may17, show leF bd17.lo u = true from h52]; rfl))) ?_
        refine RL.q (.yes rfl rfl rfl) rfl rfl (Yld.pure rfl) ?_
        refine RL.q (.yes rfl rfl rfl) rfl rfl (Yld.lenSl u37 rfl) ?_
        iterate 2 refine RL.q (.yes rfl rfl rfl) rfl rfl (Yld.pure rfl) ?_
        refine RL.q (.yes rfl rfl rfl) rfl rfl (Yld.neqBool u4 rfl rfl) ?_
        iterate 2 refine RL.p rfl rfl ?_
        refine RL.knownF (d := 64) rfl rfl (negT (len1 _ _)) ?_
        refine RL.q (.yes rfl rfl rfl) rfl rfl (Yld.pure rfl) ?_
        refine RL.q (.yes rfl rfl rfl) rfl rfl (Yld.lenSl u37 rfl) ?_
        refine RL.q (.yes rfl rfl rfl) rfl rfl (Yld.pure rfl) ?_
        iterate 2 refine RL.p rfl rfl ?_
        refine RL.knownF (d := 69) rfl rfl (rfl) ?_
        iterate 2 refine RL.q (.yes rfl rfl rfl) rfl rfl (Yld.pure rfl) ?_
        first | refine RL.splitD (d := 71) rfl rfl (fun h71 => ?_) (fun h71 => ?_) | refine RL.splitN (d := 71) rfl rfl (fun h71 => ?_) (fun h71 => ?_) | refine RL.split (d := 71) rfl rfl (fun h71 => ?_) (fun h71 => ?_)
        · have hr12e := hr12x h71
          rw [hr12e] at hr12
          obtain ⟨ad12, c12, rfl⟩ := hr12.slice
          refine RL.q (.yes rfl rfl rfl) rfl rfl (Yld.pure rfl) ?_
          refine RL.q (.yes rfl rfl rfl) rfl rfl (Yld.lenSl u37 rfl) ?_
          iterate 2 refine RL.q (.yes rfl rfl rfl) rfl rfl (Yld.pure rfl) ?_
          iterate 2 refine RL.p rfl rfl ?_
          refine RL.knownF (d := 77) rfl rfl (rfl) ?_
          refine RL.q (.yes rfl rfl rfl) rfl rfl (Yld.pure rfl) ?_
          refine RL.op (.yes rfl rfl rfl) rfl rfl (Does.call rfl e24 (cacheLen_ok _ _ p mr mk _ _ (hc8.grow hg8e))) ?_
          rintro _ w16 ⟨rfl, hg16⟩
          iterate 2 refine RL.q (.yes rfl rfl rfl) rfl rfl (Yld.pure rfl) ?_
          refine RL.q (.yes rfl rfl rfl) rfl rfl (Yld.neqBool u4 rfl rfl) ?_
          iterate 2 refine RL.p rfl rfl ?_
          refine RL.knownF (d := 84) rfl rfl (negT (by rw [ho8.lens.1]; exact lenK _ _)) ?_
          refine RL.q (.yes rfl rfl rfl) rfl rfl (Yld.pure rfl) ?_
          refine RL.op (.yes rfl rfl rfl) rfl rfl (Does.call rfl e25 (cacheKeys_ok _ _ p mr mk _ _ (hc8.grow (hg8e.trans hg16)))) ?_
          rintro _ w17 ⟨rfl, hg17⟩
          iterate 2 refine RL.q (.yes rfl rfl rfl) rfl rfl (Yld.pure rfl) ?_
          refine RL.q (.yes rfl rfl rfl) rfl rfl (Yld.neqBool u4 rfl rfl) ?_
          refine RL.p rfl rfl ?_
          refine RL.done ?_
          refine RK.condF (hcF rfl (negT (by rw [ho8.lens.2]; exact lenK _ _))) ?_
          have hg8f := (hg8e.trans hg16).trans hg17
          refine RK.skip ?_
          refine RK.seq ?_
          refine RK.region ?_
          iterate 2 refine RL.p rfl rfl ?_
          refine RL.op (.free rfl) rfl rfl (Does.call rfl e38 (nan_ok _)) ?_
          rintro _ _ ⟨rfl, rfl⟩
          refine RL.op (.free rfl) rfl rfl (Does.call rfl e21 (of17_ok 7 critT at_ 9221120237041090561 (by decide) hatz _)) ?_
          rintro _ w18 ⟨b18, rfl, ha18, hg18⟩
          refine RL.op (.free rfl) rfl rfl (Does.call rfl e20 (cachePut_ok (fun b => b = mr ∨ b = mk) _ p mr mk _ _ (hc8.grow (hg8f.trans hg18)) (.inl rfl) (.inr rfl) (hc8.grow (hg8f.trans hg18)).lts _ (ha18 _ (hc8.grow hg8f).lts) (hb8.mono (by omega)))) ?_
          rintro _ w19 ⟨rfl, hc19', hm19⟩
          have hc19 := put17 hc19'
          have ho19 := ho8.put (inBd bd17 9221120237041090561) (key17 at_)
          rw [if_neg (by rw [hnan]; decide)] at ho19
          have hg19 : Grow w w19 := ((hg08.trans hg8f).trans hg18).then hm19 (fun b hb e => by rcases e with rfl | rfl <;> omega)
          refine RL.done ?_
          refine RK.seq ?_
          refine RK.region ?_
          refine RL.p rfl rfl ?_
          refine RL.op (.free rfl) rfl rfl (Does.call rfl e24 (cacheLen_ok _ _ p mr mk _ _ hc19)) ?_
          rintro _ w20 ⟨rfl, hg20⟩
          iterate 2 refine RL.p rfl rfl ?_
          refine RL.knownT (d := 99) rfl rfl (decide_eq_true (by rw [ho19.lens.1]; rfl)) ?_
          refine RL.q (.yes rfl rfl rfl) rfl rfl (Yld.pure rfl) ?_
          refine RL.op (.yes rfl rfl rfl) rfl rfl (Does.call rfl e25 (cacheKeys_ok _ _ p mr mk _ _ (hc19.grow hg20))) ?_
          rintro _ w21 ⟨rfl, hg21⟩
          refine RL.q (.yes rfl rfl rfl) rfl rfl (Yld.pure rfl) ?_
          iterate 2 refine RL.p rfl rfl ?_
          refine RL.knownT (d := 104) rfl rfl (decide_eq_true (by rw [ho19.lens.2]; rfl)) ?_
          refine RL.op (.yes rfl rfl rfl) rfl rfl (Does.call rfl e3 (cruns_ok _)) ?_
          rintro _ w22 ⟨rfl, hg22⟩
          iterate 2 refine RL.p rfl rfl ?_
          refine RL.done ?_
          refine RK.ret_of Tryz.func7 (res1 rfl rfl) ?_ _
          exact ⟨_, rfl, rfl, ((hg19.trans hg20).trans hg21).trans hg22⟩
        · obtain ⟨ad12, c12, rfl⟩ := hr12.slice
          iterate 3 refine RL.no (.no rfl rfl rfl rfl) rfl rfl ?_
          refine RL.q (.yes rfl rfl rfl) rfl rfl (Yld.pure rfl) ?_
          iterate 2 refine RL.p rfl rfl ?_
          refine RL.q (.yes rfl rfl rfl) rfl rfl (Yld.pure rfl) ?_
          refine RL.op (.yes rfl rfl rfl) rfl rfl (Does.call rfl e24 (cacheLen_ok _ _ p mr mk _ _ (hc8.grow hg8e))) ?_
          rintro _ w16 ⟨rfl, hg16⟩
          iterate 2 refine RL.q (.yes rfl rfl rfl) rfl rfl (Yld.pure rfl) ?_
          refine RL.q (.yes rfl rfl rfl) rfl rfl (Yld.neqBool u4 rfl rfl) ?_
          iterate 2 refine RL.p rfl rfl ?_
          refine RL.knownF (d := 84) rfl rfl (negT (by rw [ho8.lens.1]; exact lenK _ _)) ?_
          refine RL.q (.yes rfl rfl rfl) rfl rfl (Yld.pure rfl) ?_
          refine RL.op (.yes rfl rfl rfl) rfl rfl (Does.call rfl e25 (cacheKeys_ok _ _ p mr mk _ _ (hc8.grow (hg8e.trans hg16)))) ?_
          rintro _ w17 ⟨rfl, hg17⟩
          iterate 2 refine RL.q (.yes rfl rfl rfl) rfl rfl (Yld.pure rfl) ?_
          refine RL.q (.yes rfl rfl rfl) rfl rfl (Yld.neqBool u4 rfl rfl) ?_
          refine RL.p rfl rfl ?_
          refine RL.done ?_
          refine RK.condF (hcF rfl (negT (by rw [ho8.lens.2]; exact lenK _ _))) ?_
          have hg8f := (hg8e.trans hg16).trans hg17
          refine RK.skip ?_
          refine RK.seq ?_
          refine RK.region ?_
          iterate 2 refine RL.p rfl rfl ?_
          refine RL.op (.free rfl) rfl rfl (Does.call rfl e38 (nan_ok _)) ?_
          rintro _ _ ⟨rfl, rfl⟩
          refine RL.op (.free rfl) rfl rfl (Does.call rfl e21 (of17_ok 7 critT at_ 9221120237041090561 (by decide) hatz _)) ?_
          rintro _ w18 ⟨b18, rfl, ha18, hg18⟩
          refine RL.op (.free rfl) rfl rfl (Does.call rfl e20 (cachePut_ok (fun b => b = mr ∨ b = mk) _ p mr mk _ _ (hc8.grow (hg8f.trans hg18)) (.inl rfl) (.inr rfl) (hc8.grow (hg8f.trans hg18)).lts _ (ha18 _ (hc8.grow hg8f).lts) (hb8.mono (by omega)))) ?_
          rintro _ w19 ⟨rfl, hc19', hm19⟩
          have hc19 := put17 hc19'
          have ho19 := ho8.put (inBd bd17 9221120237041090561) (key17 at_)
          rw [if_neg (by rw [hnan]; decide)] at ho19
          have hg19 : Grow w w19 := ((hg08.trans hg8f).trans hg18).then hm19 (fun b hb e => by rcases e with rfl | rfl <;> omega)
          refine RL.done ?_
          refine RK.seq ?_
          refine RK.region ?_
          refine RL.p rfl rfl ?_
          refine RL.op (.free rfl) rfl rfl (Does.call rfl e24 (cacheLen_ok _ _ p mr mk _ _ hc19)) ?_
          rintro _ w20 ⟨rfl, hg20⟩
          iterate 2 refine RL.p rfl rfl ?_
          refine RL.knownT (d := 99) rfl rfl (decide_eq_true (by rw [ho19.lens.1]; rfl)) ?_
          refine RL.q (.yes rfl rfl rfl) rfl rfl (Yld.pure rfl) ?_
          refine RL.op (.yes rfl rfl rfl) rfl rfl (Does.call rfl e25 (cacheKeys_ok _ _ p mr mk _ _ (hc19.grow hg20))) ?_
          rintro _ w21 ⟨rfl, hg21⟩
          refine RL.q (.yes rfl rfl rfl) rfl rfl (Yld.pure rfl) ?_
          iterate 2 refine RL.p rfl rfl ?_
          refine RL.knownT (d := 104) rfl rfl (decide_eq_true (by rw [ho19.lens.2]; rfl)) ?_
          refine RL.op (.yes rfl rfl rfl) rfl rfl (Does.call rfl e3 (cruns_ok _)) ?_
          rintro _ w22 ⟨rfl, hg22⟩
          iterate 2 refine RL.p rfl rfl ?_
          refine RL.done ?_
          refine RK.ret_of Tryz.func7 (res1 rfl rfl) ?_ _
          exact ⟨_, rfl, rfl, ((hg19.trans hg20).trans hg21).trans hg22⟩
      · iterate 2 refine RL.no (.no rfl rfl rfl rfl) rfl rfl ?_
        refine RL.p rfl rfl ?_
        refine RL.q (.free rfl) rfl rfl (Yld.neqBool u4 rfl rfl) ?_
        refine RL.p rfl rfl ?_
        refine RL.knownF (d := 57) rfl rfl (negT ((len1 _ _).trans (show inBd bd17 u = false by unfold inBd; rw [may17, show leF bd17.lo u = false from h52]; rfl))) ?_
        refine RL.q (.yes rfl rfl rfl) rfl rfl (Yld.pure rfl) ?_
        refine RL.q (.yes rfl rfl rfl) rfl rfl (Yld.lenSl u37 rfl) ?_
        iterate 2 refine RL.q (.yes rfl rfl rfl) rfl rfl (Yld.pure rfl) ?_
        refine RL.q (.yes rfl rfl rfl) rfl rfl (Yld.neqBool u4 rfl rfl) ?_
        iterate 2 refine RL.p rfl rfl ?_
        refine RL.knownF (d := 64) rfl rfl (negT (len1 _ _)) ?_
        refine RL.q (.yes rfl rfl rfl) rfl rfl (Yld.pure rfl) ?_
        refine RL.q (.yes rfl rfl rfl) rfl rfl (Yld.lenSl u37 rfl) ?_
        refine RL.q (.yes rfl rfl rfl) rfl rfl (Yld.pure rfl) ?_
        iterate 2 refine RL.p rfl rfl ?_
        refine RL.knownF (d := 69) rfl rfl (rfl) ?_
        iterate 2 refine RL.q (.yes rfl rfl rfl) rfl rfl (Yld.pure rfl) ?_
        first | refine RL.splitD (d := 71) rfl rfl (fun h71 => ?_) (fun h71 => ?_) | refine RL.splitN (d := 71) rfl rfl (fun h71 => ?_) (fun h71 => ?_) | refine RL.split (d := 71) rfl rfl (fun h71 => ?_) (fun h71 => ?_)
        · have hr12e := hr12x h71
          rw [hr12e] at hr12
          obtain ⟨ad12, c12, rfl⟩ := hr12.slice
          refine RL.q (.yes rfl rfl rfl) rfl rfl (Yld.pure rfl) ?_
          refine RL.q (.yes rfl rfl rfl) rfl rfl (Yld.lenSl u37 rfl) ?_
          iterate 2 refine RL.q (.yes rfl rfl rfl) rfl rfl (Yld.pure rfl) ?_
          iterate 2 refine RL.p rfl rfl ?_
          refine RL.knownF (d := 77) rfl rfl (rfl) ?_
          refine RL.q (.yes rfl rfl rfl) rfl rfl (Yld.pure rfl) ?_
          refine RL.op (.yes rfl rfl rfl) rfl rfl (Does.call rfl e24 (cacheLen_ok _ _ p mr mk _ _ (hc8.grow hg8e))) ?_
          rintro _ w16 ⟨rfl, hg16⟩
          iterate 2 refine RL.q (.yes rfl rfl rfl) rfl rfl (Yld.pure rfl) ?_
          refine RL.q (.yes rfl rfl rfl) rfl rfl (Yld.neqBool u4 rfl rfl) ?_
          iterate 2 refine RL.p rfl rfl ?_
          refine RL.knownF (d := 84) rfl rfl (negT (by rw [ho8.lens.1]; exact lenK _ _)) ?_
          refine RL.q (.yes rfl rfl rfl) rfl rfl (Yld.pure rfl) ?_
          refine RL.op (.yes rfl rfl rfl) rfl rfl (Does.call rfl e25 (cacheKeys_ok _ _ p mr mk _ _ (hc8.grow (hg8e.trans hg16)))) ?_
          rintro _ w17 ⟨rfl, hg17⟩
          iterate 2 refine RL.q (.yes rfl rfl rfl) rfl rfl (Yld.pure rfl) ?_
          refine RL.q (.yes rfl rfl rfl) rfl rfl (Yld.neqBool u4 rfl rfl) ?_
          refine RL.p rfl rfl ?_
          refine RL.done ?_
          refine RK.condF (hcF rfl (negT (by rw [ho8.lens.2]; exact lenK _ _))) ?_
          have hg8f := (hg8e.trans hg16).trans hg17
          refine RK.skip ?_
          refine RK.seq ?_
          refine RK.region ?_
          iterate 2 refine RL.p rfl rfl ?_
          refine RL.op (.free rfl) rfl rfl (Does.call rfl e38 (nan_ok _)) ?_
          rintro _ _ ⟨rfl, rfl⟩
          refine RL.op (.free rfl) rfl rfl (Does.call rfl e21 (of17_ok 7 critT at_ 9221120237041090561 (by decide) hatz _)) ?_
          rintro _ w18 ⟨b18, rfl, ha18, hg18⟩
          refine RL.op (.free rfl) rfl rfl (Does.call rfl e20 (cachePut_ok (fun b => b = mr ∨ b = mk) _ p mr mk _ _ (hc8.grow (hg8f.trans hg18)) (.inl rfl) (.inr rfl) (hc8.grow (hg8f.trans hg18)).lts _ (ha18 _ (hc8.grow hg8f).lts) (hb8.mono (by omega)))) ?_
          rintro _ w19 ⟨rfl, hc19', hm19⟩
          have hc19 := put17 hc19'
          have ho19 := ho8.put (inBd bd17 9221120237041090561) (key17 at_)
          rw [if_neg (by rw [hnan]; decide)] at ho19
          have hg19 : Grow w w19 := ((hg08.trans hg8f).trans hg18).then hm19 (fun b hb e => by rcases e with rfl | rfl <;> omega)
          refine RL.done ?_
          refine RK.seq ?_
          refine RK.region ?_
          refine RL.p rfl rfl ?_
          refine RL.op (.free rfl) rfl rfl (Does.call rfl e24 (cacheLen_ok _ _ p mr mk _ _ hc19)) ?_
          rintro _ w20 ⟨rfl, hg20⟩
          iterate 2 refine RL.p rfl rfl ?_
          refine RL.knownT (d := 99) rfl rfl (decide_eq_true (by rw [ho19.lens.1]; rfl)) ?_
          refine RL.q (.yes rfl rfl rfl) rfl rfl (Yld.pure rfl) ?_
          refine RL.op (.yes rfl rfl rfl) rfl rfl (Does.call rfl e25 (cacheKeys_ok _ _ p mr mk _ _ (hc19.grow hg20))) ?_
          rintro _ w21 ⟨rfl, hg21⟩
          refine RL.q (.yes rfl rfl rfl) rfl rfl (Yld.pure rfl) ?_
          iterate 2 refine RL.p rfl rfl ?_
          refine RL.knownT (d := 104) rfl rfl (decide_eq_true (by rw [ho19.lens.2]; rfl)) ?_
          refine RL.op (.yes rfl rfl rfl) rfl rfl (Does.call rfl e3 (cruns_ok _)) ?_
          rintro _ w22 ⟨rfl, hg22⟩
          iterate 2 refine RL.p rfl rfl ?_
          refine RL.done ?_
          refine RK.ret_of Tryz.func7 (res1 rfl rfl) ?_ _
          exact ⟨_, rfl, rfl, ((hg19.trans hg20).trans hg21).trans hg22⟩
        · obtain ⟨ad12, c12, rfl⟩ := hr12.slice
          iterate 3 refine RL.no (.no rfl rfl rfl rfl) rfl rfl ?_
          refine RL.q (.yes rfl rfl rfl) rfl rfl (Yld.pure rfl) ?_
          iterate 2 refine RL.p rfl rfl ?_
          refine RL.q (.yes rfl rfl rfl) rfl rfl (Yld.pure rfl) ?_
          refine RL.op (.yes rfl rfl rfl) rfl rfl (Does.call rfl e24 (cacheLen_ok _ _ p mr mk _ _ (hc8.grow hg8e))) ?_
          rintro _ w16 ⟨rfl, hg16⟩
          iterate 2 refine RL.q (.yes rfl rfl rfl) rfl rfl (Yld.pure rfl) ?_
          refine RL.q (.yes rfl rfl rfl) rfl rfl (Yld.neqBool u4 rfl rfl) ?_
          iterate 2 refine RL.p rfl rfl ?_
          refine RL.knownF (d := 84) rfl rfl (negT (by rw [ho8.lens.1]; exact lenK _ _)) ?_
          refine RL.q (.yes rfl rfl rfl) rfl rfl (Yld.pure rfl) ?_
          refine RL.op (.yes rfl rfl rfl) rfl rfl (Does.call rfl e25 (cacheKeys_ok _ _ p mr mk _ _ (hc8.grow (hg8e.trans hg16)))) ?_
          rintro _ w17 ⟨rfl, hg17⟩
          iterate 2 refine RL.q (.yes rfl rfl rfl) rfl rfl (Yld.pure rfl) ?_
          refine RL.q (.yes rfl rfl rfl) rfl rfl (Yld.neqBool u4 rfl rfl) ?_
          refine RL.p rfl rfl ?_
          refine RL.done ?_
          refine RK.condF (hcF rfl (negT (by rw [ho8.lens.2]; exact lenK _ _))) ?_
          have hg8f := (hg8e.trans hg16).trans hg17
          refine RK.skip ?_
          refine RK.seq ?_
          refine RK.region ?_
          iterate 2 refine RL.p rfl rfl ?_
          refine RL.op (.free rfl) rfl rfl (Does.call rfl e38 (nan_ok _)) ?_
          rintro _ _ ⟨rfl, rfl⟩
          refine RL.op (.free rfl) rfl rfl (Does.call rfl e21 (of17_ok 7 critT at_ 9221120237041090561 (by decide) hatz _)) ?_
          rintro _ w18 ⟨b18, rfl, ha18, hg18⟩
          refine RL.op (.free rfl) rfl rfl (Does.call rfl e20 (cachePut_ok (fun b => b = mr ∨ b = mk) _ p mr mk _ _ (hc8.grow (hg8f.trans hg18)) (.inl rfl) (.inr rfl) (hc8.grow (hg8f.trans hg18)).lts _ (ha18 _ (hc8.grow hg8f).lts) (hb8.mono (by omega)))) ?_
          rintro _ w19 ⟨rfl, hc19', hm19⟩
          have hc19 := put17 hc19'
          have ho19 := ho8.put (inBd bd17 9221120237041090561) (key17 at_)
          rw [if_neg (by rw [hnan]; decide)] at ho19
          have hg19 : Grow w w19 := ((hg08.trans hg8f).trans hg18).then hm19 (fun b hb e => by rcases e with rfl | rfl <;> omega)
          refine RL.done ?_
          refine RK.seq ?_
          refine RK.region ?_
          refine RL.p rfl rfl ?_
          refine RL.op (.free rfl) rfl rfl (Does.call rfl e24 (cacheLen_ok _ _ p mr mk _ _ hc19)) ?_
          rintro _ w20 ⟨rfl, hg20⟩
          iterate 2 refine RL.p rfl rfl ?_
          refine RL.knownT (d := 99) rfl rfl (decide_eq_true (by rw [ho19.lens.1]; rfl)) ?_
          refine RL.q (.yes rfl rfl rfl) rfl rfl (Yld.pure rfl) ?_
          refine RL.op (.yes rfl rfl rfl) rfl rfl (Does.call rfl e25 (cacheKeys_ok _ _ p mr mk _ _ (hc19.grow hg20))) ?_
          rintro _ w21 ⟨rfl, hg21⟩
          refine RL.q (.yes rfl rfl rfl) rfl rfl (Yld.pure rfl) ?_
          iterate 2 refine RL.p rfl rfl ?_
          refine RL.knownT (d := 104) rfl rfl (decide_eq_true (by rw [ho19.lens.2]; rfl)) ?_
          refine RL.op (.yes rfl rfl rfl) rfl rfl (Does.call rfl e3 (cruns_ok _)) ?_
          rintro _ w22 ⟨rfl, hg22⟩
          iterate 2 refine RL.p rfl rfl ?_
          refine RL.done ?_
          refine RK.ret_of Tryz.func7 (res1 rfl rfl) ?_ _
          exact ⟨_, rfl, rfl, ((hg19.trans hg20).trans hg21).trans hg22⟩
    · refine RK.region ?_
      iterate 2 refine RL.p rfl rfl ?_
      refine RL.re (d := 42) rfl rfl (congrArg Value.bool (ge_le 4607182418800017408 v)) ?_
      refine RL.p rfl rfl ?_
      first | refine RL.splitD (d := 43) rfl rfl (fun h43 => ?_) (fun h43 => ?_) | refine RL.splitN (d := 43) rfl rfl (fun h43 => ?_) (fun h43 => ?_) | refine RL.split (d := 43) rfl rfl (fun h43 => ?_) (fun h43 => ?_)
      · iterate 2 refine RL.q (.yes rfl rfl rfl) rfl rfl (Yld.pure rfl) ?_
        iterate 2 refine RL.p rfl rfl ?_
        refine RL.done ?_
        exact RK.back (hj _ (Mod.refl _ _)) ⟨rfl, rfl, rfl, rfl, rfl, rfl, rfl, rfl, congrArg (fun b => some (Value.bool b)) (show leF v 4621256167635550208 = inBd bd17 v by unfold inBd; rw [may17, show leF bd17.lo v = true from h43]; rfl), trivial⟩
      · iterate 2 refine RL.no (.no rfl rfl rfl rfl) rfl rfl ?_
        iterate 2 refine RL.p rfl rfl ?_
        refine RL.done ?_
        exact RK.back (hj _ (Mod.refl _ _)) ⟨rfl, rfl, rfl, rfl, rfl, rfl, rfl, rfl, congrArg (fun b => some (Value.bool b)) (show false = inBd bd17 v by unfold inBd; rw [may17, show leF bd17.lo v = false from h43]; rfl), trivial⟩
  · refine RK.seq ?_
    refine RK.region ?_
    refine RL.p rfl rfl ?_
    refine RL.done ?_
    first | refine RK.condD rfl (fun h25 => ?_) (fun h25 => ?_) | refine RK.condN rfl (fun h25 => ?_) (fun h25 => ?_) | refine RK.cond rfl (fun h25 => ?_) (fun h25 => ?_)
    · subst h25
      refine RK.region ?_
      refine RL.p rfl rfl ?_
      refine RL.done ?_
      exact RK.back (hj _ rfl) ⟨rfl, rfl, rfl, rfl, rfl, rfl, trivial⟩
    · subst h25
      refine RK.skip ?_
      exact RK.back (hj _ rfl) ⟨rfl, rfl, rfl, rfl, rfl, rfl, trivial⟩
end Go.Proofs.YthbjfhhiajihfaaGreat
set_option linter.unusedVariables false
namespace Go.X
open Go Go.RowKit Go.WideShapes Go.ChangeShapes
section
variable {H : Type} {enc : TypeId × Value → H} {P : Program} {W : World} {base : Nat} {sp : Nat → Bool} {held : Bool}
end
end Go.X
set_option linter.unusedVariables false
namespace Go.X
open Go Go.RowKit Go.WideShapes Go.ChangeShapes
section
variable {H : Type} {enc : TypeId × Value → H} {P : Program} {W : World} {base : Nat} {sp : Nat → Bool} {held : Bool}
end
end Go.X
namespace Go.Proofs.YthbjfhhiajihfaaGreat.cacheValues
open Go.ChangeShapes Go.WideShapes Go.ChangeAt Go.RowKit Go.X
set_option linter.unusedVariables false
theorem own : ownKnob Tryz.prog.godebug = none := by kernel_rfl
theorem laidOut : laidOutB Tryz.prog = true := by kernel_rfl
theorem params_ok : ∀ t ∈ Tryz.f7.params.toList, Tryz.prog.readableRec t = true ∧ t < Tryz.prog.types.size := by
  rw [Tryz.params7]
  intro t ht
  simp only [List.mem_cons, List.not_mem_nil, or_false] at ht
  rcases ht with rfl | rfl | rfl <;> exact ⟨by kernel_rfl, of_decide_eq_true (by kernel_rfl)⟩
set_option maxRecDepth 100000 in
theorem lifted (os : Os) (started : os.Started) (H : Type) (enc : TypeId × Value → H) :
    ReturnsInHanded {} Tryz.checked os 7 .any (Rows.cacheValuesSpec.pre6 enc Tryz.prog Tryz.f7 Rows.cacheValuesRow.domain false) (Rows.cacheValuesSpec.post enc Tryz.prog Tryz.f7 false true false false) := by
  refine returnsInHanded_of_change (C := Tryz.checked) own started (by kernel_rfl) Tryz.func7
    (ChangeSpec.witness6 (enc := enc) (C := Tryz.checked) false ⟨#[], #[.float .f64 0, .float .f64 0, .bool false], []⟩ 8 (by kernel_rfl) (by kernel_rfl) (by kernel_rfl) (by kernel_rfl)) ?_
  intro W base args ds gs before hval0 hW hcnd _
  have hval : ∀ (j : Nat) t v, Tryz.f7.params[j]? = some t → args[j]? = some v → Value.okWide Tryz.prog W .any base t v := hval0
  have hW' := hW
  obtain ⟨p, q, hA0, hV, rfl, hfz, hnd⟩ := hW
  have hlt : ∀ x ∈ p, x.block < W.heap.size := fun x hx => hW'.lt x (List.mem_append_left _ hx)
  have hA : DataW.TrodAll enc Tryz.prog W 0 (fun _ => true) true Tryz.f7.params.toList args.toList ds p := hA0
  have hA1 := hA
  rw [Tryz.params7] at hA hval
  obtain ⟨v0, vs0, d0, ds0, p0, q0, hargs, rfl, rfl, h0, r0⟩ := trodAll_cons hA
  obtain ⟨v1, vs1, d1, ds1, p1, q1, rfl, rfl, rfl, h1, r1⟩ := trodAll_cons r0
  obtain ⟨v2, vs2, d2, ds2, p2, q2, rfl, rfl, rfl, h2, r2⟩ := trodAll_cons r1
  obtain ⟨rfl, rfl, rfl⟩ := trodAll_nil r2
  obtain rfl : args = #[v0, v1, v2] := by cases args; simp_all
  obtain ⟨rfl, rfl⟩ := trodVars_none hV
  have hv0 := hval 0 25 v0 rfl rfl
  have hv1 := hval 1 25 v1 rfl rfl
  have hv2 := hval 2 4 v2 rfl rfl
  clear hval0 hval
  simp only [List.append_nil] at hW' hlt
  obtain ⟨u, rfl, _⟩ := X.open_float (base := 0) (H := H) (d := d0) (ps := p0) Tryz.underlying25 hv0
  obtain ⟨v, rfl, _⟩ := X.open_float (base := 0) (H := H) (d := d1) (ps := p1) Tryz.underlying25 hv1
  obtain ⟨move, rfl⟩ : ∃ b : Bool, v2 = .bool b := by
    have hq := hv2
    simp only [Value.okWide, Tryz.underlying4, Cell.okWide, Cell.ok] at hq
    cases v2 with
    | bool b => exact ⟨b, rfl⟩
    | _ => simp at hq
  have hwalk := cvalues_ok u v move W
  refine Calls.mono hwalk ?_
  rintro e W' ⟨v, rfl, rfl, hg⟩
  refine ⟨_, rfl, post_grow hW' (fun _ _ _ => trodAll_cons_mk (shut_bool Tryz.underlying4 _) trodAll_mk0) (fun sp hsp => ?_) (fun _ => rfl) hg (ok_one (by kernel_rfl) rfl (okWide_bool_mk Tryz.underlying4 _))⟩
  have hA2 := hA1
  simp only [List.append_nil] at hA2 hsp
  exact trodAll_grow laidOut hg sp _ _ _ _ params_ok hlt hsp hA2
end Go.Proofs.YthbjfhhiajihfaaGreat.cacheValues
