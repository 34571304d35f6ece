/- What the claim stands on, part 11. Of own lemmas only those that it reaches. -/
import Derived.Test.YtffbcfcoddacmaaGreatKi10
set_option linter.unusedVariables false
set_option linter.unusedSimpArgs false
set_option maxHeartbeats 2000000
set_option maxRecDepth 100000
namespace Go.Proofs.YtffbcfcoddacmaaGreat
open Go Go.X Go.Rex
theorem addRow0 {id : Int} {ls : List Lab} {rows : List (LabK × List Int)} (h : IxI [(id, ls)] rows) (hs : isS ls = true) : rows.length = ls.length := by
  have h1 := firsts_len (l := [(id, ls, 0)]) (rows := rows) h (by simpa using hs)
  rw [h1]
  simp only [List.flatMap_cons, List.flatMap_nil, List.append_nil]
  unfold firstL
  rw [List.filter_eq_self.2]
  intro y hy
  have hm := (h.mem (labK y) id).2 ⟨ls, by simp, y, hy, rfl⟩
  cases hr : (lookM rows (labK y)).getD [] with
  | nil => rw [hr] at hm; cases hm
  | cons q r =>
    obtain ⟨l2, h2, _⟩ := (h.mem (labK y) q).1 (by rw [hr]; simp)
    simp only [List.mem_singleton, Prod.mk.injEq] at h2
    simp [h2.1]
theorem idsS0 : (idsS []).length = 0 := by unfold idsS; rw [sortI_len]; rfl
theorem rows0 {rows : List (LabK × List Int)} (h : IxI [] rows) : rows.length = 0 := by
  have h1 := firsts_len (l := []) (rows := rows) h (by simp)
  simpa using h1
theorem ifinds_ok (l : List Sp) (vl : Value) (ds : List Dm) (vd : Value) (w : World) (hl : Sl No w vl 3 l.length (l.flatMap spC)) (hx : ∀ x ∈ l, x.Ok w) (hd : Sl No w vd 3 ds.length (ds.flatMap dmC)) :
    Fx Tryz.prog 7 [vl, vd] w (fun u w' => u = .bool true ∧ Grow w w') := by
  have hl0 := hl
  obtain ⟨adl, cl, rfl⟩ := hl.shape
  obtain ⟨add, cd, hvd⟩ := hd.shape
  refine enter Tryz.func7 rfl rfl rfl _ (Pick.sub (l := [0, 1]) (.cons rfl (.cons rfl .nil))) ?_
  refine RK.seq ?_
  refine RK.region ?_
  refine RL.p rfl rfl ?_
  refine RL.done ?_
  iterate 2 refine RK.seq ?_
  refine RK.region ?_
  refine RL.p rfl rfl ?_
  refine RL.q (.free rfl) rfl rfl (Yld.lenSl u65 rfl) ?_
  refine RL.p rfl rfl ?_
  refine RL.done ?_
  first | refine RK.condD rfl (fun h11 => ?_) (fun h11 => ?_) | refine RK.condN rfl (fun h11 => ?_) (fun h11 => ?_) | refine RK.cond rfl (fun h11 => ?_) (fun h11 => ?_)
  · refine RK.seq ?_
    refine RK.region ?_
    refine RL.op (.free rfl) rfl rfl (Does.call rfl e4 (iruns_ok _)) ?_
    rintro _ w2 ⟨rfl, hg2⟩
    refine RL.p rfl rfl ?_
    refine RL.done ?_
    refine RK.ret_of Tryz.func7 (res1 rfl rfl) ?_ _
    exact ⟨_, rfl, rfl, hg2⟩
  · refine RK.skip ?_
    refine RK.seq ?_
    refine RK.region ?_
    refine RL.p rfl rfl ?_
    refine RL.op (.free rfl) rfl rfl (Does.call rfl e40 (built_ok l _ _ hl0 hx (by omega))) ?_
    rintro _ w3 ⟨ix, M, rows, v, al, rfl, hj, hal, hbd⟩
    have hlen : al.length ≤ 60 := by have h1 := foldP_len l; have h2 := congrArg List.length hal; simp at h1 h2; omega
    have hsets : ∀ a ∈ al, isS a.ls = true := fun a ha => hj.im.sets (a.id, a.ls) (List.mem_map.2 ⟨pub a, List.mem_map_of_mem (f := pub) ha, rfl⟩)
    have hsl : Sl No w3 v 3 al.length (al.flatMap alC) := Sl.own hj.row (fun _ _ h => h)
    obtain ⟨adv, cv, hv⟩ := hj.row.slice
    have hslN : ∀ a ∈ al, SlL No w3 a.v a.ls := fun a ha => (hj.sls a ha).noM
    iterate 7 refine RL.p rfl rfl ?_
    refine RL.done ?_
    iterate 2 refine RK.seq ?_
    refine RK.region ?_
    iterate 2 refine RL.p rfl rfl ?_
    refine RL.done ?_
    refine RK.condF (hcF rfl (rfl)) ?_
    refine RK.skip ?_
    refine RK.seq ?_
    refine RK.region ?_
    refine RL.p rfl rfl ?_
    refine RL.op (.free rfl) rfl rfl (Does.call rfl e46 (mats_ok No ds false _ _ (hd.mod hj.grow))) ?_
    rintro u4 w4 ⟨hr4, hf4, hg4⟩
    have hsm4 : SlM No w4 u4 (matsS ds false) := Sl.own hr4 (fun _ _ h => h)
    have hnm := matsS_name ds false
    obtain ⟨ad4, c4, hu4⟩ := hsm4.shape
    have him := hj.im.grow hg4
    refine RL.p rfl rfl ?_
    refine RL.done ?_
    refine RK.seq ?_
    refine RK.region ?_
    iterate 2 refine RL.p rfl rfl ?_
    refine RL.op (.free rfl) rfl rfl (Does.call rfl e30 (him.find holdsM (matsS ds false) (fun m _ => matchHolds_ok m) (fun m _ hk _ ls h => holdsM_eq hk h) _ hsm4)) ?_
    rintro u5 w5 ⟨⟨R, hr5, hR, hmem⟩, hf5, hg5⟩
    have hg35 := hg4.trans hg5
    iterate 2 refine RL.p rfl rfl ?_
    refine RL.op (.free rfl) rfl rfl (Does.call rfl e47 (those_ok al (matsS ds false) hnm _ _ _ (by omega) (hsl.mod hg35) (fun a ha => (hslN a ha).mod hg35) (fun a ha x hx => by have := isS_val (hsets a ha) x hx; omega) (hsm4.mod hg5))) ?_
    rintro u6 w6 ⟨hr6, hf6, hg6⟩
    have hRe : R = rise (thoseS al (matsS ds false)) := ext_ris hR (rise_ris _) fun id => by rw [mem_rise, mem_thoseS, hmem]
    refine RL.op (.free rfl) rfl rfl (Does.call rfl e29 (sameInts_ok No R (rise (thoseS al (matsS ds false))) _ _ _ (Sl.own (hr5.mod hg6 (fun _ _ h => h)) (fun _ _ h => h)) (Sl.own hr6 (fun _ _ h => h)))) ?_
    rintro _ w7 ⟨rfl, hg7⟩
    refine RL.p rfl rfl ?_
    refine RL.knownT (d := 30) rfl rfl (by simp [hRe]) ?_
    refine RL.op (.yes rfl rfl rfl) rfl rfl (Does.call rfl e4 (iruns_ok _)) ?_
    rintro _ w8 ⟨rfl, hg8⟩
    iterate 2 refine RL.p rfl rfl ?_
    refine RL.done ?_
    refine RK.ret_of Tryz.func7 (res1 rfl rfl) ?_ _
    exact ⟨_, rfl, rfl, (((hj.grow.trans hg35).trans hg6).trans hg7).trans hg8⟩
theorem find_len {al : List Al} {ms : List Mt} {R : List Int} (hlen : al.length ≤ 60) (hR : Ris R) (hm : ∀ id, id ∈ R ↔ ∃ ls, (id, ls) ∈ hasOf (al.map pub) ∧ (ms.all fun m => holdsM m ls) = true) : R.length * 8 ≤ 140737488355328 := by
  have e : R = rise (thoseS al ms) := ext_ris hR (rise_ris _) fun id => by rw [mem_rise, mem_thoseS, hm]
  have h1 := thoseS_len al ms
  have h2 := mkRow_le (thoseS al ms)
  rw [e, rise_mkRow]
  omega
theorem find_parts {has : List (Int × List Lab)} (hnd : (has.map (·.1)).Nodup) {ms : List Mt} {k : Nat} {R R1 R2 : List Int} (hR : Ris R) (hR1 : Ris R1) (hm : ∀ id, id ∈ R ↔ ∃ ls, (id, ls) ∈ has ∧ (ms.all fun m => holdsM m ls) = true)
    (hm1 : ∀ id, id ∈ R1 ↔ ∃ ls, (id, ls) ∈ has ∧ ((ms.take k).all fun m => holdsM m ls) = true) (hm2 : ∀ id, id ∈ R2 ↔ ∃ ls, (id, ls) ∈ has ∧ ((ms.drop k).all fun m => holdsM m ls) = true) : R = (mkRow R1).filter fun n => R2.contains n := by
  refine ext_ris hR ((mkRow_ris R1).sublist List.filter_sublist) fun id => ?_
  rw [List.mem_filter, mem_mkRow, List.contains_iff_mem, hm, hm1, hm2]
  constructor
  · rintro ⟨ls, h1, h2⟩
    rw [← List.take_append_drop k ms, List.all_append, Bool.and_eq_true] at h2
    exact ⟨⟨ls, h1, h2.1⟩, ls, h1, h2.2⟩
  · rintro ⟨⟨ls, h1, h2⟩, ls', h1', h2'⟩
    have e1 := (lookM_iff hnd).2 h1
    rw [(lookM_iff hnd).2 h1'] at e1
    obtain rfl := Option.some.inj e1
    exact ⟨_, h1, by rw [← List.take_append_drop k ms, List.all_append, Bool.and_eq_true]; exact ⟨h2, h2'⟩⟩
theorem takeM {w : World} {ad : Option Addr} {c : Nat} {ms : List Mt} (h : SlM No w (.slice ad ms.length c) ms) {k : Nat} (hk : k ≤ ms.length) : SlM No w (.slice ad k c) (ms.take k) := by
  have h2 := Sl.takeF mtC_len h hk
  unfold SlM
  rw [List.length_take, Nat.min_eq_left hk]
  exact h2
theorem dropM {w : World} {ad : Option Addr} {c : Nat} {ms : List Mt} (h : SlM No w (.slice ad ms.length c) ms) {k : Nat} (hk : k ≤ ms.length) (hc : ms.length ≤ c) : SlM No w (.slice (fromAt ad c k 3) (ms.length - k) (c - k)) (ms.drop k) := by
  have h2 := Sl.fromF mtC_len h hk hc
  unfold SlM
  rw [List.length_drop]
  exact h2
theorem iparts_ok (l : List Sp) (vl : Value) (ds : List Dm) (vd : Value) (n : Int) (w : World) (hl : Sl No w vl 3 l.length (l.flatMap spC)) (hx : ∀ x ∈ l, x.Ok w) (hd : Sl No w vd 3 ds.length (ds.flatMap dmC)) :
    Fx Tryz.prog 8 [vl, vd, .int .i64 n] w (fun u w' => u = .bool true ∧ Grow w w') := by
  have hl0 := hl
  obtain ⟨adl, cl, rfl⟩ := hl.shape
  obtain ⟨add, cd, hvd⟩ := hd.shape
  refine enter Tryz.func8 rfl rfl rfl _ (Pick.sub (l := [0, 1, 2]) (.cons rfl (.cons rfl (.cons rfl .nil)))) ?_
  refine RK.seq ?_
  refine RK.region ?_
  refine RL.p rfl rfl ?_
  refine RL.done ?_
  iterate 2 refine RK.seq ?_
  refine RK.region ?_
  refine RL.p rfl rfl ?_
  refine RL.q (.free rfl) rfl rfl (Yld.lenSl u65 rfl) ?_
  refine RL.p rfl rfl ?_
  refine RL.done ?_
  first | refine RK.condD rfl (fun h13 => ?_) (fun h13 => ?_) | refine RK.condN rfl (fun h13 => ?_) (fun h13 => ?_) | refine RK.cond rfl (fun h13 => ?_) (fun h13 => ?_)
  · refine RK.seq ?_
    refine RK.region ?_
    refine RL.op (.free rfl) rfl rfl (Does.call rfl e4 (iruns_ok _)) ?_
    rintro _ w2 ⟨rfl, hg2⟩
    refine RL.p rfl rfl ?_
    refine RL.done ?_
    refine RK.ret_of Tryz.func8 (res1 rfl rfl) ?_ _
    exact ⟨_, rfl, rfl, hg2⟩
  · refine RK.skip ?_
    refine RK.seq ?_
    refine RK.region ?_
    refine RL.p rfl rfl ?_
    refine RL.op (.free rfl) rfl rfl (Does.call rfl e40 (built_ok l _ _ hl0 hx (by omega))) ?_
    rintro _ w3 ⟨ix, M, rows, v, al, rfl, hj, hal, hbd⟩
    have hlen : al.length ≤ 60 := by have h1 := foldP_len l; have h2 := congrArg List.length hal; simp at h1 h2; omega
    have hn : ((al.map pub).map (·.1)).Nodup := by have := hj.im.inv.nd; rwa [hasOf_keys] at this
    obtain ⟨adv, cv, hv⟩ := hj.row.slice
    iterate 7 refine RL.p rfl rfl ?_
    refine RL.done ?_
    iterate 2 refine RK.seq ?_
    refine RK.region ?_
    iterate 2 refine RL.p rfl rfl ?_
    refine RL.done ?_
    refine RK.condF (hcF rfl (rfl)) ?_
    refine RK.skip ?_
    refine RK.seq ?_
    refine RK.region ?_
    refine RL.p rfl rfl ?_
    refine RL.op (.free rfl) rfl rfl (Does.call rfl e46 (mats_ok No ds false _ _ (hd.mod hj.grow))) ?_
    rintro u4 w4 ⟨hr4, hf4, hg4⟩
    generalize hms : matsS ds false = ms at *
    have hsm4 : SlM No w4 u4 ms := Sl.own hr4 (fun _ _ h => h)
    obtain ⟨ad4, c4, rfl, hc4⟩ := hr4.cap
    refine RL.p rfl rfl ?_
    refine RL.done ?_
    refine RK.seq ?_
    refine RK.cutS (fun k : Nat => [(2, .int .i64 (k : Int)), (7, pp ix), (10, .slice ad4 ms.length c4)]) (fun k w' => k ≤ ms.length ∧ w4 = w') (fun k w' hQ => ?_) (fun hc => ?_)
    · obtain ⟨hk, rfl⟩ := hQ
      have him := hj.im.grow hg4
      have hall : ∀ m : Mt, HoldsC holdsM m := matchHolds_ok
      have hkeq : ∀ m : Mt, m.kind = 1 → m.value ≠ ByteArray.empty → ∀ ls, holdsM m ls = true → getL ls m.name = m.value := fun m hk _ ls h => holdsM_eq hk h
      refine RK.seq ?_
      refine RK.drawM No [(0, false), (1, false), (3, false), (4, false), (5, false), (6, false), (8, false), (9, false), (10, false), (11, false), (2, true), (7, true), (12, true), (13, true), (14, true), (15, false), (16, false), (18, false), (17, true), (19, true), (20, true), (21, false), (22, false), (23, true), (24, false), (25, false)] [] mixed (by kernel_rfl) ?_
      iterate 5 refine DL.p rfl rfl rfl ?_
      refine DL.qf rfl (.free rfl) rfl rfl (Yld.sliceHi u51 i50 (m := k) rfl rfl (by omega)) ?_
      iterate 3 refine DL.p rfl rfl rfl ?_
      refine DL.qf rfl (.free rfl) rfl rfl (Yld.sliceFrom u51 i50 (m := k) rfl rfl hk) ?_
      refine DL.op rfl (.free rfl) rfl rfl (Does.call rfl e30 ((him.grow (Mod.drew _ _)).find holdsM ms (fun m _ => hall m) (fun m _ => hkeq m) _ (hsm4.mod (Mod.drew _ _)))) ?_
      rintro u5 w5 ⟨⟨R, hr5, hR, hmem⟩, hf5, hg5⟩
      refine ⟨(Mod.drew No _).trans hg5, ?_⟩
      refine DL.op rfl (.free rfl) rfl rfl (Does.call rfl e30 ((him.grow ((Mod.drew No _).trans hg5)).find holdsM (ms.take k) (fun m _ => hall m) (fun m _ => hkeq m) _ (takeM (hsm4.mod ((Mod.drew No _).trans hg5)) hk))) ?_
      rintro u6 w6 ⟨⟨R1, hr6, hR1, hmem1⟩, hf6, hg6⟩
      have hg46 := ((Mod.drew No _).trans hg5).trans hg6
      refine ⟨hg46, ?_⟩
      refine DL.op rfl (.free rfl) rfl rfl (Does.call rfl e30 ((him.grow hg46).find holdsM (ms.drop k) (fun m _ => hall m) (fun m _ => hkeq m) _ (dropM (hsm4.mod hg46) hk hc4))) ?_
      rintro u7 w7 ⟨⟨R2, hr7, hR2, hmem2⟩, hf7, hg7⟩
      refine ⟨hg46.trans hg7, ?_⟩
      refine DL.op rfl (.free rfl) rfl rfl (Does.call rfl e48 (and_ok No R1 R2 _ _ _ (Sl.own (hr6.mod hg7 (fun _ _ h => h)) (fun _ _ h => h)) (Sl.own hr7 (fun _ _ h => h)) (find_len hlen hR1 hmem1))) ?_
      rintro u8 w8 ⟨hr8, hf8, hg8⟩
      refine ⟨(hg46.trans hg7).trans hg8, ?_⟩
      have hRe : R = (mkRow R1).filter fun n => R2.contains n := find_parts hj.im.inv.nd hR hR1 hmem hmem1 hmem2
      refine DL.op rfl (.free rfl) rfl rfl (Does.call rfl e29 (sameInts_ok No R ((mkRow R1).filter fun n => R2.contains n) _ _ _ (Sl.own (((hr5.mod hg6 (fun _ _ h => h)).mod hg7 (fun _ _ h => h)).mod hg8 (fun _ _ h => h)) (fun _ _ h => h)) (Sl.own hr8 (fun _ _ h => h)))) ?_
      rintro _ w9 ⟨rfl, hg9⟩
      have hg49 := ((hg46.trans hg7).trans hg8).trans hg9
      refine ⟨hg49, ?_⟩
      refine DL.p rfl rfl rfl ?_
      refine DL.knownT (d := 48) rfl rfl (by simp [hRe]) ?_
      iterate 2 refine DL.qf rfl (.yes rfl rfl rfl) rfl rfl (Yld.pure rfl) ?_
      refine DL.op rfl (.yes rfl rfl rfl) rfl rfl (Does.call rfl e30 ((him.grow hg49).find holdsM [] (fun m _ => hall m) (fun m _ => hkeq m) _ (Sl.nil _ _ _ _ _))) ?_
      rintro u10 w10 ⟨⟨R3, hr10, hR3, hmem3⟩, hf10, hg10⟩
      refine ⟨hg49.trans hg10, ?_⟩
      refine DL.op rfl (.yes rfl rfl rfl) rfl rfl (Does.call rfl e41 ((him.grow (hg49.trans hg10)).ids)) ?_
      rintro u11 w11 ⟨hr11, hf11, hg11⟩
      refine ⟨(hg49.trans hg10).trans hg11, ?_⟩
      have hR3e : R3 = idsS (hasOf (al.map pub)) := ext_ris hR3 (idsS_ris (by rw [hasOf_keys]; exact hn)) fun id => by rw [hmem3, mem_idsS]; simp
      refine DL.op rfl (.yes rfl rfl rfl) rfl rfl (Does.call rfl e29 (sameInts_ok No R3 (idsS (hasOf (al.map pub))) _ _ _ (Sl.own (hr10.mod hg11 (fun _ _ h => h)) (fun _ _ h => h)) (Sl.own hr11 (fun _ _ h => h)))) ?_
      rintro _ w12 ⟨rfl, hg12⟩
      refine ⟨((hg49.trans hg10).trans hg11).trans hg12, ?_⟩
      iterate 2 refine DL.p rfl rfl rfl ?_
      refine DL.knownT (d := 55) rfl rfl (by simp [hR3e]) ?_
      refine DL.op rfl (.yes rfl rfl rfl) rfl rfl (Does.call rfl e4 (iruns_ok _)) ?_
      rintro _ w13 ⟨rfl, hg13⟩
      refine ⟨(((hg49.trans hg10).trans hg11).trans hg12).trans hg13, ?_⟩
      iterate 2 refine DL.p rfl rfl rfl ?_
      refine DL.done ?_
      refine RK.ret_of Tryz.func8 (res1 rfl rfl) ?_ _
      exact ⟨_, rfl, rfl, (hj.grow.trans hg4).trans ((((hg49.trans hg10).trans hg11).trans hg12).trans hg13)⟩
    · refine RK.seq ?_
      refine RK.region ?_
      iterate 3 refine RL.p rfl rfl ?_
      first | refine RL.splitD (d := 27) rfl rfl (fun h26 => ?_) (fun h26 => ?_) | refine RL.splitN (d := 27) rfl rfl (fun h26 => ?_) (fun h26 => ?_) | refine RL.split (d := 27) rfl rfl (fun h26 => ?_) (fun h26 => ?_)
      · iterate 4 refine RL.no (.no rfl rfl rfl rfl) rfl rfl ?_
        refine RL.p rfl rfl ?_
        refine RL.done ?_
        refine RK.condT rfl ?_
        refine RK.region ?_
        refine RL.p rfl rfl ?_
        refine RL.done ?_
        exact RK.back (hc 0 _ ⟨by omega, rfl⟩) ⟨rfl, rfl, rfl, trivial⟩
      · iterate 2 refine RL.q (.yes rfl rfl rfl) rfl rfl (Yld.pure rfl) ?_
        refine RL.q (.yes rfl rfl rfl) rfl rfl (Yld.lenSl u51 rfl) ?_
        refine RL.q (.yes rfl rfl rfl) rfl rfl (Yld.pure rfl) ?_
        refine RL.p rfl rfl ?_
        refine RL.done ?_
        first | refine RK.condD rfl (fun h31 => ?_) (fun h31 => ?_) | refine RK.condN rfl (fun h31 => ?_) (fun h31 => ?_) | refine RK.cond rfl (fun h31 => ?_) (fun h31 => ?_)
        · refine RK.region ?_
          refine RL.p rfl rfl ?_
          refine RL.done ?_
          exact RK.back (hc 0 _ ⟨by omega, rfl⟩) ⟨rfl, rfl, rfl, trivial⟩
        · obtain ⟨k, rfl⟩ := Int.eq_ofNat_of_zero_le (a := n) (by omega)
          refine RK.skip ?_
          exact RK.back (hc k _ ⟨by omega, rfl⟩) ⟨rfl, rfl, rfl, trivial⟩
theorem iraw_ok (id : Int) (hid : -9223372036854775808 ≤ id ∧ id ≤ 9223372036854775807) (ls : List Lab) (hsz : ∀ x ∈ ls, x.name.size ≤ 9223372036854775807) (v : Value) (m : Mt) (hmz : m.name.size ≤ 9223372036854775807) (w : World) (hv : SlL No w v ls) :
    Fx Tryz.prog 9 [.int .i64 id, v, .agg (mtC m).toArray] w (fun u w' => u = .bool true ∧ Grow w w') := by
  obtain ⟨ad, c, rfl⟩ := hv.shape
  refine enter Tryz.func9 rfl rfl rfl _ (Pick.sub (l := [0, 1, 2]) (.cons rfl (.cons rfl (.cons rfl .nil)))) ?_
  refine RK.seq ?_
  refine RK.region ?_
  refine RL.op (.free rfl) rfl rfl (Does.box rfl) ?_
  rintro _ w5 ⟨b5, rfl, hn5⟩
  have hB5 : Blk w5 b5 50 (mtC m) := hn5.blk
  refine RL.p rfl rfl ?_
  refine RL.done ?_
  iterate 2 refine RK.seq ?_
  refine RK.region ?_
  refine RL.p rfl rfl ?_
  refine RL.op (.free rfl) rfl rfl (Does.call rfl e49 (weight_ok No ls _ 200 _ (hv.mod hn5.grow))) ?_
  rintro _ w6 ⟨⟨n6, rfl⟩, hg6⟩
  iterate 2 refine RL.p rfl rfl ?_
  first | refine RL.splitD (d := 13) rfl rfl (fun h12 => ?_) (fun h12 => ?_) | refine RL.splitN (d := 13) rfl rfl (fun h12 => ?_) (fun h12 => ?_) | refine RL.split (d := 13) rfl rfl (fun h12 => ?_) (fun h12 => ?_)
  · iterate 4 refine RL.no (.no rfl rfl rfl rfl) rfl rfl ?_
    refine RL.p rfl rfl ?_
    refine RL.done ?_
    refine RK.condT rfl ?_
    refine RK.seq ?_
    refine RK.region ?_
    refine RL.op (.free rfl) rfl rfl (Does.call rfl e4 (iruns_ok _)) ?_
    rintro _ w2 ⟨rfl, hg2⟩
    refine RL.p rfl rfl ?_
    refine RL.done ?_
    refine RK.ret_of Tryz.func9 (res1 rfl rfl) ?_ _
    exact ⟨_, rfl, rfl, (hn5.grow.trans hg6).trans hg2⟩
  · refine RL.q (.yes rfl rfl rfl) rfl rfl (Yld.loadN (cs := mtC m) a50 rfl (atN (blk0' (hB5.mod hg6 (fun h => h))))) ?_
    refine RL.op (.yes rfl rfl rfl) rfl rfl (Does.slice1 u51 i50 rfl rfl rfl rfl rfl) ?_
    rintro _ w7 ⟨b7, rfl, hn7⟩
    refine RL.op (.yes rfl rfl rfl) rfl rfl (Does.call rfl e50 (weightM_ok No [m] _ 60 _ (Sl.new hn7 3 1 rfl (by omega) (fun h => h)))) ?_
    rintro _ w8 ⟨⟨n8, rfl⟩, hg8⟩
    refine RL.q (.yes rfl rfl rfl) rfl rfl (Yld.pure rfl) ?_
    refine RL.p rfl rfl ?_
    refine RL.done ?_
    first | refine RK.condD rfl (fun h17 => ?_) (fun h17 => ?_) | refine RK.condN rfl (fun h17 => ?_) (fun h17 => ?_) | refine RK.cond rfl (fun h17 => ?_) (fun h17 => ?_)
    · refine RK.seq ?_
      refine RK.region ?_
      refine RL.op (.free rfl) rfl rfl (Does.call rfl e4 (iruns_ok _)) ?_
      rintro _ w2 ⟨rfl, hg2⟩
      refine RL.p rfl rfl ?_
      refine RL.done ?_
      refine RK.ret_of Tryz.func9 (res1 rfl rfl) ?_ _
      exact ⟨_, rfl, rfl, (((hn5.grow.trans hg6).trans hn7.grow).trans hg8).trans hg2⟩
    · have hg58 := (hg6.trans hn7.grow).trans hg8
      have hg08 := hn5.grow.trans hg58
      refine RK.skip ?_
      refine RK.seq ?_
      refine RK.region ?_
      refine RL.op (.free rfl) rfl rfl (Does.call rfl e27 (im_new _)) ?_
      rintro _ w9 ⟨ix, M, rfl, k1, hM, _, hg9⟩
      refine RL.p rfl rfl ?_
      refine RL.done ?_
      iterate 2 refine RK.seq ?_
      refine RK.region ?_
      refine RL.p rfl rfl ?_
      refine RL.q (.free rfl) rfl rfl (Yld.eqPtr Tryz.underlying42 rfl rfl) ?_
      refine RL.done ?_
      refine RK.condF (hcF rfl (rfl)) ?_
      have hg09 := hg08.trans hg9
      have hvM : SlL (fun b => M b ∨ No b) w9 (.slice ad ls.length c) ls := (hv.off (by omega) (fun b hb e => by have h5 := (show M b ∨ No b from e).resolve_right (fun h => h); have := hM b h5; have := hg08.size; omega)).mod (Mod.any' hg09)
      refine RK.skip ?_
      refine RK.seq ?_
      refine RK.region ?_
      iterate 3 refine RL.p rfl rfl ?_
      refine RL.op (.free rfl) rfl rfl (Does.call rfl e28 (k1.add (by simp) (by simp) hid hvM)) ?_
      rintro _ w10 ⟨rfl, k2, hm10⟩
      have hea : addable [] id ls = isS ls := by unfold addable; simp [lookM, placeM]
      rw [hea]
      have hg9a : Grow w8 w10 := hg9.then hm10 (fun b hb e => by have := hM b e; omega)
      have hg0a := hg08.trans hg9a
      obtain ⟨has, hhas⟩ : ∃ has, addH [] id ls = has := ⟨_, rfl⟩
      obtain ⟨rows, hrows⟩ : ∃ rows, addR [] [] id ls = rows := ⟨_, rfl⟩
      rw [hhas, hrows] at k2
      have hasE : has = if isS ls = true then [(id, ls)] else [] := by rw [← hhas]; unfold addH; rw [hea]; rfl
      refine RL.p rfl rfl ?_
      refine RL.done ?_
      refine RK.seq ?_
      refine RK.cut [(0, .int .i64 id), (1, .slice ad ls.length c), (5, pp b5), (7, pp ix), (8, .bool (isS ls))] (fun w' => Grow w10 w') (fun w11 hg11 => ?_) (fun hc => ?_)
      · have k3 := k2.grow hg11
        have hg0b := hg0a.trans hg11
        have hB5b := hB5.mod ((hg58.trans hg9a).trans hg11) (fun h => h)
        generalize hal : (if isS ls = true then [(⟨id, ls, 0, .slice ad ls.length c⟩ : Al)] else []) = al
        have hhal : has = hasOf (al.map pub) := by rw [hasE, ← hal]; split <;> rfl
        have hal1 : al.length ≤ 1 := by rw [← hal]; split <;> simp
        have hals : ∀ a ∈ al, a.ls = ls ∧ a.v = .slice ad ls.length c ∧ isS ls = true := fun a ha => by
            rw [← hal] at ha
            split at ha
            · simp only [List.mem_singleton] at ha; subst ha; exact ⟨rfl, rfl, by assumption⟩
            · cases ha
        refine RK.seq ?_
        refine RK.region ?_
        refine RL.p rfl rfl ?_
        refine RL.done ?_
        refine RK.seq ?_
        refine RK.cutS (fun v9 => [(0, .int .i64 id), (5, pp b5), (7, pp ix), (8, .bool (isS ls)), (9, v9)]) (fun v9 w' => Sl No w' v9 3 al.length (al.flatMap alC) ∧ Grow w11 w') (fun v9 w12 hQ => ?_) (fun hc => ?_)
        · obtain ⟨hsl, hg12⟩ := hQ
          have k4 := k3.grow hg12
          have hB5c := hB5b.mod hg12 (fun h => h)
          have hg0c := hg0b.trans hg12
          have hmem1 : ∀ a ∈ al, SlL No w12 a.v a.ls := fun a ha => by rw [(hals a ha).1, (hals a ha).2.1]; exact hv.mod hg0c
          have hz1 : ∀ a ∈ al, ∀ x ∈ a.ls, x.value.size ≤ 100000 := fun a ha x hx => by rw [(hals a ha).1] at hx; have := isS_val (hals a ha).2.2 x hx; omega
          obtain ⟨ad9, c9, rfl⟩ := hsl.shape
          have hall : ∀ m : Mt, HoldsC holdsM m := matchHolds_ok
          have hkeq : ∀ m : Mt, m.kind = 1 → m.value ≠ ByteArray.empty → ∀ ls, holdsM m ls = true → getL ls m.name = m.value := fun m hk _ ls h => holdsM_eq hk h
          have hmz1 : ∀ x ∈ [m], x.name.size ≤ 9223372036854775807 := fun x hx => by rw [List.mem_singleton] at hx; subst hx; exact hmz
          iterate 2 refine RK.seq ?_
          refine RK.drawT No (.op 0 false (.op 1 false (.op 4 false (.op 5 false (.fork 2 (.fork 3 (.op 6 true (.op 7 true (.op 8 true (.op 9 false .nil)))) 6 (.op 3 true (.op 7 true (.op 8 true (.op 9 false .nil))))) 6 (.op 2 true (.op 3 true (.op 7 true (.op 8 true (.op 9 false .nil)))))))))) [] mixed (by kernel_rfl) ?_
          refine DT.p rfl rfl rfl ?_
          refine DT.q rfl (.free rfl) rfl rfl rfl (Yld.loadN (cs := mtC m) a50 rfl (atNM (blk0' hB5c) (fun h => h))) (Mod.drew _ _) ?_
          refine DT.p rfl rfl rfl ?_
          refine DT.q rfl (.free rfl) rfl rfl rfl (Yld.loadN (cs := mtC m) a50 rfl (atNM (blk0' hB5c) (fun h => h))) (Mod.drew _ _) ?_
          refine DT.fork ?_ ?_
          · refine DT.op rfl (.free rfl) rfl rfl (Does.slice1 u51 i50 rfl rfl rfl rfl rfl) ?_
            rintro _ v20 ⟨b20, rfl, hn20⟩
            refine ⟨(Mod.drew No w12).trans hn20.grow, ?_⟩
            refine DT.fork ?_ ?_
            · refine DT.op rfl (.free rfl) rfl rfl (Does.call rfl e30 ((k4.grow ((Mod.drew No w12).trans hn20.grow)).find holdsM [m] (fun m _ => hall m) (fun m _ => hkeq m) _ (Sl.new hn20 3 1 rfl (by omega) (fun h => h)))) ?_
              rintro z22 v22 ⟨⟨R, hr22, hR, hmem⟩, hf22, hg22⟩
              refine ⟨((Mod.drew No w12).trans hn20.grow).trans hg22, ?_⟩
              refine DT.op rfl (.free rfl) rfl rfl (Does.slice1 u51 i50 rfl rfl rfl rfl rfl) ?_
              rintro _ v21 ⟨b21, rfl, hn21⟩
              refine ⟨(((Mod.drew No w12).trans hn20.grow).trans hg22).trans hn21.grow, ?_⟩
              have hS2 : SlM No _ _ [m] := Sl.new hn21 3 1 rfl (by omega) (fun h => h)
              have hR2 := hr22.mod hn21.grow (fun _ _ h => h)
              have hG2 := (((Mod.drew No w12).trans hn20.grow).trans hg22).trans hn21.grow
              refine DT.op rfl (.free rfl) rfl rfl (Does.call rfl e47 (those_ok al [m] hmz1 _ _ _ (by omega) (hsl.mod hG2) (fun a ha => (hmem1 a ha).mod hG2) hz1 hS2)) ?_
              rintro z23 w23 ⟨hr23, hf23, hg23⟩
              refine ⟨hG2.trans hg23, ?_⟩
              have hRe : R = rise (thoseS al [m]) := ext_ris hR (rise_ris _) fun id => by rw [mem_rise, mem_thoseS, hmem, hhal]
              refine DT.op rfl (.free rfl) rfl rfl (Does.call rfl e29 (sameInts_ok No R (rise (thoseS al [m])) _ _ _ (Sl.own (hR2.mod hg23 (fun _ _ h => h)) (fun _ _ h => h)) (Sl.own hr23 (fun _ _ h => h)))) ?_
              rintro _ w24 ⟨rfl, hg24⟩
              have hgz := (hG2.trans hg23).trans hg24
              refine ⟨hgz, ?_⟩
              refine DT.p rfl rfl rfl ?_
              refine DT.done ?_
              refine RK.condF (hcF rfl (by simp [hRe])) ?_
              have k5 := k4.grow hgz
              have hg0d := hg0c.trans hgz
              have hlk : (lookM has id).isSome = isS ls := by rw [hasE]; cases isS ls <;> simp [lookM, placeM]
              have hct : cutM has id = [] := by rw [hasE]; cases isS ls <;> simp [cutM, placeM]
              have hct2 : cutM (cutM has id) id = [] := by rw [hct]; rfl
              have hlk2 : (lookM (cutM has id) id).isSome = false := by rw [hct]; rfl
              refine RK.skip ?_
              refine RK.seq ?_
              refine RK.region ?_
              iterate 2 refine RL.p rfl rfl ?_
              refine RL.op (.free rfl) rfl rfl (Does.call rfl e52 (k5.drop id)) ?_
              rintro _ w25 ⟨rfl, k6, hm25⟩
              refine RL.p rfl rfl ?_
              refine RL.q (.free rfl) rfl rfl (Yld.eqBool u4 rfl rfl) ?_
              refine RL.p rfl rfl ?_
              refine RL.knownT (d := 80) rfl rfl (by simp [hlk]) ?_
              iterate 2 refine RL.q (.yes rfl rfl rfl) rfl rfl (Yld.pure rfl) ?_
              refine RL.op (.yes rfl rfl rfl) rfl rfl (Does.call rfl e52 (k6.drop id)) ?_
              rintro _ w26 ⟨rfl, k7, hm26⟩
              refine RL.q (.yes rfl rfl rfl) rfl rfl (Yld.pure rfl) ?_
              iterate 2 refine RL.p rfl rfl ?_
              refine RL.knownT (d := 86) rfl rfl (by rw [hlk2]; rfl) ?_
              refine RL.q (.yes rfl rfl rfl) rfl rfl (Yld.pure rfl) ?_
              rw [hct2] at k7
              have hr0 := rows0 k7.inv
              refine RL.op (.yes rfl rfl rfl) rfl rfl (Does.call rfl e31 (k7.size)) ?_
              rintro _ _ ⟨rfl, rfl⟩
              refine RL.q (.yes rfl rfl rfl) rfl rfl (Yld.pure rfl) ?_
              iterate 2 refine RL.p rfl rfl ?_
              refine RL.knownT (d := 91) rfl rfl (by rw [hr0]; simp) ?_
              refine RL.q (.yes rfl rfl rfl) rfl rfl (Yld.pure rfl) ?_
              refine RL.op (.yes rfl rfl rfl) rfl rfl (Does.call rfl e41 (k7.ids)) ?_
              rintro z27 w27 ⟨hr27, _, hg27⟩
              obtain ⟨ad27, c27, rfl⟩ := hr27.slice
              refine RL.q (.yes rfl rfl rfl) rfl rfl (Yld.lenSl u22 rfl) ?_
              refine RL.q (.yes rfl rfl rfl) rfl rfl (Yld.pure rfl) ?_
              iterate 2 refine RL.p rfl rfl ?_
              refine RL.knownT (d := 97) rfl rfl (by rw [idsS0]; rfl) ?_
              refine RL.op (.yes rfl rfl rfl) rfl rfl (Does.call rfl e4 (iruns_ok _)) ?_
              rintro _ w28 ⟨rfl, hg28⟩
              iterate 2 refine RL.p rfl rfl ?_
              refine RL.done ?_
              refine RK.ret_of Tryz.func9 (res1 rfl rfl) ?_ _
              exact ⟨_, rfl, rfl, (((hg0d.then hm25 (fun b hb e => by have := hM b e; have := hg08.size; omega)).then hm26 (fun b hb e => by have := hM b e; have := hg08.size; omega)).trans hg27).trans hg28⟩
            · refine DT.op rfl (.free rfl) rfl rfl (Does.slice1 u51 i50 rfl rfl rfl rfl rfl) ?_
              rintro _ v21 ⟨b21, rfl, hn21⟩
              refine ⟨((Mod.drew No w12).trans hn20.grow).trans hn21.grow, ?_⟩
              refine DT.op rfl (.free rfl) rfl rfl (Does.call rfl e30 ((k4.grow (((Mod.drew No w12).trans hn20.grow).trans hn21.grow)).find holdsM [m] (fun m _ => hall m) (fun m _ => hkeq m) _ ((Sl.new hn20 3 1 rfl (by omega) (fun h => h)).mod hn21.grow))) ?_
              rintro z22 v22 ⟨⟨R, hr22, hR, hmem⟩, hf22, hg22⟩
              refine ⟨(((Mod.drew No w12).trans hn20.grow).trans hn21.grow).trans hg22, ?_⟩
              have hS2 : SlM No _ _ [m] := Sl.mod (Sl.new hn21 3 1 rfl (by omega) (fun h => h)) hg22
              have hR2 := hr22
              have hG2 := (((Mod.drew No w12).trans hn20.grow).trans hn21.grow).trans hg22
              refine DT.op rfl (.free rfl) rfl rfl (Does.call rfl e47 (those_ok al [m] hmz1 _ _ _ (by omega) (hsl.mod hG2) (fun a ha => (hmem1 a ha).mod hG2) hz1 hS2)) ?_
              rintro z23 w23 ⟨hr23, hf23, hg23⟩
              refine ⟨hG2.trans hg23, ?_⟩
              have hRe : R = rise (thoseS al [m]) := ext_ris hR (rise_ris _) fun id => by rw [mem_rise, mem_thoseS, hmem, hhal]
              refine DT.op rfl (.free rfl) rfl rfl (Does.call rfl e29 (sameInts_ok No R (rise (thoseS al [m])) _ _ _ (Sl.own (hR2.mod hg23 (fun _ _ h => h)) (fun _ _ h => h)) (Sl.own hr23 (fun _ _ h => h)))) ?_
              rintro _ w24 ⟨rfl, hg24⟩
              have hgz := (hG2.trans hg23).trans hg24
              refine ⟨hgz, ?_⟩
              refine DT.p rfl rfl rfl ?_
              refine DT.done ?_
              refine RK.condF (hcF rfl (by simp [hRe])) ?_
              have k5 := k4.grow hgz
              have hg0d := hg0c.trans hgz
              have hlk : (lookM has id).isSome = isS ls := by rw [hasE]; cases isS ls <;> simp [lookM, placeM]
              have hct : cutM has id = [] := by rw [hasE]; cases isS ls <;> simp [cutM, placeM]
              have hct2 : cutM (cutM has id) id = [] := by rw [hct]; rfl
              have hlk2 : (lookM (cutM has id) id).isSome = false := by rw [hct]; rfl
              refine RK.skip ?_
              refine RK.seq ?_
              refine RK.region ?_
              iterate 2 refine RL.p rfl rfl ?_
              refine RL.op (.free rfl) rfl rfl (Does.call rfl e52 (k5.drop id)) ?_
              rintro _ w25 ⟨rfl, k6, hm25⟩
              refine RL.p rfl rfl ?_
              refine RL.q (.free rfl) rfl rfl (Yld.eqBool u4 rfl rfl) ?_
              refine RL.p rfl rfl ?_
              refine RL.knownT (d := 80) rfl rfl (by simp [hlk]) ?_
              iterate 2 refine RL.q (.yes rfl rfl rfl) rfl rfl (Yld.pure rfl) ?_
              refine RL.op (.yes rfl rfl rfl) rfl rfl (Does.call rfl e52 (k6.drop id)) ?_
              rintro _ w26 ⟨rfl, k7, hm26⟩
              refine RL.q (.yes rfl rfl rfl) rfl rfl (Yld.pure rfl) ?_
              iterate 2 refine RL.p rfl rfl ?_
              refine RL.knownT (d := 86) rfl rfl (by rw [hlk2]; rfl) ?_
              refine RL.q (.yes rfl rfl rfl) rfl rfl (Yld.pure rfl) ?_
              rw [hct2] at k7
              have hr0 := rows0 k7.inv
              refine RL.op (.yes rfl rfl rfl) rfl rfl (Does.call rfl e31 (k7.size)) ?_
              rintro _ _ ⟨rfl, rfl⟩
              refine RL.q (.yes rfl rfl rfl) rfl rfl (Yld.pure rfl) ?_
              iterate 2 refine RL.p rfl rfl ?_
              refine RL.knownT (d := 91) rfl rfl (by rw [hr0]; simp) ?_
              refine RL.q (.yes rfl rfl rfl) rfl rfl (Yld.pure rfl) ?_
              refine RL.op (.yes rfl rfl rfl) rfl rfl (Does.call rfl e41 (k7.ids)) ?_
              rintro z27 w27 ⟨hr27, _, hg27⟩
              obtain ⟨ad27, c27, rfl⟩ := hr27.slice
              refine RL.q (.yes rfl rfl rfl) rfl rfl (Yld.lenSl u22 rfl) ?_
              refine RL.q (.yes rfl rfl rfl) rfl rfl (Yld.pure rfl) ?_
              iterate 2 refine RL.p rfl rfl ?_
              refine RL.knownT (d := 97) rfl rfl (by rw [idsS0]; rfl) ?_
              refine RL.op (.yes rfl rfl rfl) rfl rfl (Does.call rfl e4 (iruns_ok _)) ?_
              rintro _ w28 ⟨rfl, hg28⟩
              iterate 2 refine RL.p rfl rfl ?_
              refine RL.done ?_
              refine RK.ret_of Tryz.func9 (res1 rfl rfl) ?_ _
              exact ⟨_, rfl, rfl, (((hg0d.then hm25 (fun b hb e => by have := hM b e; have := hg08.size; omega)).then hm26 (fun b hb e => by have := hM b e; have := hg08.size; omega)).trans hg27).trans hg28⟩
          · refine DT.op rfl (.free rfl) rfl rfl (Does.slice1 u51 i50 rfl rfl rfl rfl rfl) ?_
            rintro _ v21 ⟨b21, rfl, hn21⟩
            refine ⟨(Mod.drew No w12).trans hn21.grow, ?_⟩
            refine DT.op rfl (.free rfl) rfl rfl (Does.slice1 u51 i50 rfl rfl rfl rfl rfl) ?_
            rintro _ v20 ⟨b20, rfl, hn20⟩
            refine ⟨((Mod.drew No w12).trans hn21.grow).trans hn20.grow, ?_⟩
            refine DT.op rfl (.free rfl) rfl rfl (Does.call rfl e30 ((k4.grow (((Mod.drew No w12).trans hn21.grow).trans hn20.grow)).find holdsM [m] (fun m _ => hall m) (fun m _ => hkeq m) _ (Sl.new hn20 3 1 rfl (by omega) (fun h => h)))) ?_
            rintro z22 v22 ⟨⟨R, hr22, hR, hmem⟩, hf22, hg22⟩
            refine ⟨(((Mod.drew No w12).trans hn21.grow).trans hn20.grow).trans hg22, ?_⟩
            have hS2 : SlM No _ _ [m] := Sl.mod (Sl.mod (Sl.new hn21 3 1 rfl (by omega) (fun h => h)) hn20.grow) hg22
            have hR2 := hr22
            have hG2 := (((Mod.drew No w12).trans hn21.grow).trans hn20.grow).trans hg22
            refine DT.op rfl (.free rfl) rfl rfl (Does.call rfl e47 (those_ok al [m] hmz1 _ _ _ (by omega) (hsl.mod hG2) (fun a ha => (hmem1 a ha).mod hG2) hz1 hS2)) ?_
            rintro z23 w23 ⟨hr23, hf23, hg23⟩
            refine ⟨hG2.trans hg23, ?_⟩
            have hRe : R = rise (thoseS al [m]) := ext_ris hR (rise_ris _) fun id => by rw [mem_rise, mem_thoseS, hmem, hhal]
            refine DT.op rfl (.free rfl) rfl rfl (Does.call rfl e29 (sameInts_ok No R (rise (thoseS al [m])) _ _ _ (Sl.own (hR2.mod hg23 (fun _ _ h => h)) (fun _ _ h => h)) (Sl.own hr23 (fun _ _ h => h)))) ?_
            rintro _ w24 ⟨rfl, hg24⟩
            have hgz := (hG2.trans hg23).trans hg24
            refine ⟨hgz, ?_⟩
            refine DT.p rfl rfl rfl ?_
            refine DT.done ?_
            refine RK.condF (hcF rfl (by simp [hRe])) ?_
            have k5 := k4.grow hgz
            have hg0d := hg0c.trans hgz
            have hlk : (lookM has id).isSome = isS ls := by rw [hasE]; cases isS ls <;> simp [lookM, placeM]
            have hct : cutM has id = [] := by rw [hasE]; cases isS ls <;> simp [cutM, placeM]
            have hct2 : cutM (cutM has id) id = [] := by rw [hct]; rfl
            have hlk2 : (lookM (cutM has id) id).isSome = false := by rw [hct]; rfl
            refine RK.skip ?_
            refine RK.seq ?_
            refine RK.region ?_
            iterate 2 refine RL.p rfl rfl ?_
            refine RL.op (.free rfl) rfl rfl (Does.call rfl e52 (k5.drop id)) ?_
            rintro _ w25 ⟨rfl, k6, hm25⟩
            refine RL.p rfl rfl ?_
            refine RL.q (.free rfl) rfl rfl (Yld.eqBool u4 rfl rfl) ?_
            refine RL.p rfl rfl ?_
            refine RL.knownT (d := 80) rfl rfl (by simp [hlk]) ?_
            iterate 2 refine RL.q (.yes rfl rfl rfl) rfl rfl (Yld.pure rfl) ?_
            refine RL.op (.yes rfl rfl rfl) rfl rfl (Does.call rfl e52 (k6.drop id)) ?_
            rintro _ w26 ⟨rfl, k7, hm26⟩
            refine RL.q (.yes rfl rfl rfl) rfl rfl (Yld.pure rfl) ?_
            iterate 2 refine RL.p rfl rfl ?_
            refine RL.knownT (d := 86) rfl rfl (by rw [hlk2]; rfl) ?_
            refine RL.q (.yes rfl rfl rfl) rfl rfl (Yld.pure rfl) ?_
            rw [hct2] at k7
            have hr0 := rows0 k7.inv
            refine RL.op (.yes rfl rfl rfl) rfl rfl (Does.call rfl e31 (k7.size)) ?_
            rintro _ _ ⟨rfl, rfl⟩
            refine RL.q (.yes rfl rfl rfl) rfl rfl (Yld.pure rfl) ?_
            iterate 2 refine RL.p rfl rfl ?_
            refine RL.knownT (d := 91) rfl rfl (by rw [hr0]; simp) ?_
            refine RL.q (.yes rfl rfl rfl) rfl rfl (Yld.pure rfl) ?_
            refine RL.op (.yes rfl rfl rfl) rfl rfl (Does.call rfl e41 (k7.ids)) ?_
            rintro z27 w27 ⟨hr27, _, hg27⟩
            obtain ⟨ad27, c27, rfl⟩ := hr27.slice
            refine RL.q (.yes rfl rfl rfl) rfl rfl (Yld.lenSl u22 rfl) ?_
            refine RL.q (.yes rfl rfl rfl) rfl rfl (Yld.pure rfl) ?_
            iterate 2 refine RL.p rfl rfl ?_
            refine RL.knownT (d := 97) rfl rfl (by rw [idsS0]; rfl) ?_
            refine RL.op (.yes rfl rfl rfl) rfl rfl (Does.call rfl e4 (iruns_ok _)) ?_
            rintro _ w28 ⟨rfl, hg28⟩
            iterate 2 refine RL.p rfl rfl ?_
            refine RL.done ?_
            refine RK.ret_of Tryz.func9 (res1 rfl rfl) ?_ _
            exact ⟨_, rfl, rfl, (((hg0d.then hm25 (fun b hb e => by have := hM b e; have := hg08.size; omega)).then hm26 (fun b hb e => by have := hM b e; have := hg08.size; omega)).trans hg27).trans hg28⟩
        · refine RK.seq ?_
          refine RK.region ?_
          refine RL.p rfl rfl ?_
          refine RL.done ?_
          first | refine RK.condD rfl (fun h58 => ?_) (fun h58 => ?_) | refine RK.condN rfl (fun h58 => ?_) (fun h58 => ?_) | refine RK.cond rfl (fun h58 => ?_) (fun h58 => ?_)
          · refine RK.region ?_
            iterate 3 refine RL.p rfl rfl ?_
            refine RL.q (.free rfl) rfl rfl (Yld.build (v := .agg #[.int .i64 id, .slice ad ls.length c, .float .f64 0]) rfl (fun w => by kernel_rfl)) ?_
            refine RL.op (.free rfl) rfl rfl (Does.slice1 u58 i32 rfl rfl rfl rfl rfl) ?_
            rintro _ v9 ⟨b9, rfl, hn9⟩
            refine RL.op (.free rfl) rfl rfl (Does.append u58 i32 rfl rfl rfl rfl rfl (Row.nil _ _ _) (Sl.new hn9 3 1 rfl (by omega) (fun h => h)) (rfl) (by omega)) ?_
            rintro u5 w5' ⟨hr5, hm5, hu5⟩
            have hal2 : al = [⟨id, ls, 0, .slice ad ls.length c⟩] := by rw [← hal, if_pos h58]
            refine RL.p rfl rfl ?_
            refine RL.done ?_
            exact RK.back (hc _ _ ⟨by rw [hal2]; exact Sl.own hr5 (fun _ _ h => h), hn9.grow.then hm5 (fun b hb e => by simp [Value.ownBlock] at e)⟩) ⟨rfl, rfl, rfl, rfl, rfl, trivial⟩
          · have hal2 : al = [] := by rw [← hal, if_neg (by simpa using h58)]
            refine RK.skip ?_
            exact RK.back (hc _ _ ⟨by rw [hal2]; exact Sl.nil _ _ _ _ _, Mod.refl _ _⟩) ⟨rfl, rfl, rfl, rfl, rfl, trivial⟩
      · refine RK.seq ?_
        refine RK.region ?_
        iterate 2 refine RL.p rfl rfl ?_
        refine RL.op (.free rfl) rfl rfl (Does.call rfl e51 (isSet_ok No ls hsz _ _ (hv.mod hg0a))) ?_
        rintro _ w11 ⟨rfl, hg11⟩
        refine RL.q (.free rfl) rfl rfl (Yld.neqBool u4 rfl rfl) ?_
        refine RL.p rfl rfl ?_
        refine RL.knownF (d := 31) rfl rfl (by simp) ?_
        iterate 2 refine RL.q (.yes rfl rfl rfl) rfl rfl (Yld.pure rfl) ?_
        have k3 := k2.grow hg11
        refine RL.op (.yes rfl rfl rfl) rfl rfl (Does.call rfl e41 (k3.ids)) ?_
        rintro u12 w12 ⟨hr12, _, hg12⟩
        have hidl : (idsS has).length = if isS ls = true then 1 else 0 := by unfold idsS; rw [sortI_len, hasE]; split <;> simp
        obtain ⟨ad12, c12, rfl⟩ := hr12.slice
        have k4 := k3.grow hg12
        refine RL.q (.yes rfl rfl rfl) rfl rfl (Yld.lenSl u22 rfl) ?_
        refine RL.q (.yes rfl rfl rfl) rfl rfl (Yld.pure rfl) ?_
        refine RL.q (.yes rfl rfl rfl) rfl rfl (Yld.neqBool u4 rfl rfl) ?_
        iterate 2 refine RL.p rfl rfl ?_
        refine RL.knownF (d := 39) rfl rfl (by rw [hidl]; cases isS ls <;> simp) ?_
        iterate 2 refine RL.q (.yes rfl rfl rfl) rfl rfl (Yld.pure rfl) ?_
        first | refine RL.splitD (d := 41) rfl rfl (fun h41 => ?_) (fun h41 => ?_) | refine RL.splitN (d := 41) rfl rfl (fun h41 => ?_) (fun h41 => ?_) | refine RL.split (d := 41) rfl rfl (fun h41 => ?_) (fun h41 => ?_)
        · refine RL.q (.yes rfl rfl rfl) rfl rfl (Yld.pure rfl) ?_
          refine RL.op (.yes rfl rfl rfl) rfl rfl (Does.call rfl e31 (k4.size)) ?_
          rintro _ _ ⟨rfl, rfl⟩
          have hrl : rows.length = ls.length := addRow0 (by have := k4.inv; rwa [hasE, if_pos h41] at this) h41
          refine RL.q (.yes rfl rfl rfl) rfl rfl (Yld.pure rfl) ?_
          refine RL.q (.yes rfl rfl rfl) rfl rfl (Yld.lenSl u26 rfl) ?_
          iterate 2 refine RL.q (.yes rfl rfl rfl) rfl rfl (Yld.pure rfl) ?_
          iterate 2 refine RL.p rfl rfl ?_
          refine RL.knownF (d := 49) rfl rfl (by rw [hrl]; simp) ?_
          iterate 3 refine RL.q (.yes rfl rfl rfl) rfl rfl (Yld.pure rfl) ?_
          refine RL.knownF (d := 52) rfl rfl (by rw [h41]; rfl) ?_
          iterate 3 refine RL.no (.no rfl rfl rfl rfl) rfl rfl ?_
          refine RL.q (.yes rfl rfl rfl) rfl rfl (Yld.pure rfl) ?_
          refine RL.p rfl rfl ?_
          refine RL.done ?_
          refine RK.condF (hcF rfl (rfl)) ?_
          refine RK.skip ?_
          exact RK.back (hc _ (hg11.trans hg12)) ⟨rfl, rfl, rfl, rfl, rfl, trivial⟩
        · have hno : isS ls = false := by simpa using h41
          iterate 5 refine RL.no (.no rfl rfl rfl rfl) rfl rfl ?_
          refine RL.q (.yes rfl rfl rfl) rfl rfl (Yld.pure rfl) ?_
          iterate 2 refine RL.p rfl rfl ?_
          iterate 3 refine RL.q (.yes rfl rfl rfl) rfl rfl (Yld.pure rfl) ?_
          refine RL.knownT (d := 52) rfl rfl (by rw [hno]; rfl) ?_
          refine RL.q (.yes rfl rfl rfl) rfl rfl (Yld.pure rfl) ?_
          refine RL.op (.yes rfl rfl rfl) rfl rfl (Does.call rfl e31 (k4.size)) ?_
          rintro _ _ ⟨rfl, rfl⟩
          have hrl : rows.length = 0 := rows0 (by have := k4.inv; rwa [hasE, hno] at this)
          iterate 2 refine RL.q (.yes rfl rfl rfl) rfl rfl (Yld.pure rfl) ?_
          refine RL.p rfl rfl ?_
          refine RL.done ?_
          refine RK.condF (hcF rfl (by rw [hrl]; simp)) ?_
          refine RK.skip ?_
          exact RK.back (hc _ (hg11.trans hg12)) ⟨rfl, rfl, rfl, rfl, rfl, trivial⟩
end Go.Proofs.YtffbcfcoddacmaaGreat
set_option linter.unusedVariables false
namespace Go.X
open Go Go.RowKit Go.WideShapes Go.ChangeShapes
section
variable {H : Type} {enc : TypeId × Value → H} {P : Program} {W : World} {base : Nat} {sp : Nat → Bool} {held : Bool}
theorem trod_list {α : Type} (f : α → List Value) (Q : α → Prop) {sz : Nat} (hf : ∀ x, (f x).length = sz) {t e : TypeId} {m0 : Nat} {cs0 : List Value} {y : DataW H × List MemPlace} (ht : P.underlying t = some (.slice e)) (hc : P.cellsOf e = sz) (hsz : 0 < sz) (hd : DataW.trod enc P W 0 sp held m0 t cs0 = some y)
    (hel : ∀ (m : Nat) (cs : List Value) (y : DataW H × List MemPlace), DataW.trod enc P W 0 sp held m e cs = some y → ∃ x, cs = f x ∧ Q x) : ∃ (v : Value) (xs : List α), cs0 = [v] ∧ Sl No W v sz xs.length (xs.flatMap f) ∧ (∀ x ∈ xs, Q x) ∧ xs.length ≤ maxLen := by
  rcases DataW.trod_slice ht hd with ⟨h0, _⟩ | ⟨a', len, cap, elems, rest, n, _, hcs, _, _, hl, hm, hlen, hall, _⟩
  · subst h0
    exact ⟨_, [], rfl, Sl.nil _ _ _ _ _, by simp, by simp⟩
  · subst hcs
    rw [hc] at hall
    have key : ∀ i, i < len → ∃ x, Q x ∧ ∀ j u, (f x)[j]? = some u → W.cell? (a'.add (i * sz) |>.add j) = some u := by
      intro i hi
      have h1 := hall i hi
      rw [List.getElem?_eq_getElem (by omega)] at h1
      rw [Option.bind_eq_some_iff] at h1
      obtain ⟨cs, h2, h3⟩ := h1
      obtain ⟨x, rfl, hQ⟩ := hel n cs _ h3
      refine ⟨x, hQ, fun j u hj => ?_⟩
      have hj' : j < sz := by have := (List.getElem?_eq_some_iff.1 hj).1; rwa [hf] at this
      rw [(World.cells?_some h2).2.2 j hj', hj]
    have build : ∀ k, k ≤ len → ∃ xs : List α, xs.length = k ∧ (∀ x ∈ xs, Q x) ∧ ∀ i x, xs[i]? = some x → ∀ j u, (f x)[j]? = some u → W.cell? (a'.add (i * sz) |>.add j) = some u := by
      intro k
      induction k with
      | zero => intro _; exact ⟨[], rfl, by simp, by simp⟩
      | succ k ih =>
        intro hk
        obtain ⟨xs, h1, h2, h3⟩ := ih (by omega)
        obtain ⟨x, hQ, hx⟩ := key k (by omega)
        refine ⟨xs ++ [x], by simp [h1], fun y hy => ?_, fun i y hy => ?_⟩
        · rcases List.mem_append.1 hy with h | h
          · exact h2 y h
          · simp at h; subst h; exact hQ
        · by_cases hi : i < xs.length
          · rw [List.getElem?_append_left hi] at hy; exact h3 i y hy
          · have : i = k := by
              have := (List.getElem?_eq_some_iff.1 hy).1
              simp at this; omega
            subst this
            rw [List.getElem?_append_right (by omega), h1] at hy
            simp at hy; subst hy
            exact hx
    obtain ⟨xs, h1, h2, h3⟩ := build len (Nat.le_refl _)
    refine ⟨_, xs, rfl, ⟨flat_len f sz hf xs, by simp only [maxLen] at hm; omega, some a', cap, by rw [h1], fun hn => ?_⟩, h2, by omega⟩
    obtain ⟨b, o, spot⟩ := a'
    obtain ⟨x0, hx0⟩ : ∃ x, xs[0]? = some x := ⟨xs[0]'hn, List.getElem?_eq_getElem hn⟩
    have hu0 : 0 < (f x0).length := by rw [hf]; exact hsz
    have h4 := h3 0 x0 hx0 0 _ (List.getElem?_eq_getElem hu0)
    have hspot : spot = none := by simpa [Addr.add] using World.cell?_spot h4
    subst hspot
    refine ⟨b, o, rfl, fun h => h, fun j u hj => ?_⟩
    have hjl := (List.getElem?_eq_some_iff.1 hj).1
    rw [flat_len f sz hf] at hjl
    have hdm : j / sz * sz + j % sz = j := by rw [Nat.mul_comm]; exact Nat.div_add_mod j sz
    have hq : j / sz < xs.length := Nat.div_lt_of_lt_mul (by rw [Nat.mul_comm]; exact hjl)
    have hr : j % sz < sz := Nat.mod_lt _ hsz
    have hx := List.getElem?_eq_getElem hq
    have h5 := flat_get f sz hf xs (j / sz) (j % sz) _ hx hr
    rw [hdm, hj] at h5
    have h6 := h3 (j / sz) _ hx (j % sz) u h5.symm
    rw [add_none, add_none, Nat.add_assoc, hdm] at h6
    exact h6
theorem trod_bool {s m : Nat} {cs : List Value} {y : DataW H × List MemPlace} (hs : P.underlying s = some .bool) (h : DataW.trod enc P W base sp held m s cs = some y) : ∃ b : Bool, cs = [.bool b] := by
  cases m with
  | zero => simp [DataW.trod] at h
  | succ n =>
    unfold DataW.trod at h
    rw [hs] at h
    split at h <;> simp_all
theorem trod_fields {t m : Nat} {fs : Array Field} {cs : List Value} {y : DataW H × List MemPlace} (ht : P.underlying t = some (.struct fs)) (h : DataW.trod enc P W base sp held m t cs = some y) : cs.length = P.cellsOf t ∧ ∀ (i : Nat) (f : Field), fs[i]? = some f → ∃ n y', DataW.trod enc P W base sp held n f.type ((cs.drop f.offset).take (P.cellsOf f.type)) = some y' := by
  obtain ⟨xs, n, _, _, hl, hxl, hx⟩ := DataW.trod_struct ht h
  refine ⟨hl, fun i f hf => ?_⟩
  have h1 := hx i f hf
  have hi : i < fs.size := (Array.getElem?_eq_some_iff.1 hf).1
  rw [List.getElem?_eq_getElem (by omega)] at h1
  exact ⟨n, _, h1⟩
theorem trod_3 {t m t0 t1 t2 : Nat} {fs : Array Field} {cs : List Value} {y : DataW H × List MemPlace} (ht : P.underlying t = some (.struct fs)) (hfs : fs.toList.map (fun f => (f.type, f.offset)) = [(t0, 0), (t1, 1), (t2, 2)]) (c0 : P.cellsOf t0 = 1) (c1 : P.cellsOf t1 = 1) (c2 : P.cellsOf t2 = 1) (ct : P.cellsOf t = 3)
    (h : DataW.trod enc P W base sp held m t cs = some y) : ∃ a b c, cs = [a, b, c] ∧ (∃ n y', DataW.trod enc P W base sp held n t0 [a] = some y') ∧ (∃ n y', DataW.trod enc P W base sp held n t1 [b] = some y') ∧ ∃ n y', DataW.trod enc P W base sp held n t2 [c] = some y' := by
  obtain ⟨hl, hx⟩ := trod_fields ht h
  have hsz : fs.toList.length = 3 := by have := congrArg List.length hfs; simpa using this
  obtain ⟨fl⟩ := fs
  match fl, hsz with
  | [f0, f1, f2], _ =>
    simp only [List.map_cons, List.map_nil, List.cons.injEq, Prod.mk.injEq, and_true] at hfs
    obtain ⟨⟨e0, o0⟩, ⟨e1, o1⟩, e2, o2⟩ := hfs
    rw [ct] at hl
    match cs, hl with
    | [a, b, c], _ =>
      have h0 := hx 0 f0 rfl
      have h1 := hx 1 f1 rfl
      have h2 := hx 2 f2 rfl
      rw [e0, o0, c0] at h0
      rw [e1, o1, c1] at h1
      rw [e2, o2, c2] at h2
      exact ⟨a, b, c, rfl, h0, h1, h2⟩
end
end Go.X
