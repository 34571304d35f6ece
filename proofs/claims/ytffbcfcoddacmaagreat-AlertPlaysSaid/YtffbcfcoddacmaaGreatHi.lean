/- AlertPlays: the walk. -/
import Derived.Test.YtffbcfcoddacmaaGreatHh
set_option linter.unusedVariables false
set_option linter.unusedSimpArgs false
set_option maxHeartbeats 1000000
set_option maxRecDepth 100000
namespace Go.Proofs.YtffbcfcoddacmaaGreat
open Go Go.X
theorem blk0 {w : World} {b t : Nat} {cs : List Value} (h : Blk w b t cs) : ∀ (j : Nat) (u : Value), cs[j]? = some u → w.cell? ⟨b, 0 + j, none⟩ = some u := fun j u hj => by rw [Nat.zero_add]; exact h.cell' hj
theorem get_isSome (s : St) (id : Int) : (getS s id).isSome = (whereI s.al id).isSome := by
  unfold getS
  rw [show placeS s id = whereI s.al id from rfl]
  cases h : whereI s.al id with
  | none => rfl
  | some i =>
    unfold whereI at h
    obtain ⟨h1, _⟩ := List.findIdx?_eq_some_iff_getElem.1 h
    simp [List.getElem?_eq_getElem h1]
theorem aplays_ok (n : Int) (l : List Sv) (id : Int) (vl : Value) (w : World) (hl : Sl No w vl 4 l.length (l.flatMap svC)) (hx : ∀ x ∈ l, x.Ok w) :
    Fx Tryz.prog 5 [.int .i64 n, vl, .int .i64 id] w (fun u w' => u = .bool true ∧ Grow w w') := by
  obtain ⟨adl, cl, rfl⟩ := hl.shape
  refine enter Tryz.func5 rfl rfl rfl _ (Pick.sub (l := [0, 1, 2]) (.cons rfl (.cons rfl (.cons rfl .nil)))) ?_
  refine RK.seq ?_
  refine RK.region ?_
  refine RL.p rfl rfl ?_
  refine RL.done ?_
  iterate 2 refine RK.seq ?_
  refine RK.region ?_
  refine RL.p rfl rfl ?_
  refine RL.q (.free rfl) rfl rfl (Yld.lenSl u52 rfl) ?_
  refine RL.p rfl rfl ?_
  refine RL.done ?_
  first | refine RK.condD rfl (fun h16 => ?_) (fun h16 => ?_) | refine RK.condN rfl (fun h16 => ?_) (fun h16 => ?_) | refine RK.cond rfl (fun h16 => ?_) (fun h16 => ?_)
  · refine RK.seq ?_
    refine RK.region ?_
    refine RL.op (.free rfl) rfl rfl (Does.call rfl e26 (runs_ok _)) ?_
    rintro _ w2 ⟨rfl, hg2⟩
    refine RL.p rfl rfl ?_
    refine RL.done ?_
    refine RK.ret_of Tryz.func5 (res1 rfl rfl) ?_ _
    exact ⟨_, rfl, rfl, hg2⟩
  · refine RK.skip ?_
    refine RK.seq ?_
    refine RK.region ?_
    refine RL.p rfl rfl ?_
    refine RL.op (.free rfl) rfl rfl (Does.call rfl e16 (km_new n _)) ?_
    rintro _ w1 ⟨p, O, rfl, k1, hO, hg1⟩
    refine RL.p rfl rfl ?_
    refine RL.op (.free rfl) rfl rfl (Does.call rfl e32 (newAlerts_ok n _)) ?_
    rintro _ w2 ⟨r, P, rfl, k2, hP, hg2⟩
    have hs1 := hg1.size
    have hs2 := hg2.size
    have hTw : Twin O P (fun b => O b ∨ P b) w2 p r (St.new n) := by
        have hx2 : KX O O w1 p (St.new n) := ⟨k1.at_, k1.ok, k1.gd⟩
        refine ⟨hx2.pass (Q := No) hg2 (fun _ _ h => h) (fun _ h => h.elim) (fun b e => .inl e) (fun b e => e.imp (fun h => h) (hP b)) (fun b e => e.elim (fun e => by have := k1.lt e; omega) (fun e => k2.lt e)), ?_, fun b e e2 => by have h1 := k1.lt e; have h2 := hP b e2; omega⟩
        obtain ⟨vl, al, hra, e⟩ := k2
        obtain rfl : al = [] := by simpa using e
        exact ⟨vl, [], ⟨hra.blk, hra.row, by simp, hra.own, fun b e => .inr e, fun b e => e.elim (fun e => by have := k1.lt e; omega) (fun e => hra.lt e)⟩, rfl⟩
    iterate 2 refine RL.p rfl rfl ?_
    refine RL.done ?_
    iterate 2 refine RK.seq ?_
    refine RK.region ?_
    refine RL.p rfl rfl ?_
    refine RL.q (.free rfl) rfl rfl (Yld.eqPtr Tryz.underlying24 rfl rfl) ?_
    refine RL.done ?_
    refine RK.condF (hcF rfl (rfl)) ?_
    refine RK.skip ?_
    iterate 2 refine RK.seq ?_
    refine RK.region ?_
    refine RL.p rfl rfl ?_
    refine RL.done ?_
    refine RK.block ?_
    refine RK.loop (fun k : Nat => [(1, .slice adl l.length cl), (2, .int .i64 id), (7, pp p), (8, pp r), (9, .int .i64 (k : Int))]) (fun k w' => ∃ s O P M, Twin O P M w' p r s ∧ s.last ≤ k ∧ k ≤ l.length ∧ (∀ b, M b → w.heap.size ≤ b) ∧ Grow w w') (fun k => l.length - k) 0 ⟨rfl, rfl, rfl, rfl, rfl, trivial⟩ ⟨_, O, P, _, hTw, by simp [St.new], by omega, fun b e => e.elim (hO b) (fun e => by have := hP b e; omega), hg1.trans hg2⟩ (fun k w3 hI ih => ?_)
    obtain ⟨s, O, P, M, hT, hlast, hk, hM, hg⟩ := hI
    iterate 2 refine RK.seq ?_
    refine RK.region ?_
    iterate 2 refine RL.p rfl rfl ?_
    refine RL.q (.free rfl) rfl rfl (Yld.lenSl u52 rfl) ?_
    refine RL.p rfl rfl ?_
    refine RL.done ?_
    first | refine RK.condD rfl (fun h27 => ?_) (fun h27 => ?_) | refine RK.condN rfl (fun h27 => ?_) (fun h27 => ?_) | refine RK.cond rfl (fun h27 => ?_) (fun h27 => ?_)
    · obtain ⟨x, hx'⟩ : ∃ x, l[k]? = some x := ⟨l[k]'(by omega), List.getElem?_eq_getElem (by omega)⟩
      obtain ⟨b1, o1, c1', he1, _, _, hc1⟩ := hl.elem svC_len hx'
      cases he1
      have hxo := hx x (List.mem_of_getElem? hx')
      have hb1 : ¬ w.heap.size ≤ b1 := by have := World.block_lt_of_cell? w _ (hc1 0 _ rfl); simp only at this; omega
      refine RK.skip ?_
      refine RK.seq ?_
      refine RK.block ?_
      refine RK.seq ?_
      refine RK.drawF (fun b => w.heap.size ≤ b) [(0, false), (1, false), (2, false), (3, false), (4, false), (5, false), (6, true), (7, false), (8, false), (9, false), (11, false), (12, false), (13, false)] 10 14 [(14, true), (15, false), (16, false), (17, false)] [(15, false), (10, true), (16, false), (17, false)] [] mixed (by kernel_rfl) ?_
      iterate 4 refine DL.p rfl rfl rfl ?_
      refine DL.qf rfl (.free rfl) rfl rfl (Yld.indexAddrN u52 i57 rfl rfl (by omega)) ?_
      refine DL.q rfl (.free rfl) rfl rfl rfl (Yld.loadN (cs := [.int .u8 x.d, .int .i64 x.id, x.v, .float .f64 x.val]) a57 rfl (atNM (fun j u hj => hg.cell (hc1 j u hj) (fun h => h)) (hb1))) (Mod.drew _ _) ?_
      refine DL.op rfl (.free rfl) rfl rfl (Does.call rfl e33 (step15_ok _ p r s O P M (hT.grow (Mod.drew _ _)) (by omega) w hM (hg.trans (Mod.drew _ _)) x hxo)) ?_
      rintro _ w4 ⟨s', O', P', M', rfl, hT', hl', hM', hg', hm4⟩
      have hm34 : Mod (fun b => w.heap.size ≤ b) w3 w4 := (Mod.drew _ _).trans (hm4.mono fun b _ e => hM b (e.elim (fun e => hT.km.at_.sub e) (fun e => hT.ra.sub e)))
      refine ⟨hm34, ?_⟩
      iterate 2 refine DL.p rfl rfl rfl ?_
      refine DL.knownF (d := 38) rfl rfl (rfl) ?_
      iterate 3 refine DL.qf rfl (.yes rfl rfl rfl) rfl rfl (Yld.pure rfl) ?_
      refine DL.qf rfl (.yes rfl rfl rfl) rfl rfl (Yld.fieldAddr fo60_1 rfl) ?_
      obtain ⟨vl4, al4, hra4, hal4⟩ := hT'.ra
      obtain ⟨ad4, c4, hvl4⟩ := hra4.row.slice
      subst hvl4
      have hlen4 : al4.length = s'.al.length := by have := congrArg List.length hal4; simpa using this
      refine DL.fork ?_ ?_
      · refine DL.op rfl (.yes rfl rfl rfl) rfl rfl (Does.call rfl e23 (hT'.km.km.size)) ?_
        rintro _ _ ⟨rfl, rfl⟩
        refine ⟨hm34, ?_⟩
        refine DL.lq rfl (.yes rfl rfl rfl) rfl rfl (Yld.load p58 rfl (at1 (hra4.blk.cell rfl))) ?_
        refine DL.q rfl (.yes rfl rfl rfl) rfl rfl rfl (Yld.lenSl u58 rfl) (hm34) ?_
        refine DL.qf rfl (.yes rfl rfl rfl) rfl rfl (Yld.pure rfl) ?_
        refine DL.p rfl rfl rfl ?_
        refine DL.done ?_
        refine RK.condF (hcF rfl (by rw [hlen4]; simp)) ?_
        refine RK.skip ?_
        refine RK.inBlock ?_
        refine RK.region ?_
        iterate 2 refine RL.p rfl rfl ?_
        refine RL.re (d := 29) rfl rfl (succ_i64 (by omega)) ?_
        refine RL.p rfl rfl ?_
        refine RL.done ?_
        exact RK.back (ih (k + 1) _ ⟨s', O', P', M', hT', by omega, by omega, hM', hg'⟩ (by omega)) ⟨rfl, rfl, rfl, rfl, rfl, trivial⟩
      · refine DL.lq rfl (.yes rfl rfl rfl) rfl rfl (Yld.load p58 rfl (at1 (hra4.blk.cell rfl))) ?_
        refine DL.q rfl (.yes rfl rfl rfl) rfl rfl rfl (Yld.lenSl u58 rfl) (hm34) ?_
        refine DL.op rfl (.yes rfl rfl rfl) rfl rfl (Does.call rfl e23 (hT'.km.km.size)) ?_
        rintro _ _ ⟨rfl, rfl⟩
        refine ⟨hm34, ?_⟩
        refine DL.qf rfl (.yes rfl rfl rfl) rfl rfl (Yld.pure rfl) ?_
        refine DL.p rfl rfl rfl ?_
        refine DL.done ?_
        refine RK.condF (hcF rfl (by rw [hlen4]; simp)) ?_
        refine RK.skip ?_
        refine RK.inBlock ?_
        refine RK.region ?_
        iterate 2 refine RL.p rfl rfl ?_
        refine RL.re (d := 29) rfl rfl (succ_i64 (by omega)) ?_
        refine RL.p rfl rfl ?_
        refine RL.done ?_
        exact RK.back (ih (k + 1) _ ⟨s', O', P', M', hT', by omega, by omega, hM', hg'⟩ (by omega)) ⟨rfl, rfl, rfl, rfl, rfl, trivial⟩
    · have hkm := hT.km.km
      obtain ⟨vlr, al, hra, hal⟩ := hT.ra
      have hall : al.length = s.al.length := by have := congrArg List.length hal; simpa using this
      have h16 := hkm.len16
      refine RK.exit rfl ?_
      refine RK.seq ?_
      refine RK.region ?_
      iterate 2 refine RL.p rfl rfl ?_
      refine RL.op (.free rfl) rfl rfl (Does.call rfl e19 (hkm.get id)) ?_
      rintro _ w4 ⟨ad4, c4, rfl, hr4, hg4⟩
      generalize hGe : (getS s id).getD (0, [], 0) = G at *
      iterate 3 refine RL.p rfl rfl ?_
      refine RL.op (.free rfl) rfl rfl (Does.alloc i32) ?_
      rintro _ w5 ⟨b5, rfl, hn5⟩
      refine RL.op' (.free rfl) rfl (Does.storeN i32 rfl rfl rfl rfl hn5.blk (Nat.le_refl 3)) ?_
      rintro _ w6 ⟨hb6, hm6, _⟩
      have hg46 : Grow w4 w6 := hn5.grow.then hm6 (fun y hy e => by have e' : y = b5 := e; have := hn5.at_; omega)
      have hg36 := hg4.trans hg46
      have hB6 : Blk w6 b5 32 [.int .i64 G.1, .slice ad4 G.2.1.length c4, .float .f64 G.2.2] := hb6
      refine RL.p rfl rfl ?_
      refine RL.done ?_
      refine RK.seq ?_
      refine RK.region ?_
      iterate 2 refine RL.p rfl rfl ?_
      refine RL.op (.free rfl) rfl rfl (Does.call rfl e34 (rget_ok P M _ r _ _ _ al (hra.grow hg36) (by omega) id)) ?_
      rintro _ w7 ⟨g, hg', rfl, ⟨adg, cg, hgv⟩, hgs, hg67⟩
      rw [hal] at hg' ⊢
      have hg2 : pub g = G := hg'.trans hGe
      rw [hgv]
      iterate 3 refine RL.p rfl rfl ?_
      refine RL.op (.free rfl) rfl rfl (Does.alloc i32) ?_
      rintro _ w8 ⟨b8, rfl, hn8⟩
      refine RL.op' (.free rfl) rfl (Does.storeN i32 rfl rfl rfl rfl hn8.blk (Nat.le_refl 3)) ?_
      rintro _ w9 ⟨hb9, hm9, _⟩
      have hg79 : Grow w7 w9 := hn8.grow.then hm9 (fun y hy e => by have e' : y = b8 := e; have := hn8.at_; omega)
      have hB9 : Blk w9 b8 32 [.int .i64 g.id, .slice adg g.ls.length cg, .float .f64 g.val] := hb9
      have hB69 := (hB6.mod hg67 (fun h => h)).mod hg79 (fun h => h)
      have hg39 := (hg36.trans hg67).trans hg79
      have hgs9 : SlL No w9 g.v g.ls := (Sl.noM hgs).mod hg79
      have hr9 := hr4.mod ((hg46.trans hg67).trans hg79) (fun _ _ h => h)
      refine RL.p rfl rfl ?_
      refine RL.done ?_
      refine RK.seq ?_
      refine RK.drawF No [(0, false), (1, false), (2, false), (3, false), (4, false), (6, false)] 5 7 [(7, true), (8, true), (9, false), (10, false), (11, false), (13, false), (14, false), (15, false), (16, false), (12, true), (17, true), (18, false), (19, false), (20, false), (22, false), (21, true), (23, true), (24, true), (25, false), (26, false), (27, false), (29, false), (28, true), (30, true), (31, false), (32, false), (33, false), (34, true), (35, false), (36, false)] [(5, true), (8, true), (9, false), (10, false), (11, false), (13, false), (14, false), (15, false), (16, false), (12, true), (17, true), (18, false), (19, false), (20, false), (22, false), (21, true), (23, true), (24, true), (25, false), (26, false), (27, false), (29, false), (28, true), (30, true), (31, false), (32, false), (33, false), (34, true), (35, false), (36, false)] [] mixed (by kernel_rfl) ?_
      iterate 2 refine DL.p rfl rfl rfl ?_
      refine DL.qf rfl (.free rfl) rfl rfl (Yld.eqBool u4 rfl rfl) ?_
      refine DL.p rfl rfl rfl ?_
      refine DL.knownT (d := 63) rfl rfl (by rw [get_isSome]; simp) ?_
      refine DL.q rfl (.yes rfl rfl rfl) rfl rfl rfl (Yld.loadN (cs := [.int .i64 G.1, .slice ad4 G.2.1.length c4, .float .f64 G.2.2]) a32 rfl (atNM (blk0 hB69) (fun h => h))) (Mod.drew _ _) ?_
      refine DL.q rfl (.yes rfl rfl rfl) rfl rfl rfl (Yld.loadN (cs := [.int .i64 g.id, .slice adg g.ls.length cg, .float .f64 g.val]) a32 rfl (atNM (blk0 hB9) (fun h => h))) (Mod.drew _ _) ?_
      refine DL.fork ?_ ?_
      · refine DL.op rfl (.yes rfl rfl rfl) rfl rfl (Does.slice1 u58 i32 rfl rfl rfl rfl rfl) ?_
        rintro _ wa ⟨ba, rfl, hna⟩
        have hgA : Grow w9 wa := (Mod.drew _ _).trans hna.grow
        refine ⟨hgA, ?_⟩
        refine DL.op rfl (.yes rfl rfl rfl) rfl rfl (Does.slice1 u58 i32 rfl rfl rfl rfl rfl) ?_
        rintro _ wb ⟨bb, rfl, hnb⟩
        have hgB : Grow w9 wb := hgA.trans hnb.grow
        refine ⟨hgB, ?_⟩
        have hla := (Sl.new (M := No) hna 3 1 rfl (by omega) (fun h => h)).mod hnb.grow
        have hlb := Sl.new (M := No) hnb 3 1 rfl (by omega) (fun h => h)
        refine DL.op rfl (.yes rfl rfl rfl) rfl rfl (Does.call rfl e35 (sameAlerts_ok No No [⟨G.1, G.2.1, G.2.2, .slice ad4 G.2.1.length c4⟩] [g] _ _ _ hla (by rw [show [g].flatMap alC = [.int .i64 g.id, g.v, .float .f64 g.val] from rfl, hgv]; exact hlb) (fun a ha => by simp at ha; subst ha; exact (Sl.own (hr9.mod hgB (fun _ _ h => h)) (fun _ _ h => h))) (fun a ha => by simp at ha; subst ha; exact hgs9.mod hgB) (by simp [pub, ← hg2]))) ?_
        rintro _ w10 ⟨rfl, hg10⟩
        have hg910 := hgB.trans hg10
        refine ⟨hg910, ?_⟩
        iterate 2 refine DL.p rfl rfl rfl ?_
        refine DL.knownT (d := 70) rfl rfl (rfl) ?_
        iterate 3 refine DL.qf rfl (.yes rfl rfl rfl) rfl rfl (Yld.pure rfl) ?_
        refine DL.qf rfl (.yes rfl rfl rfl) rfl rfl (Yld.fieldAddr fo60_1 rfl) ?_
        have hg310 := hg39.trans hg910
        refine DL.q rfl (.yes rfl rfl rfl) rfl rfl rfl (Yld.load p58 rfl (atM ((hra.grow hg39).blk.cell rfl) (fun h => h))) (hg910) ?_
        refine DL.op rfl (.yes rfl rfl rfl) rfl rfl (Does.call rfl e36 ((hkm.grow hg310).all)) ?_
        rintro u11 w11 ⟨al', hr11, hal', hsl11, hg11⟩
        have hg911 := hg910.trans hg11
        refine ⟨hg911, ?_⟩
        have hg311 := hg310.trans hg11
        have hra11 := hra.grow hg311
        refine DL.op rfl (.yes rfl rfl rfl) rfl rfl (Does.call rfl e35 (sameAlerts_ok No M al' al _ _ _ (Sl.own hr11 (fun _ _ h => h)) (Sl.own hra11.row (fun _ _ h => h)) hsl11 hra11.sls (by rw [hal', hal]))) ?_
        rintro _ w12 ⟨rfl, hg12⟩
        have hg912 := hg911.trans hg12
        refine ⟨hg912, ?_⟩
        iterate 2 refine DL.p rfl rfl rfl ?_
        refine DL.knownT (d := 79) rfl rfl (rfl) ?_
        iterate 2 refine DL.qf rfl (.yes rfl rfl rfl) rfl rfl (Yld.pure rfl) ?_
        have hg312 := hg311.trans hg12
        refine DL.op rfl (.yes rfl rfl rfl) rfl rfl (Does.call rfl e37 ((hkm.grow hg312).rank)) ?_
        rintro u13 w13 ⟨hr13, hf13, hg13⟩
        have hg913 := hg912.trans hg13
        refine ⟨hg913, ?_⟩
        have hg313 := hg312.trans hg13
        refine DL.op rfl (.yes rfl rfl rfl) rfl rfl (Does.call rfl e38 (ralRank_ok P M _ r _ _ _ al (hra.grow hg313) (by omega) (fun a ha => hkm.ok.vals (pub a) (by rw [← hal]; exact List.mem_map_of_mem (f := pub) ha)))) ?_
        rintro u14 w14 ⟨hr14, hf14, hg14⟩
        have hg914 := hg913.trans hg14
        refine ⟨hg914, ?_⟩
        have hg314 := hg313.trans hg14
        rw [hal, ← rankIds_L] at hr14
        refine DL.op rfl (.yes rfl rfl rfl) rfl rfl (Does.call rfl e29 (sameInts_ok No (rankIds s) (rankIds s) u13 u14 _ (by rw [rankIds_len]; exact Sl.own (hr13.mod hg14 (fun _ _ h => h)) (fun _ _ h => h)) (by rw [rankIds_len, ← hall]; exact Sl.own hr14 (fun _ _ h => h)))) ?_
        rintro _ w15 ⟨rfl, hg15⟩
        have hg915 := hg914.trans hg15
        refine ⟨hg915, ?_⟩
        iterate 2 refine DL.p rfl rfl rfl ?_
        refine DL.knownT (d := 86) rfl rfl (by simp) ?_
        iterate 2 refine DL.qf rfl (.yes rfl rfl rfl) rfl rfl (Yld.pure rfl) ?_
        have hg315 := hg314.trans hg15
        refine DL.op rfl (.yes rfl rfl rfl) rfl rfl (Does.call rfl e25 ((hkm.grow hg315).posts)) ?_
        rintro _ _ ⟨rfl, rfl⟩
        refine ⟨hg915, ?_⟩
        refine DL.op rfl (.yes rfl rfl rfl) rfl rfl (Does.call rfl e39 (ralPosts_ok P M _ r _ _ _ al (hra.grow hg315) (by omega) (fun a ha => by have := isS_len (hkm.gd.sets (pub a) (by rw [← hal]; exact List.mem_map_of_mem (f := pub) ha)); exact this.2))) ?_
        rintro _ w16 ⟨rfl, hg16⟩
        have hg916 := hg915.trans hg16
        refine ⟨hg916, ?_⟩
        rw [hal, rows_dst hkm.gd]
        refine DL.qf rfl (.yes rfl rfl rfl) rfl rfl (Yld.pure rfl) ?_
        iterate 2 refine DL.p rfl rfl rfl ?_
        refine DL.knownT (d := 93) rfl rfl (by simp) ?_
        refine DL.op rfl (.yes rfl rfl rfl) rfl rfl (Does.call rfl e26 (runs_ok _)) ?_
        rintro _ w17 ⟨rfl, hg17⟩
        have hg917 := hg916.trans hg17
        refine ⟨hg917, ?_⟩
        iterate 2 refine DL.p rfl rfl rfl ?_
        refine DL.done ?_
        refine RK.ret_of Tryz.func5 (res1 rfl rfl) ?_ _
        exact ⟨_, rfl, rfl, (hg.trans hg39).trans hg917⟩
      · refine DL.op rfl (.yes rfl rfl rfl) rfl rfl (Does.slice1 u58 i32 rfl rfl rfl rfl rfl) ?_
        rintro _ wa ⟨bb, rfl, hnb⟩
        have hgA : Grow w9 wa := (Mod.drew _ _).trans hnb.grow
        refine ⟨hgA, ?_⟩
        refine DL.op rfl (.yes rfl rfl rfl) rfl rfl (Does.slice1 u58 i32 rfl rfl rfl rfl rfl) ?_
        rintro _ wb ⟨ba, rfl, hna⟩
        have hgB : Grow w9 wb := hgA.trans hna.grow
        refine ⟨hgB, ?_⟩
        have hlb := (Sl.new (M := No) hnb 3 1 rfl (by omega) (fun h => h)).mod hna.grow
        have hla := Sl.new (M := No) hna 3 1 rfl (by omega) (fun h => h)
        refine DL.op rfl (.yes rfl rfl rfl) rfl rfl (Does.call rfl e35 (sameAlerts_ok No No [⟨G.1, G.2.1, G.2.2, .slice ad4 G.2.1.length c4⟩] [g] _ _ _ hla (by rw [show [g].flatMap alC = [.int .i64 g.id, g.v, .float .f64 g.val] from rfl, hgv]; exact hlb) (fun a ha => by simp at ha; subst ha; exact (Sl.own (hr9.mod hgB (fun _ _ h => h)) (fun _ _ h => h))) (fun a ha => by simp at ha; subst ha; exact hgs9.mod hgB) (by simp [pub, ← hg2]))) ?_
        rintro _ w10 ⟨rfl, hg10⟩
        have hg910 := hgB.trans hg10
        refine ⟨hg910, ?_⟩
        iterate 2 refine DL.p rfl rfl rfl ?_
        refine DL.knownT (d := 70) rfl rfl (rfl) ?_
        iterate 3 refine DL.qf rfl (.yes rfl rfl rfl) rfl rfl (Yld.pure rfl) ?_
        refine DL.qf rfl (.yes rfl rfl rfl) rfl rfl (Yld.fieldAddr fo60_1 rfl) ?_
        have hg310 := hg39.trans hg910
        refine DL.q rfl (.yes rfl rfl rfl) rfl rfl rfl (Yld.load p58 rfl (atM ((hra.grow hg39).blk.cell rfl) (fun h => h))) (hg910) ?_
        refine DL.op rfl (.yes rfl rfl rfl) rfl rfl (Does.call rfl e36 ((hkm.grow hg310).all)) ?_
        rintro u11 w11 ⟨al', hr11, hal', hsl11, hg11⟩
        have hg911 := hg910.trans hg11
        refine ⟨hg911, ?_⟩
        have hg311 := hg310.trans hg11
        have hra11 := hra.grow hg311
        refine DL.op rfl (.yes rfl rfl rfl) rfl rfl (Does.call rfl e35 (sameAlerts_ok No M al' al _ _ _ (Sl.own hr11 (fun _ _ h => h)) (Sl.own hra11.row (fun _ _ h => h)) hsl11 hra11.sls (by rw [hal', hal]))) ?_
        rintro _ w12 ⟨rfl, hg12⟩
        have hg912 := hg911.trans hg12
        refine ⟨hg912, ?_⟩
        iterate 2 refine DL.p rfl rfl rfl ?_
        refine DL.knownT (d := 79) rfl rfl (rfl) ?_
        iterate 2 refine DL.qf rfl (.yes rfl rfl rfl) rfl rfl (Yld.pure rfl) ?_
        have hg312 := hg311.trans hg12
        refine DL.op rfl (.yes rfl rfl rfl) rfl rfl (Does.call rfl e37 ((hkm.grow hg312).rank)) ?_
        rintro u13 w13 ⟨hr13, hf13, hg13⟩
        have hg913 := hg912.trans hg13
        refine ⟨hg913, ?_⟩
        have hg313 := hg312.trans hg13
        refine DL.op rfl (.yes rfl rfl rfl) rfl rfl (Does.call rfl e38 (ralRank_ok P M _ r _ _ _ al (hra.grow hg313) (by omega) (fun a ha => hkm.ok.vals (pub a) (by rw [← hal]; exact List.mem_map_of_mem (f := pub) ha)))) ?_
        rintro u14 w14 ⟨hr14, hf14, hg14⟩
        have hg914 := hg913.trans hg14
        refine ⟨hg914, ?_⟩
        have hg314 := hg313.trans hg14
        rw [hal, ← rankIds_L] at hr14
        refine DL.op rfl (.yes rfl rfl rfl) rfl rfl (Does.call rfl e29 (sameInts_ok No (rankIds s) (rankIds s) u13 u14 _ (by rw [rankIds_len]; exact Sl.own (hr13.mod hg14 (fun _ _ h => h)) (fun _ _ h => h)) (by rw [rankIds_len, ← hall]; exact Sl.own hr14 (fun _ _ h => h)))) ?_
        rintro _ w15 ⟨rfl, hg15⟩
        have hg915 := hg914.trans hg15
        refine ⟨hg915, ?_⟩
        iterate 2 refine DL.p rfl rfl rfl ?_
        refine DL.knownT (d := 86) rfl rfl (by simp) ?_
        iterate 2 refine DL.qf rfl (.yes rfl rfl rfl) rfl rfl (Yld.pure rfl) ?_
        have hg315 := hg314.trans hg15
        refine DL.op rfl (.yes rfl rfl rfl) rfl rfl (Does.call rfl e25 ((hkm.grow hg315).posts)) ?_
        rintro _ _ ⟨rfl, rfl⟩
        refine ⟨hg915, ?_⟩
        refine DL.op rfl (.yes rfl rfl rfl) rfl rfl (Does.call rfl e39 (ralPosts_ok P M _ r _ _ _ al (hra.grow hg315) (by omega) (fun a ha => by have := isS_len (hkm.gd.sets (pub a) (by rw [← hal]; exact List.mem_map_of_mem (f := pub) ha)); exact this.2))) ?_
        rintro _ w16 ⟨rfl, hg16⟩
        have hg916 := hg915.trans hg16
        refine ⟨hg916, ?_⟩
        rw [hal, rows_dst hkm.gd]
        refine DL.qf rfl (.yes rfl rfl rfl) rfl rfl (Yld.pure rfl) ?_
        iterate 2 refine DL.p rfl rfl rfl ?_
        refine DL.knownT (d := 93) rfl rfl (by simp) ?_
        refine DL.op rfl (.yes rfl rfl rfl) rfl rfl (Does.call rfl e26 (runs_ok _)) ?_
        rintro _ w17 ⟨rfl, hg17⟩
        have hg917 := hg916.trans hg17
        refine ⟨hg917, ?_⟩
        iterate 2 refine DL.p rfl rfl rfl ?_
        refine DL.done ?_
        refine RK.ret_of Tryz.func5 (res1 rfl rfl) ?_ _
        exact ⟨_, rfl, rfl, (hg.trans hg39).trans hg917⟩
end Go.Proofs.YtffbcfcoddacmaaGreat

