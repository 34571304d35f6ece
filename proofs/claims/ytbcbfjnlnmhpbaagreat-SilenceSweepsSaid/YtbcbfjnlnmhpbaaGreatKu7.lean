/- What the claim stands on, part 7. Of own lemmas only those that it reaches. -/
import Derived.Test.YtbcbfjnlnmhpbaaGreatKu6
set_option linter.unusedVariables false
set_option linter.unusedSimpArgs false
set_option maxHeartbeats 3200000
set_option maxRecDepth 100000
namespace Go.Proofs.YtbcbfjnlnmhpbaaGreat
open Go Go.X
section
variable {w : World} {p : Nat} {s : SS} {M : Nat → Prop} {vs : Value} {al : List Sil}
end
theorem ZStore.inM {O M : Nat → Prop} {w : World} {p : Nat} {s : SS} (h : ZStore O M w p s) : ∀ b, O b → M b := by
  obtain ⟨pl, qu, vp, vq, vs, al, q, hO, h⟩ := h
  exact fun b hb => h.ownM b ((hO b).1 hb)
theorem ZStore.below {O M : Nat → Prop} {w : World} {p : Nat} {s : SS} (h : ZStore O M w p s) : ∀ b, M b → b < w.heap.size := by
  obtain ⟨pl, qu, vp, vq, vs, al, q, hO, h⟩ := h
  exact h.ltM
theorem ZStore.other {O M P M' : Nat → Prop} {w w' : World} {p : Nat} {s : SS} (h : ZStore O M w p s) (hm : Mod P w w') (hP : ∀ b, P b → M b) (hd : ∀ b, O b → ¬ P b) (hM : ∀ b, M' b → M b ∨ w.heap.size ≤ b) (hMM : ∀ b, M b → M' b) (hlt : ∀ b, M' b → b < w'.heap.size) : ZStore O M' w' p s := by
  obtain ⟨pl, qu, vp, vq, vs, al, q, hO, h⟩ := h
  have n : ∀ b, ownS p pl qu vp vq vs b → ¬ P b := fun b e => hd b ((hO b).2 e)
  exact ⟨pl, qu, vp, vq, vs, al, q, hO, h.blk.mod hm (n _ (.inl rfl)), ⟨h.pool.blk.mod hm (n _ (.inr (.inl rfl))), h.pool.row.mod hm (fun b e => n b (.inr (.inr (.inr (.inl e))))), h.pool.ne⟩, h.que.mod hm (n _ (.inr (.inr (.inl rfl)))) (fun b e => n b (.inr (.inr (.inr (.inr (.inl e)))))), h.row.mod hm (fun b e => n b (.inr (.inr (.inr (.inr (.inr e)))))), h.als, fun a ha => (h.sms a ha).pass (by omega) (hm.mono fun b _ e => hP b e) hM, h.sort, h.perm, fun b e => hMM b (h.ownM b e), hlt⟩
end Go.Proofs.YtbcbfjnlnmhpbaaGreat
set_option linter.unusedVariables false
set_option linter.unusedSimpArgs false
set_option maxHeartbeats 2000000
set_option maxRecDepth 100000
namespace Go.Proofs.YtbcbfjnlnmhpbaaGreat
open Go Go.X Go.Rex
theorem hasR9_ok (M : Nat → Prop) (xs : List Int) (x : Int) (v : Value) (w : World) (hv : Sl M w v 1 xs.length (ints xs)) :
    Fx Tryz.prog 19 [v, .int .i64 x] w (fun u w' => u = .bool (decide (x ∈ xs)) ∧ Grow w w') := by
  obtain ⟨ad, c, rfl⟩ := hv.shape
  have hbig := hv.big
  refine enter Tryz.func19 rfl rfl rfl _ (Pick.sub (l := [0, 1]) (.cons rfl (.cons rfl .nil))) ?_
  refine RK.seq ?_
  refine RK.region ?_
  refine RL.p rfl rfl ?_
  refine RL.done ?_
  iterate 2 refine RK.seq ?_
  refine RK.region ?_
  refine RL.p rfl rfl ?_
  refine RL.done ?_
  refine RK.block ?_
  refine RK.loop (fun k : Nat => [(0, .slice ad xs.length c), (1, .int .i64 x), (5, .int .i64 k)]) (fun k w' => Grow w w' ∧ k ≤ xs.length ∧ x ∉ xs.take k) (fun k => xs.length - k) 0 ⟨rfl, rfl, rfl, trivial⟩ ⟨Mod.refl _ _, by omega, by simp⟩ (fun k w' hI ih => ?_)
  obtain ⟨hg, hk, hno⟩ := hI
  iterate 2 refine RK.seq ?_
  refine RK.region ?_
  iterate 2 refine RL.p rfl rfl ?_
  refine RL.q (.free rfl) rfl rfl (Yld.lenSl u35 rfl) ?_
  refine RL.p rfl rfl ?_
  refine RL.done ?_
  first | refine RK.condD rfl (fun h9 => ?_) (fun h9 => ?_) | refine RK.condN rfl (fun h9 => ?_) (fun h9 => ?_) | refine RK.cond rfl (fun h9 => ?_) (fun h9 => ?_)
  · obtain ⟨y, hy⟩ : ∃ y, xs[k]? = some y := ⟨xs[k]'(by omega), List.getElem?_eq_getElem (by omega)⟩
    obtain ⟨b1, o1, c1', he1, _, _, hc1⟩ := hv.elem1 (k := k) (u := .int .i64 y) (by simp [hy])
    cases he1
    refine RK.skip ?_
    refine RK.seq ?_
    refine RK.block ?_
    refine RK.seq ?_
    refine RK.region ?_
    iterate 2 refine RL.p rfl rfl ?_
    refine RL.q (.free rfl) rfl rfl (Yld.indexAddrN u35 i3 rfl rfl (by omega)) ?_
    refine RL.q (.free rfl) rfl rfl (Yld.load p3 rfl (at1 (hg.cell (hc1 k (.int .i64 y) (by simp [hy])) (fun h => h)))) ?_
    iterate 2 refine RL.p rfl rfl ?_
    refine RL.done ?_
    first | refine RK.condD rfl (fun h17 => ?_) (fun h17 => ?_) | refine RK.condN rfl (fun h17 => ?_) (fun h17 => ?_) | refine RK.cond rfl (fun h17 => ?_) (fun h17 => ?_)
    · refine RK.seq ?_
      refine RK.region ?_
      refine RL.p rfl rfl ?_
      refine RL.done ?_
      refine RK.ret_of Tryz.func19 (res1 rfl rfl) ?_ _
      exact ⟨_, rfl, congrArg _ (by rw [eq_comm, decide_eq_true_eq]; exact (show y = x by simpa using h17) ▸ List.mem_of_getElem? hy), hg⟩
    · refine RK.skip ?_
      refine RK.inBlock ?_
      refine RK.region ?_
      iterate 2 refine RL.p rfl rfl ?_
      refine RL.re (d := 11) rfl rfl (succ_i64 (by omega)) ?_
      refine RL.p rfl rfl ?_
      refine RL.done ?_
      exact RK.back (ih (k + 1) _ ⟨hg, by omega, by
          rw [List.take_succ_eq_append_getElem (by omega), (List.getElem?_eq_some_iff.1 hy).2]
          have e : ¬ y = x := by simpa using h17
          simp [hno, Ne.symm e]⟩ (by omega)) ⟨rfl, rfl, rfl, trivial⟩
  · refine RK.exit rfl ?_
    refine RK.seq ?_
    refine RK.region ?_
    refine RL.p rfl rfl ?_
    refine RL.done ?_
    refine RK.ret_of Tryz.func19 (res1 rfl rfl) ?_ _
    exact ⟨_, rfl, congrArg _ (by rw [eq_comm, decide_eq_false_iff_not]; rwa [List.take_of_length_le (by omega)] at hno), hg⟩
end Go.Proofs.YtbcbfjnlnmhpbaaGreat
set_option linter.unusedVariables false
set_option linter.unusedSimpArgs false
set_option maxHeartbeats 3200000
set_option maxRecDepth 100000
namespace Go.Proofs.YtbcbfjnlnmhpbaaGreat
open Go Go.X
def keepS (r : Int) : Int := if (if 1048576 < r then 1048576 else r) > 1 then (if 1048576 < r then 1048576 else r) else 1
theorem keepS_eq (r : Int) : clampS r 1 1048576 = keepS r := by unfold clampS keepS; repeat' split <;> try omega
theorem keepS_in (r : Int) : 1 ≤ keepS r ∧ keepS r ≤ 1048576 := by unfold keepS; repeat' split <;> omega
theorem mkW {r : Int} {k : Nat} {s : SS} (h : WI r k s) (hk : k < 12) (e : Int) : makeS s 0 0 e [mP] bdAll = if spanS 0 0 e = true then (pushS s 0 e, s.last + 1, 0) else (s, 0, 8) := by
  have hl := h.len
  have hm := h.most
  cases he : spanS 0 0 e with
  | true => rw [if_pos rfl]; exact makeP_yes (by omega) he
  | false => rw [if_neg (by decide)]; exact makeP_no he
theorem swept_twice (now : Int) (s : SS) : sweptZ (sweptZ s now) now = sweptZ s now := by
  unfold sweptZ
  simp only [List.filter_filter, Bool.and_self]
structure WS (w0 w : World) (p : Nat) (s : SS) (u : Value) (now : Int) : Prop where
  st : ∃ O M, ZStore O M w p s ∧ (∀ b, M b → w0.heap.size ≤ b) ∧ ∀ b, u.ownBlock = some b → M b ∧ ¬ O b
  row : Row w 3 1 u (stayW now s).length (ints (stayW now s))
  g : Grow w0 w
theorem WS.make {w0 w w' : World} {p : Nat} {s s' : SS} {u : Value} {now : Int} {O O' M : Nat → Prop} (hz : ZStore O M w p s) (hM : ∀ b, M b → w0.heap.size ≤ b) (hu : ∀ b, u.ownBlock = some b → M b ∧ ¬ O b) (hr : Row w 3 1 u (stayW now s).length (ints (stayW now s))) (hg : Grow w0 w)
    (hz' : ZStore O' (fun x => M x ∨ O' x) w' p s') (hm : Mod O w w') (hO : ∀ x, O' x → O x ∨ w.heap.size ≤ x) (he : stayW now s' = stayW now s) : WS w0 w' p s' u now := by
  have hOM := hz.inM
  refine ⟨⟨O', _, hz', fun b e => e.elim (hM b) fun e => (hO b e).elim (fun e => hM b (hOM b e)) fun e => by have := hg.size; omega, fun b e => ⟨.inl (hu b e).1, fun e2 => (hO b e2).elim (hu b e).2 fun e2 => by have := hr.lt e; omega⟩⟩, by rw [he]; exact hr.mod hm (fun b e e2 => (hu b e).2 e2), hg.then hm fun b hb e => by have := hM b (hOM b e); omega⟩
theorem ssweeps_ok (es : List Int) (ve : Value) (r now : Int) (w : World) (hes : Sl No w ve 1 es.length (es.map (Value.int .u64))) (he0 : ∀ e ∈ es, 0 ≤ e) (hn : now < 18446744073709551616) :
    Fx Tryz.prog 4 [ve, .int .u64 r, .int .u64 now] w (fun u w' => u = .bool true ∧ Grow w w') := by
  have hk := keepS_in r
  have hes' := hes.off (M' := fun b => w.heap.size ≤ b) (by omega) (fun b hb e => by omega)
  have hbig := hes.big
  obtain ⟨ad, c, rfl⟩ := hes.shape
  refine enter Tryz.func4 rfl rfl rfl _ (Pick.sub (l := [0, 1, 2]) (.cons rfl (.cons rfl (.cons rfl .nil)))) ?_
  refine RK.seq ?_
  refine RK.region ?_
  refine RL.p rfl rfl ?_
  refine RL.done ?_
  refine RK.seq ?_
  refine RK.region ?_
  refine RL.p rfl rfl ?_
  refine RL.op (.free rfl) rfl rfl (Does.call rfl e10 (newZ_ok 12 r _)) ?_
  rintro _ w1 ⟨p, O1, rfl, hz1, hg1, hO1⟩
  rw [keepS_eq] at hz1
  refine RL.p rfl rfl ?_
  refine RL.done ?_
  iterate 2 refine RK.seq ?_
  refine RK.region ?_
  refine RL.p rfl rfl ?_
  refine RL.q (.free rfl) rfl rfl (Yld.eqPtr Tryz.underlying23 rfl rfl) ?_
  refine RL.done ?_
  refine RK.condF (hcF rfl (rfl)) ?_
  refine RK.skip ?_
  refine RK.seq ?_
  refine RK.region ?_
  refine RL.p rfl rfl ?_
  refine RL.q (.free rfl) rfl rfl (Yld.min2k rfl rfl) ?_
  refine RL.q (.free rfl) rfl rfl (Yld.max2k rfl rfl) ?_
  refine RL.p rfl rfl ?_
  refine RL.done ?_
  refine RK.seq ?_
  refine RK.region ?_
  refine RL.p rfl rfl ?_
  refine RL.done ?_
  refine RK.seq ?_
  refine RK.region ?_
  refine RL.p rfl rfl ?_
  refine RL.done ?_
  iterate 2 refine RK.seq ?_
  refine RK.region ?_
  refine RL.p rfl rfl ?_
  refine RL.done ?_
  refine RK.cutS (fun s : SS × Value => [(2, .int .u64 now), (7, pp p), (9, .int .i64 s.1.last), (10, s.2)]) (fun s w' => ∃ k, WI (keepS r) k s.1 ∧ k ≤ 12 ∧ WS w w' p s.1 s.2 now) (fun s w' hQ => ?_) (fun hj => ?_)
  · obtain ⟨s, u⟩ := s
    obtain ⟨k, hwi, hk12, ⟨⟨O, M, hz, hM, hu⟩, hr, hg⟩⟩ := hQ
    simp only at hwi hz hu hr
    obtain ⟨adu, cu, rfl⟩ := hr.slice
    have hwla := hwi.last
    have hwl := hwi.len
    have hwm := hwi.most
    have hsl := stayW_len now s
    refine RK.seq ?_
    refine RK.region ?_
    iterate 2 refine RL.p rfl rfl ?_
    refine RL.op (.free rfl) rfl rfl (Does.call rfl e18 (sweepZ_ok _ p s O M hz hwi.g now)) ?_
    rintro u5 w5 ⟨O5, ids, hr5, hf5, hperm, hz5, hm5, hO5, hno5⟩
    obtain ⟨ad5, c5, rfl⟩ := hr5.slice
    have hgz5 := hwi.g.swept now
    have hru5 := hr.mod hm5 (fun b e e2 => (hu b e).2 e2)
    have hg5 := hg.then hm5 (fun b hb e => by have := hM b (hz.inM b e); omega)
    refine RL.p rfl rfl ?_
    refine RL.done ?_
    refine RK.seq ?_
    refine RK.region ?_
    iterate 2 refine RL.p rfl rfl ?_
    refine RL.op (.free rfl) rfl rfl (Does.call rfl e17 (listStore_ok _ p (sweptZ s now) _ _ hz5 hgz5 now 0 (fun a ha => by rw [hwi.ms a (List.mem_filter.1 ha).1]; simp))) ?_
    rintro u6 w6 ⟨⟨tl, htl, hr6, hsh6⟩, hf6, hg6⟩
    obtain ⟨ad6, c6, rfl⟩ := hr6.slice
    have htid : tl.map (·.id) = stayW now s := by
        have h := congrArg (List.map (fun t : Slz × Int => t.1.id)) htl
        rw [List.map_map, swept_list] at h
        exact h
    have htll : tl.length = (stayW now s).length := by rw [← htid, List.length_map]
    have hgl := gone_len hperm
    refine RL.p rfl rfl ?_
    refine RL.done ?_
    iterate 2 refine RK.seq ?_
    refine RK.region ?_
    refine RL.p rfl rfl ?_
    refine RL.q (.free rfl) rfl rfl (Yld.lenSl u35 rfl) ?_
    iterate 2 refine RL.p rfl rfl ?_
    refine RL.q (.free rfl) rfl rfl (Yld.lenSl u35 rfl) ?_
    refine RL.p rfl rfl ?_
    refine RL.re (d := 100) rfl rfl (sub_i64 (z := (ids.length : Int)) (show s.last - ((stayW now s).length : Int) = _ by omega) (by omega) (by omega)) ?_
    iterate 2 refine RL.p rfl rfl ?_
    refine RL.knownF (d := 102) rfl rfl (by simp) ?_
    refine RL.q (.yes rfl rfl rfl) rfl rfl (Yld.pure rfl) ?_
    refine RL.q (.yes rfl rfl rfl) rfl rfl (Yld.lenSl u44 rfl) ?_
    refine RL.q (.yes rfl rfl rfl) rfl rfl (Yld.pure rfl) ?_
    refine RL.q (.yes rfl rfl rfl) rfl rfl (Yld.lenSl u35 rfl) ?_
    refine RL.q (.yes rfl rfl rfl) rfl rfl (Yld.pure rfl) ?_
    iterate 2 refine RL.p rfl rfl ?_
    refine RL.knownF (d := 109) rfl rfl (by rw [htll]; simp) ?_
    refine RL.q (.yes rfl rfl rfl) rfl rfl (Yld.pure rfl) ?_
    refine RL.op (.yes rfl rfl rfl) rfl rfl (Does.call rfl e13 (lenZ_ok _ p _ _ _ (hz5.grow hg6))) ?_
    rintro _ _ ⟨rfl, rfl⟩
    refine RL.q (.yes rfl rfl rfl) rfl rfl (Yld.pure rfl) ?_
    refine RL.q (.yes rfl rfl rfl) rfl rfl (Yld.lenSl u35 rfl) ?_
    refine RL.q (.yes rfl rfl rfl) rfl rfl (Yld.pure rfl) ?_
    iterate 2 refine RL.p rfl rfl ?_
    refine RL.knownF (d := 116) rfl rfl (by rw [swept_len]; simp) ?_
    iterate 2 refine RL.q (.yes rfl rfl rfl) rfl rfl (Yld.pure rfl) ?_
    refine RL.op (.yes rfl rfl rfl) rfl rfl (Does.call rfl e18 (sweepZ_ok _ p (sweptZ s now) _ _ (hz5.grow hg6) hgz5 now)) ?_
    rintro u7 w7 ⟨O7, ids7, hr7, hf7, hperm7, hz7, hm7, hO7, hno7⟩
    obtain rfl := swept_none hperm7
    obtain ⟨ad7, c7, rfl⟩ := hr7.slice
    rw [swept_twice] at hz7
    have hz5s := hm5.size
    have hg7 := (hg5.trans hg6).then hm7 (fun b hb e => (hO5 b e).elim (fun h1 => by have := hM b (hz.inM b h1); omega) (fun h1 => by have := hg.size; omega))
    have hr57 := (hr5.mod hg6 (fun _ _ h => h)).mod hm7 (fun b e e2 => hno5 b e e2)
    have hr67 := hr6.mod hm7 (fun b e e2 => by have h1 := hf6 b e; have h2 := hz5.lt b e2; omega)
    have hru7 := (hru5.mod hg6 (fun _ _ h => h)).mod hm7 (fun b e e2 => (hO5 b e2).elim (hu b e).2 fun e3 => by have := hr.lt e; omega)
    refine RL.q (.yes rfl rfl rfl) rfl rfl (Yld.lenSl u35 rfl) ?_
    refine RL.q (.yes rfl rfl rfl) rfl rfl (Yld.pure rfl) ?_
    refine RL.p rfl rfl ?_
    refine RL.done ?_
    refine RK.condF (hcF rfl (by simp)) ?_
    refine RK.skip ?_
    iterate 2 refine RK.seq ?_
    refine RK.region ?_
    refine RL.p rfl rfl ?_
    refine RL.done ?_
    refine RK.block ?_
    refine RK.loop (fun k : Nat => [(7, pp p), (9, .int .i64 s.last), (10, .slice adu (stayW now s).length cu), (14, .slice ad5 ids.length c5), (15, .slice ad6 tl.length c6), (16, .int .i64 (k : Int))]) (fun k w' => Grow w7 w' ∧ k ≤ tl.length) (fun k => tl.length - k) 0 ⟨rfl, rfl, rfl, rfl, rfl, rfl, trivial⟩ ⟨Mod.refl _ _, by omega⟩ (fun k w8 hI ih => ?_)
    obtain ⟨hg8, hk⟩ := hI
    iterate 2 refine RK.seq ?_
    refine RK.region ?_
    iterate 2 refine RL.p rfl rfl ?_
    refine RL.q (.free rfl) rfl rfl (Yld.lenSl u44 rfl) ?_
    refine RL.p rfl rfl ?_
    refine RL.done ?_
    first | refine RK.condD rfl (fun h126 => ?_) (fun h126 => ?_) | refine RK.condN rfl (fun h126 => ?_) (fun h126 => ?_) | refine RK.cond rfl (fun h126 => ?_) (fun h126 => ?_)
    · obtain ⟨a, ha⟩ : ∃ a, tl[k]? = some a := ⟨tl[k]'(by omega), List.getElem?_eq_getElem (by omega)⟩
      have has : (stayW now s)[k]? = some a.id := by rw [← htid, List.getElem?_map, ha]; rfl
      obtain ⟨b1, o1, c1', he1, _, _, hc1⟩ := (Sl.own (M := No) hr67 (fun _ _ h => h)).elem silC_len ha
      cases he1
      obtain ⟨b2, o2, c2', he2, _, _, hc2⟩ := (Sl.own (M := No) hru7 (fun _ _ h => h)).elem1 (k := k) (u := .int .i64 a.id) (by unfold ints; rw [List.getElem?_map, has]; rfl)
      cases he2
      have hnot := gone_not hwi.g hperm a.id (List.mem_of_getElem? has)
      refine RK.skip ?_
      refine RK.seq ?_
      refine RK.block ?_
      refine RK.seq ?_
      refine RK.drawM No [(0, false), (1, false), (2, false), (3, false), (4, false), (5, false), (6, false), (7, false), (8, false), (9, false), (10, false), (11, false), (12, false), (13, false), (14, false), (15, false), (16, true), (17, false)] [] mixed (by kernel_rfl) ?_
      iterate 2 refine DL.p rfl rfl rfl ?_
      refine DL.qf rfl (.free rfl) rfl rfl (Yld.indexAddrN u44 i41 rfl rfl (by omega)) ?_
      refine DL.qf rfl (.free rfl) rfl rfl (Yld.fieldAddr fo41_0 rfl) ?_
      refine DL.q rfl (.free rfl) rfl rfl rfl (Yld.load p3 rfl (atM (hg8.cell (hc1 0 _ rfl) (fun h => h)) (fun h => h))) (Mod.drew _ _) ?_
      iterate 2 refine DL.p rfl rfl rfl ?_
      refine DL.qf rfl (.free rfl) rfl rfl (Yld.indexAddrN u35 i3 rfl rfl (by omega)) ?_
      refine DL.q rfl (.free rfl) rfl rfl rfl (Yld.load p3 rfl (atM (hg8.cell (hc2 k (.int .i64 a.id) (by unfold ints; rw [List.getElem?_map, has]; rfl)) (fun h => h)) (fun h => h))) (Mod.drew _ _) ?_
      iterate 2 refine DL.p rfl rfl rfl ?_
      refine DL.knownF (d := 139) rfl rfl (by simp) ?_
      iterate 3 refine DL.qf rfl (.yes rfl rfl rfl) rfl rfl (Yld.pure rfl) ?_
      refine DL.qf rfl (.yes rfl rfl rfl) rfl rfl (Yld.indexAddrN u35 i3 rfl rfl (by omega)) ?_
      refine DL.q rfl (.yes rfl rfl rfl) rfl rfl rfl (Yld.load p3 rfl (atM (hg8.cell (hc2 k (.int .i64 a.id) (by unfold ints; rw [List.getElem?_map, has]; rfl)) (fun h => h)) (fun h => h))) (Mod.drew _ _) ?_
      refine DL.op rfl (.yes rfl rfl rfl) rfl rfl (Does.call rfl e19 (hasR9_ok No ids a.id _ _ (Sl.own ((hr57.mod hg8 (fun _ _ h => h)).mod (Mod.drew No _) (fun _ _ h => h)) (fun _ _ h => h)))) ?_
      rintro _ w9 ⟨rfl, hg9⟩
      refine ⟨(Mod.drew _ _).trans hg9, ?_⟩
      refine DL.p rfl rfl rfl ?_
      refine DL.done ?_
      refine RK.condF (hcF rfl (decide_eq_false hnot)) ?_
      refine RK.skip ?_
      refine RK.inBlock ?_
      refine RK.region ?_
      iterate 2 refine RL.p rfl rfl ?_
      refine RL.re (d := 128) rfl rfl (succ_i64 (by omega)) ?_
      refine RL.p rfl rfl ?_
      refine RL.done ?_
      exact RK.back (ih (k + 1) _ ⟨(hg8.trans (Mod.drew _ _)).trans hg9, by omega⟩ (by omega)) ⟨rfl, rfl, rfl, rfl, rfl, rfl, trivial⟩
    · have hz8 := hz7.grow hg8
      refine RK.exit rfl ?_
      refine RK.seq ?_
      refine RK.region ?_
      refine RL.p rfl rfl ?_
      refine RL.op (.free rfl) rfl rfl (Does.call rfl e12 (plain14_ok _)) ?_
      rintro u9 w9 ⟨hr9, hf9, hg9⟩
      refine RL.q (.free rfl) rfl rfl (Yld.build (v := .agg (bdC bdAll).toArray) rfl (fun w => by kernel_rfl)) ?_
      refine RL.op (.free rfl) rfl rfl (Does.call rfl e11 (makeZ_ok _ p (sweptZ s now) _ _ (hz8.grow hg9) hgz5 (show s.last < 2147483647 by omega) 0 0 5 (by decide) [mP] u9 bdAll (Sl.own hr9 (fun k hk e => by have h1 := hf9 k hk; have h2 := hz8.below k e; omega)) (by simp))) ?_
      rintro _ w10 ⟨O10, rfl, hz10, hm10, hO10⟩
      have hsw := swept_len now s
      have hg89 := (hg7.trans hg8).trans hg9
      have hz7s := hm7.size
      have hgA : Grow w w10 := hg89.then hm10 (fun b hb e => (hO7 b e).elim (fun h1 => (hO5 b h1).elim (fun h1 => by have := hM b (hz.inM b h1); omega) (fun h1 => by have := hg.size; omega)) (fun h1 => by have := (hg5.trans hg6).size; omega))
      have hsp5 : spanS 0 0 5 = true := by rw [span00]; decide
      have hmk : makeS (sweptZ s now) 0 0 5 [mP] bdAll = if (stayW now s).length < 12 then (pushS (sweptZ s now) 0 5, s.last + 1, 0) else (sweptZ s now, 0, 10) := by
          have hmo : (sweptZ s now).most = 12 := hwm
          by_cases h : (stayW now s).length < 12
          · rw [if_pos h]; exact makeP_yes (by rw [hmo, hsw]; omega) hsp5
          · rw [if_neg h]; exact makeP_full (by rw [hmo, hsw]; omega) hsp5
      rw [hmk]
      iterate 5 refine RL.p rfl rfl ?_
      refine RL.done ?_
      refine RK.seq ?_
      refine RK.region ?_
      iterate 3 refine RL.p rfl rfl ?_
      refine RL.q (.free rfl) rfl rfl (Yld.lenSl u35 rfl) ?_
      refine RL.p rfl rfl ?_
      refine RL.q (.free rfl) rfl rfl (Yld.eqBool u4 rfl rfl) ?_
      refine RL.p rfl rfl ?_
      refine RL.knownT (d := 160) rfl rfl (by by_cases h : (stayW now s).length < 12 <;> simp [h] <;> omega) ?_
      iterate 3 refine RL.q (.yes rfl rfl rfl) rfl rfl (Yld.pure rfl) ?_
      first | refine RL.splitD (d := 163) rfl rfl (fun h163 => ?_) (fun h163 => ?_) | refine RL.splitN (d := 163) rfl rfl (fun h163 => ?_) (fun h163 => ?_) | refine RL.split (d := 163) rfl rfl (fun h163 => ?_) (fun h163 => ?_)
      · iterate 4 refine RL.no (.no rfl rfl rfl rfl) rfl rfl ?_
        refine RL.q (.yes rfl rfl rfl) rfl rfl (Yld.pure rfl) ?_
        iterate 2 refine RL.p rfl rfl ?_
        refine RL.op (.yes rfl rfl rfl) rfl rfl (Does.call rfl e14 (sruns_ok _)) ?_
        rintro _ w11 ⟨rfl, hg11⟩
        iterate 2 refine RL.p rfl rfl ?_
        refine RL.done ?_
        refine RK.ret_of Tryz.func4 (res1 rfl rfl) ?_ _
        exact ⟨_, rfl, rfl, hgA.trans hg11⟩
      · iterate 3 refine RL.q (.yes rfl rfl rfl) rfl rfl (Yld.pure rfl) ?_
        refine RL.re (d := 166) rfl rfl (add_i64 (z := s.last + 1) rfl (by omega) (by omega)) ?_
        iterate 2 refine RL.q (.yes rfl rfl rfl) rfl rfl (Yld.pure rfl) ?_
        iterate 2 refine RL.p rfl rfl ?_
        refine RL.knownT (d := 170) rfl rfl (by by_cases h : (stayW now s).length < 12 <;> simp [h] at h163 ⊢) ?_
        refine RL.op (.yes rfl rfl rfl) rfl rfl (Does.call rfl e14 (sruns_ok _)) ?_
        rintro _ w11 ⟨rfl, hg11⟩
        iterate 2 refine RL.p rfl rfl ?_
        refine RL.done ?_
        refine RK.ret_of Tryz.func4 (res1 rfl rfl) ?_ _
        exact ⟨_, rfl, rfl, hgA.trans hg11⟩
  · refine RK.block ?_
    refine RK.loop (fun s : Nat × SS × Value => [(0, .slice ad es.length c), (2, .int .u64 now), (7, pp p), (8, .int .u64 (keepS r)), (9, .int .i64 s.2.1.last), (10, s.2.2), (11, .int .i64 (s.1 : Int))]) (fun s w' => WI (keepS r) s.1 s.2.1 ∧ s.1 ≤ es.length ∧ s.1 ≤ 12 ∧ WS w w' p s.2.1 s.2.2 now) (fun s => es.length - s.1) (0, ⟨keepS r, 12, 0, []⟩, .slice none 0 0) ⟨rfl, rfl, rfl, rfl, rfl, rfl, rfl, trivial⟩ ⟨sP_ok _ hk, by simp, by simp, ⟨O1, O1, hz1, hO1, fun b e => by simp [Value.ownBlock] at e⟩, Row.nil _ _ _, hg1⟩ (fun s w' hI ih => ?_)
    obtain ⟨k, s, u⟩ := s
    obtain ⟨hwi, hke, hk12, ⟨⟨O, M, hz, hM, hu⟩, hr, hg⟩⟩ := hI
    simp only at hwi hke hk12 hz hu hr
    have hwl := hwi.len
    have hwla := hwi.last
    have hwm := hwi.most
    have hstl := stayW_len now s
    have hsz := hg.size
    iterate 2 refine RK.seq ?_
    refine RK.region ?_
    iterate 2 refine RL.p rfl rfl ?_
    refine RL.q (.free rfl) rfl rfl (Yld.lenSl u47 rfl) ?_
    iterate 2 refine RL.p rfl rfl ?_
    first | refine RL.splitD (d := 30) rfl rfl (fun h29 => ?_) (fun h29 => ?_) | refine RL.splitN (d := 30) rfl rfl (fun h29 => ?_) (fun h29 => ?_) | refine RL.split (d := 30) rfl rfl (fun h29 => ?_) (fun h29 => ?_)
    · iterate 2 refine RL.q (.yes rfl rfl rfl) rfl rfl (Yld.pure rfl) ?_
      refine RL.p rfl rfl ?_
      refine RL.done ?_
      first | refine RK.condD rfl (fun h33 => ?_) (fun h33 => ?_) | refine RK.condN rfl (fun h33 => ?_) (fun h33 => ?_) | refine RK.cond rfl (fun h33 => ?_) (fun h33 => ?_)
      · obtain ⟨e, he⟩ : ∃ e, es[k]? = some e := ⟨es[k]'(by omega), List.getElem?_eq_getElem (by omega)⟩
        have hee := he0 e (List.mem_of_getElem? he)
        obtain ⟨b1, o1, c1', he1, nb1, _, hc1⟩ := hes'.elem1 (k := k) (u := .int .u64 e) (by simp [he])
        cases he1
        have hcell : ∀ w3, Grow w w3 → w3.cell? ⟨b1, o1 + k * 1, none⟩ = some (.int .u64 e) := fun w3 h3 => h3.cell (hc1 k _ (by simp [he])) (fun h => h)
        refine RK.skip ?_
        refine RK.seq ?_
        refine RK.block ?_
        refine RK.seq ?_
        refine RK.drawM (fun b => w.heap.size ≤ b) [(0, false), (1, false), (2, false), (3, false), (4, false), (6, false), (5, true), (7, true), (8, false), (9, false), (10, false), (11, false), (12, false)] [] mixed (by kernel_rfl) ?_
        iterate 3 refine DL.p rfl rfl rfl ?_
        refine DL.qf rfl (.free rfl) rfl rfl (Yld.indexAddrN u47 i22 rfl rfl (by omega)) ?_
        refine DL.q rfl (.free rfl) rfl rfl rfl (Yld.load p22 rfl (atM (hcell _ hg) (nb1))) (Mod.drew _ _) ?_
        refine DL.qf rfl (.free rfl) rfl rfl (Yld.build (v := .agg (bdC bdAll).toArray) rfl (fun w => by kernel_rfl)) ?_
        refine DL.op rfl (.free rfl) rfl rfl (Does.call rfl e12 (plain14_ok _)) ?_
        rintro u2 w2 ⟨hr2, hf2, hg2'⟩
        have hg2 := (Mod.drew No w').trans hg2'
        refine ⟨Mod.any' hg2, ?_⟩
        have hz2 := hz.grow hg2
        refine DL.op rfl (.free rfl) rfl rfl (Does.call rfl e11 (makeZ_ok _ p s O M hz2 hwi.g (by omega) 0 0 e hee [mP] u2 bdAll (Sl.own hr2 (fun k hk e => by have h1 := hf2 k hk; have h2 := hz.below k e; simp only [World.drew] at h1; omega)) (by simp))) ?_
        rintro _ w4 ⟨O4, rfl, hz4, hm4, hO4⟩
        refine ⟨(Mod.any' hg2).trans (hm4.mono fun b _ e => hM b (hz.inM b e)), ?_⟩
        have hmk := mkW hwi (by omega) e
        have hz2s := hg2.size
        have hg02 := hg.trans hg2
        have hr2u := hr.mod hg2 (fun _ _ h => h)
        have hOO : ∀ x, O4 x → O x ∨ w2.heap.size ≤ x := hO4
        have hgw4 : Grow w w4 := hg02.then hm4 (fun b hb e => by have := hM b (hz.inM b e); omega)
        iterate 5 refine DL.p rfl rfl rfl ?_
        refine DL.done ?_
        iterate 2 refine RK.seq ?_
        refine RK.region ?_
        iterate 4 refine RL.p rfl rfl ?_
        refine RL.q (.free rfl) rfl rfl (Yld.indexAddrN u47 i22 rfl rfl (by omega)) ?_
        refine RL.q (.free rfl) rfl rfl (Yld.load p22 rfl (at1 (hcell _ hgw4))) ?_
        iterate 2 refine RL.p rfl rfl ?_
        first | refine RL.splitD (d := 54) rfl rfl (fun h54 => ?_) (fun h54 => ?_) | refine RL.splitN (d := 54) rfl rfl (fun h54 => ?_) (fun h54 => ?_) | refine RL.split (d := 54) rfl rfl (fun h54 => ?_) (fun h54 => ?_)
        · iterate 2 refine RL.q (.yes rfl rfl rfl) rfl rfl (Yld.pure rfl) ?_
          refine RL.q (.yes rfl rfl rfl) rfl rfl (Yld.indexAddrN u47 i22 rfl rfl (by omega)) ?_
          refine RL.q (.yes rfl rfl rfl) rfl rfl (Yld.load p22 rfl (at1 (hcell _ hgw4))) ?_
          refine RL.q (.yes rfl rfl rfl) rfl rfl (Yld.pure rfl) ?_
          refine RL.p rfl rfl ?_
          refine RL.q (.free rfl) rfl rfl (Yld.neqBool u4 rfl rfl) ?_
          refine RL.done ?_
          refine RK.condF (hcF rfl (by rw [hmk, span00, decide_eq_true h54, Bool.true_and]; by_cases h : e ≤ 1099511627776 <;> simp [h])) ?_
          refine RK.skip ?_
          iterate 2 refine RK.seq ?_
          refine RK.region ?_
          iterate 2 refine RL.p rfl rfl ?_
          refine RL.done ?_
          first | refine RK.condD rfl (fun h63 => ?_) (fun h63 => ?_) | refine RK.condN rfl (fun h63 => ?_) (fun h63 => ?_) | refine RK.cond rfl (fun h63 => ?_) (fun h63 => ?_)
          · have hno : spanS 0 0 e = false := by rw [hmk] at h63; cases hsp : spanS 0 0 e with | false => rfl | true => rw [hsp] at h63; simp at h63
            rw [hmk, if_neg (by rw [hno]; decide)] at hz4
            refine RK.exit rfl ?_
            refine RK.region ?_
            iterate 2 refine RL.p rfl rfl ?_
            refine RL.re (d := 35) rfl rfl (succ_i64 (by omega)) ?_
            refine RL.p rfl rfl ?_
            refine RL.done ?_
            exact RK.back (ih (k + 1, s, u) _ ⟨hwi.up, by simp only; omega, by simp only; omega, WS.make hz2 hM hu hr2u hg02 hz4 hm4 hO4 rfl⟩ (by simp only; omega)) ⟨rfl, rfl, rfl, rfl, rfl, rfl, rfl, trivial⟩
          · have hyes : spanS 0 0 e = true := by rw [hmk] at h63; cases hsp : spanS 0 0 e with | true => rfl | false => rw [hsp] at h63; simp at h63
            rw [if_pos hyes] at hmk
            rw [hmk] at hz4 ⊢
            simp only at hz4
            have hwi' := hwi.yes (by omega) hee hyes
            refine RK.skip ?_
            refine RK.seq ?_
            refine RK.region ?_
            iterate 2 refine RL.p rfl rfl ?_
            refine RL.re (d := 65) rfl rfl (add_i64 (z := s.last + 1) rfl (by omega) (by omega)) ?_
            refine RL.p rfl rfl ?_
            refine RL.done ?_
            iterate 2 refine RK.seq ?_
            refine RK.region ?_
            iterate 3 refine RL.p rfl rfl ?_
            refine RL.done ?_
            refine RK.condF (hcF rfl (by simp)) ?_
            have hM4' : ∀ b, (M b ∨ O4 b) → w.heap.size ≤ b := fun b e => e.elim (hM b) fun e => (hOO b e).elim (fun e => hM b (hz.inM b e)) fun e => by omega
            obtain ⟨M4, hM4e⟩ : ∃ M4, M4 = fun b => M b ∨ O4 b := ⟨_, rfl⟩
            have hzs4 : ZStore O4 M4 w4 p (pushS s 0 e) := by rw [hM4e]; exact hz4
            have hM4 : ∀ b, M4 b → w.heap.size ≤ b := by rw [hM4e]; exact hM4'
            have hu4 : ∀ b, u.ownBlock = some b → M4 b ∧ ¬ O4 b := fun b e => ⟨by rw [hM4e]; exact .inl (hu b e).1, fun e2 => (hOO b e2).elim (hu b e).2 fun e2 => by have := hr2u.lt e; omega⟩
            have hr4 := hr2u.mod hm4 (fun b e e2 => (hu b e).2 e2)
            have hg4 := hgw4
            refine RK.skip ?_
            refine RK.seq ?_
            refine RK.region ?_
            iterate 3 refine RL.p rfl rfl ?_
            refine RL.q (.free rfl) rfl rfl (Yld.indexAddrN u47 i22 rfl rfl (by omega)) ?_
            refine RL.q (.free rfl) rfl rfl (Yld.load p22 rfl (at1 (hcell _ hgw4))) ?_
            iterate 2 refine RL.p rfl rfl ?_
            first | refine RL.splitD (d := 75) rfl rfl (fun h74 => ?_) (fun h74 => ?_) | refine RL.splitN (d := 75) rfl rfl (fun h74 => ?_) (fun h74 => ?_) | refine RL.split (d := 75) rfl rfl (fun h74 => ?_) (fun h74 => ?_)
            · have hstay : now < e + s.ret := by rw [hwi.ret]; omega
              iterate 8 refine RL.no (.no rfl rfl rfl rfl) rfl rfl ?_
              refine RL.p rfl rfl ?_
              refine RL.done ?_
              refine RK.condT rfl ?_
              refine RK.region ?_
              iterate 2 refine RL.p rfl rfl ?_
              refine RL.op (.free rfl) rfl rfl (Does.slice1 u35 i3 rfl rfl rfl rfl rfl) ?_
              rintro _ w5 ⟨b7, rfl, hn7⟩
              refine RL.op (.free rfl) rfl rfl (Does.append u35 i3 rfl rfl rfl rfl rfl (hr4.mod hn7.grow (fun _ _ h => h)) (Sl.new hn7 1 1 rfl (by omega) (fun h => h)) (rfl) (by omega)) ?_
              rintro u8 w6 ⟨hr8, hm8, hu8⟩
              have hz7 := hn7.grow.size
              have hat7 := hn7.at_
              have hz4 := hg4.size
              have hl4 : ∀ b, u.ownBlock = some b → b < w4.heap.size := fun b e => hr4.lt e
              have hu9 : ∀ b, u8.ownBlock = some b → M4 b ∨ w5.heap.size ≤ b + 1 := fun b e => by
                  rcases hu8 with h8 | h8
                  · rw [h8] at e; exact .inl (hu4 b e).1
                  · rw [h8] at e; cases e; exact .inr (by omega)
              have hz8 := (hzs4.grow hn7.grow).other (M' := fun b => M4 b ∨ u8.ownBlock = some b) hm8 (fun b e => (hu4 b e).1) (fun b e e2 => (hu4 b e2).2 e) (fun b e => e.elim .inl fun e => by
                  rcases hu8 with h8 | h8
                  · rw [h8] at e; exact .inl (hu4 b e).1
                  · rw [h8] at e; cases e; exact .inr (by omega)) (fun b e => .inl e) (fun b e => e.elim (fun e => by have := hzs4.below b e; have := hm8.size; omega) (fun e => hr8.lt e))
              refine RL.p rfl rfl ?_
              refine RL.done ?_
              refine RK.inBlock ?_
              refine RK.region ?_
              iterate 2 refine RL.p rfl rfl ?_
              refine RL.re (d := 35) rfl rfl (succ_i64 (by omega)) ?_
              refine RL.p rfl rfl ?_
              refine RL.done ?_
              exact RK.back (ih (k + 1, pushS s 0 e, u8) _ ⟨hwi', by simp only; omega, by simp only; omega, ⟨⟨O4, _, hz8, fun b e => e.elim (hM4 b) (fun e => by
                  rcases hu8 with h8 | h8
                  · rw [h8] at e; exact hM4 b (hu4 b e).1
                  · rw [h8] at e; cases e; omega), fun b e => ⟨.inr e, fun e2 => by
                  rcases hu8 with h8 | h8
                  · rw [h8] at e; exact (hu4 b e).2 e2
                  · rw [h8] at e; cases e; have := hzs4.lt _ e2; omega⟩⟩, by
                  simp only
                  rw [stayW_push, if_pos hstay, List.length_append]
                  simpa [ints, Value.cells] using hr8, (hg4.trans hn7.grow).then hm8 (fun b hb e => by have := hM4 b (hu4 b e).1; omega)⟩⟩ (by simp only; omega)) ⟨rfl, rfl, rfl, rfl, rfl, rfl, rfl, trivial⟩
            · iterate 3 refine RL.q (.yes rfl rfl rfl) rfl rfl (Yld.pure rfl) ?_
              refine RL.q (.yes rfl rfl rfl) rfl rfl (Yld.indexAddrN u47 i22 rfl rfl (by omega)) ?_
              refine RL.q (.yes rfl rfl rfl) rfl rfl (Yld.load p22 rfl (at1 (hcell _ hgw4))) ?_
              refine RL.q (.yes rfl rfl rfl) rfl rfl (Yld.pure rfl) ?_
              refine RL.re (d := 81) rfl rfl (congrArg (Value.int .u64) (show _ = now - e by rw [IntKind.wrap_u64]; omega)) ?_
              iterate 2 refine RL.q (.yes rfl rfl rfl) rfl rfl (Yld.pure rfl) ?_
              refine RL.p rfl rfl ?_
              refine RL.done ?_
              first | refine RK.condD rfl (fun h84 => ?_) (fun h84 => ?_) | refine RK.condN rfl (fun h84 => ?_) (fun h84 => ?_) | refine RK.cond rfl (fun h84 => ?_) (fun h84 => ?_)
              · have hstay : now < e + s.ret := by rw [hwi.ret]; omega
                refine RK.region ?_
                iterate 2 refine RL.p rfl rfl ?_
                refine RL.op (.free rfl) rfl rfl (Does.slice1 u35 i3 rfl rfl rfl rfl rfl) ?_
                rintro _ w5 ⟨b7, rfl, hn7⟩
                refine RL.op (.free rfl) rfl rfl (Does.append u35 i3 rfl rfl rfl rfl rfl (hr4.mod hn7.grow (fun _ _ h => h)) (Sl.new hn7 1 1 rfl (by omega) (fun h => h)) (rfl) (by omega)) ?_
                rintro u8 w6 ⟨hr8, hm8, hu8⟩
                have hz7 := hn7.grow.size
                have hat7 := hn7.at_
                have hz4 := hg4.size
                have hl4 : ∀ b, u.ownBlock = some b → b < w4.heap.size := fun b e => hr4.lt e
                have hu9 : ∀ b, u8.ownBlock = some b → M4 b ∨ w5.heap.size ≤ b + 1 := fun b e => by
                    rcases hu8 with h8 | h8
                    · rw [h8] at e; exact .inl (hu4 b e).1
                    · rw [h8] at e; cases e; exact .inr (by omega)
                have hz8 := (hzs4.grow hn7.grow).other (M' := fun b => M4 b ∨ u8.ownBlock = some b) hm8 (fun b e => (hu4 b e).1) (fun b e e2 => (hu4 b e2).2 e) (fun b e => e.elim .inl fun e => by
                    rcases hu8 with h8 | h8
                    · rw [h8] at e; exact .inl (hu4 b e).1
                    · rw [h8] at e; cases e; exact .inr (by omega)) (fun b e => .inl e) (fun b e => e.elim (fun e => by have := hzs4.below b e; have := hm8.size; omega) (fun e => hr8.lt e))
                refine RL.p rfl rfl ?_
                refine RL.done ?_
                refine RK.inBlock ?_
                refine RK.region ?_
                iterate 2 refine RL.p rfl rfl ?_
                refine RL.re (d := 35) rfl rfl (succ_i64 (by omega)) ?_
                refine RL.p rfl rfl ?_
                refine RL.done ?_
                exact RK.back (ih (k + 1, pushS s 0 e, u8) _ ⟨hwi', by simp only; omega, by simp only; omega, ⟨⟨O4, _, hz8, fun b e => e.elim (hM4 b) (fun e => by
                    rcases hu8 with h8 | h8
                    · rw [h8] at e; exact hM4 b (hu4 b e).1
                    · rw [h8] at e; cases e; omega), fun b e => ⟨.inr e, fun e2 => by
                    rcases hu8 with h8 | h8
                    · rw [h8] at e; exact (hu4 b e).2 e2
                    · rw [h8] at e; cases e; have := hzs4.lt _ e2; omega⟩⟩, by
                    simp only
                    rw [stayW_push, if_pos hstay, List.length_append]
                    simpa [ints, Value.cells] using hr8, (hg4.trans hn7.grow).then hm8 (fun b hb e => by have := hM4 b (hu4 b e).1; omega)⟩⟩ (by simp only; omega)) ⟨rfl, rfl, rfl, rfl, rfl, rfl, rfl, trivial⟩
              · have hstay : ¬ now < e + s.ret := by rw [hwi.ret]; omega
                refine RK.skip ?_
                refine RK.inBlock ?_
                refine RK.region ?_
                iterate 2 refine RL.p rfl rfl ?_
                refine RL.re (d := 35) rfl rfl (succ_i64 (by omega)) ?_
                refine RL.p rfl rfl ?_
                refine RL.done ?_
                exact RK.back (ih (k + 1, pushS s 0 e, u) _ ⟨hwi', by simp only; omega, by simp only; omega, ⟨O4, M4, hzs4, hM4, hu4⟩, by simp only; rw [stayW_push, if_neg hstay, List.append_nil]; exact hr4, hg4⟩ (by simp only; omega)) ⟨rfl, rfl, rfl, rfl, rfl, rfl, rfl, trivial⟩
        · have hno : spanS 0 0 e = false := by rw [span00, decide_eq_false h54]; rfl
          rw [if_neg (by rw [hno]; decide)] at hmk
          iterate 5 refine RL.no (.no rfl rfl rfl rfl) rfl rfl ?_
          refine RL.p rfl rfl ?_
          refine RL.q (.free rfl) rfl rfl (Yld.neqBool u4 rfl rfl) ?_
          refine RL.done ?_
          refine RK.condF (hcF rfl (by rw [hmk]; rfl)) ?_
          refine RK.skip ?_
          iterate 2 refine RK.seq ?_
          refine RK.region ?_
          iterate 2 refine RL.p rfl rfl ?_
          refine RL.done ?_
          refine RK.condT (hcT rfl (by rw [hmk]; rfl)) ?_
          rw [hmk] at hz4
          refine RK.exit rfl ?_
          refine RK.region ?_
          iterate 2 refine RL.p rfl rfl ?_
          refine RL.re (d := 35) rfl rfl (succ_i64 (by omega)) ?_
          refine RL.p rfl rfl ?_
          refine RL.done ?_
          exact RK.back (ih (k + 1, s, u) _ ⟨hwi.up, by simp only; omega, by simp only; omega, WS.make hz2 hM hu hr2u hg02 hz4 hm4 hO4 rfl⟩ (by simp only; omega)) ⟨rfl, rfl, rfl, rfl, rfl, rfl, rfl, trivial⟩
      · refine RK.exit rfl ?_
        exact RK.back (hj (s, u) _ ⟨k, hwi, hk12, ⟨⟨O, M, hz, hM, hu⟩, hr, hg⟩⟩) ⟨rfl, rfl, rfl, rfl, trivial⟩
    · iterate 2 refine RL.no (.no rfl rfl rfl rfl) rfl rfl ?_
      refine RL.p rfl rfl ?_
      refine RL.done ?_
      refine RK.condF rfl ?_
      refine RK.exit rfl ?_
      exact RK.back (hj (s, u) _ ⟨k, hwi, hk12, ⟨⟨O, M, hz, hM, hu⟩, hr, hg⟩⟩) ⟨rfl, rfl, rfl, rfl, trivial⟩
end Go.Proofs.YtbcbfjnlnmhpbaaGreat
set_option linter.unusedVariables false
namespace Go.X
open Go Go.RowKit Go.WideShapes Go.ChangeShapes
section
variable {H : Type} {enc : TypeId × Value → H} {P : Program} {W : World} {base : Nat} {sp : Nat → Bool} {held : Bool}
theorem trod_int {s m : Nat} {k : IntKind} {cs : List Value} {y : DataW H × List MemPlace} (hs : P.underlying s = some (.int k)) (h : DataW.trod enc P W base sp held m s cs = some y) : ∃ b : Int, cs = [.int k b] ∧ (Lit.int k b).wf = true := by
  cases m with
  | zero => simp [DataW.trod] at h
  | succ n =>
    unfold DataW.trod at h
    rw [hs] at h
    split at h <;> simp_all
end
end Go.X
set_option linter.unusedVariables false
namespace Go.X
open Go Go.RowKit Go.WideShapes Go.ChangeShapes
section
variable {H : Type} {enc : TypeId × Value → H} {P : Program} {W : World} {base : Nat} {sp : Nat → Bool} {held : Bool}
end
end Go.X
namespace Go.Proofs.YtbcbfjnlnmhpbaaGreat.silenceSweeps
open Go.ChangeShapes Go.WideShapes Go.ChangeAt Go.RowKit Go.X
set_option linter.unusedVariables false
theorem own : ownKnob Tryz.prog.godebug = none := by kernel_rfl
theorem laidOut : laidOutB Tryz.prog = true := by kernel_rfl
theorem params_ok : ∀ t ∈ Tryz.f4.params.toList, Tryz.prog.readableRec t = true ∧ t < Tryz.prog.types.size := by
  rw [Tryz.params4]
  intro t ht
  simp only [List.mem_cons, List.not_mem_nil, or_false] at ht
  rcases ht with rfl | rfl | rfl <;> exact ⟨by kernel_rfl, of_decide_eq_true (by kernel_rfl)⟩
set_option maxRecDepth 100000 in
theorem lifted (os : Os) (started : os.Started) (H : Type) (enc : TypeId × Value → H) :
    ReturnsInHanded {} Tryz.checked os 4 .any (Rows.silenceSweepsSpec.pre6 enc Tryz.prog Tryz.f4 Rows.silenceSweepsRow.domain false) (Rows.silenceSweepsSpec.post enc Tryz.prog Tryz.f4 false true false false) := by
  refine returnsInHanded_of_change (C := Tryz.checked) own started (by kernel_rfl) Tryz.func4
    (ChangeSpec.witness6 (enc := enc) (C := Tryz.checked) false ⟨#[], #[.slice none 0 0, .int .u64 0, .int .u64 0], []⟩ 8 (by kernel_rfl) (by kernel_rfl) (by kernel_rfl) (by kernel_rfl)) ?_
  intro W base args ds gs before hval0 hW hcnd _
  have hval : ∀ (j : Nat) t v, Tryz.f4.params[j]? = some t → args[j]? = some v → Value.okWide Tryz.prog W .any base t v := hval0
  have hW' := hW
  obtain ⟨p, q, hA0, hV, rfl, hfz, hnd⟩ := hW
  have hlt : ∀ x ∈ p, x.block < W.heap.size := fun x hx => hW'.lt x (List.mem_append_left _ hx)
  have hA : DataW.TrodAll enc Tryz.prog W 0 (fun _ => true) true Tryz.f4.params.toList args.toList ds p := hA0
  have hA1 := hA
  rw [Tryz.params4] at hA hval
  obtain ⟨v0, vs0, d0, ds0, p0, q0, hargs, rfl, rfl, h0, r0⟩ := trodAll_cons hA
  obtain ⟨v1, vs1, d1, ds1, p1, q1, rfl, rfl, rfl, h1, r1⟩ := trodAll_cons r0
  obtain ⟨v2, vs2, d2, ds2, p2, q2, rfl, rfl, rfl, h2, r2⟩ := trodAll_cons r1
  obtain ⟨rfl, rfl, rfl⟩ := trodAll_nil r2
  obtain rfl : args = #[v0, v1, v2] := by cases args; simp_all
  obtain ⟨rfl, rfl⟩ := trodVars_none hV
  have hv0 := hval 0 47 v0 rfl rfl
  have hv1 := hval 1 22 v1 rfl rfl
  have hv2 := hval 2 22 v2 rfl rfl
  clear hval0 hval
  simp only [List.append_nil] at hW' hlt
  have u64r : ∀ b : Int, (Lit.int .u64 b).wf = true → 0 ≤ b ∧ b < 18446744073709551616 := fun b h => by
    have h2 : 0 ≤ b ∧ b ≤ 18446744073709551615 := by simpa [Lit.wf, IntKind.min, IntKind.max, IntKind.signed, IntKind.bits] using h
    omega
  have openU : ∀ (W : World) (r : Reach) (b0 : Nat) (v : Value), Value.okWide Tryz.prog W r b0 22 v → ∃ n : Int, v = .int .u64 n ∧ 0 ≤ n ∧ n < 18446744073709551616 := fun W r b0 v hq => by
    simp only [Value.okWide, Tryz.underlying22, Cell.okWide, Cell.ok] at hq
    cases v with
    | int k n =>
      obtain ⟨rfl, h⟩ := hq
      refine ⟨n, rfl, ?_⟩
      have h2 : 0 ≤ n ∧ n ≤ 18446744073709551615 := by simpa [IntKind.has, IntKind.min, IntKind.max, IntKind.signed, IntKind.bits] using h
      omega
    | _ => simp at hq
  obtain ⟨es, hes, hQ, _⟩ := open_list (fun x : Int => [Value.int .u64 x]) (fun x => 0 ≤ x) (sz := 1) (fun _ => rfl) Tryz.underlying47 (by kernel_rfl) (by omega) hv0 h0 (fun m cs y h => by
    obtain ⟨b, hb, hw⟩ := trod_int Tryz.underlying22 h
    exact ⟨b, hb, (u64r b hw).1⟩)
  rw [flat_one] at hes
  obtain ⟨r, rfl, _⟩ := openU _ _ _ _ hv1
  obtain ⟨now, rfl, _, hn⟩ := openU _ _ _ _ hv2
  have hwalk := ssweeps_ok es v0 r now W hes hQ hn
  refine Calls.mono hwalk ?_
  rintro e W' ⟨v, rfl, rfl, hg⟩
  refine ⟨_, rfl, post_grow hW' (fun _ _ _ => trodAll_cons_mk (shut_bool Tryz.underlying4 _) trodAll_mk0) (fun sp hsp => ?_) (fun _ => rfl) hg (ok_one (by kernel_rfl) rfl (okWide_bool_mk Tryz.underlying4 _))⟩
  have hA2 := hA1
  simp only [List.append_nil] at hA2 hsp
  exact trodAll_grow laidOut hg sp _ _ _ _ params_ok hlt hsp hA2
end Go.Proofs.YtbcbfjnlnmhpbaaGreat.silenceSweeps
