/- The document's own alerts: got, resolved, posted. -/
import Derived.Test.YtffbcfcoddacmaaGreatHa
set_option linter.unusedVariables false
set_option linter.unusedSimpArgs false
set_option maxHeartbeats 1000000
set_option maxRecDepth 100000
namespace Go.Proofs.YtffbcfcoddacmaaGreat
open Go Go.X

theorem where_get {al : List Al} {id : Int} {k : Nat} {a : Al} (ha : al[k]? = some a) (he : a.id = id) (hno : ∀ (i : Nat) (b : Al), i < k → al[i]? = some b → b.id ≠ id) : whereI (al.map pub) id = some k := by
  unfold whereI
  obtain ⟨hk, e⟩ := List.getElem?_eq_some_iff.1 ha
  rw [List.findIdx?_eq_some_iff_getElem]
  refine ⟨by simpa using hk, by simp [e, pub, he], fun j hj => ?_⟩
  have := hno j al[j] hj (List.getElem?_eq_getElem (by omega))
  simpa [pub] using this
theorem where_no {al : List Al} {id : Int} (hno : ∀ (i : Nat) (b : Al), al[i]? = some b → b.id ≠ id) : whereI (al.map pub) id = none := where_none fun i a hi => by
  rw [List.getElem?_map] at hi
  cases h : al[i]? with
  | none => rw [h] at hi; cases hi
  | some b => rw [h] at hi; cases hi; exact hno i b h
theorem rget_ok (P N : Nat → Prop) (w : World) (r : Nat) (most last : Int) (vl : Value) (al : List Al) (h : RA P N w r most last vl al) (hb : al.length ≤ 1000000) (id : Int) :
    Fx Tryz.prog 34 [pp r, .int .i64 id] w (fun u w' => ∃ a : Al, pub a = ((whereI (al.map pub) id).bind fun i => (al.map pub)[i]?).getD (0, [], 0) ∧ u = .tuple #[.agg #[.int .i64 a.id, a.v, .float .f64 a.val], .bool (whereI (al.map pub) id).isSome] ∧ (∃ ad c, a.v = .slice ad a.ls.length c) ∧ SlL No w' a.v a.ls ∧ Grow w w') := by
  have hsl := Sl.own (M := No) h.row (fun _ _ h => h)
  obtain ⟨ad, c, rfl⟩ := h.row.slice
  refine enter Tryz.func34 rfl rfl rfl _ (Pick.sub (l := [0, 1]) (.cons rfl (.cons rfl .nil))) ?_
  refine RK.seq ?_
  refine RK.region ?_
  refine RL.op (.free rfl) rfl rfl (Does.alloc i32) ?_
  rintro _ w1 ⟨b4, rfl, hn4⟩
  refine RL.p rfl rfl ?_
  refine RL.done ?_
  iterate 2 refine RK.seq ?_
  refine RK.region ?_
  refine RL.p rfl rfl ?_
  refine RL.done ?_
  refine RK.block ?_
  refine RK.loop (fun k : Nat => [(0, pp r), (1, .int .i64 id), (4, pp b4), (6, .int .i64 k)]) (fun k w' => Grow w1 w' ∧ k ≤ al.length ∧ ∀ (i : Nat) (b : Al), i < k → al[i]? = some b → b.id ≠ id) (fun k => al.length - k) 0 ⟨rfl, rfl, rfl, rfl, trivial⟩ ⟨Mod.refl _ _, by omega, fun i b h => by omega⟩ (fun k w' hI ih => ?_)
  obtain ⟨hg1, hk, hno⟩ := hI
  have hg := hn4.grow.trans hg1
  have hB := h.blk.mod hg (fun h => h)
  have hB4 := hn4.blk.mod hg1 (fun h => h)
  iterate 2 refine RK.seq ?_
  refine RK.region ?_
  iterate 3 refine RL.p rfl rfl ?_
  refine RL.q (.free rfl) rfl rfl (Yld.fieldAddr fo60_1 rfl) ?_
  refine RL.q (.free rfl) rfl rfl (Yld.load p58 rfl (at1 (hB.cell rfl))) ?_
  refine RL.q (.free rfl) rfl rfl (Yld.lenSl u58 rfl) ?_
  refine RL.p rfl rfl ?_
  refine RL.done ?_
  first | refine RK.condD rfl (fun h13 => ?_) (fun h13 => ?_) | refine RK.condN rfl (fun h13 => ?_) (fun h13 => ?_) | refine RK.cond rfl (fun h13 => ?_) (fun h13 => ?_)
  · obtain ⟨a, ha⟩ : ∃ a, al[k]? = some a := ⟨al[k]'(by omega), List.getElem?_eq_getElem (by omega)⟩
    obtain ⟨b1, o1, c1', he1, _, _, hc1⟩ := hsl.elem alC_len ha
    cases he1
    have hsa := h.sls a (List.mem_of_getElem? ha)
    obtain ⟨ada, ca, hva⟩ := hsa.shape
    refine RK.skip ?_
    refine RK.seq ?_
    refine RK.block ?_
    refine RK.seq ?_
    refine RK.region ?_
    iterate 2 refine RL.p rfl rfl ?_
    refine RL.q (.free rfl) rfl rfl (Yld.fieldAddr fo60_1 rfl) ?_
    refine RL.q (.free rfl) rfl rfl (Yld.load p58 rfl (at1 (hB.cell rfl))) ?_
    refine RL.p rfl rfl ?_
    refine RL.q (.free rfl) rfl rfl (Yld.indexAddrN u58 i32 rfl rfl (by omega)) ?_
    refine RL.q (.free rfl) rfl rfl (Yld.fieldAddr fo32_0 rfl) ?_
    refine RL.q (.free rfl) rfl rfl (Yld.load p3 rfl (at1 (hg.cell (hc1 0 _ rfl) (fun h => h)))) ?_
    iterate 2 refine RL.p rfl rfl ?_
    refine RL.done ?_
    first | refine RK.condD rfl (fun h25 => ?_) (fun h25 => ?_) | refine RK.condN rfl (fun h25 => ?_) (fun h25 => ?_) | refine RK.cond rfl (fun h25 => ?_) (fun h25 => ?_)
    · have hwh := where_get ha h25 hno
      rw [hwh]
      obtain ⟨aid, als, aval, av⟩ := a
      simp only at hva hsa
      subst hva
      refine RK.seq ?_
      refine RK.region ?_
      iterate 2 refine RL.p rfl rfl ?_
      refine RL.q (.free rfl) rfl rfl (Yld.fieldAddr fo60_1 rfl) ?_
      refine RL.q (.free rfl) rfl rfl (Yld.load p58 rfl (at1 (hB.cell rfl))) ?_
      refine RL.p rfl rfl ?_
      refine RL.q (.free rfl) rfl rfl (Yld.indexAddrN u58 i32 rfl rfl (by omega)) ?_
      refine RL.q (.free rfl) rfl rfl (Yld.loadN (cs := [.int .i64 aid, .slice ada als.length ca, .float .f64 aval]) a32 rfl (atN (fun q u hq => hg.cell (hc1 q u hq) (fun h => h)))) ?_
      refine RL.op' (.free rfl) rfl (Does.storeN i32 rfl rfl rfl rfl hB4 (Nat.le_refl 3)) ?_
      rintro _ w5 ⟨hb5, hm5, _⟩
      have hg5 : Grow w w5 := hg.then hm5 (fun b hb e => by have e' : b = b4 := e; have := hn4.at_; omega)
      refine RL.p rfl rfl ?_
      refine RL.done ?_
      refine RK.ret_of Tryz.func34 (resCT (cs := [.int .i64 aid, .slice ada als.length ca, .float .f64 aval]) rfl rfl a32 hb5 rfl) ?_ _
      exact ⟨_, rfl, ⟨aid, als, aval, .slice ada als.length ca⟩, by simp [ha, pub], rfl, ⟨_, _, rfl⟩, hsa.noM.mod hg5, hg5⟩
    · refine RK.skip ?_
      refine RK.inBlock ?_
      refine RK.region ?_
      iterate 2 refine RL.p rfl rfl ?_
      refine RL.re (d := 15) rfl rfl (succ_i64 (by omega)) ?_
      refine RL.p rfl rfl ?_
      refine RL.done ?_
      exact RK.back (ih (k + 1) _ ⟨hg1, by omega, fun i b hi hb' => by by_cases e : i = k; (subst e; rw [ha] at hb'; cases hb'; exact h25); exact hno i b (by omega) hb'⟩ (by omega)) ⟨rfl, rfl, rfl, rfl, trivial⟩
  · have hwh : whereI (al.map pub) id = none := where_no fun i b hi => hno i b (by have := (List.getElem?_eq_some_iff.1 hi).1; omega) hi
    rw [hwh]
    refine RK.exit rfl ?_
    refine RK.seq ?_
    refine RK.region ?_
    refine RL.q (.free rfl) rfl rfl (Yld.build (v := .agg #[.int .i64 0, .slice none 0 0, .float .f64 0]) rfl (fun w => by kernel_rfl)) ?_
    refine RL.op' (.free rfl) rfl (Does.storeN i32 rfl rfl rfl rfl hB4 (Nat.le_refl 3)) ?_
    rintro _ w5 ⟨hb5, hm5, _⟩
    refine RL.p rfl rfl ?_
    refine RL.done ?_
    refine RK.ret_of Tryz.func34 (resCT (cs := [.int .i64 0, .slice none 0 0, .float .f64 0]) rfl rfl a32 hb5 rfl) ?_ _
    exact ⟨_, rfl, ⟨0, [], 0, .slice none 0 0⟩, rfl, rfl, ⟨_, _, rfl⟩, Sl.nil _ _ _ _ _, hg.then hm5 (fun b hb e => by have e' : b = b4 := e; have := hn4.at_; omega)⟩
def resolveR (L : List AlS) (id : Int) : List AlS × Int := match whereI L id with
  | none => (L, 5)
  | some i => (L.eraseIdx i, 0)
theorem rresolve_ok (P N : Nat → Prop) (w : World) (r : Nat) (most last : Int) (vl : Value) (al : List Al) (h : RA P N w r most last vl al) (hb : al.length ≤ 1000000) (id : Int) :
    Fx Tryz.prog 92 [pp r, .int .i64 id] w (fun u w' => ∃ P', u = .int .i64 (resolveR (al.map pub) id).2 ∧ RAt P' (fun b => N b ∨ P' b) w' r most last (resolveR (al.map pub) id).1 ∧ Mod P w w' ∧ ∀ b, P' b → P b ∨ w.heap.size ≤ b) := by
  have hsl := Sl.own (M := No) h.row (fun _ _ h => h)
  have hsh : ∀ a ∈ al, ∃ ad n c, a.v = .slice ad n c := fun a ha => by obtain ⟨ad, c, e⟩ := (h.sls a ha).shape; exact ⟨ad, _, c, e⟩
  obtain ⟨ad, c, rfl, hlc⟩ := h.row.cap
  have hPr : P r := (h.own r).2 (.inl rfl)
  have hNr := h.sub r hPr
  refine enter Tryz.func92 rfl rfl rfl _ (Pick.sub (l := [0, 1]) (.cons rfl (.cons rfl .nil))) ?_
  refine RK.seq ?_
  refine RK.region ?_
  refine RL.p rfl rfl ?_
  refine RL.done ?_
  iterate 2 refine RK.seq ?_
  refine RK.region ?_
  refine RL.p rfl rfl ?_
  refine RL.done ?_
  refine RK.block ?_
  refine RK.loop (fun k : Nat => [(0, pp r), (1, .int .i64 id), (5, .int .i64 k)]) (fun k w' => w = w' ∧ k ≤ al.length ∧ ∀ (i : Nat) (b : Al), i < k → al[i]? = some b → b.id ≠ id) (fun k => al.length - k) 0 ⟨rfl, rfl, rfl, trivial⟩ ⟨rfl, by omega, fun i b h => by omega⟩ (fun k w' hI ih => ?_)
  obtain ⟨rfl, hk, hno⟩ := hI
  iterate 2 refine RK.seq ?_
  refine RK.region ?_
  iterate 3 refine RL.p rfl rfl ?_
  refine RL.q (.free rfl) rfl rfl (Yld.fieldAddr fo60_1 rfl) ?_
  refine RL.q (.free rfl) rfl rfl (Yld.load p58 rfl (at1 (h.blk.cell rfl))) ?_
  refine RL.q (.free rfl) rfl rfl (Yld.lenSl u58 rfl) ?_
  refine RL.p rfl rfl ?_
  refine RL.done ?_
  first | refine RK.condD rfl (fun h12 => ?_) (fun h12 => ?_) | refine RK.condN rfl (fun h12 => ?_) (fun h12 => ?_) | refine RK.cond rfl (fun h12 => ?_) (fun h12 => ?_)
  · obtain ⟨a, ha⟩ : ∃ a, al[k]? = some a := ⟨al[k]'(by omega), List.getElem?_eq_getElem (by omega)⟩
    obtain ⟨b1, o1, c1', he1, _, _, hc1⟩ := hsl.elem alC_len ha
    cases he1
    refine RK.skip ?_
    refine RK.seq ?_
    refine RK.block ?_
    refine RK.seq ?_
    refine RK.region ?_
    iterate 2 refine RL.p rfl rfl ?_
    refine RL.q (.free rfl) rfl rfl (Yld.fieldAddr fo60_1 rfl) ?_
    refine RL.q (.free rfl) rfl rfl (Yld.load p58 rfl (at1 (h.blk.cell rfl))) ?_
    refine RL.p rfl rfl ?_
    refine RL.q (.free rfl) rfl rfl (Yld.indexAddrN u58 i32 rfl rfl (by omega)) ?_
    refine RL.q (.free rfl) rfl rfl (Yld.fieldAddr fo32_0 rfl) ?_
    refine RL.q (.free rfl) rfl rfl (Yld.load p3 rfl (at1 (hc1 0 _ rfl))) ?_
    iterate 2 refine RL.p rfl rfl ?_
    refine RL.done ?_
    first | refine RK.condD rfl (fun h24 => ?_) (fun h24 => ?_) | refine RK.condN rfl (fun h24 => ?_) (fun h24 => ?_) | refine RK.cond rfl (fun h24 => ?_) (fun h24 => ?_)
    · have hwh := where_get ha h24 hno
      have er : resolveR (al.map pub) id = ((al.map pub).eraseIdx k, 0) := by unfold resolveR; rw [hwh]
      rw [er]
      refine RK.seq ?_
      refine RK.drawM No [(0, false), (1, false), (2, false), (3, false), (4, false), (5, false), (6, false), (8, false), (9, false), (10, false), (11, false), (12, false), (13, false), (14, false), (7, true), (15, true), (16, false), (17, false), (18, true)] [18] mixed (by kernel_rfl) ?_
      iterate 3 refine DL.p rfl rfl rfl ?_
      refine DL.qf rfl (.free rfl) rfl rfl (Yld.fieldAddr fo60_1 rfl) ?_
      refine DL.q rfl (.free rfl) rfl rfl rfl (Yld.load p58 rfl (atM (h.blk.cell rfl) (fun h => h))) (Mod.drew _ _) ?_
      refine DL.p rfl rfl rfl ?_
      refine DL.qf rfl (.free rfl) rfl rfl (Yld.sliceHi u58 i32 (m := k) rfl rfl (by omega)) ?_
      iterate 2 refine DL.p rfl rfl rfl ?_
      refine DL.qf rfl (.free rfl) rfl rfl (Yld.fieldAddr fo60_1 rfl) ?_
      refine DL.q rfl (.free rfl) rfl rfl rfl (Yld.load p58 rfl (atM (h.blk.cell rfl) (fun h => h))) (Mod.drew _ _) ?_
      iterate 2 refine DL.p rfl rfl rfl ?_
      refine DL.re (d := 38) rfl rfl (succ_i64 (by omega)) ?_
      refine DL.qf rfl (.free rfl) rfl rfl (Yld.sliceFrom u58 i32 (m := k + 1) rfl rfl (by omega)) ?_
      refine DL.op rfl (.free rfl) rfl rfl (Does.append u58 i32 rfl rfl rfl rfl rfl (Row.nil _ _ _) ((hsl.mod (Mod.drew _ _)).takeF alC_len (by omega)) (allOne_als (fun a ha => hsh a (List.mem_of_mem_take ha))) (by omega)) ?_
      rintro u4 w4 ⟨hr4, hm4, hu4⟩
      have hg4 : Grow w w4 := (Mod.drew No w).trans (hm4.mono fun b _ e => by simp [Value.ownBlock] at e)
      refine ⟨hg4, ?_⟩
      refine DL.op rfl (.free rfl) rfl rfl (Does.append u58 i32 rfl rfl rfl rfl rfl (hr4) ((hsl.mod hg4).fromF alC_len (by omega) hlc) (allOne_als (fun a ha => hsh a (List.mem_of_mem_drop ha))) (by omega)) ?_
      rintro u5 w5 ⟨hr5, hm5, hu5⟩
      have hs34 := hg4.size
      have hf4 : Fresh w.heap.size u4 := fun b e => by rcases hu4 with h1 | h1; (rw [h1] at e; simp [Value.ownBlock] at e); (rw [h1] at e; cases e; simp only [World.drew]; omega)
      have hg5 : Grow w w5 := hg4.then hm5 (fun b hb e => by have := hf4 b e; omega)
      have hf5 : Fresh w.heap.size u5 := fun b e => by rcases hu5 with h1 | h1; (rw [h1] at e; exact hf4 b e); (rw [h1] at e; cases e; omega)
      refine ⟨hg5, ?_⟩
      have hel : (al.take k).flatMap alC ++ (al.drop (k + 1)).flatMap alC = (al.eraseIdx k).flatMap alC := by rw [List.eraseIdx_eq_take_drop_succ, List.flatMap_append]
      have hell : (al.eraseIdx k).length = k + (al.length - (k + 1)) := by rw [List.length_eraseIdx]; simp [(List.getElem?_eq_some_iff.1 ha).1]; omega
      have hr5' : Row w5 32 3 u5 (al.eraseIdx k).length ((al.eraseIdx k).flatMap alC) := by
          rw [hell, ← hel]
          have h9 := hr5
          simp only [List.nil_append, Nat.zero_add] at h9
          exact h9
      obtain ⟨ad5, c5, rfl⟩ := hr5'.slice
      refine DL.p rfl rfl rfl ?_
      refine DL.qf rfl (.free rfl) rfl rfl (Yld.fieldAddr fo60_1 rfl) ?_
      refine DL.opT rfl (.free rfl) rfl rfl (Does.store i58 rfl rfl rfl (h.blk.mod hg5 (fun h => h)) (.s .z)) ?_
      rintro _ w6 ⟨hb6, hm6, _⟩
      have hlt := h.blk.lt
      have hrne : ∀ b, (Value.slice ad5 (al.eraseIdx k).length c5).ownBlock = some b → b ≠ r := fun b e e2 => by have := hf5 b e; omega
      have hm06 : Mod P w w6 := (hg5.any P).trans (hm6.mono fun b _ e => e ▸ hPr)
      have hP' : ∀ b, (b = r ∨ (Value.slice ad5 (al.eraseIdx k).length c5).ownBlock = some b) → P b ∨ w.heap.size ≤ b := fun b e => by rcases e with rfl | e; exact .inl hPr; exact .inr (hf5 b e)
      have hN' : ∀ b, (N b ∨ (b = r ∨ (Value.slice ad5 (al.eraseIdx k).length c5).ownBlock = some b)) → N b ∨ w.heap.size ≤ b := fun b e => e.elim .inl fun e => (hP' b e).imp (h.sub b) (fun h => h)
      have hlt' : ∀ b, (N b ∨ (b = r ∨ (Value.slice ad5 (al.eraseIdx k).length c5).ownBlock = some b)) → b < w6.heap.size := fun b e => by
          rcases e with e | rfl | e
          · have := h.lt e; have := hm06.size; omega
          · exact hb6.lt
          · exact (hr5'.mod hm6 (fun b e e2 => hrne b e e2)).lt e
      refine DL.done ?_
      refine RK.seq ?_
      refine RK.region ?_
      refine RL.p rfl rfl ?_
      refine RL.done ?_
      refine RK.ret_of Tryz.func92 (res1 rfl rfl) ?_ _
      exact ⟨_, rfl, fun b => b = r ∨ (Value.slice ad5 (al.eraseIdx k).length c5).ownBlock = some b, rfl, ⟨_, al.eraseIdx k, ⟨hb6, hr5'.mod hm6 (fun b e e2 => hrne b e e2), fun a' ha' => (h.sls a' (List.mem_of_mem_eraseIdx ha')).pass (by omega) (hm06.mono fun b _ e => h.sub b e) hN', fun b => Iff.rfl, fun _ e => .inr e, hlt'⟩, by rw [map_eraseIdx']⟩, hm06, hP'⟩
    · refine RK.skip ?_
      refine RK.inBlock ?_
      refine RK.region ?_
      iterate 2 refine RL.p rfl rfl ?_
      refine RL.re (d := 14) rfl rfl (succ_i64 (by omega)) ?_
      refine RL.p rfl rfl ?_
      refine RL.done ?_
      exact RK.back (ih (k + 1) _ ⟨rfl, by omega, fun i b hi hb' => by by_cases e : i = k; (subst e; rw [ha] at hb'; cases hb'; exact h24); exact hno i b (by omega) hb'⟩ (by omega)) ⟨rfl, rfl, rfl, trivial⟩
  · have hwh : whereI (al.map pub) id = none := where_no fun i b hi => hno i b (by have := (List.getElem?_eq_some_iff.1 hi).1; omega) hi
    have er : resolveR (al.map pub) id = (al.map pub, 5) := by unfold resolveR; rw [hwh]
    rw [er]
    refine RK.exit rfl ?_
    refine RK.seq ?_
    refine RK.region ?_
    refine RL.p rfl rfl ?_
    refine RL.done ?_
    refine RK.ret_of Tryz.func92 (res1 rfl rfl) ?_ _
    exact ⟨_, rfl, P, rfl, ⟨_, al, ⟨h.blk, h.row, fun a ha => (h.sls a ha).off (by omega) (fun b _ e => e.elim (fun e => e) (h.sub b)), h.own, fun _ e => .inr e, fun b e => e.elim (fun e => h.lt e) (fun e => h.lt (h.sub b e))⟩, rfl⟩, Mod.refl _ _, fun b e => .inl e⟩
end Go.Proofs.YtffbcfcoddacmaaGreat

