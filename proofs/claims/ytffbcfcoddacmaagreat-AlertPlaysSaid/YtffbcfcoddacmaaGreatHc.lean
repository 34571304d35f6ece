/- The document's own alerts: posted. -/
import Derived.Test.YtffbcfcoddacmaaGreatHb
set_option linter.unusedVariables false
set_option linter.unusedSimpArgs false
set_option maxHeartbeats 1000000
set_option maxRecDepth 100000
namespace Go.Proofs.YtffbcfcoddacmaaGreat
open Go Go.X

def postR (most last : Int) (L : List AlS) (ls : List Lab) (val : Nat) : List AlS × Int × Int × Bool × Int :=
  match findS (L.map (·.2.1)) ls with
  | some i => (L.modify i fun a => (a.1, a.2.1, canS val), last, ((L[i]?).map (·.1)).getD 0, false, 0)
  | none => if most ≤ L.length then (L, last, 0, false, 10) else (L ++ [(last + 1, ls, canS val)], last + 1, last + 1, true, 0)
theorem find_get {al : List Al} {ls : List Lab} {k : Nat} {a : Al} (ha : al[k]? = some a) (he : a.ls = ls) (hno : ∀ (i : Nat) (b : Al), i < k → al[i]? = some b → b.ls ≠ ls) : findS ((al.map pub).map (·.2.1)) ls = some k := by
  unfold findS
  obtain ⟨hk, e⟩ := List.getElem?_eq_some_iff.1 ha
  rw [List.findIdx?_eq_some_iff_getElem]
  refine ⟨by simpa using hk, by simp [e, pub, he], fun j hj => ?_⟩
  have := hno j al[j] hj (List.getElem?_eq_getElem (by omega))
  simpa [pub] using this
theorem find_no {al : List Al} {ls : List Lab} (hno : ∀ (i : Nat) (b : Al), al[i]? = some b → b.ls ≠ ls) : findS ((al.map pub).map (·.2.1)) ls = none := by
  unfold findS
  rw [List.findIdx?_eq_none_iff]
  intro x hx
  simp only [List.map_map, List.mem_map] at hx
  obtain ⟨a, ha, rfl⟩ := hx
  obtain ⟨i, hi⟩ := List.getElem?_of_mem ha
  exact decide_eq_false (hno i a hi)
theorem rpost_ok (P N : Nat → Prop) (w : World) (r : Nat) (most last : Int) (vl : Value) (al : List Al) (h : RA P N w r most last vl al) (hb : al.length ≤ 1000000) (hl0 : 0 ≤ last) (hl1 : last ≤ 1000000000) (ls : List Lab) (v : Value) (hv : SlL N w v ls) (his : isS ls = true) (hsz : ∀ x ∈ ls, x.name.size ≤ 9223372036854775807) (val : Nat) :
    Fx Tryz.prog 93 [pp r, v, .float .f64 val] w (fun u w' => ∃ P', u = .tuple #[.int .i64 (postR most last (al.map pub) ls val).2.2.1, .bool (postR most last (al.map pub) ls val).2.2.2.1, .int .i64 (postR most last (al.map pub) ls val).2.2.2.2] ∧ RAt P' (fun b => N b ∨ P' b) w' r most (postR most last (al.map pub) ls val).2.1 (postR most last (al.map pub) ls val).1 ∧ Mod P w w' ∧ ∀ b, P' b → P b ∨ w.heap.size ≤ b) := by
  have hsl := Sl.own (M := No) h.row (fun _ _ h => h)
  have hsh : ∀ a ∈ al, ∃ ad n c, a.v = .slice ad n c := fun a ha => by obtain ⟨ad, c, e⟩ := (h.sls a ha).shape; exact ⟨ad, _, c, e⟩
  obtain ⟨ad, c, rfl⟩ := h.row.slice
  obtain ⟨adv, cv, rfl⟩ := hv.shape
  have hPr : P r := (h.own r).2 (.inl rfl)
  have hPo : ∀ b, (Value.slice ad al.length c).ownBlock = some b → P b := fun b e => (h.own b).2 (.inr e)
  have hNr := h.sub r hPr
  have hNo : ∀ b, (Value.slice ad al.length c).ownBlock = some b → N b := fun b e => h.sub b (hPo b e)
  have hNP : ∀ b, (N b ∨ P b) → N b := fun b e => e.elim (fun e => e) (h.sub b)
  have hrne : ∀ b, (Value.slice ad al.length c).ownBlock = some b → b ≠ r := fun b e => (h.row.ty e).ne h.blk.ty rfl
  have h6 := isS_len his
  refine enter Tryz.func93 rfl rfl rfl _ (Pick.sub (l := [0, 1, 2]) (.cons rfl (.cons rfl (.cons rfl .nil)))) ?_
  refine RK.seq ?_
  refine RK.region ?_
  iterate 3 refine RL.p rfl rfl ?_
  refine RL.done ?_
  iterate 2 refine RK.seq ?_
  refine RK.region ?_
  refine RL.p rfl rfl ?_
  refine RL.op (.free rfl) rfl rfl (Does.call rfl e51 (isSet_ok N ls hsz _ _ hv)) ?_
  rintro _ w1 ⟨rfl, hg1⟩
  refine RL.p rfl rfl ?_
  refine RL.done ?_
  refine RK.condF (hcF rfl (by rw [his]; rfl)) ?_
  have h1 := h.grow hg1
  refine RK.skip ?_
  iterate 2 refine RK.seq ?_
  refine RK.region ?_
  refine RL.p rfl rfl ?_
  refine RL.done ?_
  refine RK.block ?_
  refine RK.loop (fun k : Nat => [(0, pp r), (1, .slice adv ls.length cv), (2, .float .f64 val), (9, .int .i64 k)]) (fun k w' => Grow w w' ∧ k ≤ al.length ∧ ∀ (i : Nat) (b : Al), i < k → al[i]? = some b → b.ls ≠ ls) (fun k => al.length - k) 0 ⟨rfl, rfl, rfl, rfl, trivial⟩ ⟨hg1, by omega, fun i b h => by omega⟩ (fun k w' hI ih => ?_)
  obtain ⟨hg, hk, hno⟩ := hI
  have hB := h.blk.mod hg (fun h => h)
  iterate 2 refine RK.seq ?_
  refine RK.region ?_
  iterate 3 refine RL.p rfl rfl ?_
  refine RL.q (.free rfl) rfl rfl (Yld.fieldAddr fo60_1 rfl) ?_
  refine RL.q (.free rfl) rfl rfl (Yld.load p58 rfl (at1 (hB.cell rfl))) ?_
  refine RL.q (.free rfl) rfl rfl (Yld.lenSl u58 rfl) ?_
  refine RL.p rfl rfl ?_
  refine RL.done ?_
  first | refine RK.condD rfl (fun h19 => ?_) (fun h19 => ?_) | refine RK.condN rfl (fun h19 => ?_) (fun h19 => ?_) | refine RK.cond rfl (fun h19 => ?_) (fun h19 => ?_)
  · obtain ⟨a, ha⟩ : ∃ a, al[k]? = some a := ⟨al[k]'(by omega), List.getElem?_eq_getElem (by omega)⟩
    obtain ⟨b1, o1, c1', he1, _, _, hc1⟩ := hsl.elem alC_len ha
    cases he1
    have hsa := h.sls a (List.mem_of_getElem? ha)
    refine RK.skip ?_
    refine RK.seq ?_
    refine RK.block ?_
    refine RK.seq ?_
    refine RK.region ?_
    iterate 2 refine RL.p rfl rfl ?_
    refine RL.q (.free rfl) rfl rfl (Yld.fieldAddr fo60_1 rfl) ?_
    refine RL.q (.free rfl) rfl rfl (Yld.load p58 rfl (at1 (hB.cell rfl))) ?_
    refine RL.p rfl rfl ?_
    refine RL.q (.free rfl) rfl rfl (Yld.indexAddrN u58 i32 rfl rfl (by omega)) ?_
    refine RL.q (.free rfl) rfl rfl (Yld.fieldAddr fo32_1 rfl) ?_
    refine RL.q (.free rfl) rfl rfl (Yld.load p26 rfl (at1 (hg.cell (hc1 1 _ rfl) (fun h => h)))) ?_
    refine RL.p rfl rfl ?_
    refine RL.op (.free rfl) rfl rfl (Does.call rfl e20 (sameLabels_ok N N a.ls ls _ _ _ (hsa.mod (Mod.any' hg)) (hv.mod (Mod.any' hg)))) ?_
    rintro _ w3 ⟨rfl, hg3⟩
    have hg03 := hg.trans hg3
    refine RL.done ?_
    first | refine RK.condD rfl (fun h31 => ?_) (fun h31 => ?_) | refine RK.condN rfl (fun h31 => ?_) (fun h31 => ?_) | refine RK.cond rfl (fun h31 => ?_) (fun h31 => ?_)
    · have hf := find_get ha h31 hno
      have er : postR most last (al.map pub) ls val = ((al.map pub).modify k fun a => (a.1, a.2.1, canS val), last, a.id, false, 0) := by unfold postR; rw [hf]; simp [ha, pub]
      rw [er]
      have hil : k < al.length := by omega
      have h3 := h.grow hg03
      obtain ⟨g, cap, tl, hvl, hbg, hclose⟩ := h3.row.open (by omega)
      cases hvl
      have hflat : (al.flatMap alC).length = al.length * 3 := flat_len alC 3 alC_len al
      refine RK.seq ?_
      refine RK.drawM No [(0, false), (1, false), (2, false), (3, false), (4, false), (5, false), (6, true), (7, false), (8, false), (9, true)] [9] mixed (by kernel_rfl) ?_
      iterate 2 refine DL.p rfl rfl rfl ?_
      refine DL.qf rfl (.free rfl) rfl rfl (Yld.fieldAddr fo60_1 rfl) ?_
      refine DL.q rfl (.free rfl) rfl rfl rfl (Yld.load p58 rfl (atM (h3.blk.cell rfl) (fun h => h))) (Mod.drew _ _) ?_
      iterate 2 refine DL.p rfl rfl rfl ?_
      refine DL.op rfl (.free rfl) rfl rfl (Does.call rfl e134 (kept_okR val _)) ?_
      rintro _ _ ⟨rfl, rfl⟩
      refine ⟨Mod.drew _ _, ?_⟩
      refine DL.qf rfl (.free rfl) rfl rfl (Yld.indexAddrN u58 i32 rfl rfl (hil)) ?_
      refine DL.qf rfl (.free rfl) rfl rfl (Yld.fieldAddr fo32_2 rfl) ?_
      refine DL.opT rfl (.free rfl) rfl rfl (Does.store i23 rfl rfl rfl (hbg.mod (Mod.drew No _) (fun h => h)) (SetAt.of (by simp only [List.length_append, hflat]; omega))) ?_
      rintro _ w4 ⟨hb4, hm4, _⟩
      have hset : (al.flatMap alC ++ tl).set (0 + k * 3 + 2) (.float .f64 (canS val)) = (al.modify k fun a => setVal a (canS val)).flatMap alC ++ tl := by
          rw [List.set_append_left _ _ (by rw [hflat]; omega), Nat.zero_add, set_val _ _ _ hil]
      have hlen' : ((al.modify k fun a => setVal a (canS val)).flatMap alC).length = (al.flatMap alC).length := by rw [hflat, flat_len alC 3 alC_len]; simp
      have hrow4 := hclose w4 _ hlen' (by rw [← hset]; exact hb4)
      have hrl : (al.modify k fun a => setVal a (canS val)).length = al.length := by simp
      have hm34 : Mod (· = b1) w3 w4 := (Mod.drew _ _).trans hm4
      have hg4r : b1 ≠ r := hrne b1 rfl
      have ha' : (al.modify k fun a => setVal a (canS val))[k]? = some (setVal a (canS val)) := by simp [ha]
      have hsl4 : Sl No w4 (.slice (some ⟨b1, 0, none⟩) al.length c) 3 (al.modify k fun a => setVal a (canS val)).length ((al.modify k fun a => setVal a (canS val)).flatMap alC) := by rw [hrl]; exact Sl.own hrow4 (fun _ _ h => h)
      obtain ⟨b5, o5, c5', he5, _, _, hc5⟩ := hsl4.elem alC_len ha'
      rw [hrl] at he5
      cases he5
      refine DL.done ?_
      refine RK.seq ?_
      refine RK.region ?_
      iterate 2 refine RL.p rfl rfl ?_
      refine RL.q (.free rfl) rfl rfl (Yld.fieldAddr fo60_1 rfl) ?_
      refine RL.q (.free rfl) rfl rfl (Yld.load p58 rfl (at1 ((h3.blk.mod hm34 (Ne.symm hg4r)).cell rfl))) ?_
      refine RL.p rfl rfl ?_
      refine RL.q (.free rfl) rfl rfl (Yld.indexAddrN u58 i32 rfl rfl (hil)) ?_
      refine RL.q (.free rfl) rfl rfl (Yld.fieldAddr fo32_0 rfl) ?_
      refine RL.q (.free rfl) rfl rfl (Yld.load p3 rfl (at1 (hc5 0 _ rfl))) ?_
      iterate 3 refine RL.p rfl rfl ?_
      refine RL.done ?_
      refine RK.ret_of Tryz.func93 (res3 rfl rfl rfl rfl) ?_ _
      exact ⟨_, rfl, P, rfl, ⟨_, al.modify k fun a => setVal a (canS val), ⟨h3.blk.mod hm34 (Ne.symm hg4r), by rw [hrl]; exact hrow4, fun x hx => by
          rcases mem_modify_or hx with h9 | ⟨y, hy, rfl⟩
          · exact ((h3.sls x h9).mod (hm34.mono fun b _ e => e ▸ hNo b1 rfl)).off (by omega) (fun b _ e => hNP b e)
          · exact ((h3.sls y hy).mod (hm34.mono fun b _ e => e ▸ hNo b1 rfl)).off (by omega) (fun b _ e => hNP b e), h.own, fun _ e => .inr e, fun b e => by have h8 := h.lt (hNP b e); have h7 := hg03.size; have h6 := hm34.size; omega⟩, by
          apply List.ext_getElem?
          intro j
          simp only [List.getElem?_map, List.getElem?_modify]
          cases al[j]? with
          | none => rfl
          | some x => by_cases hj : k = j <;> simp [hj, pub, setVal]⟩, (Mod.any' hg03 : Mod P w w3).trans (hm34.mono fun b _ e => e ▸ hPo b1 rfl), fun b e => .inl e⟩
    · refine RK.skip ?_
      refine RK.inBlock ?_
      refine RK.region ?_
      iterate 2 refine RL.p rfl rfl ?_
      refine RL.re (d := 21) rfl rfl (succ_i64 (by omega)) ?_
      refine RL.p rfl rfl ?_
      refine RL.done ?_
      exact RK.back (ih (k + 1) _ ⟨hg03, by omega, fun i b hi hb' => by by_cases e : i = k; (subst e; rw [ha] at hb'; cases hb'; exact h31); exact hno i b (by omega) hb'⟩ (by omega)) ⟨rfl, rfl, rfl, rfl, trivial⟩
  · have hf : findS ((al.map pub).map (·.2.1)) ls = none := find_no fun i b hi => hno i b (by have := (List.getElem?_eq_some_iff.1 hi).1; omega) hi
    have hB2 := hB.mod (Mod.drew No _) (fun h => h)
    refine RK.exit rfl ?_
    iterate 2 refine RK.seq ?_
    refine RK.drawM No [(0, false), (1, false), (2, false), (3, false), (4, false), (5, false), (6, false), (7, false), (8, false), (9, false)] [] mixed (by kernel_rfl) ?_
    iterate 2 refine DL.p rfl rfl rfl ?_
    refine DL.qf rfl (.free rfl) rfl rfl (Yld.fieldAddr fo60_1 rfl) ?_
    refine DL.q rfl (.free rfl) rfl rfl rfl (Yld.load p58 rfl (atM (hB.cell rfl) (fun h => h))) (Mod.drew _ _) ?_
    refine DL.q rfl (.free rfl) rfl rfl rfl (Yld.lenSl u58 rfl) (Mod.drew _ _) ?_
    iterate 2 refine DL.p rfl rfl rfl ?_
    refine DL.qf rfl (.free rfl) rfl rfl (Yld.fieldAddr fo60_0 rfl) ?_
    refine DL.q rfl (.free rfl) rfl rfl rfl (Yld.load p3 rfl (atM (hB.cell rfl) (fun h => h))) (Mod.drew _ _) ?_
    refine DL.p rfl rfl rfl ?_
    refine DL.done ?_
    first | refine RK.condD rfl (fun h58 => ?_) (fun h58 => ?_) | refine RK.condN rfl (fun h58 => ?_) (fun h58 => ?_) | refine RK.cond rfl (fun h58 => ?_) (fun h58 => ?_)
    · have er : postR most last (al.map pub) ls val = (al.map pub, last, 0, false, 10) := by unfold postR; rw [hf]; simp only; rw [if_pos (by simpa using h58)]
      rw [er]
      refine RK.seq ?_
      refine RK.region ?_
      iterate 3 refine RL.p rfl rfl ?_
      refine RL.done ?_
      refine RK.ret_of Tryz.func93 (res3 rfl rfl rfl rfl) ?_ _
      exact ⟨_, rfl, P, rfl, ⟨_, al, (h.grow (hg.trans (Mod.drew _ _))).pass (Q := No) (Mod.refl _ _) (fun _ _ h => h) (fun _ h => h.elim) (fun _ e => .inr e) (fun b e => .inl (hNP b e)) (fun b e => (h.grow (hg.trans (Mod.drew _ _))).lt (hNP b e)), rfl⟩, Mod.any' (hg.trans (Mod.drew _ _)), fun b e => .inl e⟩
    · have er : postR most last (al.map pub) ls val = (al.map pub ++ [(last + 1, ls, canS val)], last + 1, last + 1, true, 0) := by unfold postR; rw [hf]; simp only; rw [if_neg (by simpa using h58)]
      rw [er]
      refine RK.skip ?_
      refine RK.seq ?_
      refine RK.region ?_
      iterate 2 refine RL.p rfl rfl ?_
      refine RL.q (.free rfl) rfl rfl (Yld.fieldAddr fo60_2 rfl) ?_
      refine RL.q (.free rfl) rfl rfl (Yld.load p3 rfl (at1 (hB2.cell rfl))) ?_
      refine RL.p rfl rfl ?_
      refine RL.re (d := 63) rfl rfl (add_i64 (z := last + 1) rfl (by omega) (by omega)) ?_
      refine RL.p rfl rfl ?_
      refine RL.q (.free rfl) rfl rfl (Yld.fieldAddr fo60_2 rfl) ?_
      refine RL.op' (.free rfl) rfl (Does.store i3 rfl rfl rfl hB2 (.s (.s .z))) ?_
      rintro _ w4 ⟨hb4, hm4, _⟩
      have hB4 : Blk w4 r 60 [.int .i64 most, .slice ad al.length c, .int .i64 (last + 1)] := hb4
      have hm04 : Mod (· = r) w w4 := (Mod.any' (hg.trans (Mod.drew _ _))).trans hm4
      have hrow4 := h.row.mod hm04 (fun b e e2 => hrne b e e2)
      have hv4 : SlL N w4 (.slice adv ls.length cv) ls := hv.mod (hm04.mono fun b _ e => e ▸ hNr)
      refine RL.done ?_
      refine RK.seq ?_
      refine RK.drawM (fun b => (Value.slice ad al.length c).ownBlock = some b) [(0, false), (1, false), (2, false), (3, false), (4, false), (5, false), (6, false), (7, false), (8, false), (9, false), (11, false), (10, true), (12, true), (13, false), (14, true), (15, true), (16, false), (17, false), (18, true)] [18] mixed (by kernel_rfl) ?_
      iterate 3 refine DL.p rfl rfl rfl ?_
      refine DL.qf rfl (.free rfl) rfl rfl (Yld.fieldAddr fo60_1 rfl) ?_
      refine DL.q rfl (.free rfl) rfl rfl rfl (Yld.load p58 rfl (atM (hB4.cell rfl) (fun e => hrne r e rfl))) (Mod.drew _ _) ?_
      iterate 2 refine DL.p rfl rfl rfl ?_
      refine DL.qf rfl (.free rfl) rfl rfl (Yld.fieldAddr fo60_2 rfl) ?_
      refine DL.q rfl (.free rfl) rfl rfl rfl (Yld.load p3 rfl (atM (hB4.cell rfl) (fun e => hrne r e rfl))) (Mod.drew _ _) ?_
      iterate 2 refine DL.p rfl rfl rfl ?_
      refine DL.op rfl (.free rfl) rfl rfl (Does.append u26 i46 rfl rfl rfl rfl rfl (Row.nil _ _ _) ((hv4.mod (Mod.drew _ _)).noM) (allOne_labs ls) (by omega)) ?_
      rintro u5 w5 ⟨hr5, hm5, hu5⟩
      have hg5 : Grow w4 w5 := (Mod.drew No w4).trans (hm5.mono fun b _ e => by simp [Value.ownBlock] at e)
      refine ⟨hg5.any _, ?_⟩
      refine DL.op rfl (.free rfl) rfl rfl (Does.call rfl e134 (kept_okR val _)) ?_
      rintro _ _ ⟨rfl, rfl⟩
      refine ⟨hg5.any _, ?_⟩
      have hf5 : Fresh w4.heap.size u5 := fun b e => by rcases hu5 with h1 | h1; (rw [h1] at e; simp [Value.ownBlock] at e); (rw [h1] at e; cases e; simp only [World.drew]; omega)
      simp only [List.nil_append, Nat.zero_add] at hr5
      obtain ⟨ad5, c5, rfl⟩ := hr5.slice
      refine DL.qf rfl (.free rfl) rfl rfl (Yld.build (v := .agg #[.int .i64 (last + 1), .slice ad5 ls.length c5, .float .f64 (canS val)]) rfl (fun w => by kernel_rfl)) ?_
      refine DL.op rfl (.free rfl) rfl rfl (Does.slice1 u58 i32 rfl rfl rfl rfl rfl) ?_
      rintro _ w6 ⟨b6, rfl, hn6⟩
      have hg6 : Grow w4 w6 := hg5.trans hn6.grow
      refine ⟨hg6.any _, ?_⟩
      refine DL.op rfl (.free rfl) rfl rfl (Does.append u58 i32 rfl rfl rfl rfl rfl (hrow4.mod hg6 (fun _ _ h => h)) (Sl.new hn6 3 1 rfl (by omega) (fun h => h)) (rfl) (by omega)) ?_
      rintro u7 w7 ⟨hr7, hm7, hu7⟩
      obtain ⟨ad7, c7, rfl⟩ := hr7.slice
      refine ⟨(hg6.any _).trans hm7, ?_⟩
      have hm47 : Mod (fun b => (Value.slice ad al.length c).ownBlock = some b) w4 w7 := (hg6.any _).trans hm7
      refine DL.p rfl rfl rfl ?_
      refine DL.qf rfl (.free rfl) rfl rfl (Yld.fieldAddr fo60_1 rfl) ?_
      refine DL.opT rfl (.free rfl) rfl rfl (Does.store i58 rfl rfl rfl (hB4.mod hm47 (fun e => hrne r e rfl)) (.s .z)) ?_
      rintro _ w8 ⟨hb8, hm8, _⟩
      have hs6 := hg6.size
      have hs4 := hm04.size
      have hrlt := h.blk.lt
      have hx7 : ∀ b, (Value.slice ad7 (al.length + 1) c7).ownBlock = some b → (Value.slice ad al.length c).ownBlock = some b ∨ w6.heap.size ≤ b := fun b e => by
          rcases hu7 with h1 | h1
          · exact .inl (h1 ▸ e)
          · rw [h1] at e; cases e; exact .inr (Nat.le_refl _)
      have hrne7 : ∀ b, (Value.slice ad7 (al.length + 1) c7).ownBlock = some b → b ≠ r := fun b e e2 => by
          rcases hx7 b e with h1 | h1
          · exact hrne b h1 e2
          · omega
      have hmP : Mod P w w8 := ((hm04.mono fun b _ e => e ▸ hPr).trans (hm47.mono fun b _ e => hPo b e)).trans (hm8.mono fun b _ e => e ▸ hPr)
      have hmN : Mod N w w8 := hmP.mono fun b _ e => h.sub b e
      have hpassP : ∀ b, (b = r ∨ (Value.slice ad7 (al.length + 1) c7).ownBlock = some b) → P b ∨ w.heap.size ≤ b := fun b e => by
          rcases e with rfl | e
          · exact .inl hPr
          · rcases hx7 b e with h1 | h1
            · exact .inl (hPo b h1)
            · exact .inr (by omega)
      have hpass : ∀ b, (N b ∨ (b = r ∨ (Value.slice ad7 (al.length + 1) c7).ownBlock = some b)) → N b ∨ w.heap.size ≤ b := fun b e => e.elim .inl fun e => (hpassP b e).imp (h.sub b) id
      have hr8 := hr7.mod hm8 (fun b e e2 => hrne7 b e e2)
      have hlt8 : ∀ b, (N b ∨ (b = r ∨ (Value.slice ad7 (al.length + 1) c7).ownBlock = some b)) → b < w8.heap.size := fun b e => by
          rcases e with e | rfl | e
          · have := h.lt e; have := hmP.size; omega
          · exact hb8.lt
          · exact hr8.lt e
      have hlb : Sl (fun b => N b ∨ (b = r ∨ (Value.slice ad7 (al.length + 1) c7).ownBlock = some b)) w8 (.slice ad5 ls.length c5) 2 ls.length (ls.flatMap labC) := by
          have h9 : Sl N w5 (.slice ad5 ls.length c5) 2 ls.length (ls.flatMap labC) := Sl.own hr5 (fun b e hb => by have h1 := hf5 b e; have h2 := h.lt hb; omega)
          have hm58 : Mod N w5 w8 := ((hn6.grow.any N).trans (hm7.mono fun b _ e => hNo b e)).trans (hm8.mono fun b _ e => e ▸ hNr)
          have hs5 := hg5.size
          exact h9.pass (by omega) hm58 (fun b e => by
            rcases e with e | rfl | e
            · exact .inl e
            · exact .inl hNr
            · rcases hx7 b e with h1 | h1
              · exact .inl (hNo b h1)
              · exact .inr (by have := hn6.grow.size; omega))
      refine DL.done ?_
      refine RK.seq ?_
      refine RK.region ?_
      iterate 2 refine RL.p rfl rfl ?_
      refine RL.q (.free rfl) rfl rfl (Yld.fieldAddr fo60_2 rfl) ?_
      refine RL.q (.free rfl) rfl rfl (Yld.load p3 rfl (at1 (hb8.cell rfl))) ?_
      iterate 3 refine RL.p rfl rfl ?_
      refine RL.done ?_
      refine RK.ret_of Tryz.func93 (res3 rfl rfl rfl rfl) ?_ _
      exact ⟨_, rfl, fun b => b = r ∨ (Value.slice ad7 (al.length + 1) c7).ownBlock = some b, rfl, ⟨_, al ++ [⟨last + 1, ls, canS val, .slice ad5 ls.length c5⟩], ⟨hb8, by
          have e1 : (al ++ [(⟨last + 1, ls, canS val, .slice ad5 ls.length c5⟩ : Al)]).flatMap alC = al.flatMap alC ++ (Value.agg #[.int .i64 (last + 1), .slice ad5 ls.length c5, .float .f64 (canS val)]).cells.toList := by simp [alC, Value.cells]
          rw [e1, List.length_append]; exact hr8, fun x hx => by
          rcases List.mem_append.1 hx with h9 | h9
          · exact (h.sls x h9).pass (by omega) hmN hpass
          · simp at h9; subst h9; exact hlb, fun b => Iff.rfl, fun _ e => .inr e, hlt8⟩, by simp [pub]⟩, hmP, hpassP⟩
end Go.Proofs.YtffbcfcoddacmaaGreat

