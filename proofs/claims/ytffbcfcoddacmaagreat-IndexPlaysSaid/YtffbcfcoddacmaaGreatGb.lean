/- Indexes built by steps: one step. -/
import Derived.Test.YtffbcfcoddacmaaGreatGa
set_option linter.unusedVariables false
set_option linter.unusedSimpArgs false
set_option maxHeartbeats 2000000
set_option maxRecDepth 100000
namespace Go.Proofs.YtffbcfcoddacmaaGreat
open Go Go.X

theorem optI_nn (o : Option Nat) : (0 ≤ optI o) = (o.isSome = true) := by
  cases o with
  | none => simp [optI]
  | some i => simp [optI]
theorem bstep_ok (w0 w : World) (ix : Nat) (M : Nat → Prop) (rows : List (LabK × List Int)) (v : Value) (al : List Al) (h : BJ w0 w ix M rows v al) (hlen : al.length ≤ 900) (B : Nat) (hB : B ≤ 5994) (hbd : ∀ t ∈ rows, t.2.length ≤ B) (x : Sp) (hx : x.Ok w) :
    Fx Tryz.prog 96 [pp ix, v, .agg #[.bool x.drop, .int .i64 x.id, x.v]] w (fun u w' => ∃ v' al' rows', u = .tuple #[v', .bool true] ∧ BJ w0 w' ix M rows' v' al' ∧ al'.map pub = stepP (al.map pub) x.drop x.id (labelsS x.labs) ∧ ∀ t ∈ rows', t.2.length ≤ B + 6) := by
  obtain ⟨d, id, labs, xv⟩ := x
  obtain ⟨hx1, hx2, hx3⟩ := hx
  simp only at hx1 hx2 hx3
  obtain ⟨adx, cx, rfl⟩ := hx1.shape
  have hn : ((al.map pub).map (·.1)).Nodup := by have := h.im.inv.nd; rwa [hasOf_keys] at this
  have hsl := Sl.own (M := No) h.row (fun _ _ h => h)
  have hsh : ∀ a ∈ al, ∃ ad n c, a.v = .slice ad n c := fun a ha => by obtain ⟨ad, c, e⟩ := (h.sls a ha).shape; exact ⟨ad, _, c, e⟩
  obtain ⟨ad, c, rfl, hlc⟩ := h.row.cap
  obtain ⟨L, hL⟩ : ∃ L, al.map pub = L := ⟨_, rfl⟩
  have hLget : ∀ i, L[i]? = (al[i]?).map pub := fun i => by rw [← hL, List.getElem?_map]
  have hLlen : L.length = al.length := by rw [← hL]; simp
  obtain ⟨zw, hzw⟩ : ∃ zw, whereI L id = zw := ⟨_, rfl⟩
  have him := h.im
  rw [hL] at him hn ⊢
  have hlk : (lookM (hasOf L) id).isSome = zw.isSome := by rw [← where_look, hzw]
  refine enter Tryz.func96 rfl rfl rfl _ (Pick.sub (l := [0, 1, 2]) (.cons rfl (.cons rfl (.cons rfl .nil)))) ?_
  refine RK.seq ?_
  refine RK.region ?_
  refine RL.op (.free rfl) rfl rfl (Does.box rfl) ?_
  rintro _ w1 ⟨b5, rfl, hn5⟩
  iterate 2 refine RL.p rfl rfl ?_
  refine RL.done ?_
  refine RK.seq ?_
  refine RK.region ?_
  refine RL.p rfl rfl ?_
  refine RL.done ?_
  iterate 2 refine RK.seq ?_
  refine RK.region ?_
  refine RL.p rfl rfl ?_
  refine RL.done ?_
  refine RK.block ?_
  refine RK.loop (fun s : Nat × Int => [(0, pp ix), (1, .slice ad al.length c), (5, pp b5), (8, .int .i64 s.2), (9, .int .i64 (s.1 : Int))]) (fun s w' => Grow w1 w' ∧ s.1 ≤ al.length ∧ (s.2 = -1 ∧ (∀ (i : Nat) (a : Al), i < s.1 → al[i]? = some a → a.id ≠ id) ∨ ∃ (i : Nat) (a : Al), i < s.1 ∧ s.2 = (i : Int) ∧ al[i]? = some a ∧ a.id = id)) (fun s => al.length - s.1) (0, -1) ⟨rfl, rfl, rfl, rfl, rfl, trivial⟩ ⟨Mod.refl _ _, by simp, .inl ⟨rfl, fun i a h => by simp only at h; omega⟩⟩ (fun s w' hI ih => ?_)
  obtain ⟨k, z⟩ := s
  obtain ⟨hg1, hk, hz⟩ := hI
  simp only at hk hz
  have hg : Grow w w' := hn5.grow.trans hg1
  have hB5 := hn5.blk.mod hg1 (fun h => h)
  iterate 2 refine RK.seq ?_
  refine RK.region ?_
  iterate 2 refine RL.p rfl rfl ?_
  refine RL.q (.free rfl) rfl rfl (Yld.lenSl u58 rfl) ?_
  refine RL.p rfl rfl ?_
  refine RL.done ?_
  first | refine RK.condD rfl (fun h14 => ?_) (fun h14 => ?_) | refine RK.condN rfl (fun h14 => ?_) (fun h14 => ?_) | refine RK.cond rfl (fun h14 => ?_) (fun h14 => ?_)
  · obtain ⟨a, ha⟩ : ∃ a, al[k]? = some a := ⟨al[k]'(by omega), List.getElem?_eq_getElem (by omega)⟩
    obtain ⟨b1, o1, c1', he1, _, _, hc1⟩ := hsl.elem alC_len ha
    cases he1
    refine RK.skip ?_
    refine RK.seq ?_
    refine RK.block ?_
    refine RK.seq ?_
    refine RK.drawM No [(0, false), (1, false), (2, false), (3, false), (4, false), (5, false), (6, false), (7, false)] [] mixed (by kernel_rfl) ?_
    iterate 2 refine DL.p rfl rfl rfl ?_
    refine DL.qf rfl (.free rfl) rfl rfl (Yld.indexAddrN u58 i32 rfl rfl (by omega)) ?_
    refine DL.qf rfl (.free rfl) rfl rfl (Yld.fieldAddr fo32_0 rfl) ?_
    refine DL.q rfl (.free rfl) rfl rfl rfl (Yld.load p3 rfl (atM (hg.cell (hc1 0 _ rfl) (fun h => h)) (fun h => h))) (Mod.drew _ _) ?_
    refine DL.qf rfl (.free rfl) rfl rfl (Yld.fieldAddr fo153_1 rfl) ?_
    refine DL.q rfl (.free rfl) rfl rfl rfl (Yld.load p3 rfl (atM (hB5.cell rfl) (fun h => h))) (Mod.drew _ _) ?_
    refine DL.p rfl rfl rfl ?_
    refine DL.done ?_
    first | refine RK.condD rfl (fun h24 => ?_) (fun h24 => ?_) | refine RK.condN rfl (fun h24 => ?_) (fun h24 => ?_) | refine RK.cond rfl (fun h24 => ?_) (fun h24 => ?_)
    · refine RK.region ?_
      iterate 2 refine RL.p rfl rfl ?_
      refine RL.done ?_
      refine RK.inBlock ?_
      refine RK.region ?_
      iterate 2 refine RL.p rfl rfl ?_
      refine RL.re (d := 16) rfl rfl (succ_i64 (by omega)) ?_
      refine RL.p rfl rfl ?_
      refine RL.done ?_
      exact RK.back (ih (k + 1, (k : Int)) _ ⟨hg1.trans (Mod.drew _ _), by simp only; omega, .inr ⟨k, a, by simp only; omega, rfl, ha, h24⟩⟩ (by simp only; omega)) ⟨rfl, rfl, rfl, rfl, rfl, trivial⟩
    · refine RK.skip ?_
      refine RK.inBlock ?_
      refine RK.region ?_
      iterate 2 refine RL.p rfl rfl ?_
      refine RL.re (d := 16) rfl rfl (succ_i64 (by omega)) ?_
      refine RL.p rfl rfl ?_
      refine RL.done ?_
      exact RK.back (ih (k + 1, z) _ ⟨hg1.trans (Mod.drew _ _), by simp only; omega, by
          rcases hz with ⟨h1, h2⟩ | ⟨i, a', h1, h2⟩
          · refine .inl ⟨h1, fun i a' hi ha' => ?_⟩
            by_cases e : i = k
            · subst e; rw [ha] at ha'; cases ha'; exact h24
            · exact h2 i a' (by simp only at hi; omega) ha'
          · exact .inr ⟨i, a', by simp only; omega, h2⟩⟩ (by simp only; omega)) ⟨rfl, rfl, rfl, rfl, rfl, trivial⟩
  · have hk' : k = al.length := by omega
    have hzz : z = optI zw := by
        rcases hz with ⟨h1, h2⟩ | ⟨i, a', h1, h2, h3, h4⟩
        · have : whereI L id = none := where_none fun i a hi e => by
            rw [hLget] at hi
            cases ha : al[i]? with
            | none => rw [ha] at hi; cases hi
            | some a' => rw [ha] at hi; cases hi; exact h2 i a' (by have := (List.getElem?_eq_some_iff.1 ha).1; omega) ha e
          rw [hzw] at this
          rw [h1, this]; rfl
        · have : whereI L id = some i := where_at (a := pub a') hn (by rw [hLget, h3]; rfl) h4
          rw [hzw] at this
          rw [h2, this]; rfl
    have hnn : decide (0 ≤ z) = zw.isSome := by
        rw [hzz]
        cases zw with
        | none => rfl
        | some i => exact decide_eq_true (show (0 : Int) ≤ (i : Int) by omega)
    have hneg : decide (z < 0) = zw.isNone := by
        rw [hzz]
        cases zw with
        | none => rfl
        | some i => exact decide_eq_false (show ¬ ((i : Int) < 0) by omega)
    have hk2 := him.grow hg
    refine RK.exit rfl ?_
    iterate 2 refine RK.seq ?_
    refine RK.region ?_
    refine RL.q (.free rfl) rfl rfl (Yld.fieldAddr fo153_0 rfl) ?_
    refine RL.q (.free rfl) rfl rfl (Yld.load p4 rfl (at1 (hB5.cell rfl))) ?_
    refine RL.done ?_
    first | refine RK.condD rfl (fun h27 => ?_) (fun h27 => ?_) | refine RK.condN rfl (fun h27 => ?_) (fun h27 => ?_) | refine RK.cond rfl (fun h27 => ?_) (fun h27 => ?_)
    · subst h27
      iterate 2 refine RK.seq ?_
      refine RK.region ?_
      refine RL.p rfl rfl ?_
      refine RL.q (.free rfl) rfl rfl (Yld.fieldAddr fo153_1 rfl) ?_
      refine RL.q (.free rfl) rfl rfl (Yld.load p3 rfl (at1 (hB5.cell rfl))) ?_
      refine RL.op (.free rfl) rfl rfl (Does.call rfl e52 (hk2.drop id)) ?_
      rintro _ w3 ⟨rfl, k3, hm3⟩
      rw [hlk]
      have hrow3 := (h.row.mod hg (fun _ _ h => h)).mod hm3 (fun b e e2 => (him.apart b e).1 e2)
      have hm03 : Mod (fun b => M b ∨ (Value.slice ad al.length c).ownBlock = some b) w w3 := (Mod.any' hg).trans (hm3.mono fun b _ e => .inl e)
      have hsl3 : ∀ a ∈ al, SlL (fun b => M b ∨ (Value.slice ad al.length c).ownBlock = some b) w3 a.v a.ls := fun a ha => (h.sls a ha).mod hm03
      have hg03 : Grow w0 w3 := (h.grow.trans hg).then hm3 (fun b hb e => by have := h.baseM b e; omega)
      have hbd3 := dropRows_bound hbd id ((lookM (hasOf L) id).getD [])
      iterate 2 refine RL.p rfl rfl ?_
      refine RL.q (.free rfl) rfl rfl (Yld.neqBool u4 rfl rfl) ?_
      refine RL.done ?_
      refine RK.condF (hcF rfl (by rw [hnn]; simp)) ?_
      refine RK.skip ?_
      iterate 2 refine RK.seq ?_
      refine RK.region ?_
      iterate 2 refine RL.p rfl rfl ?_
      refine RL.done ?_
      first | refine RK.condD rfl (fun h37 => ?_) (fun h37 => ?_) | refine RK.condN rfl (fun h37 => ?_) (fun h37 => ?_) | refine RK.cond rfl (fun h37 => ?_) (fun h37 => ?_)
      · obtain ⟨i, hi⟩ : ∃ i, zw = some i := by cases hzw' : zw with | none => (rw [hzz, hzw'] at h37; simp [optI] at h37) | some i => exact ⟨i, rfl⟩
        subst hi
        have hzi : z = (i : Int) := hzz
        subst hzi
        have hil : i < al.length := by have := (List.findIdx?_eq_some_iff_getElem.1 hzw).1; omega
        have hs3 : Sl No w3 (.slice ad al.length c) 3 al.length (al.flatMap alC) := Sl.own hrow3 (fun _ _ h => h)
        refine RK.drawM No [(0, false), (1, false), (2, false), (4, false), (5, false), (6, false), (7, false), (3, true), (8, true), (9, false)] [] mixed (by kernel_rfl) ?_
        iterate 2 refine DL.p rfl rfl rfl ?_
        refine DL.qf rfl (.free rfl) rfl rfl (Yld.sliceHi u58 i32 (m := i) rfl rfl (by omega)) ?_
        iterate 3 refine DL.p rfl rfl rfl ?_
        refine DL.re (d := 44) rfl rfl (succ_i64 (by omega)) ?_
        refine DL.qf rfl (.free rfl) rfl rfl (Yld.sliceFrom u58 i32 (m := i + 1) rfl rfl (by omega)) ?_
        refine DL.op rfl (.free rfl) rfl rfl (Does.append u58 i32 rfl rfl rfl rfl rfl (Row.nil _ _ _) ((hs3.mod (Mod.drew _ _)).takeF alC_len (by omega)) (allOne_als (fun a ha => hsh a (List.mem_of_mem_take ha))) (by omega)) ?_
        rintro u4 w4 ⟨hr4, hm4, hu4⟩
        have hg4 : Grow w3 w4 := (Mod.drew No w3).trans (hm4.mono fun b _ e => by simp [Value.ownBlock] at e)
        refine ⟨hg4, ?_⟩
        refine DL.op rfl (.free rfl) rfl rfl (Does.append u58 i32 rfl rfl rfl rfl rfl (hr4) ((hs3.mod hg4).fromF alC_len (by omega) hlc) (allOne_als (fun a ha => hsh a (List.mem_of_mem_drop ha))) (by omega)) ?_
        rintro u5 w5 ⟨hr5, hm5, hu5⟩
        have hs34 := hg4.size
        have hf4 : Fresh w3.heap.size u4 := fun b e => by rcases hu4 with h1 | h1; (rw [h1] at e; simp [Value.ownBlock] at e); (rw [h1] at e; cases e; simp only [World.drew]; omega)
        have hg5 : Grow w3 w5 := hg4.then hm5 (fun b hb e => by have := hf4 b e; omega)
        have hf5 : Fresh w3.heap.size u5 := fun b e => by rcases hu5 with h1 | h1; (rw [h1] at e; exact hf4 b e); (rw [h1] at e; cases e; omega)
        refine ⟨hg5, ?_⟩
        have hel : (al.take i).flatMap alC ++ (al.drop (i + 1)).flatMap alC = (al.eraseIdx i).flatMap alC := by rw [List.eraseIdx_eq_take_drop_succ, List.flatMap_append]
        have hell : (al.eraseIdx i).length = i + (al.length - (i + 1)) := by rw [List.length_eraseIdx]; simp [hil]; omega
        refine DL.p rfl rfl rfl ?_
        refine DL.done ?_
        refine RK.seq ?_
        refine RK.region ?_
        iterate 3 refine RL.p rfl rfl ?_
        refine RL.done ?_
        refine RK.ret_of Tryz.func96 (res2 rfl rfl rfl) ?_ _
        exact ⟨_, rfl, u5, al.eraseIdx i, _, rfl, ⟨by
            rw [map_eraseIdx', hL, ← hasOf_erase hn hzw]
            exact k3.turn (hg5.any _) (fun b e => .inr ⟨hf5 b e, hr5.lt e⟩), by
            rw [hell, ← hel]
            have h9 := hr5
            simp only [List.nil_append, Nat.zero_add] at h9
            exact h9, fun a ha => (hsl3 a (List.mem_of_mem_eraseIdx ha)).pass (by omega) (hg5.any _) (fun b e => by rcases e with e | e; exact .inl (.inl e); exact .inr (hf5 b e)), h.baseM, fun b e => by have := hf5 b e; have := hg03.size; omega, hg03.trans hg5⟩, by rw [map_eraseIdx', hL]; unfold stepP; rw [hzw]; rfl, fun t ht => by have := hbd3 t ht; omega⟩
      · have hz0 : zw = none := by cases hzw' : zw with | none => rfl | some i => (rw [hzz, hzw'] at h37; simp [optI] at h37)
        subst hz0
        refine RK.skip ?_
        refine RK.seq ?_
        refine RK.region ?_
        iterate 3 refine RL.p rfl rfl ?_
        refine RL.done ?_
        refine RK.ret_of Tryz.func96 (res2 rfl rfl rfl) ?_ _
        exact ⟨_, rfl, _, al, _, rfl, ⟨by rw [hL, ← cut_none hzw]; exact k3, hrow3, hsl3, h.baseM, h.baseV, hg03⟩, by rw [hL]; unfold stepP; rw [hzw]; rfl, fun t ht => by have := hbd3 t ht; omega⟩
    · have hd : d = false := by simpa using h27
      subst hd
      refine RK.skip ?_
      refine RK.seq ?_
      refine RK.drawF No [(0, false), (1, false), (2, false), (3, false)] 4 6 [(5, false), (6, true), (7, true)] [(4, true), (5, false), (7, true)] [] mixed (by kernel_rfl) ?_
      refine DL.qf rfl (.free rfl) rfl rfl (Yld.fieldAddr fo153_1 rfl) ?_
      refine DL.q rfl (.free rfl) rfl rfl rfl (Yld.load p3 rfl (atM (hB5.cell rfl) (fun h => h))) (Mod.drew _ _) ?_
      refine DL.qf rfl (.free rfl) rfl rfl (Yld.fieldAddr fo153_2 rfl) ?_
      refine DL.q rfl (.free rfl) rfl rfl rfl (Yld.load p22 rfl (atM (hB5.cell rfl) (fun h => h))) (Mod.drew _ _) ?_
      refine DL.fork ?_ ?_
      · refine DL.op rfl (.free rfl) rfl rfl (Does.call rfl e17 (labels_ok No labs _ _ ((hx1.mod hg).mod (Mod.drew _ _)) hx2)) ?_
        rintro _ w3 ⟨adl, cl, rfl, hr3, hf3, hg3⟩
        refine ⟨(Mod.drew _ _).trans hg3, ?_⟩
        refine DL.qf rfl (.free rfl) rfl rfl (Yld.build (v := .agg #[.int .i64 id, .slice adl (labelsS labs).length cl, .float .f64 0]) rfl (fun w => by kernel_rfl)) ?_
        refine DL.op rfl (.free rfl) rfl rfl (Does.alloc i32) ?_
        rintro _ w4 ⟨b10, rfl, hn10⟩
        refine ⟨((Mod.drew _ _).trans hg3).trans hn10.grow, ?_⟩
        have hg4 : Grow w' w4 := ((Mod.drew No w').trans hg3).trans hn10.grow
        have hrL := hr3.mod hn10.grow (fun _ _ h => h)
        have hfL : Fresh w'.heap.size (.slice adl (labelsS labs).length cl) := hf3
        have hb10 : w'.heap.size ≤ b10 := by have h1 := hn10.at_; have h2 := hg3.size; simp only [World.drew] at h2; omega
        have hsep : ∀ b, (Value.slice adl (labelsS labs).length cl).ownBlock = some b → b ≠ b10 := fun b e => by have h1 := hr3.lt e; have h2 := hn10.at_; omega
        have hB10 := hn10.blk
        refine DL.op' rfl (.free rfl) rfl (Does.storeN i32 rfl rfl rfl rfl hB10 (Nat.le_refl 3)) ?_
        rintro _ w5 ⟨hb5', hm5, _⟩
        have hBa : Blk w5 b10 32 [.int .i64 id, .slice adl (labelsS labs).length cl, .float .f64 0] := hb5'
        have hg5 : Grow w' w5 := hg4.then hm5 (fun b hb e => by have e' : b = b10 := e; omega)
        refine ⟨hg5, ?_⟩
        have hrL5 := hrL.mod hm5 (fun b e e2 => hsep b e e2)
        have hg05 := hg.trans hg5
        have k5 := him.grow hg05
        have hslL : SlL (fun b => M b ∨ (Value.slice ad al.length c).ownBlock = some b) w5 (.slice adl (labelsS labs).length cl) (labelsS labs) := Sl.own hrL5 (fun b e e2 => by have h1 := hfL b e; have h2 := hk2.lt2 e2; omega)
        refine DL.done ?_
        iterate 2 refine RK.seq ?_
        refine RK.region ?_
        refine RL.p rfl rfl ?_
        refine RL.q (.free rfl) rfl rfl (Yld.fieldAddr fo153_1 rfl) ?_
        refine RL.q (.free rfl) rfl rfl (Yld.load p3 rfl (at1 ((hB5.mod hg5 (fun h => h)).cell rfl))) ?_
        refine RL.q (.free rfl) rfl rfl (Yld.fieldAddr fo32_1 rfl) ?_
        refine RL.q (.free rfl) rfl rfl (Yld.load p26 rfl (at1 (hBa.cell rfl))) ?_
        refine RL.op (.free rfl) rfl rfl (Does.call rfl e28 (k5.add (by have := him.len; unfold hasOf; simp; omega) (fun t ht => by have := hbd t ht; omega) hx3 hslL)) ?_
        rintro _ w6 ⟨rfl, k6, hm6⟩
        have hadd : addable (hasOf L) id (labelsS labs) = zw.isNone := by
            unfold addable
            rw [labels_isS, Bool.and_true]
            cases hl : lookM (hasOf L) id with
            | none => rw [hl] at hlk; cases zw <;> simp at hlk ⊢
            | some q => rw [hl] at hlk; cases zw <;> simp at hlk ⊢
        rw [hadd]
        have hrow6 := (h.row.mod hg05 (fun _ _ h => h)).mod hm6 (fun b e e2 => (him.apart b e).1 e2)
        have hm06 : Mod (fun b => M b ∨ (Value.slice ad al.length c).ownBlock = some b) w w6 := (Mod.any' hg05).trans (hm6.mono fun b _ e => .inl e)
        have hsl6 : ∀ a ∈ al, SlL (fun b => M b ∨ (Value.slice ad al.length c).ownBlock = some b) w6 a.v a.ls := fun a ha => (h.sls a ha).mod hm06
        have hslL6 := hslL.mod (hm6.mono fun b _ e => (.inl e : M b ∨ (Value.slice ad al.length c).ownBlock = some b))
        have hg06 : Grow w0 w6 := (h.grow.trans hg05).then hm6 (fun b hb e => by have := h.baseM b e; omega)
        have hBa6 := hBa.mod hm6 (fun e => by have := hk2.lt e; omega)
        iterate 2 refine RL.p rfl rfl ?_
        refine RL.q (.free rfl) rfl rfl (Yld.neqBool u4 rfl rfl) ?_
        refine RL.done ?_
        refine RK.condF (hcF rfl (by rw [hneg]; simp)) ?_
        refine RK.skip ?_
        iterate 2 refine RK.seq ?_
        refine RK.region ?_
        iterate 2 refine RL.p rfl rfl ?_
        refine RL.done ?_
        first | refine RK.condD rfl (fun h65 => ?_) (fun h65 => ?_) | refine RK.condN rfl (fun h65 => ?_) (fun h65 => ?_) | refine RK.cond rfl (fun h65 => ?_) (fun h65 => ?_)
        · have hz0 : zw = none := by cases hzw' : zw with | none => rfl | some i => (rw [hzz, hzw'] at h65; simp [optI] at h65; omega)
          subst hz0
          have eH : addH (hasOf L) id (labelsS labs) = hasOf L ++ [(id, labelsS labs)] := by
              unfold addH
              rw [hadd]
              have : lookM (hasOf L) id = none := by cases hl : lookM (hasOf L) id with | none => rfl | some q => (rw [hl] at hlk; cases hlk)
              simp [putM_new this]
          have eR : addR (hasOf L) rows id (labelsS labs) = addRows rows id (labelsS labs) := by unfold addR; rw [hadd]; rfl
          rw [eH, eR] at k6
          refine RK.region ?_
          refine RL.p rfl rfl ?_
          refine RL.q (.free rfl) rfl rfl (Yld.loadN (cs := [.int .i64 id, .slice adl (labelsS labs).length cl, .float .f64 0]) a32 rfl (atN (fun q u hq => by rw [Nat.zero_add]; exact hBa6.cell' hq))) ?_
          refine RL.op (.free rfl) rfl rfl (Does.slice1 u58 i32 rfl rfl rfl rfl rfl) ?_
          rintro _ w7 ⟨b7, rfl, hn7⟩
          refine RL.op (.free rfl) rfl rfl (Does.append u58 i32 rfl rfl rfl rfl rfl (hrow6.mod hn7.grow (fun _ _ h => h)) (Sl.new hn7 3 1 rfl (by omega) (fun h => h)) (rfl) (by omega)) ?_
          rintro u8 w8 ⟨hr8, hm8, hu8⟩
          have hs67 := hn7.grow.size
          have hx8 : ∀ b, u8.ownBlock = some b → (Value.slice ad al.length c).ownBlock = some b ∨ w7.heap.size ≤ b ∧ b < w8.heap.size := fun b e => by
              rcases hu8 with h1 | h1
              · exact .inl (h1 ▸ e)
              · have := hr8.lt e; rw [h1] at e; cases e; exact .inr ⟨Nat.le_refl _, this⟩
          have hm68 : Mod (fun b => M b ∨ (Value.slice ad al.length c).ownBlock = some b) w6 w8 := (Mod.any' hn7.grow).trans (hm8.mono fun b _ e => .inr e)
          have hpass : ∀ b, (M b ∨ u8.ownBlock = some b) → (M b ∨ (Value.slice ad al.length c).ownBlock = some b) ∨ w6.heap.size ≤ b := fun b e => by
              rcases e with e | e
              · exact .inl (.inl e)
              · rcases hx8 b e with h1 | h1
                · exact .inl (.inr h1)
                · exact .inr (by omega)
          have h6l := isS_len (labels_isS labs)
          refine RL.p rfl rfl ?_
          refine RL.done ?_
          refine RK.seq ?_
          refine RK.region ?_
          iterate 3 refine RL.p rfl rfl ?_
          refine RL.done ?_
          refine RK.ret_of Tryz.func96 (res2 rfl rfl rfl) ?_ _
          exact ⟨_, rfl, u8, al ++ [⟨id, labelsS labs, 0, .slice adl (labelsS labs).length cl⟩], _, rfl, ⟨by
              rw [List.map_append, hL]
              have : hasOf (L ++ [(⟨id, labelsS labs, 0, .slice adl (labelsS labs).length cl⟩ : Al)].map pub) = hasOf L ++ [(id, labelsS labs)] := by simp [hasOf, pub]
              rw [this]
              exact (k6.grow hn7.grow).turn hm8 hx8, by
              have e1 : (al ++ [(⟨id, labelsS labs, 0, .slice adl (labelsS labs).length cl⟩ : Al)]).flatMap alC = al.flatMap alC ++ (Value.agg #[.int .i64 id, .slice adl (labelsS labs).length cl, .float .f64 0]).cells.toList := by simp [alC, Value.cells]
              rw [e1, List.length_append]; exact hr8, fun a ha => by
              rcases List.mem_append.1 ha with h1 | h1
              · exact (hsl6 a h1).pass (by omega) hm68 hpass
              · simp at h1; subst h1
                exact hslL6.pass (by omega) hm68 hpass, h.baseM, fun b e => by
              rcases hx8 b e with h1 | h1
              · exact h.baseV b h1
              · have := hg06.size; omega, (hg06.trans hn7.grow).then hm8 (fun b hb e => by have := h.baseV b e; omega)⟩, by rw [List.map_append, hL]; unfold stepP; rw [hzw]; rfl, fun t ht => by have := addRows_bound hbd id (labelsS labs) t ht; omega⟩
        · obtain ⟨i, hi⟩ : ∃ i, zw = some i := by cases hzw' : zw with | none => (rw [hzz, hzw'] at h65; simp [optI] at h65) | some i => exact ⟨i, rfl⟩
          subst hi
          have eH : addH (hasOf L) id (labelsS labs) = hasOf L := by unfold addH; rw [hadd]; rfl
          have eR : addR (hasOf L) rows id (labelsS labs) = rows := by unfold addR; rw [hadd]; rfl
          rw [eH, eR] at k6
          refine RK.skip ?_
          refine RK.seq ?_
          refine RK.region ?_
          iterate 3 refine RL.p rfl rfl ?_
          refine RL.done ?_
          refine RK.ret_of Tryz.func96 (res2 rfl rfl rfl) ?_ _
          exact ⟨_, rfl, _, al, _, rfl, ⟨by rw [hL]; exact k6, hrow6, hsl6, h.baseM, h.baseV, hg06⟩, by rw [hL]; unfold stepP; rw [hzw]; rfl, fun t ht => by have := hbd t ht; omega⟩
      · refine DL.op rfl (.free rfl) rfl rfl (Does.alloc i32) ?_
        rintro _ w3 ⟨b10, rfl, hn10⟩
        refine ⟨(Mod.drew _ _).trans hn10.grow, ?_⟩
        refine DL.op rfl (.free rfl) rfl rfl (Does.call rfl e17 (labels_ok No labs _ _ (((hx1.mod hg).mod (Mod.drew _ _)).mod hn10.grow) hx2)) ?_
        rintro _ w4 ⟨adl, cl, rfl, hr3, hf3, hg3⟩
        refine ⟨((Mod.drew _ _).trans hn10.grow).trans hg3, ?_⟩
        have hg4 : Grow w' w4 := ((Mod.drew No w').trans hn10.grow).trans hg3
        have hrL := hr3
        have hfL : Fresh w'.heap.size (.slice adl (labelsS labs).length cl) := fun b e => by have h1 := hf3 b e; have h2 := hn10.grow.size; simp only [World.drew] at h2; omega
        have hb10 : w'.heap.size ≤ b10 := by have h1 := hn10.at_; simp only [World.drew] at h1; omega
        have hsep : ∀ b, (Value.slice adl (labelsS labs).length cl).ownBlock = some b → b ≠ b10 := fun b e => by have h1 := hf3 b e; have h2 := hn10.lt; omega
        have hB10 := hn10.blk.mod hg3 (fun h => h)
        refine DL.qf rfl (.free rfl) rfl rfl (Yld.build (v := .agg #[.int .i64 id, .slice adl (labelsS labs).length cl, .float .f64 0]) rfl (fun w => by kernel_rfl)) ?_
        refine DL.op' rfl (.free rfl) rfl (Does.storeN i32 rfl rfl rfl rfl hB10 (Nat.le_refl 3)) ?_
        rintro _ w5 ⟨hb5', hm5, _⟩
        have hBa : Blk w5 b10 32 [.int .i64 id, .slice adl (labelsS labs).length cl, .float .f64 0] := hb5'
        have hg5 : Grow w' w5 := hg4.then hm5 (fun b hb e => by have e' : b = b10 := e; omega)
        refine ⟨hg5, ?_⟩
        have hrL5 := hrL.mod hm5 (fun b e e2 => hsep b e e2)
        have hg05 := hg.trans hg5
        have k5 := him.grow hg05
        have hslL : SlL (fun b => M b ∨ (Value.slice ad al.length c).ownBlock = some b) w5 (.slice adl (labelsS labs).length cl) (labelsS labs) := Sl.own hrL5 (fun b e e2 => by have h1 := hfL b e; have h2 := hk2.lt2 e2; omega)
        refine DL.done ?_
        iterate 2 refine RK.seq ?_
        refine RK.region ?_
        refine RL.p rfl rfl ?_
        refine RL.q (.free rfl) rfl rfl (Yld.fieldAddr fo153_1 rfl) ?_
        refine RL.q (.free rfl) rfl rfl (Yld.load p3 rfl (at1 ((hB5.mod hg5 (fun h => h)).cell rfl))) ?_
        refine RL.q (.free rfl) rfl rfl (Yld.fieldAddr fo32_1 rfl) ?_
        refine RL.q (.free rfl) rfl rfl (Yld.load p26 rfl (at1 (hBa.cell rfl))) ?_
        refine RL.op (.free rfl) rfl rfl (Does.call rfl e28 (k5.add (by have := him.len; unfold hasOf; simp; omega) (fun t ht => by have := hbd t ht; omega) hx3 hslL)) ?_
        rintro _ w6 ⟨rfl, k6, hm6⟩
        have hadd : addable (hasOf L) id (labelsS labs) = zw.isNone := by
            unfold addable
            rw [labels_isS, Bool.and_true]
            cases hl : lookM (hasOf L) id with
            | none => rw [hl] at hlk; cases zw <;> simp at hlk ⊢
            | some q => rw [hl] at hlk; cases zw <;> simp at hlk ⊢
        rw [hadd]
        have hrow6 := (h.row.mod hg05 (fun _ _ h => h)).mod hm6 (fun b e e2 => (him.apart b e).1 e2)
        have hm06 : Mod (fun b => M b ∨ (Value.slice ad al.length c).ownBlock = some b) w w6 := (Mod.any' hg05).trans (hm6.mono fun b _ e => .inl e)
        have hsl6 : ∀ a ∈ al, SlL (fun b => M b ∨ (Value.slice ad al.length c).ownBlock = some b) w6 a.v a.ls := fun a ha => (h.sls a ha).mod hm06
        have hslL6 := hslL.mod (hm6.mono fun b _ e => (.inl e : M b ∨ (Value.slice ad al.length c).ownBlock = some b))
        have hg06 : Grow w0 w6 := (h.grow.trans hg05).then hm6 (fun b hb e => by have := h.baseM b e; omega)
        have hBa6 := hBa.mod hm6 (fun e => by have := hk2.lt e; omega)
        iterate 2 refine RL.p rfl rfl ?_
        refine RL.q (.free rfl) rfl rfl (Yld.neqBool u4 rfl rfl) ?_
        refine RL.done ?_
        refine RK.condF (hcF rfl (by rw [hneg]; simp)) ?_
        refine RK.skip ?_
        iterate 2 refine RK.seq ?_
        refine RK.region ?_
        iterate 2 refine RL.p rfl rfl ?_
        refine RL.done ?_
        first | refine RK.condD rfl (fun h65 => ?_) (fun h65 => ?_) | refine RK.condN rfl (fun h65 => ?_) (fun h65 => ?_) | refine RK.cond rfl (fun h65 => ?_) (fun h65 => ?_)
        · have hz0 : zw = none := by cases hzw' : zw with | none => rfl | some i => (rw [hzz, hzw'] at h65; simp [optI] at h65; omega)
          subst hz0
          have eH : addH (hasOf L) id (labelsS labs) = hasOf L ++ [(id, labelsS labs)] := by
              unfold addH
              rw [hadd]
              have : lookM (hasOf L) id = none := by cases hl : lookM (hasOf L) id with | none => rfl | some q => (rw [hl] at hlk; cases hlk)
              simp [putM_new this]
          have eR : addR (hasOf L) rows id (labelsS labs) = addRows rows id (labelsS labs) := by unfold addR; rw [hadd]; rfl
          rw [eH, eR] at k6
          refine RK.region ?_
          refine RL.p rfl rfl ?_
          refine RL.q (.free rfl) rfl rfl (Yld.loadN (cs := [.int .i64 id, .slice adl (labelsS labs).length cl, .float .f64 0]) a32 rfl (atN (fun q u hq => by rw [Nat.zero_add]; exact hBa6.cell' hq))) ?_
          refine RL.op (.free rfl) rfl rfl (Does.slice1 u58 i32 rfl rfl rfl rfl rfl) ?_
          rintro _ w7 ⟨b7, rfl, hn7⟩
          refine RL.op (.free rfl) rfl rfl (Does.append u58 i32 rfl rfl rfl rfl rfl (hrow6.mod hn7.grow (fun _ _ h => h)) (Sl.new hn7 3 1 rfl (by omega) (fun h => h)) (rfl) (by omega)) ?_
          rintro u8 w8 ⟨hr8, hm8, hu8⟩
          have hs67 := hn7.grow.size
          have hx8 : ∀ b, u8.ownBlock = some b → (Value.slice ad al.length c).ownBlock = some b ∨ w7.heap.size ≤ b ∧ b < w8.heap.size := fun b e => by
              rcases hu8 with h1 | h1
              · exact .inl (h1 ▸ e)
              · have := hr8.lt e; rw [h1] at e; cases e; exact .inr ⟨Nat.le_refl _, this⟩
          have hm68 : Mod (fun b => M b ∨ (Value.slice ad al.length c).ownBlock = some b) w6 w8 := (Mod.any' hn7.grow).trans (hm8.mono fun b _ e => .inr e)
          have hpass : ∀ b, (M b ∨ u8.ownBlock = some b) → (M b ∨ (Value.slice ad al.length c).ownBlock = some b) ∨ w6.heap.size ≤ b := fun b e => by
              rcases e with e | e
              · exact .inl (.inl e)
              · rcases hx8 b e with h1 | h1
                · exact .inl (.inr h1)
                · exact .inr (by omega)
          have h6l := isS_len (labels_isS labs)
          refine RL.p rfl rfl ?_
          refine RL.done ?_
          refine RK.seq ?_
          refine RK.region ?_
          iterate 3 refine RL.p rfl rfl ?_
          refine RL.done ?_
          refine RK.ret_of Tryz.func96 (res2 rfl rfl rfl) ?_ _
          exact ⟨_, rfl, u8, al ++ [⟨id, labelsS labs, 0, .slice adl (labelsS labs).length cl⟩], _, rfl, ⟨by
              rw [List.map_append, hL]
              have : hasOf (L ++ [(⟨id, labelsS labs, 0, .slice adl (labelsS labs).length cl⟩ : Al)].map pub) = hasOf L ++ [(id, labelsS labs)] := by simp [hasOf, pub]
              rw [this]
              exact (k6.grow hn7.grow).turn hm8 hx8, by
              have e1 : (al ++ [(⟨id, labelsS labs, 0, .slice adl (labelsS labs).length cl⟩ : Al)]).flatMap alC = al.flatMap alC ++ (Value.agg #[.int .i64 id, .slice adl (labelsS labs).length cl, .float .f64 0]).cells.toList := by simp [alC, Value.cells]
              rw [e1, List.length_append]; exact hr8, fun a ha => by
              rcases List.mem_append.1 ha with h1 | h1
              · exact (hsl6 a h1).pass (by omega) hm68 hpass
              · simp at h1; subst h1
                exact hslL6.pass (by omega) hm68 hpass, h.baseM, fun b e => by
              rcases hx8 b e with h1 | h1
              · exact h.baseV b h1
              · have := hg06.size; omega, (hg06.trans hn7.grow).then hm8 (fun b hb e => by have := h.baseV b e; omega)⟩, by rw [List.map_append, hL]; unfold stepP; rw [hzw]; rfl, fun t ht => by have := addRows_bound hbd id (labelsS labs) t ht; omega⟩
        · obtain ⟨i, hi⟩ : ∃ i, zw = some i := by cases hzw' : zw with | none => (rw [hzz, hzw'] at h65; simp [optI] at h65) | some i => exact ⟨i, rfl⟩
          subst hi
          have eH : addH (hasOf L) id (labelsS labs) = hasOf L := by unfold addH; rw [hadd]; rfl
          have eR : addR (hasOf L) rows id (labelsS labs) = rows := by unfold addR; rw [hadd]; rfl
          rw [eH, eR] at k6
          refine RK.skip ?_
          refine RK.seq ?_
          refine RK.region ?_
          iterate 3 refine RL.p rfl rfl ?_
          refine RL.done ?_
          refine RK.ret_of Tryz.func96 (res2 rfl rfl rfl) ?_ _
          exact ⟨_, rfl, _, al, _, rfl, ⟨by rw [hL]; exact k6, hrow6, hsl6, h.baseM, h.baseV, hg06⟩, by rw [hL]; unfold stepP; rw [hzw]; rfl, fun t ht => by have := hbd t ht; omega⟩
end Go.Proofs.YtffbcfcoddacmaaGreat

