import Derived.Test.YtffbcfcoddacmaaGreatGrF
/- Indexes built by steps. -/
set_option linter.unusedVariables false
set_option linter.unusedSimpArgs false
set_option maxHeartbeats 1000000
set_option maxRecDepth 100000
namespace Go.Proofs.YtffbcfcoddacmaaGreat
open Go Go.X

/-- A step as it is drawn: 'v' is the slice of its numbers. -/
structure Sp where
  drop : Bool
  id : Int
  labs : List Int
  v : Value
def spC (x : Sp) : List Value := [.bool x.drop, .int .i64 x.id, x.v]
theorem spC_len (x : Sp) : (spC x).length = 3 := rfl
def Sp.Ok (w : World) (x : Sp) : Prop := Sl No w x.v 1 x.labs.length (ints x.labs) ∧ (∀ n ∈ x.labs, -9223372036854775808 ≤ n ∧ n ≤ 9223372036854775807) ∧ -9223372036854775808 ≤ x.id ∧ x.id ≤ 9223372036854775807
def whereI (l : List AlS) (id : Int) : Option Nat := l.findIdx? fun a => decide (a.1 = id)
def stepP (l : List AlS) (d : Bool) (id : Int) (ls : List Lab) : List AlS :=
  match whereI l id with
  | none => if d then l else l ++ [(id, ls, 0)]
  | some i => if d then l.eraseIdx i else l
/-- Behind world w0: an index, and the list of all that are in it. -/
structure BJ (w0 w : World) (ix : Nat) (M : Nat → Prop) (rows : List (LabK × List Int)) (v : Value) (al : List Al) : Prop where
  im : IM M (fun b => v.ownBlock = some b) w ix (hasOf (al.map pub)) rows
  row : Row w 32 3 v al.length (al.flatMap alC)
  sls : ∀ a ∈ al, SlL (fun b => M b ∨ v.ownBlock = some b) w a.v a.ls
  baseM : ∀ b, M b → w0.heap.size ≤ b
  baseV : Fresh w0.heap.size v
  grow : Grow w0 w
theorem BJ.grows {w0 w w' : World} {ix : Nat} {M : Nat → Prop} {rows : List (LabK × List Int)} {v : Value} {al : List Al} (h : BJ w0 w ix M rows v al) (hg : Grow w w') : BJ w0 w' ix M rows v al :=
  ⟨h.im.grow hg, h.row.mod hg (fun _ _ h => h), fun a ha => (h.sls a ha).mod (Mod.any' hg), h.baseM, h.baseV, h.grow.trans hg⟩
theorem where_look {l : List AlS} {id : Int} : (whereI l id).isSome = (lookM (hasOf l) id).isSome := by
  unfold whereI hasOf
  induction l with
  | nil => rfl
  | cons a l ih =>
    rw [List.map_cons, lookM_cons, List.findIdx?_cons]
    by_cases h : a.1 = id
    · simp [h]
    · rw [if_neg (Ne.symm h)]
      simp [h, ih]
theorem where_at {l : List AlS} {id : Int} {i : Nat} {a : AlS} (hn : (l.map (·.1)).Nodup) (ha : l[i]? = some a) (he : a.1 = id) : whereI l id = some i := by
  unfold whereI
  obtain ⟨hi, e⟩ := List.getElem?_eq_some_iff.1 ha
  rw [List.findIdx?_eq_some_iff_getElem]
  refine ⟨hi, by simp [e, he], fun j hj => ?_⟩
  simp only [decide_eq_true_eq]
  intro e2
  have h1 : (l.map (·.1))[i]'(by simpa using hi) = (l.map (·.1))[j]'(by simp; omega) := by simp [e, he, e2]
  have := (List.getElem_inj hn).1 h1
  omega
theorem where_none {l : List AlS} {id : Int} (h : ∀ (i : Nat) (a : AlS), l[i]? = some a → a.1 ≠ id) : whereI l id = none := by
  unfold whereI
  rw [List.findIdx?_eq_none_iff]
  intro x hx
  obtain ⟨i, hi⟩ := List.getElem?_of_mem hx
  simpa using h i x hi
theorem hasOf_keys (l : List AlS) : (hasOf l).map (·.1) = l.map (·.1) := by simp [hasOf, List.map_map]
theorem hasOf_erase {l : List AlS} {id : Int} {i : Nat} (hn : (l.map (·.1)).Nodup) (hw : whereI l id = some i) : cutM (hasOf l) id = hasOf (l.eraseIdx i) := by
  unfold whereI at hw
  obtain ⟨hi, h2, _⟩ := List.findIdx?_eq_some_iff_getElem.1 hw
  have hp : placeM id (hasOf l) = some (i, l[i].2.1) := placeM_at (by rw [hasOf_keys]; exact hn) (by
    unfold hasOf
    rw [List.getElem?_map, List.getElem?_eq_getElem hi]
    simp only [Option.map_some]
    rw [show l[i].1 = id by simpa using h2])
  unfold cutM
  rw [hp]
  simp only [hasOf]
  rw [map_eraseIdx']
theorem cut_none {l : List AlS} {id : Int} (hw : whereI l id = none) : cutM (hasOf l) id = hasOf l := by
  have h1 := where_look (l := l) (id := id)
  rw [hw] at h1
  have h2 : lookM (hasOf l) id = none := by cases h : lookM (hasOf l) id with | none => rfl | some x => rw [h] at h1; cases h1
  have : placeM id (hasOf l) = none := by unfold lookM at h2; exact Option.map_eq_none_iff.1 h2
  unfold cutM; rw [this]
end Go.Proofs.YtffbcfcoddacmaaGreat

/- Indexes built by steps: one step. -/
set_option linter.unusedVariables false
set_option linter.unusedSimpArgs false
set_option maxHeartbeats 2000000
set_option maxRecDepth 100000
namespace Go.Proofs.YtffbcfcoddacmaaGreat
open Go Go.X

theorem optI_nn (o : Option Nat) : (0 ≤ optI o) = (o.isSome = true) := by
  cases o with
  | none => simp [optI]
  | some i => simp [optI]
theorem bstep_ok (w0 w : World) (ix : Nat) (M : Nat → Prop) (rows : List (LabK × List Int)) (v : Value) (al : List Al) (h : BJ w0 w ix M rows v al) (hlen : al.length ≤ 900) (B : Nat) (hB : B ≤ 5994) (hbd : ∀ t ∈ rows, t.2.length ≤ B) (x : Sp) (hx : x.Ok w) :
    Fx Tryz.prog 96 [pp ix, v, .agg #[.bool x.drop, .int .i64 x.id, x.v]] w (fun u w' => ∃ v' al' rows', u = .tuple #[v', .bool true] ∧ BJ w0 w' ix M rows' v' al' ∧ al'.map pub = stepP (al.map pub) x.drop x.id (labelsS x.labs) ∧ ∀ t ∈ rows', t.2.length ≤ B + 6) := by
  obtain ⟨d, id, labs, xv⟩ := x
  obtain ⟨hx1, hx2, hx3⟩ := hx
  simp only at hx1 hx2 hx3
  obtain ⟨adx, cx, rfl⟩ := hx1.shape
  have hn : ((al.map pub).map (·.1)).Nodup := by have := h.im.inv.nd; rwa [hasOf_keys] at this
  have hsl := Sl.own (M := No) h.row (fun _ _ h => h)
  have hsh : ∀ a ∈ al, ∃ ad n c, a.v = .slice ad n c := fun a ha => by obtain ⟨ad, c, e⟩ := (h.sls a ha).shape; exact ⟨ad, _, c, e⟩
  obtain ⟨ad, c, rfl, hlc⟩ := h.row.cap
  obtain ⟨L, hL⟩ : ∃ L, al.map pub = L := ⟨_, rfl⟩
  have hLget : ∀ i, L[i]? = (al[i]?).map pub := fun i => by rw [← hL, List.getElem?_map]
  have hLlen : L.length = al.length := by rw [← hL]; simp
  obtain ⟨zw, hzw⟩ : ∃ zw, whereI L id = zw := ⟨_, rfl⟩
  have him := h.im
  rw [hL] at him hn ⊢
  have hlk : (lookM (hasOf L) id).isSome = zw.isSome := by rw [← where_look, hzw]
  refine enter Tryz.func96 rfl rfl rfl _ (Pick.sub (l := [0, 1, 2]) (.cons rfl (.cons rfl (.cons rfl .nil)))) ?_
  refine RK.seq ?_
  refine RK.region ?_
  refine RL.op (.free rfl) rfl rfl (Does.box rfl) ?_
  rintro _ w1 ⟨b5, rfl, hn5⟩
  iterate 2 refine RL.p rfl rfl ?_
  refine RL.done ?_
  refine RK.seq ?_
  refine RK.region ?_
  refine RL.p rfl rfl ?_
  refine RL.done ?_
  iterate 2 refine RK.seq ?_
  refine RK.region ?_
  refine RL.p rfl rfl ?_
  refine RL.done ?_
  refine RK.block ?_
  refine RK.loop (fun s : Nat × Int => [(0, pp ix), (1, .slice ad al.length c), (5, pp b5), (8, .int .i64 s.2), (9, .int .i64 (s.1 : Int))]) (fun s w' => Grow w1 w' ∧ s.1 ≤ al.length ∧ (s.2 = -1 ∧ (∀ (i : Nat) (a : Al), i < s.1 → al[i]? = some a → a.id ≠ id) ∨ ∃ (i : Nat) (a : Al), i < s.1 ∧ s.2 = (i : Int) ∧ al[i]? = some a ∧ a.id = id)) (fun s => al.length - s.1) (0, -1) ⟨rfl, rfl, rfl, rfl, rfl, trivial⟩ ⟨Mod.refl _ _, by simp, .inl ⟨rfl, fun i a h => by simp only at h; omega⟩⟩ (fun s w' hI ih => ?_)
  obtain ⟨k, z⟩ := s
  obtain ⟨hg1, hk, hz⟩ := hI
  simp only at hk hz
  have hg : Grow w w' := hn5.grow.trans hg1
  have hB5 := hn5.blk.mod hg1 (fun h => h)
  iterate 2 refine RK.seq ?_
  refine RK.region ?_
  iterate 2 refine RL.p rfl rfl ?_
  refine RL.q (.free rfl) rfl rfl (Yld.lenSl u58 rfl) ?_
  refine RL.p rfl rfl ?_
  refine RL.done ?_
  first | refine RK.condD rfl (fun h14 => ?_) (fun h14 => ?_) | refine RK.condN rfl (fun h14 => ?_) (fun h14 => ?_) | refine RK.cond rfl (fun h14 => ?_) (fun h14 => ?_)
  · obtain ⟨a, ha⟩ : ∃ a, al[k]? = some a := ⟨al[k]'(by omega), List.getElem?_eq_getElem (by omega)⟩
    obtain ⟨b1, o1, c1', he1, _, _, hc1⟩ := hsl.elem alC_len ha
    cases he1
    refine RK.skip ?_
    refine RK.seq ?_
    refine RK.block ?_
    refine RK.seq ?_
    refine RK.drawM No [(0, false), (1, false), (2, false), (3, false), (4, false), (5, false), (6, false), (7, false)] [] mixed (by kernel_rfl) ?_
    iterate 2 refine DL.p rfl rfl rfl ?_
    refine DL.qf rfl (.free rfl) rfl rfl (Yld.indexAddrN u58 i32 rfl rfl (by omega)) ?_
    refine DL.qf rfl (.free rfl) rfl rfl (Yld.fieldAddr fo32_0 rfl) ?_
    refine DL.q rfl (.free rfl) rfl rfl rfl (Yld.load p3 rfl (atM (hg.cell (hc1 0 _ rfl) (fun h => h)) (fun h => h))) (Mod.drew _ _) ?_
    refine DL.qf rfl (.free rfl) rfl rfl (Yld.fieldAddr fo153_1 rfl) ?_
    refine DL.q rfl (.free rfl) rfl rfl rfl (Yld.load p3 rfl (atM (hB5.cell rfl) (fun h => h))) (Mod.drew _ _) ?_
    refine DL.p rfl rfl rfl ?_
    refine DL.done ?_
    first | refine RK.condD rfl (fun h24 => ?_) (fun h24 => ?_) | refine RK.condN rfl (fun h24 => ?_) (fun h24 => ?_) | refine RK.cond rfl (fun h24 => ?_) (fun h24 => ?_)
    · refine RK.region ?_
      iterate 2 refine RL.p rfl rfl ?_
      refine RL.done ?_
      refine RK.inBlock ?_
      refine RK.region ?_
      iterate 2 refine RL.p rfl rfl ?_
      refine RL.re (d := 16) rfl rfl (succ_i64 (by omega)) ?_
      refine RL.p rfl rfl ?_
      refine RL.done ?_
      exact RK.back (ih (k + 1, (k : Int)) _ ⟨hg1.trans (Mod.drew _ _), by simp only; omega, .inr ⟨k, a, by simp only; omega, rfl, ha, h24⟩⟩ (by simp only; omega)) ⟨rfl, rfl, rfl, rfl, rfl, trivial⟩
    · refine RK.skip ?_
      refine RK.inBlock ?_
      refine RK.region ?_
      iterate 2 refine RL.p rfl rfl ?_
      refine RL.re (d := 16) rfl rfl (succ_i64 (by omega)) ?_
      refine RL.p rfl rfl ?_
      refine RL.done ?_
      exact RK.back (ih (k + 1, z) _ ⟨hg1.trans (Mod.drew _ _), by simp only; omega, by
          rcases hz with ⟨h1, h2⟩ | ⟨i, a', h1, h2⟩
          · refine .inl ⟨h1, fun i a' hi ha' => ?_⟩
            by_cases e : i = k
            · subst e; rw [ha] at ha'; cases ha'; exact h24
            · exact h2 i a' (by simp only at hi; omega) ha'
          · exact .inr ⟨i, a', by simp only; omega, h2⟩⟩ (by simp only; omega)) ⟨rfl, rfl, rfl, rfl, rfl, trivial⟩
  · have hk' : k = al.length := by omega
    have hzz : z = optI zw := by
        rcases hz with ⟨h1, h2⟩ | ⟨i, a', h1, h2, h3, h4⟩
        · have : whereI L id = none := where_none fun i a hi e => by
            rw [hLget] at hi
            cases ha : al[i]? with
            | none => rw [ha] at hi; cases hi
            | some a' => rw [ha] at hi; cases hi; exact h2 i a' (by have := (List.getElem?_eq_some_iff.1 ha).1; omega) ha e
          rw [hzw] at this
          rw [h1, this]; rfl
        · have : whereI L id = some i := where_at (a := pub a') hn (by rw [hLget, h3]; rfl) h4
          rw [hzw] at this
          rw [h2, this]; rfl
    have hnn : decide (0 ≤ z) = zw.isSome := by
        rw [hzz]
        cases zw with
        | none => rfl
        | some i => exact decide_eq_true (show (0 : Int) ≤ (i : Int) by omega)
    have hneg : decide (z < 0) = zw.isNone := by
        rw [hzz]
        cases zw with
        | none => rfl
        | some i => exact decide_eq_false (show ¬ ((i : Int) < 0) by omega)
    have hk2 := him.grow hg
    refine RK.exit rfl ?_
    iterate 2 refine RK.seq ?_
    refine RK.region ?_
    refine RL.q (.free rfl) rfl rfl (Yld.fieldAddr fo153_0 rfl) ?_
    refine RL.q (.free rfl) rfl rfl (Yld.load p4 rfl (at1 (hB5.cell rfl))) ?_
    refine RL.done ?_
    first | refine RK.condD rfl (fun h27 => ?_) (fun h27 => ?_) | refine RK.condN rfl (fun h27 => ?_) (fun h27 => ?_) | refine RK.cond rfl (fun h27 => ?_) (fun h27 => ?_)
    · subst h27
      iterate 2 refine RK.seq ?_
      refine RK.region ?_
      refine RL.p rfl rfl ?_
      refine RL.q (.free rfl) rfl rfl (Yld.fieldAddr fo153_1 rfl) ?_
      refine RL.q (.free rfl) rfl rfl (Yld.load p3 rfl (at1 (hB5.cell rfl))) ?_
      refine RL.op (.free rfl) rfl rfl (Does.call rfl e52 (hk2.drop id)) ?_
      rintro _ w3 ⟨rfl, k3, hm3⟩
      rw [hlk]
      have hrow3 := (h.row.mod hg (fun _ _ h => h)).mod hm3 (fun b e e2 => (him.apart b e).1 e2)
      have hm03 : Mod (fun b => M b ∨ (Value.slice ad al.length c).ownBlock = some b) w w3 := (Mod.any' hg).trans (hm3.mono fun b _ e => .inl e)
      have hsl3 : ∀ a ∈ al, SlL (fun b => M b ∨ (Value.slice ad al.length c).ownBlock = some b) w3 a.v a.ls := fun a ha => (h.sls a ha).mod hm03
      have hg03 : Grow w0 w3 := (h.grow.trans hg).then hm3 (fun b hb e => by have := h.baseM b e; omega)
      have hbd3 := dropRows_bound hbd id ((lookM (hasOf L) id).getD [])
      iterate 2 refine RL.p rfl rfl ?_
      refine RL.q (.free rfl) rfl rfl (Yld.neqBool u4 rfl rfl) ?_
      refine RL.done ?_
      refine RK.condF (hcF rfl (by rw [hnn]; simp)) ?_
      refine RK.skip ?_
      iterate 2 refine RK.seq ?_
      refine RK.region ?_
      iterate 2 refine RL.p rfl rfl ?_
      refine RL.done ?_
      first | refine RK.condD rfl (fun h37 => ?_) (fun h37 => ?_) | refine RK.condN rfl (fun h37 => ?_) (fun h37 => ?_) | refine RK.cond rfl (fun h37 => ?_) (fun h37 => ?_)
      · obtain ⟨i, hi⟩ : ∃ i, zw = some i := by cases hzw' : zw with | none => (rw [hzz, hzw'] at h37; simp [optI] at h37) | some i => exact ⟨i, rfl⟩
        subst hi
        have hzi : z = (i : Int) := hzz
        subst hzi
        have hil : i < al.length := by have := (List.findIdx?_eq_some_iff_getElem.1 hzw).1; omega
        have hs3 : Sl No w3 (.slice ad al.length c) 3 al.length (al.flatMap alC) := Sl.own hrow3 (fun _ _ h => h)
        refine RK.drawM No [(0, false), (1, false), (2, false), (4, false), (5, false), (6, false), (7, false), (3, true), (8, true), (9, false)] [] mixed (by kernel_rfl) ?_
        iterate 2 refine DL.p rfl rfl rfl ?_
        refine DL.qf rfl (.free rfl) rfl rfl (Yld.sliceHi u58 i32 (m := i) rfl rfl (by omega)) ?_
        iterate 3 refine DL.p rfl rfl rfl ?_
        refine DL.re (d := 44) rfl rfl (succ_i64 (by omega)) ?_
        refine DL.qf rfl (.free rfl) rfl rfl (Yld.sliceFrom u58 i32 (m := i + 1) rfl rfl (by omega)) ?_
        refine DL.op rfl (.free rfl) rfl rfl (Does.append u58 i32 rfl rfl rfl rfl rfl (Row.nil _ _ _) ((hs3.mod (Mod.drew _ _)).takeF alC_len (by omega)) (allOne_als (fun a ha => hsh a (List.mem_of_mem_take ha))) (by omega)) ?_
        rintro u4 w4 ⟨hr4, hm4, hu4⟩
        have hg4 : Grow w3 w4 := (Mod.drew No w3).trans (hm4.mono fun b _ e => by simp [Value.ownBlock] at e)
        refine ⟨hg4, ?_⟩
        refine DL.op rfl (.free rfl) rfl rfl (Does.append u58 i32 rfl rfl rfl rfl rfl (hr4) ((hs3.mod hg4).fromF alC_len (by omega) hlc) (allOne_als (fun a ha => hsh a (List.mem_of_mem_drop ha))) (by omega)) ?_
        rintro u5 w5 ⟨hr5, hm5, hu5⟩
        have hs34 := hg4.size
        have hf4 : Fresh w3.heap.size u4 := fun b e => by rcases hu4 with h1 | h1; (rw [h1] at e; simp [Value.ownBlock] at e); (rw [h1] at e; cases e; simp only [World.drew]; omega)
        have hg5 : Grow w3 w5 := hg4.then hm5 (fun b hb e => by have := hf4 b e; omega)
        have hf5 : Fresh w3.heap.size u5 := fun b e => by rcases hu5 with h1 | h1; (rw [h1] at e; exact hf4 b e); (rw [h1] at e; cases e; omega)
        refine ⟨hg5, ?_⟩
        have hel : (al.take i).flatMap alC ++ (al.drop (i + 1)).flatMap alC = (al.eraseIdx i).flatMap alC := by rw [List.eraseIdx_eq_take_drop_succ, List.flatMap_append]
        have hell : (al.eraseIdx i).length = i + (al.length - (i + 1)) := by rw [List.length_eraseIdx]; simp [hil]; omega
        refine DL.p rfl rfl rfl ?_
        refine DL.done ?_
        refine RK.seq ?_
        refine RK.region ?_
        iterate 3 refine RL.p rfl rfl ?_
        refine RL.done ?_
        refine RK.ret_of Tryz.func96 (res2 rfl rfl rfl) ?_ _
        exact ⟨_, rfl, u5, al.eraseIdx i, _, rfl, ⟨by
            rw [map_eraseIdx', hL, ← hasOf_erase hn hzw]
            exact k3.turn (hg5.any _) (fun b e => .inr ⟨hf5 b e, hr5.lt e⟩), by
            rw [hell, ← hel]
            have h9 := hr5
            simp only [List.nil_append, Nat.zero_add] at h9
            exact h9, fun a ha => (hsl3 a (List.mem_of_mem_eraseIdx ha)).pass (by omega) (hg5.any _) (fun b e => by rcases e with e | e; exact .inl (.inl e); exact .inr (hf5 b e)), h.baseM, fun b e => by have := hf5 b e; have := hg03.size; omega, hg03.trans hg5⟩, by rw [map_eraseIdx', hL]; unfold stepP; rw [hzw]; rfl, fun t ht => by have := hbd3 t ht; omega⟩
      · have hz0 : zw = none := by cases hzw' : zw with | none => rfl | some i => (rw [hzz, hzw'] at h37; simp [optI] at h37)
        subst hz0
        refine RK.skip ?_
        refine RK.seq ?_
        refine RK.region ?_
        iterate 3 refine RL.p rfl rfl ?_
        refine RL.done ?_
        refine RK.ret_of Tryz.func96 (res2 rfl rfl rfl) ?_ _
        exact ⟨_, rfl, _, al, _, rfl, ⟨by rw [hL, ← cut_none hzw]; exact k3, hrow3, hsl3, h.baseM, h.baseV, hg03⟩, by rw [hL]; unfold stepP; rw [hzw]; rfl, fun t ht => by have := hbd3 t ht; omega⟩
    · have hd : d = false := by simpa using h27
      subst hd
      refine RK.skip ?_
      refine RK.seq ?_
      refine RK.drawF No [(0, false), (1, false), (2, false), (3, false)] 4 6 [(5, false), (6, true), (7, true)] [(4, true), (5, false), (7, true)] [] mixed (by kernel_rfl) ?_
      refine DL.qf rfl (.free rfl) rfl rfl (Yld.fieldAddr fo153_1 rfl) ?_
      refine DL.q rfl (.free rfl) rfl rfl rfl (Yld.load p3 rfl (atM (hB5.cell rfl) (fun h => h))) (Mod.drew _ _) ?_
      refine DL.qf rfl (.free rfl) rfl rfl (Yld.fieldAddr fo153_2 rfl) ?_
      refine DL.q rfl (.free rfl) rfl rfl rfl (Yld.load p22 rfl (atM (hB5.cell rfl) (fun h => h))) (Mod.drew _ _) ?_
      refine DL.fork ?_ ?_
      · refine DL.op rfl (.free rfl) rfl rfl (Does.call rfl e17 (labels_ok No labs _ _ ((hx1.mod hg).mod (Mod.drew _ _)) hx2)) ?_
        rintro _ w3 ⟨adl, cl, rfl, hr3, hf3, hg3⟩
        refine ⟨(Mod.drew _ _).trans hg3, ?_⟩
        refine DL.qf rfl (.free rfl) rfl rfl (Yld.build (v := .agg #[.int .i64 id, .slice adl (labelsS labs).length cl, .float .f64 0]) rfl (fun w => by kernel_rfl)) ?_
        refine DL.op rfl (.free rfl) rfl rfl (Does.alloc i32) ?_
        rintro _ w4 ⟨b10, rfl, hn10⟩
        refine ⟨((Mod.drew _ _).trans hg3).trans hn10.grow, ?_⟩
        have hg4 : Grow w' w4 := ((Mod.drew No w').trans hg3).trans hn10.grow
        have hrL := hr3.mod hn10.grow (fun _ _ h => h)
        have hfL : Fresh w'.heap.size (.slice adl (labelsS labs).length cl) := hf3
        have hb10 : w'.heap.size ≤ b10 := by have h1 := hn10.at_; have h2 := hg3.size; simp only [World.drew] at h2; omega
        have hsep : ∀ b, (Value.slice adl (labelsS labs).length cl).ownBlock = some b → b ≠ b10 := fun b e => by have h1 := hr3.lt e; have h2 := hn10.at_; omega
        have hB10 := hn10.blk
        refine DL.op' rfl (.free rfl) rfl (Does.storeN i32 rfl rfl rfl rfl hB10 (Nat.le_refl 3)) ?_
        rintro _ w5 ⟨hb5', hm5, _⟩
        have hBa : Blk w5 b10 32 [.int .i64 id, .slice adl (labelsS labs).length cl, .float .f64 0] := hb5'
        have hg5 : Grow w' w5 := hg4.then hm5 (fun b hb e => by have e' : b = b10 := e; omega)
        refine ⟨hg5, ?_⟩
        have hrL5 := hrL.mod hm5 (fun b e e2 => hsep b e e2)
        have hg05 := hg.trans hg5
        have k5 := him.grow hg05
        have hslL : SlL (fun b => M b ∨ (Value.slice ad al.length c).ownBlock = some b) w5 (.slice adl (labelsS labs).length cl) (labelsS labs) := Sl.own hrL5 (fun b e e2 => by have h1 := hfL b e; have h2 := hk2.lt2 e2; omega)
        refine DL.done ?_
        iterate 2 refine RK.seq ?_
        refine RK.region ?_
        refine RL.p rfl rfl ?_
        refine RL.q (.free rfl) rfl rfl (Yld.fieldAddr fo153_1 rfl) ?_
        refine RL.q (.free rfl) rfl rfl (Yld.load p3 rfl (at1 ((hB5.mod hg5 (fun h => h)).cell rfl))) ?_
        refine RL.q (.free rfl) rfl rfl (Yld.fieldAddr fo32_1 rfl) ?_
        refine RL.q (.free rfl) rfl rfl (Yld.load p26 rfl (at1 (hBa.cell rfl))) ?_
        refine RL.op (.free rfl) rfl rfl (Does.call rfl e28 (k5.add (by have := him.len; unfold hasOf; simp; omega) (fun t ht => by have := hbd t ht; omega) hx3 hslL)) ?_
        rintro _ w6 ⟨rfl, k6, hm6⟩
        have hadd : addable (hasOf L) id (labelsS labs) = zw.isNone := by
            unfold addable
            rw [labels_isS, Bool.and_true]
            cases hl : lookM (hasOf L) id with
            | none => rw [hl] at hlk; cases zw <;> simp at hlk ⊢
            | some q => rw [hl] at hlk; cases zw <;> simp at hlk ⊢
        rw [hadd]
        have hrow6 := (h.row.mod hg05 (fun _ _ h => h)).mod hm6 (fun b e e2 => (him.apart b e).1 e2)
        have hm06 : Mod (fun b => M b ∨ (Value.slice ad al.length c).ownBlock = some b) w w6 := (Mod.any' hg05).trans (hm6.mono fun b _ e => .inl e)
        have hsl6 : ∀ a ∈ al, SlL (fun b => M b ∨ (Value.slice ad al.length c).ownBlock = some b) w6 a.v a.ls := fun a ha => (h.sls a ha).mod hm06
        have hslL6 := hslL.mod (hm6.mono fun b _ e => (.inl e : M b ∨ (Value.slice ad al.length c).ownBlock = some b))
        have hg06 : Grow w0 w6 := (h.grow.trans hg05).then hm6 (fun b hb e => by have := h.baseM b e; omega)
        have hBa6 := hBa.mod hm6 (fun e => by have := hk2.lt e; omega)
        iterate 2 refine RL.p rfl rfl ?_
        refine RL.q (.free rfl) rfl rfl (Yld.neqBool u4 rfl rfl) ?_
        refine RL.done ?_
        refine RK.condF (hcF rfl (by rw [hneg]; simp)) ?_
        refine RK.skip ?_
        iterate 2 refine RK.seq ?_
        refine RK.region ?_
        iterate 2 refine RL.p rfl rfl ?_
        refine RL.done ?_
        first | refine RK.condD rfl (fun h65 => ?_) (fun h65 => ?_) | refine RK.condN rfl (fun h65 => ?_) (fun h65 => ?_) | refine RK.cond rfl (fun h65 => ?_) (fun h65 => ?_)
        · have hz0 : zw = none := by cases hzw' : zw with | none => rfl | some i => (rw [hzz, hzw'] at h65; simp [optI] at h65; omega)
          subst hz0
          have eH : addH (hasOf L) id (labelsS labs) = hasOf L ++ [(id, labelsS labs)] := by
              unfold addH
              rw [hadd]
              have : lookM (hasOf L) id = none := by cases hl : lookM (hasOf L) id with | none => rfl | some q => (rw [hl] at hlk; cases hlk)
              simp [putM_new this]
          have eR : addR (hasOf L) rows id (labelsS labs) = addRows rows id (labelsS labs) := by unfold addR; rw [hadd]; rfl
          rw [eH, eR] at k6
          refine RK.region ?_
          refine RL.p rfl rfl ?_
          refine RL.q (.free rfl) rfl rfl (Yld.loadN (cs := [.int .i64 id, .slice adl (labelsS labs).length cl, .float .f64 0]) a32 rfl (atN (fun q u hq => by rw [Nat.zero_add]; exact hBa6.cell' hq))) ?_
          refine RL.op (.free rfl) rfl rfl (Does.slice1 u58 i32 rfl rfl rfl rfl rfl) ?_
          rintro _ w7 ⟨b7, rfl, hn7⟩
          refine RL.op (.free rfl) rfl rfl (Does.append u58 i32 rfl rfl rfl rfl rfl (hrow6.mod hn7.grow (fun _ _ h => h)) (Sl.new hn7 3 1 rfl (by omega) (fun h => h)) (rfl) (by omega)) ?_
          rintro u8 w8 ⟨hr8, hm8, hu8⟩
          have hs67 := hn7.grow.size
          have hx8 : ∀ b, u8.ownBlock = some b → (Value.slice ad al.length c).ownBlock = some b ∨ w7.heap.size ≤ b ∧ b < w8.heap.size := fun b e => by
              rcases hu8 with h1 | h1
              · exact .inl (h1 ▸ e)
              · have := hr8.lt e; rw [h1] at e; cases e; exact .inr ⟨Nat.le_refl _, this⟩
          have hm68 : Mod (fun b => M b ∨ (Value.slice ad al.length c).ownBlock = some b) w6 w8 := (Mod.any' hn7.grow).trans (hm8.mono fun b _ e => .inr e)
          have hpass : ∀ b, (M b ∨ u8.ownBlock = some b) → (M b ∨ (Value.slice ad al.length c).ownBlock = some b) ∨ w6.heap.size ≤ b := fun b e => by
              rcases e with e | e
              · exact .inl (.inl e)
              · rcases hx8 b e with h1 | h1
                · exact .inl (.inr h1)
                · exact .inr (by omega)
          have h6l := isS_len (labels_isS labs)
          refine RL.p rfl rfl ?_
          refine RL.done ?_
          refine RK.seq ?_
          refine RK.region ?_
          iterate 3 refine RL.p rfl rfl ?_
          refine RL.done ?_
          refine RK.ret_of Tryz.func96 (res2 rfl rfl rfl) ?_ _
          exact ⟨_, rfl, u8, al ++ [⟨id, labelsS labs, 0, .slice adl (labelsS labs).length cl⟩], _, rfl, ⟨by
              rw [List.map_append, hL]
              have : hasOf (L ++ [(⟨id, labelsS labs, 0, .slice adl (labelsS labs).length cl⟩ : Al)].map pub) = hasOf L ++ [(id, labelsS labs)] := by simp [hasOf, pub]
              rw [this]
              exact (k6.grow hn7.grow).turn hm8 hx8, by
              have e1 : (al ++ [(⟨id, labelsS labs, 0, .slice adl (labelsS labs).length cl⟩ : Al)]).flatMap alC = al.flatMap alC ++ (Value.agg #[.int .i64 id, .slice adl (labelsS labs).length cl, .float .f64 0]).cells.toList := by simp [alC, Value.cells]
              rw [e1, List.length_append]; exact hr8, fun a ha => by
              rcases List.mem_append.1 ha with h1 | h1
              · exact (hsl6 a h1).pass (by omega) hm68 hpass
              · simp at h1; subst h1
                exact hslL6.pass (by omega) hm68 hpass, h.baseM, fun b e => by
              rcases hx8 b e with h1 | h1
              · exact h.baseV b h1
              · have := hg06.size; omega, (hg06.trans hn7.grow).then hm8 (fun b hb e => by have := h.baseV b e; omega)⟩, by rw [List.map_append, hL]; unfold stepP; rw [hzw]; rfl, fun t ht => by have := addRows_bound hbd id (labelsS labs) t ht; omega⟩
        · obtain ⟨i, hi⟩ : ∃ i, zw = some i := by cases hzw' : zw with | none => (rw [hzz, hzw'] at h65; simp [optI] at h65) | some i => exact ⟨i, rfl⟩
          subst hi
          have eH : addH (hasOf L) id (labelsS labs) = hasOf L := by unfold addH; rw [hadd]; rfl
          have eR : addR (hasOf L) rows id (labelsS labs) = rows := by unfold addR; rw [hadd]; rfl
          rw [eH, eR] at k6
          refine RK.skip ?_
          refine RK.seq ?_
          refine RK.region ?_
          iterate 3 refine RL.p rfl rfl ?_
          refine RL.done ?_
          refine RK.ret_of Tryz.func96 (res2 rfl rfl rfl) ?_ _
          exact ⟨_, rfl, _, al, _, rfl, ⟨by rw [hL]; exact k6, hrow6, hsl6, h.baseM, h.baseV, hg06⟩, by rw [hL]; unfold stepP; rw [hzw]; rfl, fun t ht => by have := hbd t ht; omega⟩
      · refine DL.op rfl (.free rfl) rfl rfl (Does.alloc i32) ?_
        rintro _ w3 ⟨b10, rfl, hn10⟩
        refine ⟨(Mod.drew _ _).trans hn10.grow, ?_⟩
        refine DL.op rfl (.free rfl) rfl rfl (Does.call rfl e17 (labels_ok No labs _ _ (((hx1.mod hg).mod (Mod.drew _ _)).mod hn10.grow) hx2)) ?_
        rintro _ w4 ⟨adl, cl, rfl, hr3, hf3, hg3⟩
        refine ⟨((Mod.drew _ _).trans hn10.grow).trans hg3, ?_⟩
        have hg4 : Grow w' w4 := ((Mod.drew No w').trans hn10.grow).trans hg3
        have hrL := hr3
        have hfL : Fresh w'.heap.size (.slice adl (labelsS labs).length cl) := fun b e => by have h1 := hf3 b e; have h2 := hn10.grow.size; simp only [World.drew] at h2; omega
        have hb10 : w'.heap.size ≤ b10 := by have h1 := hn10.at_; simp only [World.drew] at h1; omega
        have hsep : ∀ b, (Value.slice adl (labelsS labs).length cl).ownBlock = some b → b ≠ b10 := fun b e => by have h1 := hf3 b e; have h2 := hn10.lt; omega
        have hB10 := hn10.blk.mod hg3 (fun h => h)
        refine DL.qf rfl (.free rfl) rfl rfl (Yld.build (v := .agg #[.int .i64 id, .slice adl (labelsS labs).length cl, .float .f64 0]) rfl (fun w => by kernel_rfl)) ?_
        refine DL.op' rfl (.free rfl) rfl (Does.storeN i32 rfl rfl rfl rfl hB10 (Nat.le_refl 3)) ?_
        rintro _ w5 ⟨hb5', hm5, _⟩
        have hBa : Blk w5 b10 32 [.int .i64 id, .slice adl (labelsS labs).length cl, .float .f64 0] := hb5'
        have hg5 : Grow w' w5 := hg4.then hm5 (fun b hb e => by have e' : b = b10 := e; omega)
        refine ⟨hg5, ?_⟩
        have hrL5 := hrL.mod hm5 (fun b e e2 => hsep b e e2)
        have hg05 := hg.trans hg5
        have k5 := him.grow hg05
        have hslL : SlL (fun b => M b ∨ (Value.slice ad al.length c).ownBlock = some b) w5 (.slice adl (labelsS labs).length cl) (labelsS labs) := Sl.own hrL5 (fun b e e2 => by have h1 := hfL b e; have h2 := hk2.lt2 e2; omega)
        refine DL.done ?_
        iterate 2 refine RK.seq ?_
        refine RK.region ?_
        refine RL.p rfl rfl ?_
        refine RL.q (.free rfl) rfl rfl (Yld.fieldAddr fo153_1 rfl) ?_
        refine RL.q (.free rfl) rfl rfl (Yld.load p3 rfl (at1 ((hB5.mod hg5 (fun h => h)).cell rfl))) ?_
        refine RL.q (.free rfl) rfl rfl (Yld.fieldAddr fo32_1 rfl) ?_
        refine RL.q (.free rfl) rfl rfl (Yld.load p26 rfl (at1 (hBa.cell rfl))) ?_
        refine RL.op (.free rfl) rfl rfl (Does.call rfl e28 (k5.add (by have := him.len; unfold hasOf; simp; omega) (fun t ht => by have := hbd t ht; omega) hx3 hslL)) ?_
        rintro _ w6 ⟨rfl, k6, hm6⟩
        have hadd : addable (hasOf L) id (labelsS labs) = zw.isNone := by
            unfold addable
            rw [labels_isS, Bool.and_true]
            cases hl : lookM (hasOf L) id with
            | none => rw [hl] at hlk; cases zw <;> simp at hlk ⊢
            | some q => rw [hl] at hlk; cases zw <;> simp at hlk ⊢
        rw [hadd]
        have hrow6 := (h.row.mod hg05 (fun _ _ h => h)).mod hm6 (fun b e e2 => (him.apart b e).1 e2)
        have hm06 : Mod (fun b => M b ∨ (Value.slice ad al.length c).ownBlock = some b) w w6 := (Mod.any' hg05).trans (hm6.mono fun b _ e => .inl e)
        have hsl6 : ∀ a ∈ al, SlL (fun b => M b ∨ (Value.slice ad al.length c).ownBlock = some b) w6 a.v a.ls := fun a ha => (h.sls a ha).mod hm06
        have hslL6 := hslL.mod (hm6.mono fun b _ e => (.inl e : M b ∨ (Value.slice ad al.length c).ownBlock = some b))
        have hg06 : Grow w0 w6 := (h.grow.trans hg05).then hm6 (fun b hb e => by have := h.baseM b e; omega)
        have hBa6 := hBa.mod hm6 (fun e => by have := hk2.lt e; omega)
        iterate 2 refine RL.p rfl rfl ?_
        refine RL.q (.free rfl) rfl rfl (Yld.neqBool u4 rfl rfl) ?_
        refine RL.done ?_
        refine RK.condF (hcF rfl (by rw [hneg]; simp)) ?_
        refine RK.skip ?_
        iterate 2 refine RK.seq ?_
        refine RK.region ?_
        iterate 2 refine RL.p rfl rfl ?_
        refine RL.done ?_
        first | refine RK.condD rfl (fun h65 => ?_) (fun h65 => ?_) | refine RK.condN rfl (fun h65 => ?_) (fun h65 => ?_) | refine RK.cond rfl (fun h65 => ?_) (fun h65 => ?_)
        · have hz0 : zw = none := by cases hzw' : zw with | none => rfl | some i => (rw [hzz, hzw'] at h65; simp [optI] at h65; omega)
          subst hz0
          have eH : addH (hasOf L) id (labelsS labs) = hasOf L ++ [(id, labelsS labs)] := by
              unfold addH
              rw [hadd]
              have : lookM (hasOf L) id = none := by cases hl : lookM (hasOf L) id with | none => rfl | some q => (rw [hl] at hlk; cases hlk)
              simp [putM_new this]
          have eR : addR (hasOf L) rows id (labelsS labs) = addRows rows id (labelsS labs) := by unfold addR; rw [hadd]; rfl
          rw [eH, eR] at k6
          refine RK.region ?_
          refine RL.p rfl rfl ?_
          refine RL.q (.free rfl) rfl rfl (Yld.loadN (cs := [.int .i64 id, .slice adl (labelsS labs).length cl, .float .f64 0]) a32 rfl (atN (fun q u hq => by rw [Nat.zero_add]; exact hBa6.cell' hq))) ?_
          refine RL.op (.free rfl) rfl rfl (Does.slice1 u58 i32 rfl rfl rfl rfl rfl) ?_
          rintro _ w7 ⟨b7, rfl, hn7⟩
          refine RL.op (.free rfl) rfl rfl (Does.append u58 i32 rfl rfl rfl rfl rfl (hrow6.mod hn7.grow (fun _ _ h => h)) (Sl.new hn7 3 1 rfl (by omega) (fun h => h)) (rfl) (by omega)) ?_
          rintro u8 w8 ⟨hr8, hm8, hu8⟩
          have hs67 := hn7.grow.size
          have hx8 : ∀ b, u8.ownBlock = some b → (Value.slice ad al.length c).ownBlock = some b ∨ w7.heap.size ≤ b ∧ b < w8.heap.size := fun b e => by
              rcases hu8 with h1 | h1
              · exact .inl (h1 ▸ e)
              · have := hr8.lt e; rw [h1] at e; cases e; exact .inr ⟨Nat.le_refl _, this⟩
          have hm68 : Mod (fun b => M b ∨ (Value.slice ad al.length c).ownBlock = some b) w6 w8 := (Mod.any' hn7.grow).trans (hm8.mono fun b _ e => .inr e)
          have hpass : ∀ b, (M b ∨ u8.ownBlock = some b) → (M b ∨ (Value.slice ad al.length c).ownBlock = some b) ∨ w6.heap.size ≤ b := fun b e => by
              rcases e with e | e
              · exact .inl (.inl e)
              · rcases hx8 b e with h1 | h1
                · exact .inl (.inr h1)
                · exact .inr (by omega)
          have h6l := isS_len (labels_isS labs)
          refine RL.p rfl rfl ?_
          refine RL.done ?_
          refine RK.seq ?_
          refine RK.region ?_
          iterate 3 refine RL.p rfl rfl ?_
          refine RL.done ?_
          refine RK.ret_of Tryz.func96 (res2 rfl rfl rfl) ?_ _
          exact ⟨_, rfl, u8, al ++ [⟨id, labelsS labs, 0, .slice adl (labelsS labs).length cl⟩], _, rfl, ⟨by
              rw [List.map_append, hL]
              have : hasOf (L ++ [(⟨id, labelsS labs, 0, .slice adl (labelsS labs).length cl⟩ : Al)].map pub) = hasOf L ++ [(id, labelsS labs)] := by simp [hasOf, pub]
              rw [this]
              exact (k6.grow hn7.grow).turn hm8 hx8, by
              have e1 : (al ++ [(⟨id, labelsS labs, 0, .slice adl (labelsS labs).length cl⟩ : Al)]).flatMap alC = al.flatMap alC ++ (Value.agg #[.int .i64 id, .slice adl (labelsS labs).length cl, .float .f64 0]).cells.toList := by simp [alC, Value.cells]
              rw [e1, List.length_append]; exact hr8, fun a ha => by
              rcases List.mem_append.1 ha with h1 | h1
              · exact (hsl6 a h1).pass (by omega) hm68 hpass
              · simp at h1; subst h1
                exact hslL6.pass (by omega) hm68 hpass, h.baseM, fun b e => by
              rcases hx8 b e with h1 | h1
              · exact h.baseV b h1
              · have := hg06.size; omega, (hg06.trans hn7.grow).then hm8 (fun b hb e => by have := h.baseV b e; omega)⟩, by rw [List.map_append, hL]; unfold stepP; rw [hzw]; rfl, fun t ht => by have := addRows_bound hbd id (labelsS labs) t ht; omega⟩
        · obtain ⟨i, hi⟩ : ∃ i, zw = some i := by cases hzw' : zw with | none => (rw [hzz, hzw'] at h65; simp [optI] at h65) | some i => exact ⟨i, rfl⟩
          subst hi
          have eH : addH (hasOf L) id (labelsS labs) = hasOf L := by unfold addH; rw [hadd]; rfl
          have eR : addR (hasOf L) rows id (labelsS labs) = rows := by unfold addR; rw [hadd]; rfl
          rw [eH, eR] at k6
          refine RK.skip ?_
          refine RK.seq ?_
          refine RK.region ?_
          iterate 3 refine RL.p rfl rfl ?_
          refine RL.done ?_
          refine RK.ret_of Tryz.func96 (res2 rfl rfl rfl) ?_ _
          exact ⟨_, rfl, _, al, _, rfl, ⟨by rw [hL]; exact k6, hrow6, hsl6, h.baseM, h.baseV, hg06⟩, by rw [hL]; unfold stepP; rw [hzw]; rfl, fun t ht => by have := hbd t ht; omega⟩
end Go.Proofs.YtffbcfcoddacmaaGreat

/- Indexes built by steps: all of them; their numbers. -/
set_option linter.unusedVariables false
set_option linter.unusedSimpArgs false
set_option maxHeartbeats 1000000
set_option maxRecDepth 100000
namespace Go.Proofs.YtffbcfcoddacmaaGreat
open Go Go.X

def stepX (acc : List AlS) (x : Sp) : List AlS := stepP acc x.drop x.id (labelsS x.labs)
def foldP (l : List Sp) : List AlS := l.foldl stepX []
theorem stepX_len (acc : List AlS) (x : Sp) : (stepX acc x).length ≤ acc.length + 1 := by
  unfold stepX stepP
  cases whereI acc x.id with
  | none => cases x.drop <;> simp
  | some i => cases x.drop <;> simp [List.length_eraseIdx] <;> split <;> omega
theorem foldP_snoc (l : List Sp) (x : Sp) : foldP (l ++ [x]) = stepX (foldP l) x := by simp [foldP]
theorem foldP_len (l : List Sp) : (foldP l).length ≤ l.length := by
  have key : ∀ (l : List Sp) (acc : List AlS), (l.foldl stepX acc).length ≤ acc.length + l.length := by
    intro l
    induction l with
    | nil => intro acc; simp
    | cons x l ih => intro acc; rw [List.foldl_cons]; have h1 := ih (stepX acc x); have h2 := stepX_len acc x; simp; omega
  simpa [foldP] using key l []
theorem labels_raw (l : List Int) : ∀ x ∈ labelsS l, x.name ∈ nmL ∧ x.value ∈ vlL := fun x hx => by
  obtain ⟨h1, _⟩ := raw_ok l
  have := mem_isort.1 hx
  exact ⟨h1.nm x this, h1.vl x this⟩
theorem foldP_raw (l : List Sp) : ∀ a ∈ foldP l, ∀ x ∈ a.2.1, x.name ∈ nmL ∧ x.value ∈ vlL := by
  have key : ∀ (l : List Sp) (acc : List AlS), (∀ a ∈ acc, ∀ x ∈ a.2.1, x.name ∈ nmL ∧ x.value ∈ vlL) → ∀ a ∈ l.foldl stepX acc, ∀ x ∈ a.2.1, x.name ∈ nmL ∧ x.value ∈ vlL := by
    intro l
    induction l with
    | nil => intro acc h; exact h
    | cons y l ih =>
      intro acc h
      refine ih _ fun a ha => ?_
      unfold stepX stepP at ha
      cases hw : whereI acc y.id with
      | none =>
        rw [hw] at ha
        simp only at ha
        split at ha
        · exact h a ha
        · rcases List.mem_append.1 ha with h1 | h1
          · exact h a h1
          · simp at h1; subst h1; exact labels_raw _
      | some i =>
        rw [hw] at ha
        simp only at ha
        split at ha
        · exact h a (List.mem_of_mem_eraseIdx ha)
        · exact h a ha
  exact key l [] (by simp)
theorem built_ok (l : List Sp) (vl : Value) (w : World) (hl : Sl No w vl 3 l.length (l.flatMap spC)) (hx : ∀ x ∈ l, x.Ok w) (h60 : l.length ≤ 60) :
    Fx Tryz.prog 40 [vl] w (fun u w' => ∃ ix M rows v al, u = .tuple #[pp ix, v, .bool true] ∧ BJ w w' ix M rows v al ∧ al.map pub = foldP l ∧ ∀ t ∈ rows, t.2.length ≤ 360) := by
  obtain ⟨adl, cl, rfl⟩ := hl.shape
  refine enter Tryz.func40 rfl rfl rfl _ (Pick.sub (l := [0]) (.cons rfl .nil)) ?_
  refine RK.seq ?_
  refine RK.region ?_
  iterate 3 refine RL.p rfl rfl ?_
  refine RL.done ?_
  refine RK.seq ?_
  refine RK.region ?_
  refine RL.op (.free rfl) rfl rfl (Does.call rfl e27 (im_new _)) ?_
  rintro _ w1 ⟨ix, M, rfl, k1, hM, _, hg1⟩
  refine RL.p rfl rfl ?_
  refine RL.done ?_
  iterate 2 refine RK.seq ?_
  refine RK.region ?_
  refine RL.p rfl rfl ?_
  refine RL.q (.free rfl) rfl rfl (Yld.eqPtr Tryz.underlying42 rfl rfl) ?_
  refine RL.p rfl rfl ?_
  refine RL.knownF (d := 12) rfl rfl (rfl) ?_
  refine RL.q (.yes rfl rfl rfl) rfl rfl (Yld.pure rfl) ?_
  refine RL.q (.yes rfl rfl rfl) rfl rfl (Yld.lenSl u65 rfl) ?_
  refine RL.q (.yes rfl rfl rfl) rfl rfl (Yld.pure rfl) ?_
  refine RL.p rfl rfl ?_
  refine RL.done ?_
  refine RK.condF (hcF rfl (decide_eq_false (by omega))) ?_
  refine RK.skip ?_
  refine RK.seq ?_
  refine RK.region ?_
  refine RL.p rfl rfl ?_
  refine RL.done ?_
  refine RK.seq ?_
  refine RK.region ?_
  refine RL.p rfl rfl ?_
  refine RL.done ?_
  iterate 2 refine RK.seq ?_
  refine RK.region ?_
  refine RL.p rfl rfl ?_
  refine RL.done ?_
  refine RK.block ?_
  refine RK.loop (fun s : Nat × Value => [(0, .slice adl l.length cl), (5, pp ix), (6, s.2), (7, .bool true), (8, .int .i64 (s.1 : Int))]) (fun s w' => (∃ rows al, BJ w w' ix M rows s.2 al ∧ al.map pub = foldP (l.take s.1) ∧ ∀ t ∈ rows, t.2.length ≤ 6 * s.1) ∧ s.1 ≤ l.length) (fun s => l.length - s.1) (0, .slice none 0 0) ⟨rfl, rfl, rfl, rfl, rfl, trivial⟩ ⟨⟨[], [], ⟨(k1.turn (Mod.refl _ _) (fun b e => by simp [Value.ownBlock] at e)), Row.nil _ _ _, by simp, hM, fun b e => by simp [Value.ownBlock] at e, hg1⟩, by simp [foldP], by simp⟩, by simp⟩ (fun s w' hI ih => ?_)
  obtain ⟨k, v⟩ := s
  obtain ⟨⟨rows, al, hj, hal, hbd⟩, hk⟩ := hI
  simp only at hj hal hbd hk
  iterate 2 refine RK.seq ?_
  refine RK.region ?_
  iterate 2 refine RL.p rfl rfl ?_
  refine RL.q (.free rfl) rfl rfl (Yld.lenSl u65 rfl) ?_
  refine RL.p rfl rfl ?_
  refine RL.done ?_
  first | refine RK.condD rfl (fun h20 => ?_) (fun h20 => ?_) | refine RK.condN rfl (fun h20 => ?_) (fun h20 => ?_) | refine RK.cond rfl (fun h20 => ?_) (fun h20 => ?_)
  · obtain ⟨x, hxk⟩ : ∃ x, l[k]? = some x := ⟨l[k]'(by omega), List.getElem?_eq_getElem (by omega)⟩
    obtain ⟨b1, o1, c1', he1, _, _, hc1⟩ := hl.elem spC_len hxk
    cases he1
    have hlen : al.length ≤ k := by have h1 := foldP_len (l.take k); have h2 := congrArg List.length hal; simp at h1 h2; omega
    have hxo := hx x (List.mem_of_getElem? hxk)
    refine RK.skip ?_
    refine RK.seq ?_
    refine RK.block ?_
    refine RK.seq ?_
    refine RK.region ?_
    iterate 4 refine RL.p rfl rfl ?_
    refine RL.q (.free rfl) rfl rfl (Yld.indexAddrN u65 i153 rfl rfl (by omega)) ?_
    refine RL.q (.free rfl) rfl rfl (Yld.loadN (cs := [.bool x.drop, .int .i64 x.id, x.v]) a153 rfl (atN (fun q u hq => hj.grow.cell (hc1 q u hq) (fun h => h)))) ?_
    refine RL.op (.free rfl) rfl rfl (Does.call rfl e96 (bstep_ok w _ ix M rows v al hj (by omega) (6 * k) (by omega) hbd x ⟨hxo.1.mod hj.grow, hxo.2⟩)) ?_
    rintro _ w2 ⟨v2, al2, rows2, rfl, hj2, hal2, hbd2⟩
    iterate 5 refine RL.p rfl rfl ?_
    refine RL.done ?_
    refine RK.seq ?_
    refine RK.region ?_
    iterate 2 refine RL.p rfl rfl ?_
    refine RL.done ?_
    refine RK.condF (hcF rfl (rfl)) ?_
    refine RK.skip ?_
    refine RK.inBlock ?_
    refine RK.region ?_
    iterate 2 refine RL.p rfl rfl ?_
    refine RL.re (d := 22) rfl rfl (succ_i64 (by omega)) ?_
    refine RL.p rfl rfl ?_
    refine RL.done ?_
    exact RK.back (ih (k + 1, v2) _ ⟨⟨rows2, al2, hj2, by
        rw [hal2, hal, List.take_succ_eq_append_getElem (by omega), foldP_snoc, (List.getElem?_eq_some_iff.1 hxk).2]
        rfl, fun t ht => by have := hbd2 t ht; simp only; omega⟩, by simp only; omega⟩ (by simp only; omega)) ⟨rfl, rfl, rfl, rfl, rfl, trivial⟩
  · have ek : l.take k = l := List.take_of_length_le (by omega)
    rw [ek] at hal
    refine RK.exit rfl ?_
    refine RK.seq ?_
    refine RK.region ?_
    iterate 5 refine RL.p rfl rfl ?_
    refine RL.done ?_
    refine RK.ret_of Tryz.func40 (res3 rfl rfl rfl rfl) ?_ _
    exact ⟨_, rfl, ix, M, rows, v, al, rfl, hj, hal, fun t ht => by have := hbd t ht; omega⟩
theorem idsL_ok (M : Nat → Prop) (al : List Al) (v : Value) (w : World) (hv : Sl M w v 3 al.length (al.flatMap alC)) (hb : al.length ≤ 1000) :
    Fx Tryz.prog 42 [v] w (fun u w' => Row w' 3 1 u (rise (al.map (·.id))).length (ints (rise (al.map (·.id)))) ∧ Fresh w.heap.size u ∧ Grow w w') := by
  obtain ⟨ad, c, rfl⟩ := hv.shape
  refine enter Tryz.func42 rfl rfl rfl _ (Pick.sub (l := [0]) (.cons rfl .nil)) ?_
  refine RK.seq ?_
  refine RK.region ?_
  refine RL.p rfl rfl ?_
  refine RL.done ?_
  refine RK.seq ?_
  refine RK.region ?_
  refine RL.p rfl rfl ?_
  refine RL.done ?_
  iterate 2 refine RK.seq ?_
  refine RK.region ?_
  refine RL.p rfl rfl ?_
  refine RL.done ?_
  refine RK.block ?_
  refine RK.loop (fun s : Nat × Value => [(0, .slice ad al.length c), (3, s.2), (4, .int .i64 (s.1 : Int))]) (fun s w' => Row w' 3 1 s.2 s.1 (ints ((al.take s.1).map (·.id))) ∧ Fresh w.heap.size s.2 ∧ Grow w w' ∧ s.1 ≤ al.length) (fun s => al.length - s.1) (0, .slice none 0 0) ⟨rfl, rfl, rfl, trivial⟩ ⟨Row.nil _ _ _, fun b e => by simp [Value.ownBlock] at e, Mod.refl _ _, by simp⟩ (fun s w' hI ih => ?_)
  obtain ⟨k, u⟩ := s
  obtain ⟨hr, hf, hg, hk⟩ := hI
  simp only at hr hf hk
  iterate 2 refine RK.seq ?_
  refine RK.region ?_
  iterate 2 refine RL.p rfl rfl ?_
  refine RL.q (.free rfl) rfl rfl (Yld.lenSl u58 rfl) ?_
  refine RL.p rfl rfl ?_
  refine RL.done ?_
  first | refine RK.condD rfl (fun h8 => ?_) (fun h8 => ?_) | refine RK.condN rfl (fun h8 => ?_) (fun h8 => ?_) | refine RK.cond rfl (fun h8 => ?_) (fun h8 => ?_)
  · obtain ⟨a, ha⟩ : ∃ a, al[k]? = some a := ⟨al[k]'(by omega), List.getElem?_eq_getElem (by omega)⟩
    obtain ⟨b1, o1, c1', he1, _, _, hc1⟩ := hv.elem alC_len ha
    cases he1
    refine RK.skip ?_
    refine RK.seq ?_
    refine RK.block ?_
    refine RK.region ?_
    iterate 3 refine RL.p rfl rfl ?_
    refine RL.q (.free rfl) rfl rfl (Yld.indexAddrN u58 i32 rfl rfl (by omega)) ?_
    refine RL.q (.free rfl) rfl rfl (Yld.fieldAddr fo32_0 rfl) ?_
    refine RL.q (.free rfl) rfl rfl (Yld.load p3 rfl (at1 (hg.cell (hc1 0 _ rfl) (fun h => h)))) ?_
    refine RL.op (.free rfl) rfl rfl (Does.slice1 u22 i3 rfl rfl rfl rfl rfl) ?_
    rintro _ w2 ⟨b2, rfl, hn2⟩
    refine RL.op (.free rfl) rfl rfl (Does.append u22 i3 rfl rfl rfl rfl rfl (hr.mod hn2.grow (fun _ _ h => h)) (Sl.new hn2 1 1 rfl (by omega) (fun h => h)) (rfl) (by omega)) ?_
    rintro u3 w3 ⟨hr3, hm3, hu3⟩
    have hs2 := hn2.grow.size
    have hs0 := hg.size
    refine RL.p rfl rfl ?_
    refine RL.done ?_
    refine RK.inBlock ?_
    refine RK.region ?_
    iterate 2 refine RL.p rfl rfl ?_
    refine RL.re (d := 10) rfl rfl (succ_i64 (by omega)) ?_
    refine RL.p rfl rfl ?_
    refine RL.done ?_
    exact RK.back (ih (k + 1, u3) _ ⟨by
        simp only
        rw [List.take_succ_eq_append_getElem (by omega), (List.getElem?_eq_some_iff.1 ha).2]
        have e1 : ints (((al.take k) ++ [a]).map (·.id)) = ints ((al.take k).map (·.id)) ++ (Value.int .i64 a.id).cells.toList := by simp [ints, Value.cells]
        rw [e1]; exact hr3, fun b e => by
        rcases hu3 with h1 | h1
        · exact hf b (h1 ▸ e)
        · simp only at e; rw [h1] at e; cases e; omega, (hg.trans hn2.grow).then hm3 (fun b hb e => by have := hf b e; omega), by simp only; omega⟩ (by simp only; omega)) ⟨rfl, rfl, rfl, trivial⟩
  · have ek : al.take k = al := List.take_of_length_le (by omega)
    rw [ek] at hr
    have hke : k = (al.map (·.id)).length := by simp; omega
    rw [hke] at hr
    refine RK.exit rfl ?_
    refine RK.seq ?_
    refine RK.region ?_
    refine RL.p rfl rfl ?_
    refine RL.op (.free rfl) rfl rfl (Does.call rfl e44 (rising_ok No (al.map (·.id)) u _ (Sl.own hr (fun _ _ h => h)) (by simp; omega))) ?_
    rintro u2 w2 ⟨hr2, hf2, hg2⟩
    refine RL.p rfl rfl ?_
    refine RL.done ?_
    refine RK.ret_of Tryz.func42 (res1 rfl rfl) ?_ _
    exact ⟨_, rfl, hr2, fun b e => by have := hf2 b e; have := hg.size; omega, hg.trans hg2⟩
/-! ### the plain law -/
/-- Of a label set: who has a label. -/
theorem getL_has {ls : List Lab} (h : isS ls = true) {nm vl : ByteArray} (hv : vl ≠ ByteArray.empty) : getL ls nm = vl ↔ ∃ x ∈ ls, labK x = (nm, vl) := by
  have hs := isS_sorted h
  constructor
  · intro hg
    unfold getL at hg
    cases hf : ls.find? (fun x => decide (x.name = nm)) with
    | none => rw [hf] at hg; exact absurd hg.symm hv
    | some x =>
      rw [hf] at hg
      have hx := List.find?_some hf
      exact ⟨x, List.mem_of_find?_eq_some hf, by simp only [labK]; rw [show x.name = nm by simpa using hx, show x.value = vl by simpa using hg]⟩
  · rintro ⟨x, hx, e⟩
    simp only [labK, Prod.mk.injEq] at e
    obtain ⟨i, hi⟩ := List.getElem?_of_mem hx
    rw [getL_at hi e.1 fun j y hj hy e2 => ?_, e.2]
    have h1 := (List.getElem?_eq_some_iff.1 hi)
    have h2 := (List.getElem?_eq_some_iff.1 hy)
    have h3 := List.pairwise_iff_getElem.1 hs j i h2.1 h1.1 hj
    rw [h1.2, h2.2, e2, e.1, slt_irrefl] at h3
    cases h3
/-- The labels that somebody has first. -/
def firstL (rows : List (LabK × List Int)) (a : AlS) : List Lab := a.2.1.filter fun y => decide (((lookM rows (labK y)).getD []).head? = some a.1)
theorem firsts_len {l : List AlS} {rows : List (LabK × List Int)} (h : IxI (hasOf l) rows) (hs : ∀ a ∈ l, isS a.2.1 = true) : rows.length = (l.flatMap (firstL rows)).length := by
  have hn : (l.map (·.1)).Nodup := by have := h.nd; rwa [hasOf_keys] at this
  have hinj : ∀ x y : Lab, labK x = labK y → x = y := fun x y e => by
    cases x; cases y
    simp only [labK, Prod.mk.injEq] at e
    obtain ⟨rfl, rfl⟩ := e
    rfl
  refine h.len ?_ fun y => ?_
  · refine List.pairwise_flatMap.2 ⟨fun a ha => (isS_nodup (hs a ha)).sublist List.filter_sublist, ?_⟩
    refine (List.pairwise_map.1 hn).imp fun {a b} hne x hx y hy e => ?_
    subst e
    unfold firstL at hx hy
    have h1 := (List.mem_filter.1 hx).2
    have h2 := (List.mem_filter.1 hy).2
    simp only [decide_eq_true_eq] at h1 h2
    rw [h1] at h2
    exact hne (by simpa using h2)
  · constructor
    · intro hy
      obtain ⟨a, ha, hy⟩ := List.mem_flatMap.1 hy
      exact ⟨(a.1, a.2.1), List.mem_map_of_mem (f := fun a : AlS => (a.1, a.2.1)) ha, (List.mem_filter.1 hy).1⟩
    · rintro ⟨t, ht, hy⟩
      have hm := (h.mem (labK y) t.1).2 ⟨t.2, ht, y, hy, rfl⟩
      cases hr : (lookM rows (labK y)).getD [] with
      | nil => rw [hr] at hm; cases hm
      | cons m r =>
        obtain ⟨ls, h1, x, hx, e⟩ := (h.mem (labK y) m).1 (by rw [hr]; simp)
        obtain rfl := hinj x y e
        obtain ⟨a, ha, e2⟩ := List.mem_map.1 h1
        simp only [Prod.mk.injEq] at e2
        refine List.mem_flatMap.2 ⟨a, ha, List.mem_filter.2 ⟨e2.2 ▸ hx, ?_⟩⟩
        rw [hr]
        simp [e2.1]
end Go.Proofs.YtffbcfcoddacmaaGreat

/- IndexPlays, walked. -/
set_option linter.unusedVariables false
set_option linter.unusedSimpArgs false
set_option maxHeartbeats 2000000
set_option maxRecDepth 100000
namespace Go.Proofs.YtffbcfcoddacmaaGreat
open Go Go.X

def whoS (al : List Al) (y : Lab) : List Int := (al.filter fun a => decide (getL a.ls y.name = y.value)).map (·.id)
def rowL (rows : List (LabK × List Int)) (y : Lab) : List Int := (lookM rows (y.name, y.value)).getD []
theorem who_snoc {al : List Al} {j : Nat} {a : Al} (h : al[j]? = some a) (y : Lab) : whoS (al.take (j + 1)) y = whoS (al.take j) y ++ (if getL a.ls y.name = y.value then [a.id] else []) := by
  have hj := (List.getElem?_eq_some_iff.1 h).1
  unfold whoS
  rw [List.take_succ_eq_append_getElem hj, (List.getElem?_eq_some_iff.1 h).2, List.filter_append, List.map_append]
  by_cases e : getL a.ls y.name = y.value <;> simp [e]
theorem rows_ris {has : List (Int × List Lab)} {rows : List (LabK × List Int)} (h : IxI has rows) (k : LabK) : Ris ((lookM rows k).getD []) := by
  cases hl : lookM rows k with
  | none => simp
  | some r => exact (h.ok.row (k, r) (lookM_mem hl)).1
theorem who_row {al : List Al} {rows : List (LabK × List Int)} (h : IxI (hasOf (al.map pub)) rows) (hs : ∀ a ∈ al, isS a.ls = true) {y : Lab} (hy : y.value ≠ ByteArray.empty) : rise (whoS al y) = rowL rows y := by
  refine ext_ris (rise_ris _) (rows_ris h _) fun id => ?_
  rw [mem_rise]
  unfold rowL
  rw [h.mem]
  unfold whoS
  constructor
  · intro hm
    obtain ⟨a, ha, rfl⟩ := List.mem_map.1 hm
    obtain ⟨ha1, ha2⟩ := List.mem_filter.1 ha
    obtain ⟨x, hx, e⟩ := (getL_has (hs a ha1) hy).1 (by simpa using ha2)
    exact ⟨a.ls, List.mem_map.2 ⟨pub a, List.mem_map_of_mem (f := pub) ha1, rfl⟩, x, hx, e⟩
  · rintro ⟨ls, hl, x, hx, e⟩
    obtain ⟨t, ht, e2⟩ := List.mem_map.1 hl
    obtain ⟨a, ha, rfl⟩ := List.mem_map.1 ht
    simp only [pub, Prod.mk.injEq] at e2
    obtain ⟨rfl, rfl⟩ := e2
    exact List.mem_map.2 ⟨a, List.mem_filter.2 ⟨ha, by simpa using (getL_has (hs a ha) hy).2 ⟨x, hx, e⟩⟩, rfl⟩
theorem look_nobody {l : List Sp} {rows : List (LabK × List Int)} (h : IxI (hasOf (foldP l)) rows) {nm vl : ByteArray} (hno : nm ∉ nmL ∨ vl ∉ vlL) : (lookM rows (nm, vl)).getD [] = [] := by
  refine List.eq_nil_iff_forall_not_mem.2 fun id hid => ?_
  obtain ⟨ls, hl, x, hx, e⟩ := (h.mem _ _).1 hid
  obtain ⟨a, ha, e2⟩ := List.mem_map.1 hl
  simp only [Prod.mk.injEq] at e2
  obtain ⟨_, rfl⟩ := e2
  have := foldP_raw l a ha x hx
  simp only [labK, Prod.mk.injEq] at e
  obtain ⟨rfl, rfl⟩ := e
  rcases hno with h1 | h1
  · exact h1 this.1
  · exact h1 this.2
theorem nobody_no : (⟨#[110, 111, 98, 111, 100, 121]⟩ : ByteArray) ∉ nmL ∧ (⟨#[110, 111, 98, 111, 100, 121]⟩ : ByteArray) ∉ vlL := by
  constructor
  · intro h
    simp only [nmL, List.mem_cons, List.not_mem_nil, or_false] at h
    rcases h with h | h | h | h | h <;> exact absurd h (by decide)
  · intro h
    simp only [vlL, List.mem_cons, List.not_mem_nil, or_false] at h
    rcases h with h | h | h | h | h | h | h <;> exact absurd h (by decide)
theorem iplays_ok (l : List Sp) (vl : Value) (w : World) (hl : Sl No w vl 3 l.length (l.flatMap spC)) (hx : ∀ x ∈ l, x.Ok w) :
    Fx Tryz.prog 6 [vl] w (fun u w' => u = .bool true ∧ Grow w w') := by
  have hl0 := hl
  obtain ⟨adl, cl, rfl⟩ := hl.shape
  refine enter Tryz.func6 rfl rfl rfl _ (Pick.sub (l := [0]) (.cons rfl .nil)) ?_
  refine RK.seq ?_
  refine RK.region ?_
  refine RL.p rfl rfl ?_
  refine RL.done ?_
  iterate 2 refine RK.seq ?_
  refine RK.region ?_
  refine RL.p rfl rfl ?_
  refine RL.q (.free rfl) rfl rfl (Yld.lenSl u65 rfl) ?_
  refine RL.p rfl rfl ?_
  refine RL.done ?_
  first | refine RK.condD rfl (fun h14 => ?_) (fun h14 => ?_) | refine RK.condN rfl (fun h14 => ?_) (fun h14 => ?_) | refine RK.cond rfl (fun h14 => ?_) (fun h14 => ?_)
  · refine RK.seq ?_
    refine RK.region ?_
    refine RL.op (.free rfl) rfl rfl (Does.call rfl e4 (iruns_ok _)) ?_
    rintro _ w2 ⟨rfl, hg2⟩
    refine RL.p rfl rfl ?_
    refine RL.done ?_
    refine RK.ret_of Tryz.func6 (res1 rfl rfl) ?_ _
    exact ⟨_, rfl, rfl, hg2⟩
  · refine RK.skip ?_
    refine RK.seq ?_
    refine RK.region ?_
    refine RL.p rfl rfl ?_
    refine RL.op (.free rfl) rfl rfl (Does.call rfl e40 (built_ok l _ _ hl0 hx (by omega))) ?_
    rintro _ w3 ⟨ix, M, rows, v, al, rfl, hj, hal, hbd⟩
    have hn : ((al.map pub).map (·.1)).Nodup := by have := hj.im.inv.nd; rwa [hasOf_keys] at this
    have hlen : al.length ≤ 60 := by have h1 := foldP_len l; have h2 := congrArg List.length hal; simp at h1 h2; omega
    have hsets : ∀ a ∈ al, isS a.ls = true := fun a ha => hj.im.sets (a.id, a.ls) (List.mem_map.2 ⟨pub a, List.mem_map_of_mem (f := pub) ha, rfl⟩)
    have hvals : ∀ a ∈ al, ∀ y ∈ a.ls, y.value ≠ ByteArray.empty := fun a ha y hy => (vlL_ok _ (foldP_raw l (pub a) (by rw [← hal]; exact List.mem_map_of_mem (f := pub) ha) y hy).2).2
    have hsl : Sl No w3 v 3 al.length (al.flatMap alC) := Sl.own hj.row (fun _ _ h => h)
    obtain ⟨adv, cv, hv⟩ := hj.row.slice
    have hslN : ∀ a ∈ al, SlL No w3 a.v a.ls := fun a ha => (hj.sls a ha).noM
    have hfl := firsts_len hj.im.inv (fun a ha => by obtain ⟨a', ha', rfl⟩ := List.mem_map.1 ha; exact hsets a' ha')
    have hlo1 := look_nobody (l := l) (rows := rows) (nm := ⟨#[115, 101, 118]⟩) (hal ▸ hj.im.inv) (.inr nobody_no.2)
    have hlo2 := look_nobody (l := l) (rows := rows) (vl := ⟨#[97]⟩) (hal ▸ hj.im.inv) (.inl nobody_no.1)
    have him := hj.im
    have hgw3 := hj.grow
    clear hj
    subst hv
    iterate 7 refine RL.p rfl rfl ?_
    refine RL.done ?_
    iterate 2 refine RK.seq ?_
    refine RK.region ?_
    iterate 3 refine RL.p rfl rfl ?_
    refine RL.knownF (d := 24) rfl rfl (rfl) ?_
    refine RL.q (.yes rfl rfl rfl) rfl rfl (Yld.pure rfl) ?_
    refine RL.op (.yes rfl rfl rfl) rfl rfl (Does.call rfl e41 (him.ids)) ?_
    rintro u4 w4 ⟨hr4, hf4, hg4⟩
    refine RL.q (.yes rfl rfl rfl) rfl rfl (Yld.pure rfl) ?_
    refine RL.op (.yes rfl rfl rfl) rfl rfl (Does.call rfl e42 (idsL_ok No al _ _ (hsl.mod hg4) (by omega))) ?_
    rintro u5 w5 ⟨hr5, hf5, hg5⟩
    refine RL.op (.yes rfl rfl rfl) rfl rfl (Does.call rfl e29 (sameInts_ok No (idsS (hasOf (al.map pub))) (rise (al.map (·.id))) u4 u5 _ (Sl.own (hr4.mod hg5 (fun _ _ h => h)) (fun _ _ h => h)) (Sl.own hr5 (fun _ _ h => h)))) ?_
    rintro _ w6 ⟨rfl, hg6⟩
    have hsame : idsS (hasOf (al.map pub)) = rise (al.map (·.id)) := ext_ris (idsS_ris (by rw [hasOf_keys]; exact hn)) (rise_ris _) fun x => by rw [mem_idsS, mem_rise, hasOf_keys]; simp [pub]
    refine RL.q (.yes rfl rfl rfl) rfl rfl (Yld.pure rfl) ?_
    refine RL.p rfl rfl ?_
    refine RL.done ?_
    refine RK.condF (hcF rfl (by simp [hsame])) ?_
    have hg36 : Grow w3 w6 := (hg4.trans hg5).trans hg6
    refine RK.skip ?_
    refine RK.seq ?_
    refine RK.region ?_
    refine RL.p rfl rfl ?_
    refine RL.done ?_
    iterate 2 refine RK.seq ?_
    refine RK.region ?_
    refine RL.p rfl rfl ?_
    refine RL.done ?_
    refine RK.block ?_
    refine RK.loop (fun s : Nat × Nat => [(3, pp ix), (4, .slice adv al.length cv), (6, .int .i64 (s.2 : Int)), (7, .int .i64 (s.1 : Int))]) (fun s w' => Grow w3 w' ∧ s.1 ≤ al.length ∧ s.2 = (((al.map pub).take s.1).flatMap (firstL rows)).length ∧ s.2 ≤ 6 * s.1) (fun s => al.length - s.1) (0, 0) ⟨rfl, rfl, rfl, rfl, trivial⟩ ⟨hg36, by simp, by simp, by simp⟩ (fun s w' hI ih => ?_)
    obtain ⟨i, n⟩ := s
    obtain ⟨hg, hi, hni, hn6⟩ := hI
    simp only at hi hni hn6
    iterate 2 refine RK.seq ?_
    refine RK.region ?_
    iterate 2 refine RL.p rfl rfl ?_
    refine RL.q (.free rfl) rfl rfl (Yld.lenSl u58 rfl) ?_
    refine RL.p rfl rfl ?_
    refine RL.done ?_
    first | refine RK.condD rfl (fun h35 => ?_) (fun h35 => ?_) | refine RK.condN rfl (fun h35 => ?_) (fun h35 => ?_) | refine RK.cond rfl (fun h35 => ?_) (fun h35 => ?_)
    · obtain ⟨a, ha⟩ : ∃ a, al[i]? = some a := ⟨al[i]'(by omega), List.getElem?_eq_getElem (by omega)⟩
      obtain ⟨b1, o1, c1', he1, _, _, hc1⟩ := hsl.elem alC_len ha
      cases he1
      have ham := List.mem_of_getElem? ha
      have hsla := hslN a ham
      have h6l := isS_len (hsets a ham)
      obtain ⟨ada, ca, hva⟩ := hsla.shape
      have hc1v : ∀ w9, Grow w3 w9 → w9.cell? ⟨b1, o1 + i * 3 + 1, none⟩ = some (.slice ada a.ls.length ca) := fun w9 h9 => hva ▸ h9.cell (hc1 1 _ rfl) (fun h => h)
      rw [hva] at hsla
      have hfir : firstL rows (pub a) = a.ls.filter fun y => decide ((rowL rows y).head? = some a.id) := rfl
      refine RK.skip ?_
      refine RK.seq ?_
      refine RK.block ?_
      refine RK.seq ?_
      refine RK.region ?_
      refine RL.p rfl rfl ?_
      refine RL.done ?_
      refine RK.block ?_
      refine RK.loop (fun s : Nat × Nat => [(3, pp ix), (4, .slice (some ⟨b1, o1, none⟩) al.length cv), (6, .int .i64 (s.2 : Int)), (7, .int .i64 (i : Int)), (8, .int .i64 (s.1 : Int))]) (fun s w' => Grow w3 w' ∧ s.1 ≤ a.ls.length ∧ s.2 = n + ((a.ls.take s.1).filter fun y => decide ((rowL rows y).head? = some a.id)).length) (fun s => a.ls.length - s.1) (0, n) ⟨rfl, rfl, rfl, rfl, rfl, trivial⟩ ⟨hg, by simp, by simp⟩ (fun s w' hI2 ih2 => ?_)
      obtain ⟨k, m⟩ := s
      obtain ⟨hg2, hk, hm⟩ := hI2
      simp only at hk hm
      have hm6 : m ≤ 6 * i + 6 := by have := List.length_filter_le (fun y => decide ((rowL rows y).head? = some a.id)) (a.ls.take k); simp at this; omega
      iterate 2 refine RK.seq ?_
      refine RK.region ?_
      iterate 3 refine RL.p rfl rfl ?_
      refine RL.q (.free rfl) rfl rfl (Yld.indexAddrN u58 i32 rfl rfl (by omega)) ?_
      refine RL.q (.free rfl) rfl rfl (Yld.fieldAddr fo32_1 rfl) ?_
      refine RL.q (.free rfl) rfl rfl (Yld.load p26 rfl (at1 (hc1v _ hg2))) ?_
      refine RL.q (.free rfl) rfl rfl (Yld.lenSl u26 rfl) ?_
      refine RL.p rfl rfl ?_
      refine RL.done ?_
      first | refine RK.condD rfl (fun h45 => ?_) (fun h45 => ?_) | refine RK.condN rfl (fun h45 => ?_) (fun h45 => ?_) | refine RK.cond rfl (fun h45 => ?_) (fun h45 => ?_)
      · obtain ⟨y, hy⟩ : ∃ y, a.ls[k]? = some y := ⟨a.ls[k]'(by omega), List.getElem?_eq_getElem (by omega)⟩
        obtain ⟨b2, o2, c2', he2, _, _, hc2⟩ := hsla.elem labC_len hy
        cases he2
        have hym := List.mem_of_getElem? hy
        have hyv := hvals a ham y hym
        refine RK.skip ?_
        refine RK.seq ?_
        refine RK.block ?_
        refine RK.seq ?_
        refine RK.region ?_
        iterate 2 refine RL.p rfl rfl ?_
        refine RL.q (.free rfl) rfl rfl (Yld.indexAddrN u58 i32 rfl rfl (by omega)) ?_
        refine RL.q (.free rfl) rfl rfl (Yld.fieldAddr fo32_1 rfl) ?_
        refine RL.q (.free rfl) rfl rfl (Yld.load p26 rfl (at1 (hc1v _ hg2))) ?_
        refine RL.p rfl rfl ?_
        refine RL.q (.free rfl) rfl rfl (Yld.indexAddrN u26 i46 rfl rfl (by omega)) ?_
        refine RL.q (.free rfl) rfl rfl (Yld.loadN (cs := [.string y.name, .string y.value]) a46 rfl (atN (fun q u hq => hg2.cell (hc2 q u hq) (fun h => h)))) ?_
        refine RL.op (.free rfl) rfl rfl (Does.alloc i46) ?_
        rintro _ w7 ⟨b9, rfl, hn9⟩
        refine RL.op' (.free rfl) rfl (Does.storeN i46 rfl rfl rfl rfl hn9.blk (Nat.le_refl 2)) ?_
        rintro _ w8 ⟨hb8, hm8, _⟩
        have hB8 : Blk w8 b9 46 [.string y.name, .string y.value] := hb8
        have hg8 : Grow w3 w8 := (hg2.trans hn9.grow).then hm8 (fun z hz e => by have e' : z = b9 := e; have := hn9.at_; have := hg2.size; omega)
        refine RL.done ?_
        refine RK.seq ?_
        refine RK.region ?_
        refine RL.p rfl rfl ?_
        refine RL.done ?_
        iterate 2 refine RK.seq ?_
        refine RK.region ?_
        refine RL.p rfl rfl ?_
        refine RL.done ?_
        refine RK.block ?_
        refine RK.loop (fun s : Nat × Value => [(3, pp ix), (4, .slice (some ⟨b1, o1, none⟩) al.length cv), (6, .int .i64 (m : Int)), (7, .int .i64 (i : Int)), (8, .int .i64 (k : Int)), (9, pp b9), (10, s.2), (11, .int .i64 (s.1 : Int))]) (fun s w' => Grow w8 w' ∧ Row w' 3 1 s.2 (whoS (al.take s.1) y).length (ints (whoS (al.take s.1) y)) ∧ Fresh w8.heap.size s.2 ∧ s.1 ≤ al.length) (fun s => al.length - s.1) (0, .slice none 0 0) ⟨rfl, rfl, rfl, rfl, rfl, rfl, rfl, rfl, trivial⟩ ⟨Mod.refl _ _, by simpa [whoS] using Row.nil _ _ _, fun b e => by simp [Value.ownBlock] at e, by simp⟩ (fun s w' hI3 ih3 => ?_)
        obtain ⟨j, u⟩ := s
        obtain ⟨hg9, hr, hf, hj⟩ := hI3
        simp only at hr hf hj
        iterate 2 refine RK.seq ?_
        refine RK.region ?_
        iterate 2 refine RL.p rfl rfl ?_
        refine RL.q (.free rfl) rfl rfl (Yld.lenSl u58 rfl) ?_
        refine RL.p rfl rfl ?_
        refine RL.done ?_
        first | refine RK.condD rfl (fun h59 => ?_) (fun h59 => ?_) | refine RK.condN rfl (fun h59 => ?_) (fun h59 => ?_) | refine RK.cond rfl (fun h59 => ?_) (fun h59 => ?_)
        · obtain ⟨aj, haj⟩ : ∃ a, al[j]? = some a := ⟨al[j]'(by omega), List.getElem?_eq_getElem (by omega)⟩
          obtain ⟨b3, o3, c3', he3, _, _, hc3⟩ := hsl.elem alC_len haj
          cases he3
          have hslj := hslN aj (List.mem_of_getElem? haj)
          obtain ⟨adj, cj, hvj⟩ := hslj.shape
          have hwho := who_snoc haj y
          have hwl : (whoS (al.take j) y).length ≤ j := by unfold whoS; rw [List.length_map]; exact Nat.le_trans (List.length_filter_le _ _) (by simp; omega)
          refine RK.skip ?_
          refine RK.seq ?_
          refine RK.block ?_
          refine RK.seq ?_
          refine RK.drawM No [(0, false), (1, false), (2, false), (3, false), (4, false), (5, false), (6, false), (8, false), (9, false), (7, true), (10, false)] [] mixed (by kernel_rfl) ?_
          iterate 2 refine DL.p rfl rfl rfl ?_
          refine DL.qf rfl (.free rfl) rfl rfl (Yld.indexAddrN u58 i32 rfl rfl (by omega)) ?_
          refine DL.qf rfl (.free rfl) rfl rfl (Yld.fieldAddr fo32_1 rfl) ?_
          refine DL.q rfl (.free rfl) rfl rfl rfl (Yld.load p26 rfl (atM ((hg8.trans hg9).cell (hc3 1 _ rfl) (fun h => h)) (fun h => h))) (Mod.drew _ _) ?_
          refine DL.qf rfl (.free rfl) rfl rfl (Yld.fieldAddr fo46_0 rfl) ?_
          refine DL.q rfl (.free rfl) rfl rfl rfl (Yld.load p9 rfl (atM ((hB8.mod hg9 (fun h => h)).cell rfl) (fun h => h))) (Mod.drew _ _) ?_
          refine DL.qf rfl (.free rfl) rfl rfl (Yld.fieldAddr fo46_1 rfl) ?_
          refine DL.q rfl (.free rfl) rfl rfl rfl (Yld.load p9 rfl (atM ((hB8.mod hg9 (fun h => h)).cell rfl) (fun h => h))) (Mod.drew _ _) ?_
          refine DL.op rfl (.free rfl) rfl rfl (Does.call rfl e43 (getLabel_ok No aj.ls aj.v y.name _ ((hslj.mod (hg8.trans hg9)).mod (Mod.drew _ _)))) ?_
          rintro _ _ ⟨rfl, rfl⟩
          refine ⟨Mod.drew _ _, ?_⟩
          have hgd : Grow w8 w'.drew := hg9.trans (Mod.drew _ _)
          refine DL.p rfl rfl rfl ?_
          refine DL.done ?_
          first | refine RK.condD rfl (fun h72 => ?_) (fun h72 => ?_) | refine RK.condN rfl (fun h72 => ?_) (fun h72 => ?_) | refine RK.cond rfl (fun h72 => ?_) (fun h72 => ?_)
          · refine RK.region ?_
            iterate 3 refine RL.p rfl rfl ?_
            refine RL.q (.free rfl) rfl rfl (Yld.indexAddrN u58 i32 rfl rfl (by omega)) ?_
            refine RL.q (.free rfl) rfl rfl (Yld.fieldAddr fo32_0 rfl) ?_
            refine RL.q (.free rfl) rfl rfl (Yld.load p3 rfl (at1 ((hg8.trans hgd).cell (hc3 0 _ rfl) (fun h => h)))) ?_
            refine RL.op (.free rfl) rfl rfl (Does.slice1 u22 i3 rfl rfl rfl rfl rfl) ?_
            rintro _ w10 ⟨b7, rfl, hn7⟩
            refine RL.op (.free rfl) rfl rfl (Does.append u22 i3 rfl rfl rfl rfl rfl ((hr.mod (Mod.drew _ _) (fun _ _ h => h)).mod hn7.grow (fun _ _ h => h)) (Sl.new hn7 1 1 rfl (by omega) (fun h => h)) (rfl) (by omega)) ?_
            rintro u11 w11 ⟨hr11, hm11, hu11⟩
            have hs10 := hn7.grow.size
            have hs8 := hgd.size
            refine RL.p rfl rfl ?_
            refine RL.done ?_
            refine RK.inBlock ?_
            refine RK.region ?_
            iterate 2 refine RL.p rfl rfl ?_
            refine RL.re (d := 61) rfl rfl (succ_i64 (by omega)) ?_
            refine RL.p rfl rfl ?_
            refine RL.done ?_
            exact RK.back (ih3 (j + 1, u11) _ ⟨(hgd.trans hn7.grow).then hm11 (fun b hb e => by have := hf b e; omega), by
                simp only
                rw [hwho, if_pos h72]
                have e1 : ints (whoS (al.take j) y ++ [aj.id]) = ints (whoS (al.take j) y) ++ (Value.int .i64 aj.id).cells.toList := by simp [ints, Value.cells]
                rw [e1, List.length_append]; exact hr11, fun b e => by
                rcases hu11 with h1 | h1
                · exact hf b (h1 ▸ e)
                · simp only at e; rw [h1] at e; cases e; omega, by simp only; omega⟩ (by simp only; omega)) ⟨rfl, rfl, rfl, rfl, rfl, rfl, rfl, rfl, trivial⟩
          · refine RK.skip ?_
            refine RK.inBlock ?_
            refine RK.region ?_
            iterate 2 refine RL.p rfl rfl ?_
            refine RL.re (d := 61) rfl rfl (succ_i64 (by omega)) ?_
            refine RL.p rfl rfl ?_
            refine RL.done ?_
            exact RK.back (ih3 (j + 1, u) _ ⟨hgd, by simp only; rw [hwho, if_neg h72, List.append_nil]; exact hr.mod (Mod.drew _ _) (fun _ _ h => h), hf, by simp only; omega⟩ (by simp only; omega)) ⟨rfl, rfl, rfl, rfl, rfl, rfl, rfl, rfl, trivial⟩
        · have ek : al.take j = al := List.take_of_length_le (by omega)
          rw [ek] at hr
          have hwl : (whoS al y).length ≤ al.length := by unfold whoS; rw [List.length_map]; exact List.length_filter_le _ _
          refine RK.exit rfl ?_
          refine RK.seq ?_
          refine RK.region ?_
          refine RL.p rfl rfl ?_
          refine RL.op (.free rfl) rfl rfl (Does.call rfl e44 (rising_ok No (whoS al y) u _ (Sl.own hr (fun _ _ h => h)) (by omega))) ?_
          rintro u12 w12 ⟨hr12, hf12, hg12⟩
          rw [who_row him.inv hsets hyv] at hr12
          have hg812 : Grow w8 w12 := hg9.trans hg12
          refine RL.p rfl rfl ?_
          refine RL.done ?_
          iterate 2 refine RK.seq ?_
          refine RK.region ?_
          refine RL.p rfl rfl ?_
          refine RL.q (.free rfl) rfl rfl (Yld.fieldAddr fo46_0 rfl) ?_
          refine RL.q (.free rfl) rfl rfl (Yld.load p9 rfl (at1 ((hB8.mod hg812 (fun h => h)).cell rfl))) ?_
          refine RL.q (.free rfl) rfl rfl (Yld.fieldAddr fo46_1 rfl) ?_
          refine RL.q (.free rfl) rfl rfl (Yld.load p9 rfl (at1 ((hB8.mod hg812 (fun h => h)).cell rfl))) ?_
          refine RL.op (.free rfl) rfl rfl (Does.call rfl e45 ((him.grow (hg8.trans hg812)).posting y.name y.value)) ?_
          rintro u13 w13 ⟨hr13, hf13, hg13⟩
          refine RL.p rfl rfl ?_
          refine RL.op (.free rfl) rfl rfl (Does.call rfl e29 (sameInts_ok No (rowL rows y) (rowL rows y) u13 u12 _ (Sl.own hr13 (fun _ _ h => h)) (Sl.own (hr12.mod hg13 (fun _ _ h => h)) (fun _ _ h => h)))) ?_
          rintro _ w14 ⟨rfl, hg14⟩
          refine RL.p rfl rfl ?_
          refine RL.done ?_
          refine RK.condF (hcF rfl (by simp)) ?_
          have hg314 : Grow w3 w14 := ((hg8.trans hg812).trans hg13).trans hg14
          have hmem : a.id ∈ rowL rows y := (him.inv.mem _ _).2 ⟨a.ls, List.mem_map.2 ⟨pub a, List.mem_map_of_mem (f := pub) ham, rfl⟩, y, hym, rfl⟩
          obtain ⟨q, qs, hq⟩ : ∃ q qs, rowL rows y = q :: qs := by cases hrl : rowL rows y with | nil => (rw [hrl] at hmem; cases hmem) | cons q qs => exact ⟨q, qs, rfl⟩
          have hsl12 : Sl No w14 u12 1 (rowL rows y).length (ints (rowL rows y)) := Sl.own ((hr12.mod hg13 (fun _ _ h => h)).mod hg14 (fun _ _ h => h)) (fun _ _ h => h)
          obtain ⟨b6, o6, c6, he6, _, _, hc6⟩ := hsl12.elem1 (k := 0) (u := .int .i64 q) (by rw [hq]; rfl)
          subst he6
          have hpos : 0 < (rowL rows y).length := by rw [hq]; simp
          have htk : a.ls.take (k + 1) = a.ls.take k ++ [y] := by rw [List.take_succ_eq_append_getElem (by omega)]; congr 2; exact (List.getElem?_eq_some_iff.1 hy).2
          have hgd3 : Grow w3 w14.drew := hg314.trans (Mod.drew _ _)
          refine RK.skip ?_
          refine RK.seq ?_
          refine RK.drawM No [(0, false), (1, false), (2, false), (3, false), (4, false), (5, false), (6, false), (7, false), (8, false)] [] mixed (by kernel_rfl) ?_
          refine DL.p rfl rfl rfl ?_
          refine DL.qf rfl (.free rfl) rfl rfl (Yld.indexAddr u22 i3 rfl rfl (by omega) (by omega)) ?_
          refine DL.q rfl (.free rfl) rfl rfl rfl (Yld.load p3 rfl (atM (by have := hc6 0 (.int .i64 q) (by rw [hq]; rfl); simpa using this) (fun h => h))) (Mod.drew _ _) ?_
          iterate 2 refine DL.p rfl rfl rfl ?_
          refine DL.qf rfl (.free rfl) rfl rfl (Yld.indexAddrN u58 i32 rfl rfl (by omega)) ?_
          refine DL.qf rfl (.free rfl) rfl rfl (Yld.fieldAddr fo32_0 rfl) ?_
          refine DL.q rfl (.free rfl) rfl rfl rfl (Yld.load p3 rfl (atM (hg314.cell (hc1 0 _ rfl) (fun h => h)) (fun h => h))) (Mod.drew _ _) ?_
          refine DL.p rfl rfl rfl ?_
          refine DL.done ?_
          first | refine RK.condD rfl (fun h100 => ?_) (fun h100 => ?_) | refine RK.condN rfl (fun h100 => ?_) (fun h100 => ?_) | refine RK.cond rfl (fun h100 => ?_) (fun h100 => ?_)
          · refine RK.region ?_
            iterate 2 refine RL.p rfl rfl ?_
            refine RL.re (d := 102) rfl rfl (succ_i64 (by omega)) ?_
            refine RL.p rfl rfl ?_
            refine RL.done ?_
            refine RK.inBlock ?_
            refine RK.region ?_
            iterate 2 refine RL.p rfl rfl ?_
            refine RL.re (d := 47) rfl rfl (succ_i64 (by omega)) ?_
            refine RL.p rfl rfl ?_
            refine RL.done ?_
            exact RK.back (ih2 (k + 1, m + 1) _ ⟨hgd3, by simp only; omega, by
                simp only
                rw [htk, List.filter_append, List.length_append]
                have : (decide ((rowL rows y).head? = some a.id)) = true := by rw [hq]; simpa using h100
                simp only [List.filter_cons, this, if_true, List.filter_nil, List.length_cons, List.length_nil]
                omega⟩ (by simp only; omega)) ⟨rfl, rfl, rfl, rfl, rfl, trivial⟩
          · refine RK.skip ?_
            refine RK.inBlock ?_
            refine RK.region ?_
            iterate 2 refine RL.p rfl rfl ?_
            refine RL.re (d := 47) rfl rfl (succ_i64 (by omega)) ?_
            refine RL.p rfl rfl ?_
            refine RL.done ?_
            exact RK.back (ih2 (k + 1, m) _ ⟨hgd3, by simp only; omega, by
                simp only
                rw [htk, List.filter_append, List.length_append]
                have : (decide ((rowL rows y).head? = some a.id)) = false := by rw [hq]; simpa using h100
                simp only [List.filter_cons, this, Bool.false_eq_true, if_false, List.filter_nil, List.length_nil]
                omega⟩ (by simp only; omega)) ⟨rfl, rfl, rfl, rfl, rfl, trivial⟩
      · have ek : a.ls.take k = a.ls := List.take_of_length_le (by omega)
        rw [ek] at hm
        refine RK.exit rfl ?_
        refine RK.inBlock ?_
        refine RK.region ?_
        iterate 2 refine RL.p rfl rfl ?_
        refine RL.re (d := 37) rfl rfl (succ_i64 (by omega)) ?_
        refine RL.p rfl rfl ?_
        refine RL.done ?_
        exact RK.back (ih (i + 1, m) _ ⟨hg2, by simp only; omega, by
            simp only
            rw [List.take_succ_eq_append_getElem (by simp; omega), List.flatMap_append, List.length_append, ← hni]
            have e9 : (al.map pub)[i]'(by simp; omega) = pub a := by simp [(List.getElem?_eq_some_iff.1 ha).2]
            rw [e9]
            simp only [List.flatMap_cons, List.flatMap_nil, List.append_nil]
            rw [hfir]; exact hm, by simp only; omega⟩ (by simp only; omega)) ⟨rfl, rfl, rfl, rfl, trivial⟩
    · have ek : (al.map pub).take i = al.map pub := List.take_of_length_le (by simp; omega)
      rw [ek, ← hfl] at hni
      have k9 := him.grow hg
      refine RK.exit rfl ?_
      refine RK.seq ?_
      refine RK.region ?_
      refine RL.p rfl rfl ?_
      refine RL.op (.free rfl) rfl rfl (Does.call rfl e31 (k9.size)) ?_
      rintro _ _ ⟨rfl, rfl⟩
      iterate 3 refine RL.p rfl rfl ?_
      refine RL.knownT (d := 107) rfl rfl (by rw [hni]; simp) ?_
      refine RL.q (.yes rfl rfl rfl) rfl rfl (Yld.pure rfl) ?_
      refine RL.op (.yes rfl rfl rfl) rfl rfl (Does.call rfl e45 (k9.posting ⟨#[115, 101, 118]⟩ ⟨#[110, 111, 98, 111, 100, 121]⟩)) ?_
      rintro u10 w10 ⟨hr10, _, hg10⟩
      rw [hlo1] at hr10
      obtain ⟨ad10, c10, rfl⟩ := hr10.slice
      refine RL.q (.yes rfl rfl rfl) rfl rfl (Yld.lenSl u22 rfl) ?_
      refine RL.q (.yes rfl rfl rfl) rfl rfl (Yld.pure rfl) ?_
      iterate 2 refine RL.p rfl rfl ?_
      refine RL.knownT (d := 113) rfl rfl (rfl) ?_
      refine RL.q (.yes rfl rfl rfl) rfl rfl (Yld.pure rfl) ?_
      refine RL.op (.yes rfl rfl rfl) rfl rfl (Does.call rfl e45 ((k9.grow hg10).posting ⟨#[110, 111, 98, 111, 100, 121]⟩ ⟨#[97]⟩)) ?_
      rintro u11 w11 ⟨hr11, _, hg11⟩
      rw [hlo2] at hr11
      obtain ⟨ad11, c11, rfl⟩ := hr11.slice
      refine RL.q (.yes rfl rfl rfl) rfl rfl (Yld.lenSl u22 rfl) ?_
      refine RL.q (.yes rfl rfl rfl) rfl rfl (Yld.pure rfl) ?_
      iterate 2 refine RL.p rfl rfl ?_
      refine RL.knownT (d := 119) rfl rfl (rfl) ?_
      refine RL.op (.yes rfl rfl rfl) rfl rfl (Does.call rfl e4 (iruns_ok _)) ?_
      rintro _ w12 ⟨rfl, hg12⟩
      iterate 2 refine RL.p rfl rfl ?_
      refine RL.done ?_
      refine RK.ret_of Tryz.func6 (res1 rfl rfl) ?_ _
      exact ⟨_, rfl, rfl, (((hgw3.trans hg).trans hg10).trans hg11).trans hg12⟩
end Go.Proofs.YtffbcfcoddacmaaGreat

