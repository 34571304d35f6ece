/- Indexes built by steps: all of them; their numbers. -/
import Derived.Test.YtffbcfcoddacmaaGreatGb
set_option linter.unusedVariables false
set_option linter.unusedSimpArgs false
set_option maxHeartbeats 1000000
set_option maxRecDepth 100000
namespace Go.Proofs.YtffbcfcoddacmaaGreat
open Go Go.X

def stepX (acc : List AlS) (x : Sp) : List AlS := stepP acc x.drop x.id (labelsS x.labs)
def foldP (l : List Sp) : List AlS := l.foldl stepX []
theorem stepX_len (acc : List AlS) (x : Sp) : (stepX acc x).length ≤ acc.length + 1 := by
  unfold stepX stepP
  cases whereI acc x.id with
  | none => cases x.drop <;> simp
  | some i => cases x.drop <;> simp [List.length_eraseIdx] <;> split <;> omega
theorem foldP_snoc (l : List Sp) (x : Sp) : foldP (l ++ [x]) = stepX (foldP l) x := by simp [foldP]
theorem foldP_len (l : List Sp) : (foldP l).length ≤ l.length := by
  have key : ∀ (l : List Sp) (acc : List AlS), (l.foldl stepX acc).length ≤ acc.length + l.length := by
    intro l
    induction l with
    | nil => intro acc; simp
    | cons x l ih => intro acc; rw [List.foldl_cons]; have h1 := ih (stepX acc x); have h2 := stepX_len acc x; simp; omega
  simpa [foldP] using key l []
theorem labels_raw (l : List Int) : ∀ x ∈ labelsS l, x.name ∈ nmL ∧ x.value ∈ vlL := fun x hx => by
  obtain ⟨h1, _⟩ := raw_ok l
  have := mem_isort.1 hx
  exact ⟨h1.nm x this, h1.vl x this⟩
theorem foldP_raw (l : List Sp) : ∀ a ∈ foldP l, ∀ x ∈ a.2.1, x.name ∈ nmL ∧ x.value ∈ vlL := by
  have key : ∀ (l : List Sp) (acc : List AlS), (∀ a ∈ acc, ∀ x ∈ a.2.1, x.name ∈ nmL ∧ x.value ∈ vlL) → ∀ a ∈ l.foldl stepX acc, ∀ x ∈ a.2.1, x.name ∈ nmL ∧ x.value ∈ vlL := by
    intro l
    induction l with
    | nil => intro acc h; exact h
    | cons y l ih =>
      intro acc h
      refine ih _ fun a ha => ?_
      unfold stepX stepP at ha
      cases hw : whereI acc y.id with
      | none =>
        rw [hw] at ha
        simp only at ha
        split at ha
        · exact h a ha
        · rcases List.mem_append.1 ha with h1 | h1
          · exact h a h1
          · simp at h1; subst h1; exact labels_raw _
      | some i =>
        rw [hw] at ha
        simp only at ha
        split at ha
        · exact h a (List.mem_of_mem_eraseIdx ha)
        · exact h a ha
  exact key l [] (by simp)
theorem built_ok (l : List Sp) (vl : Value) (w : World) (hl : Sl No w vl 3 l.length (l.flatMap spC)) (hx : ∀ x ∈ l, x.Ok w) (h60 : l.length ≤ 60) :
    Fx Tryz.prog 40 [vl] w (fun u w' => ∃ ix M rows v al, u = .tuple #[pp ix, v, .bool true] ∧ BJ w w' ix M rows v al ∧ al.map pub = foldP l ∧ ∀ t ∈ rows, t.2.length ≤ 360) := by
  obtain ⟨adl, cl, rfl⟩ := hl.shape
  refine enter Tryz.func40 rfl rfl rfl _ (Pick.sub (l := [0]) (.cons rfl .nil)) ?_
  refine RK.seq ?_
  refine RK.region ?_
  iterate 3 refine RL.p rfl rfl ?_
  refine RL.done ?_
  refine RK.seq ?_
  refine RK.region ?_
  refine RL.op (.free rfl) rfl rfl (Does.call rfl e27 (im_new _)) ?_
  rintro _ w1 ⟨ix, M, rfl, k1, hM, _, hg1⟩
  refine RL.p rfl rfl ?_
  refine RL.done ?_
  iterate 2 refine RK.seq ?_
  refine RK.region ?_
  refine RL.p rfl rfl ?_
  refine RL.q (.free rfl) rfl rfl (Yld.eqPtr Tryz.underlying42 rfl rfl) ?_
  refine RL.p rfl rfl ?_
  refine RL.knownF (d := 12) rfl rfl (rfl) ?_
  refine RL.q (.yes rfl rfl rfl) rfl rfl (Yld.pure rfl) ?_
  refine RL.q (.yes rfl rfl rfl) rfl rfl (Yld.lenSl u65 rfl) ?_
  refine RL.q (.yes rfl rfl rfl) rfl rfl (Yld.pure rfl) ?_
  refine RL.p rfl rfl ?_
  refine RL.done ?_
  refine RK.condF (hcF rfl (decide_eq_false (by omega))) ?_
  refine RK.skip ?_
  refine RK.seq ?_
  refine RK.region ?_
  refine RL.p rfl rfl ?_
  refine RL.done ?_
  refine RK.seq ?_
  refine RK.region ?_
  refine RL.p rfl rfl ?_
  refine RL.done ?_
  iterate 2 refine RK.seq ?_
  refine RK.region ?_
  refine RL.p rfl rfl ?_
  refine RL.done ?_
  refine RK.block ?_
  refine RK.loop (fun s : Nat × Value => [(0, .slice adl l.length cl), (5, pp ix), (6, s.2), (7, .bool true), (8, .int .i64 (s.1 : Int))]) (fun s w' => (∃ rows al, BJ w w' ix M rows s.2 al ∧ al.map pub = foldP (l.take s.1) ∧ ∀ t ∈ rows, t.2.length ≤ 6 * s.1) ∧ s.1 ≤ l.length) (fun s => l.length - s.1) (0, .slice none 0 0) ⟨rfl, rfl, rfl, rfl, rfl, trivial⟩ ⟨⟨[], [], ⟨(k1.turn (Mod.refl _ _) (fun b e => by simp [Value.ownBlock] at e)), Row.nil _ _ _, by simp, hM, fun b e => by simp [Value.ownBlock] at e, hg1⟩, by simp [foldP], by simp⟩, by simp⟩ (fun s w' hI ih => ?_)
  obtain ⟨k, v⟩ := s
  obtain ⟨⟨rows, al, hj, hal, hbd⟩, hk⟩ := hI
  simp only at hj hal hbd hk
  iterate 2 refine RK.seq ?_
  refine RK.region ?_
  iterate 2 refine RL.p rfl rfl ?_
  refine RL.q (.free rfl) rfl rfl (Yld.lenSl u65 rfl) ?_
  refine RL.p rfl rfl ?_
  refine RL.done ?_
  first | refine RK.condD rfl (fun h20 => ?_) (fun h20 => ?_) | refine RK.condN rfl (fun h20 => ?_) (fun h20 => ?_) | refine RK.cond rfl (fun h20 => ?_) (fun h20 => ?_)
  · obtain ⟨x, hxk⟩ : ∃ x, l[k]? = some x := ⟨l[k]'(by omega), List.getElem?_eq_getElem (by omega)⟩
    obtain ⟨b1, o1, c1', he1, _, _, hc1⟩ := hl.elem spC_len hxk
    cases he1
    have hlen : al.length ≤ k := by have h1 := foldP_len (l.take k); have h2 := congrArg List.length hal; simp at h1 h2; omega
    have hxo := hx x (List.mem_of_getElem? hxk)
    refine RK.skip ?_
    refine RK.seq ?_
    refine RK.block ?_
    refine RK.seq ?_
    refine RK.region ?_
    iterate 4 refine RL.p rfl rfl ?_
    refine RL.q (.free rfl) rfl rfl (Yld.indexAddrN u65 i153 rfl rfl (by omega)) ?_
    refine RL.q (.free rfl) rfl rfl (Yld.loadN (cs := [.bool x.drop, .int .i64 x.id, x.v]) a153 rfl (atN (fun q u hq => hj.grow.cell (hc1 q u hq) (fun h => h)))) ?_
    refine RL.op (.free rfl) rfl rfl (Does.call rfl e96 (bstep_ok w _ ix M rows v al hj (by omega) (6 * k) (by omega) hbd x ⟨hxo.1.mod hj.grow, hxo.2⟩)) ?_
    rintro _ w2 ⟨v2, al2, rows2, rfl, hj2, hal2, hbd2⟩
    iterate 5 refine RL.p rfl rfl ?_
    refine RL.done ?_
    refine RK.seq ?_
    refine RK.region ?_
    iterate 2 refine RL.p rfl rfl ?_
    refine RL.done ?_
    refine RK.condF (hcF rfl (rfl)) ?_
    refine RK.skip ?_
    refine RK.inBlock ?_
    refine RK.region ?_
    iterate 2 refine RL.p rfl rfl ?_
    refine RL.re (d := 22) rfl rfl (succ_i64 (by omega)) ?_
    refine RL.p rfl rfl ?_
    refine RL.done ?_
    exact RK.back (ih (k + 1, v2) _ ⟨⟨rows2, al2, hj2, by
        rw [hal2, hal, List.take_succ_eq_append_getElem (by omega), foldP_snoc, (List.getElem?_eq_some_iff.1 hxk).2]
        rfl, fun t ht => by have := hbd2 t ht; simp only; omega⟩, by simp only; omega⟩ (by simp only; omega)) ⟨rfl, rfl, rfl, rfl, rfl, trivial⟩
  · have ek : l.take k = l := List.take_of_length_le (by omega)
    rw [ek] at hal
    refine RK.exit rfl ?_
    refine RK.seq ?_
    refine RK.region ?_
    iterate 5 refine RL.p rfl rfl ?_
    refine RL.done ?_
    refine RK.ret_of Tryz.func40 (res3 rfl rfl rfl rfl) ?_ _
    exact ⟨_, rfl, ix, M, rows, v, al, rfl, hj, hal, fun t ht => by have := hbd t ht; omega⟩
theorem idsL_ok (M : Nat → Prop) (al : List Al) (v : Value) (w : World) (hv : Sl M w v 3 al.length (al.flatMap alC)) (hb : al.length ≤ 1000) :
    Fx Tryz.prog 42 [v] w (fun u w' => Row w' 3 1 u (rise (al.map (·.id))).length (ints (rise (al.map (·.id)))) ∧ Fresh w.heap.size u ∧ Grow w w') := by
  obtain ⟨ad, c, rfl⟩ := hv.shape
  refine enter Tryz.func42 rfl rfl rfl _ (Pick.sub (l := [0]) (.cons rfl .nil)) ?_
  refine RK.seq ?_
  refine RK.region ?_
  refine RL.p rfl rfl ?_
  refine RL.done ?_
  refine RK.seq ?_
  refine RK.region ?_
  refine RL.p rfl rfl ?_
  refine RL.done ?_
  iterate 2 refine RK.seq ?_
  refine RK.region ?_
  refine RL.p rfl rfl ?_
  refine RL.done ?_
  refine RK.block ?_
  refine RK.loop (fun s : Nat × Value => [(0, .slice ad al.length c), (3, s.2), (4, .int .i64 (s.1 : Int))]) (fun s w' => Row w' 3 1 s.2 s.1 (ints ((al.take s.1).map (·.id))) ∧ Fresh w.heap.size s.2 ∧ Grow w w' ∧ s.1 ≤ al.length) (fun s => al.length - s.1) (0, .slice none 0 0) ⟨rfl, rfl, rfl, trivial⟩ ⟨Row.nil _ _ _, fun b e => by simp [Value.ownBlock] at e, Mod.refl _ _, by simp⟩ (fun s w' hI ih => ?_)
  obtain ⟨k, u⟩ := s
  obtain ⟨hr, hf, hg, hk⟩ := hI
  simp only at hr hf hk
  iterate 2 refine RK.seq ?_
  refine RK.region ?_
  iterate 2 refine RL.p rfl rfl ?_
  refine RL.q (.free rfl) rfl rfl (Yld.lenSl u58 rfl) ?_
  refine RL.p rfl rfl ?_
  refine RL.done ?_
  first | refine RK.condD rfl (fun h8 => ?_) (fun h8 => ?_) | refine RK.condN rfl (fun h8 => ?_) (fun h8 => ?_) | refine RK.cond rfl (fun h8 => ?_) (fun h8 => ?_)
  · obtain ⟨a, ha⟩ : ∃ a, al[k]? = some a := ⟨al[k]'(by omega), List.getElem?_eq_getElem (by omega)⟩
    obtain ⟨b1, o1, c1', he1, _, _, hc1⟩ := hv.elem alC_len ha
    cases he1
    refine RK.skip ?_
    refine RK.seq ?_
    refine RK.block ?_
    refine RK.region ?_
    iterate 3 refine RL.p rfl rfl ?_
    refine RL.q (.free rfl) rfl rfl (Yld.indexAddrN u58 i32 rfl rfl (by omega)) ?_
    refine RL.q (.free rfl) rfl rfl (Yld.fieldAddr fo32_0 rfl) ?_
    refine RL.q (.free rfl) rfl rfl (Yld.load p3 rfl (at1 (hg.cell (hc1 0 _ rfl) (fun h => h)))) ?_
    refine RL.op (.free rfl) rfl rfl (Does.slice1 u22 i3 rfl rfl rfl rfl rfl) ?_
    rintro _ w2 ⟨b2, rfl, hn2⟩
    refine RL.op (.free rfl) rfl rfl (Does.append u22 i3 rfl rfl rfl rfl rfl (hr.mod hn2.grow (fun _ _ h => h)) (Sl.new hn2 1 1 rfl (by omega) (fun h => h)) (rfl) (by omega)) ?_
    rintro u3 w3 ⟨hr3, hm3, hu3⟩
    have hs2 := hn2.grow.size
    have hs0 := hg.size
    refine RL.p rfl rfl ?_
    refine RL.done ?_
    refine RK.inBlock ?_
    refine RK.region ?_
    iterate 2 refine RL.p rfl rfl ?_
    refine RL.re (d := 10) rfl rfl (succ_i64 (by omega)) ?_
    refine RL.p rfl rfl ?_
    refine RL.done ?_
    exact RK.back (ih (k + 1, u3) _ ⟨by
        simp only
        rw [List.take_succ_eq_append_getElem (by omega), (List.getElem?_eq_some_iff.1 ha).2]
        have e1 : ints (((al.take k) ++ [a]).map (·.id)) = ints ((al.take k).map (·.id)) ++ (Value.int .i64 a.id).cells.toList := by simp [ints, Value.cells]
        rw [e1]; exact hr3, fun b e => by
        rcases hu3 with h1 | h1
        · exact hf b (h1 ▸ e)
        · simp only at e; rw [h1] at e; cases e; omega, (hg.trans hn2.grow).then hm3 (fun b hb e => by have := hf b e; omega), by simp only; omega⟩ (by simp only; omega)) ⟨rfl, rfl, rfl, trivial⟩
  · have ek : al.take k = al := List.take_of_length_le (by omega)
    rw [ek] at hr
    have hke : k = (al.map (·.id)).length := by simp; omega
    rw [hke] at hr
    refine RK.exit rfl ?_
    refine RK.seq ?_
    refine RK.region ?_
    refine RL.p rfl rfl ?_
    refine RL.op (.free rfl) rfl rfl (Does.call rfl e44 (rising_ok No (al.map (·.id)) u _ (Sl.own hr (fun _ _ h => h)) (by simp; omega))) ?_
    rintro u2 w2 ⟨hr2, hf2, hg2⟩
    refine RL.p rfl rfl ?_
    refine RL.done ?_
    refine RK.ret_of Tryz.func42 (res1 rfl rfl) ?_ _
    exact ⟨_, rfl, hr2, fun b e => by have := hf2 b e; have := hg.size; omega, hg.trans hg2⟩
/-! ### the plain law -/
/-- Of a label set: who has a label. -/
theorem getL_has {ls : List Lab} (h : isS ls = true) {nm vl : ByteArray} (hv : vl ≠ ByteArray.empty) : getL ls nm = vl ↔ ∃ x ∈ ls, labK x = (nm, vl) := by
  have hs := isS_sorted h
  constructor
  · intro hg
    unfold getL at hg
    cases hf : ls.find? (fun x => decide (x.name = nm)) with
    | none => rw [hf] at hg; exact absurd hg.symm hv
    | some x =>
      rw [hf] at hg
      have hx := List.find?_some hf
      exact ⟨x, List.mem_of_find?_eq_some hf, by simp only [labK]; rw [show x.name = nm by simpa using hx, show x.value = vl by simpa using hg]⟩
  · rintro ⟨x, hx, e⟩
    simp only [labK, Prod.mk.injEq] at e
    obtain ⟨i, hi⟩ := List.getElem?_of_mem hx
    rw [getL_at hi e.1 fun j y hj hy e2 => ?_, e.2]
    have h1 := (List.getElem?_eq_some_iff.1 hi)
    have h2 := (List.getElem?_eq_some_iff.1 hy)
    have h3 := List.pairwise_iff_getElem.1 hs j i h2.1 h1.1 hj
    rw [h1.2, h2.2, e2, e.1, slt_irrefl] at h3
    cases h3
/-- The labels that somebody has first. -/
def firstL (rows : List (LabK × List Int)) (a : AlS) : List Lab := a.2.1.filter fun y => decide (((lookM rows (labK y)).getD []).head? = some a.1)
theorem firsts_len {l : List AlS} {rows : List (LabK × List Int)} (h : IxI (hasOf l) rows) (hs : ∀ a ∈ l, isS a.2.1 = true) : rows.length = (l.flatMap (firstL rows)).length := by
  have hn : (l.map (·.1)).Nodup := by have := h.nd; rwa [hasOf_keys] at this
  have hinj : ∀ x y : Lab, labK x = labK y → x = y := fun x y e => by
    cases x; cases y
    simp only [labK, Prod.mk.injEq] at e
    obtain ⟨rfl, rfl⟩ := e
    rfl
  refine h.len ?_ fun y => ?_
  · refine List.pairwise_flatMap.2 ⟨fun a ha => (isS_nodup (hs a ha)).sublist List.filter_sublist, ?_⟩
    refine (List.pairwise_map.1 hn).imp fun {a b} hne x hx y hy e => ?_
    subst e
    unfold firstL at hx hy
    have h1 := (List.mem_filter.1 hx).2
    have h2 := (List.mem_filter.1 hy).2
    simp only [decide_eq_true_eq] at h1 h2
    rw [h1] at h2
    exact hne (by simpa using h2)
  · constructor
    · intro hy
      obtain ⟨a, ha, hy⟩ := List.mem_flatMap.1 hy
      exact ⟨(a.1, a.2.1), List.mem_map_of_mem (f := fun a : AlS => (a.1, a.2.1)) ha, (List.mem_filter.1 hy).1⟩
    · rintro ⟨t, ht, hy⟩
      have hm := (h.mem (labK y) t.1).2 ⟨t.2, ht, y, hy, rfl⟩
      cases hr : (lookM rows (labK y)).getD [] with
      | nil => rw [hr] at hm; cases hm
      | cons m r =>
        obtain ⟨ls, h1, x, hx, e⟩ := (h.mem (labK y) m).1 (by rw [hr]; simp)
        obtain rfl := hinj x y e
        obtain ⟨a, ha, e2⟩ := List.mem_map.1 h1
        simp only [Prod.mk.injEq] at e2
        refine List.mem_flatMap.2 ⟨a, ha, List.mem_filter.2 ⟨e2.2 ▸ hx, ?_⟩⟩
        rw [hr]
        simp [e2.1]
end Go.Proofs.YtffbcfcoddacmaaGreat

