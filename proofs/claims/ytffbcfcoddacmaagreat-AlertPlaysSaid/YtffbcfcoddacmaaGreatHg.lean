/- The document's own alerts: their labels counted. -/
import Derived.Test.YtffbcfcoddacmaaGreatHf
set_option linter.unusedVariables false
set_option linter.unusedSimpArgs false
set_option maxHeartbeats 1000000
set_option maxRecDepth 100000
namespace Go.Proofs.YtffbcfcoddacmaaGreat
open Go Go.X
def insL (D : List Lab) (x : Lab) : List Lab := if x ∈ D then D else D ++ [x]
def addL (D : List Lab) (xs : List Lab) : List Lab := xs.foldl insL D
def dstL (L : List AlS) : List Lab := addL [] (L.flatMap (·.2.1))
theorem addL_snoc (D xs : List Lab) (x : Lab) : addL D (xs ++ [x]) = insL (addL D xs) x := by simp [addL]
theorem addL_app (D xs ys : List Lab) : addL D (xs ++ ys) = addL (addL D xs) ys := by simp [addL]
theorem insL_mem {D : List Lab} {x y : Lab} : y ∈ insL D x ↔ y ∈ D ∨ y = x := by
  unfold insL
  split
  · rename_i h
    constructor
    · exact .inl
    · rintro (h1 | rfl)
      · exact h1
      · exact h
  · simp
theorem insL_nodup {D : List Lab} (h : D.Nodup) (x : Lab) : (insL D x).Nodup := by
  unfold insL
  split
  · exact h
  · rename_i hx
    rw [List.nodup_append]
    refine ⟨h, by simp, fun a ha b hb => ?_⟩
    simp at hb; subst hb
    rintro rfl
    exact hx ha
theorem addL_nodup : ∀ (xs : List Lab) {D : List Lab}, D.Nodup → (addL D xs).Nodup
  | [], _, h => h
  | x :: xs, _, h => addL_nodup xs (insL_nodup h x)
theorem addL_mem {y : Lab} : ∀ (xs : List Lab) {D : List Lab}, y ∈ addL D xs ↔ y ∈ D ∨ y ∈ xs
  | [], _ => by simp [addL]
  | x :: xs, D => by
    rw [show addL D (x :: xs) = addL (insL D x) xs from rfl, addL_mem xs, insL_mem]
    simp [or_assoc]
theorem addL_len : ∀ (xs : List Lab) (D : List Lab), (addL D xs).length ≤ D.length + xs.length
  | [], _ => Nat.le_refl _
  | x :: xs, D => by
    have h1 := addL_len xs (insL D x)
    have h2 : (insL D x).length ≤ D.length + 1 := by unfold insL; split <;> simp
    rw [show addL D (x :: xs) = addL (insL D x) xs from rfl, List.length_cons]
    omega
theorem flat_le {al : List Al} (h : ∀ a ∈ al, a.ls.length ≤ 6) : (al.flatMap (·.ls)).length ≤ 6 * al.length := by
  induction al with
  | nil => simp
  | cons a al ih =>
    have h1 := ih fun b hb => h b (by simp [hb])
    have h2 := h a (by simp)
    simp only [List.flatMap_cons, List.length_append, List.length_cons]
    omega
theorem rows_dst {s : St} (h : Gd s) : s.rows.length = (dstL s.al).length := by
  refine h.ix.len (addL_nodup _ (by simp)) fun x => ?_
  unfold dstL
  rw [addL_mem, h.has]
  simp [hasOf]
theorem ralPosts_ok (P N : Nat → Prop) (w : World) (r : Nat) (most last : Int) (vl : Value) (al : List Al) (h : RA P N w r most last vl al) (hb : al.length ≤ 1000) (hls : ∀ a ∈ al, a.ls.length ≤ 6) :
    Fx Tryz.prog 39 [pp r] w (fun u w' => u = .int .i64 (dstL (al.map pub)).length ∧ Grow w w') := by
  have hsl := Sl.own (M := No) h.row (fun _ _ h => h)
  obtain ⟨ad, c, rfl⟩ := h.row.slice
  have hd : dstL (al.map pub) = addL [] (al.flatMap (·.ls)) := by unfold dstL; rw [List.flatMap_map]; rfl
  rw [hd]
  refine enter Tryz.func39 rfl rfl rfl _ (Pick.sub (l := [0]) (.cons rfl .nil)) ?_
  refine RK.seq ?_
  refine RK.region ?_
  refine RL.p rfl rfl ?_
  refine RL.done ?_
  refine RK.seq ?_
  refine RK.region ?_
  refine RL.p rfl rfl ?_
  refine RL.done ?_
  iterate 2 refine RK.seq ?_
  refine RK.region ?_
  refine RL.p rfl rfl ?_
  refine RL.done ?_
  refine RK.block ?_
  refine RK.loop (fun s : Nat × Value => [(0, pp r), (3, s.2), (4, .int .i64 (s.1 : Int))]) (fun s w' => Row w' 46 2 s.2 (addL [] ((al.take s.1).flatMap (·.ls))).length ((addL [] ((al.take s.1).flatMap (·.ls))).flatMap labC) ∧ Fresh w.heap.size s.2 ∧ Grow w w' ∧ s.1 ≤ al.length) (fun s => al.length - s.1) (0, .slice none 0 0) ⟨rfl, rfl, rfl, trivial⟩ ⟨by simpa [addL] using Row.nil _ _ _, fun b hb => by simp [Value.ownBlock] at hb, Mod.refl _ _, by omega⟩ (fun s1 w1 hI ih => ?_)
  obtain ⟨k, u⟩ := s1
  obtain ⟨hr, hfr, hg, hk⟩ := hI
  simp only at hr hfr hk
  have hB := h.blk.mod hg (fun h => h)
  iterate 2 refine RK.seq ?_
  refine RK.region ?_
  iterate 3 refine RL.p rfl rfl ?_
  refine RL.q (.free rfl) rfl rfl (Yld.fieldAddr fo60_1 rfl) ?_
  refine RL.q (.free rfl) rfl rfl (Yld.load p58 rfl (at1 (hB.cell rfl))) ?_
  refine RL.q (.free rfl) rfl rfl (Yld.lenSl u58 rfl) ?_
  refine RL.p rfl rfl ?_
  refine RL.done ?_
  first | refine RK.condD rfl (fun h14 => ?_) (fun h14 => ?_) | refine RK.condN rfl (fun h14 => ?_) (fun h14 => ?_) | refine RK.cond rfl (fun h14 => ?_) (fun h14 => ?_)
  · obtain ⟨a, hx⟩ : ∃ x, al[k]? = some x := ⟨al[k]'(by simp only at h14; omega), List.getElem?_eq_getElem _⟩
    obtain ⟨b1, o1, c1', he1, _, _, hc1⟩ := hsl.elem alC_len hx
    cases he1
    have hsa := h.sls a (List.mem_of_getElem? hx)
    obtain ⟨ada, ca, hva⟩ := hsa.shape
    rw [hva] at hsa
    have hcl : ∀ w2, Grow w w2 → w2.cell? ⟨b1, o1 + k * 3 + 1, none⟩ = some (.slice ada a.ls.length ca) := fun w2 h2 => h2.cell (hc1 1 _ (by rw [← hva]; rfl)) (fun h => h)
    have htk : (al.take (k + 1)).flatMap (·.ls) = (al.take k).flatMap (·.ls) ++ a.ls := by rw [List.take_succ_eq_append_getElem (by simp only at h14; omega), List.flatMap_append]; simp [(List.getElem?_eq_some_iff.1 hx).2]
    have hDl : (addL [] ((al.take k).flatMap (·.ls))).length ≤ 6000 := by have h1 := addL_len ((al.take k).flatMap (·.ls)) []; have h2 := flat_le (al := al.take k) (fun a ha => hls a (List.mem_of_mem_take ha)); simp only [List.length_take, List.length_nil] at h1 h2; omega
    have hal6 := hls a (List.mem_of_getElem? hx)
    generalize hDe : addL [] ((al.take k).flatMap (·.ls)) = D at *
    refine RK.skip ?_
    refine RK.seq ?_
    refine RK.block ?_
    refine RK.seq ?_
    refine RK.region ?_
    refine RL.p rfl rfl ?_
    refine RL.done ?_
    refine RK.block ?_
    refine RK.loop (fun s : Nat × Value => [(0, pp r), (3, s.2), (4, .int .i64 (k : Int)), (5, .int .i64 (s.1 : Int))]) (fun s w' => Row w' 46 2 s.2 (addL D (a.ls.take s.1)).length ((addL D (a.ls.take s.1)).flatMap labC) ∧ Fresh w.heap.size s.2 ∧ Grow w w' ∧ s.1 ≤ a.ls.length) (fun s => a.ls.length - s.1) (0, u) ⟨rfl, rfl, rfl, rfl, trivial⟩ ⟨hr, hfr, hg, by omega⟩ (fun s2 w2 hI2 ih2 => ?_)
    obtain ⟨j, v⟩ := s2
    obtain ⟨hr2, hfr2, hg2, hj⟩ := hI2
    simp only at hr2 hfr2 hj
    have hB2 := h.blk.mod hg2 (fun h => h)
    iterate 2 refine RK.seq ?_
    refine RK.region ?_
    iterate 3 refine RL.p rfl rfl ?_
    refine RL.q (.free rfl) rfl rfl (Yld.fieldAddr fo60_1 rfl) ?_
    refine RL.q (.free rfl) rfl rfl (Yld.load p58 rfl (at1 (hB2.cell rfl))) ?_
    refine RL.p rfl rfl ?_
    refine RL.q (.free rfl) rfl rfl (Yld.indexAddrN u58 i32 rfl rfl (by simp only at h14; omega)) ?_
    refine RL.q (.free rfl) rfl rfl (Yld.fieldAddr fo32_1 rfl) ?_
    refine RL.q (.free rfl) rfl rfl (Yld.load p26 rfl (at1 (hcl _ hg2))) ?_
    refine RL.q (.free rfl) rfl rfl (Yld.lenSl u26 rfl) ?_
    refine RL.p rfl rfl ?_
    refine RL.done ?_
    first | refine RK.condD rfl (fun h27 => ?_) (fun h27 => ?_) | refine RK.condN rfl (fun h27 => ?_) (fun h27 => ?_) | refine RK.cond rfl (fun h27 => ?_) (fun h27 => ?_)
    · obtain ⟨x, hxj⟩ : ∃ x, a.ls[j]? = some x := ⟨a.ls[j]'(by simp only at h27; omega), List.getElem?_eq_getElem _⟩
      have htj : addL D (a.ls.take (j + 1)) = insL (addL D (a.ls.take j)) x := by rw [List.take_succ_eq_append_getElem (by simp only at h27; omega), addL_snoc, (List.getElem?_eq_some_iff.1 hxj).2]
      obtain ⟨b2, o2, c2', he2, _, _, hc2⟩ := hsa.elem labC_len hxj
      cases he2
      have hDl2 := addL_len (a.ls.take j) D
      simp only [List.length_take] at hDl2
      generalize hDe2 : addL D (a.ls.take j) = D2 at *
      obtain ⟨adv, cv, rfl⟩ := hr2.slice
      have hsv : Sl No w2 (.slice adv D2.length cv) 2 D2.length (D2.flatMap labC) := Sl.own hr2 (fun _ _ h => h)
      refine RK.skip ?_
      refine RK.seq ?_
      refine RK.block ?_
      refine RK.seq ?_
      refine RK.region ?_
      refine RL.p rfl rfl ?_
      refine RL.done ?_
      iterate 2 refine RK.seq ?_
      refine RK.region ?_
      refine RL.p rfl rfl ?_
      refine RL.done ?_
      refine RK.block ?_
      refine RK.loop (fun s : Nat × Bool => [(0, pp r), (3, .slice adv D2.length cv), (4, .int .i64 (k : Int)), (5, .int .i64 (j : Int)), (6, .bool s.2), (7, .int .i64 (s.1 : Int))]) (fun s w' => Grow w2 w' ∧ s.1 ≤ D2.length ∧ (s.2 = true ↔ x ∈ D2.take s.1)) (fun s => D2.length - s.1) (0, false) ⟨rfl, rfl, rfl, rfl, rfl, rfl, trivial⟩ ⟨Mod.refl _ _, by omega, by simp⟩ (fun s3 w3 hI3 ih3 => ?_)
      obtain ⟨i, fl⟩ := s3
      obtain ⟨hg3, hi, hfl⟩ := hI3
      simp only at hi hfl
      have hg03 := hg2.trans hg3
      iterate 2 refine RK.seq ?_
      refine RK.region ?_
      iterate 2 refine RL.p rfl rfl ?_
      refine RL.q (.free rfl) rfl rfl (Yld.lenSl u26 rfl) ?_
      refine RL.p rfl rfl ?_
      refine RL.done ?_
      first | refine RK.condD rfl (fun h33 => ?_) (fun h33 => ?_) | refine RK.condN rfl (fun h33 => ?_) (fun h33 => ?_) | refine RK.cond rfl (fun h33 => ?_) (fun h33 => ?_)
      · obtain ⟨y, hy⟩ : ∃ y, D2[i]? = some y := ⟨D2[i]'(by simp only at h33; omega), List.getElem?_eq_getElem _⟩
        have hti : D2.take (i + 1) = D2.take i ++ [y] := by rw [List.take_succ_eq_append_getElem (by simp only at h33; omega), (List.getElem?_eq_some_iff.1 hy).2]
        have hbig := hsv.big
        refine RK.skip ?_
        refine RK.seq ?_
        refine RK.block ?_
        refine RK.drawM No [(0, false), (1, false), (2, false), (3, false), (4, false), (5, false), (6, false), (7, false), (8, false), (9, false), (10, false), (11, false), (12, false), (13, false), (14, false), (15, false), (16, false), (17, false), (18, false), (19, false)] [] mixed (by kernel_rfl) ?_
        iterate 2 refine DL.p rfl rfl rfl ?_
        first | refine DL.splitD (d := 37) rfl rfl (fun h37 => ?_) (fun h37 => ?_) | refine DL.splitN (d := 37) rfl rfl (fun h37 => ?_) (fun h37 => ?_) | refine DL.split (d := 37) rfl rfl (fun h37 => ?_) (fun h37 => ?_)
        · iterate 16 refine DL.no rfl (.no rfl rfl rfl rfl) rfl rfl ?_
          iterate 2 refine DL.p rfl rfl rfl ?_
          refine DL.done ?_
          refine RK.inBlock ?_
          refine RK.region ?_
          iterate 2 refine RL.p rfl rfl ?_
          refine RL.re (d := 35) rfl rfl (succ_i64 (by simp only at h33; omega)) ?_
          refine RL.p rfl rfl ?_
          refine RL.done ?_
          exact RK.back (ih3 (i + 1, true) _ ⟨hg3.trans (Mod.drew _ _), by simp only at h33 ⊢; omega, by simp only [true_iff]; rw [hti]; exact List.mem_append_left _ (hfl.1 h37)⟩ (by simp only at h33 ⊢; omega)) ⟨rfl, rfl, rfl, rfl, rfl, rfl, trivial⟩
        · obtain ⟨b3, o3, c3', he3, _, _, hc3⟩ := hsv.elem labC_len hy
          cases he3
          have hB3 := h.blk.mod hg03 (fun h => h)
          iterate 2 refine DL.qf rfl (.yes rfl rfl rfl) rfl rfl (Yld.pure rfl) ?_
          refine DL.qf rfl (.yes rfl rfl rfl) rfl rfl (Yld.indexAddrN u26 i46 rfl rfl (by simp only at h33; omega)) ?_
          refine DL.q rfl (.yes rfl rfl rfl) rfl rfl rfl (Yld.loadN (cs := [.string y.name, .string y.value]) a46 rfl (atNM (fun j u hj => hg3.cell (hc3 j u hj) (fun h => h)) (id))) (Mod.drew _ _) ?_
          iterate 2 refine DL.qf rfl (.yes rfl rfl rfl) rfl rfl (Yld.pure rfl) ?_
          refine DL.qf rfl (.yes rfl rfl rfl) rfl rfl (Yld.fieldAddr fo60_1 rfl) ?_
          refine DL.q rfl (.yes rfl rfl rfl) rfl rfl rfl (Yld.load p58 rfl (atM (hB3.cell rfl) (fun h => h))) (Mod.drew _ _) ?_
          refine DL.qf rfl (.yes rfl rfl rfl) rfl rfl (Yld.pure rfl) ?_
          refine DL.qf rfl (.yes rfl rfl rfl) rfl rfl (Yld.indexAddrN u58 i32 rfl rfl (by simp only at h14; omega)) ?_
          refine DL.qf rfl (.yes rfl rfl rfl) rfl rfl (Yld.fieldAddr fo32_1 rfl) ?_
          refine DL.q rfl (.yes rfl rfl rfl) rfl rfl rfl (Yld.load p26 rfl (atM (hcl _ hg03) (fun h => h))) (Mod.drew _ _) ?_
          refine DL.qf rfl (.yes rfl rfl rfl) rfl rfl (Yld.pure rfl) ?_
          refine DL.qf rfl (.yes rfl rfl rfl) rfl rfl (Yld.indexAddrN u26 i46 rfl rfl (by simp only at h27; omega)) ?_
          refine DL.q rfl (.yes rfl rfl rfl) rfl rfl rfl (Yld.loadN (cs := [.string x.name, .string x.value]) a46 rfl (atNM (fun j u hj => hg03.cell (hc2 j u hj) (fun h => h)) (id))) (Mod.drew _ _) ?_
          refine DL.qf rfl (.yes rfl rfl rfl) rfl rfl (Yld.eqPair pair46 rfl rfl) ?_
          iterate 2 refine DL.p rfl rfl rfl ?_
          refine DL.done ?_
          refine RK.inBlock ?_
          refine RK.region ?_
          iterate 2 refine RL.p rfl rfl ?_
          refine RL.re (d := 35) rfl rfl (succ_i64 (by simp only at h33; omega)) ?_
          refine RL.p rfl rfl ?_
          refine RL.done ?_
          exact RK.back (ih3 (i + 1, decide (y.name = x.name ∧ y.value = x.value)) _ ⟨hg3.trans (Mod.drew _ _), by simp only at h33 ⊢; omega, by simp only [decide_eq_true_eq]; rw [hti, List.mem_append, List.mem_singleton, lab_eq]; constructor; (intro e; exact .inr e.symm); (rintro (e | e); (rw [hfl.2 e] at h37; cases h37); exact e.symm)⟩ (by simp only at h33 ⊢; omega)) ⟨rfl, rfl, rfl, rfl, rfl, rfl, trivial⟩
      · have hi' : D2.take i = D2 := List.take_of_length_le (by simp only at h33; omega)
        rw [hi'] at hfl
        refine RK.exit rfl ?_
        refine RK.seq ?_
        refine RK.region ?_
        iterate 2 refine RL.p rfl rfl ?_
        refine RL.done ?_
        first | refine RK.condD rfl (fun h56 => ?_) (fun h56 => ?_) | refine RK.condN rfl (fun h56 => ?_) (fun h56 => ?_) | refine RK.cond rfl (fun h56 => ?_) (fun h56 => ?_)
        · have hxn : x ∉ D2 := fun hm => by rw [hfl.2 hm] at h56; cases h56
          have hins : insL D2 x = D2 ++ [x] := if_neg hxn
          have hB3 := h.blk.mod hg03 (fun h => h)
          refine RK.region ?_
          iterate 3 refine RL.p rfl rfl ?_
          refine RL.q (.free rfl) rfl rfl (Yld.fieldAddr fo60_1 rfl) ?_
          refine RL.q (.free rfl) rfl rfl (Yld.load p58 rfl (at1 (hB3.cell rfl))) ?_
          refine RL.p rfl rfl ?_
          refine RL.q (.free rfl) rfl rfl (Yld.indexAddrN u58 i32 rfl rfl (by simp only at h14; omega)) ?_
          refine RL.q (.free rfl) rfl rfl (Yld.fieldAddr fo32_1 rfl) ?_
          refine RL.q (.free rfl) rfl rfl (Yld.load p26 rfl (at1 (hcl _ hg03))) ?_
          refine RL.p rfl rfl ?_
          refine RL.q (.free rfl) rfl rfl (Yld.indexAddrN u26 i46 rfl rfl (by simp only at h27; omega)) ?_
          refine RL.q (.free rfl) rfl rfl (Yld.loadN (cs := [.string x.name, .string x.value]) a46 rfl (atN (fun j u hj => hg03.cell (hc2 j u hj) (fun h => h)))) ?_
          refine RL.op (.free rfl) rfl rfl (Does.slice1 u26 i46 rfl rfl rfl rfl rfl) ?_
          rintro _ w4 ⟨b4, rfl, hn4⟩
          refine RL.op (.free rfl) rfl rfl (Does.append u26 i46 rfl rfl rfl rfl rfl ((hr2.mod hg3 (fun _ _ h => h)).mod hn4.grow (fun _ _ h => h)) (Sl.new hn4 2 1 rfl (by omega) (fun h => h)) (rfl) (by omega)) ?_
          rintro u5 w5 ⟨hr5, hm5, hu5⟩
          refine RL.p rfl rfl ?_
          refine RL.done ?_
          refine RK.inBlock ?_
          refine RK.region ?_
          iterate 2 refine RL.p rfl rfl ?_
          refine RL.re (d := 29) rfl rfl (succ_i64 (by have := hsa.big; simp only at h27; omega)) ?_
          refine RL.p rfl rfl ?_
          refine RL.done ?_
          exact RK.back (ih2 (j + 1, u5) _ ⟨by simp only; rw [htj, hins, List.flatMap_append, List.length_append]; exact hr5, fun b e => by
              have h1 := hg03.size; have h3 := hn4.size
              rcases hu5 with hh | hh
              · rw [hh] at e; exact hfr2 b e
              · rw [hh] at e; cases e; omega
            , (hg03.trans hn4.grow).then hm5 (fun x hx e => by have := hfr2 x e; omega), by simp only at h27 ⊢; omega⟩ (by simp only at h27 ⊢; omega)) ⟨rfl, rfl, rfl, rfl, trivial⟩
        · have hxm : x ∈ D2 := hfl.1 (by simpa using h56)
          have hins : insL D2 x = D2 := if_pos hxm
          refine RK.skip ?_
          refine RK.inBlock ?_
          refine RK.region ?_
          iterate 2 refine RL.p rfl rfl ?_
          refine RL.re (d := 29) rfl rfl (succ_i64 (by have := hsa.big; simp only at h27; omega)) ?_
          refine RL.p rfl rfl ?_
          refine RL.done ?_
          exact RK.back (ih2 (j + 1, .slice adv D2.length cv) _ ⟨by simp only; rw [htj, hins]; exact hr2.mod hg3 (fun _ _ h => h), hfr2, hg03, by simp only at h27 ⊢; omega⟩ (by simp only at h27 ⊢; omega)) ⟨rfl, rfl, rfl, rfl, trivial⟩
    · have hjl : a.ls.take j = a.ls := List.take_of_length_le (by simp only at h27; omega)
      rw [hjl] at hr2
      refine RK.exit rfl ?_
      refine RK.inBlock ?_
      refine RK.region ?_
      iterate 2 refine RL.p rfl rfl ?_
      refine RL.re (d := 16) rfl rfl (succ_i64 (by simp only at h14; omega)) ?_
      refine RL.p rfl rfl ?_
      refine RL.done ?_
      exact RK.back (ih (k + 1, v) _ ⟨by simp only; rw [htk, addL_app, hDe]; exact hr2, hfr2, hg2, by simp only at h14 ⊢; omega⟩ (by simp only at h14 ⊢; omega)) ⟨rfl, rfl, rfl, trivial⟩
  · have ek : al.take k = al := List.take_of_length_le (by simp only at h14; omega)
    rw [ek] at hr
    obtain ⟨adv, cv, rfl⟩ := hr.slice
    refine RK.exit rfl ?_
    refine RK.seq ?_
    refine RK.region ?_
    refine RL.p rfl rfl ?_
    refine RL.q (.free rfl) rfl rfl (Yld.lenSl u26 rfl) ?_
    refine RL.p rfl rfl ?_
    refine RL.done ?_
    refine RK.ret_of Tryz.func39 (res1 rfl rfl) ?_ _
    exact ⟨_, rfl, rfl, hg⟩
end Go.Proofs.YtffbcfcoddacmaaGreat

