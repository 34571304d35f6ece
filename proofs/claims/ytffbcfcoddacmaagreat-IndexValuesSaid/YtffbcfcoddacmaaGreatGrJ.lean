import Derived.Test.YtffbcfcoddacmaaGreatGrG
import Derived.Test.YtffbcfcoddacmaaGreatXD
import Derived.Sort.OwnSorted
import Derived.Test.YtffbcfcoddacmaaGreatGrH
/- An index's values by a name; rows that rise. -/
set_option linter.unusedVariables false
set_option linter.unusedSimpArgs false
set_option maxHeartbeats 1000000
set_option maxRecDepth 100000
namespace Go.Proofs.YtffbcfcoddacmaaGreat
open Go Go.X Go.Sort
abbrev strs (xs : List ByteArray) : List Value := xs.map Value.string
def lst (b : ByteArray) : List UInt8 := b.data.toList
theorem enc_lst (b : ByteArray) : encStr (lst b) = .string b := by
  unfold encStr lst
  simp
theorem enc_map (xs : List ByteArray) : (xs.map lst).map encStr = strs xs := by
  rw [List.map_map]
  exact List.map_congr_left fun b _ => enc_lst b
theorem allOne_strs (xs : List ByteArray) : ((strs xs).all fun x => x.oneCell') = true := by rw [List.all_eq_true]; intro u hu; obtain ⟨x, _, rfl⟩ := List.mem_map.1 hu; rfl
theorem sortStr_ok (xs : List ByteArray) (v : Value) (w : World) (hv : Row w 9 1 v xs.length (strs xs)) (hb : xs.length < 4611686018427387904) :
    Fx Tryz.prog 119 [v] w (fun u w' => u = .tuple #[] ∧ ∃ ys : List ByteArray, ys.Perm xs ∧ (ys.map lst).Pairwise (· ≤ ·) ∧ Row w' 9 1 v xs.length (strs ys) ∧ Mod (fun b => v.ownBlock = some b) w w') := by
  rcases hv.2 with ⟨rfl, h0⟩ | ⟨g, cap, cur, rfl, _, hg, hn, hcap, hcs, htk⟩
  · have : xs = [] := List.eq_nil_of_length_eq_zero h0
    subst this
    refine Calls.mono (Tryz.slices_Sort_string_none none 0 w) ?_
    rintro e w' ⟨rfl, rfl⟩
    exact ⟨_, rfl, rfl, [], .refl _, by simp, Row.nil w' _ _, Mod.refl _ _⟩
  · rw [Nat.mul_one, ← enc_map] at htk
    have hl : (xs.map lst).length = xs.length := by simp
    have hcall := Tryz.slices_Sort_string g 0 cap (xs.map lst) w (holds_of_block hg (by rw [hl]; exact htk)) (Array.getElem?_eq_some_iff.1 hg).1 (by rw [hl]; exact hb)
    rw [hl] at hcall
    refine Calls.mono hcall ?_
    rintro e w' ⟨rfl, n, os, rfl⟩
    have hp : ((xs.map lst).mergeSort fun x y => decide (x ≤ y)).Perm (xs.map lst) := List.mergeSort_perm _ _
    have hlen : ((xs.map lst).mergeSort fun x y => decide (x ≤ y)).length = (xs.map lst).length := hp.length_eq
    have hrow := ownsRow_sorted (ss := xs.map lst) (ts := (xs.map lst).mergeSort fun x y => decide (x ≤ y)) (n := n) (os := os) hlen (Nat.zero_le _) hg (by rw [hl]; exact hn) hcap hcs
    rw [hl] at hrow
    refine ⟨_, rfl, rfl, ((xs.map lst).mergeSort fun x y => decide (x ≤ y)).map fun l => ⟨l.toArray⟩, ?_, ?_, ?_, Mod.grownBy (grownBy_sorted _) (fun k h => by cases h; rfl)⟩
    · have := hp.map fun l : List UInt8 => (⟨l.toArray⟩ : ByteArray)
      rw [List.map_map] at this
      refine this.trans ?_
      rw [List.map_congr_left (g := id) (fun b _ => by simp [lst]), List.map_id]
    · rw [List.map_map, List.map_congr_left (g := id) (fun b _ => by simp [lst]), List.map_id]
      have := List.pairwise_mergeSort (le := fun x y : List UInt8 => decide (x ≤ y)) (fun a b c h1 h2 => by simp only [decide_eq_true_eq] at *; exact List.le_trans h1 h2) (fun a b => by simpa using List.le_total a b) (xs.map lst)
      exact this.imp fun h => by simpa using h
    · have e : strs (((xs.map lst).mergeSort fun x y => decide (x ≤ y)).map fun l => (⟨l.toArray⟩ : ByteArray)) = ((xs.map lst).mergeSort fun x y => decide (x ≤ y)).map encStr := by unfold strs; rw [List.map_map]; rfl
      rw [e]
      exact hrow
theorem bl_lt : ∀ a b : List UInt8, a ≤ b → a ≠ b → Op.bytesLess a b = true
  | [], [], _, h => absurd rfl h
  | [], b :: bs, _, _ => rfl
  | a :: xs, [], h, _ => by simp at h
  | a :: xs, b :: bs, h, hne => by
    simp only [Op.bytesLess, Bool.or_eq_true, decide_eq_true_eq, Bool.and_eq_true, beq_iff_eq]
    rw [List.cons_le_cons_iff] at h
    rcases h with h | ⟨rfl, h⟩
    · exact .inl h
    · exact .inr ⟨rfl, bl_lt xs bs h fun e => hne (by rw [e])⟩
theorem strict_of {ys : List ByteArray} (h : (ys.map lst).Pairwise (· ≤ ·)) (hn : ys.Nodup) : ys.Pairwise fun a b => slt a b = true := by
  rw [List.pairwise_map] at h
  refine (h.and hn).imp fun {a b} h => bl_lt _ _ h.1 fun e => h.2 (data_inj e)
theorem rowsIs_ok (M : Nat → Prop) (xs : List Int) (v : Value) (w : World) (hv : Sl M w v 1 xs.length (ints xs)) (hr : Ris xs) :
    Fx Tryz.prog 66 [v] w (fun u w' => u = .bool true ∧ Grow w w') := by
  obtain ⟨ad, c, rfl⟩ := hv.shape
  have hbig := hv.big
  refine enter Tryz.func66 rfl rfl rfl _ (Pick.sub (l := [0]) (.cons rfl .nil)) ?_
  refine RK.seq ?_
  refine RK.region ?_
  refine RL.p rfl rfl ?_
  refine RL.done ?_
  iterate 2 refine RK.seq ?_
  refine RK.region ?_
  refine RL.p rfl rfl ?_
  refine RL.done ?_
  refine RK.block ?_
  refine RK.loop (fun k : Nat => [(0, .slice ad xs.length c), (3, .int .i64 (k : Int))]) (fun k w' => Grow w w' ∧ 1 ≤ k) (fun k => xs.length - k) 1 ⟨rfl, rfl, trivial⟩ ⟨Mod.refl _ _, by omega⟩ (fun k w' hI ih => ?_)
  obtain ⟨hg, hk⟩ := hI
  iterate 2 refine RK.seq ?_
  refine RK.region ?_
  iterate 2 refine RL.p rfl rfl ?_
  refine RL.q (.free rfl) rfl rfl (Yld.lenSl u22 rfl) ?_
  refine RL.p rfl rfl ?_
  refine RL.done ?_
  first | refine RK.condD rfl (fun h7 => ?_) (fun h7 => ?_) | refine RK.condN rfl (fun h7 => ?_) (fun h7 => ?_) | refine RK.cond rfl (fun h7 => ?_) (fun h7 => ?_)
  · obtain ⟨x, hx⟩ : ∃ x, xs[k]? = some x := ⟨xs[k]'(by omega), List.getElem?_eq_getElem (by omega)⟩
    obtain ⟨y, hy⟩ : ∃ y, xs[k - 1]? = some y := ⟨xs[k - 1]'(by omega), List.getElem?_eq_getElem (by omega)⟩
    obtain ⟨b1, o1, c1', he1, _, _, hc1⟩ := hv.elem1 (k := k) (u := .int .i64 x) (by simp [hx])
    obtain ⟨b2, o2, c2', he2, _, _, hc2⟩ := hv.elem1 (k := k - 1) (u := .int .i64 y) (by simp [hy])
    cases he1
    cases he2
    have hyx : y < x := (List.pairwise_iff_getElem.1 hr) (k - 1) k (List.getElem?_eq_some_iff.1 hy).1 (List.getElem?_eq_some_iff.1 hx).1 (by omega) |> fun h => by rw [(List.getElem?_eq_some_iff.1 hy).2, (List.getElem?_eq_some_iff.1 hx).2] at h; exact h
    refine RK.skip ?_
    refine RK.seq ?_
    refine RK.block ?_
    refine RK.seq ?_
    refine RK.drawM No [(0, false), (1, false), (2, false), (3, false), (4, false), (5, false), (6, false), (7, false), (8, false), (9, false)] [] mixed (by kernel_rfl) ?_
    iterate 2 refine DL.p rfl rfl rfl ?_
    refine DL.qf rfl (.free rfl) rfl rfl (Yld.indexAddrN u22 i3 rfl rfl (by omega)) ?_
    refine DL.q rfl (.free rfl) rfl rfl rfl (Yld.load p3 rfl (atM (hg.cell (hc1 k (.int .i64 x) (by simp [hx])) (fun h => h)) (fun h => h))) (Mod.drew _ _) ?_
    iterate 3 refine DL.p rfl rfl rfl ?_
    refine DL.re (d := 16) rfl rfl (sub_i64 (z := ((k - 1 : Nat) : Int)) (by omega) (by omega) (by omega)) ?_
    refine DL.qf rfl (.free rfl) rfl rfl (Yld.indexAddrN u22 i3 rfl rfl (by omega)) ?_
    refine DL.q rfl (.free rfl) rfl rfl rfl (Yld.load p3 rfl (atM (hg.cell (hc2 (k - 1) (.int .i64 y) (by simp [hy])) (fun h => h)) (fun h => h))) (Mod.drew _ _) ?_
    refine DL.p rfl rfl rfl ?_
    refine DL.done ?_
    refine RK.condF (hcF rfl (decide_eq_false (by omega))) ?_
    refine RK.skip ?_
    refine RK.inBlock ?_
    refine RK.region ?_
    iterate 2 refine RL.p rfl rfl ?_
    refine RL.re (d := 9) rfl rfl (succ_i64 (by omega)) ?_
    refine RL.p rfl rfl ?_
    refine RL.done ?_
    exact RK.back (ih (k + 1) _ ⟨hg.trans (Mod.drew _ _), by omega⟩ (by omega)) ⟨rfl, rfl, trivial⟩
  · refine RK.exit rfl ?_
    refine RK.seq ?_
    refine RK.region ?_
    refine RL.p rfl rfl ?_
    refine RL.done ?_
    refine RK.ret_of Tryz.func66 (res1 rfl rfl) ?_ _
    exact ⟨_, rfl, rfl, hg⟩
end Go.Proofs.YtffbcfcoddacmaaGreat

/- An index's values by a name. -/
set_option linter.unusedVariables false
set_option linter.unusedSimpArgs false
set_option maxHeartbeats 1000000
set_option maxRecDepth 100000
namespace Go.Proofs.YtffbcfcoddacmaaGreat
open Go Go.X
def valsOf {α : Type} (rows : List (LabK × α)) (nm : ByteArray) : List ByteArray := (rows.filter fun t => decide (t.1.1 = nm)).map (·.1.2)
theorem valsOf_map {α β : Type} (f : α → β) (rows : List (LabK × α)) (nm : ByteArray) : valsOf (rows.map fun t => (t.1, f t.2)) nm = valsOf rows nm := by
  induction rows with
  | nil => rfl
  | cons t rows ih =>
    unfold valsOf at *
    simp only [List.map_cons, List.filter_cons]
    split <;> simp [ih]
theorem mem_valsOf {α : Type} {rows : List (LabK × α)} {nm v : ByteArray} : v ∈ valsOf rows nm ↔ (nm, v) ∈ rows.map (·.1) := by
  unfold valsOf
  simp only [List.mem_map, List.mem_filter, decide_eq_true_eq]
  constructor
  · rintro ⟨t, ⟨ht, rfl⟩, rfl⟩
    exact ⟨t, ht, rfl⟩
  · rintro ⟨t, ht, e⟩
    exact ⟨t, ⟨ht, by rw [e]⟩, by rw [e]⟩
theorem valsOf_nodup {α : Type} {rows : List (LabK × α)} (h : (rows.map (·.1)).Nodup) (nm : ByteArray) : (valsOf rows nm).Nodup := by
  unfold valsOf
  have h1 : ((rows.filter fun t => decide (t.1.1 = nm)).map (·.1)).Nodup := h.sublist (List.filter_sublist.map _)
  have h2 : ∀ t ∈ rows.filter fun t => decide (t.1.1 = nm), t.1.1 = nm := fun t ht => by simpa using (List.mem_filter.1 ht).2
  generalize rows.filter (fun t => decide (t.1.1 = nm)) = l at *
  induction l with
  | nil => simp
  | cons t l ih =>
    rw [List.map_cons, List.nodup_cons] at h1 ⊢
    refine ⟨fun hm => h1.1 ?_, ih h1.2 fun t ht => h2 t (by simp [ht])⟩
    obtain ⟨s, hs, e⟩ := List.mem_map.1 hm
    refine List.mem_map.2 ⟨s, hs, ?_⟩
    exact Prod.ext ((h2 s (by simp [hs])).trans (h2 t (by simp)).symm) e
theorem valsOf_erase {α : Type} {rows : List (LabK × α)} {i : Nat} {p : LabK × α} (hp : rows[i]? = some p) (nm : ByteArray) : ((if p.1.1 = nm then [p.1.2] else []) ++ valsOf (rows.eraseIdx i) nm).Perm (valsOf rows nm) := by
  induction rows generalizing i with
  | nil => simp at hp
  | cons t rows ih =>
    cases i with
    | zero =>
      simp at hp; subst hp
      unfold valsOf
      simp only [List.eraseIdx_cons_zero, List.filter_cons]
      by_cases e : t.1.1 = nm <;> simp [e]
    | succ i =>
      simp only [List.getElem?_cons_succ] at hp
      have := ih hp
      unfold valsOf at *
      simp only [List.eraseIdx_cons_succ, List.filter_cons]
      by_cases e : t.1.1 = nm
      · simp only [e, decide_true, if_true, List.map_cons]
        exact List.perm_middle.trans (this.cons _)
      · simp only [e, decide_false, Bool.false_eq_true, if_false]
        exact this
theorem flat_le6 {α β : Type} {f : α → List β} : ∀ {l : List α}, (∀ a ∈ l, (f a).length ≤ 6) → (l.flatMap f).length ≤ 6 * l.length
  | [], _ => by simp
  | a :: l, h => by
    have h1 := flat_le6 (f := f) (l := l) fun b hb => h b (by simp [hb])
    have h2 := h a (by simp)
    simp only [List.flatMap_cons, List.length_append, List.length_cons]
    omega
theorem IM.rows_le {M X : Nat → Prop} {w : World} {ix : Nat} {has : List (Int × List Lab)} {rows : List (LabK × List Int)} (h : IM M X w ix has rows) : rows.length ≤ 6000 := by
  have h1 := h.inv.len (D := addL [] (has.flatMap (·.2))) (addL_nodup _ (by simp)) fun x => by rw [addL_mem]; simp
  have h2 := addL_len (has.flatMap (·.2)) []
  have h3 := flat_le6 (f := fun t : Int × List Lab => t.2) (l := has) fun t ht => (isS_len (h.sets t ht)).2
  have h4 := h.len
  simp only [List.length_nil] at h2
  omega
theorem IM.values {M X : Nat → Prop} {w : World} {ix : Nat} {has : List (Int × List Lab)} {rows : List (LabK × List Int)} (h : IM M X w ix has rows) (nm : ByteArray) :
    Fx Tryz.prog 65 [pp ix, .string nm] w (fun u w' => ∃ vs : List ByteArray, vs.Perm (valsOf rows nm) ∧ (vs.Pairwise fun a b => slt a b = true) ∧ Row w' 9 1 u vs.length (strs vs) ∧ Fresh w.heap.size u ∧ Grow w w') := by
  have hle := h.rows_le
  have hnd := valsOf_nodup h.inv.ok.nd nm
  obtain ⟨mh, mr, h1, h2⟩ := h.at_
  obtain ⟨rr, hr1, hr2, hr3⟩ := h1.rl
  have hvl : valsOf (rr.map fun t => (t.1, t.2.2)) nm = valsOf rows nm := by rw [← hr1, valsOf_map (fun t : List Int × Value => t.2), valsOf_map (fun t : List Int × Value => t.1)]
  have hrl : rr.length = rows.length := by rw [← hr1]; simp
  generalize hl : (rr.map fun t => (t.1, t.2.2)) = l at *
  have hll : l.length = rows.length := by rw [← hl]; simp [hrl]
  have hvle : (valsOf rows nm).length ≤ 6000 := by unfold valsOf; rw [List.length_map]; exact Nat.le_trans (List.length_filter_le _ _) hle
  have hmrl := hr2.lt
  refine enter Tryz.func65 rfl rfl rfl _ (Pick.sub (l := [0, 1]) (.cons rfl (.cons rfl .nil))) ?_
  refine RK.seq ?_
  refine RK.region ?_
  refine RL.p rfl rfl ?_
  refine RL.done ?_
  refine RK.seq ?_
  refine RK.region ?_
  refine RL.p rfl rfl ?_
  refine RL.done ?_
  iterate 2 refine RK.seq ?_
  refine RK.region ?_
  iterate 2 refine RL.p rfl rfl ?_
  refine RL.q (.free rfl) rfl rfl (Yld.fieldAddr fo144_1 rfl) ?_
  refine RL.q (.free rfl) rfl rfl (Yld.load p142 rfl (at1 (h1.blk.cell rfl))) ?_
  refine RL.op (.free rfl) rfl rfl (Does.range Tryz.underlying142 rfl hr2) ?_
  rintro _ w1 ⟨r, rfl, hit, hg1, hrn⟩
  have hne : r ≠ mr := by omega
  refine RL.done ?_
  refine RK.block ?_
  refine RK.loop (fun s : List (LabK × Value) × List ByteArray × Value => [(1, .string nm), (11, pp r), (5, s.2.2)]) (fun s w' => IterAt pairV w' r mr s.1 ∧ Row w' 9 1 s.2.2 s.2.1.length (strs s.2.1) ∧ Fresh w1.heap.size s.2.2 ∧ (s.2.1 ++ valsOf s.1 nm).Perm (valsOf rows nm) ∧ Grow w w' ∧ w1.heap.size ≤ w'.heap.size) (fun s => s.1.length) (l, [], .slice none 0 0) ⟨rfl, rfl, rfl, trivial⟩ ⟨hit, Row.nil _ _ _, fun b hb => by simp [Value.ownBlock] at hb, by simp [hvl], hg1, Nat.le_refl _⟩ (fun s w2 hI ih => ?_)
  obtain ⟨rest, vs, u⟩ := s
  obtain ⟨hit2, hr, hfr, hpm, hg2, hsz2⟩ := hI
  simp only at hit2 hr hfr hpm
  have hr1lt := hit.lt.1
  refine RK.seq ?_
  refine RK.region ?_
  refine RL.op (.free rfl) rfl rfl (Does.next rfl hit2 hne) ?_
  rintro _ w3 ⟨o, rfl, hm3, hno, hyes⟩
  refine RL.q (.free rfl) rfl rfl (Yld.nextOk rfl) ?_
  refine RL.done ?_
  refine RK.seq ?_
  first | refine RK.condD rfl (fun h13 => ?_) (fun h13 => ?_) | refine RK.condN rfl (fun h13 => ?_) (fun h13 => ?_) | refine RK.cond rfl (fun h13 => ?_) (fun h13 => ?_)
  · obtain ⟨p, rfl⟩ := Option.isSome_iff_exists.1 h13
    obtain ⟨i, hpi, hit3, hen3⟩ := hyes p rfl
    have hg3 : Grow w w3 := hg2.then hm3 (fun b hb e => by have e' : b = r := e; omega)
    have hur : ∀ b, u.ownBlock = some b → b ≠ r := fun b e => by have := hfr b e; omega
    have hr3 := hr.mod hm3 (fun b e e2 => hur b e e2)
    have hs3 := hm3.size
    have hvl3 : vs.length ≤ 6000 := by have := hpm.length_eq; simp at this; omega
    refine RK.skip ?_
    refine RK.block ?_
    refine RK.seq ?_
    refine RK.region ?_
    refine RL.q (.free rfl) rfl rfl (Yld.entry rfl (fun w' e => e ▸ hen3)) ?_
    refine RL.p rfl rfl ?_
    refine RL.op (.free rfl) rfl rfl (Does.alloc i46) ?_
    rintro _ w4 ⟨b4, rfl, hn4⟩
    refine RL.op' (.free rfl) rfl (Does.storeN i46 rfl rfl rfl rfl hn4.blk (Nat.le_refl 2)) ?_
    rintro _ w5 ⟨hb5, hm5, _⟩
    have hB5 : Blk w5 b4 46 [.string p.1.1, .string p.1.2] := hb5
    have hg35 : Grow w3 w5 := hn4.grow.then hm5 (fun y hy e => by have e' : y = b4 := e; have := hn4.at_; omega)
    have hlen := List.length_eraseIdx (l := rest) (i := i)
    have hil := (List.getElem?_eq_some_iff.1 hpi).1
    have hper := valsOf_erase hpi nm
    refine RL.done ?_
    refine RK.seq ?_
    refine RK.region ?_
    refine RL.q (.free rfl) rfl rfl (Yld.fieldAddr fo46_0 rfl) ?_
    refine RL.q (.free rfl) rfl rfl (Yld.load p9 rfl (at1 (hB5.cell rfl))) ?_
    iterate 2 refine RL.p rfl rfl ?_
    refine RL.done ?_
    first | refine RK.condD rfl (fun h19 => ?_) (fun h19 => ?_) | refine RK.condN rfl (fun h19 => ?_) (fun h19 => ?_) | refine RK.cond rfl (fun h19 => ?_) (fun h19 => ?_)
    · refine RK.region ?_
      refine RL.p rfl rfl ?_
      refine RL.q (.free rfl) rfl rfl (Yld.fieldAddr fo46_1 rfl) ?_
      refine RL.q (.free rfl) rfl rfl (Yld.load p9 rfl (at1 (hB5.cell rfl))) ?_
      refine RL.op (.free rfl) rfl rfl (Does.slice1 u87 i9 rfl rfl rfl rfl rfl) ?_
      rintro _ w6 ⟨b6, rfl, hn6⟩
      refine RL.op (.free rfl) rfl rfl (Does.append u87 i9 rfl rfl rfl rfl rfl ((hr3.mod hg35 (fun _ _ h => h)).mod hn6.grow (fun _ _ h => h)) (Sl.new hn6 1 1 rfl (by omega) (fun h => h)) (rfl) (by omega)) ?_
      rintro u7 w7 ⟨hr7, hm7, hu7⟩
      have hg36 := hg35.trans hn6.grow
      have hs36 := hg36.size
      have hit6 := hit3.mod hg36 (fun h => h) (fun h => h)
      have hnr : ¬ u.ownBlock = some r := fun e => hur r e rfl
      have hnm : ¬ u.ownBlock = some mr := fun e => by have := hfr mr e; omega
      refine RL.p rfl rfl ?_
      refine RL.done ?_
      refine RK.inBlock ?_
      exact RK.back (ih (rest.eraseIdx i, vs ++ [p.1.2], u7) _ ⟨hit6.mod hm7 hnr hnm, by rw [List.length_append]; show Row _ _ _ _ _ (List.map _ (_ ++ _)); rw [List.map_append]; exact hr7, fun b e => by
          rcases hu7 with hh | hh
          · rw [hh] at e; exact hfr b e
          · rw [hh] at e; cases e; omega
        , by rw [if_pos h19] at hper; simp only [List.append_assoc]; exact (hper.append_left vs).trans hpm, (hg3.trans hg36).then hm7 (fun x hx e => by have h8 := hfr x e; have h9 := hg1.size; omega), by have := hm7.size; omega⟩ (by simp only; rw [hlen, if_pos hil]; omega)) ⟨rfl, rfl, rfl, trivial⟩
    · refine RK.skip ?_
      refine RK.inBlock ?_
      exact RK.back (ih (rest.eraseIdx i, vs, u) _ ⟨hit3.mod hg35 (fun h => h) (fun h => h), hr3.mod hg35 (fun _ _ h => h), hfr, by rw [if_neg h19] at hper; exact (hper.append_left vs).trans hpm, hg3.trans hg35, by have := hg35.size; omega⟩ (by simp only; rw [hlen, if_pos hil]; omega)) ⟨rfl, rfl, rfl, trivial⟩
  · have ho : o = none := by cases o with | none => rfl | some p => simp at h13
    have hrest := hno ho
    subst hrest
    have hpm' : vs.Perm (valsOf rows nm) := by simpa [valsOf] using hpm
    have hg3 : Grow w w3 := hg2.then hm3 (fun b hb e => by have e' : b = r := e; omega)
    have hs3 := hm3.size
    have hr3 := hr.mod hm3 (fun b e e2 => by have e' : b = r := e2; have := hfr b e; omega)
    refine RK.exit rfl ?_
    refine RK.seq ?_
    refine RK.region ?_
    refine RL.p rfl rfl ?_
    refine RL.op (.free rfl) rfl rfl (Does.call rfl e119 (sortStr_ok vs _ _ hr3 (by have := hpm'.length_eq; omega))) ?_
    rintro _ w4 ⟨rfl, ys, hys, hysp, hr4, hm4⟩
    have hyp := hys.trans hpm'
    refine RL.done ?_
    refine RK.seq ?_
    refine RK.region ?_
    iterate 2 refine RL.p rfl rfl ?_
    refine RL.done ?_
    refine RK.ret_of Tryz.func65 (res1 rfl rfl) ?_ _
    exact ⟨_, rfl, ys, hyp, strict_of hysp (hyp.nodup_iff.2 hnd), by rw [hys.length_eq]; exact hr4, fun b e => by have h8 := hfr b e; have h9 := hg1.size; omega, hg3.then hm4 (fun x hx e => by have h8 := hfr x e; have h9 := hg1.size; omega)⟩
end Go.Proofs.YtffbcfcoddacmaaGreat

/- IndexValues, walked. -/
set_option linter.unusedVariables false
set_option linter.unusedSimpArgs false
set_option maxHeartbeats 2000000
set_option maxRecDepth 100000
namespace Go.Proofs.YtffbcfcoddacmaaGreat
open Go Go.X

def nm6 : List ByteArray := nmL ++ [⟨#[110, 111, 110, 101]⟩]
theorem nm6_nodup : nm6.Nodup := by decide
theorem sum_vals {α : Type} {rows : List (LabK × α)} : ∀ {L : List ByteArray}, L.Nodup → (∀ t ∈ rows, t.1.1 ∈ L) → ((L.map fun nm => (valsOf rows nm).length).sum) = rows.length := by
  induction rows with
  | nil =>
    intro L _ _
    have : ∀ L : List ByteArray, (L.map fun _ => 0).sum = 0 := by intro L; induction L <;> simp_all
    exact this L
  | cons t rows ih =>
    intro L hL hm
    have h1 := ih hL fun s hs => hm s (by simp [hs])
    have h2 : (L.map fun nm => (valsOf (t :: rows) nm).length) = L.map fun nm => (if t.1.1 = nm then 1 else 0) + (valsOf rows nm).length := by
      refine List.map_congr_left fun nm _ => ?_
      unfold valsOf
      simp only [List.filter_cons]
      by_cases e : t.1.1 = nm
      · simp [e]; omega
      · simp [e]
    have h3 : ∀ (L : List ByteArray), (L.map fun nm => (if t.1.1 = nm then 1 else 0) + (valsOf rows nm).length).sum = (L.map fun nm => if t.1.1 = nm then 1 else 0).sum + (L.map fun nm => (valsOf rows nm).length).sum := by
      intro L
      induction L with
      | nil => rfl
      | cons a L ih => simp only [List.map_cons, List.sum_cons, ih]; omega
    have h4 : ∀ (L : List ByteArray), L.Nodup → (t.1.1 ∈ L → (L.map fun nm => if t.1.1 = nm then 1 else 0).sum = 1) ∧ (t.1.1 ∉ L → (L.map fun nm => if t.1.1 = nm then 1 else 0).sum = 0) := by
      intro L hn
      induction L with
      | nil => simp
      | cons a L ih =>
        rw [List.nodup_cons] at hn
        obtain ⟨i1, i2⟩ := ih hn.2
        simp only [List.map_cons, List.sum_cons, List.mem_cons]
        constructor
        · intro hm
          by_cases e : t.1.1 = a
          · have := i2 (e ▸ hn.1)
            rw [if_pos e, this]
          · rw [if_neg e, i1 (hm.resolve_left e)]
        · intro hm
          rw [if_neg (fun e => hm (.inl e)), i2 (fun h => hm (.inr h))]
    rw [h2, h3, (h4 L hL).1 (hm t (by simp)), h1, List.length_cons]
    omega
theorem rows_names {l : List Sp} {rows : List (LabK × List Int)} (h : IxI (hasOf (foldP l)) rows) : ∀ t ∈ rows, t.1.1 ∈ nm6 := fun t ht => by
  obtain ⟨s, hs, x, hx, e⟩ := (h.keys t.1).1 (List.mem_map_of_mem (f := Prod.fst) ht)
  obtain ⟨a, ha, rfl⟩ := List.mem_map.1 hs
  have := (foldP_raw l a ha x hx).1
  rw [← e]
  exact List.mem_append_left _ this
/-- Who has a label of that name. -/
def haveS (al : List Al) (nm : ByteArray) : List Int := (al.filter fun a => decide (getL a.ls nm ≠ ByteArray.empty)).map (·.id)
theorem have_snoc {al : List Al} {j : Nat} {a : Al} (h : al[j]? = some a) (nm : ByteArray) : haveS (al.take (j + 1)) nm = haveS (al.take j) nm ++ (if getL a.ls nm = ByteArray.empty then [] else [a.id]) := by
  have hj := (List.getElem?_eq_some_iff.1 h).1
  unfold haveS
  rw [List.take_succ_eq_append_getElem hj, (List.getElem?_eq_some_iff.1 h).2, List.filter_append, List.map_append]
  by_cases e : getL a.ls nm = ByteArray.empty <;> simp [e]
theorem mem_mkRow' {xs : List Int} {x : Int} : x ∈ mkRow xs ↔ x ∈ xs := mem_mkRow
theorem have_all {al : List Al} {rows : List (LabK × List Int)} (h : IxI (hasOf (al.map pub)) rows) (hs : ∀ a ∈ al, isS a.ls = true) (hv : ∀ a ∈ al, ∀ y ∈ a.ls, y.value ≠ ByteArray.empty) {nm : ByteArray} {vs : List ByteArray} (hvs : vs.Perm (valsOf rows nm)) {A : List Int} (hA : Ris A) (hm : ∀ x, x ∈ A ↔ ∃ v ∈ vs, x ∈ (lookM rows (nm, v)).getD []) : A = rise (haveS al nm) := by
  refine ext_ris hA (rise_ris _) fun id => ?_
  rw [hm, mem_rise]
  unfold haveS
  constructor
  · rintro ⟨v, _, hid⟩
    obtain ⟨ls, hl, x, hx, e⟩ := (h.mem _ _).1 hid
    obtain ⟨t, ht, e2⟩ := List.mem_map.1 hl
    obtain ⟨a, ha, rfl⟩ := List.mem_map.1 ht
    simp only [pub, Prod.mk.injEq] at e2
    obtain ⟨rfl, rfl⟩ := e2
    have hne := hv a ha x hx
    have := (getL_has (hs a ha) hne).2 ⟨x, hx, rfl⟩
    simp only [labK, Prod.mk.injEq] at e
    refine List.mem_map.2 ⟨a, List.mem_filter.2 ⟨ha, ?_⟩, rfl⟩
    rw [← e.1]
    simpa [labK, this] using hne
  · intro hmm
    obtain ⟨a, ha, rfl⟩ := List.mem_map.1 hmm
    obtain ⟨ha1, ha2⟩ := List.mem_filter.1 ha
    have hne : getL a.ls nm ≠ ByteArray.empty := by simpa using ha2
    obtain ⟨x, hx, e⟩ := (getL_has (hs a ha1) hne).1 rfl
    have hid : a.id ∈ (lookM rows (nm, getL a.ls nm)).getD [] := (h.mem _ _).2 ⟨a.ls, List.mem_map.2 ⟨pub a, List.mem_map_of_mem (f := pub) ha1, rfl⟩, x, hx, e⟩
    refine ⟨getL a.ls nm, ?_, hid⟩
    rw [hvs.mem_iff, mem_valsOf]
    refine Classical.byContradiction fun hk => ?_
    rw [lookM_none.2 hk] at hid
    cases hid
theorem ivalues_ok (l : List Sp) (vl : Value) (w : World) (hl : Sl No w vl 3 l.length (l.flatMap spC)) (hx : ∀ x ∈ l, x.Ok w) :
    Fx Tryz.prog 15 [vl] w (fun u w' => u = .bool true ∧ Grow w w') := by
  have hl0 := hl
  obtain ⟨adl, cl, rfl⟩ := hl.shape
  refine enter Tryz.func15 rfl rfl rfl _ (Pick.sub (l := [0]) (.cons rfl .nil)) ?_
  refine RK.seq ?_
  refine RK.region ?_
  refine RL.p rfl rfl ?_
  refine RL.done ?_
  iterate 2 refine RK.seq ?_
  refine RK.region ?_
  refine RL.p rfl rfl ?_
  refine RL.q (.free rfl) rfl rfl (Yld.lenSl u65 rfl) ?_
  refine RL.p rfl rfl ?_
  refine RL.done ?_
  first | refine RK.condD rfl (fun h17 => ?_) (fun h17 => ?_) | refine RK.condN rfl (fun h17 => ?_) (fun h17 => ?_) | refine RK.cond rfl (fun h17 => ?_) (fun h17 => ?_)
  · refine RK.seq ?_
    refine RK.region ?_
    refine RL.op (.free rfl) rfl rfl (Does.call rfl e4 (iruns_ok _)) ?_
    rintro _ w2 ⟨rfl, hg2⟩
    refine RL.p rfl rfl ?_
    refine RL.done ?_
    refine RK.ret_of Tryz.func15 (res1 rfl rfl) ?_ _
    exact ⟨_, rfl, rfl, hg2⟩
  · refine RK.skip ?_
    refine RK.seq ?_
    refine RK.region ?_
    refine RL.p rfl rfl ?_
    refine RL.op (.free rfl) rfl rfl (Does.call rfl e40 (built_ok l _ _ hl0 hx (by omega))) ?_
    rintro _ w3 ⟨ix, M, rows, v, al, rfl, hj, hal, hbd⟩
    have hlen : al.length ≤ 60 := by have h1 := foldP_len l; have h2 := congrArg List.length hal; simp at h1 h2; omega
    have hsets : ∀ a ∈ al, isS a.ls = true := fun a ha => hj.im.sets (a.id, a.ls) (List.mem_map.2 ⟨pub a, List.mem_map_of_mem (f := pub) ha, rfl⟩)
    have hvals : ∀ a ∈ al, ∀ y ∈ a.ls, y.value ≠ ByteArray.empty := fun a ha y hy => (vlL_ok _ (foldP_raw l (pub a) (by rw [← hal]; exact List.mem_map_of_mem (f := pub) ha) y hy).2).2
    have hsl : Sl No w3 v 3 al.length (al.flatMap alC) := Sl.own hj.row (fun _ _ h => h)
    obtain ⟨adv, cv, hv⟩ := hj.row.slice
    have hslN : ∀ a ∈ al, SlL No w3 a.v a.ls := fun a ha => (hj.sls a ha).noM
    have him := hj.im
    have hnames := rows_names (l := l) (rows := rows) (hal ▸ hj.im.inv)
    have hgw3 := hj.grow
    clear hj
    subst hv
    have hrle := him.rows_le
    iterate 7 refine RL.p rfl rfl ?_
    refine RL.done ?_
    iterate 2 refine RK.seq ?_
    refine RK.region ?_
    iterate 2 refine RL.p rfl rfl ?_
    refine RL.done ?_
    refine RK.condF (hcF rfl (rfl)) ?_
    refine RK.skip ?_
    refine RK.seq ?_
    refine RK.region ?_
    refine RL.op (.free rfl) rfl rfl (Does.bslice (el := 9) ([.string ⟨#[115, 101, 118]⟩, .string ⟨#[106, 111, 98]⟩, .string ⟨#[104, 111, 115, 116]⟩, .string ⟨#[95, 120]⟩, .string ⟨#[90, 111, 110, 101, 57]⟩, .string ⟨#[110, 111, 110, 101]⟩]) rfl (fun w => by kernel_rfl)) ?_
    rintro _ w4 ⟨b6, rfl, hn6⟩
    have hB6 : Blk w4 b6 9 (strs nm6) := hn6.blk
    have hg34 := hn6.grow
    refine RL.p rfl rfl ?_
    refine RL.done ?_
    refine RK.seq ?_
    refine RK.region ?_
    refine RL.p rfl rfl ?_
    refine RL.done ?_
    iterate 2 refine RK.seq ?_
    refine RK.region ?_
    refine RL.p rfl rfl ?_
    refine RL.done ?_
    refine RK.block ?_
    refine RK.loop (fun s : Nat × Nat => [(3, pp ix), (4, .slice adv al.length cv), (6, .slice (some ⟨b6, 0, none⟩) 6 6), (7, .int .i64 (s.2 : Int)), (8, .int .i64 (s.1 : Int))]) (fun s w' => Grow w4 w' ∧ s.1 ≤ 6 ∧ s.2 = ((nm6.take s.1).map fun nm => (valsOf rows nm).length).sum ∧ s.2 ≤ 6000 * s.1) (fun s => 6 - s.1) (0, 0) ⟨rfl, rfl, rfl, rfl, rfl, trivial⟩ ⟨Mod.refl _ _, by simp, by simp, by simp⟩ (fun s w5 hI ih => ?_)
    obtain ⟨i, n⟩ := s
    obtain ⟨hg45, hi, hn, hn6b⟩ := hI
    simp only at hi hn hn6b
    iterate 2 refine RK.seq ?_
    refine RK.region ?_
    iterate 2 refine RL.p rfl rfl ?_
    refine RL.q (.free rfl) rfl rfl (Yld.lenSl u87 rfl) ?_
    refine RL.p rfl rfl ?_
    refine RL.done ?_
    first | refine RK.condD rfl (fun h31 => ?_) (fun h31 => ?_) | refine RK.condN rfl (fun h31 => ?_) (fun h31 => ?_) | refine RK.cond rfl (fun h31 => ?_) (fun h31 => ?_)
    · have hi6 : i < nm6.length := by simp only at h31; have : nm6.length = 6 := rfl; omega
      obtain ⟨nm, hnm⟩ : ∃ nm, nm6[i]? = some nm := ⟨_, List.getElem?_eq_getElem hi6⟩
      have htk : nm6.take (i + 1) = nm6.take i ++ [nm] := by rw [List.take_succ_eq_append_getElem hi6, (List.getElem?_eq_some_iff.1 hnm).2]
      have hcn : ∀ w', Grow w4 w' → w'.cell? ⟨b6, 0 + i * 1, none⟩ = some (.string nm) := fun w' hg => hg.cell (hB6.at1 (by simp [hnm])) (fun h => h)
      refine RK.skip ?_
      refine RK.seq ?_
      refine RK.block ?_
      refine RK.seq ?_
      refine RK.region ?_
      iterate 3 refine RL.p rfl rfl ?_
      refine RL.q (.free rfl) rfl rfl (Yld.indexAddrN u87 i9 rfl rfl (by simp only at h31; omega)) ?_
      refine RL.q (.free rfl) rfl rfl (Yld.load p9 rfl (at1 (hcn _ hg45))) ?_
      refine RL.op (.free rfl) rfl rfl (Does.call rfl e65 ((him.grow (hg34.trans hg45)).values nm)) ?_
      rintro u9 w6 ⟨vs, hvs, hvp, hr9, hf9, hg56⟩
      have hvl : vs.length ≤ 6000 := by rw [hvs.length_eq]; unfold valsOf; rw [List.length_map]; exact Nat.le_trans (List.length_filter_le _ _) hrle
      obtain ⟨ad9, c9, rfl⟩ := hr9.slice
      have hs9 : Sl No w6 (.slice ad9 vs.length c9) 1 vs.length (strs vs) := Sl.own hr9 (fun _ _ h => h)
      have hg46 := hg45.trans hg56
      refine RL.p rfl rfl ?_
      refine RL.done ?_
      refine RK.seq ?_
      refine RK.region ?_
      refine RL.p rfl rfl ?_
      refine RL.done ?_
      iterate 2 refine RK.seq ?_
      refine RK.region ?_
      refine RL.p rfl rfl ?_
      refine RL.done ?_
      refine RK.block ?_
      refine RK.loop (fun s : Nat × List Int × Value => [(3, pp ix), (4, .slice adv al.length cv), (6, .slice (some ⟨b6, 0, none⟩) 6 6), (7, .int .i64 ((n + s.1 : Nat) : Int)), (8, .int .i64 (i : Int)), (9, .slice ad9 vs.length c9), (10, s.2.2), (11, .int .i64 (s.1 : Int))]) (fun s w' => Grow w6 w' ∧ s.1 ≤ vs.length ∧ Row w' 3 1 s.2.2 s.2.1.length (ints s.2.1) ∧ Ris s.2.1 ∧ s.2.1.length ≤ 6000 * s.1 ∧ ∀ x, x ∈ s.2.1 ↔ ∃ v ∈ vs.take s.1, x ∈ (lookM rows (nm, v)).getD []) (fun s => vs.length - s.1) (0, [], .slice none 0 0) ⟨rfl, rfl, rfl, rfl, rfl, rfl, rfl, rfl, trivial⟩ ⟨Mod.refl _ _, by omega, Row.nil _ _ _, by simp, by simp, by simp⟩ (fun s w7 hI2 ih2 => ?_)
      obtain ⟨j, A, u⟩ := s
      obtain ⟨hg67, hj, hr, hA, hAl, hAm⟩ := hI2
      simp only at hj hr hA hAl hAm
      have hg47 := hg46.trans hg67
      iterate 2 refine RK.seq ?_
      refine RK.region ?_
      iterate 2 refine RL.p rfl rfl ?_
      refine RL.q (.free rfl) rfl rfl (Yld.lenSl u87 rfl) ?_
      refine RL.p rfl rfl ?_
      refine RL.done ?_
      first | refine RK.condD rfl (fun h43 => ?_) (fun h43 => ?_) | refine RK.condN rfl (fun h43 => ?_) (fun h43 => ?_) | refine RK.cond rfl (fun h43 => ?_) (fun h43 => ?_)
      · have hj' : j < vs.length := by simp only at h43; omega
        obtain ⟨x, hxv⟩ : ∃ x, vs[j]? = some x := ⟨_, List.getElem?_eq_getElem hj'⟩
        have htv : vs.take (j + 1) = vs.take j ++ [x] := by rw [List.take_succ_eq_append_getElem hj', (List.getElem?_eq_some_iff.1 hxv).2]
        obtain ⟨b9, o9, c9', he9, _, _, hc9⟩ := hs9.elem1 (k := j) (u := .string x) (by simp [hxv])
        cases he9
        have hcx := hc9 j (.string x) (by simp [hxv])
        have hkey : (nm, x) ∈ rows.map (·.1) := by rw [← mem_valsOf, ← hvs.mem_iff]; exact List.mem_of_getElem? hxv
        obtain ⟨row, hrow⟩ : ∃ row, lookM rows (nm, x) = some row := by
            cases hlk : lookM rows (nm, x) with
            | none => exact absurd hkey (lookM_none.1 hlk)
            | some row => exact ⟨row, rfl⟩
        have hrok := him.inv.ok.row _ (lookM_mem hrow)
        have hrbd := hbd _ (lookM_mem hrow)
        simp only at hrok hrbd
        refine RK.skip ?_
        refine RK.seq ?_
        refine RK.block ?_
        refine RK.seq ?_
        refine RK.drawM No [(0, false), (1, false), (2, false), (3, false), (4, false), (5, false), (6, false), (7, false), (8, false), (9, true), (10, false)] [] mixed (by kernel_rfl) ?_
        iterate 3 refine DL.p rfl rfl rfl ?_
        refine DL.qf rfl (.free rfl) rfl rfl (Yld.indexAddrN u87 i9 rfl rfl (by simp only at h31; omega)) ?_
        refine DL.q rfl (.free rfl) rfl rfl rfl (Yld.load p9 rfl (atM (hcn _ hg47) (fun h => h))) (Mod.drew _ _) ?_
        iterate 2 refine DL.p rfl rfl rfl ?_
        refine DL.qf rfl (.free rfl) rfl rfl (Yld.indexAddrN u87 i9 rfl rfl (by omega)) ?_
        refine DL.q rfl (.free rfl) rfl rfl rfl (Yld.load p9 rfl (atM (hg67.cell hcx (fun h => h)) (fun h => h))) (Mod.drew _ _) ?_
        refine DL.op rfl (.free rfl) rfl rfl (Does.call rfl e45 (((him.grow (hg34.trans hg47)).grow (Mod.drew _ _)).posting nm x)) ?_
        rintro u12 w8 ⟨hr12, hf12, hg78⟩
        rw [hrow] at hr12
        simp only [Option.getD_some] at hr12
        refine ⟨(Mod.drew _ _).trans hg78, ?_⟩
        have hg68 := (hg67.trans (Mod.drew _ _)).trans hg78
        obtain ⟨ad12, c12, rfl⟩ := hr12.slice
        refine DL.p rfl rfl rfl ?_
        refine DL.done ?_
        iterate 2 refine RK.seq ?_
        refine RK.drawM No [(0, false), (1, false), (2, false), (3, false), (4, false), (5, false), (6, false), (7, false), (8, false), (9, false), (10, false), (11, false), (12, false), (13, false), (14, false), (15, false), (16, false), (17, false), (18, false), (19, false), (20, false), (21, true), (22, false), (23, false)] [] mixed (by kernel_rfl) ?_
        iterate 3 refine DL.p rfl rfl rfl ?_
        first | refine DL.splitD (d := 58) rfl rfl (fun h57 => ?_) (fun h57 => ?_) | refine DL.splitN (d := 58) rfl rfl (fun h57 => ?_) (fun h57 => ?_) | refine DL.split (d := 58) rfl rfl (fun h57 => ?_) (fun h57 => ?_)
        · obtain ⟨y, hyv⟩ : ∃ y, vs[j - 1]? = some y := ⟨vs[j - 1]'(by omega), List.getElem?_eq_getElem (by omega)⟩
          have hcy := hc9 (j - 1) (.string y) (by simp [hyv])
          have hyx : slt y x = true := by
              have h9 := (List.pairwise_iff_getElem.1 hvp) (j - 1) j (by omega) hj' (by omega)
              rwa [(List.getElem?_eq_some_iff.1 hyv).2, (List.getElem?_eq_some_iff.1 hxv).2] at h9
          iterate 2 refine DL.qf rfl (.yes rfl rfl rfl) rfl rfl (Yld.pure rfl) ?_
          refine DL.qf rfl (.yes rfl rfl rfl) rfl rfl (Yld.indexAddrN u87 i9 rfl rfl (by omega)) ?_
          refine DL.q rfl (.yes rfl rfl rfl) rfl rfl rfl (Yld.load p9 rfl (atM (hg68.cell hcx (fun h => h)) (fun h => h))) (Mod.drew _ _) ?_
          iterate 3 refine DL.qf rfl (.yes rfl rfl rfl) rfl rfl (Yld.pure rfl) ?_
          refine DL.re (d := 65) rfl rfl (sub_i64 (z := ((j - 1 : Nat) : Int)) (by omega) (by omega) (by omega)) ?_
          refine DL.qf rfl (.yes rfl rfl rfl) rfl rfl (Yld.indexAddrN u87 i9 rfl rfl (by omega)) ?_
          refine DL.q rfl (.yes rfl rfl rfl) rfl rfl rfl (Yld.load p9 rfl (atM (hg68.cell hcy (fun h => h)) (fun h => h))) (Mod.drew _ _) ?_
          refine DL.qf rfl (.yes rfl rfl rfl) rfl rfl (Yld.pure rfl) ?_
          iterate 2 refine DL.p rfl rfl rfl ?_
          refine DL.knownF (d := 70) rfl rfl (by rw [sle_not, hyx]; rfl) ?_
          refine DL.qf rfl (.yes rfl rfl rfl) rfl rfl (Yld.pure rfl) ?_
          refine DL.q rfl (.yes rfl rfl rfl) rfl rfl rfl (Yld.lenSl u22 rfl) (Mod.drew _ _) ?_
          refine DL.qf rfl (.yes rfl rfl rfl) rfl rfl (Yld.pure rfl) ?_
          iterate 2 refine DL.p rfl rfl rfl ?_
          refine DL.knownF (d := 75) rfl rfl (decide_eq_false (by have := hrok.2; cases row with | nil => exact absurd rfl this | cons a b => simp; omega)) ?_
          refine DL.qf rfl (.yes rfl rfl rfl) rfl rfl (Yld.pure rfl) ?_
          refine DL.op rfl (.yes rfl rfl rfl) rfl rfl (Does.call rfl e66 (rowsIs_ok No row _ _ (Sl.own (hr12.mod (Mod.drew _ _) (fun _ _ h => h)) (fun _ _ h => h)) hrok.1)) ?_
          rintro _ w9 ⟨rfl, hg89⟩
          refine ⟨(Mod.drew _ _).trans hg89, ?_⟩
          refine DL.qf rfl (.yes rfl rfl rfl) rfl rfl (Yld.pure rfl) ?_
          refine DL.p rfl rfl rfl ?_
          refine DL.done ?_
          refine RK.condF (hcF rfl (rfl)) ?_
          have hg8' : Grow w8 w9 := (Mod.drew _ _).trans hg89
          have hg69 := hg68.trans hg8'
          have hA9 := hr.mod (((Mod.drew No w7).trans hg78).trans hg8') (fun _ _ h => h)
          refine RK.skip ?_
          refine RK.seq ?_
          refine RK.region ?_
          iterate 2 refine RL.p rfl rfl ?_
          refine RL.op (.free rfl) rfl rfl (Does.call rfl e67 (or_ok No A row _ _ _ (Sl.own hA9 (fun _ _ h => h)) (Sl.own (hr12.mod hg8' (fun _ _ h => h)) (fun _ _ h => h)) (by omega))) ?_
          rintro u13 w10 ⟨hr13, hf13, hg910⟩
          refine RL.p rfl rfl ?_
          refine RL.done ?_
          refine RK.region ?_
          iterate 2 refine RL.p rfl rfl ?_
          refine RL.re (d := 84) rfl rfl (add_i64 (z := ((n + (j + 1) : Nat) : Int)) (by omega) (by omega) (by omega)) ?_
          refine RL.p rfl rfl ?_
          refine RL.done ?_
          refine RK.inBlock ?_
          refine RK.region ?_
          iterate 2 refine RL.p rfl rfl ?_
          refine RL.re (d := 45) rfl rfl (succ_i64 (by omega)) ?_
          refine RL.p rfl rfl ?_
          refine RL.done ?_
          exact RK.back (ih2 (j + 1, mkRow (A ++ row), u13) _ ⟨hg69.trans hg910, by simp only; omega, hr13, mkRow_ris _, by
              have h8 : (mkRow (A ++ row)).length ≤ (A ++ row).length := by unfold mkRow; exact Nat.le_trans (compact_le _) (by rw [sortI_len]; exact Nat.le_refl _)
              rw [List.length_append] at h8
              simp only; omega, fun z => by
              simp only
              rw [mem_mkRow', List.mem_append, hAm, htv]
              constructor
              · rintro (⟨v, hv1, hv2⟩ | h1)
                · exact ⟨v, List.mem_append_left _ hv1, hv2⟩
                · exact ⟨x, by simp, by rw [hrow]; exact h1⟩
              · rintro ⟨v, hv1, hv2⟩
                rcases List.mem_append.1 hv1 with h1 | h1
                · exact .inl ⟨v, h1, hv2⟩
                · simp at h1; subst h1; rw [hrow] at hv2; exact .inr hv2⟩ (by simp only; omega)) ⟨rfl, rfl, rfl, rfl, rfl, rfl, rfl, rfl, trivial⟩
        · iterate 10 refine DL.no rfl (.no rfl rfl rfl rfl) rfl rfl ?_
          iterate 2 refine DL.p rfl rfl rfl ?_
          refine DL.qf rfl (.yes rfl rfl rfl) rfl rfl (Yld.pure rfl) ?_
          refine DL.q rfl (.yes rfl rfl rfl) rfl rfl rfl (Yld.lenSl u22 rfl) (Mod.drew _ _) ?_
          refine DL.qf rfl (.yes rfl rfl rfl) rfl rfl (Yld.pure rfl) ?_
          iterate 2 refine DL.p rfl rfl rfl ?_
          refine DL.knownF (d := 75) rfl rfl (decide_eq_false (by have := hrok.2; cases row with | nil => exact absurd rfl this | cons a b => simp; omega)) ?_
          refine DL.qf rfl (.yes rfl rfl rfl) rfl rfl (Yld.pure rfl) ?_
          refine DL.op rfl (.yes rfl rfl rfl) rfl rfl (Does.call rfl e66 (rowsIs_ok No row _ _ (Sl.own (hr12.mod (Mod.drew _ _) (fun _ _ h => h)) (fun _ _ h => h)) hrok.1)) ?_
          rintro _ w9 ⟨rfl, hg89⟩
          refine ⟨(Mod.drew _ _).trans hg89, ?_⟩
          refine DL.qf rfl (.yes rfl rfl rfl) rfl rfl (Yld.pure rfl) ?_
          refine DL.p rfl rfl rfl ?_
          refine DL.done ?_
          refine RK.condF (hcF rfl (rfl)) ?_
          have hg8' : Grow w8 w9 := (Mod.drew _ _).trans hg89
          have hg69 := hg68.trans hg8'
          have hA9 := hr.mod (((Mod.drew No w7).trans hg78).trans hg8') (fun _ _ h => h)
          refine RK.skip ?_
          refine RK.seq ?_
          refine RK.region ?_
          iterate 2 refine RL.p rfl rfl ?_
          refine RL.op (.free rfl) rfl rfl (Does.call rfl e67 (or_ok No A row _ _ _ (Sl.own hA9 (fun _ _ h => h)) (Sl.own (hr12.mod hg8' (fun _ _ h => h)) (fun _ _ h => h)) (by omega))) ?_
          rintro u13 w10 ⟨hr13, hf13, hg910⟩
          refine RL.p rfl rfl ?_
          refine RL.done ?_
          refine RK.region ?_
          iterate 2 refine RL.p rfl rfl ?_
          refine RL.re (d := 84) rfl rfl (add_i64 (z := ((n + (j + 1) : Nat) : Int)) (by omega) (by omega) (by omega)) ?_
          refine RL.p rfl rfl ?_
          refine RL.done ?_
          refine RK.inBlock ?_
          refine RK.region ?_
          iterate 2 refine RL.p rfl rfl ?_
          refine RL.re (d := 45) rfl rfl (succ_i64 (by omega)) ?_
          refine RL.p rfl rfl ?_
          refine RL.done ?_
          exact RK.back (ih2 (j + 1, mkRow (A ++ row), u13) _ ⟨hg69.trans hg910, by simp only; omega, hr13, mkRow_ris _, by
              have h8 : (mkRow (A ++ row)).length ≤ (A ++ row).length := by unfold mkRow; exact Nat.le_trans (compact_le _) (by rw [sortI_len]; exact Nat.le_refl _)
              rw [List.length_append] at h8
              simp only; omega, fun z => by
              simp only
              rw [mem_mkRow', List.mem_append, hAm, htv]
              constructor
              · rintro (⟨v, hv1, hv2⟩ | h1)
                · exact ⟨v, List.mem_append_left _ hv1, hv2⟩
                · exact ⟨x, by simp, by rw [hrow]; exact h1⟩
              · rintro ⟨v, hv1, hv2⟩
                rcases List.mem_append.1 hv1 with h1 | h1
                · exact .inl ⟨v, h1, hv2⟩
                · simp at h1; subst h1; rw [hrow] at hv2; exact .inr hv2⟩ (by simp only; omega)) ⟨rfl, rfl, rfl, rfl, rfl, rfl, rfl, rfl, trivial⟩
      · have ej : vs.take j = vs := List.take_of_length_le (by simp only at h43; omega)
        rw [ej] at hAm
        have hjv : j = vs.length := by simp only at h43; omega
        have hall := have_all him.inv hsets hvals hvs hA hAm
        have hgw7 : Grow w3 w7 := hg34.trans hg47
        refine RK.exit rfl ?_
        refine RK.seq ?_
        refine RK.region ?_
        refine RL.p rfl rfl ?_
        refine RL.done ?_
        iterate 2 refine RK.seq ?_
        refine RK.region ?_
        refine RL.p rfl rfl ?_
        refine RL.done ?_
        refine RK.block ?_
        refine RK.loop (fun s : Nat × Value => [(3, pp ix), (4, .slice adv al.length cv), (6, .slice (some ⟨b6, 0, none⟩) 6 6), (7, .int .i64 ((n + j : Nat) : Int)), (8, .int .i64 (i : Int)), (10, u), (13, s.2), (14, .int .i64 (s.1 : Int))]) (fun s w' => Grow w7 w' ∧ Row w' 3 1 s.2 (haveS (al.take s.1) nm).length (ints (haveS (al.take s.1) nm)) ∧ Fresh w7.heap.size s.2 ∧ s.1 ≤ al.length) (fun s => al.length - s.1) (0, .slice none 0 0) ⟨rfl, rfl, rfl, rfl, rfl, rfl, rfl, rfl, trivial⟩ ⟨Mod.refl _ _, by simpa [haveS] using Row.nil _ _ _, fun b hb => by simp [Value.ownBlock] at hb, by omega⟩ (fun s w8 hI3 ih3 => ?_)
        obtain ⟨k, t⟩ := s
        obtain ⟨hg78, hrt, hft, hk⟩ := hI3
        simp only at hrt hft hk
        have hg38 := hgw7.trans hg78
        iterate 2 refine RK.seq ?_
        refine RK.region ?_
        iterate 2 refine RL.p rfl rfl ?_
        refine RL.q (.free rfl) rfl rfl (Yld.lenSl u58 rfl) ?_
        refine RL.p rfl rfl ?_
        refine RL.done ?_
        first | refine RK.condD rfl (fun h88 => ?_) (fun h88 => ?_) | refine RK.condN rfl (fun h88 => ?_) (fun h88 => ?_) | refine RK.cond rfl (fun h88 => ?_) (fun h88 => ?_)
        · have hk' : k < al.length := by simp only at h88; omega
          obtain ⟨a, ha⟩ : ∃ a, al[k]? = some a := ⟨_, List.getElem?_eq_getElem hk'⟩
          obtain ⟨b3, o3, c3', he3, _, _, hc3⟩ := hsl.elem alC_len ha
          cases he3
          have hsla := hslN a (List.mem_of_getElem? ha)
          have hsn := have_snoc ha nm
          have hwl : (haveS (al.take k) nm).length ≤ k := by unfold haveS; rw [List.length_map]; exact Nat.le_trans (List.length_filter_le _ _) (by simp; omega)
          refine RK.skip ?_
          refine RK.seq ?_
          refine RK.block ?_
          refine RK.seq ?_
          refine RK.drawM No [(0, false), (1, false), (2, false), (3, false), (4, false), (5, false), (6, false), (7, false), (8, false), (9, true), (10, false)] [] mixed (by kernel_rfl) ?_
          iterate 2 refine DL.p rfl rfl rfl ?_
          refine DL.qf rfl (.free rfl) rfl rfl (Yld.indexAddrN u58 i32 rfl rfl (by omega)) ?_
          refine DL.qf rfl (.free rfl) rfl rfl (Yld.fieldAddr fo32_1 rfl) ?_
          refine DL.q rfl (.free rfl) rfl rfl rfl (Yld.load p26 rfl (atM (hg38.cell (hc3 1 _ rfl) (fun h => h)) (fun h => h))) (Mod.drew _ _) ?_
          iterate 2 refine DL.p rfl rfl rfl ?_
          refine DL.qf rfl (.free rfl) rfl rfl (Yld.indexAddrN u87 i9 rfl rfl (by simp only at h31; omega)) ?_
          refine DL.q rfl (.free rfl) rfl rfl rfl (Yld.load p9 rfl (atM (hcn _ (hg47.trans hg78)) (fun h => h))) (Mod.drew _ _) ?_
          refine DL.op rfl (.free rfl) rfl rfl (Does.call rfl e43 (getLabel_ok No a.ls a.v nm _ ((hsla.mod hg38).mod (Mod.drew _ _)))) ?_
          rintro _ _ ⟨rfl, rfl⟩
          refine ⟨Mod.drew _ _, ?_⟩
          have hgd : Grow w7 w8.drew := hg78.trans (Mod.drew _ _)
          refine DL.p rfl rfl rfl ?_
          refine DL.done ?_
          first | refine RK.condD rfl (fun h101 => ?_) (fun h101 => ?_) | refine RK.condN rfl (fun h101 => ?_) (fun h101 => ?_) | refine RK.cond rfl (fun h101 => ?_) (fun h101 => ?_)
          · have hne : getL a.ls nm ≠ ByteArray.empty := by have h9 : ¬ getL a.ls nm = ⟨#[]⟩ := (by simpa using h101); exact h9
            refine RK.region ?_
            iterate 3 refine RL.p rfl rfl ?_
            refine RL.q (.free rfl) rfl rfl (Yld.indexAddrN u58 i32 rfl rfl (by omega)) ?_
            refine RL.q (.free rfl) rfl rfl (Yld.fieldAddr fo32_0 rfl) ?_
            refine RL.q (.free rfl) rfl rfl (Yld.load p3 rfl (at1 ((hgw7.trans hgd).cell (hc3 0 _ rfl) (fun h => h)))) ?_
            refine RL.op (.free rfl) rfl rfl (Does.slice1 u22 i3 rfl rfl rfl rfl rfl) ?_
            rintro _ w10 ⟨b7, rfl, hn7⟩
            refine RL.op (.free rfl) rfl rfl (Does.append u22 i3 rfl rfl rfl rfl rfl ((hrt.mod (Mod.drew _ _) (fun _ _ h => h)).mod hn7.grow (fun _ _ h => h)) (Sl.new hn7 1 1 rfl (by omega) (fun h => h)) (rfl) (by omega)) ?_
            rintro u11 w11 ⟨hr11, hm11, hu11⟩
            have hs10 := hn7.grow.size
            have hs8 := hgd.size
            refine RL.p rfl rfl ?_
            refine RL.done ?_
            refine RK.inBlock ?_
            refine RK.region ?_
            iterate 2 refine RL.p rfl rfl ?_
            refine RL.re (d := 90) rfl rfl (succ_i64 (by omega)) ?_
            refine RL.p rfl rfl ?_
            refine RL.done ?_
            exact RK.back (ih3 (k + 1, u11) _ ⟨(hgd.trans hn7.grow).then hm11 (fun b hb e => by have := hft b e; omega), by
                simp only
                rw [hsn, if_neg hne]
                have e1 : ints (haveS (al.take k) nm ++ [a.id]) = ints (haveS (al.take k) nm) ++ (Value.int .i64 a.id).cells.toList := by simp [ints, Value.cells]
                rw [e1, List.length_append]; exact hr11, fun b e => by
                rcases hu11 with h1 | h1
                · exact hft b (h1 ▸ e)
                · simp only at e; rw [h1] at e; cases e; omega, by simp only; omega⟩ (by simp only; omega)) ⟨rfl, rfl, rfl, rfl, rfl, rfl, rfl, rfl, trivial⟩
          · have hne : getL a.ls nm = ByteArray.empty := by have h9 : getL a.ls nm = ⟨#[]⟩ := (by simpa using h101); exact h9
            refine RK.skip ?_
            refine RK.inBlock ?_
            refine RK.region ?_
            iterate 2 refine RL.p rfl rfl ?_
            refine RL.re (d := 90) rfl rfl (succ_i64 (by omega)) ?_
            refine RL.p rfl rfl ?_
            refine RL.done ?_
            exact RK.back (ih3 (k + 1, t) _ ⟨hgd, by simp only; rw [hsn, if_pos hne, List.append_nil]; exact hrt.mod (Mod.drew _ _) (fun _ _ h => h), hft, by simp only; omega⟩ (by simp only; omega)) ⟨rfl, rfl, rfl, rfl, rfl, rfl, rfl, rfl, trivial⟩
        · have ek : al.take k = al := List.take_of_length_le (by simp only at h88; omega)
          rw [ek] at hrt
          have hwl : (haveS al nm).length ≤ al.length := by unfold haveS; rw [List.length_map]; exact List.length_filter_le _ _
          refine RK.exit rfl ?_
          refine RK.seq ?_
          refine RK.region ?_
          iterate 2 refine RL.p rfl rfl ?_
          refine RL.op (.free rfl) rfl rfl (Does.call rfl e44 (rising_ok No (haveS al nm) t _ (Sl.own hrt (fun _ _ h => h)) (by omega))) ?_
          rintro u12 w9 ⟨hr12, hf12, hg89⟩
          refine RL.op (.free rfl) rfl rfl (Does.call rfl e29 (sameInts_ok No A (rise (haveS al nm)) u u12 _ (Sl.own (hr.mod (hg78.trans hg89) (fun _ _ h => h)) (fun _ _ h => h)) (Sl.own hr12 (fun _ _ h => h)))) ?_
          rintro _ w10 ⟨rfl, hg910⟩
          refine RL.p rfl rfl ?_
          refine RL.done ?_
          refine RK.condF (hcF rfl (by rw [hall]; simp)) ?_
          refine RK.skip ?_
          refine RK.inBlock ?_
          refine RK.region ?_
          iterate 2 refine RL.p rfl rfl ?_
          refine RL.re (d := 33) rfl rfl (succ_i64 (by simp only at h31; omega)) ?_
          refine RL.p rfl rfl ?_
          refine RL.done ?_
          exact RK.back (ih (i + 1, n + j) _ ⟨(hg47.trans (hg78.trans hg89)).trans hg910, by simp only at h31 ⊢; omega, by
              simp only
              rw [htk, List.map_append, List.sum_append, ← hn, hjv, hvs.length_eq]
              simp, by simp only; omega⟩ (by simp only at h31 ⊢; omega)) ⟨rfl, rfl, rfl, rfl, rfl, trivial⟩
    · have hi6 : nm6.take i = nm6 := List.take_of_length_le (by simp only at h31; have : nm6.length = 6 := rfl; omega)
      rw [hi6, sum_vals nm6_nodup hnames] at hn
      refine RK.exit rfl ?_
      refine RK.seq ?_
      refine RK.region ?_
      refine RL.p rfl rfl ?_
      refine RL.op (.free rfl) rfl rfl (Does.call rfl e31 ((him.grow (hg34.trans hg45)).size)) ?_
      rintro _ _ ⟨rfl, rfl⟩
      iterate 3 refine RL.p rfl rfl ?_
      refine RL.knownT (d := 119) rfl rfl (decide_eq_true (by simp only; omega)) ?_
      refine RL.op (.yes rfl rfl rfl) rfl rfl (Does.call rfl e4 (iruns_ok _)) ?_
      rintro _ w9 ⟨rfl, hg9⟩
      iterate 2 refine RL.p rfl rfl ?_
      refine RL.done ?_
      refine RK.ret_of Tryz.func15 (res1 rfl rfl) ?_ _
      exact ⟨_, rfl, rfl, ((hgw3.trans hg34).trans hg45).trans hg9⟩
end Go.Proofs.YtffbcfcoddacmaaGreat

