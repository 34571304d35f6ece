/- IndexPlays, walked. -/
import Derived.Test.YtffbcfcoddacmaaGreatGc
set_option linter.unusedVariables false
set_option linter.unusedSimpArgs false
set_option maxHeartbeats 2000000
set_option maxRecDepth 100000
namespace Go.Proofs.YtffbcfcoddacmaaGreat
open Go Go.X

def whoS (al : List Al) (y : Lab) : List Int := (al.filter fun a => decide (getL a.ls y.name = y.value)).map (·.id)
def rowL (rows : List (LabK × List Int)) (y : Lab) : List Int := (lookM rows (y.name, y.value)).getD []
theorem who_snoc {al : List Al} {j : Nat} {a : Al} (h : al[j]? = some a) (y : Lab) : whoS (al.take (j + 1)) y = whoS (al.take j) y ++ (if getL a.ls y.name = y.value then [a.id] else []) := by
  have hj := (List.getElem?_eq_some_iff.1 h).1
  unfold whoS
  rw [List.take_succ_eq_append_getElem hj, (List.getElem?_eq_some_iff.1 h).2, List.filter_append, List.map_append]
  by_cases e : getL a.ls y.name = y.value <;> simp [e]
theorem rows_ris {has : List (Int × List Lab)} {rows : List (LabK × List Int)} (h : IxI has rows) (k : LabK) : Ris ((lookM rows k).getD []) := by
  cases hl : lookM rows k with
  | none => simp
  | some r => exact (h.ok.row (k, r) (lookM_mem hl)).1
theorem who_row {al : List Al} {rows : List (LabK × List Int)} (h : IxI (hasOf (al.map pub)) rows) (hs : ∀ a ∈ al, isS a.ls = true) {y : Lab} (hy : y.value ≠ ByteArray.empty) : rise (whoS al y) = rowL rows y := by
  refine ext_ris (rise_ris _) (rows_ris h _) fun id => ?_
  rw [mem_rise]
  unfold rowL
  rw [h.mem]
  unfold whoS
  constructor
  · intro hm
    obtain ⟨a, ha, rfl⟩ := List.mem_map.1 hm
    obtain ⟨ha1, ha2⟩ := List.mem_filter.1 ha
    obtain ⟨x, hx, e⟩ := (getL_has (hs a ha1) hy).1 (by simpa using ha2)
    exact ⟨a.ls, List.mem_map.2 ⟨pub a, List.mem_map_of_mem (f := pub) ha1, rfl⟩, x, hx, e⟩
  · rintro ⟨ls, hl, x, hx, e⟩
    obtain ⟨t, ht, e2⟩ := List.mem_map.1 hl
    obtain ⟨a, ha, rfl⟩ := List.mem_map.1 ht
    simp only [pub, Prod.mk.injEq] at e2
    obtain ⟨rfl, rfl⟩ := e2
    exact List.mem_map.2 ⟨a, List.mem_filter.2 ⟨ha, by simpa using (getL_has (hs a ha) hy).2 ⟨x, hx, e⟩⟩, rfl⟩
theorem look_nobody {l : List Sp} {rows : List (LabK × List Int)} (h : IxI (hasOf (foldP l)) rows) {nm vl : ByteArray} (hno : nm ∉ nmL ∨ vl ∉ vlL) : (lookM rows (nm, vl)).getD [] = [] := by
  refine List.eq_nil_iff_forall_not_mem.2 fun id hid => ?_
  obtain ⟨ls, hl, x, hx, e⟩ := (h.mem _ _).1 hid
  obtain ⟨a, ha, e2⟩ := List.mem_map.1 hl
  simp only [Prod.mk.injEq] at e2
  obtain ⟨_, rfl⟩ := e2
  have := foldP_raw l a ha x hx
  simp only [labK, Prod.mk.injEq] at e
  obtain ⟨rfl, rfl⟩ := e
  rcases hno with h1 | h1
  · exact h1 this.1
  · exact h1 this.2
theorem nobody_no : (⟨#[110, 111, 98, 111, 100, 121]⟩ : ByteArray) ∉ nmL ∧ (⟨#[110, 111, 98, 111, 100, 121]⟩ : ByteArray) ∉ vlL := by
  constructor
  · intro h
    simp only [nmL, List.mem_cons, List.not_mem_nil, or_false] at h
    rcases h with h | h | h | h | h <;> exact absurd h (by decide)
  · intro h
    simp only [vlL, List.mem_cons, List.not_mem_nil, or_false] at h
    rcases h with h | h | h | h | h | h | h <;> exact absurd h (by decide)
theorem iplays_ok (l : List Sp) (vl : Value) (w : World) (hl : Sl No w vl 3 l.length (l.flatMap spC)) (hx : ∀ x ∈ l, x.Ok w) :
    Fx Tryz.prog 6 [vl] w (fun u w' => u = .bool true ∧ Grow w w') := by
  have hl0 := hl
  obtain ⟨adl, cl, rfl⟩ := hl.shape
  refine enter Tryz.func6 rfl rfl rfl _ (Pick.sub (l := [0]) (.cons rfl .nil)) ?_
  refine RK.seq ?_
  refine RK.region ?_
  refine RL.p rfl rfl ?_
  refine RL.done ?_
  iterate 2 refine RK.seq ?_
  refine RK.region ?_
  refine RL.p rfl rfl ?_
  refine RL.q (.free rfl) rfl rfl (Yld.lenSl u65 rfl) ?_
  refine RL.p rfl rfl ?_
  refine RL.done ?_
  first | refine RK.condD rfl (fun h14 => ?_) (fun h14 => ?_) | refine RK.condN rfl (fun h14 => ?_) (fun h14 => ?_) | refine RK.cond rfl (fun h14 => ?_) (fun h14 => ?_)
  · refine RK.seq ?_
    refine RK.region ?_
    refine RL.op (.free rfl) rfl rfl (Does.call rfl e4 (iruns_ok _)) ?_
    rintro _ w2 ⟨rfl, hg2⟩
    refine RL.p rfl rfl ?_
    refine RL.done ?_
    refine RK.ret_of Tryz.func6 (res1 rfl rfl) ?_ _
    exact ⟨_, rfl, rfl, hg2⟩
  · refine RK.skip ?_
    refine RK.seq ?_
    refine RK.region ?_
    refine RL.p rfl rfl ?_
    refine RL.op (.free rfl) rfl rfl (Does.call rfl e40 (built_ok l _ _ hl0 hx (by omega))) ?_
    rintro _ w3 ⟨ix, M, rows, v, al, rfl, hj, hal, hbd⟩
    have hn : ((al.map pub).map (·.1)).Nodup := by have := hj.im.inv.nd; rwa [hasOf_keys] at this
    have hlen : al.length ≤ 60 := by have h1 := foldP_len l; have h2 := congrArg List.length hal; simp at h1 h2; omega
    have hsets : ∀ a ∈ al, isS a.ls = true := fun a ha => hj.im.sets (a.id, a.ls) (List.mem_map.2 ⟨pub a, List.mem_map_of_mem (f := pub) ha, rfl⟩)
    have hvals : ∀ a ∈ al, ∀ y ∈ a.ls, y.value ≠ ByteArray.empty := fun a ha y hy => (vlL_ok _ (foldP_raw l (pub a) (by rw [← hal]; exact List.mem_map_of_mem (f := pub) ha) y hy).2).2
    have hsl : Sl No w3 v 3 al.length (al.flatMap alC) := Sl.own hj.row (fun _ _ h => h)
    obtain ⟨adv, cv, hv⟩ := hj.row.slice
    have hslN : ∀ a ∈ al, SlL No w3 a.v a.ls := fun a ha => (hj.sls a ha).noM
    have hfl := firsts_len hj.im.inv (fun a ha => by obtain ⟨a', ha', rfl⟩ := List.mem_map.1 ha; exact hsets a' ha')
    have hlo1 := look_nobody (l := l) (rows := rows) (nm := ⟨#[115, 101, 118]⟩) (hal ▸ hj.im.inv) (.inr nobody_no.2)
    have hlo2 := look_nobody (l := l) (rows := rows) (vl := ⟨#[97]⟩) (hal ▸ hj.im.inv) (.inl nobody_no.1)
    have him := hj.im
    have hgw3 := hj.grow
    clear hj
    subst hv
    iterate 7 refine RL.p rfl rfl ?_
    refine RL.done ?_
    iterate 2 refine RK.seq ?_
    refine RK.region ?_
    iterate 3 refine RL.p rfl rfl ?_
    refine RL.knownF (d := 24) rfl rfl (rfl) ?_
    refine RL.q (.yes rfl rfl rfl) rfl rfl (Yld.pure rfl) ?_
    refine RL.op (.yes rfl rfl rfl) rfl rfl (Does.call rfl e41 (him.ids)) ?_
    rintro u4 w4 ⟨hr4, hf4, hg4⟩
    refine RL.q (.yes rfl rfl rfl) rfl rfl (Yld.pure rfl) ?_
    refine RL.op (.yes rfl rfl rfl) rfl rfl (Does.call rfl e42 (idsL_ok No al _ _ (hsl.mod hg4) (by omega))) ?_
    rintro u5 w5 ⟨hr5, hf5, hg5⟩
    refine RL.op (.yes rfl rfl rfl) rfl rfl (Does.call rfl e29 (sameInts_ok No (idsS (hasOf (al.map pub))) (rise (al.map (·.id))) u4 u5 _ (Sl.own (hr4.mod hg5 (fun _ _ h => h)) (fun _ _ h => h)) (Sl.own hr5 (fun _ _ h => h)))) ?_
    rintro _ w6 ⟨rfl, hg6⟩
    have hsame : idsS (hasOf (al.map pub)) = rise (al.map (·.id)) := ext_ris (idsS_ris (by rw [hasOf_keys]; exact hn)) (rise_ris _) fun x => by rw [mem_idsS, mem_rise, hasOf_keys]; simp [pub]
    refine RL.q (.yes rfl rfl rfl) rfl rfl (Yld.pure rfl) ?_
    refine RL.p rfl rfl ?_
    refine RL.done ?_
    refine RK.condF (hcF rfl (by simp [hsame])) ?_
    have hg36 : Grow w3 w6 := (hg4.trans hg5).trans hg6
    refine RK.skip ?_
    refine RK.seq ?_
    refine RK.region ?_
    refine RL.p rfl rfl ?_
    refine RL.done ?_
    iterate 2 refine RK.seq ?_
    refine RK.region ?_
    refine RL.p rfl rfl ?_
    refine RL.done ?_
    refine RK.block ?_
    refine RK.loop (fun s : Nat × Nat => [(3, pp ix), (4, .slice adv al.length cv), (6, .int .i64 (s.2 : Int)), (7, .int .i64 (s.1 : Int))]) (fun s w' => Grow w3 w' ∧ s.1 ≤ al.length ∧ s.2 = (((al.map pub).take s.1).flatMap (firstL rows)).length ∧ s.2 ≤ 6 * s.1) (fun s => al.length - s.1) (0, 0) ⟨rfl, rfl, rfl, rfl, trivial⟩ ⟨hg36, by simp, by simp, by simp⟩ (fun s w' hI ih => ?_)
    obtain ⟨i, n⟩ := s
    obtain ⟨hg, hi, hni, hn6⟩ := hI
    simp only at hi hni hn6
    iterate 2 refine RK.seq ?_
    refine RK.region ?_
    iterate 2 refine RL.p rfl rfl ?_
    refine RL.q (.free rfl) rfl rfl (Yld.lenSl u58 rfl) ?_
    refine RL.p rfl rfl ?_
    refine RL.done ?_
    first | refine RK.condD rfl (fun h35 => ?_) (fun h35 => ?_) | refine RK.condN rfl (fun h35 => ?_) (fun h35 => ?_) | refine RK.cond rfl (fun h35 => ?_) (fun h35 => ?_)
    · obtain ⟨a, ha⟩ : ∃ a, al[i]? = some a := ⟨al[i]'(by omega), List.getElem?_eq_getElem (by omega)⟩
      obtain ⟨b1, o1, c1', he1, _, _, hc1⟩ := hsl.elem alC_len ha
      cases he1
      have ham := List.mem_of_getElem? ha
      have hsla := hslN a ham
      have h6l := isS_len (hsets a ham)
      obtain ⟨ada, ca, hva⟩ := hsla.shape
      have hc1v : ∀ w9, Grow w3 w9 → w9.cell? ⟨b1, o1 + i * 3 + 1, none⟩ = some (.slice ada a.ls.length ca) := fun w9 h9 => hva ▸ h9.cell (hc1 1 _ rfl) (fun h => h)
      rw [hva] at hsla
      have hfir : firstL rows (pub a) = a.ls.filter fun y => decide ((rowL rows y).head? = some a.id) := rfl
      refine RK.skip ?_
      refine RK.seq ?_
      refine RK.block ?_
      refine RK.seq ?_
      refine RK.region ?_
      refine RL.p rfl rfl ?_
      refine RL.done ?_
      refine RK.block ?_
      refine RK.loop (fun s : Nat × Nat => [(3, pp ix), (4, .slice (some ⟨b1, o1, none⟩) al.length cv), (6, .int .i64 (s.2 : Int)), (7, .int .i64 (i : Int)), (8, .int .i64 (s.1 : Int))]) (fun s w' => Grow w3 w' ∧ s.1 ≤ a.ls.length ∧ s.2 = n + ((a.ls.take s.1).filter fun y => decide ((rowL rows y).head? = some a.id)).length) (fun s => a.ls.length - s.1) (0, n) ⟨rfl, rfl, rfl, rfl, rfl, trivial⟩ ⟨hg, by simp, by simp⟩ (fun s w' hI2 ih2 => ?_)
      obtain ⟨k, m⟩ := s
      obtain ⟨hg2, hk, hm⟩ := hI2
      simp only at hk hm
      have hm6 : m ≤ 6 * i + 6 := by have := List.length_filter_le (fun y => decide ((rowL rows y).head? = some a.id)) (a.ls.take k); simp at this; omega
      iterate 2 refine RK.seq ?_
      refine RK.region ?_
      iterate 3 refine RL.p rfl rfl ?_
      refine RL.q (.free rfl) rfl rfl (Yld.indexAddrN u58 i32 rfl rfl (by omega)) ?_
      refine RL.q (.free rfl) rfl rfl (Yld.fieldAddr fo32_1 rfl) ?_
      refine RL.q (.free rfl) rfl rfl (Yld.load p26 rfl (at1 (hc1v _ hg2))) ?_
      refine RL.q (.free rfl) rfl rfl (Yld.lenSl u26 rfl) ?_
      refine RL.p rfl rfl ?_
      refine RL.done ?_
      first | refine RK.condD rfl (fun h45 => ?_) (fun h45 => ?_) | refine RK.condN rfl (fun h45 => ?_) (fun h45 => ?_) | refine RK.cond rfl (fun h45 => ?_) (fun h45 => ?_)
      · obtain ⟨y, hy⟩ : ∃ y, a.ls[k]? = some y := ⟨a.ls[k]'(by omega), List.getElem?_eq_getElem (by omega)⟩
        obtain ⟨b2, o2, c2', he2, _, _, hc2⟩ := hsla.elem labC_len hy
        cases he2
        have hym := List.mem_of_getElem? hy
        have hyv := hvals a ham y hym
        refine RK.skip ?_
        refine RK.seq ?_
        refine RK.block ?_
        refine RK.seq ?_
        refine RK.region ?_
        iterate 2 refine RL.p rfl rfl ?_
        refine RL.q (.free rfl) rfl rfl (Yld.indexAddrN u58 i32 rfl rfl (by omega)) ?_
        refine RL.q (.free rfl) rfl rfl (Yld.fieldAddr fo32_1 rfl) ?_
        refine RL.q (.free rfl) rfl rfl (Yld.load p26 rfl (at1 (hc1v _ hg2))) ?_
        refine RL.p rfl rfl ?_
        refine RL.q (.free rfl) rfl rfl (Yld.indexAddrN u26 i46 rfl rfl (by omega)) ?_
        refine RL.q (.free rfl) rfl rfl (Yld.loadN (cs := [.string y.name, .string y.value]) a46 rfl (atN (fun q u hq => hg2.cell (hc2 q u hq) (fun h => h)))) ?_
        refine RL.op (.free rfl) rfl rfl (Does.alloc i46) ?_
        rintro _ w7 ⟨b9, rfl, hn9⟩
        refine RL.op' (.free rfl) rfl (Does.storeN i46 rfl rfl rfl rfl hn9.blk (Nat.le_refl 2)) ?_
        rintro _ w8 ⟨hb8, hm8, _⟩
        have hB8 : Blk w8 b9 46 [.string y.name, .string y.value] := hb8
        have hg8 : Grow w3 w8 := (hg2.trans hn9.grow).then hm8 (fun z hz e => by have e' : z = b9 := e; have := hn9.at_; have := hg2.size; omega)
        refine RL.done ?_
        refine RK.seq ?_
        refine RK.region ?_
        refine RL.p rfl rfl ?_
        refine RL.done ?_
        iterate 2 refine RK.seq ?_
        refine RK.region ?_
        refine RL.p rfl rfl ?_
        refine RL.done ?_
        refine RK.block ?_
        refine RK.loop (fun s : Nat × Value => [(3, pp ix), (4, .slice (some ⟨b1, o1, none⟩) al.length cv), (6, .int .i64 (m : Int)), (7, .int .i64 (i : Int)), (8, .int .i64 (k : Int)), (9, pp b9), (10, s.2), (11, .int .i64 (s.1 : Int))]) (fun s w' => Grow w8 w' ∧ Row w' 3 1 s.2 (whoS (al.take s.1) y).length (ints (whoS (al.take s.1) y)) ∧ Fresh w8.heap.size s.2 ∧ s.1 ≤ al.length) (fun s => al.length - s.1) (0, .slice none 0 0) ⟨rfl, rfl, rfl, rfl, rfl, rfl, rfl, rfl, trivial⟩ ⟨Mod.refl _ _, by simpa [whoS] using Row.nil _ _ _, fun b e => by simp [Value.ownBlock] at e, by simp⟩ (fun s w' hI3 ih3 => ?_)
        obtain ⟨j, u⟩ := s
        obtain ⟨hg9, hr, hf, hj⟩ := hI3
        simp only at hr hf hj
        iterate 2 refine RK.seq ?_
        refine RK.region ?_
        iterate 2 refine RL.p rfl rfl ?_
        refine RL.q (.free rfl) rfl rfl (Yld.lenSl u58 rfl) ?_
        refine RL.p rfl rfl ?_
        refine RL.done ?_
        first | refine RK.condD rfl (fun h59 => ?_) (fun h59 => ?_) | refine RK.condN rfl (fun h59 => ?_) (fun h59 => ?_) | refine RK.cond rfl (fun h59 => ?_) (fun h59 => ?_)
        · obtain ⟨aj, haj⟩ : ∃ a, al[j]? = some a := ⟨al[j]'(by omega), List.getElem?_eq_getElem (by omega)⟩
          obtain ⟨b3, o3, c3', he3, _, _, hc3⟩ := hsl.elem alC_len haj
          cases he3
          have hslj := hslN aj (List.mem_of_getElem? haj)
          obtain ⟨adj, cj, hvj⟩ := hslj.shape
          have hwho := who_snoc haj y
          have hwl : (whoS (al.take j) y).length ≤ j := by unfold whoS; rw [List.length_map]; exact Nat.le_trans (List.length_filter_le _ _) (by simp; omega)
          refine RK.skip ?_
          refine RK.seq ?_
          refine RK.block ?_
          refine RK.seq ?_
          refine RK.drawM No [(0, false), (1, false), (2, false), (3, false), (4, false), (5, false), (6, false), (8, false), (9, false), (7, true), (10, false)] [] mixed (by kernel_rfl) ?_
          iterate 2 refine DL.p rfl rfl rfl ?_
          refine DL.qf rfl (.free rfl) rfl rfl (Yld.indexAddrN u58 i32 rfl rfl (by omega)) ?_
          refine DL.qf rfl (.free rfl) rfl rfl (Yld.fieldAddr fo32_1 rfl) ?_
          refine DL.q rfl (.free rfl) rfl rfl rfl (Yld.load p26 rfl (atM ((hg8.trans hg9).cell (hc3 1 _ rfl) (fun h => h)) (fun h => h))) (Mod.drew _ _) ?_
          refine DL.qf rfl (.free rfl) rfl rfl (Yld.fieldAddr fo46_0 rfl) ?_
          refine DL.q rfl (.free rfl) rfl rfl rfl (Yld.load p9 rfl (atM ((hB8.mod hg9 (fun h => h)).cell rfl) (fun h => h))) (Mod.drew _ _) ?_
          refine DL.qf rfl (.free rfl) rfl rfl (Yld.fieldAddr fo46_1 rfl) ?_
          refine DL.q rfl (.free rfl) rfl rfl rfl (Yld.load p9 rfl (atM ((hB8.mod hg9 (fun h => h)).cell rfl) (fun h => h))) (Mod.drew _ _) ?_
          refine DL.op rfl (.free rfl) rfl rfl (Does.call rfl e43 (getLabel_ok No aj.ls aj.v y.name _ ((hslj.mod (hg8.trans hg9)).mod (Mod.drew _ _)))) ?_
          rintro _ _ ⟨rfl, rfl⟩
          refine ⟨Mod.drew _ _, ?_⟩
          have hgd : Grow w8 w'.drew := hg9.trans (Mod.drew _ _)
          refine DL.p rfl rfl rfl ?_
          refine DL.done ?_
          first | refine RK.condD rfl (fun h72 => ?_) (fun h72 => ?_) | refine RK.condN rfl (fun h72 => ?_) (fun h72 => ?_) | refine RK.cond rfl (fun h72 => ?_) (fun h72 => ?_)
          · refine RK.region ?_
            iterate 3 refine RL.p rfl rfl ?_
            refine RL.q (.free rfl) rfl rfl (Yld.indexAddrN u58 i32 rfl rfl (by omega)) ?_
            refine RL.q (.free rfl) rfl rfl (Yld.fieldAddr fo32_0 rfl) ?_
            refine RL.q (.free rfl) rfl rfl (Yld.load p3 rfl (at1 ((hg8.trans hgd).cell (hc3 0 _ rfl) (fun h => h)))) ?_
            refine RL.op (.free rfl) rfl rfl (Does.slice1 u22 i3 rfl rfl rfl rfl rfl) ?_
            rintro _ w10 ⟨b7, rfl, hn7⟩
            refine RL.op (.free rfl) rfl rfl (Does.append u22 i3 rfl rfl rfl rfl rfl ((hr.mod (Mod.drew _ _) (fun _ _ h => h)).mod hn7.grow (fun _ _ h => h)) (Sl.new hn7 1 1 rfl (by omega) (fun h => h)) (rfl) (by omega)) ?_
            rintro u11 w11 ⟨hr11, hm11, hu11⟩
            have hs10 := hn7.grow.size
            have hs8 := hgd.size
            refine RL.p rfl rfl ?_
            refine RL.done ?_
            refine RK.inBlock ?_
            refine RK.region ?_
            iterate 2 refine RL.p rfl rfl ?_
            refine RL.re (d := 61) rfl rfl (succ_i64 (by omega)) ?_
            refine RL.p rfl rfl ?_
            refine RL.done ?_
            exact RK.back (ih3 (j + 1, u11) _ ⟨(hgd.trans hn7.grow).then hm11 (fun b hb e => by have := hf b e; omega), by
                simp only
                rw [hwho, if_pos h72]
                have e1 : ints (whoS (al.take j) y ++ [aj.id]) = ints (whoS (al.take j) y) ++ (Value.int .i64 aj.id).cells.toList := by simp [ints, Value.cells]
                rw [e1, List.length_append]; exact hr11, fun b e => by
                rcases hu11 with h1 | h1
                · exact hf b (h1 ▸ e)
                · simp only at e; rw [h1] at e; cases e; omega, by simp only; omega⟩ (by simp only; omega)) ⟨rfl, rfl, rfl, rfl, rfl, rfl, rfl, rfl, trivial⟩
          · refine RK.skip ?_
            refine RK.inBlock ?_
            refine RK.region ?_
            iterate 2 refine RL.p rfl rfl ?_
            refine RL.re (d := 61) rfl rfl (succ_i64 (by omega)) ?_
            refine RL.p rfl rfl ?_
            refine RL.done ?_
            exact RK.back (ih3 (j + 1, u) _ ⟨hgd, by simp only; rw [hwho, if_neg h72, List.append_nil]; exact hr.mod (Mod.drew _ _) (fun _ _ h => h), hf, by simp only; omega⟩ (by simp only; omega)) ⟨rfl, rfl, rfl, rfl, rfl, rfl, rfl, rfl, trivial⟩
        · have ek : al.take j = al := List.take_of_length_le (by omega)
          rw [ek] at hr
          have hwl : (whoS al y).length ≤ al.length := by unfold whoS; rw [List.length_map]; exact List.length_filter_le _ _
          refine RK.exit rfl ?_
          refine RK.seq ?_
          refine RK.region ?_
          refine RL.p rfl rfl ?_
          refine RL.op (.free rfl) rfl rfl (Does.call rfl e44 (rising_ok No (whoS al y) u _ (Sl.own hr (fun _ _ h => h)) (by omega))) ?_
          rintro u12 w12 ⟨hr12, hf12, hg12⟩
          rw [who_row him.inv hsets hyv] at hr12
          have hg812 : Grow w8 w12 := hg9.trans hg12
          refine RL.p rfl rfl ?_
          refine RL.done ?_
          iterate 2 refine RK.seq ?_
          refine RK.region ?_
          refine RL.p rfl rfl ?_
          refine RL.q (.free rfl) rfl rfl (Yld.fieldAddr fo46_0 rfl) ?_
          refine RL.q (.free rfl) rfl rfl (Yld.load p9 rfl (at1 ((hB8.mod hg812 (fun h => h)).cell rfl))) ?_
          refine RL.q (.free rfl) rfl rfl (Yld.fieldAddr fo46_1 rfl) ?_
          refine RL.q (.free rfl) rfl rfl (Yld.load p9 rfl (at1 ((hB8.mod hg812 (fun h => h)).cell rfl))) ?_
          refine RL.op (.free rfl) rfl rfl (Does.call rfl e45 ((him.grow (hg8.trans hg812)).posting y.name y.value)) ?_
          rintro u13 w13 ⟨hr13, hf13, hg13⟩
          refine RL.p rfl rfl ?_
          refine RL.op (.free rfl) rfl rfl (Does.call rfl e29 (sameInts_ok No (rowL rows y) (rowL rows y) u13 u12 _ (Sl.own hr13 (fun _ _ h => h)) (Sl.own (hr12.mod hg13 (fun _ _ h => h)) (fun _ _ h => h)))) ?_
          rintro _ w14 ⟨rfl, hg14⟩
          refine RL.p rfl rfl ?_
          refine RL.done ?_
          refine RK.condF (hcF rfl (by simp)) ?_
          have hg314 : Grow w3 w14 := ((hg8.trans hg812).trans hg13).trans hg14
          have hmem : a.id ∈ rowL rows y := (him.inv.mem _ _).2 ⟨a.ls, List.mem_map.2 ⟨pub a, List.mem_map_of_mem (f := pub) ham, rfl⟩, y, hym, rfl⟩
          obtain ⟨q, qs, hq⟩ : ∃ q qs, rowL rows y = q :: qs := by cases hrl : rowL rows y with | nil => (rw [hrl] at hmem; cases hmem) | cons q qs => exact ⟨q, qs, rfl⟩
          have hsl12 : Sl No w14 u12 1 (rowL rows y).length (ints (rowL rows y)) := Sl.own ((hr12.mod hg13 (fun _ _ h => h)).mod hg14 (fun _ _ h => h)) (fun _ _ h => h)
          obtain ⟨b6, o6, c6, he6, _, _, hc6⟩ := hsl12.elem1 (k := 0) (u := .int .i64 q) (by rw [hq]; rfl)
          subst he6
          have hpos : 0 < (rowL rows y).length := by rw [hq]; simp
          have htk : a.ls.take (k + 1) = a.ls.take k ++ [y] := by rw [List.take_succ_eq_append_getElem (by omega)]; congr 2; exact (List.getElem?_eq_some_iff.1 hy).2
          have hgd3 : Grow w3 w14.drew := hg314.trans (Mod.drew _ _)
          refine RK.skip ?_
          refine RK.seq ?_
          refine RK.drawM No [(0, false), (1, false), (2, false), (3, false), (4, false), (5, false), (6, false), (7, false), (8, false)] [] mixed (by kernel_rfl) ?_
          refine DL.p rfl rfl rfl ?_
          refine DL.qf rfl (.free rfl) rfl rfl (Yld.indexAddr u22 i3 rfl rfl (by omega) (by omega)) ?_
          refine DL.q rfl (.free rfl) rfl rfl rfl (Yld.load p3 rfl (atM (by have := hc6 0 (.int .i64 q) (by rw [hq]; rfl); simpa using this) (fun h => h))) (Mod.drew _ _) ?_
          iterate 2 refine DL.p rfl rfl rfl ?_
          refine DL.qf rfl (.free rfl) rfl rfl (Yld.indexAddrN u58 i32 rfl rfl (by omega)) ?_
          refine DL.qf rfl (.free rfl) rfl rfl (Yld.fieldAddr fo32_0 rfl) ?_
          refine DL.q rfl (.free rfl) rfl rfl rfl (Yld.load p3 rfl (atM (hg314.cell (hc1 0 _ rfl) (fun h => h)) (fun h => h))) (Mod.drew _ _) ?_
          refine DL.p rfl rfl rfl ?_
          refine DL.done ?_
          first | refine RK.condD rfl (fun h100 => ?_) (fun h100 => ?_) | refine RK.condN rfl (fun h100 => ?_) (fun h100 => ?_) | refine RK.cond rfl (fun h100 => ?_) (fun h100 => ?_)
          · refine RK.region ?_
            iterate 2 refine RL.p rfl rfl ?_
            refine RL.re (d := 102) rfl rfl (succ_i64 (by omega)) ?_
            refine RL.p rfl rfl ?_
            refine RL.done ?_
            refine RK.inBlock ?_
            refine RK.region ?_
            iterate 2 refine RL.p rfl rfl ?_
            refine RL.re (d := 47) rfl rfl (succ_i64 (by omega)) ?_
            refine RL.p rfl rfl ?_
            refine RL.done ?_
            exact RK.back (ih2 (k + 1, m + 1) _ ⟨hgd3, by simp only; omega, by
                simp only
                rw [htk, List.filter_append, List.length_append]
                have : (decide ((rowL rows y).head? = some a.id)) = true := by rw [hq]; simpa using h100
                simp only [List.filter_cons, this, if_true, List.filter_nil, List.length_cons, List.length_nil]
                omega⟩ (by simp only; omega)) ⟨rfl, rfl, rfl, rfl, rfl, trivial⟩
          · refine RK.skip ?_
            refine RK.inBlock ?_
            refine RK.region ?_
            iterate 2 refine RL.p rfl rfl ?_
            refine RL.re (d := 47) rfl rfl (succ_i64 (by omega)) ?_
            refine RL.p rfl rfl ?_
            refine RL.done ?_
            exact RK.back (ih2 (k + 1, m) _ ⟨hgd3, by simp only; omega, by
                simp only
                rw [htk, List.filter_append, List.length_append]
                have : (decide ((rowL rows y).head? = some a.id)) = false := by rw [hq]; simpa using h100
                simp only [List.filter_cons, this, Bool.false_eq_true, if_false, List.filter_nil, List.length_nil]
                omega⟩ (by simp only; omega)) ⟨rfl, rfl, rfl, rfl, rfl, trivial⟩
      · have ek : a.ls.take k = a.ls := List.take_of_length_le (by omega)
        rw [ek] at hm
        refine RK.exit rfl ?_
        refine RK.inBlock ?_
        refine RK.region ?_
        iterate 2 refine RL.p rfl rfl ?_
        refine RL.re (d := 37) rfl rfl (succ_i64 (by omega)) ?_
        refine RL.p rfl rfl ?_
        refine RL.done ?_
        exact RK.back (ih (i + 1, m) _ ⟨hg2, by simp only; omega, by
            simp only
            rw [List.take_succ_eq_append_getElem (by simp; omega), List.flatMap_append, List.length_append, ← hni]
            have e9 : (al.map pub)[i]'(by simp; omega) = pub a := by simp [(List.getElem?_eq_some_iff.1 ha).2]
            rw [e9]
            simp only [List.flatMap_cons, List.flatMap_nil, List.append_nil]
            rw [hfir]; exact hm, by simp only; omega⟩ (by simp only; omega)) ⟨rfl, rfl, rfl, rfl, trivial⟩
    · have ek : (al.map pub).take i = al.map pub := List.take_of_length_le (by simp; omega)
      rw [ek, ← hfl] at hni
      have k9 := him.grow hg
      refine RK.exit rfl ?_
      refine RK.seq ?_
      refine RK.region ?_
      refine RL.p rfl rfl ?_
      refine RL.op (.free rfl) rfl rfl (Does.call rfl e31 (k9.size)) ?_
      rintro _ _ ⟨rfl, rfl⟩
      iterate 3 refine RL.p rfl rfl ?_
      refine RL.knownT (d := 107) rfl rfl (by rw [hni]; simp) ?_
      refine RL.q (.yes rfl rfl rfl) rfl rfl (Yld.pure rfl) ?_
      refine RL.op (.yes rfl rfl rfl) rfl rfl (Does.call rfl e45 (k9.posting ⟨#[115, 101, 118]⟩ ⟨#[110, 111, 98, 111, 100, 121]⟩)) ?_
      rintro u10 w10 ⟨hr10, _, hg10⟩
      rw [hlo1] at hr10
      obtain ⟨ad10, c10, rfl⟩ := hr10.slice
      refine RL.q (.yes rfl rfl rfl) rfl rfl (Yld.lenSl u22 rfl) ?_
      refine RL.q (.yes rfl rfl rfl) rfl rfl (Yld.pure rfl) ?_
      iterate 2 refine RL.p rfl rfl ?_
      refine RL.knownT (d := 113) rfl rfl (rfl) ?_
      refine RL.q (.yes rfl rfl rfl) rfl rfl (Yld.pure rfl) ?_
      refine RL.op (.yes rfl rfl rfl) rfl rfl (Does.call rfl e45 ((k9.grow hg10).posting ⟨#[110, 111, 98, 111, 100, 121]⟩ ⟨#[97]⟩)) ?_
      rintro u11 w11 ⟨hr11, _, hg11⟩
      rw [hlo2] at hr11
      obtain ⟨ad11, c11, rfl⟩ := hr11.slice
      refine RL.q (.yes rfl rfl rfl) rfl rfl (Yld.lenSl u22 rfl) ?_
      refine RL.q (.yes rfl rfl rfl) rfl rfl (Yld.pure rfl) ?_
      iterate 2 refine RL.p rfl rfl ?_
      refine RL.knownT (d := 119) rfl rfl (rfl) ?_
      refine RL.op (.yes rfl rfl rfl) rfl rfl (Does.call rfl e4 (iruns_ok _)) ?_
      rintro _ w12 ⟨rfl, hg12⟩
      iterate 2 refine RL.p rfl rfl ?_
      refine RL.done ?_
      refine RK.ret_of Tryz.func6 (res1 rfl rfl) ?_ _
      exact ⟨_, rfl, rfl, (((hgw3.trans hg).trans hg10).trans hg11).trans hg12⟩
end Go.Proofs.YtffbcfcoddacmaaGreat

