/- An index: who is there; a label's row; matchers by values. -/
import Derived.Test.YtffbcfcoddacmaaGreatFa
import Derived.Test.YtffbcfcoddacmaaGreatKb
set_option linter.unusedVariables false
set_option linter.unusedSimpArgs false
set_option maxHeartbeats 800000
set_option maxRecDepth 100000
namespace Go.Proofs.YtffbcfcoddacmaaGreat
open Go Go.X

theorem row_of {w : World} {base : Nat} {t : TypeId} {sz : Nat} {v : Value} {k : Nat} {xs : List Value} (h : w.ownsRow base t sz v k xs) : Row w t sz v k xs ∧ Fresh base v := by
  refine ⟨⟨h.1, ?_⟩, fun b e => ?_⟩
  · rcases h.2 with h2 | ⟨g, cap, cur, h2, _, r⟩
    · exact .inl h2
    · exact .inr ⟨g, cap, cur, h2, Nat.zero_le _, r⟩
  · rcases h.2 with ⟨rfl, _⟩ | ⟨g, cap, cur, rfl, hb, _⟩
    · simp [Value.ownBlock] at e
    · simp [Value.ownBlock] at e; omega
theorem sortI_perm {l l' : List Int} (h : l.Perm l') : l.mergeSort (fun x y => decide (x ≤ y)) = sortI l' := mergeSort_of_perm_i h
theorem sortedCall {w : World} {m : Nat} {l : List (Int × Value)} (h : MapAt (Value.int .i64) w m l) (hn : (l.map (·.1)).Nodup) (hr : ∀ t ∈ l, -9223372036854775808 ≤ t.1 ∧ t.1 ≤ 9223372036854775807) (hl : l.length ≤ 1000000) :
    Fx Tryz.prog 97 [.func (.func 142) #[] #[.pointer (some ⟨w.heap.size, 0, none⟩)]] (w.alloc (.cells #[.map (some m)] 141)) (fun u w' => Row w' 3 1 u (sortI (l.map (·.1))).length (ints (sortI (l.map (·.1)))) ∧ Fresh w.heap.size u ∧ Grow w w') := by
  have hml : (1000000 : Nat) ≤ maxLen := by decide
  obtain ⟨D, hown, hperm, hsize⟩ := owns_of h hn hr (by omega)
  have hbl := hown.lt
  have hseq : SeqGives Fence.wide 2 Tryz.prog 142 #[.pointer (some ⟨w.heap.size, 0, none⟩)] encZ (fun ss => ss.Perm (intKeys D)) (Maps.size D) (w.alloc (.cells #[.map (some m)] 141)) :=
    AnyZI.keys_gives (ρ := Tryz.keys98_ren) { Tryz.keys98 with } Fence.wide _ trivial rfl (by omega) w.heap.size m l.length D _ (by simp) (by simp) (by
      obtain ⟨es, clock, hb, Ft, hs, hD⟩ := hown
      exact ⟨es, clock, (RowKit.Below.heap_alloc _ _ m hbl).trans hb, Ft, hs, hD⟩)
  refine Calls.mono ((callsIn_wide (n := 5)).1 (AnyZI.sorted_in Tryz.sorted97 Fence.wide 5 trivial trivial trivial trivial rfl (by omega) (sortsI _) (enters_of Tryz.func141 (by kernel_rfl) rfl) 142 #[.pointer (some ⟨w.heap.size, 0, none⟩)] trivial (enters_of Tryz.func142 (by kernel_rfl) rfl) _ _ (by omega) (by omega) _ hseq)) ?_
  rintro e w' ⟨v, ss, rfl, hS, hrow, _, hb⟩
  obtain ⟨h1, h2⟩ := row_of hrow
  have e1 := sortI_perm (hS.trans hperm)
  have e2 : ss.length = (sortI (l.map (·.1))).length := by rw [sortI_len, ← (hS.trans hperm).length_eq]
  refine ⟨v, rfl, ?_, fun b e => ?_, (Mod.alloc No w _).trans (Grow.of_below hb)⟩
  · rw [← e2, ← e1]; exact h1
  · have := h2 b e
    simp at this
    omega
/-- Who is there, in rising order. -/
def idsS (has : List (Int × List Lab)) : List Int := sortI (has.map (·.1))
theorem idsS_ris {has : List (Int × List Lab)} (hn : (has.map (·.1)).Nodup) : Ris (idsS has) := by
  have h1 := sortI_le (has.map (·.1))
  have h2 : (sortI (has.map (·.1))).Nodup := (List.mergeSort_perm _ _).nodup_iff.2 hn
  exact (h1.and h2).imp fun ⟨a, b⟩ => by omega
theorem mem_idsS {has : List (Int × List Lab)} {x : Int} : x ∈ idsS has ↔ x ∈ has.map (·.1) := by unfold idsS sortI; simp
theorem ids_ok (M : Nat → Prop) (w : World) (ix mh mr : Nat) (has : List (Int × List Lab)) (rows : List (LabK × List Int)) (h : IdxAt M w ix mh mr has rows) (hn : (has.map (·.1)).Nodup) (hr : ∀ t ∈ has, -9223372036854775808 ≤ t.1 ∧ t.1 ≤ 9223372036854775807) (hl : has.length ≤ 1000000) :
    Fx Tryz.prog 41 [pp ix] w (fun u w' => Row w' 3 1 u (idsS has).length (ints (idsS has)) ∧ Fresh w.heap.size u ∧ Grow w w') := by
  obtain ⟨l, hl1, hl2, hl3⟩ := h.hl
  have hk : (l.map fun t => (t.1, t.2.2)).map (·.1) = has.map (·.1) := by rw [← hl1]; simp [List.map_map]
  have hlen : l.length = has.length := by rw [← hl1]; simp
  have hcall := sortedCall hl2 (by rw [hk]; exact hn) (fun t ht => by
    obtain ⟨t', ht', rfl⟩ := List.mem_map.1 ht
    exact hr (t'.1, t'.2.1) (by rw [← hl1]; exact List.mem_map_of_mem (f := fun t : Int × (List Lab × Value) => (t.1, t.2.1)) ht')) (by simpa [hlen] using hl)
  rw [hk] at hcall
  refine enter Tryz.func41 rfl rfl rfl _ (Pick.sub (l := [0]) (.cons rfl .nil)) ?_
  refine RK.seq ?_
  refine RK.region ?_
  refine RL.p rfl rfl ?_
  refine RL.done ?_
  refine RK.seq ?_
  refine RK.region ?_
  iterate 2 refine RL.p rfl rfl ?_
  refine RL.q (.free rfl) rfl rfl (Yld.fieldAddr fo144_0 rfl) ?_
  refine RL.q (.free rfl) rfl rfl (Yld.load p141 rfl (at1 (h.blk.cell rfl))) ?_
  refine RL.op (.free rfl) rfl rfl (Does.call rfl e98 (keysCall (some mh) _)) ?_
  rintro _ _ ⟨rfl, rfl⟩
  refine RL.op (.free rfl) rfl rfl (Does.call rfl e97 (hcall)) ?_
  rintro u2 w2 ⟨hr2, hf2, hg2⟩
  refine RL.p rfl rfl ?_
  refine RL.done ?_
  refine RK.ret_of Tryz.func41 (res1 rfl rfl) ?_ _
  exact ⟨_, rfl, hr2, hf2, hg2⟩
theorem posting_ok (M : Nat → Prop) (w : World) (ix mh mr : Nat) (has : List (Int × List Lab)) (rows : List (LabK × List Int)) (h : IdxAt M w ix mh mr has rows) (hB : ∀ t ∈ rows, t.2.length ≤ 1000000000000) (nm vl : ByteArray) :
    Fx Tryz.prog 45 [pp ix, .string nm, .string vl] w (fun u w' => Row w' 3 1 u ((lookM rows (nm, vl)).getD []).length (ints ((lookM rows (nm, vl)).getD [])) ∧ Fresh w.heap.size u ∧ Grow w w') := by
  obtain ⟨r, hr1, hr2, hr3⟩ := h.rl
  have hbnd := look_bound (B := 1000000000000) hB (nm, vl)
  obtain ⟨row0, hrow0⟩ : ∃ row0, (lookM rows (nm, vl)).getD [] = row0 := ⟨_, rfl⟩
  rw [hrow0] at hbnd ⊢
  obtain ⟨vv, hval, hsl⟩ : ∃ vv, (lookM (r.map fun t => (t.1, t.2.2)) (nm, vl)).getD (.slice none 0 0) = vv ∧ Sl M w vv 1 row0.length (ints row0) := by
    rw [← hrow0]
    have e1 := lookM_map (fun a : List Int × Value => a.1) (nm, vl) r
    have e2 := lookM_map (fun a : List Int × Value => a.2) (nm, vl) r
    rw [hr1] at e1
    rw [e1, e2]
    cases hh : lookM r (nm, vl) with
    | none => exact ⟨_, rfl, Sl.nil _ _ _ _ _⟩
    | some a => exact ⟨_, rfl, hr3 _ (lookM_mem hh)⟩
  refine enter Tryz.func45 rfl rfl rfl _ (Pick.sub (l := [0, 1, 2]) (.cons rfl (.cons rfl (.cons rfl .nil)))) ?_
  refine RK.seq ?_
  refine RK.region ?_
  refine RL.p rfl rfl ?_
  refine RL.done ?_
  refine RK.seq ?_
  refine RK.region ?_
  iterate 2 refine RL.p rfl rfl ?_
  refine RL.q (.free rfl) rfl rfl (Yld.fieldAddr fo144_1 rfl) ?_
  refine RL.q (.free rfl) rfl rfl (Yld.load p142 rfl (at1 (h.blk.cell rfl))) ?_
  iterate 2 refine RL.p rfl rfl ?_
  refine RL.q (.free rfl) rfl rfl (Yld.build (v := .agg #[.string nm, .string vl]) rfl (fun w => by kernel_rfl)) ?_
  refine RL.q (.free rfl) rfl rfl (Yld.lookup Tryz.underlying142 key46 i22 (k := (nm, vl)) rfl rfl (fun w' e => e ▸ hr2)) ?_
  refine RL.re (d := 14) rfl rfl (hval) ?_
  refine RL.op (.free rfl) rfl rfl (Does.call rfl e99 (cloneI_ok M row0 vv _ hsl (by omega))) ?_
  rintro u2 w2 ⟨hr2', hf2, hg2⟩
  refine RL.p rfl rfl ?_
  refine RL.done ?_
  refine RK.ret_of Tryz.func45 (res1 rfl rfl) ?_ _
  exact ⟨_, rfl, hr2', hf2, hg2⟩
/-! ### labels asked for a name -/
theorem get1_ok (w : World) (b : Nat) (nm : ByteArray) (hb : Blk w b 9 [.string nm]) (x : Lab) : Fx Tryz.prog 199 [.agg #[.string x.name, .string x.value], pp b] w (fun u w' => u = .bool (decide (x.name = nm)) ∧ Grow w w') := by
  refine enter Tryz.func199 rfl rfl rfl _ (Pick.sub (l := [0, 1]) (.cons rfl (.cons rfl .nil))) ?_
  refine RK.seq ?_
  refine RK.region ?_
  refine RL.op (.free rfl) rfl rfl (Does.box rfl) ?_
  rintro _ w1 ⟨bx, rfl, hbx⟩
  refine RL.p rfl rfl ?_
  refine RL.done ?_
  refine RK.seq ?_
  refine RK.region ?_
  refine RL.q (.free rfl) rfl rfl (Yld.fieldAddr fo46_0 rfl) ?_
  refine RL.q (.free rfl) rfl rfl (Yld.load p9 rfl (at1 (hbx.blk.cell rfl))) ?_
  refine RL.q (.free rfl) rfl rfl (Yld.load p9 rfl (at1 ((hb.mod hbx.grow (fun h => h)).cell rfl))) ?_
  iterate 2 refine RL.p rfl rfl ?_
  refine RL.done ?_
  refine RK.ret_of Tryz.func199 (res1 rfl rfl) ?_ _
  exact ⟨_, rfl, rfl, hbx.grow⟩
theorem getFirst_ok (M : Nat → Prop) (ls : List Lab) (v : Value) (nm : ByteArray) (b4 : Nat) (w : World) (hv : SlL M w v ls) (hb : Blk w b4 9 [.string nm]) :
    Fx Tryz.prog 198 [v, .func (.func 199) #[] #[pp b4]] w (fun u w' => u = .int .i64 (optI (ls.findIdx? fun x => decide (x.name = nm))) ∧ Grow w w') := by
  obtain ⟨ad, c, rfl⟩ := hv.shape
  have hbig := hv.big
  refine enter Tryz.func198 rfl rfl rfl _ (Pick.sub (l := [0, 1]) (.cons rfl (.cons rfl .nil))) ?_
  refine RK.seq ?_
  refine RK.region ?_
  refine RL.p rfl rfl ?_
  refine RL.done ?_
  iterate 2 refine RK.seq ?_
  refine RK.region ?_
  refine RL.p rfl rfl ?_
  refine RL.q (.free rfl) rfl rfl (Yld.lenSl u26 rfl) ?_
  refine RL.p rfl rfl ?_
  refine RL.done ?_
  refine RK.block ?_
  refine RK.loop (fun k : Nat => [(0, .slice ad ls.length c), (1, .func (.func 199) #[] #[pp b4]), (7, .int .i64 ls.length), (8, .int .i64 k)]) (fun k w' => Grow w w' ∧ k ≤ ls.length ∧ ∀ (i : Nat) (a : Lab), i < k → ls[i]? = some a → a.name ≠ nm) (fun k => ls.length - k) 0 ⟨rfl, rfl, rfl, rfl, trivial⟩ ⟨Mod.refl _ _, by omega, fun i a h => by omega⟩ (fun k w' hI ih => ?_)
  obtain ⟨hg, hk, hno⟩ := hI
  refine RK.seq ?_
  refine RK.region ?_
  refine RL.p rfl rfl ?_
  refine RL.done ?_
  refine RK.seq ?_
  first | refine RK.condD rfl (fun h9 => ?_) (fun h9 => ?_) | refine RK.condN rfl (fun h9 => ?_) (fun h9 => ?_) | refine RK.cond rfl (fun h9 => ?_) (fun h9 => ?_)
  · obtain ⟨x, hx⟩ : ∃ x, ls[k]? = some x := ⟨ls[k]'(by omega), List.getElem?_eq_getElem (by omega)⟩
    obtain ⟨b1, o1, c1', he1, _, _, hc1⟩ := hv.elem labC_len hx
    cases he1
    refine RK.skip ?_
    refine RK.seq ?_
    refine RK.block ?_
    refine RK.seq ?_
    refine RK.region ?_
    iterate 2 refine RL.p rfl rfl ?_
    refine RL.done ?_
    refine RK.seq ?_
    refine RK.region ?_
    iterate 3 refine RL.p rfl rfl ?_
    refine RL.q (.free rfl) rfl rfl (Yld.indexAddrN u26 i46 rfl rfl (by omega)) ?_
    refine RL.q (.free rfl) rfl rfl (Yld.loadN (cs := [.string x.name, .string x.value]) a46 rfl (atN (fun j u hj => hg.cell (hc1 j u hj) (fun h => h)))) ?_
    refine RL.op (.free rfl) rfl rfl (Does.callv rfl rfl e199 (get1_ok _ b4 nm (hb.mod hg (fun h => h)) x)) ?_
    rintro _ w2 ⟨rfl, hg2⟩
    refine RL.done ?_
    first | refine RK.condD rfl (fun h16 => ?_) (fun h16 => ?_) | refine RK.condN rfl (fun h16 => ?_) (fun h16 => ?_) | refine RK.cond rfl (fun h16 => ?_) (fun h16 => ?_)
    · refine RK.seq ?_
      refine RK.region ?_
      iterate 2 refine RL.p rfl rfl ?_
      refine RL.done ?_
      refine RK.ret_of Tryz.func198 (res1 rfl rfl) ?_ _
      exact ⟨_, rfl, congrArg _ (by
          have : ls.findIdx? (fun x => decide (x.name = nm)) = some k := by
            rw [List.findIdx?_eq_some_iff_getElem]
            refine ⟨by omega, ?_, fun j hj => ?_⟩
            · simp [(List.getElem?_eq_some_iff.1 hx).2, h16]
            · simpa using hno j (ls[j]'(by omega)) hj (List.getElem?_eq_getElem (by omega))
          rw [this]; rfl), hg.trans hg2⟩
    · refine RK.skip ?_
      refine RK.inBlock ?_
      refine RK.region ?_
      refine RL.p rfl rfl ?_
      refine RL.re (d := 18) rfl rfl (succ_i64 (by omega)) ?_
      refine RL.p rfl rfl ?_
      refine RL.done ?_
      exact RK.back (ih (k + 1) _ ⟨hg.trans hg2, by omega, fun i a' hi ha' => by by_cases e : i = k; (subst e; rw [hx] at ha'; cases ha'; exact h16); exact hno i a' (by omega) ha'⟩ (by omega)) ⟨rfl, rfl, rfl, rfl, trivial⟩
  · refine RK.exit rfl ?_
    refine RK.seq ?_
    refine RK.region ?_
    refine RL.p rfl rfl ?_
    refine RL.done ?_
    refine RK.ret_of Tryz.func198 (res1 rfl rfl) ?_ _
    exact ⟨_, rfl, congrArg _ (by
        have : ls.findIdx? (fun x => decide (x.name = nm)) = none := by
          rw [List.findIdx?_eq_none_iff]
          intro x hx
          obtain ⟨i, hi⟩ := List.getElem?_of_mem hx
          have hil := (List.getElem?_eq_some_iff.1 hi).1
          simpa using hno i x (by omega) hi
        rw [this]; rfl), hg⟩
theorem labelsGet_ok (M : Nat → Prop) (ls : List Lab) (v : Value) (nm : ByteArray) (w : World) (hv : SlL M w v ls) : Fx Tryz.prog 165 [v, .string nm] w (fun u w' => u = .string (getL ls nm) ∧ Grow w w') := by
  obtain ⟨ad, c, rfl⟩ := hv.shape
  have hbig := hv.big
  cases hf : ls.findIdx? (fun x => decide (x.name = nm)) with
  | none =>
    have e : getL ls nm = ByteArray.empty := getL_none fun y hy => by simpa using List.findIdx?_eq_none_iff.1 hf y hy
    refine enter Tryz.func165 rfl rfl rfl _ (Pick.sub (l := [0, 1]) (.cons rfl (.cons rfl .nil))) ?_
    refine RK.seq ?_
    refine RK.region ?_
    refine RL.op (.free rfl) rfl rfl (Does.box rfl) ?_
    rintro _ w1 ⟨b1, rfl, hn1⟩
    have hcall := getFirst_ok M ls _ nm b1 w1 (hv.mod (Mod.any' hn1.grow)) hn1.blk
    rw [hf] at hcall
    refine RL.p rfl rfl ?_
    refine RL.done ?_
    refine RK.seq ?_
    refine RK.region ?_
    iterate 2 refine RL.p rfl rfl ?_
    refine RL.op (.free rfl) rfl rfl (Does.call rfl e198 (hcall)) ?_
    rintro _ w2 ⟨rfl, hg2⟩
    refine RL.p rfl rfl ?_
    refine RL.done ?_
    iterate 2 refine RK.seq ?_
    refine RK.region ?_
    iterate 2 refine RL.p rfl rfl ?_
    refine RL.done ?_
    refine RK.condT (hcT rfl (rfl)) ?_
    refine RK.seq ?_
    refine RK.region ?_
    refine RL.p rfl rfl ?_
    refine RL.done ?_
    refine RK.ret_of Tryz.func165 (res1 rfl rfl) ?_ _
    exact ⟨_, rfl, by rw [e]; rfl, hn1.grow.trans hg2⟩
  | some k =>
    obtain ⟨hk, hp, hlt⟩ := List.findIdx?_eq_some_iff_getElem.1 hf
    have hx : ls[k]? = some ls[k] := List.getElem?_eq_getElem hk
    have e : getL ls nm = ls[k].value := getL_at hx (by simpa using hp) fun i y hi hy => by
      have := hlt i hi
      rw [(List.getElem?_eq_some_iff.1 hy).2] at this
      simpa using this
    generalize ls[k] = x at *
    refine enter Tryz.func165 rfl rfl rfl _ (Pick.sub (l := [0, 1]) (.cons rfl (.cons rfl .nil))) ?_
    refine RK.seq ?_
    refine RK.region ?_
    refine RL.op (.free rfl) rfl rfl (Does.box rfl) ?_
    rintro _ w1 ⟨b1, rfl, hn1⟩
    have hcall := getFirst_ok M ls _ nm b1 w1 (hv.mod (Mod.any' hn1.grow)) hn1.blk
    rw [hf] at hcall
    obtain ⟨b2, o2, c2', he2, _, _, hc2⟩ := hv.elem labC_len hx
    cases he2
    refine RL.p rfl rfl ?_
    refine RL.done ?_
    refine RK.seq ?_
    refine RK.region ?_
    iterate 2 refine RL.p rfl rfl ?_
    refine RL.op (.free rfl) rfl rfl (Does.call rfl e198 (hcall)) ?_
    rintro _ w2 ⟨rfl, hg2⟩
    have hg02 := hn1.grow.trans hg2
    have hk' : optI (some k) = (k : Int) := rfl
    rw [hk']
    refine RL.p rfl rfl ?_
    refine RL.done ?_
    iterate 2 refine RK.seq ?_
    refine RK.region ?_
    iterate 2 refine RL.p rfl rfl ?_
    refine RL.done ?_
    refine RK.condF (hcF rfl (decide_eq_false (by omega))) ?_
    refine RK.skip ?_
    refine RK.seq ?_
    refine RK.region ?_
    iterate 2 refine RL.p rfl rfl ?_
    refine RL.q (.free rfl) rfl rfl (Yld.indexAddrN u26 i46 rfl rfl (by omega)) ?_
    refine RL.q (.free rfl) rfl rfl (Yld.fieldAddr fo46_1 rfl) ?_
    refine RL.q (.free rfl) rfl rfl (Yld.load p9 rfl (at1 (hg02.cell (hc2 1 _ rfl) (fun h => h)))) ?_
    refine RL.p rfl rfl ?_
    refine RL.done ?_
    refine RK.ret_of Tryz.func165 (res1 rfl rfl) ?_ _
    exact ⟨_, rfl, by rw [e], hg02⟩
end Go.Proofs.YtffbcfcoddacmaaGreat

