/- An index: somebody dropped. -/
import Derived.Test.YtffbcfcoddacmaaGreatEa
set_option linter.unusedVariables false
set_option linter.unusedSimpArgs false
set_option maxHeartbeats 800000
set_option maxRecDepth 100000
namespace Go.Proofs.YtffbcfcoddacmaaGreat
open Go Go.X

theorem drop_ok (M : Nat → Prop) (w : World) (ix mh mr : Nat) (has : List (Int × List Lab)) (rows : List (LabK × List Int)) (h : IdxAt M w ix mh mr has rows) (hMh : M mh) (hMr : M mr) (hM : ∀ b, M b → b < w.heap.size) (id : Int)
    (hB : ∀ t ∈ rows, t.2.length ≤ 1000000000000) :
    Fx Tryz.prog 52 [pp ix, .int .i64 id] w (fun u w' => u = .bool (lookM has id).isSome ∧ IdxAt M w' ix mh mr (cutM has id) (dropRows rows id ((lookM has id).getD [])) ∧ Mod (fun b => b = mh ∨ b = mr) w w') := by
  obtain ⟨l, hl1, hl2, hl3⟩ := h.hl
  have n1 : ix ≠ mh := h.blk.ty.nem hl2.mp
  have n2 : ix ≠ mr := by obtain ⟨r, _, hr2, _⟩ := h.rl; exact h.blk.ty.nem hr2.mp
  obtain ⟨ls, hls⟩ : ∃ ls, (lookM has id).getD [] = ls := ⟨_, rfl⟩
  rw [hls]
  obtain ⟨vl, hvl, hv⟩ : ∃ vl, (lookM (l.map fun t => (t.1, t.2.2)) id).getD (.slice none 0 0) = vl ∧ SlL M w vl ls := by
    have e1 := lookM_map (fun a : List Lab × Value => a.1) id l
    have e2 := lookM_map (fun a : List Lab × Value => a.2) id l
    rw [hl1] at e1
    rw [e1] at hls
    rw [e2]
    cases hh : lookM l id with
    | none => rw [hh] at hls; simp at hls; subst hls; exact ⟨_, rfl, Sl.nil _ _ _ _ _⟩
    | some a => rw [hh] at hls; simp at hls; subst hls; exact ⟨_, rfl, hl3 _ (lookM_mem hh)⟩
  have hsome : (lookM (l.map fun t => (t.1, t.2.2)) id).isSome = (lookM has id).isSome := by
    have e1 := lookM_map (fun a : List Lab × Value => a.1) id l
    have e2 := lookM_map (fun a : List Lab × Value => a.2) id l
    rw [hl1] at e1
    rw [e1, e2]; simp
  obtain ⟨ad, c, rfl⟩ := hv.shape
  have hbig := hv.big
  refine enter Tryz.func52 rfl rfl rfl _ (Pick.sub (l := [0, 1]) (.cons rfl (.cons rfl .nil))) ?_
  refine RK.seq ?_
  refine RK.region ?_
  refine RL.p rfl rfl ?_
  refine RL.done ?_
  refine RK.seq ?_
  refine RK.region ?_
  iterate 2 refine RL.p rfl rfl ?_
  refine RL.q (.free rfl) rfl rfl (Yld.fieldAddr fo144_0 rfl) ?_
  refine RL.q (.free rfl) rfl rfl (Yld.load p141 rfl (at1 (h.blk.cell rfl))) ?_
  refine RL.p rfl rfl ?_
  refine RL.q (.free rfl) rfl rfl (Yld.lookup Tryz.underlying141 key3 i26 rfl rfl (fun w' e => e ▸ hl2)) ?_
  refine RL.re (d := 15) rfl rfl (show _ = Value.tuple #[.slice ad ls.length c, .bool (lookM has id).isSome] by rw [hvl, hsome]; rfl) ?_
  iterate 5 refine RL.p rfl rfl ?_
  refine RL.done ?_
  iterate 2 refine RK.seq ?_
  refine RK.region ?_
  refine RL.p rfl rfl ?_
  refine RL.q (.free rfl) rfl rfl (Yld.lenSl u26 rfl) ?_
  refine RL.p rfl rfl ?_
  refine RL.done ?_
  refine RK.block ?_
  refine RK.loop (fun k : Nat => [(0, pp ix), (1, .int .i64 id), (18, .slice ad ls.length c), (19, .int .i64 ls.length), (20, .int .i64 k), (6, .bool (lookM has id).isSome)]) (fun k w' => IdxAt M w' ix mh mr has (dropRows rows id (ls.take k)) ∧ Mod (fun b => b = mh ∨ b = mr) w w' ∧ k ≤ ls.length) (fun k => ls.length - k) 0 ⟨rfl, rfl, rfl, rfl, rfl, rfl, trivial⟩ ⟨by simpa [dropRows] using h, Mod.refl _ _, by omega⟩ (fun k w' hI ih => ?_)
  obtain ⟨hi, hmod, hk⟩ := hI
  refine RK.seq ?_
  refine RK.region ?_
  refine RL.p rfl rfl ?_
  refine RL.done ?_
  refine RK.seq ?_
  first | refine RK.condD rfl (fun h21 => ?_) (fun h21 => ?_) | refine RK.condN rfl (fun h21 => ?_) (fun h21 => ?_) | refine RK.cond rfl (fun h21 => ?_) (fun h21 => ?_)
  · obtain ⟨x, hx⟩ : ∃ x, ls[k]? = some x := ⟨ls[k]'(by omega), List.getElem?_eq_getElem (by omega)⟩
    obtain ⟨bx, ox, cx, he, hbM, hkl, hcell⟩ := hv.elem labC_len hx
    cases he
    obtain ⟨r, hr1, hr2, hr3⟩ := hi.rl
    have hmodM : Mod M w w' := hmod.mono fun b _ e => by rcases e with rfl | rfl <;> assumption
    have htk : ls.take (k + 1) = ls.take k ++ [x] := by rw [List.take_succ_eq_append_getElem (by omega)]; congr 2; exact (List.getElem?_eq_some_iff.1 hx).2
    have hbnd : ((lookM (dropRows rows id (ls.take k)) (labK x)).getD []).length ≤ 1000000000000 := look_bound (dropRows_bound hB id (ls.take k)) (labK x)
    obtain ⟨row0, hrow0⟩ : ∃ row0, (lookM (dropRows rows id (ls.take k)) (labK x)).getD [] = row0 := ⟨_, rfl⟩
    rw [hrow0] at hbnd
    obtain ⟨vv, hval, hsl⟩ : ∃ vv, (lookM (r.map fun t => (t.1, t.2.2)) (labK x)).getD (.slice none 0 0) = vv ∧ Sl M w' vv 1 row0.length (ints row0) := by
        rw [← hrow0]
        have e1 := lookM_map (fun a : List Int × Value => a.1) (labK x) r
        have e2 := lookM_map (fun a : List Int × Value => a.2) (labK x) r
        rw [hr1] at e1
        rw [e1, e2]
        cases hh : lookM r (labK x) with
        | none => exact ⟨_, rfl, Sl.nil _ _ _ _ _⟩
        | some a => exact ⟨_, rfl, hr3 _ (lookM_mem hh)⟩
    refine RK.skip ?_
    refine RK.seq ?_
    refine RK.block ?_
    refine RK.seq ?_
    refine RK.region ?_
    refine RL.q (.free rfl) rfl rfl (Yld.indexAddrN u26 i46 rfl rfl (by omega)) ?_
    refine RL.q (.free rfl) rfl rfl (Yld.loadN (cs := [.string x.name, .string x.value]) a46 rfl (atN (fun j u hj => hmodM.cell (hcell j u hj) hbM))) ?_
    refine RL.op (.free rfl) rfl rfl (Does.alloc i46) ?_
    rintro _ w5 ⟨b1, rfl, hn1⟩
    refine RL.op' (.free rfl) rfl (Does.storeN i46 rfl rfl rfl rfl hn1.blk (Nat.le_refl 2)) ?_
    rintro _ w6 ⟨hb6, hm6, _⟩
    have hB6 : Blk w6 b1 46 [.string x.name, .string x.value] := hb6
    have hg6 : Grow w' w6 := hn1.grow.then hm6 (fun y hy e => by have e' : y = b1 := e; have := hn1.at_; omega)
    refine RL.done ?_
    refine RK.seq ?_
    refine RK.drawM No [(0, false), (1, false), (2, false), (3, false), (4, false), (5, false), (6, false), (7, false), (8, false), (9, false), (10, false), (11, false), (12, true), (13, true)] [13] mixed (by kernel_rfl) ?_
    iterate 2 refine DL.p rfl rfl rfl ?_
    refine DL.qf rfl (.free rfl) rfl rfl (Yld.fieldAddr fo144_1 rfl) ?_
    refine DL.q rfl (.free rfl) rfl rfl rfl (Yld.load p142 rfl (atM ((hi.blk.mod hg6 (fun h => h)).cell rfl) (fun h => h))) (Mod.drew _ _) ?_
    refine DL.q rfl (.free rfl) rfl rfl rfl (Yld.loadN (cs := [.string x.name, .string x.value]) a46 rfl (atNM (fun j u hj => by rw [Nat.zero_add]; exact hB6.cell' hj) (fun h => h))) (Mod.drew _ _) ?_
    iterate 2 refine DL.p rfl rfl rfl ?_
    refine DL.qf rfl (.free rfl) rfl rfl (Yld.fieldAddr fo144_1 rfl) ?_
    refine DL.q rfl (.free rfl) rfl rfl rfl (Yld.load p142 rfl (atM ((hi.blk.mod hg6 (fun h => h)).cell rfl) (fun h => h))) (Mod.drew _ _) ?_
    refine DL.q rfl (.free rfl) rfl rfl rfl (Yld.loadN (cs := [.string x.name, .string x.value]) a46 rfl (atNM (fun j u hj => by rw [Nat.zero_add]; exact hB6.cell' hj) (fun h => h))) (Mod.drew _ _) ?_
    refine DL.q rfl (.free rfl) rfl rfl rfl (Yld.lookup Tryz.underlying142 key46 i22 (k := labK x) rfl rfl (fun w' hm => (hr2.mod hg6 (fun h => h)).mod hm (fun h => h))) (Mod.drew _ _) ?_
    refine DL.re (d := 34) rfl rfl (hval) ?_
    refine DL.p rfl rfl rfl ?_
    refine DL.op rfl (.free rfl) rfl rfl (Does.call rfl e108 (cut_ok M row0 id vv _ ((hsl.mod (Mod.any' hg6)).mod (Mod.drew M _)) (by omega))) ?_
    rintro u7 w7 ⟨hr7, hf7, hg7⟩
    refine ⟨(Mod.drew _ _).trans hg7, ?_⟩
    have hg07 : Grow w' w7 := (hg6.trans (Mod.drew _ _)).trans hg7
    refine DL.opT rfl (.free rfl) rfl rfl (Does.mapUpdate Tryz.underlying142 key46 (k := labK x) rfl rfl rfl (hr2.mod hg07 (fun h => h))) ?_
    rintro _ w8 ⟨hm8, hmod8, hs8⟩
    obtain ⟨ad7, c7, rfl⟩ := hr7.slice
    have hmodk : Mod (· = mr) w' w8 := (Mod.any' hg07).trans hmod8
    have hb1r : b1 ≠ mr := hB6.ty.nem (hr2.mod hg6 (fun h => h)).mp
    have hB8 : Blk w8 b1 46 [.string x.name, .string x.value] := (hB6.mod ((Mod.drew No _).trans hg7) (fun h => h)).mod hmod8 hb1r
    have hu7 : Sl M w8 (.slice ad7 (cutRow row0 id).length c7) 1 (cutRow row0 id).length (ints (cutRow row0 id)) := (Sl.own hr7 (fun b e hb => by have h1 := hf7 b e; have h2 := hM b hb; have h3 := hg6.size; have h4 := hmod.size; simp only [World.drew] at h1; omega)).mod (hmod8.mono fun b _ e => e ▸ hMr)
    have hI8 : ∀ w9, Mod (· = mr) w8 w9 → ∀ r9 : List (LabK × (List Int × Value)), (∀ t ∈ r9, t ∈ putM r (labK x) (cutRow row0 id, .slice ad7 (cutRow row0 id).length c7)) → MapAt pairV w9 mr (r9.map fun t => (t.1, t.2.2)) → r9.map (fun t => (t.1, t.2.1)) = dropRows rows id (ls.take (k + 1)) → IdxAt M w9 ix mh mr has (dropRows rows id (ls.take (k + 1))) := by
        intro w9 h9 r9 hsub hmap hrows
        obtain ⟨l', hl1', hl2', hl3'⟩ := hi.hl
        have hm9 := hmodk.trans h9
        refine ⟨hi.blk.mod hm9 n2, hi.ne, ⟨l', hl1', hl2'.mod hm9 hi.ne, fun t ht => (hl3' t ht).mod (hm9.mono fun b _ e => e ▸ hMr)⟩, ⟨r9, hrows, hmap, fun t ht => ?_⟩⟩
        rcases mem_putM (hsub t ht) with h1 | rfl
        · exact (hr3 t h1).mod (hm9.mono fun b _ e => e ▸ hMr)
        · exact hu7.mod (h9.mono fun b _ e => e ▸ hMr)
    have hput : (putM r (labK x) (cutRow row0 id, Value.slice ad7 (cutRow row0 id).length c7)).map (fun t => (t.1, t.2.1)) = putM (dropRows rows id (ls.take k)) (labK x) (cutRow row0 id) := by
        rw [← hr1]; exact (putM_map (fun a : List Int × Value => a.1) (labK x) (_, Value.slice ad7 (cutRow row0 id).length c7) r).symm
    have hput2 : MapAt pairV w8 mr ((putM r (labK x) (cutRow row0 id, Value.slice ad7 (cutRow row0 id).length c7)).map fun t => (t.1, t.2.2)) := by
        rw [← putM_map (fun a : List Int × Value => a.2) (labK x) (_, Value.slice ad7 (cutRow row0 id).length c7) r]; exact hm8
    have hlk8 : (lookM ((putM r (labK x) (cutRow row0 id, Value.slice ad7 (cutRow row0 id).length c7)).map fun t => (t.1, t.2.2)) (labK x)).getD (.slice none 0 0) = .slice ad7 (cutRow row0 id).length c7 := by
        rw [lookM_map (fun a : List Int × Value => a.2), lookM_putM]; simp
    refine DL.done ?_
    refine RK.seq ?_
    refine RK.drawM No [(0, false), (1, false), (2, false), (3, false), (4, false), (5, false), (6, false), (7, false)] [] mixed (by kernel_rfl) ?_
    iterate 2 refine DL.p rfl rfl rfl ?_
    refine DL.qf rfl (.free rfl) rfl rfl (Yld.fieldAddr fo144_1 rfl) ?_
    refine DL.q rfl (.free rfl) rfl rfl rfl (Yld.load p142 rfl (atM ((hi.blk.mod hmodk n2).cell rfl) (fun h => h))) (Mod.drew _ _) ?_
    refine DL.q rfl (.free rfl) rfl rfl rfl (Yld.loadN (cs := [.string x.name, .string x.value]) a46 rfl (atNM (fun j u hj => by rw [Nat.zero_add]; exact hB8.cell' hj) (fun h => h))) (Mod.drew _ _) ?_
    refine DL.q rfl (.free rfl) rfl rfl rfl (Yld.lookup Tryz.underlying142 key46 i22 (k := labK x) rfl rfl (fun w' hm => hput2.mod hm (fun h => h))) (Mod.drew _ _) ?_
    refine DL.re (d := 42) rfl rfl (hlk8) ?_
    refine DL.q rfl (.free rfl) rfl rfl rfl (Yld.lenSl u22 rfl) (Mod.drew _ _) ?_
    refine DL.p rfl rfl rfl ?_
    refine DL.done ?_
    first | refine RK.condD rfl (fun h44 => ?_) (fun h44 => ?_) | refine RK.condN rfl (fun h44 => ?_) (fun h44 => ?_) | refine RK.cond rfl (fun h44 => ?_) (fun h44 => ?_)
    · have hemp : cutRow row0 id = [] := List.eq_nil_of_length_eq_zero (by omega)
      have hstep : cutM (putM (dropRows rows id (ls.take k)) (labK x) (cutRow row0 id)) (labK x) = dropRows rows id (ls.take (k + 1)) := by rw [htk, dropRows_snoc, cutRow1, hrow0, if_pos hemp]
      have hput3 := hput2.mod (Mod.drew No w8) (fun h => h)
      refine RK.drawM No [(0, false), (1, false), (2, false), (3, false), (4, false), (5, true)] [5] mixed (by kernel_rfl) ?_
      iterate 2 refine DL.p rfl rfl rfl ?_
      refine DL.qf rfl (.free rfl) rfl rfl (Yld.fieldAddr fo144_1 rfl) ?_
      refine DL.q rfl (.free rfl) rfl rfl rfl (Yld.load p142 rfl (atM ((hi.blk.mod (hmodk.trans (Mod.drew _ _)) n2).cell rfl) (fun h => h))) (Mod.drew _ _) ?_
      refine DL.q rfl (.free rfl) rfl rfl rfl (Yld.loadN (cs := [.string x.name, .string x.value]) a46 rfl (atNM (fun j u hj => by rw [Nat.zero_add]; exact (hB8.mod (Mod.drew No _) (fun h => h)).cell' hj) (fun h => h))) (Mod.drew _ _) ?_
      refine DL.opT rfl (.free rfl) rfl rfl (Does.delete Tryz.underlying142 key46 (k := labK x) rfl rfl ((hput2.mod (Mod.drew No w8) (fun h => h)).mod (Mod.drew No _) (fun h => h))) ?_
      rintro _ w9 ⟨hm9, hmod9, hs9⟩
      have hmod89 : Mod (· = mr) w8 w9 := ((Mod.drew _ _).trans (Mod.drew _ _)).trans hmod9
      have hidx9 := hI8 w9 hmod89 (cutM (putM r (labK x) (cutRow row0 id, Value.slice ad7 (cutRow row0 id).length c7)) (labK x)) (fun t ht => mem_cutM' ht) (by rw [← cutM_map (fun a : List Int × Value => a.2) (labK x)]; exact hm9) (by rw [← hstep, ← hput]; exact (cutM_map (fun a : List Int × Value => a.1) (labK x) _).symm)
      refine DL.done ?_
      refine RK.inBlock ?_
      refine RK.region ?_
      refine RL.p rfl rfl ?_
      refine RL.re (d := 50) rfl rfl (succ_i64 (by omega)) ?_
      refine RL.p rfl rfl ?_
      refine RL.done ?_
      exact RK.back (ih (k + 1) _ ⟨hidx9, hmod.trans ((hmodk.trans hmod89).mono fun b _ e => .inr e), by omega⟩ (by omega)) ⟨rfl, rfl, rfl, rfl, rfl, rfl, trivial⟩
    · have hemp : ¬ cutRow row0 id = [] := fun e => h44 (by rw [e]; rfl)
      have hstep : putM (dropRows rows id (ls.take k)) (labK x) (cutRow row0 id) = dropRows rows id (ls.take (k + 1)) := by rw [htk, dropRows_snoc, cutRow1, hrow0, if_neg hemp]
      have hidx9 := hI8 w8.drew (Mod.drew _ _) _ (fun t ht => ht) (hput2.mod (Mod.drew No _) (fun h => h)) (hput.trans hstep)
      refine RK.skip ?_
      refine RK.inBlock ?_
      refine RK.region ?_
      refine RL.p rfl rfl ?_
      refine RL.re (d := 50) rfl rfl (succ_i64 (by omega)) ?_
      refine RL.p rfl rfl ?_
      refine RL.done ?_
      exact RK.back (ih (k + 1) _ ⟨hidx9, hmod.trans ((hmodk.trans (Mod.drew _ _)).mono fun b _ e => .inr e), by omega⟩ (by omega)) ⟨rfl, rfl, rfl, rfl, rfl, rfl, trivial⟩
  · have ek : ls.take k = ls := List.take_of_length_le (by omega)
    rw [ek] at hi
    obtain ⟨l', hl1', hl2', hl3'⟩ := hi.hl
    refine RK.exit rfl ?_
    refine RK.seq ?_
    refine RK.region ?_
    iterate 2 refine RL.p rfl rfl ?_
    refine RL.q (.free rfl) rfl rfl (Yld.fieldAddr fo144_0 rfl) ?_
    refine RL.q (.free rfl) rfl rfl (Yld.load p141 rfl (at1 (hi.blk.cell rfl))) ?_
    refine RL.p rfl rfl ?_
    refine RL.op' (.free rfl) rfl (Does.delete Tryz.underlying141 key3 (k := id) rfl rfl hl2') ?_
    rintro _ w9 ⟨hm9, hmod9, hs9⟩
    refine RL.done ?_
    refine RK.seq ?_
    refine RK.region ?_
    iterate 2 refine RL.p rfl rfl ?_
    refine RL.done ?_
    refine RK.ret_of Tryz.func52 (res1 rfl rfl) ?_ _
    exact ⟨_, rfl, rfl, by
        obtain ⟨r, hr1, hr2, hr3⟩ := hi.rl
        refine ⟨hi.blk.mod hmod9 n1, hi.ne, ⟨cutM l' id, ?_, ?_, fun t ht => ?_⟩, ⟨r, hr1, hr2.mod hmod9 hi.ne.symm, fun t ht => (hr3 t ht).mod (hmod9.mono fun b _ e => e ▸ hMh)⟩⟩
        · rw [← hl1']; exact (cutM_map (fun a : List Lab × Value => a.1) id l').symm
        · rw [← cutM_map (fun a : List Lab × Value => a.2) id l']; exact hm9
        · exact (hl3' t (mem_cutM' ht)).mod (hmod9.mono fun b _ e => e ▸ hMh)
      , hmod.trans (hmod9.mono fun b _ e => .inl e)⟩
end Go.Proofs.YtffbcfcoddacmaaGreat

