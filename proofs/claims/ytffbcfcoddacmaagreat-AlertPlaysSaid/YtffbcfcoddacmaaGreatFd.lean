/- An index searched by matchers; somebody added, whatever the labels. -/
import Derived.Test.YtffbcfcoddacmaaGreatFc
set_option linter.unusedVariables false
set_option linter.unusedSimpArgs false
set_option maxHeartbeats 800000
set_option maxRecDepth 100000
namespace Go.Proofs.YtffbcfcoddacmaaGreat
open Go Go.X

/-- An index as it is kept: its own blocks, and those of others that it keeps away from. -/
structure IM (M X : Nat → Prop) (w : World) (ix : Nat) (has : List (Int × List Lab)) (rows : List (LabK × List Int)) : Prop where
  at_ : ∃ mh mr, IdxAt (fun b => M b ∨ X b) w ix mh mr has rows ∧ (∀ b, M b ↔ b = mh ∨ b = mr)
  apart : ∀ b, X b → ¬ M b ∧ b ≠ ix ∧ b < w.heap.size
  inv : IxI has rows
  sets : ∀ t ∈ has, isS t.2 = true
  rng : ∀ t ∈ has, -9223372036854775808 ≤ t.1 ∧ t.1 ≤ 9223372036854775807
  len : has.length ≤ 1000
  bd : ∀ t ∈ rows, t.2.length ≤ 6000
theorem IM.lt {M X : Nat → Prop} {w : World} {ix : Nat} {has : List (Int × List Lab)} {rows : List (LabK × List Int)} (h : IM M X w ix has rows) {b : Nat} (hb : M b) : b < w.heap.size := by
  obtain ⟨mh, mr, h1, h2⟩ := h.at_
  rcases (h2 b).1 hb with rfl | rfl
  · exact h1.mps.1.lt
  · exact h1.mps.2.lt
theorem IM.lt2 {M X : Nat → Prop} {w : World} {ix : Nat} {has : List (Int × List Lab)} {rows : List (LabK × List Int)} (h : IM M X w ix has rows) {b : Nat} (hb : M b ∨ X b) : b < w.heap.size := by
  rcases hb with hb | hb
  · exact h.lt hb
  · exact (h.apart b hb).2.2
theorem IM.grow {M X : Nat → Prop} {w w' : World} {ix : Nat} {has : List (Int × List Lab)} {rows : List (LabK × List Int)} (h : IM M X w ix has rows) (hg : Grow w w') : IM M X w' ix has rows := by
  obtain ⟨mh, mr, h1, h2⟩ := h.at_
  exact ⟨⟨mh, mr, h1.mod hg (fun _ _ h => h.elim) (fun h => h) (fun h => h) (fun h => h), h2⟩, fun b hb => by have h3 := h.apart b hb; have := hg.size; exact ⟨h3.1, h3.2.1, by omega⟩, h.inv, h.sets, h.rng, h.len, h.bd⟩
/-- The others' blocks are turned. -/
theorem IM.turn {M X X' : Nat → Prop} {w w' : World} {ix : Nat} {has : List (Int × List Lab)} {rows : List (LabK × List Int)} (h : IM M X w ix has rows) (hm : Mod X w w') (hx : ∀ b, X' b → X b ∨ w.heap.size ≤ b ∧ b < w'.heap.size) : IM M X' w' ix has rows := by
  obtain ⟨mh, mr, h1, h2⟩ := h.at_
  have hsz := hm.size
  have hn : ∀ b, X b → b ≠ ix ∧ b ≠ mh ∧ b ≠ mr := fun b hb => by
    obtain ⟨h3, h4, _⟩ := h.apart b hb
    exact ⟨h4, fun e => h3 ((h2 b).2 (.inl e)), fun e => h3 ((h2 b).2 (.inr e))⟩
  have h5 : IdxAt (fun b => (M b ∨ X b) ∨ X' b) w ix mh mr has rows := h1.off fun b hb e => by
    rcases e with e | e
    · exact e
    · rcases hx b e with e | e
      · exact .inr e
      · omega
  have h6 := h5.mod hm (fun b _ e => .inl (.inr e)) (fun e => (hn ix e).1 rfl) (fun e => (hn mh e).2.1 rfl) (fun e => (hn mr e).2.2 rfl)
  refine ⟨⟨mh, mr, h6.off fun b _ e => ?_, h2⟩, fun b hb => ?_, h.inv, h.sets, h.rng, h.len, h.bd⟩
  · rcases e with e | e
    · exact .inl (.inl e)
    · exact .inr e
  · rcases hx b hb with e | e
    · have h3 := h.apart b e
      exact ⟨h3.1, h3.2.1, by omega⟩
    · refine ⟨fun hM => by have := h.lt hM; omega, fun e2 => ?_, e.2⟩
      have := h1.blk.lt
      omega
theorem im_new (w : World) : Fx Tryz.prog 27 [] w (fun u w' => ∃ ix M, u = pp ix ∧ IM M No w' ix [] [] ∧ (∀ b, M b → w.heap.size ≤ b) ∧ w.heap.size ≤ ix ∧ Grow w w') := by
  refine Fx.mono (idxNew_ok w) ?_
  rintro u w' ⟨ix, mh, mr, rfl, h1, h2, h3⟩
  exact ⟨ix, fun b => b = mh ∨ b = mr, rfl, ⟨⟨mh, mr, h2 _, fun b => Iff.rfl⟩, fun b hb => hb.elim, IxI.nil, by simp, by simp, by simp, by simp⟩, fun b hb => h1 b (.inr hb), h1 ix (.inl rfl), h3⟩
theorem add_no (M : Nat → Prop) (w : World) (ix mh mr : Nat) (has : List (Int × List Lab)) (rows : List (LabK × List Int)) (h : IdxAt M w ix mh mr has rows) (id : Int) (ls : List Lab) (v : Value) (hv : SlL M w v ls) (hno : (lookM has id).isSome = true ∨ isS ls = false) :
    Fx Tryz.prog 28 [pp ix, .int .i64 id, v] w (fun u w' => u = .bool false ∧ Grow w w') := by
  obtain ⟨ad, c, rfl⟩ := hv.shape
  obtain ⟨l, hl1, hl2, hl3⟩ := h.hl
  have hsome : (lookM (l.map fun t => (t.1, t.2.2)) id).isSome = (lookM has id).isSome := by
    have e1 := lookM_map (fun a : List Lab × Value => a.1) id l
    have e2 := lookM_map (fun a : List Lab × Value => a.2) id l
    rw [hl1] at e1
    rw [e1, e2]; simp
  cases hs : (lookM has id).isSome with
  | true =>
    rw [hs] at hsome
    obtain ⟨z, hz⟩ : ∃ z, (lookM (l.map fun t => (t.1, t.2.2)) id).getD (.slice none 0 0) = z := ⟨_, rfl⟩
    refine enter Tryz.func28 rfl rfl rfl _ (Pick.sub (l := [0, 1, 2]) (.cons rfl (.cons rfl (.cons rfl .nil)))) ?_
    refine RK.seq ?_
    refine RK.region ?_
    refine RL.p rfl rfl ?_
    refine RL.done ?_
    iterate 2 refine RK.seq ?_
    refine RK.region ?_
    iterate 2 refine RL.p rfl rfl ?_
    refine RL.q (.free rfl) rfl rfl (Yld.fieldAddr fo144_0 rfl) ?_
    refine RL.q (.free rfl) rfl rfl (Yld.load p141 rfl (at1 (h.blk.cell rfl))) ?_
    refine RL.p rfl rfl ?_
    refine RL.q (.free rfl) rfl rfl (Yld.lookup Tryz.underlying141 key3 i26 rfl rfl (fun w' e => e ▸ hl2)) ?_
    refine RL.re (d := 17) rfl rfl (show _ = Value.tuple #[z, .bool true] by rw [hz, hsome]; rfl) ?_
    iterate 5 refine RL.p rfl rfl ?_
    refine RL.done ?_
    refine RK.seq ?_
    refine RK.region ?_
    iterate 2 refine RL.p rfl rfl ?_
    refine RL.knownT (d := 21) rfl rfl (rfl) ?_
    iterate 3 refine RL.no (.no rfl rfl rfl rfl) rfl rfl ?_
    refine RL.p rfl rfl ?_
    refine RL.done ?_
    refine RK.condT rfl ?_
    refine RK.seq ?_
    refine RK.region ?_
    refine RL.p rfl rfl ?_
    refine RL.done ?_
    refine RK.ret_of Tryz.func28 (res1 rfl rfl) ?_ _
    exact ⟨_, rfl, rfl, Mod.refl _ _⟩
  | false =>
    have his : isS ls = false := by rcases hno with h1 | h1; (rw [hs] at h1; cases h1); exact h1
    rw [hs] at hsome
    obtain ⟨z, hz⟩ : ∃ z, (lookM (l.map fun t => (t.1, t.2.2)) id).getD (.slice none 0 0) = z := ⟨_, rfl⟩
    refine enter Tryz.func28 rfl rfl rfl _ (Pick.sub (l := [0, 1, 2]) (.cons rfl (.cons rfl (.cons rfl .nil)))) ?_
    refine RK.seq ?_
    refine RK.region ?_
    refine RL.p rfl rfl ?_
    refine RL.done ?_
    iterate 2 refine RK.seq ?_
    refine RK.region ?_
    iterate 2 refine RL.p rfl rfl ?_
    refine RL.q (.free rfl) rfl rfl (Yld.fieldAddr fo144_0 rfl) ?_
    refine RL.q (.free rfl) rfl rfl (Yld.load p141 rfl (at1 (h.blk.cell rfl))) ?_
    refine RL.p rfl rfl ?_
    refine RL.q (.free rfl) rfl rfl (Yld.lookup Tryz.underlying141 key3 i26 rfl rfl (fun w' e => e ▸ hl2)) ?_
    refine RL.re (d := 17) rfl rfl (show _ = Value.tuple #[z, .bool false] by rw [hz, hsome]; rfl) ?_
    iterate 5 refine RL.p rfl rfl ?_
    refine RL.done ?_
    refine RK.seq ?_
    refine RK.region ?_
    iterate 2 refine RL.p rfl rfl ?_
    refine RL.knownF (d := 21) rfl rfl (rfl) ?_
    refine RL.q (.yes rfl rfl rfl) rfl rfl (Yld.pure rfl) ?_
    refine RL.op (.yes rfl rfl rfl) rfl rfl (Does.call rfl e73 (is_ok M ls _ _ hv)) ?_
    rintro _ w2 ⟨rfl, hg2⟩
    refine RL.q (.yes rfl rfl rfl) rfl rfl (Yld.pure rfl) ?_
    refine RL.p rfl rfl ?_
    refine RL.done ?_
    refine RK.condT (hcT rfl (by rw [his]; rfl)) ?_
    refine RK.seq ?_
    refine RK.region ?_
    refine RL.p rfl rfl ?_
    refine RL.done ?_
    refine RK.ret_of Tryz.func28 (res1 rfl rfl) ?_ _
    exact ⟨_, rfl, rfl, hg2⟩
def addable (has : List (Int × List Lab)) (id : Int) (ls : List Lab) : Bool := (lookM has id).isNone && isS ls
def addH (has : List (Int × List Lab)) (id : Int) (ls : List Lab) : List (Int × List Lab) := if addable has id ls then putM has id ls else has
def addR (has : List (Int × List Lab)) (rows : List (LabK × List Int)) (id : Int) (ls : List Lab) : List (LabK × List Int) := if addable has id ls then addRows rows id ls else rows
theorem IM.add {M X : Nat → Prop} {w : World} {ix : Nat} {has : List (Int × List Lab)} {rows : List (LabK × List Int)} (h : IM M X w ix has rows) (hlen : has.length < 1000) (hbd : ∀ t ∈ rows, t.2.length ≤ 5994) {id : Int} (hid : -9223372036854775808 ≤ id ∧ id ≤ 9223372036854775807) {ls : List Lab} {v : Value} (hv : SlL (fun b => M b ∨ X b) w v ls) :
    Fx Tryz.prog 28 [pp ix, .int .i64 id, v] w (fun u w' => u = .bool (addable has id ls) ∧ IM M X w' ix (addH has id ls) (addR has rows id ls) ∧ Mod M w w') := by
  obtain ⟨mh, mr, h1, h2⟩ := h.at_
  cases ha : addable has id ls with
  | true =>
    have eH : addH has id ls = putM has id ls := by unfold addH; rw [ha]; rfl
    have eR : addR has rows id ls = addRows rows id ls := by unfold addR; rw [ha]; rfl
    rw [eH, eR]
    unfold addable at ha
    simp only [Bool.and_eq_true, Option.isNone_iff_eq_none] at ha
    have h6 := isS_len ha.2
    refine Fx.mono (add_ok _ w ix mh mr has rows h1 (.inl ((h2 mh).2 (.inl rfl))) (.inl ((h2 mr).2 (.inr rfl))) (fun b hb => h.lt2 hb) id ls v hv ha.1 ha.2 (fun t ht => by have := h.bd t ht; omega)) ?_
    rintro u w' ⟨rfl, h3, h4⟩
    refine ⟨rfl, ⟨⟨mh, mr, h3, h2⟩, fun b hb => by have h9 := h.apart b hb; have := h4.size; exact ⟨h9.1, h9.2.1, by omega⟩, h.inv.add ha.1 ls, fun t ht => ?_, fun t ht => ?_, ?_, fun t ht => ?_⟩, h4.mono fun b _ e => (h2 b).2 e⟩
    · rcases mem_putM ht with h5 | rfl
      · exact h.sets t h5
      · exact ha.2
    · rcases mem_putM ht with h5 | rfl
      · exact h.rng t h5
      · exact hid
    · rw [putM_new ha.1]; simp; omega
    · have := addRows_bound (B := 5994) hbd id ls t ht; omega
  | false =>
    have eH : addH has id ls = has := by unfold addH; rw [ha]; rfl
    have eR : addR has rows id ls = rows := by unfold addR; rw [ha]; rfl
    rw [eH, eR]
    refine Fx.mono (add_no _ w ix mh mr has rows h1 id ls v hv ?_) ?_
    · unfold addable at ha
      cases hl : lookM has id with
      | none => rw [hl] at ha; right; simpa using ha
      | some x => left; rfl
    · rintro u w' ⟨rfl, hg⟩
      exact ⟨rfl, h.grow hg, Mod.any' hg⟩
theorem IM.drop {M X : Nat → Prop} {w : World} {ix : Nat} {has : List (Int × List Lab)} {rows : List (LabK × List Int)} (h : IM M X w ix has rows) (id : Int) :
    Fx Tryz.prog 52 [pp ix, .int .i64 id] w (fun u w' => u = .bool (lookM has id).isSome ∧ IM M X w' ix (cutM has id) (dropRows rows id ((lookM has id).getD [])) ∧ Mod M w w') := by
  obtain ⟨mh, mr, h1, h2⟩ := h.at_
  refine Fx.mono (drop_ok _ w ix mh mr has rows h1 (.inl ((h2 mh).2 (.inl rfl))) (.inl ((h2 mr).2 (.inr rfl))) (fun b hb => h.lt2 hb) id (fun t ht => by have := h.bd t ht; omega)) ?_
  rintro u w' ⟨rfl, h3, h4⟩
  exact ⟨rfl, ⟨⟨mh, mr, h3, h2⟩, fun b hb => by have h9 := h.apart b hb; have := h4.size; exact ⟨h9.1, h9.2.1, by omega⟩, h.inv.drop id, fun t ht => h.sets t (mem_cutM' ht), fun t ht => h.rng t (mem_cutM' ht), Nat.le_trans (cutM_sub id has).length_le h.len, dropRows_bound h.bd id _⟩, h4.mono fun b _ e => (h2 b).2 e⟩
theorem IM.ids {M X : Nat → Prop} {w : World} {ix : Nat} {has : List (Int × List Lab)} {rows : List (LabK × List Int)} (h : IM M X w ix has rows) : Fx Tryz.prog 41 [pp ix] w (fun u w' => Row w' 3 1 u (idsS has).length (ints (idsS has)) ∧ Fresh w.heap.size u ∧ Grow w w') := by
  obtain ⟨mh, mr, h1, h2⟩ := h.at_
  exact ids_ok _ w ix mh mr has rows h1 h.inv.nd h.rng (by have := h.len; omega)
theorem IM.posting {M X : Nat → Prop} {w : World} {ix : Nat} {has : List (Int × List Lab)} {rows : List (LabK × List Int)} (h : IM M X w ix has rows) (nm vl : ByteArray) : Fx Tryz.prog 45 [pp ix, .string nm, .string vl] w (fun u w' => Row w' 3 1 u ((lookM rows (nm, vl)).getD []).length (ints ((lookM rows (nm, vl)).getD [])) ∧ Fresh w.heap.size u ∧ Grow w w') := by
  obtain ⟨mh, mr, h1, h2⟩ := h.at_
  exact posting_ok _ w ix mh mr has rows h1 (fun t ht => by have := h.bd t ht; omega) nm vl
theorem IM.size {M X : Nat → Prop} {w : World} {ix : Nat} {has : List (Int × List Lab)} {rows : List (LabK × List Int)} (h : IM M X w ix has rows) : Fx Tryz.prog 31 [pp ix] w (fun u w' => u = .int .i64 rows.length ∧ w = w') := by
  obtain ⟨mh, mr, h1, h2⟩ := h.at_
  exact idxLen_ok _ w ix mh mr has rows h1
/-! ### searched -/
theorem find1M_ok (h : Mt → List Lab → Bool) (ms : List Mt) (hh : ∀ m ∈ ms, HoldsC h m) (M : Nat → Prop) (w : World) (ix mh mr : Nat) (has : List (Int × List Lab)) (rows : List (LabK × List Int)) (hi : IdxAt M w ix mh mr has rows) (b2 b3 : Nat) (vm : Value) (hm : SlM No w vm ms) (hb2 : Blk w b2 42 [pp ix]) (hb3 : Blk w b3 51 [vm]) (id : Int) :
    Fx Tryz.prog 89 [.int .i64 id, pp b3, pp b2] w (fun u w' => u = .bool (!ms.all fun m => h m ((lookM has id).getD [])) ∧ Grow w w') := by
  obtain ⟨l, hl1, hl2, hl3⟩ := hi.hl
  obtain ⟨adm, cm, rfl⟩ := hm.shape
  obtain ⟨ls, hls⟩ : ∃ ls, (lookM has id).getD [] = ls := ⟨_, rfl⟩
  rw [hls]
  obtain ⟨vl, hvl, hv⟩ : ∃ vl, (lookM (l.map fun t => (t.1, t.2.2)) id).getD (.slice none 0 0) = vl ∧ SlL M w vl ls := by
    have e1 := lookM_map (fun a : List Lab × Value => a.1) id l
    have e2 := lookM_map (fun a : List Lab × Value => a.2) id l
    rw [hl1] at e1
    rw [e1] at hls
    rw [e2]
    cases hh : lookM l id with
    | none => rw [hh] at hls; simp at hls; subst hls; exact ⟨_, rfl, Sl.nil _ _ _ _ _⟩
    | some a => rw [hh] at hls; simp at hls; subst hls; exact ⟨_, rfl, hl3 _ (lookM_mem hh)⟩
  refine enter Tryz.func89 rfl rfl rfl _ (Pick.sub (l := [0, 1, 2]) (.cons rfl (.cons rfl (.cons rfl .nil)))) ?_
  refine RK.seq ?_
  refine RK.region ?_
  refine RL.p rfl rfl ?_
  refine RL.done ?_
  refine RK.seq ?_
  refine RK.drawM No [(0, false), (1, false), (2, false), (3, false), (4, false), (5, false), (6, false), (7, true), (8, false), (9, false)] [] mixed (by kernel_rfl) ?_
  refine DL.q rfl (.free rfl) rfl rfl rfl (Yld.load p51 rfl (atM (hb3.cell rfl) (fun h => h))) (Mod.drew _ _) ?_
  refine DL.q rfl (.free rfl) rfl rfl rfl (Yld.load p42 rfl (atM (hb2.cell rfl) (fun h => h))) (Mod.drew _ _) ?_
  refine DL.p rfl rfl rfl ?_
  refine DL.qf rfl (.free rfl) rfl rfl (Yld.fieldAddr fo144_0 rfl) ?_
  refine DL.q rfl (.free rfl) rfl rfl rfl (Yld.load p141 rfl (atM (hi.blk.cell rfl) (fun h => h))) (Mod.drew _ _) ?_
  refine DL.p rfl rfl rfl ?_
  refine DL.q rfl (.free rfl) rfl rfl rfl (Yld.lookup Tryz.underlying141 key3 i26 (k := id) rfl rfl (fun w' hm => hl2.mod hm (fun h => h))) (Mod.drew _ _) ?_
  refine DL.re (d := 11) rfl rfl (hvl) ?_
  refine DL.op rfl (.free rfl) rfl rfl (Does.call rfl e90 (allM_ok h ms hh M No ls _ vl _ (hm.mod (Mod.drew _ _)) (hv.mod (Mod.drew _ _)))) ?_
  rintro _ w2 ⟨rfl, hg2⟩
  refine ⟨(Mod.drew _ _).trans hg2, ?_⟩
  iterate 2 refine DL.p rfl rfl rfl ?_
  refine DL.done ?_
  refine RK.ret_of Tryz.func89 (res1 rfl rfl) ?_ _
  exact ⟨_, rfl, rfl, (Mod.drew _ _).trans hg2⟩
theorem IM.find {M X : Nat → Prop} {w : World} {ix : Nat} {has : List (Int × List Lab)} {rows : List (LabK × List Int)} (hI : IM M X w ix has rows) (h : Mt → List Lab → Bool) (ms : List Mt) (hh : ∀ m ∈ ms, HoldsC h m) (heq : ∀ m ∈ ms, m.kind = 1 → m.value ≠ ByteArray.empty → ∀ ls, h m ls = true → getL ls m.name = m.value) (v : Value) (hv : SlM No w v ms) :
    Fx Tryz.prog 30 [pp ix, v] w (fun u w' => (∃ R : List Int, Row w' 3 1 u R.length (ints R) ∧ Ris R ∧ ∀ id, id ∈ R ↔ ∃ ls, (id, ls) ∈ has ∧ (ms.all fun m => h m ls) = true) ∧ Fresh w.heap.size u ∧ Grow w w') := by
  obtain ⟨mh, mr, hi, h2⟩ := hI.at_
  obtain ⟨adm, cm, rfl⟩ := hv.shape
  have hlook : ∀ id ls, (id, ls) ∈ has → (lookM has id).getD [] = ls := fun id ls hm => by rw [(lookM_iff hI.inv.nd).2 hm]; rfl
  have hids : (idsS has).length = has.length := by unfold idsS; rw [sortI_len]; simp
  have hl1000 := hI.len
  have hbig := hv.big
  have hpost : ∀ m ∈ ms, m.kind = 1 → m.value ≠ ByteArray.empty → ∀ id ls, (id, ls) ∈ has → h m ls = true → id ∈ (lookM rows (m.name, m.value)).getD [] := fun m hm hk hne id ls hmem hho => by
    have hg := heq m hm hk hne ls hho
    refine (hI.inv.mem _ _).2 ⟨ls, hmem, ?_⟩
    unfold getL at hg
    cases hf : ls.find? (fun x => decide (x.name = m.name)) with
    | none => rw [hf] at hg; exact absurd hg.symm hne
    | some x =>
      rw [hf] at hg
      have hx := List.find?_some hf
      refine ⟨x, List.mem_of_find?_eq_some hf, ?_⟩
      simp only [labK]
      rw [show x.name = m.name by simpa using hx, show x.value = m.value by simpa using hg]
  refine enter Tryz.func30 rfl rfl rfl _ (Pick.sub (l := [0, 1]) (.cons rfl (.cons rfl .nil))) ?_
  refine RK.seq ?_
  refine RK.region ?_
  refine RL.op (.free rfl) rfl rfl (Does.box rfl) ?_
  rintro _ w1 ⟨b2, rfl, hn2⟩
  refine RL.op (.free rfl) rfl rfl (Does.box rfl) ?_
  rintro _ w2 ⟨b3, rfl, hn3⟩
  have hg02 := hn2.grow.trans hn3.grow
  have hB2 := hn2.blk.mod hn3.grow (fun h => h)
  have hB3 := hn3.blk
  refine RL.p rfl rfl ?_
  refine RL.done ?_
  refine RK.seq ?_
  refine RK.region ?_
  refine RL.q (.free rfl) rfl rfl (Yld.load p42 rfl (at1 (hB2.cell rfl))) ?_
  refine RL.op (.free rfl) rfl rfl (Does.call rfl e41 ((hI.grow hg02).ids)) ?_
  rintro u3 w3 ⟨hr3, hf3, hg3⟩
  refine RL.p rfl rfl ?_
  refine RL.done ?_
  iterate 2 refine RK.seq ?_
  refine RK.region ?_
  refine RL.q (.free rfl) rfl rfl (Yld.load p51 rfl (at1 ((hB3.mod hg3 (fun h => h)).cell rfl))) ?_
  have hg03 := hg02.trans hg3
  have hs02 := hg02.size
  refine RL.q (.free rfl) rfl rfl (Yld.lenSl u51 rfl) ?_
  refine RL.p rfl rfl ?_
  refine RL.done ?_
  refine RK.block ?_
  refine RK.loop (fun s : Nat × Value => [(2, pp b2), (3, pp b3), (10, .slice adm ms.length cm), (11, .int .i64 ms.length), (12, .int .i64 (s.1 : Int)), (5, s.2)]) (fun s w' => (∃ R : List Int, Row w' 3 1 s.2 R.length (ints R) ∧ Ris R ∧ (∀ id ∈ R, id ∈ idsS has) ∧ R.length ≤ 1000 ∧ ∀ id ls, (id, ls) ∈ has → (ms.all fun m => h m ls) = true → id ∈ R) ∧ Fresh w2.heap.size s.2 ∧ Grow w2 w' ∧ s.1 ≤ ms.length) (fun s => ms.length - s.1) (0, u3) ⟨rfl, rfl, rfl, rfl, rfl, rfl, trivial⟩ ⟨⟨idsS has, hr3, idsS_ris hI.inv.nd, fun id h => h, by omega, fun id ls hm _ => mem_idsS.2 (List.mem_map_of_mem (f := fun t : Int × List Lab => t.1) hm)⟩, hf3, hg3, by simp⟩ (fun s w' hI' ih => ?_)
  obtain ⟨k, u⟩ := s
  obtain ⟨⟨R, hr, hris, hsub, hRl, hall⟩, hf, hg, hk⟩ := hI'
  simp only at hr hf hk
  have hg0 := hg02.trans hg
  refine RK.seq ?_
  refine RK.region ?_
  refine RL.p rfl rfl ?_
  refine RL.done ?_
  refine RK.seq ?_
  first | refine RK.condD rfl (fun h13 => ?_) (fun h13 => ?_) | refine RK.condN rfl (fun h13 => ?_) (fun h13 => ?_) | refine RK.cond rfl (fun h13 => ?_) (fun h13 => ?_)
  · obtain ⟨x, hx⟩ : ∃ x, ms[k]? = some x := ⟨ms[k]'(by omega), List.getElem?_eq_getElem (by omega)⟩
    obtain ⟨b1, o1, c1', he1, _, _, hc1⟩ := hv.elem mtC_len hx
    cases he1
    refine RK.skip ?_
    refine RK.seq ?_
    refine RK.block ?_
    refine RK.seq ?_
    refine RK.region ?_
    refine RL.q (.free rfl) rfl rfl (Yld.indexAddrN u51 i50 rfl rfl (by omega)) ?_
    refine RL.q (.free rfl) rfl rfl (Yld.loadN (cs := [.int .i64 x.kind, .string x.name, .string x.value]) a50 rfl (atN (fun q z hq => hg0.cell (hc1 q z hq) (fun h => h)))) ?_
    refine RL.op (.free rfl) rfl rfl (Does.alloc i50) ?_
    rintro _ w7 ⟨b7, rfl, hn7⟩
    refine RL.op' (.free rfl) rfl (Does.storeN i50 rfl rfl rfl rfl hn7.blk (Nat.le_refl 3)) ?_
    rintro _ w8 ⟨hb8, hm8, _⟩
    have hB8 : Blk w8 b7 50 [.int .i64 x.kind, .string x.name, .string x.value] := hb8
    have hg8 : Grow w' w8 := hn7.grow.then hm8 (fun y hy e => by have e' : y = b7 := e; have := hn7.at_; omega)
    refine RL.done ?_
    refine RK.seq ?_
    refine RK.region ?_
    refine RL.q (.free rfl) rfl rfl (Yld.fieldAddr fo50_0 rfl) ?_
    refine RL.q (.free rfl) rfl rfl (Yld.load p3 rfl (at1 (hB8.cell rfl))) ?_
    iterate 2 refine RL.p rfl rfl ?_
    first | refine RL.splitD (d := 19) rfl rfl (fun h19 => ?_) (fun h19 => ?_) | refine RL.splitN (d := 19) rfl rfl (fun h19 => ?_) (fun h19 => ?_) | refine RL.split (d := 19) rfl rfl (fun h19 => ?_) (fun h19 => ?_)
    · refine RL.q (.yes rfl rfl rfl) rfl rfl (Yld.fieldAddr fo50_2 rfl) ?_
      refine RL.q (.yes rfl rfl rfl) rfl rfl (Yld.load p9 rfl (at1 (hB8.cell rfl))) ?_
      refine RL.q (.yes rfl rfl rfl) rfl rfl (Yld.pure rfl) ?_
      refine RL.p rfl rfl ?_
      refine RL.done ?_
      first | refine RK.condD rfl (fun h23 => ?_) (fun h23 => ?_) | refine RK.condN rfl (fun h23 => ?_) (fun h23 => ?_) | refine RK.cond rfl (fun h23 => ?_) (fun h23 => ?_)
      · refine RK.region ?_
        refine RL.p rfl rfl ?_
        refine RL.q (.free rfl) rfl rfl (Yld.load p42 rfl (at1 ((hB2.mod (hg.trans hg8) (fun h => h)).cell rfl))) ?_
        refine RL.q (.free rfl) rfl rfl (Yld.fieldAddr fo50_1 rfl) ?_
        refine RL.q (.free rfl) rfl rfl (Yld.load p9 rfl (at1 (hB8.cell rfl))) ?_
        refine RL.q (.free rfl) rfl rfl (Yld.fieldAddr fo50_2 rfl) ?_
        refine RL.q (.free rfl) rfl rfl (Yld.load p9 rfl (at1 (hB8.cell rfl))) ?_
        refine RL.op (.free rfl) rfl rfl (Does.call rfl e45 ((hI.grow (hg0.trans hg8)).posting x.name x.value)) ?_
        rintro u9 w9 ⟨hr9, hf9, hg9⟩
        refine RL.op (.free rfl) rfl rfl (Does.call rfl e48 (and_ok No R ((lookM rows (x.name, x.value)).getD []) u u9 _ (Sl.own (hr.mod (hg8.trans hg9) (fun _ _ h => h)) (fun _ _ h => h)) (Sl.own hr9 (fun _ _ h => h)) (by omega))) ?_
        rintro u10 w10 ⟨hr10, hf10, hg10⟩
        rw [mkRow_id hris] at hr10
        have hg210 := ((hg.trans hg8).trans hg9).trans hg10
        refine RL.p rfl rfl ?_
        refine RL.done ?_
        refine RK.inBlock ?_
        refine RK.region ?_
        refine RL.p rfl rfl ?_
        refine RL.re (d := 32) rfl rfl (succ_i64 (by omega)) ?_
        refine RL.p rfl rfl ?_
        refine RL.done ?_
        exact RK.back (ih (k + 1, u10) _ ⟨⟨R.filter fun n => ((lookM rows (x.name, x.value)).getD []).contains n, hr10, hris.sublist List.filter_sublist, fun id hid => hsub id (List.mem_filter.1 hid).1, Nat.le_trans (List.length_filter_le _ _) hRl, fun id ls hm hal => List.mem_filter.2 ⟨hall id ls hm hal, by
            have := hpost x (List.mem_of_getElem? hx) (by first | assumption | (simp_all; done)) (by first | assumption | (simp_all; done)) id ls hm (List.all_eq_true.1 hal x (List.mem_of_getElem? hx))
            simpa using this⟩⟩, fun b e => by have := hf10 b e; have := ((hg.trans hg8).trans hg9).size; omega, hg210, by simp only; omega⟩ (by simp only; omega)) ⟨rfl, rfl, rfl, rfl, rfl, rfl, trivial⟩
      · refine RK.skip ?_
        refine RK.inBlock ?_
        refine RK.region ?_
        refine RL.p rfl rfl ?_
        refine RL.re (d := 32) rfl rfl (succ_i64 (by omega)) ?_
        refine RL.p rfl rfl ?_
        refine RL.done ?_
        exact RK.back (ih (k + 1, u) _ ⟨⟨R, hr.mod hg8 (fun _ _ h => h), hris, hsub, hRl, hall⟩, hf, hg.trans hg8, by simp only; omega⟩ (by simp only; omega)) ⟨rfl, rfl, rfl, rfl, rfl, rfl, trivial⟩
    · iterate 3 refine RL.no (.no rfl rfl rfl rfl) rfl rfl ?_
      refine RL.p rfl rfl ?_
      refine RL.done ?_
      first | refine RK.condD rfl (fun h23 => ?_) (fun h23 => ?_) | refine RK.condN rfl (fun h23 => ?_) (fun h23 => ?_) | refine RK.cond rfl (fun h23 => ?_) (fun h23 => ?_)
      · refine RK.region ?_
        refine RL.p rfl rfl ?_
        refine RL.q (.free rfl) rfl rfl (Yld.load p42 rfl (at1 ((hB2.mod (hg.trans hg8) (fun h => h)).cell rfl))) ?_
        refine RL.q (.free rfl) rfl rfl (Yld.fieldAddr fo50_1 rfl) ?_
        refine RL.q (.free rfl) rfl rfl (Yld.load p9 rfl (at1 (hB8.cell rfl))) ?_
        refine RL.q (.free rfl) rfl rfl (Yld.fieldAddr fo50_2 rfl) ?_
        refine RL.q (.free rfl) rfl rfl (Yld.load p9 rfl (at1 (hB8.cell rfl))) ?_
        refine RL.op (.free rfl) rfl rfl (Does.call rfl e45 ((hI.grow (hg0.trans hg8)).posting x.name x.value)) ?_
        rintro u9 w9 ⟨hr9, hf9, hg9⟩
        refine RL.op (.free rfl) rfl rfl (Does.call rfl e48 (and_ok No R ((lookM rows (x.name, x.value)).getD []) u u9 _ (Sl.own (hr.mod (hg8.trans hg9) (fun _ _ h => h)) (fun _ _ h => h)) (Sl.own hr9 (fun _ _ h => h)) (by omega))) ?_
        rintro u10 w10 ⟨hr10, hf10, hg10⟩
        rw [mkRow_id hris] at hr10
        have hg210 := ((hg.trans hg8).trans hg9).trans hg10
        refine RL.p rfl rfl ?_
        refine RL.done ?_
        refine RK.inBlock ?_
        refine RK.region ?_
        refine RL.p rfl rfl ?_
        refine RL.re (d := 32) rfl rfl (succ_i64 (by omega)) ?_
        refine RL.p rfl rfl ?_
        refine RL.done ?_
        exact RK.back (ih (k + 1, u10) _ ⟨⟨R.filter fun n => ((lookM rows (x.name, x.value)).getD []).contains n, hr10, hris.sublist List.filter_sublist, fun id hid => hsub id (List.mem_filter.1 hid).1, Nat.le_trans (List.length_filter_le _ _) hRl, fun id ls hm hal => List.mem_filter.2 ⟨hall id ls hm hal, by
            have := hpost x (List.mem_of_getElem? hx) (by first | assumption | (simp_all; done)) (by first | assumption | (simp_all; done)) id ls hm (List.all_eq_true.1 hal x (List.mem_of_getElem? hx))
            simpa using this⟩⟩, fun b e => by have := hf10 b e; have := ((hg.trans hg8).trans hg9).size; omega, hg210, by simp only; omega⟩ (by simp only; omega)) ⟨rfl, rfl, rfl, rfl, rfl, rfl, trivial⟩
      · refine RK.skip ?_
        refine RK.inBlock ?_
        refine RK.region ?_
        refine RL.p rfl rfl ?_
        refine RL.re (d := 32) rfl rfl (succ_i64 (by omega)) ?_
        refine RL.p rfl rfl ?_
        refine RL.done ?_
        exact RK.back (ih (k + 1, u) _ ⟨⟨R, hr.mod hg8 (fun _ _ h => h), hris, hsub, hRl, hall⟩, hf, hg.trans hg8, by simp only; omega⟩ (by simp only; omega)) ⟨rfl, rfl, rfl, rfl, rfl, rfl, trivial⟩
  · refine RK.exit rfl ?_
    refine RK.seq ?_
    refine RK.region ?_
    iterate 2 refine RL.p rfl rfl ?_
    refine RL.op (.free rfl) rfl rfl (Does.call rfl e88 (deleteFuncI_ok w2 R u _ (fun id => !ms.all fun m => h m ((lookM has id).getD [])) _ hr hf hg ⟨_, _, rfl, e89, fun n w9 hg9 => find1M_ok h ms hh _ w9 ix mh mr has rows (hi.mod (hg02.trans hg9) (fun _ _ h => h.elim) (fun h => h) (fun h => h) (fun h => h)) b2 b3 _ (hv.mod (hg02.trans hg9)) (hB2.mod hg9 (fun h => h)) (hB3.mod hg9 (fun h => h)) n⟩)) ?_
    rintro u9 w9 ⟨hr9, hu9, hm9⟩
    refine RL.p rfl rfl ?_
    refine RL.done ?_
    refine RK.ret_of Tryz.func30 (res1 rfl rfl) ?_ _
    exact ⟨_, rfl, ⟨_, hr9, hris.sublist List.filter_sublist, fun id => by
        unfold keepI
        rw [List.mem_filter]
        dsimp only
        constructor
        · rintro ⟨a, b⟩
          obtain ⟨t, ht, e⟩ := List.mem_map.1 (mem_idsS.1 (hsub id a))
          have e2 := hlook t.1 t.2 ht
          subst e
          rw [e2] at b
          exact ⟨t.2, ht, by simpa using b⟩
        · rintro ⟨ls, hm, hal⟩
          refine ⟨hall id ls hm hal, ?_⟩
          rw [hlook id ls hm, hal]; rfl⟩, fun b e => by rw [hu9] at e; have := hf b e; omega, (hg02.trans hg).then hm9 (fun b hb e => by have := hf b e; omega)⟩
end Go.Proofs.YtffbcfcoddacmaaGreat

