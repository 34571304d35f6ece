/- Rows cut, appended to in their own room, cleared. Nothing is assumed. -/
import Derived.Test.YtffbcfcoddacmaaGreatX15
set_option linter.unusedVariables false
set_option linter.unusedSimpArgs false
namespace Go.X
open Go Go.RowKit

/-- A row's block, whole: its cells, its room. -/
theorem Row.whole {w : World} {t : TypeId} {sz : Nat} {v : Value} {k : Nat} {xs : List Value} (h : Row w t sz v k xs) (hk : 0 < k) : ∃ g cap cs, v = .slice (some ⟨g, 0, none⟩) k cap ∧ Blk w g t cs ∧ cs.length = cap * sz ∧ k ≤ cap ∧ cap ≤ maxLen ∧ cs.take (k * sz) = xs := by
  rcases h.2 with ⟨rfl, rfl⟩ | ⟨g, cap, cur, rfl, _, hg, h1, h2, h3, h4⟩
  · omega
  · exact ⟨g, cap, cur.toList, rfl, by unfold Blk; simpa using hg, by simpa using h3, h1, h2, h4⟩
theorem Row.shut {w : World} {t g sz cap k : Nat} {cs : List Value} (h : Blk w g t cs) (hl : cs.length = cap * sz) (hk : k ≤ cap) (hc : cap ≤ maxLen) : Row w t sz (.slice (some ⟨g, 0, none⟩) k cap) k (cs.take (k * sz)) :=
  ⟨by rw [List.length_take, hl]; exact Nat.min_eq_left (Nat.mul_le_mul_right _ hk), .inr ⟨g, cap, cs.toArray, rfl, Nat.zero_le _, h, hk, hc, by simpa using hl, by simp⟩⟩
section
variable {P : Program} {n : Nat} {e : Env} {w : World} {C : World → Prop}
theorem Blk.setRow {g t : Nat} {cs cs' : List Value} (h : Blk w g t cs) : Blk (w.setRow g cs'.toArray) g t cs' ∧ Mod (· = g) w (w.setRow g cs'.toArray) ∧ (w.setRow g cs'.toArray).heap.size = w.heap.size := by
  have hlt := h.lt
  unfold Blk at h
  have e : w.setRow g cs'.toArray = { w with heap := w.heap.setIfInBounds g (.cells cs'.toArray t (0, 0)) } := by
    have h' : w.heap[g] = Obj.cells cs.toArray t := (Array.getElem?_eq_some_iff.1 h).2
    simp [World.setRow, Array.modify, Array.modifyM, hlt, h', Array.setIfInBounds]
  rw [e]
  exact ⟨by simp [Blk, hlt], ⟨rfl, rfl, rfl, by simp, fun k hk hn => by simp [Array.getElem?_setIfInBounds_ne (Ne.symm hn)]⟩, by simp⟩
/-- An append that has room where the row lies. -/
theorem Does.appendIn {d : Option Tmp} {t el : Nat} {s x : Operand} {ty : TypeId} {pos : String} {af : Array Edge} {g' : Option (Nat × Bool)} (ht : SlT P t el) {z : Value} {sz by' : Nat} (hT : TI P el z sz by')
    {g i cap m : Nat} {u : Value} {cs news : List Value} (hs : ev e s = some (.slice (some ⟨g, 0, none⟩) i cap)) (hx : ev e x = some u) (hb : Blk w g el cs) (hl : cs.length = cap * sz) (hu : Sl No w u sz m news) (h1 : news.all (·.oneCell') = true) (hroom : i + m ≤ cap) :
    Does P n e w ⟨d, .call { callee := .builtin .append, args := #[s, x], argTypes := #[t, t] }, ty, pos, af, g'⟩
      (fun v' w' => v' = .slice (some ⟨g, 0, none⟩) (i + m) cap ∧ (∃ cs', Blk w' g el cs' ∧ cs'.length = cs.length ∧ cs'.take ((i + m) * sz) = cs.take (i * sz) ++ news) ∧ Mod (· = g) w w' ∧ w'.heap.size = w.heap.size) := by
  obtain ⟨q, hi, hz, hs', hby⟩ := hT.out
  obtain ⟨ad, c, rfl, hf⟩ := hu.form
  have hln := hu.len
  by_cases hm : m = 0
  · subst hm
    have hn : news = [] := List.eq_nil_of_length_eq_zero (by simpa using hln)
    subst hn
    refine Does.of_run (v := .slice (some ⟨g, 0, none⟩) (i + 0) cap) (w' := w) (fun a ha => ?_) ⟨rfl, ⟨cs, hb, rfl, by simp⟩, Mod.refl _ _, rfl⟩
    have hroom' : i ≤ cap := by omega
    cases ad <;> simp [execOp, resolve, invoke, builtin, ha.ev hs, ha.ev hx, Builtin.append_, run_underlying ht, sizeOf, typeInfo, hi, Builtin.lenOf, Builtin.firstCells, hroom', storeCells, loadCells, loadCellsFrom]
  · obtain ⟨b, o, rfl, _, hc⟩ := hf (by omega)
    have hfit : i * sz + news.length ≤ cs.length := by rw [hln, hl, ← Nat.add_mul]; exact Nat.mul_le_mul_right _ hroom
    have hr := run_append_room (P := P) (w := w) t ty el q ht hi g i cap cs.toArray hb ⟨b, o, none⟩ m c news (by rw [hln, hs']) (fun j u hj => by rw [add_none]; exact hc j u hj) (List.all_eq_true.1 h1) hroom (by rw [hs']; simpa using hfit)
    obtain ⟨g1, g2, g3⟩ := hb.setRow (cs' := (cs.toArray.toList.take (i * q.size) ++ news ++ cs.toArray.toList.drop (i * q.size + news.length)))
    refine Does.of_run (v := _) (w' := _) (fun a ha => ?_) ⟨rfl, ⟨_, g1, ?_, ?_⟩, g2, g3⟩
    · simp only [execOp, resolve, invoke, builtin, Array.map, ha.ev hs, ha.ev hx]
      simp [ha.ev hs, ha.ev hx, hr]
    · rw [hs']
      simp only [List.length_append, List.length_take, List.length_drop]
      omega
    · rw [hs']
      have e1 : (cs.take (i * sz) ++ news).length = (i + m) * sz := by
        rw [List.length_append, List.length_take, hln, Nat.min_eq_left (by omega), Nat.add_mul]
      simp only []
      rw [← e1, List.take_left]
/-- Part of a slice. -/
theorem Yld.sliceLH {d : Option Tmp} {t el : Nat} {x l h : Operand} {ty : TypeId} {pos : String} {af : Array Edge} {g : Option (Nat × Bool)} (hT : SlT P t el) {z : Value} {sz by' : Nat} (hE : TI P el z sz by') {ad : Option Addr} {len cap lo hi : Nat} {k k' : IntKind} (hx : ev e x = some (.slice ad len cap)) (hl : ev e l = some (.int k (lo : Int))) (hh : ev e h = some (.int k' (hi : Int))) (h1 : lo ≤ hi) (h2 : hi ≤ cap) :
    Yld P n C e ⟨d, .slice t x (some l) (some h) none, ty, pos, af, g⟩ (.slice (fromAt ad cap lo sz) (hi - lo) (cap - lo)) := by
  intro a ha w _
  have e1 : (hi : Int) ≤ cap := by omega
  have e2 : (lo : Int) ≤ hi := by omega
  cases ad with
  | none => simp [execOp, ha.ev hx, ha.ev hl, ha.ev hh, Instr.sliceAt, Instr.slice, run_underlying hT, Instr.sliceBounds, Instr.sliceBound, asIntOf, hE.sizeOf w, e1, e2, h1, h2, fromAt]
  | some ad =>
    by_cases hcm : cap = lo
    · subst hcm
      obtain rfl : hi = cap := by omega
      simp [execOp, ha.ev hx, ha.ev hl, ha.ev hh, Instr.sliceAt, Instr.slice, run_underlying hT, Instr.sliceBounds, Instr.sliceBound, asIntOf, hE.sizeOf w, fromAt]
    · simp [execOp, ha.ev hx, ha.ev hl, ha.ev hh, Instr.sliceAt, Instr.slice, run_underlying hT, Instr.sliceBounds, Instr.sliceBound, asIntOf, hE.sizeOf w, e1, e2, h1, h2, hcm, fromAt]
theorem Yld.slice3 {d : Option Tmp} {t el : Nat} {x l h m : Operand} {ty : TypeId} {pos : String} {af : Array Edge} {g : Option (Nat × Bool)} (hT : SlT P t el) {z : Value} {sz by' : Nat} (hE : TI P el z sz by') {ad : Option Addr} {len cap lo hi mx : Nat} {k k' k2 : IntKind} (hx : ev e x = some (.slice ad len cap)) (hl : ev e l = some (.int k (lo : Int))) (hh : ev e h = some (.int k' (hi : Int))) (hm : ev e m = some (.int k2 (mx : Int))) (h1 : lo ≤ hi) (h2 : hi ≤ mx) (h3 : mx ≤ cap) :
    Yld P n C e ⟨d, .slice t x (some l) (some h) (some m), ty, pos, af, g⟩ (.slice (fromAt ad mx lo sz) (hi - lo) (mx - lo)) := by
  intro a ha w _
  have e1 : (hi : Int) ≤ mx := by omega
  have e2 : (lo : Int) ≤ hi := by omega
  have e3 : (mx : Int) ≤ cap := by omega
  cases ad with
  | none => simp [execOp, ha.ev hx, ha.ev hl, ha.ev hh, ha.ev hm, Instr.sliceAt, Instr.slice, run_underlying hT, Instr.sliceBounds, Instr.sliceBound, asIntOf, hE.sizeOf w, e1, e2, e3, h1, h2, h3, fromAt]
  | some ad =>
    by_cases hcm : mx = lo
    · subst hcm
      obtain rfl : hi = mx := by omega
      simp [execOp, ha.ev hx, ha.ev hl, ha.ev hh, ha.ev hm, Instr.sliceAt, Instr.slice, run_underlying hT, Instr.sliceBounds, Instr.sliceBound, asIntOf, hE.sizeOf w, e3, h3, fromAt]
    · simp [execOp, ha.ev hx, ha.ev hl, ha.ev hh, ha.ev hm, Instr.sliceAt, Instr.slice, run_underlying hT, Instr.sliceBounds, Instr.sliceBound, asIntOf, hE.sizeOf w, e1, e2, e3, h1, h2, h3, hcm, fromAt]
/-- The end of a row is cleared: what is ahead of it stays. -/
theorem Does.clear {d : Option Tmp} {t el : Nat} {x : Operand} {ty : TypeId} {pos : String} {af : Array Edge} {g' : Option (Nat × Bool)} (ht : SlT P t el) {z : Value} {sz by' : Nat} (hT : TI P el z sz by') (hzs : z.cells.size = sz) (hz1 : z.cells.all (·.oneCell') = true)
    {g lo m cap c : Nat} {cs : List Value} (hx : ev e x = some (.slice (fromAt (some ⟨g, 0, none⟩) cap lo sz) m c)) (hb : Blk w g el cs) (hl : cs.length = cap * sz) (hroom : lo + m ≤ cap) :
    Does P n e w ⟨d, .call { callee := .builtin .clear, args := #[x], argTypes := #[t] }, ty, pos, af, g'⟩
      (fun _ w' => (∃ cs', Blk w' g el cs' ∧ cs'.length = cs.length ∧ cs'.take (lo * sz) = cs.take (lo * sz)) ∧ Mod (· = g) w w' ∧ w'.heap.size = w.heap.size) := by
  by_cases hm : m = 0
  · subst hm
    refine Does.of_run (v := .tuple #[]) (w' := w) (fun a ha => ?_) ⟨⟨cs, hb, rfl, rfl⟩, Mod.refl _ _, rfl⟩
    simp only [fromAt, Option.map_some] at hx
    simp [execOp, resolve, invoke, builtin, ha.ev hx, Builtin.clear_, run_underlying ht]
  · have hne : ¬ cap = lo := by omega
    simp only [fromAt, Option.map_some, if_neg hne, add_none, Nat.zero_add] at hx
    have hsz : (Builtin.zeroCells z.cells m).toList.length = m * sz := by simp [Builtin.zeroCells, hzs]
    have hone : ∀ v ∈ (Builtin.zeroCells z.cells m).toList, v.oneCell' = true := fun v hv => by
      simp only [Builtin.zeroCells, Array.toList_map, List.mem_map] at hv
      obtain ⟨i, hi, rfl⟩ := hv
      have hi' : i < m * sz := by simpa [hzs] using hi
      have h0 : 0 < sz := by rcases Nat.eq_zero_or_pos sz with h | h; (rw [h] at hi'; omega); exact h
      have hlt : i % z.cells.size < z.cells.size := Nat.mod_lt _ (by omega)
      rw [getElem!_pos z.cells _ hlt]
      exact Array.all_eq_true.1 hz1 _ hlt
    have hfit : lo * sz + 0 + (Builtin.zeroCells z.cells m).toList.length ≤ cs.toArray.size := by
      rw [hsz, Nat.add_zero, ← Nat.add_mul]
      simp only [List.size_toArray, hl]
      exact Nat.mul_le_mul_right _ hroom
    have hr := run_storeCells_at (P := P) g (lo * sz) el (Builtin.zeroCells z.cells m).toList 0 cs.toArray w hb hfit hone
    obtain ⟨g1, g2, g3⟩ := hb.setRow (cs' := (cs.toArray.toList.take (lo * sz + 0) ++ (Builtin.zeroCells z.cells m).toList ++ cs.toArray.toList.drop (lo * sz + 0 + (Builtin.zeroCells z.cells m).toList.length)))
    rw [hsz] at hfit
    simp only [List.size_toArray] at hfit
    refine Does.of_run (v := .tuple #[]) (w' := _) (fun a ha => ?_) ⟨⟨_, g1, ?_, ?_⟩, g2, g3⟩
    · obtain ⟨q, rfl⟩ : ∃ q, m = q + 1 := ⟨m - 1, by omega⟩
      simp [execOp, resolve, invoke, builtin, ha.ev hx, Builtin.clear_, run_underlying ht, hT.zero w, hr]
    · simp only [List.length_append, List.length_take, List.length_drop, hsz]
      omega
    · simp only [Nat.add_zero]
      have e1 : (cs.take (lo * sz)).length = lo * sz := by rw [List.length_take]; omega
      rw [List.append_assoc, List.take_append_of_le_length (by omega), List.take_take]
      simp
end
end Go.X
namespace Go.X
open Go Go.RowKit
theorem Sl.ofBlk {M : Nat → Prop} {w : World} {g t sz cap lo m c : Nat} {cs : List Value} (h : Blk w g t cs) (hl : cs.length = cap * sz) (hr : lo + m ≤ cap) (hM : ¬ M g) (hb : m ≤ 9223372036854775807) : Sl M w (.slice (fromAt (some ⟨g, 0, none⟩) cap lo sz) m c) sz m ((cs.drop (lo * sz)).take (m * sz)) := by
  have h1 : (lo + m) * sz ≤ cap * sz := Nat.mul_le_mul_right _ hr
  rw [Nat.add_mul] at h1
  refine ⟨by rw [List.length_take, List.length_drop, hl]; omega, hb, _, _, rfl, fun h0 => ?_⟩
  have hne : ¬ cap = lo := by omega
  refine ⟨g, lo * sz, ?_, hM, fun i u hi => ?_⟩
  · simp [fromAt, hne, add_none]
  · rw [List.getElem?_take] at hi
    split at hi
    · rw [List.getElem?_drop] at hi
      exact h.cell' hi
    · cases hi
theorem flat_take {α : Type} (f : α → List Value) (sz : Nat) (hf : ∀ x, (f x).length = sz) : ∀ (xs : List α) (i : Nat), (xs.flatMap f).take (i * sz) = (xs.take i).flatMap f
  | [], i => by simp
  | x :: xs, 0 => by simp
  | x :: xs, i + 1 => by
    have e : (i + 1) * sz = (f x).length + i * sz := by rw [hf, Nat.add_mul]; omega
    rw [List.flatMap_cons, e, List.take_length_add_append, flat_take f sz hf xs i, List.take_succ_cons, List.flatMap_cons]
theorem flat_drop {α : Type} (f : α → List Value) (sz : Nat) (hf : ∀ x, (f x).length = sz) : ∀ (xs : List α) (i : Nat), (xs.flatMap f).drop (i * sz) = (xs.drop i).flatMap f
  | [], i => by simp
  | x :: xs, 0 => by simp
  | x :: xs, i + 1 => by
    have e : (i + 1) * sz = (f x).length + i * sz := by rw [hf, Nat.add_mul]; omega
    rw [List.flatMap_cons, e, List.drop_length_add_append, flat_drop f sz hf xs i, List.drop_succ_cons]
end Go.X
