/- Operations that turn the world: new blocks, stores, appends, calls. Nothing is assumed. -/
import Derived.Test.YtffbcfcoddacmaaGreatX1
import Derived.Laws.CopyRow
set_option linter.unusedVariables false
set_option linter.unusedSimpArgs false
namespace Go.X
open Go Go.RowKit

/-! ### a block that is known whole -/
def Blk (w : World) (b : Nat) (t : TypeId) (cs : List Value) : Prop := w.heap[b]? = some (.cells cs.toArray t (0, 0))
theorem Blk.cell {w : World} {b t : Nat} {cs : List Value} (h : Blk w b t cs) {o : Nat} {v : Value} (hn : nthV cs o = some v) : w.cell? ⟨b, o, none⟩ = some v := by
  rw [nthV_eq] at hn
  unfold Blk at h
  simp [World.cell?, h, hn]
theorem Blk.cell' {w : World} {b t : Nat} {cs : List Value} (h : Blk w b t cs) {o : Nat} {v : Value} (hn : cs[o]? = some v) : w.cell? ⟨b, o, none⟩ = some v := h.cell (by rw [nthV_eq]; exact hn)
theorem Blk.lt {w : World} {b t : Nat} {cs : List Value} (h : Blk w b t cs) : b < w.heap.size := (Array.getElem?_eq_some_iff.1 h).1
theorem Blk.mod {M : Nat → Prop} {w w' : World} {b t : Nat} {cs : List Value} (h : Blk w b t cs) (hm : Mod M w w') (hb : ¬ M b) : Blk w' b t cs := hm.heap h hb
theorem Blk.still {w w' : World} {b t : Nat} {cs : List Value} (h : Blk w b t cs) (hs : Still w w') : Blk w' b t cs := by unfold Blk; rw [hs.heap]; exact h
inductive SetAt : List Value → Nat → Value → List Value → Prop
  | z {u v : Value} {l : List Value} : SetAt (u :: l) 0 v (v :: l)
  | s {u v : Value} {i : Nat} {l l' : List Value} : SetAt l i v l' → SetAt (u :: l) (i + 1) v (u :: l')
theorem SetAt.eq {l l' : List Value} {i : Nat} {v : Value} (h : SetAt l i v l') : l' = l.set i v ∧ i < l.length := by
  induction h with
  | z => simp
  | s _ ih => simp [ih.1, ih.2]
/-- A new block stands at 'b'. -/
structure New (w w' : World) (b : Nat) (t : TypeId) (cs : List Value) : Prop where
  at_ : b = w.heap.size
  blk : Blk w' b t cs
  grow : Grow w w'
  size : w'.heap.size = w.heap.size + 1
theorem New.of (w : World) (t : TypeId) (cs : List Value) : New w (w.alloc (.cells cs.toArray t)) w.heap.size t cs :=
  ⟨rfl, heap_alloc_new w _, Mod.alloc _ _ _, by simp⟩
theorem New.lt {w w' : World} {b t : Nat} {cs : List Value} (h : New w w' b t cs) : b < w'.heap.size := h.blk.lt
theorem New.ne {w w' : World} {b t : Nat} {cs : List Value} (h : New w w' b t cs) {k : Nat} (hk : k < w.heap.size) : k ≠ b := by have := h.at_; omega

section
variable {P : Program} {n : Nat} {e : Env} {w : World}

theorem Does.alloc {d : Option Tmp} {t : Nat} {ty : TypeId} {pos : String} {af : Array Edge} {g : Option (Nat × Bool)} {z : Value} {sz by' : Nat} (hT : TI P t z sz by') :
    Does P n e w ⟨d, .alloc t, ty, pos, af, g⟩ (fun v w' => ∃ b, v = .pointer (some ⟨b, 0, none⟩) ∧ New w w' b t z.cells.toList) := by
  refine Does.of_run (w' := w.alloc (.cells z.cells t)) (v := .pointer (some ⟨w.heap.size, 0, none⟩)) (fun a ha => ?_) ⟨_, rfl, by have := New.of w t z.cells.toList; simpa using this⟩
  simp [execOp, Instr.alloc, hT.zero w, newVar, newRow]
theorem Does.box {d : Option Tmp} {t : Nat} {x : Operand} {ty : TypeId} {pos : String} {af : Array Edge} {g : Option (Nat × Bool)} {v : Value} (hx : ev e x = some v) :
    Does P n e w ⟨d, .box t x, ty, pos, af, g⟩ (fun u w' => ∃ b, u = .pointer (some ⟨b, 0, none⟩) ∧ New w w' b t v.cells.toList) := by
  refine Does.of_run (w' := w.alloc (.cells v.cells t)) (v := .pointer (some ⟨w.heap.size, 0, none⟩)) (fun a ha => ?_) ⟨_, rfl, by have := New.of w t v.cells.toList; simpa using this⟩
  simp [execOp, ha.ev hx, Instr.box, newVar, newRow]
/-- A store of so many cells into a known block. -/
theorem Does.storeN {d : Option Tmp} {t : Nat} {x y : Operand} {ty : TypeId} {pos : String} {af : Array Edge} {g : Option (Nat × Bool)} {z : Value} {sz by' : Nat} (hT : TI P t z sz by') {b o T : Nat} {v : Value} {cs : List Value} (hx : ev e x = some (.pointer (some ⟨b, o, none⟩))) (hy : ev e y = some v)
    (hs : v.cells.size = sz) (h1 : v.cells.toList.all (·.oneCell') = true) (hb : Blk w b T cs) (hl : o + sz ≤ cs.length) :
    Does P n e w ⟨d, .store t x y, ty, pos, af, g⟩ (fun _ w' => Blk w' b T (cs.take o ++ v.cells.toList ++ cs.drop (o + sz)) ∧ Mod (· = b) w w' ∧ w'.heap.size = w.heap.size) := by
  have hr := run_storeCells_at P b o T v.cells.toList 0 cs.toArray w hb (by simpa [hs] using hl) (List.all_eq_true.1 h1)
  simp only [Nat.add_zero, Array.length_toList, hs] at hr
  refine Does.of_skip (w' := w.setRow b (cs.take o ++ v.cells.toList ++ cs.drop (o + sz)).toArray) (fun a ha => ?_) ⟨setRow_heap w b _ _ T _ hb, ⟨rfl, rfl, rfl, by simp, fun k hk hm => setRow_other w b k _ hm⟩, by simp⟩
  simp [execOp, ha.ev hx, ha.ev hy, Instr.storeAt, Instr.sureAddr, storeVar, hT.sizeOf w, hs, hr]
theorem Does.store {d : Option Tmp} {t : Nat} {x y : Operand} {ty : TypeId} {pos : String} {af : Array Edge} {g : Option (Nat × Bool)} {z : Value} {by' : Nat} (hT : TI P t z 1 by') {b o T : Nat} {v : Value} {cs cs' : List Value} (hx : ev e x = some (.pointer (some ⟨b, o, none⟩))) (hy : ev e y = some v)
    (h1 : v.oneCell' = true) (hb : Blk w b T cs) (hl : SetAt cs o v cs') :
    Does P n e w ⟨d, .store t x y, ty, pos, af, g⟩ (fun _ w' => Blk w' b T cs' ∧ Mod (· = b) w w' ∧ w'.heap.size = w.heap.size) := by
  have hv : v.cells = #[v] := by cases v <;> first | rfl | (simp [Value.oneCell'] at h1)
  obtain ⟨he, hlt⟩ := hl.eq
  refine (Does.storeN hT hx hy (by simp [hv]) (by simp [hv, h1]) hb (by omega)).mono ?_
  rintro _ w' ⟨h2, h3, h4⟩
  refine ⟨?_, h3, h4⟩
  have : cs' = cs.take o ++ v.cells.toList ++ cs.drop (o + 1) := by
    rw [he, hv]
    simp [List.set_eq_take_append_cons_drop, hlt]
  rw [this]; exact h2
/-- A slice literal of one element. -/
theorem Does.slice1 {d : Option Tmp} {t el : Nat} {x : Operand} {ty : TypeId} {pos : String} {af : Array Edge} {g : Option (Nat × Bool)} (hS : SlT P t el) {z v : Value} {sz by' : Nat} (hT : TI P el z sz by') (hx : ev e x = some v) (hs : v.cells.size = sz) (hz : z.cells.size = sz) (hsz : Nat.ble 1 sz = true) (hbig : Nat.ble sz 1000 = true) :
    Does P n e w ⟨d, .buildSlice t 1 #[(0, x)], ty, pos, af, g⟩ (fun u w' => ∃ b, u = .slice (some ⟨b, 0, none⟩) 1 1 ∧ New w w' b el v.cells.toList) := by
  have h1 : 1 ≤ sz := by simpa using hsz
  have h2 : sz ≤ 1000 := by simpa using hbig
  refine Does.of_run (w' := w.alloc (.cells v.cells el)) (v := .slice (some ⟨w.heap.size, 0, none⟩) 1 1) (fun a ha => ?_) ⟨_, rfl, by have := New.of w el v.cells.toList; simpa using this⟩
  have hfill : ∀ (l : List Value) (cs : List Value), l.length = cs.length → (l.zipIdx.foldl (fun (c : Array Value) (p : Value × Nat) => c.setIfInBounds (0 + p.2) p.1) cs.toArray) = l.toArray := by
    intro l cs hl
    have key : ∀ (l : List Value) (p q : List Value), l.length = q.length → (l.zipIdx p.length).foldl (fun (c : Array Value) (p : Value × Nat) => c.setIfInBounds (0 + p.2) p.1) (p ++ q).toArray = (p ++ l).toArray := by
      intro l
      induction l with
      | nil => intro p q h; have : q = [] := List.eq_nil_of_length_eq_zero (by simpa using h.symm); simp [this]
      | cons u l ih =>
        intro p q h
        cases q with
        | nil => simp at h
        | cons r q =>
          simp only [List.zipIdx_cons, List.foldl_cons, Nat.zero_add, List.setIfInBounds_toArray]
          have : (p ++ r :: q).set p.length u = (p ++ [u]) ++ q := by simp
          rw [this]
          have := ih (p ++ [u]) q (by simpa using h)
          simp only [List.length_append, List.length_cons, List.length_nil, Nat.zero_add] at this
          rw [this]; simp
    have := key l [] cs hl
    simpa using this
  have hsz0 : sz ≠ 0 := by omega
  have hle : ¬ (16777216 < sz) := by omega
  have := hfill v.cells.toList ((Array.range sz).map (z.cells[· % z.cells.size]!)).toList (by simp [hs])
  simp only [Array.toArray_toList] at this
  have hfold : v.cells.zipIdx.foldl (fun (cs : Array Value) (p : Value × Nat) => cs.setIfInBounds (0 + p.2) p.1) ((Array.range sz).map (z.cells[· % z.cells.size]!)) = v.cells := by
    rw [← Array.foldl_toList, Array.toList_zipIdx]
    exact this
  simp only [Nat.zero_add] at hfold
  simp [execOp, Instr.buildSlice, run_underlying hS, hT.sizeOf w, hT.zero w, ha.ev hx, hsz0, hle, Instr.fill, hs, newRow]
  exact congrArg (fun q => w.alloc (Obj.cells q el)) (by simpa [hs] using hfold)
/-- A call of a function by its name. -/
theorem Does.call {d : Option Tmp} {gf : FuncId} {args : Array Operand} {ats : Array TypeId} {ty : TypeId} {pos : String} {af : Array Edge} {g : Option (Nat × Bool)} {vs : List Value} {Q : Value → World → Prop} (ha : evs e args.toList = some vs) (hE : Go.Proofs.Enters P gf) (hc : Fx P gf vs w Q) :
    Does P n e w ⟨d, .call { callee := .value (.func gf), args := args, argTypes := ats }, ty, pos, af, g⟩ Q := by
  refine Does.of_enter (fun a hf => ?_) hc
  have h1 := hf.evs ha
  have : args.map a.eval = vs.toArray := by rw [← h1, ← Array.toList_map]
  simp [execOp, resolve, this, Act.eval, Deferred.ofValue, invoke, hE _ _]
/-- A call of a function value. -/
theorem Does.callv {d : Option Tmp} {gf : FuncId} {f : Operand} {cap : Array Value} {args : Array Operand} {ats : Array TypeId} {ty : TypeId} {pos : String} {af : Array Edge} {g : Option (Nat × Bool)} {vs : List Value} {Q : Value → World → Prop} (hf : ev e f = some (.func (.func gf) #[] cap)) (ha : evs e args.toList = some vs) (hE : Go.Proofs.Enters P gf) (hc : Fx P gf (vs ++ cap.toList) w Q) :
    Does P n e w ⟨d, .call { callee := .value f, args := args, argTypes := ats }, ty, pos, af, g⟩ Q := by
  refine Does.of_enter (fun a ht => ?_) hc
  have h1 := ht.evs ha
  have : args.map a.eval = vs.toArray := by rw [← h1, ← Array.toList_map]
  have e2 : (vs ++ cap.toList).toArray = vs.toArray ++ cap := by simp
  rw [e2]
  simp [execOp, resolve, this, ht.ev hf, Deferred.ofValue, invoke, hE _ _]
end

/-! ### owned rows -/
/-- Where an append leaves a row: where it was, or in a new block. -/
theorem append_own {P : Program} (w : World) {t ty el : TypeId} {z : Value} {sz by' : Nat} (ht : SlT P t el) (hT : TI P el z sz by') (hzs : z.cells.size = sz) (hsz : 0 < sz) {v : Value} {k : Nat} {xs : List Value} (hown : w.ownsRow 0 el sz v k xs)
    {x : Value} {m : Nat} {news : List Value} (hx : Sl No w x sz m news) (h1 : ∀ u ∈ news, u.oneCell' = true) (hb : (k + m) * by' ≤ 140737488355328) (hb' : 0 < by') :
    ∃ v' w', (Builtin.append_ #[t, t] ty #[v, x]).run P w = .ok v' w' ∧ w'.ownsRow 0 el sz v' (k + m) (xs ++ news) ∧ w.grownBy w' v.ownBlock ∧ (v'.ownBlock = v.ownBlock ∨ v'.ownBlock = some w.heap.size) := by
  obtain ⟨i, hi, hz, hs, hby⟩ := hT.out
  obtain ⟨ad, c, rfl, hf⟩ := hx.form
  have hl := hx.len
  have hkm : k + m ≤ 140737488355328 := Nat.le_trans (Nat.le_mul_of_pos_right _ hb') hb
  by_cases hm : m = 0
  · subst hm
    have hn : news = [] := List.eq_nil_of_length_eq_zero (by simpa using hl)
    subst hn
    refine ⟨v, w, ?_, by simpa using hown, ⟨rfl, rfl, rfl, Nat.le_refl _, fun _ _ _ => rfl⟩, .inl rfl⟩
    rcases hown.2 with ⟨rfl, rfl⟩ | ⟨g, cap, cur, rfl, _, _, hnc, _⟩
    · cases ad <;> simp [Builtin.append_, run_underlying ht, sizeOf, typeInfo, hi, Builtin.lenOf, Builtin.firstCells, loadCells, loadCellsFrom, storeCells]
    · cases ad <;> simp [Builtin.append_, run_underlying ht, sizeOf, typeInfo, hi, Builtin.lenOf, Builtin.firstCells, hnc, storeCells, loadCells, loadCellsFrom]
  · obtain ⟨b, o, rfl, _, hc⟩ := hf (by omega)
    have hnews : ∀ j u, news[j]? = some u → w.cell? ((⟨b, o, none⟩ : Addr).add j) = some u := fun j u hj => by rw [add_none]; exact hc j u hj
    obtain ⟨v', w', hr, ho, hg, _⟩ := run_append_own (P := P) w 0 t ty el i z sz by' ht hi hz hs hby hzs hsz v k xs hown ⟨b, o, none⟩ m c news hl hnews h1 (by simp only [maxLen]; omega) hb (Nat.zero_le _)
    refine ⟨v', w', hr, ho, hg, ?_⟩
    rcases hown.2 with ⟨rfl, rfl⟩ | ⟨g, cap, cur, rfl, hbg, hgg, hnc, hcm, hcs, htake⟩
    · obtain ⟨v2, w2, hr2, ho2, _, _⟩ := run_append_own (P := P) w w.heap.size t ty el i z sz by' ht hi hz hs hby hzs hsz (.slice none 0 0) 0 [] ⟨by simp, .inl ⟨rfl, rfl⟩⟩ ⟨b, o, none⟩ m c news hl hnews h1 (by simp only [maxLen]; omega) hb (Nat.le_refl _)
      have hr3 := run_append_nil (P := P) w t ty el i z ht hi hz ⟨b, o, none⟩ m c news (by rw [hl, hs]) hnews (by omega) (by omega) (by rw [hby]; simp only [Nat.zero_add] at hb; omega)
      rw [hr3] at hr
      cases hr
      exact .inr rfl
    · by_cases hroom : k + m ≤ cap
      · have hr3 := run_append_room (P := P) w t ty el i ht hi g k cap cur hgg ⟨b, o, none⟩ m c news (by rw [hl, hs]) hnews h1 hroom (by rw [hl, hcs, hs, ← Nat.add_mul]; exact Nat.mul_le_mul_right _ hroom)
        rw [hr3] at hr
        cases hr
        exact .inl rfl
      · have holds : ∀ j u, xs[j]? = some u → w.cell? ((⟨g, 0, none⟩ : Addr).add j) = some u := hown.cells (g := g) rfl
        have hr3 := run_append_grow (P := P) w t ty el i z ht hi hz ⟨g, 0, none⟩ k cap xs (by rw [hown.1, hs]) holds ⟨b, o, none⟩ m c news (by rw [hl, hs]) hnews (by omega) (by omega) (growslice_fits (by omega) (by rw [hby]; exact hb))
        rw [hr3] at hr
        cases hr
        exact .inr rfl

/-- A row that is this part's own to turn: its block (if there is one) is told by 'v.ownBlock'. -/
abbrev Row (w : World) (t : TypeId) (sz : Nat) (v : Value) (k : Nat) (xs : List Value) : Prop := w.ownsRow 0 t sz v k xs
theorem Row.mod {M : Nat → Prop} {w w' : World} {t : TypeId} {sz : Nat} {v : Value} {k : Nat} {xs : List Value} (h : Row w t sz v k xs) (hm : Mod M w w') (hv : ∀ b, v.ownBlock = some b → ¬ M b) : Row w' t sz v k xs := by
  refine ⟨h.1, ?_⟩
  rcases h.2 with hn | ⟨g, cap, cur, rfl, hb, hg, r⟩
  · exact .inl hn
  · exact .inr ⟨g, cap, cur, rfl, hb, hm.heap hg (hv g rfl), r⟩
theorem Row.nil (w : World) (t : TypeId) (sz : Nat) : Row w t sz (.slice none 0 0) 0 [] := World.ownsRow_nil w 0 t sz
theorem Row.new {w w' : World} {b : Nat} {t : TypeId} {cs : List Value} (h : New w w' b t cs) (sz k : Nat) (hl : cs.length = k * sz) (hk : k ≤ 9223372036854775807) : Row w' t sz (.slice (some ⟨b, 0, none⟩) k k) k cs :=
  ⟨hl, .inr ⟨b, k, cs.toArray, rfl, Nat.zero_le _, h.blk, Nat.le_refl _, by simp only [maxLen]; omega, by simp [hl], by simp [← hl]⟩⟩
theorem Row.slice {w : World} {t : TypeId} {sz : Nat} {v : Value} {k : Nat} {xs : List Value} (h : Row w t sz v k xs) : ∃ ad c, v = .slice ad k c := by
  rcases h.2 with ⟨rfl, rfl⟩ | ⟨g, cap, cur, rfl, _⟩
  · exact ⟨none, 0, rfl⟩
  · exact ⟨_, cap, rfl⟩
theorem Row.lt {w : World} {t : TypeId} {sz : Nat} {v : Value} {k : Nat} {xs : List Value} (h : Row w t sz v k xs) {b : Nat} (hb : v.ownBlock = some b) : b < w.heap.size := (World.ownsRow.lt h b hb).2
/-- In an owned row that is not empty: its block. -/
theorem Row.form {w : World} {t : TypeId} {sz : Nat} {v : Value} {k : Nat} {xs : List Value} (h : Row w t sz v k xs) (hk : 0 < k) : ∃ g cap, v = .slice (some ⟨g, 0, none⟩) k cap ∧ k ≤ cap ∧ cap ≤ 9223372036854775807 ∧ ∀ j u, xs[j]? = some u → w.cell? ⟨g, j, none⟩ = some u := by
  rcases h.2 with ⟨rfl, rfl⟩ | ⟨g, cap, cur, rfl, hb, hg, hnc, hcm, _⟩
  · omega
  · refine ⟨g, cap, rfl, hnc, by simp only [maxLen] at hcm; omega, fun j u hj => ?_⟩
    have := h.cells (g := g) rfl j u hj
    rw [add_none] at this
    simpa using this

section
variable {P : Program} {n : Nat} {e : Env} {w : World}
theorem Does.append {d : Option Tmp} {t el : Nat} {s x : Operand} {ty : TypeId} {pos : String} {af : Array Edge} {g : Option (Nat × Bool)} (ht : SlT P t el) {z : Value} {sz by' : Nat} (hT : TI P el z sz by') (hzs : z.cells.size = sz) (hsz : Nat.ble 1 sz = true) (hb' : Nat.ble 1 by' = true)
    {v u : Value} {k m : Nat} {xs news : List Value} (hs : ev e s = some v) (hx : ev e x = some u) (hown : Row w el sz v k xs) (hu : Sl No w u sz m news) (h1 : news.all (·.oneCell') = true) (hb : (k + m) * by' ≤ 140737488355328) :
    Does P n e w ⟨d, .call { callee := .builtin .append, args := #[s, x], argTypes := #[t, t] }, ty, pos, af, g⟩
      (fun v' w' => Row w' el sz v' (k + m) (xs ++ news) ∧ Mod (fun b => v.ownBlock = some b) w w' ∧ (v'.ownBlock = v.ownBlock ∨ v'.ownBlock = some w.heap.size)) := by
  obtain ⟨v', w', hr, ho, hg, hv⟩ := append_own (P := P) w (ty := ty) ht hT hzs (by have : 1 ≤ sz := (by simpa using hsz); omega) hown hu (List.all_eq_true.1 h1) hb (by have : 1 ≤ by' := (by simpa using hb'); omega)
  refine Does.of_run (v := v') (w' := w') (fun a ha => ?_) ⟨ho, Mod.grownBy hg (fun k h => h), hv⟩
  simp [execOp, resolve, invoke, builtin, ha.ev hs, ha.ev hx, hr]
end
/-- One new block as a slice that is read. -/
theorem Sl.new {M : Nat → Prop} {w w' : World} {b : Nat} {t : TypeId} {cs : List Value} (h : New w w' b t cs) (sz k : Nat) (hl : cs.length = k * sz) (hk : k ≤ 9223372036854775807) (hM : ¬ M b) : Sl M w' (.slice (some ⟨b, 0, none⟩) k k) sz k cs :=
  ⟨hl, hk, _, k, rfl, fun _ => ⟨b, 0, rfl, hM, fun j u hj => by rw [Nat.zero_add]; exact h.blk.cell' hj⟩⟩
theorem at1 {w : World} {ad : Addr} {v : Value} (h : w.cell? ad = some v) : ∀ w', w' = w → w'.cell? ad = some v := fun _ hw => hw ▸ h
theorem atM {M : Nat → Prop} {w : World} {ad : Addr} {v : Value} (h : w.cell? ad = some v) (hm : ¬ M ad.block) : ∀ w', Mod M w w' → w'.cell? ad = some v := fun _ hw => hw.cell h hm
theorem atN {w : World} {b o : Nat} {cs : List Value} (h : ∀ j v, cs[j]? = some v → w.cell? ⟨b, o + j, none⟩ = some v) : ∀ w', w' = w → ∀ j v, cs[j]? = some v → w'.cell? ⟨b, o + j, none⟩ = some v := fun _ hw => hw ▸ h
theorem atNM {M : Nat → Prop} {w : World} {b o : Nat} {cs : List Value} (h : ∀ j v, cs[j]? = some v → w.cell? ⟨b, o + j, none⟩ = some v) (hm : ¬ M b) : ∀ w', Mod M w w' → ∀ j v, cs[j]? = some v → w'.cell? ⟨b, o + j, none⟩ = some v := fun _ hw j v hj => hw.cell (h j v hj) hm
end Go.X
