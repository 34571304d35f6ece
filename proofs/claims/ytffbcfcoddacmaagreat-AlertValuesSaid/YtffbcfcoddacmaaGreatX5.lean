/- More operations: literals of structs and empty slices, tests against nil, structs of two strings. Nothing is assumed. -/
import Derived.Test.YtffbcfcoddacmaaGreatX4
import Derived.Laws.StructEq
import Derived.WalkLawsBesides
set_option linter.unusedVariables false
set_option linter.unusedSimpArgs false
namespace Go.X
open Go Go.RowKit

section
variable {P : Program} {n : Nat} {e : Env} {w : World} {C : World → Prop}
theorem Does.slice0 {d : Option Tmp} {t el : Nat} {ty : TypeId} {pos : String} {af : Array Edge} {g : Option (Nat × Bool)} (hS : SlT P t el) {z : Value} {sz by' : Nat} (hT : TI P el z sz by') :
    Does P n e w ⟨d, .buildSlice t 0 #[], ty, pos, af, g⟩ (fun u w' => ∃ b, u = .slice (some ⟨b, 0, none⟩) 0 0 ∧ New w w' b el []) := by
  refine Does.of_run (w' := w.alloc (.cells #[] el)) (v := .slice (some ⟨w.heap.size, 0, none⟩) 0 0) (fun a ha => ?_) ⟨_, rfl, by have := New.of w el []; simpa using this⟩
  simp [execOp, Instr.buildSlice, run_underlying hS, hT.sizeOf w, Instr.fill, newRow]
  exact congrArg (fun q => w.alloc (Obj.cells q el)) (by simp [Array.range])
def evP (e : Env) : List (Nat × Operand) → Option (List (Nat × Value))
  | [] => some []
  | (i, x) :: xs => match ev e x, evP e xs with
    | some v, some vs => some ((i, v) :: vs)
    | _, _ => none
theorem Fits.evP {a : Act} (ha : Fits e n a) : ∀ {xs : List (Nat × Operand)} {vs : List (Nat × Value)}, X.evP e xs = some vs → xs.map (fun p => (p.1, a.eval p.2)) = vs
  | [], vs, h => by simp [X.evP] at h; simp [h]
  | (i, x) :: xs, vs, h => by
    simp only [X.evP] at h
    split at h
    · rename_i v us hv hu
      simp only [Option.some.injEq] at h; subst h
      simp [ha.ev hv, Fits.evP ha hu]
    · cases h
theorem Yld.build {d : Option Tmp} {t : Nat} {parts : Array (Nat × Operand)} {ty : TypeId} {pos : String} {af : Array Edge} {g : Option (Nat × Bool)} {ps : List (Nat × Value)} {v : Value} (hp : evP e parts.toList = some ps) (hr : ∀ w, (Instr.build t ps.toArray).run P w = .ok v w) :
    Yld P n C e ⟨d, .build t parts, ty, pos, af, g⟩ v := by
  intro a ha w _
  have h1 := ha.evP hp
  have : (parts.map fun (p : Nat × Operand) => (p.1, a.eval p.2)) = ps.toArray := by rw [← h1, ← Array.toList_map]
  simp only [execOp, Sem.run_bind]
  rw [this, hr w]
  simp
theorem Yld.eqNil {d : Option Tmp} {t el : Nat} {x y : Operand} {t' ty : TypeId} {pos : String} {af : Array Edge} {g : Option (Nat × Bool)} (hS : SlT P t el) {ad : Option Addr} {l c : Nat} (hx : ev e x = some (.slice ad l c)) (hy : ev e y = some (.slice none 0 0)) :
    Yld P n C e ⟨d, .binOp .eql t x y t', ty, pos, af, g⟩ (.bool ad.isNone) := by
  intro a ha w _
  have h1 := run_equal_slice_nil (P := P) w t el ad l c hS
  simp only [execOp, ha.ev hx, ha.ev hy, Sem.run_bind, eqGuard, binOp, Sem.run_pure, Result.andThen_ok]
  simp [h1]
theorem Yld.max2 {d : Option Tmp} {t : Array TypeId} {x y : Operand} {ty : TypeId} {pos : String} {af : Array Edge} {g : Option (Nat × Bool)} {p q : Int} (hx : ev e x = some (.int .i64 p)) (hy : ev e y = some (.int .i64 q)) :
    Yld P n C e ⟨d, .call { callee := .builtin .max, args := #[x, y], argTypes := t }, ty, pos, af, g⟩ (.int .i64 (if q > p then q else p)) := by
  intro a ha w _
  simp [execOp, resolve, invoke, builtin, ha.ev hx, ha.ev hy, Builtin.max_, Builtin.max2]
theorem Yld.min2 {d : Option Tmp} {t : Array TypeId} {x y : Operand} {ty : TypeId} {pos : String} {af : Array Edge} {g : Option (Nat × Bool)} {p q : Int} (hx : ev e x = some (.int .i64 p)) (hy : ev e y = some (.int .i64 q)) :
    Yld P n C e ⟨d, .call { callee := .builtin .min, args := #[x, y], argTypes := t }, ty, pos, af, g⟩ (.int .i64 (if q < p then q else p)) := by
  intro a ha w _
  simp [execOp, resolve, invoke, builtin, ha.ev hx, ha.ev hy, Builtin.min_, Builtin.min2]
/-- '==' on a struct type of two strings. -/
def Pair (P : Program) (t : TypeId) : Prop := P.eqGuardType P.depth t = false ∧ ∀ (a b c d : ByteArray) (w : World), (Op.equalIn 10000 t (.agg #[.string a, .string b]) (.agg #[.string c, .string d])).run P w = .ok (decide (a = c ∧ b = d)) w
theorem Pair.of {t s : TypeId} {f0 f1 : Field} (hg : P.eqGuardType P.depth t = false) (hp : P.stoodInHeld t = false) (ht : P.underlying t = some (.struct #[f0, f1])) (hs : P.underlying s = some .string) (h0 : f0.type = s) (h1 : f1.type = s) (o0 : f0.offset = 0) (o1 : f1.offset = 1) (n0 : f0.name ≠ "_") (n1 : f1.name ≠ "_") : Pair P t := by
  refine ⟨hg, fun a b c d w => ?_⟩
  have hf : P.fieldsOf t = #[f0, f1] := by simp [Program.fieldsOf, ht]
  rw [run_equalIn_struct w 9999 t _ _ (by rw [hf]; exact ht) hp, hf]
  have hpl : Plain P s := Plain.of hs rfl
  have he : ∀ a b w, (Op.equalIn 9999 s (.string a) (.string b)).run P w = .ok (decide (a = b)) w := fun a b w => by rw [run_equalIn_string w 9998 s a b hs, beqS]
  have hpt : ∀ (cs : Array Value) (o : Nat) (v : Value) w, cs[o]? = some v → (part s cs o).run P w = .ok v w := fun cs o v w h => by simp [part, hpl w, h]
  simp only [Op.eqFields, n0, n1, ne_eq, not_false_eq_true, if_true, h0, h1, o0, o1, Sem.run_bind]
  rw [hpt #[.string a, .string b] 0 (.string a) w (by simp)]
  simp only [Result.andThen_ok]
  rw [hpt #[.string c, .string d] 0 (.string c) w (by simp)]
  simp only [Result.andThen_ok, he]
  by_cases e1 : a = c
  · simp only [e1, decide_true, Bool.not_true, Bool.false_eq_true, if_false, Sem.run_bind]
    rw [hpt #[.string c, .string b] 1 (.string b) w (by simp)]
    simp only [Result.andThen_ok]
    rw [hpt #[.string c, .string d] 1 (.string d) w (by simp)]
    simp only [Result.andThen_ok, he]
    by_cases e2 : b = d
    · simp [e2]
    · simp [e2]
  · simp [e1]
theorem Yld.neqPair {d : Option Tmp} {t : Nat} {x y : Operand} {t' ty : TypeId} {pos : String} {af : Array Edge} {g : Option (Nat × Bool)} (hP : Pair P t) {a b c f : ByteArray} (hx : ev e x = some (.agg #[.string a, .string b])) (hy : ev e y = some (.agg #[.string c, .string f])) :
    Yld P n C e ⟨d, .binOp .neq t x y t', ty, pos, af, g⟩ (.bool (!decide (a = c ∧ b = f))) := by
  intro ac ha w _
  simp only [execOp, ha.ev hx, ha.ev hy, Sem.run_bind, run_eqGuard_agg w .neq t x y _ _ hP.1, Result.andThen_ok, run_neq_struct, hP.2, Sem.run_pure]
theorem Yld.eqPair {d : Option Tmp} {t : Nat} {x y : Operand} {t' ty : TypeId} {pos : String} {af : Array Edge} {g : Option (Nat × Bool)} (hP : Pair P t) {a b c f : ByteArray} (hx : ev e x = some (.agg #[.string a, .string b])) (hy : ev e y = some (.agg #[.string c, .string f])) :
    Yld P n C e ⟨d, .binOp .eql t x y t', ty, pos, af, g⟩ (.bool (decide (a = c ∧ b = f))) := by
  intro ac ha w _
  simp only [execOp, ha.ev hx, ha.ev hy, Sem.run_bind, run_eqGuard_agg w .eql t x y _ _ hP.1, Result.andThen_ok, run_eql_struct, hP.2, Sem.run_pure]
end
end Go.X
namespace Go.X
open Go Go.RowKit
section
variable {P : Program} {n : Nat} {e : Env} {w : World} {C : World → Prop}
theorem Yld.eqBool {d : Option Tmp} {t : Nat} {x y : Operand} {t' ty : TypeId} {pos : String} {af : Array Edge} {g : Option (Nat × Bool)} (hT : P.underlying t = some .bool) {p q : Bool} (hx : ev e x = some (.bool p)) (hy : ev e y = some (.bool q)) :
    Yld P n C e ⟨d, .binOp .eql t x y t', ty, pos, af, g⟩ (.bool (decide (p = q))) := by
  intro a ha w _
  simp [execOp, ha.ev hx, ha.ev hy, eqGuard, binOp, Op.equal, Op.maxDepth, run_equalIn_bool w 9999 t p q hT]
  cases p <;> cases q <;> rfl
theorem Yld.neqBool {d : Option Tmp} {t : Nat} {x y : Operand} {t' ty : TypeId} {pos : String} {af : Array Edge} {g : Option (Nat × Bool)} (hT : P.underlying t = some .bool) {p q : Bool} (hx : ev e x = some (.bool p)) (hy : ev e y = some (.bool q)) :
    Yld P n C e ⟨d, .binOp .neq t x y t', ty, pos, af, g⟩ (.bool (!decide (p = q))) := by
  intro a ha w _
  simp [execOp, ha.ev hx, ha.ev hy, eqGuard, binOp, Op.equal, Op.maxDepth, run_equalIn_bool w 9999 t p q hT]
  cases p <;> cases q <;> rfl
end
end Go.X
namespace Go.X
open Go Go.RowKit
section
variable {P : Program} {n : Nat} {e : Env} {w : World} {C : World → Prop}
theorem Yld.capSl {d : Option Tmp} {t el : Nat} {x : Operand} {ty : TypeId} {pos : String} {af : Array Edge} {g : Option (Nat × Bool)} (hT : SlT P t el) {ad : Option Addr} {len cap : Nat} (hx : ev e x = some (.slice ad len cap)) :
    Yld P n C e ⟨d, .call { callee := .builtin .cap, args := #[x], argTypes := #[t] }, ty, pos, af, g⟩ (.int .i64 cap) := by
  intro a ha w _
  simp [execOp, resolve, invoke, builtin, ha.ev hx, Builtin.cap_, run_underlying hT, goInt]
theorem add_zero_addr (a : Addr) : a.add 0 = a := rfl
theorem Yld.sliceHi {d : Option Tmp} {t el : Nat} {x h : Operand} {ty : TypeId} {pos : String} {af : Array Edge} {g : Option (Nat × Bool)} (hT : SlT P t el) {z : Value} {sz by' : Nat} (hE : TI P el z sz by') {ad : Option Addr} {len cap m : Nat} {k : IntKind} (hx : ev e x = some (.slice ad len cap)) (hh : ev e h = some (.int k (m : Int))) (hm : m ≤ cap) :
    Yld P n C e ⟨d, .slice t x none (some h) none, ty, pos, af, g⟩ (.slice ad m cap) := by
  intro a ha w _
  have h1 : (m : Int) ≤ cap := by omega
  have h2 : ¬ cap < m := by omega
  cases ad <;> simp [execOp, ha.ev hx, ha.ev hh, Instr.sliceAt, Instr.slice, run_underlying hT, Instr.sliceBounds, Instr.sliceBound, asIntOf, hE.sizeOf w, h1, hm, h2, add_zero_addr]
theorem Yld.sliceLo {d : Option Tmp} {t el : Nat} {x h : Operand} {ty : TypeId} {pos : String} {af : Array Edge} {g : Option (Nat × Bool)} (hT : SlT P t el) {z : Value} {sz by' : Nat} (hE : TI P el z sz by') {b o len cap m : Nat} {k : IntKind} (hx : ev e x = some (.slice (some ⟨b, o, none⟩) len cap)) (hh : ev e h = some (.int k (m : Int))) (hm : m ≤ len) :
    Yld P n C e ⟨d, .slice t x (some h) none none, ty, pos, af, g⟩ (.slice (some (if cap = m then ⟨b, o, none⟩ else ⟨b, o + m * sz, none⟩)) (len - m) (cap - m)) := by
  intro a ha w _
  have h1 : (m : Int) ≤ len := by omega
  by_cases hcm : cap = m <;> simp [execOp, ha.ev hx, ha.ev hh, Instr.sliceAt, Instr.slice, run_underlying hT, Instr.sliceBounds, Instr.sliceBound, asIntOf, hE.sizeOf w, h1, hm, hcm, add_none]
set_option maxRecDepth 10000 in
/-- append(nil, make([]T, n)...) of whole numbers: a new row of noughts. -/
theorem Does.appendZ {d : Option Tmp} {t it el : Nat} {s x : Operand} {ty : TypeId} {pos : String} {af : Array Edge} {g : Option (Nat × Bool)} {ik : IntKind} (ht : SlT P t el) (hi : P.underlying it = some (.int ik)) {z : Value} {by' : Nat} (hT : TI P el z 1 by') (hz : z.cells.size = 1) (hb' : Nat.ble 1 by' = true) {m c : Nat} (hs : ev e s = some (.slice none 0 0)) (hx : ev e x = some (.int .i64 (m : Int))) (hm : 0 < m) (hb : m * by' ≤ 140737488355328) :
    Does P n e w ⟨d, .call { callee := .builtin .append, args := #[s, x], argTypes := #[t, it] }, ty, pos, af, g⟩
      (fun v w' => ∃ b cap cur, v = .slice (some ⟨b, 0, none⟩) m cap ∧ b = w.heap.size ∧ w'.heap[b]? = some (.cells cur el (0, 0)) ∧ m ≤ cap ∧ cap ≤ maxLen ∧ cur.size = cap * 1 ∧ Grow w w') := by
  obtain ⟨i, hi', hz', hs', hby'⟩ := hT.out
  have hby : 1 ≤ by' := by simpa using hb'
  have hmb : m ≤ 140737488355328 := Nat.le_trans (Nat.le_mul_of_pos_right _ hby) hb
  have hw : IntKind.i64.wrap (m : Int) = m := wrap_i64 (by omega) (by omega)
  have hge := grownCap_ge w m 0 el
  have hle := grownCap_le_maxLen w m 0 el (by simp only [maxLen]; omega)
  refine Does.of_run (v := .slice (some ⟨w.heap.size, 0, none⟩) m (grownCap w m 0 el)) (w' := w.drew.alloc (.cells (Builtin.zeroCells z.cells m ++ Builtin.zeroCells z.cells (grownCap w m 0 el - m)) el)) (fun a ha => ?_) ⟨_, _, _, rfl, rfl, heap_alloc_new w.drew _, hge, hle, ?_, (Mod.drew No w).trans (Mod.alloc No w.drew _)⟩
  · have n1 : ¬ ((m : Int) < 0) := by omega
    have n2 : ¬ (281474976710656 < (m : Int) * (by' : Int)) := by
      obtain ⟨q, hq⟩ : ∃ q, q = m * by' := ⟨_, rfl⟩
      have e1 : (q : Int) = (m : Int) * (by' : Int) := by rw [hq]; exact Int.natCast_mul m by'
      rw [← hq] at hb
      rw [← e1]
      omega
    have n3 : ¬ (m ≤ 0) := by omega
    have n4 : ¬ (9223372036854775807 < (m : Int)) := by omega
    have n5 : ¬ (281474976710656 < Builtin.nextslicecap m 0 * by') := by rw [nextslicecap_zero hm]; omega
    have n6 : m ≠ 0 := by omega
    simp [execOp, resolve, invoke, builtin, ha.ev hs, ha.ev hx, Builtin.append_, run_underlying ht, run_underlying hi, sizeOf, typeInfo, hi', hs', hby', hz', zeroValue, asInt, asIntOf, hw, n1, n2, n3, n4, n5, n6, hm, Question.forced, newRow, grownCap, Builtin.firstCells]
  · simp only [Array.size_append, size_zeroCells, hz]
    omega
end
end Go.X
namespace Go.X
open Go Go.RowKit
section
variable {P : Program} {n : Nat} {e : Env} {w : World}
/-- A slice literal, its run told by the kernel. -/
theorem Does.bslice {d : Option Tmp} {t el len : Nat} {parts : Array (Nat × Operand)} {ty : TypeId} {pos : String} {af : Array Edge} {g : Option (Nat × Bool)} {ps : List (Nat × Value)} (cs : List Value) (hp : evP e parts.toList = some ps)
    (hr : ∀ w, (Instr.buildSlice t len ps.toArray).run P w = .ok (.slice (some ⟨w.heap.size, 0, none⟩) len len) (w.alloc (.cells cs.toArray el))) :
    Does P n e w ⟨d, .buildSlice t len parts, ty, pos, af, g⟩ (fun u w' => ∃ b, u = .slice (some ⟨b, 0, none⟩) len len ∧ New w w' b el cs) := by
  refine Does.of_run (w' := w.alloc (.cells cs.toArray el)) (v := .slice (some ⟨w.heap.size, 0, none⟩) len len) (fun a ha => ?_) ⟨_, rfl, New.of w el cs⟩
  have h1 := ha.evP hp
  have : (parts.map fun (p : Nat × Operand) => (p.1, a.eval p.2)) = ps.toArray := by rw [← h1, ← Array.toList_map]
  simp only [execOp, Sem.run_bind]
  rw [this, hr w]
  simp
end
end Go.X
