/- Maps with more than their values; blocks by their kinds; more operations. Nothing is assumed. -/
import Derived.Test.YtffbcfcoddacmaaGreatX6
set_option linter.unusedVariables false
set_option linter.unusedSimpArgs false
namespace Go.X
open Go Go.RowKit

/-! ### maps whose values are told with more -/
section
variable {κ α β : Type} [DecidableEq κ]
theorem placeM_map (g : α → β) (k : κ) : ∀ l : List (κ × α), placeM k (l.map fun t => (t.1, g t.2)) = (placeM k l).map fun p => (p.1, g p.2)
  | [] => rfl
  | (j, a) :: l => by
    simp only [List.map_cons, placeM]
    by_cases h : k = j
    · simp [h]
    · simp only [if_neg h, placeM_map g k l, Option.map_map]
      cases placeM k l <;> rfl
theorem lookM_map (g : α → β) (k : κ) (l : List (κ × α)) : lookM (l.map fun t => (t.1, g t.2)) k = (lookM l k).map g := by
  simp only [lookM, placeM_map, Option.map_map]
  cases placeM k l <;> rfl
theorem putM_map (g : α → β) (k : κ) (a : α) (l : List (κ × α)) : putM (l.map fun t => (t.1, g t.2)) k (g a) = (putM l k a).map fun t => (t.1, g t.2) := by
  simp only [putM, placeM_map]
  cases placeM k l with
  | none => simp
  | some p =>
    simp only [Option.map_some]
    apply List.ext_getElem?
    intro j
    simp only [List.getElem?_modify, List.getElem?_map]
    by_cases h : p.1 = j
    · simp [h]; cases l[j]? <;> rfl
    · simp [h]
theorem cutM_map (g : α → β) (k : κ) (l : List (κ × α)) : cutM (l.map fun t => (t.1, g t.2)) k = (cutM l k).map fun t => (t.1, g t.2) := by
  simp only [cutM, placeM_map]
  cases placeM k l with
  | none => rfl
  | some p =>
    simp only [Option.map_some]
    have : ∀ (l : List (κ × α)) (i : Nat), (l.map fun t => (t.1, g t.2)).eraseIdx i = (l.eraseIdx i).map fun t => (t.1, g t.2) := by
      intro l
      induction l with
      | nil => intro i; simp
      | cons x l ih => intro i; cases i with
        | zero => simp
        | succ i => simp [ih]
    exact this l p.1
theorem placeM_none {k : κ} : ∀ {l : List (κ × α)}, placeM k l = none ↔ k ∉ l.map (·.1)
  | [] => by simp [placeM]
  | (j, a) :: l => by
    simp only [placeM, List.map_cons, List.mem_cons, not_or]
    by_cases h : k = j
    · simp [h]
    · simp only [if_neg h, Option.map_eq_none_iff, placeM_none (l := l)]
      simp [h]
theorem putM_len (l : List (κ × α)) (k : κ) (a : α) : (putM l k a).length = if k ∈ l.map (·.1) then l.length else l.length + 1 := by
  unfold putM
  cases h : placeM k l with
  | none => have := placeM_none.1 h; simp only [if_neg this]; simp
  | some p => have : k ∈ l.map (·.1) := Classical.byContradiction fun h' => by rw [placeM_none.2 h'] at h; cases h
              simp only [if_pos this]; simp
theorem putM_keys (l : List (κ × α)) (k : κ) (a : α) : (putM l k a).map (·.1) = if k ∈ l.map (·.1) then l.map (·.1) else l.map (·.1) ++ [k] := by
  unfold putM
  cases h : placeM k l with
  | none => have := placeM_none.1 h; simp only [if_neg this]; simp
  | some p =>
    have : k ∈ l.map (·.1) := Classical.byContradiction fun h' => by rw [placeM_none.2 h'] at h; cases h
    simp only [if_pos this]
    apply List.ext_getElem?
    intro j
    simp only [List.getElem?_map, List.getElem?_modify]
    cases l[j]? with
    | none => rfl
    | some x => by_cases hp : p.1 = j <;> simp [hp]
theorem mem_putM {l : List (κ × α)} {k : κ} {a : α} {t : κ × α} (h : t ∈ putM l k a) : t ∈ l ∨ t = (k, a) := by
  unfold putM at h
  cases hp : placeM k l with
  | none => rw [hp] at h; simpa using h
  | some p =>
    rw [hp] at h
    obtain ⟨j, hj⟩ := List.getElem?_of_mem h
    simp only [List.getElem?_modify] at hj
    cases hl : l[j]? with
    | none => simp [hl] at hj
    | some x =>
      simp only [hl, Option.map_some] at hj
      by_cases hpj : p.1 = j
      · simp [hpj] at hj
        have hg := placeM_get (l := l) (i := p.1) (v := p.2) (by rw [hp])
        rw [hpj, hl] at hg
        cases hg
        exact .inr hj.symm
      · simp [hpj] at hj
        exact .inl (hj ▸ List.mem_of_getElem? hl)
theorem lookM_mem {l : List (κ × α)} {k : κ} {a : α} (h : lookM l k = some a) : (k, a) ∈ l := by
  unfold lookM at h
  cases hp : placeM k l with
  | none => simp [hp] at h
  | some p => simp [hp] at h; subst h; exact List.mem_of_getElem? (placeM_get (l := l) (i := p.1) (v := p.2) (by rw [hp]))
end

/-! ### blocks by their kinds -/
def Ty (w : World) (b : Nat) (t : TypeId) : Prop := ∃ cs s, w.heap[b]? = some (.cells cs t s)
def Mp (w : World) (b : Nat) : Prop := ∃ es c, w.heap[b]? = some (.map es c)
theorem Blk.ty {w : World} {b t : Nat} {cs : List Value} (h : Blk w b t cs) : Ty w b t := ⟨_, _, h⟩
theorem MapAt.mp {κ : Type} {enc : κ → Value} {w : World} {m : Nat} {l : List (κ × Value)} (h : MapAt enc w m l) : Mp w m := by
  obtain ⟨es, c, h1, _⟩ := h.out; exact ⟨es, c, h1⟩
theorem Row.ty {w : World} {t : TypeId} {sz : Nat} {v : Value} {k : Nat} {xs : List Value} (h : Row w t sz v k xs) {b : Nat} (hb : v.ownBlock = some b) : Ty w b t := by
  rcases h.2 with ⟨rfl, rfl⟩ | ⟨g, cap, cur, rfl, _, hg, _⟩
  · simp [Value.ownBlock] at hb
  · simp [Value.ownBlock] at hb; subst hb; exact ⟨_, _, hg⟩
theorem Ty.ne {w : World} {a b t u : Nat} (h : Ty w a t) (k : Ty w b u) (hn : Nat.beq t u = false) : a ≠ b := by
  rintro rfl
  obtain ⟨_, _, h⟩ := h
  obtain ⟨_, _, k⟩ := k
  rw [h] at k
  cases k
  simp at hn
theorem Ty.nem {w : World} {a b t : Nat} (h : Ty w a t) (k : Mp w b) : a ≠ b := by
  rintro rfl
  obtain ⟨_, _, h⟩ := h
  obtain ⟨_, _, k⟩ := k
  rw [h] at k
  cases k
theorem Ty.lt {w : World} {b t : Nat} (h : Ty w b t) : b < w.heap.size := by
  obtain ⟨_, _, h⟩ := h; exact (Array.getElem?_eq_some_iff.1 h).1
theorem Mp.lt {w : World} {b : Nat} (h : Mp w b) : b < w.heap.size := by
  obtain ⟨_, _, h⟩ := h; exact (Array.getElem?_eq_some_iff.1 h).1
/-- A row's own block is read, and is not of M. -/
theorem Sl.row {M : Nat → Prop} {w : World} {t : TypeId} {sz n : Nat} {v : Value} {xs : List Value} (h : Row w t sz v n xs) (hM : ∀ k, v.ownBlock = some k → ¬ M k) : Sl M w v sz n xs := Sl.own h hM

/-! ### words -/
section
variable {P : Program} {n : Nat} {e : Env} {w : World} {C : World → Prop}
theorem compl64 {x : Int} (h0 : 0 ≤ x) (h1 : x < 18446744073709551616) : IntKind.u64.wrap ((BitVec.ofInt 64 18446744073709551615 ^^^ BitVec.ofInt 64 x).toNat : Int) = 18446744073709551615 - x := by
  have e1 : BitVec.ofInt 64 18446744073709551615 = BitVec.allOnes 64 := by decide
  rw [e1, BitVec.allOnes_xor, BitVec.toNat_not, BitVec.toNat_ofInt, IntKind.wrap_u64]
  omega
theorem and63 {x : Int} (h0 : 0 ≤ x) (h1 : x < 18446744073709551616) : IntKind.u64.wrap ((BitVec.ofInt 64 x &&& BitVec.ofInt 64 9223372036854775808).toNat : Int) = if x < 9223372036854775808 then 0 else 9223372036854775808 := by
  obtain ⟨q, rfl⟩ : ∃ q : Nat, (q : Int) = x := ⟨x.toNat, by omega⟩
  rw [BitVec.toNat_and, BitVec.toNat_ofInt, BitVec.toNat_ofInt, IntKind.wrap_u64]
  have e1 : ((q : Int) % ((2 ^ 64 : Nat) : Int)).toNat = q := by omega
  have e2 : ((9223372036854775808 : Int) % ((2 ^ 64 : Nat) : Int)).toNat = 2 ^ 63 := by decide
  rw [e1, e2]
  have e3 : q &&& 2 ^ 63 = if q < 9223372036854775808 then 0 else 9223372036854775808 := by
    apply Nat.eq_of_testBit_eq
    intro i
    rw [Nat.testBit_and, Nat.testBit_two_pow]
    by_cases hi : 63 = i
    · subst hi
      rw [Nat.testBit_eq_decide_div_mod_eq]
      split
      · have : q / 2 ^ 63 % 2 = 0 := by omega
        simp [this]
      · have : q / 2 ^ 63 % 2 = 1 := by omega
        simp [this]
        decide
    · split
      · simp [hi]
      · have : (9223372036854775808 : Nat) = 2 ^ 63 := by decide
        rw [this, Nat.testBit_two_pow]
        simp [hi]
  rw [e3]
  split <;> split <;> first | rfl | omega
theorem or63 {x : Int} (h0 : 0 ≤ x) (h1 : x < 9223372036854775808) : IntKind.u64.wrap ((BitVec.ofInt 64 x ||| BitVec.ofInt 64 9223372036854775808).toNat : Int) = x + 9223372036854775808 := by
  obtain ⟨q, rfl⟩ : ∃ q : Nat, (q : Int) = x := ⟨x.toNat, by omega⟩
  rw [BitVec.toNat_or, BitVec.toNat_ofInt, BitVec.toNat_ofInt, IntKind.wrap_u64]
  have e1 : ((q : Int) % ((2 ^ 64 : Nat) : Int)).toNat = q := by omega
  have e2 : ((9223372036854775808 : Int) % ((2 ^ 64 : Nat) : Int)).toNat = 2 ^ 63 := by decide
  rw [e1, e2]
  have := Nat.two_pow_add_eq_or_of_lt (i := 63) (b := q) (by omega) 1
  rw [Nat.or_comm] at this
  simp only [Nat.mul_one] at this
  rw [← this]
  omega
theorem Yld.compl {d : Option Tmp} {t : Nat} {x : Operand} {ty : TypeId} {pos : String} {af : Array Edge} {g : Option (Nat × Bool)} {a : Int} (hx : ev e x = some (.int .u64 a)) (h0 : 0 ≤ a) (h1 : a < 18446744073709551616) :
    Yld P n C e ⟨d, .unOp .xor t x, ty, pos, af, g⟩ (.int .u64 (18446744073709551615 - a)) := by
  intro ac ha w _
  have := compl64 h0 h1
  simp only [execOp, ha.ev hx, Op.unary, Op.intBits, Sem.run_bind, Sem.run_pure, Result.andThen_ok]
  have hm : (if IntKind.u64.signed = true then (-1 : Int) else IntKind.u64.max) = 18446744073709551615 := by decide
  rw [hm]
  exact congrArg (fun z => Result.ok (Next.value (Value.int .u64 z)) w) this
theorem zeroCells_flat {z : Value} {k : Nat} : (madeCells z.cells k).toList.length = k := by simp [madeCells]
theorem Does.mkSlice {d : Option Tmp} {t el : Nat} {x y : Operand} {ty : TypeId} {pos : String} {af : Array Edge} {g : Option (Nat × Bool)} (ht : SlT P t el) {z : Value} {by' : Nat} (hT : TI P el z 1 by') (hz : z.cells = #[z]) {m : Nat} (hx : ev e x = some (.int .i64 (m : Int))) (hy : ev e y = some (.int .i64 (m : Int))) (hb : by' * m ≤ 140737488355328) (hm : m ≤ 140737488355328) :
    Does P n e w ⟨d, .makeSlice t x y, ty, pos, af, g⟩ (fun v w' => ∃ b, v = .slice (some ⟨b, 0, none⟩) m m ∧ New w w' b el (List.replicate m z)) := by
  obtain ⟨i, hi', hz', hs', hby'⟩ := hT.out
  have hr := run_make (P := P) w t el i z ht hi' hz' .i64 .i64 m m (by omega) (Int.le_refl _) (by have : ((by' * m : Nat) : Int) ≤ 140737488355328 := by omega
                                                                                                  rw [Int.natCast_mul] at this; rw [hby']; omega) (by omega)
  rw [hs', hz, Nat.mul_one] at hr
  simp only [Int.toNat_natCast] at hr
  refine Does.of_run (w' := w.alloc (.cells (madeCells #[z] m) el)) (v := .slice (some ⟨w.heap.size, 0, none⟩) m m) (fun a ha => ?_) ⟨_, rfl, ?_⟩
  · simp only [execOp, ha.ev hx, ha.ev hy, Sem.run_bind, hr, Result.andThen_ok, Sem.run_pure]
  · have := New.of w el (List.replicate m z)
    have e2 : madeCells #[z] m = (List.replicate m z).toArray := by rw [← toList_madeCells_one]
    rwa [← e2] at this
end
end Go.X
