/- Plain operations as one function on frames; memory: what stays, what is read, what is stored. Nothing is assumed. -/
import Derived.Test.YtffbcfcoddacmaaGreatX0
import Derived.Laws.AppendOwn
import Derived.Laws.MakeOwn
import Derived.Laws.OwnMore
import Derived.Shelf.Abstract
import Derived.WalkKit
set_option linter.unusedVariables false
set_option linter.unusedSimpArgs false
namespace Go.X
open Go Go.RowKit

/-! ### plain operations -/
def binI (op : BinOp) (k : IntKind) (a b : Int) : Option Value :=
  match op with
  | .add => some (.int k (k.wrap (a + b)))
  | .sub => some (.int k (k.wrap (a - b)))
  | .mul => some (.int k (k.wrap (a * b)))
  | .eql => some (.bool (decide (a = b)))
  | .neq => some (.bool (decide (a ≠ b)))
  | .lss => some (.bool (decide (a < b)))
  | .leq => some (.bool (decide (a ≤ b)))
  | .gtr => some (.bool (decide (b < a)))
  | .geq => some (.bool (decide (b ≤ a)))
  | .and => some (.int k (k.wrap (BitVec.ofInt k.bits a &&& BitVec.ofInt k.bits b).toNat))
  | .or => some (.int k (k.wrap (BitVec.ofInt k.bits a ||| BitVec.ofInt k.bits b).toNat))
  | .xor => some (.int k (k.wrap (BitVec.ofInt k.bits a ^^^ BitVec.ofInt k.bits b).toNat))
  | .andNot => some (.int k (k.wrap (BitVec.ofInt k.bits a &&& ~~~ BitVec.ofInt k.bits b).toNat))
  | _ => none
/-- Strings by their bytes. -/
def slt (a b : ByteArray) : Bool := Op.bytesLess a.data.toList b.data.toList
def sle (a b : ByteArray) : Bool := slt a b || decide (a = b)
theorem beqS (a b : ByteArray) : (a.toList == b.toList) = decide (a = b) := by
  rw [Bool.eq_iff_iff]
  simp only [ByteArray.toList_eq, beq_iff_eq, decide_eq_true_eq]
  constructor
  · intro h
    cases a; cases b
    simp only [ByteArray.mk.injEq]
    exact Array.ext' h
  · rintro rfl; rfl
def binS (op : BinOp) (a b : ByteArray) : Option Value :=
  match op with
  | .eql => some (.bool (decide (a = b)))
  | .neq => some (.bool (!decide (a = b)))
  | .lss => some (.bool (slt a b))
  | .leq => some (.bool (sle a b))
  | .gtr => some (.bool (!sle a b))
  | .geq => some (.bool (!slt a b))
  | _ => none
def binF (op : BinOp) (k : FloatKind) (a b : Nat) : Option Value :=
  match op with
  | .eql => some (.bool (k.format.order a b == some .eq))
  | .neq => some (.bool (k.format.order a b != some .eq))
  | .lss => some (.bool (k.format.order a b == some .lt))
  | .leq => some (.bool (k.format.order a b == some .lt || k.format.order a b == some .eq))
  | .gtr => some (.bool (k.format.order a b == some .gt))
  | .geq => some (.bool (k.format.order a b == some .gt || k.format.order a b == some .eq))
  | _ => none
def nthV : List Value → Nat → Option Value
  | [], _ => none
  | v :: _, 0 => some v
  | _ :: l, i + 1 => nthV l i
theorem nthV_eq : ∀ (l : List Value) (i : Nat), nthV l i = l[i]?
  | [], i => by simp [nthV]
  | v :: l, 0 => by simp [nthV]
  | v :: l, i + 1 => by simp [nthV, nthV_eq l i]
def unI (op : UnOp) (v : Value) : Option Value :=
  match op, v with
  | .not, .bool b => some (.bool (!b))
  | .neg, .int k n => some (.int k (k.wrap (0 - n)))
  | _, _ => none
def pureOp (e : Env) : Op → Option Value
  | .move x => ev e x
  | .assign x => ev e x
  | .pick c a b => match ev e c with
    | some (.bool true) => ev e a
    | some (.bool false) => ev e b
    | _ => none
  | .binOp op _ x y _ => match ev e x, ev e y with
    | some (.int .i64 a), some (.int .i64 b) => binI op .i64 a b
    | some (.int .u64 a), some (.int .u64 b) => binI op .u64 a b
    | some (.int .u8 a), some (.int .u8 b) => binI op .u8 a b
    | some (.int .i32 a), some (.int .i32 b) => binI op .i32 a b
    | some (.int .u32 a), some (.int .u32 b) => binI op .u32 a b
    | some (.string a), some (.string b) => binS op a b
    | some (.float .f64 a), some (.float .f64 b) => binF op .f64 a b
    | _, _ => none
  | .unOp op _ x => match ev e x with
    | some v => unI op v
    | none => none
  | .extract x i => match ev e x with
    | some (.tuple vs) => nthV vs.toList i
    | _ => none
  | .nilCheck x => match ev e x with
    | some (.pointer (some a)) => some (.pointer (some a))
    | some (.func (.func f) p c) => some (.func (.func f) p c)
    | _ => none
  | .makeFunc fn first cap => match evs e first.toList, evs e cap.toList with
    | some f, some c => some (.func fn f.toArray c.toArray)
    | _, _ => none
  | _ => none

section
variable {P : Program} {n : Nat} {e : Env} {C : World → Prop}

theorem Fits.evs {a : Act} (ha : Fits e n a) : ∀ {xs : List Operand} {vs : List Value}, X.evs e xs = some vs → xs.map a.eval = vs
  | [], vs, h => by simp [X.evs] at h; simp [h]
  | x :: xs, vs, h => by
    simp only [X.evs] at h
    split at h
    · rename_i v us hv hu
      simp only [Option.some.injEq] at h; subst h
      simp [ha.ev hv, Fits.evs ha hu]
    · cases h

theorem beq_eq (a b : Int) : (a == b) = decide (a = b) := rfl
theorem bne_eq (a b : Int) : (a != b) = !decide (a = b) := rfl
theorem binI_run {op : BinOp} {t : TypeId} {x y : Operand} {k : IntKind} {p q : Int} {v : Value} (h : binI op k p q = some v) (w : World) :
    (do eqGuard op t x y (.int k p) (.int k q); binOp op t (.int k p) (.int k q) : Sem Value).run P w = .ok v w := by
  cases op <;> simp only [binI, Option.some.injEq, reduceCtorEq] at h <;> subst h <;> simp [eqGuard, binOp, Op.intArith, Op.intCmp, Op.intBits, beq_eq, bne_eq]
theorem binS_run {op : BinOp} {t : TypeId} {x y : Operand} {p q : ByteArray} {v : Value} (h : binS op p q = some v) (w : World) :
    (do eqGuard op t x y (.string p) (.string q); binOp op t (.string p) (.string q) : Sem Value).run P w = .ok v w := by
  cases op <;> simp only [binS, Option.some.injEq, reduceCtorEq] at h <;> subst h <;> simp only [eqGuard, binOp, Op.stringOp, beqS] <;> simp [slt, sle, ByteArray.toList_eq]
theorem binF_run {op : BinOp} {t : TypeId} {x y : Operand} {k : FloatKind} {p q : Nat} {v : Value} (h : binF op k p q = some v) (w : World) :
    (do eqGuard op t x y (.float k p) (.float k q); binOp op t (.float k p) (.float k q) : Sem Value).run P w = .ok v w := by
  cases op <;> simp only [binF, Option.some.injEq, reduceCtorEq] at h <;> subst h <;> simp [eqGuard, binOp, Op.floatCmp]

theorem unI_run {op : UnOp} {v u : Value} (h : unI op v = some u) (w : World) : (Op.unary op v).run P w = .ok u w := by
  unfold unI at h
  split at h
  · simp only [Option.some.injEq] at h; subst h; simp [Op.unary]
  · simp only [Option.some.injEq] at h; subst h; simp [Op.unary, Op.intArith]
  · cases h
theorem Yld.pure {o : Oper} {v : Value} (h : pureOp e o.op = some v) : Yld P n C e o v := by
  intro a ha w _
  obtain ⟨dst, op, ty, pos, after, guard⟩ := o
  simp only at h
  unfold execOp
  cases op <;> simp only [pureOp, reduceCtorEq] at h
  case move x => simp [ha.ev h]
  case assign x => simp [ha.ev h]
  case pick c x y =>
    split at h
    · rename_i hc; simp [ha.ev hc, ha.ev h, asBool]
    · rename_i hc; simp [ha.ev hc, ha.ev h, asBool]
    · cases h
  case binOp op t x y t' =>
    split at h
    all_goals first
      | (rename_i p q hx hy
         simp only [ha.ev hx, ha.ev hy]
         first
          | (have := binI_run (P := P) (t := t) (x := x) (y := y) h w; simp only [Sem.run_bind, this, Result.andThen_ok, Sem.run_pure])
          | (have := binS_run (P := P) (t := t) (x := x) (y := y) h w; simp only [Sem.run_bind, this, Result.andThen_ok, Sem.run_pure])
          | (have := binF_run (P := P) (t := t) (x := x) (y := y) h w; simp only [Sem.run_bind, this, Result.andThen_ok, Sem.run_pure]))
      | cases h
  case unOp op t x =>
    split at h
    · rename_i u hx
      simp only [ha.ev hx, Sem.run_bind, unI_run h w, Result.andThen_ok, Sem.run_pure]
    · cases h
  case extract x i =>
    split at h
    · rename_i vs hx
      rw [nthV_eq] at h
      have : vs[i]? = some v := by simpa using h
      simp [ha.ev hx, Instr.extract, this]
    · cases h
  case nilCheck x =>
    split at h
    · rename_i p hx; simp only [Option.some.injEq] at h; subst h; simp [ha.ev hx]
    · rename_i f p c hx; simp only [Option.some.injEq] at h; subst h; simp [ha.ev hx]
    · cases h
  case makeFunc fn first cap =>
    split at h
    · rename_i f c hf hc
      simp only [Option.some.injEq] at h; subst h
      have h1 := ha.evs hf
      have h2 := ha.evs hc
      have e1 : first.map a.eval = f.toArray := by rw [← h1, ← Array.toList_map]
      have e2 : cap.map a.eval = c.toArray := by rw [← h2, ← Array.toList_map]
      simp [Instr.makeFunc, e1, e2]
    · cases h

/-! ### what the program's tables say -/
/-- The type is no struct and no array. -/
def Plain (P : Program) (t : TypeId) : Prop := ∀ w, (isAgg t).run P w = .ok false w
theorem Plain.of {t : TypeId} {d : TypeDesc} (h : P.underlying t = some d) (hd : (match d with | .struct _ | .array _ _ => true | _ => false) = false) : Plain P t := fun w => Go.Proofs.run_isAgg_plain h hd w
/-- What is known of a type's row: its zero value, cells and bytes. -/
structure TI (P : Program) (t : TypeId) (z : Value) (size bytes : Nat) : Prop where
  out : ∃ i, P.info? t = some i ∧ i.zero = some z ∧ i.size = size ∧ i.bytes = bytes
theorem TI.mk' {t : TypeId} {z : Value} {size bytes : Nat} (h : (P.info? t).map (fun i => (i.zero, i.size, i.bytes)) = some (some z, size, bytes)) : TI P t z size bytes := by
  cases hi : P.info? t with
  | none => simp [hi] at h
  | some i => simp [hi] at h; exact ⟨i, hi, h.1, h.2.1, h.2.2⟩
/-- A struct's or an array's type of so many cells. -/
structure Agg (P : Program) (t : TypeId) (size : Nat) : Prop where
  agg : ∀ w, (isAgg t).run P w = .ok true w
  size : ∀ w, (sizeOf t).run P w = .ok size w
theorem TI.sizeOf {t : TypeId} {z : Value} {size bytes : Nat} (h : TI P t z size bytes) (w : World) : (sizeOf t).run P w = .ok size w := by
  obtain ⟨i, hi, _, hs, _⟩ := h.out
  simp [Go.sizeOf, typeInfo, hi, hs]
theorem TI.zero {t : TypeId} {z : Value} {size bytes : Nat} (h : TI P t z size bytes) (w : World) : (zeroValue t).run P w = .ok z w := by
  obtain ⟨i, hi, hz, _⟩ := h.out
  simp [zeroValue, typeInfo, hi, hz]
theorem Agg.of {t : TypeId} {d : TypeDesc} {z : Value} {size bytes : Nat} (h : P.underlying t = some d) (hd : (match d with | .struct _ | .array _ _ => true | _ => false) = true) (hi : TI P t z size bytes) : Agg P t size :=
  ⟨fun w => by cases d <;> simp_all [isAgg, run_underlying h], hi.sizeOf⟩
/-- Field f of struct type t begins at cell 'off'. -/
def FO (P : Program) (t f off : Nat) : Prop := ∀ (a : Addr) w, (Instr.fieldAt t (.pointer (some a)) f).run P w = .ok (.pointer (some (a.add off))) w
theorem add_none (b o n : Nat) : (⟨b, o, none⟩ : Addr).add n = ⟨b, o + n, none⟩ := by
  unfold Addr.add
  split
  · simp_all
  · rfl
/-- A slice's type. -/
def SlT (P : Program) (t el : TypeId) : Prop := P.underlying t = some (.slice el)

/-! ### plain operations that ask the tables -/
theorem Yld.run {o : Oper} {v : Value} {ρ : Operand → Value} (hρ : ∀ x ∈ o.op.operands, ∃ v, ev e x = some v ∧ ρ x = v) (hs : ∀ cs b, o.op ≠ .select cs b) (hr : ∀ w, C w → (execOp ρ o).run P w = .ok (.value v) w) : Yld P n C e o v := by
  intro a ha w hw
  rw [execOp_congr (ρ := a.eval) (ρ' := ρ) o hs fun x hx => by obtain ⟨v, h1, h2⟩ := hρ x hx; rw [ha.ev h1, h2]]
  exact hr w hw

theorem Yld.fieldAddr {d : Option Tmp} {t f off : Nat} {x : Operand} {ty : TypeId} {pos : String} {af : Array Edge} {g : Option (Nat × Bool)} (hF : FO P t f off) {b o : Nat} (hx : ev e x = some (.pointer (some ⟨b, o, none⟩))) :
    Yld P n C e ⟨d, .fieldAddr t x f, ty, pos, af, g⟩ (.pointer (some ⟨b, o + off, none⟩)) := by
  intro a ha w _
  have := hF ⟨b, o, none⟩ w
  rw [add_none] at this
  simp [execOp, ha.ev hx, this]
theorem Yld.load {d : Option Tmp} {t : Nat} {x : Operand} {ty : TypeId} {pos : String} {af : Array Edge} {g : Option (Nat × Bool)} (hT : Plain P t) {ad : Addr} {v : Value} (hx : ev e x = some (.pointer (some ad))) (hc : ∀ w, C w → w.cell? ad = some v) :
    Yld P n C e ⟨d, .load t x, ty, pos, af, g⟩ v := by
  intro a ha w hw
  simp [execOp, ha.ev hx, Instr.loadAt, Instr.sureAddr, loadVar, hT w, hc w hw]
theorem Yld.loadN {d : Option Tmp} {t : Nat} {x : Operand} {ty : TypeId} {pos : String} {af : Array Edge} {g : Option (Nat × Bool)} {cs : List Value} (hT : Agg P t cs.length) {b o : Nat} (hx : ev e x = some (.pointer (some ⟨b, o, none⟩)))
    (hc : ∀ w, C w → ∀ j v, cs[j]? = some v → w.cell? ⟨b, o + j, none⟩ = some v) : Yld P n C e ⟨d, .load t x, ty, pos, af, g⟩ (.agg cs.toArray) := by
  intro a ha w hw
  have := run_loadCells_list (P := P) w ⟨b, o, none⟩ cs (fun j v hj => by rw [add_none]; exact hc w hw j v hj)
  simp [execOp, ha.ev hx, Instr.loadAt, Instr.sureAddr, loadVar, hT.agg w, hT.size w, this]
theorem Yld.indexAddr {d : Option Tmp} {t el sz : Nat} {x i : Operand} {ty : TypeId} {pos : String} {af : Array Edge} {g : Option (Nat × Bool)} (hT : SlT P t el) {z : Value} {by' : Nat} (hE : TI P el z sz by') {b o len cap : Nat} {k : IntKind} {q : Int}
    (hx : ev e x = some (.slice (some ⟨b, o, none⟩) len cap)) (hi : ev e i = some (.int k q)) (h0 : 0 ≤ q) (h1 : q < len) :
    Yld P n C e ⟨d, .indexAddr t x i, ty, pos, af, g⟩ (.pointer (some ⟨b, o + q.toNat * sz, none⟩)) := by
  intro a ha w _
  simp [execOp, ha.ev hx, ha.ev hi, Instr.indexAt, run_underlying hT, asIntOf, hE.sizeOf w, h0, h1, add_none]
theorem Yld.lenSl {d : Option Tmp} {t el : Nat} {x : Operand} {ty : TypeId} {pos : String} {af : Array Edge} {g : Option (Nat × Bool)} (hT : SlT P t el) {ad : Option Addr} {len cap : Nat} (hx : ev e x = some (.slice ad len cap)) :
    Yld P n C e ⟨d, .call { callee := .builtin .len, args := #[x], argTypes := #[t] }, ty, pos, af, g⟩ (.int .i64 len) := by
  intro a ha w _
  simp [execOp, resolve, invoke, builtin, ha.ev hx, Builtin.len_, run_underlying hT, goInt]
theorem Yld.lenStr {d : Option Tmp} {t : Nat} {x : Operand} {ty : TypeId} {pos : String} {af : Array Edge} {g : Option (Nat × Bool)} (hT : P.underlying t = some .string) {s : ByteArray} (hx : ev e x = some (.string s)) :
    Yld P n C e ⟨d, .call { callee := .builtin .len, args := #[x], argTypes := #[t] }, ty, pos, af, g⟩ (.int .i64 s.size) := by
  intro a ha w _
  simp [execOp, resolve, invoke, builtin, ha.ev hx, Builtin.len_, run_underlying hT, goInt]
/-- Byte i of a string; 0 where there is none. -/
def bt (s : ByteArray) (i : Nat) : UInt8 := s.data.toList.getD i 0
theorem Yld.idxStr {d : Option Tmp} {t : Nat} {x i : Operand} {ty : TypeId} {pos : String} {af : Array Edge} {g : Option (Nat × Bool)} (hT : P.underlying t = some .string) {s : ByteArray} {k : IntKind} {q : Int} (hx : ev e x = some (.string s)) (hi : ev e i = some (.int k q)) (h0 : 0 ≤ q) (h1 : q < s.size) :
    Yld P n C e ⟨d, .index t x i, ty, pos, af, g⟩ (.int .u8 (bt s q.toNat).toNat) := by
  intro a ha w _
  have hlt : q.toNat < s.size := by omega
  have hb : s[q.toNat]? = some (bt s q.toNat) := by
    rw [getElem?_pos s q.toNat hlt]
    congr 1
    have hl : q.toNat < s.data.toList.length := by simpa using hlt
    simp only [bt, List.getD, List.getElem?_eq_getElem hl, Option.getD_some]
    rfl
  simp [execOp, ha.ev hx, ha.ev hi, Instr.index, asIntOf, run_underlying hT, h0, hb]
end

/-! ### what stays -/
/-- Of what there was nothing has turned but blocks of M. -/
structure Mod (M : Nat → Prop) (w w' : World) : Prop where
  os : w'.os = w.os
  tape : w'.tape = w.tape
  output : w'.output = w.output
  size : w.heap.size ≤ w'.heap.size
  block : ∀ k, k < w.heap.size → ¬ M k → w'.heap[k]? = w.heap[k]?
def No : Nat → Prop := fun _ => False
theorem Mod.refl (M : Nat → Prop) (w : World) : Mod M w w := ⟨rfl, rfl, rfl, Nat.le_refl _, fun _ _ _ => rfl⟩
theorem Mod.trans {M : Nat → Prop} {a b c : World} (h : Mod M a b) (k : Mod M b c) : Mod M a c :=
  ⟨k.os.trans h.os, k.tape.trans h.tape, k.output.trans h.output, Nat.le_trans h.size k.size, fun i hi hm => (k.block i (Nat.lt_of_lt_of_le hi h.size) hm).trans (h.block i hi hm)⟩
theorem Mod.mono {M M' : Nat → Prop} {w w' : World} (h : Mod M w w') (hM : ∀ b, b < w.heap.size → M b → M' b) : Mod M' w w' := ⟨h.os, h.tape, h.output, h.size, fun k hk hm => h.block k hk fun h' => hm (hM k hk h')⟩
/-- What is turned beyond the old size does not count. -/
theorem Mod.then {M M' : Nat → Prop} {a b c : World} (h : Mod M a b) (k : Mod M' b c) (hM : ∀ x, x < a.heap.size → M' x → M x) : Mod M a c :=
  ⟨k.os.trans h.os, k.tape.trans h.tape, k.output.trans h.output, Nat.le_trans h.size k.size, fun i hi hm => (k.block i (Nat.lt_of_lt_of_le hi h.size) fun h' => hm (hM i hi h')).trans (h.block i hi hm)⟩
abbrev Grow (w w' : World) : Prop := Mod No w w'
theorem Grow.any {w w' : World} (h : Grow w w') (M : Nat → Prop) : Mod M w w' := h.mono fun _ _ h => h.elim
theorem Mod.any' {M : Nat → Prop} {w w' : World} (h : Grow w w') : Mod M w w' := h.any M
theorem Mod.below {w w' : World} (h : Grow w w') : Below w.heap.size w w' := ⟨h.os, h.tape, h.output, h.size, fun k hk => h.block k hk fun h => h⟩
theorem Grow.of_below {w w' : World} (h : Below w.heap.size w w') : Grow w w' := ⟨h.os, h.tape, h.output, h.size, fun k hk _ => h.block k hk⟩
theorem Mod.alloc (M : Nat → Prop) (w : World) (o : Obj) : Mod M w (w.alloc o) := ⟨rfl, rfl, rfl, by simp, fun k hk _ => Below.heap_alloc w o k hk⟩
theorem Mod.drew (M : Nat → Prop) (w : World) : Mod M w w.drew := ⟨rfl, rfl, rfl, Nat.le_refl _, fun _ _ _ => rfl⟩
theorem Mod.drewN (M : Nat → Prop) (w : World) (n : Nat) : Mod M w (w.drewN n) := ⟨rfl, rfl, rfl, Nat.le_refl _, fun _ _ _ => rfl⟩
theorem Mod.drawn (M : Nat → Prop) (w : World) (n : Nat) : Mod M w { w with drawn := n } := ⟨rfl, rfl, rfl, Nat.le_refl _, fun _ _ _ => rfl⟩
theorem Mod.setCell {M : Nat → Prop} (w : World) {p : Addr} (hp : M p.block) (u : Value) : Mod M w (w.setCell p u) :=
  ⟨rfl, rfl, rfl, by simp [World.setCell], fun k hk hm => Below.heap_setCell _ _ _ _ (fun e => hm (e ▸ hp))⟩
theorem Mod.grownBy {M : Nat → Prop} {w w' : World} {row : Option Nat} (hg : w.grownBy w' row) (hr : ∀ k, row = some k → M k) : Mod M w w' :=
  ⟨hg.os, hg.tape, hg.output, hg.size, fun k hk hm => hg.block k hk fun e => hm (hr k e.symm)⟩
theorem Mod.cell {M : Nat → Prop} {w w' : World} (h : Mod M w w') {a : Addr} {v : Value} (hc : w.cell? a = some v) (hm : ¬ M a.block) : w'.cell? a = some v :=
  (World.cell?_of_block (h.block a.block (World.block_lt_of_cell? w a hc) hm)).trans hc
theorem Mod.heap {M : Nat → Prop} {w w' : World} (h : Mod M w w') {b : Nat} {o : Obj} (hb : w.heap[b]? = some o) (hm : ¬ M b) : w'.heap[b]? = some o :=
  (h.block b (Array.getElem?_eq_some_iff.1 hb).1 hm).trans hb
/-- The world is the very one but for the count of draws. -/
structure Still (w w' : World) : Prop where
  heap : w'.heap = w.heap
  os : w'.os = w.os
  tape : w'.tape = w.tape
  output : w'.output = w.output
theorem Still.refl (w : World) : Still w w := ⟨rfl, rfl, rfl, rfl⟩
theorem Still.trans {a b c : World} (h : Still a b) (k : Still b c) : Still a c := ⟨k.heap.trans h.heap, k.os.trans h.os, k.tape.trans h.tape, k.output.trans h.output⟩
theorem Still.drawn (w : World) (n : Nat) : Still w { w with drawn := n } := ⟨rfl, rfl, rfl, rfl⟩
theorem Still.mod {w w' : World} (h : Still w w') (M : Nat → Prop) : Mod M w w' := ⟨h.os, h.tape, h.output, by rw [h.heap]; exact Nat.le_refl _, fun k _ _ => by rw [h.heap]⟩
theorem Still.cell {w w' : World} (h : Still w w') (a : Addr) : w'.cell? a = w.cell? a := by simp [World.cell?, h.heap]

/-! ### a slice that is read -/
/-- 'v' is a slice of n elements of sz cells each, outside M; 'cs' are its cells. -/
structure Sl (M : Nat → Prop) (w : World) (v : Value) (sz n : Nat) (cs : List Value) : Prop where
  len : cs.length = n * sz
  big : n ≤ 9223372036854775807
  form : ∃ ad c, v = .slice ad n c ∧ (0 < n → ∃ b o, ad = some ⟨b, o, none⟩ ∧ ¬ M b ∧ ∀ j u, cs[j]? = some u → w.cell? ⟨b, o + j, none⟩ = some u)
theorem Sl.mod {M : Nat → Prop} {w w' : World} {v : Value} {sz n : Nat} {cs : List Value} (h : Sl M w v sz n cs) (hm : Mod M w w') : Sl M w' v sz n cs :=
  ⟨h.len, h.big, by
    obtain ⟨ad, c, hv, hf⟩ := h.form
    refine ⟨ad, c, hv, fun hn => ?_⟩
    obtain ⟨b, o, ha, hb, hc⟩ := hf hn
    exact ⟨b, o, ha, hb, fun j u hj => hm.cell (hc j u hj) hb⟩⟩
/-- Other blocks may be turned than before, if they lie beyond what there is. -/
theorem Sl.off {M M' : Nat → Prop} {w : World} {v : Value} {sz n : Nat} {cs : List Value} (h : Sl M w v sz n cs) (hsz : 0 < sz) (hM : ∀ b, b < w.heap.size → M' b → M b) : Sl M' w v sz n cs :=
  ⟨h.len, h.big, by
    obtain ⟨ad, c, hv, hf⟩ := h.form
    refine ⟨ad, c, hv, fun hn => ?_⟩
    obtain ⟨b, o, ha, hb, hc⟩ := hf hn
    refine ⟨b, o, ha, fun hm => hb (hM b ?_ hm), hc⟩
    have hl : 0 < cs.length := by rw [h.len]; exact Nat.mul_pos hn hsz
    exact World.block_lt_of_cell? w ⟨b, o + 0, none⟩ (hc 0 _ (List.getElem?_eq_getElem hl))⟩
theorem Sl.nil (M : Nat → Prop) (w : World) (sz : Nat) (ad : Option Addr) (c : Nat) : Sl M w (.slice ad 0 c) sz 0 [] := ⟨by simp, by omega, ad, c, rfl, fun h => by omega⟩
/-- Out of an owned row. -/
theorem Sl.own {M : Nat → Prop} {w : World} {base : Nat} {t : TypeId} {sz n : Nat} {v : Value} {xs : List Value} (h : w.ownsRow base t sz v n xs) (hM : ∀ k, v.ownBlock = some k → ¬ M k) : Sl M w v sz n xs := by
  have hx := h.1
  rcases h.2 with ⟨rfl, rfl⟩ | ⟨g, cap, cur, rfl, hb, hg, hn, hcm, hcs, htk⟩
  · have : xs = [] := List.eq_nil_of_length_eq_zero (by simpa using hx)
    subst this
    exact Sl.nil _ _ _ _ _
  · refine ⟨hx, by simp only [maxLen] at hcm; omega, _, cap, rfl, fun hn => ⟨g, 0, rfl, hM g rfl, fun j u hu => ?_⟩⟩
    have := h.cells (g := g) rfl j u hu
    rwa [add_none] at this
end Go.X
