/- Short rules. Nothing is assumed. -/
import Derived.Test.YtffbcfcoddacmaaGreatX2
set_option linter.unusedVariables false
namespace Go.X
open Go Go.RowKit
section
variable {P : Program} {f : FuncId} {n : Nat} {R : Ending → World → Prop} {k : List Item} {e : Env} {w : World} {K : Exit → Act → World → Prop}
theorem RL.p {ops : Array Oper} {rest : List Oper} {d : Nat} {op : Op} {t : TypeId} {pos : String} {af : Array Edge} {v : Value} (hp : pureOp e op = some v) (hb : Nat.blt d n = true) (h : RL P n ops rest ((d, v) :: e) w K) :
    RL P n ops (⟨some d, op, t, pos, af, none⟩ :: rest) e w K := RL.q (.free rfl) rfl hb (Yld.pure hp) h
theorem DL.p {ops : List Oper} {rest : List (Nat × Bool)} {S : World → Prop} {tl : List Nat} {i d : Nat} {op : Op} {t : TypeId} {pos : String} {af : Array Edge} {v : Value} (hi : nth ops i = some ⟨some d, op, t, pos, af, none⟩) (hp : pureOp e op = some v) (hb : Nat.blt d n = true) (h : DL P n ops S tl rest ((d, v) :: e) w K) :
    DL P n ops S tl ((i, false) :: rest) e w K := DL.qf hi (.free rfl) rfl hb (Yld.pure hp) h
theorem get_same {d : Nat} {v : Value} (hg : get e d = some v) : ∀ i u, get ((d, v) :: e) i = some u → get e i = some u := fun i u hu => by
  rw [get_cons] at hu
  by_cases h : d = i
  · subst h; simp at hu; subst hu; exact hg
  · rwa [if_neg h] at hu
theorem Fits.again {a : Act} (h : Fits e n a) {d : Nat} {v v' : Value} (hg : get e d = some v) (hv : v = v') : Fits ((d, v') :: e) n a := by subst hv; exact h.sub (get_same hg)
theorem RL.re {ops : Array Oper} {rest : List Oper} {d : Nat} {v v' : Value} (hg : get e d = some v) (hb : Nat.blt d n = true) (hv : v = v') (h : RL P n ops rest ((d, v') :: e) w K) : RL P n ops rest e w K := fun a ha => h a (ha.again hg hv)
theorem DL.re {ops : List Oper} {rest : List (Nat × Bool)} {S : World → Prop} {tl : List Nat} {d : Nat} {v v' : Value} (hg : get e d = some v) (hb : Nat.blt d n = true) (hv : v = v') (h : DL P n ops S tl rest ((d, v') :: e) w K) : DL P n ops S tl rest e w K := fun a ha => h a (ha.again hg hv)
theorem RK.re {d : Nat} {v v' : Value} (hg : get e d = some v) (hv : v = v') (h : RK P f n R k ((d, v') :: e) w) : RK P f n R k e w := fun a ha => h a (ha.again hg hv)
theorem RL.split {ops : Array Oper} {rest : List Oper} {d : Nat} {t : Bool} (hg : get e d = some (.bool t)) (hb : Nat.blt d n = true) (h1 : t = true → RL P n ops rest ((d, .bool true) :: e) w K) (h2 : t = false → RL P n ops rest ((d, .bool false) :: e) w K) : RL P n ops rest e w K := by
  cases t with
  | true => exact RL.re hg hb rfl (h1 rfl)
  | false => exact RL.re hg hb rfl (h2 rfl)
theorem DL.split {ops : List Oper} {rest : List (Nat × Bool)} {S : World → Prop} {tl : List Nat} {d : Nat} {t : Bool} (hg : get e d = some (.bool t)) (hb : Nat.blt d n = true) (h1 : t = true → DL P n ops S tl rest ((d, .bool true) :: e) w K) (h2 : t = false → DL P n ops S tl rest ((d, .bool false) :: e) w K) : DL P n ops S tl rest e w K := by
  cases t with
  | true => exact DL.re hg hb rfl (h1 rfl)
  | false => exact DL.re hg hb rfl (h2 rfl)
theorem RL.knownT {ops : Array Oper} {rest : List Oper} {d : Nat} {t : Bool} (hg : get e d = some (.bool t)) (hb : Nat.blt d n = true) (ht : t = true) (h1 : RL P n ops rest ((d, .bool true) :: e) w K) : RL P n ops rest e w K := RL.re hg hb (by rw [ht]) h1
theorem RL.knownF {ops : Array Oper} {rest : List Oper} {d : Nat} {t : Bool} (hg : get e d = some (.bool t)) (hb : Nat.blt d n = true) (ht : t = false) (h1 : RL P n ops rest ((d, .bool false) :: e) w K) : RL P n ops rest e w K := RL.re hg hb (by rw [ht]) h1
theorem DL.knownT {ops : List Oper} {rest : List (Nat × Bool)} {S : World → Prop} {tl : List Nat} {d : Nat} {t : Bool} (hg : get e d = some (.bool t)) (hb : Nat.blt d n = true) (ht : t = true) (h1 : DL P n ops S tl rest ((d, .bool true) :: e) w K) : DL P n ops S tl rest e w K := DL.re hg hb (by rw [ht]) h1
theorem DL.knownF {ops : List Oper} {rest : List (Nat × Bool)} {S : World → Prop} {tl : List Nat} {d : Nat} {t : Bool} (hg : get e d = some (.bool t)) (hb : Nat.blt d n = true) (ht : t = false) (h1 : DL P n ops S tl rest ((d, .bool false) :: e) w K) : DL P n ops S tl rest e w K := DL.re hg hb (by rw [ht]) h1
theorem hcT {c : Operand} {t : Bool} (hc : ev e c = some (.bool t)) (ht : t = true) : ev e c = some (.bool true) := by rw [hc, ht]
theorem hcF {c : Operand} {t : Bool} (hc : ev e c = some (.bool t)) (ht : t = false) : ev e c = some (.bool false) := by rw [hc, ht]
theorem RK.drawM {id : Nat} {l : List Oper} (M : Nat → Prop) (ord : List (Nat × Bool)) (tl : List Nat) (hm : P.follows .mixedOrders = true) (hb : (Region.noSelect l.toArray && okOrd l.toArray tl (Array.replicate l.length false) ord && Nat.beq l.length ord.length) = true)
    (h : DL P n l (Mod M w) tl ord e w.drew (post P f R k)) : RK P f n R (.code (.region id l.toArray true) :: k) e w := RK.draw ord tl (Mod M w) hm hb h
end
section
variable {P : Program} {f : FuncId} {n : Nat} {R : Ending → World → Prop} {k : List Item} {e : Env} {w : World} {K : Exit → Act → World → Prop}
theorem RL.splitD {ops : Array Oper} {rest : List Oper} {d : Nat} {p : Prop} [hp : Decidable p] (hg : get e d = some (.bool (decide p))) (hb : Nat.blt d n = true) (h1 : p → RL P n ops rest ((d, .bool true) :: e) w K) (h2 : ¬ p → RL P n ops rest ((d, .bool false) :: e) w K) : RL P n ops rest e w K :=
  RL.split hg hb (fun h => h1 (of_decide_eq_true h)) (fun h => h2 (of_decide_eq_false h))
theorem DL.splitD {ops : List Oper} {rest : List (Nat × Bool)} {S : World → Prop} {tl : List Nat} {d : Nat} {p : Prop} [hp : Decidable p] (hg : get e d = some (.bool (decide p))) (hb : Nat.blt d n = true) (h1 : p → DL P n ops S tl rest ((d, .bool true) :: e) w K) (h2 : ¬ p → DL P n ops S tl rest ((d, .bool false) :: e) w K) : DL P n ops S tl rest e w K :=
  DL.split hg hb (fun h => h1 (of_decide_eq_true h)) (fun h => h2 (of_decide_eq_false h))
theorem RK.condD {c : Operand} {x y : Code} {p : Prop} [hp : Decidable p] (hc : ev e c = some (.bool (decide p))) (ht : p → RK P f n R (.code x :: k) e w) (hf : ¬ p → RK P f n R (.code y :: k) e w) : RK P f n R (.code (.cond c x y) :: k) e w :=
  RK.cond hc (fun h => ht (of_decide_eq_true h)) (fun h => hf (of_decide_eq_false h))
theorem RL.splitN {ops : Array Oper} {rest : List Oper} {d : Nat} {p : Prop} [hp : Decidable p] (hg : get e d = some (.bool (!decide p))) (hb : Nat.blt d n = true) (h1 : ¬ p → RL P n ops rest ((d, .bool true) :: e) w K) (h2 : p → RL P n ops rest ((d, .bool false) :: e) w K) : RL P n ops rest e w K :=
  RL.split hg hb (fun h => h1 (by simpa using h)) (fun h => h2 (by simpa using h))
theorem DL.splitN {ops : List Oper} {rest : List (Nat × Bool)} {S : World → Prop} {tl : List Nat} {d : Nat} {p : Prop} [hp : Decidable p] (hg : get e d = some (.bool (!decide p))) (hb : Nat.blt d n = true) (h1 : ¬ p → DL P n ops S tl rest ((d, .bool true) :: e) w K) (h2 : p → DL P n ops S tl rest ((d, .bool false) :: e) w K) : DL P n ops S tl rest e w K :=
  DL.split hg hb (fun h => h1 (by simpa using h)) (fun h => h2 (by simpa using h))
theorem RK.condN {c : Operand} {x y : Code} {p : Prop} [hp : Decidable p] (hc : ev e c = some (.bool (!decide p))) (ht : ¬ p → RK P f n R (.code x :: k) e w) (hf : p → RK P f n R (.code y :: k) e w) : RK P f n R (.code (.cond c x y) :: k) e w :=
  RK.cond hc (fun h => ht (by simpa using h)) (fun h => hf (by simpa using h))
end
/-! ### numbers -/
theorem wrap_i64 {x : Int} (h1 : -9223372036854775808 ≤ x) (h2 : x ≤ 9223372036854775807) : IntKind.i64.wrap x = x := by
  rw [IntKind.wrap_i64]; omega
theorem add_i64 {x y z : Int} (hz : x + y = z) (h1 : -9223372036854775808 ≤ z) (h2 : z ≤ 9223372036854775807) : Value.int .i64 (IntKind.i64.wrap (x + y)) = .int .i64 z := by rw [hz, wrap_i64 h1 h2]
theorem sub_i64 {x y z : Int} (hz : x - y = z) (h1 : -9223372036854775808 ≤ z) (h2 : z ≤ 9223372036854775807) : Value.int .i64 (IntKind.i64.wrap (x - y)) = .int .i64 z := by rw [hz, wrap_i64 h1 h2]
theorem succ_i64 {k : Nat} (h : k < 9223372036854775807) : Value.int .i64 (IntKind.i64.wrap ((k : Int) + 1)) = .int .i64 ((k + 1 : Nat) : Int) := add_i64 (by simp) (by omega) (by omega)
def pp (b : Nat) : Value := .pointer (some ⟨b, 0, none⟩)
end Go.X
namespace Go.X
open Go Go.RowKit
section
variable {P : Program} {n : Nat} {e : Env} {C : World → Prop}
/-- A call of a function without a Go body. -/
theorem Yld.callx {d : Option Tmp} {gf : FuncId} {args : Array Operand} {ats : Array TypeId} {ty : TypeId} {pos : String} {af : Array Edge} {g : Option (Nat × Bool)} {vs : List Value} {v : Value} (ha : evs e args.toList = some vs) (hr : ∀ w, (callFunc gf vs.toArray).run P w = .ok (.value v) w) :
    Yld P n C e ⟨d, .call { callee := .value (.func gf), args := args, argTypes := ats }, ty, pos, af, g⟩ v := by
  intro a hf w _
  have h1 := hf.evs ha
  have : args.map a.eval = vs.toArray := by rw [← h1, ← Array.toList_map]
  simp [execOp, resolve, this, Act.eval, Deferred.ofValue, invoke, hr]
end
end Go.X
namespace Go.X
open Go Go.RowKit
section
variable {P : Program} {f : FuncId} {n : Nat} {R : Ending → World → Prop} {k : List Item} {e : Env} {w : World} {C : World → Prop}
theorem RK.back {e' : Env} (h : RK P f n R k e' w) (hs : Sub e e') : RK P f n R k e w := RK.sub hs h
theorem Yld.idxStrN {d : Option Tmp} {t : Nat} {x i : Operand} {ty : TypeId} {pos : String} {af : Array Edge} {g : Option (Nat × Bool)} (hT : P.underlying t = some .string) {s : ByteArray} {k : IntKind} {q : Nat} (hx : ev e x = some (.string s)) (hi : ev e i = some (.int k (q : Int))) (h1 : q < s.size) :
    Yld P n C e ⟨d, .index t x i, ty, pos, af, g⟩ (.int .u8 (bt s q).toNat) := by
  have := Yld.idxStr (P := P) (n := n) (C := C) (d := d) (ty := ty) (pos := pos) (af := af) (g := g) hT hx hi (by omega) (by omega)
  simpa using this
theorem Yld.indexAddrN {d : Option Tmp} {t el sz : Nat} {x i : Operand} {ty : TypeId} {pos : String} {af : Array Edge} {g : Option (Nat × Bool)} (hT : SlT P t el) {z : Value} {by' : Nat} (hE : TI P el z sz by') {b o len cap : Nat} {k : IntKind} {q : Nat}
    (hx : ev e x = some (.slice (some ⟨b, o, none⟩) len cap)) (hi : ev e i = some (.int k (q : Int))) (h1 : q < len) :
    Yld P n C e ⟨d, .indexAddr t x i, ty, pos, af, g⟩ (.pointer (some ⟨b, o + q * sz, none⟩)) := by
  have := Yld.indexAddr (P := P) (n := n) (C := C) (d := d) (ty := ty) (pos := pos) (af := af) (g := g) hT hE hx hi (by omega) (by omega)
  simpa using this
end
end Go.X
