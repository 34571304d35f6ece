/- A stack-machine form of the kit's wp calculus: a frame is an association list, an operation is run by one lemma. Nothing is assumed. -/
import Derived.Below
import Derived.OrdersHeld
import Derived.Deep.Draws
import Derived.KernelRfl
set_option linter.unusedVariables false
set_option linter.unusedSimpArgs false
namespace Go.X
open Go Go.RowKit

/-! ### frames -/
abbrev Env := List (Nat × Value)
def get : Env → Nat → Option Value
  | [], _ => none
  | (j, v) :: e, i => bif Nat.beq j i then some v else get e i
def ev (e : Env) : Operand → Option Value
  | .tmp t => get e t
  | .const v => some v
  | .global g => some (.pointer (some ⟨g, 0, none⟩))
  | .func f => some (.func (.func f) #[] #[])
def evs (e : Env) : List Operand → Option (List Value)
  | [] => some []
  | x :: xs => match ev e x, evs e xs with
    | some v, some vs => some (v :: vs)
    | _, _ => none
structure Fits (e : Env) (n : Nat) (a : Act) : Prop where
  size : a.tmps.size = n
  defers : a.defers = []
  look : ∀ i v, get e i = some v → a.tmps.getD i undef = v

theorem get_cons (j : Nat) (v : Value) (e : Env) (i : Nat) : get ((j, v) :: e) i = if j = i then some v else get e i := by
  simp only [get]
  by_cases h : j = i
  · subst h; simp
  · have : Nat.beq j i = false := by
      cases hb : Nat.beq j i with
      | false => rfl
      | true => exact absurd (Nat.eq_of_beq_eq_true hb) h
    rw [this, if_neg h]; rfl

theorem Fits.ev {e : Env} {n : Nat} {a : Act} (h : Fits e n a) {x : Operand} {v : Value} (hx : ev e x = some v) : a.eval x = v := by
  cases x with
  | tmp t => exact h.look t v hx
  | const c => simpa [X.ev, Act.eval] using hx
  | global g => simpa [X.ev, Act.eval] using hx
  | func f => simpa [X.ev, Act.eval] using hx

theorem Fits.put {e : Env} {n : Nat} {a : Act} (h : Fits e n a) {d : Nat} (hd : Nat.blt d n = true) (v : Value) : Fits ((d, v) :: e) n (a.put (some d) v) := by
  have hd' : d < n := by simpa [Nat.blt_eq] using hd
  refine ⟨by simp [Act.put, h.size], by simp [Act.put, h.defers], fun i u hu => ?_⟩
  rw [get_cons] at hu
  by_cases hi : d = i
  · subst hi
    simp at hu; subst hu
    have : d < (a.tmps.setIfInBounds d v).size := by simp [h.size, hd']
    simp [Act.put, h.size, hd']
  · rw [if_neg hi] at hu
    have := h.look i u hu
    simp only [Act.put, Array.getD_eq_getD_getElem?, Array.getElem?_setIfInBounds_ne hi] at *
    exact this

theorem Fits.sub {e e' : Env} {n : Nat} {a : Act} (h : Fits e n a) (hs : ∀ i v, get e' i = some v → get e i = some v) : Fits e' n a :=
  ⟨h.size, h.defers, fun i v hv => h.look i v (hs i v hv)⟩

/-- Entry by entry. -/
def Sub (e : Env) : Env → Prop
  | [] => True
  | (i, v) :: r => get e i = some v ∧ Sub e r
theorem Sub.get {e : Env} : ∀ {e' : Env}, Sub e e' → ∀ i v, get e' i = some v → get e i = some v
  | [], _, i, v, h => by simp [X.get] at h
  | (j, u) :: r, h, i, v, hv => by
    rw [get_cons] at hv
    by_cases hj : j = i
    · subst hj; simp at hv; subst hv; exact h.1
    · rw [if_neg hj] at hv; exact Sub.get h.2 i v hv

/-- What an entry list picks. -/
inductive Pick (e : Env) : List Nat → Env → Prop
  | nil : Pick e [] []
  | cons {i : Nat} {v : Value} {l : List Nat} {e' : Env} : get e i = some v → Pick e l e' → Pick e (i :: l) ((i, v) :: e')
theorem Pick.sub {e : Env} {l : List Nat} {e' : Env} (h : Pick e l e') : Sub e e' := by
  induction h with
  | nil => trivial
  | cons h _ ih => exact ⟨h, ih⟩

/-! ### the stack machine -/
def Runs (P : Program) (f : FuncId) (R : Ending → World → Prop) (k : List Item) (a : Act) (w : World) : Prop :=
  ∀ (b : Frame) (cs : List Frame), b.fn = f → b.kind = .normal →
    ∃ e w' fr, R e w' ∧ Comes P (lone (b.at a k) cs w) (lone fr cs w') e ∧ fr.fn = f ∧ fr.leaving P w' e

theorem Runs.step {P : Program} {f : FuncId} {R : Ending → World → Prop} {k k' : List Item} {a a' : Act} {w w' : World}
    (hs : ∀ (b : Frame) (cs : List Frame), Steps P (lone (b.at a k) cs w) (lone (b.at a' k') cs w')) (h : Runs P f R k' a' w') : Runs P f R k a w := by
  intro b cs hb hk
  obtain ⟨e, w₂, fr, hR, hc, h1, h2⟩ := h b cs hb hk
  exact ⟨e, w₂, fr, hR, Comes.of_steps (hs b cs) hc, h1, h2⟩

/-- What is asked behind a piece of code that stands on the stack 'k': nothing but the plain way on. -/
def post (P : Program) (f : FuncId) (R : Ending → World → Prop) (k : List Item) : Exit → Act → World → Prop
  | .normal, a, w => Runs P f R k a w
  | _, _, _ => False

theorem Runs.of_wp {P : Program} {f : FuncId} {R : Ending → World → Prop} {c : Code} {k : List Item} {a : Act} {w : World}
    (h : c.wp P (post P f R k) a w) : Runs P f R (.code c :: k) a w := by
  intro b cs hb hk
  obtain ⟨e, a', w', hq, harr⟩ := h b k cs
  cases e <;> simp only [post] at hq
  case normal =>
    obtain ⟨e, w₂, fr, hR, hc, h1, h2⟩ := hq b cs hb hk
    exact ⟨e, w₂, fr, hR, Comes.of_steps harr hc, h1, h2⟩

def RK (P : Program) (f : FuncId) (n : Nat) (R : Ending → World → Prop) (k : List Item) (e : Env) (w : World) : Prop := ∀ a, Fits e n a → Runs P f R k a w

section
variable {P : Program} {f : FuncId} {n : Nat} {R : Ending → World → Prop} {k : List Item} {e : Env} {w : World}

theorem RK.sub {e' : Env} (hs : Sub e e') (h : RK P f n R k e' w) : RK P f n R k e w := fun a ha => h a (ha.sub hs.get)
theorem RK.pick (l : List Nat) {e' : Env} (hs : Pick e l e') (h : RK P f n R k e' w) : RK P f n R k e w := RK.sub hs.sub h
theorem RK.skip (h : RK P f n R k e w) : RK P f n R (.code .skip :: k) e w := fun a ha => (h a ha).step fun _ _ => .one step_skip
theorem RK.seq {x y : Code} (h : RK P f n R (.code x :: .code y :: k) e w) : RK P f n R (.code (.seq x y) :: k) e w := fun a ha => (h a ha).step fun _ _ => .one step_seq
theorem RK.block {id : Nat} {c : Code} (h : RK P f n R (.code c :: .inBlock id :: k) e w) : RK P f n R (.code (.block id c) :: k) e w := fun a ha => (h a ha).step fun _ _ => .one step_block
theorem RK.inBlock {id : Nat} (h : RK P f n R k e w) : RK P f n R (.inBlock id :: k) e w := fun a ha => (h a ha).step fun _ _ => .one step_inBlock
theorem RK.exit {id : Nat} {k' : List Item} (hk : exitTo id k = some k') (h : RK P f n R k' e w) : RK P f n R (.code (.exit id) :: k) e w := fun a ha => (h a ha).step fun _ _ => .one (step_exit hk)
theorem RK.cond {c : Operand} {x y : Code} {t : Bool} (hc : ev e c = some (.bool t)) (ht : t = true → RK P f n R (.code x :: k) e w) (hf : t = false → RK P f n R (.code y :: k) e w) :
    RK P f n R (.code (.cond c x y) :: k) e w := fun a ha => by
  cases t with
  | true => exact (ht rfl a ha).step fun _ _ => .one (step_cond (ha.ev hc))
  | false => exact (hf rfl a ha).step fun _ _ => .one (step_cond (ha.ev hc))
theorem RK.condT {c : Operand} {x y : Code} (hc : ev e c = some (.bool true)) (h : RK P f n R (.code x :: k) e w) : RK P f n R (.code (.cond c x y) :: k) e w :=
  RK.cond hc (fun _ => h) (fun h => by cases h)
theorem RK.condF {c : Operand} {x y : Code} (hc : ev e c = some (.bool false)) (h : RK P f n R (.code y :: k) e w) : RK P f n R (.code (.cond c x y) :: k) e w :=
  RK.cond hc (fun h => by cases h) (fun _ => h)
theorem RK.cut (e1 : Env) (Q : World → Prop) {it : Item} (h2 : ∀ w', Q w' → RK P f n R k e1 w') (h1 : (∀ w', Q w' → RK P f n R k e1 w') → RK P f n R (it :: k) e w) : RK P f n R (it :: k) e w := h1 h2
/-- A cut whose values are told by a state. -/
theorem RK.cutS {σ : Type} (E : σ → Env) (Q : σ → World → Prop) {it : Item} (h2 : ∀ s w', Q s w' → RK P f n R k (E s) w') (h1 : (∀ s w', Q s w' → RK P f n R k (E s) w') → RK P f n R (it :: k) e w) : RK P f n R (it :: k) e w := h1 h2
theorem RK.loop {σ : Type} (E : σ → Env) (Inv : σ → World → Prop) (μ : σ → Nat) (s0 : σ) {c : Code} (hs : Sub e (E s0)) (h0 : Inv s0 w)
    (round : ∀ s w, Inv s w → (∀ s' w', Inv s' w' → μ s' < μ s → RK P f n R (.inLoop c :: k) (E s') w') → RK P f n R (.code c :: .inLoop c :: k) (E s) w) :
    RK P f n R (.code (.loop c) :: k) e w := by
  have key : ∀ m s w, μ s = m → Inv s w → RK P f n R (.code c :: .inLoop c :: k) (E s) w := by
    intro m
    induction m using Nat.strongRecOn with
    | _ m ih =>
      intro s w hm hI
      refine round s w hI fun s' w' hI' hlt => ?_
      intro a ha
      exact (ih (μ s') (hm ▸ hlt) s' w' rfl hI' a ha).step fun _ _ => .one step_inLoop
  intro a ha
  exact (key _ s0 w rfl h0 a (ha.sub hs.get)).step fun _ _ => .one step_loop

/-! ### the end -/
theorem RK.ret_of {fn : Func} (hf : P.funcs[f]? = some fn) {v : Value} (hr : ∀ a, Fits e n a → (results fn a.tmps).run P w = .ok v w) (h : R (.returned v) w) (k : List Item) :
    RK P f n R (.code .ret :: k) e w := by
  intro a ha b cs hb hk
  refine ⟨.returned v, w, { b.at a (.code .ret :: k) with mode := .returning }, h, .one step_ret, hb, rfl, ha.defers, hk, fn, ?_, hr a ha⟩
  show P.funcs[b.fn]? = _
  rw [hb]; exact hf
theorem RK.end_of {fn : Func} (hf : P.funcs[f]? = some fn) {v : Value} (hr : ∀ a, Fits e n a → (results fn a.tmps).run P w = .ok v w) (h : R (.returned v) w) :
    RK P f n R [] e w := by
  intro a ha b cs hb hk
  refine ⟨.returned v, w, { b.at a [] with mode := .returning }, h, .one step_end, hb, rfl, ha.defers, hk, fn, ?_, hr a ha⟩
  show P.funcs[b.fn]? = _
  rw [hb]; exact hf
theorem res1 {fn : Func} {t : Tmp} (h : fn.results = #[.tmp t]) {v : Value} (hv : get e t = some v) : ∀ a, Fits e n a → (results fn a.tmps).run P w = .ok v w := fun a ha => by
  have := ha.look t v hv
  rw [Array.getD_eq_getD_getElem?] at this
  simp [results, h, this]
theorem res2 {fn : Func} {t u : Tmp} (h : fn.results = #[.tmp t, .tmp u]) {v v' : Value} (hv : get e t = some v) (hv' : get e u = some v') : ∀ a, Fits e n a → (results fn a.tmps).run P w = .ok (.tuple #[v, v']) w := fun a ha => by
  have h1 := ha.look t v hv
  have h2 := ha.look u v' hv'
  rw [Array.getD_eq_getD_getElem?] at h1 h2
  simp [results, h, h1, h2]
theorem res3 {fn : Func} {t u s : Tmp} (h : fn.results = #[.tmp t, .tmp u, .tmp s]) {v v' v'' : Value} (hv : get e t = some v) (hv' : get e u = some v') (hv'' : get e s = some v'') :
    ∀ a, Fits e n a → (results fn a.tmps).run P w = .ok (.tuple #[v, v', v'']) w := fun a ha => by
  have h1 := ha.look t v hv
  have h2 := ha.look u v' hv'
  have h3 := ha.look s v'' hv''
  rw [Array.getD_eq_getD_getElem?] at h1 h2 h3
  simp [results, h, h1, h2, h3]
theorem res0 {fn : Func} (h : fn.results = #[]) : ∀ a, Fits e n a → (results fn a.tmps).run P w = .ok (.tuple #[]) w := fun a ha => by
  simp [results, h]
end

/-! ### the beginning -/
def envOf : Nat → List Value → Env
  | _, [] => []
  | i, v :: vs => (i, v) :: envOf (i + 1) vs
theorem get_envOf : ∀ (vs : List Value) (i j : Nat) (v : Value), get (envOf i vs) j = some v → ∃ m, j = i + m ∧ vs[m]? = some v
  | [], i, j, v, h => by simp [envOf, get] at h
  | u :: vs, i, j, v, h => by
    rw [envOf, get_cons] at h
    by_cases hj : i = j
    · subst hj; simp at h; subst h; exact ⟨0, by simp, by simp⟩
    · rw [if_neg hj] at h
      obtain ⟨m, hm, hv⟩ := get_envOf vs (i + 1) j v h
      exact ⟨m + 1, by omega, by simpa using hv⟩
theorem enter {P : Program} {f : FuncId} {n : Nat} {R : Ending → World → Prop} {w : World} {fn : Func} {c : Code} {vs : List Value} (hf : P.funcs[f]? = some fn) (hb : fn.body = some c) (hn : fn.ntmps = n)
    (hl : Nat.ble vs.length n = true) (e : Env) (he : Sub (envOf 0 vs) e) (h : RK P f n R [.code c] e w) : Calls P f vs.toArray w R := by
  intro cs
  let b : Frame := { (default : Frame) with fn := f, kind := .normal }
  let a : Act := { tmps := vs.toArray ++ Array.replicate (fn.ntmps - vs.toArray.size) undef, defers := [] }
  have henter : Frame.enter P f vs.toArray .normal = b.at a [.code c] := by
    simp [Frame.enter, Frame.at, hf, hb, b, a]
  have hle : vs.length ≤ n := by simpa using hl
  have ha : Fits e n a := by
    refine Fits.sub (e := envOf 0 vs) ⟨by simp [a, hn]; omega, rfl, fun i v hv => ?_⟩ he.get
    obtain ⟨m, hm, hv⟩ := get_envOf vs 0 i v hv
    have hm' : i = m := by omega
    subst hm'
    have hlt : i < vs.length := (List.getElem?_eq_some_iff.1 hv).1
    simp only [a, Array.getD_eq_getD_getElem?]
    rw [Array.getElem?_append_left (by simpa using hlt)]
    simp [hv]
  rw [henter]
  exact h a ha b cs rfl rfl

/-! ### regions in their order -/
def RL (P : Program) (n : Nat) (ops : Array Oper) (rest : List Oper) (e : Env) (w : World) (K : Exit → Act → World → Prop) : Prop := ∀ a, Fits e n a → wpList P ops K rest a w

/-- The operation leaves 'v' in every world of the class, and that world. -/
def Yld (P : Program) (n : Nat) (C : World → Prop) (e : Env) (o : Oper) (v : Value) : Prop := ∀ a, Fits e n a → ∀ w, C w → (execOp a.eval o).run P w = .ok (.value v) w

section
variable {P : Program} {f : FuncId} {n : Nat} {R : Ending → World → Prop} {k : List Item} {e : Env} {w : World} {ops : Array Oper} {rest : List Oper} {K : Exit → Act → World → Prop}

theorem RK.region {id : Nat} {l : List Oper} (h : RL P n l.toArray l e w (post P f R k)) : RK P f n R (.code (.region id l.toArray false) :: k) e w :=
  fun a ha => Runs.of_wp (wp_region_lit (h a ha))
theorem RL.done (h : RK P f n R k e w) : RL P n ops [] e w (post P f R k) := fun a ha => wpList_nil (h a ha)

theorem yielded_of {a : Act} (ha : Fits e n a) {j d : Nat} {v : Value} (hd : (ops[j]?).bind (·.dst) = some d) (hv : get e d = some v) :
    yielded ops a.tmps j = match v with | .bool b => some b | _ => none := by
  have h1 := ha.look d v hv
  unfold yielded
  rw [hd]
  simp only [Option.bind_some]
  rw [Array.getD_eq_getD_getElem?] at h1
  cases ht : a.tmps[d]? with
  | none => rw [ht] at h1; simp at h1; subst h1; rfl
  | some u => rw [ht] at h1; simp at h1; subst h1; cases u <;> rfl
theorem wanted_none {a : Act} {o : Oper} (h : o.guard = none) : Region.wanted o (yielded ops a.tmps) = true := by simp [Region.wanted, h]
theorem wanted_yes {a : Act} (ha : Fits e n a) {o : Oper} {j d : Nat} {want : Bool} (hg : o.guard = some (j, want)) (hd : (ops[j]?).bind (·.dst) = some d) (hv : get e d = some (.bool want)) :
    Region.wanted o (yielded ops a.tmps) = true := by
  simp [Region.wanted, hg, yielded_of ha hd hv]
def isNot (v : Value) (want : Bool) : Bool := match v with
  | .bool b => b != want
  | _ => true
theorem wanted_no {a : Act} (ha : Fits e n a) {o : Oper} {j d : Nat} {want : Bool} {v : Value} (hg : o.guard = some (j, want)) (hd : (ops[j]?).bind (·.dst) = some d) (hv : get e d = some v) (hn : isNot v want = true) :
    Region.wanted o (yielded ops a.tmps) = false := by
  simp only [Region.wanted, hg, yielded_of ha hd hv]
  cases v <;> simp_all [isNot]

/-- Is it carried out? Three ways to know. -/
inductive Want (ops : Array Oper) (e : Env) (o : Oper) : Bool → Prop
  | free : o.guard = none → Want ops e o true
  | yes {j d : Nat} {want : Bool} : o.guard = some (j, want) → (ops[j]?).bind (·.dst) = some d → get e d = some (.bool want) → Want ops e o true
  | no {j d : Nat} {want : Bool} {v : Value} : o.guard = some (j, want) → (ops[j]?).bind (·.dst) = some d → get e d = some v → isNot v want = true → Want ops e o false
theorem Want.at_ {a : Act} (ha : Fits e n a) {o : Oper} {b : Bool} (h : Want ops e o b) : Region.wanted o (yielded ops a.tmps) = b := by
  cases h with
  | free h => exact wanted_none h
  | yes h1 h2 h3 => exact wanted_yes ha h1 h2 h3
  | no h1 h2 h3 h4 => exact wanted_no ha h1 h2 h3 h4

/-- A plain operation. -/
theorem RL.q {o : Oper} {d : Nat} {v : Value} (hw : Want ops e o true) (hd : o.dst = some d) (hb : Nat.blt d n = true) (hy : Yld P n (· = w) e o v) (h : RL P n ops rest ((d, v) :: e) w K) : RL P n ops (o :: rest) e w K := by
  intro a ha
  unfold wpList
  rw [if_pos (hw.at_ ha)]
  refine .inl ?_
  unfold Oper.wp
  rw [hy a ha w rfl]
  simp only [Oper.upon, hd]
  exact h _ (ha.put hb v)
theorem RL.no {o : Oper} {d : Nat} (hw : Want ops e o false) (hd : o.dst = some d) (hb : Nat.blt d n = true) (h : RL P n ops rest ((d, undef) :: e) w K) : RL P n ops (o :: rest) e w K := by
  intro a ha
  unfold wpList
  rw [if_neg (by rw [hw.at_ ha]; decide), hd]
  exact h _ (ha.put hb undef)
theorem RL.no' {o : Oper} (hw : Want ops e o false) (hd : o.dst = none) (h : RL P n ops rest e w K) : RL P n ops (o :: rest) e w K := by
  intro a ha
  unfold wpList
  rw [if_neg (by rw [hw.at_ ha]; decide), hd]
  exact h _ ha

/-! ### an operation that turns the world -/
/-- The operation goes on with some value and world of 'Q'. -/
def Does (P : Program) (n : Nat) (e : Env) (w : World) (o : Oper) (Q : Value → World → Prop) : Prop :=
  ∀ a, Fits e n a → ∀ (K : Act → World → Prop) (K' : Exit → Act → World → Prop), (∀ v w', Q v w' → K (a.put o.dst v) w') → o.wp P a w K K'
theorem Does.mono {o : Oper} {Q Q' : Value → World → Prop} (h : Does P n e w o Q) (hq : ∀ v w', Q v w' → Q' v w') : Does P n e w o Q' :=
  fun a ha K K' hk => h a ha K K' fun v w' hv => hk v w' (hq v w' hv)
theorem Does.of_run {o : Oper} {v : Value} {w' : World} {Q : Value → World → Prop} (hr : ∀ a, Fits e n a → (execOp a.eval o).run P w = .ok (.value v) w') (hq : Q v w') : Does P n e w o Q := by
  intro a ha K K' hk
  unfold Oper.wp
  rw [hr a ha]
  exact hk v w' hq
theorem Does.of_skip {o : Oper} {w' : World} {Q : Value → World → Prop} (hr : ∀ a, Fits e n a → (execOp a.eval o).run P w = .ok .skip w') (hq : Q undef w') : Does P n e w o Q := by
  intro a ha K K' hk
  unfold Oper.wp
  rw [hr a ha]
  exact hk undef w' hq
/-- A call's contract: it returns some value. -/
def Fx (P : Program) (f : FuncId) (args : List Value) (w : World) (Q : Value → World → Prop) : Prop := Calls P f args.toArray w fun e w' => ∃ v, e = .returned v ∧ Q v w'
theorem Fx.mono {g : FuncId} {args : List Value} {Q Q' : Value → World → Prop} (h : Fx P g args w Q) (hq : ∀ v w', Q v w' → Q' v w') : Fx P g args w Q' :=
  Calls.mono h fun e w' ⟨v, he, hv⟩ => ⟨v, he, hq v w' hv⟩
theorem Does.of_enter {o : Oper} {g : FuncId} {args : List Value} {Q : Value → World → Prop} (hr : ∀ a, Fits e n a → (execOp a.eval o).run P w = .ok (.enter g args.toArray) w) (hc : Fx P g args w Q) : Does P n e w o Q := by
  intro a ha K K' hk
  unfold Oper.wp
  rw [hr a ha]
  simp only [Oper.upon]
  refine Calls.mono hc ?_
  rintro e w' ⟨v, rfl, hv⟩
  exact hk v w' hv
theorem RL.op {o : Oper} {d : Nat} {Q : Value → World → Prop} (hw : Want ops e o true) (hd : o.dst = some d) (hb : Nat.blt d n = true) (hy : Does P n e w o Q) (h : ∀ v w', Q v w' → RL P n ops rest ((d, v) :: e) w' K) : RL P n ops (o :: rest) e w K := by
  intro a ha
  unfold wpList
  rw [if_pos (hw.at_ ha)]
  refine .inl (hy a ha _ _ fun v w' hv => ?_)
  rw [hd]
  exact h v w' hv _ (ha.put hb v)
theorem RL.op' {o : Oper} {Q : Value → World → Prop} (hw : Want ops e o true) (hd : o.dst = none) (hy : Does P n e w o Q) (h : ∀ v w', Q v w' → RL P n ops rest e w' K) : RL P n ops (o :: rest) e w K := by
  intro a ha
  unfold wpList
  rw [if_pos (hw.at_ ha)]
  refine .inl (hy a ha _ _ fun v w' hv => ?_)
  rw [hd]
  exact h v w' hv _ ha
end

/-! ### regions that draw their order -/
/-- Whatever order is picked; 'S' stays behind every operation outside T. -/
def wpT (P : Program) (ops : Array Oper) (Q : Exit → Act → World → Prop) (S : World → Prop) (T : Nat → Bool) : Nat → Array Bool → Act → World → Prop
  | 0, L, a, w => Region.ready .any ops L = [] ∧ Q .normal a w
  | f + 1, L, a, w => (Region.ready .any ops L = [] → Q .normal a w) ∧ ∀ i ∈ Region.ready .any ops L, wpOp P ops Q i (fun a' w' => (T i = false → S w → S w') ∧ wpT P ops Q S T f (L.setIfInBounds i true) a' w') a w
theorem wpT_any {P : Program} {ops : Array Oper} {Q : Exit → Act → World → Prop} {S : World → Prop} {T : Nat → Bool} : ∀ (f : Nat) (L : Array Bool) (a : Act) (w : World), wpT P ops Q S T f L a w → wpAny P .any ops Q f L a w
  | 0, _, _, _, h => h
  | f + 1, _, _, _, h => ⟨h.1, fun i hi => wpOp_mono (fun a' w' h' => wpT_any f _ a' w' h'.2) (h.2 i hi)⟩
/-- One that waits for nobody, does nothing to the world and is apart from all that may come before it may be taken first. 'C' is what it asks of the world. -/
theorem wpT_take {P : Program} {ops : Array Oper} {Q : Exit → Act → World → Prop} {S C : World → Prop} {T : Nat → Bool} (hs : Region.noSelect ops = true) (hQ : ∀ c a w, ¬ Q (.panic c) a w) {i : Nat} {o : Oper} {v : Value} (hi : ops[i]? = some o)
    (hSC : ∀ w, S w → C w) (hT : (∀ w, C w) ∨ ∀ (j : Nat) (oj : Oper), ops[j]? = some oj → T j = true → oj.after.toList.any (fun e => Region.binds .any e && Nat.beq e.on i) = true) :
    ∀ (f : Nat) (L : Array Bool) (a : Act) (w : World),
      (∀ (j : Nat) (oj : Oper), ops[j]? = some oj → j ≠ i → L.getD j true = false → (∀ e ∈ oj.after, Region.binds .any e = true → e.on ≠ i) → o.apart ops oj = true) →
      i ∈ Region.ready .any ops L → YieldsIf P ops C o v a → C w → ((∀ w, C w) ∨ S w) → wpT P ops Q S T f (L.setIfInBounds i true) (a.put o.dst v) w → wpT P ops Q S T (f + 1) L a w := by
  intro f
  induction f with
  | zero =>
    intro L a w _ hr hy hC hS H
    refine ⟨fun h => (by rw [h] at hr; cases hr), fun j hj => ?_⟩
    by_cases hji : j = i
    · subst hji; exact hy.wpOp hi hC ⟨fun _ h => h, H⟩
    · have := ready_mono hj hji
      rw [H.1] at this
      cases this
  | succ f ih =>
    intro L a w hfree hr hy hC hS H
    refine ⟨fun h => (by rw [h] at hr; cases hr), fun j hj => ?_⟩
    by_cases hji : j = i
    · subst hji; exact hy.wpOp hi hC ⟨fun _ h => h, H⟩
    · obtain ⟨hjun, oj, hoj, hall⟩ := mem_ready.1 hj
      have hun : L.getD i false = false := by
        have h0 := (mem_ready.1 hr).1
        rcases Nat.lt_or_ge i L.size with h' | h'
        · simp [h'] at h0 ⊢; exact h0
        · simp [Array.getElem?_eq_none h'] at h0
      have hno : ∀ e ∈ oj.after, Region.binds .any e = true → e.on ≠ i := fun e he hb heq => by
        have h1 := hall e he hb
        rw [heq, hun] at h1
        cases h1
      have hCj : T j = true → ∀ w, C w := fun ht => by
        rcases hT with h0 | h0
        · exact h0
        · have h1 := h0 j oj hoj ht
          rw [List.any_eq_true] at h1
          obtain ⟨e, he, h2⟩ := h1
          rw [Bool.and_eq_true] at h2
          exact absurd (Nat.eq_of_beq_eq_true h2.2) (hno e (by simpa using he) h2.1)
      have hC' : ∀ w', (T j = false → S w → S w') → (∀ w, C w) ∨ S w' := fun w' h => by
        rcases hS with h0 | hS
        · exact .inl h0
        · cases ht : T j with
          | false => exact .inr (h ht hS)
          | true => exact .inl (hCj ht)
      have hf := hfree j oj hoj hji hjun hno
      have h2 := wpOp_putIf hoj hf (fun cs b => Region.noSelect_spec hs i o cs b hi) (fun cs b => Region.noSelect_spec hs j oj cs b hoj) (fun c a w hq => absurd hq (hQ _ _ _)) hy (H.2 j (ready_mono hj hji))
      refine wpOp_mono (fun a' w' h3 => ⟨h3.2.1, ih (L.setIfInBounds j true) a' w' (fun k ok hk hki hunk hnok => hfree k ok hk hki ?_ hnok) (ready_mono hr (Ne.symm hji)) h3.1 ((hC' _ h3.2.1).elim (fun h => h _) (hSC _)) (hC' _ h3.2.1) ?_⟩) h2
      · by_cases hjk : j = k
        · subst hjk; exact hjun
        · rw [getD_set_ne true hjk] at hunk; exact hunk
      · rw [Array.setIfInBounds_comm _ _ hji]
        exact h3.2.2
def nth : List Oper → Nat → Option Oper
  | [], _ => none
  | o :: _, 0 => some o
  | _ :: l, i + 1 => nth l i
theorem nth_eq : ∀ (l : List Oper) (i : Nat), nth l i = l.toArray[i]?
  | [], i => by simp [nth]
  | o :: l, 0 => by simp [nth]
  | o :: l, i + 1 => by have := nth_eq l i; simp at this; simp [nth, this]
/-- All of the tail wait for number i. -/
def tailOk (ops : Array Oper) (tl : List Nat) (i : Nat) : Bool := tl.all fun j => match nth ops.toList j with | some oj => oj.after.toList.any (fun e => Region.binds .any e && Nat.beq e.on i) | none => true
/-- Number i at its turn: a quiet one may come up and is apart from all others that may; a loud one is the only one that may come up. -/
def okOrd (ops : Array Oper) (tl : List Nat) : Array Bool → List (Nat × Bool) → Bool
  | L, [] => (Region.ready .any ops L).isEmpty
  | L, (i, loud) :: r => (if loud then Region.ready .any ops L == [i] else (Region.ready .any ops L).contains i && Region.free .any ops L i) && okOrd ops tl (L.setIfInBounds i true) r
def wpOrd (P : Program) (ops : Array Oper) (S : World → Prop) (tl : List Nat) (Q : Exit → Act → World → Prop) : List (Nat × Bool) → Act → World → Prop
  | [], a, w => Q .normal a w
  | (i, false) :: r, a, w => ∃ o v, ops[i]? = some o ∧ (YieldsIf P ops (fun _ => True) o v a ∨ tailOk ops tl i = true ∧ YieldsIf P ops S o v a ∧ S w) ∧ wpOrd P ops S tl Q r (a.put o.dst v) w
  | (i, true) :: r, a, w => wpOp P ops Q i (fun a' w' => (tl.contains i = false → S w → S w') ∧ wpOrd P ops S tl Q r a' w') a w
theorem wpT_of_ord {P : Program} {ops : Array Oper} {S : World → Prop} {tl : List Nat} {Q : Exit → Act → World → Prop} (hs : Region.noSelect ops = true) (hQ : ∀ c a w, ¬ Q (.panic c) a w) :
    ∀ (l : List (Nat × Bool)) (L : Array Bool) (a : Act) (w : World), okOrd ops tl L l = true → wpOrd P ops S tl Q l a w → wpT P ops Q S tl.contains l.length L a w
  | [], L, a, w, h, hw => ⟨by simpa [okOrd, List.isEmpty_iff] using h, hw⟩
  | (i, false) :: r, L, a, w, h, hw => by
    simp only [okOrd, Bool.and_eq_true, Bool.false_eq_true, if_false] at h
    obtain ⟨o, v, ho, hy, hr⟩ := hw
    have hrec := wpT_of_ord hs hQ r _ _ _ h.2 hr
    have hfree := Region.free_spec ho h.1.2
    rcases hy with hy | ⟨ht, hy, hSw⟩
    · exact wpT_take hs hQ ho (C := fun _ => True) (fun _ _ => trivial) (.inl fun _ => trivial) _ _ _ _ hfree (by simpa using h.1.1) hy trivial (.inl fun _ => trivial) hrec
    · refine wpT_take hs hQ ho (C := S) (fun _ h => h) (.inr fun j oj hj htj => ?_) _ _ _ _ hfree (by simpa using h.1.1) hy hSw (.inr hSw) hrec
      have h1 := List.all_eq_true.1 ht j (by simpa using htj)
      have h2 : nth ops.toList j = some oj := by rw [nth_eq]; simpa using hj
      simp only [h2] at h1
      exact h1
  | (i, true) :: r, L, a, w, h, hw => by
    simp only [okOrd, Bool.and_eq_true, if_true, beq_iff_eq] at h
    refine ⟨fun h0 => (by rw [h.1] at h0; cases h0), fun j hj => ?_⟩
    rw [h.1] at hj
    simp only [List.mem_singleton] at hj
    subst hj
    exact wpOp_mono (fun a' w' h' => ⟨h'.1, wpT_of_ord hs hQ r _ _ _ h.2 h'.2⟩) hw

def DL (P : Program) (n : Nat) (ops : List Oper) (S : World → Prop) (tl : List Nat) (rest : List (Nat × Bool)) (e : Env) (w : World) (K : Exit → Act → World → Prop) : Prop := ∀ a, Fits e n a → wpOrd P ops.toArray S tl K rest a w
section
variable {P : Program} {f : FuncId} {n : Nat} {R : Ending → World → Prop} {k : List Item} {e : Env} {w : World} {ops : List Oper} {rest : List (Nat × Bool)} {K : Exit → Act → World → Prop} {S : World → Prop} {tl : List Nat}
theorem RK.draw {id : Nat} {l : List Oper} (ord : List (Nat × Bool)) (tl : List Nat) (S : World → Prop) (hm : P.follows .mixedOrders = true) (hb : (Region.noSelect l.toArray && okOrd l.toArray tl (Array.replicate l.length false) ord && Nat.beq l.length ord.length) = true)
    (h : DL P n l S tl ord e { w with drawn := w.drawn + 1 } (post P f R k)) : RK P f n R (.code (.region id l.toArray true) :: k) e w := by
  intro a ha
  simp only [Bool.and_eq_true] at hb
  have hl : l.length = ord.length := Nat.eq_of_beq_eq_true hb.2
  refine Runs.of_wp (wp_region_any hm (wpT_any (S := S) (T := tl.contains) _ _ _ _ ?_))
  have := wpT_of_ord (P := P) (S := S) (Q := post P f R k) hb.1.1 (fun c a w h => h) ord _ a _ hb.1.2 (h a ha)
  simpa [hl] using this
theorem DL.done (h : RK P f n R k e w) : DL P n ops S tl [] e w (post P f R k) := fun a ha => h a ha
theorem DL.q {i : Nat} {o : Oper} {d : Nat} {v : Value} (hi : nth ops i = some o) (hw : Want ops.toArray e o true) (hd : o.dst = some d) (hb : Nat.blt d n = true) (ht : tailOk ops.toArray tl i = true) (hy : Yld P n S e o v) (hS : S w) (h : DL P n ops S tl rest ((d, v) :: e) w K) :
    DL P n ops S tl ((i, false) :: rest) e w K := by
  intro a ha
  refine ⟨o, v, by rw [← nth_eq, hi], .inr ⟨ht, .inl ⟨hw.at_ ha, fun w' hS => hy a ha w' hS⟩, hS⟩, ?_⟩
  rw [hd]
  exact h _ (ha.put hb v)
/-- One that asks nothing of the world. -/
theorem DL.qf {i : Nat} {o : Oper} {d : Nat} {v : Value} (hi : nth ops i = some o) (hw : Want ops.toArray e o true) (hd : o.dst = some d) (hb : Nat.blt d n = true) (hy : Yld P n (fun _ => True) e o v) (h : DL P n ops S tl rest ((d, v) :: e) w K) :
    DL P n ops S tl ((i, false) :: rest) e w K := by
  intro a ha
  refine ⟨o, v, by rw [← nth_eq, hi], .inl (.inl ⟨hw.at_ ha, fun w' hS => hy a ha w' hS⟩), ?_⟩
  rw [hd]
  exact h _ (ha.put hb v)
theorem DL.no {i : Nat} {o : Oper} {d : Nat} (hi : nth ops i = some o) (hw : Want ops.toArray e o false) (hd : o.dst = some d) (hb : Nat.blt d n = true) (h : DL P n ops S tl rest ((d, undef) :: e) w K) :
    DL P n ops S tl ((i, false) :: rest) e w K := by
  intro a ha
  refine ⟨o, undef, by rw [← nth_eq, hi], .inl (.inr ⟨hw.at_ ha, rfl⟩), ?_⟩
  rw [hd]
  exact h _ (ha.put hb undef)
theorem DL.lq {i : Nat} {o : Oper} {d : Nat} {v : Value} (hi : nth ops i = some o) (hw : Want ops.toArray e o true) (hd : o.dst = some d) (hb : Nat.blt d n = true) (hy : Yld P n (· = w) e o v) (h : DL P n ops S tl rest ((d, v) :: e) w K) :
    DL P n ops S tl ((i, true) :: rest) e w K := by
  intro a ha
  have hi' : ops.toArray[i]? = some o := by rw [← nth_eq, hi]
  unfold wpOrd wpOp
  simp only [hi']
  rw [if_pos (hw.at_ ha)]
  refine .inl ?_
  unfold Oper.wp
  rw [hy a ha w rfl]
  simp only [Oper.upon, hd]
  exact ⟨fun _ h => h, h _ (ha.put hb v)⟩
theorem DL.lno {i : Nat} {o : Oper} {d : Nat} (hi : nth ops i = some o) (hw : Want ops.toArray e o false) (hd : o.dst = some d) (hb : Nat.blt d n = true) (h : DL P n ops S tl rest ((d, undef) :: e) w K) :
    DL P n ops S tl ((i, true) :: rest) e w K := by
  intro a ha
  have hi' : ops.toArray[i]? = some o := by rw [← nth_eq, hi]
  unfold wpOrd wpOp
  simp only [hi']
  rw [if_neg (by rw [hw.at_ ha]; decide), hd]
  exact ⟨fun _ h => h, h _ (ha.put hb undef)⟩
theorem DL.op {i : Nat} {o : Oper} {d : Nat} {Q : Value → World → Prop} (hi : nth ops i = some o) (hw : Want ops.toArray e o true) (hd : o.dst = some d) (hb : Nat.blt d n = true) (hy : Does P n e w o Q) (h : ∀ v w', Q v w' → S w' ∧ DL P n ops S tl rest ((d, v) :: e) w' K) :
    DL P n ops S tl ((i, true) :: rest) e w K := by
  intro a ha
  have hi' : ops.toArray[i]? = some o := by rw [← nth_eq, hi]
  unfold wpOrd wpOp
  simp only [hi']
  rw [if_pos (hw.at_ ha)]
  refine .inl (hy a ha _ _ fun v w' hv => ⟨fun _ _ => (h v w' hv).1, ?_⟩)
  rw [hd]
  exact (h v w' hv).2 _ (ha.put hb v)
theorem DL.op' {i : Nat} {o : Oper} {Q : Value → World → Prop} (hi : nth ops i = some o) (hw : Want ops.toArray e o true) (hd : o.dst = none) (hy : Does P n e w o Q) (h : ∀ v w', Q v w' → S w' ∧ DL P n ops S tl rest e w' K) :
    DL P n ops S tl ((i, true) :: rest) e w K := by
  intro a ha
  have hi' : ops.toArray[i]? = some o := by rw [← nth_eq, hi]
  unfold wpOrd wpOp
  simp only [hi']
  rw [if_pos (hw.at_ ha)]
  refine .inl (hy a ha _ _ fun v w' hv => ⟨fun _ _ => (h v w' hv).1, ?_⟩)
  rw [hd]
  exact (h v w' hv).2 _ ha
/-- The last ones: nothing is asked of the world behind them. -/
theorem DL.opT {i : Nat} {o : Oper} {Q : Value → World → Prop} (hi : nth ops i = some o) (hw : Want ops.toArray e o true) (hd : o.dst = none) (hT : tl.contains i = true) (hy : Does P n e w o Q) (h : ∀ v w', Q v w' → DL P n ops S tl rest e w' K) :
    DL P n ops S tl ((i, true) :: rest) e w K := by
  intro a ha
  have hi' : ops.toArray[i]? = some o := by rw [← nth_eq, hi]
  unfold wpOrd wpOp
  simp only [hi']
  rw [if_pos (hw.at_ ha)]
  refine .inl (hy a ha _ _ fun v w' hv => ⟨fun h0 => (by rw [hT] at h0; cases h0), ?_⟩)
  rw [hd]
  exact (h v w' hv) _ ha
end
end Go.X
