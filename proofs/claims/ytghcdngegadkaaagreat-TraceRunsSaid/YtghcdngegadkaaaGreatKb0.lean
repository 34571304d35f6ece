/- What the claim stands on, part 0. Of own lemmas only those that it reaches. -/
import Derived.Test.YtghcdngegadkaaaGreatRows
import Derived.WalkKit
import Derived.ProofKit
import Derived.OpenShut
import Derived.Test.YtghcdngegadkaaaGreatProg
import Derived.Below
import Derived.OrdersHeld
import Derived.Deep.Draws
import Derived.KernelRfl
import Derived.Laws.AppendOwn
import Derived.Laws.MakeOwn
import Derived.Laws.OwnMore
import Derived.Shelf.Abstract
import Derived.Laws.CopyRow
import Derived.Laws.StructEq
import Derived.WalkLawsBesides
import Derived.Laws.BytesArg
import Derived.ChangeSame
import Derived.ChangeShapes
import Derived.Carry
import Derived.ChangeKeysEq
import Ieee.Arith
import Derived.Lib.AppendStr
import Derived.Shelf.Small.Bits
import Derived.Shelf.Small.Strs
import Derived.Shelf.Small.Wraps
import Derived.Shelf.Strconv.Itoa0
import Derived.Shelf.Strings.Search1
import Derived.Shelf.Sort.Plain
import Derived.Shelf.Slices.Turned
import Derived.Ground.Names2Prog
import Derived.Shelf.Slices.Clone
import Derived.Shelf.Slices.CompactI
import Derived.Shelf.Slices.SearchI
import Derived.Shelf.Slices.In.SortNone
import Derived.Shelf.Slices.Empties
import Derived.Sort.OwnSortedInts
import Derived.Shelf.SlIterI.Nil
import Derived.Shelf.SlIterI.Sorted
import Derived.Ground.GgzProg
import Derived.Maps.Own
set_option linter.unusedVariables false
set_option linter.unusedSimpArgs false
namespace Go.X
open Go Go.RowKit
abbrev Env := List (Nat × Value)
def get : Env → Nat → Option Value
  | [], _ => none
  | (j, v) :: e, i => bif Nat.beq j i then some v else get e i
def ev (e : Env) : Operand → Option Value
  | .tmp t => get e t
  | .const v => some v
  | .global g => some (.pointer (some ⟨g, 0, none⟩))
  | .func f => some (.func (.func f) #[] #[])
def evs (e : Env) : List Operand → Option (List Value)
  | [] => some []
  | x :: xs => match ev e x, evs e xs with
    | some v, some vs => some (v :: vs)
    | _, _ => none
structure Fits (e : Env) (n : Nat) (a : Act) : Prop where
  size : a.tmps.size = n
  defers : a.defers = []
  look : ∀ i v, get e i = some v → a.tmps.getD i undef = v
theorem get_cons (j : Nat) (v : Value) (e : Env) (i : Nat) : get ((j, v) :: e) i = if j = i then some v else get e i := by
  simp only [get]
  by_cases h : j = i
  · subst h; simp
  · have : Nat.beq j i = false := by
      cases hb : Nat.beq j i with
      | false => rfl
      | true => exact absurd (Nat.eq_of_beq_eq_true hb) h
    rw [this, if_neg h]; rfl
theorem Fits.ev {e : Env} {n : Nat} {a : Act} (h : Fits e n a) {x : Operand} {v : Value} (hx : ev e x = some v) : a.eval x = v := by
  cases x with
  | tmp t => exact h.look t v hx
  | const c => simpa [X.ev, Act.eval] using hx
  | global g => simpa [X.ev, Act.eval] using hx
  | func f => simpa [X.ev, Act.eval] using hx
theorem Fits.put {e : Env} {n : Nat} {a : Act} (h : Fits e n a) {d : Nat} (hd : Nat.blt d n = true) (v : Value) : Fits ((d, v) :: e) n (a.put (some d) v) := by
  have hd' : d < n := by simpa [Nat.blt_eq] using hd
  refine ⟨by simp [Act.put, h.size], by simp [Act.put, h.defers], fun i u hu => ?_⟩
  rw [get_cons] at hu
  by_cases hi : d = i
  · subst hi
    simp at hu; subst hu
    have : d < (a.tmps.setIfInBounds d v).size := by simp [h.size, hd']
    simp [Act.put, h.size, hd']
  · rw [if_neg hi] at hu
    have := h.look i u hu
    simp only [Act.put, Array.getD_eq_getD_getElem?, Array.getElem?_setIfInBounds_ne hi] at *
    exact this
theorem Fits.sub {e e' : Env} {n : Nat} {a : Act} (h : Fits e n a) (hs : ∀ i v, get e' i = some v → get e i = some v) : Fits e' n a :=
  ⟨h.size, h.defers, fun i v hv => h.look i v (hs i v hv)⟩
def Sub (e : Env) : Env → Prop
  | [] => True
  | (i, v) :: r => get e i = some v ∧ Sub e r
theorem Sub.get {e : Env} : ∀ {e' : Env}, Sub e e' → ∀ i v, get e' i = some v → get e i = some v
  | [], _, i, v, h => by simp [X.get] at h
  | (j, u) :: r, h, i, v, hv => by
    rw [get_cons] at hv
    by_cases hj : j = i
    · subst hj; simp at hv; subst hv; exact h.1
    · rw [if_neg hj] at hv; exact Sub.get h.2 i v hv
inductive Pick (e : Env) : List Nat → Env → Prop
  | nil : Pick e [] []
  | cons {i : Nat} {v : Value} {l : List Nat} {e' : Env} : get e i = some v → Pick e l e' → Pick e (i :: l) ((i, v) :: e')
theorem Pick.sub {e : Env} {l : List Nat} {e' : Env} (h : Pick e l e') : Sub e e' := by
  induction h with
  | nil => trivial
  | cons h _ ih => exact ⟨h, ih⟩
def Runs (P : Program) (f : FuncId) (R : Ending → World → Prop) (k : List Item) (a : Act) (w : World) : Prop :=
  ∀ (b : Frame) (cs : List Frame), b.fn = f → b.kind = .normal →
    ∃ e w' fr, R e w' ∧ Comes P (lone (b.at a k) cs w) (lone fr cs w') e ∧ fr.fn = f ∧ fr.leaving P w' e
theorem Runs.step {P : Program} {f : FuncId} {R : Ending → World → Prop} {k k' : List Item} {a a' : Act} {w w' : World}
    (hs : ∀ (b : Frame) (cs : List Frame), Steps P (lone (b.at a k) cs w) (lone (b.at a' k') cs w')) (h : Runs P f R k' a' w') : Runs P f R k a w := by
  intro b cs hb hk
  obtain ⟨e, w₂, fr, hR, hc, h1, h2⟩ := h b cs hb hk
  exact ⟨e, w₂, fr, hR, Comes.of_steps (hs b cs) hc, h1, h2⟩
def post (P : Program) (f : FuncId) (R : Ending → World → Prop) (k : List Item) : Exit → Act → World → Prop
  | .normal, a, w => Runs P f R k a w
  | _, _, _ => False
theorem Runs.of_wp {P : Program} {f : FuncId} {R : Ending → World → Prop} {c : Code} {k : List Item} {a : Act} {w : World}
    (h : c.wp P (post P f R k) a w) : Runs P f R (.code c :: k) a w := by
  intro b cs hb hk
  obtain ⟨e, a', w', hq, harr⟩ := h b k cs
  cases e <;> simp only [post] at hq
  case normal =>
    obtain ⟨e, w₂, fr, hR, hc, h1, h2⟩ := hq b cs hb hk
    exact ⟨e, w₂, fr, hR, Comes.of_steps harr hc, h1, h2⟩
def RK (P : Program) (f : FuncId) (n : Nat) (R : Ending → World → Prop) (k : List Item) (e : Env) (w : World) : Prop := ∀ a, Fits e n a → Runs P f R k a w
section
variable {P : Program} {f : FuncId} {n : Nat} {R : Ending → World → Prop} {k : List Item} {e : Env} {w : World}
theorem RK.sub {e' : Env} (hs : Sub e e') (h : RK P f n R k e' w) : RK P f n R k e w := fun a ha => h a (ha.sub hs.get)
theorem RK.skip (h : RK P f n R k e w) : RK P f n R (.code .skip :: k) e w := fun a ha => (h a ha).step fun _ _ => .one step_skip
theorem RK.seq {x y : Code} (h : RK P f n R (.code x :: .code y :: k) e w) : RK P f n R (.code (.seq x y) :: k) e w := fun a ha => (h a ha).step fun _ _ => .one step_seq
theorem RK.block {id : Nat} {c : Code} (h : RK P f n R (.code c :: .inBlock id :: k) e w) : RK P f n R (.code (.block id c) :: k) e w := fun a ha => (h a ha).step fun _ _ => .one step_block
theorem RK.inBlock {id : Nat} (h : RK P f n R k e w) : RK P f n R (.inBlock id :: k) e w := fun a ha => (h a ha).step fun _ _ => .one step_inBlock
theorem RK.exit {id : Nat} {k' : List Item} (hk : exitTo id k = some k') (h : RK P f n R k' e w) : RK P f n R (.code (.exit id) :: k) e w := fun a ha => (h a ha).step fun _ _ => .one (step_exit hk)
theorem RK.cond {c : Operand} {x y : Code} {t : Bool} (hc : ev e c = some (.bool t)) (ht : t = true → RK P f n R (.code x :: k) e w) (hf : t = false → RK P f n R (.code y :: k) e w) :
    RK P f n R (.code (.cond c x y) :: k) e w := fun a ha => by
  cases t with
  | true => exact (ht rfl a ha).step fun _ _ => .one (step_cond (ha.ev hc))
  | false => exact (hf rfl a ha).step fun _ _ => .one (step_cond (ha.ev hc))
theorem RK.condT {c : Operand} {x y : Code} (hc : ev e c = some (.bool true)) (h : RK P f n R (.code x :: k) e w) : RK P f n R (.code (.cond c x y) :: k) e w :=
  RK.cond hc (fun _ => h) (fun h => by cases h)
theorem RK.condF {c : Operand} {x y : Code} (hc : ev e c = some (.bool false)) (h : RK P f n R (.code y :: k) e w) : RK P f n R (.code (.cond c x y) :: k) e w :=
  RK.cond hc (fun h => by cases h) (fun _ => h)
theorem RK.loop {σ : Type} (E : σ → Env) (Inv : σ → World → Prop) (μ : σ → Nat) (s0 : σ) {c : Code} (hs : Sub e (E s0)) (h0 : Inv s0 w)
    (round : ∀ s w, Inv s w → (∀ s' w', Inv s' w' → μ s' < μ s → RK P f n R (.inLoop c :: k) (E s') w') → RK P f n R (.code c :: .inLoop c :: k) (E s) w) :
    RK P f n R (.code (.loop c) :: k) e w := by
  have key : ∀ m s w, μ s = m → Inv s w → RK P f n R (.code c :: .inLoop c :: k) (E s) w := by
    intro m
    induction m using Nat.strongRecOn with
    | _ m ih =>
      intro s w hm hI
      refine round s w hI fun s' w' hI' hlt => ?_
      intro a ha
      exact (ih (μ s') (hm ▸ hlt) s' w' rfl hI' a ha).step fun _ _ => .one step_inLoop
  intro a ha
  exact (key _ s0 w rfl h0 a (ha.sub hs.get)).step fun _ _ => .one step_loop
theorem RK.ret_of {fn : Func} (hf : P.funcs[f]? = some fn) {v : Value} (hr : ∀ a, Fits e n a → (results fn a.tmps).run P w = .ok v w) (h : R (.returned v) w) (k : List Item) :
    RK P f n R (.code .ret :: k) e w := by
  intro a ha b cs hb hk
  refine ⟨.returned v, w, { b.at a (.code .ret :: k) with mode := .returning }, h, .one step_ret, hb, rfl, ha.defers, hk, fn, ?_, hr a ha⟩
  show P.funcs[b.fn]? = _
  rw [hb]; exact hf
theorem RK.end_of {fn : Func} (hf : P.funcs[f]? = some fn) {v : Value} (hr : ∀ a, Fits e n a → (results fn a.tmps).run P w = .ok v w) (h : R (.returned v) w) :
    RK P f n R [] e w := by
  intro a ha b cs hb hk
  refine ⟨.returned v, w, { b.at a [] with mode := .returning }, h, .one step_end, hb, rfl, ha.defers, hk, fn, ?_, hr a ha⟩
  show P.funcs[b.fn]? = _
  rw [hb]; exact hf
theorem res1 {fn : Func} {t : Tmp} (h : fn.results = #[.tmp t]) {v : Value} (hv : get e t = some v) : ∀ a, Fits e n a → (results fn a.tmps).run P w = .ok v w := fun a ha => by
  have := ha.look t v hv
  rw [Array.getD_eq_getD_getElem?] at this
  simp [results, h, this]
theorem res2 {fn : Func} {t u : Tmp} (h : fn.results = #[.tmp t, .tmp u]) {v v' : Value} (hv : get e t = some v) (hv' : get e u = some v') : ∀ a, Fits e n a → (results fn a.tmps).run P w = .ok (.tuple #[v, v']) w := fun a ha => by
  have h1 := ha.look t v hv
  have h2 := ha.look u v' hv'
  rw [Array.getD_eq_getD_getElem?] at h1 h2
  simp [results, h, h1, h2]
theorem res3 {fn : Func} {t u s : Tmp} (h : fn.results = #[.tmp t, .tmp u, .tmp s]) {v v' v'' : Value} (hv : get e t = some v) (hv' : get e u = some v') (hv'' : get e s = some v'') :
    ∀ a, Fits e n a → (results fn a.tmps).run P w = .ok (.tuple #[v, v', v'']) w := fun a ha => by
  have h1 := ha.look t v hv
  have h2 := ha.look u v' hv'
  have h3 := ha.look s v'' hv''
  rw [Array.getD_eq_getD_getElem?] at h1 h2 h3
  simp [results, h, h1, h2, h3]
theorem res0 {fn : Func} (h : fn.results = #[]) : ∀ a, Fits e n a → (results fn a.tmps).run P w = .ok (.tuple #[]) w := fun a ha => by
  simp [results, h]
end
def envOf : Nat → List Value → Env
  | _, [] => []
  | i, v :: vs => (i, v) :: envOf (i + 1) vs
theorem get_envOf : ∀ (vs : List Value) (i j : Nat) (v : Value), get (envOf i vs) j = some v → ∃ m, j = i + m ∧ vs[m]? = some v
  | [], i, j, v, h => by simp [envOf, get] at h
  | u :: vs, i, j, v, h => by
    rw [envOf, get_cons] at h
    by_cases hj : i = j
    · subst hj; simp at h; subst h; exact ⟨0, by simp, by simp⟩
    · rw [if_neg hj] at h
      obtain ⟨m, hm, hv⟩ := get_envOf vs (i + 1) j v h
      exact ⟨m + 1, by omega, by simpa using hv⟩
theorem enter {P : Program} {f : FuncId} {n : Nat} {R : Ending → World → Prop} {w : World} {fn : Func} {c : Code} {vs : List Value} (hf : P.funcs[f]? = some fn) (hb : fn.body = some c) (hn : fn.ntmps = n)
    (hl : Nat.ble vs.length n = true) (e : Env) (he : Sub (envOf 0 vs) e) (h : RK P f n R [.code c] e w) : Calls P f vs.toArray w R := by
  intro cs
  let b : Frame := { (default : Frame) with fn := f, kind := .normal }
  let a : Act := { tmps := vs.toArray ++ Array.replicate (fn.ntmps - vs.toArray.size) undef, defers := [] }
  have henter : Frame.enter P f vs.toArray .normal = b.at a [.code c] := by
    simp [Frame.enter, Frame.at, hf, hb, b, a]
  have hle : vs.length ≤ n := by simpa using hl
  have ha : Fits e n a := by
    refine Fits.sub (e := envOf 0 vs) ⟨by simp [a, hn]; omega, rfl, fun i v hv => ?_⟩ he.get
    obtain ⟨m, hm, hv⟩ := get_envOf vs 0 i v hv
    have hm' : i = m := by omega
    subst hm'
    have hlt : i < vs.length := (List.getElem?_eq_some_iff.1 hv).1
    simp only [a, Array.getD_eq_getD_getElem?]
    rw [Array.getElem?_append_left (by simpa using hlt)]
    simp [hv]
  rw [henter]
  exact h a ha b cs rfl rfl
def RL (P : Program) (n : Nat) (ops : Array Oper) (rest : List Oper) (e : Env) (w : World) (K : Exit → Act → World → Prop) : Prop := ∀ a, Fits e n a → wpList P ops K rest a w
def Yld (P : Program) (n : Nat) (C : World → Prop) (e : Env) (o : Oper) (v : Value) : Prop := ∀ a, Fits e n a → ∀ w, C w → (execOp a.eval o).run P w = .ok (.value v) w
section
variable {P : Program} {f : FuncId} {n : Nat} {R : Ending → World → Prop} {k : List Item} {e : Env} {w : World} {ops : Array Oper} {rest : List Oper} {K : Exit → Act → World → Prop}
theorem RK.region {id : Nat} {l : List Oper} (h : RL P n l.toArray l e w (post P f R k)) : RK P f n R (.code (.region id l.toArray false) :: k) e w :=
  fun a ha => Runs.of_wp (wp_region_lit (h a ha))
theorem RL.done (h : RK P f n R k e w) : RL P n ops [] e w (post P f R k) := fun a ha => wpList_nil (h a ha)
theorem yielded_of {a : Act} (ha : Fits e n a) {j d : Nat} {v : Value} (hd : (ops[j]?).bind (·.dst) = some d) (hv : get e d = some v) :
    yielded ops a.tmps j = match v with | .bool b => some b | _ => none := by
  have h1 := ha.look d v hv
  unfold yielded
  rw [hd]
  simp only [Option.bind_some]
  rw [Array.getD_eq_getD_getElem?] at h1
  cases ht : a.tmps[d]? with
  | none => rw [ht] at h1; simp at h1; subst h1; rfl
  | some u => rw [ht] at h1; simp at h1; subst h1; cases u <;> rfl
theorem wanted_none {a : Act} {o : Oper} (h : o.guard = none) : Region.wanted o (yielded ops a.tmps) = true := by simp [Region.wanted, h]
theorem wanted_yes {a : Act} (ha : Fits e n a) {o : Oper} {j d : Nat} {want : Bool} (hg : o.guard = some (j, want)) (hd : (ops[j]?).bind (·.dst) = some d) (hv : get e d = some (.bool want)) :
    Region.wanted o (yielded ops a.tmps) = true := by
  simp [Region.wanted, hg, yielded_of ha hd hv]
def isNot (v : Value) (want : Bool) : Bool := match v with
  | .bool b => b != want
  | _ => true
theorem wanted_no {a : Act} (ha : Fits e n a) {o : Oper} {j d : Nat} {want : Bool} {v : Value} (hg : o.guard = some (j, want)) (hd : (ops[j]?).bind (·.dst) = some d) (hv : get e d = some v) (hn : isNot v want = true) :
    Region.wanted o (yielded ops a.tmps) = false := by
  simp only [Region.wanted, hg, yielded_of ha hd hv]
  cases v <;> simp_all [isNot]
inductive Want (ops : Array Oper) (e : Env) (o : Oper) : Bool → Prop
  | free : o.guard = none → Want ops e o true
  | yes {j d : Nat} {want : Bool} : o.guard = some (j, want) → (ops[j]?).bind (·.dst) = some d → get e d = some (.bool want) → Want ops e o true
  | no {j d : Nat} {want : Bool} {v : Value} : o.guard = some (j, want) → (ops[j]?).bind (·.dst) = some d → get e d = some v → isNot v want = true → Want ops e o false
theorem Want.at_ {a : Act} (ha : Fits e n a) {o : Oper} {b : Bool} (h : Want ops e o b) : Region.wanted o (yielded ops a.tmps) = b := by
  cases h with
  | free h => exact wanted_none h
  | yes h1 h2 h3 => exact wanted_yes ha h1 h2 h3
  | no h1 h2 h3 h4 => exact wanted_no ha h1 h2 h3 h4
theorem RL.q {o : Oper} {d : Nat} {v : Value} (hw : Want ops e o true) (hd : o.dst = some d) (hb : Nat.blt d n = true) (hy : Yld P n (· = w) e o v) (h : RL P n ops rest ((d, v) :: e) w K) : RL P n ops (o :: rest) e w K := by
  intro a ha
  unfold wpList
  rw [if_pos (hw.at_ ha)]
  refine .inl ?_
  unfold Oper.wp
  rw [hy a ha w rfl]
  simp only [Oper.upon, hd]
  exact h _ (ha.put hb v)
theorem RL.no {o : Oper} {d : Nat} (hw : Want ops e o false) (hd : o.dst = some d) (hb : Nat.blt d n = true) (h : RL P n ops rest ((d, undef) :: e) w K) : RL P n ops (o :: rest) e w K := by
  intro a ha
  unfold wpList
  rw [if_neg (by rw [hw.at_ ha]; decide), hd]
  exact h _ (ha.put hb undef)
def Does (P : Program) (n : Nat) (e : Env) (w : World) (o : Oper) (Q : Value → World → Prop) : Prop :=
  ∀ a, Fits e n a → ∀ (K : Act → World → Prop) (K' : Exit → Act → World → Prop), (∀ v w', Q v w' → K (a.put o.dst v) w') → o.wp P a w K K'
theorem Does.mono {o : Oper} {Q Q' : Value → World → Prop} (h : Does P n e w o Q) (hq : ∀ v w', Q v w' → Q' v w') : Does P n e w o Q' :=
  fun a ha K K' hk => h a ha K K' fun v w' hv => hk v w' (hq v w' hv)
theorem Does.of_run {o : Oper} {v : Value} {w' : World} {Q : Value → World → Prop} (hr : ∀ a, Fits e n a → (execOp a.eval o).run P w = .ok (.value v) w') (hq : Q v w') : Does P n e w o Q := by
  intro a ha K K' hk
  unfold Oper.wp
  rw [hr a ha]
  exact hk v w' hq
theorem Does.of_skip {o : Oper} {w' : World} {Q : Value → World → Prop} (hr : ∀ a, Fits e n a → (execOp a.eval o).run P w = .ok .skip w') (hq : Q undef w') : Does P n e w o Q := by
  intro a ha K K' hk
  unfold Oper.wp
  rw [hr a ha]
  exact hk undef w' hq
def Fx (P : Program) (f : FuncId) (args : List Value) (w : World) (Q : Value → World → Prop) : Prop := Calls P f args.toArray w fun e w' => ∃ v, e = .returned v ∧ Q v w'
theorem Fx.mono {g : FuncId} {args : List Value} {Q Q' : Value → World → Prop} (h : Fx P g args w Q) (hq : ∀ v w', Q v w' → Q' v w') : Fx P g args w Q' :=
  Calls.mono h fun e w' ⟨v, he, hv⟩ => ⟨v, he, hq v w' hv⟩
theorem Does.of_enter {o : Oper} {g : FuncId} {args : List Value} {Q : Value → World → Prop} (hr : ∀ a, Fits e n a → (execOp a.eval o).run P w = .ok (.enter g args.toArray) w) (hc : Fx P g args w Q) : Does P n e w o Q := by
  intro a ha K K' hk
  unfold Oper.wp
  rw [hr a ha]
  simp only [Oper.upon]
  refine Calls.mono hc ?_
  rintro e w' ⟨v, rfl, hv⟩
  exact hk v w' hv
theorem RL.op {o : Oper} {d : Nat} {Q : Value → World → Prop} (hw : Want ops e o true) (hd : o.dst = some d) (hb : Nat.blt d n = true) (hy : Does P n e w o Q) (h : ∀ v w', Q v w' → RL P n ops rest ((d, v) :: e) w' K) : RL P n ops (o :: rest) e w K := by
  intro a ha
  unfold wpList
  rw [if_pos (hw.at_ ha)]
  refine .inl (hy a ha _ _ fun v w' hv => ?_)
  rw [hd]
  exact h v w' hv _ (ha.put hb v)
theorem RL.op' {o : Oper} {Q : Value → World → Prop} (hw : Want ops e o true) (hd : o.dst = none) (hy : Does P n e w o Q) (h : ∀ v w', Q v w' → RL P n ops rest e w' K) : RL P n ops (o :: rest) e w K := by
  intro a ha
  unfold wpList
  rw [if_pos (hw.at_ ha)]
  refine .inl (hy a ha _ _ fun v w' hv => ?_)
  rw [hd]
  exact h v w' hv _ ha
end
def wpT (P : Program) (ops : Array Oper) (Q : Exit → Act → World → Prop) (S : World → Prop) (T : Nat → Bool) : Nat → Array Bool → Act → World → Prop
  | 0, L, a, w => Region.ready .any ops L = [] ∧ Q .normal a w
  | f + 1, L, a, w => (Region.ready .any ops L = [] → Q .normal a w) ∧ ∀ i ∈ Region.ready .any ops L, wpOp P ops Q i (fun a' w' => (T i = false → S w → S w') ∧ wpT P ops Q S T f (L.setIfInBounds i true) a' w') a w
theorem wpT_any {P : Program} {ops : Array Oper} {Q : Exit → Act → World → Prop} {S : World → Prop} {T : Nat → Bool} : ∀ (f : Nat) (L : Array Bool) (a : Act) (w : World), wpT P ops Q S T f L a w → wpAny P .any ops Q f L a w
  | 0, _, _, _, h => h
  | f + 1, _, _, _, h => ⟨h.1, fun i hi => wpOp_mono (fun a' w' h' => wpT_any f _ a' w' h'.2) (h.2 i hi)⟩
theorem wpT_take {P : Program} {ops : Array Oper} {Q : Exit → Act → World → Prop} {S C : World → Prop} {T : Nat → Bool} (hs : Region.noSelect ops = true) (hQ : ∀ c a w, ¬ Q (.panic c) a w) {i : Nat} {o : Oper} {v : Value} (hi : ops[i]? = some o)
    (hSC : ∀ w, S w → C w) (hT : (∀ w, C w) ∨ ∀ (j : Nat) (oj : Oper), ops[j]? = some oj → T j = true → oj.after.toList.any (fun e => Region.binds .any e && Nat.beq e.on i) = true) :
    ∀ (f : Nat) (L : Array Bool) (a : Act) (w : World),
      (∀ (j : Nat) (oj : Oper), ops[j]? = some oj → j ≠ i → L.getD j true = false → (∀ e ∈ oj.after, Region.binds .any e = true → e.on ≠ i) → o.apart ops oj = true) →
      i ∈ Region.ready .any ops L → YieldsIf P ops C o v a → C w → ((∀ w, C w) ∨ S w) → wpT P ops Q S T f (L.setIfInBounds i true) (a.put o.dst v) w → wpT P ops Q S T (f + 1) L a w := by
  intro f
  induction f with
  | zero =>
    intro L a w _ hr hy hC hS H
    refine ⟨fun h => (by rw [h] at hr; cases hr), fun j hj => ?_⟩
    by_cases hji : j = i
    · subst hji; exact hy.wpOp hi hC ⟨fun _ h => h, H⟩
    · have := ready_mono hj hji
      rw [H.1] at this
      cases this
  | succ f ih =>
    intro L a w hfree hr hy hC hS H
    refine ⟨fun h => (by rw [h] at hr; cases hr), fun j hj => ?_⟩
    by_cases hji : j = i
    · subst hji; exact hy.wpOp hi hC ⟨fun _ h => h, H⟩
    · obtain ⟨hjun, oj, hoj, hall⟩ := mem_ready.1 hj
      have hun : L.getD i false = false := by
        have h0 := (mem_ready.1 hr).1
        rcases Nat.lt_or_ge i L.size with h' | h'
        · simp [h'] at h0 ⊢; exact h0
        · simp [Array.getElem?_eq_none h'] at h0
      have hno : ∀ e ∈ oj.after, Region.binds .any e = true → e.on ≠ i := fun e he hb heq => by
        have h1 := hall e he hb
        rw [heq, hun] at h1
        cases h1
      have hCj : T j = true → ∀ w, C w := fun ht => by
        rcases hT with h0 | h0
        · exact h0
        · have h1 := h0 j oj hoj ht
          rw [List.any_eq_true] at h1
          obtain ⟨e, he, h2⟩ := h1
          rw [Bool.and_eq_true] at h2
          exact absurd (Nat.eq_of_beq_eq_true h2.2) (hno e (by simpa using he) h2.1)
      have hC' : ∀ w', (T j = false → S w → S w') → (∀ w, C w) ∨ S w' := fun w' h => by
        rcases hS with h0 | hS
        · exact .inl h0
        · cases ht : T j with
          | false => exact .inr (h ht hS)
          | true => exact .inl (hCj ht)
      have hf := hfree j oj hoj hji hjun hno
      have h2 := wpOp_putIf hoj hf (fun cs b => Region.noSelect_spec hs i o cs b hi) (fun cs b => Region.noSelect_spec hs j oj cs b hoj) (fun c a w hq => absurd hq (hQ _ _ _)) hy (H.2 j (ready_mono hj hji))
      refine wpOp_mono (fun a' w' h3 => ⟨h3.2.1, ih (L.setIfInBounds j true) a' w' (fun k ok hk hki hunk hnok => hfree k ok hk hki ?_ hnok) (ready_mono hr (Ne.symm hji)) h3.1 ((hC' _ h3.2.1).elim (fun h => h _) (hSC _)) (hC' _ h3.2.1) ?_⟩) h2
      · by_cases hjk : j = k
        · subst hjk; exact hjun
        · rw [getD_set_ne true hjk] at hunk; exact hunk
      · rw [Array.setIfInBounds_comm _ _ hji]
        exact h3.2.2
def nth : List Oper → Nat → Option Oper
  | [], _ => none
  | o :: _, 0 => some o
  | _ :: l, i + 1 => nth l i
theorem nth_eq : ∀ (l : List Oper) (i : Nat), nth l i = l.toArray[i]?
  | [], i => by simp [nth]
  | o :: l, 0 => by simp [nth]
  | o :: l, i + 1 => by have := nth_eq l i; simp at this; simp [nth, this]
def tailOk (ops : Array Oper) (tl : List Nat) (i : Nat) : Bool := tl.all fun j => match nth ops.toList j with | some oj => oj.after.toList.any (fun e => Region.binds .any e && Nat.beq e.on i) | none => true
def okOrd (ops : Array Oper) (tl : List Nat) : Array Bool → List (Nat × Bool) → Bool
  | L, [] => (Region.ready .any ops L).isEmpty
  | L, (i, loud) :: r => (if loud then Region.ready .any ops L == [i] else (Region.ready .any ops L).contains i && Region.free .any ops L i) && okOrd ops tl (L.setIfInBounds i true) r
def wpOrd (P : Program) (ops : Array Oper) (S : World → Prop) (tl : List Nat) (Q : Exit → Act → World → Prop) : List (Nat × Bool) → Act → World → Prop
  | [], a, w => Q .normal a w
  | (i, false) :: r, a, w => ∃ o v, ops[i]? = some o ∧ (YieldsIf P ops (fun _ => True) o v a ∨ tailOk ops tl i = true ∧ YieldsIf P ops S o v a ∧ S w) ∧ wpOrd P ops S tl Q r (a.put o.dst v) w
  | (i, true) :: r, a, w => wpOp P ops Q i (fun a' w' => (tl.contains i = false → S w → S w') ∧ wpOrd P ops S tl Q r a' w') a w
theorem wpT_of_ord {P : Program} {ops : Array Oper} {S : World → Prop} {tl : List Nat} {Q : Exit → Act → World → Prop} (hs : Region.noSelect ops = true) (hQ : ∀ c a w, ¬ Q (.panic c) a w) :
    ∀ (l : List (Nat × Bool)) (L : Array Bool) (a : Act) (w : World), okOrd ops tl L l = true → wpOrd P ops S tl Q l a w → wpT P ops Q S tl.contains l.length L a w
  | [], L, a, w, h, hw => ⟨by simpa [okOrd, List.isEmpty_iff] using h, hw⟩
  | (i, false) :: r, L, a, w, h, hw => by
    simp only [okOrd, Bool.and_eq_true, Bool.false_eq_true, if_false] at h
    obtain ⟨o, v, ho, hy, hr⟩ := hw
    have hrec := wpT_of_ord hs hQ r _ _ _ h.2 hr
    have hfree := Region.free_spec ho h.1.2
    rcases hy with hy | ⟨ht, hy, hSw⟩
    · exact wpT_take hs hQ ho (C := fun _ => True) (fun _ _ => trivial) (.inl fun _ => trivial) _ _ _ _ hfree (by simpa using h.1.1) hy trivial (.inl fun _ => trivial) hrec
    · refine wpT_take hs hQ ho (C := S) (fun _ h => h) (.inr fun j oj hj htj => ?_) _ _ _ _ hfree (by simpa using h.1.1) hy hSw (.inr hSw) hrec
      have h1 := List.all_eq_true.1 ht j (by simpa using htj)
      have h2 : nth ops.toList j = some oj := by rw [nth_eq]; simpa using hj
      simp only [h2] at h1
      exact h1
  | (i, true) :: r, L, a, w, h, hw => by
    simp only [okOrd, Bool.and_eq_true, if_true, beq_iff_eq] at h
    refine ⟨fun h0 => (by rw [h.1] at h0; cases h0), fun j hj => ?_⟩
    rw [h.1] at hj
    simp only [List.mem_singleton] at hj
    subst hj
    exact wpOp_mono (fun a' w' h' => ⟨h'.1, wpT_of_ord hs hQ r _ _ _ h.2 h'.2⟩) hw
def DL (P : Program) (n : Nat) (ops : List Oper) (S : World → Prop) (tl : List Nat) (rest : List (Nat × Bool)) (e : Env) (w : World) (K : Exit → Act → World → Prop) : Prop := ∀ a, Fits e n a → wpOrd P ops.toArray S tl K rest a w
section
variable {P : Program} {f : FuncId} {n : Nat} {R : Ending → World → Prop} {k : List Item} {e : Env} {w : World} {ops : List Oper} {rest : List (Nat × Bool)} {K : Exit → Act → World → Prop} {S : World → Prop} {tl : List Nat}
theorem RK.draw {id : Nat} {l : List Oper} (ord : List (Nat × Bool)) (tl : List Nat) (S : World → Prop) (hm : P.follows .mixedOrders = true) (hb : (Region.noSelect l.toArray && okOrd l.toArray tl (Array.replicate l.length false) ord && Nat.beq l.length ord.length) = true)
    (h : DL P n l S tl ord e { w with drawn := w.drawn + 1 } (post P f R k)) : RK P f n R (.code (.region id l.toArray true) :: k) e w := by
  intro a ha
  simp only [Bool.and_eq_true] at hb
  have hl : l.length = ord.length := Nat.eq_of_beq_eq_true hb.2
  refine Runs.of_wp (wp_region_any hm (wpT_any (S := S) (T := tl.contains) _ _ _ _ ?_))
  have := wpT_of_ord (P := P) (S := S) (Q := post P f R k) hb.1.1 (fun c a w h => h) ord _ a _ hb.1.2 (h a ha)
  simpa [hl] using this
theorem DL.done (h : RK P f n R k e w) : DL P n ops S tl [] e w (post P f R k) := fun a ha => h a ha
theorem DL.q {i : Nat} {o : Oper} {d : Nat} {v : Value} (hi : nth ops i = some o) (hw : Want ops.toArray e o true) (hd : o.dst = some d) (hb : Nat.blt d n = true) (ht : tailOk ops.toArray tl i = true) (hy : Yld P n S e o v) (hS : S w) (h : DL P n ops S tl rest ((d, v) :: e) w K) :
    DL P n ops S tl ((i, false) :: rest) e w K := by
  intro a ha
  refine ⟨o, v, by rw [← nth_eq, hi], .inr ⟨ht, .inl ⟨hw.at_ ha, fun w' hS => hy a ha w' hS⟩, hS⟩, ?_⟩
  rw [hd]
  exact h _ (ha.put hb v)
theorem DL.qf {i : Nat} {o : Oper} {d : Nat} {v : Value} (hi : nth ops i = some o) (hw : Want ops.toArray e o true) (hd : o.dst = some d) (hb : Nat.blt d n = true) (hy : Yld P n (fun _ => True) e o v) (h : DL P n ops S tl rest ((d, v) :: e) w K) :
    DL P n ops S tl ((i, false) :: rest) e w K := by
  intro a ha
  refine ⟨o, v, by rw [← nth_eq, hi], .inl (.inl ⟨hw.at_ ha, fun w' hS => hy a ha w' hS⟩), ?_⟩
  rw [hd]
  exact h _ (ha.put hb v)
theorem DL.op {i : Nat} {o : Oper} {d : Nat} {Q : Value → World → Prop} (hi : nth ops i = some o) (hw : Want ops.toArray e o true) (hd : o.dst = some d) (hb : Nat.blt d n = true) (hy : Does P n e w o Q) (h : ∀ v w', Q v w' → S w' ∧ DL P n ops S tl rest ((d, v) :: e) w' K) :
    DL P n ops S tl ((i, true) :: rest) e w K := by
  intro a ha
  have hi' : ops.toArray[i]? = some o := by rw [← nth_eq, hi]
  unfold wpOrd wpOp
  simp only [hi']
  rw [if_pos (hw.at_ ha)]
  refine .inl (hy a ha _ _ fun v w' hv => ⟨fun _ _ => (h v w' hv).1, ?_⟩)
  rw [hd]
  exact (h v w' hv).2 _ (ha.put hb v)
theorem DL.opT {i : Nat} {o : Oper} {Q : Value → World → Prop} (hi : nth ops i = some o) (hw : Want ops.toArray e o true) (hd : o.dst = none) (hT : tl.contains i = true) (hy : Does P n e w o Q) (h : ∀ v w', Q v w' → DL P n ops S tl rest e w' K) :
    DL P n ops S tl ((i, true) :: rest) e w K := by
  intro a ha
  have hi' : ops.toArray[i]? = some o := by rw [← nth_eq, hi]
  unfold wpOrd wpOp
  simp only [hi']
  rw [if_pos (hw.at_ ha)]
  refine .inl (hy a ha _ _ fun v w' hv => ⟨fun h0 => (by rw [hT] at h0; cases h0), ?_⟩)
  rw [hd]
  exact (h v w' hv) _ ha
end
end Go.X
set_option linter.unusedVariables false
set_option linter.unusedSimpArgs false
namespace Go.X
open Go Go.RowKit
def binI (op : BinOp) (k : IntKind) (a b : Int) : Option Value :=
  match op with
  | .add => some (.int k (k.wrap (a + b)))
  | .sub => some (.int k (k.wrap (a - b)))
  | .mul => some (.int k (k.wrap (a * b)))
  | .eql => some (.bool (decide (a = b)))
  | .neq => some (.bool (decide (a ≠ b)))
  | .lss => some (.bool (decide (a < b)))
  | .leq => some (.bool (decide (a ≤ b)))
  | .gtr => some (.bool (decide (b < a)))
  | .geq => some (.bool (decide (b ≤ a)))
  | .and => some (.int k (k.wrap (BitVec.ofInt k.bits a &&& BitVec.ofInt k.bits b).toNat))
  | .or => some (.int k (k.wrap (BitVec.ofInt k.bits a ||| BitVec.ofInt k.bits b).toNat))
  | .xor => some (.int k (k.wrap (BitVec.ofInt k.bits a ^^^ BitVec.ofInt k.bits b).toNat))
  | .andNot => some (.int k (k.wrap (BitVec.ofInt k.bits a &&& ~~~ BitVec.ofInt k.bits b).toNat))
  | _ => none
def slt (a b : ByteArray) : Bool := Op.bytesLess a.data.toList b.data.toList
def sle (a b : ByteArray) : Bool := slt a b || decide (a = b)
theorem beqS (a b : ByteArray) : (a.toList == b.toList) = decide (a = b) := by
  rw [Bool.eq_iff_iff]
  simp only [ByteArray.toList_eq, beq_iff_eq, decide_eq_true_eq]
  constructor
  · intro h
    cases a; cases b
    simp only [ByteArray.mk.injEq]
    exact Array.ext' h
  · rintro rfl; rfl
def binS (op : BinOp) (a b : ByteArray) : Option Value :=
  match op with
  | .eql => some (.bool (decide (a = b)))
  | .neq => some (.bool (!decide (a = b)))
  | .lss => some (.bool (slt a b))
  | .leq => some (.bool (sle a b))
  | .gtr => some (.bool (!sle a b))
  | .geq => some (.bool (!slt a b))
  | _ => none
def binF (op : BinOp) (k : FloatKind) (a b : Nat) : Option Value :=
  match op with
  | .eql => some (.bool (k.format.order a b == some .eq))
  | .neq => some (.bool (k.format.order a b != some .eq))
  | .lss => some (.bool (k.format.order a b == some .lt))
  | .leq => some (.bool (k.format.order a b == some .lt || k.format.order a b == some .eq))
  | .gtr => some (.bool (k.format.order a b == some .gt))
  | .geq => some (.bool (k.format.order a b == some .gt || k.format.order a b == some .eq))
  | _ => none
def nthV : List Value → Nat → Option Value
  | [], _ => none
  | v :: _, 0 => some v
  | _ :: l, i + 1 => nthV l i
theorem nthV_eq : ∀ (l : List Value) (i : Nat), nthV l i = l[i]?
  | [], i => by simp [nthV]
  | v :: l, 0 => by simp [nthV]
  | v :: l, i + 1 => by simp [nthV, nthV_eq l i]
def unI (op : UnOp) (v : Value) : Option Value :=
  match op, v with
  | .not, .bool b => some (.bool (!b))
  | .neg, .int k n => some (.int k (k.wrap (0 - n)))
  | _, _ => none
def pureOp (e : Env) : Op → Option Value
  | .move x => ev e x
  | .assign x => ev e x
  | .pick c a b => match ev e c with
    | some (.bool true) => ev e a
    | some (.bool false) => ev e b
    | _ => none
  | .binOp op _ x y _ => match ev e x, ev e y with
    | some (.int .i64 a), some (.int .i64 b) => binI op .i64 a b
    | some (.int .u64 a), some (.int .u64 b) => binI op .u64 a b
    | some (.int .u8 a), some (.int .u8 b) => binI op .u8 a b
    | some (.int .i32 a), some (.int .i32 b) => binI op .i32 a b
    | some (.int .u32 a), some (.int .u32 b) => binI op .u32 a b
    | some (.string a), some (.string b) => binS op a b
    | some (.float .f64 a), some (.float .f64 b) => binF op .f64 a b
    | _, _ => none
  | .unOp op _ x => match ev e x with
    | some v => unI op v
    | none => none
  | .extract x i => match ev e x with
    | some (.tuple vs) => nthV vs.toList i
    | _ => none
  | .nilCheck x => match ev e x with
    | some (.pointer (some a)) => some (.pointer (some a))
    | some (.func (.func f) p c) => some (.func (.func f) p c)
    | _ => none
  | .makeFunc fn first cap => match evs e first.toList, evs e cap.toList with
    | some f, some c => some (.func fn f.toArray c.toArray)
    | _, _ => none
  | _ => none
section
variable {P : Program} {n : Nat} {e : Env} {C : World → Prop}
theorem Fits.evs {a : Act} (ha : Fits e n a) : ∀ {xs : List Operand} {vs : List Value}, X.evs e xs = some vs → xs.map a.eval = vs
  | [], vs, h => by simp [X.evs] at h; simp [h]
  | x :: xs, vs, h => by
    simp only [X.evs] at h
    split at h
    · rename_i v us hv hu
      simp only [Option.some.injEq] at h; subst h
      simp [ha.ev hv, Fits.evs ha hu]
    · cases h
theorem beq_eq (a b : Int) : (a == b) = decide (a = b) := rfl
theorem bne_eq (a b : Int) : (a != b) = !decide (a = b) := rfl
theorem binI_run {op : BinOp} {t : TypeId} {x y : Operand} {k : IntKind} {p q : Int} {v : Value} (h : binI op k p q = some v) (w : World) :
    (do eqGuard op t x y (.int k p) (.int k q); binOp op t (.int k p) (.int k q) : Sem Value).run P w = .ok v w := by
  cases op <;> simp only [binI, Option.some.injEq, reduceCtorEq] at h <;> subst h <;> simp [eqGuard, binOp, Op.intArith, Op.intCmp, Op.intBits, beq_eq, bne_eq]
theorem binS_run {op : BinOp} {t : TypeId} {x y : Operand} {p q : ByteArray} {v : Value} (h : binS op p q = some v) (w : World) :
    (do eqGuard op t x y (.string p) (.string q); binOp op t (.string p) (.string q) : Sem Value).run P w = .ok v w := by
  cases op <;> simp only [binS, Option.some.injEq, reduceCtorEq] at h <;> subst h <;> simp only [eqGuard, binOp, Op.stringOp, beqS] <;> simp [slt, sle, ByteArray.toList_eq]
theorem binF_run {op : BinOp} {t : TypeId} {x y : Operand} {k : FloatKind} {p q : Nat} {v : Value} (h : binF op k p q = some v) (w : World) :
    (do eqGuard op t x y (.float k p) (.float k q); binOp op t (.float k p) (.float k q) : Sem Value).run P w = .ok v w := by
  cases op <;> simp only [binF, Option.some.injEq, reduceCtorEq] at h <;> subst h <;> simp [eqGuard, binOp, Op.floatCmp]
theorem unI_run {op : UnOp} {v u : Value} (h : unI op v = some u) (w : World) : (Op.unary op v).run P w = .ok u w := by
  unfold unI at h
  split at h
  · simp only [Option.some.injEq] at h; subst h; simp [Op.unary]
  · simp only [Option.some.injEq] at h; subst h; simp [Op.unary, Op.intArith]
  · cases h
theorem Yld.pure {o : Oper} {v : Value} (h : pureOp e o.op = some v) : Yld P n C e o v := by
  intro a ha w _
  obtain ⟨dst, op, ty, pos, after, guard⟩ := o
  simp only at h
  unfold execOp
  cases op <;> simp only [pureOp, reduceCtorEq] at h
  case move x => simp [ha.ev h]
  case assign x => simp [ha.ev h]
  case pick c x y =>
    split at h
    · rename_i hc; simp [ha.ev hc, ha.ev h, asBool]
    · rename_i hc; simp [ha.ev hc, ha.ev h, asBool]
    · cases h
  case binOp op t x y t' =>
    split at h
    all_goals first
      | (rename_i p q hx hy
         simp only [ha.ev hx, ha.ev hy]
         first
          | (have := binI_run (P := P) (t := t) (x := x) (y := y) h w; simp only [Sem.run_bind, this, Result.andThen_ok, Sem.run_pure])
          | (have := binS_run (P := P) (t := t) (x := x) (y := y) h w; simp only [Sem.run_bind, this, Result.andThen_ok, Sem.run_pure])
          | (have := binF_run (P := P) (t := t) (x := x) (y := y) h w; simp only [Sem.run_bind, this, Result.andThen_ok, Sem.run_pure]))
      | cases h
  case unOp op t x =>
    split at h
    · rename_i u hx
      simp only [ha.ev hx, Sem.run_bind, unI_run h w, Result.andThen_ok, Sem.run_pure]
    · cases h
  case extract x i =>
    split at h
    · rename_i vs hx
      rw [nthV_eq] at h
      have : vs[i]? = some v := by simpa using h
      simp [ha.ev hx, Instr.extract, this]
    · cases h
  case nilCheck x =>
    split at h
    · rename_i p hx; simp only [Option.some.injEq] at h; subst h; simp [ha.ev hx]
    · rename_i f p c hx; simp only [Option.some.injEq] at h; subst h; simp [ha.ev hx]
    · cases h
  case makeFunc fn first cap =>
    split at h
    · rename_i f c hf hc
      simp only [Option.some.injEq] at h; subst h
      have h1 := ha.evs hf
      have h2 := ha.evs hc
      have e1 : first.map a.eval = f.toArray := by rw [← h1, ← Array.toList_map]
      have e2 : cap.map a.eval = c.toArray := by rw [← h2, ← Array.toList_map]
      simp [Instr.makeFunc, e1, e2]
    · cases h
def Plain (P : Program) (t : TypeId) : Prop := ∀ w, (isAgg t).run P w = .ok false w
theorem Plain.of {t : TypeId} {d : TypeDesc} (h : P.underlying t = some d) (hd : (match d with | .struct _ | .array _ _ => true | _ => false) = false) : Plain P t := fun w => Go.Proofs.run_isAgg_plain h hd w
structure TI (P : Program) (t : TypeId) (z : Value) (size bytes : Nat) : Prop where
  out : ∃ i, P.info? t = some i ∧ i.zero = some z ∧ i.size = size ∧ i.bytes = bytes
theorem TI.mk' {t : TypeId} {z : Value} {size bytes : Nat} (h : (P.info? t).map (fun i => (i.zero, i.size, i.bytes)) = some (some z, size, bytes)) : TI P t z size bytes := by
  cases hi : P.info? t with
  | none => simp [hi] at h
  | some i => simp [hi] at h; exact ⟨i, hi, h.1, h.2.1, h.2.2⟩
structure Agg (P : Program) (t : TypeId) (size : Nat) : Prop where
  agg : ∀ w, (isAgg t).run P w = .ok true w
  size : ∀ w, (sizeOf t).run P w = .ok size w
theorem TI.sizeOf {t : TypeId} {z : Value} {size bytes : Nat} (h : TI P t z size bytes) (w : World) : (sizeOf t).run P w = .ok size w := by
  obtain ⟨i, hi, _, hs, _⟩ := h.out
  simp [Go.sizeOf, typeInfo, hi, hs]
theorem TI.zero {t : TypeId} {z : Value} {size bytes : Nat} (h : TI P t z size bytes) (w : World) : (zeroValue t).run P w = .ok z w := by
  obtain ⟨i, hi, hz, _⟩ := h.out
  simp [zeroValue, typeInfo, hi, hz]
theorem Agg.of {t : TypeId} {d : TypeDesc} {z : Value} {size bytes : Nat} (h : P.underlying t = some d) (hd : (match d with | .struct _ | .array _ _ => true | _ => false) = true) (hi : TI P t z size bytes) : Agg P t size :=
  ⟨fun w => by cases d <;> simp_all [isAgg, run_underlying h], hi.sizeOf⟩
def FO (P : Program) (t f off : Nat) : Prop := ∀ (a : Addr) w, (Instr.fieldAt t (.pointer (some a)) f).run P w = .ok (.pointer (some (a.add off))) w
theorem add_none (b o n : Nat) : (⟨b, o, none⟩ : Addr).add n = ⟨b, o + n, none⟩ := by
  unfold Addr.add
  split
  · simp_all
  · rfl
def SlT (P : Program) (t el : TypeId) : Prop := P.underlying t = some (.slice el)
theorem Yld.run {o : Oper} {v : Value} {ρ : Operand → Value} (hρ : ∀ x ∈ o.op.operands, ∃ v, ev e x = some v ∧ ρ x = v) (hs : ∀ cs b, o.op ≠ .select cs b) (hr : ∀ w, C w → (execOp ρ o).run P w = .ok (.value v) w) : Yld P n C e o v := by
  intro a ha w hw
  rw [execOp_congr (ρ := a.eval) (ρ' := ρ) o hs fun x hx => by obtain ⟨v, h1, h2⟩ := hρ x hx; rw [ha.ev h1, h2]]
  exact hr w hw
theorem Yld.fieldAddr {d : Option Tmp} {t f off : Nat} {x : Operand} {ty : TypeId} {pos : String} {af : Array Edge} {g : Option (Nat × Bool)} (hF : FO P t f off) {b o : Nat} (hx : ev e x = some (.pointer (some ⟨b, o, none⟩))) :
    Yld P n C e ⟨d, .fieldAddr t x f, ty, pos, af, g⟩ (.pointer (some ⟨b, o + off, none⟩)) := by
  intro a ha w _
  have := hF ⟨b, o, none⟩ w
  rw [add_none] at this
  simp [execOp, ha.ev hx, this]
theorem Yld.load {d : Option Tmp} {t : Nat} {x : Operand} {ty : TypeId} {pos : String} {af : Array Edge} {g : Option (Nat × Bool)} (hT : Plain P t) {ad : Addr} {v : Value} (hx : ev e x = some (.pointer (some ad))) (hc : ∀ w, C w → w.cell? ad = some v) :
    Yld P n C e ⟨d, .load t x, ty, pos, af, g⟩ v := by
  intro a ha w hw
  simp [execOp, ha.ev hx, Instr.loadAt, Instr.sureAddr, loadVar, hT w, hc w hw]
theorem Yld.loadN {d : Option Tmp} {t : Nat} {x : Operand} {ty : TypeId} {pos : String} {af : Array Edge} {g : Option (Nat × Bool)} {cs : List Value} (hT : Agg P t cs.length) {b o : Nat} (hx : ev e x = some (.pointer (some ⟨b, o, none⟩)))
    (hc : ∀ w, C w → ∀ j v, cs[j]? = some v → w.cell? ⟨b, o + j, none⟩ = some v) : Yld P n C e ⟨d, .load t x, ty, pos, af, g⟩ (.agg cs.toArray) := by
  intro a ha w hw
  have := run_loadCells_list (P := P) w ⟨b, o, none⟩ cs (fun j v hj => by rw [add_none]; exact hc w hw j v hj)
  simp [execOp, ha.ev hx, Instr.loadAt, Instr.sureAddr, loadVar, hT.agg w, hT.size w, this]
theorem Yld.indexAddr {d : Option Tmp} {t el sz : Nat} {x i : Operand} {ty : TypeId} {pos : String} {af : Array Edge} {g : Option (Nat × Bool)} (hT : SlT P t el) {z : Value} {by' : Nat} (hE : TI P el z sz by') {b o len cap : Nat} {k : IntKind} {q : Int}
    (hx : ev e x = some (.slice (some ⟨b, o, none⟩) len cap)) (hi : ev e i = some (.int k q)) (h0 : 0 ≤ q) (h1 : q < len) :
    Yld P n C e ⟨d, .indexAddr t x i, ty, pos, af, g⟩ (.pointer (some ⟨b, o + q.toNat * sz, none⟩)) := by
  intro a ha w _
  simp [execOp, ha.ev hx, ha.ev hi, Instr.indexAt, run_underlying hT, asIntOf, hE.sizeOf w, h0, h1, add_none]
theorem Yld.lenSl {d : Option Tmp} {t el : Nat} {x : Operand} {ty : TypeId} {pos : String} {af : Array Edge} {g : Option (Nat × Bool)} (hT : SlT P t el) {ad : Option Addr} {len cap : Nat} (hx : ev e x = some (.slice ad len cap)) :
    Yld P n C e ⟨d, .call { callee := .builtin .len, args := #[x], argTypes := #[t] }, ty, pos, af, g⟩ (.int .i64 len) := by
  intro a ha w _
  simp [execOp, resolve, invoke, builtin, ha.ev hx, Builtin.len_, run_underlying hT, goInt]
theorem Yld.lenStr {d : Option Tmp} {t : Nat} {x : Operand} {ty : TypeId} {pos : String} {af : Array Edge} {g : Option (Nat × Bool)} (hT : P.underlying t = some .string) {s : ByteArray} (hx : ev e x = some (.string s)) :
    Yld P n C e ⟨d, .call { callee := .builtin .len, args := #[x], argTypes := #[t] }, ty, pos, af, g⟩ (.int .i64 s.size) := by
  intro a ha w _
  simp [execOp, resolve, invoke, builtin, ha.ev hx, Builtin.len_, run_underlying hT, goInt]
def bt (s : ByteArray) (i : Nat) : UInt8 := s.data.toList.getD i 0
end
structure Mod (M : Nat → Prop) (w w' : World) : Prop where
  os : w'.os = w.os
  tape : w'.tape = w.tape
  output : w'.output = w.output
  size : w.heap.size ≤ w'.heap.size
  block : ∀ k, k < w.heap.size → ¬ M k → w'.heap[k]? = w.heap[k]?
def No : Nat → Prop := fun _ => False
theorem Mod.refl (M : Nat → Prop) (w : World) : Mod M w w := ⟨rfl, rfl, rfl, Nat.le_refl _, fun _ _ _ => rfl⟩
theorem Mod.trans {M : Nat → Prop} {a b c : World} (h : Mod M a b) (k : Mod M b c) : Mod M a c :=
  ⟨k.os.trans h.os, k.tape.trans h.tape, k.output.trans h.output, Nat.le_trans h.size k.size, fun i hi hm => (k.block i (Nat.lt_of_lt_of_le hi h.size) hm).trans (h.block i hi hm)⟩
theorem Mod.mono {M M' : Nat → Prop} {w w' : World} (h : Mod M w w') (hM : ∀ b, b < w.heap.size → M b → M' b) : Mod M' w w' := ⟨h.os, h.tape, h.output, h.size, fun k hk hm => h.block k hk fun h' => hm (hM k hk h')⟩
theorem Mod.then {M M' : Nat → Prop} {a b c : World} (h : Mod M a b) (k : Mod M' b c) (hM : ∀ x, x < a.heap.size → M' x → M x) : Mod M a c :=
  ⟨k.os.trans h.os, k.tape.trans h.tape, k.output.trans h.output, Nat.le_trans h.size k.size, fun i hi hm => (k.block i (Nat.lt_of_lt_of_le hi h.size) fun h' => hm (hM i hi h')).trans (h.block i hi hm)⟩
abbrev Grow (w w' : World) : Prop := Mod No w w'
theorem Grow.any {w w' : World} (h : Grow w w') (M : Nat → Prop) : Mod M w w' := h.mono fun _ _ h => h.elim
theorem Mod.any' {M : Nat → Prop} {w w' : World} (h : Grow w w') : Mod M w w' := h.any M
theorem Mod.below {w w' : World} (h : Grow w w') : Below w.heap.size w w' := ⟨h.os, h.tape, h.output, h.size, fun k hk => h.block k hk fun h => h⟩
theorem Grow.of_below {w w' : World} (h : Below w.heap.size w w') : Grow w w' := ⟨h.os, h.tape, h.output, h.size, fun k hk _ => h.block k hk⟩
theorem Mod.alloc (M : Nat → Prop) (w : World) (o : Obj) : Mod M w (w.alloc o) := ⟨rfl, rfl, rfl, by simp, fun k hk _ => Below.heap_alloc w o k hk⟩
theorem Mod.drew (M : Nat → Prop) (w : World) : Mod M w w.drew := ⟨rfl, rfl, rfl, Nat.le_refl _, fun _ _ _ => rfl⟩
theorem Mod.cell {M : Nat → Prop} {w w' : World} (h : Mod M w w') {a : Addr} {v : Value} (hc : w.cell? a = some v) (hm : ¬ M a.block) : w'.cell? a = some v :=
  (World.cell?_of_block (h.block a.block (World.block_lt_of_cell? w a hc) hm)).trans hc
theorem Mod.heap {M : Nat → Prop} {w w' : World} (h : Mod M w w') {b : Nat} {o : Obj} (hb : w.heap[b]? = some o) (hm : ¬ M b) : w'.heap[b]? = some o :=
  (h.block b (Array.getElem?_eq_some_iff.1 hb).1 hm).trans hb
structure Sl (M : Nat → Prop) (w : World) (v : Value) (sz n : Nat) (cs : List Value) : Prop where
  len : cs.length = n * sz
  big : n ≤ 9223372036854775807
  form : ∃ ad c, v = .slice ad n c ∧ (0 < n → ∃ b o, ad = some ⟨b, o, none⟩ ∧ ¬ M b ∧ ∀ j u, cs[j]? = some u → w.cell? ⟨b, o + j, none⟩ = some u)
theorem Sl.mod {M : Nat → Prop} {w w' : World} {v : Value} {sz n : Nat} {cs : List Value} (h : Sl M w v sz n cs) (hm : Mod M w w') : Sl M w' v sz n cs :=
  ⟨h.len, h.big, by
    obtain ⟨ad, c, hv, hf⟩ := h.form
    refine ⟨ad, c, hv, fun hn => ?_⟩
    obtain ⟨b, o, ha, hb, hc⟩ := hf hn
    exact ⟨b, o, ha, hb, fun j u hj => hm.cell (hc j u hj) hb⟩⟩
theorem Sl.off {M M' : Nat → Prop} {w : World} {v : Value} {sz n : Nat} {cs : List Value} (h : Sl M w v sz n cs) (hsz : 0 < sz) (hM : ∀ b, b < w.heap.size → M' b → M b) : Sl M' w v sz n cs :=
  ⟨h.len, h.big, by
    obtain ⟨ad, c, hv, hf⟩ := h.form
    refine ⟨ad, c, hv, fun hn => ?_⟩
    obtain ⟨b, o, ha, hb, hc⟩ := hf hn
    refine ⟨b, o, ha, fun hm => hb (hM b ?_ hm), hc⟩
    have hl : 0 < cs.length := by rw [h.len]; exact Nat.mul_pos hn hsz
    exact World.block_lt_of_cell? w ⟨b, o + 0, none⟩ (hc 0 _ (List.getElem?_eq_getElem hl))⟩
theorem Sl.nil (M : Nat → Prop) (w : World) (sz : Nat) (ad : Option Addr) (c : Nat) : Sl M w (.slice ad 0 c) sz 0 [] := ⟨by simp, by omega, ad, c, rfl, fun h => by omega⟩
end Go.X
set_option linter.unusedVariables false
set_option linter.unusedSimpArgs false
namespace Go.X
open Go Go.RowKit
def Blk (w : World) (b : Nat) (t : TypeId) (cs : List Value) : Prop := w.heap[b]? = some (.cells cs.toArray t (0, 0))
theorem Blk.cell {w : World} {b t : Nat} {cs : List Value} (h : Blk w b t cs) {o : Nat} {v : Value} (hn : nthV cs o = some v) : w.cell? ⟨b, o, none⟩ = some v := by
  rw [nthV_eq] at hn
  unfold Blk at h
  simp [World.cell?, h, hn]
theorem Blk.cell' {w : World} {b t : Nat} {cs : List Value} (h : Blk w b t cs) {o : Nat} {v : Value} (hn : cs[o]? = some v) : w.cell? ⟨b, o, none⟩ = some v := h.cell (by rw [nthV_eq]; exact hn)
theorem Blk.lt {w : World} {b t : Nat} {cs : List Value} (h : Blk w b t cs) : b < w.heap.size := (Array.getElem?_eq_some_iff.1 h).1
theorem Blk.mod {M : Nat → Prop} {w w' : World} {b t : Nat} {cs : List Value} (h : Blk w b t cs) (hm : Mod M w w') (hb : ¬ M b) : Blk w' b t cs := hm.heap h hb
inductive SetAt : List Value → Nat → Value → List Value → Prop
  | z {u v : Value} {l : List Value} : SetAt (u :: l) 0 v (v :: l)
  | s {u v : Value} {i : Nat} {l l' : List Value} : SetAt l i v l' → SetAt (u :: l) (i + 1) v (u :: l')
theorem SetAt.eq {l l' : List Value} {i : Nat} {v : Value} (h : SetAt l i v l') : l' = l.set i v ∧ i < l.length := by
  induction h with
  | z => simp
  | s _ ih => simp [ih.1, ih.2]
structure New (w w' : World) (b : Nat) (t : TypeId) (cs : List Value) : Prop where
  at_ : b = w.heap.size
  blk : Blk w' b t cs
  grow : Grow w w'
  size : w'.heap.size = w.heap.size + 1
theorem New.of (w : World) (t : TypeId) (cs : List Value) : New w (w.alloc (.cells cs.toArray t)) w.heap.size t cs :=
  ⟨rfl, heap_alloc_new w _, Mod.alloc _ _ _, by simp⟩
section
variable {P : Program} {n : Nat} {e : Env} {w : World}
theorem Does.alloc {d : Option Tmp} {t : Nat} {ty : TypeId} {pos : String} {af : Array Edge} {g : Option (Nat × Bool)} {z : Value} {sz by' : Nat} (hT : TI P t z sz by') :
    Does P n e w ⟨d, .alloc t, ty, pos, af, g⟩ (fun v w' => ∃ b, v = .pointer (some ⟨b, 0, none⟩) ∧ New w w' b t z.cells.toList) := by
  refine Does.of_run (w' := w.alloc (.cells z.cells t)) (v := .pointer (some ⟨w.heap.size, 0, none⟩)) (fun a ha => ?_) ⟨_, rfl, by have := New.of w t z.cells.toList; simpa using this⟩
  simp [execOp, Instr.alloc, hT.zero w, newVar, newRow]
theorem Does.box {d : Option Tmp} {t : Nat} {x : Operand} {ty : TypeId} {pos : String} {af : Array Edge} {g : Option (Nat × Bool)} {v : Value} (hx : ev e x = some v) :
    Does P n e w ⟨d, .box t x, ty, pos, af, g⟩ (fun u w' => ∃ b, u = .pointer (some ⟨b, 0, none⟩) ∧ New w w' b t v.cells.toList) := by
  refine Does.of_run (w' := w.alloc (.cells v.cells t)) (v := .pointer (some ⟨w.heap.size, 0, none⟩)) (fun a ha => ?_) ⟨_, rfl, by have := New.of w t v.cells.toList; simpa using this⟩
  simp [execOp, ha.ev hx, Instr.box, newVar, newRow]
theorem Does.storeN {d : Option Tmp} {t : Nat} {x y : Operand} {ty : TypeId} {pos : String} {af : Array Edge} {g : Option (Nat × Bool)} {z : Value} {sz by' : Nat} (hT : TI P t z sz by') {b o T : Nat} {v : Value} {cs : List Value} (hx : ev e x = some (.pointer (some ⟨b, o, none⟩))) (hy : ev e y = some v)
    (hs : v.cells.size = sz) (h1 : v.cells.toList.all (·.oneCell') = true) (hb : Blk w b T cs) (hl : o + sz ≤ cs.length) :
    Does P n e w ⟨d, .store t x y, ty, pos, af, g⟩ (fun _ w' => Blk w' b T (cs.take o ++ v.cells.toList ++ cs.drop (o + sz)) ∧ Mod (· = b) w w' ∧ w'.heap.size = w.heap.size) := by
  have hr := run_storeCells_at P b o T v.cells.toList 0 cs.toArray w hb (by simpa [hs] using hl) (List.all_eq_true.1 h1)
  simp only [Nat.add_zero, Array.length_toList, hs] at hr
  refine Does.of_skip (w' := w.setRow b (cs.take o ++ v.cells.toList ++ cs.drop (o + sz)).toArray) (fun a ha => ?_) ⟨setRow_heap w b _ _ T _ hb, ⟨rfl, rfl, rfl, by simp, fun k hk hm => setRow_other w b k _ hm⟩, by simp⟩
  simp [execOp, ha.ev hx, ha.ev hy, Instr.storeAt, Instr.sureAddr, storeVar, hT.sizeOf w, hs, hr]
theorem Does.store {d : Option Tmp} {t : Nat} {x y : Operand} {ty : TypeId} {pos : String} {af : Array Edge} {g : Option (Nat × Bool)} {z : Value} {by' : Nat} (hT : TI P t z 1 by') {b o T : Nat} {v : Value} {cs cs' : List Value} (hx : ev e x = some (.pointer (some ⟨b, o, none⟩))) (hy : ev e y = some v)
    (h1 : v.oneCell' = true) (hb : Blk w b T cs) (hl : SetAt cs o v cs') :
    Does P n e w ⟨d, .store t x y, ty, pos, af, g⟩ (fun _ w' => Blk w' b T cs' ∧ Mod (· = b) w w' ∧ w'.heap.size = w.heap.size) := by
  have hv : v.cells = #[v] := by cases v <;> first | rfl | (simp [Value.oneCell'] at h1)
  obtain ⟨he, hlt⟩ := hl.eq
  refine (Does.storeN hT hx hy (by simp [hv]) (by simp [hv, h1]) hb (by omega)).mono ?_
  rintro _ w' ⟨h2, h3, h4⟩
  refine ⟨?_, h3, h4⟩
  have : cs' = cs.take o ++ v.cells.toList ++ cs.drop (o + 1) := by
    rw [he, hv]
    simp [List.set_eq_take_append_cons_drop, hlt]
  rw [this]; exact h2
theorem Does.call {d : Option Tmp} {gf : FuncId} {args : Array Operand} {ats : Array TypeId} {ty : TypeId} {pos : String} {af : Array Edge} {g : Option (Nat × Bool)} {vs : List Value} {Q : Value → World → Prop} (ha : evs e args.toList = some vs) (hE : Go.Proofs.Enters P gf) (hc : Fx P gf vs w Q) :
    Does P n e w ⟨d, .call { callee := .value (.func gf), args := args, argTypes := ats }, ty, pos, af, g⟩ Q := by
  refine Does.of_enter (fun a hf => ?_) hc
  have h1 := hf.evs ha
  have : args.map a.eval = vs.toArray := by rw [← h1, ← Array.toList_map]
  simp [execOp, resolve, this, Act.eval, Deferred.ofValue, invoke, hE _ _]
theorem Does.callv {d : Option Tmp} {gf : FuncId} {f : Operand} {cap : Array Value} {args : Array Operand} {ats : Array TypeId} {ty : TypeId} {pos : String} {af : Array Edge} {g : Option (Nat × Bool)} {vs : List Value} {Q : Value → World → Prop} (hf : ev e f = some (.func (.func gf) #[] cap)) (ha : evs e args.toList = some vs) (hE : Go.Proofs.Enters P gf) (hc : Fx P gf (vs ++ cap.toList) w Q) :
    Does P n e w ⟨d, .call { callee := .value f, args := args, argTypes := ats }, ty, pos, af, g⟩ Q := by
  refine Does.of_enter (fun a ht => ?_) hc
  have h1 := ht.evs ha
  have : args.map a.eval = vs.toArray := by rw [← h1, ← Array.toList_map]
  have e2 : (vs ++ cap.toList).toArray = vs.toArray ++ cap := by simp
  rw [e2]
  simp [execOp, resolve, this, ht.ev hf, Deferred.ofValue, invoke, hE _ _]
end
abbrev Row (w : World) (t : TypeId) (sz : Nat) (v : Value) (k : Nat) (xs : List Value) : Prop := w.ownsRow 0 t sz v k xs
theorem Row.nil (w : World) (t : TypeId) (sz : Nat) : Row w t sz (.slice none 0 0) 0 [] := World.ownsRow_nil w 0 t sz
theorem Row.new {w w' : World} {b : Nat} {t : TypeId} {cs : List Value} (h : New w w' b t cs) (sz k : Nat) (hl : cs.length = k * sz) (hk : k ≤ 9223372036854775807) : Row w' t sz (.slice (some ⟨b, 0, none⟩) k k) k cs :=
  ⟨hl, .inr ⟨b, k, cs.toArray, rfl, Nat.zero_le _, h.blk, Nat.le_refl _, by simp only [maxLen]; omega, by simp [hl], by simp [← hl]⟩⟩
theorem Row.slice {w : World} {t : TypeId} {sz : Nat} {v : Value} {k : Nat} {xs : List Value} (h : Row w t sz v k xs) : ∃ ad c, v = .slice ad k c := by
  rcases h.2 with ⟨rfl, rfl⟩ | ⟨g, cap, cur, rfl, _⟩
  · exact ⟨none, 0, rfl⟩
  · exact ⟨_, cap, rfl⟩
section
variable {P : Program} {n : Nat} {e : Env} {w : World}
end
theorem Sl.new {M : Nat → Prop} {w w' : World} {b : Nat} {t : TypeId} {cs : List Value} (h : New w w' b t cs) (sz k : Nat) (hl : cs.length = k * sz) (hk : k ≤ 9223372036854775807) (hM : ¬ M b) : Sl M w' (.slice (some ⟨b, 0, none⟩) k k) sz k cs :=
  ⟨hl, hk, _, k, rfl, fun _ => ⟨b, 0, rfl, hM, fun j u hj => by rw [Nat.zero_add]; exact h.blk.cell' hj⟩⟩
theorem at1 {w : World} {ad : Addr} {v : Value} (h : w.cell? ad = some v) : ∀ w', w' = w → w'.cell? ad = some v := fun _ hw => hw ▸ h
theorem atM {M : Nat → Prop} {w : World} {ad : Addr} {v : Value} (h : w.cell? ad = some v) (hm : ¬ M ad.block) : ∀ w', Mod M w w' → w'.cell? ad = some v := fun _ hw => hw.cell h hm
theorem atN {w : World} {b o : Nat} {cs : List Value} (h : ∀ j v, cs[j]? = some v → w.cell? ⟨b, o + j, none⟩ = some v) : ∀ w', w' = w → ∀ j v, cs[j]? = some v → w'.cell? ⟨b, o + j, none⟩ = some v := fun _ hw => hw ▸ h
end Go.X
set_option linter.unusedVariables false
namespace Go.X
open Go Go.RowKit
section
variable {P : Program} {f : FuncId} {n : Nat} {R : Ending → World → Prop} {k : List Item} {e : Env} {w : World} {K : Exit → Act → World → Prop}
theorem RL.p {ops : Array Oper} {rest : List Oper} {d : Nat} {op : Op} {t : TypeId} {pos : String} {af : Array Edge} {v : Value} (hp : pureOp e op = some v) (hb : Nat.blt d n = true) (h : RL P n ops rest ((d, v) :: e) w K) :
    RL P n ops (⟨some d, op, t, pos, af, none⟩ :: rest) e w K := RL.q (.free rfl) rfl hb (Yld.pure hp) h
theorem DL.p {ops : List Oper} {rest : List (Nat × Bool)} {S : World → Prop} {tl : List Nat} {i d : Nat} {op : Op} {t : TypeId} {pos : String} {af : Array Edge} {v : Value} (hi : nth ops i = some ⟨some d, op, t, pos, af, none⟩) (hp : pureOp e op = some v) (hb : Nat.blt d n = true) (h : DL P n ops S tl rest ((d, v) :: e) w K) :
    DL P n ops S tl ((i, false) :: rest) e w K := DL.qf hi (.free rfl) rfl hb (Yld.pure hp) h
theorem get_same {d : Nat} {v : Value} (hg : get e d = some v) : ∀ i u, get ((d, v) :: e) i = some u → get e i = some u := fun i u hu => by
  rw [get_cons] at hu
  by_cases h : d = i
  · subst h; simp at hu; subst hu; exact hg
  · rwa [if_neg h] at hu
theorem Fits.again {a : Act} (h : Fits e n a) {d : Nat} {v v' : Value} (hg : get e d = some v) (hv : v = v') : Fits ((d, v') :: e) n a := by subst hv; exact h.sub (get_same hg)
theorem RL.re {ops : Array Oper} {rest : List Oper} {d : Nat} {v v' : Value} (hg : get e d = some v) (hb : Nat.blt d n = true) (hv : v = v') (h : RL P n ops rest ((d, v') :: e) w K) : RL P n ops rest e w K := fun a ha => h a (ha.again hg hv)
theorem DL.re {ops : List Oper} {rest : List (Nat × Bool)} {S : World → Prop} {tl : List Nat} {d : Nat} {v v' : Value} (hg : get e d = some v) (hb : Nat.blt d n = true) (hv : v = v') (h : DL P n ops S tl rest ((d, v') :: e) w K) : DL P n ops S tl rest e w K := fun a ha => h a (ha.again hg hv)
theorem RK.re {d : Nat} {v v' : Value} (hg : get e d = some v) (hv : v = v') (h : RK P f n R k ((d, v') :: e) w) : RK P f n R k e w := fun a ha => h a (ha.again hg hv)
theorem RL.split {ops : Array Oper} {rest : List Oper} {d : Nat} {t : Bool} (hg : get e d = some (.bool t)) (hb : Nat.blt d n = true) (h1 : t = true → RL P n ops rest ((d, .bool true) :: e) w K) (h2 : t = false → RL P n ops rest ((d, .bool false) :: e) w K) : RL P n ops rest e w K := by
  cases t with
  | true => exact RL.re hg hb rfl (h1 rfl)
  | false => exact RL.re hg hb rfl (h2 rfl)
theorem DL.split {ops : List Oper} {rest : List (Nat × Bool)} {S : World → Prop} {tl : List Nat} {d : Nat} {t : Bool} (hg : get e d = some (.bool t)) (hb : Nat.blt d n = true) (h1 : t = true → DL P n ops S tl rest ((d, .bool true) :: e) w K) (h2 : t = false → DL P n ops S tl rest ((d, .bool false) :: e) w K) : DL P n ops S tl rest e w K := by
  cases t with
  | true => exact DL.re hg hb rfl (h1 rfl)
  | false => exact DL.re hg hb rfl (h2 rfl)
theorem RL.knownT {ops : Array Oper} {rest : List Oper} {d : Nat} {t : Bool} (hg : get e d = some (.bool t)) (hb : Nat.blt d n = true) (ht : t = true) (h1 : RL P n ops rest ((d, .bool true) :: e) w K) : RL P n ops rest e w K := RL.re hg hb (by rw [ht]) h1
theorem RL.knownF {ops : Array Oper} {rest : List Oper} {d : Nat} {t : Bool} (hg : get e d = some (.bool t)) (hb : Nat.blt d n = true) (ht : t = false) (h1 : RL P n ops rest ((d, .bool false) :: e) w K) : RL P n ops rest e w K := RL.re hg hb (by rw [ht]) h1
theorem hcT {c : Operand} {t : Bool} (hc : ev e c = some (.bool t)) (ht : t = true) : ev e c = some (.bool true) := by rw [hc, ht]
theorem hcF {c : Operand} {t : Bool} (hc : ev e c = some (.bool t)) (ht : t = false) : ev e c = some (.bool false) := by rw [hc, ht]
theorem RK.drawM {id : Nat} {l : List Oper} (M : Nat → Prop) (ord : List (Nat × Bool)) (tl : List Nat) (hm : P.follows .mixedOrders = true) (hb : (Region.noSelect l.toArray && okOrd l.toArray tl (Array.replicate l.length false) ord && Nat.beq l.length ord.length) = true)
    (h : DL P n l (Mod M w) tl ord e w.drew (post P f R k)) : RK P f n R (.code (.region id l.toArray true) :: k) e w := RK.draw ord tl (Mod M w) hm hb h
end
section
variable {P : Program} {f : FuncId} {n : Nat} {R : Ending → World → Prop} {k : List Item} {e : Env} {w : World} {K : Exit → Act → World → Prop}
theorem RL.splitD {ops : Array Oper} {rest : List Oper} {d : Nat} {p : Prop} [hp : Decidable p] (hg : get e d = some (.bool (decide p))) (hb : Nat.blt d n = true) (h1 : p → RL P n ops rest ((d, .bool true) :: e) w K) (h2 : ¬ p → RL P n ops rest ((d, .bool false) :: e) w K) : RL P n ops rest e w K :=
  RL.split hg hb (fun h => h1 (of_decide_eq_true h)) (fun h => h2 (of_decide_eq_false h))
theorem RK.condD {c : Operand} {x y : Code} {p : Prop} [hp : Decidable p] (hc : ev e c = some (.bool (decide p))) (ht : p → RK P f n R (.code x :: k) e w) (hf : ¬ p → RK P f n R (.code y :: k) e w) : RK P f n R (.code (.cond c x y) :: k) e w :=
  RK.cond hc (fun h => ht (of_decide_eq_true h)) (fun h => hf (of_decide_eq_false h))
theorem RL.splitN {ops : Array Oper} {rest : List Oper} {d : Nat} {p : Prop} [hp : Decidable p] (hg : get e d = some (.bool (!decide p))) (hb : Nat.blt d n = true) (h1 : ¬ p → RL P n ops rest ((d, .bool true) :: e) w K) (h2 : p → RL P n ops rest ((d, .bool false) :: e) w K) : RL P n ops rest e w K :=
  RL.split hg hb (fun h => h1 (by simpa using h)) (fun h => h2 (by simpa using h))
theorem DL.splitN {ops : List Oper} {rest : List (Nat × Bool)} {S : World → Prop} {tl : List Nat} {d : Nat} {p : Prop} [hp : Decidable p] (hg : get e d = some (.bool (!decide p))) (hb : Nat.blt d n = true) (h1 : ¬ p → DL P n ops S tl rest ((d, .bool true) :: e) w K) (h2 : p → DL P n ops S tl rest ((d, .bool false) :: e) w K) : DL P n ops S tl rest e w K :=
  DL.split hg hb (fun h => h1 (by simpa using h)) (fun h => h2 (by simpa using h))
theorem RK.condN {c : Operand} {x y : Code} {p : Prop} [hp : Decidable p] (hc : ev e c = some (.bool (!decide p))) (ht : ¬ p → RK P f n R (.code x :: k) e w) (hf : p → RK P f n R (.code y :: k) e w) : RK P f n R (.code (.cond c x y) :: k) e w :=
  RK.cond hc (fun h => ht (by simpa using h)) (fun h => hf (by simpa using h))
end
theorem wrap_i64 {x : Int} (h1 : -9223372036854775808 ≤ x) (h2 : x ≤ 9223372036854775807) : IntKind.i64.wrap x = x := by
  rw [IntKind.wrap_i64]; omega
theorem add_i64 {x y z : Int} (hz : x + y = z) (h1 : -9223372036854775808 ≤ z) (h2 : z ≤ 9223372036854775807) : Value.int .i64 (IntKind.i64.wrap (x + y)) = .int .i64 z := by rw [hz, wrap_i64 h1 h2]
theorem sub_i64 {x y z : Int} (hz : x - y = z) (h1 : -9223372036854775808 ≤ z) (h2 : z ≤ 9223372036854775807) : Value.int .i64 (IntKind.i64.wrap (x - y)) = .int .i64 z := by rw [hz, wrap_i64 h1 h2]
theorem succ_i64 {k : Nat} (h : k < 9223372036854775807) : Value.int .i64 (IntKind.i64.wrap ((k : Int) + 1)) = .int .i64 ((k + 1 : Nat) : Int) := add_i64 (by simp) (by omega) (by omega)
def pp (b : Nat) : Value := .pointer (some ⟨b, 0, none⟩)
end Go.X
namespace Go.X
open Go Go.RowKit
section
variable {P : Program} {n : Nat} {e : Env} {C : World → Prop}
theorem Yld.callx {d : Option Tmp} {gf : FuncId} {args : Array Operand} {ats : Array TypeId} {ty : TypeId} {pos : String} {af : Array Edge} {g : Option (Nat × Bool)} {vs : List Value} {v : Value} (ha : evs e args.toList = some vs) (hr : ∀ w, (callFunc gf vs.toArray).run P w = .ok (.value v) w) :
    Yld P n C e ⟨d, .call { callee := .value (.func gf), args := args, argTypes := ats }, ty, pos, af, g⟩ v := by
  intro a hf w _
  have h1 := hf.evs ha
  have : args.map a.eval = vs.toArray := by rw [← h1, ← Array.toList_map]
  simp [execOp, resolve, this, Act.eval, Deferred.ofValue, invoke, hr]
end
end Go.X
namespace Go.X
open Go Go.RowKit
section
variable {P : Program} {f : FuncId} {n : Nat} {R : Ending → World → Prop} {k : List Item} {e : Env} {w : World} {C : World → Prop}
theorem RK.back {e' : Env} (h : RK P f n R k e' w) (hs : Sub e e') : RK P f n R k e w := RK.sub hs h
theorem Yld.indexAddrN {d : Option Tmp} {t el sz : Nat} {x i : Operand} {ty : TypeId} {pos : String} {af : Array Edge} {g : Option (Nat × Bool)} (hT : SlT P t el) {z : Value} {by' : Nat} (hE : TI P el z sz by') {b o len cap : Nat} {k : IntKind} {q : Nat}
    (hx : ev e x = some (.slice (some ⟨b, o, none⟩) len cap)) (hi : ev e i = some (.int k (q : Int))) (h1 : q < len) :
    Yld P n C e ⟨d, .indexAddr t x i, ty, pos, af, g⟩ (.pointer (some ⟨b, o + q * sz, none⟩)) := by
  have := Yld.indexAddr (P := P) (n := n) (C := C) (d := d) (ty := ty) (pos := pos) (af := af) (g := g) hT hE hx hi (by omega) (by omega)
  simpa using this
end
end Go.X
set_option linter.unusedVariables false
set_option linter.unusedSimpArgs false
namespace Go.X
open Go Go.RowKit
theorem flat_get {α : Type} (f : α → List Value) (sz : Nat) (hf : ∀ x, (f x).length = sz) : ∀ (xs : List α) (k j : Nat) (x : α), xs[k]? = some x → j < sz → (xs.flatMap f)[k * sz + j]? = (f x)[j]?
  | [], k, j, x, h, _ => by simp at h
  | y :: xs, 0, j, x, h, hj => by
    simp at h; subst h
    simp only [List.flatMap_cons, Nat.zero_mul, Nat.zero_add]
    rw [List.getElem?_append_left (by rw [hf]; exact hj)]
  | y :: xs, k + 1, j, x, h, hj => by
    simp only [List.flatMap_cons]
    have e : (k + 1) * sz + j = (f y).length + (k * sz + j) := by rw [hf, Nat.add_mul]; omega
    rw [e, List.getElem?_append_right (by omega), Nat.add_sub_cancel_left]
    exact flat_get f sz hf xs k j x (by simpa using h) hj
theorem Sl.elem {α : Type} {M : Nat → Prop} {w : World} {v : Value} {sz : Nat} {f : α → List Value} (hf : ∀ x, (f x).length = sz) {xs : List α} (h : Sl M w v sz xs.length (xs.flatMap f)) {k : Nat} {x : α} (hx : xs[k]? = some x) :
    ∃ b o c, v = .slice (some ⟨b, o, none⟩) xs.length c ∧ ¬ M b ∧ k < xs.length ∧ ∀ j u, (f x)[j]? = some u → w.cell? ⟨b, o + k * sz + j, none⟩ = some u := by
  have hk : k < xs.length := (List.getElem?_eq_some_iff.1 hx).1
  obtain ⟨ad, c, hv, hform⟩ := h.form
  obtain ⟨b, o, rfl, hb, hc⟩ := hform (by omega)
  refine ⟨b, o, c, hv, hb, hk, fun j u hj => ?_⟩
  have hjl : j < sz := by have := (List.getElem?_eq_some_iff.1 hj).1; rwa [hf] at this
  rw [Nat.add_assoc]
  exact hc (k * sz + j) u (by rw [flat_get f sz hf xs k j x hx hjl]; exact hj)
theorem Sl.elem1 {M : Nat → Prop} {w : World} {v : Value} {n : Nat} {cs : List Value} (h : Sl M w v 1 n cs) {k : Nat} {u : Value} (hu : cs[k]? = some u) :
    ∃ b o c, v = .slice (some ⟨b, o, none⟩) n c ∧ ¬ M b ∧ k < n ∧ ∀ j v, cs[j]? = some v → w.cell? ⟨b, o + j * 1, none⟩ = some v := by
  have hk : k < n := by have := (List.getElem?_eq_some_iff.1 hu).1; rw [h.len] at this; omega
  obtain ⟨ad, c, hv, hform⟩ := h.form
  obtain ⟨b, o, rfl, hb, hc⟩ := hform (by omega)
  exact ⟨b, o, c, hv, hb, hk, fun j v hj => by rw [Nat.mul_one]; exact hc j v hj⟩
theorem Sl.shape {M : Nat → Prop} {w : World} {v : Value} {sz n : Nat} {cs : List Value} (h : Sl M w v sz n cs) : ∃ ad c, v = .slice ad n c := by
  obtain ⟨ad, c, hv, _⟩ := h.form; exact ⟨ad, c, hv⟩
def Fresh (B : Nat) (v : Value) : Prop := ∀ b, v.ownBlock = some b → B ≤ b
theorem Sl.noM {M : Nat → Prop} {w : World} {v : Value} {sz n : Nat} {cs : List Value} (h : Sl M w v sz n cs) : Sl No w v sz n cs := ⟨h.len, h.big, by
  obtain ⟨ad, c, hv, hf⟩ := h.form
  exact ⟨ad, c, hv, fun hn => by obtain ⟨b, o, ha, _, hc⟩ := hf hn; exact ⟨b, o, ha, fun h => h, hc⟩⟩⟩
end Go.X
set_option linter.unusedVariables false
set_option linter.unusedSimpArgs false
namespace Go.X
open Go Go.RowKit
section
variable {P : Program} {n : Nat} {e : Env} {w : World} {C : World → Prop}
def evP (e : Env) : List (Nat × Operand) → Option (List (Nat × Value))
  | [] => some []
  | (i, x) :: xs => match ev e x, evP e xs with
    | some v, some vs => some ((i, v) :: vs)
    | _, _ => none
theorem Fits.evP {a : Act} (ha : Fits e n a) : ∀ {xs : List (Nat × Operand)} {vs : List (Nat × Value)}, X.evP e xs = some vs → xs.map (fun p => (p.1, a.eval p.2)) = vs
  | [], vs, h => by simp [X.evP] at h; simp [h]
  | (i, x) :: xs, vs, h => by
    simp only [X.evP] at h
    split at h
    · rename_i v us hv hu
      simp only [Option.some.injEq] at h; subst h
      simp [ha.ev hv, Fits.evP ha hu]
    · cases h
theorem Yld.build {d : Option Tmp} {t : Nat} {parts : Array (Nat × Operand)} {ty : TypeId} {pos : String} {af : Array Edge} {g : Option (Nat × Bool)} {ps : List (Nat × Value)} {v : Value} (hp : evP e parts.toList = some ps) (hr : ∀ w, (Instr.build t ps.toArray).run P w = .ok v w) :
    Yld P n C e ⟨d, .build t parts, ty, pos, af, g⟩ v := by
  intro a ha w _
  have h1 := ha.evP hp
  have : (parts.map fun (p : Nat × Operand) => (p.1, a.eval p.2)) = ps.toArray := by rw [← h1, ← Array.toList_map]
  simp only [execOp, Sem.run_bind]
  rw [this, hr w]
  simp
theorem Yld.max2 {d : Option Tmp} {t : Array TypeId} {x y : Operand} {ty : TypeId} {pos : String} {af : Array Edge} {g : Option (Nat × Bool)} {p q : Int} (hx : ev e x = some (.int .i64 p)) (hy : ev e y = some (.int .i64 q)) :
    Yld P n C e ⟨d, .call { callee := .builtin .max, args := #[x, y], argTypes := t }, ty, pos, af, g⟩ (.int .i64 (if q > p then q else p)) := by
  intro a ha w _
  simp [execOp, resolve, invoke, builtin, ha.ev hx, ha.ev hy, Builtin.max_, Builtin.max2]
theorem Yld.min2 {d : Option Tmp} {t : Array TypeId} {x y : Operand} {ty : TypeId} {pos : String} {af : Array Edge} {g : Option (Nat × Bool)} {p q : Int} (hx : ev e x = some (.int .i64 p)) (hy : ev e y = some (.int .i64 q)) :
    Yld P n C e ⟨d, .call { callee := .builtin .min, args := #[x, y], argTypes := t }, ty, pos, af, g⟩ (.int .i64 (if q < p then q else p)) := by
  intro a ha w _
  simp [execOp, resolve, invoke, builtin, ha.ev hx, ha.ev hy, Builtin.min_, Builtin.min2]
def Pair (P : Program) (t : TypeId) : Prop := P.eqGuardType P.depth t = false ∧ ∀ (a b c d : ByteArray) (w : World), (Op.equalIn 10000 t (.agg #[.string a, .string b]) (.agg #[.string c, .string d])).run P w = .ok (decide (a = c ∧ b = d)) w
theorem Pair.of {t s : TypeId} {f0 f1 : Field} (hg : P.eqGuardType P.depth t = false) (hp : P.stoodInHeld t = false) (ht : P.underlying t = some (.struct #[f0, f1])) (hs : P.underlying s = some .string) (h0 : f0.type = s) (h1 : f1.type = s) (o0 : f0.offset = 0) (o1 : f1.offset = 1) (n0 : f0.name ≠ "_") (n1 : f1.name ≠ "_") : Pair P t := by
  refine ⟨hg, fun a b c d w => ?_⟩
  have hf : P.fieldsOf t = #[f0, f1] := by simp [Program.fieldsOf, ht]
  rw [run_equalIn_struct w 9999 t _ _ (by rw [hf]; exact ht) hp, hf]
  have hpl : Plain P s := Plain.of hs rfl
  have he : ∀ a b w, (Op.equalIn 9999 s (.string a) (.string b)).run P w = .ok (decide (a = b)) w := fun a b w => by rw [run_equalIn_string w 9998 s a b hs, beqS]
  have hpt : ∀ (cs : Array Value) (o : Nat) (v : Value) w, cs[o]? = some v → (part s cs o).run P w = .ok v w := fun cs o v w h => by simp [part, hpl w, h]
  simp only [Op.eqFields, n0, n1, ne_eq, not_false_eq_true, if_true, h0, h1, o0, o1, Sem.run_bind]
  rw [hpt #[.string a, .string b] 0 (.string a) w (by simp)]
  simp only [Result.andThen_ok]
  rw [hpt #[.string c, .string d] 0 (.string c) w (by simp)]
  simp only [Result.andThen_ok, he]
  by_cases e1 : a = c
  · simp only [e1, decide_true, Bool.not_true, Bool.false_eq_true, if_false, Sem.run_bind]
    rw [hpt #[.string c, .string b] 1 (.string b) w (by simp)]
    simp only [Result.andThen_ok]
    rw [hpt #[.string c, .string d] 1 (.string d) w (by simp)]
    simp only [Result.andThen_ok, he]
    by_cases e2 : b = d
    · simp [e2]
    · simp [e2]
  · simp [e1]
end
end Go.X
namespace Go.X
open Go Go.RowKit
section
variable {P : Program} {n : Nat} {e : Env} {w : World} {C : World → Prop}
end
end Go.X
namespace Go.X
open Go Go.RowKit
section
variable {P : Program} {n : Nat} {e : Env} {w : World} {C : World → Prop}
end
end Go.X
namespace Go.X
open Go Go.RowKit
section
variable {P : Program} {n : Nat} {e : Env} {w : World}
theorem Does.bslice {d : Option Tmp} {t el len : Nat} {parts : Array (Nat × Operand)} {ty : TypeId} {pos : String} {af : Array Edge} {g : Option (Nat × Bool)} {ps : List (Nat × Value)} (cs : List Value) (hp : evP e parts.toList = some ps)
    (hr : ∀ w, (Instr.buildSlice t len ps.toArray).run P w = .ok (.slice (some ⟨w.heap.size, 0, none⟩) len len) (w.alloc (.cells cs.toArray el))) :
    Does P n e w ⟨d, .buildSlice t len parts, ty, pos, af, g⟩ (fun u w' => ∃ b, u = .slice (some ⟨b, 0, none⟩) len len ∧ New w w' b el cs) := by
  refine Does.of_run (w' := w.alloc (.cells cs.toArray el)) (v := .slice (some ⟨w.heap.size, 0, none⟩) len len) (fun a ha => ?_) ⟨_, rfl, New.of w el cs⟩
  have h1 := ha.evP hp
  have : (parts.map fun (p : Nat × Operand) => (p.1, a.eval p.2)) = ps.toArray := by rw [← h1, ← Array.toList_map]
  simp only [execOp, Sem.run_bind]
  rw [this, hr w]
  simp
end
end Go.X
set_option linter.unusedVariables false
set_option linter.unusedSimpArgs false
namespace Go.X
open Go Go.RowKit
def placeM {κ α : Type} [DecidableEq κ] (k : κ) : List (κ × α) → Option (Nat × α)
  | [] => none
  | (j, v) :: l => if k = j then some (0, v) else (placeM k l).map fun p => (p.1 + 1, p.2)
def lookM {κ α : Type} [DecidableEq κ] (l : List (κ × α)) (k : κ) : Option α := (placeM k l).map (·.2)
structure KeyLaw (P : Program) (kt : TypeId) {κ : Type} [DecidableEq κ] (enc : κ → Value) : Prop where
  check : ∀ (b : Bool) (k : κ) (w : World), (Instr.checkKey b 10000 kt (enc k)).run P w = .ok () w
  find : ∀ (k : κ) (es : List MapEntry) (l : List (κ × Value)) (w : World), es.map (fun e => (e.key, e.val)) = l.map (fun p => (enc p.1, p.2)) → (Instr.findKey kt (enc k) es).run P w = .ok (placeM k l) w
  same : ∀ k, Instr.sameBits 10000 (enc k) (enc k) = true
theorem checkKey_int {P : Program} {kt : TypeId} (h : P.underlying kt = some (.int .i64)) (n : Nat) (b : Bool) (k : Int) (w : World) : (Instr.checkKey b (n + 1) kt (.int .i64 k)).run P w = .ok () w := by
  simp only [Instr.checkKey, Sem.run_bind, run_underlying h, Result.andThen_ok, Sem.run_pure]
theorem KeyLaw.int {P : Program} {kt : TypeId} (h : P.underlying kt = some (.int .i64)) : KeyLaw P kt (Value.int .i64) where
  check b k w := checkKey_int h 9999 b k w
  find k es l w he := by
    have key : ∀ (es : List MapEntry) (l : List (Int × Value)) (i : Nat), es.map (fun e => (e.key, e.val)) = l.map (fun p => (Value.int .i64 p.1, p.2)) → Instr.findNow (.int .i64) (.int .i64 k) es i = some ((placeM k l).map fun p => (p.1 + i, p.2)) := by
      intro es
      induction es with
      | nil => intro l i h; cases l with | nil => rfl | cons p l => simp at h
      | cons e es ih =>
        intro l i h
        cases l with
        | nil => simp at h
        | cons p l =>
          simp only [List.map_cons, List.cons.injEq, Prod.mk.injEq] at h
          obtain ⟨⟨h1, h2⟩, h3⟩ := h
          simp only [Instr.findNow, h1, Instr.sameNow, if_true, placeM]
          by_cases hk : k = p.1
          · simp [hk, h2]
          · have : (k == p.1) = false := by simpa using hk
            simp only [this, if_neg hk, ih l (i + 1) h3, Option.map_map]
            congr 1
            cases placeM k l with
            | none => rfl
            | some q => simp; omega
    simp only [Instr.findKey, Sem.run_bind, run_underlying h, Result.andThen_ok, key es l 0 he]
    cases placeM k l <;> simp
  same k := by unfold Instr.sameBits; simp
structure MapAt {κ : Type} (enc : κ → Value) (w : World) (m : Nat) (l : List (κ × Value)) : Prop where
  out : ∃ es clock, w.heap[m]? = some (.map es clock) ∧ es.toList.map (fun e => (e.key, e.val)) = l.map (fun p => (enc p.1, p.2)) ∧ (es.toList.map (·.born)).Nodup ∧ ∀ e ∈ es.toList, e.born < clock
theorem MapAt.mod {κ : Type} {enc : κ → Value} {M : Nat → Prop} {w w' : World} {m : Nat} {l : List (κ × Value)} (h : MapAt enc w m l) (hm : Mod M w w') (hn : ¬ M m) : MapAt enc w' m l := by
  obtain ⟨es, c, h1, h2⟩ := h.out
  exact ⟨es, c, hm.heap h1 hn, h2⟩
def putM {κ α : Type} [DecidableEq κ] (l : List (κ × α)) (k : κ) (v : α) : List (κ × α) := match placeM k l with
  | some (i, _) => l.modify i fun p => (p.1, v)
  | none => l ++ [(k, v)]
def cutM {κ α : Type} [DecidableEq κ] (l : List (κ × α)) (k : κ) : List (κ × α) := match placeM k l with
  | some (i, _) => l.eraseIdx i
  | none => l
section
variable {P : Program} {n : Nat} {e : Env} {w : World} {C : World → Prop} {κ : Type} [DecidableEq κ] {enc : κ → Value}
theorem placeM_get {α : Type} {k : κ} : ∀ {l : List (κ × α)} {i : Nat} {v : α}, placeM k l = some (i, v) → l[i]? = some (k, v)
  | [], i, v, h => by simp [placeM] at h
  | (j, u) :: l, i, v, h => by
    simp only [placeM] at h
    by_cases hk : k = j
    · rw [if_pos hk] at h; cases h; simp [hk]
    · rw [if_neg hk] at h
      cases hp : placeM k l with
      | none => simp [hp] at h
      | some q =>
        simp [hp] at h
        obtain ⟨rfl, rfl⟩ := h
        simpa using placeM_get (l := l) (i := q.1) (v := q.2) (by rw [hp])
theorem Does.makeMap {d : Option Tmp} {t : Nat} {ty : TypeId} {pos : String} {af : Array Edge} {g : Option (Nat × Bool)} {κ : Type} (enc : κ → Value) :
    Does P n e w ⟨d, .makeMap t none, ty, pos, af, g⟩ (fun u w' => ∃ m, u = .map (some m) ∧ m = w.heap.size ∧ MapAt enc w' m [] ∧ Grow w w' ∧ w'.heap.size = w.heap.size + 1) := by
  refine Does.of_run (w' := w.alloc (.map #[] 0)) (v := .map (some w.heap.size)) (fun a ha => ?_) ⟨_, rfl, rfl, ⟨#[], 0, heap_alloc_new w _, by simp, by simp, by simp⟩, Mod.alloc _ _ _, by simp⟩
  simp [execOp, Instr.makeMap]
theorem Yld.lookup {d : Option Tmp} {t kt el : Nat} {x i : Operand} {ok : Bool} {ty : TypeId} {pos : String} {af : Array Edge} {g : Option (Nat × Bool)} (hT : P.underlying t = some (.map kt el)) (hK : KeyLaw P kt enc) {z : Value} {sz by' : Nat} (hE : TI P el z sz by') {m : Nat} {k : κ} {l : List (κ × Value)}
    (hx : ev e x = some (.map (some m))) (hi : ev e i = some (enc k)) (hm : ∀ w, C w → MapAt enc w m l) :
    Yld P n C e ⟨d, .lookup t x i ok, ty, pos, af, g⟩ (if ok then .tuple #[(lookM l k).getD z, .bool (lookM l k).isSome] else (lookM l k).getD z) := by
  intro a ha w hw
  obtain ⟨es, c, h1, h2, _⟩ := (hm w hw).out
  have hf := hK.find k es.toList l w h2
  simp only [execOp, ha.ev hx, ha.ev hi, Instr.lookup, Sem.run_bind, run_underlying hT, Result.andThen_ok]
  have hg : (getObj m).run P w = .ok (.map es c) w := by simp [getObj, Sem.run, h1]
  simp only [hg, Result.andThen_ok, Sem.run_bind, Sem.run_pure, hK.check, hf, lookM]
  cases placeM k l with
  | none => cases ok <;> simp [hE.zero w]
  | some q => cases ok <;> simp
theorem map_modify {α β : Type} (f : α → β) (g : α → α) (g' : β → β) (h : ∀ x, f (g x) = g' (f x)) : ∀ (l : List α) (i : Nat), (l.modify i g).map f = (l.map f).modify i g'
  | [], i => by simp
  | x :: l, 0 => by simp [h]
  | x :: l, i + 1 => by simp [map_modify f g g' h l i]
theorem Does.mapUpdate {d : Option Tmp} {t kt el : Nat} {x i y : Operand} {ty : TypeId} {pos : String} {af : Array Edge} {g : Option (Nat × Bool)} (hT : P.underlying t = some (.map kt el)) (hK : KeyLaw P kt enc) {m : Nat} {k : κ} {v : Value} {l : List (κ × Value)}
    (hx : ev e x = some (.map (some m))) (hi : ev e i = some (enc k)) (hy : ev e y = some v) (hm : MapAt enc w m l) :
    Does P n e w ⟨d, .mapUpdate t x i y, ty, pos, af, g⟩ (fun _ w' => MapAt enc w' m (putM l k v) ∧ Mod (· = m) w w' ∧ w'.heap.size = w.heap.size) := by
  obtain ⟨es, c, h1, h2, h3, h4⟩ := hm.out
  have hlt : m < w.heap.size := (Array.getElem?_eq_some_iff.1 h1).1
  have hf := hK.find k es.toList l w h2
  have hg : (getObj m).run P w = .ok (.map es c) w := by simp [getObj, Sem.run, h1]
  have hset : ∀ o, (setObj m o).run P w = .ok () { w with heap := w.heap.setIfInBounds m o } := fun o => by simp [setObj, Sem.run, h1]
  have hmod : ∀ o, Mod (· = m) w { w with heap := w.heap.setIfInBounds m o } := fun o => ⟨rfl, rfl, rfl, by simp, fun k hk hn => by simp [Array.getElem?_setIfInBounds_ne (Ne.symm hn)]⟩
  have hat : ∀ o, ({ w with heap := w.heap.setIfInBounds m o } : World).heap[m]? = some o := fun o => by simp [hlt]
  cases hp : placeM k l with
  | some q =>
    obtain ⟨i0, v0⟩ := q
    have hget := placeM_get hp
    have hk0 : (es.toList[i0]?).map (fun e => (e.key, e.val)) = some (enc k, v0) := by
      rw [← List.getElem?_map, h2, List.getElem?_map, hget]; rfl
    obtain ⟨e0, he0, hek⟩ : ∃ e0, es[i0]? = some e0 ∧ e0.key = enc k := by
      cases hh : es.toList[i0]? with
      | none => rw [hh] at hk0; simp at hk0
      | some e0 => rw [hh] at hk0; simp at hk0; exact ⟨e0, by simpa using hh, hk0.1⟩
    refine Does.of_skip (w' := { w with heap := w.heap.setIfInBounds m (.map (es.modify i0 fun e => { e with key := enc k, val := v }) c) }) (fun a ha => ?_) ⟨⟨_, c, hat _, ?_, ?_, ?_⟩, hmod _, by simp⟩
    · simp only [execOp, ha.ev hx, ha.ev hi, ha.ev hy, Instr.mapUpdate, Sem.run_bind, run_underlying hT, Result.andThen_ok, hg, hK.check, hf, hp, he0, Option.map_some, Option.getD_some, hek, Instr.keyThatStays, hK.same, if_true, Sem.run_pure, hset]
    · simp only [putM, hp, Array.toList_modify]
      rw [map_modify (fun e : MapEntry => (e.key, e.val)) _ (fun _ => (enc k, v)) (fun x => rfl), h2]
      have hkey : l[i0]? = some (k, v0) := hget
      apply List.ext_getElem?
      intro j
      simp only [List.getElem?_modify, List.getElem?_map]
      by_cases hj : i0 = j
      · subst hj; simp [hkey]
      · simp [hj]
    · simp only [Array.toList_modify]
      rw [map_modify (fun e : MapEntry => e.born) (fun e => { key := enc k, val := v, born := e.born }) id (fun x => rfl)]
      have : (es.toList.map (·.born)).modify i0 id = es.toList.map (·.born) := by
        apply List.ext_getElem?
        intro j
        simp [List.getElem?_modify]
      rw [this]; exact h3
    · intro x hx'
      simp only [Array.toList_modify] at hx'
      obtain ⟨j, hj⟩ := List.getElem?_of_mem hx'
      simp only [List.getElem?_modify] at hj
      cases hh : es.toList[j]? with
      | none => simp [hh] at hj
      | some y =>
        have := h4 y (List.mem_of_getElem? hh)
        simp only [hh, Option.map_some] at hj
        split at hj <;> (simp at hj; subst hj; exact this)
  | none =>
    refine Does.of_skip (w' := { w with heap := w.heap.setIfInBounds m (.map (es.push { key := enc k, val := v, born := c }) (c + 1)) }) (fun a ha => ?_) ⟨⟨_, c + 1, hat _, ?_, ?_, ?_⟩, hmod _, by simp⟩
    · simp only [execOp, ha.ev hx, ha.ev hi, ha.ev hy, Instr.mapUpdate, Sem.run_bind, run_underlying hT, Result.andThen_ok, hg, hK.check, hf, hp, Sem.run_pure, hset]
    · simp [putM, hp, h2]
    · simp only [Array.toList_push, List.map_append, List.map_cons, List.map_nil]
      rw [List.nodup_append]
      refine ⟨h3, by simp, fun a ha b hb => ?_⟩
      simp at hb; subst hb
      obtain ⟨x, hx', rfl⟩ := List.mem_map.1 ha
      have := h4 x hx'
      omega
    · intro x hx'
      simp only [Array.toList_push, List.mem_append, List.mem_singleton] at hx'
      rcases hx' with h | rfl
      · have := h4 x h; omega
      · simp
end
end Go.X
set_option linter.unusedVariables false
set_option linter.unusedSimpArgs false
namespace Go.X
open Go Go.RowKit
section
variable {κ α β : Type} [DecidableEq κ]
end
def Ty (w : World) (b : Nat) (t : TypeId) : Prop := ∃ cs s, w.heap[b]? = some (.cells cs t s)
def Mp (w : World) (b : Nat) : Prop := ∃ es c, w.heap[b]? = some (.map es c)
theorem Blk.ty {w : World} {b t : Nat} {cs : List Value} (h : Blk w b t cs) : Ty w b t := ⟨_, _, h⟩
theorem MapAt.mp {κ : Type} {enc : κ → Value} {w : World} {m : Nat} {l : List (κ × Value)} (h : MapAt enc w m l) : Mp w m := by
  obtain ⟨es, c, h1, _⟩ := h.out; exact ⟨es, c, h1⟩
theorem Ty.ne {w : World} {a b t u : Nat} (h : Ty w a t) (k : Ty w b u) (hn : Nat.beq t u = false) : a ≠ b := by
  rintro rfl
  obtain ⟨_, _, h⟩ := h
  obtain ⟨_, _, k⟩ := k
  rw [h] at k
  cases k
  simp at hn
theorem Ty.nem {w : World} {a b t : Nat} (h : Ty w a t) (k : Mp w b) : a ≠ b := by
  rintro rfl
  obtain ⟨_, _, h⟩ := h
  obtain ⟨_, _, k⟩ := k
  rw [h] at k
  cases k
section
variable {P : Program} {n : Nat} {e : Env} {w : World} {C : World → Prop}
end
end Go.X
set_option linter.unusedVariables false
set_option linter.unusedSimpArgs false
namespace Go.X
open Go Go.RowKit
section
variable {P : Program} {n : Nat} {e : Env} {w : World} {C : World → Prop}
theorem Yld.convI {d : Option Tmp} {src dst : Nat} {x : Operand} {ty : TypeId} {pos : String} {af : Array Edge} {g : Option (Nat × Bool)} {de : TypeDesc} {k k' : IntKind} {a : Int} (hs : P.underlying src = some de) (hd : P.underlying dst = some (.int k)) (hx : ev e x = some (.int k' a)) :
    Yld P n C e ⟨d, .convert src dst x, ty, pos, af, g⟩ (.int k (k.wrap a)) := by
  intro ac ha w _
  simp [execOp, ha.ev hx, convert, run_underlying hs, run_underlying hd, Conv.intToInt]
def mkS (xs : List Int) : ByteArray := xs.foldl (fun r n => r.push (UInt8.ofNat n.toNat)) ByteArray.empty
end
theorem Row.blk {w : World} {b : Nat} {t : TypeId} {cs : List Value} (h : Blk w b t cs) (sz k : Nat) (hl : cs.length = k * sz) (hk : k ≤ 9223372036854775807) : Row w t sz (.slice (some ⟨b, 0, none⟩) k k) k cs :=
  ⟨hl, .inr ⟨b, k, cs.toArray, rfl, Nat.zero_le _, h, Nat.le_refl _, by simp only [maxLen]; omega, by simp [hl], by simp [← hl]⟩⟩
end Go.X
namespace Go.X
open Go Go.RowKit
section
variable {P : Program} {n : Nat} {e : Env} {w : World} {C : World → Prop}
end
end Go.X
set_option linter.unusedVariables false
namespace Go.X
open Go Go.RowKit Go.WideShapes Go.ChangeShapes
theorem post_grow {H : Type} {enc : TypeId × Value → H} {P : Program} {f : Func} {s : ChangeSpec} {apart fresh handsOn again : Bool} {W W' : World} {args : Array Value} {v : Value} {ds : List (DataW H)} {pl : List MemPlace}
    (hW : DataW.Whole enc P f.params.toList s.vars apart W args.toList ds [] pl)
    (hR : ∀ (b : Nat) (sp : Nat → Bool) (hd : Bool), DataW.TrodAll enc P W' b sp hd f.resultTypes.toList (v.resultList f.resultTypes.size) (s.fn H (ds ++ [])).results [])
    (hA : ∀ sp : Nat → Bool, (∀ p ∈ pl, sp p.block = true) → DataW.TrodAll enc P W' 0 sp true f.params.toList args.toList (s.fn H (ds ++ [])).args pl)
    (hV : ∀ sp : Nat → Bool, DataW.TrodVars enc P W' sp s.vars (s.fn H (ds ++ [])).vars [])
    (hg : Grow W W') (hok : ∀ (j : Nat) (t : TypeId) (r : Value), f.resultTypes[j]? = some t → (v.resultList f.resultTypes.size)[j]? = some r → Value.okWide P W' .any 0 t r) :
    s.post enc P f apart fresh handsOn again W args v W' := by
  have hb := hg.below
  have h1 : ∀ p ∈ pl, p.block < W.heap.size := fun p hp => hW.lt p hp
  have h2 := hA (fun b => decide (b < W.heap.size)) (fun p hp => decide_eq_true (h1 p hp))
  have h3 := hA (fun _ => true) (fun _ _ => rfl)
  have h4 := trodAll_append h3 (hR 0 (fun _ => true) true)
  obtain ⟨_, _, _, _, _, hz, hn⟩ := id hW
  refine ⟨ds, [], pl, [], pl, [], hW, hR _ _ _, h2, hV _, World.keptBut_mono (fun p hp => ⟨hp, .inr (by simpa using hp)⟩) (hb.frame (· ∈ pl)), fun _ => ⟨hok, _, _, [] ++ pl, ⟨[] ++ pl, [], h4, hV _, by simp, fun b off hp => ?_, fun ha => ?_⟩, fun p hp _ => by simpa using hp⟩⟩
  · have hp' : MemPlace.cell b off ∈ pl := by simpa using hp
    rw [hb.frozen (h1 _ hp')]; exact hz b off (by simpa using hp')
  · simpa using hn ha
end Go.X
set_option linter.unusedVariables false
namespace Go.X
open Go Go.RowKit Go.WideShapes Go.ChangeShapes
section
variable {H : Type} {enc : TypeId × Value → H} {P : Program} {W : World} {sp : Nat → Bool} {held : Bool}
end
end Go.X
set_option linter.unusedVariables false
set_option linter.unusedSimpArgs false
namespace Go.X
open Go Go.RowKit
section
variable {P : Program}
theorem run_eqItems_ints (d : Nat) {e : TypeId} {k : IntKind} (he : P.underlying e = some (.int k)) (c1 : P.cellsOf e = 1) (xs ys : Array Value) (f g : Nat → Int) : ∀ (is : List Nat) (w : World), (∀ i ∈ is, xs[i]? = some (.int k (f i))) → (∀ i ∈ is, ys[i]? = some (.int k (g i))) → (Op.eqItems (d + 1) e (P.cellsOf e) xs ys is).run P w = .ok (decide (∀ i ∈ is, f i = g i)) w
  | [], w, _, _ => by simp [Op.eqItems]
  | i :: is, w, hx, hy => by
    have hp : ∀ (zs : Array Value) (v : Value), zs[i]? = some v → (part e zs (i * P.cellsOf e)).run P w = .ok v w := fun zs v h => by
      rw [c1, Nat.mul_one]; simp [part, Go.X.Plain.of he rfl w, h]
    have ih := run_eqItems_ints d he c1 xs ys f g is w (fun j hj => hx j (by simp [hj])) (fun j hj => hy j (by simp [hj]))
    have ee : (Op.equalIn (d + 1) e (.int k (f i)) (.int k (g i))).run P w = .ok (decide (f i = g i)) w := by
      rw [run_equalIn_int w d e k k _ _ he]; rfl
    simp only [Op.eqItems, Sem.run_bind, hp xs _ (hx i (by simp)), hp ys _ (hy i (by simp)), Result.andThen_ok, ee]
    by_cases h : f i = g i
    · simp [h, ih]
    · simp [h]
def Arr (P : Program) (t : TypeId) (k : IntKind) (n : Nat) : Prop := P.eqGuardType P.depth t = false ∧ ∀ (ps qs : List Int) (w : World), ps.length = n → qs.length = n → (Op.equalIn 10000 t (.agg (ps.map (Value.int k)).toArray) (.agg (qs.map (Value.int k)).toArray)).run P w = .ok (decide (ps = qs)) w
theorem Arr.of {t e : TypeId} {k : IntKind} {n : Nat} (hg : P.eqGuardType P.depth t = false) (ht : P.underlying t = some (.array n e)) (he : P.underlying e = some (.int k)) (c1 : P.cellsOf e = 1) : Arr P t k n := by
  refine ⟨hg, fun ps qs w ha hb => ?_⟩
  obtain ⟨i, hi⟩ := info_of_underlying he
  have hat : ∀ (l : List Int), l.length = n → ∀ j ∈ List.range n, (l.map (Value.int k)).toArray[j]? = some (.int k (l.getD j 0)) := fun l hl j hj => by
    have hj' : j < l.length := by rw [hl]; exact List.mem_range.1 hj
    simp [hj']
  rw [run_equalIn_array w 9999 _ _ ht hi, run_eqItems_ints 9998 he c1 _ _ (fun j => ps.getD j 0) (fun j => qs.getD j 0) _ w (hat ps ha) (hat qs hb)]
  congr 1
  rw [decide_eq_decide]
  constructor
  · intro h
    apply List.ext_getElem (by omega)
    intro j h1 h2
    have := h j (List.mem_range.2 (by omega))
    simpa [h1, h2] using this
  · rintro rfl _ _; rfl
def Trip (P : Program) (t : TypeId) : Prop := P.eqGuardType P.depth t = false ∧ ∀ (i j : Int) (a b c d : ByteArray) (w : World), (Op.equalIn 10000 t (.agg #[.int .i64 i, .string a, .string b]) (.agg #[.int .i64 j, .string c, .string d])).run P w = .ok (decide (i = j ∧ a = c ∧ b = d)) w
theorem Trip.of {t n s : TypeId} {f0 f1 f2 : Field} (hg : P.eqGuardType P.depth t = false) (hp : P.stoodInHeld t = false) (ht : P.underlying t = some (.struct #[f0, f1, f2])) (hn : P.underlying n = some (.int .i64)) (hs : P.underlying s = some .string) (h0 : f0.type = n) (h1 : f1.type = s) (h2 : f2.type = s) (o0 : f0.offset = 0) (o1 : f1.offset = 1) (o2 : f2.offset = 2) (n0 : f0.name ≠ "_") (n1 : f1.name ≠ "_") (n2 : f2.name ≠ "_") : Trip P t := by
  refine ⟨hg, fun i j a b c d w => ?_⟩
  have hf : P.fieldsOf t = #[f0, f1, f2] := by simp [Program.fieldsOf, ht]
  rw [run_equalIn_struct w 9999 t _ _ (by rw [hf]; exact ht) hp, hf]
  have hpl : Plain P s := Plain.of hs rfl
  have hpn : Plain P n := Plain.of hn rfl
  have he : ∀ a b w, (Op.equalIn 9999 s (.string a) (.string b)).run P w = .ok (decide (a = b)) w := fun a b w => by rw [run_equalIn_string w 9998 s a b hs, beqS]
  have hen : ∀ i j w, (Op.equalIn 9999 n (.int .i64 i) (.int .i64 j)).run P w = .ok (decide (i = j)) w := fun i j w => by rw [run_equalIn_int w 9998 n .i64 .i64 _ _ hn]; rfl
  have hpt : ∀ (cs : Array Value) (o : Nat) (v : Value) w, cs[o]? = some v → (part s cs o).run P w = .ok v w := fun cs o v w h => by simp [part, hpl w, h]
  have hptn : ∀ (cs : Array Value) (o : Nat) (v : Value) w, cs[o]? = some v → (part n cs o).run P w = .ok v w := fun cs o v w h => by simp [part, hpn w, h]
  simp only [Op.eqFields, n0, n1, n2, ne_eq, not_false_eq_true, if_true, h0, h1, h2, o0, o1, o2, Sem.run_bind]
  rw [hptn #[.int .i64 i, .string a, .string b] 0 (.int .i64 i) w (by simp)]
  simp only [Result.andThen_ok]
  rw [hptn #[.int .i64 j, .string c, .string d] 0 (.int .i64 j) w (by simp)]
  simp only [Result.andThen_ok, hen]
  by_cases e0 : i = j
  · simp only [e0, decide_true, Bool.not_true, Bool.false_eq_true, if_false, Sem.run_bind]
    rw [hpt #[.int .i64 j, .string a, .string b] 1 (.string a) w (by simp)]
    simp only [Result.andThen_ok]
    rw [hpt #[.int .i64 j, .string c, .string d] 1 (.string c) w (by simp)]
    simp only [Result.andThen_ok, he]
    by_cases e1 : a = c
    · simp only [e1, decide_true, Bool.not_true, Bool.false_eq_true, if_false, Sem.run_bind]
      rw [hpt #[.int .i64 j, .string c, .string b] 2 (.string b) w (by simp)]
      simp only [Result.andThen_ok]
      rw [hpt #[.int .i64 j, .string c, .string d] 2 (.string d) w (by simp)]
      simp only [Result.andThen_ok, he]
      by_cases e2 : b = d
      · simp [e2]
      · simp [e2]
    · simp [e1]
  · simp [e0]
end
section
variable {P : Program} {n : Nat} {e : Env} {C : World → Prop}
end
theorem checkKey_str {P : Program} {kt : TypeId} (h : P.underlying kt = some .string) (n : Nat) (b : Bool) (k : ByteArray) (w : World) : (Instr.checkKey b (n + 1) kt (.string k)).run P w = .ok () w := by
  simp only [Instr.checkKey, Sem.run_bind, run_underlying h, Result.andThen_ok, Sem.run_pure]
theorem KeyLaw.str {P : Program} {kt : TypeId} (h : P.underlying kt = some .string) : KeyLaw P kt Value.string where
  check b k w := checkKey_str h 9999 b k w
  find k es l w he := by
    have key : ∀ (es : List MapEntry) (l : List (ByteArray × Value)) (i : Nat), es.map (fun e => (e.key, e.val)) = l.map (fun p => (Value.string p.1, p.2)) → Instr.findNow .string (.string k) es i = some ((placeM k l).map fun p => (p.1 + i, p.2)) := by
      intro es
      induction es with
      | nil => intro l i h; cases l with | nil => rfl | cons p l => simp at h
      | cons e es ih =>
        intro l i h
        cases l with
        | nil => simp at h
        | cons p l =>
          simp only [List.map_cons, List.cons.injEq, Prod.mk.injEq] at h
          obtain ⟨⟨h1, h2⟩, h3⟩ := h
          have hb : (k == p.1) = decide (k = p.1) := by rw [beq_toListBytes]; exact beqS k p.1
          simp only [Instr.findNow, h1, Instr.sameNow, hb, placeM]
          by_cases hk : k = p.1
          · simp [hk, h2]
          · simp only [hk, decide_false, Bool.false_eq_true, if_neg hk, if_false, ih l (i + 1) h3, Option.map_map]
            congr 1
            cases placeM k l with
            | none => rfl
            | some q => simp; omega
    simp only [Instr.findKey, Sem.run_bind, run_underlying h, Result.andThen_ok, key es l 0 he]
    cases placeM k l <;> simp
  same k := by
    have hb : ∀ a : ByteArray, (a == a) = true := fun a => by rw [beq_toListBytes]; simp
    unfold Instr.sameBits; exact hb k
end Go.X
namespace Go.Proofs.YtghcdngegadkaaaGreat
open Go Go.X
theorem mixed : Tryz.prog.follows .mixedOrders = true := by kernel_rfl
theorem i3 : TI Tryz.prog 3 (.int .i64 0) 1 8 := TI.mk' (by kernel_rfl)
theorem p3 : Plain Tryz.prog 3 := Plain.of Tryz.underlying3 rfl
theorem i4 : TI Tryz.prog 4 (.bool false) 1 1 := TI.mk' (by kernel_rfl)
theorem p4 : Plain Tryz.prog 4 := Plain.of Tryz.underlying4 rfl
theorem i5 : TI Tryz.prog 5 (.int .u8 0) 1 1 := TI.mk' (by kernel_rfl)
theorem p5 : Plain Tryz.prog 5 := Plain.of Tryz.underlying5 rfl
theorem u9 : Tryz.prog.underlying 9 = some .string := Tryz.underlying9
theorem i9 : TI Tryz.prog 9 (.string ByteArray.empty) 1 16 := TI.mk' (by kernel_rfl)
theorem p9 : Plain Tryz.prog 9 := Plain.of Tryz.underlying9 rfl
theorem i22 : TI Tryz.prog 22 (.int .u64 0) 1 8 := TI.mk' (by kernel_rfl)
theorem p22 : Plain Tryz.prog 22 := Plain.of Tryz.underlying22 rfl
theorem i24 : TI Tryz.prog 24 (.agg #[.string ByteArray.empty, .int .i64 0, .int .i64 0, .int .i64 0, .int .i64 0, .int .i64 0, .int .i64 0, .int .i64 0, .int .u64 0]) 9 80 := TI.mk' (by kernel_rfl)
theorem a24 : Agg Tryz.prog 24 9 := Agg.of (d := (Tryz.prog.underlying 24).getD .bool) (by kernel_rfl) (by kernel_rfl) i24
theorem u25 : SlT Tryz.prog 25 5 := Tryz.underlying25
theorem i25 : TI Tryz.prog 25 (.slice none 0 0) 1 24 := TI.mk' (by kernel_rfl)
theorem p25 : Plain Tryz.prog 25 := Plain.of Tryz.underlying25 rfl
theorem i27 : TI Tryz.prog 27 (.agg #[.bool false, .int .u64 0, .slice none 0 0]) 3 40 := TI.mk' (by kernel_rfl)
theorem a27 : Agg Tryz.prog 27 3 := Agg.of (d := (Tryz.prog.underlying 27).getD .bool) (by kernel_rfl) (by kernel_rfl) i27
theorem u28 : SlT Tryz.prog 28 27 := Tryz.underlying28
theorem p28 : Plain Tryz.prog 28 := Plain.of Tryz.underlying28 rfl
theorem u29 : SlT Tryz.prog 29 25 := Tryz.underlying29
theorem p29 : Plain Tryz.prog 29 := Plain.of Tryz.underlying29 rfl
theorem i31 : TI Tryz.prog 31 (.agg #[.string ByteArray.empty, .int .i64 0, .int .i64 0, .int .i64 0, .int .i64 0, .int .i64 0, .int .i64 0, .int .i64 0, .int .u64 0, .slice none 0 0, .slice none 0 0]) 11 128 := TI.mk' (by kernel_rfl)
theorem a31 : Agg Tryz.prog 31 11 := Agg.of (d := (Tryz.prog.underlying 31).getD .bool) (by kernel_rfl) (by kernel_rfl) i31
theorem u33 : SlT Tryz.prog 33 3 := Tryz.underlying33
theorem p33 : Plain Tryz.prog 33 := Plain.of Tryz.underlying33 rfl
theorem u42 : SlT Tryz.prog 42 83 := Tryz.underlying42
theorem i42 : TI Tryz.prog 42 (.slice none 0 0) 1 24 := TI.mk' (by kernel_rfl)
theorem p42 : Plain Tryz.prog 42 := Plain.of Tryz.underlying42 rfl
theorem u44 : SlT Tryz.prog 44 74 := Tryz.underlying44
theorem u48 : SlT Tryz.prog 48 130 := Tryz.underlying48
theorem p48 : Plain Tryz.prog 48 := Plain.of Tryz.underlying48 rfl
theorem p49 : Plain Tryz.prog 49 := Plain.of Tryz.underlying49 rfl
theorem i51 : TI Tryz.prog 51 (.agg #[.bool false, .float .f64 0, .float .f64 0]) 3 24 := TI.mk' (by kernel_rfl)
theorem a51 : Agg Tryz.prog 51 3 := Agg.of (d := (Tryz.prog.underlying 51).getD .bool) (by kernel_rfl) (by kernel_rfl) i51
theorem u52 : SlT Tryz.prog 52 9 := Tryz.underlying52
theorem p52 : Plain Tryz.prog 52 := Plain.of Tryz.underlying52 rfl
theorem i54 : TI Tryz.prog 54 (.agg #[.slice none 0 0, .slice none 0 0, .bool false, .float .f64 0, .float .f64 0, .slice none 0 0]) 6 96 := TI.mk' (by kernel_rfl)
theorem a54 : Agg Tryz.prog 54 6 := Agg.of (d := (Tryz.prog.underlying 54).getD .bool) (by kernel_rfl) (by kernel_rfl) i54
theorem u55 : SlT Tryz.prog 55 147 := Tryz.underlying55
theorem p55 : Plain Tryz.prog 55 := Plain.of Tryz.underlying55 rfl
theorem i57 : TI Tryz.prog 57 (.agg #[.string ByteArray.empty, .int .i64 0, .int .i64 0, .string ByteArray.empty, .int .u64 0, .int .u64 0, .int .i64 0, .slice none 0 0, .bool false, .float .f64 0, .float .f64 0, .slice none 0 0, .slice none 0 0, .bool false, .float .f64 0, .float .f64 0, .slice none 0 0, .slice none 0 0, .float .f64 0]) 19 248 := TI.mk' (by kernel_rfl)
theorem a57 : Agg Tryz.prog 57 19 := Agg.of (d := (Tryz.prog.underlying 57).getD .bool) (by kernel_rfl) (by kernel_rfl) i57
theorem i58 : TI Tryz.prog 58 (.int .i64 0) 1 8 := TI.mk' (by kernel_rfl)
theorem p58 : Plain Tryz.prog 58 := Plain.of Tryz.underlying58 rfl
theorem u59 : SlT Tryz.prog 59 95 := Tryz.underlying59
theorem p59 : Plain Tryz.prog 59 := Plain.of Tryz.underlying59 rfl
theorem i60 : TI Tryz.prog 60 (.agg #[.int .u8 0, .int .u8 0, .int .u8 0, .int .u8 0, .int .u8 0, .int .u8 0, .int .u8 0, .int .u8 0, .int .u8 0, .int .u8 0, .int .u8 0, .int .u8 0, .int .u8 0, .int .u8 0, .int .u8 0, .int .u8 0, .int .u8 0, .int .u8 0, .int .u8 0, .int .u8 0, .int .u8 0, .int .u8 0, .int .u8 0, .int .u8 0, .int .u8 0, .int .u8 0, .int .u8 0, .int .u8 0, .int .u8 0, .int .u8 0, .int .u8 0, .int .u8 0]) 32 32 := TI.mk' (by kernel_rfl)
theorem a60 : Agg Tryz.prog 60 32 := Agg.of (d := (Tryz.prog.underlying 60).getD .bool) (by kernel_rfl) (by kernel_rfl) i60
theorem i62 : TI Tryz.prog 62 (.agg #[.int .i64 0, .int .i64 0, .int .i64 0, .slice none 0 0, .slice none 0 0, .slice none 0 0, .slice none 0 0, .int .u8 0, .int .u8 0, .int .u8 0, .int .u8 0, .int .u8 0, .int .u8 0, .int .u8 0, .int .u8 0, .int .u8 0, .int .u8 0, .int .u8 0, .int .u8 0, .int .u8 0, .int .u8 0, .int .u8 0, .int .u8 0, .int .u8 0, .int .u8 0, .int .u8 0, .int .u8 0, .int .u8 0, .int .u8 0, .int .u8 0, .int .u8 0, .int .u8 0, .int .u8 0, .int .u8 0, .int .u8 0, .int .u8 0, .int .u8 0, .int .u8 0, .int .u8 0, .int .u64 0]) 40 160 := TI.mk' (by kernel_rfl)
theorem a62 : Agg Tryz.prog 62 40 := Agg.of (d := (Tryz.prog.underlying 62).getD .bool) (by kernel_rfl) (by kernel_rfl) i62
theorem i64 : TI Tryz.prog 64 (.agg #[.int .i64 0, .bool false, .bool false, .string ByteArray.empty, .int .i64 0, .int .i64 0, .string ByteArray.empty, .int .u64 0, .int .u64 0, .int .i64 0, .slice none 0 0, .bool false, .float .f64 0, .float .f64 0, .slice none 0 0, .slice none 0 0, .bool false, .float .f64 0, .float .f64 0, .slice none 0 0, .slice none 0 0, .float .f64 0, .int .i64 0, .bool false, .int .i64 0, .int .i64 0, .int .i64 0, .slice none 0 0, .slice none 0 0, .slice none 0 0, .slice none 0 0, .int .u8 0, .int .u8 0, .int .u8 0, .int .u8 0, .int .u8 0, .int .u8 0, .int .u8 0, .int .u8 0, .int .u8 0, .int .u8 0, .int .u8 0, .int .u8 0, .int .u8 0, .int .u8 0, .int .u8 0, .int .u8 0, .int .u8 0, .int .u8 0, .int .u8 0, .int .u8 0, .int .u8 0, .int .u8 0, .int .u8 0, .int .u8 0, .int .u8 0, .int .u8 0, .int .u8 0, .int .u8 0, .int .u8 0, .int .u8 0, .int .u8 0, .int .u8 0, .int .u64 0, .bool false, .int .u64 0]) 66 456 := TI.mk' (by kernel_rfl)
theorem a64 : Agg Tryz.prog 64 66 := Agg.of (d := (Tryz.prog.underlying 64).getD .bool) (by kernel_rfl) (by kernel_rfl) i64
theorem p66 : Plain Tryz.prog 66 := Plain.of Tryz.underlying66 rfl
theorem i84 : TI Tryz.prog 84 (.map none) 1 8 := TI.mk' (by kernel_rfl)
theorem p84 : Plain Tryz.prog 84 := Plain.of Tryz.underlying84 rfl
theorem p88 : Plain Tryz.prog 88 := Plain.of Tryz.underlying88 rfl
theorem key9 : KeyLaw Tryz.prog 9 Value.string := KeyLaw.str Tryz.underlying9
theorem fo24_0 : FO Tryz.prog 24 0 0 := fun a w => by kernel_rfl
theorem fo24_6 : FO Tryz.prog 24 6 6 := fun a w => by kernel_rfl
theorem fo24_7 : FO Tryz.prog 24 7 7 := fun a w => by kernel_rfl
theorem fo27_0 : FO Tryz.prog 27 0 0 := fun a w => by kernel_rfl
theorem fo27_2 : FO Tryz.prog 27 2 2 := fun a w => by kernel_rfl
theorem fo31_0 : FO Tryz.prog 31 0 0 := fun a w => by kernel_rfl
theorem fo31_1 : FO Tryz.prog 31 1 9 := fun a w => by kernel_rfl
theorem fo31_2 : FO Tryz.prog 31 2 10 := fun a w => by kernel_rfl
theorem fo51_0 : FO Tryz.prog 51 0 0 := fun a w => by kernel_rfl
theorem fo51_1 : FO Tryz.prog 51 1 1 := fun a w => by kernel_rfl
theorem fo51_2 : FO Tryz.prog 51 2 2 := fun a w => by kernel_rfl
theorem fo54_0 : FO Tryz.prog 54 0 0 := fun a w => by kernel_rfl
theorem fo54_1 : FO Tryz.prog 54 1 1 := fun a w => by kernel_rfl
theorem fo54_2 : FO Tryz.prog 54 2 2 := fun a w => by kernel_rfl
theorem fo54_3 : FO Tryz.prog 54 3 5 := fun a w => by kernel_rfl
theorem fo57_0 : FO Tryz.prog 57 0 0 := fun a w => by kernel_rfl
theorem fo57_1 : FO Tryz.prog 57 1 1 := fun a w => by kernel_rfl
theorem fo57_2 : FO Tryz.prog 57 2 2 := fun a w => by kernel_rfl
theorem fo57_3 : FO Tryz.prog 57 3 3 := fun a w => by kernel_rfl
theorem fo57_4 : FO Tryz.prog 57 4 4 := fun a w => by kernel_rfl
theorem fo57_5 : FO Tryz.prog 57 5 5 := fun a w => by kernel_rfl
theorem fo57_6 : FO Tryz.prog 57 6 6 := fun a w => by kernel_rfl
theorem fo57_7 : FO Tryz.prog 57 7 7 := fun a w => by kernel_rfl
theorem fo57_8 : FO Tryz.prog 57 8 8 := fun a w => by kernel_rfl
theorem fo57_9 : FO Tryz.prog 57 9 11 := fun a w => by kernel_rfl
theorem fo57_10 : FO Tryz.prog 57 10 17 := fun a w => by kernel_rfl
theorem fo57_11 : FO Tryz.prog 57 11 18 := fun a w => by kernel_rfl
theorem fo62_0 : FO Tryz.prog 62 0 0 := fun a w => by kernel_rfl
theorem fo62_1 : FO Tryz.prog 62 1 1 := fun a w => by kernel_rfl
theorem fo62_2 : FO Tryz.prog 62 2 2 := fun a w => by kernel_rfl
theorem fo62_3 : FO Tryz.prog 62 3 3 := fun a w => by kernel_rfl
theorem fo62_4 : FO Tryz.prog 62 4 4 := fun a w => by kernel_rfl
theorem fo62_5 : FO Tryz.prog 62 5 5 := fun a w => by kernel_rfl
theorem fo62_6 : FO Tryz.prog 62 6 6 := fun a w => by kernel_rfl
theorem fo62_7 : FO Tryz.prog 62 7 7 := fun a w => by kernel_rfl
theorem fo62_8 : FO Tryz.prog 62 8 39 := fun a w => by kernel_rfl
theorem fo64_1 : FO Tryz.prog 64 1 1 := fun a w => by kernel_rfl
theorem fo64_2 : FO Tryz.prog 64 2 2 := fun a w => by kernel_rfl
theorem fo64_3 : FO Tryz.prog 64 3 3 := fun a w => by kernel_rfl
theorem fo64_4 : FO Tryz.prog 64 4 22 := fun a w => by kernel_rfl
theorem fo64_5 : FO Tryz.prog 64 5 23 := fun a w => by kernel_rfl
theorem fo64_6 : FO Tryz.prog 64 6 24 := fun a w => by kernel_rfl
theorem fo64_7 : FO Tryz.prog 64 7 64 := fun a w => by kernel_rfl
theorem fo90_0 : FO Tryz.prog 90 0 0 := fun a w => by kernel_rfl
theorem fo90_1 : FO Tryz.prog 90 1 11 := fun a w => by kernel_rfl
theorem fo90_2 : FO Tryz.prog 90 2 12 := fun a w => by kernel_rfl
theorem fo173_0 : FO Tryz.prog 173 0 0 := fun a w => by kernel_rfl
theorem fo173_1 : FO Tryz.prog 173 1 1 := fun a w => by kernel_rfl
theorem fo173_2 : FO Tryz.prog 173 2 2 := fun a w => by kernel_rfl
theorem e2 : Enters Tryz.prog 2 := enters_of Tryz.func2 (by kernel_rfl) rfl
theorem e8 : Enters Tryz.prog 8 := enters_of Tryz.func8 (by kernel_rfl) rfl
theorem e9 : Enters Tryz.prog 9 := enters_of Tryz.func9 (by kernel_rfl) rfl
theorem e10 : Enters Tryz.prog 10 := enters_of Tryz.func10 (by kernel_rfl) rfl
theorem e11 : Enters Tryz.prog 11 := enters_of Tryz.func11 (by kernel_rfl) rfl
theorem e12 : Enters Tryz.prog 12 := enters_of Tryz.func12 (by kernel_rfl) rfl
theorem e13 : Enters Tryz.prog 13 := enters_of Tryz.func13 (by kernel_rfl) rfl
theorem e14 : Enters Tryz.prog 14 := enters_of Tryz.func14 (by kernel_rfl) rfl
theorem e20 : Enters Tryz.prog 20 := enters_of Tryz.func20 (by kernel_rfl) rfl
theorem e26 : Enters Tryz.prog 26 := enters_of Tryz.func26 (by kernel_rfl) rfl
theorem e27 : Enters Tryz.prog 27 := enters_of Tryz.func27 (by kernel_rfl) rfl
theorem e29 : Enters Tryz.prog 29 := enters_of Tryz.func29 (by kernel_rfl) rfl
theorem e30 : Enters Tryz.prog 30 := enters_of Tryz.func30 (by kernel_rfl) rfl
theorem e31 : Enters Tryz.prog 31 := enters_of Tryz.func31 (by kernel_rfl) rfl
theorem e32 : Enters Tryz.prog 32 := enters_of Tryz.func32 (by kernel_rfl) rfl
theorem e33 : Enters Tryz.prog 33 := enters_of Tryz.func33 (by kernel_rfl) rfl
theorem e36 : Enters Tryz.prog 36 := enters_of Tryz.func36 (by kernel_rfl) rfl
theorem e48 : Enters Tryz.prog 48 := enters_of Tryz.func48 (by kernel_rfl) rfl
theorem e49 : Enters Tryz.prog 49 := enters_of Tryz.func49 (by kernel_rfl) rfl
theorem e59 : Enters Tryz.prog 59 := enters_of Tryz.func59 (by kernel_rfl) rfl
theorem e60 : Enters Tryz.prog 60 := enters_of Tryz.func60 (by kernel_rfl) rfl
theorem e61 : Enters Tryz.prog 61 := enters_of Tryz.func61 (by kernel_rfl) rfl
theorem e62 : Enters Tryz.prog 62 := enters_of Tryz.func62 (by kernel_rfl) rfl
theorem e63 : Enters Tryz.prog 63 := enters_of Tryz.func63 (by kernel_rfl) rfl
theorem e64 : Enters Tryz.prog 64 := enters_of Tryz.func64 (by kernel_rfl) rfl
theorem e79 : Enters Tryz.prog 79 := enters_of Tryz.func79 (by kernel_rfl) rfl
theorem e80 : Enters Tryz.prog 80 := enters_of Tryz.func80 (by kernel_rfl) rfl
theorem e82 : Enters Tryz.prog 82 := enters_of Tryz.func82 (by kernel_rfl) rfl
theorem e85 : Enters Tryz.prog 85 := enters_of Tryz.func85 (by kernel_rfl) rfl
theorem e89 : Enters Tryz.prog 89 := enters_of Tryz.func89 (by kernel_rfl) rfl
theorem e90 : Enters Tryz.prog 90 := enters_of Tryz.func90 (by kernel_rfl) rfl
theorem e91 : Enters Tryz.prog 91 := enters_of Tryz.func91 (by kernel_rfl) rfl
theorem e92 : Enters Tryz.prog 92 := enters_of Tryz.func92 (by kernel_rfl) rfl
theorem e93 : Enters Tryz.prog 93 := enters_of Tryz.func93 (by kernel_rfl) rfl
theorem e94 : Enters Tryz.prog 94 := enters_of Tryz.func94 (by kernel_rfl) rfl
theorem e95 : Enters Tryz.prog 95 := enters_of Tryz.func95 (by kernel_rfl) rfl
theorem e96 : Enters Tryz.prog 96 := enters_of Tryz.func96 (by kernel_rfl) rfl
theorem e97 : Enters Tryz.prog 97 := enters_of Tryz.func97 (by kernel_rfl) rfl
theorem e98 : Enters Tryz.prog 98 := enters_of Tryz.func98 (by kernel_rfl) rfl
theorem e110 : Enters Tryz.prog 110 := enters_of Tryz.func110 (by kernel_rfl) rfl
theorem e111 : Enters Tryz.prog 111 := enters_of Tryz.func111 (by kernel_rfl) rfl
theorem e112 : Enters Tryz.prog 112 := enters_of Tryz.func112 (by kernel_rfl) rfl
theorem e117 : Enters Tryz.prog 117 := enters_of Tryz.func117 (by kernel_rfl) rfl
theorem e118 : Enters Tryz.prog 118 := enters_of Tryz.func118 (by kernel_rfl) rfl
theorem e119 : Enters Tryz.prog 119 := enters_of Tryz.func119 (by kernel_rfl) rfl
theorem e120 : Enters Tryz.prog 120 := enters_of Tryz.func120 (by kernel_rfl) rfl
theorem e131 : Enters Tryz.prog 131 := enters_of Tryz.func131 (by kernel_rfl) rfl
theorem e135 : Enters Tryz.prog 135 := enters_of Tryz.func135 (by kernel_rfl) rfl
theorem e136 : Enters Tryz.prog 136 := enters_of Tryz.func136 (by kernel_rfl) rfl
theorem e137 : Enters Tryz.prog 137 := enters_of Tryz.func137 (by kernel_rfl) rfl
theorem e138 : Enters Tryz.prog 138 := enters_of Tryz.func138 (by kernel_rfl) rfl
theorem e163 : Enters Tryz.prog 163 := enters_of Tryz.func163 (by kernel_rfl) rfl
theorem e167 : Enters Tryz.prog 167 := enters_of Tryz.func167 (by kernel_rfl) rfl
theorem e169 : Enters Tryz.prog 169 := enters_of Tryz.func169 (by kernel_rfl) rfl
theorem e186 : Enters Tryz.prog 186 := enters_of Tryz.func186 (by kernel_rfl) rfl
theorem x86 : ∀ (b : Nat) (w : World), (callFunc 86 #[.float .f64 b]).run Tryz.prog w = .ok (.value (.int .u64 b)) w := fun b w => by kernel_rfl
end Go.Proofs.YtghcdngegadkaaaGreat
set_option linter.unusedVariables false
namespace Go.X
open Go Go.RowKit Go.WideShapes Go.ChangeShapes
section
variable {H : Type} {enc : TypeId × Value → H} {P : Program} {W : World} {base : Nat} {sp : Nat → Bool} {held : Bool}
end
end Go.X
namespace Go.X
open Ieee
end Go.X
set_option linter.unusedVariables false
set_option linter.unusedSimpArgs false
namespace Go.X
open Go Go.RowKit
section
variable {P : Program} {n : Nat} {e : Env} {w : World} {C : World → Prop}
def fromAt (ad : Option Addr) (cap m sz : Nat) : Option Addr := ad.map fun a => if cap = m then a else a.add (m * sz)
theorem Yld.sliceFrom {d : Option Tmp} {t el : Nat} {x h : Operand} {ty : TypeId} {pos : String} {af : Array Edge} {g : Option (Nat × Bool)} (hT : SlT P t el) {z : Value} {sz by' : Nat} (hE : TI P el z sz by') {ad : Option Addr} {len cap m : Nat} {k : IntKind} (hx : ev e x = some (.slice ad len cap)) (hh : ev e h = some (.int k (m : Int))) (hm : m ≤ len) :
    Yld P n C e ⟨d, .slice t x (some h) none none, ty, pos, af, g⟩ (.slice (fromAt ad cap m sz) (len - m) (cap - m)) := by
  intro a ha w _
  have h1 : (m : Int) ≤ len := by omega
  cases ad with
  | none => simp [execOp, ha.ev hx, ha.ev hh, Instr.sliceAt, Instr.slice, run_underlying hT, Instr.sliceBounds, Instr.sliceBound, asIntOf, hE.sizeOf w, h1, hm, fromAt]
  | some ad => by_cases hcm : cap = m <;> simp [execOp, ha.ev hx, ha.ev hh, Instr.sliceAt, Instr.slice, run_underlying hT, Instr.sliceBounds, Instr.sliceBound, asIntOf, hE.sizeOf w, h1, hm, hcm, fromAt]
end
theorem Sl.take {M : Nat → Prop} {w : World} {ad : Option Addr} {n c : Nat} {cs : List Value} (h : Sl M w (.slice ad n c) 1 n cs) {j : Nat} (hj : j ≤ n) : Sl M w (.slice ad j c) 1 j (cs.take j) := by
  have hl := h.len
  have hb := h.big
  obtain ⟨ad', c', he, hf⟩ := h.form
  cases he
  refine ⟨by simp; omega, by omega, _, _, rfl, fun h0 => ?_⟩
  obtain ⟨b, o, ha, hM, hc⟩ := hf (by omega)
  refine ⟨b, o, ha, hM, fun i u hi => hc i u ?_⟩
  rw [List.getElem?_take] at hi
  split at hi
  · exact hi
  · cases hi
theorem Sl.from {M : Nat → Prop} {w : World} {ad : Option Addr} {n c : Nat} {cs : List Value} (h : Sl M w (.slice ad n c) 1 n cs) {j : Nat} (hj : j ≤ n) (hnc : n ≤ c) : Sl M w (.slice (fromAt ad c j 1) (n - j) (c - j)) 1 (n - j) (cs.drop j) := by
  have hl := h.len
  have hb := h.big
  obtain ⟨ad', c', he, hf⟩ := h.form
  cases he
  refine ⟨by simp; omega, by omega, _, _, rfl, fun h0 => ?_⟩
  obtain ⟨b, o, rfl, hM, hc⟩ := hf (by omega)
  refine ⟨b, o + j, ?_, hM, fun i u hi => ?_⟩
  · have : ¬ c = j := by omega
    simp [fromAt, this, add_none]
  · rw [List.getElem?_drop] at hi
    rw [Nat.add_assoc]
    exact hc _ u hi
end Go.X
set_option linter.unusedVariables false
namespace Go.X
open Go Go.RowKit
def Fork (P : Program) (ops : Array Oper) (S : World → Prop) (tl : List Nat) (Q : Exit → Act → World → Prop) (p q : List (Nat × Bool)) : Exit → Act → World → Prop := fun x a w => x = .normal ∧ wpOrd P ops S tl Q p a w ∧ wpOrd P ops S tl Q q a w
section
variable {P : Program} {f : FuncId} {n : Nat} {R : Ending → World → Prop} {k : List Item} {e : Env} {w : World}
theorem DL.fork {ops : List Oper} {S : World → Prop} {tl : List Nat} {Q : Exit → Act → World → Prop} {p q : List (Nat × Bool)} (h1 : DL P n ops S tl p e w Q) (h2 : DL P n ops S tl q e w Q) : DL P n ops S tl [] e w (Fork P ops.toArray S tl Q p q) := fun a ha => ⟨rfl, h1 a ha, h2 a ha⟩
end
end Go.X
set_option linter.unusedVariables false
set_option linter.unusedSimpArgs false
namespace Go.X
open Go Go.RowKit
section
variable {κ α : Type} [DecidableEq κ]
end
section
variable {P : Program} {n : Nat} {e : Env} {w : World} {κ : Type} [DecidableEq κ] {enc : κ → Value}
end
end Go.X
set_option linter.unusedVariables false
set_option linter.unusedSimpArgs false
namespace Go.X
open Go Go.RowKit
section
variable {P : Program} {n : Nat} {e : Env} {w : World} {C : World → Prop}
theorem Yld.sliceLH {d : Option Tmp} {t el : Nat} {x l h : Operand} {ty : TypeId} {pos : String} {af : Array Edge} {g : Option (Nat × Bool)} (hT : SlT P t el) {z : Value} {sz by' : Nat} (hE : TI P el z sz by') {ad : Option Addr} {len cap lo hi : Nat} {k k' : IntKind} (hx : ev e x = some (.slice ad len cap)) (hl : ev e l = some (.int k (lo : Int))) (hh : ev e h = some (.int k' (hi : Int))) (h1 : lo ≤ hi) (h2 : hi ≤ cap) :
    Yld P n C e ⟨d, .slice t x (some l) (some h) none, ty, pos, af, g⟩ (.slice (fromAt ad cap lo sz) (hi - lo) (cap - lo)) := by
  intro a ha w _
  have e1 : (hi : Int) ≤ cap := by omega
  have e2 : (lo : Int) ≤ hi := by omega
  cases ad with
  | none => simp [execOp, ha.ev hx, ha.ev hl, ha.ev hh, Instr.sliceAt, Instr.slice, run_underlying hT, Instr.sliceBounds, Instr.sliceBound, asIntOf, hE.sizeOf w, e1, e2, h1, h2, fromAt]
  | some ad =>
    by_cases hcm : cap = lo
    · subst hcm
      obtain rfl : hi = cap := by omega
      simp [execOp, ha.ev hx, ha.ev hl, ha.ev hh, Instr.sliceAt, Instr.slice, run_underlying hT, Instr.sliceBounds, Instr.sliceBound, asIntOf, hE.sizeOf w, fromAt]
    · simp [execOp, ha.ev hx, ha.ev hl, ha.ev hh, Instr.sliceAt, Instr.slice, run_underlying hT, Instr.sliceBounds, Instr.sliceBound, asIntOf, hE.sizeOf w, e1, e2, h1, h2, hcm, fromAt]
end
end Go.X
namespace Go.X
open Go Go.RowKit
end Go.X
set_option linter.unusedVariables false
set_option linter.unusedSimpArgs false
namespace Go.X
open Go Go.RowKit
section
variable {P : Program} {n : Nat} {e : Env} {w : World} {C : World → Prop}
theorem wrap_u64 {x : Nat} (h : x < 18446744073709551616) : IntKind.u64.wrap (x : Int) = x := by rw [IntKind.wrap_u64]; omega
theorem Yld.shr {d : Option Tmp} {t : Nat} {x y : Operand} {t' ty : TypeId} {pos : String} {af : Array Edge} {g : Option (Nat × Bool)} {k k' : IntKind} {a s : Nat} (hx : ev e x = some (.int k (a : Int))) (hy : ev e y = some (.int k' (s : Int))) (hs : s ≤ k.bits) :
    Yld P n C e ⟨d, .binOp .shr t x y t', ty, pos, af, g⟩ (.int k ((a >>> s : Nat) : Int)) := by
  intro ac ha w _
  have h0 : ¬ ((s : Int) < 0) := by omega
  have h1 : min s k.bits = s := Nat.min_eq_left hs
  have h2 : (a : Int).fdiv (2 ^ s) = ((a >>> s : Nat) : Int) := by
    rw [Nat.shiftRight_eq_div_pow, Int.fdiv_eq_ediv_of_nonneg _ (by exact Int.le_of_lt (Int.pow_pos (by decide)))]
    simp
  simp [execOp, ha.ev hx, ha.ev hy, eqGuard, binOp, Op.shift, h0, h1]
  simpa using h2
theorem Yld.shl {d : Option Tmp} {t : Nat} {x y : Operand} {t' ty : TypeId} {pos : String} {af : Array Edge} {g : Option (Nat × Bool)} {k k' : IntKind} {a s : Nat} (hx : ev e x = some (.int k (a : Int))) (hy : ev e y = some (.int k' (s : Int))) (hs : s ≤ k.bits) :
    Yld P n C e ⟨d, .binOp .shl t x y t', ty, pos, af, g⟩ (.int k (k.wrap ((a <<< s : Nat) : Int))) := by
  intro ac ha w _
  have h0 : ¬ ((s : Int) < 0) := by omega
  have h1 : min s k.bits = s := Nat.min_eq_left hs
  have h2 : (a : Int) * 2 ^ s = ((a <<< s : Nat) : Int) := by
    rw [Nat.shiftLeft_eq]; simp
  simp [execOp, ha.ev hx, ha.ev hy, eqGuard, binOp, Op.shift, h0, h1]
  have := congrArg k.wrap h2
  simpa using this
end
end Go.X
set_option linter.unusedVariables false
set_option linter.unusedSimpArgs false
namespace Go.X
open Go Go.RowKit
section
variable {P : Program} {n : Nat} {e : Env} {w : World}
theorem loadVarN {t b o : Nat} {cs : List Value} (hT : Agg P t cs.length) (hc : ∀ j v, cs[j]? = some v → w.cell? ⟨b, o + j, none⟩ = some v) : (loadVar t ⟨b, o, none⟩).run P w = .ok (.agg cs.toArray) w := by
  have := run_loadCells_list (P := P) w ⟨b, o, none⟩ cs (fun j v hj => by rw [add_none]; exact hc j v hj)
  simp [loadVar, hT.agg w, hT.size w, this]
theorem resC {fn : Func} {a t : Nat} (h : fn.results = #[.cell a t]) {b : Nat} (ha : get e a = some (.pointer (some ⟨b, 0, none⟩))) {cs : List Value} (hT : Agg P t cs.length) {T : Nat} (hc : Blk w b T cs) : ∀ ac, Fits e n ac → (results fn ac.tmps).run P w = .ok (.agg cs.toArray) w := fun ac hac => by
  have h1 := hac.look a _ ha
  rw [Array.getD_eq_getD_getElem?] at h1
  have h2 := loadVarN (P := P) (w := w) (b := b) (o := 0) hT (fun j v hj => by rw [Nat.zero_add]; exact hc.cell' hj)
  simp [results, h, h1, asAddr, h2]
theorem resCT {fn : Func} {a t u : Nat} (h : fn.results = #[.cell a t, .tmp u]) {b : Nat} (ha : get e a = some (.pointer (some ⟨b, 0, none⟩))) {cs : List Value} (hT : Agg P t cs.length) {T : Nat} (hc : Blk w b T cs) {v : Value} (hv : get e u = some v) : ∀ ac, Fits e n ac → (results fn ac.tmps).run P w = .ok (.tuple #[.agg cs.toArray, v]) w := fun ac hac => by
  have h1 := hac.look a _ ha
  have h3 := hac.look u _ hv
  rw [Array.getD_eq_getD_getElem?] at h1 h3
  have h2 := loadVarN (P := P) (w := w) (b := b) (o := 0) hT (fun j v hj => by rw [Nat.zero_add]; exact hc.cell' hj)
  simp [results, h, h1, h3, asAddr, h2]
end
end Go.X
set_option linter.unusedVariables false
set_option linter.unusedSimpArgs false
namespace Go.X
open Go Go.RowKit
section
variable {P : Program} {n : Nat} {e : Env} {w : World} {C : World → Prop}
end
end Go.X
set_option linter.unusedVariables false
set_option linter.unusedSimpArgs false
namespace Go.X
open Go Go.RowKit
inductive OT where
  | nil
  | op (i : Nat) (loud : Bool) (t : OT)
  | fork (i : Nat) (p : OT) (j : Nat) (q : OT)
  | fork3 (i : Nat) (p : OT) (j : Nat) (q : OT) (m : Nat) (r : OT)
def wpOT (P : Program) (ops : Array Oper) (S : World → Prop) (tl : List Nat) (Q : Exit → Act → World → Prop) : OT → Act → World → Prop
  | .nil, a, w => Q .normal a w
  | .op i false t, a, w => ∃ o v, ops[i]? = some o ∧ (YieldsIf P ops (fun _ => True) o v a ∨ tailOk ops tl i = true ∧ YieldsIf P ops S o v a ∧ S w) ∧ wpOT P ops S tl Q t (a.put o.dst v) w
  | .op i true t, a, w => wpOp P ops Q i (fun a' w' => (tl.contains i = false → S w → S w') ∧ wpOT P ops S tl Q t a' w') a w
  | .fork i p j q, a, w => wpOp P ops Q i (fun a' w' => (tl.contains i = false → S w → S w') ∧ wpOT P ops S tl Q p a' w') a w ∧ wpOp P ops Q j (fun a' w' => (tl.contains j = false → S w → S w') ∧ wpOT P ops S tl Q q a' w') a w
  | .fork3 i p j q m r, a, w => wpOp P ops Q i (fun a' w' => (tl.contains i = false → S w → S w') ∧ wpOT P ops S tl Q p a' w') a w ∧ wpOp P ops Q j (fun a' w' => (tl.contains j = false → S w → S w') ∧ wpOT P ops S tl Q q a' w') a w ∧ wpOp P ops Q m (fun a' w' => (tl.contains m = false → S w → S w') ∧ wpOT P ops S tl Q r a' w') a w
def DT (P : Program) (n : Nat) (ops : List Oper) (S : World → Prop) (tl : List Nat) (rest : OT) (e : Env) (w : World) (K : Exit → Act → World → Prop) : Prop := ∀ a, Fits e n a → wpOT P ops.toArray S tl K rest a w
section
variable {P : Program} {f : FuncId} {n : Nat} {R : Ending → World → Prop} {k : List Item} {e : Env} {w : World} {ops : List Oper} {rest : OT} {K : Exit → Act → World → Prop} {S : World → Prop} {tl : List Nat}
theorem DT.fork {i j : Nat} {p q : OT} (h1 : DT P n ops S tl (.op i true p) e w K) (h2 : DT P n ops S tl (.op j true q) e w K) : DT P n ops S tl (.fork i p j q) e w K := fun a ha => ⟨h1 a ha, h2 a ha⟩
theorem DT.fork3 {i j m : Nat} {p q r : OT} (h1 : DT P n ops S tl (.op i true p) e w K) (h2 : DT P n ops S tl (.op j true q) e w K) (h3 : DT P n ops S tl (.op m true r) e w K) : DT P n ops S tl (.fork3 i p j q m r) e w K := fun a ha => ⟨h1 a ha, h2 a ha, h3 a ha⟩
theorem DT.op {i : Nat} {o : Oper} {d : Nat} {Q : Value → World → Prop} (hi : nth ops i = some o) (hw : Want ops.toArray e o true) (hd : o.dst = some d) (hb : Nat.blt d n = true) (hy : Does P n e w o Q) (h : ∀ v w', Q v w' → S w' ∧ DT P n ops S tl rest ((d, v) :: e) w' K) :
    DT P n ops S tl (.op i true rest) e w K := by
  intro a ha
  have hi' : ops.toArray[i]? = some o := by rw [← nth_eq, hi]
  unfold wpOT wpOp
  simp only [hi']
  rw [if_pos (hw.at_ ha)]
  refine .inl (hy a ha _ _ fun v w' hv => ⟨fun _ _ => (h v w' hv).1, ?_⟩)
  rw [hd]
  exact (h v w' hv).2 _ (ha.put hb v)
theorem DT.re {ops : List Oper} {rest : OT} {S : World → Prop} {tl : List Nat} {d : Nat} {v v' : Value} (hg : get e d = some v) (hb : Nat.blt d n = true) (hv : v = v') (h : DT P n ops S tl rest ((d, v') :: e) w K) : DT P n ops S tl rest e w K := fun a ha => h a (ha.again hg hv)
theorem DT.split {ops : List Oper} {rest : OT} {S : World → Prop} {tl : List Nat} {d : Nat} {t : Bool} (hg : get e d = some (.bool t)) (hb : Nat.blt d n = true) (h1 : t = true → DT P n ops S tl rest ((d, .bool true) :: e) w K) (h2 : t = false → DT P n ops S tl rest ((d, .bool false) :: e) w K) : DT P n ops S tl rest e w K := by
  cases t with
  | true => exact DT.re hg hb rfl (h1 rfl)
  | false => exact DT.re hg hb rfl (h2 rfl)
theorem DT.splitN {ops : List Oper} {rest : OT} {S : World → Prop} {tl : List Nat} {d : Nat} {p : Prop} [hp : Decidable p] (hg : get e d = some (.bool (!decide p))) (hb : Nat.blt d n = true) (h1 : ¬ p → DT P n ops S tl rest ((d, .bool true) :: e) w K) (h2 : p → DT P n ops S tl rest ((d, .bool false) :: e) w K) : DT P n ops S tl rest e w K :=
  DT.split hg hb (fun h => h1 (by simpa using h)) (fun h => h2 (by simpa using h))
end
end Go.X
set_option linter.unusedVariables false
set_option linter.unusedSimpArgs false
namespace Go.X
open Go Go.RowKit
section
variable {P : Program} {n : Nat} {e : Env} {w : World}
end
end Go.X
set_option linter.unusedVariables false
set_option linter.unusedSimpArgs false
namespace Go.X
open Go Go.RowKit
def bytesV (l : List UInt8) : List Value := l.map fun b => Value.int .u8 (b.toNat : Int)
theorem bytesV_len (l : List UInt8) : (bytesV l).length = l.length := by simp [bytesV]
section
variable {P : Program} {n : Nat} {e : Env} {w : World} {C : World → Prop}
theorem mkS_data (xs : List Int) : (mkS xs).data.toList = xs.map fun n => UInt8.ofNat n.toNat := by
  unfold mkS
  have key : ∀ (xs : List Int) (s : ByteArray), (xs.foldl (fun r n => r.push (UInt8.ofNat n.toNat)) s).data.toList = s.data.toList ++ xs.map fun n => UInt8.ofNat n.toNat := by
    intro xs
    induction xs with
    | nil => intro s; simp
    | cons x xs ih => intro s; rw [List.foldl_cons, ih]; simp [ByteArray.push]
  rw [key]
  rfl
theorem mkS_bytes (l : List UInt8) : mkS (l.map fun b => (b.toNat : Int)) = ⟨l.toArray⟩ := by
  apply ByteArray.ext
  apply Array.toList_inj.1
  rw [mkS_data, List.map_map]
  show _ = l
  conv => rhs; rw [← List.map_id l]
  apply List.map_congr_left
  intro x _
  simp
theorem Yld.bytesSl {d : Option Tmp} {src dst el : Nat} {x : Operand} {ty : TypeId} {pos : String} {af : Array Edge} {g : Option (Nat × Bool)} (hs : SlT P src el) (he : P.underlying el = some (.int .u8)) (hd : P.underlying dst = some .string) {v : Value} {l : List UInt8} (hx : ev e x = some v) (hv : ∀ w, C w → Sl No w v 1 l.length (bytesV l)) :
    Yld P n C e ⟨d, .convert src dst x, ty, pos, af, g⟩ (.string ⟨l.toArray⟩) := by
  intro ac ha w hw
  obtain ⟨ad, c, rfl, hf⟩ := (hv w hw).form
  have hm : bytesV l = (l.map fun b => (b.toNat : Int)).map (Value.int .u8) := by simp [bytesV]
  cases ad with
  | some a =>
    by_cases hn : 0 < l.length
    · obtain ⟨b, o, ha2, _, hc⟩ := hf hn
      cases ha2
      have h1 := run_loadCells_list (P := P) w ⟨b, o, none⟩ (bytesV l) (fun j v hj => by rw [add_none]; exact hc j v hj)
      have h2 := run_bytesToString (P := P) w ⟨b, o, none⟩ l.length c (l.map fun b => (b.toNat : Int)) (by rw [bytesV_len, hm] at h1; exact h1)
      simp only [execOp, ha.ev hx, Sem.run_bind, run_convert_bytes_string w src dst el _ _ c hs he hd, h2, Result.andThen_ok, Sem.run_pure]
      rw [show (l.map fun b => (b.toNat : Int)).foldl (fun r n => r.push (UInt8.ofNat n.toNat)) ByteArray.empty = mkS (l.map fun b => (b.toNat : Int)) from rfl, mkS_bytes]
    · have hl : l = [] := List.length_eq_zero_iff.1 (by omega)
      subst hl
      have h2 := run_bytesToString (P := P) w a 0 c [] (by simp [loadCells, loadCellsFrom])
      simp only [execOp, ha.ev hx, Sem.run_bind, List.length_nil, run_convert_bytes_string w src dst el _ _ c hs he hd, h2, Result.andThen_ok, Sem.run_pure]
      rfl
  | none =>
    have hl : l = [] := by
      by_cases hn : 0 < l.length
      · obtain ⟨b, o, ha2, _⟩ := hf hn
        cases ha2
      · exact List.length_eq_zero_iff.1 (by omega)
    subst hl
    have h2 := run_convert_bytes_nil (P := P) (w := w) src el hs he 0 c dst hd
    simp only [execOp, ha.ev hx, Sem.run_bind, List.length_nil, h2, Result.andThen_ok, Sem.run_pure]
    rfl
end
end Go.X
set_option linter.unusedVariables false
set_option linter.unusedSimpArgs false
set_option maxHeartbeats 1600000
set_option maxRecDepth 100000
namespace Go.Proofs.YtghcdngegadkaaaGreat
open Go Go.X
theorem and_lo {m : Nat} (h : m < 128) : IntKind.u8.wrap (BitVec.ofInt IntKind.u8.bits (m : Int) &&& BitVec.ofInt IntKind.u8.bits 127).toNat = (m : Int) := by
  have key : ∀ m, m < 128 → IntKind.u8.wrap (BitVec.ofInt IntKind.u8.bits ((m : Nat) : Int) &&& BitVec.ofInt IntKind.u8.bits 127).toNat = ((m : Nat) : Int) := by decide +kernel
  exact key m h
theorem shl_lo {m : Nat} (h : m < 128) : IntKind.u64.wrap ((m <<< 0 : Nat) : Int) = (m : Int) := by
  have key : ∀ m, m < 128 → IntKind.u64.wrap ((m <<< 0 : Nat) : Int) = ((m : Nat) : Int) := by decide +kernel
  exact key m h
theorem or_lo {m : Nat} (h : m < 128) : IntKind.u64.wrap (BitVec.ofInt IntKind.u64.bits 0 ||| BitVec.ofInt IntKind.u64.bits (m : Int)).toNat = (m : Int) := by
  have key : ∀ m, m < 128 → IntKind.u64.wrap (BitVec.ofInt IntKind.u64.bits 0 ||| BitVec.ofInt IntKind.u64.bits ((m : Nat) : Int)).toNat = ((m : Nat) : Int) := by decide +kernel
  exact key m h
theorem w64_lo {m : Nat} (h : m < 128) : IntKind.u64.wrap (m : Int) = (m : Int) := by
  have key : ∀ m, m < 128 → IntKind.u64.wrap ((m : Nat) : Int) = ((m : Nat) : Int) := by decide +kernel
  exact key m h
theorem vget1_ok (c : Nat) (h : c < 128) (cs : List Value) (M : Nat → Prop) (n : Nat) (v : Value) (w : World) (hv : Sl M w v 1 (n + 1) (.int .u8 (c : Int) :: cs)) :
    Fx Tryz.prog 163 [v] w (fun u w' => u = .tuple #[.int .u64 (c : Int), .int .i64 1, .bool true] ∧ w = w') := by
  obtain ⟨ad, ca, rfl⟩ := hv.shape
  refine enter Tryz.func163 rfl rfl rfl _ (Pick.sub (l := [0]) (.cons rfl .nil)) ?_
  refine RK.seq ?_
  refine RK.region ?_
  iterate 3 refine RL.p rfl rfl ?_
  refine RL.done ?_
  refine RK.seq ?_
  refine RK.region ?_
  refine RL.p rfl rfl ?_
  refine RL.done ?_
  iterate 2 refine RK.seq ?_
  refine RK.region ?_
  refine RL.p rfl rfl ?_
  refine RL.q (.free rfl) rfl rfl (Yld.lenSl u25 rfl) ?_
  refine RL.p rfl rfl ?_
  refine RL.done ?_
  refine RK.block ?_
  refine RK.loop (fun s : Unit => [(5, .int .u64 0), (8, .slice ad (n + 1) ca), (9, .int .i64 ((n + 1 : Nat) : Int)), (10, .int .i64 ((0 : Nat) : Int))]) (fun s w' => w = w') (fun s => 0) () ⟨rfl, rfl, rfl, rfl, trivial⟩ rfl (fun s w' hI ih => ?_)
  subst hI
  obtain ⟨b1, o1, c1, he1, _, _, hc1⟩ := hv.elem1 (k := 0) (u := .int .u8 (c : Int)) rfl
  cases he1
  refine RK.seq ?_
  refine RK.region ?_
  refine RL.p rfl rfl ?_
  refine RL.done ?_
  refine RK.seq ?_
  refine RK.condT (hcT rfl (decide_eq_true (by omega))) ?_
  refine RK.skip ?_
  refine RK.seq ?_
  refine RK.block ?_
  refine RK.seq ?_
  refine RK.region ?_
  refine RL.p rfl rfl ?_
  refine RL.q (.free rfl) rfl rfl (Yld.indexAddrN u25 i5 rfl rfl (by omega)) ?_
  refine RL.q (.free rfl) rfl rfl (Yld.load p5 rfl (at1 (hc1 0 (.int .u8 (c : Int)) rfl))) ?_
  iterate 2 refine RL.p rfl rfl ?_
  refine RL.done ?_
  iterate 2 refine RK.seq ?_
  refine RK.region ?_
  iterate 3 refine RL.p rfl rfl ?_
  refine RL.knownF (d := 17) rfl rfl (rfl) ?_
  iterate 2 refine RL.no (.no rfl rfl rfl rfl) rfl rfl ?_
  iterate 2 refine RL.p rfl rfl ?_
  iterate 3 refine RL.q (.yes rfl rfl rfl) rfl rfl (Yld.pure rfl) ?_
  refine RL.knownF (d := 24) rfl rfl (rfl) ?_
  iterate 2 refine RL.no (.no rfl rfl rfl rfl) rfl rfl ?_
  refine RL.q (.yes rfl rfl rfl) rfl rfl (Yld.pure rfl) ?_
  refine RL.p rfl rfl ?_
  refine RL.done ?_
  refine RK.condF rfl ?_
  refine RK.skip ?_
  refine RK.seq ?_
  refine RK.region ?_
  iterate 3 refine RL.p rfl rfl ?_
  refine RL.re (d := 31) rfl rfl (congrArg (Value.int .u8) (and_lo h)) ?_
  refine RL.q (.free rfl) rfl rfl (Yld.convI Tryz.underlying5 Tryz.underlying22 rfl) ?_
  refine RL.re (d := 32) rfl rfl (congrArg (Value.int .u64) (w64_lo h)) ?_
  iterate 2 refine RL.p rfl rfl ?_
  refine RL.q (.free rfl) rfl rfl (Yld.shl (a := c) (s := 0) rfl rfl (by decide)) ?_
  refine RL.re (d := 35) rfl rfl (congrArg (Value.int .u64) (shl_lo h)) ?_
  refine RL.p rfl rfl ?_
  refine RL.re (d := 36) rfl rfl (congrArg (Value.int .u64) (or_lo h)) ?_
  refine RL.p rfl rfl ?_
  refine RL.done ?_
  refine RK.seq ?_
  refine RK.region ?_
  iterate 2 refine RL.p rfl rfl ?_
  refine RL.done ?_
  refine RK.condT (hcT rfl (decide_eq_true (by omega))) ?_
  refine RK.seq ?_
  refine RK.region ?_
  iterate 6 refine RL.p rfl rfl ?_
  refine RL.done ?_
  refine RK.ret_of Tryz.func163 (res3 rfl rfl rfl rfl) ?_ _
  exact ⟨_, rfl, rfl, rfl⟩
theorem vtext1_ok (c : Nat) (h : c < 128) (t : List UInt8) (M : Nat → Prop) (ad : Option Addr) (ca : Nat) (w : World) (hv : Sl M w (.slice ad (t.length + 1) ca) 1 (t.length + 1) (.int .u8 (c : Int) :: bytesV t)) (most : Nat) (hm : c ≤ most) (hm' : most < 1000) (hl : c ≤ t.length) (hca : t.length + 1 ≤ ca) :
    Fx Tryz.prog 117 [.slice ad (t.length + 1) ca, .int .i64 (most : Int)] w (fun u w' => u = .tuple #[.string ⟨(t.take c).toArray⟩, .int .i64 ((1 + c : Nat) : Int), .bool true] ∧ w = w') := by
  have hbig := hv.big
  have hsl : Sl No w (.slice (fromAt ad ca 1 1) ((1 + c) - 1) (ca - 1)) 1 (t.take c).length (bytesV (t.take c)) := by
    have h1 := (hv.noM.from (j := 1) (by omega) hca)
    have h2 := h1.take (j := c) (by omega)
    have e1 : (t.take c).length = c := by simp; omega
    have e2 : bytesV (t.take c) = ((Value.int .u8 (c : Int) :: bytesV t).drop 1).take c := by simp [bytesV]
    rw [e1, e2, show (1 + c) - 1 = c by omega]
    exact h2
  refine enter Tryz.func117 rfl rfl rfl _ (Pick.sub (l := [0, 1]) (.cons rfl (.cons rfl .nil))) ?_
  refine RK.seq ?_
  refine RK.region ?_
  iterate 3 refine RL.p rfl rfl ?_
  refine RL.done ?_
  refine RK.seq ?_
  refine RK.region ?_
  refine RL.p rfl rfl ?_
  refine RL.op (.free rfl) rfl rfl (Does.call rfl e163 (vget1_ok c h _ M _ _ _ hv)) ?_
  rintro _ w1 ⟨rfl, rfl⟩
  iterate 7 refine RL.p rfl rfl ?_
  refine RL.done ?_
  iterate 2 refine RK.seq ?_
  refine RK.region ?_
  iterate 3 refine RL.p rfl rfl ?_
  refine RL.knownF (d := 19) rfl rfl (rfl) ?_
  iterate 2 refine RL.q (.yes rfl rfl rfl) rfl rfl (Yld.pure rfl) ?_
  iterate 2 refine RL.p rfl rfl ?_
  refine RL.knownF (d := 23) rfl rfl (decide_eq_false (by omega)) ?_
  iterate 2 refine RL.q (.yes rfl rfl rfl) rfl rfl (Yld.pure rfl) ?_
  refine RL.q (.yes rfl rfl rfl) rfl rfl (Yld.convI Tryz.underlying3 Tryz.underlying22 rfl) ?_
  refine RL.re (d := 26) rfl rfl (congrArg (Value.int .u64) (wrap_u64 (x := most) (by omega))) ?_
  refine RL.q (.yes rfl rfl rfl) rfl rfl (Yld.pure rfl) ?_
  iterate 2 refine RL.p rfl rfl ?_
  refine RL.knownF (d := 29) rfl rfl (decide_eq_false (by omega)) ?_
  iterate 2 refine RL.q (.yes rfl rfl rfl) rfl rfl (Yld.pure rfl) ?_
  refine RL.q (.yes rfl rfl rfl) rfl rfl (Yld.lenSl u25 rfl) ?_
  iterate 2 refine RL.q (.yes rfl rfl rfl) rfl rfl (Yld.pure rfl) ?_
  refine RL.re (d := 34) rfl rfl (sub_i64 (z := (t.length : Int)) (by simp) (by omega) (by omega)) ?_
  refine RL.q (.yes rfl rfl rfl) rfl rfl (Yld.convI Tryz.underlying3 Tryz.underlying22 rfl) ?_
  refine RL.re (d := 35) rfl rfl (congrArg (Value.int .u64) (wrap_u64 (x := t.length) (by omega))) ?_
  refine RL.q (.yes rfl rfl rfl) rfl rfl (Yld.pure rfl) ?_
  refine RL.p rfl rfl ?_
  refine RL.done ?_
  refine RK.condF (hcF rfl (decide_eq_false (by omega))) ?_
  refine RK.skip ?_
  refine RK.seq ?_
  refine RK.region ?_
  iterate 2 refine RL.p rfl rfl ?_
  refine RL.q (.free rfl) rfl rfl (Yld.convI Tryz.underlying22 Tryz.underlying3 rfl) ?_
  refine RL.re (d := 40) rfl rfl (congrArg (Value.int .i64) (wrap_i64 (x := (c : Int)) (by omega) (by omega))) ?_
  refine RL.p rfl rfl ?_
  refine RL.re (d := 41) rfl rfl (add_i64 (z := ((1 + c : Nat) : Int)) (by simp) (by omega) (by omega)) ?_
  refine RL.p rfl rfl ?_
  refine RL.done ?_
  refine RK.seq ?_
  refine RK.region ?_
  iterate 3 refine RL.p rfl rfl ?_
  refine RL.q (.free rfl) rfl rfl (Yld.sliceLH u25 i5 (lo := 1) (hi := 1 + c) rfl rfl rfl (by omega) (by omega)) ?_
  refine RL.q (.free rfl) rfl rfl (Yld.bytesSl u25 Tryz.underlying5 Tryz.underlying9 rfl (fun w9 h9 => h9 ▸ hsl)) ?_
  iterate 4 refine RL.p rfl rfl ?_
  refine RL.done ?_
  refine RK.ret_of Tryz.func117 (res3 rfl rfl rfl rfl) ?_ _
  exact ⟨_, rfl, rfl, rfl⟩
theorem vtext0_ok (c : Nat) (h : c < 128) (t : List UInt8) (M : Nat → Prop) (ad : Option Addr) (ca : Nat) (w : World) (hv : Sl M w (.slice ad (t.length + 1) ca) 1 (t.length + 1) (.int .u8 (c : Int) :: bytesV t)) (most : Nat) (hm' : most < 1000) (hl : t.length < c) :
    Fx Tryz.prog 117 [.slice ad (t.length + 1) ca, .int .i64 (most : Int)] w (fun u w' => u = .tuple #[.string ⟨#[]⟩, .int .i64 0, .bool false] ∧ w = w') := by
  have hbig := hv.big
  refine enter Tryz.func117 rfl rfl rfl _ (Pick.sub (l := [0, 1]) (.cons rfl (.cons rfl .nil))) ?_
  refine RK.seq ?_
  refine RK.region ?_
  iterate 3 refine RL.p rfl rfl ?_
  refine RL.done ?_
  refine RK.seq ?_
  refine RK.region ?_
  refine RL.p rfl rfl ?_
  refine RL.op (.free rfl) rfl rfl (Does.call rfl e163 (vget1_ok c h _ M _ _ _ hv)) ?_
  rintro _ w1 ⟨rfl, rfl⟩
  iterate 7 refine RL.p rfl rfl ?_
  refine RL.done ?_
  iterate 2 refine RK.seq ?_
  refine RK.region ?_
  iterate 3 refine RL.p rfl rfl ?_
  refine RL.knownF (d := 19) rfl rfl (rfl) ?_
  iterate 2 refine RL.q (.yes rfl rfl rfl) rfl rfl (Yld.pure rfl) ?_
  iterate 2 refine RL.p rfl rfl ?_
  refine RL.knownF (d := 23) rfl rfl (decide_eq_false (by omega)) ?_
  iterate 2 refine RL.q (.yes rfl rfl rfl) rfl rfl (Yld.pure rfl) ?_
  refine RL.q (.yes rfl rfl rfl) rfl rfl (Yld.convI Tryz.underlying3 Tryz.underlying22 rfl) ?_
  refine RL.re (d := 26) rfl rfl (congrArg (Value.int .u64) (wrap_u64 (x := most) (by omega))) ?_
  refine RL.q (.yes rfl rfl rfl) rfl rfl (Yld.pure rfl) ?_
  iterate 2 refine RL.p rfl rfl ?_
  first | refine RL.splitD (d := 29) rfl rfl (fun h29 => ?_) (fun h29 => ?_) | refine RL.splitN (d := 29) rfl rfl (fun h29 => ?_) (fun h29 => ?_) | refine RL.split (d := 29) rfl rfl (fun h29 => ?_) (fun h29 => ?_)
  · iterate 7 refine RL.no (.no rfl rfl rfl rfl) rfl rfl ?_
    refine RL.p rfl rfl ?_
    refine RL.done ?_
    refine RK.condT rfl ?_
    refine RK.seq ?_
    refine RK.region ?_
    iterate 3 refine RL.p rfl rfl ?_
    refine RL.done ?_
    refine RK.ret_of Tryz.func117 (res3 rfl rfl rfl rfl) ?_ _
    exact ⟨_, rfl, rfl, rfl⟩
  · iterate 2 refine RL.q (.yes rfl rfl rfl) rfl rfl (Yld.pure rfl) ?_
    refine RL.q (.yes rfl rfl rfl) rfl rfl (Yld.lenSl u25 rfl) ?_
    iterate 2 refine RL.q (.yes rfl rfl rfl) rfl rfl (Yld.pure rfl) ?_
    refine RL.re (d := 34) rfl rfl (sub_i64 (z := (t.length : Int)) (by simp) (by omega) (by omega)) ?_
    refine RL.q (.yes rfl rfl rfl) rfl rfl (Yld.convI Tryz.underlying3 Tryz.underlying22 rfl) ?_
    refine RL.re (d := 35) rfl rfl (congrArg (Value.int .u64) (wrap_u64 (x := t.length) (by omega))) ?_
    refine RL.q (.yes rfl rfl rfl) rfl rfl (Yld.pure rfl) ?_
    refine RL.p rfl rfl ?_
    refine RL.done ?_
    refine RK.condT (hcT rfl (decide_eq_true (by omega))) ?_
    refine RK.seq ?_
    refine RK.region ?_
    iterate 3 refine RL.p rfl rfl ?_
    refine RL.done ?_
    refine RK.ret_of Tryz.func117 (res3 rfl rfl rfl rfl) ?_ _
    exact ⟨_, rfl, rfl, rfl⟩
end Go.Proofs.YtghcdngegadkaaaGreat
