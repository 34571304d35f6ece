/- What the claim stands on, part 0. Of own lemmas only those that it reaches. -/
import Derived.Test.YtcndimkkojdflaaGreatDoorRows
import Derived.Test.YtcndimkkojdflaaGreatDoorCards
import Derived.Test.YtcndimkkojdflaaGreatDoorTie
import Derived.WalkKit
import Derived.ProofKit
import Derived.SevenTiedAt
import Derived.OpenShut
import Derived.LaidMore
import Derived.Lay
import Derived.Stop.Joined
import Derived.Test.YtcndimkkojdflaaGreatDoorProg
import Derived.Below
import Derived.OrdersHeld
import Derived.Deep.Draws
import Derived.KernelRfl
import Derived.Laws.AppendOwn
import Derived.Laws.MakeOwn
import Derived.Laws.OwnMore
import Derived.Shelf.Abstract
import Derived.Laws.CopyRow
import Derived.Laws.StructEq
import Derived.WalkLawsBesides
import Derived.Laws.BytesArg
import Derived.ChangeSame
import Derived.ChangeShapes
import Derived.Carry
import Derived.ChangeKeysEq
import Ieee.Arith
import Derived.Lib.AppendStr
import Derived.Lib.Overlaps
import Derived.Deep.AppendSrc
import Derived.Shelf.Small.Bits
import Derived.Shelf.Small.Strs
import Derived.Shelf.Small.Wraps
import Derived.Shelf.Strconv.Itoa0
import Derived.Shelf.Strings.Search1
import Derived.Shelf.Sort.Plain
import Derived.Shelf.Slices.Turned
import Derived.Ground.Names2Prog
import Derived.Shelf.Slices.Clone
import Derived.Shelf.Slices.CompactI
import Derived.Shelf.Slices.SearchI
import Derived.Shelf.Slices.In.SortNone
import Derived.Shelf.Slices.Empties
import Derived.Sort.OwnSortedInts
import Derived.Shelf.SlIterI.Nil
import Derived.Shelf.SlIterI.Sorted
import Derived.Ground.GgzProg
import Derived.Maps.Own
import Derived.Sort.OwnSorted
import Derived.Lib.ConvBytes
import Derived.Lib.UnsafeStr
set_option linter.unusedVariables false
set_option linter.unusedSimpArgs false
namespace Go.X
open Go Go.RowKit
abbrev Env := List (Nat × Value)
def get : Env → Nat → Option Value
  | [], _ => none
  | (j, v) :: e, i => bif Nat.beq j i then some v else get e i
def ev (e : Env) : Operand → Option Value
  | .tmp t => get e t
  | .const v => some v
  | .global g => some (.pointer (some ⟨g, 0, none⟩))
  | .func f => some (.func (.func f) #[] #[])
def evs (e : Env) : List Operand → Option (List Value)
  | [] => some []
  | x :: xs => match ev e x, evs e xs with
    | some v, some vs => some (v :: vs)
    | _, _ => none
structure Fits (e : Env) (n : Nat) (a : Act) : Prop where
  size : a.tmps.size = n
  defers : a.defers = []
  look : ∀ i v, get e i = some v → a.tmps.getD i undef = v
theorem get_cons (j : Nat) (v : Value) (e : Env) (i : Nat) : get ((j, v) :: e) i = if j = i then some v else get e i := by
  simp only [get]
  by_cases h : j = i
  · subst h; simp
  · have : Nat.beq j i = false := by
      cases hb : Nat.beq j i with
      | false => rfl
      | true => exact absurd (Nat.eq_of_beq_eq_true hb) h
    rw [this, if_neg h]; rfl
theorem Fits.ev {e : Env} {n : Nat} {a : Act} (h : Fits e n a) {x : Operand} {v : Value} (hx : ev e x = some v) : a.eval x = v := by
  cases x with
  | tmp t => exact h.look t v hx
  | const c => simpa [X.ev, Act.eval] using hx
  | global g => simpa [X.ev, Act.eval] using hx
  | func f => simpa [X.ev, Act.eval] using hx
theorem Fits.put {e : Env} {n : Nat} {a : Act} (h : Fits e n a) {d : Nat} (hd : Nat.blt d n = true) (v : Value) : Fits ((d, v) :: e) n (a.put (some d) v) := by
  have hd' : d < n := by simpa [Nat.blt_eq] using hd
  refine ⟨by simp [Act.put, h.size], by simp [Act.put, h.defers], fun i u hu => ?_⟩
  rw [get_cons] at hu
  by_cases hi : d = i
  · subst hi
    simp at hu; subst hu
    have : d < (a.tmps.setIfInBounds d v).size := by simp [h.size, hd']
    simp [Act.put, h.size, hd']
  · rw [if_neg hi] at hu
    have := h.look i u hu
    simp only [Act.put, Array.getD_eq_getD_getElem?, Array.getElem?_setIfInBounds_ne hi] at *
    exact this
theorem Fits.sub {e e' : Env} {n : Nat} {a : Act} (h : Fits e n a) (hs : ∀ i v, get e' i = some v → get e i = some v) : Fits e' n a :=
  ⟨h.size, h.defers, fun i v hv => h.look i v (hs i v hv)⟩
def Sub (e : Env) : Env → Prop
  | [] => True
  | (i, v) :: r => get e i = some v ∧ Sub e r
theorem Sub.get {e : Env} : ∀ {e' : Env}, Sub e e' → ∀ i v, get e' i = some v → get e i = some v
  | [], _, i, v, h => by simp [X.get] at h
  | (j, u) :: r, h, i, v, hv => by
    rw [get_cons] at hv
    by_cases hj : j = i
    · subst hj; simp at hv; subst hv; exact h.1
    · rw [if_neg hj] at hv; exact Sub.get h.2 i v hv
inductive Pick (e : Env) : List Nat → Env → Prop
  | nil : Pick e [] []
  | cons {i : Nat} {v : Value} {l : List Nat} {e' : Env} : get e i = some v → Pick e l e' → Pick e (i :: l) ((i, v) :: e')
theorem Pick.sub {e : Env} {l : List Nat} {e' : Env} (h : Pick e l e') : Sub e e' := by
  induction h with
  | nil => trivial
  | cons h _ ih => exact ⟨h, ih⟩
def Runs (P : Program) (f : FuncId) (R : Ending → World → Prop) (k : List Item) (a : Act) (w : World) : Prop :=
  ∀ (b : Frame) (cs : List Frame), b.fn = f → b.kind = .normal →
    ∃ e w' fr, R e w' ∧ Comes P (lone (b.at a k) cs w) (lone fr cs w') e ∧ fr.fn = f ∧ fr.leaving P w' e
theorem Runs.step {P : Program} {f : FuncId} {R : Ending → World → Prop} {k k' : List Item} {a a' : Act} {w w' : World}
    (hs : ∀ (b : Frame) (cs : List Frame), Steps P (lone (b.at a k) cs w) (lone (b.at a' k') cs w')) (h : Runs P f R k' a' w') : Runs P f R k a w := by
  intro b cs hb hk
  obtain ⟨e, w₂, fr, hR, hc, h1, h2⟩ := h b cs hb hk
  exact ⟨e, w₂, fr, hR, Comes.of_steps (hs b cs) hc, h1, h2⟩
def post (P : Program) (f : FuncId) (R : Ending → World → Prop) (k : List Item) : Exit → Act → World → Prop
  | .normal, a, w => Runs P f R k a w
  | _, _, _ => False
theorem Runs.of_wp {P : Program} {f : FuncId} {R : Ending → World → Prop} {c : Code} {k : List Item} {a : Act} {w : World}
    (h : c.wp P (post P f R k) a w) : Runs P f R (.code c :: k) a w := by
  intro b cs hb hk
  obtain ⟨e, a', w', hq, harr⟩ := h b k cs
  cases e <;> simp only [post] at hq
  case normal =>
    obtain ⟨e, w₂, fr, hR, hc, h1, h2⟩ := hq b cs hb hk
    exact ⟨e, w₂, fr, hR, Comes.of_steps harr hc, h1, h2⟩
def RK (P : Program) (f : FuncId) (n : Nat) (R : Ending → World → Prop) (k : List Item) (e : Env) (w : World) : Prop := ∀ a, Fits e n a → Runs P f R k a w
section
variable {P : Program} {f : FuncId} {n : Nat} {R : Ending → World → Prop} {k : List Item} {e : Env} {w : World}
theorem RK.sub {e' : Env} (hs : Sub e e') (h : RK P f n R k e' w) : RK P f n R k e w := fun a ha => h a (ha.sub hs.get)
theorem RK.skip (h : RK P f n R k e w) : RK P f n R (.code .skip :: k) e w := fun a ha => (h a ha).step fun _ _ => .one step_skip
theorem RK.seq {x y : Code} (h : RK P f n R (.code x :: .code y :: k) e w) : RK P f n R (.code (.seq x y) :: k) e w := fun a ha => (h a ha).step fun _ _ => .one step_seq
theorem RK.block {id : Nat} {c : Code} (h : RK P f n R (.code c :: .inBlock id :: k) e w) : RK P f n R (.code (.block id c) :: k) e w := fun a ha => (h a ha).step fun _ _ => .one step_block
theorem RK.inBlock {id : Nat} (h : RK P f n R k e w) : RK P f n R (.inBlock id :: k) e w := fun a ha => (h a ha).step fun _ _ => .one step_inBlock
theorem RK.exit {id : Nat} {k' : List Item} (hk : exitTo id k = some k') (h : RK P f n R k' e w) : RK P f n R (.code (.exit id) :: k) e w := fun a ha => (h a ha).step fun _ _ => .one (step_exit hk)
theorem RK.cond {c : Operand} {x y : Code} {t : Bool} (hc : ev e c = some (.bool t)) (ht : t = true → RK P f n R (.code x :: k) e w) (hf : t = false → RK P f n R (.code y :: k) e w) :
    RK P f n R (.code (.cond c x y) :: k) e w := fun a ha => by
  cases t with
  | true => exact (ht rfl a ha).step fun _ _ => .one (step_cond (ha.ev hc))
  | false => exact (hf rfl a ha).step fun _ _ => .one (step_cond (ha.ev hc))
theorem RK.condT {c : Operand} {x y : Code} (hc : ev e c = some (.bool true)) (h : RK P f n R (.code x :: k) e w) : RK P f n R (.code (.cond c x y) :: k) e w :=
  RK.cond hc (fun _ => h) (fun h => by cases h)
theorem RK.condF {c : Operand} {x y : Code} (hc : ev e c = some (.bool false)) (h : RK P f n R (.code y :: k) e w) : RK P f n R (.code (.cond c x y) :: k) e w :=
  RK.cond hc (fun h => by cases h) (fun _ => h)
theorem RK.loop {σ : Type} (E : σ → Env) (Inv : σ → World → Prop) (μ : σ → Nat) (s0 : σ) {c : Code} (hs : Sub e (E s0)) (h0 : Inv s0 w)
    (round : ∀ s w, Inv s w → (∀ s' w', Inv s' w' → μ s' < μ s → RK P f n R (.inLoop c :: k) (E s') w') → RK P f n R (.code c :: .inLoop c :: k) (E s) w) :
    RK P f n R (.code (.loop c) :: k) e w := by
  have key : ∀ m s w, μ s = m → Inv s w → RK P f n R (.code c :: .inLoop c :: k) (E s) w := by
    intro m
    induction m using Nat.strongRecOn with
    | _ m ih =>
      intro s w hm hI
      refine round s w hI fun s' w' hI' hlt => ?_
      intro a ha
      exact (ih (μ s') (hm ▸ hlt) s' w' rfl hI' a ha).step fun _ _ => .one step_inLoop
  intro a ha
  exact (key _ s0 w rfl h0 a (ha.sub hs.get)).step fun _ _ => .one step_loop
theorem RK.ret_of {fn : Func} (hf : P.funcs[f]? = some fn) {v : Value} (hr : ∀ a, Fits e n a → (results fn a.tmps).run P w = .ok v w) (h : R (.returned v) w) (k : List Item) :
    RK P f n R (.code .ret :: k) e w := by
  intro a ha b cs hb hk
  refine ⟨.returned v, w, { b.at a (.code .ret :: k) with mode := .returning }, h, .one step_ret, hb, rfl, ha.defers, hk, fn, ?_, hr a ha⟩
  show P.funcs[b.fn]? = _
  rw [hb]; exact hf
theorem RK.end_of {fn : Func} (hf : P.funcs[f]? = some fn) {v : Value} (hr : ∀ a, Fits e n a → (results fn a.tmps).run P w = .ok v w) (h : R (.returned v) w) :
    RK P f n R [] e w := by
  intro a ha b cs hb hk
  refine ⟨.returned v, w, { b.at a [] with mode := .returning }, h, .one step_end, hb, rfl, ha.defers, hk, fn, ?_, hr a ha⟩
  show P.funcs[b.fn]? = _
  rw [hb]; exact hf
theorem res1 {fn : Func} {t : Tmp} (h : fn.results = #[.tmp t]) {v : Value} (hv : get e t = some v) : ∀ a, Fits e n a → (results fn a.tmps).run P w = .ok v w := fun a ha => by
  have := ha.look t v hv
  rw [Array.getD_eq_getD_getElem?] at this
  simp [results, h, this]
theorem res2 {fn : Func} {t u : Tmp} (h : fn.results = #[.tmp t, .tmp u]) {v v' : Value} (hv : get e t = some v) (hv' : get e u = some v') : ∀ a, Fits e n a → (results fn a.tmps).run P w = .ok (.tuple #[v, v']) w := fun a ha => by
  have h1 := ha.look t v hv
  have h2 := ha.look u v' hv'
  rw [Array.getD_eq_getD_getElem?] at h1 h2
  simp [results, h, h1, h2]
theorem res3 {fn : Func} {t u s : Tmp} (h : fn.results = #[.tmp t, .tmp u, .tmp s]) {v v' v'' : Value} (hv : get e t = some v) (hv' : get e u = some v') (hv'' : get e s = some v'') :
    ∀ a, Fits e n a → (results fn a.tmps).run P w = .ok (.tuple #[v, v', v'']) w := fun a ha => by
  have h1 := ha.look t v hv
  have h2 := ha.look u v' hv'
  have h3 := ha.look s v'' hv''
  rw [Array.getD_eq_getD_getElem?] at h1 h2 h3
  simp [results, h, h1, h2, h3]
theorem res0 {fn : Func} (h : fn.results = #[]) : ∀ a, Fits e n a → (results fn a.tmps).run P w = .ok (.tuple #[]) w := fun a ha => by
  simp [results, h]
end
def envOf : Nat → List Value → Env
  | _, [] => []
  | i, v :: vs => (i, v) :: envOf (i + 1) vs
theorem get_envOf : ∀ (vs : List Value) (i j : Nat) (v : Value), get (envOf i vs) j = some v → ∃ m, j = i + m ∧ vs[m]? = some v
  | [], i, j, v, h => by simp [envOf, get] at h
  | u :: vs, i, j, v, h => by
    rw [envOf, get_cons] at h
    by_cases hj : i = j
    · subst hj; simp at h; subst h; exact ⟨0, by simp, by simp⟩
    · rw [if_neg hj] at h
      obtain ⟨m, hm, hv⟩ := get_envOf vs (i + 1) j v h
      exact ⟨m + 1, by omega, by simpa using hv⟩
theorem enter {P : Program} {f : FuncId} {n : Nat} {R : Ending → World → Prop} {w : World} {fn : Func} {c : Code} {vs : List Value} (hf : P.funcs[f]? = some fn) (hb : fn.body = some c) (hn : fn.ntmps = n)
    (hl : Nat.ble vs.length n = true) (e : Env) (he : Sub (envOf 0 vs) e) (h : RK P f n R [.code c] e w) : Calls P f vs.toArray w R := by
  intro cs
  let b : Frame := { (default : Frame) with fn := f, kind := .normal }
  let a : Act := { tmps := vs.toArray ++ Array.replicate (fn.ntmps - vs.toArray.size) undef, defers := [] }
  have henter : Frame.enter P f vs.toArray .normal = b.at a [.code c] := by
    simp [Frame.enter, Frame.at, hf, hb, b, a]
  have hle : vs.length ≤ n := by simpa using hl
  have ha : Fits e n a := by
    refine Fits.sub (e := envOf 0 vs) ⟨by simp [a, hn]; omega, rfl, fun i v hv => ?_⟩ he.get
    obtain ⟨m, hm, hv⟩ := get_envOf vs 0 i v hv
    have hm' : i = m := by omega
    subst hm'
    have hlt : i < vs.length := (List.getElem?_eq_some_iff.1 hv).1
    simp only [a, Array.getD_eq_getD_getElem?]
    rw [Array.getElem?_append_left (by simpa using hlt)]
    simp [hv]
  rw [henter]
  exact h a ha b cs rfl rfl
def RL (P : Program) (n : Nat) (ops : Array Oper) (rest : List Oper) (e : Env) (w : World) (K : Exit → Act → World → Prop) : Prop := ∀ a, Fits e n a → wpList P ops K rest a w
def Yld (P : Program) (n : Nat) (C : World → Prop) (e : Env) (o : Oper) (v : Value) : Prop := ∀ a, Fits e n a → ∀ w, C w → (execOp a.eval o).run P w = .ok (.value v) w
section
variable {P : Program} {f : FuncId} {n : Nat} {R : Ending → World → Prop} {k : List Item} {e : Env} {w : World} {ops : Array Oper} {rest : List Oper} {K : Exit → Act → World → Prop}
theorem RK.region {id : Nat} {l : List Oper} (h : RL P n l.toArray l e w (post P f R k)) : RK P f n R (.code (.region id l.toArray false) :: k) e w :=
  fun a ha => Runs.of_wp (wp_region_lit (h a ha))
theorem RL.done (h : RK P f n R k e w) : RL P n ops [] e w (post P f R k) := fun a ha => wpList_nil (h a ha)
theorem yielded_of {a : Act} (ha : Fits e n a) {j d : Nat} {v : Value} (hd : (ops[j]?).bind (·.dst) = some d) (hv : get e d = some v) :
    yielded ops a.tmps j = match v with | .bool b => some b | _ => none := by
  have h1 := ha.look d v hv
  unfold yielded
  rw [hd]
  simp only [Option.bind_some]
  rw [Array.getD_eq_getD_getElem?] at h1
  cases ht : a.tmps[d]? with
  | none => rw [ht] at h1; simp at h1; subst h1; rfl
  | some u => rw [ht] at h1; simp at h1; subst h1; cases u <;> rfl
theorem wanted_none {a : Act} {o : Oper} (h : o.guard = none) : Region.wanted o (yielded ops a.tmps) = true := by simp [Region.wanted, h]
theorem wanted_yes {a : Act} (ha : Fits e n a) {o : Oper} {j d : Nat} {want : Bool} (hg : o.guard = some (j, want)) (hd : (ops[j]?).bind (·.dst) = some d) (hv : get e d = some (.bool want)) :
    Region.wanted o (yielded ops a.tmps) = true := by
  simp [Region.wanted, hg, yielded_of ha hd hv]
def isNot (v : Value) (want : Bool) : Bool := match v with
  | .bool b => b != want
  | _ => true
theorem wanted_no {a : Act} (ha : Fits e n a) {o : Oper} {j d : Nat} {want : Bool} {v : Value} (hg : o.guard = some (j, want)) (hd : (ops[j]?).bind (·.dst) = some d) (hv : get e d = some v) (hn : isNot v want = true) :
    Region.wanted o (yielded ops a.tmps) = false := by
  simp only [Region.wanted, hg, yielded_of ha hd hv]
  cases v <;> simp_all [isNot]
inductive Want (ops : Array Oper) (e : Env) (o : Oper) : Bool → Prop
  | free : o.guard = none → Want ops e o true
  | yes {j d : Nat} {want : Bool} : o.guard = some (j, want) → (ops[j]?).bind (·.dst) = some d → get e d = some (.bool want) → Want ops e o true
  | no {j d : Nat} {want : Bool} {v : Value} : o.guard = some (j, want) → (ops[j]?).bind (·.dst) = some d → get e d = some v → isNot v want = true → Want ops e o false
theorem Want.at_ {a : Act} (ha : Fits e n a) {o : Oper} {b : Bool} (h : Want ops e o b) : Region.wanted o (yielded ops a.tmps) = b := by
  cases h with
  | free h => exact wanted_none h
  | yes h1 h2 h3 => exact wanted_yes ha h1 h2 h3
  | no h1 h2 h3 h4 => exact wanted_no ha h1 h2 h3 h4
theorem RL.q {o : Oper} {d : Nat} {v : Value} (hw : Want ops e o true) (hd : o.dst = some d) (hb : Nat.blt d n = true) (hy : Yld P n (· = w) e o v) (h : RL P n ops rest ((d, v) :: e) w K) : RL P n ops (o :: rest) e w K := by
  intro a ha
  unfold wpList
  rw [if_pos (hw.at_ ha)]
  refine .inl ?_
  unfold Oper.wp
  rw [hy a ha w rfl]
  simp only [Oper.upon, hd]
  exact h _ (ha.put hb v)
theorem RL.no {o : Oper} {d : Nat} (hw : Want ops e o false) (hd : o.dst = some d) (hb : Nat.blt d n = true) (h : RL P n ops rest ((d, undef) :: e) w K) : RL P n ops (o :: rest) e w K := by
  intro a ha
  unfold wpList
  rw [if_neg (by rw [hw.at_ ha]; decide), hd]
  exact h _ (ha.put hb undef)
def Does (P : Program) (n : Nat) (e : Env) (w : World) (o : Oper) (Q : Value → World → Prop) : Prop :=
  ∀ a, Fits e n a → ∀ (K : Act → World → Prop) (K' : Exit → Act → World → Prop), (∀ v w', Q v w' → K (a.put o.dst v) w') → o.wp P a w K K'
theorem Does.mono {o : Oper} {Q Q' : Value → World → Prop} (h : Does P n e w o Q) (hq : ∀ v w', Q v w' → Q' v w') : Does P n e w o Q' :=
  fun a ha K K' hk => h a ha K K' fun v w' hv => hk v w' (hq v w' hv)
theorem Does.of_run {o : Oper} {v : Value} {w' : World} {Q : Value → World → Prop} (hr : ∀ a, Fits e n a → (execOp a.eval o).run P w = .ok (.value v) w') (hq : Q v w') : Does P n e w o Q := by
  intro a ha K K' hk
  unfold Oper.wp
  rw [hr a ha]
  exact hk v w' hq
theorem Does.of_skip {o : Oper} {w' : World} {Q : Value → World → Prop} (hr : ∀ a, Fits e n a → (execOp a.eval o).run P w = .ok .skip w') (hq : Q undef w') : Does P n e w o Q := by
  intro a ha K K' hk
  unfold Oper.wp
  rw [hr a ha]
  exact hk undef w' hq
def Fx (P : Program) (f : FuncId) (args : List Value) (w : World) (Q : Value → World → Prop) : Prop := Calls P f args.toArray w fun e w' => ∃ v, e = .returned v ∧ Q v w'
theorem Fx.mono {g : FuncId} {args : List Value} {Q Q' : Value → World → Prop} (h : Fx P g args w Q) (hq : ∀ v w', Q v w' → Q' v w') : Fx P g args w Q' :=
  Calls.mono h fun e w' ⟨v, he, hv⟩ => ⟨v, he, hq v w' hv⟩
theorem Does.of_enter {o : Oper} {g : FuncId} {args : List Value} {Q : Value → World → Prop} (hr : ∀ a, Fits e n a → (execOp a.eval o).run P w = .ok (.enter g args.toArray) w) (hc : Fx P g args w Q) : Does P n e w o Q := by
  intro a ha K K' hk
  unfold Oper.wp
  rw [hr a ha]
  simp only [Oper.upon]
  refine Calls.mono hc ?_
  rintro e w' ⟨v, rfl, hv⟩
  exact hk v w' hv
theorem RL.op {o : Oper} {d : Nat} {Q : Value → World → Prop} (hw : Want ops e o true) (hd : o.dst = some d) (hb : Nat.blt d n = true) (hy : Does P n e w o Q) (h : ∀ v w', Q v w' → RL P n ops rest ((d, v) :: e) w' K) : RL P n ops (o :: rest) e w K := by
  intro a ha
  unfold wpList
  rw [if_pos (hw.at_ ha)]
  refine .inl (hy a ha _ _ fun v w' hv => ?_)
  rw [hd]
  exact h v w' hv _ (ha.put hb v)
theorem RL.op' {o : Oper} {Q : Value → World → Prop} (hw : Want ops e o true) (hd : o.dst = none) (hy : Does P n e w o Q) (h : ∀ v w', Q v w' → RL P n ops rest e w' K) : RL P n ops (o :: rest) e w K := by
  intro a ha
  unfold wpList
  rw [if_pos (hw.at_ ha)]
  refine .inl (hy a ha _ _ fun v w' hv => ?_)
  rw [hd]
  exact h v w' hv _ ha
end
def wpT (P : Program) (ops : Array Oper) (Q : Exit → Act → World → Prop) (S : World → Prop) (T : Nat → Bool) : Nat → Array Bool → Act → World → Prop
  | 0, L, a, w => Region.ready .any ops L = [] ∧ Q .normal a w
  | f + 1, L, a, w => (Region.ready .any ops L = [] → Q .normal a w) ∧ ∀ i ∈ Region.ready .any ops L, wpOp P ops Q i (fun a' w' => (T i = false → S w → S w') ∧ wpT P ops Q S T f (L.setIfInBounds i true) a' w') a w
theorem wpT_any {P : Program} {ops : Array Oper} {Q : Exit → Act → World → Prop} {S : World → Prop} {T : Nat → Bool} : ∀ (f : Nat) (L : Array Bool) (a : Act) (w : World), wpT P ops Q S T f L a w → wpAny P .any ops Q f L a w
  | 0, _, _, _, h => h
  | f + 1, _, _, _, h => ⟨h.1, fun i hi => wpOp_mono (fun a' w' h' => wpT_any f _ a' w' h'.2) (h.2 i hi)⟩
theorem wpT_take {P : Program} {ops : Array Oper} {Q : Exit → Act → World → Prop} {S C : World → Prop} {T : Nat → Bool} (hs : Region.noSelect ops = true) (hQ : ∀ c a w, ¬ Q (.panic c) a w) {i : Nat} {o : Oper} {v : Value} (hi : ops[i]? = some o)
    (hSC : ∀ w, S w → C w) (hT : (∀ w, C w) ∨ ∀ (j : Nat) (oj : Oper), ops[j]? = some oj → T j = true → oj.after.toList.any (fun e => Region.binds .any e && Nat.beq e.on i) = true) :
    ∀ (f : Nat) (L : Array Bool) (a : Act) (w : World),
      (∀ (j : Nat) (oj : Oper), ops[j]? = some oj → j ≠ i → L.getD j true = false → (∀ e ∈ oj.after, Region.binds .any e = true → e.on ≠ i) → o.apart ops oj = true) →
      i ∈ Region.ready .any ops L → YieldsIf P ops C o v a → C w → ((∀ w, C w) ∨ S w) → wpT P ops Q S T f (L.setIfInBounds i true) (a.put o.dst v) w → wpT P ops Q S T (f + 1) L a w := by
  intro f
  induction f with
  | zero =>
    intro L a w _ hr hy hC hS H
    refine ⟨fun h => (by rw [h] at hr; cases hr), fun j hj => ?_⟩
    by_cases hji : j = i
    · subst hji; exact hy.wpOp hi hC ⟨fun _ h => h, H⟩
    · have := ready_mono hj hji
      rw [H.1] at this
      cases this
  | succ f ih =>
    intro L a w hfree hr hy hC hS H
    refine ⟨fun h => (by rw [h] at hr; cases hr), fun j hj => ?_⟩
    by_cases hji : j = i
    · subst hji; exact hy.wpOp hi hC ⟨fun _ h => h, H⟩
    · obtain ⟨hjun, oj, hoj, hall⟩ := mem_ready.1 hj
      have hun : L.getD i false = false := by
        have h0 := (mem_ready.1 hr).1
        rcases Nat.lt_or_ge i L.size with h' | h'
        · simp [h'] at h0 ⊢; exact h0
        · simp [Array.getElem?_eq_none h'] at h0
      have hno : ∀ e ∈ oj.after, Region.binds .any e = true → e.on ≠ i := fun e he hb heq => by
        have h1 := hall e he hb
        rw [heq, hun] at h1
        cases h1
      have hCj : T j = true → ∀ w, C w := fun ht => by
        rcases hT with h0 | h0
        · exact h0
        · have h1 := h0 j oj hoj ht
          rw [List.any_eq_true] at h1
          obtain ⟨e, he, h2⟩ := h1
          rw [Bool.and_eq_true] at h2
          exact absurd (Nat.eq_of_beq_eq_true h2.2) (hno e (by simpa using he) h2.1)
      have hC' : ∀ w', (T j = false → S w → S w') → (∀ w, C w) ∨ S w' := fun w' h => by
        rcases hS with h0 | hS
        · exact .inl h0
        · cases ht : T j with
          | false => exact .inr (h ht hS)
          | true => exact .inl (hCj ht)
      have hf := hfree j oj hoj hji hjun hno
      have h2 := wpOp_putIf hoj hf (fun cs b => Region.noSelect_spec hs i o cs b hi) (fun cs b => Region.noSelect_spec hs j oj cs b hoj) (fun c a w hq => absurd hq (hQ _ _ _)) hy (H.2 j (ready_mono hj hji))
      refine wpOp_mono (fun a' w' h3 => ⟨h3.2.1, ih (L.setIfInBounds j true) a' w' (fun k ok hk hki hunk hnok => hfree k ok hk hki ?_ hnok) (ready_mono hr (Ne.symm hji)) h3.1 ((hC' _ h3.2.1).elim (fun h => h _) (hSC _)) (hC' _ h3.2.1) ?_⟩) h2
      · by_cases hjk : j = k
        · subst hjk; exact hjun
        · rw [getD_set_ne true hjk] at hunk; exact hunk
      · rw [Array.setIfInBounds_comm _ _ hji]
        exact h3.2.2
def nth : List Oper → Nat → Option Oper
  | [], _ => none
  | o :: _, 0 => some o
  | _ :: l, i + 1 => nth l i
theorem nth_eq : ∀ (l : List Oper) (i : Nat), nth l i = l.toArray[i]?
  | [], i => by simp [nth]
  | o :: l, 0 => by simp [nth]
  | o :: l, i + 1 => by have := nth_eq l i; simp at this; simp [nth, this]
def tailOk (ops : Array Oper) (tl : List Nat) (i : Nat) : Bool := tl.all fun j => match nth ops.toList j with | some oj => oj.after.toList.any (fun e => Region.binds .any e && Nat.beq e.on i) | none => true
def okOrd (ops : Array Oper) (tl : List Nat) : Array Bool → List (Nat × Bool) → Bool
  | L, [] => (Region.ready .any ops L).isEmpty
  | L, (i, loud) :: r => (if loud then Region.ready .any ops L == [i] else (Region.ready .any ops L).contains i && Region.free .any ops L i) && okOrd ops tl (L.setIfInBounds i true) r
def wpOrd (P : Program) (ops : Array Oper) (S : World → Prop) (tl : List Nat) (Q : Exit → Act → World → Prop) : List (Nat × Bool) → Act → World → Prop
  | [], a, w => Q .normal a w
  | (i, false) :: r, a, w => ∃ o v, ops[i]? = some o ∧ (YieldsIf P ops (fun _ => True) o v a ∨ tailOk ops tl i = true ∧ YieldsIf P ops S o v a ∧ S w) ∧ wpOrd P ops S tl Q r (a.put o.dst v) w
  | (i, true) :: r, a, w => wpOp P ops Q i (fun a' w' => (tl.contains i = false → S w → S w') ∧ wpOrd P ops S tl Q r a' w') a w
theorem wpT_of_ord {P : Program} {ops : Array Oper} {S : World → Prop} {tl : List Nat} {Q : Exit → Act → World → Prop} (hs : Region.noSelect ops = true) (hQ : ∀ c a w, ¬ Q (.panic c) a w) :
    ∀ (l : List (Nat × Bool)) (L : Array Bool) (a : Act) (w : World), okOrd ops tl L l = true → wpOrd P ops S tl Q l a w → wpT P ops Q S tl.contains l.length L a w
  | [], L, a, w, h, hw => ⟨by simpa [okOrd, List.isEmpty_iff] using h, hw⟩
  | (i, false) :: r, L, a, w, h, hw => by
    simp only [okOrd, Bool.and_eq_true, Bool.false_eq_true, if_false] at h
    obtain ⟨o, v, ho, hy, hr⟩ := hw
    have hrec := wpT_of_ord hs hQ r _ _ _ h.2 hr
    have hfree := Region.free_spec ho h.1.2
    rcases hy with hy | ⟨ht, hy, hSw⟩
    · exact wpT_take hs hQ ho (C := fun _ => True) (fun _ _ => trivial) (.inl fun _ => trivial) _ _ _ _ hfree (by simpa using h.1.1) hy trivial (.inl fun _ => trivial) hrec
    · refine wpT_take hs hQ ho (C := S) (fun _ h => h) (.inr fun j oj hj htj => ?_) _ _ _ _ hfree (by simpa using h.1.1) hy hSw (.inr hSw) hrec
      have h1 := List.all_eq_true.1 ht j (by simpa using htj)
      have h2 : nth ops.toList j = some oj := by rw [nth_eq]; simpa using hj
      simp only [h2] at h1
      exact h1
  | (i, true) :: r, L, a, w, h, hw => by
    simp only [okOrd, Bool.and_eq_true, if_true, beq_iff_eq] at h
    refine ⟨fun h0 => (by rw [h.1] at h0; cases h0), fun j hj => ?_⟩
    rw [h.1] at hj
    simp only [List.mem_singleton] at hj
    subst hj
    exact wpOp_mono (fun a' w' h' => ⟨h'.1, wpT_of_ord hs hQ r _ _ _ h.2 h'.2⟩) hw
def DL (P : Program) (n : Nat) (ops : List Oper) (S : World → Prop) (tl : List Nat) (rest : List (Nat × Bool)) (e : Env) (w : World) (K : Exit → Act → World → Prop) : Prop := ∀ a, Fits e n a → wpOrd P ops.toArray S tl K rest a w
section
variable {P : Program} {f : FuncId} {n : Nat} {R : Ending → World → Prop} {k : List Item} {e : Env} {w : World} {ops : List Oper} {rest : List (Nat × Bool)} {K : Exit → Act → World → Prop} {S : World → Prop} {tl : List Nat}
theorem RK.draw {id : Nat} {l : List Oper} (ord : List (Nat × Bool)) (tl : List Nat) (S : World → Prop) (hm : P.follows .mixedOrders = true) (hb : (Region.noSelect l.toArray && okOrd l.toArray tl (Array.replicate l.length false) ord && Nat.beq l.length ord.length) = true)
    (h : DL P n l S tl ord e { w with drawn := w.drawn + 1 } (post P f R k)) : RK P f n R (.code (.region id l.toArray true) :: k) e w := by
  intro a ha
  simp only [Bool.and_eq_true] at hb
  have hl : l.length = ord.length := Nat.eq_of_beq_eq_true hb.2
  refine Runs.of_wp (wp_region_any hm (wpT_any (S := S) (T := tl.contains) _ _ _ _ ?_))
  have := wpT_of_ord (P := P) (S := S) (Q := post P f R k) hb.1.1 (fun c a w h => h) ord _ a _ hb.1.2 (h a ha)
  simpa [hl] using this
theorem DL.done (h : RK P f n R k e w) : DL P n ops S tl [] e w (post P f R k) := fun a ha => h a ha
theorem DL.q {i : Nat} {o : Oper} {d : Nat} {v : Value} (hi : nth ops i = some o) (hw : Want ops.toArray e o true) (hd : o.dst = some d) (hb : Nat.blt d n = true) (ht : tailOk ops.toArray tl i = true) (hy : Yld P n S e o v) (hS : S w) (h : DL P n ops S tl rest ((d, v) :: e) w K) :
    DL P n ops S tl ((i, false) :: rest) e w K := by
  intro a ha
  refine ⟨o, v, by rw [← nth_eq, hi], .inr ⟨ht, .inl ⟨hw.at_ ha, fun w' hS => hy a ha w' hS⟩, hS⟩, ?_⟩
  rw [hd]
  exact h _ (ha.put hb v)
theorem DL.qf {i : Nat} {o : Oper} {d : Nat} {v : Value} (hi : nth ops i = some o) (hw : Want ops.toArray e o true) (hd : o.dst = some d) (hb : Nat.blt d n = true) (hy : Yld P n (fun _ => True) e o v) (h : DL P n ops S tl rest ((d, v) :: e) w K) :
    DL P n ops S tl ((i, false) :: rest) e w K := by
  intro a ha
  refine ⟨o, v, by rw [← nth_eq, hi], .inl (.inl ⟨hw.at_ ha, fun w' hS => hy a ha w' hS⟩), ?_⟩
  rw [hd]
  exact h _ (ha.put hb v)
theorem DL.no {i : Nat} {o : Oper} {d : Nat} (hi : nth ops i = some o) (hw : Want ops.toArray e o false) (hd : o.dst = some d) (hb : Nat.blt d n = true) (h : DL P n ops S tl rest ((d, undef) :: e) w K) :
    DL P n ops S tl ((i, false) :: rest) e w K := by
  intro a ha
  refine ⟨o, undef, by rw [← nth_eq, hi], .inl (.inr ⟨hw.at_ ha, rfl⟩), ?_⟩
  rw [hd]
  exact h _ (ha.put hb undef)
theorem DL.lq {i : Nat} {o : Oper} {d : Nat} {v : Value} (hi : nth ops i = some o) (hw : Want ops.toArray e o true) (hd : o.dst = some d) (hb : Nat.blt d n = true) (hy : Yld P n (· = w) e o v) (h : DL P n ops S tl rest ((d, v) :: e) w K) :
    DL P n ops S tl ((i, true) :: rest) e w K := by
  intro a ha
  have hi' : ops.toArray[i]? = some o := by rw [← nth_eq, hi]
  unfold wpOrd wpOp
  simp only [hi']
  rw [if_pos (hw.at_ ha)]
  refine .inl ?_
  unfold Oper.wp
  rw [hy a ha w rfl]
  simp only [Oper.upon, hd]
  exact ⟨fun _ h => h, h _ (ha.put hb v)⟩
theorem DL.lno {i : Nat} {o : Oper} {d : Nat} (hi : nth ops i = some o) (hw : Want ops.toArray e o false) (hd : o.dst = some d) (hb : Nat.blt d n = true) (h : DL P n ops S tl rest ((d, undef) :: e) w K) :
    DL P n ops S tl ((i, true) :: rest) e w K := by
  intro a ha
  have hi' : ops.toArray[i]? = some o := by rw [← nth_eq, hi]
  unfold wpOrd wpOp
  simp only [hi']
  rw [if_neg (by rw [hw.at_ ha]; decide), hd]
  exact ⟨fun _ h => h, h _ (ha.put hb undef)⟩
theorem DL.op {i : Nat} {o : Oper} {d : Nat} {Q : Value → World → Prop} (hi : nth ops i = some o) (hw : Want ops.toArray e o true) (hd : o.dst = some d) (hb : Nat.blt d n = true) (hy : Does P n e w o Q) (h : ∀ v w', Q v w' → S w' ∧ DL P n ops S tl rest ((d, v) :: e) w' K) :
    DL P n ops S tl ((i, true) :: rest) e w K := by
  intro a ha
  have hi' : ops.toArray[i]? = some o := by rw [← nth_eq, hi]
  unfold wpOrd wpOp
  simp only [hi']
  rw [if_pos (hw.at_ ha)]
  refine .inl (hy a ha _ _ fun v w' hv => ⟨fun _ _ => (h v w' hv).1, ?_⟩)
  rw [hd]
  exact (h v w' hv).2 _ (ha.put hb v)
theorem DL.op' {i : Nat} {o : Oper} {Q : Value → World → Prop} (hi : nth ops i = some o) (hw : Want ops.toArray e o true) (hd : o.dst = none) (hy : Does P n e w o Q) (h : ∀ v w', Q v w' → S w' ∧ DL P n ops S tl rest e w' K) :
    DL P n ops S tl ((i, true) :: rest) e w K := by
  intro a ha
  have hi' : ops.toArray[i]? = some o := by rw [← nth_eq, hi]
  unfold wpOrd wpOp
  simp only [hi']
  rw [if_pos (hw.at_ ha)]
  refine .inl (hy a ha _ _ fun v w' hv => ⟨fun _ _ => (h v w' hv).1, ?_⟩)
  rw [hd]
  exact (h v w' hv).2 _ ha
theorem DL.opT {i : Nat} {o : Oper} {Q : Value → World → Prop} (hi : nth ops i = some o) (hw : Want ops.toArray e o true) (hd : o.dst = none) (hT : tl.contains i = true) (hy : Does P n e w o Q) (h : ∀ v w', Q v w' → DL P n ops S tl rest e w' K) :
    DL P n ops S tl ((i, true) :: rest) e w K := by
  intro a ha
  have hi' : ops.toArray[i]? = some o := by rw [← nth_eq, hi]
  unfold wpOrd wpOp
  simp only [hi']
  rw [if_pos (hw.at_ ha)]
  refine .inl (hy a ha _ _ fun v w' hv => ⟨fun h0 => (by rw [hT] at h0; cases h0), ?_⟩)
  rw [hd]
  exact (h v w' hv) _ ha
end
end Go.X
set_option linter.unusedVariables false
set_option linter.unusedSimpArgs false
namespace Go.X
open Go Go.RowKit
def binI (op : BinOp) (k : IntKind) (a b : Int) : Option Value :=
  match op with
  | .add => some (.int k (k.wrap (a + b)))
  | .sub => some (.int k (k.wrap (a - b)))
  | .mul => some (.int k (k.wrap (a * b)))
  | .eql => some (.bool (decide (a = b)))
  | .neq => some (.bool (decide (a ≠ b)))
  | .lss => some (.bool (decide (a < b)))
  | .leq => some (.bool (decide (a ≤ b)))
  | .gtr => some (.bool (decide (b < a)))
  | .geq => some (.bool (decide (b ≤ a)))
  | .and => some (.int k (k.wrap (BitVec.ofInt k.bits a &&& BitVec.ofInt k.bits b).toNat))
  | .or => some (.int k (k.wrap (BitVec.ofInt k.bits a ||| BitVec.ofInt k.bits b).toNat))
  | .xor => some (.int k (k.wrap (BitVec.ofInt k.bits a ^^^ BitVec.ofInt k.bits b).toNat))
  | .andNot => some (.int k (k.wrap (BitVec.ofInt k.bits a &&& ~~~ BitVec.ofInt k.bits b).toNat))
  | _ => none
def slt (a b : ByteArray) : Bool := Op.bytesLess a.data.toList b.data.toList
def sle (a b : ByteArray) : Bool := slt a b || decide (a = b)
theorem beqS (a b : ByteArray) : (a.toList == b.toList) = decide (a = b) := by
  rw [Bool.eq_iff_iff]
  simp only [ByteArray.toList_eq, beq_iff_eq, decide_eq_true_eq]
  constructor
  · intro h
    cases a; cases b
    simp only [ByteArray.mk.injEq]
    exact Array.ext' h
  · rintro rfl; rfl
def binS (op : BinOp) (a b : ByteArray) : Option Value :=
  match op with
  | .eql => some (.bool (decide (a = b)))
  | .neq => some (.bool (!decide (a = b)))
  | .lss => some (.bool (slt a b))
  | .leq => some (.bool (sle a b))
  | .gtr => some (.bool (!sle a b))
  | .geq => some (.bool (!slt a b))
  | _ => none
def binF (op : BinOp) (k : FloatKind) (a b : Nat) : Option Value :=
  match op with
  | .eql => some (.bool (k.format.order a b == some .eq))
  | .neq => some (.bool (k.format.order a b != some .eq))
  | .lss => some (.bool (k.format.order a b == some .lt))
  | .leq => some (.bool (k.format.order a b == some .lt || k.format.order a b == some .eq))
  | .gtr => some (.bool (k.format.order a b == some .gt))
  | .geq => some (.bool (k.format.order a b == some .gt || k.format.order a b == some .eq))
  | _ => none
def nthV : List Value → Nat → Option Value
  | [], _ => none
  | v :: _, 0 => some v
  | _ :: l, i + 1 => nthV l i
theorem nthV_eq : ∀ (l : List Value) (i : Nat), nthV l i = l[i]?
  | [], i => by simp [nthV]
  | v :: l, 0 => by simp [nthV]
  | v :: l, i + 1 => by simp [nthV, nthV_eq l i]
def unI (op : UnOp) (v : Value) : Option Value :=
  match op, v with
  | .not, .bool b => some (.bool (!b))
  | .neg, .int k n => some (.int k (k.wrap (0 - n)))
  | _, _ => none
def pureOp (e : Env) : Op → Option Value
  | .move x => ev e x
  | .assign x => ev e x
  | .pick c a b => match ev e c with
    | some (.bool true) => ev e a
    | some (.bool false) => ev e b
    | _ => none
  | .binOp op _ x y _ => match ev e x, ev e y with
    | some (.int .i64 a), some (.int .i64 b) => binI op .i64 a b
    | some (.int .u64 a), some (.int .u64 b) => binI op .u64 a b
    | some (.int .u8 a), some (.int .u8 b) => binI op .u8 a b
    | some (.int .i32 a), some (.int .i32 b) => binI op .i32 a b
    | some (.int .u32 a), some (.int .u32 b) => binI op .u32 a b
    | some (.string a), some (.string b) => binS op a b
    | some (.float .f64 a), some (.float .f64 b) => binF op .f64 a b
    | _, _ => none
  | .unOp op _ x => match ev e x with
    | some v => unI op v
    | none => none
  | .extract x i => match ev e x with
    | some (.tuple vs) => nthV vs.toList i
    | _ => none
  | .nilCheck x => match ev e x with
    | some (.pointer (some a)) => some (.pointer (some a))
    | some (.func (.func f) p c) => some (.func (.func f) p c)
    | _ => none
  | .makeFunc fn first cap => match evs e first.toList, evs e cap.toList with
    | some f, some c => some (.func fn f.toArray c.toArray)
    | _, _ => none
  | _ => none
section
variable {P : Program} {n : Nat} {e : Env} {C : World → Prop}
theorem Fits.evs {a : Act} (ha : Fits e n a) : ∀ {xs : List Operand} {vs : List Value}, X.evs e xs = some vs → xs.map a.eval = vs
  | [], vs, h => by simp [X.evs] at h; simp [h]
  | x :: xs, vs, h => by
    simp only [X.evs] at h
    split at h
    · rename_i v us hv hu
      simp only [Option.some.injEq] at h; subst h
      simp [ha.ev hv, Fits.evs ha hu]
    · cases h
theorem beq_eq (a b : Int) : (a == b) = decide (a = b) := rfl
theorem bne_eq (a b : Int) : (a != b) = !decide (a = b) := rfl
theorem binI_run {op : BinOp} {t : TypeId} {x y : Operand} {k : IntKind} {p q : Int} {v : Value} (h : binI op k p q = some v) (w : World) :
    (do eqGuard op t x y (.int k p) (.int k q); binOp op t (.int k p) (.int k q) : Sem Value).run P w = .ok v w := by
  cases op <;> simp only [binI, Option.some.injEq, reduceCtorEq] at h <;> subst h <;> simp [eqGuard, binOp, Op.intArith, Op.intCmp, Op.intBits, beq_eq, bne_eq]
theorem binS_run {op : BinOp} {t : TypeId} {x y : Operand} {p q : ByteArray} {v : Value} (h : binS op p q = some v) (w : World) :
    (do eqGuard op t x y (.string p) (.string q); binOp op t (.string p) (.string q) : Sem Value).run P w = .ok v w := by
  cases op <;> simp only [binS, Option.some.injEq, reduceCtorEq] at h <;> subst h <;> simp only [eqGuard, binOp, Op.stringOp, beqS] <;> simp [slt, sle, ByteArray.toList_eq]
theorem binF_run {op : BinOp} {t : TypeId} {x y : Operand} {k : FloatKind} {p q : Nat} {v : Value} (h : binF op k p q = some v) (w : World) :
    (do eqGuard op t x y (.float k p) (.float k q); binOp op t (.float k p) (.float k q) : Sem Value).run P w = .ok v w := by
  cases op <;> simp only [binF, Option.some.injEq, reduceCtorEq] at h <;> subst h <;> simp [eqGuard, binOp, Op.floatCmp]
theorem unI_run {op : UnOp} {v u : Value} (h : unI op v = some u) (w : World) : (Op.unary op v).run P w = .ok u w := by
  unfold unI at h
  split at h
  · simp only [Option.some.injEq] at h; subst h; simp [Op.unary]
  · simp only [Option.some.injEq] at h; subst h; simp [Op.unary, Op.intArith]
  · cases h
theorem Yld.pure {o : Oper} {v : Value} (h : pureOp e o.op = some v) : Yld P n C e o v := by
  intro a ha w _
  obtain ⟨dst, op, ty, pos, after, guard⟩ := o
  simp only at h
  unfold execOp
  cases op <;> simp only [pureOp, reduceCtorEq] at h
  case move x => simp [ha.ev h]
  case assign x => simp [ha.ev h]
  case pick c x y =>
    split at h
    · rename_i hc; simp [ha.ev hc, ha.ev h, asBool]
    · rename_i hc; simp [ha.ev hc, ha.ev h, asBool]
    · cases h
  case binOp op t x y t' =>
    split at h
    all_goals first
      | (rename_i p q hx hy
         simp only [ha.ev hx, ha.ev hy]
         first
          | (have := binI_run (P := P) (t := t) (x := x) (y := y) h w; simp only [Sem.run_bind, this, Result.andThen_ok, Sem.run_pure])
          | (have := binS_run (P := P) (t := t) (x := x) (y := y) h w; simp only [Sem.run_bind, this, Result.andThen_ok, Sem.run_pure])
          | (have := binF_run (P := P) (t := t) (x := x) (y := y) h w; simp only [Sem.run_bind, this, Result.andThen_ok, Sem.run_pure]))
      | cases h
  case unOp op t x =>
    split at h
    · rename_i u hx
      simp only [ha.ev hx, Sem.run_bind, unI_run h w, Result.andThen_ok, Sem.run_pure]
    · cases h
  case extract x i =>
    split at h
    · rename_i vs hx
      rw [nthV_eq] at h
      have : vs[i]? = some v := by simpa using h
      simp [ha.ev hx, Instr.extract, this]
    · cases h
  case nilCheck x =>
    split at h
    · rename_i p hx; simp only [Option.some.injEq] at h; subst h; simp [ha.ev hx]
    · rename_i f p c hx; simp only [Option.some.injEq] at h; subst h; simp [ha.ev hx]
    · cases h
  case makeFunc fn first cap =>
    split at h
    · rename_i f c hf hc
      simp only [Option.some.injEq] at h; subst h
      have h1 := ha.evs hf
      have h2 := ha.evs hc
      have e1 : first.map a.eval = f.toArray := by rw [← h1, ← Array.toList_map]
      have e2 : cap.map a.eval = c.toArray := by rw [← h2, ← Array.toList_map]
      simp [Instr.makeFunc, e1, e2]
    · cases h
def Plain (P : Program) (t : TypeId) : Prop := ∀ w, (isAgg t).run P w = .ok false w
theorem Plain.of {t : TypeId} {d : TypeDesc} (h : P.underlying t = some d) (hd : (match d with | .struct _ | .array _ _ => true | _ => false) = false) : Plain P t := fun w => Go.Proofs.run_isAgg_plain h hd w
structure TI (P : Program) (t : TypeId) (z : Value) (size bytes : Nat) : Prop where
  out : ∃ i, P.info? t = some i ∧ i.zero = some z ∧ i.size = size ∧ i.bytes = bytes
theorem TI.mk' {t : TypeId} {z : Value} {size bytes : Nat} (h : (P.info? t).map (fun i => (i.zero, i.size, i.bytes)) = some (some z, size, bytes)) : TI P t z size bytes := by
  cases hi : P.info? t with
  | none => simp [hi] at h
  | some i => simp [hi] at h; exact ⟨i, hi, h.1, h.2.1, h.2.2⟩
structure Agg (P : Program) (t : TypeId) (size : Nat) : Prop where
  agg : ∀ w, (isAgg t).run P w = .ok true w
  size : ∀ w, (sizeOf t).run P w = .ok size w
theorem TI.sizeOf {t : TypeId} {z : Value} {size bytes : Nat} (h : TI P t z size bytes) (w : World) : (sizeOf t).run P w = .ok size w := by
  obtain ⟨i, hi, _, hs, _⟩ := h.out
  simp [Go.sizeOf, typeInfo, hi, hs]
theorem TI.zero {t : TypeId} {z : Value} {size bytes : Nat} (h : TI P t z size bytes) (w : World) : (zeroValue t).run P w = .ok z w := by
  obtain ⟨i, hi, hz, _⟩ := h.out
  simp [zeroValue, typeInfo, hi, hz]
theorem Agg.of {t : TypeId} {d : TypeDesc} {z : Value} {size bytes : Nat} (h : P.underlying t = some d) (hd : (match d with | .struct _ | .array _ _ => true | _ => false) = true) (hi : TI P t z size bytes) : Agg P t size :=
  ⟨fun w => by cases d <;> simp_all [isAgg, run_underlying h], hi.sizeOf⟩
def FO (P : Program) (t f off : Nat) : Prop := ∀ (a : Addr) w, (Instr.fieldAt t (.pointer (some a)) f).run P w = .ok (.pointer (some (a.add off))) w
theorem add_none (b o n : Nat) : (⟨b, o, none⟩ : Addr).add n = ⟨b, o + n, none⟩ := by
  unfold Addr.add
  split
  · simp_all
  · rfl
def SlT (P : Program) (t el : TypeId) : Prop := P.underlying t = some (.slice el)
theorem Yld.run {o : Oper} {v : Value} {ρ : Operand → Value} (hρ : ∀ x ∈ o.op.operands, ∃ v, ev e x = some v ∧ ρ x = v) (hs : ∀ cs b, o.op ≠ .select cs b) (hr : ∀ w, C w → (execOp ρ o).run P w = .ok (.value v) w) : Yld P n C e o v := by
  intro a ha w hw
  rw [execOp_congr (ρ := a.eval) (ρ' := ρ) o hs fun x hx => by obtain ⟨v, h1, h2⟩ := hρ x hx; rw [ha.ev h1, h2]]
  exact hr w hw
theorem Yld.fieldAddr {d : Option Tmp} {t f off : Nat} {x : Operand} {ty : TypeId} {pos : String} {af : Array Edge} {g : Option (Nat × Bool)} (hF : FO P t f off) {b o : Nat} (hx : ev e x = some (.pointer (some ⟨b, o, none⟩))) :
    Yld P n C e ⟨d, .fieldAddr t x f, ty, pos, af, g⟩ (.pointer (some ⟨b, o + off, none⟩)) := by
  intro a ha w _
  have := hF ⟨b, o, none⟩ w
  rw [add_none] at this
  simp [execOp, ha.ev hx, this]
theorem Yld.load {d : Option Tmp} {t : Nat} {x : Operand} {ty : TypeId} {pos : String} {af : Array Edge} {g : Option (Nat × Bool)} (hT : Plain P t) {ad : Addr} {v : Value} (hx : ev e x = some (.pointer (some ad))) (hc : ∀ w, C w → w.cell? ad = some v) :
    Yld P n C e ⟨d, .load t x, ty, pos, af, g⟩ v := by
  intro a ha w hw
  simp [execOp, ha.ev hx, Instr.loadAt, Instr.sureAddr, loadVar, hT w, hc w hw]
theorem Yld.loadN {d : Option Tmp} {t : Nat} {x : Operand} {ty : TypeId} {pos : String} {af : Array Edge} {g : Option (Nat × Bool)} {cs : List Value} (hT : Agg P t cs.length) {b o : Nat} (hx : ev e x = some (.pointer (some ⟨b, o, none⟩)))
    (hc : ∀ w, C w → ∀ j v, cs[j]? = some v → w.cell? ⟨b, o + j, none⟩ = some v) : Yld P n C e ⟨d, .load t x, ty, pos, af, g⟩ (.agg cs.toArray) := by
  intro a ha w hw
  have := run_loadCells_list (P := P) w ⟨b, o, none⟩ cs (fun j v hj => by rw [add_none]; exact hc w hw j v hj)
  simp [execOp, ha.ev hx, Instr.loadAt, Instr.sureAddr, loadVar, hT.agg w, hT.size w, this]
theorem Yld.indexAddr {d : Option Tmp} {t el sz : Nat} {x i : Operand} {ty : TypeId} {pos : String} {af : Array Edge} {g : Option (Nat × Bool)} (hT : SlT P t el) {z : Value} {by' : Nat} (hE : TI P el z sz by') {b o len cap : Nat} {k : IntKind} {q : Int}
    (hx : ev e x = some (.slice (some ⟨b, o, none⟩) len cap)) (hi : ev e i = some (.int k q)) (h0 : 0 ≤ q) (h1 : q < len) :
    Yld P n C e ⟨d, .indexAddr t x i, ty, pos, af, g⟩ (.pointer (some ⟨b, o + q.toNat * sz, none⟩)) := by
  intro a ha w _
  simp [execOp, ha.ev hx, ha.ev hi, Instr.indexAt, run_underlying hT, asIntOf, hE.sizeOf w, h0, h1, add_none]
theorem Yld.lenSl {d : Option Tmp} {t el : Nat} {x : Operand} {ty : TypeId} {pos : String} {af : Array Edge} {g : Option (Nat × Bool)} (hT : SlT P t el) {ad : Option Addr} {len cap : Nat} (hx : ev e x = some (.slice ad len cap)) :
    Yld P n C e ⟨d, .call { callee := .builtin .len, args := #[x], argTypes := #[t] }, ty, pos, af, g⟩ (.int .i64 len) := by
  intro a ha w _
  simp [execOp, resolve, invoke, builtin, ha.ev hx, Builtin.len_, run_underlying hT, goInt]
theorem Yld.lenStr {d : Option Tmp} {t : Nat} {x : Operand} {ty : TypeId} {pos : String} {af : Array Edge} {g : Option (Nat × Bool)} (hT : P.underlying t = some .string) {s : ByteArray} (hx : ev e x = some (.string s)) :
    Yld P n C e ⟨d, .call { callee := .builtin .len, args := #[x], argTypes := #[t] }, ty, pos, af, g⟩ (.int .i64 s.size) := by
  intro a ha w _
  simp [execOp, resolve, invoke, builtin, ha.ev hx, Builtin.len_, run_underlying hT, goInt]
def bt (s : ByteArray) (i : Nat) : UInt8 := s.data.toList.getD i 0
theorem Yld.idxStr {d : Option Tmp} {t : Nat} {x i : Operand} {ty : TypeId} {pos : String} {af : Array Edge} {g : Option (Nat × Bool)} (hT : P.underlying t = some .string) {s : ByteArray} {k : IntKind} {q : Int} (hx : ev e x = some (.string s)) (hi : ev e i = some (.int k q)) (h0 : 0 ≤ q) (h1 : q < s.size) :
    Yld P n C e ⟨d, .index t x i, ty, pos, af, g⟩ (.int .u8 (bt s q.toNat).toNat) := by
  intro a ha w _
  have hlt : q.toNat < s.size := by omega
  have hb : s[q.toNat]? = some (bt s q.toNat) := by
    rw [getElem?_pos s q.toNat hlt]
    congr 1
    have hl : q.toNat < s.data.toList.length := by simpa using hlt
    simp only [bt, List.getD, List.getElem?_eq_getElem hl, Option.getD_some]
    rfl
  simp [execOp, ha.ev hx, ha.ev hi, Instr.index, asIntOf, run_underlying hT, h0, hb]
end
structure Mod (M : Nat → Prop) (w w' : World) : Prop where
  os : w'.os = w.os
  tape : w'.tape = w.tape
  output : w'.output = w.output
  size : w.heap.size ≤ w'.heap.size
  block : ∀ k, k < w.heap.size → ¬ M k → w'.heap[k]? = w.heap[k]?
def No : Nat → Prop := fun _ => False
theorem Mod.refl (M : Nat → Prop) (w : World) : Mod M w w := ⟨rfl, rfl, rfl, Nat.le_refl _, fun _ _ _ => rfl⟩
theorem Mod.trans {M : Nat → Prop} {a b c : World} (h : Mod M a b) (k : Mod M b c) : Mod M a c :=
  ⟨k.os.trans h.os, k.tape.trans h.tape, k.output.trans h.output, Nat.le_trans h.size k.size, fun i hi hm => (k.block i (Nat.lt_of_lt_of_le hi h.size) hm).trans (h.block i hi hm)⟩
theorem Mod.mono {M M' : Nat → Prop} {w w' : World} (h : Mod M w w') (hM : ∀ b, b < w.heap.size → M b → M' b) : Mod M' w w' := ⟨h.os, h.tape, h.output, h.size, fun k hk hm => h.block k hk fun h' => hm (hM k hk h')⟩
theorem Mod.then {M M' : Nat → Prop} {a b c : World} (h : Mod M a b) (k : Mod M' b c) (hM : ∀ x, x < a.heap.size → M' x → M x) : Mod M a c :=
  ⟨k.os.trans h.os, k.tape.trans h.tape, k.output.trans h.output, Nat.le_trans h.size k.size, fun i hi hm => (k.block i (Nat.lt_of_lt_of_le hi h.size) fun h' => hm (hM i hi h')).trans (h.block i hi hm)⟩
abbrev Grow (w w' : World) : Prop := Mod No w w'
theorem Grow.any {w w' : World} (h : Grow w w') (M : Nat → Prop) : Mod M w w' := h.mono fun _ _ h => h.elim
theorem Mod.any' {M : Nat → Prop} {w w' : World} (h : Grow w w') : Mod M w w' := h.any M
theorem Mod.below {w w' : World} (h : Grow w w') : Below w.heap.size w w' := ⟨h.os, h.tape, h.output, h.size, fun k hk => h.block k hk fun h => h⟩
theorem Grow.of_below {w w' : World} (h : Below w.heap.size w w') : Grow w w' := ⟨h.os, h.tape, h.output, h.size, fun k hk _ => h.block k hk⟩
theorem Mod.alloc (M : Nat → Prop) (w : World) (o : Obj) : Mod M w (w.alloc o) := ⟨rfl, rfl, rfl, by simp, fun k hk _ => Below.heap_alloc w o k hk⟩
theorem Mod.drew (M : Nat → Prop) (w : World) : Mod M w w.drew := ⟨rfl, rfl, rfl, Nat.le_refl _, fun _ _ _ => rfl⟩
theorem Mod.grownBy {M : Nat → Prop} {w w' : World} {row : Option Nat} (hg : w.grownBy w' row) (hr : ∀ k, row = some k → M k) : Mod M w w' :=
  ⟨hg.os, hg.tape, hg.output, hg.size, fun k hk hm => hg.block k hk fun e => hm (hr k e.symm)⟩
theorem Mod.cell {M : Nat → Prop} {w w' : World} (h : Mod M w w') {a : Addr} {v : Value} (hc : w.cell? a = some v) (hm : ¬ M a.block) : w'.cell? a = some v :=
  (World.cell?_of_block (h.block a.block (World.block_lt_of_cell? w a hc) hm)).trans hc
theorem Mod.heap {M : Nat → Prop} {w w' : World} (h : Mod M w w') {b : Nat} {o : Obj} (hb : w.heap[b]? = some o) (hm : ¬ M b) : w'.heap[b]? = some o :=
  (h.block b (Array.getElem?_eq_some_iff.1 hb).1 hm).trans hb
structure Still (w w' : World) : Prop where
  heap : w'.heap = w.heap
  os : w'.os = w.os
  tape : w'.tape = w.tape
  output : w'.output = w.output
theorem Still.refl (w : World) : Still w w := ⟨rfl, rfl, rfl, rfl⟩
theorem Still.trans {a b c : World} (h : Still a b) (k : Still b c) : Still a c := ⟨k.heap.trans h.heap, k.os.trans h.os, k.tape.trans h.tape, k.output.trans h.output⟩
theorem Still.mod {w w' : World} (h : Still w w') (M : Nat → Prop) : Mod M w w' := ⟨h.os, h.tape, h.output, by rw [h.heap]; exact Nat.le_refl _, fun k _ _ => by rw [h.heap]⟩
theorem Still.cell {w w' : World} (h : Still w w') (a : Addr) : w'.cell? a = w.cell? a := by simp [World.cell?, h.heap]
structure Sl (M : Nat → Prop) (w : World) (v : Value) (sz n : Nat) (cs : List Value) : Prop where
  len : cs.length = n * sz
  big : n ≤ 9223372036854775807
  form : ∃ ad c, v = .slice ad n c ∧ (0 < n → ∃ b o, ad = some ⟨b, o, none⟩ ∧ ¬ M b ∧ ∀ j u, cs[j]? = some u → w.cell? ⟨b, o + j, none⟩ = some u)
theorem Sl.mod {M : Nat → Prop} {w w' : World} {v : Value} {sz n : Nat} {cs : List Value} (h : Sl M w v sz n cs) (hm : Mod M w w') : Sl M w' v sz n cs :=
  ⟨h.len, h.big, by
    obtain ⟨ad, c, hv, hf⟩ := h.form
    refine ⟨ad, c, hv, fun hn => ?_⟩
    obtain ⟨b, o, ha, hb, hc⟩ := hf hn
    exact ⟨b, o, ha, hb, fun j u hj => hm.cell (hc j u hj) hb⟩⟩
theorem Sl.off {M M' : Nat → Prop} {w : World} {v : Value} {sz n : Nat} {cs : List Value} (h : Sl M w v sz n cs) (hsz : 0 < sz) (hM : ∀ b, b < w.heap.size → M' b → M b) : Sl M' w v sz n cs :=
  ⟨h.len, h.big, by
    obtain ⟨ad, c, hv, hf⟩ := h.form
    refine ⟨ad, c, hv, fun hn => ?_⟩
    obtain ⟨b, o, ha, hb, hc⟩ := hf hn
    refine ⟨b, o, ha, fun hm => hb (hM b ?_ hm), hc⟩
    have hl : 0 < cs.length := by rw [h.len]; exact Nat.mul_pos hn hsz
    exact World.block_lt_of_cell? w ⟨b, o + 0, none⟩ (hc 0 _ (List.getElem?_eq_getElem hl))⟩
theorem Sl.nil (M : Nat → Prop) (w : World) (sz : Nat) (ad : Option Addr) (c : Nat) : Sl M w (.slice ad 0 c) sz 0 [] := ⟨by simp, by omega, ad, c, rfl, fun h => by omega⟩
theorem Sl.own {M : Nat → Prop} {w : World} {base : Nat} {t : TypeId} {sz n : Nat} {v : Value} {xs : List Value} (h : w.ownsRow base t sz v n xs) (hM : ∀ k, v.ownBlock = some k → ¬ M k) : Sl M w v sz n xs := by
  have hx := h.1
  rcases h.2 with ⟨rfl, rfl⟩ | ⟨g, cap, cur, rfl, hb, hg, hn, hcm, hcs, htk⟩
  · have : xs = [] := List.eq_nil_of_length_eq_zero (by simpa using hx)
    subst this
    exact Sl.nil _ _ _ _ _
  · refine ⟨hx, by simp only [maxLen] at hcm; omega, _, cap, rfl, fun hn => ⟨g, 0, rfl, hM g rfl, fun j u hu => ?_⟩⟩
    have := h.cells (g := g) rfl j u hu
    rwa [add_none] at this
end Go.X
set_option linter.unusedVariables false
set_option linter.unusedSimpArgs false
namespace Go.X
open Go Go.RowKit
def Blk (w : World) (b : Nat) (t : TypeId) (cs : List Value) : Prop := w.heap[b]? = some (.cells cs.toArray t (0, 0))
theorem Blk.cell {w : World} {b t : Nat} {cs : List Value} (h : Blk w b t cs) {o : Nat} {v : Value} (hn : nthV cs o = some v) : w.cell? ⟨b, o, none⟩ = some v := by
  rw [nthV_eq] at hn
  unfold Blk at h
  simp [World.cell?, h, hn]
theorem Blk.cell' {w : World} {b t : Nat} {cs : List Value} (h : Blk w b t cs) {o : Nat} {v : Value} (hn : cs[o]? = some v) : w.cell? ⟨b, o, none⟩ = some v := h.cell (by rw [nthV_eq]; exact hn)
theorem Blk.lt {w : World} {b t : Nat} {cs : List Value} (h : Blk w b t cs) : b < w.heap.size := (Array.getElem?_eq_some_iff.1 h).1
theorem Blk.mod {M : Nat → Prop} {w w' : World} {b t : Nat} {cs : List Value} (h : Blk w b t cs) (hm : Mod M w w') (hb : ¬ M b) : Blk w' b t cs := hm.heap h hb
inductive SetAt : List Value → Nat → Value → List Value → Prop
  | z {u v : Value} {l : List Value} : SetAt (u :: l) 0 v (v :: l)
  | s {u v : Value} {i : Nat} {l l' : List Value} : SetAt l i v l' → SetAt (u :: l) (i + 1) v (u :: l')
theorem SetAt.eq {l l' : List Value} {i : Nat} {v : Value} (h : SetAt l i v l') : l' = l.set i v ∧ i < l.length := by
  induction h with
  | z => simp
  | s _ ih => simp [ih.1, ih.2]
structure New (w w' : World) (b : Nat) (t : TypeId) (cs : List Value) : Prop where
  at_ : b = w.heap.size
  blk : Blk w' b t cs
  grow : Grow w w'
  size : w'.heap.size = w.heap.size + 1
theorem New.of (w : World) (t : TypeId) (cs : List Value) : New w (w.alloc (.cells cs.toArray t)) w.heap.size t cs :=
  ⟨rfl, heap_alloc_new w _, Mod.alloc _ _ _, by simp⟩
theorem New.lt {w w' : World} {b t : Nat} {cs : List Value} (h : New w w' b t cs) : b < w'.heap.size := h.blk.lt
theorem New.ne {w w' : World} {b t : Nat} {cs : List Value} (h : New w w' b t cs) {k : Nat} (hk : k < w.heap.size) : k ≠ b := by have := h.at_; omega
section
variable {P : Program} {n : Nat} {e : Env} {w : World}
theorem Does.alloc {d : Option Tmp} {t : Nat} {ty : TypeId} {pos : String} {af : Array Edge} {g : Option (Nat × Bool)} {z : Value} {sz by' : Nat} (hT : TI P t z sz by') :
    Does P n e w ⟨d, .alloc t, ty, pos, af, g⟩ (fun v w' => ∃ b, v = .pointer (some ⟨b, 0, none⟩) ∧ New w w' b t z.cells.toList) := by
  refine Does.of_run (w' := w.alloc (.cells z.cells t)) (v := .pointer (some ⟨w.heap.size, 0, none⟩)) (fun a ha => ?_) ⟨_, rfl, by have := New.of w t z.cells.toList; simpa using this⟩
  simp [execOp, Instr.alloc, hT.zero w, newVar, newRow]
theorem Does.box {d : Option Tmp} {t : Nat} {x : Operand} {ty : TypeId} {pos : String} {af : Array Edge} {g : Option (Nat × Bool)} {v : Value} (hx : ev e x = some v) :
    Does P n e w ⟨d, .box t x, ty, pos, af, g⟩ (fun u w' => ∃ b, u = .pointer (some ⟨b, 0, none⟩) ∧ New w w' b t v.cells.toList) := by
  refine Does.of_run (w' := w.alloc (.cells v.cells t)) (v := .pointer (some ⟨w.heap.size, 0, none⟩)) (fun a ha => ?_) ⟨_, rfl, by have := New.of w t v.cells.toList; simpa using this⟩
  simp [execOp, ha.ev hx, Instr.box, newVar, newRow]
theorem Does.storeN {d : Option Tmp} {t : Nat} {x y : Operand} {ty : TypeId} {pos : String} {af : Array Edge} {g : Option (Nat × Bool)} {z : Value} {sz by' : Nat} (hT : TI P t z sz by') {b o T : Nat} {v : Value} {cs : List Value} (hx : ev e x = some (.pointer (some ⟨b, o, none⟩))) (hy : ev e y = some v)
    (hs : v.cells.size = sz) (h1 : v.cells.toList.all (·.oneCell') = true) (hb : Blk w b T cs) (hl : o + sz ≤ cs.length) :
    Does P n e w ⟨d, .store t x y, ty, pos, af, g⟩ (fun _ w' => Blk w' b T (cs.take o ++ v.cells.toList ++ cs.drop (o + sz)) ∧ Mod (· = b) w w' ∧ w'.heap.size = w.heap.size) := by
  have hr := run_storeCells_at P b o T v.cells.toList 0 cs.toArray w hb (by simpa [hs] using hl) (List.all_eq_true.1 h1)
  simp only [Nat.add_zero, Array.length_toList, hs] at hr
  refine Does.of_skip (w' := w.setRow b (cs.take o ++ v.cells.toList ++ cs.drop (o + sz)).toArray) (fun a ha => ?_) ⟨setRow_heap w b _ _ T _ hb, ⟨rfl, rfl, rfl, by simp, fun k hk hm => setRow_other w b k _ hm⟩, by simp⟩
  simp [execOp, ha.ev hx, ha.ev hy, Instr.storeAt, Instr.sureAddr, storeVar, hT.sizeOf w, hs, hr]
theorem Does.store {d : Option Tmp} {t : Nat} {x y : Operand} {ty : TypeId} {pos : String} {af : Array Edge} {g : Option (Nat × Bool)} {z : Value} {by' : Nat} (hT : TI P t z 1 by') {b o T : Nat} {v : Value} {cs cs' : List Value} (hx : ev e x = some (.pointer (some ⟨b, o, none⟩))) (hy : ev e y = some v)
    (h1 : v.oneCell' = true) (hb : Blk w b T cs) (hl : SetAt cs o v cs') :
    Does P n e w ⟨d, .store t x y, ty, pos, af, g⟩ (fun _ w' => Blk w' b T cs' ∧ Mod (· = b) w w' ∧ w'.heap.size = w.heap.size) := by
  have hv : v.cells = #[v] := by cases v <;> first | rfl | (simp [Value.oneCell'] at h1)
  obtain ⟨he, hlt⟩ := hl.eq
  refine (Does.storeN hT hx hy (by simp [hv]) (by simp [hv, h1]) hb (by omega)).mono ?_
  rintro _ w' ⟨h2, h3, h4⟩
  refine ⟨?_, h3, h4⟩
  have : cs' = cs.take o ++ v.cells.toList ++ cs.drop (o + 1) := by
    rw [he, hv]
    simp [List.set_eq_take_append_cons_drop, hlt]
  rw [this]; exact h2
theorem Does.slice1 {d : Option Tmp} {t el : Nat} {x : Operand} {ty : TypeId} {pos : String} {af : Array Edge} {g : Option (Nat × Bool)} (hS : SlT P t el) {z v : Value} {sz by' : Nat} (hT : TI P el z sz by') (hx : ev e x = some v) (hs : v.cells.size = sz) (hz : z.cells.size = sz) (hsz : Nat.ble 1 sz = true) (hbig : Nat.ble sz 1000 = true) :
    Does P n e w ⟨d, .buildSlice t 1 #[(0, x)], ty, pos, af, g⟩ (fun u w' => ∃ b, u = .slice (some ⟨b, 0, none⟩) 1 1 ∧ New w w' b el v.cells.toList) := by
  have h1 : 1 ≤ sz := by simpa using hsz
  have h2 : sz ≤ 1000 := by simpa using hbig
  refine Does.of_run (w' := w.alloc (.cells v.cells el)) (v := .slice (some ⟨w.heap.size, 0, none⟩) 1 1) (fun a ha => ?_) ⟨_, rfl, by have := New.of w el v.cells.toList; simpa using this⟩
  have hfill : ∀ (l : List Value) (cs : List Value), l.length = cs.length → (l.zipIdx.foldl (fun (c : Array Value) (p : Value × Nat) => c.setIfInBounds (0 + p.2) p.1) cs.toArray) = l.toArray := by
    intro l cs hl
    have key : ∀ (l : List Value) (p q : List Value), l.length = q.length → (l.zipIdx p.length).foldl (fun (c : Array Value) (p : Value × Nat) => c.setIfInBounds (0 + p.2) p.1) (p ++ q).toArray = (p ++ l).toArray := by
      intro l
      induction l with
      | nil => intro p q h; have : q = [] := List.eq_nil_of_length_eq_zero (by simpa using h.symm); simp [this]
      | cons u l ih =>
        intro p q h
        cases q with
        | nil => simp at h
        | cons r q =>
          simp only [List.zipIdx_cons, List.foldl_cons, Nat.zero_add, List.setIfInBounds_toArray]
          have : (p ++ r :: q).set p.length u = (p ++ [u]) ++ q := by simp
          rw [this]
          have := ih (p ++ [u]) q (by simpa using h)
          simp only [List.length_append, List.length_cons, List.length_nil, Nat.zero_add] at this
          rw [this]; simp
    have := key l [] cs hl
    simpa using this
  have hsz0 : sz ≠ 0 := by omega
  have hle : ¬ (16777216 < sz) := by omega
  have := hfill v.cells.toList ((Array.range sz).map (z.cells[· % z.cells.size]!)).toList (by simp [hs])
  simp only [Array.toArray_toList] at this
  have hfold : v.cells.zipIdx.foldl (fun (cs : Array Value) (p : Value × Nat) => cs.setIfInBounds (0 + p.2) p.1) ((Array.range sz).map (z.cells[· % z.cells.size]!)) = v.cells := by
    rw [← Array.foldl_toList, Array.toList_zipIdx]
    exact this
  simp only [Nat.zero_add] at hfold
  simp [execOp, Instr.buildSlice, run_underlying hS, hT.sizeOf w, hT.zero w, ha.ev hx, hsz0, hle, Instr.fill, hs, newRow]
  exact congrArg (fun q => w.alloc (Obj.cells q el)) (by simpa [hs] using hfold)
theorem Does.call {d : Option Tmp} {gf : FuncId} {args : Array Operand} {ats : Array TypeId} {ty : TypeId} {pos : String} {af : Array Edge} {g : Option (Nat × Bool)} {vs : List Value} {Q : Value → World → Prop} (ha : evs e args.toList = some vs) (hE : Go.Proofs.Enters P gf) (hc : Fx P gf vs w Q) :
    Does P n e w ⟨d, .call { callee := .value (.func gf), args := args, argTypes := ats }, ty, pos, af, g⟩ Q := by
  refine Does.of_enter (fun a hf => ?_) hc
  have h1 := hf.evs ha
  have : args.map a.eval = vs.toArray := by rw [← h1, ← Array.toList_map]
  simp [execOp, resolve, this, Act.eval, Deferred.ofValue, invoke, hE _ _]
theorem Does.callv {d : Option Tmp} {gf : FuncId} {f : Operand} {cap : Array Value} {args : Array Operand} {ats : Array TypeId} {ty : TypeId} {pos : String} {af : Array Edge} {g : Option (Nat × Bool)} {vs : List Value} {Q : Value → World → Prop} (hf : ev e f = some (.func (.func gf) #[] cap)) (ha : evs e args.toList = some vs) (hE : Go.Proofs.Enters P gf) (hc : Fx P gf (vs ++ cap.toList) w Q) :
    Does P n e w ⟨d, .call { callee := .value f, args := args, argTypes := ats }, ty, pos, af, g⟩ Q := by
  refine Does.of_enter (fun a ht => ?_) hc
  have h1 := ht.evs ha
  have : args.map a.eval = vs.toArray := by rw [← h1, ← Array.toList_map]
  have e2 : (vs ++ cap.toList).toArray = vs.toArray ++ cap := by simp
  rw [e2]
  simp [execOp, resolve, this, ht.ev hf, Deferred.ofValue, invoke, hE _ _]
end
theorem append_own {P : Program} (w : World) {t ty el : TypeId} {z : Value} {sz by' : Nat} (ht : SlT P t el) (hT : TI P el z sz by') (hzs : z.cells.size = sz) (hsz : 0 < sz) {v : Value} {k : Nat} {xs : List Value} (hown : w.ownsRow 0 el sz v k xs)
    {x : Value} {m : Nat} {news : List Value} (hx : Sl No w x sz m news) (h1 : ∀ u ∈ news, u.oneCell' = true) (hb : (k + m) * by' ≤ 140737488355328) (hb' : 0 < by') :
    ∃ v' w', (Builtin.append_ #[t, t] ty #[v, x]).run P w = .ok v' w' ∧ w'.ownsRow 0 el sz v' (k + m) (xs ++ news) ∧ w.grownBy w' v.ownBlock ∧ (v'.ownBlock = v.ownBlock ∨ v'.ownBlock = some w.heap.size) := by
  obtain ⟨i, hi, hz, hs, hby⟩ := hT.out
  obtain ⟨ad, c, rfl, hf⟩ := hx.form
  have hl := hx.len
  have hkm : k + m ≤ 140737488355328 := Nat.le_trans (Nat.le_mul_of_pos_right _ hb') hb
  by_cases hm : m = 0
  · subst hm
    have hn : news = [] := List.eq_nil_of_length_eq_zero (by simpa using hl)
    subst hn
    refine ⟨v, w, ?_, by simpa using hown, ⟨rfl, rfl, rfl, Nat.le_refl _, fun _ _ _ => rfl⟩, .inl rfl⟩
    rcases hown.2 with ⟨rfl, rfl⟩ | ⟨g, cap, cur, rfl, _, _, hnc, _⟩
    · cases ad <;> simp [Builtin.append_, run_underlying ht, sizeOf, typeInfo, hi, Builtin.lenOf, Builtin.firstCells, loadCells, loadCellsFrom, storeCells]
    · cases ad <;> simp [Builtin.append_, run_underlying ht, sizeOf, typeInfo, hi, Builtin.lenOf, Builtin.firstCells, hnc, storeCells, loadCells, loadCellsFrom]
  · obtain ⟨b, o, rfl, _, hc⟩ := hf (by omega)
    have hnews : ∀ j u, news[j]? = some u → w.cell? ((⟨b, o, none⟩ : Addr).add j) = some u := fun j u hj => by rw [add_none]; exact hc j u hj
    obtain ⟨v', w', hr, ho, hg, _⟩ := run_append_own (P := P) w 0 t ty el i z sz by' ht hi hz hs hby hzs hsz v k xs hown ⟨b, o, none⟩ m c news hl hnews h1 (by simp only [maxLen]; omega) hb (Nat.zero_le _)
    refine ⟨v', w', hr, ho, hg, ?_⟩
    rcases hown.2 with ⟨rfl, rfl⟩ | ⟨g, cap, cur, rfl, hbg, hgg, hnc, hcm, hcs, htake⟩
    · obtain ⟨v2, w2, hr2, ho2, _, _⟩ := run_append_own (P := P) w w.heap.size t ty el i z sz by' ht hi hz hs hby hzs hsz (.slice none 0 0) 0 [] ⟨by simp, .inl ⟨rfl, rfl⟩⟩ ⟨b, o, none⟩ m c news hl hnews h1 (by simp only [maxLen]; omega) hb (Nat.le_refl _)
      have hr3 := run_append_nil (P := P) w t ty el i z ht hi hz ⟨b, o, none⟩ m c news (by rw [hl, hs]) hnews (by omega) (by omega) (by rw [hby]; simp only [Nat.zero_add] at hb; omega)
      rw [hr3] at hr
      cases hr
      exact .inr rfl
    · by_cases hroom : k + m ≤ cap
      · have hr3 := run_append_room (P := P) w t ty el i ht hi g k cap cur hgg ⟨b, o, none⟩ m c news (by rw [hl, hs]) hnews h1 hroom (by rw [hl, hcs, hs, ← Nat.add_mul]; exact Nat.mul_le_mul_right _ hroom)
        rw [hr3] at hr
        cases hr
        exact .inl rfl
      · have holds : ∀ j u, xs[j]? = some u → w.cell? ((⟨g, 0, none⟩ : Addr).add j) = some u := hown.cells (g := g) rfl
        have hr3 := run_append_grow (P := P) w t ty el i z ht hi hz ⟨g, 0, none⟩ k cap xs (by rw [hown.1, hs]) holds ⟨b, o, none⟩ m c news (by rw [hl, hs]) hnews (by omega) (by omega) (growslice_fits (by omega) (by rw [hby]; exact hb))
        rw [hr3] at hr
        cases hr
        exact .inr rfl
abbrev Row (w : World) (t : TypeId) (sz : Nat) (v : Value) (k : Nat) (xs : List Value) : Prop := w.ownsRow 0 t sz v k xs
theorem Row.mod {M : Nat → Prop} {w w' : World} {t : TypeId} {sz : Nat} {v : Value} {k : Nat} {xs : List Value} (h : Row w t sz v k xs) (hm : Mod M w w') (hv : ∀ b, v.ownBlock = some b → ¬ M b) : Row w' t sz v k xs := by
  refine ⟨h.1, ?_⟩
  rcases h.2 with hn | ⟨g, cap, cur, rfl, hb, hg, r⟩
  · exact .inl hn
  · exact .inr ⟨g, cap, cur, rfl, hb, hm.heap hg (hv g rfl), r⟩
theorem Row.nil (w : World) (t : TypeId) (sz : Nat) : Row w t sz (.slice none 0 0) 0 [] := World.ownsRow_nil w 0 t sz
theorem Row.new {w w' : World} {b : Nat} {t : TypeId} {cs : List Value} (h : New w w' b t cs) (sz k : Nat) (hl : cs.length = k * sz) (hk : k ≤ 9223372036854775807) : Row w' t sz (.slice (some ⟨b, 0, none⟩) k k) k cs :=
  ⟨hl, .inr ⟨b, k, cs.toArray, rfl, Nat.zero_le _, h.blk, Nat.le_refl _, by simp only [maxLen]; omega, by simp [hl], by simp [← hl]⟩⟩
theorem Row.slice {w : World} {t : TypeId} {sz : Nat} {v : Value} {k : Nat} {xs : List Value} (h : Row w t sz v k xs) : ∃ ad c, v = .slice ad k c := by
  rcases h.2 with ⟨rfl, rfl⟩ | ⟨g, cap, cur, rfl, _⟩
  · exact ⟨none, 0, rfl⟩
  · exact ⟨_, cap, rfl⟩
theorem Row.lt {w : World} {t : TypeId} {sz : Nat} {v : Value} {k : Nat} {xs : List Value} (h : Row w t sz v k xs) {b : Nat} (hb : v.ownBlock = some b) : b < w.heap.size := (World.ownsRow.lt h b hb).2
theorem Row.form {w : World} {t : TypeId} {sz : Nat} {v : Value} {k : Nat} {xs : List Value} (h : Row w t sz v k xs) (hk : 0 < k) : ∃ g cap, v = .slice (some ⟨g, 0, none⟩) k cap ∧ k ≤ cap ∧ cap ≤ 9223372036854775807 ∧ ∀ j u, xs[j]? = some u → w.cell? ⟨g, j, none⟩ = some u := by
  rcases h.2 with ⟨rfl, rfl⟩ | ⟨g, cap, cur, rfl, hb, hg, hnc, hcm, _⟩
  · omega
  · refine ⟨g, cap, rfl, hnc, by simp only [maxLen] at hcm; omega, fun j u hj => ?_⟩
    have := h.cells (g := g) rfl j u hj
    rw [add_none] at this
    simpa using this
section
variable {P : Program} {n : Nat} {e : Env} {w : World}
theorem Does.append {d : Option Tmp} {t el : Nat} {s x : Operand} {ty : TypeId} {pos : String} {af : Array Edge} {g : Option (Nat × Bool)} (ht : SlT P t el) {z : Value} {sz by' : Nat} (hT : TI P el z sz by') (hzs : z.cells.size = sz) (hsz : Nat.ble 1 sz = true) (hb' : Nat.ble 1 by' = true)
    {v u : Value} {k m : Nat} {xs news : List Value} (hs : ev e s = some v) (hx : ev e x = some u) (hown : Row w el sz v k xs) (hu : Sl No w u sz m news) (h1 : news.all (·.oneCell') = true) (hb : (k + m) * by' ≤ 140737488355328) :
    Does P n e w ⟨d, .call { callee := .builtin .append, args := #[s, x], argTypes := #[t, t] }, ty, pos, af, g⟩
      (fun v' w' => Row w' el sz v' (k + m) (xs ++ news) ∧ Mod (fun b => v.ownBlock = some b) w w' ∧ (v'.ownBlock = v.ownBlock ∨ v'.ownBlock = some w.heap.size)) := by
  obtain ⟨v', w', hr, ho, hg, hv⟩ := append_own (P := P) w (ty := ty) ht hT hzs (by have : 1 ≤ sz := (by simpa using hsz); omega) hown hu (List.all_eq_true.1 h1) hb (by have : 1 ≤ by' := (by simpa using hb'); omega)
  refine Does.of_run (v := v') (w' := w') (fun a ha => ?_) ⟨ho, Mod.grownBy hg (fun k h => h), hv⟩
  simp [execOp, resolve, invoke, builtin, ha.ev hs, ha.ev hx, hr]
end
theorem Sl.new {M : Nat → Prop} {w w' : World} {b : Nat} {t : TypeId} {cs : List Value} (h : New w w' b t cs) (sz k : Nat) (hl : cs.length = k * sz) (hk : k ≤ 9223372036854775807) (hM : ¬ M b) : Sl M w' (.slice (some ⟨b, 0, none⟩) k k) sz k cs :=
  ⟨hl, hk, _, k, rfl, fun _ => ⟨b, 0, rfl, hM, fun j u hj => by rw [Nat.zero_add]; exact h.blk.cell' hj⟩⟩
theorem at1 {w : World} {ad : Addr} {v : Value} (h : w.cell? ad = some v) : ∀ w', w' = w → w'.cell? ad = some v := fun _ hw => hw ▸ h
theorem atM {M : Nat → Prop} {w : World} {ad : Addr} {v : Value} (h : w.cell? ad = some v) (hm : ¬ M ad.block) : ∀ w', Mod M w w' → w'.cell? ad = some v := fun _ hw => hw.cell h hm
theorem atN {w : World} {b o : Nat} {cs : List Value} (h : ∀ j v, cs[j]? = some v → w.cell? ⟨b, o + j, none⟩ = some v) : ∀ w', w' = w → ∀ j v, cs[j]? = some v → w'.cell? ⟨b, o + j, none⟩ = some v := fun _ hw => hw ▸ h
theorem atNM {M : Nat → Prop} {w : World} {b o : Nat} {cs : List Value} (h : ∀ j v, cs[j]? = some v → w.cell? ⟨b, o + j, none⟩ = some v) (hm : ¬ M b) : ∀ w', Mod M w w' → ∀ j v, cs[j]? = some v → w'.cell? ⟨b, o + j, none⟩ = some v := fun _ hw j v hj => hw.cell (h j v hj) hm
end Go.X
set_option linter.unusedVariables false
namespace Go.X
open Go Go.RowKit
section
variable {P : Program} {f : FuncId} {n : Nat} {R : Ending → World → Prop} {k : List Item} {e : Env} {w : World} {K : Exit → Act → World → Prop}
theorem RL.p {ops : Array Oper} {rest : List Oper} {d : Nat} {op : Op} {t : TypeId} {pos : String} {af : Array Edge} {v : Value} (hp : pureOp e op = some v) (hb : Nat.blt d n = true) (h : RL P n ops rest ((d, v) :: e) w K) :
    RL P n ops (⟨some d, op, t, pos, af, none⟩ :: rest) e w K := RL.q (.free rfl) rfl hb (Yld.pure hp) h
theorem DL.p {ops : List Oper} {rest : List (Nat × Bool)} {S : World → Prop} {tl : List Nat} {i d : Nat} {op : Op} {t : TypeId} {pos : String} {af : Array Edge} {v : Value} (hi : nth ops i = some ⟨some d, op, t, pos, af, none⟩) (hp : pureOp e op = some v) (hb : Nat.blt d n = true) (h : DL P n ops S tl rest ((d, v) :: e) w K) :
    DL P n ops S tl ((i, false) :: rest) e w K := DL.qf hi (.free rfl) rfl hb (Yld.pure hp) h
theorem get_same {d : Nat} {v : Value} (hg : get e d = some v) : ∀ i u, get ((d, v) :: e) i = some u → get e i = some u := fun i u hu => by
  rw [get_cons] at hu
  by_cases h : d = i
  · subst h; simp at hu; subst hu; exact hg
  · rwa [if_neg h] at hu
theorem Fits.again {a : Act} (h : Fits e n a) {d : Nat} {v v' : Value} (hg : get e d = some v) (hv : v = v') : Fits ((d, v') :: e) n a := by subst hv; exact h.sub (get_same hg)
theorem RL.re {ops : Array Oper} {rest : List Oper} {d : Nat} {v v' : Value} (hg : get e d = some v) (hb : Nat.blt d n = true) (hv : v = v') (h : RL P n ops rest ((d, v') :: e) w K) : RL P n ops rest e w K := fun a ha => h a (ha.again hg hv)
theorem DL.re {ops : List Oper} {rest : List (Nat × Bool)} {S : World → Prop} {tl : List Nat} {d : Nat} {v v' : Value} (hg : get e d = some v) (hb : Nat.blt d n = true) (hv : v = v') (h : DL P n ops S tl rest ((d, v') :: e) w K) : DL P n ops S tl rest e w K := fun a ha => h a (ha.again hg hv)
theorem RK.re {d : Nat} {v v' : Value} (hg : get e d = some v) (hv : v = v') (h : RK P f n R k ((d, v') :: e) w) : RK P f n R k e w := fun a ha => h a (ha.again hg hv)
theorem RL.split {ops : Array Oper} {rest : List Oper} {d : Nat} {t : Bool} (hg : get e d = some (.bool t)) (hb : Nat.blt d n = true) (h1 : t = true → RL P n ops rest ((d, .bool true) :: e) w K) (h2 : t = false → RL P n ops rest ((d, .bool false) :: e) w K) : RL P n ops rest e w K := by
  cases t with
  | true => exact RL.re hg hb rfl (h1 rfl)
  | false => exact RL.re hg hb rfl (h2 rfl)
theorem DL.split {ops : List Oper} {rest : List (Nat × Bool)} {S : World → Prop} {tl : List Nat} {d : Nat} {t : Bool} (hg : get e d = some (.bool t)) (hb : Nat.blt d n = true) (h1 : t = true → DL P n ops S tl rest ((d, .bool true) :: e) w K) (h2 : t = false → DL P n ops S tl rest ((d, .bool false) :: e) w K) : DL P n ops S tl rest e w K := by
  cases t with
  | true => exact DL.re hg hb rfl (h1 rfl)
  | false => exact DL.re hg hb rfl (h2 rfl)
theorem RL.knownT {ops : Array Oper} {rest : List Oper} {d : Nat} {t : Bool} (hg : get e d = some (.bool t)) (hb : Nat.blt d n = true) (ht : t = true) (h1 : RL P n ops rest ((d, .bool true) :: e) w K) : RL P n ops rest e w K := RL.re hg hb (by rw [ht]) h1
theorem RL.knownF {ops : Array Oper} {rest : List Oper} {d : Nat} {t : Bool} (hg : get e d = some (.bool t)) (hb : Nat.blt d n = true) (ht : t = false) (h1 : RL P n ops rest ((d, .bool false) :: e) w K) : RL P n ops rest e w K := RL.re hg hb (by rw [ht]) h1
theorem DL.knownT {ops : List Oper} {rest : List (Nat × Bool)} {S : World → Prop} {tl : List Nat} {d : Nat} {t : Bool} (hg : get e d = some (.bool t)) (hb : Nat.blt d n = true) (ht : t = true) (h1 : DL P n ops S tl rest ((d, .bool true) :: e) w K) : DL P n ops S tl rest e w K := DL.re hg hb (by rw [ht]) h1
theorem DL.knownF {ops : List Oper} {rest : List (Nat × Bool)} {S : World → Prop} {tl : List Nat} {d : Nat} {t : Bool} (hg : get e d = some (.bool t)) (hb : Nat.blt d n = true) (ht : t = false) (h1 : DL P n ops S tl rest ((d, .bool false) :: e) w K) : DL P n ops S tl rest e w K := DL.re hg hb (by rw [ht]) h1
theorem hcT {c : Operand} {t : Bool} (hc : ev e c = some (.bool t)) (ht : t = true) : ev e c = some (.bool true) := by rw [hc, ht]
theorem hcF {c : Operand} {t : Bool} (hc : ev e c = some (.bool t)) (ht : t = false) : ev e c = some (.bool false) := by rw [hc, ht]
theorem RK.drawM {id : Nat} {l : List Oper} (M : Nat → Prop) (ord : List (Nat × Bool)) (tl : List Nat) (hm : P.follows .mixedOrders = true) (hb : (Region.noSelect l.toArray && okOrd l.toArray tl (Array.replicate l.length false) ord && Nat.beq l.length ord.length) = true)
    (h : DL P n l (Mod M w) tl ord e w.drew (post P f R k)) : RK P f n R (.code (.region id l.toArray true) :: k) e w := RK.draw ord tl (Mod M w) hm hb h
end
section
variable {P : Program} {f : FuncId} {n : Nat} {R : Ending → World → Prop} {k : List Item} {e : Env} {w : World} {K : Exit → Act → World → Prop}
theorem RL.splitD {ops : Array Oper} {rest : List Oper} {d : Nat} {p : Prop} [hp : Decidable p] (hg : get e d = some (.bool (decide p))) (hb : Nat.blt d n = true) (h1 : p → RL P n ops rest ((d, .bool true) :: e) w K) (h2 : ¬ p → RL P n ops rest ((d, .bool false) :: e) w K) : RL P n ops rest e w K :=
  RL.split hg hb (fun h => h1 (of_decide_eq_true h)) (fun h => h2 (of_decide_eq_false h))
theorem DL.splitD {ops : List Oper} {rest : List (Nat × Bool)} {S : World → Prop} {tl : List Nat} {d : Nat} {p : Prop} [hp : Decidable p] (hg : get e d = some (.bool (decide p))) (hb : Nat.blt d n = true) (h1 : p → DL P n ops S tl rest ((d, .bool true) :: e) w K) (h2 : ¬ p → DL P n ops S tl rest ((d, .bool false) :: e) w K) : DL P n ops S tl rest e w K :=
  DL.split hg hb (fun h => h1 (of_decide_eq_true h)) (fun h => h2 (of_decide_eq_false h))
theorem RK.condD {c : Operand} {x y : Code} {p : Prop} [hp : Decidable p] (hc : ev e c = some (.bool (decide p))) (ht : p → RK P f n R (.code x :: k) e w) (hf : ¬ p → RK P f n R (.code y :: k) e w) : RK P f n R (.code (.cond c x y) :: k) e w :=
  RK.cond hc (fun h => ht (of_decide_eq_true h)) (fun h => hf (of_decide_eq_false h))
theorem RL.splitN {ops : Array Oper} {rest : List Oper} {d : Nat} {p : Prop} [hp : Decidable p] (hg : get e d = some (.bool (!decide p))) (hb : Nat.blt d n = true) (h1 : ¬ p → RL P n ops rest ((d, .bool true) :: e) w K) (h2 : p → RL P n ops rest ((d, .bool false) :: e) w K) : RL P n ops rest e w K :=
  RL.split hg hb (fun h => h1 (by simpa using h)) (fun h => h2 (by simpa using h))
theorem DL.splitN {ops : List Oper} {rest : List (Nat × Bool)} {S : World → Prop} {tl : List Nat} {d : Nat} {p : Prop} [hp : Decidable p] (hg : get e d = some (.bool (!decide p))) (hb : Nat.blt d n = true) (h1 : ¬ p → DL P n ops S tl rest ((d, .bool true) :: e) w K) (h2 : p → DL P n ops S tl rest ((d, .bool false) :: e) w K) : DL P n ops S tl rest e w K :=
  DL.split hg hb (fun h => h1 (by simpa using h)) (fun h => h2 (by simpa using h))
theorem RK.condN {c : Operand} {x y : Code} {p : Prop} [hp : Decidable p] (hc : ev e c = some (.bool (!decide p))) (ht : ¬ p → RK P f n R (.code x :: k) e w) (hf : p → RK P f n R (.code y :: k) e w) : RK P f n R (.code (.cond c x y) :: k) e w :=
  RK.cond hc (fun h => ht (by simpa using h)) (fun h => hf (by simpa using h))
end
theorem wrap_i64 {x : Int} (h1 : -9223372036854775808 ≤ x) (h2 : x ≤ 9223372036854775807) : IntKind.i64.wrap x = x := by
  rw [IntKind.wrap_i64]; omega
theorem add_i64 {x y z : Int} (hz : x + y = z) (h1 : -9223372036854775808 ≤ z) (h2 : z ≤ 9223372036854775807) : Value.int .i64 (IntKind.i64.wrap (x + y)) = .int .i64 z := by rw [hz, wrap_i64 h1 h2]
theorem sub_i64 {x y z : Int} (hz : x - y = z) (h1 : -9223372036854775808 ≤ z) (h2 : z ≤ 9223372036854775807) : Value.int .i64 (IntKind.i64.wrap (x - y)) = .int .i64 z := by rw [hz, wrap_i64 h1 h2]
theorem succ_i64 {k : Nat} (h : k < 9223372036854775807) : Value.int .i64 (IntKind.i64.wrap ((k : Int) + 1)) = .int .i64 ((k + 1 : Nat) : Int) := add_i64 (by simp) (by omega) (by omega)
def pp (b : Nat) : Value := .pointer (some ⟨b, 0, none⟩)
end Go.X
namespace Go.X
open Go Go.RowKit
section
variable {P : Program} {n : Nat} {e : Env} {C : World → Prop}
theorem Yld.callx {d : Option Tmp} {gf : FuncId} {args : Array Operand} {ats : Array TypeId} {ty : TypeId} {pos : String} {af : Array Edge} {g : Option (Nat × Bool)} {vs : List Value} {v : Value} (ha : evs e args.toList = some vs) (hr : ∀ w, (callFunc gf vs.toArray).run P w = .ok (.value v) w) :
    Yld P n C e ⟨d, .call { callee := .value (.func gf), args := args, argTypes := ats }, ty, pos, af, g⟩ v := by
  intro a hf w _
  have h1 := hf.evs ha
  have : args.map a.eval = vs.toArray := by rw [← h1, ← Array.toList_map]
  simp [execOp, resolve, this, Act.eval, Deferred.ofValue, invoke, hr]
end
end Go.X
namespace Go.X
open Go Go.RowKit
section
variable {P : Program} {f : FuncId} {n : Nat} {R : Ending → World → Prop} {k : List Item} {e : Env} {w : World} {C : World → Prop}
theorem RK.back {e' : Env} (h : RK P f n R k e' w) (hs : Sub e e') : RK P f n R k e w := RK.sub hs h
theorem Yld.idxStrN {d : Option Tmp} {t : Nat} {x i : Operand} {ty : TypeId} {pos : String} {af : Array Edge} {g : Option (Nat × Bool)} (hT : P.underlying t = some .string) {s : ByteArray} {k : IntKind} {q : Nat} (hx : ev e x = some (.string s)) (hi : ev e i = some (.int k (q : Int))) (h1 : q < s.size) :
    Yld P n C e ⟨d, .index t x i, ty, pos, af, g⟩ (.int .u8 (bt s q).toNat) := by
  have := Yld.idxStr (P := P) (n := n) (C := C) (d := d) (ty := ty) (pos := pos) (af := af) (g := g) hT hx hi (by omega) (by omega)
  simpa using this
theorem Yld.indexAddrN {d : Option Tmp} {t el sz : Nat} {x i : Operand} {ty : TypeId} {pos : String} {af : Array Edge} {g : Option (Nat × Bool)} (hT : SlT P t el) {z : Value} {by' : Nat} (hE : TI P el z sz by') {b o len cap : Nat} {k : IntKind} {q : Nat}
    (hx : ev e x = some (.slice (some ⟨b, o, none⟩) len cap)) (hi : ev e i = some (.int k (q : Int))) (h1 : q < len) :
    Yld P n C e ⟨d, .indexAddr t x i, ty, pos, af, g⟩ (.pointer (some ⟨b, o + q * sz, none⟩)) := by
  have := Yld.indexAddr (P := P) (n := n) (C := C) (d := d) (ty := ty) (pos := pos) (af := af) (g := g) hT hE hx hi (by omega) (by omega)
  simpa using this
end
end Go.X
set_option linter.unusedVariables false
set_option linter.unusedSimpArgs false
namespace Go.X
open Go Go.RowKit
theorem flat_get {α : Type} (f : α → List Value) (sz : Nat) (hf : ∀ x, (f x).length = sz) : ∀ (xs : List α) (k j : Nat) (x : α), xs[k]? = some x → j < sz → (xs.flatMap f)[k * sz + j]? = (f x)[j]?
  | [], k, j, x, h, _ => by simp at h
  | y :: xs, 0, j, x, h, hj => by
    simp at h; subst h
    simp only [List.flatMap_cons, Nat.zero_mul, Nat.zero_add]
    rw [List.getElem?_append_left (by rw [hf]; exact hj)]
  | y :: xs, k + 1, j, x, h, hj => by
    simp only [List.flatMap_cons]
    have e : (k + 1) * sz + j = (f y).length + (k * sz + j) := by rw [hf, Nat.add_mul]; omega
    rw [e, List.getElem?_append_right (by omega), Nat.add_sub_cancel_left]
    exact flat_get f sz hf xs k j x (by simpa using h) hj
theorem Sl.elem {α : Type} {M : Nat → Prop} {w : World} {v : Value} {sz : Nat} {f : α → List Value} (hf : ∀ x, (f x).length = sz) {xs : List α} (h : Sl M w v sz xs.length (xs.flatMap f)) {k : Nat} {x : α} (hx : xs[k]? = some x) :
    ∃ b o c, v = .slice (some ⟨b, o, none⟩) xs.length c ∧ ¬ M b ∧ k < xs.length ∧ ∀ j u, (f x)[j]? = some u → w.cell? ⟨b, o + k * sz + j, none⟩ = some u := by
  have hk : k < xs.length := (List.getElem?_eq_some_iff.1 hx).1
  obtain ⟨ad, c, hv, hform⟩ := h.form
  obtain ⟨b, o, rfl, hb, hc⟩ := hform (by omega)
  refine ⟨b, o, c, hv, hb, hk, fun j u hj => ?_⟩
  have hjl : j < sz := by have := (List.getElem?_eq_some_iff.1 hj).1; rwa [hf] at this
  rw [Nat.add_assoc]
  exact hc (k * sz + j) u (by rw [flat_get f sz hf xs k j x hx hjl]; exact hj)
theorem Sl.elem1 {M : Nat → Prop} {w : World} {v : Value} {n : Nat} {cs : List Value} (h : Sl M w v 1 n cs) {k : Nat} {u : Value} (hu : cs[k]? = some u) :
    ∃ b o c, v = .slice (some ⟨b, o, none⟩) n c ∧ ¬ M b ∧ k < n ∧ ∀ j v, cs[j]? = some v → w.cell? ⟨b, o + j * 1, none⟩ = some v := by
  have hk : k < n := by have := (List.getElem?_eq_some_iff.1 hu).1; rw [h.len] at this; omega
  obtain ⟨ad, c, hv, hform⟩ := h.form
  obtain ⟨b, o, rfl, hb, hc⟩ := hform (by omega)
  exact ⟨b, o, c, hv, hb, hk, fun j v hj => by rw [Nat.mul_one]; exact hc j v hj⟩
theorem Sl.shape {M : Nat → Prop} {w : World} {v : Value} {sz n : Nat} {cs : List Value} (h : Sl M w v sz n cs) : ∃ ad c, v = .slice ad n c := by
  obtain ⟨ad, c, hv, _⟩ := h.form; exact ⟨ad, c, hv⟩
theorem Sl.open {M : Nat → Prop} {w : World} {v : Value} {sz n : Nat} {cs : List Value} (h : Sl M w v sz n cs) : ∃ ad c b o, v = .slice ad n c ∧ (0 < n → ad = some ⟨b, o, none⟩ ∧ ¬ M b ∧ ∀ j u, cs[j]? = some u → w.cell? ⟨b, o + j, none⟩ = some u) := by
  obtain ⟨ad, c, hv, hform⟩ := h.form
  by_cases hn : 0 < n
  · obtain ⟨b, o, ha, hb, hc⟩ := hform hn
    exact ⟨ad, c, b, o, hv, fun _ => ⟨ha, hb, hc⟩⟩
  · exact ⟨ad, c, 0, 0, hv, fun h' => absurd h' hn⟩
def Fresh (B : Nat) (v : Value) : Prop := ∀ b, v.ownBlock = some b → B ≤ b
theorem Sl.noM {M : Nat → Prop} {w : World} {v : Value} {sz n : Nat} {cs : List Value} (h : Sl M w v sz n cs) : Sl No w v sz n cs := ⟨h.len, h.big, by
  obtain ⟨ad, c, hv, hf⟩ := h.form
  exact ⟨ad, c, hv, fun hn => by obtain ⟨b, o, ha, _, hc⟩ := hf hn; exact ⟨b, o, ha, fun h => h, hc⟩⟩⟩
theorem bl_irrefl : ∀ l : List UInt8, Op.bytesLess l l = false
  | [] => rfl
  | a :: l => by simp [Op.bytesLess, bl_irrefl l]
theorem bl_trans : ∀ a b c : List UInt8, Op.bytesLess a b = true → Op.bytesLess b c = true → Op.bytesLess a c = true
  | _, [], _, h, _ => by cases ‹List UInt8› <;> simp [Op.bytesLess] at h
  | [], b :: bs, [], _, h => by simp [Op.bytesLess] at h
  | [], b :: bs, c :: cs, _, _ => rfl
  | a :: xs, b :: bs, [], _, h => by simp [Op.bytesLess] at h
  | a :: xs, b :: bs, c :: cs, h1, h2 => by
    simp only [Op.bytesLess, Bool.or_eq_true, decide_eq_true_eq, Bool.and_eq_true, beq_iff_eq] at h1 h2 ⊢
    rcases h1 with h1 | ⟨rfl, h1⟩
    · rcases h2 with h2 | ⟨rfl, h2⟩
      · exact .inl (UInt8.lt_trans h1 h2)
      · exact .inl h1
    · rcases h2 with h2 | ⟨rfl, h2⟩
      · exact .inl h2
      · exact .inr ⟨rfl, bl_trans xs bs cs h1 h2⟩
theorem bl_total : ∀ a b : List UInt8, Op.bytesLess a b = false → a ≠ b → Op.bytesLess b a = true
  | [], [], _, h => absurd rfl h
  | [], b :: bs, h, _ => by simp [Op.bytesLess] at h
  | a :: xs, [], _, _ => rfl
  | a :: xs, b :: bs, h, hne => by
    simp only [Op.bytesLess, Bool.or_eq_false_iff, decide_eq_false_iff_not, Bool.and_eq_false_iff, beq_eq_false_iff_ne, UInt8.not_lt] at h
    simp only [Op.bytesLess, Bool.or_eq_true, decide_eq_true_eq, Bool.and_eq_true, beq_iff_eq]
    by_cases e : a = b
    · subst e
      exact .inr ⟨rfl, bl_total xs bs (h.2.resolve_left (by simp)) fun h' => hne (by rw [h'])⟩
    · exact .inl (UInt8.lt_of_le_of_ne h.1 (Ne.symm e))
theorem slt_irrefl (a : ByteArray) : slt a a = false := bl_irrefl _
theorem slt_trans {a b c : ByteArray} (h : slt a b = true) (k : slt b c = true) : slt a c = true := bl_trans _ _ _ h k
theorem data_inj {a b : ByteArray} (h : a.data.toList = b.data.toList) : a = b := by
  cases a; cases b
  simp only [ByteArray.mk.injEq]
  exact Array.ext' h
theorem slt_total {a b : ByteArray} (h : slt a b = false) (hne : a ≠ b) : slt b a = true := bl_total _ _ h fun e => hne (data_inj e)
theorem slt_asymm {a b : ByteArray} (h : slt a b = true) : slt b a = false := by
  cases hb : slt b a with
  | false => rfl
  | true => have := slt_trans h hb; rw [slt_irrefl] at this; cases this
theorem sle_not (a b : ByteArray) : sle a b = !slt b a := by
  unfold sle
  by_cases e : a = b
  · subst e; simp [slt_irrefl]
  · cases h : slt a b with
    | true => simp [slt_asymm h]
    | false => simp [slt_total h e, e]
end Go.X
set_option linter.unusedVariables false
set_option linter.unusedSimpArgs false
namespace Go.X
open Go Go.RowKit
section
variable {P : Program} {n : Nat} {e : Env} {w : World} {C : World → Prop}
theorem Does.slice0 {d : Option Tmp} {t el : Nat} {ty : TypeId} {pos : String} {af : Array Edge} {g : Option (Nat × Bool)} (hS : SlT P t el) {z : Value} {sz by' : Nat} (hT : TI P el z sz by') :
    Does P n e w ⟨d, .buildSlice t 0 #[], ty, pos, af, g⟩ (fun u w' => ∃ b, u = .slice (some ⟨b, 0, none⟩) 0 0 ∧ New w w' b el []) := by
  refine Does.of_run (w' := w.alloc (.cells #[] el)) (v := .slice (some ⟨w.heap.size, 0, none⟩) 0 0) (fun a ha => ?_) ⟨_, rfl, by have := New.of w el []; simpa using this⟩
  simp [execOp, Instr.buildSlice, run_underlying hS, hT.sizeOf w, Instr.fill, newRow]
  exact congrArg (fun q => w.alloc (Obj.cells q el)) (by simp [Array.range])
def evP (e : Env) : List (Nat × Operand) → Option (List (Nat × Value))
  | [] => some []
  | (i, x) :: xs => match ev e x, evP e xs with
    | some v, some vs => some ((i, v) :: vs)
    | _, _ => none
theorem Fits.evP {a : Act} (ha : Fits e n a) : ∀ {xs : List (Nat × Operand)} {vs : List (Nat × Value)}, X.evP e xs = some vs → xs.map (fun p => (p.1, a.eval p.2)) = vs
  | [], vs, h => by simp [X.evP] at h; simp [h]
  | (i, x) :: xs, vs, h => by
    simp only [X.evP] at h
    split at h
    · rename_i v us hv hu
      simp only [Option.some.injEq] at h; subst h
      simp [ha.ev hv, Fits.evP ha hu]
    · cases h
theorem Yld.build {d : Option Tmp} {t : Nat} {parts : Array (Nat × Operand)} {ty : TypeId} {pos : String} {af : Array Edge} {g : Option (Nat × Bool)} {ps : List (Nat × Value)} {v : Value} (hp : evP e parts.toList = some ps) (hr : ∀ w, (Instr.build t ps.toArray).run P w = .ok v w) :
    Yld P n C e ⟨d, .build t parts, ty, pos, af, g⟩ v := by
  intro a ha w _
  have h1 := ha.evP hp
  have : (parts.map fun (p : Nat × Operand) => (p.1, a.eval p.2)) = ps.toArray := by rw [← h1, ← Array.toList_map]
  simp only [execOp, Sem.run_bind]
  rw [this, hr w]
  simp
theorem Yld.eqNil {d : Option Tmp} {t el : Nat} {x y : Operand} {t' ty : TypeId} {pos : String} {af : Array Edge} {g : Option (Nat × Bool)} (hS : SlT P t el) {ad : Option Addr} {l c : Nat} (hx : ev e x = some (.slice ad l c)) (hy : ev e y = some (.slice none 0 0)) :
    Yld P n C e ⟨d, .binOp .eql t x y t', ty, pos, af, g⟩ (.bool ad.isNone) := by
  intro a ha w _
  have h1 := run_equal_slice_nil (P := P) w t el ad l c hS
  simp only [execOp, ha.ev hx, ha.ev hy, Sem.run_bind, eqGuard, binOp, Sem.run_pure, Result.andThen_ok]
  simp [h1]
theorem Yld.max2 {d : Option Tmp} {t : Array TypeId} {x y : Operand} {ty : TypeId} {pos : String} {af : Array Edge} {g : Option (Nat × Bool)} {p q : Int} (hx : ev e x = some (.int .i64 p)) (hy : ev e y = some (.int .i64 q)) :
    Yld P n C e ⟨d, .call { callee := .builtin .max, args := #[x, y], argTypes := t }, ty, pos, af, g⟩ (.int .i64 (if q > p then q else p)) := by
  intro a ha w _
  simp [execOp, resolve, invoke, builtin, ha.ev hx, ha.ev hy, Builtin.max_, Builtin.max2]
theorem Yld.min2 {d : Option Tmp} {t : Array TypeId} {x y : Operand} {ty : TypeId} {pos : String} {af : Array Edge} {g : Option (Nat × Bool)} {p q : Int} (hx : ev e x = some (.int .i64 p)) (hy : ev e y = some (.int .i64 q)) :
    Yld P n C e ⟨d, .call { callee := .builtin .min, args := #[x, y], argTypes := t }, ty, pos, af, g⟩ (.int .i64 (if q < p then q else p)) := by
  intro a ha w _
  simp [execOp, resolve, invoke, builtin, ha.ev hx, ha.ev hy, Builtin.min_, Builtin.min2]
def Pair (P : Program) (t : TypeId) : Prop := P.eqGuardType P.depth t = false ∧ ∀ (a b c d : ByteArray) (w : World), (Op.equalIn 10000 t (.agg #[.string a, .string b]) (.agg #[.string c, .string d])).run P w = .ok (decide (a = c ∧ b = d)) w
theorem Pair.of {t s : TypeId} {f0 f1 : Field} (hg : P.eqGuardType P.depth t = false) (hp : P.stoodInHeld t = false) (ht : P.underlying t = some (.struct #[f0, f1])) (hs : P.underlying s = some .string) (h0 : f0.type = s) (h1 : f1.type = s) (o0 : f0.offset = 0) (o1 : f1.offset = 1) (n0 : f0.name ≠ "_") (n1 : f1.name ≠ "_") : Pair P t := by
  refine ⟨hg, fun a b c d w => ?_⟩
  have hf : P.fieldsOf t = #[f0, f1] := by simp [Program.fieldsOf, ht]
  rw [run_equalIn_struct w 9999 t _ _ (by rw [hf]; exact ht) hp, hf]
  have hpl : Plain P s := Plain.of hs rfl
  have he : ∀ a b w, (Op.equalIn 9999 s (.string a) (.string b)).run P w = .ok (decide (a = b)) w := fun a b w => by rw [run_equalIn_string w 9998 s a b hs, beqS]
  have hpt : ∀ (cs : Array Value) (o : Nat) (v : Value) w, cs[o]? = some v → (part s cs o).run P w = .ok v w := fun cs o v w h => by simp [part, hpl w, h]
  simp only [Op.eqFields, n0, n1, ne_eq, not_false_eq_true, if_true, h0, h1, o0, o1, Sem.run_bind]
  rw [hpt #[.string a, .string b] 0 (.string a) w (by simp)]
  simp only [Result.andThen_ok]
  rw [hpt #[.string c, .string d] 0 (.string c) w (by simp)]
  simp only [Result.andThen_ok, he]
  by_cases e1 : a = c
  · simp only [e1, decide_true, Bool.not_true, Bool.false_eq_true, if_false, Sem.run_bind]
    rw [hpt #[.string c, .string b] 1 (.string b) w (by simp)]
    simp only [Result.andThen_ok]
    rw [hpt #[.string c, .string d] 1 (.string d) w (by simp)]
    simp only [Result.andThen_ok, he]
    by_cases e2 : b = d
    · simp [e2]
    · simp [e2]
  · simp [e1]
end
end Go.X
namespace Go.X
open Go Go.RowKit
section
variable {P : Program} {n : Nat} {e : Env} {w : World} {C : World → Prop}
end
end Go.X
namespace Go.X
open Go Go.RowKit
section
variable {P : Program} {n : Nat} {e : Env} {w : World} {C : World → Prop}
theorem Yld.capSl {d : Option Tmp} {t el : Nat} {x : Operand} {ty : TypeId} {pos : String} {af : Array Edge} {g : Option (Nat × Bool)} (hT : SlT P t el) {ad : Option Addr} {len cap : Nat} (hx : ev e x = some (.slice ad len cap)) :
    Yld P n C e ⟨d, .call { callee := .builtin .cap, args := #[x], argTypes := #[t] }, ty, pos, af, g⟩ (.int .i64 cap) := by
  intro a ha w _
  simp [execOp, resolve, invoke, builtin, ha.ev hx, Builtin.cap_, run_underlying hT, goInt]
theorem add_zero_addr (a : Addr) : a.add 0 = a := rfl
theorem Yld.sliceHi {d : Option Tmp} {t el : Nat} {x h : Operand} {ty : TypeId} {pos : String} {af : Array Edge} {g : Option (Nat × Bool)} (hT : SlT P t el) {z : Value} {sz by' : Nat} (hE : TI P el z sz by') {ad : Option Addr} {len cap m : Nat} {k : IntKind} (hx : ev e x = some (.slice ad len cap)) (hh : ev e h = some (.int k (m : Int))) (hm : m ≤ cap) :
    Yld P n C e ⟨d, .slice t x none (some h) none, ty, pos, af, g⟩ (.slice ad m cap) := by
  intro a ha w _
  have h1 : (m : Int) ≤ cap := by omega
  have h2 : ¬ cap < m := by omega
  cases ad <;> simp [execOp, ha.ev hx, ha.ev hh, Instr.sliceAt, Instr.slice, run_underlying hT, Instr.sliceBounds, Instr.sliceBound, asIntOf, hE.sizeOf w, h1, hm, h2, add_zero_addr]
set_option maxRecDepth 10000 in
theorem Does.appendZ {d : Option Tmp} {t it el : Nat} {s x : Operand} {ty : TypeId} {pos : String} {af : Array Edge} {g : Option (Nat × Bool)} {ik : IntKind} (ht : SlT P t el) (hi : P.underlying it = some (.int ik)) {z : Value} {by' : Nat} (hT : TI P el z 1 by') (hz : z.cells.size = 1) (hb' : Nat.ble 1 by' = true) {m c : Nat} (hs : ev e s = some (.slice none 0 0)) (hx : ev e x = some (.int .i64 (m : Int))) (hm : 0 < m) (hb : m * by' ≤ 140737488355328) :
    Does P n e w ⟨d, .call { callee := .builtin .append, args := #[s, x], argTypes := #[t, it] }, ty, pos, af, g⟩
      (fun v w' => ∃ b cap cur, v = .slice (some ⟨b, 0, none⟩) m cap ∧ b = w.heap.size ∧ w'.heap[b]? = some (.cells cur el (0, 0)) ∧ m ≤ cap ∧ cap ≤ maxLen ∧ cur.size = cap * 1 ∧ Grow w w') := by
  obtain ⟨i, hi', hz', hs', hby'⟩ := hT.out
  have hby : 1 ≤ by' := by simpa using hb'
  have hmb : m ≤ 140737488355328 := Nat.le_trans (Nat.le_mul_of_pos_right _ hby) hb
  have hw : IntKind.i64.wrap (m : Int) = m := wrap_i64 (by omega) (by omega)
  have hge := grownCap_ge w m 0 el
  have hle := grownCap_le_maxLen w m 0 el (by simp only [maxLen]; omega)
  refine Does.of_run (v := .slice (some ⟨w.heap.size, 0, none⟩) m (grownCap w m 0 el)) (w' := w.drew.alloc (.cells (Builtin.zeroCells z.cells m ++ Builtin.zeroCells z.cells (grownCap w m 0 el - m)) el)) (fun a ha => ?_) ⟨_, _, _, rfl, rfl, heap_alloc_new w.drew _, hge, hle, ?_, (Mod.drew No w).trans (Mod.alloc No w.drew _)⟩
  · have n1 : ¬ ((m : Int) < 0) := by omega
    have n2 : ¬ (281474976710656 < (m : Int) * (by' : Int)) := by
      obtain ⟨q, hq⟩ : ∃ q, q = m * by' := ⟨_, rfl⟩
      have e1 : (q : Int) = (m : Int) * (by' : Int) := by rw [hq]; exact Int.natCast_mul m by'
      rw [← hq] at hb
      rw [← e1]
      omega
    have n3 : ¬ (m ≤ 0) := by omega
    have n4 : ¬ (9223372036854775807 < (m : Int)) := by omega
    have n5 : ¬ (281474976710656 < Builtin.nextslicecap m 0 * by') := by rw [nextslicecap_zero hm]; omega
    have n6 : m ≠ 0 := by omega
    simp [execOp, resolve, invoke, builtin, ha.ev hs, ha.ev hx, Builtin.append_, run_underlying ht, run_underlying hi, sizeOf, typeInfo, hi', hs', hby', hz', zeroValue, asInt, asIntOf, hw, n1, n2, n3, n4, n5, n6, hm, Question.forced, newRow, grownCap, Builtin.firstCells]
  · simp only [Array.size_append, size_zeroCells, hz]
    omega
end
end Go.X
namespace Go.X
open Go Go.RowKit
section
variable {P : Program} {n : Nat} {e : Env} {w : World}
theorem Does.bslice {d : Option Tmp} {t el len : Nat} {parts : Array (Nat × Operand)} {ty : TypeId} {pos : String} {af : Array Edge} {g : Option (Nat × Bool)} {ps : List (Nat × Value)} (cs : List Value) (hp : evP e parts.toList = some ps)
    (hr : ∀ w, (Instr.buildSlice t len ps.toArray).run P w = .ok (.slice (some ⟨w.heap.size, 0, none⟩) len len) (w.alloc (.cells cs.toArray el))) :
    Does P n e w ⟨d, .buildSlice t len parts, ty, pos, af, g⟩ (fun u w' => ∃ b, u = .slice (some ⟨b, 0, none⟩) len len ∧ New w w' b el cs) := by
  refine Does.of_run (w' := w.alloc (.cells cs.toArray el)) (v := .slice (some ⟨w.heap.size, 0, none⟩) len len) (fun a ha => ?_) ⟨_, rfl, New.of w el cs⟩
  have h1 := ha.evP hp
  have : (parts.map fun (p : Nat × Operand) => (p.1, a.eval p.2)) = ps.toArray := by rw [← h1, ← Array.toList_map]
  simp only [execOp, Sem.run_bind]
  rw [this, hr w]
  simp
end
end Go.X
set_option linter.unusedVariables false
set_option linter.unusedSimpArgs false
namespace Go.X
open Go Go.RowKit
def placeM {κ α : Type} [DecidableEq κ] (k : κ) : List (κ × α) → Option (Nat × α)
  | [] => none
  | (j, v) :: l => if k = j then some (0, v) else (placeM k l).map fun p => (p.1 + 1, p.2)
def lookM {κ α : Type} [DecidableEq κ] (l : List (κ × α)) (k : κ) : Option α := (placeM k l).map (·.2)
structure KeyLaw (P : Program) (kt : TypeId) {κ : Type} [DecidableEq κ] (enc : κ → Value) : Prop where
  check : ∀ (b : Bool) (k : κ) (w : World), (Instr.checkKey b 10000 kt (enc k)).run P w = .ok () w
  find : ∀ (k : κ) (es : List MapEntry) (l : List (κ × Value)) (w : World), es.map (fun e => (e.key, e.val)) = l.map (fun p => (enc p.1, p.2)) → (Instr.findKey kt (enc k) es).run P w = .ok (placeM k l) w
  same : ∀ k, Instr.sameBits 10000 (enc k) (enc k) = true
theorem checkKey_int {P : Program} {kt : TypeId} (h : P.underlying kt = some (.int .i64)) (n : Nat) (b : Bool) (k : Int) (w : World) : (Instr.checkKey b (n + 1) kt (.int .i64 k)).run P w = .ok () w := by
  simp only [Instr.checkKey, Sem.run_bind, run_underlying h, Result.andThen_ok, Sem.run_pure]
theorem checkKey_pair {P : Program} {kt s : TypeId} {f0 f1 : Field} (ht : P.underlying kt = some (.struct #[f0, f1])) (hs : P.underlying s = some .string) (h0 : f0.type = s) (h1 : f1.type = s) (o0 : f0.offset = 0) (o1 : f1.offset = 1) (n0 : f0.name ≠ "_") (n1 : f1.name ≠ "_") (n : Nat) (b : Bool) (k : ByteArray × ByteArray) (w : World) :
    (Instr.checkKey b (n + 1 + 1) kt (.agg #[.string k.1, .string k.2])).run P w = .ok () w := by
  have hpl : Plain P s := Plain.of hs rfl
  simp only [Instr.checkKey.eq_2, Sem.run_bind, run_underlying ht, Result.andThen_ok]
  rw [← Array.forIn_toList]
  have hpt : ∀ (cs : Array Value) (o : Nat) (v : Value) w, cs[o]? = some v → (part s cs o).run P w = .ok v w := fun cs o v w h => by simp [part, hpl w, h]
  have hc : ∀ (a : ByteArray) (b : Bool) w, (Instr.checkKey b (n + 1) s (.string a)).run P w = .ok () w := fun a b w => by simp [Instr.checkKey, run_underlying hs]
  have e0 := hpt #[.string k.1, .string k.2] 0 (.string k.1) w (by simp)
  have e1 := hpt #[.string k.1, .string k.2] 1 (.string k.2) w (by simp)
  simp [n0, n1, h0, h1, o0, o1, e0, e1, run_underlying hs]
theorem KeyLaw.int {P : Program} {kt : TypeId} (h : P.underlying kt = some (.int .i64)) : KeyLaw P kt (Value.int .i64) where
  check b k w := checkKey_int h 9999 b k w
  find k es l w he := by
    have key : ∀ (es : List MapEntry) (l : List (Int × Value)) (i : Nat), es.map (fun e => (e.key, e.val)) = l.map (fun p => (Value.int .i64 p.1, p.2)) → Instr.findNow (.int .i64) (.int .i64 k) es i = some ((placeM k l).map fun p => (p.1 + i, p.2)) := by
      intro es
      induction es with
      | nil => intro l i h; cases l with | nil => rfl | cons p l => simp at h
      | cons e es ih =>
        intro l i h
        cases l with
        | nil => simp at h
        | cons p l =>
          simp only [List.map_cons, List.cons.injEq, Prod.mk.injEq] at h
          obtain ⟨⟨h1, h2⟩, h3⟩ := h
          simp only [Instr.findNow, h1, Instr.sameNow, if_true, placeM]
          by_cases hk : k = p.1
          · simp [hk, h2]
          · have : (k == p.1) = false := by simpa using hk
            simp only [this, if_neg hk, ih l (i + 1) h3, Option.map_map]
            congr 1
            cases placeM k l with
            | none => rfl
            | some q => simp; omega
    simp only [Instr.findKey, Sem.run_bind, run_underlying h, Result.andThen_ok, key es l 0 he]
    cases placeM k l <;> simp
  same k := by unfold Instr.sameBits; simp
def pairV (p : ByteArray × ByteArray) : Value := .agg #[.string p.1, .string p.2]
theorem KeyLaw.pair {P : Program} {kt s : TypeId} {f0 f1 : Field} (ht : P.underlying kt = some (.struct #[f0, f1])) (hs : P.underlying s = some .string) (h0 : f0.type = s) (h1 : f1.type = s) (o0 : f0.offset = 0) (o1 : f1.offset = 1) (n0 : f0.name ≠ "_") (n1 : f1.name ≠ "_") (hp : Pair P kt) : KeyLaw P kt pairV where
  check b k w := checkKey_pair ht hs h0 h1 o0 o1 n0 n1 9998 b k w
  find k es l w he := by
    have ask : ∀ (es : List MapEntry) (l : List ((ByteArray × ByteArray) × Value)) (i : Nat), es.map (fun e => (e.key, e.val)) = l.map (fun p => (pairV p.1, p.2)) → (Instr.findAsking kt (pairV k) es i).run P w = .ok ((placeM k l).map fun p => (p.1 + i, p.2)) w := by
      intro es
      induction es with
      | nil => intro l i h; cases l with | nil => rfl | cons p l => simp at h
      | cons e es ih =>
        intro l i h
        cases l with
        | nil => simp at h
        | cons p l =>
          simp only [List.map_cons, List.cons.injEq, Prod.mk.injEq] at h
          obtain ⟨⟨h1, h2⟩, h3⟩ := h
          have he := hp.2 k.1 k.2 p.1.1 p.1.2 w
          simp only [Instr.findAsking, h1, Sem.run_bind, Op.equal, Op.maxDepth, pairV, he, Result.andThen_ok, placeM]
          by_cases hk : k = p.1
          · simp [hk, h2]
          · have hk' : ¬ (k.1 = p.1.1 ∧ k.2 = p.1.2) := fun ⟨a, b⟩ => hk (Prod.ext a b)
            simp only [hk', decide_false, Bool.false_eq_true, if_false, if_neg hk]
            have := ih l (i + 1) h3
            simp only [pairV] at this
            rw [this]
            cases placeM k l with
            | none => rfl
            | some q => simp; omega
    have hn : Instr.findNow (.struct #[f0, f1]) (pairV k) es 0 = some none ∧ es = [] ∨ Instr.findNow (.struct #[f0, f1]) (pairV k) es 0 = none := by
      cases es with
      | nil => exact .inl ⟨rfl, rfl⟩
      | cons e es => right; simp [Instr.findNow, Instr.sameNow]
    simp only [Instr.findKey, Sem.run_bind, run_underlying ht, Result.andThen_ok]
    rcases hn with ⟨h, rfl⟩ | h
    · rw [h]
      cases l with
      | nil => rfl
      | cons p l => simp at he
    · rw [h]
      have := ask es l 0 he
      simp only [Nat.add_zero] at this
      rw [this]
      cases placeM k l <;> rfl
  same k := by
    rw [show (10000 : Nat) = 9999 + 1 from rfl]
    have hb : ∀ a : ByteArray, (a == a) = true := fun a => by rw [beq_toListBytes]; simp
    have h1 : ∀ n (a : ByteArray), Instr.sameBits n (.string a) (.string a) = true := fun n a => by unfold Instr.sameBits; exact hb a
    simp [pairV, Instr.sameBits, hb]
structure MapAt {κ : Type} (enc : κ → Value) (w : World) (m : Nat) (l : List (κ × Value)) : Prop where
  out : ∃ es clock, w.heap[m]? = some (.map es clock) ∧ es.toList.map (fun e => (e.key, e.val)) = l.map (fun p => (enc p.1, p.2)) ∧ (es.toList.map (·.born)).Nodup ∧ ∀ e ∈ es.toList, e.born < clock
theorem MapAt.mod {κ : Type} {enc : κ → Value} {M : Nat → Prop} {w w' : World} {m : Nat} {l : List (κ × Value)} (h : MapAt enc w m l) (hm : Mod M w w') (hn : ¬ M m) : MapAt enc w' m l := by
  obtain ⟨es, c, h1, h2⟩ := h.out
  exact ⟨es, c, hm.heap h1 hn, h2⟩
theorem MapAt.lt {κ : Type} {enc : κ → Value} {w : World} {m : Nat} {l : List (κ × Value)} (h : MapAt enc w m l) : m < w.heap.size := by
  obtain ⟨es, c, h1, _⟩ := h.out
  exact (Array.getElem?_eq_some_iff.1 h1).1
def putM {κ α : Type} [DecidableEq κ] (l : List (κ × α)) (k : κ) (v : α) : List (κ × α) := match placeM k l with
  | some (i, _) => l.modify i fun p => (p.1, v)
  | none => l ++ [(k, v)]
def cutM {κ α : Type} [DecidableEq κ] (l : List (κ × α)) (k : κ) : List (κ × α) := match placeM k l with
  | some (i, _) => l.eraseIdx i
  | none => l
section
variable {P : Program} {n : Nat} {e : Env} {w : World} {C : World → Prop} {κ : Type} [DecidableEq κ] {enc : κ → Value}
theorem placeM_get {α : Type} {k : κ} : ∀ {l : List (κ × α)} {i : Nat} {v : α}, placeM k l = some (i, v) → l[i]? = some (k, v)
  | [], i, v, h => by simp [placeM] at h
  | (j, u) :: l, i, v, h => by
    simp only [placeM] at h
    by_cases hk : k = j
    · rw [if_pos hk] at h; cases h; simp [hk]
    · rw [if_neg hk] at h
      cases hp : placeM k l with
      | none => simp [hp] at h
      | some q =>
        simp [hp] at h
        obtain ⟨rfl, rfl⟩ := h
        simpa using placeM_get (l := l) (i := q.1) (v := q.2) (by rw [hp])
theorem Does.makeMap {d : Option Tmp} {t : Nat} {ty : TypeId} {pos : String} {af : Array Edge} {g : Option (Nat × Bool)} {κ : Type} (enc : κ → Value) :
    Does P n e w ⟨d, .makeMap t none, ty, pos, af, g⟩ (fun u w' => ∃ m, u = .map (some m) ∧ m = w.heap.size ∧ MapAt enc w' m [] ∧ Grow w w' ∧ w'.heap.size = w.heap.size + 1) := by
  refine Does.of_run (w' := w.alloc (.map #[] 0)) (v := .map (some w.heap.size)) (fun a ha => ?_) ⟨_, rfl, rfl, ⟨#[], 0, heap_alloc_new w _, by simp, by simp, by simp⟩, Mod.alloc _ _ _, by simp⟩
  simp [execOp, Instr.makeMap]
theorem Yld.lookup {d : Option Tmp} {t kt el : Nat} {x i : Operand} {ok : Bool} {ty : TypeId} {pos : String} {af : Array Edge} {g : Option (Nat × Bool)} (hT : P.underlying t = some (.map kt el)) (hK : KeyLaw P kt enc) {z : Value} {sz by' : Nat} (hE : TI P el z sz by') {m : Nat} {k : κ} {l : List (κ × Value)}
    (hx : ev e x = some (.map (some m))) (hi : ev e i = some (enc k)) (hm : ∀ w, C w → MapAt enc w m l) :
    Yld P n C e ⟨d, .lookup t x i ok, ty, pos, af, g⟩ (if ok then .tuple #[(lookM l k).getD z, .bool (lookM l k).isSome] else (lookM l k).getD z) := by
  intro a ha w hw
  obtain ⟨es, c, h1, h2, _⟩ := (hm w hw).out
  have hf := hK.find k es.toList l w h2
  simp only [execOp, ha.ev hx, ha.ev hi, Instr.lookup, Sem.run_bind, run_underlying hT, Result.andThen_ok]
  have hg : (getObj m).run P w = .ok (.map es c) w := by simp [getObj, Sem.run, h1]
  simp only [hg, Result.andThen_ok, Sem.run_bind, Sem.run_pure, hK.check, hf, lookM]
  cases placeM k l with
  | none => cases ok <;> simp [hE.zero w]
  | some q => cases ok <;> simp
theorem map_modify {α β : Type} (f : α → β) (g : α → α) (g' : β → β) (h : ∀ x, f (g x) = g' (f x)) : ∀ (l : List α) (i : Nat), (l.modify i g).map f = (l.map f).modify i g'
  | [], i => by simp
  | x :: l, 0 => by simp [h]
  | x :: l, i + 1 => by simp [map_modify f g g' h l i]
theorem Does.mapUpdate {d : Option Tmp} {t kt el : Nat} {x i y : Operand} {ty : TypeId} {pos : String} {af : Array Edge} {g : Option (Nat × Bool)} (hT : P.underlying t = some (.map kt el)) (hK : KeyLaw P kt enc) {m : Nat} {k : κ} {v : Value} {l : List (κ × Value)}
    (hx : ev e x = some (.map (some m))) (hi : ev e i = some (enc k)) (hy : ev e y = some v) (hm : MapAt enc w m l) :
    Does P n e w ⟨d, .mapUpdate t x i y, ty, pos, af, g⟩ (fun _ w' => MapAt enc w' m (putM l k v) ∧ Mod (· = m) w w' ∧ w'.heap.size = w.heap.size) := by
  obtain ⟨es, c, h1, h2, h3, h4⟩ := hm.out
  have hlt : m < w.heap.size := (Array.getElem?_eq_some_iff.1 h1).1
  have hf := hK.find k es.toList l w h2
  have hg : (getObj m).run P w = .ok (.map es c) w := by simp [getObj, Sem.run, h1]
  have hset : ∀ o, (setObj m o).run P w = .ok () { w with heap := w.heap.setIfInBounds m o } := fun o => by simp [setObj, Sem.run, h1]
  have hmod : ∀ o, Mod (· = m) w { w with heap := w.heap.setIfInBounds m o } := fun o => ⟨rfl, rfl, rfl, by simp, fun k hk hn => by simp [Array.getElem?_setIfInBounds_ne (Ne.symm hn)]⟩
  have hat : ∀ o, ({ w with heap := w.heap.setIfInBounds m o } : World).heap[m]? = some o := fun o => by simp [hlt]
  cases hp : placeM k l with
  | some q =>
    obtain ⟨i0, v0⟩ := q
    have hget := placeM_get hp
    have hk0 : (es.toList[i0]?).map (fun e => (e.key, e.val)) = some (enc k, v0) := by
      rw [← List.getElem?_map, h2, List.getElem?_map, hget]; rfl
    obtain ⟨e0, he0, hek⟩ : ∃ e0, es[i0]? = some e0 ∧ e0.key = enc k := by
      cases hh : es.toList[i0]? with
      | none => rw [hh] at hk0; simp at hk0
      | some e0 => rw [hh] at hk0; simp at hk0; exact ⟨e0, by simpa using hh, hk0.1⟩
    refine Does.of_skip (w' := { w with heap := w.heap.setIfInBounds m (.map (es.modify i0 fun e => { e with key := enc k, val := v }) c) }) (fun a ha => ?_) ⟨⟨_, c, hat _, ?_, ?_, ?_⟩, hmod _, by simp⟩
    · simp only [execOp, ha.ev hx, ha.ev hi, ha.ev hy, Instr.mapUpdate, Sem.run_bind, run_underlying hT, Result.andThen_ok, hg, hK.check, hf, hp, he0, Option.map_some, Option.getD_some, hek, Instr.keyThatStays, hK.same, if_true, Sem.run_pure, hset]
    · simp only [putM, hp, Array.toList_modify]
      rw [map_modify (fun e : MapEntry => (e.key, e.val)) _ (fun _ => (enc k, v)) (fun x => rfl), h2]
      have hkey : l[i0]? = some (k, v0) := hget
      apply List.ext_getElem?
      intro j
      simp only [List.getElem?_modify, List.getElem?_map]
      by_cases hj : i0 = j
      · subst hj; simp [hkey]
      · simp [hj]
    · simp only [Array.toList_modify]
      rw [map_modify (fun e : MapEntry => e.born) (fun e => { key := enc k, val := v, born := e.born }) id (fun x => rfl)]
      have : (es.toList.map (·.born)).modify i0 id = es.toList.map (·.born) := by
        apply List.ext_getElem?
        intro j
        simp [List.getElem?_modify]
      rw [this]; exact h3
    · intro x hx'
      simp only [Array.toList_modify] at hx'
      obtain ⟨j, hj⟩ := List.getElem?_of_mem hx'
      simp only [List.getElem?_modify] at hj
      cases hh : es.toList[j]? with
      | none => simp [hh] at hj
      | some y =>
        have := h4 y (List.mem_of_getElem? hh)
        simp only [hh, Option.map_some] at hj
        split at hj <;> (simp at hj; subst hj; exact this)
  | none =>
    refine Does.of_skip (w' := { w with heap := w.heap.setIfInBounds m (.map (es.push { key := enc k, val := v, born := c }) (c + 1)) }) (fun a ha => ?_) ⟨⟨_, c + 1, hat _, ?_, ?_, ?_⟩, hmod _, by simp⟩
    · simp only [execOp, ha.ev hx, ha.ev hi, ha.ev hy, Instr.mapUpdate, Sem.run_bind, run_underlying hT, Result.andThen_ok, hg, hK.check, hf, hp, Sem.run_pure, hset]
    · simp [putM, hp, h2]
    · simp only [Array.toList_push, List.map_append, List.map_cons, List.map_nil]
      rw [List.nodup_append]
      refine ⟨h3, by simp, fun a ha b hb => ?_⟩
      simp at hb; subst hb
      obtain ⟨x, hx', rfl⟩ := List.mem_map.1 ha
      have := h4 x hx'
      omega
    · intro x hx'
      simp only [Array.toList_push, List.mem_append, List.mem_singleton] at hx'
      rcases hx' with h | rfl
      · have := h4 x h; omega
      · simp
theorem Yld.lenMap {d : Option Tmp} {t kt el : Nat} {x : Operand} {ty : TypeId} {pos : String} {af : Array Edge} {g : Option (Nat × Bool)} (hT : P.underlying t = some (.map kt el)) {m : Nat} {κ : Type} {enc : κ → Value} {l : List (κ × Value)} (hx : ev e x = some (.map (some m))) (hm : ∀ w, C w → MapAt enc w m l) :
    Yld P n C e ⟨d, .call { callee := .builtin .len, args := #[x], argTypes := #[t] }, ty, pos, af, g⟩ (.int .i64 l.length) := by
  intro a ha w hw
  obtain ⟨es, c, h1, h2, _⟩ := (hm w hw).out
  have hl : es.size = l.length := by have := congrArg List.length h2; simpa using this
  have hg : (getObj m).run P w = .ok (.map es c) w := by simp [getObj, Sem.run, h1]
  simp [execOp, resolve, invoke, builtin, ha.ev hx, Builtin.len_, run_underlying hT, hg, goInt, hl]
end
end Go.X
set_option linter.unusedVariables false
set_option linter.unusedSimpArgs false
namespace Go.X
open Go Go.RowKit
section
variable {κ α β : Type} [DecidableEq κ]
theorem placeM_map (g : α → β) (k : κ) : ∀ l : List (κ × α), placeM k (l.map fun t => (t.1, g t.2)) = (placeM k l).map fun p => (p.1, g p.2)
  | [] => rfl
  | (j, a) :: l => by
    simp only [List.map_cons, placeM]
    by_cases h : k = j
    · simp [h]
    · simp only [if_neg h, placeM_map g k l, Option.map_map]
      cases placeM k l <;> rfl
theorem lookM_map (g : α → β) (k : κ) (l : List (κ × α)) : lookM (l.map fun t => (t.1, g t.2)) k = (lookM l k).map g := by
  simp only [lookM, placeM_map, Option.map_map]
  cases placeM k l <;> rfl
theorem putM_map (g : α → β) (k : κ) (a : α) (l : List (κ × α)) : putM (l.map fun t => (t.1, g t.2)) k (g a) = (putM l k a).map fun t => (t.1, g t.2) := by
  simp only [putM, placeM_map]
  cases placeM k l with
  | none => simp
  | some p =>
    simp only [Option.map_some]
    apply List.ext_getElem?
    intro j
    simp only [List.getElem?_modify, List.getElem?_map]
    by_cases h : p.1 = j
    · simp [h]; cases l[j]? <;> rfl
    · simp [h]
theorem cutM_map (g : α → β) (k : κ) (l : List (κ × α)) : cutM (l.map fun t => (t.1, g t.2)) k = (cutM l k).map fun t => (t.1, g t.2) := by
  simp only [cutM, placeM_map]
  cases placeM k l with
  | none => rfl
  | some p =>
    simp only [Option.map_some]
    have : ∀ (l : List (κ × α)) (i : Nat), (l.map fun t => (t.1, g t.2)).eraseIdx i = (l.eraseIdx i).map fun t => (t.1, g t.2) := by
      intro l
      induction l with
      | nil => intro i; simp
      | cons x l ih => intro i; cases i with
        | zero => simp
        | succ i => simp [ih]
    exact this l p.1
theorem placeM_none {k : κ} : ∀ {l : List (κ × α)}, placeM k l = none ↔ k ∉ l.map (·.1)
  | [] => by simp [placeM]
  | (j, a) :: l => by
    simp only [placeM, List.map_cons, List.mem_cons, not_or]
    by_cases h : k = j
    · simp [h]
    · simp only [if_neg h, Option.map_eq_none_iff, placeM_none (l := l)]
      simp [h]
theorem putM_len (l : List (κ × α)) (k : κ) (a : α) : (putM l k a).length = if k ∈ l.map (·.1) then l.length else l.length + 1 := by
  unfold putM
  cases h : placeM k l with
  | none => have := placeM_none.1 h; simp only [if_neg this]; simp
  | some p => have : k ∈ l.map (·.1) := Classical.byContradiction fun h' => by rw [placeM_none.2 h'] at h; cases h
              simp only [if_pos this]; simp
theorem putM_keys (l : List (κ × α)) (k : κ) (a : α) : (putM l k a).map (·.1) = if k ∈ l.map (·.1) then l.map (·.1) else l.map (·.1) ++ [k] := by
  unfold putM
  cases h : placeM k l with
  | none => have := placeM_none.1 h; simp only [if_neg this]; simp
  | some p =>
    have : k ∈ l.map (·.1) := Classical.byContradiction fun h' => by rw [placeM_none.2 h'] at h; cases h
    simp only [if_pos this]
    apply List.ext_getElem?
    intro j
    simp only [List.getElem?_map, List.getElem?_modify]
    cases l[j]? with
    | none => rfl
    | some x => by_cases hp : p.1 = j <;> simp [hp]
theorem mem_putM {l : List (κ × α)} {k : κ} {a : α} {t : κ × α} (h : t ∈ putM l k a) : t ∈ l ∨ t = (k, a) := by
  unfold putM at h
  cases hp : placeM k l with
  | none => rw [hp] at h; simpa using h
  | some p =>
    rw [hp] at h
    obtain ⟨j, hj⟩ := List.getElem?_of_mem h
    simp only [List.getElem?_modify] at hj
    cases hl : l[j]? with
    | none => simp [hl] at hj
    | some x =>
      simp only [hl, Option.map_some] at hj
      by_cases hpj : p.1 = j
      · simp [hpj] at hj
        have hg := placeM_get (l := l) (i := p.1) (v := p.2) (by rw [hp])
        rw [hpj, hl] at hg
        cases hg
        exact .inr hj.symm
      · simp [hpj] at hj
        exact .inl (hj ▸ List.mem_of_getElem? hl)
theorem lookM_mem {l : List (κ × α)} {k : κ} {a : α} (h : lookM l k = some a) : (k, a) ∈ l := by
  unfold lookM at h
  cases hp : placeM k l with
  | none => simp [hp] at h
  | some p => simp [hp] at h; subst h; exact List.mem_of_getElem? (placeM_get (l := l) (i := p.1) (v := p.2) (by rw [hp]))
end
def Ty (w : World) (b : Nat) (t : TypeId) : Prop := ∃ cs s, w.heap[b]? = some (.cells cs t s)
def Mp (w : World) (b : Nat) : Prop := ∃ es c, w.heap[b]? = some (.map es c)
theorem Blk.ty {w : World} {b t : Nat} {cs : List Value} (h : Blk w b t cs) : Ty w b t := ⟨_, _, h⟩
theorem MapAt.mp {κ : Type} {enc : κ → Value} {w : World} {m : Nat} {l : List (κ × Value)} (h : MapAt enc w m l) : Mp w m := by
  obtain ⟨es, c, h1, _⟩ := h.out; exact ⟨es, c, h1⟩
theorem Row.ty {w : World} {t : TypeId} {sz : Nat} {v : Value} {k : Nat} {xs : List Value} (h : Row w t sz v k xs) {b : Nat} (hb : v.ownBlock = some b) : Ty w b t := by
  rcases h.2 with ⟨rfl, rfl⟩ | ⟨g, cap, cur, rfl, _, hg, _⟩
  · simp [Value.ownBlock] at hb
  · simp [Value.ownBlock] at hb; subst hb; exact ⟨_, _, hg⟩
theorem Ty.ne {w : World} {a b t u : Nat} (h : Ty w a t) (k : Ty w b u) (hn : Nat.beq t u = false) : a ≠ b := by
  rintro rfl
  obtain ⟨_, _, h⟩ := h
  obtain ⟨_, _, k⟩ := k
  rw [h] at k
  cases k
  simp at hn
theorem Ty.nem {w : World} {a b t : Nat} (h : Ty w a t) (k : Mp w b) : a ≠ b := by
  rintro rfl
  obtain ⟨_, _, h⟩ := h
  obtain ⟨_, _, k⟩ := k
  rw [h] at k
  cases k
theorem Ty.lt {w : World} {b t : Nat} (h : Ty w b t) : b < w.heap.size := by
  obtain ⟨_, _, h⟩ := h; exact (Array.getElem?_eq_some_iff.1 h).1
theorem Mp.lt {w : World} {b : Nat} (h : Mp w b) : b < w.heap.size := by
  obtain ⟨_, _, h⟩ := h; exact (Array.getElem?_eq_some_iff.1 h).1
theorem Sl.row {M : Nat → Prop} {w : World} {t : TypeId} {sz n : Nat} {v : Value} {xs : List Value} (h : Row w t sz v n xs) (hM : ∀ k, v.ownBlock = some k → ¬ M k) : Sl M w v sz n xs := Sl.own h hM
section
variable {P : Program} {n : Nat} {e : Env} {w : World} {C : World → Prop}
theorem Does.mkSlice {d : Option Tmp} {t el : Nat} {x y : Operand} {ty : TypeId} {pos : String} {af : Array Edge} {g : Option (Nat × Bool)} (ht : SlT P t el) {z : Value} {by' : Nat} (hT : TI P el z 1 by') (hz : z.cells = #[z]) {m : Nat} (hx : ev e x = some (.int .i64 (m : Int))) (hy : ev e y = some (.int .i64 (m : Int))) (hb : by' * m ≤ 140737488355328) (hm : m ≤ 140737488355328) :
    Does P n e w ⟨d, .makeSlice t x y, ty, pos, af, g⟩ (fun v w' => ∃ b, v = .slice (some ⟨b, 0, none⟩) m m ∧ New w w' b el (List.replicate m z)) := by
  obtain ⟨i, hi', hz', hs', hby'⟩ := hT.out
  have hr := run_make (P := P) w t el i z ht hi' hz' .i64 .i64 m m (by omega) (Int.le_refl _) (by have : ((by' * m : Nat) : Int) ≤ 140737488355328 := by omega
                                                                                                  rw [Int.natCast_mul] at this; rw [hby']; omega) (by omega)
  rw [hs', hz, Nat.mul_one] at hr
  simp only [Int.toNat_natCast] at hr
  refine Does.of_run (w' := w.alloc (.cells (madeCells #[z] m) el)) (v := .slice (some ⟨w.heap.size, 0, none⟩) m m) (fun a ha => ?_) ⟨_, rfl, ?_⟩
  · simp only [execOp, ha.ev hx, ha.ev hy, Sem.run_bind, hr, Result.andThen_ok, Sem.run_pure]
  · have := New.of w el (List.replicate m z)
    have e2 : madeCells #[z] m = (List.replicate m z).toArray := by rw [← toList_madeCells_one]
    rwa [← e2] at this
end
end Go.X
set_option linter.unusedVariables false
set_option linter.unusedSimpArgs false
namespace Go.X
open Go Go.RowKit
section
variable {P : Program} {n : Nat} {e : Env} {w : World} {C : World → Prop}
theorem Yld.convI {d : Option Tmp} {src dst : Nat} {x : Operand} {ty : TypeId} {pos : String} {af : Array Edge} {g : Option (Nat × Bool)} {de : TypeDesc} {k k' : IntKind} {a : Int} (hs : P.underlying src = some de) (hd : P.underlying dst = some (.int k)) (hx : ev e x = some (.int k' a)) :
    Yld P n C e ⟨d, .convert src dst x, ty, pos, af, g⟩ (.int k (k.wrap a)) := by
  intro ac ha w _
  simp [execOp, ha.ev hx, convert, run_underlying hs, run_underlying hd, Conv.intToInt]
def mkS (xs : List Int) : ByteArray := xs.foldl (fun r n => r.push (UInt8.ofNat n.toNat)) ByteArray.empty
end
theorem Blk.at1 {w : World} {b t : Nat} {cs : List Value} (h : Blk w b t cs) {k : Nat} {v : Value} (hn : cs[k]? = some v) : w.cell? ⟨b, 0 + k * 1, none⟩ = some v := by rw [Nat.zero_add, Nat.mul_one]; exact h.cell' hn
theorem Row.blk {w : World} {b : Nat} {t : TypeId} {cs : List Value} (h : Blk w b t cs) (sz k : Nat) (hl : cs.length = k * sz) (hk : k ≤ 9223372036854775807) : Row w t sz (.slice (some ⟨b, 0, none⟩) k k) k cs :=
  ⟨hl, .inr ⟨b, k, cs.toArray, rfl, Nat.zero_le _, h, Nat.le_refl _, by simp only [maxLen]; omega, by simp [hl], by simp [← hl]⟩⟩
theorem Row.open {w : World} {t : TypeId} {sz : Nat} {v : Value} {k : Nat} {xs : List Value} (h : Row w t sz v k xs) (hk : 0 < k) : ∃ g cap tl, v = .slice (some ⟨g, 0, none⟩) k cap ∧ Blk w g t (xs ++ tl) ∧ ∀ (w' : World) (xs' : List Value), xs'.length = xs.length → Blk w' g t (xs' ++ tl) → Row w' t sz v k xs' := by
  have hl := h.1
  rcases h.2 with ⟨rfl, rfl⟩ | ⟨g, cap, cur, rfl, hb, hg, hnc, hcm, hcs, htk⟩
  · omega
  · have e : cur.toList = xs ++ cur.toList.drop (k * sz) := by rw [← htk, List.take_append_drop]
    refine ⟨g, cap, cur.toList.drop (k * sz), rfl, ?_, fun w' xs' hl' hb' => ⟨by rw [hl', hl], .inr ⟨g, cap, _, rfl, hb, hb', hnc, hcm, ?_, ?_⟩⟩⟩
    · unfold Blk; rw [← e]; simpa using hg
    · have := congrArg List.length e; simp at this; simp [hl']; omega
    · rw [show k * sz = xs'.length from by rw [hl', hl]]; simp
end Go.X
namespace Go.X
open Go Go.RowKit
section
variable {P : Program} {n : Nat} {e : Env} {w : World} {C : World → Prop}
theorem Yld.eqPtr {d : Option Tmp} {t el : Nat} {x y : Operand} {t' ty : TypeId} {pos : String} {af : Array Edge} {g : Option (Nat × Bool)} (hT : P.underlying t = some (.pointer el)) {p : Option Addr} (hx : ev e x = some (.pointer p)) (hy : ev e y = some (.pointer none)) :
    Yld P n C e ⟨d, .binOp .eql t x y t', ty, pos, af, g⟩ (.bool p.isNone) := by
  intro a ha w _
  have hp : P.underlying t = some (.pointer (P.pointee t)) := by rw [hT]; simp [Program.pointee, hT]
  have h1 := run_equal_pointer_nil (P := P) w t p hp
  simp only [execOp, ha.ev hx, ha.ev hy, Sem.run_bind, eqGuard, binOp, Sem.run_pure, Result.andThen_ok]
  simp [h1]
end
end Go.X
set_option linter.unusedVariables false
namespace Go.X
open Go Go.RowKit Go.WideShapes Go.ChangeShapes
theorem post_grow {H : Type} {enc : TypeId × Value → H} {P : Program} {f : Func} {s : ChangeSpec} {apart fresh handsOn again : Bool} {W W' : World} {args : Array Value} {v : Value} {ds : List (DataW H)} {pl : List MemPlace}
    (hW : DataW.Whole enc P f.params.toList s.vars apart W args.toList ds [] pl)
    (hR : ∀ (b : Nat) (sp : Nat → Bool) (hd : Bool), DataW.TrodAll enc P W' b sp hd f.resultTypes.toList (v.resultList f.resultTypes.size) (s.fn H (ds ++ [])).results [])
    (hA : ∀ sp : Nat → Bool, (∀ p ∈ pl, sp p.block = true) → DataW.TrodAll enc P W' 0 sp true f.params.toList args.toList (s.fn H (ds ++ [])).args pl)
    (hV : ∀ sp : Nat → Bool, DataW.TrodVars enc P W' sp s.vars (s.fn H (ds ++ [])).vars [])
    (hg : Grow W W') (hok : ∀ (j : Nat) (t : TypeId) (r : Value), f.resultTypes[j]? = some t → (v.resultList f.resultTypes.size)[j]? = some r → Value.okWide P W' .any 0 t r) :
    s.post enc P f apart fresh handsOn again W args v W' := by
  have hb := hg.below
  have h1 : ∀ p ∈ pl, p.block < W.heap.size := fun p hp => hW.lt p hp
  have h2 := hA (fun b => decide (b < W.heap.size)) (fun p hp => decide_eq_true (h1 p hp))
  have h3 := hA (fun _ => true) (fun _ _ => rfl)
  have h4 := trodAll_append h3 (hR 0 (fun _ => true) true)
  obtain ⟨_, _, _, _, _, hz, hn⟩ := id hW
  refine ⟨ds, [], pl, [], pl, [], hW, hR _ _ _, h2, hV _, World.keptBut_mono (fun p hp => ⟨hp, .inr (by simpa using hp)⟩) (hb.frame (· ∈ pl)), fun _ => ⟨hok, _, _, [] ++ pl, ⟨[] ++ pl, [], h4, hV _, by simp, fun b off hp => ?_, fun ha => ?_⟩, fun p hp _ => by simpa using hp⟩⟩
  · have hp' : MemPlace.cell b off ∈ pl := by simpa using hp
    rw [hb.frozen (h1 _ hp')]; exact hz b off (by simpa using hp')
  · simpa using hn ha
end Go.X
set_option linter.unusedVariables false
namespace Go.X
open Go Go.RowKit Go.WideShapes Go.ChangeShapes
section
variable {H : Type} {enc : TypeId × Value → H} {P : Program} {W : World} {sp : Nat → Bool} {held : Bool}
end
end Go.X
set_option linter.unusedVariables false
set_option linter.unusedSimpArgs false
namespace Go.X
open Go Go.RowKit
section
variable {P : Program}
theorem run_eqItems_ints (d : Nat) {e : TypeId} {k : IntKind} (he : P.underlying e = some (.int k)) (c1 : P.cellsOf e = 1) (xs ys : Array Value) (f g : Nat → Int) : ∀ (is : List Nat) (w : World), (∀ i ∈ is, xs[i]? = some (.int k (f i))) → (∀ i ∈ is, ys[i]? = some (.int k (g i))) → (Op.eqItems (d + 1) e (P.cellsOf e) xs ys is).run P w = .ok (decide (∀ i ∈ is, f i = g i)) w
  | [], w, _, _ => by simp [Op.eqItems]
  | i :: is, w, hx, hy => by
    have hp : ∀ (zs : Array Value) (v : Value), zs[i]? = some v → (part e zs (i * P.cellsOf e)).run P w = .ok v w := fun zs v h => by
      rw [c1, Nat.mul_one]; simp [part, Go.X.Plain.of he rfl w, h]
    have ih := run_eqItems_ints d he c1 xs ys f g is w (fun j hj => hx j (by simp [hj])) (fun j hj => hy j (by simp [hj]))
    have ee : (Op.equalIn (d + 1) e (.int k (f i)) (.int k (g i))).run P w = .ok (decide (f i = g i)) w := by
      rw [run_equalIn_int w d e k k _ _ he]; rfl
    simp only [Op.eqItems, Sem.run_bind, hp xs _ (hx i (by simp)), hp ys _ (hy i (by simp)), Result.andThen_ok, ee]
    by_cases h : f i = g i
    · simp [h, ih]
    · simp [h]
def Arr (P : Program) (t : TypeId) (k : IntKind) (n : Nat) : Prop := P.eqGuardType P.depth t = false ∧ ∀ (ps qs : List Int) (w : World), ps.length = n → qs.length = n → (Op.equalIn 10000 t (.agg (ps.map (Value.int k)).toArray) (.agg (qs.map (Value.int k)).toArray)).run P w = .ok (decide (ps = qs)) w
theorem Arr.of {t e : TypeId} {k : IntKind} {n : Nat} (hg : P.eqGuardType P.depth t = false) (ht : P.underlying t = some (.array n e)) (he : P.underlying e = some (.int k)) (c1 : P.cellsOf e = 1) : Arr P t k n := by
  refine ⟨hg, fun ps qs w ha hb => ?_⟩
  obtain ⟨i, hi⟩ := info_of_underlying he
  have hat : ∀ (l : List Int), l.length = n → ∀ j ∈ List.range n, (l.map (Value.int k)).toArray[j]? = some (.int k (l.getD j 0)) := fun l hl j hj => by
    have hj' : j < l.length := by rw [hl]; exact List.mem_range.1 hj
    simp [hj']
  rw [run_equalIn_array w 9999 _ _ ht hi, run_eqItems_ints 9998 he c1 _ _ (fun j => ps.getD j 0) (fun j => qs.getD j 0) _ w (hat ps ha) (hat qs hb)]
  congr 1
  rw [decide_eq_decide]
  constructor
  · intro h
    apply List.ext_getElem (by omega)
    intro j h1 h2
    have := h j (List.mem_range.2 (by omega))
    simpa [h1, h2] using this
  · rintro rfl _ _; rfl
def Trip (P : Program) (t : TypeId) : Prop := P.eqGuardType P.depth t = false ∧ ∀ (i j : Int) (a b c d : ByteArray) (w : World), (Op.equalIn 10000 t (.agg #[.int .i64 i, .string a, .string b]) (.agg #[.int .i64 j, .string c, .string d])).run P w = .ok (decide (i = j ∧ a = c ∧ b = d)) w
theorem Trip.of {t n s : TypeId} {f0 f1 f2 : Field} (hg : P.eqGuardType P.depth t = false) (hp : P.stoodInHeld t = false) (ht : P.underlying t = some (.struct #[f0, f1, f2])) (hn : P.underlying n = some (.int .i64)) (hs : P.underlying s = some .string) (h0 : f0.type = n) (h1 : f1.type = s) (h2 : f2.type = s) (o0 : f0.offset = 0) (o1 : f1.offset = 1) (o2 : f2.offset = 2) (n0 : f0.name ≠ "_") (n1 : f1.name ≠ "_") (n2 : f2.name ≠ "_") : Trip P t := by
  refine ⟨hg, fun i j a b c d w => ?_⟩
  have hf : P.fieldsOf t = #[f0, f1, f2] := by simp [Program.fieldsOf, ht]
  rw [run_equalIn_struct w 9999 t _ _ (by rw [hf]; exact ht) hp, hf]
  have hpl : Plain P s := Plain.of hs rfl
  have hpn : Plain P n := Plain.of hn rfl
  have he : ∀ a b w, (Op.equalIn 9999 s (.string a) (.string b)).run P w = .ok (decide (a = b)) w := fun a b w => by rw [run_equalIn_string w 9998 s a b hs, beqS]
  have hen : ∀ i j w, (Op.equalIn 9999 n (.int .i64 i) (.int .i64 j)).run P w = .ok (decide (i = j)) w := fun i j w => by rw [run_equalIn_int w 9998 n .i64 .i64 _ _ hn]; rfl
  have hpt : ∀ (cs : Array Value) (o : Nat) (v : Value) w, cs[o]? = some v → (part s cs o).run P w = .ok v w := fun cs o v w h => by simp [part, hpl w, h]
  have hptn : ∀ (cs : Array Value) (o : Nat) (v : Value) w, cs[o]? = some v → (part n cs o).run P w = .ok v w := fun cs o v w h => by simp [part, hpn w, h]
  simp only [Op.eqFields, n0, n1, n2, ne_eq, not_false_eq_true, if_true, h0, h1, h2, o0, o1, o2, Sem.run_bind]
  rw [hptn #[.int .i64 i, .string a, .string b] 0 (.int .i64 i) w (by simp)]
  simp only [Result.andThen_ok]
  rw [hptn #[.int .i64 j, .string c, .string d] 0 (.int .i64 j) w (by simp)]
  simp only [Result.andThen_ok, hen]
  by_cases e0 : i = j
  · simp only [e0, decide_true, Bool.not_true, Bool.false_eq_true, if_false, Sem.run_bind]
    rw [hpt #[.int .i64 j, .string a, .string b] 1 (.string a) w (by simp)]
    simp only [Result.andThen_ok]
    rw [hpt #[.int .i64 j, .string c, .string d] 1 (.string c) w (by simp)]
    simp only [Result.andThen_ok, he]
    by_cases e1 : a = c
    · simp only [e1, decide_true, Bool.not_true, Bool.false_eq_true, if_false, Sem.run_bind]
      rw [hpt #[.int .i64 j, .string c, .string b] 2 (.string b) w (by simp)]
      simp only [Result.andThen_ok]
      rw [hpt #[.int .i64 j, .string c, .string d] 2 (.string d) w (by simp)]
      simp only [Result.andThen_ok, he]
      by_cases e2 : b = d
      · simp [e2]
      · simp [e2]
    · simp [e1]
  · simp [e0]
end
section
variable {P : Program} {n : Nat} {e : Env} {C : World → Prop}
end
end Go.X
