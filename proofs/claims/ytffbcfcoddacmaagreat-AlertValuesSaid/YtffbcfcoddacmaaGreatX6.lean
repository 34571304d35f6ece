/- Maps: what they hold, looked up, stored into, deleted from, counted. Nothing is assumed. -/
import Derived.Test.YtffbcfcoddacmaaGreatX5
set_option linter.unusedVariables false
set_option linter.unusedSimpArgs false
namespace Go.X
open Go Go.RowKit

/-- The placeM of a key in a list of pairs. -/
def placeM {κ α : Type} [DecidableEq κ] (k : κ) : List (κ × α) → Option (Nat × α)
  | [] => none
  | (j, v) :: l => if k = j then some (0, v) else (placeM k l).map fun p => (p.1 + 1, p.2)
def lookM {κ α : Type} [DecidableEq κ] (l : List (κ × α)) (k : κ) : Option α := (placeM k l).map (·.2)
/-- A key's type: how a key looks, and that it is found. -/
structure KeyLaw (P : Program) (kt : TypeId) {κ : Type} [DecidableEq κ] (enc : κ → Value) : Prop where
  check : ∀ (b : Bool) (k : κ) (w : World), (Instr.checkKey b 10000 kt (enc k)).run P w = .ok () w
  find : ∀ (k : κ) (es : List MapEntry) (l : List (κ × Value)) (w : World), es.map (fun e => (e.key, e.val)) = l.map (fun p => (enc p.1, p.2)) → (Instr.findKey kt (enc k) es).run P w = .ok (placeM k l) w
  same : ∀ k, Instr.sameBits 10000 (enc k) (enc k) = true

theorem checkKey_int {P : Program} {kt : TypeId} (h : P.underlying kt = some (.int .i64)) (n : Nat) (b : Bool) (k : Int) (w : World) : (Instr.checkKey b (n + 1) kt (.int .i64 k)).run P w = .ok () w := by
  simp only [Instr.checkKey, Sem.run_bind, run_underlying h, Result.andThen_ok, Sem.run_pure]
theorem checkKey_pair {P : Program} {kt s : TypeId} {f0 f1 : Field} (ht : P.underlying kt = some (.struct #[f0, f1])) (hs : P.underlying s = some .string) (h0 : f0.type = s) (h1 : f1.type = s) (o0 : f0.offset = 0) (o1 : f1.offset = 1) (n0 : f0.name ≠ "_") (n1 : f1.name ≠ "_") (n : Nat) (b : Bool) (k : ByteArray × ByteArray) (w : World) :
    (Instr.checkKey b (n + 1 + 1) kt (.agg #[.string k.1, .string k.2])).run P w = .ok () w := by
  have hpl : Plain P s := Plain.of hs rfl
  simp only [Instr.checkKey.eq_2, Sem.run_bind, run_underlying ht, Result.andThen_ok]
  rw [← Array.forIn_toList]
  have hpt : ∀ (cs : Array Value) (o : Nat) (v : Value) w, cs[o]? = some v → (part s cs o).run P w = .ok v w := fun cs o v w h => by simp [part, hpl w, h]
  have hc : ∀ (a : ByteArray) (b : Bool) w, (Instr.checkKey b (n + 1) s (.string a)).run P w = .ok () w := fun a b w => by simp [Instr.checkKey, run_underlying hs]
  have e0 := hpt #[.string k.1, .string k.2] 0 (.string k.1) w (by simp)
  have e1 := hpt #[.string k.1, .string k.2] 1 (.string k.2) w (by simp)
  simp [n0, n1, h0, h1, o0, o1, e0, e1, run_underlying hs]
theorem KeyLaw.int {P : Program} {kt : TypeId} (h : P.underlying kt = some (.int .i64)) : KeyLaw P kt (Value.int .i64) where
  check b k w := checkKey_int h 9999 b k w
  find k es l w he := by
    have key : ∀ (es : List MapEntry) (l : List (Int × Value)) (i : Nat), es.map (fun e => (e.key, e.val)) = l.map (fun p => (Value.int .i64 p.1, p.2)) → Instr.findNow (.int .i64) (.int .i64 k) es i = some ((placeM k l).map fun p => (p.1 + i, p.2)) := by
      intro es
      induction es with
      | nil => intro l i h; cases l with | nil => rfl | cons p l => simp at h
      | cons e es ih =>
        intro l i h
        cases l with
        | nil => simp at h
        | cons p l =>
          simp only [List.map_cons, List.cons.injEq, Prod.mk.injEq] at h
          obtain ⟨⟨h1, h2⟩, h3⟩ := h
          simp only [Instr.findNow, h1, Instr.sameNow, if_true, placeM]
          by_cases hk : k = p.1
          · simp [hk, h2]
          · have : (k == p.1) = false := by simpa using hk
            simp only [this, if_neg hk, ih l (i + 1) h3, Option.map_map]
            congr 1
            cases placeM k l with
            | none => rfl
            | some q => simp; omega
    simp only [Instr.findKey, Sem.run_bind, run_underlying h, Result.andThen_ok, key es l 0 he]
    cases placeM k l <;> simp
  same k := by unfold Instr.sameBits; simp

/-- Keys that are structs of two strings. -/
def pairV (p : ByteArray × ByteArray) : Value := .agg #[.string p.1, .string p.2]
theorem KeyLaw.pair {P : Program} {kt s : TypeId} {f0 f1 : Field} (ht : P.underlying kt = some (.struct #[f0, f1])) (hs : P.underlying s = some .string) (h0 : f0.type = s) (h1 : f1.type = s) (o0 : f0.offset = 0) (o1 : f1.offset = 1) (n0 : f0.name ≠ "_") (n1 : f1.name ≠ "_") (hp : Pair P kt) : KeyLaw P kt pairV where
  check b k w := checkKey_pair ht hs h0 h1 o0 o1 n0 n1 9998 b k w
  find k es l w he := by
    have ask : ∀ (es : List MapEntry) (l : List ((ByteArray × ByteArray) × Value)) (i : Nat), es.map (fun e => (e.key, e.val)) = l.map (fun p => (pairV p.1, p.2)) → (Instr.findAsking kt (pairV k) es i).run P w = .ok ((placeM k l).map fun p => (p.1 + i, p.2)) w := by
      intro es
      induction es with
      | nil => intro l i h; cases l with | nil => rfl | cons p l => simp at h
      | cons e es ih =>
        intro l i h
        cases l with
        | nil => simp at h
        | cons p l =>
          simp only [List.map_cons, List.cons.injEq, Prod.mk.injEq] at h
          obtain ⟨⟨h1, h2⟩, h3⟩ := h
          have he := hp.2 k.1 k.2 p.1.1 p.1.2 w
          simp only [Instr.findAsking, h1, Sem.run_bind, Op.equal, Op.maxDepth, pairV, he, Result.andThen_ok, placeM]
          by_cases hk : k = p.1
          · simp [hk, h2]
          · have hk' : ¬ (k.1 = p.1.1 ∧ k.2 = p.1.2) := fun ⟨a, b⟩ => hk (Prod.ext a b)
            simp only [hk', decide_false, Bool.false_eq_true, if_false, if_neg hk]
            have := ih l (i + 1) h3
            simp only [pairV] at this
            rw [this]
            cases placeM k l with
            | none => rfl
            | some q => simp; omega
    have hn : Instr.findNow (.struct #[f0, f1]) (pairV k) es 0 = some none ∧ es = [] ∨ Instr.findNow (.struct #[f0, f1]) (pairV k) es 0 = none := by
      cases es with
      | nil => exact .inl ⟨rfl, rfl⟩
      | cons e es => right; simp [Instr.findNow, Instr.sameNow]
    simp only [Instr.findKey, Sem.run_bind, run_underlying ht, Result.andThen_ok]
    rcases hn with ⟨h, rfl⟩ | h
    · rw [h]
      cases l with
      | nil => rfl
      | cons p l => simp at he
    · rw [h]
      have := ask es l 0 he
      simp only [Nat.add_zero] at this
      rw [this]
      cases placeM k l <;> rfl
  same k := by
    rw [show (10000 : Nat) = 9999 + 1 from rfl]
    have hb : ∀ a : ByteArray, (a == a) = true := fun a => by rw [beq_toListBytes]; simp
    have h1 : ∀ n (a : ByteArray), Instr.sameBits n (.string a) (.string a) = true := fun n a => by unfold Instr.sameBits; exact hb a
    simp [pairV, Instr.sameBits, hb]

/-- Block m is a map that holds these pairs. -/
structure MapAt {κ : Type} (enc : κ → Value) (w : World) (m : Nat) (l : List (κ × Value)) : Prop where
  out : ∃ es clock, w.heap[m]? = some (.map es clock) ∧ es.toList.map (fun e => (e.key, e.val)) = l.map (fun p => (enc p.1, p.2)) ∧ (es.toList.map (·.born)).Nodup ∧ ∀ e ∈ es.toList, e.born < clock
theorem MapAt.mod {κ : Type} {enc : κ → Value} {M : Nat → Prop} {w w' : World} {m : Nat} {l : List (κ × Value)} (h : MapAt enc w m l) (hm : Mod M w w') (hn : ¬ M m) : MapAt enc w' m l := by
  obtain ⟨es, c, h1, h2⟩ := h.out
  exact ⟨es, c, hm.heap h1 hn, h2⟩
theorem MapAt.lt {κ : Type} {enc : κ → Value} {w : World} {m : Nat} {l : List (κ × Value)} (h : MapAt enc w m l) : m < w.heap.size := by
  obtain ⟨es, c, h1, _⟩ := h.out
  exact (Array.getElem?_eq_some_iff.1 h1).1
/-- What a store makes of the pairs. -/
def putM {κ α : Type} [DecidableEq κ] (l : List (κ × α)) (k : κ) (v : α) : List (κ × α) := match placeM k l with
  | some (i, _) => l.modify i fun p => (p.1, v)
  | none => l ++ [(k, v)]
def cutM {κ α : Type} [DecidableEq κ] (l : List (κ × α)) (k : κ) : List (κ × α) := match placeM k l with
  | some (i, _) => l.eraseIdx i
  | none => l

section
variable {P : Program} {n : Nat} {e : Env} {w : World} {C : World → Prop} {κ : Type} [DecidableEq κ] {enc : κ → Value}
theorem placeM_get {α : Type} {k : κ} : ∀ {l : List (κ × α)} {i : Nat} {v : α}, placeM k l = some (i, v) → l[i]? = some (k, v)
  | [], i, v, h => by simp [placeM] at h
  | (j, u) :: l, i, v, h => by
    simp only [placeM] at h
    by_cases hk : k = j
    · rw [if_pos hk] at h; cases h; simp [hk]
    · rw [if_neg hk] at h
      cases hp : placeM k l with
      | none => simp [hp] at h
      | some q =>
        simp [hp] at h
        obtain ⟨rfl, rfl⟩ := h
        simpa using placeM_get (l := l) (i := q.1) (v := q.2) (by rw [hp])
theorem Does.makeMap {d : Option Tmp} {t : Nat} {ty : TypeId} {pos : String} {af : Array Edge} {g : Option (Nat × Bool)} {κ : Type} (enc : κ → Value) :
    Does P n e w ⟨d, .makeMap t none, ty, pos, af, g⟩ (fun u w' => ∃ m, u = .map (some m) ∧ m = w.heap.size ∧ MapAt enc w' m [] ∧ Grow w w' ∧ w'.heap.size = w.heap.size + 1) := by
  refine Does.of_run (w' := w.alloc (.map #[] 0)) (v := .map (some w.heap.size)) (fun a ha => ?_) ⟨_, rfl, rfl, ⟨#[], 0, heap_alloc_new w _, by simp, by simp, by simp⟩, Mod.alloc _ _ _, by simp⟩
  simp [execOp, Instr.makeMap]
theorem Yld.lookup {d : Option Tmp} {t kt el : Nat} {x i : Operand} {ok : Bool} {ty : TypeId} {pos : String} {af : Array Edge} {g : Option (Nat × Bool)} (hT : P.underlying t = some (.map kt el)) (hK : KeyLaw P kt enc) {z : Value} {sz by' : Nat} (hE : TI P el z sz by') {m : Nat} {k : κ} {l : List (κ × Value)}
    (hx : ev e x = some (.map (some m))) (hi : ev e i = some (enc k)) (hm : ∀ w, C w → MapAt enc w m l) :
    Yld P n C e ⟨d, .lookup t x i ok, ty, pos, af, g⟩ (if ok then .tuple #[(lookM l k).getD z, .bool (lookM l k).isSome] else (lookM l k).getD z) := by
  intro a ha w hw
  obtain ⟨es, c, h1, h2, _⟩ := (hm w hw).out
  have hf := hK.find k es.toList l w h2
  simp only [execOp, ha.ev hx, ha.ev hi, Instr.lookup, Sem.run_bind, run_underlying hT, Result.andThen_ok]
  have hg : (getObj m).run P w = .ok (.map es c) w := by simp [getObj, Sem.run, h1]
  simp only [hg, Result.andThen_ok, Sem.run_bind, Sem.run_pure, hK.check, hf, lookM]
  cases placeM k l with
  | none => cases ok <;> simp [hE.zero w]
  | some q => cases ok <;> simp
theorem map_modify {α β : Type} (f : α → β) (g : α → α) (g' : β → β) (h : ∀ x, f (g x) = g' (f x)) : ∀ (l : List α) (i : Nat), (l.modify i g).map f = (l.map f).modify i g'
  | [], i => by simp
  | x :: l, 0 => by simp [h]
  | x :: l, i + 1 => by simp [map_modify f g g' h l i]
theorem Does.mapUpdate {d : Option Tmp} {t kt el : Nat} {x i y : Operand} {ty : TypeId} {pos : String} {af : Array Edge} {g : Option (Nat × Bool)} (hT : P.underlying t = some (.map kt el)) (hK : KeyLaw P kt enc) {m : Nat} {k : κ} {v : Value} {l : List (κ × Value)}
    (hx : ev e x = some (.map (some m))) (hi : ev e i = some (enc k)) (hy : ev e y = some v) (hm : MapAt enc w m l) :
    Does P n e w ⟨d, .mapUpdate t x i y, ty, pos, af, g⟩ (fun _ w' => MapAt enc w' m (putM l k v) ∧ Mod (· = m) w w' ∧ w'.heap.size = w.heap.size) := by
  obtain ⟨es, c, h1, h2, h3, h4⟩ := hm.out
  have hlt : m < w.heap.size := (Array.getElem?_eq_some_iff.1 h1).1
  have hf := hK.find k es.toList l w h2
  have hg : (getObj m).run P w = .ok (.map es c) w := by simp [getObj, Sem.run, h1]
  have hset : ∀ o, (setObj m o).run P w = .ok () { w with heap := w.heap.setIfInBounds m o } := fun o => by simp [setObj, Sem.run, h1]
  have hmod : ∀ o, Mod (· = m) w { w with heap := w.heap.setIfInBounds m o } := fun o => ⟨rfl, rfl, rfl, by simp, fun k hk hn => by simp [Array.getElem?_setIfInBounds_ne (Ne.symm hn)]⟩
  have hat : ∀ o, ({ w with heap := w.heap.setIfInBounds m o } : World).heap[m]? = some o := fun o => by simp [hlt]
  cases hp : placeM k l with
  | some q =>
    obtain ⟨i0, v0⟩ := q
    have hget := placeM_get hp
    have hk0 : (es.toList[i0]?).map (fun e => (e.key, e.val)) = some (enc k, v0) := by
      rw [← List.getElem?_map, h2, List.getElem?_map, hget]; rfl
    obtain ⟨e0, he0, hek⟩ : ∃ e0, es[i0]? = some e0 ∧ e0.key = enc k := by
      cases hh : es.toList[i0]? with
      | none => rw [hh] at hk0; simp at hk0
      | some e0 => rw [hh] at hk0; simp at hk0; exact ⟨e0, by simpa using hh, hk0.1⟩
    refine Does.of_skip (w' := { w with heap := w.heap.setIfInBounds m (.map (es.modify i0 fun e => { e with key := enc k, val := v }) c) }) (fun a ha => ?_) ⟨⟨_, c, hat _, ?_, ?_, ?_⟩, hmod _, by simp⟩
    · simp only [execOp, ha.ev hx, ha.ev hi, ha.ev hy, Instr.mapUpdate, Sem.run_bind, run_underlying hT, Result.andThen_ok, hg, hK.check, hf, hp, he0, Option.map_some, Option.getD_some, hek, Instr.keyThatStays, hK.same, if_true, Sem.run_pure, hset]
    · simp only [putM, hp, Array.toList_modify]
      rw [map_modify (fun e : MapEntry => (e.key, e.val)) _ (fun _ => (enc k, v)) (fun x => rfl), h2]
      have hkey : l[i0]? = some (k, v0) := hget
      apply List.ext_getElem?
      intro j
      simp only [List.getElem?_modify, List.getElem?_map]
      by_cases hj : i0 = j
      · subst hj; simp [hkey]
      · simp [hj]
    · simp only [Array.toList_modify]
      rw [map_modify (fun e : MapEntry => e.born) (fun e => { key := enc k, val := v, born := e.born }) id (fun x => rfl)]
      have : (es.toList.map (·.born)).modify i0 id = es.toList.map (·.born) := by
        apply List.ext_getElem?
        intro j
        simp [List.getElem?_modify]
      rw [this]; exact h3
    · intro x hx'
      simp only [Array.toList_modify] at hx'
      obtain ⟨j, hj⟩ := List.getElem?_of_mem hx'
      simp only [List.getElem?_modify] at hj
      cases hh : es.toList[j]? with
      | none => simp [hh] at hj
      | some y =>
        have := h4 y (List.mem_of_getElem? hh)
        simp only [hh, Option.map_some] at hj
        split at hj <;> (simp at hj; subst hj; exact this)
  | none =>
    refine Does.of_skip (w' := { w with heap := w.heap.setIfInBounds m (.map (es.push { key := enc k, val := v, born := c }) (c + 1)) }) (fun a ha => ?_) ⟨⟨_, c + 1, hat _, ?_, ?_, ?_⟩, hmod _, by simp⟩
    · simp only [execOp, ha.ev hx, ha.ev hi, ha.ev hy, Instr.mapUpdate, Sem.run_bind, run_underlying hT, Result.andThen_ok, hg, hK.check, hf, hp, Sem.run_pure, hset]
    · simp [putM, hp, h2]
    · simp only [Array.toList_push, List.map_append, List.map_cons, List.map_nil]
      rw [List.nodup_append]
      refine ⟨h3, by simp, fun a ha b hb => ?_⟩
      simp at hb; subst hb
      obtain ⟨x, hx', rfl⟩ := List.mem_map.1 ha
      have := h4 x hx'
      omega
    · intro x hx'
      simp only [Array.toList_push, List.mem_append, List.mem_singleton] at hx'
      rcases hx' with h | rfl
      · have := h4 x h; omega
      · simp
theorem Yld.lenMap {d : Option Tmp} {t kt el : Nat} {x : Operand} {ty : TypeId} {pos : String} {af : Array Edge} {g : Option (Nat × Bool)} (hT : P.underlying t = some (.map kt el)) {m : Nat} {κ : Type} {enc : κ → Value} {l : List (κ × Value)} (hx : ev e x = some (.map (some m))) (hm : ∀ w, C w → MapAt enc w m l) :
    Yld P n C e ⟨d, .call { callee := .builtin .len, args := #[x], argTypes := #[t] }, ty, pos, af, g⟩ (.int .i64 l.length) := by
  intro a ha w hw
  obtain ⟨es, c, h1, h2, _⟩ := (hm w hw).out
  have hl : es.size = l.length := by have := congrArg List.length h2; simpa using this
  have hg : (getObj m).run P w = .ok (.map es c) w := by simp [getObj, Sem.run, h1]
  simp [execOp, resolve, invoke, builtin, ha.ev hx, Builtin.len_, run_underlying hT, hg, goInt, hl]
end
end Go.X
