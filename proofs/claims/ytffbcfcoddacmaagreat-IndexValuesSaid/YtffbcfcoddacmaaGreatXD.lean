/- Maps gone through. Nothing is assumed. -/
import Derived.Test.YtffbcfcoddacmaaGreatXB
set_option linter.unusedVariables false
set_option linter.unusedSimpArgs false
namespace Go.X
open Go Go.RowKit
/-- Block r goes through map m; these pairs it has not come by yet. -/
structure IterAt {κ : Type} (enc : κ → Value) (w : World) (r m : Nat) (rest : List (κ × Value)) : Prop where
  out : ∃ es clock seen, w.heap[m]? = some (.map es clock) ∧ w.heap[r]? = some (.mapIter (some m) clock seen clock) ∧ (es.toList.map (·.born)).Nodup ∧ (∀ e ∈ es.toList, e.born < clock) ∧ (es.toList.filter fun e => !seen.contains e.born).map (fun e => (e.key, e.val)) = rest.map fun p => (enc p.1, p.2)
/-- The pair that it came by last. -/
structure EntryAt (w : World) (r m : Nat) (k v : Value) : Prop where
  out : ∃ es clock seen stamp e, w.heap[m]? = some (.map es clock) ∧ w.heap[r]? = some (.mapIter (some m) clock (Array.push seen stamp) clock) ∧ es.find? (·.born == stamp) = some e ∧ e.key = k ∧ e.val = v
theorem IterAt.mod {κ : Type} {enc : κ → Value} {M : Nat → Prop} {w w' : World} {r m : Nat} {rest : List (κ × Value)} (h : IterAt enc w r m rest) (hm : Mod M w w') (h1 : ¬ M r) (h2 : ¬ M m) : IterAt enc w' r m rest := by
  obtain ⟨es, c, s, a1, a2, a3⟩ := h.out
  exact ⟨es, c, s, hm.heap a1 h2, hm.heap a2 h1, a3⟩
theorem IterAt.lt {κ : Type} {enc : κ → Value} {w : World} {r m : Nat} {rest : List (κ × Value)} (h : IterAt enc w r m rest) : r < w.heap.size ∧ m < w.heap.size := by
  obtain ⟨es, c, s, a1, a2, a3⟩ := h.out
  exact ⟨(Array.getElem?_eq_some_iff.1 a2).1, (Array.getElem?_eq_some_iff.1 a1).1⟩
theorem EntryAt.mod {M : Nat → Prop} {w w' : World} {r m : Nat} {k v : Value} (h : EntryAt w r m k v) (hm : Mod M w w') (h1 : ¬ M r) (h2 : ¬ M m) : EntryAt w' r m k v := by
  obtain ⟨es, c, s, t, e, a1, a2, a3⟩ := h.out
  exact ⟨es, c, s, t, e, hm.heap a1 h2, hm.heap a2 h1, a3⟩
theorem filter_erase {α : Type} (f : α → Nat) : ∀ (l : List α) (i : Nat) (e : α), (l.map f).Nodup → l[i]? = some e → (l.filter fun x => !(f x == f e)) = l.eraseIdx i
  | [], i, e, _, h => by simp at h
  | x :: l, 0, e, hn, h => by
    simp at h; subst h
    rw [List.map_cons, List.nodup_cons] at hn
    simp only [List.filter_cons, beq_self_eq_true, Bool.not_true, Bool.false_eq_true, if_false, List.eraseIdx_cons_zero]
    refine List.filter_eq_self.2 fun y hy => ?_
    simp only [Bool.not_eq_true', beq_eq_false_iff_ne]
    intro e2
    exact hn.1 (e2 ▸ List.mem_map_of_mem (f := f) hy)
  | x :: l, i + 1, e, hn, h => by
    rw [List.map_cons, List.nodup_cons] at hn
    simp only [List.getElem?_cons_succ] at h
    have hne : ¬ f x = f e := fun e2 => hn.1 (e2 ▸ List.mem_map_of_mem (f := f) (List.mem_of_getElem? h))
    simp only [List.filter_cons, List.eraseIdx_cons_succ, beq_eq_false_iff_ne.2 hne, Bool.not_false, if_true, filter_erase f l i e hn.2 h]
theorem find_born {α : Type} (f : α → Nat) : ∀ (l : List α) {e : α}, (l.map f).Nodup → e ∈ l → (l.find? fun x => f x == f e) = some e
  | [], e, _, h => by simp at h
  | x :: l, e, hn, h => by
    rw [List.map_cons, List.nodup_cons] at hn
    rcases List.mem_cons.1 h with rfl | h
    · simp
    · have hne : ¬ f x = f e := fun e2 => hn.1 (e2 ▸ List.mem_map_of_mem (f := f) h)
      rw [List.find?_cons, beq_eq_false_iff_ne.2 hne]
      exact find_born f l hn.2 h
section
variable {P : Program} {n : Nat} {e : Env} {w : World} {κ : Type} {enc : κ → Value}
theorem Does.range {d : Option Tmp} {t kt el : Nat} {x : Operand} {ty : TypeId} {pos : String} {af : Array Edge} {g : Option (Nat × Bool)} (hT : P.underlying t = some (.map kt el)) {m : Nat} {l : List (κ × Value)} (hx : ev e x = some (.map (some m))) (hm : MapAt enc w m l) :
    Does P n e w ⟨d, .range t x, ty, pos, af, g⟩ (fun v w' => ∃ r, v = pp r ∧ IterAt enc w' r m l ∧ Grow w w' ∧ w.heap.size ≤ r) := by
  obtain ⟨es, c, h1, h2, h3, h4⟩ := hm.out
  refine Does.of_run (v := pp w.heap.size) (w' := w.alloc (.mapIter (some m) c #[] c)) (fun a ha => ?_) ⟨_, rfl, ⟨es, c, #[], ?_, heap_alloc_new w _, h3, h4, ?_⟩, Mod.alloc _ _ _, Nat.le_refl _⟩
  · have hg : (getObj m).run P w = .ok (.map es c) w := by simp [getObj, Sem.run, h1]
    simp [execOp, ha.ev hx, Instr.range, Sem.run_bind, run_underlying hT, hg, newObj, Sem.run, pp]
  · exact (Mod.alloc No w _).heap h1 (fun h => h)
  · rw [← h2]
    congr 1
    simp
theorem Yld.entry {C : World → Prop} {d : Option Tmp} {x : Operand} {ty : TypeId} {pos : String} {af : Array Edge} {g : Option (Nat × Bool)} {r m : Nat} {k v : Value} (hx : ev e x = some (pp r)) (hm : ∀ w, C w → EntryAt w r m k v) :
    Yld P n C e ⟨d, .entry x, ty, pos, af, g⟩ (.tuple #[k, v]) := by
  intro a ha w hw
  obtain ⟨es, c, s, t, e', a1, a2, a3, rfl, rfl⟩ := (hm w hw).out
  have hg : (getObj m).run P w = .ok (.map es c) w := by simp [getObj, Sem.run, a1]
  have hr : (getObj r).run P w = .ok (.mapIter (some m) c (Array.push s t) c) w := by simp [getObj, Sem.run, a2]
  simp [execOp, ha.ev hx, Instr.entry, Sem.run_bind, hg, hr, pp, a3]
/-- What a step tells: whether there is one, and which. -/
def nextV (enc : κ → Value) : Option (κ × Value) → Value
  | none => .tuple #[.bool false]
  | some p => .tuple #[.bool true, enc p.1, p.2]
theorem Yld.nextOk {C : World → Prop} {d : Option Tmp} {x : Operand} {ty : TypeId} {pos : String} {af : Array Edge} {g : Option (Nat × Bool)} {o : Option (κ × Value)} (hx : ev e x = some (nextV enc o)) :
    Yld P n C e ⟨d, .extract x 0, ty, pos, af, g⟩ (.bool o.isSome) := by
  intro a ha w hw
  cases o with
  | none => simp [execOp, ha.ev hx, Instr.extract, nextV, Sem.run_bind]
  | some p => simp [execOp, ha.ev hx, Instr.extract, nextV, Sem.run_bind]
theorem Does.next {d : Option Tmp} {x : Operand} {ty : TypeId} {pos : String} {af : Array Edge} {g : Option (Nat × Bool)} {r m : Nat} {rest : List (κ × Value)} (hx : ev e x = some (pp r)) (hm : IterAt enc w r m rest) (hne : r ≠ m) :
    Does P n e w ⟨d, .next x false, ty, pos, af, g⟩ (fun v w' => ∃ o : Option (κ × Value), v = nextV enc o ∧ Mod (· = r) w w' ∧ (o = none → rest = []) ∧ ∀ p, o = some p → ∃ i : Nat, rest[i]? = some p ∧ IterAt enc w' r m (rest.eraseIdx i) ∧ EntryAt w' r m (enc p.1) p.2) := by
  obtain ⟨es, c, s, a1, a2, a3, a4, a5⟩ := hm.out
  have hg : ∀ w' : World, w'.heap = w.heap → (getObj m).run P w' = .ok (.map es c) w' := fun w' h => by simp [getObj, Sem.run, h, a1]
  have hr : (getObj r).run P w = .ok (.mapIter (some m) c s c) w := by simp [getObj, Sem.run, a2]
  have hall : (!es.isEmpty && es.all fun e => decide (e.born ≥ c)) = false := by
    cases he : es.toList with
    | nil => have : es = #[] := by simpa using he
             subst this; simp
    | cons e0 l =>
      have h0 : e0 ∈ es.toList := by rw [he]; simp
      have := a4 e0 h0
      rw [Bool.and_eq_false_iff]
      refine .inr ?_
      rw [← Array.all_toList, List.all_eq_false]
      exact ⟨e0, h0, by simp; omega⟩
  have hold : (es.filter fun e => !s.contains e.born).filter (fun e => decide (e.born < c)) = es.filter fun e => !s.contains e.born := by
    apply Array.ext'
    rw [Array.toList_filter]
    refine List.filter_eq_self.2 fun e he => ?_
    rw [Array.toList_filter] at he
    simpa using a4 e ((List.mem_filter.1 he).1)
  have hnew : (es.filter fun e => !s.contains e.born).filter (fun e => decide (e.born ≥ c)) = #[] := by
    apply Array.ext'
    rw [Array.toList_filter]
    refine List.filter_eq_nil_iff.2 fun e he => ?_
    rw [Array.toList_filter] at he
    have := a4 e ((List.mem_filter.1 he).1)
    simp; omega
  have hall2 : (!s.isEmpty && !es.isEmpty && es.all fun e => decide (e.born ≥ c)) = false := by
    rw [Bool.and_assoc, hall, Bool.and_false]
  have hlist : (es.filter fun e => !s.contains e.born).toList = es.toList.filter fun e => !s.contains e.born := Array.toList_filter
  generalize hLe : (es.filter fun e => !s.contains e.born) = L at *
  by_cases hL : L = #[]
  · have hrest : rest = [] := by
      rw [← hlist, hL] at a5
      simpa using a5.symm
    refine Does.of_run (v := .tuple #[.bool false]) (w' := w) (fun a ha => ?_) ⟨none, rfl, Mod.refl _ _, fun _ => hrest, (fun p h => by cases h)⟩
    simp only [execOp, ha.ev hx, Instr.next, pp, Sem.run_bind, hr, hg w rfl, Result.andThen_ok, hall2, hLe, hold, hnew, hL]
    simp [choose, Sem.run, Question.forced]
  · have hpos : 0 < L.size := by
      rcases Nat.eq_zero_or_pos L.size with h | h
      · exact absurd (Array.eq_empty_of_size_eq_zero h) hL
      · exact h
    obtain ⟨i, w1, hi, hch, hw1⟩ : ∃ i w1, i < L.size ∧ (choose (.mapNext L.size)).run P w = .ok i w1 ∧ (w1 = w ∨ w1 = { w with drawn := w.drawn + 1 }) := by
      by_cases hf : L.size ≤ 1
      · exact ⟨0, w, hpos, by simp [choose, Sem.run, Question.forced, hf], .inl rfl⟩
      · exact ⟨w.tape w.drawn (.mapNext L.size) % L.size, _, Nat.mod_lt _ hpos, by simp [choose, Sem.run, Question.forced, hf, Question.cut], .inr rfl⟩
    have hheap : w1.heap = w.heap := by rcases hw1 with rfl | rfl <;> rfl
    have hemp : L.isEmpty = false := by simpa using hL
    obtain ⟨en, hen⟩ : ∃ en, L[i]? = some en := ⟨L[i], Array.getElem?_eq_getElem hi⟩
    have henL : L.toList[i]? = some en := by simpa using hen
    obtain ⟨p, hp, hpk⟩ : ∃ p, rest[i]? = some p ∧ (en.key, en.val) = (enc p.1, p.2) := by
      have h5 := congrArg (fun q => q[i]?) a5
      rw [← hlist] at h5
      simp only [List.getElem?_map, henL, Option.map_some] at h5
      cases hp : rest[i]? with
      | none => rw [hp] at h5; simp at h5
      | some p => rw [hp] at h5; simp at h5; exact ⟨p, rfl, by simp [h5]⟩
    simp only [Prod.mk.injEq] at hpk
    have hrl : r < w.heap.size := (Array.getElem?_eq_some_iff.1 a2).1
    have hset : ∀ o, (setObj r o).run P w1 = .ok () { w1 with heap := w1.heap.setIfInBounds r o } := fun o => by simp [setObj, Sem.run, hheap, a2]
    have hmem : en ∈ es.toList := by
      have := List.mem_of_getElem? henL
      rw [hlist] at this
      exact (List.mem_filter.1 this).1
    refine Does.of_run (v := .tuple #[.bool true, enc p.1, p.2]) (w' := { w1 with heap := w1.heap.setIfInBounds r (.mapIter (some m) c (s.push en.born) c) }) (fun a ha => ?_) ⟨some p, rfl, ?_, (fun h => by cases h), fun p' hp' => ?_⟩
    · have hgm := hg w rfl
      simp only [execOp, ha.ev hx, Instr.next, pp, Sem.run_bind, hr, hgm, Result.andThen_ok, hall2, hLe, hold, hnew, hemp, Bool.false_eq_true, if_false, Array.append_empty, Array.empty_append, Array.size_map, hch, Array.getElem?_map, hen, Option.map_some, hset, Sem.run_pure, hpk.1, hpk.2]
    · refine ⟨by rcases hw1 with rfl | rfl <;> rfl, by rcases hw1 with rfl | rfl <;> rfl, by rcases hw1 with rfl | rfl <;> rfl, by simp [hheap], fun k hk hn => ?_⟩
      rw [Array.getElem?_setIfInBounds_ne (Ne.symm hn), hheap]
    · cases hp'
      refine ⟨i, hp, ⟨es, c, s.push en.born, ?_, ?_, a3, a4, ?_⟩, ⟨es, c, s, en.born, en, ?_, ?_, ?_, hpk.1, hpk.2⟩⟩
      · rw [Array.getElem?_setIfInBounds_ne hne, hheap]; exact a1
      · simp [hheap, hrl]
      · have hnd : (L.toList.map (·.born)).Nodup := by rw [hlist]; exact a3.sublist (List.filter_sublist.map _)
        have h6 := filter_erase (fun e : MapEntry => e.born) L.toList i en hnd henL
        have h7 : (es.toList.filter fun e => !(s.push en.born).contains e.born) = L.toList.eraseIdx i := by
          rw [← h6, hlist, List.filter_filter]
          refine List.filter_congr fun x _ => ?_
          by_cases h1 : x.born = en.born <;> simp [Array.contains_push, Bool.and_comm, h1]
        rw [h7, map_eraseIdx', hlist, a5, map_eraseIdx']
      · rw [Array.getElem?_setIfInBounds_ne hne, hheap]; exact a1
      · simp [hheap, hrl]
      · rw [← Array.find?_toList]
        exact find_born (fun e : MapEntry => e.born) es.toList a3 hmem
end
end Go.X
