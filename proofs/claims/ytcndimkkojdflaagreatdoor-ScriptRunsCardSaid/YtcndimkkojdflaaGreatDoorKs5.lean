/- What the claim stands on, part 5. Of own lemmas only those that it reaches. -/
import Derived.Test.YtcndimkkojdflaaGreatDoorKs4
set_option linter.unusedVariables false
set_option linter.unusedSimpArgs false
namespace Go.X
open Go Go.RowKit
structure IterAt {κ : Type} (enc : κ → Value) (w : World) (r m : Nat) (rest : List (κ × Value)) : Prop where
  out : ∃ es clock seen, w.heap[m]? = some (.map es clock) ∧ w.heap[r]? = some (.mapIter (some m) clock seen clock) ∧ (es.toList.map (·.born)).Nodup ∧ (∀ e ∈ es.toList, e.born < clock) ∧ (es.toList.filter fun e => !seen.contains e.born).map (fun e => (e.key, e.val)) = rest.map fun p => (enc p.1, p.2)
structure EntryAt (w : World) (r m : Nat) (k v : Value) : Prop where
  out : ∃ es clock seen stamp e, w.heap[m]? = some (.map es clock) ∧ w.heap[r]? = some (.mapIter (some m) clock (Array.push seen stamp) clock) ∧ es.find? (·.born == stamp) = some e ∧ e.key = k ∧ e.val = v
theorem IterAt.mod {κ : Type} {enc : κ → Value} {M : Nat → Prop} {w w' : World} {r m : Nat} {rest : List (κ × Value)} (h : IterAt enc w r m rest) (hm : Mod M w w') (h1 : ¬ M r) (h2 : ¬ M m) : IterAt enc w' r m rest := by
  obtain ⟨es, c, s, a1, a2, a3⟩ := h.out
  exact ⟨es, c, s, hm.heap a1 h2, hm.heap a2 h1, a3⟩
theorem IterAt.lt {κ : Type} {enc : κ → Value} {w : World} {r m : Nat} {rest : List (κ × Value)} (h : IterAt enc w r m rest) : r < w.heap.size ∧ m < w.heap.size := by
  obtain ⟨es, c, s, a1, a2, a3⟩ := h.out
  exact ⟨(Array.getElem?_eq_some_iff.1 a2).1, (Array.getElem?_eq_some_iff.1 a1).1⟩
theorem EntryAt.mod {M : Nat → Prop} {w w' : World} {r m : Nat} {k v : Value} (h : EntryAt w r m k v) (hm : Mod M w w') (h1 : ¬ M r) (h2 : ¬ M m) : EntryAt w' r m k v := by
  obtain ⟨es, c, s, t, e, a1, a2, a3⟩ := h.out
  exact ⟨es, c, s, t, e, hm.heap a1 h2, hm.heap a2 h1, a3⟩
theorem filter_erase {α : Type} (f : α → Nat) : ∀ (l : List α) (i : Nat) (e : α), (l.map f).Nodup → l[i]? = some e → (l.filter fun x => !(f x == f e)) = l.eraseIdx i
  | [], i, e, _, h => by simp at h
  | x :: l, 0, e, hn, h => by
    simp at h; subst h
    rw [List.map_cons, List.nodup_cons] at hn
    simp only [List.filter_cons, beq_self_eq_true, Bool.not_true, Bool.false_eq_true, if_false, List.eraseIdx_cons_zero]
    refine List.filter_eq_self.2 fun y hy => ?_
    simp only [Bool.not_eq_true', beq_eq_false_iff_ne]
    intro e2
    exact hn.1 (e2 ▸ List.mem_map_of_mem (f := f) hy)
  | x :: l, i + 1, e, hn, h => by
    rw [List.map_cons, List.nodup_cons] at hn
    simp only [List.getElem?_cons_succ] at h
    have hne : ¬ f x = f e := fun e2 => hn.1 (e2 ▸ List.mem_map_of_mem (f := f) (List.mem_of_getElem? h))
    simp only [List.filter_cons, List.eraseIdx_cons_succ, beq_eq_false_iff_ne.2 hne, Bool.not_false, if_true, filter_erase f l i e hn.2 h]
theorem find_born {α : Type} (f : α → Nat) : ∀ (l : List α) {e : α}, (l.map f).Nodup → e ∈ l → (l.find? fun x => f x == f e) = some e
  | [], e, _, h => by simp at h
  | x :: l, e, hn, h => by
    rw [List.map_cons, List.nodup_cons] at hn
    rcases List.mem_cons.1 h with rfl | h
    · simp
    · have hne : ¬ f x = f e := fun e2 => hn.1 (e2 ▸ List.mem_map_of_mem (f := f) h)
      rw [List.find?_cons, beq_eq_false_iff_ne.2 hne]
      exact find_born f l hn.2 h
section
variable {P : Program} {n : Nat} {e : Env} {w : World} {κ : Type} {enc : κ → Value}
theorem Does.range {d : Option Tmp} {t kt el : Nat} {x : Operand} {ty : TypeId} {pos : String} {af : Array Edge} {g : Option (Nat × Bool)} (hT : P.underlying t = some (.map kt el)) {m : Nat} {l : List (κ × Value)} (hx : ev e x = some (.map (some m))) (hm : MapAt enc w m l) :
    Does P n e w ⟨d, .range t x, ty, pos, af, g⟩ (fun v w' => ∃ r, v = pp r ∧ IterAt enc w' r m l ∧ Grow w w' ∧ w.heap.size ≤ r) := by
  obtain ⟨es, c, h1, h2, h3, h4⟩ := hm.out
  refine Does.of_run (v := pp w.heap.size) (w' := w.alloc (.mapIter (some m) c #[] c)) (fun a ha => ?_) ⟨_, rfl, ⟨es, c, #[], ?_, heap_alloc_new w _, h3, h4, ?_⟩, Mod.alloc _ _ _, Nat.le_refl _⟩
  · have hg : (getObj m).run P w = .ok (.map es c) w := by simp [getObj, Sem.run, h1]
    simp [execOp, ha.ev hx, Instr.range, Sem.run_bind, run_underlying hT, hg, newObj, Sem.run, pp]
  · exact (Mod.alloc No w _).heap h1 (fun h => h)
  · rw [← h2]
    congr 1
    simp
def nextV (enc : κ → Value) : Option (κ × Value) → Value
  | none => .tuple #[.bool false]
  | some p => .tuple #[.bool true, enc p.1, p.2]
theorem Yld.nextOk {C : World → Prop} {d : Option Tmp} {x : Operand} {ty : TypeId} {pos : String} {af : Array Edge} {g : Option (Nat × Bool)} {o : Option (κ × Value)} (hx : ev e x = some (nextV enc o)) :
    Yld P n C e ⟨d, .extract x 0, ty, pos, af, g⟩ (.bool o.isSome) := by
  intro a ha w hw
  cases o with
  | none => simp [execOp, ha.ev hx, Instr.extract, nextV, Sem.run_bind]
  | some p => simp [execOp, ha.ev hx, Instr.extract, nextV, Sem.run_bind]
theorem Does.next {d : Option Tmp} {x : Operand} {ty : TypeId} {pos : String} {af : Array Edge} {g : Option (Nat × Bool)} {r m : Nat} {rest : List (κ × Value)} (hx : ev e x = some (pp r)) (hm : IterAt enc w r m rest) (hne : r ≠ m) :
    Does P n e w ⟨d, .next x false, ty, pos, af, g⟩ (fun v w' => ∃ o : Option (κ × Value), v = nextV enc o ∧ Mod (· = r) w w' ∧ (o = none → rest = []) ∧ ∀ p, o = some p → ∃ i : Nat, rest[i]? = some p ∧ IterAt enc w' r m (rest.eraseIdx i) ∧ EntryAt w' r m (enc p.1) p.2) := by
  obtain ⟨es, c, s, a1, a2, a3, a4, a5⟩ := hm.out
  have hg : ∀ w' : World, w'.heap = w.heap → (getObj m).run P w' = .ok (.map es c) w' := fun w' h => by simp [getObj, Sem.run, h, a1]
  have hr : (getObj r).run P w = .ok (.mapIter (some m) c s c) w := by simp [getObj, Sem.run, a2]
  have hall : (!es.isEmpty && es.all fun e => decide (e.born ≥ c)) = false := by
    cases he : es.toList with
    | nil => have : es = #[] := by simpa using he
             subst this; simp
    | cons e0 l =>
      have h0 : e0 ∈ es.toList := by rw [he]; simp
      have := a4 e0 h0
      rw [Bool.and_eq_false_iff]
      refine .inr ?_
      rw [← Array.all_toList, List.all_eq_false]
      exact ⟨e0, h0, by simp; omega⟩
  have hold : (es.filter fun e => !s.contains e.born).filter (fun e => decide (e.born < c)) = es.filter fun e => !s.contains e.born := by
    apply Array.ext'
    rw [Array.toList_filter]
    refine List.filter_eq_self.2 fun e he => ?_
    rw [Array.toList_filter] at he
    simpa using a4 e ((List.mem_filter.1 he).1)
  have hnew : (es.filter fun e => !s.contains e.born).filter (fun e => decide (e.born ≥ c)) = #[] := by
    apply Array.ext'
    rw [Array.toList_filter]
    refine List.filter_eq_nil_iff.2 fun e he => ?_
    rw [Array.toList_filter] at he
    have := a4 e ((List.mem_filter.1 he).1)
    simp; omega
  have hall2 : (!s.isEmpty && !es.isEmpty && es.all fun e => decide (e.born ≥ c)) = false := by
    rw [Bool.and_assoc, hall, Bool.and_false]
  have hlist : (es.filter fun e => !s.contains e.born).toList = es.toList.filter fun e => !s.contains e.born := Array.toList_filter
  generalize hLe : (es.filter fun e => !s.contains e.born) = L at *
  by_cases hL : L = #[]
  · have hrest : rest = [] := by
      rw [← hlist, hL] at a5
      simpa using a5.symm
    refine Does.of_run (v := .tuple #[.bool false]) (w' := w) (fun a ha => ?_) ⟨none, rfl, Mod.refl _ _, fun _ => hrest, (fun p h => by cases h)⟩
    simp only [execOp, ha.ev hx, Instr.next, pp, Sem.run_bind, hr, hg w rfl, Result.andThen_ok, hall2, hLe, hold, hnew, hL]
    simp [choose, Sem.run, Question.forced]
  · have hpos : 0 < L.size := by
      rcases Nat.eq_zero_or_pos L.size with h | h
      · exact absurd (Array.eq_empty_of_size_eq_zero h) hL
      · exact h
    obtain ⟨i, w1, hi, hch, hw1⟩ : ∃ i w1, i < L.size ∧ (choose (.mapNext L.size)).run P w = .ok i w1 ∧ (w1 = w ∨ w1 = { w with drawn := w.drawn + 1 }) := by
      by_cases hf : L.size ≤ 1
      · exact ⟨0, w, hpos, by simp [choose, Sem.run, Question.forced, hf], .inl rfl⟩
      · exact ⟨w.tape w.drawn (.mapNext L.size) % L.size, _, Nat.mod_lt _ hpos, by simp [choose, Sem.run, Question.forced, hf, Question.cut], .inr rfl⟩
    have hheap : w1.heap = w.heap := by rcases hw1 with rfl | rfl <;> rfl
    have hemp : L.isEmpty = false := by simpa using hL
    obtain ⟨en, hen⟩ : ∃ en, L[i]? = some en := ⟨L[i], Array.getElem?_eq_getElem hi⟩
    have henL : L.toList[i]? = some en := by simpa using hen
    obtain ⟨p, hp, hpk⟩ : ∃ p, rest[i]? = some p ∧ (en.key, en.val) = (enc p.1, p.2) := by
      have h5 := congrArg (fun q => q[i]?) a5
      rw [← hlist] at h5
      simp only [List.getElem?_map, henL, Option.map_some] at h5
      cases hp : rest[i]? with
      | none => rw [hp] at h5; simp at h5
      | some p => rw [hp] at h5; simp at h5; exact ⟨p, rfl, by simp [h5]⟩
    simp only [Prod.mk.injEq] at hpk
    have hrl : r < w.heap.size := (Array.getElem?_eq_some_iff.1 a2).1
    have hset : ∀ o, (setObj r o).run P w1 = .ok () { w1 with heap := w1.heap.setIfInBounds r o } := fun o => by simp [setObj, Sem.run, hheap, a2]
    have hmem : en ∈ es.toList := by
      have := List.mem_of_getElem? henL
      rw [hlist] at this
      exact (List.mem_filter.1 this).1
    refine Does.of_run (v := .tuple #[.bool true, enc p.1, p.2]) (w' := { w1 with heap := w1.heap.setIfInBounds r (.mapIter (some m) c (s.push en.born) c) }) (fun a ha => ?_) ⟨some p, rfl, ?_, (fun h => by cases h), fun p' hp' => ?_⟩
    · have hgm := hg w rfl
      simp only [execOp, ha.ev hx, Instr.next, pp, Sem.run_bind, hr, hgm, Result.andThen_ok, hall2, hLe, hold, hnew, hemp, Bool.false_eq_true, if_false, Array.append_empty, Array.empty_append, Array.size_map, hch, Array.getElem?_map, hen, Option.map_some, hset, Sem.run_pure, hpk.1, hpk.2]
    · refine ⟨by rcases hw1 with rfl | rfl <;> rfl, by rcases hw1 with rfl | rfl <;> rfl, by rcases hw1 with rfl | rfl <;> rfl, by simp [hheap], fun k hk hn => ?_⟩
      rw [Array.getElem?_setIfInBounds_ne (Ne.symm hn), hheap]
    · cases hp'
      refine ⟨i, hp, ⟨es, c, s.push en.born, ?_, ?_, a3, a4, ?_⟩, ⟨es, c, s, en.born, en, ?_, ?_, ?_, hpk.1, hpk.2⟩⟩
      · rw [Array.getElem?_setIfInBounds_ne hne, hheap]; exact a1
      · simp [hheap, hrl]
      · have hnd : (L.toList.map (·.born)).Nodup := by rw [hlist]; exact a3.sublist (List.filter_sublist.map _)
        have h6 := filter_erase (fun e : MapEntry => e.born) L.toList i en hnd henL
        have h7 : (es.toList.filter fun e => !(s.push en.born).contains e.born) = L.toList.eraseIdx i := by
          rw [← h6, hlist, List.filter_filter]
          refine List.filter_congr fun x _ => ?_
          by_cases h1 : x.born = en.born <;> simp [Array.contains_push, Bool.and_comm, h1]
        rw [h7, map_eraseIdx', hlist, a5, map_eraseIdx']
      · rw [Array.getElem?_setIfInBounds_ne hne, hheap]; exact a1
      · simp [hheap, hrl]
      · rw [← Array.find?_toList]
        exact find_born (fun e : MapEntry => e.born) es.toList a3 hmem
end
end Go.X
set_option linter.unusedVariables false
set_option linter.unusedSimpArgs false
set_option maxHeartbeats 1000000
set_option maxRecDepth 100000
namespace Go.Proofs.YtcndimkkojdflaaGreatDoor
open Go Go.X
end Go.Proofs.YtcndimkkojdflaaGreatDoor
set_option linter.unusedVariables false
set_option linter.unusedSimpArgs false
set_option maxHeartbeats 1000000
set_option maxRecDepth 100000
namespace Go.Proofs.YtcndimkkojdflaaGreatDoor
open Go Go.X
end Go.Proofs.YtcndimkkojdflaaGreatDoor
set_option linter.unusedVariables false
set_option linter.unusedSimpArgs false
set_option maxHeartbeats 1000000
set_option maxRecDepth 100000
namespace Go.Proofs.YtcndimkkojdflaaGreatDoor
open Go Go.X
end Go.Proofs.YtcndimkkojdflaaGreatDoor
set_option linter.unusedVariables false
set_option linter.unusedSimpArgs false
set_option maxHeartbeats 1000000
set_option maxRecDepth 100000
namespace Go.X
open Ieee
end Go.X
namespace Go.Proofs.YtcndimkkojdflaaGreatDoor
open Go Go.X
end Go.Proofs.YtcndimkkojdflaaGreatDoor
set_option linter.unusedVariables false
set_option linter.unusedSimpArgs false
set_option maxHeartbeats 1000000
set_option maxRecDepth 100000
namespace Go.Proofs.YtcndimkkojdflaaGreatDoor
open Go Go.X
end Go.Proofs.YtcndimkkojdflaaGreatDoor
set_option linter.unusedVariables false
set_option linter.unusedSimpArgs false
set_option maxHeartbeats 1000000
set_option maxRecDepth 100000
namespace Go.Proofs.YtcndimkkojdflaaGreatDoor
open Go Go.X
end Go.Proofs.YtcndimkkojdflaaGreatDoor
set_option linter.unusedVariables false
set_option linter.unusedSimpArgs false
set_option maxHeartbeats 1000000
set_option maxRecDepth 100000
namespace Go.Proofs.YtcndimkkojdflaaGreatDoor
open Go Go.X
end Go.Proofs.YtcndimkkojdflaaGreatDoor
set_option linter.unusedVariables false
set_option linter.unusedSimpArgs false
set_option maxHeartbeats 1000000
set_option maxRecDepth 100000
namespace Go.Proofs.YtcndimkkojdflaaGreatDoor
open Go Go.X
theorem KX.lt {O M : Nat → Prop} {w : World} {p : Nat} {s : St} (h : KX O M w p s) {b : Nat} (hb : M b) : b < w.heap.size := h.at_.lt hb
structure Sv where
  d : Int
  id : Int
  labs : List Int
  val : Nat
  v : Value
def Sv.Ok (w : World) (x : Sv) : Prop := Sl No w x.v 1 x.labs.length (ints x.labs) ∧ (∀ n ∈ x.labs, -9223372036854775808 ≤ n ∧ n ≤ 9223372036854775807) ∧ x.val < 18446744073709551616
end Go.Proofs.YtcndimkkojdflaaGreatDoor
set_option linter.unusedVariables false
set_option linter.unusedSimpArgs false
set_option maxHeartbeats 1000000
set_option maxRecDepth 100000
namespace Go.Proofs.YtcndimkkojdflaaGreatDoor
open Go Go.X
end Go.Proofs.YtcndimkkojdflaaGreatDoor
set_option linter.unusedVariables false
set_option linter.unusedSimpArgs false
set_option maxHeartbeats 1000000
set_option maxRecDepth 100000
namespace Go.Proofs.YtcndimkkojdflaaGreatDoor
open Go Go.X Go.Sort
abbrev strs (xs : List ByteArray) : List Value := xs.map Value.string
def lst (b : ByteArray) : List UInt8 := b.data.toList
theorem enc_lst (b : ByteArray) : encStr (lst b) = .string b := by
  unfold encStr lst
  simp
theorem enc_map (xs : List ByteArray) : (xs.map lst).map encStr = strs xs := by
  rw [List.map_map]
  exact List.map_congr_left fun b _ => enc_lst b
theorem sortStr_ok (xs : List ByteArray) (v : Value) (w : World) (hv : Row w 9 1 v xs.length (strs xs)) (hb : xs.length < 4611686018427387904) :
    Fx Tryz.prog 157 [v] w (fun u w' => u = .tuple #[] ∧ ∃ ys : List ByteArray, ys.Perm xs ∧ (ys.map lst).Pairwise (· ≤ ·) ∧ Row w' 9 1 v xs.length (strs ys) ∧ Mod (fun b => v.ownBlock = some b) w w') := by
  rcases hv.2 with ⟨rfl, h0⟩ | ⟨g, cap, cur, rfl, _, hg, hn, hcap, hcs, htk⟩
  · have : xs = [] := List.eq_nil_of_length_eq_zero h0
    subst this
    refine Calls.mono (Tryz.slices_Sort_string_none none 0 w) ?_
    rintro e w' ⟨rfl, rfl⟩
    exact ⟨_, rfl, rfl, [], .refl _, by simp, Row.nil w' _ _, Mod.refl _ _⟩
  · rw [Nat.mul_one, ← enc_map] at htk
    have hl : (xs.map lst).length = xs.length := by simp
    have hcall := Tryz.slices_Sort_string g 0 cap (xs.map lst) w (holds_of_block hg (by rw [hl]; exact htk)) (Array.getElem?_eq_some_iff.1 hg).1 (by rw [hl]; exact hb)
    rw [hl] at hcall
    refine Calls.mono hcall ?_
    rintro e w' ⟨rfl, n, os, rfl⟩
    have hp : ((xs.map lst).mergeSort fun x y => decide (x ≤ y)).Perm (xs.map lst) := List.mergeSort_perm _ _
    have hlen : ((xs.map lst).mergeSort fun x y => decide (x ≤ y)).length = (xs.map lst).length := hp.length_eq
    have hrow := ownsRow_sorted (ss := xs.map lst) (ts := (xs.map lst).mergeSort fun x y => decide (x ≤ y)) (n := n) (os := os) hlen (Nat.zero_le _) hg (by rw [hl]; exact hn) hcap hcs
    rw [hl] at hrow
    refine ⟨_, rfl, rfl, ((xs.map lst).mergeSort fun x y => decide (x ≤ y)).map fun l => ⟨l.toArray⟩, ?_, ?_, ?_, Mod.grownBy (grownBy_sorted _) (fun k h => by cases h; rfl)⟩
    · have := hp.map fun l : List UInt8 => (⟨l.toArray⟩ : ByteArray)
      rw [List.map_map] at this
      refine this.trans ?_
      rw [List.map_congr_left (g := id) (fun b _ => by simp [lst]), List.map_id]
    · rw [List.map_map, List.map_congr_left (g := id) (fun b _ => by simp [lst]), List.map_id]
      have := List.pairwise_mergeSort (le := fun x y : List UInt8 => decide (x ≤ y)) (fun a b c h1 h2 => by simp only [decide_eq_true_eq] at *; exact List.le_trans h1 h2) (fun a b => by simpa using List.le_total a b) (xs.map lst)
      exact this.imp fun h => by simpa using h
    · have e : strs (((xs.map lst).mergeSort fun x y => decide (x ≤ y)).map fun l => (⟨l.toArray⟩ : ByteArray)) = ((xs.map lst).mergeSort fun x y => decide (x ≤ y)).map encStr := by unfold strs; rw [List.map_map]; rfl
      rw [e]
      exact hrow
end Go.Proofs.YtcndimkkojdflaaGreatDoor
set_option linter.unusedVariables false
set_option linter.unusedSimpArgs false
set_option maxHeartbeats 1000000
set_option maxRecDepth 100000
namespace Go.Proofs.YtcndimkkojdflaaGreatDoor
open Go Go.X
end Go.Proofs.YtcndimkkojdflaaGreatDoor
set_option linter.unusedVariables false
set_option linter.unusedSimpArgs false
set_option maxHeartbeats 2000000
set_option maxRecDepth 100000
namespace Go.Proofs.YtcndimkkojdflaaGreatDoor
open Go Go.X
end Go.Proofs.YtcndimkkojdflaaGreatDoor
set_option linter.unusedVariables false
set_option linter.unusedSimpArgs false
set_option maxHeartbeats 6400000
set_option maxRecDepth 100000
namespace Go.Proofs.YtcndimkkojdflaaGreatDoor
open Go Go.X
theorem sortNone_ok (w : World) : Fx Tryz.prog 157 [.slice none 0 0] w (fun u w' => u = .tuple #[] ∧ Grow w w') := by
  refine (sortStr_ok [] (.slice none 0 0) w (Row.nil _ _ _) (by decide)).mono ?_
  rintro u w' ⟨h1, ys, _, _, _, hm⟩
  exact ⟨h1, hm.mono fun b _ e => by simp [Value.ownBlock] at e⟩
theorem tokOf0_ok {w : World} {p : Nat} {most : Int} {v : Value} (h : TkAt w p most v []) (o : Int) : Fx Tryz.prog 112 [pp p, .int .i64 o] w (fun u w' => u = .slice none 0 0 ∧ Grow w w') := by
  obtain ⟨ad, c, rfl⟩ := h.row.slice
  refine enter Tryz.func112 rfl rfl rfl _ (Pick.sub (l := [0, 1]) (.cons rfl (.cons rfl .nil))) ?_
  refine RK.seq ?_
  refine RK.region ?_
  refine RL.p rfl rfl ?_
  refine RL.done ?_
  refine RK.seq ?_
  refine RK.region ?_
  refine RL.p rfl rfl ?_
  refine RL.done ?_
  iterate 2 refine RK.seq ?_
  refine RK.region ?_
  iterate 2 refine RL.p rfl rfl ?_
  refine RL.q (.free rfl) rfl rfl (Yld.fieldAddr fo195_1 rfl) ?_
  refine RL.q (.free rfl) rfl rfl (Yld.load p193 rfl (at1 (h.blk.cell rfl))) ?_
  refine RL.q (.free rfl) rfl rfl (Yld.lenSl u193 rfl) ?_
  refine RL.p rfl rfl ?_
  refine RL.done ?_
  refine RK.block ?_
  refine RK.loop (fun _ : Unit => [(5, .slice none 0 0), (12, .int .i64 0), (13, .int .i64 0)]) (fun _ w' => w = w') (fun _ => 0) () ⟨rfl, rfl, rfl, trivial⟩ rfl (fun _ w' hI ih => ?_)
  subst hI
  refine RK.seq ?_
  refine RK.region ?_
  refine RL.p rfl rfl ?_
  refine RL.done ?_
  refine RK.seq ?_
  refine RK.condF (hcF rfl (rfl)) ?_
  refine RK.exit rfl ?_
  refine RK.seq ?_
  refine RK.region ?_
  refine RL.p rfl rfl ?_
  refine RL.op (.free rfl) rfl rfl (Does.call rfl e157 (sortNone_ok _)) ?_
  rintro _ w2 ⟨rfl, hg2⟩
  refine RL.done ?_
  refine RK.seq ?_
  refine RK.region ?_
  iterate 2 refine RL.p rfl rfl ?_
  refine RL.done ?_
  refine RK.ret_of Tryz.func112 (res1 rfl rfl) ?_ _
  exact ⟨_, rfl, rfl, hg2⟩
end Go.Proofs.YtcndimkkojdflaaGreatDoor
set_option linter.unusedVariables false
set_option linter.unusedSimpArgs false
set_option maxHeartbeats 6400000
set_option maxRecDepth 100000
namespace Go.Proofs.YtcndimkkojdflaaGreatDoor
open Go Go.X
theorem grant0_ok {w : World} {p : Nat} {most : Int} (h : TkAt w p most (.slice none 0 0) []) (hm : 1 ≤ most) (s : ByteArray) (h4 : 4 ≤ s.size) (h16 : s.size ≤ 16) : Fx Tryz.prog 72 [pp p, .int .i64 0, .string s] w (fun u w' => (∃ v', TkAt w' p most v' [(s, 0)] ∧ ∀ b, v'.ownBlock = some b → w.heap.size ≤ b) ∧ Mod (· = p) w w') := by
  have hplt := h.blk.lt
  refine enter Tryz.func72 rfl rfl rfl _ (Pick.sub (l := [0, 1, 2]) (.cons rfl (.cons rfl (.cons rfl .nil)))) ?_
  refine RK.seq ?_
  refine RK.region ?_
  refine RL.p rfl rfl ?_
  refine RL.done ?_
  refine RK.seq ?_
  refine RK.block ?_
  refine RK.seq ?_
  refine RK.region ?_
  iterate 3 refine RL.p rfl rfl ?_
  refine RL.knownF (d := 10) rfl rfl (rfl) ?_
  refine RL.q (.yes rfl rfl rfl) rfl rfl (Yld.pure rfl) ?_
  refine RL.op (.yes rfl rfl rfl) rfl rfl (Does.call rfl e67 (tokenIs_ok s _)) ?_
  rintro _ _ ⟨rfl, rfl⟩
  refine RL.q (.yes rfl rfl rfl) rfl rfl (Yld.pure rfl) ?_
  iterate 2 refine RL.p rfl rfl ?_
  refine RL.done ?_
  refine RK.condF (hcF rfl (by first | rfl | simp [h4, h16])) ?_
  refine RK.seq ?_
  refine RK.region ?_
  iterate 2 refine RL.p rfl rfl ?_
  refine RL.op (.free rfl) rfl rfl (Does.call rfl e111 (tokPlace0_ok h s)) ?_
  rintro _ w1 ⟨rfl, hg1⟩
  have h1 := (h.grow hg1).grow (Mod.drew No _)
  iterate 2 refine RL.p rfl rfl ?_
  refine RL.done ?_
  refine RK.condF (hcF rfl (rfl)) ?_
  refine RK.seq ?_
  refine RK.drawM No [(0, false), (1, false), (4, false), (5, false), (6, false), (7, false), (2, true), (3, false), (8, false), (9, false)] [] mixed (by kernel_rfl) ?_
  iterate 4 refine DL.p rfl rfl rfl ?_
  refine DL.qf rfl (.free rfl) rfl rfl (Yld.fieldAddr fo195_0 rfl) ?_
  refine DL.q rfl (.free rfl) rfl rfl rfl (Yld.load p3 rfl (atM (h1.blk.cell rfl) id)) (Mod.drew _ _) ?_
  refine DL.op rfl (.free rfl) rfl rfl (Does.call rfl e112 (tokOf0_ok h1 0)) ?_
  rintro _ w2 ⟨rfl, hg2⟩
  refine ⟨(Mod.drew _ _).trans hg2, ?_⟩
  have hG2 : Grow w w2 := hg1.trans ((Mod.drew _ _).trans hg2)
  have h2 := h.grow hG2
  refine DL.q rfl (.free rfl) rfl rfl rfl (Yld.lenSl u26 rfl) ((Mod.drew _ _).trans hg2) ?_
  iterate 2 refine DL.p rfl rfl rfl ?_
  refine DL.done ?_
  refine RK.condF (hcF rfl (decide_eq_false (by omega))) ?_
  refine RK.skip ?_
  refine RK.inBlock ?_
  refine RK.seq ?_
  refine RK.region ?_
  iterate 3 refine RL.p rfl rfl ?_
  refine RL.q (.free rfl) rfl rfl (Yld.fieldAddr fo195_1 rfl) ?_
  refine RL.q (.free rfl) rfl rfl (Yld.load p193 rfl (at1 (h2.blk.cell rfl))) ?_
  iterate 2 refine RL.p rfl rfl ?_
  refine RL.q (.free rfl) rfl rfl (Yld.build (v := .agg #[.string s, .int .i64 0]) rfl (fun w => by kernel_rfl)) ?_
  refine RL.op (.free rfl) rfl rfl (Does.slice1 u193 i199 rfl rfl rfl rfl rfl) ?_
  rintro _ w5 ⟨b5, rfl, hn5⟩
  refine RL.op (.free rfl) rfl rfl (Does.append u193 i199 rfl rfl rfl rfl rfl (Row.nil _ _ _) (Sl.new hn5 2 1 rfl (by decide) (fun h => h)) (rfl) (by decide)) ?_
  rintro u6 w6 ⟨hr6, hm6, hu6⟩
  have hg6 : Grow w5 w6 := hm6.mono (fun b _ e => by simp [Value.ownBlock] at e)
  have hz5 := hn5.size
  have hz2 := hG2.size
  have hp6 : ∀ b, u6.ownBlock = some b → w.heap.size ≤ b := fun b e => by
      rcases hu6 with h | h
      · rw [h] at e; simp [Value.ownBlock] at e
      · rw [h] at e; cases e; omega
  obtain ⟨a6, c6, rfl⟩ := hr6.slice
  have hG6 : Grow w2 w6 := hn5.grow.trans hg6
  refine RL.p rfl rfl ?_
  refine RL.q (.free rfl) rfl rfl (Yld.fieldAddr fo195_1 rfl) ?_
  refine RL.op' (.free rfl) rfl (Does.store i193 rfl rfl rfl (h2.grow hG6).blk (.s .z)) ?_
  rintro _ w7 ⟨hb7, hm7, hs7⟩
  refine RL.done ?_
  refine RK.seq ?_
  refine RK.region ?_
  refine RL.p rfl rfl ?_
  refine RL.done ?_
  refine RK.ret_of Tryz.func72 (res1 rfl rfl) ?_ _
  exact ⟨_, rfl, ⟨_, ⟨hb7, hr6.mod hm7 (fun b e1 e2 => by have e' : b = p := e2; have := hp6 b e1; omega)⟩, hp6⟩, (Mod.any' (hG2.trans hG6)).trans hm7⟩
@[reducible] def cfgC (tok : ByteArray) (a b c d e f g r : Int) : List Value := [.string tok, .int .i64 a, .int .i64 b, .int .i64 c, .int .i64 d, .int .i64 e, .int .i64 f, .int .i64 g, .int .u64 r]
structure DkAt (w : World) (dk dr q tk pl : Nat) (tok : ByteArray) (now dm tm pm : Int) (n : Nat) (v : Value) (cs ds : List Value) (vt : Value) (last : Int) (out : List Int) (vp : Value) : Prop where
  blk : Blk w dk 140 [pp dr, pp tk, pp pl]
  door : DoorAt w dr q 0 now dm n v cs ds
  tok : TkAt w tk tm vt [(tok, 0)]
  pool : PoolAt w pl pm last out vp
theorem PoolAt.grow' {w w' : World} {p : Nat} {most last : Int} {out : List Int} {v : Value} (h : PoolAt w p most last out v) (hg : Grow w w') : PoolAt w' p most last out v := ⟨h.blk.mod hg (fun h => h), h.row.mod hg (fun _ _ h => h), h.ne⟩
theorem DkAt.grow {w w' : World} {dk dr q tk pl : Nat} {tok : ByteArray} {now dm tm pm : Int} {n : Nat} {v : Value} {cs ds : List Value} {vt : Value} {last : Int} {out : List Int} {vp : Value} (h : DkAt w dk dr q tk pl tok now dm tm pm n v cs ds vt last out vp) (hg : Grow w w') : DkAt w' dk dr q tk pl tok now dm tm pm n v cs ds vt last out vp := ⟨h.blk.mod hg (fun h => h), h.door.grow hg, h.tok.grow hg, h.pool.grow' hg⟩
theorem deskNew_ok (tok : ByteArray) (a b c d e f g r : Int) (h4 : 4 ≤ tok.size) (h16 : tok.size ≤ 16) (ha1 : 1 ≤ a) (ha2 : a ≤ 6) (hb1 : 1 ≤ b) (hb2 : b ≤ 4) (hg1' : 1 ≤ g) (hg2' : g ≤ 200) (w : World) (hK : KeysAt w) : Fx Tryz.prog 39 [.agg (cfgC tok a b c d e f g r).toArray, .int .u64 0] w (fun u w' => ∃ dk dr q tk pl ds vt, u = pp dk ∧ DkAt w' dk dr q tk pl tok 0 g b a 0 (.slice none 0 0) [] ds vt 0 [] (.slice none 0 0) ∧ (w.heap.size ≤ dk ∧ w.heap.size ≤ dr ∧ w.heap.size ≤ q ∧ w.heap.size ≤ tk ∧ w.heap.size ≤ pl) ∧ Grow w w') := by
  refine enter Tryz.func39 rfl rfl rfl _ (Pick.sub (l := [0, 1]) (.cons rfl (.cons rfl .nil))) ?_
  refine RK.seq ?_
  refine RK.region ?_
  refine RL.op (.free rfl) rfl rfl (Does.box rfl) ?_
  rintro _ w2 ⟨b2, rfl, hn2⟩
  have hB : Blk w2 b2 33 (cfgC tok a b c d e f g r) := hn2.blk
  have hBd := hB.mod (Mod.drew No _) (fun h => h)
  have hz2 := hn2.size
  refine RL.p rfl rfl ?_
  refine RL.done ?_
  refine RK.seq ?_
  refine RK.drawM No [(0, false), (1, false), (2, false), (4, false), (5, false), (7, false), (8, false), (9, false), (10, false), (3, true), (6, true), (11, true), (12, false), (13, true), (14, false)] [] mixed (by kernel_rfl) ?_
  refine DL.qf rfl (.free rfl) rfl rfl (Yld.fieldAddr fo33_7 rfl) ?_
  refine DL.q rfl (.free rfl) rfl rfl rfl (Yld.load p3 rfl (atM (hBd.cell rfl) id)) (Mod.drew _ _) ?_
  refine DL.p rfl rfl rfl ?_
  refine DL.qf rfl (.free rfl) rfl rfl (Yld.fieldAddr fo33_2 rfl) ?_
  refine DL.q rfl (.free rfl) rfl rfl rfl (Yld.load p3 rfl (atM (hBd.cell rfl) id)) (Mod.drew _ _) ?_
  refine DL.qf rfl (.free rfl) rfl rfl (Yld.fieldAddr fo33_1 rfl) ?_
  refine DL.q rfl (.free rfl) rfl rfl rfl (Yld.load p3 rfl (atM (hBd.cell rfl) id)) (Mod.drew _ _) ?_
  refine DL.q rfl (.free rfl) rfl rfl rfl (Yld.max2 rfl rfl) (Mod.drew _ _) ?_
  refine DL.q rfl (.free rfl) rfl rfl rfl (Yld.min2 rfl rfl) (Mod.drew _ _) ?_
  refine DL.op rfl (.free rfl) rfl rfl (Does.call rfl e69 (doorNew_ok 0 g 0 (by decide) hg1' hg2' _ (hK.grow (hn2.grow.trans (Mod.drew No _))))) ?_
  rintro _ w3 ⟨dr, q, ds, rfl, hdr, hq, hD3, hg3⟩
  refine ⟨(Mod.drew _ _).trans hg3, ?_⟩
  refine DL.op rfl (.free rfl) rfl rfl (Does.call rfl e70 (tokNew_ok b hb1 hb2 _)) ?_
  rintro _ w4 ⟨tk, rfl, htk, hT4, hg4⟩
  refine ⟨((Mod.drew _ _).trans hg3).trans hg4, ?_⟩
  refine DL.op rfl (.free rfl) rfl rfl (Does.call rfl e71 (poolNew_ok _ _)) ?_
  rintro _ w5 ⟨pl, rfl, hpl, hP5, hg5, hs5⟩
  refine ⟨(((Mod.drew _ _).trans hg3).trans hg4).trans hg5, ?_⟩
  refine DL.qf rfl (.free rfl) rfl rfl (Yld.build (v := .agg #[pp dr, pp tk, pp pl]) rfl (fun w => by kernel_rfl)) ?_
  refine DL.op rfl (.free rfl) rfl rfl (Does.box rfl) ?_
  rintro _ w6 ⟨dk, rfl, hn6⟩
  refine ⟨((((Mod.drew _ _).trans hg3).trans hg4).trans hg5).trans hn6.grow, ?_⟩
  have hz3 := hg3.size
  have hz4 := hg4.size
  have hz5 := hg5.size
  have hk6 := hn6.at_
  simp only [World.drew] at hdr hq hz3
  have e1 : (if (0 : Int) > (if (6 : Int) < (if (1 : Int) > a then 1 else a) then 6 else (if (1 : Int) > a then 1 else a)) then 0 else (if (6 : Int) < (if (1 : Int) > a then 1 else a) then 6 else (if (1 : Int) > a then 1 else a))) = a := by (repeat' split) <;> omega
  have hB6 : Blk w6 dk 140 [pp dr, pp tk, pp pl] := hn6.blk
  have hG26 : Grow w2 w6 := ((((Mod.drew _ _).trans hg3).trans hg4).trans hg5).trans hn6.grow
  have hT6 := ((hT4.grow hg5).grow hn6.grow)
  have hBB6 := hB.mod hG26 (fun h => h)
  refine DL.p rfl rfl rfl ?_
  refine DL.done ?_
  refine RK.seq ?_
  refine RK.drawM (· = tk) [(0, false), (1, false), (2, false), (3, false), (4, false), (5, false), (6, true)] [] mixed (by kernel_rfl) ?_
  iterate 2 refine DL.p rfl rfl rfl ?_
  refine DL.qf rfl (.free rfl) rfl rfl (Yld.fieldAddr fo140_1 rfl) ?_
  refine DL.q rfl (.free rfl) rfl rfl rfl (Yld.load p135 rfl (atM ((hB6.mod (Mod.drew No _) (fun h => h)).cell rfl) (fun e => hB6.ty.ne hT6.blk.ty rfl e))) (Mod.drew _ _) ?_
  refine DL.qf rfl (.free rfl) rfl rfl (Yld.fieldAddr fo33_0 rfl) ?_
  refine DL.q rfl (.free rfl) rfl rfl rfl (Yld.load p9 rfl (atM ((hBB6.mod (Mod.drew No _) (fun h => h)).cell rfl) (fun e => hBB6.ty.ne hT6.blk.ty rfl e))) (Mod.drew _ _) ?_
  refine DL.op rfl (.free rfl) rfl rfl (Does.call rfl e72 (grant0_ok (hT6.grow (Mod.drew No _)) hb1 tok h4 h16)) ?_
  rintro _ w7 ⟨⟨vt, hT7, hv7⟩, hm7⟩
  refine ⟨(Mod.drew _ _).trans hm7, ?_⟩
  have hD6 := ((hD3.grow hg4).grow hg5).grow hn6.grow
  have hD7 : DoorAt w7 dr q 0 0 g 0 (.slice none 0 0) [] ds := ⟨(hD6.grow (Mod.drew No _)).blk.mod hm7 (fun e => hD6.blk.ty.ne hT6.blk.ty rfl e), (hD6.grow (Mod.drew No _)).ch.blk.mod hm7 (fun e => hD6.ch.blk.ty.ne hT6.blk.ty rfl e), Row.nil _ _ _, hD6.ch.head⟩
  have hP6 := (hP5.grow' hn6.grow).grow' (Mod.drew No _)
  refine DL.done ?_
  refine RK.seq ?_
  refine RK.region ?_
  iterate 2 refine RL.p rfl rfl ?_
  refine RL.done ?_
  refine RK.ret_of Tryz.func39 (res1 rfl rfl) ?_ _
  exact ⟨_, rfl, dk, dr, q, tk, pl, ds, vt, rfl, ⟨(hB6.mod (Mod.drew No _) (fun h => h)).mod hm7 (fun e => hB6.ty.ne hT6.blk.ty rfl e), hD7, hT7, by
      rw [e1] at hP6
      exact ⟨hP6.blk.mod hm7 (fun e => hP6.blk.ty.ne (hT6.grow (Mod.drew No _)).blk.ty rfl e), Row.nil _ _ _, hP6.ne⟩⟩, ⟨by omega, by omega, by omega, by omega, by omega⟩, ((hn2.grow.trans hG26).trans (Mod.drew _ _)).then hm7 (fun x hx e => by have e' : x = tk := e; omega)⟩
end Go.Proofs.YtcndimkkojdflaaGreatDoor
set_option linter.unusedVariables false
set_option linter.unusedSimpArgs false
set_option maxHeartbeats 800000
set_option maxRecDepth 100000
namespace Go.Proofs.YtcndimkkojdflaaGreatDoor
open Go Go.X
structure En where
  due : Int
  id : Int
deriving DecidableEq
def enC (e : En) : List Value := [.int .u64 e.due, .int .i64 e.id]
def ltE (x y : En) : Prop := x.due < y.due ∨ (x.due = y.due ∧ x.id < y.id)
instance (x y : En) : Decidable (ltE x y) := inferInstanceAs (Decidable (_ ∨ _))
def SortE (q : List En) : Prop := q.Pairwise ltE
end Go.Proofs.YtcndimkkojdflaaGreatDoor
set_option linter.unusedVariables false
set_option linter.unusedSimpArgs false
set_option maxHeartbeats 1600000
set_option maxRecDepth 100000
namespace Go.Proofs.YtcndimkkojdflaaGreatDoor
open Go Go.X
structure QAt (w : World) (p : Nat) (q : List En) (v : Value) : Prop where
  blk : Blk w p 295 [v]
  row : Row w 297 2 v q.length (q.flatMap enC)
  ne : v.ownBlock ≠ some p
theorem QAt.mod {M : Nat → Prop} {w w' : World} {p : Nat} {q : List En} {v : Value} (h : QAt w p q v) (hm : Mod M w w') (hp : ¬ M p) (hv : ∀ b, v.ownBlock = some b → ¬ M b) : QAt w' p q v := ⟨h.blk.mod hm hp, h.row.mod hm hv, h.ne⟩
theorem QAt.grow {w w' : World} {p : Nat} {q : List En} {v : Value} (h : QAt w p q v) (hm : Grow w w') : QAt w' p q v := h.mod hm (fun h => h) (fun _ _ h => h)
end Go.Proofs.YtcndimkkojdflaaGreatDoor
set_option linter.unusedVariables false
set_option linter.unusedSimpArgs false
set_option maxHeartbeats 1000000
set_option maxRecDepth 100000
namespace Go.Proofs.YtcndimkkojdflaaGreatDoor
open Go Go.X Go.Rex
structure AlOk (M : Nat → Prop) (w : World) (a : Al) : Prop where
  l : SlL M w a.v a.ls
  z : ∀ x ∈ a.ls, x.value.size ≤ 100000
theorem AlOk.mod {M : Nat → Prop} {w w' : World} {a : Al} (h : AlOk M w a) (hm : Mod M w w') : AlOk M w' a := ⟨h.l.mod hm, h.z⟩
end Go.Proofs.YtcndimkkojdflaaGreatDoor
set_option linter.unusedVariables false
set_option linter.unusedSimpArgs false
set_option maxHeartbeats 2000000
set_option maxRecDepth 100000
namespace Go.Proofs.YtcndimkkojdflaaGreatDoor
open Go Go.X Go.Rex
structure Sil where
  id : Int
  ver : Int
  start : Int
  stop : Int
  mv : Value
  ms : List Mt
  bd : Bd
def silC (s : Sil) : List Value := [.int .i64 s.id, .int .i64 s.ver, .int .u64 s.start, .int .u64 s.stop, s.mv, .bool s.bd.all, .float .f64 s.bd.lo, .float .f64 s.bd.hi]
structure PlainIn (w : World) (t : Al) (sils : List Sil) (vs : Value) (als : List Al) (va : Value) (rs : List Ru) (vr : Value) : Prop where
  t : AlOk No w t
  s : Sl No w vs 8 sils.length (sils.flatMap silC)
  sm : ∀ s ∈ sils, SlM No w s.mv s.ms
  a : Sl No w va 3 als.length (als.flatMap alC)
  al : ∀ a ∈ als, AlOk No w a
  r : Sl No w vr 6 rs.length (rs.flatMap ruC)
  rl : ∀ r ∈ rs, r.Ok No w
  n1 : sils.length ≤ 1000
  n2 : als.length ≤ 1000
  n3 : rs.length ≤ 1000
theorem PlainIn.mod {w w' : World} {t : Al} {sils : List Sil} {vs : Value} {als : List Al} {va : Value} {rs : List Ru} {vr : Value} (h : PlainIn w t sils vs als va rs vr) (hg : Grow w w') : PlainIn w' t sils vs als va rs vr :=
  ⟨h.t.mod hg, h.s.mod hg, fun s hs => (h.sm s hs).mod hg, h.a.mod hg, fun a ha => (h.al a ha).mod hg, h.r.mod hg, fun r hr => (h.rl r hr).mod hg, h.n1, h.n2, h.n3⟩
end Go.Proofs.YtcndimkkojdflaaGreatDoor
set_option linter.unusedVariables false
set_option linter.unusedSimpArgs false
set_option maxHeartbeats 400000
namespace Go.Proofs.YtcndimkkojdflaaGreatDoor
open Go Go.X
abbrev CRows := List (ByteArray × List Int)
abbrev CKeys := List (Int × ByteArray)
def addC (rows : CRows) (k : ByteArray) (id : Int) : CRows := putM rows k (mkRow ((lookM rows k).getD [] ++ [id]))
def cutC (rows : CRows) (k : ByteArray) (id : Int) : CRows := if cutRow ((lookM rows k).getD []) id = [] then cutM (putM rows k (cutRow ((lookM rows k).getD []) id)) k else putM rows k (cutRow ((lookM rows k).getD []) id)
def dropC (c : CRows × CKeys) (id : Int) : CRows × CKeys := match lookM c.2 id with
  | none => c
  | some k => (cutC c.1 k id, cutM c.2 id)
def putC (c : CRows × CKeys) (id : Int) (s : Bool) (k : ByteArray) : CRows × CKeys := if s = true then (addC (dropC c id).1 k id, putM (dropC c id).2 id k) else dropC c id
structure CI (c : CRows × CKeys) : Prop where
  nk : (c.2.map (·.1)).Nodup
  nr : (c.1.map (·.1)).Nodup
  row : ∀ t ∈ c.1, Ris t.2 ∧ t.2 ≠ []
  mem : ∀ k id, id ∈ (lookM c.1 k).getD [] ↔ lookM c.2 id = some k
theorem CI.nil : CI ([], []) := ⟨by simp, by simp, by simp, by simp [lookM, placeM]⟩
theorem lookC_add (rows : CRows) (k k' : ByteArray) (id j : Int) : j ∈ (lookM (addC rows k id) k').getD [] ↔ j ∈ (lookM rows k').getD [] ∨ j = id ∧ k' = k := by
  unfold addC
  rw [lookM_putM]
  by_cases hk : k' = k
  · subst hk; simp [mem_mkRow]
  · rw [if_neg hk]; simp [hk]
theorem lookC_cut {rows : CRows} (h : (rows.map (·.1)).Nodup) (k k' : ByteArray) (id j : Int) : j ∈ (lookM (cutC rows k id) k').getD [] ↔ j ∈ (lookM rows k').getD [] ∧ ¬ (j = id ∧ k' = k) := by
  have hp := putM_nodup (k := k) (v := cutRow ((lookM rows k).getD []) id) h
  have e : (lookM (cutC rows k id) k').getD [] = if k' = k then cutRow ((lookM rows k).getD []) id else (lookM rows k').getD [] := by
    unfold cutC
    split
    · rename_i h0
      rw [lookM_cutM hp, lookM_putM]
      split
      · simp [h0]
      · rfl
    · rw [lookM_putM]
      split <;> rfl
  rw [e]
  by_cases hk : k' = k
  · subst hk; simp [mem_cutRow]
  · rw [if_neg hk]; simp [hk]
theorem addC_rows {rows : CRows} (hr : ∀ t ∈ rows, Ris t.2 ∧ t.2 ≠ []) (k : ByteArray) (id : Int) : ∀ t ∈ addC rows k id, Ris t.2 ∧ t.2 ≠ [] := fun t ht => by
  rcases mem_putM ht with h1 | rfl
  · exact hr t h1
  · exact ⟨mkRow_ris _, mkRow_ne (x := id) (by simp)⟩
theorem cutC_rows {rows : CRows} (hn : (rows.map (·.1)).Nodup) (hr : ∀ t ∈ rows, Ris t.2 ∧ t.2 ≠ []) (k : ByteArray) (id : Int) : ((cutC rows k id).map (·.1)).Nodup ∧ ∀ t ∈ cutC rows k id, Ris t.2 ∧ t.2 ≠ [] := by
  have hp := putM_nodup (k := k) (v := cutRow ((lookM rows k).getD []) id) hn
  unfold cutC
  split
  · refine ⟨cutM_nodup hp, fun t ht => ?_⟩
    obtain ⟨h1, h2⟩ := (mem_cutM hp).1 ht
    rcases mem_putM h1 with h3 | rfl
    · exact hr t h3
    · exact absurd rfl h2
  · rename_i hne
    refine ⟨hp, fun t ht => ?_⟩
    rcases mem_putM ht with h3 | rfl
    · exact hr t h3
    · exact ⟨cutRow_ris _ _, hne⟩
theorem dropC_look {c : CRows × CKeys} (h : CI c) (id j : Int) : lookM (dropC c id).2 j = if j = id then none else lookM c.2 j := by
  unfold dropC
  cases hk : lookM c.2 id with
  | none =>
    simp only
    split
    · rename_i e; rw [e]; exact hk
    · rfl
  | some k => exact lookM_cutM h.nk
theorem CI.drop {c : CRows × CKeys} (h : CI c) (id : Int) : CI (dropC c id) := by
  have hl := dropC_look h id
  unfold dropC at hl ⊢
  cases hk : lookM c.2 id with
  | none => exact h
  | some k =>
    rw [hk] at hl
    obtain ⟨h1, h2⟩ := cutC_rows h.nr h.row k id
    refine ⟨cutM_nodup h.nk, h1, h2, fun k' j => ?_⟩
    have h3 := hl j
    simp only at h3 ⊢
    rw [lookC_cut h.nr, h.mem, h3]
    by_cases e : j = id
    · subst e
      rw [hk]
      simp only [true_and, if_true, Option.some.injEq, reduceCtorEq, iff_false]
      intro hh
      exact hh.2 hh.1.symm
    · simp [e]
theorem putC_look {c : CRows × CKeys} (h : CI c) (id : Int) (s : Bool) (k : ByteArray) (j : Int) : lookM (putC c id s k).2 j = if j = id then (if s = true then some k else none) else lookM c.2 j := by
  unfold putC
  cases s with
  | true =>
    simp only [if_true]
    rw [lookM_putM, dropC_look h]
    by_cases e : j = id <;> simp [e]
  | false =>
    simp only [Bool.false_eq_true, if_false]
    rw [dropC_look h]
theorem CI.put {c : CRows × CKeys} (h : CI c) (id : Int) (s : Bool) (k : ByteArray) : CI (putC c id s k) := by
  have hd := h.drop id
  have hl := putC_look h id s k
  unfold putC at hl ⊢
  cases s with
  | false => exact hd
  | true =>
    simp only [if_true] at hl ⊢
    refine ⟨putM_nodup hd.nk, putM_nodup hd.nr, addC_rows hd.row _ _, fun k' j => ?_⟩
    have h3 := hl j
    simp only at h3 ⊢
    rw [lookC_add, hd.mem, h3, dropC_look h]
    by_cases e : j = id
    · subst e; simp [eq_comm]
    · simp [e]
def CB (c : CRows × CKeys) (B : Nat) : Prop := (∀ t ∈ c.1, t.2.length ≤ B) ∧ c.2.length ≤ B
theorem CB.nil : CB ([], []) 0 := ⟨by simp, by simp⟩
theorem CB.mono {c : CRows × CKeys} {B B' : Nat} (h : CB c B) (hB : B ≤ B') : CB c B' := ⟨fun t ht => Nat.le_trans (h.1 t ht) hB, Nat.le_trans h.2 hB⟩
theorem CB.look {c : CRows × CKeys} {B : Nat} (h : CB c B) (k : ByteArray) : ((lookM c.1 k).getD []).length ≤ B := by
  cases hl : lookM c.1 k with
  | none => simp
  | some a => exact h.1 _ (lookM_mem hl)
theorem cutM_len {κ α : Type} [DecidableEq κ] (k : κ) (l : List (κ × α)) : (cutM l k).length ≤ l.length := (cutM_sub k l).length_le
theorem CB.drop {c : CRows × CKeys} {B : Nat} (h : CB c B) (id : Int) : CB (dropC c id) B := by
  unfold dropC
  cases hk : lookM c.2 id with
  | none => exact h
  | some k =>
    refine ⟨fun t ht => ?_, Nat.le_trans (cutM_len _ _) h.2⟩
    have hp : ∀ t ∈ putM c.1 k (cutRow ((lookM c.1 k).getD []) id), t.2.length ≤ B := fun t ht => by
      rcases mem_putM ht with h1 | rfl
      · exact h.1 t h1
      · exact Nat.le_trans (cutRow_le _ _) (h.look k)
    simp only [cutC] at ht
    split at ht
    · exact hp t (mem_cutM' ht)
    · exact hp t ht
theorem CB.put {c : CRows × CKeys} {B : Nat} (h : CB c B) (id : Int) (s : Bool) (k : ByteArray) : CB (putC c id s k) (B + 1) := by
  have hd := h.drop id
  unfold putC
  cases s with
  | false => exact ⟨fun t ht => Nat.le_succ_of_le (hd.1 t ht), Nat.le_succ_of_le hd.2⟩
  | true =>
    simp only [if_true]
    refine ⟨fun t ht => ?_, ?_⟩
    · rcases mem_putM ht with h1 | rfl
      · exact Nat.le_succ_of_le (hd.1 t h1)
      · have h1 := mkRow_le ((lookM (dropC c id).1 k).getD [] ++ [id])
        have h2 := hd.look k
        simp at h1 ⊢
        omega
    · have h2 := hd.2
      rw [putM_len]
      split <;> omega
end Go.Proofs.YtcndimkkojdflaaGreatDoor
set_option linter.unusedVariables false
set_option linter.unusedSimpArgs false
set_option maxHeartbeats 400000
namespace Go.Proofs.YtcndimkkojdflaaGreatDoor
open Go Go.X
section
variable {α : Type} (idf : α → Int) (src : α → Bool) (key : α → ByteArray)
def leftA (all : List α) (id : Int) : List α := all.filter fun a => decide (idf a ≠ id)
structure CR (c : CRows × CKeys) (all : List α) : Prop where
  ci : CI c
  nd : (all.map idf).Nodup
  look : ∀ id k, lookM c.2 id = some k ↔ ∃ a ∈ all, idf a = id ∧ src a = true ∧ key a = k
end
section
variable {α : Type} {idf : α → Int} {src : α → Bool} {key : α → ByteArray} {c : CRows × CKeys} {all : List α}
theorem CR.nil : CR idf src key ([], []) [] := ⟨CI.nil, by simp, by simp [lookM, placeM]⟩
theorem mem_leftA {id : Int} {a : α} : a ∈ leftA idf all id ↔ a ∈ all ∧ idf a ≠ id := by simp [leftA]
theorem leftA_nd (h : (all.map idf).Nodup) (id : Int) : ((leftA idf all id).map idf).Nodup := h.sublist (List.filter_sublist.map _)
theorem CR.drop (h : CR idf src key c all) (id : Int) : CR idf src key (dropC c id) (leftA idf all id) := by
  refine ⟨h.ci.drop id, leftA_nd h.nd id, fun j k => ?_⟩
  rw [dropC_look h.ci]
  by_cases e : j = id
  · rw [if_pos e]
    simp only [reduceCtorEq, false_iff]
    rintro ⟨a, ha, e1, _⟩
    exact (mem_leftA.1 ha).2 (e1.trans e)
  · rw [if_neg e, h.look]
    constructor
    · rintro ⟨a, ha, e1, e2⟩
      exact ⟨a, mem_leftA.2 ⟨ha, fun e3 => e (e1 ▸ e3)⟩, e1, e2⟩
    · rintro ⟨a, ha, e1, e2⟩
      exact ⟨a, (mem_leftA.1 ha).1, e1, e2⟩
theorem CR.put (h : CR idf src key c all) (a : α) : CR idf src key (putC c (idf a) (src a) (key a)) (leftA idf all (idf a) ++ [a]) := by
  refine ⟨h.ci.put _ _ _, ?_, fun j k => ?_⟩
  · rw [List.map_append, List.nodup_append]
    refine ⟨leftA_nd h.nd _, by simp, fun x hx y hy e => ?_⟩
    simp only [List.map_cons, List.map_nil, List.mem_singleton] at hy
    obtain ⟨b, hb, e2⟩ := List.mem_map.1 hx
    exact (mem_leftA.1 hb).2 (e2.trans (e.trans hy))
  · rw [putC_look h.ci]
    by_cases e : j = idf a
    · subst e
      simp only [if_true]
      constructor
      · intro h1
        cases hs : src a with
        | false => rw [hs] at h1; simp at h1
        | true =>
          rw [hs] at h1
          simp only [if_true, Option.some.injEq] at h1
          exact ⟨a, by simp, rfl, hs, h1⟩
      · rintro ⟨b, hb, e1, e2, e3⟩
        rcases List.mem_append.1 hb with hb | hb
        · exact absurd e1 (mem_leftA.1 hb).2
        · rw [List.mem_singleton] at hb
          subst hb
          rw [if_pos e2, e3]
    · rw [if_neg e, h.look]
      constructor
      · rintro ⟨b, hb, e1, e2⟩
        exact ⟨b, List.mem_append_left _ (mem_leftA.2 ⟨hb, fun e3 => e (e1 ▸ e3)⟩), e1, e2⟩
      · rintro ⟨b, hb, e1, e2⟩
        rcases List.mem_append.1 hb with hb | hb
        · exact ⟨b, (mem_leftA.1 hb).1, e1, e2⟩
        · rw [List.mem_singleton] at hb
          exact absurd (hb ▸ e1).symm e
theorem keys_nil {l : CKeys} (h : ∀ j k, lookM l j ≠ some k) : l = [] := by
  cases l with
  | nil => rfl
  | cons t l => exact absurd (by rw [lookM_cons, if_pos rfl]) (h t.1 t.2)
theorem CI.empty (h : CI c) (h2 : c.2 = []) : c.1 = [] := by
  cases hc : c.1 with
  | nil => rfl
  | cons t l =>
    have ht : t ∈ c.1 := by rw [hc]; simp
    obtain ⟨_, hne⟩ := h.row t ht
    obtain ⟨j, hj⟩ := List.exists_mem_of_ne_nil _ hne
    have hl : lookM c.1 t.1 = some t.2 := (lookM_iff h.nr).2 ht
    have := (h.mem t.1 j).1 (by rw [hl]; exact hj)
    rw [h2] at this
    simp [lookM, placeM] at this
theorem CR.empty (h : CR idf src key c []) : c.1 = [] ∧ c.2 = [] := by
  have h2 : c.2 = [] := keys_nil fun j k e => by
    obtain ⟨a, ha, _⟩ := (h.look j k).1 e
    cases ha
  exact ⟨h.ci.empty h2, h2⟩
end
end Go.Proofs.YtcndimkkojdflaaGreatDoor
set_option linter.unusedVariables false
set_option linter.unusedSimpArgs false
set_option maxHeartbeats 1000000
set_option maxRecDepth 100000
namespace Go.Proofs.YtcndimkkojdflaaGreatDoor
open Go Go.X Go.Rex
structure CacheAt (M : Nat → Prop) (w : World) (p mr mk : Nat) (r : Ru) (c : CRows × CKeys) : Prop where
  blk : Blk w p 314 (ruC r ++ [.map (some mr), .map (some mk)])
  ne : mr ≠ mk
  ok : r.Ok M w
  rl : ∃ l : List (ByteArray × (List Int × Value)), l.map (fun t => (t.1, t.2.1)) = c.1 ∧ MapAt Value.string w mr (l.map fun t => (t.1, t.2.2)) ∧ ∀ t ∈ l, Sl M w t.2.2 1 t.2.1.length (ints t.2.1)
  kl : MapAt (Value.int .i64) w mk (c.2.map fun t => (t.1, Value.string t.2))
theorem CacheAt.mod {M M0 : Nat → Prop} {w w' : World} {p mr mk : Nat} {r : Ru} {c : CRows × CKeys} (h : CacheAt M w p mr mk r c) (hm : Mod M0 w w') (h0 : ∀ b, b < w.heap.size → M0 b → M b) (n1 : ¬ M0 p) (n2 : ¬ M0 mr) (n3 : ¬ M0 mk) : CacheAt M w' p mr mk r c := by
  obtain ⟨l, hl1, hl2, hl3⟩ := h.rl
  exact ⟨h.blk.mod hm n1, h.ne, h.ok.mod (hm.mono h0), ⟨l, hl1, hl2.mod hm n2, fun t ht => (hl3 t ht).mod (hm.mono h0)⟩, h.kl.mod hm n3⟩
theorem CacheAt.grow {M : Nat → Prop} {w w' : World} {p mr mk : Nat} {r : Ru} {c : CRows × CKeys} (h : CacheAt M w p mr mk r c) (hm : Grow w w') : CacheAt M w' p mr mk r c := h.mod hm (fun b _ e => e.elim) (fun h => h) (fun h => h) (fun h => h)
theorem CacheAt.off {M M' : Nat → Prop} {w : World} {p mr mk : Nat} {r : Ru} {c : CRows × CKeys} (h : CacheAt M w p mr mk r c) (hM : ∀ b, b < w.heap.size → M' b → M b) : CacheAt M' w p mr mk r c := by
  obtain ⟨l, hl1, hl2, hl3⟩ := h.rl
  exact ⟨h.blk, h.ne, ⟨h.ok.s.off (by omega) hM, h.ok.t.off (by omega) hM, h.ok.e.off (by omega) hM⟩, ⟨l, hl1, hl2, fun t ht => (hl3 t ht).off (by omega) hM⟩, h.kl⟩
end Go.Proofs.YtcndimkkojdflaaGreatDoor
set_option linter.unusedVariables false
set_option linter.unusedSimpArgs false
set_option maxHeartbeats 1600000
set_option maxRecDepth 100000
namespace Go.Proofs.YtcndimkkojdflaaGreatDoor
open Go Go.X
structure Slz where
  id : Int
  start : Int
  stop : Int
  ms : List Mt
  bd : Bd
def pubZ (a : Sil) : Slz := ⟨a.id, a.start, a.stop, a.ms, a.bd⟩
structure SS where
  ret : Int
  most : Int
  last : Int
  sl : List Slz
def ownS (p pl qu : Nat) (vp vq vs : Value) (b : Nat) : Prop := b = p ∨ b = pl ∨ b = qu ∨ vp.ownBlock = some b ∨ vq.ownBlock = some b ∨ vs.ownBlock = some b
structure ZA (w : World) (p : Nat) (s : SS) (M : Nat → Prop) (pl qu : Nat) (vp vq vs : Value) (al : List Sil) (q : List En) : Prop where
  blk : Blk w p 218 [pp pl, pp qu, .int .u64 s.ret, vs]
  pool : PoolAt w pl s.most s.last (al.map (·.id)) vp
  que : QAt w qu q vq
  row : Row w 221 8 vs al.length (al.flatMap silC)
  als : al.map pubZ = s.sl
  sms : ∀ a ∈ al, SlM M w a.mv a.ms
  sort : SortE q
  perm : q.Perm (al.map fun a => ⟨a.stop + s.ret, a.id⟩)
  ownM : ∀ b, ownS p pl qu vp vq vs b → M b
  ltM : ∀ b, M b → b < w.heap.size
def ZStore (O M : Nat → Prop) (w : World) (p : Nat) (s : SS) : Prop := ∃ pl qu vp vq vs al q, (∀ b, O b ↔ ownS p pl qu vp vq vs b) ∧ ZA w p s M pl qu vp vq vs al q
structure Gz (s : SS) : Prop where
  r0 : 1 ≤ s.ret
  r1 : s.ret ≤ 1048576
  m1 : s.most ≤ 12
  len : (s.sl.length : Int) ≤ s.most
  ris : Ris (s.sl.map (·.id))
  l0 : 0 ≤ s.last
  low : ∀ a ∈ s.sl, a.id ≤ s.last
  st : ∀ a ∈ s.sl, 0 ≤ a.stop ∧ a.stop ≤ 1099511627776
theorem Gz.le {s : SS} (h : Gz s) : s.sl.length ≤ 12 := by have := h.len; have := h.m1; omega
section
variable {w : World} {p : Nat} {s : SS} {M : Nat → Prop} {pl qu : Nat} {vp vq vs : Value} {al : List Sil} {q : List En}
theorem ZA.len (h : ZA w p s M pl qu vp vq vs al q) : al.length = s.sl.length := by rw [← h.als, List.length_map]
theorem ZA.ids (h : ZA w p s M pl qu vp vq vs al q) : al.map (·.id) = s.sl.map (·.id) := by rw [← h.als, List.map_map]; rfl
theorem ZA.own_lt (h : ZA w p s M pl qu vp vq vs al q) {b : Nat} (e : ownS p pl qu vp vq vs b) : b < w.heap.size := h.ltM b (h.ownM b e)
theorem ZA.grow {w' : World} (h : ZA w p s M pl qu vp vq vs al q) (hg : Grow w w') : ZA w' p s M pl qu vp vq vs al q :=
  ⟨h.blk.mod hg (fun h => h), ⟨h.pool.blk.mod hg (fun h => h), h.pool.row.mod hg (fun _ _ h => h), h.pool.ne⟩, h.que.grow hg, h.row.mod hg (fun _ _ h => h), h.als, fun a ha => (h.sms a ha).mod (Mod.any' hg), h.sort, h.perm, h.ownM, fun b hb => Nat.lt_of_lt_of_le (h.ltM b hb) hg.size⟩
end
theorem ZStore.grow {O M : Nat → Prop} {w w' : World} {p : Nat} {s : SS} (h : ZStore O M w p s) (hg : Grow w w') : ZStore O M w' p s := by
  obtain ⟨pl, qu, vp, vq, vs, al, q, hO, h⟩ := h
  exact ⟨pl, qu, vp, vq, vs, al, q, hO, h.grow hg⟩
theorem ZStore.lt {O M : Nat → Prop} {w : World} {p : Nat} {s : SS} (h : ZStore O M w p s) : ∀ b, O b → b < w.heap.size := by
  obtain ⟨pl, qu, vp, vq, vs, al, q, hO, h⟩ := h
  exact fun b hb => h.own_lt ((hO b).1 hb)
end Go.Proofs.YtcndimkkojdflaaGreatDoor
set_option linter.unusedVariables false
set_option linter.unusedSimpArgs false
set_option maxHeartbeats 6400000
set_option maxRecDepth 100000
namespace Go.Proofs.YtcndimkkojdflaaGreatDoor
open Go Go.X
theorem deskTick_ok {w : World} {dk dr q tk pl : Nat} {tok : ByteArray} {now dm tm pm : Int} {n : Nat} {v : Value} {cs ds : List Value} {vt : Value} {last : Int} {out : List Int} {vp : Value} (h : DkAt w dk dr q tk pl tok now dm tm pm n v cs ds vt last out vp) (t : Int) (h1 : now < t) (h2 : t ≤ 1099511627776) : Fx Tryz.prog 49 [pp dk, .int .u64 t] w (fun u w' => DkAt w' dk dr q tk pl tok t dm tm pm n v cs ds vt last out vp ∧ Mod (· = dr) w w') := by
  refine enter Tryz.func49 rfl rfl rfl _ (Pick.sub (l := [0, 1]) (.cons rfl (.cons rfl .nil))) ?_
  refine RK.region ?_
  iterate 2 refine RL.p rfl rfl ?_
  refine RL.q (.free rfl) rfl rfl (Yld.fieldAddr fo140_0 rfl) ?_
  refine RL.q (.free rfl) rfl rfl (Yld.load p133 rfl (at1 (h.blk.cell rfl))) ?_
  refine RL.p rfl rfl ?_
  refine RL.op (.free rfl) rfl rfl (Does.call rfl e87 (doorTick_ok h.door t h1 h2)) ?_
  rintro _ w1 ⟨rfl, hD, hm1⟩
  refine RL.done ?_
  refine RK.end_of Tryz.func49 (res0 rfl) ?_
  exact ⟨_, rfl, ⟨h.blk.mod hm1 (h.blk.ty.ne h.door.blk.ty rfl), hD, ⟨h.tok.blk.mod hm1 (h.tok.blk.ty.ne h.door.blk.ty rfl), h.tok.row.mod hm1 (fun b e1 e2 => (h.tok.row.ty e1).ne h.door.blk.ty rfl e2)⟩, ⟨h.pool.blk.mod hm1 (h.pool.blk.ty.ne h.door.blk.ty rfl), h.pool.row.mod hm1 (fun b e1 e2 => (h.pool.row.ty e1).ne h.door.blk.ty rfl e2), h.pool.ne⟩⟩, hm1⟩
structure PtE (base : Nat) (w : World) (pt dr q sl al ix mr : Nat) : Prop where
  fr : base ≤ pt ∧ base ≤ dr ∧ base ≤ q ∧ base ≤ sl ∧ base ≤ al ∧ base ≤ ix ∧ base ≤ mr
  blk : ∃ ids, Blk w pt 159 [pp dr, pp sl, pp al, pp ids, .slice none 0 0]
  door : ∃ x y, Blk w dr 192 [x, y, pp q]
  ch : ∃ x ds, Blk w q 243 (x :: .slice none 0 0 :: ds)
  sil : ∃ x y z ad c, Blk w sl 218 [x, y, z, .slice ad 0 c]
  alr : ∃ x ad c, Blk w al 292 [x, pp ix, .slice ad 0 c]
  idx : ∃ x, Blk w ix 376 [x, .map (some mr)]
  mp : MapAt pairV w mr []
theorem PtE.mod {base : Nat} {w w' : World} {M : Nat → Prop} {pt dr q sl al ix mr : Nat} (h : PtE base w pt dr q sl al ix mr) (hm : Mod M w w') (hM : ∀ b, base ≤ b → ¬ M b) : PtE base w' pt dr q sl al ix mr := by
  obtain ⟨h1, h2, h3, h4, h5, h6, h7⟩ := h.fr
  obtain ⟨ids, hb⟩ := h.blk
  obtain ⟨x1, y1, hd⟩ := h.door
  obtain ⟨x2, ds, hc⟩ := h.ch
  obtain ⟨x3, y3, z3, a3, c3, hs⟩ := h.sil
  obtain ⟨x4, a4, c4, ha⟩ := h.alr
  obtain ⟨x5, hi⟩ := h.idx
  exact ⟨h.fr, ⟨ids, hb.mod hm (hM _ h1)⟩, ⟨x1, y1, hd.mod hm (hM _ h2)⟩, ⟨x2, ds, hc.mod hm (hM _ h3)⟩, ⟨x3, y3, z3, a3, c3, hs.mod hm (hM _ h4)⟩, ⟨x4, a4, c4, ha.mod hm (hM _ h5)⟩, ⟨x5, hi.mod hm (hM _ h6)⟩, h.mp.mod hm (hM _ h7)⟩
theorem PtE.grow {base : Nat} {w w' : World} {pt dr q sl al ix mr : Nat} (h : PtE base w pt dr q sl al ix mr) (hg : Grow w w') : PtE base w' pt dr q sl al ix mr := h.mod hg (fun _ _ h => h)
end Go.Proofs.YtcndimkkojdflaaGreatDoor
set_option linter.unusedVariables false
set_option linter.unusedSimpArgs false
set_option maxHeartbeats 6400000
set_option maxRecDepth 100000
namespace Go.Proofs.YtcndimkkojdflaaGreatDoor
open Go Go.X
theorem svIn_ok (n most : Int) (w : World) : Fx Tryz.prog 68 [.int .i64 n, .int .i64 most] w (fun u w' => u = .bool (decide (1 ≤ n ∧ n ≤ most)) ∧ w = w') := by
  refine enter Tryz.func68 rfl rfl rfl _ (Pick.sub (l := [0, 1]) (.cons rfl (.cons rfl .nil))) ?_
  refine RK.seq ?_
  refine RK.region ?_
  refine RL.p rfl rfl ?_
  refine RL.done ?_
  refine RK.seq ?_
  refine RK.region ?_
  iterate 3 refine RL.p rfl rfl ?_
  first | refine RL.splitD (d := 7) rfl rfl (fun h7 => ?_) (fun h7 => ?_) | refine RL.splitN (d := 7) rfl rfl (fun h7 => ?_) (fun h7 => ?_) | refine RL.split (d := 7) rfl rfl (fun h7 => ?_) (fun h7 => ?_)
  · iterate 3 refine RL.q (.yes rfl rfl rfl) rfl rfl (Yld.pure rfl) ?_
    iterate 2 refine RL.p rfl rfl ?_
    refine RL.done ?_
    refine RK.ret_of Tryz.func68 (res1 rfl rfl) ?_ _
    exact ⟨_, rfl, congrArg Value.bool (by have h7' : 1 ≤ n := h7; simp [h7']), rfl⟩
  · iterate 3 refine RL.no (.no rfl rfl rfl rfl) rfl rfl ?_
    iterate 2 refine RL.p rfl rfl ?_
    refine RL.done ?_
    refine RK.ret_of Tryz.func68 (res1 rfl rfl) ?_ _
    exact ⟨_, rfl, congrArg Value.bool (by have h7' : ¬ 1 ≤ n := h7; simp [h7']), rfl⟩
def svMayS (tok : ByteArray) (a b c d e f g r : Int) : Bool := decide ((4 ≤ tok.size ∧ tok.size ≤ 16) ∧ (1 ≤ a ∧ a ≤ 6) ∧ (1 ≤ b ∧ b ≤ 4) ∧ (1 ≤ c ∧ c ≤ 16) ∧ (1 ≤ d ∧ d ≤ 12) ∧ (1 ≤ e ∧ e ≤ 6) ∧ (1 ≤ f ∧ f ≤ 200) ∧ (1 ≤ g ∧ g ≤ 200) ∧ 1 ≤ r ∧ r ≤ 1048576)
theorem svMay_ok (tok : ByteArray) (a b c d e f g r : Int) (w : World) : Fx Tryz.prog 38 [.agg (cfgC tok a b c d e f g r).toArray] w (fun u w' => u = .bool (svMayS tok a b c d e f g r) ∧ Grow w w') := by
  refine enter Tryz.func38 rfl rfl rfl _ (Pick.sub (l := [0]) (.cons rfl .nil)) ?_
  refine RK.seq ?_
  refine RK.region ?_
  refine RL.op (.free rfl) rfl rfl (Does.box rfl) ?_
  rintro _ w1 ⟨b1, rfl, hn1⟩
  have hB : Blk w1 b1 33 (cfgC tok a b c d e f g r) := hn1.blk
  refine RL.p rfl rfl ?_
  refine RL.done ?_
  refine RK.seq ?_
  refine RK.region ?_
  refine RL.q (.free rfl) rfl rfl (Yld.fieldAddr fo33_0 rfl) ?_
  refine RL.q (.free rfl) rfl rfl (Yld.load p9 rfl (at1 (hB.cell rfl))) ?_
  refine RL.op (.free rfl) rfl rfl (Does.call rfl e67 (tokenIs_ok _ _)) ?_
  rintro _ _ ⟨rfl, rfl⟩
  refine RL.p rfl rfl ?_
  first | refine RL.splitD (d := 6) rfl rfl (fun h6 => ?_) (fun h6 => ?_) | refine RL.splitN (d := 6) rfl rfl (fun h6 => ?_) (fun h6 => ?_) | refine RL.split (d := 6) rfl rfl (fun h6 => ?_) (fun h6 => ?_)
  · refine RL.q (.yes rfl rfl rfl) rfl rfl (Yld.fieldAddr fo33_1 rfl) ?_
    refine RL.q (.yes rfl rfl rfl) rfl rfl (Yld.load p3 rfl (at1 (hB.cell rfl))) ?_
    refine RL.op (.yes rfl rfl rfl) rfl rfl (Does.call rfl e68 (svIn_ok a 6 _)) ?_
    rintro _ _ ⟨rfl, rfl⟩
    iterate 2 refine RL.p rfl rfl ?_
    first | refine RL.splitD (d := 11) rfl rfl (fun h11 => ?_) (fun h11 => ?_) | refine RL.splitN (d := 11) rfl rfl (fun h11 => ?_) (fun h11 => ?_) | refine RL.split (d := 11) rfl rfl (fun h11 => ?_) (fun h11 => ?_)
    · refine RL.q (.yes rfl rfl rfl) rfl rfl (Yld.fieldAddr fo33_2 rfl) ?_
      refine RL.q (.yes rfl rfl rfl) rfl rfl (Yld.load p3 rfl (at1 (hB.cell rfl))) ?_
      refine RL.op (.yes rfl rfl rfl) rfl rfl (Does.call rfl e68 (svIn_ok b 4 _)) ?_
      rintro _ _ ⟨rfl, rfl⟩
      iterate 2 refine RL.p rfl rfl ?_
      first | refine RL.splitD (d := 16) rfl rfl (fun h16 => ?_) (fun h16 => ?_) | refine RL.splitN (d := 16) rfl rfl (fun h16 => ?_) (fun h16 => ?_) | refine RL.split (d := 16) rfl rfl (fun h16 => ?_) (fun h16 => ?_)
      · refine RL.q (.yes rfl rfl rfl) rfl rfl (Yld.fieldAddr fo33_3 rfl) ?_
        refine RL.q (.yes rfl rfl rfl) rfl rfl (Yld.load p3 rfl (at1 (hB.cell rfl))) ?_
        refine RL.op (.yes rfl rfl rfl) rfl rfl (Does.call rfl e68 (svIn_ok c 16 _)) ?_
        rintro _ _ ⟨rfl, rfl⟩
        iterate 2 refine RL.p rfl rfl ?_
        first | refine RL.splitD (d := 21) rfl rfl (fun h21 => ?_) (fun h21 => ?_) | refine RL.splitN (d := 21) rfl rfl (fun h21 => ?_) (fun h21 => ?_) | refine RL.split (d := 21) rfl rfl (fun h21 => ?_) (fun h21 => ?_)
        · refine RL.q (.yes rfl rfl rfl) rfl rfl (Yld.fieldAddr fo33_4 rfl) ?_
          refine RL.q (.yes rfl rfl rfl) rfl rfl (Yld.load p3 rfl (at1 (hB.cell rfl))) ?_
          refine RL.op (.yes rfl rfl rfl) rfl rfl (Does.call rfl e68 (svIn_ok d 12 _)) ?_
          rintro _ _ ⟨rfl, rfl⟩
          iterate 2 refine RL.p rfl rfl ?_
          first | refine RL.splitD (d := 26) rfl rfl (fun h26 => ?_) (fun h26 => ?_) | refine RL.splitN (d := 26) rfl rfl (fun h26 => ?_) (fun h26 => ?_) | refine RL.split (d := 26) rfl rfl (fun h26 => ?_) (fun h26 => ?_)
          · refine RL.q (.yes rfl rfl rfl) rfl rfl (Yld.fieldAddr fo33_5 rfl) ?_
            refine RL.q (.yes rfl rfl rfl) rfl rfl (Yld.load p3 rfl (at1 (hB.cell rfl))) ?_
            refine RL.op (.yes rfl rfl rfl) rfl rfl (Does.call rfl e68 (svIn_ok e 6 _)) ?_
            rintro _ _ ⟨rfl, rfl⟩
            iterate 2 refine RL.p rfl rfl ?_
            first | refine RL.splitD (d := 31) rfl rfl (fun h31 => ?_) (fun h31 => ?_) | refine RL.splitN (d := 31) rfl rfl (fun h31 => ?_) (fun h31 => ?_) | refine RL.split (d := 31) rfl rfl (fun h31 => ?_) (fun h31 => ?_)
            · refine RL.q (.yes rfl rfl rfl) rfl rfl (Yld.fieldAddr fo33_6 rfl) ?_
              refine RL.q (.yes rfl rfl rfl) rfl rfl (Yld.load p3 rfl (at1 (hB.cell rfl))) ?_
              refine RL.op (.yes rfl rfl rfl) rfl rfl (Does.call rfl e68 (svIn_ok f 200 _)) ?_
              rintro _ _ ⟨rfl, rfl⟩
              iterate 2 refine RL.p rfl rfl ?_
              first | refine RL.splitD (d := 36) rfl rfl (fun h36 => ?_) (fun h36 => ?_) | refine RL.splitN (d := 36) rfl rfl (fun h36 => ?_) (fun h36 => ?_) | refine RL.split (d := 36) rfl rfl (fun h36 => ?_) (fun h36 => ?_)
              · refine RL.q (.yes rfl rfl rfl) rfl rfl (Yld.fieldAddr fo33_7 rfl) ?_
                refine RL.q (.yes rfl rfl rfl) rfl rfl (Yld.load p3 rfl (at1 (hB.cell rfl))) ?_
                refine RL.op (.yes rfl rfl rfl) rfl rfl (Does.call rfl e68 (svIn_ok g 200 _)) ?_
                rintro _ _ ⟨rfl, rfl⟩
                iterate 2 refine RL.p rfl rfl ?_
                first | refine RL.splitD (d := 41) rfl rfl (fun h41 => ?_) (fun h41 => ?_) | refine RL.splitN (d := 41) rfl rfl (fun h41 => ?_) (fun h41 => ?_) | refine RL.split (d := 41) rfl rfl (fun h41 => ?_) (fun h41 => ?_)
                · refine RL.q (.yes rfl rfl rfl) rfl rfl (Yld.fieldAddr fo33_8 rfl) ?_
                  refine RL.q (.yes rfl rfl rfl) rfl rfl (Yld.load p31 rfl (at1 (hB.cell rfl))) ?_
                  refine RL.q (.yes rfl rfl rfl) rfl rfl (Yld.pure rfl) ?_
                  iterate 2 refine RL.p rfl rfl ?_
                  first | refine RL.splitD (d := 46) rfl rfl (fun h46 => ?_) (fun h46 => ?_) | refine RL.splitN (d := 46) rfl rfl (fun h46 => ?_) (fun h46 => ?_) | refine RL.split (d := 46) rfl rfl (fun h46 => ?_) (fun h46 => ?_)
                  · refine RL.q (.yes rfl rfl rfl) rfl rfl (Yld.fieldAddr fo33_8 rfl) ?_
                    refine RL.q (.yes rfl rfl rfl) rfl rfl (Yld.load p31 rfl (at1 (hB.cell rfl))) ?_
                    refine RL.q (.yes rfl rfl rfl) rfl rfl (Yld.pure rfl) ?_
                    iterate 2 refine RL.p rfl rfl ?_
                    refine RL.done ?_
                    refine RK.ret_of Tryz.func38 (res1 rfl rfl) ?_ _
                    exact ⟨_, rfl, congrArg Value.bool (by have h46' : 1 ≤ r := h46; unfold svMayS; simp [h6, h11, h16, h21, h26, h31, h36, h41, h46']), hn1.grow⟩
                  · iterate 3 refine RL.no (.no rfl rfl rfl rfl) rfl rfl ?_
                    iterate 2 refine RL.p rfl rfl ?_
                    refine RL.done ?_
                    refine RK.ret_of Tryz.func38 (res1 rfl rfl) ?_ _
                    exact ⟨_, rfl, congrArg Value.bool (by have h46' : ¬ 1 ≤ r := h46; unfold svMayS; simp [h6, h11, h16, h21, h26, h31, h36, h41, h46']), hn1.grow⟩
                · iterate 3 refine RL.no (.no rfl rfl rfl rfl) rfl rfl ?_
                  iterate 2 refine RL.p rfl rfl ?_
                  iterate 3 refine RL.no (.no rfl rfl rfl rfl) rfl rfl ?_
                  iterate 2 refine RL.p rfl rfl ?_
                  refine RL.done ?_
                  refine RK.ret_of Tryz.func38 (res1 rfl rfl) ?_ _
                  exact ⟨_, rfl, congrArg Value.bool (by unfold svMayS; simp [h6, h11, h16, h21, h26, h31, h36, h41]), hn1.grow⟩
              · iterate 3 refine RL.no (.no rfl rfl rfl rfl) rfl rfl ?_
                iterate 2 refine RL.p rfl rfl ?_
                iterate 3 refine RL.no (.no rfl rfl rfl rfl) rfl rfl ?_
                iterate 2 refine RL.p rfl rfl ?_
                iterate 3 refine RL.no (.no rfl rfl rfl rfl) rfl rfl ?_
                iterate 2 refine RL.p rfl rfl ?_
                refine RL.done ?_
                refine RK.ret_of Tryz.func38 (res1 rfl rfl) ?_ _
                exact ⟨_, rfl, congrArg Value.bool (by unfold svMayS; simp [h6, h11, h16, h21, h26, h31, h36]), hn1.grow⟩
            · iterate 3 refine RL.no (.no rfl rfl rfl rfl) rfl rfl ?_
              iterate 2 refine RL.p rfl rfl ?_
              iterate 3 refine RL.no (.no rfl rfl rfl rfl) rfl rfl ?_
              iterate 2 refine RL.p rfl rfl ?_
              iterate 3 refine RL.no (.no rfl rfl rfl rfl) rfl rfl ?_
              iterate 2 refine RL.p rfl rfl ?_
              iterate 3 refine RL.no (.no rfl rfl rfl rfl) rfl rfl ?_
              iterate 2 refine RL.p rfl rfl ?_
              refine RL.done ?_
              refine RK.ret_of Tryz.func38 (res1 rfl rfl) ?_ _
              exact ⟨_, rfl, congrArg Value.bool (by unfold svMayS; simp [h6, h11, h16, h21, h26, h31]), hn1.grow⟩
          · iterate 3 refine RL.no (.no rfl rfl rfl rfl) rfl rfl ?_
            iterate 2 refine RL.p rfl rfl ?_
            iterate 3 refine RL.no (.no rfl rfl rfl rfl) rfl rfl ?_
            iterate 2 refine RL.p rfl rfl ?_
            iterate 3 refine RL.no (.no rfl rfl rfl rfl) rfl rfl ?_
            iterate 2 refine RL.p rfl rfl ?_
            iterate 3 refine RL.no (.no rfl rfl rfl rfl) rfl rfl ?_
            iterate 2 refine RL.p rfl rfl ?_
            iterate 3 refine RL.no (.no rfl rfl rfl rfl) rfl rfl ?_
            iterate 2 refine RL.p rfl rfl ?_
            refine RL.done ?_
            refine RK.ret_of Tryz.func38 (res1 rfl rfl) ?_ _
            exact ⟨_, rfl, congrArg Value.bool (by unfold svMayS; simp [h6, h11, h16, h21, h26]), hn1.grow⟩
        · iterate 3 refine RL.no (.no rfl rfl rfl rfl) rfl rfl ?_
          iterate 2 refine RL.p rfl rfl ?_
          iterate 3 refine RL.no (.no rfl rfl rfl rfl) rfl rfl ?_
          iterate 2 refine RL.p rfl rfl ?_
          iterate 3 refine RL.no (.no rfl rfl rfl rfl) rfl rfl ?_
          iterate 2 refine RL.p rfl rfl ?_
          iterate 3 refine RL.no (.no rfl rfl rfl rfl) rfl rfl ?_
          iterate 2 refine RL.p rfl rfl ?_
          iterate 3 refine RL.no (.no rfl rfl rfl rfl) rfl rfl ?_
          iterate 2 refine RL.p rfl rfl ?_
          iterate 3 refine RL.no (.no rfl rfl rfl rfl) rfl rfl ?_
          iterate 2 refine RL.p rfl rfl ?_
          refine RL.done ?_
          refine RK.ret_of Tryz.func38 (res1 rfl rfl) ?_ _
          exact ⟨_, rfl, congrArg Value.bool (by unfold svMayS; simp [h6, h11, h16, h21]), hn1.grow⟩
      · iterate 3 refine RL.no (.no rfl rfl rfl rfl) rfl rfl ?_
        iterate 2 refine RL.p rfl rfl ?_
        iterate 3 refine RL.no (.no rfl rfl rfl rfl) rfl rfl ?_
        iterate 2 refine RL.p rfl rfl ?_
        iterate 3 refine RL.no (.no rfl rfl rfl rfl) rfl rfl ?_
        iterate 2 refine RL.p rfl rfl ?_
        iterate 3 refine RL.no (.no rfl rfl rfl rfl) rfl rfl ?_
        iterate 2 refine RL.p rfl rfl ?_
        iterate 3 refine RL.no (.no rfl rfl rfl rfl) rfl rfl ?_
        iterate 2 refine RL.p rfl rfl ?_
        iterate 3 refine RL.no (.no rfl rfl rfl rfl) rfl rfl ?_
        iterate 2 refine RL.p rfl rfl ?_
        iterate 3 refine RL.no (.no rfl rfl rfl rfl) rfl rfl ?_
        iterate 2 refine RL.p rfl rfl ?_
        refine RL.done ?_
        refine RK.ret_of Tryz.func38 (res1 rfl rfl) ?_ _
        exact ⟨_, rfl, congrArg Value.bool (by unfold svMayS; simp [h6, h11, h16]), hn1.grow⟩
    · iterate 3 refine RL.no (.no rfl rfl rfl rfl) rfl rfl ?_
      iterate 2 refine RL.p rfl rfl ?_
      iterate 3 refine RL.no (.no rfl rfl rfl rfl) rfl rfl ?_
      iterate 2 refine RL.p rfl rfl ?_
      iterate 3 refine RL.no (.no rfl rfl rfl rfl) rfl rfl ?_
      iterate 2 refine RL.p rfl rfl ?_
      iterate 3 refine RL.no (.no rfl rfl rfl rfl) rfl rfl ?_
      iterate 2 refine RL.p rfl rfl ?_
      iterate 3 refine RL.no (.no rfl rfl rfl rfl) rfl rfl ?_
      iterate 2 refine RL.p rfl rfl ?_
      iterate 3 refine RL.no (.no rfl rfl rfl rfl) rfl rfl ?_
      iterate 2 refine RL.p rfl rfl ?_
      iterate 3 refine RL.no (.no rfl rfl rfl rfl) rfl rfl ?_
      iterate 2 refine RL.p rfl rfl ?_
      iterate 3 refine RL.no (.no rfl rfl rfl rfl) rfl rfl ?_
      iterate 2 refine RL.p rfl rfl ?_
      refine RL.done ?_
      refine RK.ret_of Tryz.func38 (res1 rfl rfl) ?_ _
      exact ⟨_, rfl, congrArg Value.bool (by unfold svMayS; simp [h6, h11]), hn1.grow⟩
  · iterate 3 refine RL.no (.no rfl rfl rfl rfl) rfl rfl ?_
    iterate 2 refine RL.p rfl rfl ?_
    iterate 3 refine RL.no (.no rfl rfl rfl rfl) rfl rfl ?_
    iterate 2 refine RL.p rfl rfl ?_
    iterate 3 refine RL.no (.no rfl rfl rfl rfl) rfl rfl ?_
    iterate 2 refine RL.p rfl rfl ?_
    iterate 3 refine RL.no (.no rfl rfl rfl rfl) rfl rfl ?_
    iterate 2 refine RL.p rfl rfl ?_
    iterate 3 refine RL.no (.no rfl rfl rfl rfl) rfl rfl ?_
    iterate 2 refine RL.p rfl rfl ?_
    iterate 3 refine RL.no (.no rfl rfl rfl rfl) rfl rfl ?_
    iterate 2 refine RL.p rfl rfl ?_
    iterate 3 refine RL.no (.no rfl rfl rfl rfl) rfl rfl ?_
    iterate 2 refine RL.p rfl rfl ?_
    iterate 3 refine RL.no (.no rfl rfl rfl rfl) rfl rfl ?_
    iterate 2 refine RL.p rfl rfl ?_
    iterate 3 refine RL.no (.no rfl rfl rfl rfl) rfl rfl ?_
    iterate 2 refine RL.p rfl rfl ?_
    refine RL.done ?_
    refine RK.ret_of Tryz.func38 (res1 rfl rfl) ?_ _
    exact ⟨_, rfl, congrArg Value.bool (by unfold svMayS; simp [h6]), hn1.grow⟩
@[reducible] def serC (tok : ByteArray) (a b c d e f g r now : Int) (dk m : Nat) : List Value := [.string tok, .int .i64 a, .int .i64 b, .int .i64 c, .int .i64 d, .int .i64 e, .int .i64 f, .int .i64 g, .int .u64 r, .int .u64 now, pp dk, .map (some m)]
theorem svNew_ok (tok : ByteArray) (a b c d e f g r : Int) (hm : svMayS tok a b c d e f g r = true) (w : World) (hK : KeysAt w) : Fx Tryz.prog 18 [.agg (cfgC tok a b c d e f g r).toArray] w (fun u w' => ∃ p dk dr q tk pl m ds vt, u = pp p ∧ (w.heap.size ≤ p ∧ w.heap.size ≤ dr ∧ w.heap.size ≤ q ∧ w.heap.size ≤ pl ∧ w.heap.size ≤ m) ∧ Blk w' p 89 (serC tok a b c d e f g r 0 dk m) ∧ DkAt w' dk dr q tk pl tok 0 g b a 0 (.slice none 0 0) [] ds vt 0 [] (.slice none 0 0) ∧ MapAt (Value.int .i64) w' m [] ∧ Grow w w') := by
  have hmm := hm
  unfold svMayS at hmm
  obtain ⟨⟨ht1, ht2⟩, ⟨ha1, ha2⟩, ⟨hb1, hb2⟩, _, _, _, ⟨hf1, hf2⟩, ⟨hg1', hg2'⟩, _, _⟩ := of_decide_eq_true hmm
  refine enter Tryz.func18 rfl rfl rfl _ (Pick.sub (l := [0]) (.cons rfl .nil)) ?_
  refine RK.seq ?_
  refine RK.region ?_
  refine RL.op (.free rfl) rfl rfl (Does.box rfl) ?_
  rintro _ w1 ⟨b1, rfl, hn1⟩
  have hB : Blk w1 b1 33 (cfgC tok a b c d e f g r) := hn1.blk
  have hz1 := hn1.size
  refine RL.p rfl rfl ?_
  refine RL.done ?_
  iterate 2 refine RK.seq ?_
  refine RK.region ?_
  refine RL.q (.free rfl) rfl rfl (Yld.loadN (cs := cfgC tok a b c d e f g r) a33 rfl (atN (blkV hB))) ?_
  refine RL.op (.free rfl) rfl rfl (Does.call rfl e38 (svMay_ok tok a b c d e f g r _)) ?_
  rintro _ w2 ⟨rfl, hg2⟩
  have hG2 := hn1.grow.trans hg2
  have hBd := (hB.mod hg2 (fun h => h)).mod (Mod.drew No _) (fun h => h)
  have hz2 := hG2.size
  refine RL.p rfl rfl ?_
  refine RL.done ?_
  refine RK.condF (hcF rfl (by rw [hm]; rfl)) ?_
  refine RK.skip ?_
  refine RK.seq ?_
  refine RK.drawF No [(0, false), (1, false)] 2 3 [(3, true), (4, false), (5, true), (6, false)] [(2, true), (4, false), (5, true), (6, false)] [] mixed (by kernel_rfl) ?_
  iterate 2 refine DL.q rfl (.free rfl) rfl rfl rfl (Yld.loadN (cs := cfgC tok a b c d e f g r) a33 rfl (atNM (blkV hBd) id)) (Mod.drew _ _) ?_
  refine DL.fork ?_ ?_
  · refine DL.op rfl (.free rfl) rfl rfl (Does.call rfl e39 (deskNew_ok tok a b c d e f g r ht1 ht2 ha1 ha2 hb1 hb2 hg1' hg2' _ (hK.grow (hG2.trans (Mod.drew No _))))) ?_
    rintro _ w3 ⟨dk, dr, q, tk, pl, ds, vt, rfl, hD3, hfr, hg3⟩
    refine ⟨(Mod.drew _ _).trans hg3, ?_⟩
    refine DL.op rfl (.free rfl) rfl rfl (Does.makeMap (Value.int .i64)) ?_
    rintro _ w4 ⟨m, rfl, hm4, hM4, hg4, hs4⟩
    refine ⟨((Mod.drew _ _).trans hg3).trans hg4, ?_⟩
    refine DL.qf rfl (.free rfl) rfl rfl (Yld.build (v := .agg (serC tok a b c d e f g r 0 dk m).toArray) rfl (fun w => by kernel_rfl)) ?_
    refine DL.op rfl (.free rfl) rfl rfl (Does.box rfl) ?_
    rintro _ w5 ⟨p, rfl, hn5⟩
    refine ⟨(((Mod.drew _ _).trans hg3).trans hg4).trans hn5.grow, ?_⟩
    have hz3 := hg3.size
    have ha5 := hn5.at_
    simp only [World.drew] at hz3 hfr
    refine DL.p rfl rfl rfl ?_
    refine DL.done ?_
    refine RK.ret_of Tryz.func18 (res1 rfl rfl) ?_ _
    exact ⟨_, rfl, p, dk, dr, q, tk, pl, m, ds, vt, rfl, ⟨by omega, by omega, by omega, by omega, by omega⟩, hn5.blk, (hD3.grow hg4).grow hn5.grow, hM4.mod hn5.grow (fun h => h), hG2.trans ((((Mod.drew _ _).trans hg3).trans hg4).trans hn5.grow)⟩
  · refine DL.op rfl (.free rfl) rfl rfl (Does.makeMap (Value.int .i64)) ?_
    rintro _ w4 ⟨m, rfl, hm4, hM4, hg4, hs4⟩
    refine ⟨(Mod.drew _ _).trans hg4, ?_⟩
    refine DL.op rfl (.free rfl) rfl rfl (Does.call rfl e39 (deskNew_ok tok a b c d e f g r ht1 ht2 ha1 ha2 hb1 hb2 hg1' hg2' _ (hK.grow ((hG2.trans (Mod.drew No _)).trans hg4)))) ?_
    rintro _ w3 ⟨dk, dr, q, tk, pl, ds, vt, rfl, hD3, hfr, hg3⟩
    refine ⟨((Mod.drew _ _).trans hg4).trans hg3, ?_⟩
    refine DL.qf rfl (.free rfl) rfl rfl (Yld.build (v := .agg (serC tok a b c d e f g r 0 dk m).toArray) rfl (fun w => by kernel_rfl)) ?_
    refine DL.op rfl (.free rfl) rfl rfl (Does.box rfl) ?_
    rintro _ w5 ⟨p, rfl, hn5⟩
    refine ⟨(((Mod.drew _ _).trans hg4).trans hg3).trans hn5.grow, ?_⟩
    have hz3 := hg3.size
    have ha5 := hn5.at_
    simp only [World.drew] at hm4 hs4
    refine DL.p rfl rfl rfl ?_
    refine DL.done ?_
    refine RK.ret_of Tryz.func18 (res1 rfl rfl) ?_ _
    exact ⟨_, rfl, p, dk, dr, q, tk, pl, m, ds, vt, rfl, ⟨by omega, by omega, by omega, by omega, by omega⟩, hn5.blk, hD3.grow hn5.grow, (hM4.mod hg3 (fun h => h)).mod hn5.grow (fun h => h), hG2.trans ((((Mod.drew _ _).trans hg4).trans hg3).trans hn5.grow)⟩
theorem svDo9_ok (p : Nat) (ad : Option Addr) (c : Nat) (w : World) (hv : Sl No w (.slice ad 1 c) 1 1 (bytesV [9])) (hcap : 1 ≤ c) : Fx Tryz.prog 45 [pp p, .slice ad 1 c] w (fun u w' => Row w' 5 1 u 1 (bytesV [1]) ∧ Fresh w.heap.size u ∧ Grow w w') := by
  refine enter Tryz.func45 rfl rfl rfl _ (Pick.sub (l := [0, 1]) (.cons rfl (.cons rfl .nil))) ?_
  refine RK.seq ?_
  refine RK.region ?_
  refine RL.p rfl rfl ?_
  refine RL.done ?_
  refine RK.seq ?_
  refine RK.region ?_
  refine RL.p rfl rfl ?_
  refine RL.op (.free rfl) rfl rfl (Does.call rfl e81 (reqRd0_ok _ ad c hv hcap)) ?_
  rintro _ w1 ⟨rfl, hg1⟩
  iterate 3 refine RL.p rfl rfl ?_
  refine RL.op (.free rfl) rfl rfl (Does.alloc i124) ?_
  rintro _ w2 ⟨b5, rfl, hn5⟩
  have ha5 := hn5.at_
  have hz1 := hg1.size
  have hz5 := hn5.size
  refine RL.op' (.free rfl) rfl (Does.storeN i124 rfl rfl rfl rfl hn5.blk (Nat.le_refl 19)) ?_
  rintro _ w3 ⟨hb3, hm3, hs3⟩
  refine RL.p rfl rfl ?_
  refine RL.done ?_
  iterate 2 refine RK.seq ?_
  refine RK.region ?_
  iterate 2 refine RL.p rfl rfl ?_
  refine RL.done ?_
  refine RK.condT (hcT rfl (rfl)) ?_
  refine RK.seq ?_
  refine RK.region ?_
  refine RL.op (.free rfl) rfl rfl (Does.call rfl e48 (refused1_ok _)) ?_
  rintro u4 w4 ⟨hr4, hf4, hg4⟩
  refine RL.p rfl rfl ?_
  refine RL.done ?_
  refine RK.ret_of Tryz.func45 (res1 rfl rfl) ?_ _
  exact ⟨_, rfl, hr4, fun b e => by have := hf4 b e; omega, ((hg1.trans hn5.grow).then hm3 (fun x hx e => by have e' : x = b5 := e; omega)).trans hg4⟩
end Go.Proofs.YtcndimkkojdflaaGreatDoor
set_option linter.unusedVariables false
set_option linter.unusedSimpArgs false
set_option maxHeartbeats 6400000
set_option maxRecDepth 100000
namespace Go.Proofs.YtcndimkkojdflaaGreatDoor
open Go Go.X
section
variable {P : Program} {n : Nat} {e : Env} {C : World → Prop} {w : World}
theorem Yld.strHi {d : Option Tmp} {t : Nat} {x h : Operand} {ty : TypeId} {pos : String} {af : Array Edge} {g : Option (Nat × Bool)} (hT : P.underlying t = some .string) {s : ByteArray} {m : Nat} {k : IntKind} (hx : ev e x = some (.string s)) (hh : ev e h = some (.int k (m : Int))) (hm : m ≤ s.size) :
    Yld P n C e ⟨d, .slice t x none (some h) none, ty, pos, af, g⟩ (.string (s.extract 0 m)) := by
  intro a ha w _
  have h1 : (m : Int) ≤ s.size := by omega
  have h2 : ¬ s.size < m := by omega
  simp [h2, execOp, ha.ev hx, ha.ev hh, Instr.sliceAt, Instr.slice, run_underlying hT, Instr.sliceBounds, Instr.sliceBound, asIntOf, h1]
theorem Yld.strLo {d : Option Tmp} {t : Nat} {x h : Operand} {ty : TypeId} {pos : String} {af : Array Edge} {g : Option (Nat × Bool)} (hT : P.underlying t = some .string) {s : ByteArray} {m : Nat} {k : IntKind} (hx : ev e x = some (.string s)) (hh : ev e h = some (.int k (m : Int))) (hm : m ≤ s.size) :
    Yld P n C e ⟨d, .slice t x (some h) none none, ty, pos, af, g⟩ (.string (s.extract m s.size)) := by
  intro a ha w _
  have h1 : (m : Int) ≤ s.size := by omega
  have h2 : ¬ s.size < m := by omega
  simp [h2, execOp, ha.ev hx, ha.ev hh, Instr.sliceAt, Instr.slice, run_underlying hT, Instr.sliceBounds, Instr.sliceBound, asIntOf, h1]
theorem Does.mkChan {d : Option Tmp} {t : Nat} {s : Operand} {ty : TypeId} {pos : String} {af : Array Edge} {g : Option (Nat × Bool)} {k : Int} (hs : ev e s = some (.int .i64 k)) (hr : ∀ w, (Instr.makeChan t (.int .i64 k)).run P w = .ok (.chan (some w.heap.size)) (w.alloc (.chan k.toNat #[] false 0 0 false))) :
    Does P n e w ⟨d, .makeChan t s, ty, pos, af, g⟩ (fun u w' => (∃ b, u = .chan (some b)) ∧ Grow w w') := by
  refine Does.of_run (w' := w.alloc (.chan k.toNat #[] false 0 0 false)) (v := .chan (some w.heap.size)) (fun a ha => ?_) ⟨⟨_, rfl⟩, Mod.alloc _ _ _⟩
  simp [execOp, ha.ev hs, hr w]
end
theorem svTick3_ok {w : World} {p dk dr q tk pl m : Nat} {tok : ByteArray} {a b c d e f g r dm tm pm : Int} {n : Nat} {v : Value} {cs ds : List Value} {vt : Value} {last : Int} {out : List Int} {vp : Value} (hb : Blk w p 89 (serC tok a b c d e f g r 0 dk m)) (h : DkAt w dk dr q tk pl tok 0 dm tm pm n v cs ds vt last out vp) (hm : MapAt (Value.int .i64) w m []) : Fx Tryz.prog 27 [pp p, .int .u64 3] w (fun u w' => (∃ c, Row w' 5 1 u c (bytesV ([0, 0] ++ putB 3))) ∧ Fresh w.heap.size u ∧ Blk w' p 89 (serC tok a b c d e f g r 3 dk m) ∧ DkAt w' dk dr q tk pl tok 3 dm tm pm n v cs ds vt last out vp ∧ MapAt (Value.int .i64) w' m [] ∧ Mod (fun b => b = p ∨ b = dr) w w') := by
  have hplt := hb.lt
  have hdlt := h.door.blk.lt
  refine enter Tryz.func27 rfl rfl rfl _ (Pick.sub (l := [0, 1]) (.cons rfl (.cons rfl .nil))) ?_
  refine RK.seq ?_
  refine RK.region ?_
  refine RL.p rfl rfl ?_
  refine RL.done ?_
  refine RK.seq ?_
  refine RK.region ?_
  iterate 2 refine RL.p rfl rfl ?_
  refine RL.q (.free rfl) rfl rfl (Yld.fieldAddr fo89_1 rfl) ?_
  refine RL.q (.free rfl) rfl rfl (Yld.load p31 rfl (at1 (hb.cell rfl))) ?_
  refine RL.p rfl rfl ?_
  refine RL.op (.free rfl) rfl rfl (Does.call rfl e47 (clockTick_ok 0 3 (by decide) (by decide) (by decide) _)) ?_
  rintro _ _ ⟨rfl, rfl⟩
  iterate 5 refine RL.p rfl rfl ?_
  refine RL.done ?_
  iterate 2 refine RK.seq ?_
  refine RK.region ?_
  iterate 2 refine RL.p rfl rfl ?_
  refine RL.done ?_
  refine RK.condF (hcF rfl (rfl)) ?_
  refine RK.skip ?_
  refine RK.seq ?_
  refine RK.region ?_
  iterate 3 refine RL.p rfl rfl ?_
  refine RL.q (.free rfl) rfl rfl (Yld.fieldAddr fo89_1 rfl) ?_
  refine RL.op' (.free rfl) rfl (Does.storeN (o := 9) i31 rfl rfl rfl rfl hb (Nat.le_of_ble_eq_true rfl)) ?_
  rintro _ w1 ⟨hb1, hm1, hs1⟩
  have hB1 : Blk w1 p 89 (serC tok a b c d e f g r 3 dk m) := hb1
  have h1 : DkAt w1 dk dr q tk pl tok 0 dm tm pm n v cs ds vt last out vp := ⟨h.blk.mod hm1 (h.blk.ty.ne hb.ty rfl), ⟨h.door.blk.mod hm1 (h.door.blk.ty.ne hb.ty rfl), ⟨h.door.ch.blk.mod hm1 (h.door.ch.blk.ty.ne hb.ty rfl), h.door.ch.row.mod hm1 (fun b e1 e2 => (h.door.ch.row.ty e1).ne hb.ty rfl e2), h.door.ch.head⟩⟩, ⟨h.tok.blk.mod hm1 (h.tok.blk.ty.ne hb.ty rfl), h.tok.row.mod hm1 (fun b e1 e2 => (h.tok.row.ty e1).ne hb.ty rfl e2)⟩, ⟨h.pool.blk.mod hm1 (h.pool.blk.ty.ne hb.ty rfl), h.pool.row.mod hm1 (fun b e1 e2 => (h.pool.row.ty e1).ne hb.ty rfl e2), h.pool.ne⟩⟩
  have hM1 := hm.mod hm1 (fun e => hb.ty.nem hm.mp e.symm)
  refine RL.done ?_
  refine RK.seq ?_
  refine RK.region ?_
  iterate 2 refine RL.p rfl rfl ?_
  refine RL.q (.free rfl) rfl rfl (Yld.fieldAddr fo89_2 rfl) ?_
  refine RL.q (.free rfl) rfl rfl (Yld.load p85 rfl (at1 (hB1.cell rfl))) ?_
  refine RL.p rfl rfl ?_
  refine RL.op (.free rfl) rfl rfl (Does.call rfl e49 (deskTick_ok h1 3 (by decide) (by decide))) ?_
  rintro _ w2 ⟨h2, hm2⟩
  have hB2 := hB1.mod hm2 (hB1.ty.ne h1.door.blk.ty rfl)
  have hM2 := hM1.mod hm2 (fun e => h1.door.blk.ty.nem hM1.mp e.symm)
  have hz1 := hm1.size
  have hz2 := hm2.size
  refine RL.done ?_
  iterate 2 refine RK.seq ?_
  refine RK.region ?_
  iterate 2 refine RL.p rfl rfl ?_
  refine RL.q (.free rfl) rfl rfl (Yld.fieldAddr fo89_3 rfl) ?_
  refine RL.q (.free rfl) rfl rfl (Yld.load p87 rfl (at1 (hB2.cell rfl))) ?_
  refine RL.op (.free rfl) rfl rfl (Does.range Tryz.underlying87 rfl hM2) ?_
  rintro _ w3 ⟨rr, rfl, hit, hg3, hrr⟩
  have hne : rr ≠ m := by have := hM2.lt; omega
  have hz3 := hg3.size
  refine RL.done ?_
  refine RK.block ?_
  refine RK.loop (fun _ : Unit => [(5, .int .u64 3), (35, pp rr)]) (fun _ w' => w3 = w') (fun _ => 0) () ⟨rfl, rfl, trivial⟩ rfl (fun _ w' hI ih => ?_)
  subst hI
  refine RK.seq ?_
  refine RK.region ?_
  refine RL.op (.free rfl) rfl rfl (Does.next rfl hit hne) ?_
  rintro _ w4 ⟨o, rfl, hm4, hno, hyes⟩
  obtain rfl : o = none := by
      cases o with
      | none => rfl
      | some x => obtain ⟨i, h1, _⟩ := hyes x rfl; simp at h1
  refine RL.q (.free rfl) rfl rfl (Yld.nextOk rfl) ?_
  refine RL.done ?_
  refine RK.seq ?_
  refine RK.condF (hcF rfl (rfl)) ?_
  refine RK.exit rfl ?_
  refine RK.seq ?_
  refine RK.region ?_
  refine RL.p rfl rfl ?_
  refine RL.q (.free rfl) rfl rfl (Yld.build (v := .agg (respC 0 0 0 3).toArray) rfl (fun w => by kernel_rfl)) ?_
  refine RL.op (.free rfl) rfl rfl (Does.call rfl e51 (bytesT_ok 3 (by decide) _)) ?_
  rintro u5 w5 ⟨c5, hr5, hf5, hg5⟩
  have hG24 : Grow w2 w4 := hg3.then hm4 (fun x hx e => by have e' : x = rr := e; omega)
  have hG25 := hG24.trans hg5
  have hM15 : Mod (fun b => b = p ∨ b = dr) w w5 := ((hm1.mono fun b _ e => .inl e).trans (hm2.mono fun b _ e => .inr e)).trans (Mod.any' hG25)
  have hz4 := hG24.size
  refine RL.p rfl rfl ?_
  refine RL.done ?_
  refine RK.ret_of Tryz.func27 (res1 rfl rfl) ?_ _
  exact ⟨_, rfl, ⟨c5, hr5⟩, fun b e => by have := hf5 b e; omega, hB2.mod hG25 (fun h => h), h2.grow hG25, hM2.mod hG25 (fun h => h), hM15⟩
end Go.Proofs.YtcndimkkojdflaaGreatDoor
set_option linter.unusedVariables false
set_option linter.unusedSimpArgs false
set_option maxHeartbeats 6400000
set_option maxRecDepth 100000
namespace Go.Proofs.YtcndimkkojdflaaGreatDoor
open Go Go.X
def SplitOk (sep : ByteArray) : ByteArray → List ByteArray → Prop
  | _, [] => False
  | s, [p] => s = p
  | s, p :: q :: r => (∀ (w : World), (callFunc 102 #[.string s, .int .u8 ((bt sep 0).toNat : Int)]).run Tryz.prog w = .ok (.value (.int .i64 (p.size : Int))) w) ∧ (s.size ≤ 100000 ∧ p.size + 1 ≤ s.size) ∧ s.extract 0 p.size = p ∧ SplitOk sep (s.extract (p.size + 1) s.size) (q :: r)
theorem count1_ok (s sep : ByteArray) (n : Nat) (hx : ∀ (w : World), (callFunc 34 #[.string s, .int .u8 ((bt sep 0).toNat : Int)]).run Tryz.prog w = .ok (.value (.int .i64 (n : Int))) w) (hs : sep.size = 1) (w : World) : Fx Tryz.prog 14 [.string s, .string sep] w (fun u w' => u = .int .i64 (n : Int) ∧ w = w') := by
  refine enter Tryz.func14 rfl rfl rfl _ (Pick.sub (l := [0, 1]) (.cons rfl (.cons rfl .nil))) ?_
  refine RK.seq ?_
  refine RK.region ?_
  refine RL.p rfl rfl ?_
  refine RL.done ?_
  iterate 2 refine RK.seq ?_
  refine RK.region ?_
  refine RL.p rfl rfl ?_
  refine RL.q (.free rfl) rfl rfl (Yld.lenStr u9 rfl) ?_
  refine RL.p rfl rfl ?_
  refine RL.done ?_
  refine RK.condF (hcF rfl (decide_eq_false (by omega))) ?_
  refine RK.skip ?_
  iterate 2 refine RK.seq ?_
  refine RK.region ?_
  refine RL.p rfl rfl ?_
  refine RL.q (.free rfl) rfl rfl (Yld.lenStr u9 rfl) ?_
  refine RL.p rfl rfl ?_
  refine RL.done ?_
  refine RK.condT (hcT rfl (decide_eq_true (by omega))) ?_
  refine RK.seq ?_
  refine RK.region ?_
  iterate 2 refine RL.p rfl rfl ?_
  refine RL.q (.free rfl) rfl rfl (Yld.idxStrN u9 rfl rfl ((by omega : 0 < sep.size))) ?_
  refine RL.q (.free rfl) rfl rfl (Yld.callx rfl (fun w => hx w)) ?_
  refine RL.p rfl rfl ?_
  refine RL.done ?_
  refine RK.ret_of Tryz.func14 (res1 rfl rfl) ?_ _
  exact ⟨_, rfl, rfl, rfl⟩
theorem slIdxByte_ok (s : ByteArray) (c : Int) (n : Nat) (hx : ∀ (w : World), (callFunc 102 #[.string s, .int .u8 c]).run Tryz.prog w = .ok (.value (.int .i64 (n : Int))) w) (w : World) : Fx Tryz.prog 61 [.string s, .int .u8 c] w (fun u w' => u = .int .i64 (n : Int) ∧ w = w') := by
  refine enter Tryz.func61 rfl rfl rfl _ (Pick.sub (l := [0, 1]) (.cons rfl (.cons rfl .nil))) ?_
  refine RK.seq ?_
  refine RK.region ?_
  refine RL.p rfl rfl ?_
  refine RL.done ?_
  refine RK.seq ?_
  refine RK.region ?_
  iterate 2 refine RL.p rfl rfl ?_
  refine RL.q (.free rfl) rfl rfl (Yld.callx rfl (fun w => hx w)) ?_
  refine RL.p rfl rfl ?_
  refine RL.done ?_
  refine RK.ret_of Tryz.func61 (res1 rfl rfl) ?_ _
  exact ⟨_, rfl, rfl, rfl⟩
theorem slIndex1_ok (s sep : ByteArray) (n : Nat) (hx : ∀ (w : World), (callFunc 102 #[.string s, .int .u8 ((bt sep 0).toNat : Int)]).run Tryz.prog w = .ok (.value (.int .i64 (n : Int))) w) (hs : sep.size = 1) (hq : sep = s → (n : Int) = 0) (w : World) : Fx Tryz.prog 35 [.string s, .string sep] w (fun u w' => u = .int .i64 (n : Int) ∧ w = w') := by
  refine enter Tryz.func35 rfl rfl rfl _ (Pick.sub (l := [0, 1]) (.cons rfl (.cons rfl .nil))) ?_
  refine RK.seq ?_
  refine RK.region ?_
  refine RL.p rfl rfl ?_
  refine RL.done ?_
  refine RK.seq ?_
  refine RK.region ?_
  refine RL.p rfl rfl ?_
  refine RL.q (.free rfl) rfl rfl (Yld.lenStr u9 rfl) ?_
  refine RL.p rfl rfl ?_
  refine RL.done ?_
  refine RK.seq ?_
  refine RK.block ?_
  refine RK.seq ?_
  refine RK.region ?_
  iterate 3 refine RL.p rfl rfl ?_
  refine RL.knownF (d := 19) rfl rfl (decide_eq_false (by omega)) ?_
  iterate 3 refine RL.q (.yes rfl rfl rfl) rfl rfl (Yld.pure rfl) ?_
  iterate 2 refine RL.p rfl rfl ?_
  refine RL.done ?_
  first | refine RK.condD rfl (fun h16 => ?_) (fun h16 => ?_) | refine RK.condN rfl (fun h16 => ?_) (fun h16 => ?_) | refine RK.cond rfl (fun h16 => ?_) (fun h16 => ?_)
  · refine RK.seq ?_
    refine RK.region ?_
    refine RL.p rfl rfl ?_
    refine RL.done ?_
    refine RK.ret_of Tryz.func35 (res1 rfl rfl) ?_ _
    exact ⟨_, rfl, congrArg (Value.int .i64) (hq (by first | exact h16 | exact of_decide_eq_true h16 | simpa using h16)).symm, rfl⟩
  · refine RK.seq ?_
    refine RK.region ?_
    iterate 3 refine RL.p rfl rfl ?_
    refine RL.done ?_
    refine RK.condT (hcT rfl (decide_eq_true (by omega))) ?_
    refine RK.seq ?_
    refine RK.region ?_
    iterate 2 refine RL.p rfl rfl ?_
    refine RL.q (.free rfl) rfl rfl (Yld.idxStrN u9 rfl rfl ((by omega : 0 < sep.size))) ?_
    refine RL.op (.free rfl) rfl rfl (Does.call rfl e61 (slIdxByte_ok s _ n hx _)) ?_
    rintro _ _ ⟨rfl, rfl⟩
    refine RL.p rfl rfl ?_
    refine RL.done ?_
    refine RK.ret_of Tryz.func35 (res1 rfl rfl) ?_ _
    exact ⟨_, rfl, rfl, rfl⟩
theorem strIndex1_ok (s sep : ByteArray) (n : Nat) (hx : ∀ (w : World), (callFunc 102 #[.string s, .int .u8 ((bt sep 0).toNat : Int)]).run Tryz.prog w = .ok (.value (.int .i64 (n : Int))) w) (hs : sep.size = 1) (hq : sep = s → (n : Int) = 0) (w : World) : Fx Tryz.prog 15 [.string s, .string sep] w (fun u w' => u = .int .i64 (n : Int) ∧ w = w') := by
  refine enter Tryz.func15 rfl rfl rfl _ (Pick.sub (l := [0, 1]) (.cons rfl (.cons rfl .nil))) ?_
  refine RK.seq ?_
  refine RK.region ?_
  refine RL.p rfl rfl ?_
  refine RL.done ?_
  refine RK.seq ?_
  refine RK.region ?_
  iterate 2 refine RL.p rfl rfl ?_
  refine RL.op (.free rfl) rfl rfl (Does.call rfl e35 (slIndex1_ok s sep n hx hs hq _)) ?_
  rintro _ _ ⟨rfl, rfl⟩
  refine RL.p rfl rfl ?_
  refine RL.done ?_
  refine RK.ret_of Tryz.func15 (res1 rfl rfl) ?_ _
  exact ⟨_, rfl, rfl, rfl⟩
theorem genSplit_ok (s sep : ByteArray) (hsep : sep.size = 1) (ps : List ByteArray) (k : Nat) (hk : ps.length = k + 1) (hkb : k ≤ 1000) (hks : k ≤ s.size) (hss : s.size ≤ 100000) (hS : SplitOk sep s ps) (hc : ∀ (w : World), (callFunc 34 #[.string s, .int .u8 ((bt sep 0).toNat : Int)]).run Tryz.prog w = .ok (.value (.int .i64 (k : Int))) w) (w : World) : Fx Tryz.prog 8 [.string s, .string sep, .int .i64 0, .int .i64 (-1)] w (fun u w' => ∃ g, u = .slice (some ⟨g, 0, none⟩) (k + 1) (k + 1) ∧ Blk w' g 9 (ps.map Value.string) ∧ w.heap.size ≤ g ∧ Grow w w') := by
  have hne : ¬ sep = ⟨#[]⟩ := fun e => by rw [e] at hsep; exact absurd hsep (by decide)
  refine enter Tryz.func8 rfl rfl rfl _ (Pick.sub (l := [0, 1, 2, 3]) (.cons rfl (.cons rfl (.cons rfl (.cons rfl .nil))))) ?_
  refine RK.seq ?_
  refine RK.region ?_
  refine RL.p rfl rfl ?_
  refine RL.done ?_
  iterate 2 refine RK.seq ?_
  refine RK.region ?_
  iterate 2 refine RL.p rfl rfl ?_
  refine RL.done ?_
  refine RK.condF (hcF rfl (rfl)) ?_
  refine RK.skip ?_
  iterate 2 refine RK.seq ?_
  refine RK.region ?_
  iterate 2 refine RL.p rfl rfl ?_
  refine RL.done ?_
  refine RK.condF (hcF rfl (decide_eq_false hne)) ?_
  refine RK.skip ?_
  iterate 2 refine RK.seq ?_
  refine RK.region ?_
  iterate 2 refine RL.p rfl rfl ?_
  refine RL.done ?_
  refine RK.condT (hcT rfl (rfl)) ?_
  refine RK.region ?_
  iterate 2 refine RL.p rfl rfl ?_
  refine RL.op (.free rfl) rfl rfl (Does.call rfl e14 (count1_ok s sep k hc hsep _)) ?_
  rintro _ _ ⟨rfl, rfl⟩
  refine RL.p rfl rfl ?_
  refine RL.re (d := 24) rfl rfl (add_i64 (z := ((k + 1 : Nat) : Int)) (by simp) (by omega) (by omega)) ?_
  refine RL.p rfl rfl ?_
  refine RL.done ?_
  refine RK.seq ?_
  refine RK.region ?_
  iterate 2 refine RL.p rfl rfl ?_
  refine RL.q (.free rfl) rfl rfl (Yld.lenStr u9 rfl) ?_
  refine RL.p rfl rfl ?_
  refine RL.re (d := 28) rfl rfl (add_i64 (z := ((s.size + 1 : Nat) : Int)) (by simp) (by omega) (by omega)) ?_
  refine RL.q (.free rfl) rfl rfl (Yld.min2 rfl rfl) ?_
  refine RL.p rfl rfl ?_
  refine RL.done ?_
  refine RK.seq ?_
  refine RK.region ?_
  refine RL.p rfl rfl ?_
  refine RL.re (d := 30) rfl rfl (congrArg (Value.int .i64) (by (repeat' split) <;> omega : _ = ((k + 1 : Nat) : Int))) ?_
  refine RL.op (.free rfl) rfl rfl (Does.mkSlice u26 i9 rfl (m := k + 1) rfl rfl (by omega) (by omega)) ?_
  rintro _ w2 ⟨g, rfl, hng⟩
  have hag := hng.at_
  refine RL.p rfl rfl ?_
  refine RL.done ?_
  refine RK.seq ?_
  refine RK.region ?_
  refine RL.p rfl rfl ?_
  refine RL.re (d := 32) rfl rfl (congrArg (Value.int .i64) (by (repeat' split) <;> omega : _ = ((k + 1 : Nat) : Int))) ?_
  refine RL.p rfl rfl ?_
  refine RL.re (d := 33) rfl rfl (sub_i64 (z := (k : Int)) (by simp) (by omega) (by omega)) ?_
  refine RL.p rfl rfl ?_
  refine RL.done ?_
  refine RK.seq ?_
  refine RK.region ?_
  refine RL.p rfl rfl ?_
  refine RL.done ?_
  refine RK.seq ?_
  refine RK.block ?_
  refine RK.loop (fun t : Nat × ByteArray => [(0, .string t.2), (1, .string sep), (2, .int .i64 0), (3, .int .i64 (k : Int)), (9, .slice (some ⟨g, 0, none⟩) (k + 1) (k + 1)), (10, .int .i64 (t.1 : Int))]) (fun t w' => Blk w' g 9 ((ps.take t.1).map Value.string ++ List.replicate (k + 1 - t.1) (.string ⟨#[]⟩)) ∧ Grow w w' ∧ t.1 ≤ k ∧ SplitOk sep t.2 (ps.drop t.1)) (fun t => k - t.1) (0, s) ⟨rfl, rfl, rfl, rfl, rfl, rfl, trivial⟩ ⟨hng.blk, hng.grow, Nat.zero_le _, hS⟩ (fun t w' hI ih => ?_)
  obtain ⟨i, s'⟩ := t
  obtain ⟨hB, hg, hi, hS'⟩ := hI
  simp only at hB hi hS'
  iterate 2 refine RK.seq ?_
  refine RK.region ?_
  iterate 3 refine RL.p rfl rfl ?_
  refine RL.done ?_
  first | refine RK.condD rfl (fun h36 => ?_) (fun h36 => ?_) | refine RK.condN rfl (fun h36 => ?_) (fun h36 => ?_) | refine RK.cond rfl (fun h36 => ?_) (fun h36 => ?_)
  · have hik : i < k := by simp only at h36; omega
    obtain ⟨p, q, r, hpq⟩ : ∃ p q r, ps.drop i = p :: q :: r := by
        match hd : ps.drop i with
        | [] => (have := congrArg List.length hd; rw [List.length_drop] at this; simp at this; omega)
        | [p] => (have := congrArg List.length hd; rw [List.length_drop] at this; simp at this; omega)
        | p :: q :: r => exact ⟨p, q, r, rfl⟩
    rw [hpq] at hS'
    obtain ⟨hx, ⟨hsz, hps⟩, hpe, hS2⟩ := hS'
    refine RK.skip ?_
    refine RK.block ?_
    refine RK.seq ?_
    refine RK.region ?_
    iterate 2 refine RL.p rfl rfl ?_
    refine RL.op (.free rfl) rfl rfl (Does.call rfl e15 (strIndex1_ok s' sep p.size hx hsep (fun e => by rw [← e, hsep] at hps; omega) _)) ?_
    rintro _ _ ⟨rfl, rfl⟩
    refine RL.p rfl rfl ?_
    refine RL.done ?_
    iterate 2 refine RK.seq ?_
    refine RK.region ?_
    iterate 2 refine RL.p rfl rfl ?_
    refine RL.done ?_
    refine RK.condF (hcF rfl (decide_eq_false (by omega))) ?_
    refine RK.skip ?_
    refine RK.seq ?_
    refine RK.region ?_
    iterate 6 refine RL.p rfl rfl ?_
    refine RL.re (d := 47) rfl rfl (add_i64 (z := (p.size : Int)) (by simp) (by omega) (by omega)) ?_
    refine RL.q (.free rfl) rfl rfl (Yld.strHi (s := s') Tryz.underlying9 rfl rfl (by omega)) ?_
    refine RL.re (d := 48) rfl rfl (congrArg Value.string hpe) ?_
    refine RL.q (.free rfl) rfl rfl (Yld.indexAddrN u26 i9 rfl rfl ((by omega : i < k + 1))) ?_
    refine RL.op' (.free rfl) rfl (Does.storeN i9 rfl rfl rfl rfl hB (by simp; omega)) ?_
    rintro _ w3 ⟨hb3, hm3, hs3⟩
    have hpi : ps[i]? = some p := by have := congrArg (fun l => l[0]?) hpq; simpa using this
    refine RL.done ?_
    refine RK.seq ?_
    refine RK.region ?_
    iterate 3 refine RL.p rfl rfl ?_
    refine RL.q (.free rfl) rfl rfl (Yld.lenStr u9 rfl) ?_
    refine RL.p rfl rfl ?_
    refine RL.re (d := 54) rfl rfl (add_i64 (z := ((p.size + 1 : Nat) : Int)) (by simp [hsep]) (by omega) (by omega)) ?_
    refine RL.q (.free rfl) rfl rfl (Yld.strLo (s := s') Tryz.underlying9 rfl rfl (by omega)) ?_
    refine RL.p rfl rfl ?_
    refine RL.done ?_
    refine RK.region ?_
    iterate 2 refine RL.p rfl rfl ?_
    refine RL.re (d := 57) rfl rfl (succ_i64 (by omega)) ?_
    refine RL.p rfl rfl ?_
    refine RL.done ?_
    refine RK.inBlock ?_
    exact RK.back (ih (i + 1, s'.extract (p.size + 1) s'.size) _ ⟨by
        have e1 : (ps.take (i + 1)).map Value.string = (ps.take i).map Value.string ++ [.string p] := by
          rw [List.take_succ_eq_append_getElem (by omega), List.map_append]
          simp [(List.getElem?_eq_some_iff.1 hpi).2]
        have e2 : k + 1 - i = (k + 1 - (i + 1)) + 1 := by omega
        have hlen : ((ps.take i).map Value.string).length = i := by simp; omega
        have h := hb3
        rw [e2, List.replicate_succ, Nat.zero_add, Nat.mul_one] at h
        rw [e1]
        have h3 : List.take i ((ps.take i).map Value.string ++ Value.string ⟨#[]⟩ :: List.replicate (k + 1 - (i + 1)) (Value.string ⟨#[]⟩)) = (ps.take i).map Value.string := by rw [List.take_append_of_le_length (by omega), List.take_of_length_le (by omega)]
        have h4 : List.drop (i + 1) ((ps.take i).map Value.string ++ Value.string ⟨#[]⟩ :: List.replicate (k + 1 - (i + 1)) (Value.string ⟨#[]⟩)) = List.replicate (k + 1 - (i + 1)) (Value.string ⟨#[]⟩) := by rw [List.drop_append, hlen, List.drop_of_length_le (by omega), show i + 1 - i = 1 by omega]; rfl
        rw [h3, h4] at h
        exact h, hg.then hm3 (fun x hx e => by have e' : x = g := e; omega), by simp only; omega, by simp only; rw [← List.drop_drop, hpq]; exact hS2⟩ (by simp only; omega)) ⟨rfl, rfl, rfl, rfl, rfl, rfl, trivial⟩
  · obtain rfl : i = k := by simp only at h36; omega
    obtain ⟨p, hpq⟩ : ∃ p, ps.drop i = [p] := by
        match hd : ps.drop i with
        | [] => (have := congrArg List.length hd; rw [List.length_drop] at this; simp at this; omega)
        | [p] => exact ⟨p, rfl⟩
        | p :: q :: r => (have := congrArg List.length hd; rw [List.length_drop] at this; simp at this; omega)
    rw [hpq] at hS'
    obtain rfl : s' = p := hS'
    refine RK.exit rfl ?_
    refine RK.seq ?_
    refine RK.region ?_
    iterate 3 refine RL.p rfl rfl ?_
    refine RL.q (.free rfl) rfl rfl (Yld.indexAddrN u26 i9 rfl rfl ((by omega : i < i + 1))) ?_
    refine RL.op' (.free rfl) rfl (Does.storeN i9 rfl rfl rfl rfl hB (by simp; omega)) ?_
    rintro _ w3 ⟨hb3, hm3, hs3⟩
    refine RL.done ?_
    refine RK.seq ?_
    refine RK.region ?_
    iterate 3 refine RL.p rfl rfl ?_
    refine RL.re (d := 64) rfl rfl (succ_i64 (by omega)) ?_
    refine RL.q (.free rfl) rfl rfl (Yld.sliceHi u26 i9 (m := i + 1) rfl rfl (by omega)) ?_
    refine RL.p rfl rfl ?_
    refine RL.done ?_
    refine RK.ret_of Tryz.func8 (res1 rfl rfl) ?_ _
    exact ⟨_, rfl, g, rfl, by
        have hpi : ps[i]? = some s' := by have := congrArg (fun l => l[0]?) hpq; simpa using this
        have e1 : ps.map Value.string = (ps.take i).map Value.string ++ [.string s'] := by
          rw [← List.map_singleton, ← List.map_append, ← hpq, List.take_append_drop]
        have hlen : ((ps.take i).map Value.string).length = i := by simp; omega
        have h := hb3
        rw [show i + 1 - i = 1 by omega, Nat.zero_add, Nat.mul_one] at h
        rw [e1]
        have h3 : List.take i ((ps.take i).map Value.string ++ List.replicate 1 (Value.string ⟨#[]⟩)) = (ps.take i).map Value.string := by rw [List.take_append_of_le_length (by omega), List.take_of_length_le (by omega)]
        have h4 : List.drop (i + 1) ((ps.take i).map Value.string ++ List.replicate 1 (Value.string ⟨#[]⟩)) = [] := List.drop_of_length_le (by simp; omega)
        rw [h3, h4] at h
        simpa [Value.cells] using h, by omega, hg.then hm3 (fun x hx e => by have e' : x = g := e; omega)⟩
end Go.Proofs.YtcndimkkojdflaaGreatDoor
set_option linter.unusedVariables false
set_option linter.unusedSimpArgs false
set_option maxHeartbeats 6400000
set_option maxRecDepth 100000
namespace Go.Proofs.YtcndimkkojdflaaGreatDoor
open Go Go.X
theorem split_ok (s sep : ByteArray) (hsep : sep.size = 1) (ps : List ByteArray) (k : Nat) (hk : ps.length = k + 1) (hkb : k ≤ 1000) (hks : k ≤ s.size) (hss : s.size ≤ 100000) (hS : SplitOk sep s ps) (hc : ∀ (w : World), (callFunc 34 #[.string s, .int .u8 ((bt sep 0).toNat : Int)]).run Tryz.prog w = .ok (.value (.int .i64 (k : Int))) w) (w : World) : Fx Tryz.prog 5 [.string s, .string sep] w (fun u w' => ∃ g, u = .slice (some ⟨g, 0, none⟩) (k + 1) (k + 1) ∧ Blk w' g 9 (ps.map Value.string) ∧ w.heap.size ≤ g ∧ Grow w w') := by
  refine enter Tryz.func5 rfl rfl rfl _ (Pick.sub (l := [0, 1]) (.cons rfl (.cons rfl .nil))) ?_
  refine RK.seq ?_
  refine RK.region ?_
  refine RL.p rfl rfl ?_
  refine RL.done ?_
  refine RK.seq ?_
  refine RK.region ?_
  iterate 2 refine RL.p rfl rfl ?_
  refine RL.op (.free rfl) rfl rfl (Does.call rfl e8 (genSplit_ok s sep hsep ps k hk hkb hks hss hS hc _)) ?_
  rintro _ w1 ⟨g, rfl, hB, hg, hG⟩
  refine RL.p rfl rfl ?_
  refine RL.done ?_
  refine RK.ret_of Tryz.func5 (res1 rfl rfl) ?_ _
  exact ⟨_, rfl, g, rfl, hB, hg, hG⟩
theorem digitD_ok (c z : Int) (h1 : 48 ≤ c) (h2 : c ≤ 57) (hz : IntKind.u8.wrap (c - 48) = z) (w : World) : Fx Tryz.prog 36 [.int .u8 c] w (fun u w' => u = .tuple #[.int .u8 z, .bool true] ∧ w = w') := by
  refine enter Tryz.func36 rfl rfl rfl _ (Pick.sub (l := [0]) (.cons rfl .nil)) ?_
  refine RK.seq ?_
  refine RK.region ?_
  iterate 2 refine RL.p rfl rfl ?_
  refine RL.done ?_
  refine RK.seq ?_
  refine RK.block ?_
  refine RK.seq ?_
  refine RK.region ?_
  iterate 3 refine RL.p rfl rfl ?_
  refine RL.knownT (d := 7) rfl rfl (decide_eq_true h1) ?_
  iterate 2 refine RL.q (.yes rfl rfl rfl) rfl rfl (Yld.pure rfl) ?_
  iterate 2 refine RL.p rfl rfl ?_
  refine RL.done ?_
  refine RK.condT (hcT rfl (decide_eq_true h2)) ?_
  refine RK.seq ?_
  refine RK.region ?_
  iterate 2 refine RL.p rfl rfl ?_
  refine RL.re (d := 12) rfl rfl (congrArg (Value.int .u8) hz) ?_
  iterate 2 refine RL.p rfl rfl ?_
  refine RL.done ?_
  refine RK.ret_of Tryz.func36 (res2 rfl rfl rfl) ?_ _
  exact ⟨_, rfl, rfl, rfl⟩
theorem digitL_ok (c z : Int) (h1 : 97 ≤ c) (h2 : c ≤ 102) (hz : IntKind.u8.wrap (IntKind.u8.wrap (c - 97) + 10) = z) (w : World) : Fx Tryz.prog 36 [.int .u8 c] w (fun u w' => u = .tuple #[.int .u8 z, .bool true] ∧ w = w') := by
  refine enter Tryz.func36 rfl rfl rfl _ (Pick.sub (l := [0]) (.cons rfl .nil)) ?_
  refine RK.seq ?_
  refine RK.region ?_
  iterate 2 refine RL.p rfl rfl ?_
  refine RL.done ?_
  refine RK.seq ?_
  refine RK.block ?_
  refine RK.seq ?_
  refine RK.region ?_
  iterate 3 refine RL.p rfl rfl ?_
  refine RL.knownT (d := 7) rfl rfl (decide_eq_true (by omega)) ?_
  iterate 2 refine RL.q (.yes rfl rfl rfl) rfl rfl (Yld.pure rfl) ?_
  iterate 2 refine RL.p rfl rfl ?_
  refine RL.done ?_
  refine RK.condF (hcF rfl (decide_eq_false (by omega))) ?_
  refine RK.seq ?_
  refine RK.region ?_
  iterate 3 refine RL.p rfl rfl ?_
  refine RL.knownT (d := 16) rfl rfl (decide_eq_true h1) ?_
  iterate 2 refine RL.q (.yes rfl rfl rfl) rfl rfl (Yld.pure rfl) ?_
  iterate 2 refine RL.p rfl rfl ?_
  refine RL.done ?_
  refine RK.condT (hcT rfl (decide_eq_true h2)) ?_
  refine RK.seq ?_
  refine RK.region ?_
  iterate 3 refine RL.p rfl rfl ?_
  refine RL.re (d := 22) rfl rfl (congrArg (Value.int .u8) hz) ?_
  iterate 2 refine RL.p rfl rfl ?_
  refine RL.done ?_
  refine RK.ret_of Tryz.func36 (res2 rfl rfl rfl) ?_ _
  exact ⟨_, rfl, rfl, rfl⟩
def DigOk (c z : Nat) : Prop := (48 ≤ c ∧ c ≤ 57 ∧ IntKind.u8.wrap ((c : Int) - 48) = z) ∨ (97 ≤ c ∧ c ≤ 102 ∧ IntKind.u8.wrap (IntKind.u8.wrap ((c : Int) - 97) + 10) = z)
instance (c z : Nat) : Decidable (DigOk c z) := by unfold DigOk; infer_instance
theorem digit_ok (c z : Nat) (h : DigOk c z) (w : World) : Fx Tryz.prog 36 [.int .u8 (c : Int)] w (fun u w' => u = .tuple #[.int .u8 (z : Int), .bool true] ∧ w = w') := by
  rcases h with ⟨h1, h2, h3⟩ | ⟨h1, h2, h3⟩
  · exact digitD_ok c z (by omega) (by omega) h3 w
  · exact digitL_ok c z (by omega) (by omega) h3 w
theorem unhex_ok (s : ByteArray) (zs : List (Nat × Nat × UInt8)) (hl : s.size = 2 * zs.length) (h0 : 0 < zs.length) (hb : zs.length ≤ 1000) (hne : ¬ s = ⟨#[45]⟩) (hz : ∀ j t, zs[j]? = some t → DigOk (bt s (2 * j)).toNat t.1 ∧ DigOk (bt s (2 * j + 1)).toNat t.2.1 ∧ IntKind.u8.wrap (BitVec.ofInt IntKind.u8.bits (IntKind.u8.wrap ((t.1 <<< 4 : Nat) : Int)) ||| BitVec.ofInt IntKind.u8.bits (t.2.1 : Int)).toNat = (t.2.2.toNat : Int)) (w : World) : Fx Tryz.prog 16 [.string s] w (fun u w' => ∃ a c, u = .tuple #[.slice a zs.length c, .bool true] ∧ Row w' 5 1 (.slice a zs.length c) zs.length (bytesV (zs.map (·.2.2))) ∧ Fresh w.heap.size (.slice a zs.length c) ∧ Grow w w') := by
  have hne0 : ¬ s = ⟨#[]⟩ := fun e => by rw [e] at hl; have : (⟨#[]⟩ : ByteArray).size = 0 := rfl; omega
  refine enter Tryz.func16 rfl rfl rfl _ (Pick.sub (l := [0]) (.cons rfl .nil)) ?_
  refine RK.seq ?_
  refine RK.region ?_
  iterate 2 refine RL.p rfl rfl ?_
  refine RL.done ?_
  iterate 2 refine RK.seq ?_
  refine RK.region ?_
  iterate 2 refine RL.p rfl rfl ?_
  refine RL.done ?_
  refine RK.condF (hcF rfl (decide_eq_false hne)) ?_
  refine RK.skip ?_
  iterate 2 refine RK.seq ?_
  refine RK.region ?_
  iterate 3 refine RL.p rfl rfl ?_
  refine RL.knownF (d := 14) rfl rfl (decide_eq_false hne0) ?_
  refine RL.q (.yes rfl rfl rfl) rfl rfl (Yld.pure rfl) ?_
  refine RL.q (.yes rfl rfl rfl) rfl rfl (Yld.lenStr u9 rfl) ?_
  refine RL.q (.yes rfl rfl rfl) rfl rfl (Yld.rem rfl rfl (by decide)) ?_
  refine RL.re (d := 17) rfl rfl (congrArg (Value.int .i64) (by rw [show ((s.size : Nat) : Int) = ((2 * zs.length : Nat) : Int) by omega, show ((2 * zs.length : Nat) : Int).tmod 2 = 0 by rw [Int.tmod_eq_emod_of_nonneg (by omega)]; omega] : _ = (0 : Int))) ?_
  refine RL.q (.yes rfl rfl rfl) rfl rfl (Yld.pure rfl) ?_
  refine RL.p rfl rfl ?_
  refine RL.done ?_
  refine RK.condF (hcF rfl (rfl)) ?_
  refine RK.skip ?_
  refine RK.seq ?_
  refine RK.region ?_
  refine RL.p rfl rfl ?_
  refine RL.done ?_
  iterate 2 refine RK.seq ?_
  refine RK.region ?_
  refine RL.p rfl rfl ?_
  refine RL.done ?_
  refine RK.block ?_
  refine RK.loop (fun t : Nat × Value => [(0, .string s), (4, t.2), (5, .int .i64 ((2 * t.1 : Nat) : Int))]) (fun t w' => Row w' 5 1 t.2 t.1 (bytesV ((zs.take t.1).map (·.2.2))) ∧ Fresh w.heap.size t.2 ∧ Grow w w' ∧ t.1 ≤ zs.length) (fun t => zs.length - t.1) (0, .slice none 0 0) ⟨rfl, rfl, rfl, trivial⟩ ⟨Row.nil _ _ _, fun b e => by simp [Value.ownBlock] at e, Mod.refl _ _, Nat.zero_le _⟩ (fun t w' hI ih => ?_)
  obtain ⟨j, v⟩ := t
  obtain ⟨hr, hf, hg, hj⟩ := hI
  simp only at hr hf hj
  iterate 2 refine RK.seq ?_
  refine RK.region ?_
  iterate 2 refine RL.p rfl rfl ?_
  refine RL.q (.free rfl) rfl rfl (Yld.lenStr u9 rfl) ?_
  refine RL.p rfl rfl ?_
  refine RL.done ?_
  first | refine RK.condD rfl (fun h23 => ?_) (fun h23 => ?_) | refine RK.condN rfl (fun h23 => ?_) (fun h23 => ?_) | refine RK.cond rfl (fun h23 => ?_) (fun h23 => ?_)
  · have hjl : j < zs.length := by simp only at h23; omega
    obtain ⟨t, ht⟩ : ∃ t, zs[j]? = some t := ⟨zs[j], List.getElem?_eq_getElem hjl⟩
    obtain ⟨hx, hy, hxy⟩ := hz j t ht
    refine RK.skip ?_
    refine RK.seq ?_
    refine RK.block ?_
    refine RK.seq ?_
    refine RK.region ?_
    iterate 2 refine RL.p rfl rfl ?_
    refine RL.q (.free rfl) rfl rfl (Yld.idxStrN u9 rfl rfl ((by omega : 2 * j < s.size))) ?_
    refine RL.op (.free rfl) rfl rfl (Does.call rfl e36 (digit_ok _ t.1 hx _)) ?_
    rintro _ _ ⟨rfl, rfl⟩
    iterate 5 refine RL.p rfl rfl ?_
    refine RL.done ?_
    refine RK.seq ?_
    refine RK.region ?_
    iterate 3 refine RL.p rfl rfl ?_
    refine RL.re (d := 36) rfl rfl (add_i64 (z := ((2 * j + 1 : Nat) : Int)) (by simp) (by omega) (by omega)) ?_
    refine RL.q (.free rfl) rfl rfl (Yld.idxStrN u9 rfl rfl ((by omega : 2 * j + 1 < s.size))) ?_
    refine RL.op (.free rfl) rfl rfl (Does.call rfl e36 (digit_ok _ t.2.1 hy _)) ?_
    rintro _ _ ⟨rfl, rfl⟩
    iterate 5 refine RL.p rfl rfl ?_
    refine RL.done ?_
    iterate 2 refine RK.seq ?_
    refine RK.region ?_
    iterate 3 refine RL.p rfl rfl ?_
    refine RL.knownF (d := 43) rfl rfl (rfl) ?_
    iterate 2 refine RL.q (.yes rfl rfl rfl) rfl rfl (Yld.pure rfl) ?_
    refine RL.p rfl rfl ?_
    refine RL.done ?_
    refine RK.condF (hcF rfl (rfl)) ?_
    refine RK.skip ?_
    refine RK.region ?_
    iterate 2 refine RL.p rfl rfl ?_
    refine RL.q (.free rfl) rfl rfl (Yld.shl (a := t.1) (s := 4) rfl rfl (by decide)) ?_
    iterate 2 refine RL.p rfl rfl ?_
    refine RL.re (d := 51) rfl rfl (congrArg (Value.int .u8) hxy) ?_
    refine RL.op (.free rfl) rfl rfl (Does.slice1 u39 i5 rfl rfl rfl rfl rfl) ?_
    rintro _ w5 ⟨b5, rfl, hn5⟩
    refine RL.op (.free rfl) rfl rfl (Does.append u39 i5 rfl rfl rfl rfl rfl (hr.mod hn5.grow (fun _ _ h => h)) (Sl.new hn5 1 1 rfl (by decide) (fun h => h)) (rfl) (by omega)) ?_
    rintro u6 w6 ⟨hr6, hm6, hu6⟩
    have hz5 := hn5.size
    have hzg := hg.size
    have hf6 : Fresh w.heap.size u6 := fun b e => by
        rcases hu6 with h | h <;> rw [h] at e
        · exact hf b e
        · cases e; omega
    have hg6 : Grow w w6 := (hg.trans hn5.grow).then hm6 (fun x hx e => by have := hf x e; omega)
    have hr6' : Row w6 5 1 u6 (j + 1) (bytesV ((zs.take (j + 1)).map (·.2.2))) := by
        have e : bytesV ((zs.take (j + 1)).map (·.2.2)) = bytesV ((zs.take j).map (·.2.2)) ++ [.int .u8 (t.2.2.toNat : Int)] := by
          rw [List.take_succ_eq_append_getElem hjl, List.map_append]
          simp [bytesV, (List.getElem?_eq_some_iff.1 ht).2]
        rw [e]; exact hr6
    refine RL.p rfl rfl ?_
    refine RL.done ?_
    refine RK.inBlock ?_
    refine RK.region ?_
    iterate 2 refine RL.p rfl rfl ?_
    refine RL.re (d := 25) rfl rfl (add_i64 (z := ((2 * (j + 1) : Nat) : Int)) (by simp; omega) (by omega) (by omega)) ?_
    refine RL.p rfl rfl ?_
    refine RL.done ?_
    exact RK.back (ih (j + 1, u6) _ ⟨hr6', hf6, hg6, by simp only; omega⟩ (by simp only; omega)) ⟨rfl, rfl, rfl, trivial⟩
  · obtain rfl : j = zs.length := by simp only at h23; omega
    rw [List.take_length] at hr
    obtain ⟨a, c, rfl⟩ := hr.slice
    refine RK.exit rfl ?_
    refine RK.seq ?_
    refine RK.region ?_
    iterate 3 refine RL.p rfl rfl ?_
    refine RL.done ?_
    refine RK.ret_of Tryz.func16 (res2 rfl rfl rfl) ?_ _
    exact ⟨_, rfl, a, c, rfl, hr, hf, hg⟩
end Go.Proofs.YtcndimkkojdflaaGreatDoor
set_option linter.unusedVariables false
set_option linter.unusedSimpArgs false
set_option maxHeartbeats 6400000
set_option maxRecDepth 100000
namespace Go.Proofs.YtcndimkkojdflaaGreatDoor
open Go Go.X
theorem Mod.bytesWorld (w : World) (e : TypeId) (s : ByteArray) : Grow w (Lib.bytesWorld w e s) := by
  refine ⟨?_, ?_, ?_, by rw [Lib.bytesWorld_size]; omega, fun k hk _ => Lib.bytesWorld_at_old w e s k hk⟩
  all_goals (unfold Lib.bytesWorld World.freeze; split <;> rfl)
theorem Does.strBytes {P : Program} {n : Nat} {e : Env} {w : World} {d : Option Tmp} {t1 t2 el : Nat} {x : Operand} {ty : TypeId} {pos : String} {af : Array Edge} {g : Option (Nat × Bool)} (hs : P.underlying t1 = some .string) (hd : P.underlying t2 = some (.slice el)) (he : P.underlying el = some (.int .u8)) {s : ByteArray} (hx : ev e x = some (.string s)) :
    Does P n e w ⟨d, .convert t1 t2 x, ty, pos, af, g⟩ (fun u w' => ∃ b c, u = .slice (some ⟨b, 0, none⟩) s.size c ∧ (∀ j, j < s.size → w'.cell? ⟨b, j, none⟩ = some (.int .u8 ((bt s j).toNat : Int))) ∧ Grow w w') := by
  have h := fun (w : World) => Lib.run_convert_string_bytes (P := P) w t1 t2 el s hs hd he
  refine Does.of_run (w' := Lib.bytesWorld w el s) (v := .slice (some ⟨w.heap.size, 0, none⟩) s.size (grownCap w s.size 0 el)) (fun a ha => ?_) ⟨_, _, rfl, fun j hj => Lib.bytesWorld_cell w el s j hj, Mod.bytesWorld w el s⟩
  simp [execOp, ha.ev hx, h w]
theorem Yld.neqK {P : Program} {n : Nat} {e : Env} {C : World → Prop} {d : Option Tmp} {t : Nat} {x y : Operand} {t' ty : TypeId} {pos : String} {af : Array Edge} {g : Option (Nat × Bool)} {vx vy v : Value} (hx : ev e x = some vx) (hy : ev e y = some vy) (hr : ∀ w, ((do eqGuard .neq t x y vx vy; binOp .neq t vx vy) : Sem Value).run P w = .ok v w) : Yld P n C e ⟨d, .binOp .neq t x y t', ty, pos, af, g⟩ v := by
  intro a ha w _
  have h := hr w
  simp only [Sem.run_bind] at h
  simp only [execOp, ha.ev hx, ha.ev hy, Sem.run_bind]
  rw [h]
  simp
theorem Yld.strLH {P : Program} {n : Nat} {e : Env} {C : World → Prop} {d : Option Tmp} {t : Nat} {x l h : Operand} {ty : TypeId} {pos : String} {af : Array Edge} {g : Option (Nat × Bool)} (hT : P.underlying t = some .string) {s : ByteArray} {m q : Nat} {k k2 : IntKind} (hx : ev e x = some (.string s)) (hl : ev e l = some (.int k2 (q : Int))) (hh : ev e h = some (.int k (m : Int))) (hm : m ≤ s.size) (hq : q ≤ m) :
    Yld P n C e ⟨d, .slice t x (some l) (some h) none, ty, pos, af, g⟩ (.string (s.extract q m)) := by
  intro a ha w _
  have h1 : (m : Int) ≤ s.size := by omega
  have h2 : ¬ s.size < m := by omega
  have h3 : ¬ m < q := by omega
  simp [h2, h3, execOp, ha.ev hx, ha.ev hh, ha.ev hl, Instr.sliceAt, Instr.slice, run_underlying hT, Instr.sliceBounds, Instr.sliceBound, asIntOf, h1, hq]
def digitsS : ByteArray := ⟨#[48, 49, 50, 51, 52, 53, 54, 55, 56, 57, 97, 98, 99, 100, 101, 102, 103, 104, 105, 106, 107, 108, 109, 110, 111, 112, 113, 114, 115, 116, 117, 118, 119, 120, 121, 122]⟩
theorem small1_ok (x : Nat) (hx : x < 10) (w : World) : Fx Tryz.prog 74 [.int .i64 (x : Int)] w (fun u w' => u = .string (digitsS.extract x (x + 1)) ∧ w = w') := by
  refine enter Tryz.func74 rfl rfl rfl _ (Pick.sub (l := [0]) (.cons rfl .nil)) ?_
  refine RK.seq ?_
  refine RK.region ?_
  refine RL.p rfl rfl ?_
  refine RL.done ?_
  iterate 2 refine RK.seq ?_
  refine RK.region ?_
  iterate 2 refine RL.p rfl rfl ?_
  refine RL.done ?_
  refine RK.condT (hcT rfl (decide_eq_true (by omega))) ?_
  refine RK.seq ?_
  refine RK.region ?_
  iterate 3 refine RL.p rfl rfl ?_
  refine RL.re (d := 7) rfl rfl (succ_i64 (by omega)) ?_
  refine RL.q (.free rfl) rfl rfl (Yld.strLH (s := digitsS) Tryz.underlying9 rfl rfl rfl (by have : digitsS.size = 36 := rfl; omega) (by omega)) ?_
  refine RL.p rfl rfl ?_
  refine RL.done ?_
  refine RK.ret_of Tryz.func74 (res1 rfl rfl) ?_ _
  exact ⟨_, rfl, rfl, rfl⟩
theorem fmt1_ok (x : Nat) (hx : x < 10) (w : World) : Fx Tryz.prog 21 [.int .u64 (x : Int), .int .i64 10] w (fun u w' => u = .string (digitsS.extract x (x + 1)) ∧ w = w') := by
  have h : Fx Tryz.prog 41 [.int .u64 (x : Int), .int .i64 10] w (fun u w' => u = .string (digitsS.extract x (x + 1)) ∧ w = w') := by
    refine enter Tryz.func41 rfl rfl rfl _ (Pick.sub (l := [0, 1]) (.cons rfl (.cons rfl .nil))) ?_
    refine RK.seq ?_
    refine RK.region ?_
    refine RL.p rfl rfl ?_
    refine RL.done ?_
    iterate 2 refine RK.seq ?_
    refine RK.region ?_
    iterate 2 refine RL.p rfl rfl ?_
    refine RL.done ?_
    refine RK.condT (hcT rfl (rfl)) ?_
    iterate 2 refine RK.seq ?_
    refine RK.region ?_
    iterate 2 refine RL.p rfl rfl ?_
    refine RL.done ?_
    refine RK.condT (hcT rfl (decide_eq_true (by omega))) ?_
    refine RK.seq ?_
    refine RK.region ?_
    refine RL.p rfl rfl ?_
    refine RL.q (.free rfl) rfl rfl (Yld.convI Tryz.underlying31 Tryz.underlying3 rfl) ?_
    refine RL.re (d := 14) rfl rfl (congrArg (Value.int .i64) (wrap_i64 (x := (x : Int)) (by omega) (by omega))) ?_
    refine RL.op (.free rfl) rfl rfl (Does.call rfl e74 (small1_ok x hx _)) ?_
    rintro _ _ ⟨rfl, rfl⟩
    refine RL.p rfl rfl ?_
    refine RL.done ?_
    refine RK.ret_of Tryz.func41 (res1 rfl rfl) ?_ _
    exact ⟨_, rfl, rfl, rfl⟩
  refine enter Tryz.func21 rfl rfl rfl _ (Pick.sub (l := [0, 1]) (.cons rfl (.cons rfl .nil))) ?_
  refine RK.seq ?_
  refine RK.region ?_
  refine RL.p rfl rfl ?_
  refine RL.done ?_
  refine RK.seq ?_
  refine RK.region ?_
  iterate 2 refine RL.p rfl rfl ?_
  refine RL.op (.free rfl) rfl rfl (Does.call rfl e41 (h)) ?_
  rintro _ _ ⟨rfl, rfl⟩
  refine RL.p rfl rfl ?_
  refine RL.done ?_
  refine RK.ret_of Tryz.func21 (res1 rfl rfl) ?_ _
  exact ⟨_, rfl, rfl, rfl⟩
theorem parse1_ok (s : ByteArray) (x : Nat) (hx : x < 10) (hs : s.size = 1) (hb : (bt s 0).toNat = 48 + x) (w : World) : Fx Tryz.prog 65 [.string s, .int .i64 10, .int .i64 64] w (fun u w' => u = .tuple #[.int .u64 (x : Int), .nilIface] ∧ Grow w w') := by
  have hne0 : ¬ s = ⟨#[]⟩ := fun e => by rw [e] at hs; exact absurd hs (by decide)
  refine enter Tryz.func65 rfl rfl rfl _ (Pick.sub (l := [0, 1, 2]) (.cons rfl (.cons rfl (.cons rfl .nil)))) ?_
  refine RK.seq ?_
  refine RK.region ?_
  iterate 2 refine RL.p rfl rfl ?_
  refine RL.done ?_
  iterate 2 refine RK.seq ?_
  refine RK.region ?_
  iterate 2 refine RL.p rfl rfl ?_
  refine RL.done ?_
  refine RK.condF (hcF rfl (decide_eq_false hne0)) ?_
  refine RK.skip ?_
  refine RK.seq ?_
  refine RK.region ?_
  iterate 3 refine RL.p rfl rfl ?_
  refine RL.done ?_
  refine RK.seq ?_
  refine RK.region ?_
  iterate 2 refine RL.p rfl rfl ?_
  refine RL.done ?_
  refine RK.seq ?_
  refine RK.block ?_
  refine RK.seq ?_
  refine RK.region ?_
  iterate 3 refine RL.p rfl rfl ?_
  refine RL.knownT (d := 28) rfl rfl (rfl) ?_
  iterate 2 refine RL.q (.yes rfl rfl rfl) rfl rfl (Yld.pure rfl) ?_
  iterate 2 refine RL.p rfl rfl ?_
  refine RL.done ?_
  refine RK.condT (hcT rfl (rfl)) ?_
  refine RK.skip ?_
  refine RK.inBlock ?_
  iterate 2 refine RK.seq ?_
  refine RK.region ?_
  iterate 2 refine RL.p rfl rfl ?_
  refine RL.done ?_
  refine RK.condF (hcF rfl (rfl)) ?_
  refine RK.seq ?_
  refine RK.region ?_
  iterate 3 refine RL.p rfl rfl ?_
  refine RL.knownF (d := 80) rfl rfl (rfl) ?_
  iterate 2 refine RL.q (.yes rfl rfl rfl) rfl rfl (Yld.pure rfl) ?_
  refine RL.p rfl rfl ?_
  refine RL.done ?_
  refine RK.condF (hcF rfl (rfl)) ?_
  refine RK.skip ?_
  refine RK.seq ?_
  refine RK.region ?_
  refine RL.p rfl rfl ?_
  refine RL.done ?_
  iterate 2 refine RK.seq ?_
  refine RK.region ?_
  refine RL.p rfl rfl ?_
  refine RL.done ?_
  refine RK.block ?_
  refine RK.seq ?_
  refine RK.region ?_
  iterate 2 refine RL.p rfl rfl ?_
  refine RL.done ?_
  refine RK.condT (hcT rfl (rfl)) ?_
  refine RK.region ?_
  refine RL.p rfl rfl ?_
  refine RL.done ?_
  refine RK.inBlock ?_
  refine RK.seq ?_
  refine RK.region ?_
  refine RL.p rfl rfl ?_
  refine RL.q (.free rfl) rfl rfl (Yld.convI Tryz.underlying3 Tryz.underlying79 rfl) ?_
  refine RL.q (.free rfl) rfl rfl (Yld.shl (a := 1) (s := 64) rfl rfl (by decide)) ?_
  refine RL.re (d := 96) rfl rfl (congrArg (Value.int .u64) (by decide : _ = (0 : Int))) ?_
  refine RL.p rfl rfl ?_
  refine RL.re (d := 97) rfl rfl (congrArg (Value.int .u64) (by decide : _ = (18446744073709551615 : Int))) ?_
  refine RL.p rfl rfl ?_
  refine RL.done ?_
  refine RK.seq ?_
  refine RK.region ?_
  refine RL.p rfl rfl ?_
  refine RL.done ?_
  refine RK.seq ?_
  refine RK.region ?_
  refine RL.p rfl rfl ?_
  refine RL.done ?_
  iterate 2 refine RK.seq ?_
  refine RK.region ?_
  refine RL.p rfl rfl ?_
  refine RL.op (.free rfl) rfl rfl (Does.strBytes Tryz.underlying9 Tryz.underlying39 Tryz.underlying5 rfl) ?_
  rintro _ w2 ⟨b, cap, rfl, hc, hg⟩
  refine RL.q (.free rfl) rfl rfl (Yld.lenSl u39 rfl) ?_
  refine RL.re (d := 100) rfl rfl (congrArg (fun q : Nat => Value.int .i64 (q : Int)) hs) ?_
  refine RL.p rfl rfl ?_
  refine RL.done ?_
  refine RK.block ?_
  refine RK.loop (fun k : Nat => [(0, .string s), (1, .int .i64 10), (2, .int .i64 64), (8, .bool false), (9, .string s), (10, .int .u64 1844674407370955162), (11, .int .u64 18446744073709551615), (12, .bool false), (13, .int .u64 (if k = 0 then 0 else (x : Int))), (99, .slice (some ⟨b, 0, none⟩) s.size cap), (100, .int .i64 1), (101, .int .i64 (k : Int))]) (fun k w' => w2 = w' ∧ k ≤ 1) (fun k => 1 - k) 0 ⟨rfl, rfl, rfl, rfl, rfl, rfl, rfl, rfl, rfl, rfl, rfl, rfl, trivial⟩ ⟨rfl, Nat.zero_le _⟩ (fun k w' hI ih => ?_)
  obtain ⟨rfl, hk⟩ := hI
  refine RK.seq ?_
  refine RK.region ?_
  refine RL.p rfl rfl ?_
  refine RL.done ?_
  refine RK.seq ?_
  first | refine RK.condD rfl (fun h102 => ?_) (fun h102 => ?_) | refine RK.condN rfl (fun h102 => ?_) (fun h102 => ?_) | refine RK.cond rfl (fun h102 => ?_) (fun h102 => ?_)
  · obtain rfl : k = 0 := by omega
    refine RK.skip ?_
    refine RK.seq ?_
    refine RK.block ?_
    refine RK.seq ?_
    refine RK.region ?_
    refine RL.q (.free rfl) rfl rfl (Yld.indexAddrN u39 i5 rfl rfl ((by omega : 0 < s.size))) ?_
    refine RL.q (.free rfl) rfl rfl (Yld.load p5 rfl (at1 (hc 0 (by omega)))) ?_
    refine RL.p rfl rfl ?_
    refine RL.re (d := 15) rfl rfl (congrArg (fun q : Nat => Value.int .u8 (q : Int)) hb) ?_
    refine RL.done ?_
    refine RK.seq ?_
    refine RK.region ?_
    refine RL.p rfl rfl ?_
    refine RL.done ?_
    refine RK.seq ?_
    refine RK.block ?_
    refine RK.seq ?_
    refine RK.region ?_
    iterate 3 refine RL.p rfl rfl ?_
    refine RL.knownF (d := 109) rfl rfl (decide_eq_false (by omega)) ?_
    refine RL.no (.no rfl rfl rfl rfl) rfl rfl ?_
    iterate 2 refine RL.p rfl rfl ?_
    refine RL.done ?_
    refine RK.condF rfl ?_
    refine RK.seq ?_
    refine RK.region ?_
    iterate 3 refine RL.p rfl rfl ?_
    refine RL.knownT (d := 115) rfl rfl (decide_eq_true (by omega)) ?_
    iterate 2 refine RL.q (.yes rfl rfl rfl) rfl rfl (Yld.pure rfl) ?_
    iterate 2 refine RL.p rfl rfl ?_
    refine RL.done ?_
    refine RK.condT (hcT rfl (decide_eq_true (by omega))) ?_
    refine RK.region ?_
    iterate 2 refine RL.p rfl rfl ?_
    refine RL.re (d := 120) rfl rfl (congrArg (Value.int .u8) (by rw [IntKind.wrap_u8]; omega : _ = (x : Int))) ?_
    refine RL.p rfl rfl ?_
    refine RL.done ?_
    refine RK.inBlock ?_
    iterate 2 refine RK.seq ?_
    refine RK.region ?_
    iterate 2 refine RL.p rfl rfl ?_
    refine RL.q (.free rfl) rfl rfl (Yld.convI Tryz.underlying3 Tryz.underlying5 rfl) ?_
    refine RL.re (d := 136) rfl rfl (congrArg (Value.int .u8) (by decide : _ = (10 : Int))) ?_
    refine RL.p rfl rfl ?_
    refine RL.done ?_
    refine RK.condF (hcF rfl (decide_eq_false (by omega))) ?_
    refine RK.skip ?_
    iterate 2 refine RK.seq ?_
    refine RK.region ?_
    iterate 3 refine RL.p rfl rfl ?_
    refine RL.done ?_
    refine RK.condF (hcF rfl (decide_eq_false (by simp))) ?_
    refine RK.skip ?_
    refine RK.seq ?_
    refine RK.region ?_
    iterate 2 refine RL.p rfl rfl ?_
    refine RL.q (.free rfl) rfl rfl (Yld.convI Tryz.underlying3 Tryz.underlying31 rfl) ?_
    refine RL.re (d := 146) rfl rfl (congrArg (Value.int .u64) (by decide : _ = (10 : Int))) ?_
    refine RL.p rfl rfl ?_
    refine RL.re (d := 147) rfl rfl (congrArg (Value.int .u64) (by rw [if_pos rfl]; decide : _ = (0 : Int))) ?_
    refine RL.p rfl rfl ?_
    refine RL.done ?_
    refine RK.seq ?_
    refine RK.region ?_
    iterate 2 refine RL.p rfl rfl ?_
    refine RL.q (.free rfl) rfl rfl (Yld.convI Tryz.underlying5 Tryz.underlying31 rfl) ?_
    refine RL.re (d := 150) rfl rfl (congrArg (Value.int .u64) (by rw [IntKind.wrap_u64]; omega : _ = (x : Int))) ?_
    refine RL.p rfl rfl ?_
    refine RL.re (d := 151) rfl rfl (congrArg (Value.int .u64) (by rw [IntKind.wrap_u64]; omega : _ = (x : Int))) ?_
    refine RL.p rfl rfl ?_
    refine RL.done ?_
    iterate 2 refine RK.seq ?_
    refine RK.region ?_
    iterate 4 refine RL.p rfl rfl ?_
    refine RL.knownF (d := 155) rfl rfl (decide_eq_false (by omega)) ?_
    iterate 3 refine RL.q (.yes rfl rfl rfl) rfl rfl (Yld.pure rfl) ?_
    refine RL.p rfl rfl ?_
    refine RL.done ?_
    refine RK.condF (hcF rfl (decide_eq_false (by omega))) ?_
    refine RK.skip ?_
    refine RK.region ?_
    iterate 2 refine RL.p rfl rfl ?_
    refine RL.done ?_
    refine RK.inBlock ?_
    refine RK.region ?_
    refine RL.p rfl rfl ?_
    refine RL.re (d := 163) rfl rfl (congrArg (Value.int .i64) (by decide : _ = ((1 : Nat) : Int))) ?_
    refine RL.p rfl rfl ?_
    refine RL.done ?_
    exact RK.back (ih 1 _ ⟨rfl, by omega⟩ (by omega)) ⟨rfl, rfl, rfl, rfl, rfl, rfl, rfl, rfl, rfl, rfl, rfl, rfl, trivial⟩
  · obtain rfl : k = 1 := by omega
    refine RK.exit rfl ?_
    iterate 2 refine RK.seq ?_
    refine RK.region ?_
    iterate 2 refine RL.p rfl rfl ?_
    refine RL.knownF (d := 165) rfl rfl (rfl) ?_
    iterate 3 refine RL.no (.no rfl rfl rfl rfl) rfl rfl ?_
    refine RL.p rfl rfl ?_
    refine RL.done ?_
    refine RK.condF rfl ?_
    refine RK.skip ?_
    refine RK.seq ?_
    refine RK.region ?_
    iterate 3 refine RL.p rfl rfl ?_
    refine RL.done ?_
    refine RK.ret_of Tryz.func65 (res2 rfl rfl rfl) ?_ _
    exact ⟨_, rfl, rfl, hg⟩
theorem numW_ok (s : ByteArray) (x : Nat) (hx : x < 10) (hs : s.size = 1) (hb : (bt s 0).toNat = 48 + x) (hd : digitsS.extract x (x + 1) = s) (most : Int) (hm : (x : Int) ≤ most) (w : World) : Fx Tryz.prog 17 [.string s, .int .u64 most] w (fun u w' => u = .tuple #[.int .u64 (x : Int), .bool true] ∧ Grow w w') := by
  have h : ∀ w, Fx Tryz.prog 37 [.string s, .int .i64 10, .int .i64 64] w (fun u w' => u = .tuple #[.int .u64 (x : Int), .nilIface] ∧ Grow w w') := fun w => by
    refine enter Tryz.func37 rfl rfl rfl _ (Pick.sub (l := [0, 1, 2]) (.cons rfl (.cons rfl (.cons rfl .nil)))) ?_
    refine RK.seq ?_
    refine RK.region ?_
    iterate 2 refine RL.p rfl rfl ?_
    refine RL.done ?_
    refine RK.seq ?_
    refine RK.region ?_
    iterate 3 refine RL.p rfl rfl ?_
    refine RL.op (.free rfl) rfl rfl (Does.call rfl e65 (parse1_ok s x hx hs hb _)) ?_
    rintro _ w1 ⟨rfl, hg1⟩
    iterate 5 refine RL.p rfl rfl ?_
    refine RL.done ?_
    iterate 2 refine RK.seq ?_
    refine RK.region ?_
    refine RL.p rfl rfl ?_
    refine RL.q (.free rfl) rfl rfl (Yld.neqK (v := .bool false) rfl rfl (fun w => by kernel_rfl)) ?_
    refine RL.done ?_
    refine RK.condF (hcF rfl (rfl)) ?_
    refine RK.skip ?_
    refine RK.seq ?_
    refine RK.region ?_
    iterate 3 refine RL.p rfl rfl ?_
    refine RL.done ?_
    refine RK.ret_of Tryz.func37 (res2 rfl rfl rfl) ?_ _
    exact ⟨_, rfl, rfl, hg1⟩
  refine enter Tryz.func17 rfl rfl rfl _ (Pick.sub (l := [0, 1]) (.cons rfl (.cons rfl .nil))) ?_
  refine RK.seq ?_
  refine RK.region ?_
  iterate 2 refine RL.p rfl rfl ?_
  refine RL.done ?_
  refine RK.seq ?_
  refine RK.region ?_
  refine RL.p rfl rfl ?_
  refine RL.op (.free rfl) rfl rfl (Does.call rfl e37 (h _)) ?_
  rintro _ w1 ⟨rfl, hg1⟩
  iterate 5 refine RL.p rfl rfl ?_
  refine RL.done ?_
  refine RK.seq ?_
  refine RK.region ?_
  iterate 2 refine RL.p rfl rfl ?_
  refine RL.q (.free rfl) rfl rfl (Yld.eqK (v := .bool true) rfl rfl (fun w => by kernel_rfl)) ?_
  refine RL.p rfl rfl ?_
  refine RL.knownT (d := 16) rfl rfl (rfl) ?_
  iterate 3 refine RL.q (.yes rfl rfl rfl) rfl rfl (Yld.pure rfl) ?_
  iterate 2 refine RL.p rfl rfl ?_
  refine RL.knownT (d := 21) rfl rfl (decide_eq_true hm) ?_
  refine RL.q (.yes rfl rfl rfl) rfl rfl (Yld.pure rfl) ?_
  refine RL.op (.yes rfl rfl rfl) rfl rfl (Does.call rfl e21 (fmt1_ok x hx _)) ?_
  rintro _ _ ⟨rfl, rfl⟩
  iterate 2 refine RL.q (.yes rfl rfl rfl) rfl rfl (Yld.pure rfl) ?_
  iterate 3 refine RL.p rfl rfl ?_
  refine RL.done ?_
  refine RK.ret_of Tryz.func17 (res2 rfl rfl rfl) ?_ _
  exact ⟨_, rfl, by simp [hd], hg1⟩
end Go.Proofs.YtcndimkkojdflaaGreatDoor
set_option linter.unusedVariables false
set_option linter.unusedSimpArgs false
set_option maxHeartbeats 6400000
set_option maxRecDepth 100000
namespace Go.Proofs.YtcndimkkojdflaaGreatDoor
open Go Go.X
section
variable {P : Program} {n : Nat} {e : Env} {C : World → Prop}
theorem run_toUnsafe {w : World} {t1 t2 el b o T : Nat} {cs : List Value} {z : Value} {sz by' : Nat} (hs : P.underlying t1 = some (.pointer el)) (hd : P.underlying t2 = some .unsafePointer) (hT : TI P el z sz by') (hsz : Nat.ble 1 sz = true) (hb : Blk w b T cs) (ho : o < cs.length) :
    (convert t1 t2 (.pointer (some ⟨b, o, none⟩))).run P w = .ok (.pointer (some ⟨b, o, none⟩)) w := by
  have hb' : w.heap[b]? = some (.cells cs.toArray T (0, 0)) := hb
  have h1 := hT.sizeOf (w := w)
  have hv : w.shape? b = some (T, cs.length) := by simp [World.shape?, hb']
  have hne : ¬ sz = 0 := by simp at hsz; omega
  have ho' : ¬ cs.length ≤ o := by omega
  simp [convert, run_underlying hs, run_underlying hd, Conv.unsafePointer, Conv.seenAt, viewAt, cellsIn, hv, h1, hne, ho']
theorem run_ofUnsafe {w : World} {t1 t2 el b o T : Nat} {cs : List Value} {z : Value} {sz by' : Nat} (hs : P.underlying t1 = some .unsafePointer) (hd : P.underlying t2 = some (.pointer el)) (hT : TI P el z sz by') (hb : Blk w b T cs) (hl : liesAt P P.depth T (cs.length / P.cellsOf T) o el 1 = true) :
    (convert t1 t2 (.pointer (some ⟨b, o, none⟩))).run P w = .ok (.pointer (some ⟨b, o, none⟩)) w := by
  have hb' : w.heap[b]? = some (.cells cs.toArray T (0, 0)) := hb
  have h1 := hT.sizeOf (w := w)
  have hv : w.shape? b = some (T, cs.length) := by simp [World.shape?, hb']
  simp [convert, run_underlying hs, run_underlying hd, Conv.unsafePointer, Conv.seenAt, viewAt, hv, h1, variablesAt, hl]
theorem Yld.toUnsafe {d : Option Tmp} {t1 t2 el b o T : Nat} {x : Operand} {ty : TypeId} {pos : String} {af : Array Edge} {g : Option (Nat × Bool)} {cs : List Value} {z : Value} {sz by' : Nat} (hs : P.underlying t1 = some (.pointer el)) (hd : P.underlying t2 = some .unsafePointer) (hT : TI P el z sz by') (hsz : Nat.ble 1 sz = true) (hx : ev e x = some (.pointer (some ⟨b, o, none⟩))) (hb : ∀ w, C w → Blk w b T cs) (ho : o < cs.length) : Yld P n C e ⟨d, .convert t1 t2 x, ty, pos, af, g⟩ (.pointer (some ⟨b, o, none⟩)) := by
  intro a ha w hw
  simp [execOp, ha.ev hx, run_toUnsafe hs hd hT hsz (hb w hw) ho]
theorem Yld.ofUnsafe {d : Option Tmp} {t1 t2 el b o T : Nat} {x : Operand} {ty : TypeId} {pos : String} {af : Array Edge} {g : Option (Nat × Bool)} {cs : List Value} {z : Value} {sz by' : Nat} (hs : P.underlying t1 = some .unsafePointer) (hd : P.underlying t2 = some (.pointer el)) (hT : TI P el z sz by') (hx : ev e x = some (.pointer (some ⟨b, o, none⟩))) (hb : ∀ w, C w → Blk w b T cs) (hl : liesAt P P.depth T (cs.length / P.cellsOf T) o el 1 = true) : Yld P n C e ⟨d, .convert t1 t2 x, ty, pos, af, g⟩ (.pointer (some ⟨b, o, none⟩)) := by
  intro a ha w hw
  simp [execOp, ha.ev hx, run_ofUnsafe hs hd hT (hb w hw) hl]
theorem run_equalIn_ptrS {t el : Nat} {z : Value} {sz by' : Nat} (hT : P.underlying t = some (.pointer el)) (hI : TI P el z sz by') (b o : Nat) (w : World) (d : Nat) : ((Op.equalIn (d + 1) t (.pointer (some ⟨b, o, none⟩)) (.pointer (some ⟨b, o, none⟩))) : Sem Bool).run P w = .ok true w := by
  have h1 := hI.sizeOf (w := w)
  unfold Op.equalIn
  by_cases hz : sz = 0
  · simp [run_underlying hT, h1, hz]
  · simp [run_underlying hT, h1, hz, sameAddr]
theorem Yld.neqPtrS {d : Option Tmp} {t el : Nat} {x y : Operand} {t' ty : TypeId} {pos : String} {af : Array Edge} {g : Option (Nat × Bool)} {z : Value} {sz by' : Nat} (hT : P.underlying t = some (.pointer el)) (hI : TI P el z sz by') {b o : Nat} (hx : ev e x = some (.pointer (some ⟨b, o, none⟩))) (hy : ev e y = some (.pointer (some ⟨b, o, none⟩))) : Yld P n C e ⟨d, .binOp .neq t x y t', ty, pos, af, g⟩ (.bool false) := by
  intro a ha w _
  have h1 : ((Op.equal t (.pointer (some ⟨b, o, none⟩)) (.pointer (some ⟨b, o, none⟩))) : Sem Bool).run P w = .ok true w := run_equalIn_ptrS hT hI b o w 9999
  simp [execOp, ha.ev hx, ha.ev hy, eqGuard, binOp, h1]
theorem Yld.sliceData {d : Option Tmp} {x : Operand} {ats : Array TypeId} {ty : TypeId} {pos : String} {af : Array Edge} {g : Option (Nat × Bool)} {a : Addr} {k c : Nat} (hx : ev e x = some (.slice (some a) k c)) (hc : c ≠ 0) : Yld P n C e ⟨d, .call { callee := .builtin .unsafeSliceData, args := #[x], argTypes := ats }, ty, pos, af, g⟩ (.pointer (some a)) := by
  intro ac ha w _
  simp [execOp, resolve, invoke, builtin, ha.ev hx, Lib.run_unsafeSliceData_row w ats ty a k c hc]
theorem Mod.freeze {M : Nat → Prop} (w : World) (b o k : Nat) (hM : M b) : Mod M w (w.freeze ⟨b, o, none⟩ k) := by
  unfold World.freeze
  split
  · exact Mod.refl _ _
  · refine ⟨rfl, rfl, rfl, by simp, fun i hi hn => ?_⟩
    have hn' : ¬ b = i := fun e => hn (e ▸ hM)
    simp only [Array.getElem?_modify, if_neg hn']
theorem Does.unsafeString {d : Option Tmp} {x y : Operand} {pt it : TypeId} {ty : TypeId} {pos : String} {af : Array Edge} {g : Option (Nat × Bool)} {w : World} {el b c : Nat} {l : List UInt8} (hp : P.underlying pt = some (.pointer el)) (h1 : P.cellsOf el = 1) (hx : ev e x = some (.pointer (some ⟨b, 0, none⟩))) (hy : ev e y = some (.int .i64 (l.length : Int))) (hl : l ≠ []) (hr : Row w el 1 (.slice (some ⟨b, 0, none⟩) l.length c) l.length (bytesV l)) : Does P n e w ⟨d, .call { callee := .builtin .unsafeString, args := #[x, y], argTypes := #[pt, it] }, ty, pos, af, g⟩ (fun u w' => u = .string ⟨l.toArray⟩ ∧ Mod (· = b) w w') := by
  have hlen : 0 < l.length := List.length_pos_iff.2 hl
  obtain ⟨g', cap, he, hcap, hmx, hcell⟩ := hr.form hlen
  cases he
  have hsh : ∃ cells, w.shape? b = some (el, cells) ∧ l.length ≤ cells := by
    rcases hr.2 with ⟨h, _⟩ | ⟨g, cap', cur, he, hb, hg, hnc, hcm, hrest⟩
    · cases h
    · cases he
      refine ⟨cur.size, by simp [World.shape?, hg], ?_⟩
      have := hrest
      omega
  obtain ⟨cells, hsh, hle⟩ := hsh
  have h := Lib.run_unsafeString_row (P := P) w pt it ty el hp h1 b cells hsh l hl hle (by omega) (fun j u hj => by
    rw [add_none, Nat.zero_add]
    exact hcell j _ (by simp [bytesV, hj]))
  refine Does.of_run (w' := w.freeze ⟨b, 0, none⟩ l.length) (v := .string ⟨l.toArray⟩) (fun a ha => ?_) ⟨rfl, Mod.freeze _ _ _ _ rfl⟩
  simp [execOp, resolve, invoke, builtin, ha.ev hx, ha.ev hy, h]
end
theorem xNoEsc (v : Value) (w : World) : (callFunc 113 #[v]).run Tryz.prog w = .ok (.value v) w := by
  kernel_rfl
@[reducible] def blC (a v : Value) : List Value := [a, v]
theorem copy0_ok {w : World} {s : Nat} {v : Value} (hb : Blk w s 41 (blC (.pointer none) v)) : Fx Tryz.prog 73 [pp s] w (fun _ w' => Blk w' s 41 (blC (pp s) v) ∧ Mod (· = s) w w') := by
  refine enter Tryz.func73 rfl rfl rfl _ (Pick.sub (l := [0]) (.cons rfl .nil)) ?_
  refine RK.seq ?_
  refine RK.region ?_
  iterate 2 refine RL.p rfl rfl ?_
  refine RL.q (.free rfl) rfl rfl (Yld.fieldAddr fo41_0 rfl) ?_
  refine RL.q (.free rfl) rfl rfl (Yld.load p38 rfl (at1 (hb.cell rfl))) ?_
  refine RL.q (.free rfl) rfl rfl (Yld.eqPtr Tryz.underlying38 rfl rfl) ?_
  refine RL.done ?_
  refine RK.condT (hcT rfl (rfl)) ?_
  refine RK.region ?_
  iterate 2 refine RL.p rfl rfl ?_
  refine RL.q (.free rfl) rfl rfl (Yld.toUnsafe Tryz.underlying38 Tryz.underlying200 i41 rfl rfl (fun _ h => h ▸ hb) (by simp [blC])) ?_
  refine RL.q (.free rfl) rfl rfl (Yld.callx rfl (fun w => xNoEsc _ w)) ?_
  refine RL.q (.free rfl) rfl rfl (Yld.ofUnsafe Tryz.underlying200 Tryz.underlying38 i41 rfl (fun _ h => h ▸ hb) (by kernel_rfl)) ?_
  refine RL.p rfl rfl ?_
  refine RL.q (.free rfl) rfl rfl (Yld.fieldAddr fo41_0 rfl) ?_
  refine RL.op' (.free rfl) rfl (Does.store i38 rfl rfl rfl hb (.z)) ?_
  rintro _ w1 ⟨hb1, hm1, _⟩
  refine RL.done ?_
  refine RK.end_of Tryz.func73 (res0 rfl) ?_
  exact ⟨_, rfl, hb1, hm1⟩
theorem copy1_ok {w : World} {s : Nat} {v : Value} (hb : Blk w s 41 (blC (pp s) v)) : Fx Tryz.prog 73 [pp s] w (fun _ w' => Blk w' s 41 (blC (pp s) v) ∧ Mod (· = s) w w') := by
  refine enter Tryz.func73 rfl rfl rfl _ (Pick.sub (l := [0]) (.cons rfl .nil)) ?_
  refine RK.seq ?_
  refine RK.region ?_
  iterate 2 refine RL.p rfl rfl ?_
  refine RL.q (.free rfl) rfl rfl (Yld.fieldAddr fo41_0 rfl) ?_
  refine RL.q (.free rfl) rfl rfl (Yld.load p38 rfl (at1 (hb.cell rfl))) ?_
  refine RL.q (.free rfl) rfl rfl (Yld.eqPtr Tryz.underlying38 rfl rfl) ?_
  refine RL.done ?_
  refine RK.condF (hcF rfl (rfl)) ?_
  refine RK.seq ?_
  refine RK.region ?_
  iterate 2 refine RL.p rfl rfl ?_
  refine RL.q (.free rfl) rfl rfl (Yld.fieldAddr fo41_0 rfl) ?_
  refine RL.q (.free rfl) rfl rfl (Yld.load p38 rfl (at1 (hb.cell rfl))) ?_
  refine RL.p rfl rfl ?_
  refine RL.q (.free rfl) rfl rfl (Yld.neqPtrS Tryz.underlying38 i41 rfl rfl) ?_
  refine RL.done ?_
  refine RK.condF (hcF rfl (rfl)) ?_
  refine RK.skip ?_
  refine RK.end_of Tryz.func73 (res0 rfl) ?_
  exact ⟨_, rfl, hb, Mod.refl _ _⟩
end Go.Proofs.YtcndimkkojdflaaGreatDoor
set_option linter.unusedVariables false
set_option linter.unusedSimpArgs false
set_option maxHeartbeats 6400000
set_option maxRecDepth 100000
namespace Go.Proofs.YtcndimkkojdflaaGreatDoor
open Go Go.X
theorem copy_ok {w : World} {s : Nat} {a v : Value} (hb : Blk w s 41 (blC a v)) (ha : a = .pointer none ∨ a = pp s) : Fx Tryz.prog 73 [pp s] w (fun _ w' => Blk w' s 41 (blC (pp s) v) ∧ Mod (· = s) w w') := by
  rcases ha with rfl | rfl
  · exact copy0_ok hb
  · exact copy1_ok hb
theorem wByte_ok {w : World} {s k base : Nat} {a v : Value} {xs : List Value} (hb : Blk w s 41 (blC a v)) (ha : a = .pointer none ∨ a = pp s) (hr : Row w 5 1 v k xs) (hf : Fresh base v) (hbase : base ≤ w.heap.size) (hk : k ≤ 100000) (c : Int) : Fx Tryz.prog 86 [pp s, .int .u8 c] w (fun _ w' => ∃ v', Blk w' s 41 (blC (pp s) v') ∧ Row w' 5 1 v' (k + 1) (xs ++ [.int .u8 c]) ∧ Fresh base v' ∧ Mod (fun b => b = s ∨ v.ownBlock = some b) w w') := by
  have hslt := hb.lt
  have hvs : ¬ v.ownBlock = some s := fun e => (hr.ty e).ne hb.ty rfl rfl
  refine enter Tryz.func86 rfl rfl rfl _ (Pick.sub (l := [0, 1]) (.cons rfl (.cons rfl .nil))) ?_
  refine RK.seq ?_
  refine RK.region ?_
  refine RL.p rfl rfl ?_
  refine RL.done ?_
  refine RK.seq ?_
  refine RK.region ?_
  refine RL.p rfl rfl ?_
  refine RL.op (.free rfl) rfl rfl (Does.call rfl e73 (copy_ok hb ha)) ?_
  rintro _ w1 ⟨hb1, hm1⟩
  have hr1 := hr.mod hm1 (fun b e1 e2 => hvs (e2 ▸ e1))
  refine RL.done ?_
  refine RK.seq ?_
  refine RK.region ?_
  iterate 3 refine RL.p rfl rfl ?_
  refine RL.q (.free rfl) rfl rfl (Yld.fieldAddr fo41_1 rfl) ?_
  refine RL.q (.free rfl) rfl rfl (Yld.load p39 rfl (at1 (hb1.cell rfl))) ?_
  refine RL.p rfl rfl ?_
  refine RL.op (.free rfl) rfl rfl (Does.slice1 u39 i5 rfl rfl rfl rfl rfl) ?_
  rintro _ w3 ⟨b3, rfl, hn3⟩
  refine RL.op (.free rfl) rfl rfl (Does.append u39 i5 rfl rfl rfl rfl rfl (hr1.mod hn3.grow (fun _ _ h => h)) (Sl.new hn3 1 1 rfl (by decide) (fun h => h)) (rfl) (by omega)) ?_
  rintro u4 w4 ⟨hr4, hm4, hu4⟩
  have hz1 := hm1.size
  have hz3 := hn3.size
  have hb3 := hb1.mod hn3.grow (fun h => h)
  have hb4 := hb3.mod hm4 hvs
  obtain ⟨ad4, c4, rfl⟩ := hr4.slice
  refine RL.p rfl rfl ?_
  refine RL.q (.free rfl) rfl rfl (Yld.fieldAddr fo41_1 rfl) ?_
  refine RL.op' (.free rfl) rfl (Does.store i39 rfl rfl rfl hb4 (.s .z)) ?_
  rintro _ w5 ⟨hb5, hm5, _⟩
  have hf4 : Fresh base (.slice ad4 (k + 1) c4) := fun b e => by
      rcases hu4 with h | h <;> rw [h] at e
      · exact hf b e
      · cases e; omega
  have hus : ¬ (Value.slice ad4 (k + 1) c4).ownBlock = some s := fun e => (hr4.ty e).ne hb4.ty rfl rfl
  refine RL.done ?_
  refine RK.seq ?_
  refine RK.region ?_
  refine RL.p rfl rfl ?_
  refine RL.done ?_
  refine RK.ret_of Tryz.func86 (res1 rfl rfl) ?_ _
  exact ⟨_, rfl, _, hb5, hr4.mod hm5 (fun b e1 e2 => hus (e2 ▸ e1)), hf4, ((hm1.mono fun b _ e => .inl e).trans (Mod.any' hn3.grow)).trans ((hm4.mono fun b _ e => .inr e).trans (hm5.mono fun b _ e => .inl e))⟩
theorem blStr_ok {w : World} {s c rb : Nat} {a : Value} {l : List UInt8} (hb : Blk w s 41 (blC a (.slice (some ⟨rb, 0, none⟩) l.length c))) (hr : Row w 5 1 (.slice (some ⟨rb, 0, none⟩) l.length c) l.length (bytesV l)) (hl : l ≠ []) : Fx Tryz.prog 7 [pp s] w (fun u w' => u = .string ⟨l.toArray⟩ ∧ Mod (· = rb) w w') := by
  have hlen : 0 < l.length := List.length_pos_iff.2 hl
  have hsr : ¬ s = rb := fun e => (hr.ty rfl).ne hb.ty rfl e.symm
  have hc : c ≠ 0 := by
    obtain ⟨g', cap, he, hcap, _⟩ := hr.form hlen
    cases he
    omega
  refine enter Tryz.func7 rfl rfl rfl _ (Pick.sub (l := [0]) (.cons rfl .nil)) ?_
  refine RK.seq ?_
  refine RK.region ?_
  refine RL.p rfl rfl ?_
  refine RL.done ?_
  refine RK.seq ?_
  refine RK.drawM (· = rb) [(0, false), (1, false), (2, false), (3, false), (4, false), (5, false), (6, false), (7, false), (8, false), (9, false), (10, true), (11, false)] [] mixed (by kernel_rfl) ?_
  iterate 2 refine DL.p rfl rfl rfl ?_
  refine DL.qf rfl (.free rfl) rfl rfl (Yld.fieldAddr fo41_1 rfl) ?_
  refine DL.q rfl (.free rfl) rfl rfl rfl (Yld.load p39 rfl (atM (hb.cell rfl) (hsr))) (Mod.drew _ _) ?_
  refine DL.q rfl (.free rfl) rfl rfl rfl (Yld.sliceData rfl hc) (Mod.drew _ _) ?_
  iterate 2 refine DL.p rfl rfl rfl ?_
  refine DL.qf rfl (.free rfl) rfl rfl (Yld.fieldAddr fo41_1 rfl) ?_
  refine DL.q rfl (.free rfl) rfl rfl rfl (Yld.load p39 rfl (atM (hb.cell rfl) (hsr))) (Mod.drew _ _) ?_
  refine DL.q rfl (.free rfl) rfl rfl rfl (Yld.lenSl u39 rfl) (Mod.drew _ _) ?_
  refine DL.op rfl (.free rfl) rfl rfl (Does.unsafeString Tryz.underlying49 (by kernel_rfl) rfl rfl hl hr) ?_
  rintro _ w1 ⟨rfl, hm1⟩
  refine ⟨(Mod.drew _ _).trans hm1, ?_⟩
  refine DL.p rfl rfl rfl ?_
  refine DL.done ?_
  refine RK.ret_of Tryz.func7 (res1 rfl rfl) ?_ _
  exact ⟨_, rfl, rfl, (Mod.drew _ _).trans hm1⟩
def hexS : ByteArray := ⟨#[48, 49, 50, 51, 52, 53, 54, 55, 56, 57, 97, 98, 99, 100, 101, 102]⟩
def hexL (l : List UInt8) : List UInt8 := l.flatMap fun c => [bt hexS (c.toNat >>> 4), bt hexS (c.toNat % 16)]
theorem hexL_len (l : List UInt8) : (hexL l).length = 2 * l.length := by
  induction l with
  | nil => rfl
  | cons a l ih => simp only [hexL, List.flatMap_cons, List.length_append, List.length_cons, List.length_nil] at ih ⊢; omega
theorem hexL_take (l : List UInt8) (k : Nat) (x : UInt8) (h : l[k]? = some x) : hexL (l.take (k + 1)) = hexL (l.take k) ++ [bt hexS (x.toNat >>> 4), bt hexS (x.toNat % 16)] := by
  have hk : k < l.length := (List.getElem?_eq_some_iff.1 h).1
  rw [List.take_succ_eq_append_getElem hk]
  simp [hexL, (List.getElem?_eq_some_iff.1 h).2]
theorem and15 (m : Nat) (h : m < 256) : IntKind.u8.wrap (BitVec.ofInt IntKind.u8.bits (m : Int) &&& BitVec.ofInt IntKind.u8.bits 15).toNat = ((m % 16 : Nat) : Int) := by
  have key : ∀ m, m < 256 → IntKind.u8.wrap (BitVec.ofInt IntKind.u8.bits ((m : Nat) : Int) &&& BitVec.ofInt IntKind.u8.bits 15).toNat = ((m % 16 : Nat) : Int) := by decide +kernel
  exact key m h
theorem hex_ok {w : World} {v : Value} {l : List UInt8} (hs : Sl No w v 1 l.length (bytesV l)) (hl : l ≠ []) (hb : l.length ≤ 1000) : Fx Tryz.prog 46 [v] w (fun u w' => u = .string ⟨(hexL l).toArray⟩ ∧ Grow w w') := by
  have hlen : 0 < l.length := List.length_pos_iff.2 hl
  obtain ⟨ad, c, rfl, hf⟩ := hs.form
  obtain ⟨b, o, rfl, _, hc⟩ := hf hlen
  refine enter Tryz.func46 rfl rfl rfl _ (Pick.sub (l := [0]) (.cons rfl .nil)) ?_
  refine RK.seq ?_
  refine RK.region ?_
  refine RL.p rfl rfl ?_
  refine RL.done ?_
  iterate 2 refine RK.seq ?_
  refine RK.region ?_
  refine RL.p rfl rfl ?_
  refine RL.q (.free rfl) rfl rfl (Yld.lenSl u39 rfl) ?_
  refine RL.p rfl rfl ?_
  refine RL.done ?_
  refine RK.condF (hcF rfl (decide_eq_false (by omega))) ?_
  refine RK.skip ?_
  refine RK.seq ?_
  refine RK.region ?_
  refine RL.op (.free rfl) rfl rfl (Does.alloc i41) ?_
  rintro _ w0 ⟨s, rfl, hn0⟩
  have hs0 := hn0.at_
  have hz0 := hn0.size
  refine RL.done ?_
  iterate 2 refine RK.seq ?_
  refine RK.region ?_
  refine RL.p rfl rfl ?_
  refine RL.q (.free rfl) rfl rfl (Yld.lenSl u39 rfl) ?_
  refine RL.p rfl rfl ?_
  refine RL.done ?_
  refine RK.block ?_
  refine RK.loop (fun k : Nat => [(2, .string ⟨#[]⟩), (3, pp s), (9, .slice (some ⟨b, o, none⟩) l.length c), (10, .int .i64 (l.length : Int)), (11, .int .i64 (k : Int))]) (fun k w' => k ≤ l.length ∧ (∃ a x, Blk w' s 41 (blC a x) ∧ (a = .pointer none ∨ a = pp s) ∧ Row w' 5 1 x (2 * k) (bytesV (hexL (l.take k))) ∧ Fresh w0.heap.size x) ∧ Grow w w' ∧ w0.heap.size ≤ w'.heap.size) (fun k => l.length - k) 0 ⟨rfl, rfl, rfl, rfl, rfl, trivial⟩ ⟨Nat.zero_le _, ⟨_, _, hn0.blk, .inl rfl, Row.nil _ _ _, fun b e => by simp [Value.ownBlock] at e⟩, hn0.grow, Nat.le_refl _⟩ (fun k w' hI ih => ?_)
  obtain ⟨hk, ⟨a, x, hB, ha, hr, hx⟩, hg, hz⟩ := hI
  have hlt := hB.lt
  refine RK.seq ?_
  refine RK.region ?_
  refine RL.p rfl rfl ?_
  refine RL.done ?_
  refine RK.seq ?_
  first | refine RK.condD rfl (fun h12 => ?_) (fun h12 => ?_) | refine RK.condN rfl (fun h12 => ?_) (fun h12 => ?_) | refine RK.cond rfl (fun h12 => ?_) (fun h12 => ?_)
  · have hkl : k < l.length := by omega
    obtain ⟨y, hy⟩ : ∃ y, l[k]? = some y := ⟨l[k], List.getElem?_eq_getElem hkl⟩
    have hy256 : y.toNat < 256 := y.toNat_lt
    have hyb : (bytesV l)[k]? = some (.int .u8 (y.toNat : Int)) := by simp [bytesV, hy]
    refine RK.skip ?_
    refine RK.seq ?_
    refine RK.block ?_
    refine RK.seq ?_
    refine RK.region ?_
    refine RL.q (.free rfl) rfl rfl (Yld.indexAddrN u39 i5 rfl rfl (hkl)) ?_
    refine RL.q (.free rfl) rfl rfl (Yld.load p5 rfl (at1 ((by rw [Nat.mul_one]; exact hg.cell (hc k _ hyb) (fun h => h))))) ?_
    refine RL.p rfl rfl ?_
    refine RL.done ?_
    refine RK.seq ?_
    refine RK.region ?_
    refine RL.p rfl rfl ?_
    refine RL.q (.free rfl) rfl rfl (Yld.shr (a := y.toNat) (s := 4) rfl rfl (by decide)) ?_
    refine RL.q (.free rfl) rfl rfl (Yld.idxStrN u9 rfl rfl ((by have : hexS.size = 16 := rfl; have : y.toNat >>> 4 = y.toNat / 16 := Nat.shiftRight_eq_div_pow _ _; omega : y.toNat >>> 4 < hexS.size))) ?_
    refine RL.op (.free rfl) rfl rfl (Does.call rfl e86 (wByte_ok hB ha hr hx hz (by omega) _)) ?_
    rintro _ w1 ⟨x1, hB1, hr1, hx1, hm1⟩
    have hz1 := hm1.size
    refine RL.done ?_
    refine RK.region ?_
    iterate 2 refine RL.p rfl rfl ?_
    refine RL.re (d := 20) rfl rfl (congrArg (Value.int .u8) (and15 _ hy256)) ?_
    refine RL.q (.free rfl) rfl rfl (Yld.idxStrN u9 rfl rfl ((by have : hexS.size = 16 := rfl; omega : y.toNat % 16 < hexS.size))) ?_
    refine RL.op (.free rfl) rfl rfl (Does.call rfl e86 (wByte_ok hB1 (.inr rfl) hr1 hx1 (by omega) (by omega) _)) ?_
    rintro _ w2 ⟨x2, hB2, hr2, hx2, hm2⟩
    have hz2 := hm2.size
    have hg2 : Grow w w2 := (hg.then hm1 (fun q hq e => by
        have := hz; have := hz0
        rcases e with e | e
        · omega
        · have := hx q e; omega)).then hm2 (fun q hq e => by
        rcases e with e | e
        · omega
        · have := hx1 q e; omega)
    have hr2' : Row w2 5 1 x2 (2 * (k + 1)) (bytesV (hexL (l.take (k + 1)))) := by
        rw [hexL_take l k y hy, bytesV_app]
        have e : bytesV [bt hexS (y.toNat >>> 4), bt hexS (y.toNat % 16)] = [.int .u8 ((bt hexS (y.toNat >>> 4)).toNat : Int)] ++ [.int .u8 ((bt hexS (y.toNat % 16)).toNat : Int)] := rfl
        rw [e, ← List.append_assoc]
        exact hr2
    refine RL.done ?_
    refine RK.inBlock ?_
    refine RK.region ?_
    refine RL.p rfl rfl ?_
    refine RL.re (d := 23) rfl rfl (add_i64 (z := ((k + 1 : Nat) : Int)) (by simp) (by omega) (by omega)) ?_
    refine RL.p rfl rfl ?_
    refine RL.done ?_
    exact RK.back (ih (k + 1) _ ⟨by omega, ⟨_, _, hB2, .inr rfl, hr2', hx2⟩, hg2, by omega⟩ (by omega)) ⟨rfl, rfl, rfl, rfl, rfl, trivial⟩
  · obtain rfl : k = l.length := by omega
    rw [List.take_length] at hr
    obtain ⟨rb, cap, rfl, _, _, _⟩ := hr.form (by omega)
    have hr' : Row w' 5 1 (.slice (some ⟨rb, 0, none⟩) (hexL l).length cap) (hexL l).length (bytesV (hexL l)) := by rw [hexL_len]; exact hr
    have hB' : Blk w' s 41 (blC a (.slice (some ⟨rb, 0, none⟩) (hexL l).length cap)) := by rw [hexL_len]; exact hB
    refine RK.exit rfl ?_
    refine RK.seq ?_
    refine RK.region ?_
    refine RL.op (.free rfl) rfl rfl (Does.call rfl e7 (blStr_ok hB' hr' (fun e => by have := hexL_len l; rw [e] at this; simp at this; omega))) ?_
    rintro _ w3 ⟨rfl, hm3⟩
    refine RL.p rfl rfl ?_
    refine RL.done ?_
    refine RK.ret_of Tryz.func46 (res1 rfl rfl) ?_ _
    exact ⟨_, rfl, rfl, hg.then hm3 (fun q hq e => by have := hx rb rfl; omega)⟩
end Go.Proofs.YtcndimkkojdflaaGreatDoor
