/- What the claim stands on, part 1. Of own lemmas only those that it reaches. -/
import Derived.Test.YthbjfhhiajihfaaGreatKe0
set_option linter.unusedVariables false
namespace Go.X
open Go Go.RowKit Go.WideShapes Go.ChangeShapes
section
variable {H : Type} {enc : TypeId × Value → H} {P : Program} {W : World} {base : Nat} {sp : Nat → Bool} {held : Bool}
theorem trod_str {s m : Nat} {cs : List Value} {y : DataW H × List MemPlace} (hs : P.underlying s = some .string) (h : DataW.trod enc P W base sp held m s cs = some y) : ∃ a : ByteArray, cs = [.string a] ∧ a.size ≤ 9223372036854775807 := by
  cases m with
  | zero => simp [DataW.trod] at h
  | succ n =>
    unfold DataW.trod at h
    rw [hs] at h
    split at h <;> simp_all
    simp only [maxLen] at h
    omega
theorem trod_f64 {s m : Nat} {cs : List Value} {y : DataW H × List MemPlace} (hs : P.underlying s = some (.float .f64)) (h : DataW.trod enc P W base sp held m s cs = some y) : ∃ b : Nat, cs = [.float .f64 b] ∧ b < 18446744073709551616 := by
  cases m with
  | zero => simp [DataW.trod] at h
  | succ n =>
    unfold DataW.trod at h
    rw [hs] at h
    split at h <;> simp_all
    obtain ⟨⟨rfl, hw⟩, _⟩ := h
    subst_vars
    simpa [Lit.wf] using hw
theorem trod_i64 {s m : Nat} {cs : List Value} {y : DataW H × List MemPlace} (hs : P.underlying s = some (.int .i64)) (h : DataW.trod enc P W base sp held m s cs = some y) : ∃ b : Int, cs = [.int .i64 b] ∧ -9223372036854775808 ≤ b ∧ b ≤ 9223372036854775807 := by
  cases m with
  | zero => simp [DataW.trod] at h
  | succ n =>
    unfold DataW.trod at h
    rw [hs] at h
    split at h <;> simp_all
    obtain ⟨⟨rfl, hw⟩, _⟩ := h
    subst_vars
    simpa [Lit.wf, IntKind.min, IntKind.max, IntKind.signed, IntKind.bits] using hw
end
end Go.X
namespace Go.X
open Ieee
end Go.X
set_option linter.unusedVariables false
set_option linter.unusedSimpArgs false
namespace Go.X
open Go Go.RowKit
section
variable {P : Program} {n : Nat} {e : Env} {w : World} {C : World → Prop}
def fromAt (ad : Option Addr) (cap m sz : Nat) : Option Addr := ad.map fun a => if cap = m then a else a.add (m * sz)
theorem Yld.sliceFrom {d : Option Tmp} {t el : Nat} {x h : Operand} {ty : TypeId} {pos : String} {af : Array Edge} {g : Option (Nat × Bool)} (hT : SlT P t el) {z : Value} {sz by' : Nat} (hE : TI P el z sz by') {ad : Option Addr} {len cap m : Nat} {k : IntKind} (hx : ev e x = some (.slice ad len cap)) (hh : ev e h = some (.int k (m : Int))) (hm : m ≤ len) :
    Yld P n C e ⟨d, .slice t x (some h) none none, ty, pos, af, g⟩ (.slice (fromAt ad cap m sz) (len - m) (cap - m)) := by
  intro a ha w _
  have h1 : (m : Int) ≤ len := by omega
  cases ad with
  | none => simp [execOp, ha.ev hx, ha.ev hh, Instr.sliceAt, Instr.slice, run_underlying hT, Instr.sliceBounds, Instr.sliceBound, asIntOf, hE.sizeOf w, h1, hm, fromAt]
  | some ad => by_cases hcm : cap = m <;> simp [execOp, ha.ev hx, ha.ev hh, Instr.sliceAt, Instr.slice, run_underlying hT, Instr.sliceBounds, Instr.sliceBound, asIntOf, hE.sizeOf w, h1, hm, hcm, fromAt]
end
theorem Row.cap {w : World} {t : TypeId} {sz : Nat} {v : Value} {k : Nat} {xs : List Value} (h : Row w t sz v k xs) : ∃ ad c, v = .slice ad k c ∧ k ≤ c := by
  rcases h.2 with ⟨rfl, rfl⟩ | ⟨g, cap, cur, rfl, _, _, hnc, _⟩
  · exact ⟨_, _, rfl, Nat.le_refl _⟩
  · exact ⟨_, _, rfl, hnc⟩
end Go.X
set_option linter.unusedVariables false
namespace Go.X
open Go Go.RowKit
def okPre (ops : Array Oper) (fin : Array Bool → Bool) : Array Bool → List (Nat × Bool) → Bool
  | L, [] => fin L
  | L, (i, loud) :: r => (if loud then Region.ready .any ops L == [i] else (Region.ready .any ops L).contains i && Region.free .any ops L i) && okPre ops fin (L.setIfInBounds i true) r
theorem wpOp_exits {P : Program} {ops : Array Oper} {Q E : Exit → Act → World → Prop} (h1 : ∀ c a w, ¬ E (.panic c) a w) (h2 : ¬ LetsOut E) {i : Nat} {K : Act → World → Prop} {a : Act} {w : World} (h : wpOp P ops E i K a w) : wpOp P ops Q i K a w := by
  unfold wpOp at *
  split
  · rename_i ho; simpa [ho] using h
  · rename_i o ho
    simp only [ho] at h
    split
    · rename_i hw
      rw [if_pos hw] at h
      refine .inl ?_
      rcases h with h | ⟨_, h⟩
      · unfold Oper.wp at *
        generalize (execOp a.eval o).run P w = r at *
        unfold Oper.upon at *
        split at h <;> first
          | exact h
          | exact absurd h (h1 _ _ _)
          | exact h.elim
          | (refine Calls.mono h fun e w' he => ?_
             cases e with
             | returned v => exact he
             | panicked c => exact absurd he (h1 _ _ _)
             | outgrown => exact absurd he h2)
      · exact absurd h h2
    · rename_i hw
      rw [if_neg hw] at h
      exact h
theorem wpT_of_pre {P : Program} {ops : Array Oper} {S : World → Prop} {tl : List Nat} {Q E : Exit → Act → World → Prop} (hs : Region.noSelect ops = true) (hQ : ∀ c a w, ¬ Q (.panic c) a w) (hE : ∀ c a w, ¬ E (.panic c) a w) (hE2 : ¬ LetsOut E) {fin : Array Bool → Bool} {f0 : Nat} (hfin : ∀ L a w, fin L = true → E .normal a w → wpT P ops Q S tl.contains f0 L a w) :
    ∀ (l : List (Nat × Bool)) (L : Array Bool) (a : Act) (w : World), okPre ops fin L l = true → wpOrd P ops S tl E l a w → wpT P ops Q S tl.contains (l.length + f0) L a w
  | [], L, a, w, h, hw => by rw [List.length_nil, Nat.zero_add]; exact hfin L a w h hw
  | (i, false) :: r, L, a, w, h, hw => by
    simp only [okPre, Bool.and_eq_true, Bool.false_eq_true, if_false] at h
    obtain ⟨o, v, ho, hy, hr⟩ := hw
    have hrec := wpT_of_pre hs hQ hE hE2 hfin r _ _ _ h.2 hr
    have hfree := Region.free_spec ho h.1.2
    have e : ((i, false) :: r).length + f0 = (r.length + f0) + 1 := by simp; omega
    rw [e]
    rcases hy with hy | ⟨ht, hy, hSw⟩
    · exact wpT_take hs hQ ho (C := fun _ => True) (fun _ _ => trivial) (.inl fun _ => trivial) _ _ _ _ hfree (by simpa using h.1.1) hy trivial (.inl fun _ => trivial) hrec
    · refine wpT_take hs hQ ho (C := S) (fun _ h => h) (.inr fun j oj hj htj => ?_) _ _ _ _ hfree (by simpa using h.1.1) hy hSw (.inr hSw) hrec
      have h1 := List.all_eq_true.1 ht j (by simpa using htj)
      have h2 : nth ops.toList j = some oj := by rw [nth_eq]; simpa using hj
      simp only [h2] at h1
      exact h1
  | (i, true) :: r, L, a, w, h, hw => by
    simp only [okPre, Bool.and_eq_true, if_true, beq_iff_eq] at h
    have e : ((i, true) :: r).length + f0 = (r.length + f0) + 1 := by simp; omega
    rw [e]
    refine ⟨fun h0 => (by rw [h.1] at h0; cases h0), fun j hj => ?_⟩
    rw [h.1] at hj
    simp only [List.mem_singleton] at hj
    subst hj
    exact wpOp_exits hE hE2 (wpOp_mono (fun a' w' h' => ⟨h'.1, wpT_of_pre hs hQ hE hE2 hfin r _ _ _ h.2 h'.2⟩) hw)
def Fork (P : Program) (ops : Array Oper) (S : World → Prop) (tl : List Nat) (Q : Exit → Act → World → Prop) (p q : List (Nat × Bool)) : Exit → Act → World → Prop := fun x a w => x = .normal ∧ wpOrd P ops S tl Q p a w ∧ wpOrd P ops S tl Q q a w
section
variable {P : Program} {f : FuncId} {n : Nat} {R : Ending → World → Prop} {k : List Item} {e : Env} {w : World}
theorem RK.drawF {id : Nat} {l : List Oper} (M : Nat → Prop) (ord : List (Nat × Bool)) (a b : Nat) (p q : List (Nat × Bool)) (tl : List Nat) (hm : P.follows .mixedOrders = true)
    (hb : (Region.noSelect l.toArray && okPre l.toArray (fun L => Region.ready .any l.toArray L == [a, b] && okOrd l.toArray tl (L.setIfInBounds a true) p && okOrd l.toArray tl (L.setIfInBounds b true) q) (Array.replicate l.length false) ord && Nat.beq l.length (ord.length + (p.length + 1)) && Nat.beq p.length q.length) = true)
    (h : DL P n l (Mod M w) tl ord e w.drew (Fork P l.toArray (Mod M w) tl (post P f R k) ((a, true) :: p) ((b, true) :: q))) : RK P f n R (.code (.region id l.toArray true) :: k) e w := by
  intro ac ha
  simp only [Bool.and_eq_true] at hb
  obtain ⟨⟨⟨hs, hpre⟩, hl⟩, hpq⟩ := hb
  have hl : l.length = ord.length + (p.length + 1) := Nat.eq_of_beq_eq_true hl
  have hpq : p.length = q.length := Nat.eq_of_beq_eq_true hpq
  refine Runs.of_wp (wp_region_any hm (wpT_any (S := Mod M w) (T := tl.contains) _ _ _ _ ?_))
  have := wpT_of_pre (P := P) (S := Mod M w) (tl := tl) (Q := post P f R k) (E := Fork P l.toArray (Mod M w) tl (post P f R k) ((a, true) :: p) ((b, true) :: q)) hs (fun c a w h => h) (fun c a w h => by cases h.1) (fun ⟨a, w, h⟩ => by cases h.1) (f0 := p.length + 1) (fun L a' w' hfin hE => ?_) ord _ ac _ hpre (h ac ha)
  · simpa [hl] using this
  · simp only [Bool.and_eq_true, beq_iff_eq] at hfin
    obtain ⟨⟨hr, hp⟩, hq⟩ := hfin
    obtain ⟨_, h1, h2⟩ := hE
    refine ⟨fun h0 => (by rw [hr] at h0; cases h0), fun j hj => ?_⟩
    rw [hr] at hj
    simp only [List.mem_cons, List.not_mem_nil, or_false] at hj
    rcases hj with rfl | rfl
    · exact wpOp_mono (fun a2 w2 h3 => ⟨h3.1, wpT_of_ord hs (fun c a w h => h) p _ _ _ hp h3.2⟩) h1
    · rw [hpq]
      exact wpOp_mono (fun a2 w2 h3 => ⟨h3.1, wpT_of_ord hs (fun c a w h => h) q _ _ _ hq h3.2⟩) h2
theorem DL.fork {ops : List Oper} {S : World → Prop} {tl : List Nat} {Q : Exit → Act → World → Prop} {p q : List (Nat × Bool)} (h1 : DL P n ops S tl p e w Q) (h2 : DL P n ops S tl q e w Q) : DL P n ops S tl [] e w (Fork P ops.toArray S tl Q p q) := fun a ha => ⟨rfl, h1 a ha, h2 a ha⟩
end
end Go.X
set_option linter.unusedVariables false
set_option linter.unusedSimpArgs false
namespace Go.X
open Go Go.RowKit
section
variable {κ α : Type} [DecidableEq κ]
theorem cutM_nil (k : κ) : cutM ([] : List (κ × α)) k = [] := rfl
theorem cutM_cons (k j : κ) (v : α) (l : List (κ × α)) : cutM ((j, v) :: l) k = if k = j then l else (j, v) :: cutM l k := by
  unfold cutM
  simp only [placeM]
  by_cases h : k = j
  · simp [h]
  · simp only [if_neg h]
    cases placeM k l with
    | none => rfl
    | some p => rfl
theorem lookM_cons (k j : κ) (v : α) (l : List (κ × α)) : lookM ((j, v) :: l) k = if k = j then some v else lookM l k := by
  unfold lookM
  simp only [placeM]
  by_cases h : k = j
  · simp [h]
  · simp only [if_neg h, Option.map_map]
    cases placeM k l <;> rfl
theorem putM_cons (k j : κ) (u v : α) (l : List (κ × α)) : putM ((j, v) :: l) k u = if k = j then (j, u) :: l else (j, v) :: putM l k u := by
  unfold putM
  simp only [placeM]
  by_cases h : k = j
  · simp [h]
  · simp only [if_neg h]
    cases placeM k l with
    | none => rfl
    | some p => simp
theorem lookM_putM (k k' : κ) (v : α) : ∀ l : List (κ × α), lookM (putM l k v) k' = if k' = k then some v else lookM l k'
  | [] => by
    have : putM ([] : List (κ × α)) k v = [(k, v)] := rfl
    rw [this, lookM_cons]
  | (j, u) :: l => by
    rw [putM_cons]
    by_cases h : k = j
    · subst h
      rw [if_pos rfl, lookM_cons, lookM_cons]
      by_cases h' : k' = k <;> simp [h']
    · rw [if_neg h, lookM_cons, lookM_cons, lookM_putM k k' v l]
      by_cases h' : k' = j
      · rw [if_pos h', if_pos h', if_neg (fun e => h (e.symm.trans h'))]
      · rw [if_neg h', if_neg h']
theorem lookM_none {k : κ} {l : List (κ × α)} : lookM l k = none ↔ k ∉ l.map (·.1) := by
  unfold lookM
  rw [Option.map_eq_none_iff, placeM_none]
theorem mem_cutM {k : κ} {t : κ × α} : ∀ {l : List (κ × α)}, (l.map (·.1)).Nodup → (t ∈ cutM l k ↔ t ∈ l ∧ t.1 ≠ k)
  | [], _ => by simp [cutM_nil]
  | (j, v) :: l, h => by
    rw [List.map_cons, List.nodup_cons] at h
    rw [cutM_cons]
    by_cases hk : k = j
    · subst hk
      rw [if_pos rfl, List.mem_cons]
      constructor
      · intro ht
        exact ⟨.inr ht, fun e => h.1 (List.mem_map.2 ⟨t, ht, e⟩)⟩
      · rintro ⟨rfl | ht, hn⟩
        · exact absurd rfl hn
        · exact ht
    · rw [if_neg hk, List.mem_cons, mem_cutM h.2, List.mem_cons]
      constructor
      · rintro (rfl | ⟨ht, hn⟩)
        · exact ⟨.inl rfl, fun e => hk e.symm⟩
        · exact ⟨.inr ht, hn⟩
      · rintro ⟨rfl | ht, hn⟩
        · exact .inl rfl
        · exact .inr ⟨ht, hn⟩
theorem cutM_sub (k : κ) : ∀ l : List (κ × α), (cutM l k).Sublist l
  | [] => List.Sublist.refl _
  | (j, v) :: l => by
    rw [cutM_cons]
    by_cases hk : k = j
    · rw [if_pos hk]; exact List.sublist_cons_self _ _
    · rw [if_neg hk]; exact (cutM_sub k l).cons_cons _
theorem cutM_nodup {k : κ} {l : List (κ × α)} (h : (l.map (·.1)).Nodup) : ((cutM l k).map (·.1)).Nodup := h.sublist ((cutM_sub k l).map _)
theorem putM_nodup {k : κ} {v : α} {l : List (κ × α)} (h : (l.map (·.1)).Nodup) : ((putM l k v).map (·.1)).Nodup := by
  rw [putM_keys]
  split
  · exact h
  · rename_i hk
    rw [List.nodup_append]
    exact ⟨h, by simp, fun a ha b hb e => hk (by simp at hb; subst hb; exact e ▸ ha)⟩
theorem lookM_iff {k : κ} {v : α} : ∀ {l : List (κ × α)}, (l.map (·.1)).Nodup → (lookM l k = some v ↔ (k, v) ∈ l)
  | [], _ => by simp [lookM, placeM]
  | (j, u) :: l, h => by
    rw [List.map_cons, List.nodup_cons] at h
    rw [lookM_cons, List.mem_cons]
    by_cases hk : k = j
    · subst hk
      rw [if_pos rfl]
      constructor
      · intro e; cases e; exact .inl rfl
      · rintro (e | e)
        · cases e; rfl
        · exact absurd (List.mem_map_of_mem (f := (·.1)) e) h.1
    · rw [if_neg hk, lookM_iff h.2]
      constructor
      · exact .inr
      · rintro (e | e)
        · cases e; exact absurd rfl hk
        · exact e
theorem lookM_cutM {k k' : κ} {l : List (κ × α)} (h : (l.map (·.1)).Nodup) : lookM (cutM l k) k' = if k' = k then none else lookM l k' := by
  by_cases hk : k' = k
  · rw [if_pos hk, lookM_none]
    intro hm
    obtain ⟨t, ht, e⟩ := List.mem_map.1 hm
    exact ((mem_cutM h).1 ht).2 (by simpa [hk] using e)
  · rw [if_neg hk]
    apply Option.ext
    intro v
    rw [lookM_iff (cutM_nodup h), lookM_iff h, mem_cutM h]
    exact ⟨fun h => h.1, fun h => ⟨h, hk⟩⟩
end
theorem map_eraseIdx' {α β : Type} (f : α → β) : ∀ (l : List α) (i : Nat), (l.eraseIdx i).map f = (l.map f).eraseIdx i
  | [], i => by simp
  | x :: l, 0 => by simp
  | x :: l, i + 1 => by simp [map_eraseIdx' f l i]
section
variable {P : Program} {n : Nat} {e : Env} {w : World} {κ : Type} [DecidableEq κ] {enc : κ → Value}
theorem Does.delete {d : Option Tmp} {t tk kt el : Nat} {x i : Operand} {ty : TypeId} {pos : String} {af : Array Edge} {g : Option (Nat × Bool)} (hT : P.underlying t = some (.map kt el)) (hK : KeyLaw P kt enc) {m : Nat} {k : κ} {l : List (κ × Value)}
    (hx : ev e x = some (.map (some m))) (hi : ev e i = some (enc k)) (hm : MapAt enc w m l) :
    Does P n e w ⟨d, .call { callee := .builtin .delete, args := #[x, i], argTypes := #[t, tk] }, ty, pos, af, g⟩ (fun _ w' => MapAt enc w' m (cutM l k) ∧ Mod (· = m) w w' ∧ w'.heap.size = w.heap.size) := by
  obtain ⟨es, c, h1, h2, h3, h4⟩ := hm.out
  have hlt : m < w.heap.size := (Array.getElem?_eq_some_iff.1 h1).1
  have hf := hK.find k es.toList l w h2
  have hg : (getObj m).run P w = .ok (.map es c) w := by simp [getObj, Sem.run, h1]
  have hset : ∀ o, (setObj m o).run P w = .ok () { w with heap := w.heap.setIfInBounds m o } := fun o => by simp [setObj, Sem.run, h1]
  have hmod : ∀ o, Mod (· = m) w { w with heap := w.heap.setIfInBounds m o } := fun o => ⟨rfl, rfl, rfl, by simp, fun k hk hn => by simp [Array.getElem?_setIfInBounds_ne (Ne.symm hn)]⟩
  have hat : ∀ o, ({ w with heap := w.heap.setIfInBounds m o } : World).heap[m]? = some o := fun o => by simp [hlt]
  cases hp : placeM k l with
  | some q =>
    obtain ⟨i0, v0⟩ := q
    refine Does.of_run (v := .tuple #[]) (w' := { w with heap := w.heap.setIfInBounds m (.map (es.eraseIdxIfInBounds i0) c) }) (fun a ha => ?_) ⟨⟨_, c, hat _, ?_, ?_, ?_⟩, hmod _, by simp⟩
    · simp [execOp, resolve, invoke, builtin, ha.ev hx, ha.ev hi, Builtin.delete_, run_underlying hT, hg, hK.check, hf, hp, hset]
    · simp only [cutM, hp, Array.toList_eraseIdxIfInBounds]
      rw [map_eraseIdx', h2, map_eraseIdx']
    · simp only [Array.toList_eraseIdxIfInBounds]
      exact h3.sublist ((List.eraseIdx_sublist _ _).map _)
    · intro x hx'
      simp only [Array.toList_eraseIdxIfInBounds] at hx'
      exact h4 x (List.mem_of_mem_eraseIdx hx')
  | none =>
    refine Does.of_run (v := .tuple #[]) (w' := { w with heap := w.heap.setIfInBounds m (.map es c) }) (fun a ha => ?_) ⟨⟨_, c, hat _, ?_, h3, h4⟩, hmod _, by simp⟩
    · simp [execOp, resolve, invoke, builtin, ha.ev hx, ha.ev hi, Builtin.delete_, run_underlying hT, hg, hK.check, hf, hp, hset]
    · simp only [cutM, hp]; exact h2
end
end Go.X
set_option linter.unusedVariables false
set_option linter.unusedSimpArgs false
namespace Go.X
open Go Go.RowKit
theorem Row.whole {w : World} {t : TypeId} {sz : Nat} {v : Value} {k : Nat} {xs : List Value} (h : Row w t sz v k xs) (hk : 0 < k) : ∃ g cap cs, v = .slice (some ⟨g, 0, none⟩) k cap ∧ Blk w g t cs ∧ cs.length = cap * sz ∧ k ≤ cap ∧ cap ≤ maxLen ∧ cs.take (k * sz) = xs := by
  rcases h.2 with ⟨rfl, rfl⟩ | ⟨g, cap, cur, rfl, _, hg, h1, h2, h3, h4⟩
  · omega
  · exact ⟨g, cap, cur.toList, rfl, by unfold Blk; simpa using hg, by simpa using h3, h1, h2, h4⟩
theorem Row.shut {w : World} {t g sz cap k : Nat} {cs : List Value} (h : Blk w g t cs) (hl : cs.length = cap * sz) (hk : k ≤ cap) (hc : cap ≤ maxLen) : Row w t sz (.slice (some ⟨g, 0, none⟩) k cap) k (cs.take (k * sz)) :=
  ⟨by rw [List.length_take, hl]; exact Nat.min_eq_left (Nat.mul_le_mul_right _ hk), .inr ⟨g, cap, cs.toArray, rfl, Nat.zero_le _, h, hk, hc, by simpa using hl, by simp⟩⟩
section
variable {P : Program} {n : Nat} {e : Env} {w : World} {C : World → Prop}
theorem Blk.setRow {g t : Nat} {cs cs' : List Value} (h : Blk w g t cs) : Blk (w.setRow g cs'.toArray) g t cs' ∧ Mod (· = g) w (w.setRow g cs'.toArray) ∧ (w.setRow g cs'.toArray).heap.size = w.heap.size := by
  have hlt := h.lt
  unfold Blk at h
  have e : w.setRow g cs'.toArray = { w with heap := w.heap.setIfInBounds g (.cells cs'.toArray t (0, 0)) } := by
    have h' : w.heap[g] = Obj.cells cs.toArray t := (Array.getElem?_eq_some_iff.1 h).2
    simp [World.setRow, Array.modify, Array.modifyM, hlt, h', Array.setIfInBounds]
  rw [e]
  exact ⟨by simp [Blk, hlt], ⟨rfl, rfl, rfl, by simp, fun k hk hn => by simp [Array.getElem?_setIfInBounds_ne (Ne.symm hn)]⟩, by simp⟩
theorem Does.clear {d : Option Tmp} {t el : Nat} {x : Operand} {ty : TypeId} {pos : String} {af : Array Edge} {g' : Option (Nat × Bool)} (ht : SlT P t el) {z : Value} {sz by' : Nat} (hT : TI P el z sz by') (hzs : z.cells.size = sz) (hz1 : z.cells.all (·.oneCell') = true)
    {g lo m cap c : Nat} {cs : List Value} (hx : ev e x = some (.slice (fromAt (some ⟨g, 0, none⟩) cap lo sz) m c)) (hb : Blk w g el cs) (hl : cs.length = cap * sz) (hroom : lo + m ≤ cap) :
    Does P n e w ⟨d, .call { callee := .builtin .clear, args := #[x], argTypes := #[t] }, ty, pos, af, g'⟩
      (fun _ w' => (∃ cs', Blk w' g el cs' ∧ cs'.length = cs.length ∧ cs'.take (lo * sz) = cs.take (lo * sz)) ∧ Mod (· = g) w w' ∧ w'.heap.size = w.heap.size) := by
  by_cases hm : m = 0
  · subst hm
    refine Does.of_run (v := .tuple #[]) (w' := w) (fun a ha => ?_) ⟨⟨cs, hb, rfl, rfl⟩, Mod.refl _ _, rfl⟩
    simp only [fromAt, Option.map_some] at hx
    simp [execOp, resolve, invoke, builtin, ha.ev hx, Builtin.clear_, run_underlying ht]
  · have hne : ¬ cap = lo := by omega
    simp only [fromAt, Option.map_some, if_neg hne, add_none, Nat.zero_add] at hx
    have hsz : (Builtin.zeroCells z.cells m).toList.length = m * sz := by simp [Builtin.zeroCells, hzs]
    have hone : ∀ v ∈ (Builtin.zeroCells z.cells m).toList, v.oneCell' = true := fun v hv => by
      simp only [Builtin.zeroCells, Array.toList_map, List.mem_map] at hv
      obtain ⟨i, hi, rfl⟩ := hv
      have hi' : i < m * sz := by simpa [hzs] using hi
      have h0 : 0 < sz := by rcases Nat.eq_zero_or_pos sz with h | h; (rw [h] at hi'; omega); exact h
      have hlt : i % z.cells.size < z.cells.size := Nat.mod_lt _ (by omega)
      rw [getElem!_pos z.cells _ hlt]
      exact Array.all_eq_true.1 hz1 _ hlt
    have hfit : lo * sz + 0 + (Builtin.zeroCells z.cells m).toList.length ≤ cs.toArray.size := by
      rw [hsz, Nat.add_zero, ← Nat.add_mul]
      simp only [List.size_toArray, hl]
      exact Nat.mul_le_mul_right _ hroom
    have hr := run_storeCells_at (P := P) g (lo * sz) el (Builtin.zeroCells z.cells m).toList 0 cs.toArray w hb hfit hone
    obtain ⟨g1, g2, g3⟩ := hb.setRow (cs' := (cs.toArray.toList.take (lo * sz + 0) ++ (Builtin.zeroCells z.cells m).toList ++ cs.toArray.toList.drop (lo * sz + 0 + (Builtin.zeroCells z.cells m).toList.length)))
    rw [hsz] at hfit
    simp only [List.size_toArray] at hfit
    refine Does.of_run (v := .tuple #[]) (w' := _) (fun a ha => ?_) ⟨⟨_, g1, ?_, ?_⟩, g2, g3⟩
    · obtain ⟨q, rfl⟩ : ∃ q, m = q + 1 := ⟨m - 1, by omega⟩
      simp [execOp, resolve, invoke, builtin, ha.ev hx, Builtin.clear_, run_underlying ht, hT.zero w, hr]
    · simp only [List.length_append, List.length_take, List.length_drop, hsz]
      omega
    · simp only [Nat.add_zero]
      have e1 : (cs.take (lo * sz)).length = lo * sz := by rw [List.length_take]; omega
      rw [List.append_assoc, List.take_append_of_le_length (by omega), List.take_take]
      simp
end
end Go.X
namespace Go.X
open Go Go.RowKit
theorem flat_take {α : Type} (f : α → List Value) (sz : Nat) (hf : ∀ x, (f x).length = sz) : ∀ (xs : List α) (i : Nat), (xs.flatMap f).take (i * sz) = (xs.take i).flatMap f
  | [], i => by simp
  | x :: xs, 0 => by simp
  | x :: xs, i + 1 => by
    have e : (i + 1) * sz = (f x).length + i * sz := by rw [hf, Nat.add_mul]; omega
    rw [List.flatMap_cons, e, List.take_length_add_append, flat_take f sz hf xs i, List.take_succ_cons, List.flatMap_cons]
theorem flat_drop {α : Type} (f : α → List Value) (sz : Nat) (hf : ∀ x, (f x).length = sz) : ∀ (xs : List α) (i : Nat), (xs.flatMap f).drop (i * sz) = (xs.drop i).flatMap f
  | [], i => by simp
  | x :: xs, 0 => by simp
  | x :: xs, i + 1 => by
    have e : (i + 1) * sz = (f x).length + i * sz := by rw [hf, Nat.add_mul]; omega
    rw [List.flatMap_cons, e, List.drop_length_add_append, flat_drop f sz hf xs i, List.drop_succ_cons]
end Go.X
set_option linter.unusedVariables false
set_option linter.unusedSimpArgs false
namespace Go.X
open Go Go.RowKit
section
variable {P : Program} {n : Nat} {e : Env} {w : World} {C : World → Prop}
theorem wrap_u64 {x : Nat} (h : x < 18446744073709551616) : IntKind.u64.wrap (x : Int) = x := by rw [IntKind.wrap_u64]; omega
theorem wrap_u8 {x : Nat} (h : x < 256) : IntKind.u8.wrap (x : Int) = x := by
  have : IntKind.u8.wrap (x : Int) = (x : Int) % 256 := by rfl
  rw [this]; omega
theorem u64_and {a b : Nat} (ha : a < 18446744073709551616) (hb : b < 18446744073709551616) : IntKind.u64.wrap ((BitVec.ofInt 64 (a : Int) &&& BitVec.ofInt 64 (b : Int)).toNat : Int) = ((a &&& b : Nat) : Int) := by
  have e1 : (BitVec.ofInt 64 (a : Int)).toNat = a := by rw [BitVec.toNat_ofInt]; omega
  have e2 : (BitVec.ofInt 64 (b : Int)).toNat = b := by rw [BitVec.toNat_ofInt]; omega
  rw [BitVec.toNat_and, e1, e2]
  have : a &&& b ≤ a := Nat.and_le_left
  exact wrap_u64 (by omega)
theorem u64_or {a b : Nat} (ha : a < 18446744073709551616) (hb : b < 18446744073709551616) : IntKind.u64.wrap ((BitVec.ofInt 64 (a : Int) ||| BitVec.ofInt 64 (b : Int)).toNat : Int) = ((a ||| b : Nat) : Int) := by
  have e1 : (BitVec.ofInt 64 (a : Int)).toNat = a := by rw [BitVec.toNat_ofInt]; omega
  have e2 : (BitVec.ofInt 64 (b : Int)).toNat = b := by rw [BitVec.toNat_ofInt]; omega
  rw [BitVec.toNat_or, e1, e2]
  have : a ||| b < 2 ^ 64 := Nat.or_lt_two_pow (by omega) (by omega)
  exact wrap_u64 (by omega)
theorem Yld.shr {d : Option Tmp} {t : Nat} {x y : Operand} {t' ty : TypeId} {pos : String} {af : Array Edge} {g : Option (Nat × Bool)} {k k' : IntKind} {a s : Nat} (hx : ev e x = some (.int k (a : Int))) (hy : ev e y = some (.int k' (s : Int))) (hs : s ≤ k.bits) :
    Yld P n C e ⟨d, .binOp .shr t x y t', ty, pos, af, g⟩ (.int k ((a >>> s : Nat) : Int)) := by
  intro ac ha w _
  have h0 : ¬ ((s : Int) < 0) := by omega
  have h1 : min s k.bits = s := Nat.min_eq_left hs
  have h2 : (a : Int).fdiv (2 ^ s) = ((a >>> s : Nat) : Int) := by
    rw [Nat.shiftRight_eq_div_pow, Int.fdiv_eq_ediv_of_nonneg _ (by exact Int.le_of_lt (Int.pow_pos (by decide)))]
    simp
  simp [execOp, ha.ev hx, ha.ev hy, eqGuard, binOp, Op.shift, h0, h1]
  simpa using h2
theorem Yld.shl {d : Option Tmp} {t : Nat} {x y : Operand} {t' ty : TypeId} {pos : String} {af : Array Edge} {g : Option (Nat × Bool)} {k k' : IntKind} {a s : Nat} (hx : ev e x = some (.int k (a : Int))) (hy : ev e y = some (.int k' (s : Int))) (hs : s ≤ k.bits) :
    Yld P n C e ⟨d, .binOp .shl t x y t', ty, pos, af, g⟩ (.int k (k.wrap ((a <<< s : Nat) : Int))) := by
  intro ac ha w _
  have h0 : ¬ ((s : Int) < 0) := by omega
  have h1 : min s k.bits = s := Nat.min_eq_left hs
  have h2 : (a : Int) * 2 ^ s = ((a <<< s : Nat) : Int) := by
    rw [Nat.shiftLeft_eq]; simp
  simp [execOp, ha.ev hx, ha.ev hy, eqGuard, binOp, Op.shift, h0, h1]
  have := congrArg k.wrap h2
  simpa using this
theorem Yld.quo {d : Option Tmp} {t : Nat} {x y : Operand} {t' ty : TypeId} {pos : String} {af : Array Edge} {g : Option (Nat × Bool)} {k : IntKind} {a b : Int} (hx : ev e x = some (.int k a)) (hy : ev e y = some (.int k b)) (hb : b ≠ 0) :
    Yld P n C e ⟨d, .binOp .quo t x y t', ty, pos, af, g⟩ (.int k (k.wrap (a.tdiv b))) := by
  intro ac ha w _
  simp [execOp, ha.ev hx, ha.ev hy, eqGuard, binOp, Op.intDiv, hb]
theorem Yld.rem {d : Option Tmp} {t : Nat} {x y : Operand} {t' ty : TypeId} {pos : String} {af : Array Edge} {g : Option (Nat × Bool)} {k : IntKind} {a b : Int} (hx : ev e x = some (.int k a)) (hy : ev e y = some (.int k b)) (hb : b ≠ 0) :
    Yld P n C e ⟨d, .binOp .rem t x y t', ty, pos, af, g⟩ (.int k (a.tmod b)) := by
  intro ac ha w _
  simp [execOp, ha.ev hx, ha.ev hy, eqGuard, binOp, Op.intDiv, hb]
end
end Go.X
set_option linter.unusedVariables false
set_option linter.unusedSimpArgs false
namespace Go.X
open Go Go.RowKit
section
variable {P : Program} {n : Nat} {e : Env} {w : World}
theorem loadVarN {t b o : Nat} {cs : List Value} (hT : Agg P t cs.length) (hc : ∀ j v, cs[j]? = some v → w.cell? ⟨b, o + j, none⟩ = some v) : (loadVar t ⟨b, o, none⟩).run P w = .ok (.agg cs.toArray) w := by
  have := run_loadCells_list (P := P) w ⟨b, o, none⟩ cs (fun j v hj => by rw [add_none]; exact hc j v hj)
  simp [loadVar, hT.agg w, hT.size w, this]
theorem resC {fn : Func} {a t : Nat} (h : fn.results = #[.cell a t]) {b : Nat} (ha : get e a = some (.pointer (some ⟨b, 0, none⟩))) {cs : List Value} (hT : Agg P t cs.length) {T : Nat} (hc : Blk w b T cs) : ∀ ac, Fits e n ac → (results fn ac.tmps).run P w = .ok (.agg cs.toArray) w := fun ac hac => by
  have h1 := hac.look a _ ha
  rw [Array.getD_eq_getD_getElem?] at h1
  have h2 := loadVarN (P := P) (w := w) (b := b) (o := 0) hT (fun j v hj => by rw [Nat.zero_add]; exact hc.cell' hj)
  simp [results, h, h1, asAddr, h2]
theorem resCT {fn : Func} {a t u : Nat} (h : fn.results = #[.cell a t, .tmp u]) {b : Nat} (ha : get e a = some (.pointer (some ⟨b, 0, none⟩))) {cs : List Value} (hT : Agg P t cs.length) {T : Nat} (hc : Blk w b T cs) {v : Value} (hv : get e u = some v) : ∀ ac, Fits e n ac → (results fn ac.tmps).run P w = .ok (.tuple #[.agg cs.toArray, v]) w := fun ac hac => by
  have h1 := hac.look a _ ha
  have h3 := hac.look u _ hv
  rw [Array.getD_eq_getD_getElem?] at h1 h3
  have h2 := loadVarN (P := P) (w := w) (b := b) (o := 0) hT (fun j v hj => by rw [Nat.zero_add]; exact hc.cell' hj)
  simp [results, h, h1, h3, asAddr, h2]
end
end Go.X
set_option linter.unusedVariables false
set_option linter.unusedSimpArgs false
namespace Go.X
open Go Go.RowKit
section
variable {P : Program} {n : Nat} {e : Env} {w : World} {C : World → Prop}
theorem Yld.idxArr {d : Option Tmp} {t el len : Nat} {x i : Operand} {ty : TypeId} {pos : String} {af : Array Edge} {g : Option (Nat × Bool)} (hT : P.underlying t = some (.array len el)) {z : Value} {by' : Nat} (hE : TI P el z 1 by') (hP : Plain P el) {cs : Array Value} {k : IntKind} {q : Nat} (hx : ev e x = some (.agg cs)) (hi : ev e i = some (.int k (q : Int))) (hq : q < len) {v : Value} (hv : cs[q]? = some v) :
    Yld P n C e ⟨d, .index t x i, ty, pos, af, g⟩ v := by
  intro a ha w _
  have h1 : (q : Int) < len := by omega
  simp [execOp, ha.ev hx, ha.ev hi, Instr.index, asIntOf, run_underlying hT, hq, hE.sizeOf w, part, hP w, hv]
end
theorem Sl.takeN {M : Nat → Prop} {w : World} {sz : Nat} {ad : Option Addr} {n c : Nat} {cs : List Value} (h : Sl M w (.slice ad n c) sz n cs) {j : Nat} (hj : j ≤ n) : Sl M w (.slice ad j c) sz j (cs.take (j * sz)) := by
  have hl := h.len
  have hb := h.big
  have hm : j * sz ≤ n * sz := Nat.mul_le_mul_right _ hj
  obtain ⟨ad', c', he, hf⟩ := h.form
  cases he
  refine ⟨by rw [List.length_take]; omega, by omega, _, _, rfl, fun h0 => ?_⟩
  obtain ⟨b, o, ha, hM, hc⟩ := hf (by omega)
  refine ⟨b, o, ha, hM, fun i u hi => hc i u ?_⟩
  rw [List.getElem?_take] at hi
  split at hi
  · exact hi
  · cases hi
theorem Sl.fromN {M : Nat → Prop} {w : World} {sz : Nat} {ad : Option Addr} {n c : Nat} {cs : List Value} (h : Sl M w (.slice ad n c) sz n cs) {j : Nat} (hj : j ≤ n) (hnc : n ≤ c) : Sl M w (.slice (fromAt ad c j sz) (n - j) (c - j)) sz (n - j) (cs.drop (j * sz)) := by
  have hl := h.len
  have hb := h.big
  obtain ⟨ad', c', he, hf⟩ := h.form
  cases he
  refine ⟨by rw [List.length_drop, hl, Nat.sub_mul], by omega, _, _, rfl, fun h0 => ?_⟩
  obtain ⟨b, o, rfl, hM, hc⟩ := hf (by omega)
  refine ⟨b, o + j * sz, ?_, hM, fun i u hi => ?_⟩
  · have : ¬ c = j := by omega
    simp [fromAt, this, add_none]
  · rw [List.getElem?_drop] at hi
    rw [Nat.add_assoc]
    exact hc _ u hi
theorem Sl.takeF {α : Type} {f : α → List Value} {M : Nat → Prop} {w : World} {sz : Nat} (hf : ∀ x, (f x).length = sz) {ad : Option Addr} {c : Nat} {xs : List α} (h : Sl M w (.slice ad xs.length c) sz xs.length (xs.flatMap f)) {j : Nat} (hj : j ≤ xs.length) : Sl M w (.slice ad j c) sz j ((xs.take j).flatMap f) := by
  have := h.takeN hj
  rwa [flat_take f sz hf] at this
theorem Sl.fromF {α : Type} {f : α → List Value} {M : Nat → Prop} {w : World} {sz : Nat} (hf : ∀ x, (f x).length = sz) {ad : Option Addr} {c : Nat} {xs : List α} (h : Sl M w (.slice ad xs.length c) sz xs.length (xs.flatMap f)) {j : Nat} (hj : j ≤ xs.length) (hnc : xs.length ≤ c) : Sl M w (.slice (fromAt ad c j sz) (xs.length - j) (c - j)) sz (xs.length - j) ((xs.drop j).flatMap f) := by
  have := h.fromN hj hnc
  rwa [flat_drop f sz hf] at this
theorem Sl.pass {M M' : Nat → Prop} {w w' : World} {v : Value} {sz n : Nat} {cs : List Value} (h : Sl M w v sz n cs) (hsz : 0 < sz) (hm : Mod M w w') (hM : ∀ b, M' b → M b ∨ w.heap.size ≤ b) : Sl M' w' v sz n cs := by
  have h1 : Sl (fun b => M b ∨ M' b) w v sz n cs := h.off hsz (fun b hb e => by
    rcases e with e | e
    · exact e
    · rcases hM b e with h2 | h2
      · exact h2
      · omega)
  exact (h1.mod (hm.mono fun b _ e => .inl e)).off hsz (fun b _ e => .inr e)
end Go.X
set_option linter.unusedVariables false
set_option linter.unusedSimpArgs false
namespace Go.X
open Go Go.RowKit
inductive OT where
  | nil
  | op (i : Nat) (loud : Bool) (t : OT)
  | fork (i : Nat) (p : OT) (j : Nat) (q : OT)
  | fork3 (i : Nat) (p : OT) (j : Nat) (q : OT) (m : Nat) (r : OT)
def OT.len : OT → Nat
  | .nil => 0
  | .op _ _ t => t.len + 1
  | .fork _ p _ _ => p.len + 1
  | .fork3 _ p _ _ _ _ => p.len + 1
def okT (ops : Array Oper) (tl : List Nat) : Array Bool → OT → Bool
  | L, .nil => (Region.ready .any ops L).isEmpty
  | L, .op i loud t => (if loud then Region.ready .any ops L == [i] else (Region.ready .any ops L).contains i && Region.free .any ops L i) && okT ops tl (L.setIfInBounds i true) t
  | L, .fork i p j q => Region.ready .any ops L == [i, j] && Nat.beq p.len q.len && okT ops tl (L.setIfInBounds i true) p && okT ops tl (L.setIfInBounds j true) q
  | L, .fork3 i p j q m r => Region.ready .any ops L == [i, j, m] && (Nat.beq p.len q.len && Nat.beq p.len r.len) && okT ops tl (L.setIfInBounds i true) p && okT ops tl (L.setIfInBounds j true) q && okT ops tl (L.setIfInBounds m true) r
def wpOT (P : Program) (ops : Array Oper) (S : World → Prop) (tl : List Nat) (Q : Exit → Act → World → Prop) : OT → Act → World → Prop
  | .nil, a, w => Q .normal a w
  | .op i false t, a, w => ∃ o v, ops[i]? = some o ∧ (YieldsIf P ops (fun _ => True) o v a ∨ tailOk ops tl i = true ∧ YieldsIf P ops S o v a ∧ S w) ∧ wpOT P ops S tl Q t (a.put o.dst v) w
  | .op i true t, a, w => wpOp P ops Q i (fun a' w' => (tl.contains i = false → S w → S w') ∧ wpOT P ops S tl Q t a' w') a w
  | .fork i p j q, a, w => wpOp P ops Q i (fun a' w' => (tl.contains i = false → S w → S w') ∧ wpOT P ops S tl Q p a' w') a w ∧ wpOp P ops Q j (fun a' w' => (tl.contains j = false → S w → S w') ∧ wpOT P ops S tl Q q a' w') a w
  | .fork3 i p j q m r, a, w => wpOp P ops Q i (fun a' w' => (tl.contains i = false → S w → S w') ∧ wpOT P ops S tl Q p a' w') a w ∧ wpOp P ops Q j (fun a' w' => (tl.contains j = false → S w → S w') ∧ wpOT P ops S tl Q q a' w') a w ∧ wpOp P ops Q m (fun a' w' => (tl.contains m = false → S w → S w') ∧ wpOT P ops S tl Q r a' w') a w
theorem wpT_of_ot {P : Program} {ops : Array Oper} {S : World → Prop} {tl : List Nat} {Q : Exit → Act → World → Prop} (hs : Region.noSelect ops = true) (hQ : ∀ c a w, ¬ Q (.panic c) a w) :
    ∀ (t : OT) (L : Array Bool) (a : Act) (w : World), okT ops tl L t = true → wpOT P ops S tl Q t a w → wpT P ops Q S tl.contains t.len L a w
  | .nil, L, a, w, h, hw => ⟨by simpa [okT, List.isEmpty_iff] using h, hw⟩
  | .op i false r, L, a, w, h, hw => by
    simp only [okT, Bool.and_eq_true, Bool.false_eq_true, if_false] at h
    obtain ⟨o, v, ho, hy, hr⟩ := hw
    have hrec := wpT_of_ot hs hQ r _ _ _ h.2 hr
    have hfree := Region.free_spec ho h.1.2
    rcases hy with hy | ⟨ht, hy, hSw⟩
    · exact wpT_take hs hQ ho (C := fun _ => True) (fun _ _ => trivial) (.inl fun _ => trivial) _ _ _ _ hfree (by simpa using h.1.1) hy trivial (.inl fun _ => trivial) hrec
    · refine wpT_take hs hQ ho (C := S) (fun _ h => h) (.inr fun j oj hj htj => ?_) _ _ _ _ hfree (by simpa using h.1.1) hy hSw (.inr hSw) hrec
      have h1 := List.all_eq_true.1 ht j (by simpa using htj)
      have h2 : nth ops.toList j = some oj := by rw [nth_eq]; simpa using hj
      simp only [h2] at h1
      exact h1
  | .op i true r, L, a, w, h, hw => by
    simp only [okT, Bool.and_eq_true, if_true, beq_iff_eq] at h
    refine ⟨fun h0 => (by rw [h.1] at h0; cases h0), fun j hj => ?_⟩
    rw [h.1] at hj
    simp only [List.mem_singleton] at hj
    subst hj
    exact wpOp_mono (fun a' w' h' => ⟨h'.1, wpT_of_ot hs hQ r _ _ _ h.2 h'.2⟩) hw
  | .fork i p j q, L, a, w, h, hw => by
    simp only [okT, Bool.and_eq_true, beq_iff_eq] at h
    obtain ⟨⟨⟨h1, h2⟩, h3⟩, h4⟩ := h
    have hl : p.len = q.len := Nat.eq_of_beq_eq_true h2
    refine ⟨fun h0 => (by rw [h1] at h0; cases h0), fun m hm => ?_⟩
    rw [h1] at hm
    simp only [List.mem_cons, List.not_mem_nil, or_false] at hm
    rcases hm with rfl | rfl
    · exact wpOp_mono (fun a' w' h' => ⟨h'.1, wpT_of_ot hs hQ p _ _ _ h3 h'.2⟩) hw.1
    · exact wpOp_mono (fun a' w' h' => ⟨h'.1, hl ▸ wpT_of_ot hs hQ q _ _ _ h4 h'.2⟩) hw.2
  | .fork3 i p j q m r, L, a, w, h, hw => by
    simp only [okT, Bool.and_eq_true, beq_iff_eq] at h
    obtain ⟨⟨⟨⟨h1, h2⟩, h3⟩, h4⟩, h5⟩ := h
    have hl : p.len = q.len := Nat.eq_of_beq_eq_true h2.1
    have hl2 : p.len = r.len := Nat.eq_of_beq_eq_true h2.2
    refine ⟨fun h0 => (by rw [h1] at h0; cases h0), fun x hx => ?_⟩
    rw [h1] at hx
    simp only [List.mem_cons, List.not_mem_nil, or_false] at hx
    rcases hx with rfl | rfl | rfl
    · exact wpOp_mono (fun a' w' h' => ⟨h'.1, wpT_of_ot hs hQ p _ _ _ h3 h'.2⟩) hw.1
    · exact wpOp_mono (fun a' w' h' => ⟨h'.1, hl ▸ wpT_of_ot hs hQ q _ _ _ h4 h'.2⟩) hw.2.1
    · exact wpOp_mono (fun a' w' h' => ⟨h'.1, hl2 ▸ wpT_of_ot hs hQ r _ _ _ h5 h'.2⟩) hw.2.2
def DT (P : Program) (n : Nat) (ops : List Oper) (S : World → Prop) (tl : List Nat) (rest : OT) (e : Env) (w : World) (K : Exit → Act → World → Prop) : Prop := ∀ a, Fits e n a → wpOT P ops.toArray S tl K rest a w
section
variable {P : Program} {f : FuncId} {n : Nat} {R : Ending → World → Prop} {k : List Item} {e : Env} {w : World} {ops : List Oper} {rest : OT} {K : Exit → Act → World → Prop} {S : World → Prop} {tl : List Nat}
theorem RK.drawT0 {id : Nat} {l : List Oper} (M : Nat → Prop) (t : OT) (tl : List Nat) (hm : P.follows .mixedOrders = true) (hb : (Region.noSelect l.toArray && okT l.toArray tl (Array.replicate l.length false) t && Nat.beq l.length t.len) = true)
    (h : DT P n l (Mod M w) tl t e { w with drawn := w.drawn + 1 } (post P f R k)) : RK P f n R (.code (.region id l.toArray true) :: k) e w := by
  intro a ha
  simp only [Bool.and_eq_true] at hb
  have hl : l.length = t.len := Nat.eq_of_beq_eq_true hb.2
  refine Runs.of_wp (wp_region_any hm (wpT_any (S := Mod M w) (T := tl.contains) _ _ _ _ ?_))
  have := wpT_of_ot (P := P) (S := Mod M w) (Q := post P f R k) hb.1.1 (fun c a w h => h) t _ a _ hb.1.2 (h a ha)
  simpa [hl] using this
theorem RK.drawT {id : Nat} {l : List Oper} (M : Nat → Prop) (t : OT) (tl : List Nat) (hm : P.follows .mixedOrders = true) (hb : (Region.noSelect l.toArray && okT l.toArray tl (Array.replicate l.length false) t && Nat.beq l.length t.len) = true)
    (h : DT P n l (Mod M w) tl t e w.drew (post P f R k)) : RK P f n R (.code (.region id l.toArray true) :: k) e w := RK.drawT0 M t tl hm hb h
theorem DT.fork {i j : Nat} {p q : OT} (h1 : DT P n ops S tl (.op i true p) e w K) (h2 : DT P n ops S tl (.op j true q) e w K) : DT P n ops S tl (.fork i p j q) e w K := fun a ha => ⟨h1 a ha, h2 a ha⟩
theorem DT.done (h : RK P f n R k e w) : DT P n ops S tl .nil e w (post P f R k) := fun a ha => h a ha
theorem DT.q {i : Nat} {o : Oper} {d : Nat} {v : Value} (hi : nth ops i = some o) (hw : Want ops.toArray e o true) (hd : o.dst = some d) (hb : Nat.blt d n = true) (ht : tailOk ops.toArray tl i = true) (hy : Yld P n S e o v) (hS : S w) (h : DT P n ops S tl rest ((d, v) :: e) w K) :
    DT P n ops S tl (.op i false rest) e w K := by
  intro a ha
  refine ⟨o, v, by rw [← nth_eq, hi], .inr ⟨ht, .inl ⟨hw.at_ ha, fun w' hS => hy a ha w' hS⟩, hS⟩, ?_⟩
  rw [hd]
  exact h _ (ha.put hb v)
theorem DT.qf {i : Nat} {o : Oper} {d : Nat} {v : Value} (hi : nth ops i = some o) (hw : Want ops.toArray e o true) (hd : o.dst = some d) (hb : Nat.blt d n = true) (hy : Yld P n (fun _ => True) e o v) (h : DT P n ops S tl rest ((d, v) :: e) w K) :
    DT P n ops S tl (.op i false rest) e w K := by
  intro a ha
  refine ⟨o, v, by rw [← nth_eq, hi], .inl (.inl ⟨hw.at_ ha, fun w' hS => hy a ha w' hS⟩), ?_⟩
  rw [hd]
  exact h _ (ha.put hb v)
theorem DT.op {i : Nat} {o : Oper} {d : Nat} {Q : Value → World → Prop} (hi : nth ops i = some o) (hw : Want ops.toArray e o true) (hd : o.dst = some d) (hb : Nat.blt d n = true) (hy : Does P n e w o Q) (h : ∀ v w', Q v w' → S w' ∧ DT P n ops S tl rest ((d, v) :: e) w' K) :
    DT P n ops S tl (.op i true rest) e w K := by
  intro a ha
  have hi' : ops.toArray[i]? = some o := by rw [← nth_eq, hi]
  unfold wpOT wpOp
  simp only [hi']
  rw [if_pos (hw.at_ ha)]
  refine .inl (hy a ha _ _ fun v w' hv => ⟨fun _ _ => (h v w' hv).1, ?_⟩)
  rw [hd]
  exact (h v w' hv).2 _ (ha.put hb v)
theorem DT.op' {i : Nat} {o : Oper} {Q : Value → World → Prop} (hi : nth ops i = some o) (hw : Want ops.toArray e o true) (hd : o.dst = none) (hy : Does P n e w o Q) (h : ∀ v w', Q v w' → S w' ∧ DT P n ops S tl rest e w' K) :
    DT P n ops S tl (.op i true rest) e w K := by
  intro a ha
  have hi' : ops.toArray[i]? = some o := by rw [← nth_eq, hi]
  unfold wpOT wpOp
  simp only [hi']
  rw [if_pos (hw.at_ ha)]
  refine .inl (hy a ha _ _ fun v w' hv => ⟨fun _ _ => (h v w' hv).1, ?_⟩)
  rw [hd]
  exact (h v w' hv).2 _ ha
theorem DT.p {ops : List Oper} {rest : OT} {S : World → Prop} {tl : List Nat} {i d : Nat} {op : Op} {t : TypeId} {pos : String} {af : Array Edge} {v : Value} (hi : nth ops i = some ⟨some d, op, t, pos, af, none⟩) (hp : pureOp e op = some v) (hb : Nat.blt d n = true) (h : DT P n ops S tl rest ((d, v) :: e) w K) :
    DT P n ops S tl (.op i false rest) e w K := DT.qf hi (.free rfl) rfl hb (Yld.pure hp) h
theorem DT.re {ops : List Oper} {rest : OT} {S : World → Prop} {tl : List Nat} {d : Nat} {v v' : Value} (hg : get e d = some v) (hb : Nat.blt d n = true) (hv : v = v') (h : DT P n ops S tl rest ((d, v') :: e) w K) : DT P n ops S tl rest e w K := fun a ha => h a (ha.again hg hv)
end
end Go.X
set_option linter.unusedVariables false
set_option linter.unusedSimpArgs false
set_option maxHeartbeats 400000
namespace Go.Rex
inductive Rx where
  | set (s : List Nat)
  | node (op : Nat) (l : Rx)
  | nil
  | cons (x l : Rx)
  deriving DecidableEq, Inhabited
inductive Rt (R : Nat → Nat → Prop) : Nat → Nat → Prop where
  | refl (i : Nat) : Rt R i i
  | step {i k j : Nat} : R i k → Rt R k j → Rt R i j
def Lg (H : List Nat → Nat → Prop) : Rx → Bool → Nat → Nat → Prop
  | .set s, _, i, j => H s i ∧ j = i + 1
  | .node op l, _, i, j => if op = 2 then Lg H l true i j else if op = 3 then Lg H l false i j else if op = 4 then Rt (Lg H l true) i j else if op = 5 then ∃ k, Lg H l true i k ∧ Rt (Lg H l true) k j else i = j ∨ Lg H l true i j
  | .nil, b, i, j => b = true ∧ i = j
  | .cons x l, b, i, j => if b = true then ∃ k, Lg H x true i k ∧ Lg H l true k j else Lg H x true i j ∨ Lg H l false i j
def cnt : Rx → Nat
  | .cons _ l => cnt l + 1
  | _ => 0
def sz : Rx → Nat
  | .set _ => 1
  | .node op l => if op = 2 then sz l else if op = 3 then sz l + 2 * (cnt l - 1) else if op = 4 then sz l + 2 else sz l + 1
  | .nil => 0
  | .cons x l => sz x + sz l
structure Stp where
  op : Nat
  set : List Nat
  a : Nat
  b : Nat
  deriving DecidableEq, Inhabited
def byteS (s : List Nat) : Stp := ⟨1, s, 0, 0⟩
def zero4 : List Nat := [0, 0, 0, 0]
def splitS (a b : Nat) : Stp := ⟨2, zero4, a, b⟩
def jumpS (a : Nat) : Stp := ⟨3, zero4, a, 0⟩
def matchS : Stp := ⟨4, zero4, 0, 0⟩
def code : Rx → Option Nat → Nat → List Stp
  | .set s, _, _ => [byteS s]
  | .node op l, _, p => if op = 2 then code l none p else if op = 3 then code l (some (p + (sz l + 2 * (cnt l - 1)))) p else if op = 4 then splitS (p + 1) (p + 2 + sz l) :: (code l none (p + 1) ++ [jumpS p]) else if op = 5 then code l none p ++ [splitS p (p + sz l + 1)] else splitS (p + 1) (p + 1 + sz l) :: code l none (p + 1)
  | .nil, _, _ => []
  | .cons x l, none, p => code x none p ++ code l none (p + sz x)
  | .cons x l, some e, p => if l = .nil then code x none p else splitS (p + 1) (p + 2 + sz x) :: (code x none (p + 1) ++ jumpS e :: code l (some e) (p + 2 + sz x))
def Wf : Rx → Prop
  | .set _ => True
  | .node op l => Wf l ∧ (op = 3 → cnt l ≠ 0)
  | .nil => True
  | .cons x l => Wf x ∧ Wf l
def Ls : Rx → Prop
  | .set _ => False
  | .node _ _ => False
  | .nil => True
  | .cons _ l => Ls l
def Wl : Rx → Prop
  | .set _ => True
  | .node _ l => Ls l ∧ Wl l
  | .nil => True
  | .cons x l => Wl x ∧ Wl l ∧ Ls l
theorem ls_nil {l : Rx} (h : Ls l) (hc : cnt l = 0) : l = .nil := by
  cases l with
  | set => exact h.elim
  | node => exact h.elim
  | nil => rfl
  | cons => simp [cnt] at hc
theorem code_len (x : Rx) : Wf x → Wl x → ∀ p, (code x none p).length = sz x ∧ ∀ e, Ls x → cnt x ≠ 0 → (code x (some e) p).length = sz x + 2 * (cnt x - 1) := by
  induction x with
  | set s => intro _ _ p; exact ⟨rfl, fun e h => h.elim⟩
  | nil => intro _ _ p; exact ⟨rfl, fun e _ h => absurd rfl h⟩
  | node op l ih =>
    intro hw hl p
    refine ⟨?_, fun e h => h.elim⟩
    have h1 := ih hw.1 hl.2
    simp only [code, sz]
    split
    · exact (h1 p).1
    · split
      · rename_i h2 h3; exact (h1 p).2 _ hl.1 (hw.2 h3)
      · split
        · simp [(h1 (p + 1)).1]
        · split
          · simp [(h1 p).1]
          · simp [(h1 (p + 1)).1]
  | cons x l ihx ihl =>
    intro hw hl p
    have hx := ihx hw.1 hl.1
    have h2 := ihl hw.2 hl.2.1
    refine ⟨by simp [code, sz, (hx p).1, (h2 _).1], fun e _ _ => ?_⟩
    simp only [code]
    split
    · rename_i h; subst h; simp [sz, cnt, (hx p).1]
    · rename_i h
      have hc : cnt l ≠ 0 := fun hc => h (ls_nil hl.2.2 hc)
      simp only [List.length_cons, List.length_append, (hx _).1, (h2 _).2 e hl.2.2 hc, sz, cnt]
      omega
def Seg (P : List Stp) (p : Nat) (l : List Stp) : Prop := ∀ k st, l[k]? = some st → P[p + k]? = some st
theorem Seg.append {P : List Stp} {p : Nat} {l1 l2 : List Stp} (h : Seg P p (l1 ++ l2)) : Seg P p l1 ∧ Seg P (p + l1.length) l2 := by
  refine ⟨fun k st hk => h k st ?_, fun k st hk => ?_⟩
  · rw [List.getElem?_append_left (List.getElem?_eq_some_iff.1 hk).1]; exact hk
  · have := h (l1.length + k) st (by rw [List.getElem?_append_right (by omega), Nat.add_sub_cancel_left]; exact hk)
    rwa [← Nat.add_assoc] at this
theorem Seg.cons {P : List Stp} {p : Nat} {s : Stp} {l : List Stp} (h : Seg P p (s :: l)) : P[p]? = some s ∧ Seg P (p + 1) l :=
  ⟨h 0 s rfl, fun k st hk => by have := h (k + 1) st (by simpa using hk); rwa [show p + (k + 1) = p + 1 + k by omega] at this⟩
inductive Go1 (P : List Stp) (H : List Nat → Nat → Prop) : Nat → Nat → Nat → Nat → Prop where
  | byte {c i : Nat} {st : Stp} : P[c]? = some st → st.op = 1 → H st.set i → Go1 P H c i (c + 1) (i + 1)
  | left {c i : Nat} {st : Stp} : P[c]? = some st → st.op = 2 → Go1 P H c i st.a i
  | right {c i : Nat} {st : Stp} : P[c]? = some st → st.op = 2 → Go1 P H c i st.b i
  | jump {c i : Nat} {st : Stp} : P[c]? = some st → st.op = 3 → Go1 P H c i st.a i
inductive Rn (P : List Stp) (H : List Nat → Nat → Prop) : Nat → Nat → Nat → Nat → Nat → Prop where
  | zero (c i : Nat) : Rn P H 0 c i c i
  | step {n c i c' i' d j : Nat} : Go1 P H c i c' i' → Rn P H n c' i' d j → Rn P H (n + 1) c i d j
def Re (P : List Stp) (H : List Nat → Nat → Prop) (c i d j : Nat) : Prop := ∃ n, Rn P H n c i d j
section
variable {P : List Stp} {H : List Nat → Nat → Prop}
theorem Re.refl (c i : Nat) : Re P H c i c i := ⟨0, .zero c i⟩
theorem Re.step {c i c' i' d j : Nat} (h : Go1 P H c i c' i') (h2 : Re P H c' i' d j) : Re P H c i d j := let ⟨n, hn⟩ := h2; ⟨n + 1, .step h hn⟩
theorem Re.trans {c i c' i' d j : Nat} (h : Re P H c i c' i') (h2 : Re P H c' i' d j) : Re P H c i d j := by
  obtain ⟨n, hn⟩ := h
  induction hn with
  | zero => exact h2
  | step h _ ih => exact .step h (ih h2)
theorem fwd (x : Rx) : Wf x → Wl x → ∀ p i j, (Seg P p (code x none p) → Lg H x true i j → Re P H p i (p + sz x) j) ∧ (∀ e, Ls x → cnt x ≠ 0 → e = p + (sz x + 2 * (cnt x - 1)) → Seg P p (code x (some e) p) → Lg H x false i j → Re P H p i e j) := by
  induction x with
  | set s =>
    intro _ _ p i j
    refine ⟨fun hs h => ?_, fun e h => h.elim⟩
    obtain ⟨h1, rfl⟩ := h
    exact .step (.byte hs.cons.1 rfl h1) (.refl _ _)
  | nil =>
    intro _ _ p i j
    refine ⟨fun hs h => ?_, fun e _ h => absurd rfl h⟩
    obtain ⟨_, rfl⟩ := h
    exact .refl _ _
  | node op l ih =>
    intro hw hl p i j
    refine ⟨fun hs h => ?_, fun e h => h.elim⟩
    have h1 := ih hw.1 hl.2
    simp only [code] at hs
    simp only [Lg] at h
    simp only [sz]
    split at hs
    · rename_i e
      rw [if_pos e] at h ⊢
      exact (h1 p i j).1 hs h
    · rename_i n2
      rw [if_neg n2] at h ⊢
      split at hs
      · rename_i e
        rw [if_pos e] at h ⊢
        exact (h1 p i j).2 _ hl.1 (hw.2 e) rfl hs h
      · rename_i n3
        rw [if_neg n3] at h ⊢
        split at hs
        · rename_i e
          rw [if_pos e] at h ⊢
          obtain ⟨hs1, hs2⟩ := hs.cons
          obtain ⟨hs2, hs3⟩ := hs2.append
          rw [(code_len l hw.1 hl.2 _).1] at hs3
          induction h with
          | refl i => exact .step (.right hs1 rfl) (by show Re P H (p + 2 + sz l) i _ i; rw [show p + 2 + sz l = p + (sz l + 2) by omega]; exact .refl _ _)
          | step h _ ih2 => exact .step (.left hs1 rfl) (((h1 (p + 1) _ _).1 hs2 h).trans (.step (.jump hs3.cons.1 rfl) ih2))
        · rename_i n4
          rw [if_neg n4] at h ⊢
          split at hs
          · rename_i e
            rw [if_pos e] at h
            obtain ⟨hs2, hs3⟩ := hs.append
            rw [(code_len l hw.1 hl.2 _).1] at hs3
            obtain ⟨k, hk, hr⟩ := h
            refine ((h1 p _ _).1 hs2 hk).trans ?_
            clear hk
            induction hr with
            | refl i => exact .step (.right hs3.cons.1 rfl) (.refl _ _)
            | step h _ ih2 => exact .step (.left hs3.cons.1 rfl) (((h1 p _ _).1 hs2 h).trans ih2)
          · rename_i n5
            rw [if_neg n5] at h
            obtain ⟨hs1, hs2⟩ := hs.cons
            rcases h with rfl | h
            · exact .step (.right hs1 rfl) (by show Re P H (p + 1 + sz l) i _ i; rw [show p + 1 + sz l = p + (sz l + 1) by omega]; exact .refl _ _)
            · exact .step (.left hs1 rfl) (by have := (h1 (p + 1) _ _).1 hs2 h; rwa [show p + 1 + sz l = p + (sz l + 1) by omega] at this)
  | cons x l ihx ihl =>
    intro hw hl p i j
    have hx := ihx hw.1 hl.1
    have h2 := ihl hw.2 hl.2.1
    refine ⟨fun hs h => ?_, fun e _ _ he hs h => ?_⟩
    · simp only [code] at hs
      obtain ⟨hs1, hs2⟩ := hs.append
      rw [(code_len x hw.1 hl.1 _).1] at hs2
      simp only [Lg, if_true] at h
      obtain ⟨k, ha, hb⟩ := h
      have := ((hx p i k).1 hs1 ha).trans ((h2 _ k j).1 hs2 hb)
      simpa only [sz, Nat.add_assoc] using this
    · simp only [code] at hs
      simp only [Lg, Bool.false_eq_true, if_false] at h
      split at hs
      · rename_i hn
        subst hn
        rcases h with h | h
        · have := (hx p i j).1 hs h
          rw [he]
          simpa [sz, cnt] using this
        · exact absurd h.1 (by decide)
      · rename_i hn
        have hc : cnt l ≠ 0 := fun hc => hn (ls_nil hl.2.2 hc)
        obtain ⟨hs1, hs2⟩ := hs.cons
        obtain ⟨hs2, hs3⟩ := hs2.append
        rw [(code_len x hw.1 hl.1 _).1] at hs3
        obtain ⟨hs3, hs4⟩ := hs3.cons
        rcases h with h | h
        · exact .step (.left hs1 rfl) (((hx (p + 1) i j).1 hs2 h).trans (.step (.jump hs3 rfl) (.refl _ _)))
        · refine .step (.right hs1 rfl) ?_
          show Re P H (p + 2 + sz x) i e j
          rw [show p + 1 + sz x + 1 = p + 2 + sz x by omega] at hs4
          exact (h2 _ i j).2 e hl.2.2 hc (by simp only [sz, cnt] at he; omega) hs4 h
theorem Rn.inv {n c i d j : Nat} (h : Rn P H n c i d j) (hne : c ≠ d) : ∃ m c' i', n = m + 1 ∧ Go1 P H c i c' i' ∧ Rn P H m c' i' d j := by
  cases h with
  | zero => exact absurd rfl hne
  | step h1 h2 => exact ⟨_, _, _, rfl, h1, h2⟩
theorem Go1.of {c i c' i' : Nat} {st : Stp} (h : Go1 P H c i c' i') (hs : P[c]? = some st) : (st.op = 1 ∧ H st.set i ∧ c' = c + 1 ∧ i' = i + 1) ∨ (st.op = 2 ∧ i' = i ∧ (c' = st.a ∨ c' = st.b)) ∨ (st.op = 3 ∧ i' = i ∧ c' = st.a) := by
  cases h with
  | byte a b d => rw [hs] at a; cases a; exact .inl ⟨b, d, rfl, rfl⟩
  | left a b => rw [hs] at a; cases a; exact .inr (.inl ⟨b, rfl, .inl rfl⟩)
  | right a b => rw [hs] at a; cases a; exact .inr (.inl ⟨b, rfl, .inr rfl⟩)
  | jump a b => rw [hs] at a; cases a; exact .inr (.inr ⟨b, rfl, rfl⟩)
theorem Go1.split {c i c' i' a b : Nat} (h : Go1 P H c i c' i') (hs : P[c]? = some (splitS a b)) : i' = i ∧ (c' = a ∨ c' = b) := by
  rcases h.of hs with ⟨h1, _⟩ | ⟨_, h2, h3⟩ | ⟨h1, _⟩
  · exact absurd h1 (fun h => by cases h)
  · exact ⟨h2, h3⟩
  · exact absurd h1 (fun h => by cases h)
theorem Go1.jumped {c i c' i' a : Nat} (h : Go1 P H c i c' i') (hs : P[c]? = some (jumpS a)) : i' = i ∧ c' = a := by
  rcases h.of hs with ⟨h1, _⟩ | ⟨h1, _⟩ | ⟨_, h2, h3⟩
  · exact absurd h1 (fun h => by cases h)
  · exact absurd h1 (fun h => by cases h)
  · exact ⟨h2, h3⟩
theorem bwd (x : Rx) : Wf x → Wl x → ∀ p n i d j, (Seg P p (code x none p) → Rn P H n p i d j → (d < p ∨ p + sz x ≤ d) → ∃ m k, m ≤ n ∧ Lg H x true i k ∧ Rn P H m (p + sz x) k d j) ∧ (∀ e, Ls x → cnt x ≠ 0 → e = p + (sz x + 2 * (cnt x - 1)) → Seg P p (code x (some e) p) → Rn P H n p i d j → (d < p ∨ e ≤ d) → ∃ m k, m ≤ n ∧ Lg H x false i k ∧ Rn P H m e k d j) := by
  induction x with
  | set s =>
    intro _ _ p n i d j
    refine ⟨fun hs h hd => ?_, fun e h => h.elim⟩
    have hd' : p ≠ d := by simp only [sz] at hd; omega
    obtain ⟨m, c', i', rfl, h1, h2⟩ := h.inv hd'
    rcases h1.of hs.cons.1 with ⟨_, h3, rfl, rfl⟩ | ⟨h3, _⟩ | ⟨h3, _⟩
    · exact ⟨m, i + 1, by omega, ⟨h3, rfl⟩, h2⟩
    · exact absurd h3 (fun h => by cases h)
    · exact absurd h3 (fun h => by cases h)
  | nil =>
    intro _ _ p n i d j
    exact ⟨fun hs h hd => ⟨n, i, Nat.le_refl _, ⟨rfl, rfl⟩, h⟩, fun e _ h => absurd rfl h⟩
  | node op l ih =>
    intro hw hl p n i d j
    refine ⟨fun hs h hd => ?_, fun e h => h.elim⟩
    have h1 := ih hw.1 hl.2
    simp only [code] at hs
    simp only [Lg]
    simp only [sz] at hd ⊢
    split at hs
    · rename_i e
      rw [if_pos e] at hd ⊢
      simp only [if_pos e]
      exact (h1 p n i d j).1 hs h hd
    · rename_i n2
      rw [if_neg n2] at hd ⊢
      simp only [if_neg n2]
      split at hs
      · rename_i e
        rw [if_pos e] at hd ⊢
        simp only [if_pos e]
        exact (h1 p n i d j).2 _ hl.1 (hw.2 e) rfl hs h hd
      · rename_i n3
        rw [if_neg n3] at hd ⊢
        simp only [if_neg n3]
        split at hs
        · rename_i e
          rw [if_pos e] at hd ⊢
          simp only [if_pos e]
          obtain ⟨hs1, hs2⟩ := hs.cons
          obtain ⟨hs2, hs3⟩ := hs2.append
          rw [(code_len l hw.1 hl.2 _).1] at hs3
          induction n using Nat.strongRecOn generalizing i with
          | _ n ih2 =>
            obtain ⟨m, c', i', rfl, g1, g2⟩ := h.inv (by omega)
            obtain ⟨rfl, rfl | rfl⟩ := g1.split hs1
            · obtain ⟨m2, k, hm2, hk, g3⟩ := (h1 (p + 1) m i' d j).1 hs2 g2 (by omega)
              obtain ⟨m3, c3, i3, rfl, g4, g5⟩ := g3.inv (by omega)
              obtain ⟨rfl, rfl⟩ := g4.jumped hs3.cons.1
              obtain ⟨m4, k4, hm4, hk4, g6⟩ := ih2 m3 (by omega) i3 g5
              exact ⟨m4, k4, by omega, .step hk hk4, g6⟩
            · exact ⟨m, i', by omega, .refl _, by rwa [show p + 2 + sz l = p + (sz l + 2) by omega] at g2⟩
        · rename_i n4
          rw [if_neg n4] at hd ⊢
          simp only [if_neg n4]
          split at hs
          · rename_i e
            simp only [if_pos e]
            obtain ⟨hs2, hs3⟩ := hs.append
            rw [(code_len l hw.1 hl.2 _).1] at hs3
            induction n using Nat.strongRecOn generalizing i with
            | _ n ih2 =>
              obtain ⟨m2, k, hm2, hk, g3⟩ := (h1 p n i d j).1 hs2 h (by omega)
              obtain ⟨m3, c3, i3, rfl, g4, g5⟩ := g3.inv (by omega)
              obtain ⟨rfl, rfl | rfl⟩ := g4.split hs3.cons.1
              · obtain ⟨m4, k4, hm4, ⟨k5, hk5, hr⟩, g6⟩ := ih2 m3 (by omega) i3 g5
                exact ⟨m4, k4, by omega, ⟨i3, hk, .step hk5 hr⟩, g6⟩
              · exact ⟨m3, i3, by omega, ⟨i3, hk, .refl _⟩, g5⟩
          · rename_i n5
            simp only [if_neg n5]
            obtain ⟨hs1, hs2⟩ := hs.cons
            obtain ⟨m, c', i', rfl, g1, g2⟩ := h.inv (by omega)
            obtain ⟨rfl, rfl | rfl⟩ := g1.split hs1
            · obtain ⟨m2, k, hm2, hk, g3⟩ := (h1 (p + 1) m i' d j).1 hs2 g2 (by omega)
              exact ⟨m2, k, by omega, .inr hk, by rwa [show p + 1 + sz l = p + (sz l + 1) by omega] at g3⟩
            · exact ⟨m, i', by omega, .inl rfl, by rwa [show p + 1 + sz l = p + (sz l + 1) by omega] at g2⟩
  | cons x l ihx ihl =>
    intro hw hl p n i d j
    have hx := ihx hw.1 hl.1
    have h2 := ihl hw.2 hl.2.1
    refine ⟨fun hs h hd => ?_, fun e _ _ he hs h hd => ?_⟩
    · simp only [code] at hs
      simp only [sz] at hd ⊢
      obtain ⟨hs1, hs2⟩ := hs.append
      rw [(code_len x hw.1 hl.1 _).1] at hs2
      obtain ⟨m, k, hm, hk, g1⟩ := (hx p n i d j).1 hs1 h (by omega)
      obtain ⟨m2, k2, hm2, hk2, g2⟩ := (h2 _ m k d j).1 hs2 g1 (by omega)
      exact ⟨m2, k2, by omega, by simp only [Lg, if_true]; exact ⟨k, hk, hk2⟩, by rwa [Nat.add_assoc] at g2⟩
    · simp only [code] at hs
      simp only [Lg, Bool.false_eq_true, if_false]
      simp only [sz, cnt] at he
      split at hs
      · rename_i hn
        subst hn
        simp only [sz, cnt] at he
        obtain ⟨m, k, hm, hk, g1⟩ := (hx p n i d j).1 hs h (by omega)
        exact ⟨m, k, hm, .inl hk, by rwa [show e = p + sz x by omega]⟩
      · rename_i hn
        have hc : cnt l ≠ 0 := fun hc => hn (ls_nil hl.2.2 hc)
        obtain ⟨hs1, hs2⟩ := hs.cons
        obtain ⟨hs2, hs3⟩ := hs2.append
        rw [(code_len x hw.1 hl.1 _).1] at hs3
        obtain ⟨hs3, hs4⟩ := hs3.cons
        rw [show p + 1 + sz x + 1 = p + 2 + sz x by omega] at hs4
        obtain ⟨m, c', i', rfl, g1, g2⟩ := h.inv (by omega)
        obtain ⟨rfl, rfl | rfl⟩ := g1.split hs1
        · obtain ⟨m2, k, hm2, hk, g3⟩ := (hx (p + 1) m i' d j).1 hs2 g2 (by omega)
          obtain ⟨m3, c3, i3, rfl, g4, g5⟩ := g3.inv (by omega)
          obtain ⟨rfl, rfl⟩ := g4.jumped hs3
          exact ⟨m3, i3, by omega, .inl hk, g5⟩
        · obtain ⟨m2, k, hm2, hk, g3⟩ := (h2 _ m i' d j).2 e hl.2.2 hc (by omega) hs4 g2 (by omega)
          exact ⟨m2, k, by omega, .inr hk, g3⟩
end
def whole (x : Rx) : List Stp := code x none 0 ++ [matchS]
theorem whole_len {x : Rx} (hw : Wf x) (hl : Wl x) : (whole x).length = sz x + 1 := by simp [whole, (code_len x hw hl 0).1]
theorem accepts {H : List Nat → Nat → Prop} {x : Rx} (hw : Wf x) (hl : Wl x) (j : Nat) : Re (whole x) H 0 0 (sz x) j ↔ Lg H x true 0 j := by
  have hs : Seg (whole x) 0 (code x none 0) := fun k st hk => by
    rw [Nat.zero_add]; unfold whole
    rw [List.getElem?_append_left (List.getElem?_eq_some_iff.1 hk).1]; exact hk
  constructor
  · rintro ⟨n, hn⟩
    obtain ⟨m, k, _, hk, g⟩ := (bwd x hw hl 0 n 0 (sz x) j).1 hs hn (by omega)
    rw [Nat.zero_add] at g
    cases g with
    | zero => exact hk
    | step g1 _ =>
      have hm : (whole x)[sz x]? = some matchS := by
        unfold whole
        rw [List.getElem?_append_right (by rw [(code_len x hw hl 0).1]; exact Nat.le_refl _), (code_len x hw hl 0).1]
        simp
      rcases g1.of hm with ⟨h, _⟩ | ⟨h, _⟩ | ⟨h, _⟩ <;> exact absurd h (fun h => by cases h)
  · intro h
    have := (fwd (P := whole x) (H := H) x hw hl 0 0 j).1 hs h
    rwa [Nat.zero_add] at this
end Go.Rex
set_option linter.unusedVariables false
set_option linter.unusedSimpArgs false
set_option maxHeartbeats 400000
namespace Go.Rex
def E1 (P : List Stp) (c d : Nat) : Prop := ∃ st, P[c]? = some st ∧ (st.op = 2 ∧ (d = st.a ∨ d = st.b) ∨ st.op = 3 ∧ d = st.a)
def Leaf (P : List Stp) (c : Nat) : Prop := ∃ st, P[c]? = some st ∧ st.op ≠ 2 ∧ st.op ≠ 3
structure Come (P : List Stp) (at_ been r been' : Nat) : Prop where
  sub : ∀ v, been.testBit v = true → been'.testBit v = true
  here : been'.testBit at_ = true
  sound : ∀ v, been'.testBit v = true → been.testBit v = true ∨ Rt (E1 P) at_ v
  closed : ∀ v, been'.testBit v = true → been.testBit v = false → ∀ u, E1 P v u → been'.testBit u = true
  ret : ∀ v, r.testBit v = true ↔ been'.testBit v = true ∧ been.testBit v = false ∧ Leaf P v
section
variable {P : List Stp}
theorem Come.there {c been : Nat} (h : been.testBit c = true) : Come P c been 0 been :=
  ⟨fun _ h => h, h, fun _ h => .inl h, fun v h1 h2 => (by rw [h1] at h2; cases h2), fun v => (by
    constructor
    · intro h; simp at h
    · rintro ⟨h1, h2, _⟩; rw [h1] at h2; cases h2)⟩
theorem bit_or {b c v : Nat} : (b ||| 1 <<< c).testBit v = true ↔ b.testBit v = true ∨ v = c := by
  rw [Nat.testBit_or, Nat.one_shiftLeft, Nat.testBit_two_pow, Bool.or_eq_true, decide_eq_true_eq]
  constructor <;> rintro (h | h) <;> simp [h]
theorem bit_or' {b c v : Nat} : (b ||| 1 <<< c).testBit v = false ↔ b.testBit v = false ∧ v ≠ c := by
  rw [← Bool.not_eq_true, bit_or, not_or, Bool.not_eq_true]
theorem bit_one {c v : Nat} : (1 <<< c).testBit v = true ↔ v = c := by
  have := bit_or (b := 0) (c := c) (v := v)
  simpa using this
theorem Come.leaf {c been : Nat} (h : been.testBit c = false) (hl : Leaf P c) : Come P c been (1 <<< c) (been ||| 1 <<< c) := by
  obtain ⟨st, h1, h2, h3⟩ := hl
  refine ⟨fun v hv => bit_or.2 (.inl hv), bit_or.2 (.inr rfl), fun v hv => ?_, fun v hv hn u hu => ?_, fun v => ?_⟩
  · rcases bit_or.1 hv with h | rfl
    · exact .inl h
    · exact .inr (.refl _)
  · rcases bit_or.1 hv with h' | rfl
    · rw [h'] at hn; cases hn
    · obtain ⟨s2, g1, g2⟩ := hu
      rw [h1] at g1; cases g1
      rcases g2 with ⟨g, _⟩ | ⟨g, _⟩
      · exact absurd g h2
      · exact absurd g h3
  · rw [bit_one]
    constructor
    · rintro rfl; exact ⟨bit_or.2 (.inr rfl), h, st, h1, h2, h3⟩
    · rintro ⟨a, b, _⟩
      rcases bit_or.1 a with h' | h'
      · rw [h'] at b; cases b
      · exact h'
theorem Come.jump {c been r b' : Nat} {st : Stp} (h : been.testBit c = false) (hs : P[c]? = some st) (ho : st.op = 3) (h1 : Come P st.a (been ||| 1 <<< c) r b') : Come P c been r b' := by
  have he : E1 P c st.a := ⟨st, hs, .inr ⟨ho, rfl⟩⟩
  refine ⟨fun v hv => h1.sub v (bit_or.2 (.inl hv)), h1.sub _ (bit_or.2 (.inr rfl)), fun v hv => ?_, fun v hv hn u hu => ?_, fun v => ?_⟩
  · rcases h1.sound v hv with h' | h'
    · rcases bit_or.1 h' with h' | rfl
      · exact .inl h'
      · exact .inr (.refl _)
    · exact .inr (.step he h')
  · by_cases e : v = c
    · subst e
      obtain ⟨s2, g1, g2⟩ := hu
      rw [hs] at g1; cases g1
      rcases g2 with ⟨g, _⟩ | ⟨_, rfl⟩
      · rw [ho] at g; cases g
      · exact h1.here
    · exact h1.closed v hv (bit_or'.2 ⟨hn, e⟩) u hu
  · rw [h1.ret]
    constructor
    · rintro ⟨a, b, d⟩; exact ⟨a, (bit_or'.1 b).1, d⟩
    · rintro ⟨a, b, d⟩
      refine ⟨a, bit_or'.2 ⟨b, ?_⟩, d⟩
      rintro rfl
      obtain ⟨s2, g1, g2, g3⟩ := d
      rw [hs] at g1; cases g1
      exact g3 ho
theorem Come.split {c been r1 b1 r2 b2 : Nat} {st : Stp} (h : been.testBit c = false) (hs : P[c]? = some st) (ho : st.op = 2) (h1 : Come P st.a (been ||| 1 <<< c) r1 b1) (h2 : Come P st.b b1 r2 b2) : Come P c been (r1 ||| r2) b2 := by
  have hea : E1 P c st.a := ⟨st, hs, .inl ⟨ho, .inl rfl⟩⟩
  have heb : E1 P c st.b := ⟨st, hs, .inl ⟨ho, .inr rfl⟩⟩
  refine ⟨fun v hv => h2.sub v (h1.sub v (bit_or.2 (.inl hv))), h2.sub _ (h1.sub _ (bit_or.2 (.inr rfl))), fun v hv => ?_, fun v hv hn u hu => ?_, fun v => ?_⟩
  · rcases h2.sound v hv with h' | h'
    · rcases h1.sound v h' with h' | h'
      · rcases bit_or.1 h' with h' | rfl
        · exact .inl h'
        · exact .inr (.refl _)
      · exact .inr (.step hea h')
    · exact .inr (.step heb h')
  · by_cases e : v = c
    · subst e
      obtain ⟨s2, g1, g2⟩ := hu
      rw [hs] at g1; cases g1
      rcases g2 with ⟨_, rfl | rfl⟩ | ⟨g, _⟩
      · exact h2.sub _ h1.here
      · exact h2.here
      · rw [ho] at g; cases g
    · cases hb : b1.testBit v with
      | true => exact h2.sub _ (h1.closed v hb (bit_or'.2 ⟨hn, e⟩) u hu)
      | false => exact h2.closed v hv hb u hu
  · rw [Nat.testBit_or, Bool.or_eq_true, h1.ret, h2.ret]
    constructor
    · rintro (⟨a, b, d⟩ | ⟨a, b, d⟩)
      · exact ⟨h2.sub _ a, (bit_or'.1 b).1, d⟩
      · refine ⟨a, ?_, d⟩
        cases hv : been.testBit v with
        | false => rfl
        | true => rw [h1.sub v (bit_or.2 (.inl hv))] at b; cases b
    · rintro ⟨a, b, d⟩
      cases hb : b1.testBit v with
      | true =>
        refine .inl ⟨rfl, bit_or'.2 ⟨b, ?_⟩, d⟩
        rintro rfl
        obtain ⟨s2, g1, g2, g3⟩ := d
        rw [hs] at g1; cases g1
        exact g2 ho
      | false => exact .inr ⟨a, rfl, d⟩
def miss (n been : Nat) : Nat := ((List.range n).filter fun v => !been.testBit v).length
theorem miss_lt {n been b' c : Nat} (hc : c < n) (h : been.testBit c = false) (hs : ∀ v, been.testBit v = true → b'.testBit v = true) (h' : b'.testBit c = true) : miss n b' < miss n been := by
  unfold miss
  have key : ∀ l : List Nat, c ∈ l → (l.filter fun v => !b'.testBit v).length < (l.filter fun v => !been.testBit v).length := by
    have le : ∀ l : List Nat, (l.filter fun v => !b'.testBit v).length ≤ (l.filter fun v => !been.testBit v).length := by
      intro l
      induction l with
      | nil => exact Nat.le_refl _
      | cons x l ih =>
        rw [List.filter_cons, List.filter_cons]
        cases hx : been.testBit x with
        | true => simp [hs x hx, ih]
        | false => cases b'.testBit x <;> simp <;> omega
    intro l hl
    induction l with
    | nil => cases hl
    | cons x l ih =>
      rw [List.filter_cons, List.filter_cons]
      rcases List.mem_cons.1 hl with rfl | hl
      · simp only [h, h', Bool.not_true, Bool.not_false, Bool.false_eq_true, if_false, if_true, List.length_cons]
        have := le l
        omega
      · have := ih hl
        cases hx : been.testBit x with
        | true => simp [hs x hx]; omega
        | false => cases b'.testBit x <;> simp <;> omega
  exact key _ (List.mem_range.2 hc)
variable {H : List Nat → Nat → Prop}
def Now (P : List Stp) (H : List Nat → Nat → Prop) (k m : Nat) : Prop := ∀ v, m.testBit v = true ↔ Leaf P v ∧ Re P H 0 0 v k
theorem Re.pos {c i d j : Nat} (h : Re P H c i d j) : i ≤ j := by
  obtain ⟨n, hn⟩ := h
  induction hn with
  | zero => exact Nat.le_refl _
  | step h _ ih => cases h <;> omega
theorem re_eps {c d i : Nat} : Re P H c i d i ↔ Rt (E1 P) c d := by
  constructor
  · rintro ⟨n, hn⟩
    have key : ∀ n c d i j, Rn P H n c i d j → i = j → Rt (E1 P) c d := by
      intro n
      induction n with
      | zero => intro c d i j h e; cases h; exact .refl _
      | succ n ih =>
        intro c d i j h e
        cases h with
        | step h1 h2 =>
          cases h1 with
          | byte => have := Re.pos ⟨n, h2⟩; omega
          | left a b => exact .step ⟨_, a, .inl ⟨b, .inl rfl⟩⟩ (ih _ _ _ _ h2 e)
          | right a b => exact .step ⟨_, a, .inl ⟨b, .inr rfl⟩⟩ (ih _ _ _ _ h2 e)
          | jump a b => exact .step ⟨_, a, .inr ⟨b, rfl⟩⟩ (ih _ _ _ _ h2 e)
    exact key n c d i i hn rfl
  · intro h
    induction h with
    | refl => exact .refl _ _
    | step h _ ih =>
      obtain ⟨st, hs, ⟨ho, rfl | rfl⟩ | ⟨ho, rfl⟩⟩ := h
      · exact .step (.left hs ho) ih
      · exact .step (.right hs ho) ih
      · exact .step (.jump hs ho) ih
theorem last_byte {c i d k : Nat} (h : Re P H c i d (k + 1)) (hi : i ≤ k) : ∃ e st, P[e]? = some st ∧ st.op = 1 ∧ H st.set k ∧ Re P H c i e k ∧ Rt (E1 P) (e + 1) d := by
  obtain ⟨n, hn⟩ := h
  have key : ∀ n c i d j, Rn P H n c i d j → j = k + 1 → i ≤ k → ∃ e st, P[e]? = some st ∧ st.op = 1 ∧ H st.set k ∧ Re P H c i e k ∧ Rt (E1 P) (e + 1) d := by
    intro n
    induction n with
    | zero => intro c i d j h e hi; cases h; omega
    | succ n ih =>
      intro c i d j h e hi
      cases h with
      | step h1 h2 =>
        cases h1 with
        | @byte st a b hh =>
          by_cases hk : i = k
          · subst hk
            subst e
            exact ⟨c, st, a, b, hh, .refl _ _, re_eps.1 ⟨n, h2⟩⟩
          · obtain ⟨e', st', h3, h4, h5, h6, h7⟩ := ih _ _ _ _ h2 e (by omega)
            exact ⟨e', st', h3, h4, h5, .step (.byte a b hh) h6, h7⟩
        | left a b => obtain ⟨e', st', h3, h4, h5, h6, h7⟩ := ih _ _ _ _ h2 e hi; exact ⟨e', st', h3, h4, h5, .step (.left a b) h6, h7⟩
        | right a b => obtain ⟨e', st', h3, h4, h5, h6, h7⟩ := ih _ _ _ _ h2 e hi; exact ⟨e', st', h3, h4, h5, .step (.right a b) h6, h7⟩
        | jump a b => obtain ⟨e', st', h3, h4, h5, h6, h7⟩ := ih _ _ _ _ h2 e hi; exact ⟨e', st', h3, h4, h5, .step (.jump a b) h6, h7⟩
  exact key n c i d _ hn rfl hi
theorem rt_in {been : Nat} (hc : ∀ v, been.testBit v = true → ∀ u, E1 P v u → been.testBit u = true) {c d : Nat} (h : Rt (E1 P) c d) (h0 : been.testBit c = true) : been.testBit d = true := by
  induction h with
  | refl => exact h0
  | step h _ ih => exact ih (hc _ h0 _ h)
theorem Now.start {r b : Nat} (h : Come P 0 0 r b) : Now P H 0 r := by
  intro v
  rw [h.ret, re_eps]
  constructor
  · rintro ⟨a, _, d⟩
    rcases h.sound v a with h' | h'
    · simp at h'
    · exact ⟨d, h'⟩
  · rintro ⟨d, h'⟩
    exact ⟨rt_in (fun v hv u hu => h.closed v hv (by simp) u hu) h' h.here, by simp, d⟩
structure NextI (P : List Stp) (H : List Nat → Nat → Prop) (m k i been r : Nat) : Prop where
  sound : ∀ v, been.testBit v = true → ∃ c st, m.testBit c = true ∧ P[c]? = some st ∧ st.op = 1 ∧ H st.set k ∧ Rt (E1 P) (c + 1) v
  has : ∀ c st, c < i → m.testBit c = true → P[c]? = some st → st.op = 1 → H st.set k → been.testBit (c + 1) = true
  closed : ∀ v, been.testBit v = true → ∀ u, E1 P v u → been.testBit u = true
  ret : ∀ v, r.testBit v = true ↔ been.testBit v = true ∧ Leaf P v
theorem NextI.zero {m k : Nat} : NextI P H m k 0 0 0 := ⟨by simp, fun c st h => by omega, by simp, by simp⟩
theorem NextI.no {m k i been r : Nat} (h : NextI P H m k i been r) (hn : ∀ st, m.testBit i = true → P[i]? = some st → st.op = 1 → ¬ H st.set k) : NextI P H m k (i + 1) been r :=
  ⟨h.sound, fun c st hc h1 h2 h3 h4 => by
    by_cases e : c = i
    · subst e; exact absurd h4 (hn st h1 h2 h3)
    · exact h.has c st (by omega) h1 h2 h3 h4, h.closed, h.ret⟩
theorem NextI.yes {m k i been r r' b' : Nat} {st : Stp} (h : NextI P H m k i been r) (h1 : m.testBit i = true) (h2 : P[i]? = some st) (h3 : st.op = 1) (h4 : H st.set k) (hc : Come P (i + 1) been r' b') : NextI P H m k (i + 1) b' (r ||| r') := by
  refine ⟨fun v hv => ?_, fun c s2 hc2 g1 g2 g3 g4 => ?_, fun v hv u hu => ?_, fun v => ?_⟩
  · rcases hc.sound v hv with h' | h'
    · exact h.sound v h'
    · exact ⟨i, st, h1, h2, h3, h4, h'⟩
  · by_cases e : c = i
    · subst e; exact hc.here
    · exact hc.sub _ (h.has c s2 (by omega) g1 g2 g3 g4)
  · cases hb : been.testBit v with
    | true => exact hc.sub _ (h.closed v hb u hu)
    | false => exact hc.closed v hv hb u hu
  · rw [Nat.testBit_or, Bool.or_eq_true, h.ret, hc.ret]
    constructor
    · rintro (⟨a, b⟩ | ⟨a, _, b⟩)
      · exact ⟨hc.sub _ a, b⟩
      · exact ⟨a, b⟩
    · rintro ⟨a, b⟩
      cases hb : been.testBit v with
      | true => exact .inl ⟨rfl, b⟩
      | false => exact .inr ⟨a, rfl, b⟩
theorem Now.next {m k been r : Nat} (hm : Now P H k m) (h : NextI P H m k P.length been r) : Now P H (k + 1) r := by
  intro v
  rw [h.ret]
  constructor
  · rintro ⟨a, b⟩
    obtain ⟨c, st, h1, h2, h3, h4, h5⟩ := h.sound v a
    exact ⟨b, ((hm c).1 h1).2.trans (.step (.byte h2 h3 h4) (re_eps.2 h5))⟩
  · rintro ⟨b, g⟩
    obtain ⟨e, st, h1, h2, h3, h4, h5⟩ := last_byte g (Nat.zero_le _)
    have he : m.testBit e = true := (hm e).2 ⟨⟨st, h1, by rw [h2]; decide, by rw [h2]; decide⟩, h4⟩
    exact ⟨rt_in h.closed h5 (h.has e st (List.getElem?_eq_some_iff.1 h1).1 he h1 h2 h3), b⟩
end
def okS (n : Nat) (s : Stp) : Prop := s.op = 1 ∧ s.a = 0 ∧ s.b = 0 ∨ s.op = 2 ∧ s.a < n ∧ s.b < n ∧ s.set = zero4 ∨ s.op = 3 ∧ s.a < n ∧ s.b = 0 ∧ s.set = zero4
theorem okS.mono {n m : Nat} {s : Stp} (h : okS n s) (hm : n ≤ m) : okS m s := by
  rcases h with h | ⟨h1, h2, h3, h4⟩ | ⟨h1, h2, h3, h4⟩
  · exact .inl h
  · exact .inr (.inl ⟨h1, by omega, by omega, h4⟩)
  · exact .inr (.inr ⟨h1, by omega, h3, h4⟩)
theorem code_ok (x : Rx) : Wf x → Wl x → ∀ p, (∀ s ∈ code x none p, okS (p + sz x + 1) s) ∧ ∀ e, Ls x → cnt x ≠ 0 → e = p + (sz x + 2 * (cnt x - 1)) → ∀ s ∈ code x (some e) p, okS (e + 1) s := by
  induction x with
  | set s =>
    intro _ _ p
    refine ⟨fun s hs => ?_, fun e h => h.elim⟩
    simp [code] at hs; subst hs; exact .inl ⟨rfl, rfl, rfl⟩
  | nil => intro _ _ p; exact ⟨fun s hs => by simp [code] at hs, fun e _ h => absurd rfl h⟩
  | node op l ih =>
    intro hw hl p
    refine ⟨fun s hs => ?_, fun e h => h.elim⟩
    have h1 := ih hw.1 hl.2
    simp only [code] at hs
    simp only [sz]
    split at hs
    · rename_i e; rw [if_pos e]; exact (h1 p).1 s hs
    · rename_i n2
      rw [if_neg n2]
      split at hs
      · rename_i e; rw [if_pos e]
        exact (h1 p).2 _ hl.1 (hw.2 e) rfl s hs
      · rename_i n3
        rw [if_neg n3]
        split at hs
        · rename_i e; rw [if_pos e]
          rcases List.mem_cons.1 hs with rfl | hs
          · exact .inr (.inl ⟨rfl, by simp only [splitS]; omega, by simp only [splitS]; omega, rfl⟩)
          · rcases List.mem_append.1 hs with hs | hs
            · exact ((h1 _).1 s hs).mono (by omega)
            · simp at hs; subst hs; exact .inr (.inr ⟨rfl, by simp [jumpS]; omega, rfl, rfl⟩)
        · rename_i n4
          rw [if_neg n4]
          split at hs
          · rcases List.mem_append.1 hs with hs | hs
            · exact ((h1 _).1 s hs).mono (by omega)
            · simp at hs; subst hs; exact .inr (.inl ⟨rfl, by simp only [splitS]; omega, by simp only [splitS]; omega, rfl⟩)
          · rcases List.mem_cons.1 hs with rfl | hs
            · exact .inr (.inl ⟨rfl, by simp only [splitS]; omega, by simp only [splitS]; omega, rfl⟩)
            · exact ((h1 _).1 s hs).mono (by omega)
  | cons x l ihx ihl =>
    intro hw hl p
    have hx := ihx hw.1 hl.1
    have h2 := ihl hw.2 hl.2.1
    refine ⟨fun s hs => ?_, fun e _ _ he s hs => ?_⟩
    · simp only [code] at hs
      simp only [sz]
      rcases List.mem_append.1 hs with hs | hs
      · exact ((hx p).1 s hs).mono (by omega)
      · exact ((h2 _).1 s hs).mono (by omega)
    · simp only [code] at hs
      simp only [sz, cnt] at he
      split at hs
      · rename_i hn
        subst hn
        simp only [sz, cnt] at he
        exact ((hx p).1 s hs).mono (by omega)
      · rename_i hn
        have hc : cnt l ≠ 0 := fun hc => hn (ls_nil hl.2.2 hc)
        rcases List.mem_cons.1 hs with rfl | hs
        · exact .inr (.inl ⟨rfl, by simp only [splitS]; omega, by simp only [splitS]; omega, rfl⟩)
        · rcases List.mem_append.1 hs with hs | hs
          · exact ((hx _).1 s hs).mono (by omega)
          · rcases List.mem_cons.1 hs with rfl | hs
            · exact .inr (.inr ⟨rfl, by simp [jumpS], rfl, rfl⟩)
            · exact ((h2 _).2 e hl.2.2 hc (by omega) s hs)
theorem whole_at {x : Rx} (hw : Wf x) (hl : Wl x) {c : Nat} {st : Stp} (h : (whole x)[c]? = some st) : (c < sz x ∧ okS (sz x + 1) st) ∨ c = sz x ∧ st = matchS := by
  unfold whole at h
  have hlen := (code_len x hw hl 0).1
  by_cases hc : c < sz x
  · rw [List.getElem?_append_left (by omega)] at h
    have := (code_ok x hw hl 0).1 st (List.mem_of_getElem? h)
    rw [Nat.zero_add] at this
    exact .inl ⟨hc, this⟩
  · rw [List.getElem?_append_right (by omega), hlen] at h
    cases hk : c - sz x with
    | zero => rw [hk] at h; simp at h; exact .inr ⟨by omega, h.symm⟩
    | succ q => rw [hk] at h; simp at h
theorem whole_match {x : Rx} (hw : Wf x) (hl : Wl x) {H : List Nat → Nat → Prop} {k m : Nat} (hm : Now (whole x) H k m) : (∃ c st, m.testBit c = true ∧ (whole x)[c]? = some st ∧ st.op = 4) ↔ Lg H x true 0 k := by
  rw [← accepts hw hl]
  constructor
  · rintro ⟨c, st, h1, h2, h3⟩
    rcases whole_at hw hl h2 with ⟨_, h4⟩ | ⟨rfl, _⟩
    · rcases h4 with ⟨h4, _⟩ | ⟨h4, _⟩ | ⟨h4, _⟩ <;> rw [h3] at h4 <;> cases h4
    · exact ((hm _).1 h1).2
  · intro h
    have hlen := (code_len x hw hl 0).1
    have hs : (whole x)[sz x]? = some matchS := by
      unfold whole
      rw [List.getElem?_append_right (by omega), hlen]; simp
    exact ⟨sz x, matchS, (hm _).2 ⟨⟨matchS, hs, by decide, by decide⟩, h⟩, hs, rfl⟩
end Go.Rex
set_option linter.unusedVariables false
set_option linter.unusedSimpArgs false
set_option maxHeartbeats 400000
namespace Go.Rex
open Go.X
def b8 (s : ByteArray) (i : Nat) : Nat := (bt s i).toNat
theorem b8_lt (s : ByteArray) (i : Nat) : b8 s i < 256 := UInt8.toNat_lt _
def setBit (l : List Nat) (c : Nat) : List Nat := l.modify (c / 64) (· ||| 1 <<< (c % 64))
def addG (l : List Nat) (a b : Nat) : List Nat := (List.range' a (b + 1 - a)).foldl setBit l
def invS (l : List Nat) : List Nat := l.map (18446744073709551615 - ·)
theorem setBit_len (l : List Nat) (c : Nat) : (setBit l c).length = l.length := by simp [setBit]
theorem setBit_lt {l : List Nat} (h : ∀ x ∈ l, x < 18446744073709551616) (c : Nat) : ∀ x ∈ setBit l c, x < 18446744073709551616 := by
  intro x hx
  unfold setBit at hx
  obtain ⟨i, hi⟩ := List.getElem?_of_mem hx
  simp only [List.getElem?_modify] at hi
  cases hl : l[i]? with
  | none => simp [hl] at hi
  | some y =>
    have hy := h y (List.mem_of_getElem? hl)
    simp only [hl, Option.map_some] at hi
    split at hi
    · simp at hi
      subst hi
      have h1 : (1 <<< (c % 64)) < 2 ^ 64 := by rw [Nat.shiftLeft_eq, Nat.one_mul]; exact Nat.pow_lt_pow_right (by omega) (Nat.mod_lt _ (by omega))
      exact Nat.or_lt_two_pow (n := 64) hy h1
    · simp at hi; subst hi; exact hy
theorem invS_lt (l : List Nat) : ∀ x ∈ invS l, x < 18446744073709551616 := by
  intro x hx
  obtain ⟨y, _, rfl⟩ := List.mem_map.1 hx
  omega
theorem addG_len (a b : Nat) : ∀ l : List Nat, (addG l a b).length = l.length := by
  unfold addG
  generalize List.range' a (b + 1 - a) = r
  induction r with
  | nil => intro l; rfl
  | cons x r ih => intro l; simp only [List.foldl_cons, ih, setBit_len]
theorem addG_lt (a b : Nat) : ∀ {l : List Nat}, (∀ x ∈ l, x < 18446744073709551616) → ∀ x ∈ addG l a b, x < 18446744073709551616 := by
  unfold addG
  generalize List.range' a (b + 1 - a) = r
  induction r with
  | nil => intro l h; exact h
  | cons x r ih => intro l h; exact ih (setBit_lt h x)
def W4 (l : List Nat) : Prop := l.length = 4 ∧ ∀ x ∈ l, x < 18446744073709551616
theorem W4.zero : W4 zero4 := ⟨rfl, by simp [zero4]⟩
theorem W4.bit {l : List Nat} (h : W4 l) (c : Nat) : W4 (setBit l c) := ⟨(setBit_len l c).trans h.1, setBit_lt h.2 c⟩
theorem W4.add {l : List Nat} (h : W4 l) (a b : Nat) : W4 (addG l a b) := ⟨(addG_len a b l).trans h.1, addG_lt a b h.2⟩
theorem W4.inv {l : List Nat} (h : W4 l) : W4 (invS l) := ⟨by simpa [invS] using h.1, invS_lt l⟩
def quotedS (c : Nat) : Bool := decide (c = 124 ∨ c = 42 ∨ c = 43 ∨ c = 63 ∨ c = 40 ∨ c = 41 ∨ c = 91 ∨ c = 93 ∨ c = 46 ∨ c = 92 ∨ c = 94 ∨ c = 45)
def signS (s : ByteArray) (i : Nat) : Option (Nat × Nat) := if i < s.size ∧ quotedS (b8 s i) = true then some (b8 s i, i + 1) else none
def memS (s : ByteArray) (i : Nat) : Option (Nat × Nat) :=
  if i < s.size then if b8 s i = 92 then signS s (i + 1) else if b8 s i = 93 ∨ b8 s i = 91 ∨ b8 s i = 94 ∨ b8 s i = 45 then none else some (b8 s i, i + 1) else none
def toS (s : ByteArray) (a i : Nat) : Option (Nat × Nat) := if i < s.size ∧ b8 s i = 45 then memS s (i + 1) else some (a, i)
def clsL (s : ByteArray) : Nat → Nat → List Nat → Option (List Nat × Nat)
  | 0, _, _ => none
  | n + 1, i, set => if i < s.size then if b8 s i = 93 then some (set, i + 1) else
      match memS s i with
      | none => none
      | some (a, i1) => match toS s a i1 with
        | none => none
        | some (b, i2) => if b < a then none else clsL s n i2 (addG set a b)
    else none
def notS (s : ByteArray) (i : Nat) : Bool := decide (i < s.size ∧ b8 s i = 94)
def clsB (s : ByteArray) (no : Bool) (i : Nat) : Option (List Nat × Nat) :=
  if i < s.size ∧ b8 s i = 93 then none else match clsL s (s.size + 1) i zero4 with
    | none => none
    | some (set, j) => some (if no then invS set else set, j)
def clsS (s : ByteArray) (i : Nat) : Option (List Nat × Nat) := clsB s (notS s i) (if notS s i then i + 1 else i)
theorem signS_adv {s : ByteArray} {i b j : Nat} (h : signS s i = some (b, j)) : i < j ∧ j ≤ s.size ∧ b < 256 := by
  unfold signS at h
  split at h
  · simp at h; have := b8_lt s i; omega
  · cases h
theorem memS_adv {s : ByteArray} {i b j : Nat} (h : memS s i = some (b, j)) : i < j ∧ j ≤ s.size ∧ b < 256 := by
  unfold memS at h
  split at h
  · split at h
    · have := signS_adv h; omega
    · split at h
      · cases h
      · simp at h; have := b8_lt s i; omega
  · cases h
theorem toS_adv {s : ByteArray} {a i b j : Nat} (h : toS s a i = some (b, j)) (hi : i ≤ s.size) (ha : a < 256) : i ≤ j ∧ j ≤ s.size ∧ b < 256 := by
  unfold toS at h
  split at h
  · have := memS_adv h; omega
  · simp at h; omega
theorem clsL_adv {s : ByteArray} : ∀ {n i : Nat} {set t : List Nat} {j : Nat}, clsL s n i set = some (t, j) → W4 set → i < j ∧ j ≤ s.size ∧ W4 t
  | 0, _, _, _, _, h, _ => by simp [clsL] at h
  | n + 1, i, set, t, j, h, hw => by
    unfold clsL at h
    split at h
    · split at h
      · simp at h; obtain ⟨rfl, rfl⟩ := h; exact ⟨by omega, by omega, hw⟩
      · cases hm : memS s i with
        | none => rw [hm] at h; cases h
        | some p =>
          obtain ⟨a, i1⟩ := p
          rw [hm] at h
          simp only at h
          have h1 := memS_adv hm
          cases ht : toS s a i1 with
          | none => rw [ht] at h; cases h
          | some q =>
            obtain ⟨b, i2⟩ := q
            rw [ht] at h
            simp only at h
            have h2 := toS_adv ht h1.2.1 h1.2.2
            split at h
            · cases h
            · have h3 := clsL_adv h (hw.add a b)
              exact ⟨by omega, h3.2⟩
    · cases h
theorem clsB_adv {s : ByteArray} {no : Bool} {i : Nat} {t : List Nat} {j : Nat} (h : clsB s no i = some (t, j)) : i < j ∧ j ≤ s.size ∧ W4 t := by
  unfold clsB at h
  split at h
  · cases h
  · cases hc : clsL s (s.size + 1) i zero4 with
    | none => rw [hc] at h; cases h
    | some p =>
      obtain ⟨u, k⟩ := p
      rw [hc] at h
      simp only [Option.some.injEq, Prod.mk.injEq] at h
      obtain ⟨rfl, rfl⟩ := h
      have h1 := clsL_adv hc W4.zero
      refine ⟨h1.1, h1.2.1, ?_⟩
      split
      · exact h1.2.2.inv
      · exact h1.2.2
theorem clsS_adv {s : ByteArray} {i : Nat} {t : List Nat} {j : Nat} (h : clsS s i = some (t, j)) : i < j ∧ j ≤ s.size ∧ W4 t := by
  have h1 := clsB_adv h
  refine ⟨?_, h1.2⟩
  have := h1.1
  split at this <;> omega
def lstS : List Rx → Rx
  | [] => .nil
  | x :: l => .cons x (lstS l)
def mkN (op : Nat) : List Rx → Rx
  | [x] => x
  | l => .node op (lstS l)
def onlyS (op : Nat) (x : Rx) : Rx := .node op (.cons x .nil)
def grpS (s : ByteArray) : Option (Rx × Nat) → Option (Rx × Nat)
  | some (x, j) => if j < s.size ∧ b8 s j = 41 then some (x, j + 1) else none
  | none => none
def atomS (s : ByteArray) (g : Nat → Option (Rx × Nat)) (i : Nat) : Option (Rx × Nat) :=
  if b8 s i = 40 then grpS s (g (i + 1)) else if b8 s i = 91 then (clsS s (i + 1)).map (fun p => (.set p.1, p.2))
  else if b8 s i = 46 then some (.set (invS zero4), i + 1) else if b8 s i = 92 then (signS s (i + 1)).map (fun p => (.set (setBit zero4 p.1), p.2))
  else if b8 s i = 42 ∨ b8 s i = 43 ∨ b8 s i = 63 ∨ b8 s i = 93 then none else some (.set (setBit zero4 (b8 s i)), i + 1)
def oftS (s : ByteArray) (x : Rx) (j : Nat) : Rx × Nat :=
  if j < s.size then if b8 s j = 42 then (onlyS 4 x, j + 1) else if b8 s j = 43 then (onlyS 5 x, j + 1) else if b8 s j = 63 then (onlyS 6 x, j + 1) else (x, j) else (x, j)
def factorS (s : ByteArray) (g : Nat → Option (Rx × Nat)) (i : Nat) : Option (Rx × Nat) := (atomS s g i).map fun p => oftS s p.1 p.2
def goesS (s : ByteArray) (i : Nat) : Bool := decide (i < s.size ∧ b8 s i ≠ 124 ∧ b8 s i ≠ 41)
def wayL (s : ByteArray) (g : Nat → Option (Rx × Nat)) : Nat → Nat → List Rx → Option (List Rx × Nat)
  | 0, _, _ => none
  | n + 1, i, acc => if goesS s i then match factorS s g i with
      | none => none
      | some (x, j) => wayL s g n j (acc ++ [x])
    else some (acc, i)
def wayS (s : ByteArray) (g : Nat → Option (Rx × Nat)) (i : Nat) : Option (Rx × Nat) := (wayL s g (s.size + 1) i []).map fun p => (mkN 2 p.1, p.2)
def barS (s : ByteArray) (i : Nat) : Bool := decide (i < s.size ∧ b8 s i = 124)
def waysL (s : ByteArray) (g : Nat → Option (Rx × Nat)) : Nat → Nat → List Rx → Option (List Rx × Nat)
  | 0, _, _ => none
  | n + 1, i, acc => if barS s i then match wayS s g (i + 1) with
      | none => none
      | some (x, j) => waysL s g n j (acc ++ [x])
    else some (acc, i)
def waysS (s : ByteArray) (g : Nat → Option (Rx × Nat)) (i : Nat) : Option (Rx × Nat) := match wayS s g i with
  | none => none
  | some (x, j) => (waysL s g (s.size + 1) j [x]).map fun p => (mkN 3 p.1, p.2)
def par (s : ByteArray) : Nat → Nat → Option (Rx × Nat)
  | 0, i => waysS s (fun _ => none) i
  | r + 1, i => waysS s (par s r) i
def parseS (s : ByteArray) : Option Rx := if 40 < s.size then none else match par s 8 0 with
  | some (x, j) => if j < s.size then none else some x
  | none => none
end Go.Rex
set_option linter.unusedVariables false
set_option linter.unusedSimpArgs false
set_option maxHeartbeats 400000
namespace Go.Rex
open Go.X
def Tr : Bool → Rx → Prop
  | false, .set s => W4 s
  | false, .node op l => (op = 2 ∨ op = 3 ∧ cnt l ≠ 0 ∨ (op = 4 ∨ op = 5 ∨ op = 6) ∧ cnt l = 1) ∧ Tr true l
  | true, .nil => True
  | true, .cons x l => Tr false x ∧ Tr true l
  | true, .set _ => False
  | true, .node _ _ => False
  | false, .nil => False
  | false, .cons _ _ => False
theorem tr_wf : ∀ (x : Rx) (b : Bool), Tr b x → Wf x ∧ Wl x ∧ (b = true → Ls x)
  | .set s, true, h => h.elim
  | .set s, false, h => ⟨trivial, trivial, fun h => by cases h⟩
  | .node op l, true, h => h.elim
  | .node op l, false, h => by
    obtain ⟨h1, h2⟩ := h
    obtain ⟨a, b, c⟩ := tr_wf l true h2
    exact ⟨⟨a, fun e => by subst e; simp at h1; exact h1⟩, ⟨c rfl, b⟩, fun h => by cases h⟩
  | .nil, true, _ => ⟨trivial, trivial, fun _ => trivial⟩
  | .nil, false, h => h.elim
  | .cons x l, false, h => h.elim
  | .cons x l, true, h => by
    obtain ⟨h1, h2⟩ := h
    obtain ⟨a, b, c⟩ := tr_wf l true h2
    obtain ⟨a', b', _⟩ := tr_wf x false h1
    exact ⟨⟨a', a⟩, ⟨b', b, c rfl⟩, fun _ => c rfl⟩
theorem cnt_lst : ∀ l : List Rx, cnt (lstS l) = l.length
  | [] => rfl
  | x :: l => by simp [lstS, cnt, cnt_lst l]
theorem tr_lst : ∀ l : List Rx, (∀ x ∈ l, Tr false x) → Tr true (lstS l)
  | [], _ => trivial
  | x :: l, h => ⟨h x (by simp), tr_lst l fun y hy => h y (by simp [hy])⟩
theorem tr_mk {op : Nat} {l : List Rx} (h : ∀ x ∈ l, Tr false x) (ho : op = 2 ∨ op = 3 ∧ l ≠ []) : Tr false (mkN op l) := by
  match l, h, ho with
  | [], h, ho => exact ⟨by rcases ho with rfl | ⟨_, h⟩; exact .inl rfl; exact absurd rfl h, trivial⟩
  | [x], h, _ => exact h x (by simp)
  | x :: y :: l, h, ho => exact ⟨by rcases ho with rfl | ⟨rfl, _⟩; exact .inl rfl; exact .inr (.inl ⟨rfl, by simp [lstS, cnt]⟩), tr_lst _ h⟩
def GoodG (g : Nat → Option (Rx × Nat)) : Prop := ∀ i x j, g i = some (x, j) → Tr false x
theorem tr_only {op : Nat} {x : Rx} (h : Tr false x) (ho : op = 4 ∨ op = 5 ∨ op = 6) : Tr false (onlyS op x) := ⟨.inr (.inr ⟨ho, rfl⟩), h, trivial⟩
theorem factor_tr {s : ByteArray} {g : Nat → Option (Rx × Nat)} (hg : GoodG g) : GoodG (factorS s g) := by
  have ha : GoodG (atomS s g) := by
    intro i x j h
    unfold atomS at h
    split at h
    · cases hgi : g (i + 1) with
      | none => rw [hgi] at h; cases h
      | some q =>
        obtain ⟨y, k⟩ := q
        rw [hgi] at h
        have h' : (if k < s.size ∧ b8 s k = 41 then some (y, k + 1) else none) = some (x, j) := h
        split at h'
        · simp at h'; obtain ⟨rfl, _⟩ := h'; exact hg _ _ _ hgi
        · cases h'
    · split at h
      · cases hc : clsS s (i + 1) with
        | none => rw [hc] at h; cases h
        | some q => rw [hc] at h; simp at h; obtain ⟨rfl, _⟩ := h; exact (clsS_adv (t := q.1) (j := q.2) hc).2.2
      · split at h
        · simp at h; obtain ⟨rfl, _⟩ := h; exact W4.zero.inv
        · split at h
          · cases hc : signS s (i + 1) with
            | none => rw [hc] at h; cases h
            | some q => rw [hc] at h; simp at h; obtain ⟨rfl, _⟩ := h; exact W4.zero.bit _
          · split at h
            · cases h
            · simp at h; obtain ⟨rfl, _⟩ := h; exact W4.zero.bit _
  intro i x j h
  unfold factorS at h
  cases hat : atomS s g i with
  | none => rw [hat] at h; cases h
  | some q =>
    obtain ⟨y, k⟩ := q
    have h1 := ha _ _ _ hat
    rw [hat] at h
    simp only [Option.map_some, Option.some.injEq] at h
    unfold oftS at h
    split at h
    · split at h
      · simp at h; obtain ⟨rfl, _⟩ := h; exact tr_only h1 (.inl rfl)
      · split at h
        · simp at h; obtain ⟨rfl, _⟩ := h; exact tr_only h1 (.inr (.inl rfl))
        · split at h
          · simp at h; obtain ⟨rfl, _⟩ := h; exact tr_only h1 (.inr (.inr rfl))
          · simp at h; obtain ⟨rfl, _⟩ := h; exact h1
    · simp at h; obtain ⟨rfl, _⟩ := h; exact h1
theorem wayL_tr {s : ByteArray} {g : Nat → Option (Rx × Nat)} (hg : GoodG g) : ∀ {n i : Nat} {acc xs : List Rx} {j : Nat}, (∀ x ∈ acc, Tr false x) → wayL s g n i acc = some (xs, j) → ∀ x ∈ xs, Tr false x
  | 0, _, _, _, _, _, h => by simp [wayL] at h
  | n + 1, i, acc, xs, j, ha, h => by
    unfold wayL at h
    split at h
    · cases hf : factorS s g i with
      | none => rw [hf] at h; cases h
      | some q =>
        obtain ⟨x, k⟩ := q
        rw [hf] at h
        exact wayL_tr hg (n := n) (i := k) (fun y hy => by
          rcases List.mem_append.1 hy with h1 | h1
          · exact ha y h1
          · simp at h1; subst h1; exact factor_tr hg _ _ _ hf) h
    · simp at h; obtain ⟨rfl, _⟩ := h; exact ha
theorem way_tr {s : ByteArray} {g : Nat → Option (Rx × Nat)} (hg : GoodG g) : GoodG (wayS s g) := by
  intro i x j h
  unfold wayS at h
  cases hw : wayL s g (s.size + 1) i [] with
  | none => rw [hw] at h; cases h
  | some q =>
    rw [hw] at h
    simp at h
    obtain ⟨rfl, _⟩ := h
    exact tr_mk (wayL_tr hg (acc := []) (by simp) (xs := q.1) (j := q.2) hw) (.inl rfl)
theorem waysL_tr {s : ByteArray} {g : Nat → Option (Rx × Nat)} (hg : GoodG g) : ∀ {n i : Nat} {acc xs : List Rx} {j : Nat}, acc ≠ [] → (∀ x ∈ acc, Tr false x) → waysL s g n i acc = some (xs, j) → xs ≠ [] ∧ ∀ x ∈ xs, Tr false x
  | 0, _, _, _, _, _, _, h => by simp [waysL] at h
  | n + 1, i, acc, xs, j, hne, ha, h => by
    unfold waysL at h
    split at h
    · cases hf : wayS s g (i + 1) with
      | none => rw [hf] at h; cases h
      | some q =>
        obtain ⟨x, k⟩ := q
        rw [hf] at h
        exact waysL_tr hg (n := n) (i := k) (by simp) (fun y hy => by
          rcases List.mem_append.1 hy with h1 | h1
          · exact ha y h1
          · simp at h1; subst h1; exact way_tr hg _ _ _ hf) h
    · simp at h; obtain ⟨rfl, _⟩ := h; exact ⟨hne, ha⟩
theorem ways_tr {s : ByteArray} {g : Nat → Option (Rx × Nat)} (hg : GoodG g) : GoodG (waysS s g) := by
  intro i x j h
  unfold waysS at h
  cases hw : wayS s g i with
  | none => rw [hw] at h; cases h
  | some q =>
    obtain ⟨y, k⟩ := q
    rw [hw] at h
    have h1 := way_tr hg _ _ _ hw
    simp only at h
    cases hl : waysL s g (s.size + 1) k [y] with
    | none => rw [hl] at h; cases h
    | some q2 =>
      rw [hl] at h
      simp at h
      obtain ⟨rfl, _⟩ := h
      have h2 := waysL_tr hg (acc := [y]) (by simp) (by simpa using h1) (xs := q2.1) (j := q2.2) hl
      exact tr_mk h2.2 (.inr ⟨rfl, h2.1⟩)
theorem par_tr (s : ByteArray) : ∀ r, GoodG (par s r)
  | 0 => ways_tr fun _ _ _ h => by cases h
  | r + 1 => ways_tr (par_tr s r)
theorem parse_tr {s : ByteArray} {x : Rx} (h : parseS s = some x) : Tr false x := by
  unfold parseS at h
  split at h
  · cases h
  · cases hp : par s 8 0 with
    | none => rw [hp] at h; cases h
    | some q =>
      obtain ⟨y, j⟩ := q
      rw [hp] at h
      simp only at h
      split at h
      · cases h
      · cases h; exact par_tr s 8 _ _ _ hp
def kidsR : Rx → List Rx
  | .cons x l => x :: kidsR l
  | _ => []
theorem kids_len : ∀ l : Rx, (kidsR l).length = cnt l
  | .cons x l => by simp [kidsR, cnt, kids_len l]
  | .set _ => rfl
  | .node _ _ => rfl
  | .nil => rfl
theorem kids_tr : ∀ {l : Rx}, Tr true l → ∀ x ∈ kidsR l, Tr false x
  | .cons x l, h, y, hy => by
    simp only [kidsR, List.mem_cons] at hy
    rcases hy with rfl | hy
    · exact h.1
    · exact kids_tr h.2 y hy
  | .nil, _, y, hy => by simp [kidsR] at hy
  | .set _, h, _, _ => h.elim
  | .node _ _, h, _, _ => h.elim
theorem lst_kids : ∀ {l : Rx}, Tr true l → lstS (kidsR l) = l
  | .cons x l, h => by simp [kidsR, lstS, lst_kids h.2]
  | .nil, _ => rfl
  | .set _, h => h.elim
  | .node _ _, h => h.elim
def hiR : Rx → Nat
  | .set _ => 1
  | .node _ l => hiR l + 1
  | .nil => 0
  | .cons x l => max (hiR x) (hiR l)
theorem hiR_kid : ∀ {l : Rx} {x : Rx}, x ∈ kidsR l → hiR x ≤ hiR l
  | .cons y l, x, h => by
    simp only [kidsR, List.mem_cons] at h
    simp only [hiR]
    rcases h with rfl | h
    · omega
    · have := hiR_kid h; omega
  | .nil, _, h => by simp [kidsR] at h
  | .set _, _, h => by simp [kidsR] at h
  | .node _ _, _, h => by simp [kidsR] at h
theorem sz_cons : ∀ l : Rx, Tr true l → sz l = ((kidsR l).map sz).sum
  | .cons x l, h => by simp [kidsR, sz, sz_cons l h.2]
  | .nil, _ => rfl
  | .set _, h => h.elim
  | .node _ _, h => h.elim
section
variable (H : List Nat → Nat → Prop)
end
end Go.Rex
set_option linter.unusedVariables false
set_option linter.unusedSimpArgs false
set_option maxHeartbeats 400000
namespace Go.Rex
open Go.X
def SmallG (g : Nat → Option (Rx × Nat)) : Prop := ∀ i x j, g i = some (x, j) → sz x + 2 * i ≤ 2 * j
theorem sz_snoc : ∀ (l : List Rx) (x : Rx), sz (lstS (l ++ [x])) = sz (lstS l) + sz x
  | [], x => by simp [lstS, sz]
  | y :: l, x => by simp [lstS, sz, sz_snoc l x]; omega
theorem sz_mk {op : Nat} {l : List Rx} (ho : op = 2 ∨ op = 3) : sz (mkN op l) ≤ sz (lstS l) + (if op = 3 then 2 * (l.length - 1) else 0) := by
  match l with
  | [] => rcases ho with rfl | rfl <;> simp [mkN, sz, lstS, cnt]
  | [x] => rcases ho with rfl | rfl <;> simp [mkN, sz, lstS]
  | x :: y :: l => rcases ho with rfl | rfl <;> simp [mkN, sz, lstS, cnt, cnt_lst]
theorem factor_sz {s : ByteArray} {g : Nat → Option (Rx × Nat)} (hg : SmallG g) : SmallG (factorS s g) := by
  have ha : SmallG (atomS s g) := by
    intro i x j h
    unfold atomS at h
    split at h
    · cases hgi : g (i + 1) with
      | none => rw [hgi] at h; cases h
      | some q =>
        obtain ⟨y, k⟩ := q
        rw [hgi] at h
        have h' : (if k < s.size ∧ b8 s k = 41 then some (y, k + 1) else none) = some (x, j) := h
        split at h'
        · simp at h'; obtain ⟨rfl, rfl⟩ := h'; have := hg _ _ _ hgi; omega
        · cases h'
    · split at h
      · cases hc : clsS s (i + 1) with
        | none => rw [hc] at h; cases h
        | some q => rw [hc] at h; simp at h; obtain ⟨rfl, rfl⟩ := h; have := (clsS_adv (t := q.1) (j := q.2) hc).1; simp only [sz]; omega
      · split at h
        · simp at h; obtain ⟨rfl, rfl⟩ := h; simp only [sz]; omega
        · split at h
          · cases hc : signS s (i + 1) with
            | none => rw [hc] at h; cases h
            | some q => rw [hc] at h; simp at h; obtain ⟨rfl, rfl⟩ := h; have := (signS_adv (b := q.1) (j := q.2) hc).1; simp only [sz]; omega
          · split at h
            · cases h
            · simp at h; obtain ⟨rfl, rfl⟩ := h; simp only [sz]; omega
  intro i x j h
  unfold factorS at h
  cases hat : atomS s g i with
  | none => rw [hat] at h; cases h
  | some q =>
    obtain ⟨y, k⟩ := q
    have h1 := ha _ _ _ hat
    rw [hat] at h
    simp only [Option.map_some, Option.some.injEq] at h
    unfold oftS at h
    split at h
    · split at h
      · simp at h; obtain ⟨rfl, rfl⟩ := h; simp [onlyS, sz]; omega
      · split at h
        · simp at h; obtain ⟨rfl, rfl⟩ := h; simp [onlyS, sz]; omega
        · split at h
          · simp at h; obtain ⟨rfl, rfl⟩ := h; simp [onlyS, sz]; omega
          · simp at h; obtain ⟨rfl, rfl⟩ := h; exact h1
    · simp at h; obtain ⟨rfl, rfl⟩ := h; exact h1
theorem wayL_sz {s : ByteArray} {g : Nat → Option (Rx × Nat)} (hg : SmallG g) {i0 : Nat} : ∀ {n i : Nat} {acc xs : List Rx} {j : Nat}, sz (lstS acc) + 2 * i0 ≤ 2 * i → wayL s g n i acc = some (xs, j) → sz (lstS xs) + 2 * i0 ≤ 2 * j
  | 0, _, _, _, _, _, h => by simp [wayL] at h
  | n + 1, i, acc, xs, j, ha, h => by
    unfold wayL at h
    split at h
    · cases hf : factorS s g i with
      | none => rw [hf] at h; cases h
      | some q =>
        obtain ⟨x, k⟩ := q
        rw [hf] at h
        exact wayL_sz hg (n := n) (i := k) (by rw [sz_snoc]; have := factor_sz hg _ _ _ hf; omega) h
    · simp at h; obtain ⟨rfl, rfl⟩ := h; exact ha
theorem way_sz {s : ByteArray} {g : Nat → Option (Rx × Nat)} (hg : SmallG g) : SmallG (wayS s g) := by
  intro i x j h
  unfold wayS at h
  cases hw : wayL s g (s.size + 1) i [] with
  | none => rw [hw] at h; cases h
  | some q =>
    rw [hw] at h
    simp at h
    obtain ⟨rfl, rfl⟩ := h
    have h1 := wayL_sz hg (i0 := i) (by simp [lstS, sz]) (xs := q.1) (j := q.2) hw
    have h2 := sz_mk (op := 2) (l := q.1) (.inl rfl)
    simp at h2
    omega
theorem waysL_sz {s : ByteArray} {g : Nat → Option (Rx × Nat)} (hg : SmallG g) {i0 : Nat} : ∀ {n i : Nat} {acc xs : List Rx} {j : Nat}, acc ≠ [] → sz (lstS acc) + 2 * (acc.length - 1) + 2 * i0 ≤ 2 * i → waysL s g n i acc = some (xs, j) → sz (lstS xs) + 2 * (xs.length - 1) + 2 * i0 ≤ 2 * j
  | 0, _, _, _, _, _, _, h => by simp [waysL] at h
  | n + 1, i, acc, xs, j, hne, ha, h => by
    unfold waysL at h
    split at h
    · cases hf : wayS s g (i + 1) with
      | none => rw [hf] at h; cases h
      | some q =>
        obtain ⟨x, k⟩ := q
        rw [hf] at h
        have hl : 0 < acc.length := List.length_pos_iff.2 hne
        exact waysL_sz hg (n := n) (i := k) (by simp) (by rw [sz_snoc]; have := way_sz hg _ _ _ hf; simp; omega) h
    · simp at h; obtain ⟨rfl, rfl⟩ := h; exact ha
theorem ways_sz {s : ByteArray} {g : Nat → Option (Rx × Nat)} (hg : SmallG g) : SmallG (waysS s g) := by
  intro i x j h
  unfold waysS at h
  cases hw : wayS s g i with
  | none => rw [hw] at h; cases h
  | some q =>
    obtain ⟨y, k⟩ := q
    rw [hw] at h
    have h1 := way_sz hg _ _ _ hw
    simp only at h
    cases hl : waysL s g (s.size + 1) k [y] with
    | none => rw [hl] at h; cases h
    | some q2 =>
      rw [hl] at h
      simp at h
      obtain ⟨rfl, rfl⟩ := h
      have h2 := waysL_sz hg (i0 := i) (acc := [y]) (by simp) (by simpa [lstS, sz] using h1) (xs := q2.1) (j := q2.2) hl
      have h3 := sz_mk (op := 3) (l := q2.1) (.inr rfl)
      simp at h3
      omega
theorem par_sz (s : ByteArray) : ∀ r, SmallG (par s r)
  | 0 => ways_sz fun _ _ _ h => by cases h
  | r + 1 => ways_sz (par_sz s r)
theorem parse_sz {s : ByteArray} (hadv : ∀ x j, par s 8 0 = some (x, j) → j ≤ s.size) {x : Rx} (h : parseS s = some x) : sz x ≤ 80 := by
  unfold parseS at h
  split at h
  · cases h
  · cases hp : par s 8 0 with
    | none => rw [hp] at h; cases h
    | some q =>
      obtain ⟨y, j⟩ := q
      rw [hp] at h
      simp only at h
      split at h
      · cases h
      · cases h
        have := par_sz s 8 _ _ _ hp
        have := hadv _ _ hp
        omega
theorem kid_sz : ∀ {l : Rx} {x : Rx}, Tr true l → x ∈ kidsR l → sz x ≤ sz l
  | .cons y l, x, h, hx => by
    simp only [kidsR, List.mem_cons] at hx
    simp only [sz]
    rcases hx with rfl | hx
    · omega
    · have := kid_sz h.2 hx; omega
  | .nil, _, _, h => by simp [kidsR] at h
  | .set _, _, h, _ => h.elim
  | .node _ _, _, h, _ => h.elim
theorem sum_take {l : List Rx} {k : Nat} {x : Rx} (hx : l[k]? = some x) : ((l.take (k + 1)).map sz).sum = ((l.take k).map sz).sum + sz x := by
  have hk := (List.getElem?_eq_some_iff.1 hx).1
  rw [List.take_succ_eq_append_getElem hk, (List.getElem?_eq_some_iff.1 hx).2]
  simp
theorem sum_take_le (l : List Rx) : ∀ k, ((l.take k).map sz).sum ≤ (l.map sz).sum := by
  induction l with
  | nil => intro k; simp
  | cons y l ih =>
    intro k
    cases k with
    | zero => simp
    | succ k => simp only [List.take_succ_cons, List.map_cons, List.sum_cons]; have := ih k; omega
end Go.Rex
set_option linter.unusedVariables false
set_option linter.unusedSimpArgs false
namespace Go.X
open Go Go.RowKit
section
variable {P : Program} {n : Nat} {e : Env} {w : World} {C : World → Prop}
theorem Yld.indexArr {d : Option Tmp} {t len el sz : Nat} {x i : Operand} {ty : TypeId} {pos : String} {af : Array Edge} {g : Option (Nat × Bool)} (hT : P.underlying t = some (.array len el)) {z : Value} {by' : Nat} (hE : TI P el z sz by') {b o : Nat} {k : IntKind} {q : Nat}
    (hx : ev e x = some (.pointer (some ⟨b, o, none⟩))) (hi : ev e i = some (.int k (q : Int))) (h1 : q < len) :
    Yld P n C e ⟨d, .indexAddr t x i, ty, pos, af, g⟩ (.pointer (some ⟨b, o + q * sz, none⟩)) := by
  intro a ha w _
  have h2 : (0 : Int) ≤ q := by omega
  have h3 : (q : Int) < len := by omega
  have h4 : ¬ len ≤ q := by omega
  simp [execOp, ha.ev hx, ha.ev hi, Instr.indexAt, run_underlying hT, asIntOf, hE.sizeOf w, h2, h3, add_none, Instr.sureAddr, h4, h1]
end
end Go.X
set_option linter.unusedVariables false
set_option linter.unusedSimpArgs false
namespace Go.X
open Go Go.RowKit
section
variable {P : Program}
theorem run_eqItems_ints (d : Nat) {e : TypeId} {k : IntKind} (he : P.underlying e = some (.int k)) (c1 : P.cellsOf e = 1) (xs ys : Array Value) (f g : Nat → Int) : ∀ (is : List Nat) (w : World), (∀ i ∈ is, xs[i]? = some (.int k (f i))) → (∀ i ∈ is, ys[i]? = some (.int k (g i))) → (Op.eqItems (d + 1) e (P.cellsOf e) xs ys is).run P w = .ok (decide (∀ i ∈ is, f i = g i)) w
  | [], w, _, _ => by simp [Op.eqItems]
  | i :: is, w, hx, hy => by
    have hp : ∀ (zs : Array Value) (v : Value), zs[i]? = some v → (part e zs (i * P.cellsOf e)).run P w = .ok v w := fun zs v h => by
      rw [c1, Nat.mul_one]; simp [part, Go.X.Plain.of he rfl w, h]
    have ih := run_eqItems_ints d he c1 xs ys f g is w (fun j hj => hx j (by simp [hj])) (fun j hj => hy j (by simp [hj]))
    have ee : (Op.equalIn (d + 1) e (.int k (f i)) (.int k (g i))).run P w = .ok (decide (f i = g i)) w := by
      rw [run_equalIn_int w d e k k _ _ he]; rfl
    simp only [Op.eqItems, Sem.run_bind, hp xs _ (hx i (by simp)), hp ys _ (hy i (by simp)), Result.andThen_ok, ee]
    by_cases h : f i = g i
    · simp [h, ih]
    · simp [h]
def Arr (P : Program) (t : TypeId) (k : IntKind) (n : Nat) : Prop := P.eqGuardType P.depth t = false ∧ ∀ (ps qs : List Int) (w : World), ps.length = n → qs.length = n → (Op.equalIn 10000 t (.agg (ps.map (Value.int k)).toArray) (.agg (qs.map (Value.int k)).toArray)).run P w = .ok (decide (ps = qs)) w
theorem Arr.of {t e : TypeId} {k : IntKind} {n : Nat} (hg : P.eqGuardType P.depth t = false) (ht : P.underlying t = some (.array n e)) (he : P.underlying e = some (.int k)) (c1 : P.cellsOf e = 1) : Arr P t k n := by
  refine ⟨hg, fun ps qs w ha hb => ?_⟩
  obtain ⟨i, hi⟩ := info_of_underlying he
  have hat : ∀ (l : List Int), l.length = n → ∀ j ∈ List.range n, (l.map (Value.int k)).toArray[j]? = some (.int k (l.getD j 0)) := fun l hl j hj => by
    have hj' : j < l.length := by rw [hl]; exact List.mem_range.1 hj
    simp [hj']
  rw [run_equalIn_array w 9999 _ _ ht hi, run_eqItems_ints 9998 he c1 _ _ (fun j => ps.getD j 0) (fun j => qs.getD j 0) _ w (hat ps ha) (hat qs hb)]
  congr 1
  rw [decide_eq_decide]
  constructor
  · intro h
    apply List.ext_getElem (by omega)
    intro j h1 h2
    have := h j (List.mem_range.2 (by omega))
    simpa [h1, h2] using this
  · rintro rfl _ _; rfl
def Trip (P : Program) (t : TypeId) : Prop := P.eqGuardType P.depth t = false ∧ ∀ (i j : Int) (a b c d : ByteArray) (w : World), (Op.equalIn 10000 t (.agg #[.int .i64 i, .string a, .string b]) (.agg #[.int .i64 j, .string c, .string d])).run P w = .ok (decide (i = j ∧ a = c ∧ b = d)) w
theorem Trip.of {t n s : TypeId} {f0 f1 f2 : Field} (hg : P.eqGuardType P.depth t = false) (hp : P.stoodInHeld t = false) (ht : P.underlying t = some (.struct #[f0, f1, f2])) (hn : P.underlying n = some (.int .i64)) (hs : P.underlying s = some .string) (h0 : f0.type = n) (h1 : f1.type = s) (h2 : f2.type = s) (o0 : f0.offset = 0) (o1 : f1.offset = 1) (o2 : f2.offset = 2) (n0 : f0.name ≠ "_") (n1 : f1.name ≠ "_") (n2 : f2.name ≠ "_") : Trip P t := by
  refine ⟨hg, fun i j a b c d w => ?_⟩
  have hf : P.fieldsOf t = #[f0, f1, f2] := by simp [Program.fieldsOf, ht]
  rw [run_equalIn_struct w 9999 t _ _ (by rw [hf]; exact ht) hp, hf]
  have hpl : Plain P s := Plain.of hs rfl
  have hpn : Plain P n := Plain.of hn rfl
  have he : ∀ a b w, (Op.equalIn 9999 s (.string a) (.string b)).run P w = .ok (decide (a = b)) w := fun a b w => by rw [run_equalIn_string w 9998 s a b hs, beqS]
  have hen : ∀ i j w, (Op.equalIn 9999 n (.int .i64 i) (.int .i64 j)).run P w = .ok (decide (i = j)) w := fun i j w => by rw [run_equalIn_int w 9998 n .i64 .i64 _ _ hn]; rfl
  have hpt : ∀ (cs : Array Value) (o : Nat) (v : Value) w, cs[o]? = some v → (part s cs o).run P w = .ok v w := fun cs o v w h => by simp [part, hpl w, h]
  have hptn : ∀ (cs : Array Value) (o : Nat) (v : Value) w, cs[o]? = some v → (part n cs o).run P w = .ok v w := fun cs o v w h => by simp [part, hpn w, h]
  simp only [Op.eqFields, n0, n1, n2, ne_eq, not_false_eq_true, if_true, h0, h1, h2, o0, o1, o2, Sem.run_bind]
  rw [hptn #[.int .i64 i, .string a, .string b] 0 (.int .i64 i) w (by simp)]
  simp only [Result.andThen_ok]
  rw [hptn #[.int .i64 j, .string c, .string d] 0 (.int .i64 j) w (by simp)]
  simp only [Result.andThen_ok, hen]
  by_cases e0 : i = j
  · simp only [e0, decide_true, Bool.not_true, Bool.false_eq_true, if_false, Sem.run_bind]
    rw [hpt #[.int .i64 j, .string a, .string b] 1 (.string a) w (by simp)]
    simp only [Result.andThen_ok]
    rw [hpt #[.int .i64 j, .string c, .string d] 1 (.string c) w (by simp)]
    simp only [Result.andThen_ok, he]
    by_cases e1 : a = c
    · simp only [e1, decide_true, Bool.not_true, Bool.false_eq_true, if_false, Sem.run_bind]
      rw [hpt #[.int .i64 j, .string c, .string b] 2 (.string b) w (by simp)]
      simp only [Result.andThen_ok]
      rw [hpt #[.int .i64 j, .string c, .string d] 2 (.string d) w (by simp)]
      simp only [Result.andThen_ok, he]
      by_cases e2 : b = d
      · simp [e2]
      · simp [e2]
    · simp [e1]
  · simp [e0]
end
section
variable {P : Program} {n : Nat} {e : Env} {C : World → Prop}
theorem Yld.eqTrip {d : Option Tmp} {t : Nat} {x y : Operand} {t' ty : TypeId} {pos : String} {af : Array Edge} {g : Option (Nat × Bool)} (hP : Trip P t) {i j : Int} {a b c f : ByteArray} (hx : ev e x = some (.agg #[.int .i64 i, .string a, .string b])) (hy : ev e y = some (.agg #[.int .i64 j, .string c, .string f])) :
    Yld P n C e ⟨d, .binOp .eql t x y t', ty, pos, af, g⟩ (.bool (decide (i = j ∧ a = c ∧ b = f))) := by
  intro ac ha w _
  simp only [execOp, ha.ev hx, ha.ev hy, Sem.run_bind, run_eqGuard_agg w .eql t x y _ _ hP.1, Result.andThen_ok, run_eql_struct, hP.2, Sem.run_pure]
theorem Yld.eqArr {d : Option Tmp} {t m : Nat} {k : IntKind} {x y : Operand} {t' ty : TypeId} {pos : String} {af : Array Edge} {g : Option (Nat × Bool)} (hP : Arr P t k m) {ps qs : List Int} {va vb : Array Value} (hx : ev e x = some (.agg va)) (hy : ev e y = some (.agg vb)) (ea : va = (ps.map (Value.int k)).toArray) (eb : vb = (qs.map (Value.int k)).toArray) (la : ps.length = m) (lb : qs.length = m) :
    Yld P n C e ⟨d, .binOp .eql t x y t', ty, pos, af, g⟩ (.bool (decide (ps = qs))) := by
  intro ac ha w _
  subst ea; subst eb
  simp only [execOp, ha.ev hx, ha.ev hy, Sem.run_bind, run_eqGuard_agg w .eql t x y _ _ hP.1, Result.andThen_ok, run_eql_struct, hP.2 ps qs w la lb, Sem.run_pure]
theorem Yld.neqArr {d : Option Tmp} {t m : Nat} {k : IntKind} {x y : Operand} {t' ty : TypeId} {pos : String} {af : Array Edge} {g : Option (Nat × Bool)} (hP : Arr P t k m) {ps qs : List Int} {va vb : Array Value} (hx : ev e x = some (.agg va)) (hy : ev e y = some (.agg vb)) (ea : va = (ps.map (Value.int k)).toArray) (eb : vb = (qs.map (Value.int k)).toArray) (la : ps.length = m) (lb : qs.length = m) :
    Yld P n C e ⟨d, .binOp .neq t x y t', ty, pos, af, g⟩ (.bool (!decide (ps = qs))) := by
  intro ac ha w _
  subst ea; subst eb
  simp only [execOp, ha.ev hx, ha.ev hy, Sem.run_bind, run_eqGuard_agg w .neq t x y _ _ hP.1, Result.andThen_ok, run_neq_struct, hP.2 ps qs w la lb, Sem.run_pure]
end
theorem checkKey_str {P : Program} {kt : TypeId} (h : P.underlying kt = some .string) (n : Nat) (b : Bool) (k : ByteArray) (w : World) : (Instr.checkKey b (n + 1) kt (.string k)).run P w = .ok () w := by
  simp only [Instr.checkKey, Sem.run_bind, run_underlying h, Result.andThen_ok, Sem.run_pure]
theorem KeyLaw.str {P : Program} {kt : TypeId} (h : P.underlying kt = some .string) : KeyLaw P kt Value.string where
  check b k w := checkKey_str h 9999 b k w
  find k es l w he := by
    have key : ∀ (es : List MapEntry) (l : List (ByteArray × Value)) (i : Nat), es.map (fun e => (e.key, e.val)) = l.map (fun p => (Value.string p.1, p.2)) → Instr.findNow .string (.string k) es i = some ((placeM k l).map fun p => (p.1 + i, p.2)) := by
      intro es
      induction es with
      | nil => intro l i h; cases l with | nil => rfl | cons p l => simp at h
      | cons e es ih =>
        intro l i h
        cases l with
        | nil => simp at h
        | cons p l =>
          simp only [List.map_cons, List.cons.injEq, Prod.mk.injEq] at h
          obtain ⟨⟨h1, h2⟩, h3⟩ := h
          have hb : (k == p.1) = decide (k = p.1) := by rw [beq_toListBytes]; exact beqS k p.1
          simp only [Instr.findNow, h1, Instr.sameNow, hb, placeM]
          by_cases hk : k = p.1
          · simp [hk, h2]
          · simp only [hk, decide_false, Bool.false_eq_true, if_neg hk, if_false, ih l (i + 1) h3, Option.map_map]
            congr 1
            cases placeM k l with
            | none => rfl
            | some q => simp; omega
    simp only [Instr.findKey, Sem.run_bind, run_underlying h, Result.andThen_ok, key es l 0 he]
    cases placeM k l <;> simp
  same k := by
    have hb : ∀ a : ByteArray, (a == a) = true := fun a => by rw [beq_toListBytes]; simp
    unfold Instr.sameBits; exact hb k
end Go.X
namespace Go.Proofs.YthbjfhhiajihfaaGreat
open Go Go.X
theorem mixed : Tryz.prog.follows .mixedOrders = true := by kernel_rfl
theorem i3 : TI Tryz.prog 3 (.int .i64 0) 1 8 := TI.mk' (by kernel_rfl)
theorem p3 : Plain Tryz.prog 3 := Plain.of Tryz.underlying3 rfl
theorem u4 : Tryz.prog.underlying 4 = some .bool := Tryz.underlying4
theorem i4 : TI Tryz.prog 4 (.bool false) 1 1 := TI.mk' (by kernel_rfl)
theorem p4 : Plain Tryz.prog 4 := Plain.of Tryz.underlying4 rfl
theorem i5 : TI Tryz.prog 5 (.int .u8 0) 1 1 := TI.mk' (by kernel_rfl)
theorem p5 : Plain Tryz.prog 5 := Plain.of Tryz.underlying5 rfl
theorem u9 : Tryz.prog.underlying 9 = some .string := Tryz.underlying9
theorem i9 : TI Tryz.prog 9 (.string ByteArray.empty) 1 16 := TI.mk' (by kernel_rfl)
theorem p9 : Plain Tryz.prog 9 := Plain.of Tryz.underlying9 rfl
theorem u10 : Tryz.prog.underlying 10 = some .string := Tryz.underlying10
theorem u24 : SlT Tryz.prog 24 135 := Tryz.underlying24
theorem p24 : Plain Tryz.prog 24 := Plain.of Tryz.underlying24 rfl
theorem i25 : TI Tryz.prog 25 (.float .f64 0) 1 8 := TI.mk' (by kernel_rfl)
theorem p25 : Plain Tryz.prog 25 := Plain.of Tryz.underlying25 rfl
theorem i27 : TI Tryz.prog 27 (.agg #[.bool false, .float .f64 0, .float .f64 0]) 3 24 := TI.mk' (by kernel_rfl)
theorem a27 : Agg Tryz.prog 27 3 := Agg.of (d := (Tryz.prog.underlying 27).getD .bool) (by kernel_rfl) (by kernel_rfl) i27
theorem u28 : SlT Tryz.prog 28 9 := Tryz.underlying28
theorem i28 : TI Tryz.prog 28 (.slice none 0 0) 1 24 := TI.mk' (by kernel_rfl)
theorem p28 : Plain Tryz.prog 28 := Plain.of Tryz.underlying28 rfl
theorem i30 : TI Tryz.prog 30 (.agg #[.slice none 0 0, .slice none 0 0, .bool false, .float .f64 0, .float .f64 0, .slice none 0 0]) 6 96 := TI.mk' (by kernel_rfl)
theorem a30 : Agg Tryz.prog 30 6 := Agg.of (d := (Tryz.prog.underlying 30).getD .bool) (by kernel_rfl) (by kernel_rfl) i30
theorem u33 : SlT Tryz.prog 33 79 := Tryz.underlying33
theorem p33 : Plain Tryz.prog 33 := Plain.of Tryz.underlying33 rfl
theorem i35 : TI Tryz.prog 35 (.agg #[.int .i64 0, .slice none 0 0, .float .f64 0]) 3 40 := TI.mk' (by kernel_rfl)
theorem a35 : Agg Tryz.prog 35 3 := Agg.of (d := (Tryz.prog.underlying 35).getD .bool) (by kernel_rfl) (by kernel_rfl) i35
theorem u37 : SlT Tryz.prog 37 3 := Tryz.underlying37
theorem i37 : TI Tryz.prog 37 (.slice none 0 0) 1 24 := TI.mk' (by kernel_rfl)
theorem p37 : Plain Tryz.prog 37 := Plain.of Tryz.underlying37 rfl
theorem u42 : SlT Tryz.prog 42 196 := Tryz.underlying42
theorem p42 : Plain Tryz.prog 42 := Plain.of Tryz.underlying42 rfl
theorem i44 : TI Tryz.prog 44 (.agg #[.int .i64 0, .float .f64 0, .float .f64 0]) 3 24 := TI.mk' (by kernel_rfl)
theorem a44 : Agg Tryz.prog 44 3 := Agg.of (d := (Tryz.prog.underlying 44).getD .bool) (by kernel_rfl) (by kernel_rfl) i44
theorem i46 : TI Tryz.prog 46 (.agg #[.slice none 0 0, .slice none 0 0, .int .i64 0, .float .f64 0, .float .f64 0, .slice none 0 0]) 6 96 := TI.mk' (by kernel_rfl)
theorem a46 : Agg Tryz.prog 46 6 := Agg.of (d := (Tryz.prog.underlying 46).getD .bool) (by kernel_rfl) (by kernel_rfl) i46
theorem u47 : SlT Tryz.prog 47 141 := Tryz.underlying47
theorem u49 : SlT Tryz.prog 49 35 := Tryz.underlying49
theorem i64 : TI Tryz.prog 64 (.pointer none) 1 8 := TI.mk' (by kernel_rfl)
theorem i66 : TI Tryz.prog 66 (.int .u64 0) 1 8 := TI.mk' (by kernel_rfl)
theorem p66 : Plain Tryz.prog 66 := Plain.of Tryz.underlying66 rfl
theorem i79 : TI Tryz.prog 79 (.agg #[.string ByteArray.empty, .string ByteArray.empty]) 2 32 := TI.mk' (by kernel_rfl)
theorem a79 : Agg Tryz.prog 79 2 := Agg.of (d := (Tryz.prog.underlying 79).getD .bool) (by kernel_rfl) (by kernel_rfl) i79
theorem p130 : Plain Tryz.prog 130 := Plain.of Tryz.underlying130 rfl
theorem p131 : Plain Tryz.prog 131 := Plain.of Tryz.underlying131 rfl
theorem i135 : TI Tryz.prog 135 (.agg #[.int .i64 0, .string ByteArray.empty, .string ByteArray.empty]) 3 40 := TI.mk' (by kernel_rfl)
theorem a135 : Agg Tryz.prog 135 3 := Agg.of (d := (Tryz.prog.underlying 135).getD .bool) (by kernel_rfl) (by kernel_rfl) i135
theorem i141 : TI Tryz.prog 141 (.agg #[.int .u8 0, .int .i64 0, .slice none 0 0, .float .f64 0]) 4 48 := TI.mk' (by kernel_rfl)
theorem u151 : SlT Tryz.prog 151 5 := Tryz.underlying151
theorem p172 : Plain Tryz.prog 172 := Plain.of Tryz.underlying172 rfl
theorem i196 : TI Tryz.prog 196 (.agg #[.int .i64 0, .int .i64 0, .int .i64 0]) 3 24 := TI.mk' (by kernel_rfl)
theorem a196 : Agg Tryz.prog 196 3 := Agg.of (d := (Tryz.prog.underlying 196).getD .bool) (by kernel_rfl) (by kernel_rfl) i196
theorem i221 : TI Tryz.prog 221 (.agg #[.int .u64 0, .int .u64 0, .int .u64 0, .int .u64 0]) 4 32 := TI.mk' (by kernel_rfl)
theorem a221 : Agg Tryz.prog 221 4 := Agg.of (d := (Tryz.prog.underlying 221).getD .bool) (by kernel_rfl) (by kernel_rfl) i221
theorem u222 : SlT Tryz.prog 222 224 := Tryz.underlying222
theorem p222 : Plain Tryz.prog 222 := Plain.of Tryz.underlying222 rfl
theorem i224 : TI Tryz.prog 224 (.agg #[.int .i64 0, .int .u64 0, .int .u64 0, .int .u64 0, .int .u64 0, .slice none 0 0]) 6 64 := TI.mk' (by kernel_rfl)
theorem a224 : Agg Tryz.prog 224 6 := Agg.of (d := (Tryz.prog.underlying 224).getD .bool) (by kernel_rfl) (by kernel_rfl) i224
theorem u254 : SlT Tryz.prog 254 301 := Tryz.underlying254
theorem p254 : Plain Tryz.prog 254 := Plain.of Tryz.underlying254 rfl
theorem u266 : SlT Tryz.prog 266 37 := Tryz.underlying266
theorem i301 : TI Tryz.prog 301 (.agg #[.int .i64 0, .int .u64 0, .int .u64 0, .int .u64 0, .int .u64 0, .int .i64 0, .int .i64 0]) 7 56 := TI.mk' (by kernel_rfl)
theorem a301 : Agg Tryz.prog 301 7 := Agg.of (d := (Tryz.prog.underlying 301).getD .bool) (by kernel_rfl) (by kernel_rfl) i301
theorem key3 : KeyLaw Tryz.prog 3 (Value.int .i64) := KeyLaw.int Tryz.underlying3
theorem key9 : KeyLaw Tryz.prog 9 Value.string := KeyLaw.str Tryz.underlying9
theorem trip135 : Trip Tryz.prog 135 := Trip.of (by kernel_rfl) (by kernel_rfl) Tryz.underlying135 Tryz.underlying3 Tryz.underlying9 rfl rfl rfl rfl rfl rfl (by decide) (by decide) (by decide)
theorem arr221 : Arr Tryz.prog 221 .u64 4 := Arr.of (by kernel_rfl) Tryz.underlying221 Tryz.underlying66 (by kernel_rfl)
theorem fo27_0 : FO Tryz.prog 27 0 0 := fun a w => by kernel_rfl
theorem fo27_1 : FO Tryz.prog 27 1 1 := fun a w => by kernel_rfl
theorem fo27_2 : FO Tryz.prog 27 2 2 := fun a w => by kernel_rfl
theorem fo30_0 : FO Tryz.prog 30 0 0 := fun a w => by kernel_rfl
theorem fo30_1 : FO Tryz.prog 30 1 1 := fun a w => by kernel_rfl
theorem fo30_2 : FO Tryz.prog 30 2 2 := fun a w => by kernel_rfl
theorem fo30_3 : FO Tryz.prog 30 3 5 := fun a w => by kernel_rfl
theorem fo35_0 : FO Tryz.prog 35 0 0 := fun a w => by kernel_rfl
theorem fo35_1 : FO Tryz.prog 35 1 1 := fun a w => by kernel_rfl
theorem fo35_2 : FO Tryz.prog 35 2 2 := fun a w => by kernel_rfl
theorem fo44_0 : FO Tryz.prog 44 0 0 := fun a w => by kernel_rfl
theorem fo44_1 : FO Tryz.prog 44 1 1 := fun a w => by kernel_rfl
theorem fo44_2 : FO Tryz.prog 44 2 2 := fun a w => by kernel_rfl
theorem fo46_0 : FO Tryz.prog 46 0 0 := fun a w => by kernel_rfl
theorem fo46_1 : FO Tryz.prog 46 1 1 := fun a w => by kernel_rfl
theorem fo46_2 : FO Tryz.prog 46 2 2 := fun a w => by kernel_rfl
theorem fo46_3 : FO Tryz.prog 46 3 5 := fun a w => by kernel_rfl
theorem fo79_0 : FO Tryz.prog 79 0 0 := fun a w => by kernel_rfl
theorem fo79_1 : FO Tryz.prog 79 1 1 := fun a w => by kernel_rfl
theorem fo133_0 : FO Tryz.prog 133 0 0 := fun a w => by kernel_rfl
theorem fo133_1 : FO Tryz.prog 133 1 6 := fun a w => by kernel_rfl
theorem fo133_2 : FO Tryz.prog 133 2 7 := fun a w => by kernel_rfl
theorem fo135_0 : FO Tryz.prog 135 0 0 := fun a w => by kernel_rfl
theorem fo135_1 : FO Tryz.prog 135 1 1 := fun a w => by kernel_rfl
theorem fo135_2 : FO Tryz.prog 135 2 2 := fun a w => by kernel_rfl
theorem fo141_0 : FO Tryz.prog 141 0 0 := fun a w => by kernel_rfl
theorem fo141_1 : FO Tryz.prog 141 1 1 := fun a w => by kernel_rfl
theorem fo141_2 : FO Tryz.prog 141 2 2 := fun a w => by kernel_rfl
theorem fo141_3 : FO Tryz.prog 141 3 3 := fun a w => by kernel_rfl
theorem fo196_0 : FO Tryz.prog 196 0 0 := fun a w => by kernel_rfl
theorem fo196_1 : FO Tryz.prog 196 1 1 := fun a w => by kernel_rfl
theorem fo196_2 : FO Tryz.prog 196 2 2 := fun a w => by kernel_rfl
theorem fo224_0 : FO Tryz.prog 224 0 0 := fun a w => by kernel_rfl
theorem fo224_1 : FO Tryz.prog 224 1 1 := fun a w => by kernel_rfl
theorem fo224_2 : FO Tryz.prog 224 2 5 := fun a w => by kernel_rfl
theorem fo264_0 : FO Tryz.prog 264 0 0 := fun a w => by kernel_rfl
theorem fo264_1 : FO Tryz.prog 264 1 1 := fun a w => by kernel_rfl
theorem fo264_2 : FO Tryz.prog 264 2 2 := fun a w => by kernel_rfl
theorem fo264_3 : FO Tryz.prog 264 3 3 := fun a w => by kernel_rfl
theorem fo301_0 : FO Tryz.prog 301 0 0 := fun a w => by kernel_rfl
theorem fo301_1 : FO Tryz.prog 301 1 1 := fun a w => by kernel_rfl
theorem fo301_2 : FO Tryz.prog 301 2 5 := fun a w => by kernel_rfl
theorem fo301_3 : FO Tryz.prog 301 3 6 := fun a w => by kernel_rfl
theorem fo308_0 : FO Tryz.prog 308 0 0 := fun a w => by kernel_rfl
theorem fo308_1 : FO Tryz.prog 308 1 1 := fun a w => by kernel_rfl
theorem fo308_2 : FO Tryz.prog 308 2 2 := fun a w => by kernel_rfl
theorem e2 : Enters Tryz.prog 2 := enters_of Tryz.func2 (by kernel_rfl) rfl
theorem e3 : Enters Tryz.prog 3 := enters_of Tryz.func3 (by kernel_rfl) rfl
theorem e4 : Enters Tryz.prog 4 := enters_of Tryz.func4 (by kernel_rfl) rfl
theorem e5 : Enters Tryz.prog 5 := enters_of Tryz.func5 (by kernel_rfl) rfl
theorem e7 : Enters Tryz.prog 7 := enters_of Tryz.func7 (by kernel_rfl) rfl
theorem e9 : Enters Tryz.prog 9 := enters_of Tryz.func9 (by kernel_rfl) rfl
theorem e18 : Enters Tryz.prog 18 := enters_of Tryz.func18 (by kernel_rfl) rfl
theorem e19 : Enters Tryz.prog 19 := enters_of Tryz.func19 (by kernel_rfl) rfl
theorem e20 : Enters Tryz.prog 20 := enters_of Tryz.func20 (by kernel_rfl) rfl
theorem e21 : Enters Tryz.prog 21 := enters_of Tryz.func21 (by kernel_rfl) rfl
theorem e22 : Enters Tryz.prog 22 := enters_of Tryz.func22 (by kernel_rfl) rfl
theorem e23 : Enters Tryz.prog 23 := enters_of Tryz.func23 (by kernel_rfl) rfl
theorem e24 : Enters Tryz.prog 24 := enters_of Tryz.func24 (by kernel_rfl) rfl
theorem e25 : Enters Tryz.prog 25 := enters_of Tryz.func25 (by kernel_rfl) rfl
theorem e26 : Enters Tryz.prog 26 := enters_of Tryz.func26 (by kernel_rfl) rfl
theorem e27 : Enters Tryz.prog 27 := enters_of Tryz.func27 (by kernel_rfl) rfl
theorem e28 : Enters Tryz.prog 28 := enters_of Tryz.func28 (by kernel_rfl) rfl
theorem e29 : Enters Tryz.prog 29 := enters_of Tryz.func29 (by kernel_rfl) rfl
theorem e30 : Enters Tryz.prog 30 := enters_of Tryz.func30 (by kernel_rfl) rfl
theorem e31 : Enters Tryz.prog 31 := enters_of Tryz.func31 (by kernel_rfl) rfl
theorem e32 : Enters Tryz.prog 32 := enters_of Tryz.func32 (by kernel_rfl) rfl
theorem e55 : Enters Tryz.prog 55 := enters_of Tryz.func55 (by kernel_rfl) rfl
theorem e57 : Enters Tryz.prog 57 := enters_of Tryz.func57 (by kernel_rfl) rfl
theorem e58 : Enters Tryz.prog 58 := enters_of Tryz.func58 (by kernel_rfl) rfl
theorem e72 : Enters Tryz.prog 72 := enters_of Tryz.func72 (by kernel_rfl) rfl
theorem e74 : Enters Tryz.prog 74 := enters_of Tryz.func74 (by kernel_rfl) rfl
theorem e75 : Enters Tryz.prog 75 := enters_of Tryz.func75 (by kernel_rfl) rfl
theorem e76 : Enters Tryz.prog 76 := enters_of Tryz.func76 (by kernel_rfl) rfl
theorem e77 : Enters Tryz.prog 77 := enters_of Tryz.func77 (by kernel_rfl) rfl
theorem e78 : Enters Tryz.prog 78 := enters_of Tryz.func78 (by kernel_rfl) rfl
theorem e79 : Enters Tryz.prog 79 := enters_of Tryz.func79 (by kernel_rfl) rfl
theorem e80 : Enters Tryz.prog 80 := enters_of Tryz.func80 (by kernel_rfl) rfl
theorem e81 : Enters Tryz.prog 81 := enters_of Tryz.func81 (by kernel_rfl) rfl
theorem e82 : Enters Tryz.prog 82 := enters_of Tryz.func82 (by kernel_rfl) rfl
theorem e83 : Enters Tryz.prog 83 := enters_of Tryz.func83 (by kernel_rfl) rfl
theorem e84 : Enters Tryz.prog 84 := enters_of Tryz.func84 (by kernel_rfl) rfl
theorem e85 : Enters Tryz.prog 85 := enters_of Tryz.func85 (by kernel_rfl) rfl
theorem e86 : Enters Tryz.prog 86 := enters_of Tryz.func86 (by kernel_rfl) rfl
theorem e101 : Enters Tryz.prog 101 := enters_of Tryz.func101 (by kernel_rfl) rfl
theorem e104 : Enters Tryz.prog 104 := enters_of Tryz.func104 (by kernel_rfl) rfl
theorem e105 : Enters Tryz.prog 105 := enters_of Tryz.func105 (by kernel_rfl) rfl
theorem e118 : Enters Tryz.prog 118 := enters_of Tryz.func118 (by kernel_rfl) rfl
theorem e119 : Enters Tryz.prog 119 := enters_of Tryz.func119 (by kernel_rfl) rfl
theorem e120 : Enters Tryz.prog 120 := enters_of Tryz.func120 (by kernel_rfl) rfl
theorem e123 : Enters Tryz.prog 123 := enters_of Tryz.func123 (by kernel_rfl) rfl
theorem e136 : Enters Tryz.prog 136 := enters_of Tryz.func136 (by kernel_rfl) rfl
theorem e137 : Enters Tryz.prog 137 := enters_of Tryz.func137 (by kernel_rfl) rfl
theorem e139 : Enters Tryz.prog 139 := enters_of Tryz.func139 (by kernel_rfl) rfl
theorem e140 : Enters Tryz.prog 140 := enters_of Tryz.func140 (by kernel_rfl) rfl
theorem e141 : Enters Tryz.prog 141 := enters_of Tryz.func141 (by kernel_rfl) rfl
theorem e142 : Enters Tryz.prog 142 := enters_of Tryz.func142 (by kernel_rfl) rfl
theorem e143 : Enters Tryz.prog 143 := enters_of Tryz.func143 (by kernel_rfl) rfl
theorem e144 : Enters Tryz.prog 144 := enters_of Tryz.func144 (by kernel_rfl) rfl
theorem e145 : Enters Tryz.prog 145 := enters_of Tryz.func145 (by kernel_rfl) rfl
theorem e146 : Enters Tryz.prog 146 := enters_of Tryz.func146 (by kernel_rfl) rfl
theorem e147 : Enters Tryz.prog 147 := enters_of Tryz.func147 (by kernel_rfl) rfl
theorem e148 : Enters Tryz.prog 148 := enters_of Tryz.func148 (by kernel_rfl) rfl
theorem e149 : Enters Tryz.prog 149 := enters_of Tryz.func149 (by kernel_rfl) rfl
theorem e152 : Enters Tryz.prog 152 := enters_of Tryz.func152 (by kernel_rfl) rfl
theorem e155 : Enters Tryz.prog 155 := enters_of Tryz.func155 (by kernel_rfl) rfl
theorem e156 : Enters Tryz.prog 156 := enters_of Tryz.func156 (by kernel_rfl) rfl
theorem e157 : Enters Tryz.prog 157 := enters_of Tryz.func157 (by kernel_rfl) rfl
theorem e160 : Enters Tryz.prog 160 := enters_of Tryz.func160 (by kernel_rfl) rfl
theorem e167 : Enters Tryz.prog 167 := enters_of Tryz.func167 (by kernel_rfl) rfl
theorem e168 : Enters Tryz.prog 168 := enters_of Tryz.func168 (by kernel_rfl) rfl
theorem e170 : Enters Tryz.prog 170 := enters_of Tryz.func170 (by kernel_rfl) rfl
theorem e173 : Enters Tryz.prog 173 := enters_of Tryz.func173 (by kernel_rfl) rfl
theorem e186 : Enters Tryz.prog 186 := enters_of Tryz.func186 (by kernel_rfl) rfl
theorem e187 : Enters Tryz.prog 187 := enters_of Tryz.func187 (by kernel_rfl) rfl
theorem e188 : Enters Tryz.prog 188 := enters_of Tryz.func188 (by kernel_rfl) rfl
theorem e192 : Enters Tryz.prog 192 := enters_of Tryz.func192 (by kernel_rfl) rfl
theorem e194 : Enters Tryz.prog 194 := enters_of Tryz.func194 (by kernel_rfl) rfl
theorem e195 : Enters Tryz.prog 195 := enters_of Tryz.func195 (by kernel_rfl) rfl
theorem e196 : Enters Tryz.prog 196 := enters_of Tryz.func196 (by kernel_rfl) rfl
theorem e197 : Enters Tryz.prog 197 := enters_of Tryz.func197 (by kernel_rfl) rfl
theorem e198 : Enters Tryz.prog 198 := enters_of Tryz.func198 (by kernel_rfl) rfl
theorem e201 : Enters Tryz.prog 201 := enters_of Tryz.func201 (by kernel_rfl) rfl
theorem e202 : Enters Tryz.prog 202 := enters_of Tryz.func202 (by kernel_rfl) rfl
theorem e203 : Enters Tryz.prog 203 := enters_of Tryz.func203 (by kernel_rfl) rfl
theorem e204 : Enters Tryz.prog 204 := enters_of Tryz.func204 (by kernel_rfl) rfl
theorem e210 : Enters Tryz.prog 210 := enters_of Tryz.func210 (by kernel_rfl) rfl
theorem e211 : Enters Tryz.prog 211 := enters_of Tryz.func211 (by kernel_rfl) rfl
theorem e212 : Enters Tryz.prog 212 := enters_of Tryz.func212 (by kernel_rfl) rfl
theorem e217 : Enters Tryz.prog 217 := enters_of Tryz.func217 (by kernel_rfl) rfl
theorem e218 : Enters Tryz.prog 218 := enters_of Tryz.func218 (by kernel_rfl) rfl
theorem e219 : Enters Tryz.prog 219 := enters_of Tryz.func219 (by kernel_rfl) rfl
theorem e221 : Enters Tryz.prog 221 := enters_of Tryz.func221 (by kernel_rfl) rfl
theorem e229 : Enters Tryz.prog 229 := enters_of Tryz.func229 (by kernel_rfl) rfl
theorem e230 : Enters Tryz.prog 230 := enters_of Tryz.func230 (by kernel_rfl) rfl
theorem e231 : Enters Tryz.prog 231 := enters_of Tryz.func231 (by kernel_rfl) rfl
theorem e232 : Enters Tryz.prog 232 := enters_of Tryz.func232 (by kernel_rfl) rfl
theorem e236 : Enters Tryz.prog 236 := enters_of Tryz.func236 (by kernel_rfl) rfl
theorem e237 : Enters Tryz.prog 237 := enters_of Tryz.func237 (by kernel_rfl) rfl
theorem e238 : Enters Tryz.prog 238 := enters_of Tryz.func238 (by kernel_rfl) rfl
theorem e239 : Enters Tryz.prog 239 := enters_of Tryz.func239 (by kernel_rfl) rfl
theorem e251 : Enters Tryz.prog 251 := enters_of Tryz.func251 (by kernel_rfl) rfl
theorem e252 : Enters Tryz.prog 252 := enters_of Tryz.func252 (by kernel_rfl) rfl
theorem e257 : Enters Tryz.prog 257 := enters_of Tryz.func257 (by kernel_rfl) rfl
theorem e258 : Enters Tryz.prog 258 := enters_of Tryz.func258 (by kernel_rfl) rfl
theorem e259 : Enters Tryz.prog 259 := enters_of Tryz.func259 (by kernel_rfl) rfl
theorem e260 : Enters Tryz.prog 260 := enters_of Tryz.func260 (by kernel_rfl) rfl
theorem e264 : Enters Tryz.prog 264 := enters_of Tryz.func264 (by kernel_rfl) rfl
theorem e265 : Enters Tryz.prog 265 := enters_of Tryz.func265 (by kernel_rfl) rfl
theorem e266 : Enters Tryz.prog 266 := enters_of Tryz.func266 (by kernel_rfl) rfl
theorem e269 : Enters Tryz.prog 269 := enters_of Tryz.func269 (by kernel_rfl) rfl
theorem e283 : Enters Tryz.prog 283 := enters_of Tryz.func283 (by kernel_rfl) rfl
theorem e284 : Enters Tryz.prog 284 := enters_of Tryz.func284 (by kernel_rfl) rfl
theorem e285 : Enters Tryz.prog 285 := enters_of Tryz.func285 (by kernel_rfl) rfl
theorem e286 : Enters Tryz.prog 286 := enters_of Tryz.func286 (by kernel_rfl) rfl
theorem e287 : Enters Tryz.prog 287 := enters_of Tryz.func287 (by kernel_rfl) rfl
theorem e288 : Enters Tryz.prog 288 := enters_of Tryz.func288 (by kernel_rfl) rfl
theorem e289 : Enters Tryz.prog 289 := enters_of Tryz.func289 (by kernel_rfl) rfl
theorem e292 : Enters Tryz.prog 292 := enters_of Tryz.func292 (by kernel_rfl) rfl
theorem e293 : Enters Tryz.prog 293 := enters_of Tryz.func293 (by kernel_rfl) rfl
theorem e301 : Enters Tryz.prog 301 := enters_of Tryz.func301 (by kernel_rfl) rfl
theorem e302 : Enters Tryz.prog 302 := enters_of Tryz.func302 (by kernel_rfl) rfl
theorem e303 : Enters Tryz.prog 303 := enters_of Tryz.func303 (by kernel_rfl) rfl
theorem e304 : Enters Tryz.prog 304 := enters_of Tryz.func304 (by kernel_rfl) rfl
theorem e305 : Enters Tryz.prog 305 := enters_of Tryz.func305 (by kernel_rfl) rfl
theorem e306 : Enters Tryz.prog 306 := enters_of Tryz.func306 (by kernel_rfl) rfl
theorem e308 : Enters Tryz.prog 308 := enters_of Tryz.func308 (by kernel_rfl) rfl
theorem e309 : Enters Tryz.prog 309 := enters_of Tryz.func309 (by kernel_rfl) rfl
theorem e310 : Enters Tryz.prog 310 := enters_of Tryz.func310 (by kernel_rfl) rfl
theorem e311 : Enters Tryz.prog 311 := enters_of Tryz.func311 (by kernel_rfl) rfl
theorem e312 : Enters Tryz.prog 312 := enters_of Tryz.func312 (by kernel_rfl) rfl
theorem e313 : Enters Tryz.prog 313 := enters_of Tryz.func313 (by kernel_rfl) rfl
theorem e314 : Enters Tryz.prog 314 := enters_of Tryz.func314 (by kernel_rfl) rfl
theorem e315 : Enters Tryz.prog 315 := enters_of Tryz.func315 (by kernel_rfl) rfl
theorem e316 : Enters Tryz.prog 316 := enters_of Tryz.func316 (by kernel_rfl) rfl
theorem e317 : Enters Tryz.prog 317 := enters_of Tryz.func317 (by kernel_rfl) rfl
theorem e319 : Enters Tryz.prog 319 := enters_of Tryz.func319 (by kernel_rfl) rfl
theorem e320 : Enters Tryz.prog 320 := enters_of Tryz.func320 (by kernel_rfl) rfl
theorem e321 : Enters Tryz.prog 321 := enters_of Tryz.func321 (by kernel_rfl) rfl
theorem e322 : Enters Tryz.prog 322 := enters_of Tryz.func322 (by kernel_rfl) rfl
theorem e323 : Enters Tryz.prog 323 := enters_of Tryz.func323 (by kernel_rfl) rfl
theorem e324 : Enters Tryz.prog 324 := enters_of Tryz.func324 (by kernel_rfl) rfl
theorem e325 : Enters Tryz.prog 325 := enters_of Tryz.func325 (by kernel_rfl) rfl
theorem e326 : Enters Tryz.prog 326 := enters_of Tryz.func326 (by kernel_rfl) rfl
theorem e327 : Enters Tryz.prog 327 := enters_of Tryz.func327 (by kernel_rfl) rfl
theorem e328 : Enters Tryz.prog 328 := enters_of Tryz.func328 (by kernel_rfl) rfl
theorem x169 : ∀ (b : Nat) (w : World), (callFunc 169 #[.float .f64 b]).run Tryz.prog w = .ok (.value (.int .u64 b)) w := fun b w => by kernel_rfl
end Go.Proofs.YthbjfhhiajihfaaGreat
namespace Go.Proofs
open Go.Shelf
def Tryz.lays213_ren : Go.Shelf.Ren := ⟨fun | 213 => 270 | 265 => 294 | n => n, fun | 9 => 9 | 3 => 3 | n => n, fun | n => n⟩
def Tryz.lays106_ren : Go.Shelf.Ren := ⟨fun | 106 => 232 | 213 => 270 | 265 => 294 | n => n, fun | 9 => 9 | 3 => 3 | n => n, fun | n => n⟩
theorem Tryz.lays106 : Go.Proofs.Lays.n106 Tryz.prog Tryz.lays106_ren := {
  mixed := by kernel_rfl
  f106 := Tryz.func232.trans (congrArg some (by kernel_rfl))
  f213 := Tryz.func270.trans (congrArg some (by kernel_rfl))
  f265 := Tryz.func294.trans (congrArg some (by kernel_rfl))
  t3 := Tryz.underlying3
  a3 := Tryz.isAgg3
  z3 := Tryz.sizeOf3
  v3 := Tryz.zeroValue3
  t9 := Tryz.underlying9
  a9 := Tryz.isAgg9
  z9 := Tryz.sizeOf9
  v9 := Tryz.zeroValue9 }
open Go.RowKit in
theorem Tryz.strings_Compare (a b : ByteArray) (w : World) :
    Calls Tryz.prog 232 #[.string a, .string b] w fun e w' => e = .returned (.int .i64 (Lib.compareBytes a.data.toList b.data.toList)) ∧ w' = w := Any.strings_Compare Tryz.lays106 a b w
def Tryz.lays137_ren : Go.Shelf.Ren := ⟨fun | 137 => 327 | 217 => 329 | 266 => 330 | n => n, fun | 9 => 9 | 5 => 5 | 3 => 3 | n => n, fun | n => n⟩
theorem Tryz.lays137 : Go.Proofs.Lays.n137 Tryz.prog Tryz.lays137_ren := {
  mixed := by kernel_rfl
  f137 := Tryz.func327.trans (congrArg some (by kernel_rfl))
  f217 := Tryz.func329.trans (congrArg some (by kernel_rfl))
  f266 := Tryz.func330.trans (congrArg some (by kernel_rfl))
  t3 := Tryz.underlying3
  a3 := Tryz.isAgg3
  z3 := Tryz.sizeOf3
  v3 := Tryz.zeroValue3
  t5 := Tryz.underlying5
  a5 := Tryz.isAgg5
  z5 := Tryz.sizeOf5
  v5 := Tryz.zeroValue5
  t9 := Tryz.underlying9
  a9 := Tryz.isAgg9
  z9 := Tryz.sizeOf9
  v9 := Tryz.zeroValue9 }
open Go.RowKit in
theorem Tryz.strings_IndexByte (s : ByteArray) (c : Int) (w : World) :
    Calls Tryz.prog 327 #[.string s, .int .u8 c] w fun e w' => e = .returned (.int .i64 (Lib.indexByte s.data.toList c.toNat.toUInt8)) ∧ w' = w := Any.strings_IndexByte Tryz.lays137 s c w
def Tryz.lays215_ren : Go.Shelf.Ren := ⟨fun | 215 => 213 | n => n, fun | 3 => 3 | 4 => 4 | n => n, fun | n => n⟩
def Tryz.lays122_ren : Go.Shelf.Ren := ⟨fun | 122 => 160 | 215 => 213 | n => n, fun | 3 => 3 | 4 => 4 | n => n, fun | n => n⟩
theorem Tryz.lays122 : Go.Proofs.Lays.n122 Tryz.prog Tryz.lays122_ren := {
  mixed := by kernel_rfl
  f122 := Tryz.func160.trans (congrArg some (by kernel_rfl))
  f215 := Tryz.func213.trans (congrArg some (by kernel_rfl))
  t3 := Tryz.underlying3
  a3 := Tryz.isAgg3
  z3 := Tryz.sizeOf3
  v3 := Tryz.zeroValue3
  t4 := Tryz.underlying4
  a4 := Tryz.isAgg4
  z4 := Tryz.sizeOf4
  v4 := Tryz.zeroValue4 }
open Go.RowKit in
theorem Tryz.cmp_Compare_int (x y : Int) (w : World) :
    Calls Tryz.prog 160 #[.int .i64 x, .int .i64 y] w fun e w' => e = .returned (.int .i64 (Lib.compareInt x y)) ∧ w' = w := Any.cmp_Compare_int Tryz.lays122 x y w
def Tryz.lays189_ren : Go.Shelf.Ren := ⟨fun | 189 => 145 | 125 => 200 | 257 => 199 | 128 => 249 | 129 => 250 | 294 => 240 | 295 => 241 | 296 => 242 | 297 => 243 | 298 => 244 | 299 => 245 | 216 => 246 | 300 => 247 | 301 => 248 | 328 => 273 | 329 => 274 | 330 => 275 | 331 => 276 | 332 => 277 | 215 => 213 | 343 => 296 | n => n, fun | 28 => 37 | 3 => 3 | 46 => 248 | 0 => 0 | 51 => 291 | 53 => 66 | 4 => 4 | 183 => 284 | 182 => 283 | 131 => 164 | 5 => 5 | 9 => 9 | 218 => 310 | 222 => 314 | 228 => 330 | 229 => 331 | n => n, fun | n => n⟩
theorem Tryz.lays189 : Go.Proofs.Lays.n189 Tryz.prog Tryz.lays189_ren := {
  mixed := by kernel_rfl
  f125 := Tryz.func200.trans (congrArg some (by kernel_rfl))
  f128 := Tryz.func249.trans (congrArg some (by kernel_rfl))
  f129 := Tryz.func250.trans (congrArg some (by kernel_rfl))
  f189 := Tryz.func145.trans (congrArg some (by kernel_rfl))
  f215 := Tryz.func213.trans (congrArg some (by kernel_rfl))
  f216 := Tryz.func246.trans (congrArg some (by kernel_rfl))
  f257 := Tryz.func199.trans (congrArg some (by kernel_rfl))
  f294 := Tryz.func240.trans (congrArg some (by kernel_rfl))
  f295 := Tryz.func241.trans (congrArg some (by kernel_rfl))
  f296 := Tryz.func242.trans (congrArg some (by kernel_rfl))
  f297 := Tryz.func243.trans (congrArg some (by kernel_rfl))
  f298 := Tryz.func244.trans (congrArg some (by kernel_rfl))
  f299 := Tryz.func245.trans (congrArg some (by kernel_rfl))
  f300 := Tryz.func247.trans (congrArg some (by kernel_rfl))
  f301 := Tryz.func248.trans (congrArg some (by kernel_rfl))
  f328 := Tryz.func273.trans (congrArg some (by kernel_rfl))
  f329 := Tryz.func274.trans (congrArg some (by kernel_rfl))
  f330 := Tryz.func275.trans (congrArg some (by kernel_rfl))
  f331 := Tryz.func276.trans (congrArg some (by kernel_rfl))
  f332 := Tryz.func277.trans (congrArg some (by kernel_rfl))
  f343 := Tryz.func296.trans (congrArg some (by kernel_rfl))
  t0 := Tryz.underlying0
  a0 := Tryz.isAgg0
  z0 := Tryz.sizeOf0
  v0 := Tryz.zeroValue0
  t3 := Tryz.underlying3
  a3 := Tryz.isAgg3
  z3 := Tryz.sizeOf3
  v3 := Tryz.zeroValue3
  t4 := Tryz.underlying4
  a4 := Tryz.isAgg4
  z4 := Tryz.sizeOf4
  v4 := Tryz.zeroValue4
  t5 := Tryz.underlying5
  a5 := Tryz.isAgg5
  z5 := Tryz.sizeOf5
  v5 := Tryz.zeroValue5
  t9 := Tryz.underlying9
  a9 := Tryz.isAgg9
  z9 := Tryz.sizeOf9
  v9 := Tryz.zeroValue9
  t28 := Tryz.underlying37
  a28 := Tryz.isAgg37
  z28 := Tryz.sizeOf37
  v28 := Tryz.zeroValue37
  t46 := Tryz.underlying248
  a46 := Tryz.isAgg248
  z46 := Tryz.sizeOf248
  v46 := Tryz.zeroValue248
  t51 := Tryz.underlying291
  a51 := Tryz.isAgg291
  z51 := Tryz.sizeOf291
  v51 := Tryz.zeroValue291
  t53 := Tryz.underlying66
  a53 := Tryz.isAgg66
  z53 := Tryz.sizeOf66
  v53 := Tryz.zeroValue66
  t131 := Tryz.underlying164
  a131 := Tryz.isAgg164
  z131 := Tryz.sizeOf164
  v131 := Tryz.zeroValue164
  t182 := Tryz.underlying283
  a182 := Tryz.isAgg283
  z182 := Tryz.sizeOf283
  v182 := Tryz.zeroValue283
  t183 := Tryz.underlying284
  a183 := Tryz.isAgg284
  z183 := Tryz.sizeOf284
  v183 := Tryz.zeroValue284
  t218 := Tryz.underlying310
  a218 := Tryz.isAgg310
  z218 := Tryz.sizeOf310
  v218 := Tryz.zeroValue310
  t222 := Tryz.underlying314
  a222 := Tryz.isAgg314
  z222 := Tryz.sizeOf314
  v222 := Tryz.zeroValue314
  t228 := Tryz.underlying330
  a228 := Tryz.isAgg330
  z228 := Tryz.sizeOf330
  v228 := Tryz.zeroValue330
  t229 := Tryz.underlying331
  a229 := Tryz.isAgg331
  z229 := Tryz.sizeOf331
  v229 := Tryz.zeroValue331 }
open Go.Sort Go.RowKit in
theorem Tryz.slices_Sort_int (blk off cap : Nat) (zs : List Int) (w : World) (hH : Holds (Value.int .i64) w blk off zs.toArray) (hblk : blk < w.heap.size) (hsz : zs.length < 4611686018427387904) :
    Calls Tryz.prog 145 #[.slice (some ⟨blk, off, none⟩) zs.length cap] w fun e w' =>
      e = .returned (.tuple #[]) ∧ ∃ n os, w' = grow (putRow (Value.int .i64) (Sort.ahead w n) blk off (zs.mergeSort fun x y => decide (x ≤ y)).toArray) os := Any.slices_Sort_int Tryz.lays189 blk off cap zs w hH hblk hsz
def Tryz.lays107_ren : Go.Shelf.Ren := ⟨fun | 107 => 252 | 108 => 278 | n => n, fun | 28 => 37 | 3 => 3 | 4 => 4 | 0 => 0 | n => n, fun | n => n⟩
theorem Tryz.lays107 : Go.Proofs.Lays.n107 Tryz.prog Tryz.lays107_ren := {
  mixed := by kernel_rfl
  f107 := Tryz.func252.trans (congrArg some (by kernel_rfl))
  f108 := Tryz.func278.trans (congrArg some (by kernel_rfl))
  t0 := Tryz.underlying0
  a0 := Tryz.isAgg0
  z0 := Tryz.sizeOf0
  v0 := Tryz.zeroValue0
  t3 := Tryz.underlying3
  a3 := Tryz.isAgg3
  z3 := Tryz.sizeOf3
  v3 := Tryz.zeroValue3
  t4 := Tryz.underlying4
  a4 := Tryz.isAgg4
  z4 := Tryz.sizeOf4
  v4 := Tryz.zeroValue4
  t28 := Tryz.underlying37
  a28 := Tryz.isAgg37
  z28 := Tryz.sizeOf37
  v28 := Tryz.zeroValue37 }
open Go.Lib in
theorem Tryz.slices_Contains_int (b off n c : Nat) (zs : List Int) (x : Int) (w : World) (hz : n ≤ zs.length) (hbig : n ≤ 9223372036854775807) (hc : ∀ j, j < zs.length → w.cell? ⟨b, off + j, none⟩ = some (.int .i64 (zs.getD j 0))) :
    Calls Tryz.prog 252 #[.slice (some ⟨b, off, none⟩) n c, .int .i64 x] w fun e w' => e = .returned (.bool ((zs.take n).contains x)) ∧ w' = w := Any.slices_Contains_int Tryz.lays107 b off n c zs x w hz hbig hc
open Go.Lib in
theorem Tryz.slices_Contains_int_empty (a : Option Addr) (c : Nat) (x : Int) (w : World) :
    Calls Tryz.prog 252 #[.slice a 0 c, .int .i64 x] w fun e w' => e = .returned (.bool false) ∧ w' = w := Any.slices_Contains_int_empty Tryz.lays107 a c x w
def Tryz.laysNm220_ren : Go.Shelf.Ren := ⟨fun | 20 => 146 | n => n, fun | 22 => 37 | 3 => 3 | 4 => 4 | 0 => 0 | n => n, fun | n => n⟩
theorem Tryz.laysNm220 : Go.Proofs.Lays2.n20 Tryz.prog Tryz.laysNm220_ren := {
  mixed := by kernel_rfl
  f20 := Tryz.func146.trans (congrArg some (by kernel_rfl))
  t0 := Tryz.underlying0
  a0 := Tryz.isAgg0
  z0 := Tryz.sizeOf0
  v0 := Tryz.zeroValue0
  t3 := Tryz.underlying3
  a3 := Tryz.isAgg3
  z3 := Tryz.sizeOf3
  v3 := Tryz.zeroValue3
  t4 := Tryz.underlying4
  a4 := Tryz.isAgg4
  z4 := Tryz.sizeOf4
  v4 := Tryz.zeroValue4
  t22 := Tryz.underlying37
  a22 := Tryz.isAgg37
  z22 := Tryz.sizeOf37
  v22 := Tryz.zeroValue37
  i3 := by kernel_rfl }
open Go.RowKit Go.Lib Go.Sort in
theorem Tryz.slices_Compact_int (blk off cap : Nat) (zs : List Int) (w : World) (hH : Holds (Value.int .i64) w blk off zs.toArray) (hsz : zs.length ≤ 9223372036854775807) (hcap : zs.length ≤ cap) :
    Calls Tryz.prog 146 #[.slice (some ⟨blk, off, none⟩) zs.length cap] w fun e w' => e = .returned (.slice (some ⟨blk, off, none⟩) (Lib.compact zs).length cap) ∧ ∃ q, w' = putRow (Value.int .i64) (Sort.ahead w q) blk off (Lib.compact zs ++ List.replicate (zs.length - (Lib.compact zs).length) 0).toArray := Any.slices_Compact_int Tryz.laysNm220 blk off cap zs w hH hsz hcap
open Go.RowKit Go.Lib Go.Sort in
theorem Tryz.slices_Compact_int_empty (a : Option Addr) (cap : Nat) (w : World) :
    Calls Tryz.prog 146 #[.slice a 0 cap] w fun e w' => e = .returned (.slice a 0 cap) ∧ w' = w := Any.slices_Compact_int_empty Tryz.laysNm220 a cap w
open Go.RowKit Go.Sort in
theorem Tryz.slices_Sort_int_none (p : Option Addr) (cap : Nat) (w : World) :
    Calls Tryz.prog 145 #[.slice p 0 cap] w fun e w' => e = .returned (.tuple #[]) ∧ w' = w := Any.slices_Sort_int_none Tryz.lays189 p cap w
end Go.Proofs
