/- What the claim stands on, part 1. Of own lemmas only those that it reaches. -/
import Derived.Test.YthbjfhhiajihfaaGreatKf0
set_option linter.unusedVariables false
namespace Go.X
open Go Go.RowKit Go.WideShapes Go.ChangeShapes
section
variable {H : Type} {enc : TypeId × Value → H} {P : Program} {W : World} {base : Nat} {sp : Nat → Bool} {held : Bool}
theorem trod_str {s m : Nat} {cs : List Value} {y : DataW H × List MemPlace} (hs : P.underlying s = some .string) (h : DataW.trod enc P W base sp held m s cs = some y) : ∃ a : ByteArray, cs = [.string a] ∧ a.size ≤ 9223372036854775807 := by
 cases m with
 | zero => simp [DataW.trod] at h
 | succ n =>
  unfold DataW.trod at h
  rw [hs] at h
  split at h <;> simp_all
  simp only [maxLen] at h
  omega
theorem trod_f64 {s m : Nat} {cs : List Value} {y : DataW H × List MemPlace} (hs : P.underlying s = some (.float .f64)) (h : DataW.trod enc P W base sp held m s cs = some y) : ∃ b : Nat, cs = [.float .f64 b] ∧ b < 18446744073709551616 := by
 cases m with
 | zero => simp [DataW.trod] at h
 | succ n =>
  unfold DataW.trod at h
  rw [hs] at h
  split at h <;> simp_all
  obtain ⟨⟨rfl, hw⟩, _⟩ := h
  subst_vars
  simpa [Lit.wf] using hw
theorem trod_i64 {s m : Nat} {cs : List Value} {y : DataW H × List MemPlace} (hs : P.underlying s = some (.int .i64)) (h : DataW.trod enc P W base sp held m s cs = some y) : ∃ b : Int, cs = [.int .i64 b] ∧ -9223372036854775808 ≤ b ∧ b ≤ 9223372036854775807 := by
 cases m with
 | zero => simp [DataW.trod] at h
 | succ n =>
  unfold DataW.trod at h
  rw [hs] at h
  split at h <;> simp_all
  obtain ⟨⟨rfl, hw⟩, _⟩ := h
  subst_vars
  simpa [Lit.wf, IntKind.min, IntKind.max, IntKind.signed, IntKind.bits] using hw
end
end Go.X
namespace Go.X
open Ieee
end Go.X
set_option linter.unusedVariables false
set_option linter.unusedSimpArgs false
namespace Go.X
open Go Go.RowKit
section
variable {P : Program} {n : Nat} {e : Env} {w : World} {C : World → Prop}
def fromAt (ad : Option Addr) (cap m sz : Nat) : Option Addr := ad.map fun a => if cap = m then a else a.add (m * sz)
theorem Yld.sliceFrom {d : Option Tmp} {t el : Nat} {x h : Operand} {ty : TypeId} {pos : String} {af : Array Edge} {g : Option (Nat × Bool)} (hT : SlT P t el) {z : Value} {sz by' : Nat} (hE : TI P el z sz by') {ad : Option Addr} {len cap m : Nat} {k : IntKind} (hx : ev e x = some (.slice ad len cap)) (hh : ev e h = some (.int k (m : Int))) (hm : m ≤ len) :
  Yld P n C e ⟨d, .slice t x (some h) none none, ty, pos, af, g⟩ (.slice (fromAt ad cap m sz) (len - m) (cap - m)) := by
 intro a ha w _
 have h1 : (m : Int) ≤ len := by omega
 cases ad with
 | none => simp [execOp, ha.ev hx, ha.ev hh, Instr.sliceAt, Instr.slice, run_underlying hT, Instr.sliceBounds, Instr.sliceBound, asIntOf, hE.sizeOf w, h1, hm, fromAt]
 | some ad => by_cases hcm : cap = m <;> simp [execOp, ha.ev hx, ha.ev hh, Instr.sliceAt, Instr.slice, run_underlying hT, Instr.sliceBounds, Instr.sliceBound, asIntOf, hE.sizeOf w, h1, hm, hcm, fromAt]
end
theorem Row.cap {w : World} {t : TypeId} {sz : Nat} {v : Value} {k : Nat} {xs : List Value} (h : Row w t sz v k xs) : ∃ ad c, v = .slice ad k c ∧ k ≤ c := by
 rcases h.2 with ⟨rfl, rfl⟩ | ⟨g, cap, cur, rfl, _, _, hnc, _⟩
 ·exact ⟨_, _, rfl, Nat.le_refl _⟩
 ·exact ⟨_, _, rfl, hnc⟩
end Go.X
set_option linter.unusedVariables false
namespace Go.X
open Go Go.RowKit
def okPre (ops : Array Oper) (fin : Array Bool → Bool) : Array Bool → List (Nat × Bool) → Bool
 | L, [] => fin L
 | L, (i, loud) :: r => (if loud then Region.ready .any ops L == [i] else (Region.ready .any ops L).contains i && Region.free .any ops L i) && okPre ops fin (L.setIfInBounds i true) r
theorem wpOp_exits {P : Program} {ops : Array Oper} {Q E : Exit → Act → World → Prop} (h1 : ∀ c a w, ¬ E (.panic c) a w) (h2 : ¬ LetsOut E) {i : Nat} {K : Act → World → Prop} {a : Act} {w : World} (h : wpOp P ops E i K a w) : wpOp P ops Q i K a w := by
  unfold wpOp at *
  split
  · rename_i ho; simpa [ho] using h
  · rename_i o ho
    simp only [ho] at h
    split
    · rename_i hw
      rw [if_pos hw] at h
      refine .inl ?_
      rcases h with h | ⟨_, h⟩
      · unfold Oper.wp at *
        generalize (execOp a.eval o).run P w = r at *
        unfold Oper.upon at *
        split at h <;> first
          | exact h
          | exact absurd h (h1 _ _ _)
          | exact h.elim
          | (refine Calls.mono h fun e w' he => ?_
             cases e with
             | returned v => exact he
             | panicked c => exact absurd he (h1 _ _ _)
             | outgrown => exact absurd he h2)
      · exact absurd h h2
    · rename_i hw
      rw [if_neg hw] at h
      exact h
theorem wpT_of_pre {P : Program} {ops : Array Oper} {S : World → Prop} {tl : List Nat} {Q E : Exit → Act → World → Prop} (hs : Region.noSelect ops = true) (hQ : ∀ c a w, ¬ Q (.panic c) a w) (hE : ∀ c a w, ¬ E (.panic c) a w) (hE2 : ¬ LetsOut E) {fin : Array Bool → Bool} {f0 : Nat} (hfin : ∀ L a w, fin L = true → E .normal a w → wpT P ops Q S tl.contains f0 L a w) :
  ∀ (l : List (Nat × Bool)) (L : Array Bool) (a : Act) (w : World), okPre ops fin L l = true → wpOrd P ops S tl E l a w → wpT P ops Q S tl.contains (l.length + f0) L a w
 | [], L, a, w, h, hw => by rw [List.length_nil, Nat.zero_add]; exact hfin L a w h hw
 | (i, false) :: r, L, a, w, h, hw => by
  simp only [okPre, Bool.and_eq_true, Bool.false_eq_true, if_false] at h
  obtain ⟨o, v, ho, hy, hr⟩ := hw
  have hrec := wpT_of_pre hs hQ hE hE2 hfin r _ _ _ h.2 hr
  have hfree := Region.free_spec ho h.1.2
  have e : ((i, false) :: r).length + f0 = (r.length + f0) + 1 := by simp; omega
  rw [e]
  rcases hy with hy | ⟨ht, hy, hSw⟩
  ·exact wpT_take hs hQ ho (C := fun _ => True) (fun _ _ => trivial) (.inl fun _ => trivial) _ _ _ _ hfree (by simpa using h.1.1) hy trivial (.inl fun _ => trivial) hrec
  ·refine wpT_take hs hQ ho (C := S) (fun _ h => h) (.inr fun j oj hj htj => ?_) _ _ _ _ hfree (by simpa using h.1.1) hy hSw (.inr hSw) hrec
   have h1 := List.all_eq_true.1 ht j (by simpa using htj)
   have h2 : nth ops.toList j = some oj := by rw [nth_eq]; simpa using hj
   simp only [h2] at h1
   exact h1
 | (i, true) :: r, L, a, w, h, hw => by
  simp only [okPre, Bool.and_eq_true, if_true, beq_iff_eq] at h
  have e : ((i, true) :: r).length + f0 = (r.length + f0) + 1 := by simp; omega
  rw [e]
  refine ⟨fun h0 => (by rw [h.1] at h0; cases h0), fun j hj => ?_⟩
  rw [h.1] at hj
  simp only [List.mem_singleton] at hj
  subst hj
  exact wpOp_exits hE hE2 (wpOp_mono (fun a' w' h' => ⟨h'.1, wpT_of_pre hs hQ hE hE2 hfin r _ _ _ h.2 h'.2⟩) hw)
def Fork (P : Program) (ops : Array Oper) (S : World → Prop) (tl : List Nat) (Q : Exit → Act → World → Prop) (p q : List (Nat × Bool)) : Exit → Act → World → Prop := fun x a w => x = .normal ∧ wpOrd P ops S tl Q p a w ∧ wpOrd P ops S tl Q q a w
section
variable {P : Program} {f : FuncId} {n : Nat} {R : Ending → World → Prop} {k : List Item} {e : Env} {w : World}
theorem RK.drawF {id : Nat} {l : List Oper} (M : Nat → Prop) (ord : List (Nat × Bool)) (a b : Nat) (p q : List (Nat × Bool)) (tl : List Nat) (hm : P.follows .mixedOrders = true)
  (hb : (Region.noSelect l.toArray && okPre l.toArray (fun L => Region.ready .any l.toArray L == [a, b] && okOrd l.toArray tl (L.setIfInBounds a true) p && okOrd l.toArray tl (L.setIfInBounds b true) q) (Array.replicate l.length false) ord && Nat.beq l.length (ord.length + (p.length + 1)) && Nat.beq p.length q.length) = true)
  (h : DL P n l (Mod M w) tl ord e w.drew (Fork P l.toArray (Mod M w) tl (post P f R k) ((a, true) :: p) ((b, true) :: q))) : RK P f n R (.code (.region id l.toArray true) :: k) e w := by
 intro ac ha
 simp only [Bool.and_eq_true] at hb
 obtain ⟨⟨⟨hs, hpre⟩, hl⟩, hpq⟩ := hb
 have hl : l.length = ord.length + (p.length + 1) := Nat.eq_of_beq_eq_true hl
 have hpq : p.length = q.length := Nat.eq_of_beq_eq_true hpq
 refine Runs.of_wp (wp_region_any hm (wpT_any (S := Mod M w) (T := tl.contains) _ _ _ _ ?_))
 have := wpT_of_pre (P := P) (S := Mod M w) (tl := tl) (Q := post P f R k) (E := Fork P l.toArray (Mod M w) tl (post P f R k) ((a, true) :: p) ((b, true) :: q)) hs (fun c a w h => h) (fun c a w h => by cases h.1) (fun ⟨a, w, h⟩ => by cases h.1) (f0 := p.length + 1) (fun L a' w' hfin hE => ?_) ord _ ac _ hpre (h ac ha)
 ·simpa [hl] using this
 ·simp only [Bool.and_eq_true, beq_iff_eq] at hfin
  obtain ⟨⟨hr, hp⟩, hq⟩ := hfin
  obtain ⟨_, h1, h2⟩ := hE
  refine ⟨fun h0 => (by rw [hr] at h0; cases h0), fun j hj => ?_⟩
  rw [hr] at hj
  simp only [List.mem_cons, List.not_mem_nil, or_false] at hj
  rcases hj with rfl | rfl
  ·exact wpOp_mono (fun a2 w2 h3 => ⟨h3.1, wpT_of_ord hs (fun c a w h => h) p _ _ _ hp h3.2⟩) h1
  ·rw [hpq]
   exact wpOp_mono (fun a2 w2 h3 => ⟨h3.1, wpT_of_ord hs (fun c a w h => h) q _ _ _ hq h3.2⟩) h2
theorem DL.fork {ops : List Oper} {S : World → Prop} {tl : List Nat} {Q : Exit → Act → World → Prop} {p q : List (Nat × Bool)} (h1 : DL P n ops S tl p e w Q) (h2 : DL P n ops S tl q e w Q) : DL P n ops S tl [] e w (Fork P ops.toArray S tl Q p q) := fun a ha => ⟨rfl, h1 a ha, h2 a ha⟩
end
end Go.X
set_option linter.unusedVariables false
set_option linter.unusedSimpArgs false
namespace Go.X
open Go Go.RowKit
section
variable {κ α : Type} [DecidableEq κ]
theorem cutM_nil (k : κ) : cutM ([] : List (κ × α)) k = [] := rfl
theorem cutM_cons (k j : κ) (v : α) (l : List (κ × α)) : cutM ((j, v) :: l) k = if k = j then l else (j, v) :: cutM l k := by
 unfold cutM
 simp only [placeM]
 by_cases h : k = j
 ·simp [h]
 ·simp only [if_neg h]
  cases placeM k l with
  | none => rfl
  | some p => rfl
theorem lookM_cons (k j : κ) (v : α) (l : List (κ × α)) : lookM ((j, v) :: l) k = if k = j then some v else lookM l k := by
 unfold lookM
 simp only [placeM]
 by_cases h : k = j
 ·simp [h]
 ·simp only [if_neg h, Option.map_map]
  cases placeM k l <;> rfl
theorem putM_cons (k j : κ) (u v : α) (l : List (κ × α)) : putM ((j, v) :: l) k u = if k = j then (j, u) :: l else (j, v) :: putM l k u := by
 unfold putM
 simp only [placeM]
 by_cases h : k = j
 ·simp [h]
 ·simp only [if_neg h]
  cases placeM k l with
  | none => rfl
  | some p => simp
theorem lookM_putM (k k' : κ) (v : α) : ∀ l : List (κ × α), lookM (putM l k v) k' = if k' = k then some v else lookM l k'
 | [] => by
  have : putM ([] : List (κ × α)) k v = [(k, v)] := rfl
  rw [this, lookM_cons]
 | (j, u) :: l => by
  rw [putM_cons]
  by_cases h : k = j
  ·subst h
   rw [if_pos rfl, lookM_cons, lookM_cons]
   by_cases h' : k' = k <;> simp [h']
  ·rw [if_neg h, lookM_cons, lookM_cons, lookM_putM k k' v l]
   by_cases h' : k' = j
   ·rw [if_pos h', if_pos h', if_neg (fun e => h (e.symm.trans h'))]
   ·rw [if_neg h', if_neg h']
theorem lookM_none {k : κ} {l : List (κ × α)} : lookM l k = none ↔ k ∉ l.map (·.1) := by
 unfold lookM
 rw [Option.map_eq_none_iff, placeM_none]
theorem putM_new {k : κ} {l : List (κ × α)} (h : lookM l k = none) (v : α) : putM l k v = l ++ [(k, v)] := by
 have : placeM k l = none := by unfold lookM at h; exact Option.map_eq_none_iff.1 h
 unfold putM; rw [this]
theorem mem_cutM {k : κ} {t : κ × α} : ∀ {l : List (κ × α)}, (l.map (·.1)).Nodup → (t ∈ cutM l k ↔ t ∈ l ∧ t.1 ≠ k)
 | [], _ => by simp [cutM_nil]
 | (j, v) :: l, h => by
  rw [List.map_cons, List.nodup_cons] at h
  rw [cutM_cons]
  by_cases hk : k = j
  ·subst hk
   rw [if_pos rfl, List.mem_cons]
   constructor
   ·intro ht
    exact ⟨.inr ht, fun e => h.1 (List.mem_map.2 ⟨t, ht, e⟩)⟩
   ·rintro ⟨rfl | ht, hn⟩
    ·exact absurd rfl hn
    ·exact ht
  ·rw [if_neg hk, List.mem_cons, mem_cutM h.2, List.mem_cons]
   constructor
   ·rintro (rfl | ⟨ht, hn⟩)
    ·exact ⟨.inl rfl, fun e => hk e.symm⟩
    ·exact ⟨.inr ht, hn⟩
   ·rintro ⟨rfl | ht, hn⟩
    ·exact .inl rfl
    ·exact .inr ⟨ht, hn⟩
theorem cutM_sub (k : κ) : ∀ l : List (κ × α), (cutM l k).Sublist l
 | [] => List.Sublist.refl _
 | (j, v) :: l => by
  rw [cutM_cons]
  by_cases hk : k = j
  ·rw [if_pos hk]; exact List.sublist_cons_self _ _
  ·rw [if_neg hk]; exact (cutM_sub k l).cons_cons _
theorem cutM_nodup {k : κ} {l : List (κ × α)} (h : (l.map (·.1)).Nodup) : ((cutM l k).map (·.1)).Nodup := h.sublist ((cutM_sub k l).map _)
theorem putM_nodup {k : κ} {v : α} {l : List (κ × α)} (h : (l.map (·.1)).Nodup) : ((putM l k v).map (·.1)).Nodup := by
 rw [putM_keys]
 split
 ·exact h
 ·rename_i hk
  rw [List.nodup_append]
  exact ⟨h, by simp, fun a ha b hb e => hk (by simp at hb; subst hb; exact e ▸ ha)⟩
theorem lookM_iff {k : κ} {v : α} : ∀ {l : List (κ × α)}, (l.map (·.1)).Nodup → (lookM l k = some v ↔ (k, v) ∈ l)
 | [], _ => by simp [lookM, placeM]
 | (j, u) :: l, h => by
  rw [List.map_cons, List.nodup_cons] at h
  rw [lookM_cons, List.mem_cons]
  by_cases hk : k = j
  ·subst hk
   rw [if_pos rfl]
   constructor
   ·intro e; cases e; exact .inl rfl
   ·rintro (e | e)
    ·cases e; rfl
    ·exact absurd (List.mem_map_of_mem (f := (·.1)) e) h.1
  ·rw [if_neg hk, lookM_iff h.2]
   constructor
   ·exact .inr
   ·rintro (e | e)
    ·cases e; exact absurd rfl hk
    ·exact e
theorem lookM_cutM {k k' : κ} {l : List (κ × α)} (h : (l.map (·.1)).Nodup) : lookM (cutM l k) k' = if k' = k then none else lookM l k' := by
 by_cases hk : k' = k
 ·rw [if_pos hk, lookM_none]
  intro hm
  obtain ⟨t, ht, e⟩ := List.mem_map.1 hm
  exact ((mem_cutM h).1 ht).2 (by simpa [hk] using e)
 ·rw [if_neg hk]
  apply Option.ext
  intro v
  rw [lookM_iff (cutM_nodup h), lookM_iff h, mem_cutM h]
  exact ⟨fun h => h.1, fun h => ⟨h, hk⟩⟩
end
theorem map_eraseIdx' {α β : Type} (f : α → β) : ∀ (l : List α) (i : Nat), (l.eraseIdx i).map f = (l.map f).eraseIdx i
 | [], i => by simp
 | x :: l, 0 => by simp
 | x :: l, i + 1 => by simp [map_eraseIdx' f l i]
section
variable {P : Program} {n : Nat} {e : Env} {w : World} {κ : Type} [DecidableEq κ] {enc : κ → Value}
theorem Does.delete {d : Option Tmp} {t tk kt el : Nat} {x i : Operand} {ty : TypeId} {pos : String} {af : Array Edge} {g : Option (Nat × Bool)} (hT : P.underlying t = some (.map kt el)) (hK : KeyLaw P kt enc) {m : Nat} {k : κ} {l : List (κ × Value)}
  (hx : ev e x = some (.map (some m))) (hi : ev e i = some (enc k)) (hm : MapAt enc w m l) :
  Does P n e w ⟨d, .call { callee := .builtin .delete, args := #[x, i], argTypes := #[t, tk] }, ty, pos, af, g⟩ (fun _ w' => MapAt enc w' m (cutM l k) ∧ Mod (· = m) w w' ∧ w'.heap.size = w.heap.size) := by
 obtain ⟨es, c, h1, h2, h3, h4⟩ := hm.out
 have hlt : m < w.heap.size := (Array.getElem?_eq_some_iff.1 h1).1
 have hf := hK.find k es.toList l w h2
 have hg : (getObj m).run P w = .ok (.map es c) w := by simp [getObj, Sem.run, h1]
 have hset : ∀ o, (setObj m o).run P w = .ok () { w with heap := w.heap.setIfInBounds m o } := fun o => by simp [setObj, Sem.run, h1]
 have hmod : ∀ o, Mod (· = m) w { w with heap := w.heap.setIfInBounds m o } := fun o => ⟨rfl, rfl, rfl, by simp, fun k hk hn => by simp [Array.getElem?_setIfInBounds_ne (Ne.symm hn)]⟩
 have hat : ∀ o, ({ w with heap := w.heap.setIfInBounds m o } : World).heap[m]? = some o := fun o => by simp [hlt]
 cases hp : placeM k l with
 | some q =>
  obtain ⟨i0, v0⟩ := q
  refine Does.of_run (v := .tuple #[]) (w' := { w with heap := w.heap.setIfInBounds m (.map (es.eraseIdxIfInBounds i0) c) }) (fun a ha => ?_) ⟨⟨_, c, hat _, ?_, ?_, ?_⟩, hmod _, by simp⟩
  ·simp [execOp, resolve, invoke, builtin, ha.ev hx, ha.ev hi, Builtin.delete_, run_underlying hT, hg, hK.check, hf, hp, hset]
  ·simp only [cutM, hp, Array.toList_eraseIdxIfInBounds]
   rw [map_eraseIdx', h2, map_eraseIdx']
  ·simp only [Array.toList_eraseIdxIfInBounds]
   exact h3.sublist ((List.eraseIdx_sublist _ _).map _)
  ·intro x hx'
   simp only [Array.toList_eraseIdxIfInBounds] at hx'
   exact h4 x (List.mem_of_mem_eraseIdx hx')
 | none =>
  refine Does.of_run (v := .tuple #[]) (w' := { w with heap := w.heap.setIfInBounds m (.map es c) }) (fun a ha => ?_) ⟨⟨_, c, hat _, ?_, h3, h4⟩, hmod _, by simp⟩
  ·simp [execOp, resolve, invoke, builtin, ha.ev hx, ha.ev hi, Builtin.delete_, run_underlying hT, hg, hK.check, hf, hp, hset]
  ·simp only [cutM, hp]; exact h2
end
end Go.X
set_option linter.unusedVariables false
set_option linter.unusedSimpArgs false
namespace Go.X
open Go Go.RowKit
theorem Row.whole {w : World} {t : TypeId} {sz : Nat} {v : Value} {k : Nat} {xs : List Value} (h : Row w t sz v k xs) (hk : 0 < k) : ∃ g cap cs, v = .slice (some ⟨g, 0, none⟩) k cap ∧ Blk w g t cs ∧ cs.length = cap * sz ∧ k ≤ cap ∧ cap ≤ maxLen ∧ cs.take (k * sz) = xs := by
 rcases h.2 with ⟨rfl, rfl⟩ | ⟨g, cap, cur, rfl, _, hg, h1, h2, h3, h4⟩
 ·omega
 ·exact ⟨g, cap, cur.toList, rfl, by unfold Blk; simpa using hg, by simpa using h3, h1, h2, h4⟩
theorem Row.shut {w : World} {t g sz cap k : Nat} {cs : List Value} (h : Blk w g t cs) (hl : cs.length = cap * sz) (hk : k ≤ cap) (hc : cap ≤ maxLen) : Row w t sz (.slice (some ⟨g, 0, none⟩) k cap) k (cs.take (k * sz)) :=
 ⟨by rw [List.length_take, hl]; exact Nat.min_eq_left (Nat.mul_le_mul_right _ hk), .inr ⟨g, cap, cs.toArray, rfl, Nat.zero_le _, h, hk, hc, by simpa using hl, by simp⟩⟩
section
variable {P : Program} {n : Nat} {e : Env} {w : World} {C : World → Prop}
theorem Blk.setRow {g t : Nat} {cs cs' : List Value} (h : Blk w g t cs) : Blk (w.setRow g cs'.toArray) g t cs' ∧ Mod (· = g) w (w.setRow g cs'.toArray) ∧ (w.setRow g cs'.toArray).heap.size = w.heap.size := by
 have hlt := h.lt
 unfold Blk at h
 have e : w.setRow g cs'.toArray = { w with heap := w.heap.setIfInBounds g (.cells cs'.toArray t (0, 0)) } := by
  have h' : w.heap[g] = Obj.cells cs.toArray t := (Array.getElem?_eq_some_iff.1 h).2
  simp [World.setRow, Array.modify, Array.modifyM, hlt, h', Array.setIfInBounds]
 rw [e]
 exact ⟨by simp [Blk, hlt], ⟨rfl, rfl, rfl, by simp, fun k hk hn => by simp [Array.getElem?_setIfInBounds_ne (Ne.symm hn)]⟩, by simp⟩
theorem Does.appendIn {d : Option Tmp} {t el : Nat} {s x : Operand} {ty : TypeId} {pos : String} {af : Array Edge} {g' : Option (Nat × Bool)} (ht : SlT P t el) {z : Value} {sz by' : Nat} (hT : TI P el z sz by')
  {g i cap m : Nat} {u : Value} {cs news : List Value} (hs : ev e s = some (.slice (some ⟨g, 0, none⟩) i cap)) (hx : ev e x = some u) (hb : Blk w g el cs) (hl : cs.length = cap * sz) (hu : Sl No w u sz m news) (h1 : news.all (·.oneCell') = true) (hroom : i + m ≤ cap) :
  Does P n e w ⟨d, .call { callee := .builtin .append, args := #[s, x], argTypes := #[t, t] }, ty, pos, af, g'⟩
   (fun v' w' => v' = .slice (some ⟨g, 0, none⟩) (i + m) cap ∧ (∃ cs', Blk w' g el cs' ∧ cs'.length = cs.length ∧ cs'.take ((i + m) * sz) = cs.take (i * sz) ++ news) ∧ Mod (· = g) w w' ∧ w'.heap.size = w.heap.size) := by
 obtain ⟨q, hi, hz, hs', hby⟩ := hT.out
 obtain ⟨ad, c, rfl, hf⟩ := hu.form
 have hln := hu.len
 by_cases hm : m = 0
 ·subst hm
  have hn : news = [] := List.eq_nil_of_length_eq_zero (by simpa using hln)
  subst hn
  refine Does.of_run (v := .slice (some ⟨g, 0, none⟩) (i + 0) cap) (w' := w) (fun a ha => ?_) ⟨rfl, ⟨cs, hb, rfl, by simp⟩, Mod.refl _ _, rfl⟩
  have hroom' : i ≤ cap := by omega
  cases ad <;> simp [execOp, resolve, invoke, builtin, ha.ev hs, ha.ev hx, Builtin.append_, run_underlying ht, sizeOf, typeInfo, hi, Builtin.lenOf, Builtin.firstCells, hroom', storeCells, loadCells, loadCellsFrom]
 ·obtain ⟨b, o, rfl, _, hc⟩ := hf (by omega)
  have hfit : i * sz + news.length ≤ cs.length := by rw [hln, hl, ← Nat.add_mul]; exact Nat.mul_le_mul_right _ hroom
  have hr := run_append_room (P := P) (w := w) t ty el q ht hi g i cap cs.toArray hb ⟨b, o, none⟩ m c news (by rw [hln, hs']) (fun j u hj => by rw [add_none]; exact hc j u hj) (List.all_eq_true.1 h1) hroom (by rw [hs']; simpa using hfit)
  obtain ⟨g1, g2, g3⟩ := hb.setRow (cs' := (cs.toArray.toList.take (i * q.size) ++ news ++ cs.toArray.toList.drop (i * q.size + news.length)))
  refine Does.of_run (v := _) (w' := _) (fun a ha => ?_) ⟨rfl, ⟨_, g1, ?_, ?_⟩, g2, g3⟩
  ·simp only [execOp, resolve, invoke, builtin, Array.map, ha.ev hs, ha.ev hx]
   simp [ha.ev hs, ha.ev hx, hr]
  ·rw [hs']
   simp only [List.length_append, List.length_take, List.length_drop]
   omega
  ·rw [hs']
   have e1 : (cs.take (i * sz) ++ news).length = (i + m) * sz := by
    rw [List.length_append, List.length_take, hln, Nat.min_eq_left (by omega), Nat.add_mul]
   simp only []
   rw [← e1, List.take_left]
theorem Yld.sliceLH {d : Option Tmp} {t el : Nat} {x l h : Operand} {ty : TypeId} {pos : String} {af : Array Edge} {g : Option (Nat × Bool)} (hT : SlT P t el) {z : Value} {sz by' : Nat} (hE : TI P el z sz by') {ad : Option Addr} {len cap lo hi : Nat} {k k' : IntKind} (hx : ev e x = some (.slice ad len cap)) (hl : ev e l = some (.int k (lo : Int))) (hh : ev e h = some (.int k' (hi : Int))) (h1 : lo ≤ hi) (h2 : hi ≤ cap) :
  Yld P n C e ⟨d, .slice t x (some l) (some h) none, ty, pos, af, g⟩ (.slice (fromAt ad cap lo sz) (hi - lo) (cap - lo)) := by
 intro a ha w _
 have e1 : (hi : Int) ≤ cap := by omega
 have e2 : (lo : Int) ≤ hi := by omega
 cases ad with
 | none => simp [execOp, ha.ev hx, ha.ev hl, ha.ev hh, Instr.sliceAt, Instr.slice, run_underlying hT, Instr.sliceBounds, Instr.sliceBound, asIntOf, hE.sizeOf w, e1, e2, h1, h2, fromAt]
 | some ad =>
  by_cases hcm : cap = lo
  ·subst hcm
   obtain rfl : hi = cap := by omega
   simp [execOp, ha.ev hx, ha.ev hl, ha.ev hh, Instr.sliceAt, Instr.slice, run_underlying hT, Instr.sliceBounds, Instr.sliceBound, asIntOf, hE.sizeOf w, fromAt]
  ·simp [execOp, ha.ev hx, ha.ev hl, ha.ev hh, Instr.sliceAt, Instr.slice, run_underlying hT, Instr.sliceBounds, Instr.sliceBound, asIntOf, hE.sizeOf w, e1, e2, h1, h2, hcm, fromAt]
theorem Yld.slice3 {d : Option Tmp} {t el : Nat} {x l h m : Operand} {ty : TypeId} {pos : String} {af : Array Edge} {g : Option (Nat × Bool)} (hT : SlT P t el) {z : Value} {sz by' : Nat} (hE : TI P el z sz by') {ad : Option Addr} {len cap lo hi mx : Nat} {k k' k2 : IntKind} (hx : ev e x = some (.slice ad len cap)) (hl : ev e l = some (.int k (lo : Int))) (hh : ev e h = some (.int k' (hi : Int))) (hm : ev e m = some (.int k2 (mx : Int))) (h1 : lo ≤ hi) (h2 : hi ≤ mx) (h3 : mx ≤ cap) :
  Yld P n C e ⟨d, .slice t x (some l) (some h) (some m), ty, pos, af, g⟩ (.slice (fromAt ad mx lo sz) (hi - lo) (mx - lo)) := by
 intro a ha w _
 have e1 : (hi : Int) ≤ mx := by omega
 have e2 : (lo : Int) ≤ hi := by omega
 have e3 : (mx : Int) ≤ cap := by omega
 cases ad with
 | none => simp [execOp, ha.ev hx, ha.ev hl, ha.ev hh, ha.ev hm, Instr.sliceAt, Instr.slice, run_underlying hT, Instr.sliceBounds, Instr.sliceBound, asIntOf, hE.sizeOf w, e1, e2, e3, h1, h2, h3, fromAt]
 | some ad =>
  by_cases hcm : mx = lo
  ·subst hcm
   obtain rfl : hi = mx := by omega
   simp [execOp, ha.ev hx, ha.ev hl, ha.ev hh, ha.ev hm, Instr.sliceAt, Instr.slice, run_underlying hT, Instr.sliceBounds, Instr.sliceBound, asIntOf, hE.sizeOf w, e3, h3, fromAt]
  ·simp [execOp, ha.ev hx, ha.ev hl, ha.ev hh, ha.ev hm, Instr.sliceAt, Instr.slice, run_underlying hT, Instr.sliceBounds, Instr.sliceBound, asIntOf, hE.sizeOf w, e1, e2, e3, h1, h2, h3, hcm, fromAt]
theorem Does.clear {d : Option Tmp} {t el : Nat} {x : Operand} {ty : TypeId} {pos : String} {af : Array Edge} {g' : Option (Nat × Bool)} (ht : SlT P t el) {z : Value} {sz by' : Nat} (hT : TI P el z sz by') (hzs : z.cells.size = sz) (hz1 : z.cells.all (·.oneCell') = true)
  {g lo m cap c : Nat} {cs : List Value} (hx : ev e x = some (.slice (fromAt (some ⟨g, 0, none⟩) cap lo sz) m c)) (hb : Blk w g el cs) (hl : cs.length = cap * sz) (hroom : lo + m ≤ cap) :
  Does P n e w ⟨d, .call { callee := .builtin .clear, args := #[x], argTypes := #[t] }, ty, pos, af, g'⟩
   (fun _ w' => (∃ cs', Blk w' g el cs' ∧ cs'.length = cs.length ∧ cs'.take (lo * sz) = cs.take (lo * sz)) ∧ Mod (· = g) w w' ∧ w'.heap.size = w.heap.size) := by
 by_cases hm : m = 0
 ·subst hm
  refine Does.of_run (v := .tuple #[]) (w' := w) (fun a ha => ?_) ⟨⟨cs, hb, rfl, rfl⟩, Mod.refl _ _, rfl⟩
  simp only [fromAt, Option.map_some] at hx
  simp [execOp, resolve, invoke, builtin, ha.ev hx, Builtin.clear_, run_underlying ht]
 ·have hne : ¬ cap = lo := by omega
  simp only [fromAt, Option.map_some, if_neg hne, add_none, Nat.zero_add] at hx
  have hsz : (Builtin.zeroCells z.cells m).toList.length = m * sz := by simp [Builtin.zeroCells, hzs]
  have hone : ∀ v ∈ (Builtin.zeroCells z.cells m).toList, v.oneCell' = true := fun v hv => by
   simp only [Builtin.zeroCells, Array.toList_map, List.mem_map] at hv
   obtain ⟨i, hi, rfl⟩ := hv
   have hi' : i < m * sz := by simpa [hzs] using hi
   have h0 : 0 < sz := by rcases Nat.eq_zero_or_pos sz with h | h; (rw [h] at hi'; omega); exact h
   have hlt : i % z.cells.size < z.cells.size := Nat.mod_lt _ (by omega)
   rw [getElem!_pos z.cells _ hlt]
   exact Array.all_eq_true.1 hz1 _ hlt
  have hfit : lo * sz + 0 + (Builtin.zeroCells z.cells m).toList.length ≤ cs.toArray.size := by
   rw [hsz, Nat.add_zero, ← Nat.add_mul]
   simp only [List.size_toArray, hl]
   exact Nat.mul_le_mul_right _ hroom
  have hr := run_storeCells_at (P := P) g (lo * sz) el (Builtin.zeroCells z.cells m).toList 0 cs.toArray w hb hfit hone
  obtain ⟨g1, g2, g3⟩ := hb.setRow (cs' := (cs.toArray.toList.take (lo * sz + 0) ++ (Builtin.zeroCells z.cells m).toList ++ cs.toArray.toList.drop (lo * sz + 0 + (Builtin.zeroCells z.cells m).toList.length)))
  rw [hsz] at hfit
  simp only [List.size_toArray] at hfit
  refine Does.of_run (v := .tuple #[]) (w' := _) (fun a ha => ?_) ⟨⟨_, g1, ?_, ?_⟩, g2, g3⟩
  ·obtain ⟨q, rfl⟩ : ∃ q, m = q + 1 := ⟨m - 1, by omega⟩
   simp [execOp, resolve, invoke, builtin, ha.ev hx, Builtin.clear_, run_underlying ht, hT.zero w, hr]
  ·simp only [List.length_append, List.length_take, List.length_drop, hsz]
   omega
  ·simp only [Nat.add_zero]
   have e1 : (cs.take (lo * sz)).length = lo * sz := by rw [List.length_take]; omega
   rw [List.append_assoc, List.take_append_of_le_length (by omega), List.take_take]
   simp
end
end Go.X
namespace Go.X
open Go Go.RowKit
theorem Sl.ofBlk {M : Nat → Prop} {w : World} {g t sz cap lo m c : Nat} {cs : List Value} (h : Blk w g t cs) (hl : cs.length = cap * sz) (hr : lo + m ≤ cap) (hM : ¬ M g) (hb : m ≤ 9223372036854775807) : Sl M w (.slice (fromAt (some ⟨g, 0, none⟩) cap lo sz) m c) sz m ((cs.drop (lo * sz)).take (m * sz)) := by
 have h1 : (lo + m) * sz ≤ cap * sz := Nat.mul_le_mul_right _ hr
 rw [Nat.add_mul] at h1
 refine ⟨by rw [List.length_take, List.length_drop, hl]; omega, hb, _, _, rfl, fun h0 => ?_⟩
 have hne : ¬ cap = lo := by omega
 refine ⟨g, lo * sz, ?_, hM, fun i u hi => ?_⟩
 ·simp [fromAt, hne, add_none]
 ·rw [List.getElem?_take] at hi
  split at hi
  ·rw [List.getElem?_drop] at hi
   exact h.cell' hi
  ·cases hi
theorem flat_take {α : Type} (f : α → List Value) (sz : Nat) (hf : ∀ x, (f x).length = sz) : ∀ (xs : List α) (i : Nat), (xs.flatMap f).take (i * sz) = (xs.take i).flatMap f
 | [], i => by simp
 | x :: xs, 0 => by simp
 | x :: xs, i + 1 => by
  have e : (i + 1) * sz = (f x).length + i * sz := by rw [hf, Nat.add_mul]; omega
  rw [List.flatMap_cons, e, List.take_length_add_append, flat_take f sz hf xs i, List.take_succ_cons, List.flatMap_cons]
theorem flat_drop {α : Type} (f : α → List Value) (sz : Nat) (hf : ∀ x, (f x).length = sz) : ∀ (xs : List α) (i : Nat), (xs.flatMap f).drop (i * sz) = (xs.drop i).flatMap f
 | [], i => by simp
 | x :: xs, 0 => by simp
 | x :: xs, i + 1 => by
  have e : (i + 1) * sz = (f x).length + i * sz := by rw [hf, Nat.add_mul]; omega
  rw [List.flatMap_cons, e, List.drop_length_add_append, flat_drop f sz hf xs i, List.drop_succ_cons]
end Go.X
set_option linter.unusedVariables false
set_option linter.unusedSimpArgs false
namespace Go.X
open Go Go.RowKit
section
variable {P : Program} {n : Nat} {e : Env} {w : World} {C : World → Prop}
theorem wrap_u64 {x : Nat} (h : x < 18446744073709551616) : IntKind.u64.wrap (x : Int) = x := by rw [IntKind.wrap_u64]; omega
theorem wrap_u8 {x : Nat} (h : x < 256) : IntKind.u8.wrap (x : Int) = x := by
 have : IntKind.u8.wrap (x : Int) = (x : Int) % 256 := by rfl
 rw [this]; omega
theorem u64_and {a b : Nat} (ha : a < 18446744073709551616) (hb : b < 18446744073709551616) : IntKind.u64.wrap ((BitVec.ofInt 64 (a : Int) &&& BitVec.ofInt 64 (b : Int)).toNat : Int) = ((a &&& b : Nat) : Int) := by
 have e1 : (BitVec.ofInt 64 (a : Int)).toNat = a := by rw [BitVec.toNat_ofInt]; omega
 have e2 : (BitVec.ofInt 64 (b : Int)).toNat = b := by rw [BitVec.toNat_ofInt]; omega
 rw [BitVec.toNat_and, e1, e2]
 have : a &&& b ≤ a := Nat.and_le_left
 exact wrap_u64 (by omega)
theorem u64_or {a b : Nat} (ha : a < 18446744073709551616) (hb : b < 18446744073709551616) : IntKind.u64.wrap ((BitVec.ofInt 64 (a : Int) ||| BitVec.ofInt 64 (b : Int)).toNat : Int) = ((a ||| b : Nat) : Int) := by
 have e1 : (BitVec.ofInt 64 (a : Int)).toNat = a := by rw [BitVec.toNat_ofInt]; omega
 have e2 : (BitVec.ofInt 64 (b : Int)).toNat = b := by rw [BitVec.toNat_ofInt]; omega
 rw [BitVec.toNat_or, e1, e2]
 have : a ||| b < 2 ^ 64 := Nat.or_lt_two_pow (by omega) (by omega)
 exact wrap_u64 (by omega)
theorem Yld.shr {d : Option Tmp} {t : Nat} {x y : Operand} {t' ty : TypeId} {pos : String} {af : Array Edge} {g : Option (Nat × Bool)} {k k' : IntKind} {a s : Nat} (hx : ev e x = some (.int k (a : Int))) (hy : ev e y = some (.int k' (s : Int))) (hs : s ≤ k.bits) :
  Yld P n C e ⟨d, .binOp .shr t x y t', ty, pos, af, g⟩ (.int k ((a >>> s : Nat) : Int)) := by
 intro ac ha w _
 have h0 : ¬ ((s : Int) < 0) := by omega
 have h1 : min s k.bits = s := Nat.min_eq_left hs
 have h2 : (a : Int).fdiv (2 ^ s) = ((a >>> s : Nat) : Int) := by
  rw [Nat.shiftRight_eq_div_pow, Int.fdiv_eq_ediv_of_nonneg _ (by exact Int.le_of_lt (Int.pow_pos (by decide)))]
  simp
 simp [execOp, ha.ev hx, ha.ev hy, eqGuard, binOp, Op.shift, h0, h1]
 simpa using h2
theorem Yld.shl {d : Option Tmp} {t : Nat} {x y : Operand} {t' ty : TypeId} {pos : String} {af : Array Edge} {g : Option (Nat × Bool)} {k k' : IntKind} {a s : Nat} (hx : ev e x = some (.int k (a : Int))) (hy : ev e y = some (.int k' (s : Int))) (hs : s ≤ k.bits) :
  Yld P n C e ⟨d, .binOp .shl t x y t', ty, pos, af, g⟩ (.int k (k.wrap ((a <<< s : Nat) : Int))) := by
 intro ac ha w _
 have h0 : ¬ ((s : Int) < 0) := by omega
 have h1 : min s k.bits = s := Nat.min_eq_left hs
 have h2 : (a : Int) * 2 ^ s = ((a <<< s : Nat) : Int) := by
  rw [Nat.shiftLeft_eq]; simp
 simp [execOp, ha.ev hx, ha.ev hy, eqGuard, binOp, Op.shift, h0, h1]
 have := congrArg k.wrap h2
 simpa using this
theorem Yld.quo {d : Option Tmp} {t : Nat} {x y : Operand} {t' ty : TypeId} {pos : String} {af : Array Edge} {g : Option (Nat × Bool)} {k : IntKind} {a b : Int} (hx : ev e x = some (.int k a)) (hy : ev e y = some (.int k b)) (hb : b ≠ 0) :
  Yld P n C e ⟨d, .binOp .quo t x y t', ty, pos, af, g⟩ (.int k (k.wrap (a.tdiv b))) := by
 intro ac ha w _
 simp [execOp, ha.ev hx, ha.ev hy, eqGuard, binOp, Op.intDiv, hb]
theorem Yld.rem {d : Option Tmp} {t : Nat} {x y : Operand} {t' ty : TypeId} {pos : String} {af : Array Edge} {g : Option (Nat × Bool)} {k : IntKind} {a b : Int} (hx : ev e x = some (.int k a)) (hy : ev e y = some (.int k b)) (hb : b ≠ 0) :
  Yld P n C e ⟨d, .binOp .rem t x y t', ty, pos, af, g⟩ (.int k (a.tmod b)) := by
 intro ac ha w _
 simp [execOp, ha.ev hx, ha.ev hy, eqGuard, binOp, Op.intDiv, hb]
end
end Go.X
set_option linter.unusedVariables false
set_option linter.unusedSimpArgs false
namespace Go.X
open Go Go.RowKit
section
variable {P : Program} {n : Nat} {e : Env} {w : World}
theorem loadVarN {t b o : Nat} {cs : List Value} (hT : Agg P t cs.length) (hc : ∀ j v, cs[j]? = some v → w.cell? ⟨b, o + j, none⟩ = some v) : (loadVar t ⟨b, o, none⟩).run P w = .ok (.agg cs.toArray) w := by
 have := run_loadCells_list (P := P) w ⟨b, o, none⟩ cs (fun j v hj => by rw [add_none]; exact hc j v hj)
 simp [loadVar, hT.agg w, hT.size w, this]
theorem resC {fn : Func} {a t : Nat} (h : fn.results = #[.cell a t]) {b : Nat} (ha : get e a = some (.pointer (some ⟨b, 0, none⟩))) {cs : List Value} (hT : Agg P t cs.length) {T : Nat} (hc : Blk w b T cs) : ∀ ac, Fits e n ac → (results fn ac.tmps).run P w = .ok (.agg cs.toArray) w := fun ac hac => by
 have h1 := hac.look a _ ha
 rw [Array.getD_eq_getD_getElem?] at h1
 have h2 := loadVarN (P := P) (w := w) (b := b) (o := 0) hT (fun j v hj => by rw [Nat.zero_add]; exact hc.cell' hj)
 simp [results, h, h1, asAddr, h2]
theorem resCT {fn : Func} {a t u : Nat} (h : fn.results = #[.cell a t, .tmp u]) {b : Nat} (ha : get e a = some (.pointer (some ⟨b, 0, none⟩))) {cs : List Value} (hT : Agg P t cs.length) {T : Nat} (hc : Blk w b T cs) {v : Value} (hv : get e u = some v) : ∀ ac, Fits e n ac → (results fn ac.tmps).run P w = .ok (.tuple #[.agg cs.toArray, v]) w := fun ac hac => by
 have h1 := hac.look a _ ha
 have h3 := hac.look u _ hv
 rw [Array.getD_eq_getD_getElem?] at h1 h3
 have h2 := loadVarN (P := P) (w := w) (b := b) (o := 0) hT (fun j v hj => by rw [Nat.zero_add]; exact hc.cell' hj)
 simp [results, h, h1, h3, asAddr, h2]
end
end Go.X
set_option linter.unusedVariables false
set_option linter.unusedSimpArgs false
namespace Go.X
open Go Go.RowKit
section
variable {P : Program} {n : Nat} {e : Env} {w : World} {C : World → Prop}
theorem Yld.idxArr {d : Option Tmp} {t el len : Nat} {x i : Operand} {ty : TypeId} {pos : String} {af : Array Edge} {g : Option (Nat × Bool)} (hT : P.underlying t = some (.array len el)) {z : Value} {by' : Nat} (hE : TI P el z 1 by') (hP : Plain P el) {cs : Array Value} {k : IntKind} {q : Nat} (hx : ev e x = some (.agg cs)) (hi : ev e i = some (.int k (q : Int))) (hq : q < len) {v : Value} (hv : cs[q]? = some v) :
  Yld P n C e ⟨d, .index t x i, ty, pos, af, g⟩ v := by
 intro a ha w _
 have h1 : (q : Int) < len := by omega
 simp [execOp, ha.ev hx, ha.ev hi, Instr.index, asIntOf, run_underlying hT, hq, hE.sizeOf w, part, hP w, hv]
end
theorem Sl.takeN {M : Nat → Prop} {w : World} {sz : Nat} {ad : Option Addr} {n c : Nat} {cs : List Value} (h : Sl M w (.slice ad n c) sz n cs) {j : Nat} (hj : j ≤ n) : Sl M w (.slice ad j c) sz j (cs.take (j * sz)) := by
 have hl := h.len
 have hb := h.big
 have hm : j * sz ≤ n * sz := Nat.mul_le_mul_right _ hj
 obtain ⟨ad', c', he, hf⟩ := h.form
 cases he
 refine ⟨by rw [List.length_take]; omega, by omega, _, _, rfl, fun h0 => ?_⟩
 obtain ⟨b, o, ha, hM, hc⟩ := hf (by omega)
 refine ⟨b, o, ha, hM, fun i u hi => hc i u ?_⟩
 rw [List.getElem?_take] at hi
 split at hi
 ·exact hi
 ·cases hi
theorem Sl.fromN {M : Nat → Prop} {w : World} {sz : Nat} {ad : Option Addr} {n c : Nat} {cs : List Value} (h : Sl M w (.slice ad n c) sz n cs) {j : Nat} (hj : j ≤ n) (hnc : n ≤ c) : Sl M w (.slice (fromAt ad c j sz) (n - j) (c - j)) sz (n - j) (cs.drop (j * sz)) := by
 have hl := h.len
 have hb := h.big
 obtain ⟨ad', c', he, hf⟩ := h.form
 cases he
 refine ⟨by rw [List.length_drop, hl, Nat.sub_mul], by omega, _, _, rfl, fun h0 => ?_⟩
 obtain ⟨b, o, rfl, hM, hc⟩ := hf (by omega)
 refine ⟨b, o + j * sz, ?_, hM, fun i u hi => ?_⟩
 ·have : ¬ c = j := by omega
  simp [fromAt, this, add_none]
 ·rw [List.getElem?_drop] at hi
  rw [Nat.add_assoc]
  exact hc _ u hi
theorem Sl.takeF {α : Type} {f : α → List Value} {M : Nat → Prop} {w : World} {sz : Nat} (hf : ∀ x, (f x).length = sz) {ad : Option Addr} {c : Nat} {xs : List α} (h : Sl M w (.slice ad xs.length c) sz xs.length (xs.flatMap f)) {j : Nat} (hj : j ≤ xs.length) : Sl M w (.slice ad j c) sz j ((xs.take j).flatMap f) := by
 have := h.takeN hj
 rwa [flat_take f sz hf] at this
theorem Sl.fromF {α : Type} {f : α → List Value} {M : Nat → Prop} {w : World} {sz : Nat} (hf : ∀ x, (f x).length = sz) {ad : Option Addr} {c : Nat} {xs : List α} (h : Sl M w (.slice ad xs.length c) sz xs.length (xs.flatMap f)) {j : Nat} (hj : j ≤ xs.length) (hnc : xs.length ≤ c) : Sl M w (.slice (fromAt ad c j sz) (xs.length - j) (c - j)) sz (xs.length - j) ((xs.drop j).flatMap f) := by
 have := h.fromN hj hnc
 rwa [flat_drop f sz hf] at this
theorem Sl.pass {M M' : Nat → Prop} {w w' : World} {v : Value} {sz n : Nat} {cs : List Value} (h : Sl M w v sz n cs) (hsz : 0 < sz) (hm : Mod M w w') (hM : ∀ b, M' b → M b ∨ w.heap.size ≤ b) : Sl M' w' v sz n cs := by
 have h1 : Sl (fun b => M b ∨ M' b) w v sz n cs := h.off hsz (fun b hb e => by
  rcases e with e | e
  ·exact e
  ·rcases hM b e with h2 | h2
   ·exact h2
   ·omega)
 exact (h1.mod (hm.mono fun b _ e => .inl e)).off hsz (fun b _ e => .inr e)
end Go.X
set_option linter.unusedVariables false
set_option linter.unusedSimpArgs false
namespace Go.X
open Go Go.RowKit
inductive OT where
 | nil
 | op (i : Nat) (loud : Bool) (t : OT)
 | fork (i : Nat) (p : OT) (j : Nat) (q : OT)
 | fork3 (i : Nat) (p : OT) (j : Nat) (q : OT) (m : Nat) (r : OT)
def OT.len : OT → Nat
 | .nil => 0
 | .op _ _ t => t.len + 1
 | .fork _ p _ _ => p.len + 1
 | .fork3 _ p _ _ _ _ => p.len + 1
def okT (ops : Array Oper) (tl : List Nat) : Array Bool → OT → Bool
 | L, .nil => (Region.ready .any ops L).isEmpty
 | L, .op i loud t => (if loud then Region.ready .any ops L == [i] else (Region.ready .any ops L).contains i && Region.free .any ops L i) && okT ops tl (L.setIfInBounds i true) t
 | L, .fork i p j q => Region.ready .any ops L == [i, j] && Nat.beq p.len q.len && okT ops tl (L.setIfInBounds i true) p && okT ops tl (L.setIfInBounds j true) q
 | L, .fork3 i p j q m r => Region.ready .any ops L == [i, j, m] && (Nat.beq p.len q.len && Nat.beq p.len r.len) && okT ops tl (L.setIfInBounds i true) p && okT ops tl (L.setIfInBounds j true) q && okT ops tl (L.setIfInBounds m true) r
def wpOT (P : Program) (ops : Array Oper) (S : World → Prop) (tl : List Nat) (Q : Exit → Act → World → Prop) : OT → Act → World → Prop
 | .nil, a, w => Q .normal a w
 | .op i false t, a, w => ∃ o v, ops[i]? = some o ∧ (YieldsIf P ops (fun _ => True) o v a ∨ tailOk ops tl i = true ∧ YieldsIf P ops S o v a ∧ S w) ∧ wpOT P ops S tl Q t (a.put o.dst v) w
 | .op i true t, a, w => wpOp P ops Q i (fun a' w' => (tl.contains i = false → S w → S w') ∧ wpOT P ops S tl Q t a' w') a w
 | .fork i p j q, a, w => wpOp P ops Q i (fun a' w' => (tl.contains i = false → S w → S w') ∧ wpOT P ops S tl Q p a' w') a w ∧ wpOp P ops Q j (fun a' w' => (tl.contains j = false → S w → S w') ∧ wpOT P ops S tl Q q a' w') a w
 | .fork3 i p j q m r, a, w => wpOp P ops Q i (fun a' w' => (tl.contains i = false → S w → S w') ∧ wpOT P ops S tl Q p a' w') a w ∧ wpOp P ops Q j (fun a' w' => (tl.contains j = false → S w → S w') ∧ wpOT P ops S tl Q q a' w') a w ∧ wpOp P ops Q m (fun a' w' => (tl.contains m = false → S w → S w') ∧ wpOT P ops S tl Q r a' w') a w
theorem wpT_of_ot {P : Program} {ops : Array Oper} {S : World → Prop} {tl : List Nat} {Q : Exit → Act → World → Prop} (hs : Region.noSelect ops = true) (hQ : ∀ c a w, ¬ Q (.panic c) a w) :
  ∀ (t : OT) (L : Array Bool) (a : Act) (w : World), okT ops tl L t = true → wpOT P ops S tl Q t a w → wpT P ops Q S tl.contains t.len L a w
 | .nil, L, a, w, h, hw => ⟨by simpa [okT, List.isEmpty_iff] using h, hw⟩
 | .op i false r, L, a, w, h, hw => by
  simp only [okT, Bool.and_eq_true, Bool.false_eq_true, if_false] at h
  obtain ⟨o, v, ho, hy, hr⟩ := hw
  have hrec := wpT_of_ot hs hQ r _ _ _ h.2 hr
  have hfree := Region.free_spec ho h.1.2
  rcases hy with hy | ⟨ht, hy, hSw⟩
  ·exact wpT_take hs hQ ho (C := fun _ => True) (fun _ _ => trivial) (.inl fun _ => trivial) _ _ _ _ hfree (by simpa using h.1.1) hy trivial (.inl fun _ => trivial) hrec
  ·refine wpT_take hs hQ ho (C := S) (fun _ h => h) (.inr fun j oj hj htj => ?_) _ _ _ _ hfree (by simpa using h.1.1) hy hSw (.inr hSw) hrec
   have h1 := List.all_eq_true.1 ht j (by simpa using htj)
   have h2 : nth ops.toList j = some oj := by rw [nth_eq]; simpa using hj
   simp only [h2] at h1
   exact h1
 | .op i true r, L, a, w, h, hw => by
  simp only [okT, Bool.and_eq_true, if_true, beq_iff_eq] at h
  refine ⟨fun h0 => (by rw [h.1] at h0; cases h0), fun j hj => ?_⟩
  rw [h.1] at hj
  simp only [List.mem_singleton] at hj
  subst hj
  exact wpOp_mono (fun a' w' h' => ⟨h'.1, wpT_of_ot hs hQ r _ _ _ h.2 h'.2⟩) hw
 | .fork i p j q, L, a, w, h, hw => by
  simp only [okT, Bool.and_eq_true, beq_iff_eq] at h
  obtain ⟨⟨⟨h1, h2⟩, h3⟩, h4⟩ := h
  have hl : p.len = q.len := Nat.eq_of_beq_eq_true h2
  refine ⟨fun h0 => (by rw [h1] at h0; cases h0), fun m hm => ?_⟩
  rw [h1] at hm
  simp only [List.mem_cons, List.not_mem_nil, or_false] at hm
  rcases hm with rfl | rfl
  ·exact wpOp_mono (fun a' w' h' => ⟨h'.1, wpT_of_ot hs hQ p _ _ _ h3 h'.2⟩) hw.1
  ·exact wpOp_mono (fun a' w' h' => ⟨h'.1, hl ▸ wpT_of_ot hs hQ q _ _ _ h4 h'.2⟩) hw.2
 | .fork3 i p j q m r, L, a, w, h, hw => by
  simp only [okT, Bool.and_eq_true, beq_iff_eq] at h
  obtain ⟨⟨⟨⟨h1, h2⟩, h3⟩, h4⟩, h5⟩ := h
  have hl : p.len = q.len := Nat.eq_of_beq_eq_true h2.1
  have hl2 : p.len = r.len := Nat.eq_of_beq_eq_true h2.2
  refine ⟨fun h0 => (by rw [h1] at h0; cases h0), fun x hx => ?_⟩
  rw [h1] at hx
  simp only [List.mem_cons, List.not_mem_nil, or_false] at hx
  rcases hx with rfl | rfl | rfl
  ·exact wpOp_mono (fun a' w' h' => ⟨h'.1, wpT_of_ot hs hQ p _ _ _ h3 h'.2⟩) hw.1
  ·exact wpOp_mono (fun a' w' h' => ⟨h'.1, hl ▸ wpT_of_ot hs hQ q _ _ _ h4 h'.2⟩) hw.2.1
  ·exact wpOp_mono (fun a' w' h' => ⟨h'.1, hl2 ▸ wpT_of_ot hs hQ r _ _ _ h5 h'.2⟩) hw.2.2
def DT (P : Program) (n : Nat) (ops : List Oper) (S : World → Prop) (tl : List Nat) (rest : OT) (e : Env) (w : World) (K : Exit → Act → World → Prop) : Prop := ∀ a, Fits e n a → wpOT P ops.toArray S tl K rest a w
section
variable {P : Program} {f : FuncId} {n : Nat} {R : Ending → World → Prop} {k : List Item} {e : Env} {w : World} {ops : List Oper} {rest : OT} {K : Exit → Act → World → Prop} {S : World → Prop} {tl : List Nat}
theorem RK.drawT0 {id : Nat} {l : List Oper} (M : Nat → Prop) (t : OT) (tl : List Nat) (hm : P.follows .mixedOrders = true) (hb : (Region.noSelect l.toArray && okT l.toArray tl (Array.replicate l.length false) t && Nat.beq l.length t.len) = true)
  (h : DT P n l (Mod M w) tl t e { w with drawn := w.drawn + 1 } (post P f R k)) : RK P f n R (.code (.region id l.toArray true) :: k) e w := by
 intro a ha
 simp only [Bool.and_eq_true] at hb
 have hl : l.length = t.len := Nat.eq_of_beq_eq_true hb.2
 refine Runs.of_wp (wp_region_any hm (wpT_any (S := Mod M w) (T := tl.contains) _ _ _ _ ?_))
 have := wpT_of_ot (P := P) (S := Mod M w) (Q := post P f R k) hb.1.1 (fun c a w h => h) t _ a _ hb.1.2 (h a ha)
 simpa [hl] using this
theorem RK.drawT {id : Nat} {l : List Oper} (M : Nat → Prop) (t : OT) (tl : List Nat) (hm : P.follows .mixedOrders = true) (hb : (Region.noSelect l.toArray && okT l.toArray tl (Array.replicate l.length false) t && Nat.beq l.length t.len) = true)
  (h : DT P n l (Mod M w) tl t e w.drew (post P f R k)) : RK P f n R (.code (.region id l.toArray true) :: k) e w := RK.drawT0 M t tl hm hb h
theorem DT.fork {i j : Nat} {p q : OT} (h1 : DT P n ops S tl (.op i true p) e w K) (h2 : DT P n ops S tl (.op j true q) e w K) : DT P n ops S tl (.fork i p j q) e w K := fun a ha => ⟨h1 a ha, h2 a ha⟩
theorem DT.done (h : RK P f n R k e w) : DT P n ops S tl .nil e w (post P f R k) := fun a ha => h a ha
theorem DT.q {i : Nat} {o : Oper} {d : Nat} {v : Value} (hi : nth ops i = some o) (hw : Want ops.toArray e o true) (hd : o.dst = some d) (hb : Nat.blt d n = true) (ht : tailOk ops.toArray tl i = true) (hy : Yld P n S e o v) (hS : S w) (h : DT P n ops S tl rest ((d, v) :: e) w K) :
  DT P n ops S tl (.op i false rest) e w K := by
 intro a ha
 refine ⟨o, v, by rw [← nth_eq, hi], .inr ⟨ht, .inl ⟨hw.at_ ha, fun w' hS => hy a ha w' hS⟩, hS⟩, ?_⟩
 rw [hd]
 exact h _ (ha.put hb v)
theorem DT.qf {i : Nat} {o : Oper} {d : Nat} {v : Value} (hi : nth ops i = some o) (hw : Want ops.toArray e o true) (hd : o.dst = some d) (hb : Nat.blt d n = true) (hy : Yld P n (fun _ => True) e o v) (h : DT P n ops S tl rest ((d, v) :: e) w K) :
  DT P n ops S tl (.op i false rest) e w K := by
 intro a ha
 refine ⟨o, v, by rw [← nth_eq, hi], .inl (.inl ⟨hw.at_ ha, fun w' hS => hy a ha w' hS⟩), ?_⟩
 rw [hd]
 exact h _ (ha.put hb v)
theorem DT.no {i : Nat} {o : Oper} {d : Nat} (hi : nth ops i = some o) (hw : Want ops.toArray e o false) (hd : o.dst = some d) (hb : Nat.blt d n = true) (h : DT P n ops S tl rest ((d, undef) :: e) w K) :
  DT P n ops S tl (.op i false rest) e w K := by
 intro a ha
 refine ⟨o, undef, by rw [← nth_eq, hi], .inl (.inr ⟨hw.at_ ha, rfl⟩), ?_⟩
 rw [hd]
 exact h _ (ha.put hb undef)
theorem DT.op {i : Nat} {o : Oper} {d : Nat} {Q : Value → World → Prop} (hi : nth ops i = some o) (hw : Want ops.toArray e o true) (hd : o.dst = some d) (hb : Nat.blt d n = true) (hy : Does P n e w o Q) (h : ∀ v w', Q v w' → S w' ∧ DT P n ops S tl rest ((d, v) :: e) w' K) :
  DT P n ops S tl (.op i true rest) e w K := by
 intro a ha
 have hi' : ops.toArray[i]? = some o := by rw [← nth_eq, hi]
 unfold wpOT wpOp
 simp only [hi']
 rw [if_pos (hw.at_ ha)]
 refine .inl (hy a ha _ _ fun v w' hv => ⟨fun _ _ => (h v w' hv).1, ?_⟩)
 rw [hd]
 exact (h v w' hv).2 _ (ha.put hb v)
theorem DT.op' {i : Nat} {o : Oper} {Q : Value → World → Prop} (hi : nth ops i = some o) (hw : Want ops.toArray e o true) (hd : o.dst = none) (hy : Does P n e w o Q) (h : ∀ v w', Q v w' → S w' ∧ DT P n ops S tl rest e w' K) :
  DT P n ops S tl (.op i true rest) e w K := by
 intro a ha
 have hi' : ops.toArray[i]? = some o := by rw [← nth_eq, hi]
 unfold wpOT wpOp
 simp only [hi']
 rw [if_pos (hw.at_ ha)]
 refine .inl (hy a ha _ _ fun v w' hv => ⟨fun _ _ => (h v w' hv).1, ?_⟩)
 rw [hd]
 exact (h v w' hv).2 _ ha
theorem DT.p {ops : List Oper} {rest : OT} {S : World → Prop} {tl : List Nat} {i d : Nat} {op : Op} {t : TypeId} {pos : String} {af : Array Edge} {v : Value} (hi : nth ops i = some ⟨some d, op, t, pos, af, none⟩) (hp : pureOp e op = some v) (hb : Nat.blt d n = true) (h : DT P n ops S tl rest ((d, v) :: e) w K) :
  DT P n ops S tl (.op i false rest) e w K := DT.qf hi (.free rfl) rfl hb (Yld.pure hp) h
theorem DT.re {ops : List Oper} {rest : OT} {S : World → Prop} {tl : List Nat} {d : Nat} {v v' : Value} (hg : get e d = some v) (hb : Nat.blt d n = true) (hv : v = v') (h : DT P n ops S tl rest ((d, v') :: e) w K) : DT P n ops S tl rest e w K := fun a ha => h a (ha.again hg hv)
theorem DT.knownT {ops : List Oper} {rest : OT} {S : World → Prop} {tl : List Nat} {d : Nat} {t : Bool} (hg : get e d = some (.bool t)) (hb : Nat.blt d n = true) (ht : t = true) (h1 : DT P n ops S tl rest ((d, .bool true) :: e) w K) : DT P n ops S tl rest e w K := DT.re hg hb (by rw [ht]) h1
theorem DT.knownF {ops : List Oper} {rest : OT} {S : World → Prop} {tl : List Nat} {d : Nat} {t : Bool} (hg : get e d = some (.bool t)) (hb : Nat.blt d n = true) (ht : t = false) (h1 : DT P n ops S tl rest ((d, .bool false) :: e) w K) : DT P n ops S tl rest e w K := DT.re hg hb (by rw [ht]) h1
end
end Go.X
set_option linter.unusedVariables false
set_option linter.unusedSimpArgs false
namespace Go.X
open Go Go.RowKit
section
variable {P : Program} {n : Nat} {e : Env} {w : World}
theorem Does.copyN {d : Option Tmp} {t t2 el : Nat} {x y : Operand} {ty : TypeId} {pos : String} {af : Array Edge} {g' : Option (Nat × Bool)} (ht : SlT P t el) {z : Value} {by' : Nat} (hT : TI P el z 1 by') {g o dl dc m T : Nat} {u : Value} {cs news : List Value}
  (hx : ev e x = some (.slice (some ⟨g, o, none⟩) dl dc)) (hy : ev e y = some u) (hb : Blk w g T cs) (hu : Sl No w u 1 m news) (hm : m ≤ dl) (hfit : o + m ≤ cs.length) (h1 : news.all (·.oneCell') = true) :
  Does P n e w ⟨d, .call { callee := .builtin .copy, args := #[x, y], argTypes := #[t, t2] }, ty, pos, af, g'⟩
   (fun v' w' => v' = .int .i64 (m : Int) ∧ Blk w' g T (cs.take o ++ news ++ cs.drop (o + m)) ∧ Mod (· = g) w w' ∧ w'.heap.size = w.heap.size) := by
 obtain ⟨q, hi, hz, hs', hby⟩ := hT.out
 obtain ⟨ad, c, rfl, hf⟩ := hu.form
 have hln : news.length = m := by have := hu.len; omega
 have hs1 : (P.info? el).map (·.size) = some 1 := by rw [hi]; simp [hs']
 have hso : ((P.info? el).map (·.size)).isSome = true := by rw [hs1]; rfl
 obtain ⟨g1, g2, g3⟩ := hb.setRow (cs' := cs.take o ++ news ++ cs.drop (o + m))
 cases ad with
 | none =>
  have hm0 : m = 0 := by
   by_cases h : 0 < m
   ·obtain ⟨b, o', h2, _⟩ := hf h; cases h2
   ·omega
  subst hm0
  have hn : news = [] := List.eq_nil_of_length_eq_zero hln
  subst hn
  refine Does.of_run (w' := w) (v := .int .i64 0) (fun a ha => ?_) ⟨rfl, by simpa using hb, Mod.refl _ _, rfl⟩
  have : (Builtin.copy_ #[t, t2] ty #[.slice (some ⟨g, o, none⟩) dl dc, .slice none 0 c]).run P w = .ok (goInt 0) w := by
   cases hq : P.info? el with
   | none => rw [hq] at hs1; simp at hs1
   | some i => simp [Builtin.copy_, run_underlying ht, Builtin.lenOf, Builtin.firstCells, sizeOf, typeInfo, hq, storeCells]
  simp [execOp, resolve, invoke, builtin, ha.ev hx, ha.ev hy, this, goInt]
 | some ad =>
  have hsrc : ∀ j v, news[j]? = some v → w.cell? (ad.add j) = some v := fun j v hj => by
   have hj' := (List.getElem?_eq_some_iff.1 hj).1
   obtain ⟨b, o', h2, _, h3⟩ := hf (by omega)
   cases h2
   rw [add_none]; exact h3 j v hj
  have hr := run_copy_row (P := P) w t t2 ty el g o dl dc ad m c cs.toArray T news ht hs1 hb (by rw [hln]; exact (Nat.min_eq_left hm).symm) hsrc (by rw [hln]; simpa using hfit) (List.all_eq_true.1 h1)
  rw [hln] at hr
  refine Does.of_run (w' := w.setRow g (cs.take o ++ news ++ cs.drop (o + m)).toArray) (v := .int .i64 (m : Int)) (fun a ha => ?_) ⟨rfl, g1, g2, g3⟩
  have hr2 : (Builtin.copy_ #[t, t2] ty #[.slice (some ⟨g, o, none⟩) dl dc, .slice (some ad) m c]).run P w = .ok (.int .i64 (m : Int)) (w.setRow g (cs.take o ++ news ++ cs.drop (o + m)).toArray) := hr
  simp [execOp, resolve, invoke, builtin, ha.ev hx, ha.ev hy, hr2]
end
end Go.X
set_option linter.unusedVariables false
set_option linter.unusedSimpArgs false
namespace Go.X
open Go Go.RowKit
section
variable {P : Program} {n : Nat} {e : Env} {w : World} {C : World → Prop}
end
end Go.X
set_option linter.unusedVariables false
namespace Go.X
open Go Go.RowKit Go.WideShapes Go.ChangeShapes
section
variable {H : Type} {enc : TypeId × Value → H} {P : Program} {W : World} {base : Nat} {sp : Nat → Bool} {held : Bool}
theorem trod_list {α : Type} (f : α → List Value) (Q : α → Prop) {sz : Nat} (hf : ∀ x, (f x).length = sz) {t e : TypeId} {m0 : Nat} {cs0 : List Value} {y : DataW H × List MemPlace} (ht : P.underlying t = some (.slice e)) (hc : P.cellsOf e = sz) (hsz : 0 < sz) (hd : DataW.trod enc P W 0 sp held m0 t cs0 = some y)
  (hel : ∀ (m : Nat) (cs : List Value) (y : DataW H × List MemPlace), DataW.trod enc P W 0 sp held m e cs = some y → ∃ x, cs = f x ∧ Q x) : ∃ (v : Value) (xs : List α), cs0 = [v] ∧ Sl No W v sz xs.length (xs.flatMap f) ∧ (∀ x ∈ xs, Q x) ∧ xs.length ≤ maxLen := by
 rcases DataW.trod_slice ht hd with ⟨h0, _⟩ | ⟨a', len, cap, elems, rest, n, _, hcs, _, _, hl, hm, hlen, hall, _⟩
 ·subst h0
  exact ⟨_, [], rfl, Sl.nil _ _ _ _ _, by simp, by simp⟩
 ·subst hcs
  rw [hc] at hall
  have key : ∀ i, i < len → ∃ x, Q x ∧ ∀ j u, (f x)[j]? = some u → W.cell? (a'.add (i * sz) |>.add j) = some u := by
   intro i hi
   have h1 := hall i hi
   rw [List.getElem?_eq_getElem (by omega)] at h1
   rw [Option.bind_eq_some_iff] at h1
   obtain ⟨cs, h2, h3⟩ := h1
   obtain ⟨x, rfl, hQ⟩ := hel n cs _ h3
   refine ⟨x, hQ, fun j u hj => ?_⟩
   have hj' : j < sz := by have := (List.getElem?_eq_some_iff.1 hj).1; rwa [hf] at this
   rw [(World.cells?_some h2).2.2 j hj', hj]
  have build : ∀ k, k ≤ len → ∃ xs : List α, xs.length = k ∧ (∀ x ∈ xs, Q x) ∧ ∀ i x, xs[i]? = some x → ∀ j u, (f x)[j]? = some u → W.cell? (a'.add (i * sz) |>.add j) = some u := by
   intro k
   induction k with
   | zero => intro _; exact ⟨[], rfl, by simp, by simp⟩
   | succ k ih =>
    intro hk
    obtain ⟨xs, h1, h2, h3⟩ := ih (by omega)
    obtain ⟨x, hQ, hx⟩ := key k (by omega)
    refine ⟨xs ++ [x], by simp [h1], fun y hy => ?_, fun i y hy => ?_⟩
    ·rcases List.mem_append.1 hy with h | h
     ·exact h2 y h
     ·simp at h; subst h; exact hQ
    ·by_cases hi : i < xs.length
     ·rw [List.getElem?_append_left hi] at hy; exact h3 i y hy
     ·have : i = k := by
       have := (List.getElem?_eq_some_iff.1 hy).1
       simp at this; omega
      subst this
      rw [List.getElem?_append_right (by omega), h1] at hy
      simp at hy; subst hy
      exact hx
  obtain ⟨xs, h1, h2, h3⟩ := build len (Nat.le_refl _)
  refine ⟨_, xs, rfl, ⟨flat_len f sz hf xs, by simp only [maxLen] at hm; omega, some a', cap, by rw [h1], fun hn => ?_⟩, h2, by omega⟩
  obtain ⟨b, o, spot⟩ := a'
  obtain ⟨x0, hx0⟩ : ∃ x, xs[0]? = some x := ⟨xs[0]'hn, List.getElem?_eq_getElem hn⟩
  have hu0 : 0 < (f x0).length := by rw [hf]; exact hsz
  have h4 := h3 0 x0 hx0 0 _ (List.getElem?_eq_getElem hu0)
  have hspot : spot = none := by simpa [Addr.add] using World.cell?_spot h4
  subst hspot
  refine ⟨b, o, rfl, fun h => h, fun j u hj => ?_⟩
  have hjl := (List.getElem?_eq_some_iff.1 hj).1
  rw [flat_len f sz hf] at hjl
  have hdm : j / sz * sz + j % sz = j := by rw [Nat.mul_comm]; exact Nat.div_add_mod j sz
  have hq : j / sz < xs.length := Nat.div_lt_of_lt_mul (by rw [Nat.mul_comm]; exact hjl)
  have hr : j % sz < sz := Nat.mod_lt _ hsz
  have hx := List.getElem?_eq_getElem hq
  have h5 := flat_get f sz hf xs (j / sz) (j % sz) _ hx hr
  rw [hdm, hj] at h5
  have h6 := h3 (j / sz) _ hx (j % sz) u h5.symm
  rw [add_none, add_none, Nat.add_assoc, hdm] at h6
  exact h6
theorem trod_int {s m : Nat} {k : IntKind} {cs : List Value} {y : DataW H × List MemPlace} (hs : P.underlying s = some (.int k)) (h : DataW.trod enc P W base sp held m s cs = some y) : ∃ b : Int, cs = [.int k b] ∧ (Lit.int k b).wf = true := by
 cases m with
 | zero => simp [DataW.trod] at h
 | succ n =>
  unfold DataW.trod at h
  rw [hs] at h
  split at h <;> simp_all
theorem trod_fields {t m : Nat} {fs : Array Field} {cs : List Value} {y : DataW H × List MemPlace} (ht : P.underlying t = some (.struct fs)) (h : DataW.trod enc P W base sp held m t cs = some y) : cs.length = P.cellsOf t ∧ ∀ (i : Nat) (f : Field), fs[i]? = some f → ∃ n y', DataW.trod enc P W base sp held n f.type ((cs.drop f.offset).take (P.cellsOf f.type)) = some y' := by
 obtain ⟨xs, n, _, _, hl, hxl, hx⟩ := DataW.trod_struct ht h
 refine ⟨hl, fun i f hf => ?_⟩
 have h1 := hx i f hf
 have hi : i < fs.size := (Array.getElem?_eq_some_iff.1 hf).1
 rw [List.getElem?_eq_getElem (by omega)] at h1
 exact ⟨n, _, h1⟩
theorem trod_3 {t m t0 t1 t2 : Nat} {fs : Array Field} {cs : List Value} {y : DataW H × List MemPlace} (ht : P.underlying t = some (.struct fs)) (hfs : fs.toList.map (fun f => (f.type, f.offset)) = [(t0, 0), (t1, 1), (t2, 2)]) (c0 : P.cellsOf t0 = 1) (c1 : P.cellsOf t1 = 1) (c2 : P.cellsOf t2 = 1) (ct : P.cellsOf t = 3)
  (h : DataW.trod enc P W base sp held m t cs = some y) : ∃ a b c, cs = [a, b, c] ∧ (∃ n y', DataW.trod enc P W base sp held n t0 [a] = some y') ∧ (∃ n y', DataW.trod enc P W base sp held n t1 [b] = some y') ∧ ∃ n y', DataW.trod enc P W base sp held n t2 [c] = some y' := by
 obtain ⟨hl, hx⟩ := trod_fields ht h
 have hsz : fs.toList.length = 3 := by have := congrArg List.length hfs; simpa using this
 obtain ⟨fl⟩ := fs
 match fl, hsz with
 | [f0, f1, f2], _ =>
  simp only [List.map_cons, List.map_nil, List.cons.injEq, Prod.mk.injEq, and_true] at hfs
  obtain ⟨⟨e0, o0⟩, ⟨e1, o1⟩, e2, o2⟩ := hfs
  rw [ct] at hl
  match cs, hl with
  | [a, b, c], _ =>
   have h0 := hx 0 f0 rfl
   have h1 := hx 1 f1 rfl
   have h2 := hx 2 f2 rfl
   rw [e0, o0, c0] at h0
   rw [e1, o1, c1] at h1
   rw [e2, o2, c2] at h2
   exact ⟨a, b, c, rfl, h0, h1, h2⟩
theorem trod_4 {t m t0 t1 t2 t3 : Nat} {fs : Array Field} {cs : List Value} {y : DataW H × List MemPlace} (ht : P.underlying t = some (.struct fs)) (hfs : fs.toList.map (fun f => (f.type, f.offset)) = [(t0, 0), (t1, 1), (t2, 2), (t3, 3)]) (c0 : P.cellsOf t0 = 1) (c1 : P.cellsOf t1 = 1) (c2 : P.cellsOf t2 = 1) (c3 : P.cellsOf t3 = 1) (ct : P.cellsOf t = 4)
  (h : DataW.trod enc P W base sp held m t cs = some y) : ∃ a b c d, cs = [a, b, c, d] ∧ (∃ n y', DataW.trod enc P W base sp held n t0 [a] = some y') ∧ (∃ n y', DataW.trod enc P W base sp held n t1 [b] = some y') ∧ (∃ n y', DataW.trod enc P W base sp held n t2 [c] = some y') ∧ ∃ n y', DataW.trod enc P W base sp held n t3 [d] = some y' := by
 obtain ⟨hl, hx⟩ := trod_fields ht h
 have hsz : fs.toList.length = 4 := by have := congrArg List.length hfs; simpa using this
 obtain ⟨fl⟩ := fs
 match fl, hsz with
 | [f0, f1, f2, f3], _ =>
  simp only [List.map_cons, List.map_nil, List.cons.injEq, Prod.mk.injEq, and_true] at hfs
  obtain ⟨⟨e0, o0⟩, ⟨e1, o1⟩, ⟨e2, o2⟩, e3, o3⟩ := hfs
  rw [ct] at hl
  match cs, hl with
  | [a, b, c, d], _ =>
   have h0 := hx 0 f0 rfl
   have h1 := hx 1 f1 rfl
   have h2 := hx 2 f2 rfl
   have h3 := hx 3 f3 rfl
   rw [e0, o0, c0] at h0
   rw [e1, o1, c1] at h1
   rw [e2, o2, c2] at h2
   rw [e3, o3, c3] at h3
   exact ⟨a, b, c, d, rfl, h0, h1, h2, h3⟩
end
end Go.X
set_option linter.unusedVariables false
namespace Go.X
open Go Go.RowKit Go.WideShapes Go.ChangeShapes
section
variable {H : Type} {enc : TypeId × Value → H} {P : Program} {W : World} {base : Nat} {sp : Nat → Bool} {held : Bool}
end
end Go.X
set_option linter.unusedVariables false
set_option linter.unusedSimpArgs false
namespace Go.X
open Go Go.RowKit
section
variable {P : Program} {n : Nat} {e : Env} {w : World} {C : World → Prop}
theorem Yld.indexArr {d : Option Tmp} {t len el sz : Nat} {x i : Operand} {ty : TypeId} {pos : String} {af : Array Edge} {g : Option (Nat × Bool)} (hT : P.underlying t = some (.array len el)) {z : Value} {by' : Nat} (hE : TI P el z sz by') {b o : Nat} {k : IntKind} {q : Nat}
  (hx : ev e x = some (.pointer (some ⟨b, o, none⟩))) (hi : ev e i = some (.int k (q : Int))) (h1 : q < len) :
  Yld P n C e ⟨d, .indexAddr t x i, ty, pos, af, g⟩ (.pointer (some ⟨b, o + q * sz, none⟩)) := by
 intro a ha w _
 have h2 : (0 : Int) ≤ q := by omega
 have h3 : (q : Int) < len := by omega
 have h4 : ¬ len ≤ q := by omega
 simp [execOp, ha.ev hx, ha.ev hi, Instr.indexAt, run_underlying hT, asIntOf, hE.sizeOf w, h2, h3, add_none, Instr.sureAddr, h4, h1]
end
end Go.X
set_option linter.unusedVariables false
set_option linter.unusedSimpArgs false
namespace Go.X
open Go Go.RowKit
structure IterAt {κ : Type} (enc : κ → Value) (w : World) (r m : Nat) (rest : List (κ × Value)) : Prop where
 out : ∃ es clock seen, w.heap[m]? = some (.map es clock) ∧ w.heap[r]? = some (.mapIter (some m) clock seen clock) ∧ (es.toList.map (·.born)).Nodup ∧ (∀ e ∈ es.toList, e.born < clock) ∧ (es.toList.filter fun e => !seen.contains e.born).map (fun e => (e.key, e.val)) = rest.map fun p => (enc p.1, p.2)
theorem IterAt.lt {κ : Type} {enc : κ → Value} {w : World} {r m : Nat} {rest : List (κ × Value)} (h : IterAt enc w r m rest) : r < w.heap.size ∧ m < w.heap.size := by
 obtain ⟨es, c, s, a1, a2, a3⟩ := h.out
 exact ⟨(Array.getElem?_eq_some_iff.1 a2).1, (Array.getElem?_eq_some_iff.1 a1).1⟩
section
variable {P : Program} {n : Nat} {e : Env} {w : World} {κ : Type} {enc : κ → Value}
end
end Go.X
set_option linter.unusedVariables false
set_option linter.unusedSimpArgs false
namespace Go.X
open Go Go.RowKit
section
variable {P : Program}
theorem run_eqItems_ints (d : Nat) {e : TypeId} {k : IntKind} (he : P.underlying e = some (.int k)) (c1 : P.cellsOf e = 1) (xs ys : Array Value) (f g : Nat → Int) : ∀ (is : List Nat) (w : World), (∀ i ∈ is, xs[i]? = some (.int k (f i))) → (∀ i ∈ is, ys[i]? = some (.int k (g i))) → (Op.eqItems (d + 1) e (P.cellsOf e) xs ys is).run P w = .ok (decide (∀ i ∈ is, f i = g i)) w
 | [], w, _, _ => by simp [Op.eqItems]
 | i :: is, w, hx, hy => by
  have hp : ∀ (zs : Array Value) (v : Value), zs[i]? = some v → (part e zs (i * P.cellsOf e)).run P w = .ok v w := fun zs v h => by
   rw [c1, Nat.mul_one]; simp [part, Go.X.Plain.of he rfl w, h]
  have ih := run_eqItems_ints d he c1 xs ys f g is w (fun j hj => hx j (by simp [hj])) (fun j hj => hy j (by simp [hj]))
  have ee : (Op.equalIn (d + 1) e (.int k (f i)) (.int k (g i))).run P w = .ok (decide (f i = g i)) w := by
   rw [run_equalIn_int w d e k k _ _ he]; rfl
  simp only [Op.eqItems, Sem.run_bind, hp xs _ (hx i (by simp)), hp ys _ (hy i (by simp)), Result.andThen_ok, ee]
  by_cases h : f i = g i
  ·simp [h, ih]
  ·simp [h]
def Arr (P : Program) (t : TypeId) (k : IntKind) (n : Nat) : Prop := P.eqGuardType P.depth t = false ∧ ∀ (ps qs : List Int) (w : World), ps.length = n → qs.length = n → (Op.equalIn 10000 t (.agg (ps.map (Value.int k)).toArray) (.agg (qs.map (Value.int k)).toArray)).run P w = .ok (decide (ps = qs)) w
theorem Arr.of {t e : TypeId} {k : IntKind} {n : Nat} (hg : P.eqGuardType P.depth t = false) (ht : P.underlying t = some (.array n e)) (he : P.underlying e = some (.int k)) (c1 : P.cellsOf e = 1) : Arr P t k n := by
 refine ⟨hg, fun ps qs w ha hb => ?_⟩
 obtain ⟨i, hi⟩ := info_of_underlying he
 have hat : ∀ (l : List Int), l.length = n → ∀ j ∈ List.range n, (l.map (Value.int k)).toArray[j]? = some (.int k (l.getD j 0)) := fun l hl j hj => by
  have hj' : j < l.length := by rw [hl]; exact List.mem_range.1 hj
  simp [hj']
 rw [run_equalIn_array w 9999 _ _ ht hi, run_eqItems_ints 9998 he c1 _ _ (fun j => ps.getD j 0) (fun j => qs.getD j 0) _ w (hat ps ha) (hat qs hb)]
 congr 1
 rw [decide_eq_decide]
 constructor
 ·intro h
  apply List.ext_getElem (by omega)
  intro j h1 h2
  have := h j (List.mem_range.2 (by omega))
  simpa [h1, h2] using this
 ·rintro rfl _ _; rfl
def Trip (P : Program) (t : TypeId) : Prop := P.eqGuardType P.depth t = false ∧ ∀ (i j : Int) (a b c d : ByteArray) (w : World), (Op.equalIn 10000 t (.agg #[.int .i64 i, .string a, .string b]) (.agg #[.int .i64 j, .string c, .string d])).run P w = .ok (decide (i = j ∧ a = c ∧ b = d)) w
theorem Trip.of {t n s : TypeId} {f0 f1 f2 : Field} (hg : P.eqGuardType P.depth t = false) (hp : P.stoodInHeld t = false) (ht : P.underlying t = some (.struct #[f0, f1, f2])) (hn : P.underlying n = some (.int .i64)) (hs : P.underlying s = some .string) (h0 : f0.type = n) (h1 : f1.type = s) (h2 : f2.type = s) (o0 : f0.offset = 0) (o1 : f1.offset = 1) (o2 : f2.offset = 2) (n0 : f0.name ≠ "_") (n1 : f1.name ≠ "_") (n2 : f2.name ≠ "_") : Trip P t := by
 refine ⟨hg, fun i j a b c d w => ?_⟩
 have hf : P.fieldsOf t = #[f0, f1, f2] := by simp [Program.fieldsOf, ht]
 rw [run_equalIn_struct w 9999 t _ _ (by rw [hf]; exact ht) hp, hf]
 have hpl : Plain P s := Plain.of hs rfl
 have hpn : Plain P n := Plain.of hn rfl
 have he : ∀ a b w, (Op.equalIn 9999 s (.string a) (.string b)).run P w = .ok (decide (a = b)) w := fun a b w => by rw [run_equalIn_string w 9998 s a b hs, beqS]
 have hen : ∀ i j w, (Op.equalIn 9999 n (.int .i64 i) (.int .i64 j)).run P w = .ok (decide (i = j)) w := fun i j w => by rw [run_equalIn_int w 9998 n .i64 .i64 _ _ hn]; rfl
 have hpt : ∀ (cs : Array Value) (o : Nat) (v : Value) w, cs[o]? = some v → (part s cs o).run P w = .ok v w := fun cs o v w h => by simp [part, hpl w, h]
 have hptn : ∀ (cs : Array Value) (o : Nat) (v : Value) w, cs[o]? = some v → (part n cs o).run P w = .ok v w := fun cs o v w h => by simp [part, hpn w, h]
 simp only [Op.eqFields, n0, n1, n2, ne_eq, not_false_eq_true, if_true, h0, h1, h2, o0, o1, o2, Sem.run_bind]
 rw [hptn #[.int .i64 i, .string a, .string b] 0 (.int .i64 i) w (by simp)]
 simp only [Result.andThen_ok]
 rw [hptn #[.int .i64 j, .string c, .string d] 0 (.int .i64 j) w (by simp)]
 simp only [Result.andThen_ok, hen]
 by_cases e0 : i = j
 ·simp only [e0, decide_true, Bool.not_true, Bool.false_eq_true, if_false, Sem.run_bind]
  rw [hpt #[.int .i64 j, .string a, .string b] 1 (.string a) w (by simp)]
  simp only [Result.andThen_ok]
  rw [hpt #[.int .i64 j, .string c, .string d] 1 (.string c) w (by simp)]
  simp only [Result.andThen_ok, he]
  by_cases e1 : a = c
  ·simp only [e1, decide_true, Bool.not_true, Bool.false_eq_true, if_false, Sem.run_bind]
   rw [hpt #[.int .i64 j, .string c, .string b] 2 (.string b) w (by simp)]
   simp only [Result.andThen_ok]
   rw [hpt #[.int .i64 j, .string c, .string d] 2 (.string d) w (by simp)]
   simp only [Result.andThen_ok, he]
   by_cases e2 : b = d
   ·simp [e2]
   ·simp [e2]
  ·simp [e1]
 ·simp [e0]
end
section
variable {P : Program} {n : Nat} {e : Env} {C : World → Prop}
theorem Yld.eqTrip {d : Option Tmp} {t : Nat} {x y : Operand} {t' ty : TypeId} {pos : String} {af : Array Edge} {g : Option (Nat × Bool)} (hP : Trip P t) {i j : Int} {a b c f : ByteArray} (hx : ev e x = some (.agg #[.int .i64 i, .string a, .string b])) (hy : ev e y = some (.agg #[.int .i64 j, .string c, .string f])) :
  Yld P n C e ⟨d, .binOp .eql t x y t', ty, pos, af, g⟩ (.bool (decide (i = j ∧ a = c ∧ b = f))) := by
 intro ac ha w _
 simp only [execOp, ha.ev hx, ha.ev hy, Sem.run_bind, run_eqGuard_agg w .eql t x y _ _ hP.1, Result.andThen_ok, run_eql_struct, hP.2, Sem.run_pure]
theorem Yld.eqArr {d : Option Tmp} {t m : Nat} {k : IntKind} {x y : Operand} {t' ty : TypeId} {pos : String} {af : Array Edge} {g : Option (Nat × Bool)} (hP : Arr P t k m) {ps qs : List Int} {va vb : Array Value} (hx : ev e x = some (.agg va)) (hy : ev e y = some (.agg vb)) (ea : va = (ps.map (Value.int k)).toArray) (eb : vb = (qs.map (Value.int k)).toArray) (la : ps.length = m) (lb : qs.length = m) :
  Yld P n C e ⟨d, .binOp .eql t x y t', ty, pos, af, g⟩ (.bool (decide (ps = qs))) := by
 intro ac ha w _
 subst ea; subst eb
 simp only [execOp, ha.ev hx, ha.ev hy, Sem.run_bind, run_eqGuard_agg w .eql t x y _ _ hP.1, Result.andThen_ok, run_eql_struct, hP.2 ps qs w la lb, Sem.run_pure]
theorem Yld.neqArr {d : Option Tmp} {t m : Nat} {k : IntKind} {x y : Operand} {t' ty : TypeId} {pos : String} {af : Array Edge} {g : Option (Nat × Bool)} (hP : Arr P t k m) {ps qs : List Int} {va vb : Array Value} (hx : ev e x = some (.agg va)) (hy : ev e y = some (.agg vb)) (ea : va = (ps.map (Value.int k)).toArray) (eb : vb = (qs.map (Value.int k)).toArray) (la : ps.length = m) (lb : qs.length = m) :
  Yld P n C e ⟨d, .binOp .neq t x y t', ty, pos, af, g⟩ (.bool (!decide (ps = qs))) := by
 intro ac ha w _
 subst ea; subst eb
 simp only [execOp, ha.ev hx, ha.ev hy, Sem.run_bind, run_eqGuard_agg w .neq t x y _ _ hP.1, Result.andThen_ok, run_neq_struct, hP.2 ps qs w la lb, Sem.run_pure]
end
end Go.X
set_option linter.unusedVariables false
namespace Go.X
open Go Go.RowKit
structure Tw (b : Bool) (p q : Prop) : Prop where
  t : b = true → p
  f : b = false → q
theorem Tw.d {p : Prop} [h : Decidable p] : Tw (decide p) p (¬ p) := ⟨of_decide_eq_true, of_decide_eq_false⟩
theorem Tw.n {p : Prop} [h : Decidable p] : Tw (!decide p) (¬ p) p := ⟨fun h => by simpa using h, fun h => by simpa using h⟩
theorem Tw.b {b : Bool} : Tw b (b = true) (b = false) := ⟨id, id⟩
section
variable {P : Program} {f : FuncId} {n : Nat} {R : Ending → World → Prop} {k : List Item} {e : Env} {w : World} {K : Exit → Act → World → Prop} {o : Oper} {d : Nat} {v : Value}
theorem QQ {ops : Array Oper} {rest : List Oper} (hy : Yld P n (· = w) e o v) (h : RL P n ops rest ((d, v) :: e) w K) (hw : Want ops e o true := by first | exact .free rfl | exact .yes rfl rfl rfl) (hd : o.dst = some d := by rfl) (hb : Nat.blt d n = true := by rfl) : RL P n ops (o :: rest) e w K := RL.q hw hd hb hy h
theorem OP {ops : Array Oper} {rest : List Oper} {Q : Value → World → Prop} (hy : Does P n e w o Q) (h : ∀ v w', Q v w' → RL P n ops rest ((d, v) :: e) w' K) (hw : Want ops e o true := by first | exact .free rfl | exact .yes rfl rfl rfl) (hd : o.dst = some d := by rfl) (hb : Nat.blt d n = true := by rfl) : RL P n ops (o :: rest) e w K := RL.op hw hd hb hy h
theorem OQ {ops : Array Oper} {rest : List Oper} {Q : Value → World → Prop} (hy : Does P n e w o Q) (h : ∀ v w', Q v w' → RL P n ops rest e w' K) (hw : Want ops e o true := by first | exact .free rfl | exact .yes rfl rfl rfl) (hd : o.dst = none := by rfl) : RL P n ops (o :: rest) e w K := RL.op' hw hd hy h
theorem SP {ops : Array Oper} {rest : List Oper} {t : Bool} {p q : Prop} (d : Nat) (h1 : p → RL P n ops rest ((d, .bool true) :: e) w K) (h2 : q → RL P n ops rest ((d, .bool false) :: e) w K) (hg : get e d = some (.bool t) := by rfl) (hb : Nat.blt d n = true := by rfl) (ht : Tw t p q := by first | exact Tw.d | exact Tw.n | exact Tw.b) : RL P n ops rest e w K := RL.split hg hb (fun h => h1 (ht.t h)) (fun h => h2 (ht.f h))
theorem CD {c : Operand} {x y : Code} {t : Bool} {p q : Prop} (h1 : p → RK P f n R (.code x :: k) e w) (h2 : q → RK P f n R (.code y :: k) e w) (hc : ev e c = some (.bool t) := by rfl) (ht : Tw t p q := by first | exact Tw.d | exact Tw.n | exact Tw.b) : RK P f n R (.code (.cond c x y) :: k) e w := RK.cond hc (fun h => h1 (ht.t h)) (fun h => h2 (ht.f h))
end
section
variable {P : Program} {f : FuncId} {n : Nat} {R : Ending → World → Prop} {k : List Item} {e : Env} {w : World} {K : Exit → Act → World → Prop} {o : Oper} {d : Nat} {v : Value} {ops : List Oper} {rest : List (Nat × Bool)} {S : World → Prop} {tl : List Nat} {i : Nat}
theorem DQ (hy : Yld P n S e o v) (hS : S w) (h : DL P n ops S tl rest ((d, v) :: e) w K) (hi : nth ops i = some o := by rfl) (hw : Want ops.toArray e o true := by first | exact .free rfl | exact .yes rfl rfl rfl) (hd : o.dst = some d := by rfl) (hb : Nat.blt d n = true := by rfl) (ht : tailOk ops.toArray tl i = true := by rfl) : DL P n ops S tl ((i, false) :: rest) e w K := DL.q hi hw hd hb ht hy hS h
theorem DF (hy : Yld P n (fun _ => True) e o v) (h : DL P n ops S tl rest ((d, v) :: e) w K) (hi : nth ops i = some o := by rfl) (hw : Want ops.toArray e o true := by first | exact .free rfl | exact .yes rfl rfl rfl) (hd : o.dst = some d := by rfl) (hb : Nat.blt d n = true := by rfl) : DL P n ops S tl ((i, false) :: rest) e w K := DL.qf hi hw hd hb hy h
theorem OD {Q : Value → World → Prop} (hy : Does P n e w o Q) (h : ∀ v w', Q v w' → S w' ∧ DL P n ops S tl rest ((d, v) :: e) w' K) (hi : nth ops i = some o := by rfl) (hw : Want ops.toArray e o true := by first | exact .free rfl | exact .yes rfl rfl rfl) (hd : o.dst = some d := by rfl) (hb : Nat.blt d n = true := by rfl) : DL P n ops S tl ((i, true) :: rest) e w K := DL.op hi hw hd hb hy h
theorem SD {t : Bool} {p q : Prop} (d : Nat) (h1 : p → DL P n ops S tl rest ((d, .bool true) :: e) w K) (h2 : q → DL P n ops S tl rest ((d, .bool false) :: e) w K) (hg : get e d = some (.bool t) := by rfl) (hb : Nat.blt d n = true := by rfl) (ht : Tw t p q := by first | exact Tw.d | exact Tw.n | exact Tw.b) : DL P n ops S tl rest e w K := DL.split hg hb (fun h => h1 (ht.t h)) (fun h => h2 (ht.f h))
end
theorem GG {P Q : Prop} (hq : Q) (h : Q → P := by
  intro hh
  repeat (first | with_reducible refine RL.p (by with_unfolding_all rfl) (by with_unfolding_all rfl) ?_ | with_reducible refine RK.seq ?_ | with_reducible refine RL.done ?_ | with_reducible refine RK.region ?_ | with_reducible refine RK.skip ?_ | with_reducible refine RK.block ?_ | with_reducible refine RK.inBlock ?_ | with_reducible refine DL.p (by with_unfolding_all rfl) (by with_unfolding_all rfl) (by with_unfolding_all rfl) ?_ | with_reducible refine DL.done ?_)
  exact hh) : P := h hq
end Go.X
set_option linter.unusedVariables false
set_option linter.unusedSimpArgs false
set_option maxHeartbeats 400000
namespace Go.Rex
inductive Rx where
 | set (s : List Nat)
 | node (op : Nat) (l : Rx)
 | nil
 | cons (x l : Rx)
 deriving DecidableEq, Inhabited
inductive Rt (R : Nat → Nat → Prop) : Nat → Nat → Prop where
 | refl (i : Nat) : Rt R i i
 | step {i k j : Nat} : R i k → Rt R k j → Rt R i j
theorem Rt.trans {R : Nat → Nat → Prop} {i k j : Nat} (h1 : Rt R i k) (h2 : Rt R k j) : Rt R i j := by
 induction h1 with
 | refl => exact h2
 | step h _ ih => exact .step h (ih h2)
theorem Rt.snoc {R : Nat → Nat → Prop} {i k j : Nat} (h1 : Rt R i k) (h2 : R k j) : Rt R i j := h1.trans (.step h2 (.refl _))
def Lg (H : List Nat → Nat → Prop) : Rx → Bool → Nat → Nat → Prop
 | .set s, _, i, j => H s i ∧ j = i + 1
 | .node op l, _, i, j => if op = 2 then Lg H l true i j else if op = 3 then Lg H l false i j else if op = 4 then Rt (Lg H l true) i j else if op = 5 then ∃ k, Lg H l true i k ∧ Rt (Lg H l true) k j else i = j ∨ Lg H l true i j
 | .nil, b, i, j => b = true ∧ i = j
 | .cons x l, b, i, j => if b = true then ∃ k, Lg H x true i k ∧ Lg H l true k j else Lg H x true i j ∨ Lg H l false i j
def cnt : Rx → Nat
 | .cons _ l => cnt l + 1
 | _ => 0
def sz : Rx → Nat
 | .set _ => 1
 | .node op l => if op = 2 then sz l else if op = 3 then sz l + 2 * (cnt l - 1) else if op = 4 then sz l + 2 else sz l + 1
 | .nil => 0
 | .cons x l => sz x + sz l
structure Stp where
 op : Nat
 set : List Nat
 a : Nat
 b : Nat
 deriving DecidableEq, Inhabited
def byteS (s : List Nat) : Stp := ⟨1, s, 0, 0⟩
def zero4 : List Nat := [0, 0, 0, 0]
def splitS (a b : Nat) : Stp := ⟨2, zero4, a, b⟩
def jumpS (a : Nat) : Stp := ⟨3, zero4, a, 0⟩
def matchS : Stp := ⟨4, zero4, 0, 0⟩
def code : Rx → Option Nat → Nat → List Stp
 | .set s, _, _ => [byteS s]
 | .node op l, _, p => if op = 2 then code l none p else if op = 3 then code l (some (p + (sz l + 2 * (cnt l - 1)))) p else if op = 4 then splitS (p + 1) (p + 2 + sz l) :: (code l none (p + 1) ++ [jumpS p]) else if op = 5 then code l none p ++ [splitS p (p + sz l + 1)] else splitS (p + 1) (p + 1 + sz l) :: code l none (p + 1)
 | .nil, _, _ => []
 | .cons x l, none, p => code x none p ++ code l none (p + sz x)
 | .cons x l, some e, p => if l = .nil then code x none p else splitS (p + 1) (p + 2 + sz x) :: (code x none (p + 1) ++ jumpS e :: code l (some e) (p + 2 + sz x))
def Wf : Rx → Prop
 | .set _ => True
 | .node op l => Wf l ∧ (op = 3 → cnt l ≠ 0)
 | .nil => True
 | .cons x l => Wf x ∧ Wf l
def Ls : Rx → Prop
 | .set _ => False
 | .node _ _ => False
 | .nil => True
 | .cons _ l => Ls l
def Wl : Rx → Prop
 | .set _ => True
 | .node _ l => Ls l ∧ Wl l
 | .nil => True
 | .cons x l => Wl x ∧ Wl l ∧ Ls l
theorem ls_nil {l : Rx} (h : Ls l) (hc : cnt l = 0) : l = .nil := by
 cases l with
 | set => exact h.elim
 | node => exact h.elim
 | nil => rfl
 | cons => simp [cnt] at hc
theorem code_len (x : Rx) : Wf x → Wl x → ∀ p, (code x none p).length = sz x ∧ ∀ e, Ls x → cnt x ≠ 0 → (code x (some e) p).length = sz x + 2 * (cnt x - 1) := by
 induction x with
 | set s => intro _ _ p; exact ⟨rfl, fun e h => h.elim⟩
 | nil => intro _ _ p; exact ⟨rfl, fun e _ h => absurd rfl h⟩
 | node op l ih =>
  intro hw hl p
  refine ⟨?_, fun e h => h.elim⟩
  have h1 := ih hw.1 hl.2
  simp only [code, sz]
  split
  ·exact (h1 p).1
  ·split
   ·rename_i h2 h3; exact (h1 p).2 _ hl.1 (hw.2 h3)
   ·split
    ·simp [(h1 (p + 1)).1]
    ·split
     ·simp [(h1 p).1]
     ·simp [(h1 (p + 1)).1]
 | cons x l ihx ihl =>
  intro hw hl p
  have hx := ihx hw.1 hl.1
  have h2 := ihl hw.2 hl.2.1
  refine ⟨by simp [code, sz, (hx p).1, (h2 _).1], fun e _ _ => ?_⟩
  simp only [code]
  split
  ·rename_i h; subst h; simp [sz, cnt, (hx p).1]
  ·rename_i h
   have hc : cnt l ≠ 0 := fun hc => h (ls_nil hl.2.2 hc)
   simp only [List.length_cons, List.length_append, (hx _).1, (h2 _).2 e hl.2.2 hc, sz, cnt]
   omega
def Seg (P : List Stp) (p : Nat) (l : List Stp) : Prop := ∀ k st, l[k]? = some st → P[p + k]? = some st
theorem Seg.append {P : List Stp} {p : Nat} {l1 l2 : List Stp} (h : Seg P p (l1 ++ l2)) : Seg P p l1 ∧ Seg P (p + l1.length) l2 := by
 refine ⟨fun k st hk => h k st ?_, fun k st hk => ?_⟩
 ·rw [List.getElem?_append_left (List.getElem?_eq_some_iff.1 hk).1]; exact hk
 ·have := h (l1.length + k) st (by rw [List.getElem?_append_right (by omega), Nat.add_sub_cancel_left]; exact hk)
  rwa [← Nat.add_assoc] at this
theorem Seg.cons {P : List Stp} {p : Nat} {s : Stp} {l : List Stp} (h : Seg P p (s :: l)) : P[p]? = some s ∧ Seg P (p + 1) l :=
 ⟨h 0 s rfl, fun k st hk => by have := h (k + 1) st (by simpa using hk); rwa [show p + (k + 1) = p + 1 + k by omega] at this⟩
inductive Go1 (P : List Stp) (H : List Nat → Nat → Prop) : Nat → Nat → Nat → Nat → Prop where
 | byte {c i : Nat} {st : Stp} : P[c]? = some st → st.op = 1 → H st.set i → Go1 P H c i (c + 1) (i + 1)
 | left {c i : Nat} {st : Stp} : P[c]? = some st → st.op = 2 → Go1 P H c i st.a i
 | right {c i : Nat} {st : Stp} : P[c]? = some st → st.op = 2 → Go1 P H c i st.b i
 | jump {c i : Nat} {st : Stp} : P[c]? = some st → st.op = 3 → Go1 P H c i st.a i
inductive Rn (P : List Stp) (H : List Nat → Nat → Prop) : Nat → Nat → Nat → Nat → Nat → Prop where
 | zero (c i : Nat) : Rn P H 0 c i c i
 | step {n c i c' i' d j : Nat} : Go1 P H c i c' i' → Rn P H n c' i' d j → Rn P H (n + 1) c i d j
def Re (P : List Stp) (H : List Nat → Nat → Prop) (c i d j : Nat) : Prop := ∃ n, Rn P H n c i d j
section
variable {P : List Stp} {H : List Nat → Nat → Prop}
theorem Re.refl (c i : Nat) : Re P H c i c i := ⟨0, .zero c i⟩
theorem Re.step {c i c' i' d j : Nat} (h : Go1 P H c i c' i') (h2 : Re P H c' i' d j) : Re P H c i d j := let ⟨n, hn⟩ := h2; ⟨n + 1, .step h hn⟩
theorem Re.trans {c i c' i' d j : Nat} (h : Re P H c i c' i') (h2 : Re P H c' i' d j) : Re P H c i d j := by
 obtain ⟨n, hn⟩ := h
 induction hn with
 | zero => exact h2
 | step h _ ih => exact .step h (ih h2)
theorem fwd (x : Rx) : Wf x → Wl x → ∀ p i j, (Seg P p (code x none p) → Lg H x true i j → Re P H p i (p + sz x) j) ∧ (∀ e, Ls x → cnt x ≠ 0 → e = p + (sz x + 2 * (cnt x - 1)) → Seg P p (code x (some e) p) → Lg H x false i j → Re P H p i e j) := by
 induction x with
 | set s =>
  intro _ _ p i j
  refine ⟨fun hs h => ?_, fun e h => h.elim⟩
  obtain ⟨h1, rfl⟩ := h
  exact .step (.byte hs.cons.1 rfl h1) (.refl _ _)
 | nil =>
  intro _ _ p i j
  refine ⟨fun hs h => ?_, fun e _ h => absurd rfl h⟩
  obtain ⟨_, rfl⟩ := h
  exact .refl _ _
 | node op l ih =>
  intro hw hl p i j
  refine ⟨fun hs h => ?_, fun e h => h.elim⟩
  have h1 := ih hw.1 hl.2
  simp only [code] at hs
  simp only [Lg] at h
  simp only [sz]
  split at hs
  ·rename_i e
   rw [if_pos e] at h ⊢
   exact (h1 p i j).1 hs h
  ·rename_i n2
   rw [if_neg n2] at h ⊢
   split at hs
   ·rename_i e
    rw [if_pos e] at h ⊢
    exact (h1 p i j).2 _ hl.1 (hw.2 e) rfl hs h
   ·rename_i n3
    rw [if_neg n3] at h ⊢
    split at hs
    ·rename_i e
     rw [if_pos e] at h ⊢
     obtain ⟨hs1, hs2⟩ := hs.cons
     obtain ⟨hs2, hs3⟩ := hs2.append
     rw [(code_len l hw.1 hl.2 _).1] at hs3
     induction h with
     | refl i => exact .step (.right hs1 rfl) (by show Re P H (p + 2 + sz l) i _ i; rw [show p + 2 + sz l = p + (sz l + 2) by omega]; exact .refl _ _)
     | step h _ ih2 => exact .step (.left hs1 rfl) (((h1 (p + 1) _ _).1 hs2 h).trans (.step (.jump hs3.cons.1 rfl) ih2))
    ·rename_i n4
     rw [if_neg n4] at h ⊢
     split at hs
     ·rename_i e
      rw [if_pos e] at h
      obtain ⟨hs2, hs3⟩ := hs.append
      rw [(code_len l hw.1 hl.2 _).1] at hs3
      obtain ⟨k, hk, hr⟩ := h
      refine ((h1 p _ _).1 hs2 hk).trans ?_
      clear hk
      induction hr with
      | refl i => exact .step (.right hs3.cons.1 rfl) (.refl _ _)
      | step h _ ih2 => exact .step (.left hs3.cons.1 rfl) (((h1 p _ _).1 hs2 h).trans ih2)
     ·rename_i n5
      rw [if_neg n5] at h
      obtain ⟨hs1, hs2⟩ := hs.cons
      rcases h with rfl | h
      ·exact .step (.right hs1 rfl) (by show Re P H (p + 1 + sz l) i _ i; rw [show p + 1 + sz l = p + (sz l + 1) by omega]; exact .refl _ _)
      ·exact .step (.left hs1 rfl) (by have := (h1 (p + 1) _ _).1 hs2 h; rwa [show p + 1 + sz l = p + (sz l + 1) by omega] at this)
 | cons x l ihx ihl =>
  intro hw hl p i j
  have hx := ihx hw.1 hl.1
  have h2 := ihl hw.2 hl.2.1
  refine ⟨fun hs h => ?_, fun e _ _ he hs h => ?_⟩
  ·simp only [code] at hs
   obtain ⟨hs1, hs2⟩ := hs.append
   rw [(code_len x hw.1 hl.1 _).1] at hs2
   simp only [Lg, if_true] at h
   obtain ⟨k, ha, hb⟩ := h
   have := ((hx p i k).1 hs1 ha).trans ((h2 _ k j).1 hs2 hb)
   simpa only [sz, Nat.add_assoc] using this
  ·simp only [code] at hs
   simp only [Lg, Bool.false_eq_true, if_false] at h
   split at hs
   ·rename_i hn
    subst hn
    rcases h with h | h
    ·have := (hx p i j).1 hs h
     rw [he]
     simpa [sz, cnt] using this
    ·exact absurd h.1 (by decide)
   ·rename_i hn
    have hc : cnt l ≠ 0 := fun hc => hn (ls_nil hl.2.2 hc)
    obtain ⟨hs1, hs2⟩ := hs.cons
    obtain ⟨hs2, hs3⟩ := hs2.append
    rw [(code_len x hw.1 hl.1 _).1] at hs3
    obtain ⟨hs3, hs4⟩ := hs3.cons
    rcases h with h | h
    ·exact .step (.left hs1 rfl) (((hx (p + 1) i j).1 hs2 h).trans (.step (.jump hs3 rfl) (.refl _ _)))
    ·refine .step (.right hs1 rfl) ?_
     show Re P H (p + 2 + sz x) i e j
     rw [show p + 1 + sz x + 1 = p + 2 + sz x by omega] at hs4
     exact (h2 _ i j).2 e hl.2.2 hc (by simp only [sz, cnt] at he; omega) hs4 h
theorem Rn.inv {n c i d j : Nat} (h : Rn P H n c i d j) (hne : c ≠ d) : ∃ m c' i', n = m + 1 ∧ Go1 P H c i c' i' ∧ Rn P H m c' i' d j := by
 cases h with
 | zero => exact absurd rfl hne
 | step h1 h2 => exact ⟨_, _, _, rfl, h1, h2⟩
theorem Go1.of {c i c' i' : Nat} {st : Stp} (h : Go1 P H c i c' i') (hs : P[c]? = some st) : (st.op = 1 ∧ H st.set i ∧ c' = c + 1 ∧ i' = i + 1) ∨ (st.op = 2 ∧ i' = i ∧ (c' = st.a ∨ c' = st.b)) ∨ (st.op = 3 ∧ i' = i ∧ c' = st.a) := by
 cases h with
 | byte a b d => rw [hs] at a; cases a; exact .inl ⟨b, d, rfl, rfl⟩
 | left a b => rw [hs] at a; cases a; exact .inr (.inl ⟨b, rfl, .inl rfl⟩)
 | right a b => rw [hs] at a; cases a; exact .inr (.inl ⟨b, rfl, .inr rfl⟩)
 | jump a b => rw [hs] at a; cases a; exact .inr (.inr ⟨b, rfl, rfl⟩)
theorem Go1.split {c i c' i' a b : Nat} (h : Go1 P H c i c' i') (hs : P[c]? = some (splitS a b)) : i' = i ∧ (c' = a ∨ c' = b) := by
 rcases h.of hs with ⟨h1, _⟩ | ⟨_, h2, h3⟩ | ⟨h1, _⟩
 ·exact absurd h1 (fun h => by cases h)
 ·exact ⟨h2, h3⟩
 ·exact absurd h1 (fun h => by cases h)
theorem Go1.jumped {c i c' i' a : Nat} (h : Go1 P H c i c' i') (hs : P[c]? = some (jumpS a)) : i' = i ∧ c' = a := by
 rcases h.of hs with ⟨h1, _⟩ | ⟨h1, _⟩ | ⟨_, h2, h3⟩
 ·exact absurd h1 (fun h => by cases h)
 ·exact absurd h1 (fun h => by cases h)
 ·exact ⟨h2, h3⟩
theorem bwd (x : Rx) : Wf x → Wl x → ∀ p n i d j, (Seg P p (code x none p) → Rn P H n p i d j → (d < p ∨ p + sz x ≤ d) → ∃ m k, m ≤ n ∧ Lg H x true i k ∧ Rn P H m (p + sz x) k d j) ∧ (∀ e, Ls x → cnt x ≠ 0 → e = p + (sz x + 2 * (cnt x - 1)) → Seg P p (code x (some e) p) → Rn P H n p i d j → (d < p ∨ e ≤ d) → ∃ m k, m ≤ n ∧ Lg H x false i k ∧ Rn P H m e k d j) := by
 induction x with
 | set s =>
  intro _ _ p n i d j
  refine ⟨fun hs h hd => ?_, fun e h => h.elim⟩
  have hd' : p ≠ d := by simp only [sz] at hd; omega
  obtain ⟨m, c', i', rfl, h1, h2⟩ := h.inv hd'
  rcases h1.of hs.cons.1 with ⟨_, h3, rfl, rfl⟩ | ⟨h3, _⟩ | ⟨h3, _⟩
  ·exact ⟨m, i + 1, by omega, ⟨h3, rfl⟩, h2⟩
  ·exact absurd h3 (fun h => by cases h)
  ·exact absurd h3 (fun h => by cases h)
 | nil =>
  intro _ _ p n i d j
  exact ⟨fun hs h hd => ⟨n, i, Nat.le_refl _, ⟨rfl, rfl⟩, h⟩, fun e _ h => absurd rfl h⟩
 | node op l ih =>
  intro hw hl p n i d j
  refine ⟨fun hs h hd => ?_, fun e h => h.elim⟩
  have h1 := ih hw.1 hl.2
  simp only [code] at hs
  simp only [Lg]
  simp only [sz] at hd ⊢
  split at hs
  ·rename_i e
   rw [if_pos e] at hd ⊢
   simp only [if_pos e]
   exact (h1 p n i d j).1 hs h hd
  ·rename_i n2
   rw [if_neg n2] at hd ⊢
   simp only [if_neg n2]
   split at hs
   ·rename_i e
    rw [if_pos e] at hd ⊢
    simp only [if_pos e]
    exact (h1 p n i d j).2 _ hl.1 (hw.2 e) rfl hs h hd
   ·rename_i n3
    rw [if_neg n3] at hd ⊢
    simp only [if_neg n3]
    split at hs
    ·rename_i e
     rw [if_pos e] at hd ⊢
     simp only [if_pos e]
     obtain ⟨hs1, hs2⟩ := hs.cons
     obtain ⟨hs2, hs3⟩ := hs2.append
     rw [(code_len l hw.1 hl.2 _).1] at hs3
     induction n using Nat.strongRecOn generalizing i with
     | _ n ih2 =>
      obtain ⟨m, c', i', rfl, g1, g2⟩ := h.inv (by omega)
      obtain ⟨rfl, rfl | rfl⟩ := g1.split hs1
      ·obtain ⟨m2, k, hm2, hk, g3⟩ := (h1 (p + 1) m i' d j).1 hs2 g2 (by omega)
       obtain ⟨m3, c3, i3, rfl, g4, g5⟩ := g3.inv (by omega)
       obtain ⟨rfl, rfl⟩ := g4.jumped hs3.cons.1
       obtain ⟨m4, k4, hm4, hk4, g6⟩ := ih2 m3 (by omega) i3 g5
       exact ⟨m4, k4, by omega, .step hk hk4, g6⟩
      ·exact ⟨m, i', by omega, .refl _, by rwa [show p + 2 + sz l = p + (sz l + 2) by omega] at g2⟩
    ·rename_i n4
     rw [if_neg n4] at hd ⊢
     simp only [if_neg n4]
     split at hs
     ·rename_i e
      simp only [if_pos e]
      obtain ⟨hs2, hs3⟩ := hs.append
      rw [(code_len l hw.1 hl.2 _).1] at hs3
      induction n using Nat.strongRecOn generalizing i with
      | _ n ih2 =>
       obtain ⟨m2, k, hm2, hk, g3⟩ := (h1 p n i d j).1 hs2 h (by omega)
       obtain ⟨m3, c3, i3, rfl, g4, g5⟩ := g3.inv (by omega)
       obtain ⟨rfl, rfl | rfl⟩ := g4.split hs3.cons.1
       ·obtain ⟨m4, k4, hm4, ⟨k5, hk5, hr⟩, g6⟩ := ih2 m3 (by omega) i3 g5
        exact ⟨m4, k4, by omega, ⟨i3, hk, .step hk5 hr⟩, g6⟩
       ·exact ⟨m3, i3, by omega, ⟨i3, hk, .refl _⟩, g5⟩
     ·rename_i n5
      simp only [if_neg n5]
      obtain ⟨hs1, hs2⟩ := hs.cons
      obtain ⟨m, c', i', rfl, g1, g2⟩ := h.inv (by omega)
      obtain ⟨rfl, rfl | rfl⟩ := g1.split hs1
      ·obtain ⟨m2, k, hm2, hk, g3⟩ := (h1 (p + 1) m i' d j).1 hs2 g2 (by omega)
       exact ⟨m2, k, by omega, .inr hk, by rwa [show p + 1 + sz l = p + (sz l + 1) by omega] at g3⟩
      ·exact ⟨m, i', by omega, .inl rfl, by rwa [show p + 1 + sz l = p + (sz l + 1) by omega] at g2⟩
 | cons x l ihx ihl =>
  intro hw hl p n i d j
  have hx := ihx hw.1 hl.1
  have h2 := ihl hw.2 hl.2.1
  refine ⟨fun hs h hd => ?_, fun e _ _ he hs h hd => ?_⟩
  ·simp only [code] at hs
   simp only [sz] at hd ⊢
   obtain ⟨hs1, hs2⟩ := hs.append
   rw [(code_len x hw.1 hl.1 _).1] at hs2
   obtain ⟨m, k, hm, hk, g1⟩ := (hx p n i d j).1 hs1 h (by omega)
   obtain ⟨m2, k2, hm2, hk2, g2⟩ := (h2 _ m k d j).1 hs2 g1 (by omega)
   exact ⟨m2, k2, by omega, by simp only [Lg, if_true]; exact ⟨k, hk, hk2⟩, by rwa [Nat.add_assoc] at g2⟩
  ·simp only [code] at hs
   simp only [Lg, Bool.false_eq_true, if_false]
   simp only [sz, cnt] at he
   split at hs
   ·rename_i hn
    subst hn
    simp only [sz, cnt] at he
    obtain ⟨m, k, hm, hk, g1⟩ := (hx p n i d j).1 hs h (by omega)
    exact ⟨m, k, hm, .inl hk, by rwa [show e = p + sz x by omega]⟩
   ·rename_i hn
    have hc : cnt l ≠ 0 := fun hc => hn (ls_nil hl.2.2 hc)
    obtain ⟨hs1, hs2⟩ := hs.cons
    obtain ⟨hs2, hs3⟩ := hs2.append
    rw [(code_len x hw.1 hl.1 _).1] at hs3
    obtain ⟨hs3, hs4⟩ := hs3.cons
    rw [show p + 1 + sz x + 1 = p + 2 + sz x by omega] at hs4
    obtain ⟨m, c', i', rfl, g1, g2⟩ := h.inv (by omega)
    obtain ⟨rfl, rfl | rfl⟩ := g1.split hs1
    ·obtain ⟨m2, k, hm2, hk, g3⟩ := (hx (p + 1) m i' d j).1 hs2 g2 (by omega)
     obtain ⟨m3, c3, i3, rfl, g4, g5⟩ := g3.inv (by omega)
     obtain ⟨rfl, rfl⟩ := g4.jumped hs3
     exact ⟨m3, i3, by omega, .inl hk, g5⟩
    ·obtain ⟨m2, k, hm2, hk, g3⟩ := (h2 _ m i' d j).2 e hl.2.2 hc (by omega) hs4 g2 (by omega)
     exact ⟨m2, k, by omega, .inr hk, g3⟩
end
def whole (x : Rx) : List Stp := code x none 0 ++ [matchS]
theorem whole_len {x : Rx} (hw : Wf x) (hl : Wl x) : (whole x).length = sz x + 1 := by simp [whole, (code_len x hw hl 0).1]
theorem accepts {H : List Nat → Nat → Prop} {x : Rx} (hw : Wf x) (hl : Wl x) (j : Nat) : Re (whole x) H 0 0 (sz x) j ↔ Lg H x true 0 j := by
 have hs : Seg (whole x) 0 (code x none 0) := fun k st hk => by
  rw [Nat.zero_add]; unfold whole
  rw [List.getElem?_append_left (List.getElem?_eq_some_iff.1 hk).1]; exact hk
 constructor
 ·rintro ⟨n, hn⟩
  obtain ⟨m, k, _, hk, g⟩ := (bwd x hw hl 0 n 0 (sz x) j).1 hs hn (by omega)
  rw [Nat.zero_add] at g
  cases g with
  | zero => exact hk
  | step g1 _ =>
   have hm : (whole x)[sz x]? = some matchS := by
    unfold whole
    rw [List.getElem?_append_right (by rw [(code_len x hw hl 0).1]; exact Nat.le_refl _), (code_len x hw hl 0).1]
    simp
   rcases g1.of hm with ⟨h, _⟩ | ⟨h, _⟩ | ⟨h, _⟩ <;> exact absurd h (fun h => by cases h)
 ·intro h
  have := (fwd (P := whole x) (H := H) x hw hl 0 0 j).1 hs h
  rwa [Nat.zero_add] at this
end Go.Rex
set_option linter.unusedVariables false
set_option linter.unusedSimpArgs false
set_option maxHeartbeats 400000
namespace Go.Rex
def E1 (P : List Stp) (c d : Nat) : Prop := ∃ st, P[c]? = some st ∧ (st.op = 2 ∧ (d = st.a ∨ d = st.b) ∨ st.op = 3 ∧ d = st.a)
def Leaf (P : List Stp) (c : Nat) : Prop := ∃ st, P[c]? = some st ∧ st.op ≠ 2 ∧ st.op ≠ 3
structure Come (P : List Stp) (at_ been r been' : Nat) : Prop where
 sub : ∀ v, been.testBit v = true → been'.testBit v = true
 here : been'.testBit at_ = true
 sound : ∀ v, been'.testBit v = true → been.testBit v = true ∨ Rt (E1 P) at_ v
 closed : ∀ v, been'.testBit v = true → been.testBit v = false → ∀ u, E1 P v u → been'.testBit u = true
 ret : ∀ v, r.testBit v = true ↔ been'.testBit v = true ∧ been.testBit v = false ∧ Leaf P v
section
variable {P : List Stp}
theorem Come.there {c been : Nat} (h : been.testBit c = true) : Come P c been 0 been :=
 ⟨fun _ h => h, h, fun _ h => .inl h, fun v h1 h2 => (by rw [h1] at h2; cases h2), fun v => (by
  constructor
  ·intro h; simp at h
  ·rintro ⟨h1, h2, _⟩; rw [h1] at h2; cases h2)⟩
theorem bit_or {b c v : Nat} : (b ||| 1 <<< c).testBit v = true ↔ b.testBit v = true ∨ v = c := by
 rw [Nat.testBit_or, Nat.one_shiftLeft, Nat.testBit_two_pow, Bool.or_eq_true, decide_eq_true_eq]
 constructor <;> rintro (h | h) <;> simp [h]
theorem bit_or' {b c v : Nat} : (b ||| 1 <<< c).testBit v = false ↔ b.testBit v = false ∧ v ≠ c := by
 rw [← Bool.not_eq_true, bit_or, not_or, Bool.not_eq_true]
theorem bit_one {c v : Nat} : (1 <<< c).testBit v = true ↔ v = c := by
 have := bit_or (b := 0) (c := c) (v := v)
 simpa using this
theorem Come.leaf {c been : Nat} (h : been.testBit c = false) (hl : Leaf P c) : Come P c been (1 <<< c) (been ||| 1 <<< c) := by
 obtain ⟨st, h1, h2, h3⟩ := hl
 refine ⟨fun v hv => bit_or.2 (.inl hv), bit_or.2 (.inr rfl), fun v hv => ?_, fun v hv hn u hu => ?_, fun v => ?_⟩
 ·rcases bit_or.1 hv with h | rfl
  ·exact .inl h
  ·exact .inr (.refl _)
 ·rcases bit_or.1 hv with h' | rfl
  ·rw [h'] at hn; cases hn
  ·obtain ⟨s2, g1, g2⟩ := hu
   rw [h1] at g1; cases g1
   rcases g2 with ⟨g, _⟩ | ⟨g, _⟩
   ·exact absurd g h2
   ·exact absurd g h3
 ·rw [bit_one]
  constructor
  ·rintro rfl; exact ⟨bit_or.2 (.inr rfl), h, st, h1, h2, h3⟩
  ·rintro ⟨a, b, _⟩
   rcases bit_or.1 a with h' | h'
   ·rw [h'] at b; cases b
   ·exact h'
theorem Come.jump {c been r b' : Nat} {st : Stp} (h : been.testBit c = false) (hs : P[c]? = some st) (ho : st.op = 3) (h1 : Come P st.a (been ||| 1 <<< c) r b') : Come P c been r b' := by
 have he : E1 P c st.a := ⟨st, hs, .inr ⟨ho, rfl⟩⟩
 refine ⟨fun v hv => h1.sub v (bit_or.2 (.inl hv)), h1.sub _ (bit_or.2 (.inr rfl)), fun v hv => ?_, fun v hv hn u hu => ?_, fun v => ?_⟩
 ·rcases h1.sound v hv with h' | h'
  ·rcases bit_or.1 h' with h' | rfl
   ·exact .inl h'
   ·exact .inr (.refl _)
  ·exact .inr (.step he h')
 ·by_cases e : v = c
  ·subst e
   obtain ⟨s2, g1, g2⟩ := hu
   rw [hs] at g1; cases g1
   rcases g2 with ⟨g, _⟩ | ⟨_, rfl⟩
   ·rw [ho] at g; cases g
   ·exact h1.here
  ·exact h1.closed v hv (bit_or'.2 ⟨hn, e⟩) u hu
 ·rw [h1.ret]
  constructor
  ·rintro ⟨a, b, d⟩; exact ⟨a, (bit_or'.1 b).1, d⟩
  ·rintro ⟨a, b, d⟩
   refine ⟨a, bit_or'.2 ⟨b, ?_⟩, d⟩
   rintro rfl
   obtain ⟨s2, g1, g2, g3⟩ := d
   rw [hs] at g1; cases g1
   exact g3 ho
theorem Come.split {c been r1 b1 r2 b2 : Nat} {st : Stp} (h : been.testBit c = false) (hs : P[c]? = some st) (ho : st.op = 2) (h1 : Come P st.a (been ||| 1 <<< c) r1 b1) (h2 : Come P st.b b1 r2 b2) : Come P c been (r1 ||| r2) b2 := by
 have hea : E1 P c st.a := ⟨st, hs, .inl ⟨ho, .inl rfl⟩⟩
 have heb : E1 P c st.b := ⟨st, hs, .inl ⟨ho, .inr rfl⟩⟩
 refine ⟨fun v hv => h2.sub v (h1.sub v (bit_or.2 (.inl hv))), h2.sub _ (h1.sub _ (bit_or.2 (.inr rfl))), fun v hv => ?_, fun v hv hn u hu => ?_, fun v => ?_⟩
 ·rcases h2.sound v hv with h' | h'
  ·rcases h1.sound v h' with h' | h'
   ·rcases bit_or.1 h' with h' | rfl
    ·exact .inl h'
    ·exact .inr (.refl _)
   ·exact .inr (.step hea h')
  ·exact .inr (.step heb h')
 ·by_cases e : v = c
  ·subst e
   obtain ⟨s2, g1, g2⟩ := hu
   rw [hs] at g1; cases g1
   rcases g2 with ⟨_, rfl | rfl⟩ | ⟨g, _⟩
   ·exact h2.sub _ h1.here
   ·exact h2.here
   ·rw [ho] at g; cases g
  ·cases hb : b1.testBit v with
   | true => exact h2.sub _ (h1.closed v hb (bit_or'.2 ⟨hn, e⟩) u hu)
   | false => exact h2.closed v hv hb u hu
 ·rw [Nat.testBit_or, Bool.or_eq_true, h1.ret, h2.ret]
  constructor
  ·rintro (⟨a, b, d⟩ | ⟨a, b, d⟩)
   ·exact ⟨h2.sub _ a, (bit_or'.1 b).1, d⟩
   ·refine ⟨a, ?_, d⟩
    cases hv : been.testBit v with
    | false => rfl
    | true => rw [h1.sub v (bit_or.2 (.inl hv))] at b; cases b
  ·rintro ⟨a, b, d⟩
   cases hb : b1.testBit v with
   | true =>
    refine .inl ⟨rfl, bit_or'.2 ⟨b, ?_⟩, d⟩
    rintro rfl
    obtain ⟨s2, g1, g2, g3⟩ := d
    rw [hs] at g1; cases g1
    exact g2 ho
   | false => exact .inr ⟨a, rfl, d⟩
def miss (n been : Nat) : Nat := ((List.range n).filter fun v => !been.testBit v).length
theorem miss_lt {n been b' c : Nat} (hc : c < n) (h : been.testBit c = false) (hs : ∀ v, been.testBit v = true → b'.testBit v = true) (h' : b'.testBit c = true) : miss n b' < miss n been := by
 unfold miss
 have key : ∀ l : List Nat, c ∈ l → (l.filter fun v => !b'.testBit v).length < (l.filter fun v => !been.testBit v).length := by
  have le : ∀ l : List Nat, (l.filter fun v => !b'.testBit v).length ≤ (l.filter fun v => !been.testBit v).length := by
   intro l
   induction l with
   | nil => exact Nat.le_refl _
   | cons x l ih =>
    rw [List.filter_cons, List.filter_cons]
    cases hx : been.testBit x with
    | true => simp [hs x hx, ih]
    | false => cases b'.testBit x <;> simp <;> omega
  intro l hl
  induction l with
  | nil => cases hl
  | cons x l ih =>
   rw [List.filter_cons, List.filter_cons]
   rcases List.mem_cons.1 hl with rfl | hl
   ·simp only [h, h', Bool.not_true, Bool.not_false, Bool.false_eq_true, if_false, if_true, List.length_cons]
    have := le l
    omega
   ·have := ih hl
    cases hx : been.testBit x with
    | true => simp [hs x hx]; omega
    | false => cases b'.testBit x <;> simp <;> omega
 exact key _ (List.mem_range.2 hc)
variable {H : List Nat → Nat → Prop}
def Now (P : List Stp) (H : List Nat → Nat → Prop) (k m : Nat) : Prop := ∀ v, m.testBit v = true ↔ Leaf P v ∧ Re P H 0 0 v k
theorem Re.pos {c i d j : Nat} (h : Re P H c i d j) : i ≤ j := by
 obtain ⟨n, hn⟩ := h
 induction hn with
 | zero => exact Nat.le_refl _
 | step h _ ih => cases h <;> omega
theorem re_eps {c d i : Nat} : Re P H c i d i ↔ Rt (E1 P) c d := by
 constructor
 ·rintro ⟨n, hn⟩
  have key : ∀ n c d i j, Rn P H n c i d j → i = j → Rt (E1 P) c d := by
   intro n
   induction n with
   | zero => intro c d i j h e; cases h; exact .refl _
   | succ n ih =>
    intro c d i j h e
    cases h with
    | step h1 h2 =>
     cases h1 with
     | byte => have := Re.pos ⟨n, h2⟩; omega
     | left a b => exact .step ⟨_, a, .inl ⟨b, .inl rfl⟩⟩ (ih _ _ _ _ h2 e)
     | right a b => exact .step ⟨_, a, .inl ⟨b, .inr rfl⟩⟩ (ih _ _ _ _ h2 e)
     | jump a b => exact .step ⟨_, a, .inr ⟨b, rfl⟩⟩ (ih _ _ _ _ h2 e)
  exact key n c d i i hn rfl
 ·intro h
  induction h with
  | refl => exact .refl _ _
  | step h _ ih =>
   obtain ⟨st, hs, ⟨ho, rfl | rfl⟩ | ⟨ho, rfl⟩⟩ := h
   ·exact .step (.left hs ho) ih
   ·exact .step (.right hs ho) ih
   ·exact .step (.jump hs ho) ih
theorem last_byte {c i d k : Nat} (h : Re P H c i d (k + 1)) (hi : i ≤ k) : ∃ e st, P[e]? = some st ∧ st.op = 1 ∧ H st.set k ∧ Re P H c i e k ∧ Rt (E1 P) (e + 1) d := by
 obtain ⟨n, hn⟩ := h
 have key : ∀ n c i d j, Rn P H n c i d j → j = k + 1 → i ≤ k → ∃ e st, P[e]? = some st ∧ st.op = 1 ∧ H st.set k ∧ Re P H c i e k ∧ Rt (E1 P) (e + 1) d := by
  intro n
  induction n with
  | zero => intro c i d j h e hi; cases h; omega
  | succ n ih =>
   intro c i d j h e hi
   cases h with
   | step h1 h2 =>
    cases h1 with
    | @byte st a b hh =>
     by_cases hk : i = k
     ·subst hk
      subst e
      exact ⟨c, st, a, b, hh, .refl _ _, re_eps.1 ⟨n, h2⟩⟩
     ·obtain ⟨e', st', h3, h4, h5, h6, h7⟩ := ih _ _ _ _ h2 e (by omega)
      exact ⟨e', st', h3, h4, h5, .step (.byte a b hh) h6, h7⟩
    | left a b => obtain ⟨e', st', h3, h4, h5, h6, h7⟩ := ih _ _ _ _ h2 e hi; exact ⟨e', st', h3, h4, h5, .step (.left a b) h6, h7⟩
    | right a b => obtain ⟨e', st', h3, h4, h5, h6, h7⟩ := ih _ _ _ _ h2 e hi; exact ⟨e', st', h3, h4, h5, .step (.right a b) h6, h7⟩
    | jump a b => obtain ⟨e', st', h3, h4, h5, h6, h7⟩ := ih _ _ _ _ h2 e hi; exact ⟨e', st', h3, h4, h5, .step (.jump a b) h6, h7⟩
 exact key n c i d _ hn rfl hi
theorem rt_in {been : Nat} (hc : ∀ v, been.testBit v = true → ∀ u, E1 P v u → been.testBit u = true) {c d : Nat} (h : Rt (E1 P) c d) (h0 : been.testBit c = true) : been.testBit d = true := by
 induction h with
 | refl => exact h0
 | step h _ ih => exact ih (hc _ h0 _ h)
theorem Now.start {r b : Nat} (h : Come P 0 0 r b) : Now P H 0 r := by
 intro v
 rw [h.ret, re_eps]
 constructor
 ·rintro ⟨a, _, d⟩
  rcases h.sound v a with h' | h'
  ·simp at h'
  ·exact ⟨d, h'⟩
 ·rintro ⟨d, h'⟩
  exact ⟨rt_in (fun v hv u hu => h.closed v hv (by simp) u hu) h' h.here, by simp, d⟩
structure NextI (P : List Stp) (H : List Nat → Nat → Prop) (m k i been r : Nat) : Prop where
 sound : ∀ v, been.testBit v = true → ∃ c st, m.testBit c = true ∧ P[c]? = some st ∧ st.op = 1 ∧ H st.set k ∧ Rt (E1 P) (c + 1) v
 has : ∀ c st, c < i → m.testBit c = true → P[c]? = some st → st.op = 1 → H st.set k → been.testBit (c + 1) = true
 closed : ∀ v, been.testBit v = true → ∀ u, E1 P v u → been.testBit u = true
 ret : ∀ v, r.testBit v = true ↔ been.testBit v = true ∧ Leaf P v
theorem NextI.zero {m k : Nat} : NextI P H m k 0 0 0 := ⟨by simp, fun c st h => by omega, by simp, by simp⟩
theorem NextI.no {m k i been r : Nat} (h : NextI P H m k i been r) (hn : ∀ st, m.testBit i = true → P[i]? = some st → st.op = 1 → ¬ H st.set k) : NextI P H m k (i + 1) been r :=
 ⟨h.sound, fun c st hc h1 h2 h3 h4 => by
  by_cases e : c = i
  ·subst e; exact absurd h4 (hn st h1 h2 h3)
  ·exact h.has c st (by omega) h1 h2 h3 h4, h.closed, h.ret⟩
theorem NextI.yes {m k i been r r' b' : Nat} {st : Stp} (h : NextI P H m k i been r) (h1 : m.testBit i = true) (h2 : P[i]? = some st) (h3 : st.op = 1) (h4 : H st.set k) (hc : Come P (i + 1) been r' b') : NextI P H m k (i + 1) b' (r ||| r') := by
 refine ⟨fun v hv => ?_, fun c s2 hc2 g1 g2 g3 g4 => ?_, fun v hv u hu => ?_, fun v => ?_⟩
 ·rcases hc.sound v hv with h' | h'
  ·exact h.sound v h'
  ·exact ⟨i, st, h1, h2, h3, h4, h'⟩
 ·by_cases e : c = i
  ·subst e; exact hc.here
  ·exact hc.sub _ (h.has c s2 (by omega) g1 g2 g3 g4)
 ·cases hb : been.testBit v with
  | true => exact hc.sub _ (h.closed v hb u hu)
  | false => exact hc.closed v hv hb u hu
 ·rw [Nat.testBit_or, Bool.or_eq_true, h.ret, hc.ret]
  constructor
  ·rintro (⟨a, b⟩ | ⟨a, _, b⟩)
   ·exact ⟨hc.sub _ a, b⟩
   ·exact ⟨a, b⟩
  ·rintro ⟨a, b⟩
   cases hb : been.testBit v with
   | true => exact .inl ⟨rfl, b⟩
   | false => exact .inr ⟨a, rfl, b⟩
theorem Now.next {m k been r : Nat} (hm : Now P H k m) (h : NextI P H m k P.length been r) : Now P H (k + 1) r := by
 intro v
 rw [h.ret]
 constructor
 ·rintro ⟨a, b⟩
  obtain ⟨c, st, h1, h2, h3, h4, h5⟩ := h.sound v a
  exact ⟨b, ((hm c).1 h1).2.trans (.step (.byte h2 h3 h4) (re_eps.2 h5))⟩
 ·rintro ⟨b, g⟩
  obtain ⟨e, st, h1, h2, h3, h4, h5⟩ := last_byte g (Nat.zero_le _)
  have he : m.testBit e = true := (hm e).2 ⟨⟨st, h1, by rw [h2]; decide, by rw [h2]; decide⟩, h4⟩
  exact ⟨rt_in h.closed h5 (h.has e st (List.getElem?_eq_some_iff.1 h1).1 he h1 h2 h3), b⟩
end
def okS (n : Nat) (s : Stp) : Prop := s.op = 1 ∧ s.a = 0 ∧ s.b = 0 ∨ s.op = 2 ∧ s.a < n ∧ s.b < n ∧ s.set = zero4 ∨ s.op = 3 ∧ s.a < n ∧ s.b = 0 ∧ s.set = zero4
theorem okS.mono {n m : Nat} {s : Stp} (h : okS n s) (hm : n ≤ m) : okS m s := by
 rcases h with h | ⟨h1, h2, h3, h4⟩ | ⟨h1, h2, h3, h4⟩
 ·exact .inl h
 ·exact .inr (.inl ⟨h1, by omega, by omega, h4⟩)
 ·exact .inr (.inr ⟨h1, by omega, h3, h4⟩)
theorem code_ok (x : Rx) : Wf x → Wl x → ∀ p, (∀ s ∈ code x none p, okS (p + sz x + 1) s) ∧ ∀ e, Ls x → cnt x ≠ 0 → e = p + (sz x + 2 * (cnt x - 1)) → ∀ s ∈ code x (some e) p, okS (e + 1) s := by
 induction x with
 | set s =>
  intro _ _ p
  refine ⟨fun s hs => ?_, fun e h => h.elim⟩
  simp [code] at hs; subst hs; exact .inl ⟨rfl, rfl, rfl⟩
 | nil => intro _ _ p; exact ⟨fun s hs => by simp [code] at hs, fun e _ h => absurd rfl h⟩
 | node op l ih =>
  intro hw hl p
  refine ⟨fun s hs => ?_, fun e h => h.elim⟩
  have h1 := ih hw.1 hl.2
  simp only [code] at hs
  simp only [sz]
  split at hs
  ·rename_i e; rw [if_pos e]; exact (h1 p).1 s hs
  ·rename_i n2
   rw [if_neg n2]
   split at hs
   ·rename_i e; rw [if_pos e]
    exact (h1 p).2 _ hl.1 (hw.2 e) rfl s hs
   ·rename_i n3
    rw [if_neg n3]
    split at hs
    ·rename_i e; rw [if_pos e]
     rcases List.mem_cons.1 hs with rfl | hs
     ·exact .inr (.inl ⟨rfl, by simp only [splitS]; omega, by simp only [splitS]; omega, rfl⟩)
     ·rcases List.mem_append.1 hs with hs | hs
      ·exact ((h1 _).1 s hs).mono (by omega)
      ·simp at hs; subst hs; exact .inr (.inr ⟨rfl, by simp [jumpS]; omega, rfl, rfl⟩)
    ·rename_i n4
     rw [if_neg n4]
     split at hs
     ·rcases List.mem_append.1 hs with hs | hs
      ·exact ((h1 _).1 s hs).mono (by omega)
      ·simp at hs; subst hs; exact .inr (.inl ⟨rfl, by simp only [splitS]; omega, by simp only [splitS]; omega, rfl⟩)
     ·rcases List.mem_cons.1 hs with rfl | hs
      ·exact .inr (.inl ⟨rfl, by simp only [splitS]; omega, by simp only [splitS]; omega, rfl⟩)
      ·exact ((h1 _).1 s hs).mono (by omega)
 | cons x l ihx ihl =>
  intro hw hl p
  have hx := ihx hw.1 hl.1
  have h2 := ihl hw.2 hl.2.1
  refine ⟨fun s hs => ?_, fun e _ _ he s hs => ?_⟩
  ·simp only [code] at hs
   simp only [sz]
   rcases List.mem_append.1 hs with hs | hs
   ·exact ((hx p).1 s hs).mono (by omega)
   ·exact ((h2 _).1 s hs).mono (by omega)
  ·simp only [code] at hs
   simp only [sz, cnt] at he
   split at hs
   ·rename_i hn
    subst hn
    simp only [sz, cnt] at he
    exact ((hx p).1 s hs).mono (by omega)
   ·rename_i hn
    have hc : cnt l ≠ 0 := fun hc => hn (ls_nil hl.2.2 hc)
    rcases List.mem_cons.1 hs with rfl | hs
    ·exact .inr (.inl ⟨rfl, by simp only [splitS]; omega, by simp only [splitS]; omega, rfl⟩)
    ·rcases List.mem_append.1 hs with hs | hs
     ·exact ((hx _).1 s hs).mono (by omega)
     ·rcases List.mem_cons.1 hs with rfl | hs
      ·exact .inr (.inr ⟨rfl, by simp [jumpS], rfl, rfl⟩)
      ·exact ((h2 _).2 e hl.2.2 hc (by omega) s hs)
theorem whole_at {x : Rx} (hw : Wf x) (hl : Wl x) {c : Nat} {st : Stp} (h : (whole x)[c]? = some st) : (c < sz x ∧ okS (sz x + 1) st) ∨ c = sz x ∧ st = matchS := by
 unfold whole at h
 have hlen := (code_len x hw hl 0).1
 by_cases hc : c < sz x
 ·rw [List.getElem?_append_left (by omega)] at h
  have := (code_ok x hw hl 0).1 st (List.mem_of_getElem? h)
  rw [Nat.zero_add] at this
  exact .inl ⟨hc, this⟩
 ·rw [List.getElem?_append_right (by omega), hlen] at h
  cases hk : c - sz x with
  | zero => rw [hk] at h; simp at h; exact .inr ⟨by omega, h.symm⟩
  | succ q => rw [hk] at h; simp at h
theorem whole_match {x : Rx} (hw : Wf x) (hl : Wl x) {H : List Nat → Nat → Prop} {k m : Nat} (hm : Now (whole x) H k m) : (∃ c st, m.testBit c = true ∧ (whole x)[c]? = some st ∧ st.op = 4) ↔ Lg H x true 0 k := by
 rw [← accepts hw hl]
 constructor
 ·rintro ⟨c, st, h1, h2, h3⟩
  rcases whole_at hw hl h2 with ⟨_, h4⟩ | ⟨rfl, _⟩
  ·rcases h4 with ⟨h4, _⟩ | ⟨h4, _⟩ | ⟨h4, _⟩ <;> rw [h3] at h4 <;> cases h4
  ·exact ((hm _).1 h1).2
 ·intro h
  have hlen := (code_len x hw hl 0).1
  have hs : (whole x)[sz x]? = some matchS := by
   unfold whole
   rw [List.getElem?_append_right (by omega), hlen]; simp
  exact ⟨sz x, matchS, (hm _).2 ⟨⟨matchS, hs, by decide, by decide⟩, h⟩, hs, rfl⟩
theorem Lg.fwd {H : List Nat → Nat → Prop} (x : Rx) : ∀ b i j, Lg H x b i j → i ≤ j := by
 induction x with
 | set s => rintro b i j ⟨_, rfl⟩; omega
 | nil => rintro b i j ⟨_, rfl⟩; exact Nat.le_refl _
 | node op l ih =>
  intro b i j h
  have hr : ∀ i j, Rt (Lg H l true) i j → i ≤ j := fun i j h => by
   induction h with
   | refl => exact Nat.le_refl _
   | step h _ ih2 => have := ih _ _ _ h; omega
  simp only [Lg] at h
  split at h
  ·exact ih _ _ _ h
  ·split at h
   ·exact ih _ _ _ h
   ·split at h
    ·exact hr _ _ h
    ·split at h
     ·obtain ⟨k, h1, h2⟩ := h
      have := ih _ _ _ h1
      have := hr _ _ h2
      omega
     ·rcases h with rfl | h
      ·exact Nat.le_refl _
      ·exact ih _ _ _ h
 | cons x l ihx ihl =>
  intro b i j h
  simp only [Lg] at h
  split at h
  ·obtain ⟨k, h1, h2⟩ := h
   have := ihx _ _ _ h1
   have := ihl _ _ _ h2
   omega
  ·rcases h with h | h
   ·exact ihx _ _ _ h
   ·exact ihl _ _ _ h
inductive RtN (R : Nat → Nat → Prop) : Nat → Nat → Nat → Prop where
 | zero (i : Nat) : RtN R 0 i i
 | snoc {n i k j : Nat} : RtN R n i k → R k j → RtN R (n + 1) i j
theorem RtN.cons {R : Nat → Nat → Prop} {n i k j : Nat} (h : R i k) (h2 : RtN R n k j) : RtN R (n + 1) i j := by
 induction h2 with
 | zero => exact .snoc (.zero _) h
 | snoc _ h3 ih => exact .snoc (ih h) h3
theorem RtN.rt {R : Nat → Nat → Prop} {n i j : Nat} (h : RtN R n i j) : Rt R i j := by
 induction h with
 | zero => exact .refl _
 | snoc _ h ih => exact ih.snoc h
theorem rt_rounds {R : Nat → Nat → Prop} (hR : ∀ i j, R i j → i ≤ j) {i j : Nat} (h : Rt R i j) : i ≤ j ∧ ∃ n, n ≤ j - i ∧ RtN R n i j := by
 induction h with
 | refl => exact ⟨Nat.le_refl _, 0, Nat.zero_le _, .zero _⟩
 | @step i k j h _ ih =>
  obtain ⟨h1, n, h2, h3⟩ := ih
  have := hR _ _ h
  by_cases e : k = i
  ·subst e; exact ⟨h1, n, h2, h3⟩
  ·exact ⟨by omega, n + 1, by omega, .cons h h3⟩
end Go.Rex
set_option linter.unusedVariables false
set_option linter.unusedSimpArgs false
set_option maxHeartbeats 400000
namespace Go.Rex
open Go.X
def b8 (s : ByteArray) (i : Nat) : Nat := (bt s i).toNat
theorem b8_lt (s : ByteArray) (i : Nat) : b8 s i < 256 := UInt8.toNat_lt _
def setBit (l : List Nat) (c : Nat) : List Nat := l.modify (c / 64) (· ||| 1 <<< (c % 64))
def addG (l : List Nat) (a b : Nat) : List Nat := (List.range' a (b + 1 - a)).foldl setBit l
def invS (l : List Nat) : List Nat := l.map (18446744073709551615 - ·)
theorem setBit_len (l : List Nat) (c : Nat) : (setBit l c).length = l.length := by simp [setBit]
theorem setBit_lt {l : List Nat} (h : ∀ x ∈ l, x < 18446744073709551616) (c : Nat) : ∀ x ∈ setBit l c, x < 18446744073709551616 := by
 intro x hx
 unfold setBit at hx
 obtain ⟨i, hi⟩ := List.getElem?_of_mem hx
 simp only [List.getElem?_modify] at hi
 cases hl : l[i]? with
 | none => simp [hl] at hi
 | some y =>
  have hy := h y (List.mem_of_getElem? hl)
  simp only [hl, Option.map_some] at hi
  split at hi
  ·simp at hi
   subst hi
   have h1 : (1 <<< (c % 64)) < 2 ^ 64 := by rw [Nat.shiftLeft_eq, Nat.one_mul]; exact Nat.pow_lt_pow_right (by omega) (Nat.mod_lt _ (by omega))
   exact Nat.or_lt_two_pow (n := 64) hy h1
  ·simp at hi; subst hi; exact hy
theorem invS_lt (l : List Nat) : ∀ x ∈ invS l, x < 18446744073709551616 := by
 intro x hx
 obtain ⟨y, _, rfl⟩ := List.mem_map.1 hx
 omega
theorem addG_len (a b : Nat) : ∀ l : List Nat, (addG l a b).length = l.length := by
 unfold addG
 generalize List.range' a (b + 1 - a) = r
 induction r with
 | nil => intro l; rfl
 | cons x r ih => intro l; simp only [List.foldl_cons, ih, setBit_len]
theorem addG_lt (a b : Nat) : ∀ {l : List Nat}, (∀ x ∈ l, x < 18446744073709551616) → ∀ x ∈ addG l a b, x < 18446744073709551616 := by
 unfold addG
 generalize List.range' a (b + 1 - a) = r
 induction r with
 | nil => intro l h; exact h
 | cons x r ih => intro l h; exact ih (setBit_lt h x)
def W4 (l : List Nat) : Prop := l.length = 4 ∧ ∀ x ∈ l, x < 18446744073709551616
theorem W4.zero : W4 zero4 := ⟨rfl, by simp [zero4]⟩
theorem W4.bit {l : List Nat} (h : W4 l) (c : Nat) : W4 (setBit l c) := ⟨(setBit_len l c).trans h.1, setBit_lt h.2 c⟩
theorem W4.add {l : List Nat} (h : W4 l) (a b : Nat) : W4 (addG l a b) := ⟨(addG_len a b l).trans h.1, addG_lt a b h.2⟩
theorem W4.inv {l : List Nat} (h : W4 l) : W4 (invS l) := ⟨by simpa [invS] using h.1, invS_lt l⟩
def quotedS (c : Nat) : Bool := decide (c = 124 ∨ c = 42 ∨ c = 43 ∨ c = 63 ∨ c = 40 ∨ c = 41 ∨ c = 91 ∨ c = 93 ∨ c = 46 ∨ c = 92 ∨ c = 94 ∨ c = 45)
def signS (s : ByteArray) (i : Nat) : Option (Nat × Nat) := if i < s.size ∧ quotedS (b8 s i) = true then some (b8 s i, i + 1) else none
def memS (s : ByteArray) (i : Nat) : Option (Nat × Nat) :=
 if i < s.size then if b8 s i = 92 then signS s (i + 1) else if b8 s i = 93 ∨ b8 s i = 91 ∨ b8 s i = 94 ∨ b8 s i = 45 then none else some (b8 s i, i + 1) else none
def toS (s : ByteArray) (a i : Nat) : Option (Nat × Nat) := if i < s.size ∧ b8 s i = 45 then memS s (i + 1) else some (a, i)
def clsL (s : ByteArray) : Nat → Nat → List Nat → Option (List Nat × Nat)
 | 0, _, _ => none
 | n + 1, i, set => if i < s.size then if b8 s i = 93 then some (set, i + 1) else
   match memS s i with
   | none => none
   | some (a, i1) => match toS s a i1 with
    | none => none
    | some (b, i2) => if b < a then none else clsL s n i2 (addG set a b)
  else none
def notS (s : ByteArray) (i : Nat) : Bool := decide (i < s.size ∧ b8 s i = 94)
def clsB (s : ByteArray) (no : Bool) (i : Nat) : Option (List Nat × Nat) :=
 if i < s.size ∧ b8 s i = 93 then none else match clsL s (s.size + 1) i zero4 with
  | none => none
  | some (set, j) => some (if no then invS set else set, j)
def clsS (s : ByteArray) (i : Nat) : Option (List Nat × Nat) := clsB s (notS s i) (if notS s i then i + 1 else i)
theorem signS_adv {s : ByteArray} {i b j : Nat} (h : signS s i = some (b, j)) : i < j ∧ j ≤ s.size ∧ b < 256 := by
 unfold signS at h
 split at h
 ·simp at h; have := b8_lt s i; omega
 ·cases h
theorem memS_adv {s : ByteArray} {i b j : Nat} (h : memS s i = some (b, j)) : i < j ∧ j ≤ s.size ∧ b < 256 := by
 unfold memS at h
 split at h
 ·split at h
  ·have := signS_adv h; omega
  ·split at h
   ·cases h
   ·simp at h; have := b8_lt s i; omega
 ·cases h
theorem toS_adv {s : ByteArray} {a i b j : Nat} (h : toS s a i = some (b, j)) (hi : i ≤ s.size) (ha : a < 256) : i ≤ j ∧ j ≤ s.size ∧ b < 256 := by
 unfold toS at h
 split at h
 ·have := memS_adv h; omega
 ·simp at h; omega
theorem clsL_adv {s : ByteArray} : ∀ {n i : Nat} {set t : List Nat} {j : Nat}, clsL s n i set = some (t, j) → W4 set → i < j ∧ j ≤ s.size ∧ W4 t
 | 0, _, _, _, _, h, _ => by simp [clsL] at h
 | n + 1, i, set, t, j, h, hw => by
  unfold clsL at h
  split at h
  ·split at h
   ·simp at h; obtain ⟨rfl, rfl⟩ := h; exact ⟨by omega, by omega, hw⟩
   ·cases hm : memS s i with
    | none => rw [hm] at h; cases h
    | some p =>
     obtain ⟨a, i1⟩ := p
     rw [hm] at h
     simp only at h
     have h1 := memS_adv hm
     cases ht : toS s a i1 with
     | none => rw [ht] at h; cases h
     | some q =>
      obtain ⟨b, i2⟩ := q
      rw [ht] at h
      simp only at h
      have h2 := toS_adv ht h1.2.1 h1.2.2
      split at h
      ·cases h
      ·have h3 := clsL_adv h (hw.add a b)
       exact ⟨by omega, h3.2⟩
  ·cases h
theorem clsB_adv {s : ByteArray} {no : Bool} {i : Nat} {t : List Nat} {j : Nat} (h : clsB s no i = some (t, j)) : i < j ∧ j ≤ s.size ∧ W4 t := by
 unfold clsB at h
 split at h
 ·cases h
 ·cases hc : clsL s (s.size + 1) i zero4 with
  | none => rw [hc] at h; cases h
  | some p =>
   obtain ⟨u, k⟩ := p
   rw [hc] at h
   simp only [Option.some.injEq, Prod.mk.injEq] at h
   obtain ⟨rfl, rfl⟩ := h
   have h1 := clsL_adv hc W4.zero
   refine ⟨h1.1, h1.2.1, ?_⟩
   split
   ·exact h1.2.2.inv
   ·exact h1.2.2
theorem clsS_adv {s : ByteArray} {i : Nat} {t : List Nat} {j : Nat} (h : clsS s i = some (t, j)) : i < j ∧ j ≤ s.size ∧ W4 t := by
 have h1 := clsB_adv h
 refine ⟨?_, h1.2⟩
 have := h1.1
 split at this <;> omega
def lstS : List Rx → Rx
 | [] => .nil
 | x :: l => .cons x (lstS l)
def mkN (op : Nat) : List Rx → Rx
 | [x] => x
 | l => .node op (lstS l)
def onlyS (op : Nat) (x : Rx) : Rx := .node op (.cons x .nil)
def grpS (s : ByteArray) : Option (Rx × Nat) → Option (Rx × Nat)
 | some (x, j) => if j < s.size ∧ b8 s j = 41 then some (x, j + 1) else none
 | none => none
def atomS (s : ByteArray) (g : Nat → Option (Rx × Nat)) (i : Nat) : Option (Rx × Nat) :=
 if b8 s i = 40 then grpS s (g (i + 1)) else if b8 s i = 91 then (clsS s (i + 1)).map (fun p => (.set p.1, p.2))
 else if b8 s i = 46 then some (.set (invS zero4), i + 1) else if b8 s i = 92 then (signS s (i + 1)).map (fun p => (.set (setBit zero4 p.1), p.2))
 else if b8 s i = 42 ∨ b8 s i = 43 ∨ b8 s i = 63 ∨ b8 s i = 93 then none else some (.set (setBit zero4 (b8 s i)), i + 1)
def oftS (s : ByteArray) (x : Rx) (j : Nat) : Rx × Nat :=
 if j < s.size then if b8 s j = 42 then (onlyS 4 x, j + 1) else if b8 s j = 43 then (onlyS 5 x, j + 1) else if b8 s j = 63 then (onlyS 6 x, j + 1) else (x, j) else (x, j)
def factorS (s : ByteArray) (g : Nat → Option (Rx × Nat)) (i : Nat) : Option (Rx × Nat) := (atomS s g i).map fun p => oftS s p.1 p.2
def goesS (s : ByteArray) (i : Nat) : Bool := decide (i < s.size ∧ b8 s i ≠ 124 ∧ b8 s i ≠ 41)
def wayL (s : ByteArray) (g : Nat → Option (Rx × Nat)) : Nat → Nat → List Rx → Option (List Rx × Nat)
 | 0, _, _ => none
 | n + 1, i, acc => if goesS s i then match factorS s g i with
   | none => none
   | some (x, j) => wayL s g n j (acc ++ [x])
  else some (acc, i)
def wayS (s : ByteArray) (g : Nat → Option (Rx × Nat)) (i : Nat) : Option (Rx × Nat) := (wayL s g (s.size + 1) i []).map fun p => (mkN 2 p.1, p.2)
def barS (s : ByteArray) (i : Nat) : Bool := decide (i < s.size ∧ b8 s i = 124)
def waysL (s : ByteArray) (g : Nat → Option (Rx × Nat)) : Nat → Nat → List Rx → Option (List Rx × Nat)
 | 0, _, _ => none
 | n + 1, i, acc => if barS s i then match wayS s g (i + 1) with
   | none => none
   | some (x, j) => waysL s g n j (acc ++ [x])
  else some (acc, i)
def waysS (s : ByteArray) (g : Nat → Option (Rx × Nat)) (i : Nat) : Option (Rx × Nat) := match wayS s g i with
 | none => none
 | some (x, j) => (waysL s g (s.size + 1) j [x]).map fun p => (mkN 3 p.1, p.2)
def par (s : ByteArray) : Nat → Nat → Option (Rx × Nat)
 | 0, i => waysS s (fun _ => none) i
 | r + 1, i => waysS s (par s r) i
def parseS (s : ByteArray) : Option Rx := if 40 < s.size then none else match par s 8 0 with
 | some (x, j) => if j < s.size then none else some x
 | none => none
end Go.Rex
set_option linter.unusedVariables false
set_option linter.unusedSimpArgs false
set_option maxHeartbeats 400000
namespace Go.Rex
open Go.X
def Tr : Bool → Rx → Prop
 | false, .set s => W4 s
 | false, .node op l => (op = 2 ∨ op = 3 ∧ cnt l ≠ 0 ∨ (op = 4 ∨ op = 5 ∨ op = 6) ∧ cnt l = 1) ∧ Tr true l
 | true, .nil => True
 | true, .cons x l => Tr false x ∧ Tr true l
 | true, .set _ => False
 | true, .node _ _ => False
 | false, .nil => False
 | false, .cons _ _ => False
theorem tr_wf : ∀ (x : Rx) (b : Bool), Tr b x → Wf x ∧ Wl x ∧ (b = true → Ls x)
 | .set s, true, h => h.elim
 | .set s, false, h => ⟨trivial, trivial, fun h => by cases h⟩
 | .node op l, true, h => h.elim
 | .node op l, false, h => by
  obtain ⟨h1, h2⟩ := h
  obtain ⟨a, b, c⟩ := tr_wf l true h2
  exact ⟨⟨a, fun e => by subst e; simp at h1; exact h1⟩, ⟨c rfl, b⟩, fun h => by cases h⟩
 | .nil, true, _ => ⟨trivial, trivial, fun _ => trivial⟩
 | .nil, false, h => h.elim
 | .cons x l, false, h => h.elim
 | .cons x l, true, h => by
  obtain ⟨h1, h2⟩ := h
  obtain ⟨a, b, c⟩ := tr_wf l true h2
  obtain ⟨a', b', _⟩ := tr_wf x false h1
  exact ⟨⟨a', a⟩, ⟨b', b, c rfl⟩, fun _ => c rfl⟩
theorem cnt_lst : ∀ l : List Rx, cnt (lstS l) = l.length
 | [] => rfl
 | x :: l => by simp [lstS, cnt, cnt_lst l]
theorem tr_lst : ∀ l : List Rx, (∀ x ∈ l, Tr false x) → Tr true (lstS l)
 | [], _ => trivial
 | x :: l, h => ⟨h x (by simp), tr_lst l fun y hy => h y (by simp [hy])⟩
theorem tr_mk {op : Nat} {l : List Rx} (h : ∀ x ∈ l, Tr false x) (ho : op = 2 ∨ op = 3 ∧ l ≠ []) : Tr false (mkN op l) := by
 match l, h, ho with
 | [], h, ho => exact ⟨by rcases ho with rfl | ⟨_, h⟩; exact .inl rfl; exact absurd rfl h, trivial⟩
 | [x], h, _ => exact h x (by simp)
 | x :: y :: l, h, ho => exact ⟨by rcases ho with rfl | ⟨rfl, _⟩; exact .inl rfl; exact .inr (.inl ⟨rfl, by simp [lstS, cnt]⟩), tr_lst _ h⟩
def GoodG (g : Nat → Option (Rx × Nat)) : Prop := ∀ i x j, g i = some (x, j) → Tr false x
theorem tr_only {op : Nat} {x : Rx} (h : Tr false x) (ho : op = 4 ∨ op = 5 ∨ op = 6) : Tr false (onlyS op x) := ⟨.inr (.inr ⟨ho, rfl⟩), h, trivial⟩
theorem factor_tr {s : ByteArray} {g : Nat → Option (Rx × Nat)} (hg : GoodG g) : GoodG (factorS s g) := by
 have ha : GoodG (atomS s g) := by
  intro i x j h
  unfold atomS at h
  split at h
  ·cases hgi : g (i + 1) with
   | none => rw [hgi] at h; cases h
   | some q =>
    obtain ⟨y, k⟩ := q
    rw [hgi] at h
    have h' : (if k < s.size ∧ b8 s k = 41 then some (y, k + 1) else none) = some (x, j) := h
    split at h'
    ·simp at h'; obtain ⟨rfl, _⟩ := h'; exact hg _ _ _ hgi
    ·cases h'
  ·split at h
   ·cases hc : clsS s (i + 1) with
    | none => rw [hc] at h; cases h
    | some q => rw [hc] at h; simp at h; obtain ⟨rfl, _⟩ := h; exact (clsS_adv (t := q.1) (j := q.2) hc).2.2
   ·split at h
    ·simp at h; obtain ⟨rfl, _⟩ := h; exact W4.zero.inv
    ·split at h
     ·cases hc : signS s (i + 1) with
      | none => rw [hc] at h; cases h
      | some q => rw [hc] at h; simp at h; obtain ⟨rfl, _⟩ := h; exact W4.zero.bit _
     ·split at h
      ·cases h
      ·simp at h; obtain ⟨rfl, _⟩ := h; exact W4.zero.bit _
 intro i x j h
 unfold factorS at h
 cases hat : atomS s g i with
 | none => rw [hat] at h; cases h
 | some q =>
  obtain ⟨y, k⟩ := q
  have h1 := ha _ _ _ hat
  rw [hat] at h
  simp only [Option.map_some, Option.some.injEq] at h
  unfold oftS at h
  split at h
  ·split at h
   ·simp at h; obtain ⟨rfl, _⟩ := h; exact tr_only h1 (.inl rfl)
   ·split at h
    ·simp at h; obtain ⟨rfl, _⟩ := h; exact tr_only h1 (.inr (.inl rfl))
    ·split at h
     ·simp at h; obtain ⟨rfl, _⟩ := h; exact tr_only h1 (.inr (.inr rfl))
     ·simp at h; obtain ⟨rfl, _⟩ := h; exact h1
  ·simp at h; obtain ⟨rfl, _⟩ := h; exact h1
theorem wayL_tr {s : ByteArray} {g : Nat → Option (Rx × Nat)} (hg : GoodG g) : ∀ {n i : Nat} {acc xs : List Rx} {j : Nat}, (∀ x ∈ acc, Tr false x) → wayL s g n i acc = some (xs, j) → ∀ x ∈ xs, Tr false x
 | 0, _, _, _, _, _, h => by simp [wayL] at h
 | n + 1, i, acc, xs, j, ha, h => by
  unfold wayL at h
  split at h
  ·cases hf : factorS s g i with
   | none => rw [hf] at h; cases h
   | some q =>
    obtain ⟨x, k⟩ := q
    rw [hf] at h
    exact wayL_tr hg (n := n) (i := k) (fun y hy => by
     rcases List.mem_append.1 hy with h1 | h1
     ·exact ha y h1
     ·simp at h1; subst h1; exact factor_tr hg _ _ _ hf) h
  ·simp at h; obtain ⟨rfl, _⟩ := h; exact ha
theorem way_tr {s : ByteArray} {g : Nat → Option (Rx × Nat)} (hg : GoodG g) : GoodG (wayS s g) := by
 intro i x j h
 unfold wayS at h
 cases hw : wayL s g (s.size + 1) i [] with
 | none => rw [hw] at h; cases h
 | some q =>
  rw [hw] at h
  simp at h
  obtain ⟨rfl, _⟩ := h
  exact tr_mk (wayL_tr hg (acc := []) (by simp) (xs := q.1) (j := q.2) hw) (.inl rfl)
theorem waysL_tr {s : ByteArray} {g : Nat → Option (Rx × Nat)} (hg : GoodG g) : ∀ {n i : Nat} {acc xs : List Rx} {j : Nat}, acc ≠ [] → (∀ x ∈ acc, Tr false x) → waysL s g n i acc = some (xs, j) → xs ≠ [] ∧ ∀ x ∈ xs, Tr false x
 | 0, _, _, _, _, _, _, h => by simp [waysL] at h
 | n + 1, i, acc, xs, j, hne, ha, h => by
  unfold waysL at h
  split at h
  ·cases hf : wayS s g (i + 1) with
   | none => rw [hf] at h; cases h
   | some q =>
    obtain ⟨x, k⟩ := q
    rw [hf] at h
    exact waysL_tr hg (n := n) (i := k) (by simp) (fun y hy => by
     rcases List.mem_append.1 hy with h1 | h1
     ·exact ha y h1
     ·simp at h1; subst h1; exact way_tr hg _ _ _ hf) h
  ·simp at h; obtain ⟨rfl, _⟩ := h; exact ⟨hne, ha⟩
theorem ways_tr {s : ByteArray} {g : Nat → Option (Rx × Nat)} (hg : GoodG g) : GoodG (waysS s g) := by
 intro i x j h
 unfold waysS at h
 cases hw : wayS s g i with
 | none => rw [hw] at h; cases h
 | some q =>
  obtain ⟨y, k⟩ := q
  rw [hw] at h
  have h1 := way_tr hg _ _ _ hw
  simp only at h
  cases hl : waysL s g (s.size + 1) k [y] with
  | none => rw [hl] at h; cases h
  | some q2 =>
   rw [hl] at h
   simp at h
   obtain ⟨rfl, _⟩ := h
   have h2 := waysL_tr hg (acc := [y]) (by simp) (by simpa using h1) (xs := q2.1) (j := q2.2) hl
   exact tr_mk h2.2 (.inr ⟨rfl, h2.1⟩)
theorem par_tr (s : ByteArray) : ∀ r, GoodG (par s r)
 | 0 => ways_tr fun _ _ _ h => by cases h
 | r + 1 => ways_tr (par_tr s r)
theorem parse_tr {s : ByteArray} {x : Rx} (h : parseS s = some x) : Tr false x := by
 unfold parseS at h
 split at h
 ·cases h
 ·cases hp : par s 8 0 with
  | none => rw [hp] at h; cases h
  | some q =>
   obtain ⟨y, j⟩ := q
   rw [hp] at h
   simp only at h
   split at h
   ·cases h
   ·cases h; exact par_tr s 8 _ _ _ hp
def kidsR : Rx → List Rx
 | .cons x l => x :: kidsR l
 | _ => []
theorem kids_len : ∀ l : Rx, (kidsR l).length = cnt l
 | .cons x l => by simp [kidsR, cnt, kids_len l]
 | .set _ => rfl
 | .node _ _ => rfl
 | .nil => rfl
theorem kids_tr : ∀ {l : Rx}, Tr true l → ∀ x ∈ kidsR l, Tr false x
 | .cons x l, h, y, hy => by
  simp only [kidsR, List.mem_cons] at hy
  rcases hy with rfl | hy
  ·exact h.1
  ·exact kids_tr h.2 y hy
 | .nil, _, y, hy => by simp [kidsR] at hy
 | .set _, h, _, _ => h.elim
 | .node _ _, h, _, _ => h.elim
theorem lst_kids : ∀ {l : Rx}, Tr true l → lstS (kidsR l) = l
 | .cons x l, h => by simp [kidsR, lstS, lst_kids h.2]
 | .nil, _ => rfl
 | .set _, h => h.elim
 | .node _ _, h => h.elim
def hiR : Rx → Nat
 | .set _ => 1
 | .node _ l => hiR l + 1
 | .nil => 0
 | .cons x l => max (hiR x) (hiR l)
theorem hiR_kid : ∀ {l : Rx} {x : Rx}, x ∈ kidsR l → hiR x ≤ hiR l
 | .cons y l, x, h => by
  simp only [kidsR, List.mem_cons] at h
  simp only [hiR]
  rcases h with rfl | h
  ·omega
  ·have := hiR_kid h; omega
 | .nil, _, h => by simp [kidsR] at h
 | .set _, _, h => by simp [kidsR] at h
 | .node _ _, _, h => by simp [kidsR] at h
theorem sz_cons : ∀ l : Rx, Tr true l → sz l = ((kidsR l).map sz).sum
 | .cons x l, h => by simp [kidsR, sz, sz_cons l h.2]
 | .nil, _ => rfl
 | .set _, h => h.elim
 | .node _ _, h => h.elim
section
variable (H : List Nat → Nat → Prop)
def LgS : List Rx → Nat → Nat → Prop
 | [], i, j => i = j
 | x :: l, i, j => ∃ k, Lg H x true i k ∧ LgS l k j
theorem lgS_iff : ∀ {l : Rx}, Tr true l → ∀ i j, (Lg H l true i j ↔ LgS H (kidsR l) i j)
 | .cons x l, h, i, j => by
  simp only [Lg, if_true, kidsR, LgS]
  constructor
  ·rintro ⟨k, h1, h2⟩; exact ⟨k, h1, (lgS_iff h.2 k j).1 h2⟩
  ·rintro ⟨k, h1, h2⟩; exact ⟨k, h1, (lgS_iff h.2 k j).2 h2⟩
 | .nil, _, i, j => by simp [Lg, kidsR, LgS]
 | .set _, h, _, _ => h.elim
 | .node _ _, h, _, _ => h.elim
theorem lgS_snoc : ∀ (l : List Rx) (x : Rx) (i j : Nat), LgS H (l ++ [x]) i j ↔ ∃ k, LgS H l i k ∧ Lg H x true k j
 | [], x, i, j => by
  simp only [List.nil_append, LgS]
  constructor
  ·rintro ⟨k, h1, rfl⟩; exact ⟨i, rfl, h1⟩
  ·rintro ⟨k, rfl, h⟩; exact ⟨j, h, rfl⟩
 | y :: l, x, i, j => by
  simp only [List.cons_append, LgS]
  constructor
  ·rintro ⟨k, h1, h2⟩
   obtain ⟨m, h3, h4⟩ := (lgS_snoc l x k j).1 h2
   exact ⟨m, ⟨k, h1, h3⟩, h4⟩
  ·rintro ⟨m, ⟨k, h1, h3⟩, h4⟩
   exact ⟨k, h1, (lgS_snoc l x k j).2 ⟨m, h3, h4⟩⟩
theorem lgA_iff : ∀ {l : Rx}, Tr true l → ∀ i j, (Lg H l false i j ↔ ∃ x ∈ kidsR l, Lg H x true i j)
 | .cons x l, h, i, j => by
  simp only [Lg, Bool.false_eq_true, if_false, kidsR, List.mem_cons]
  rw [lgA_iff h.2 i j]
  constructor
  ·rintro (h1 | ⟨y, h1, h2⟩)
   ·exact ⟨x, .inl rfl, h1⟩
   ·exact ⟨y, .inr h1, h2⟩
  ·rintro ⟨y, rfl | h1, h2⟩
   ·exact .inl h2
   ·exact .inr ⟨y, h1, h2⟩
 | .nil, _, i, j => by simp [Lg, kidsR]
 | .set _, h, _, _ => h.elim
 | .node _ _, h, _, _ => h.elim
theorem lg_only {x : Rx} (i j : Nat) : Lg H (.cons x .nil) true i j ↔ Lg H x true i j := by
 simp only [Lg, if_true]
 constructor
 ·rintro ⟨k, h1, _, rfl⟩; exact h1
 ·intro h; exact ⟨j, h, trivial, rfl⟩
end
def Endz (R : Nat → Nat → Prop) (n : Nat) (f o : List Bool) : Prop := o.length = n + 1 ∧ ∀ j, o[j]? = some true ↔ j ≤ n ∧ ∃ i, f[i]? = some true ∧ R i j
def joinS (a b : List Bool) : List Bool := List.zipWith (· || ·) a b
theorem joinS_at {a b : List Bool} (hl : a.length = b.length) (j : Nat) : (joinS a b)[j]? = some true ↔ a[j]? = some true ∨ b[j]? = some true := by
 unfold joinS
 rw [List.getElem?_zipWith]
 by_cases hj : j < a.length
 ·rw [List.getElem?_eq_getElem hj, List.getElem?_eq_getElem (by omega)]
  simp
 ·rw [List.getElem?_eq_none (by omega), List.getElem?_eq_none (by omega)]
  simp
theorem joinS_len {a b : List Bool} (hl : a.length = b.length) : (joinS a b).length = a.length := by simp [joinS, hl]
theorem Endz.id {n : Nat} {f : List Bool} (h : f.length = n + 1) : Endz (· = ·) n f f := by
 refine ⟨h, fun j => ?_⟩
 constructor
 ·intro hj; have := (List.getElem?_eq_some_iff.1 hj).1; exact ⟨by omega, j, hj, rfl⟩
 ·rintro ⟨_, i, h1, rfl⟩; exact h1
theorem Endz.seq {R S : Nat → Nat → Prop} {n : Nat} {f g o : List Bool} (h1 : Endz R n f g) (h2 : Endz S n g o) (hS : ∀ i j, S i j → i ≤ j) : Endz (fun i j => ∃ k, R i k ∧ S k j) n f o := by
 refine ⟨h2.1, fun j => ?_⟩
 rw [h2.2]
 constructor
 ·rintro ⟨a, k, hk, b⟩
  obtain ⟨_, i, hi, c⟩ := (h1.2 k).1 hk
  exact ⟨a, i, hi, k, c, b⟩
 ·rintro ⟨a, i, hi, k, c, b⟩
  exact ⟨a, k, (h1.2 k).2 ⟨by have := hS _ _ b; omega, i, hi, c⟩, b⟩
theorem Endz.or {R S : Nat → Nat → Prop} {n : Nat} {f g o : List Bool} (h1 : Endz R n f g) (h2 : Endz S n f o) : Endz (fun i j => R i j ∨ S i j) n f (joinS g o) := by
 have hl : g.length = o.length := by rw [h1.1, h2.1]
 refine ⟨by rw [joinS_len hl, h1.1], fun j => ?_⟩
 rw [joinS_at hl, h1.2, h2.2]
 constructor
 ·rintro (⟨a, i, b, c⟩ | ⟨a, i, b, c⟩)
  ·exact ⟨a, i, b, .inl c⟩
  ·exact ⟨a, i, b, .inr c⟩
 ·rintro ⟨a, i, b, c | c⟩
  ·exact .inl ⟨a, i, b, c⟩
  ·exact .inr ⟨a, i, b, c⟩
theorem Endz.iff {R S : Nat → Nat → Prop} {n : Nat} {f o : List Bool} (h : Endz R n f o) (he : ∀ i j, R i j ↔ S i j) : Endz S n f o :=
 ⟨h.1, fun j => by
  rw [h.2]
  constructor
  ·rintro ⟨a, i, b, c⟩; exact ⟨a, i, b, (he i j).1 c⟩
  ·rintro ⟨a, i, b, c⟩; exact ⟨a, i, b, (he i j).2 c⟩⟩
def RtLe (R : Nat → Nat → Prop) (m i j : Nat) : Prop := ∃ k, k ≤ m ∧ RtN R k i j
theorem Endz.round {R : Nat → Nat → Prop} (hR : ∀ i j, R i j → i ≤ j) {n m : Nat} {f g o : List Bool} (h1 : Endz (RtLe R m) n f g) (h2 : Endz R n g o) : Endz (RtLe R (m + 1)) n f (joinS g o) := by
 have hl : g.length = o.length := by rw [h1.1, h2.1]
 refine ⟨by rw [joinS_len hl, h1.1], fun j => ?_⟩
 rw [joinS_at hl, h1.2, h2.2]
 constructor
 ·rintro (⟨a, i, b, k, hk, c⟩ | ⟨a, q, hq, r⟩)
  ·exact ⟨a, i, b, k, by omega, c⟩
  ·obtain ⟨_, i, b, k, hk, c⟩ := (h1.2 q).1 hq
   exact ⟨a, i, b, k + 1, by omega, .snoc c r⟩
 ·rintro ⟨a, i, b, k, hk, c⟩
  cases c with
  | zero => exact .inl ⟨a, j, b, 0, by omega, .zero _⟩
  | @snoc k _ q _ c r =>
   exact .inr ⟨a, q, (h1.2 q).2 ⟨by have := hR _ _ r; omega, i, b, k, by omega, c⟩, r⟩
theorem Endz.still {R : Nat → Nat → Prop} (hR : ∀ i j, R i j → i ≤ j) {n m : Nat} {f g o : List Bool} (h1 : Endz (RtLe R m) n f g) (h2 : Endz R n g o) (he : joinS g o = g) : Endz (Rt R) n f g := by
 have hl : g.length = o.length := by rw [h1.1, h2.1]
 refine ⟨h1.1, fun j => ?_⟩
 constructor
 ·intro h
  obtain ⟨a, i, b, k, _, c⟩ := (h1.2 j).1 h
  exact ⟨a, i, b, c.rt⟩
 ·rintro ⟨a, i, b, c⟩
  obtain ⟨_, k, _, c⟩ := rt_rounds hR c
  have key : ∀ k i j, RtN R k i j → j ≤ n → f[i]? = some true → g[j]? = some true := by
   intro k i j c
   induction c with
   | zero i => intro a b; exact (h1.2 i).2 ⟨a, i, b, 0, by omega, .zero _⟩
   | @snoc k i q j c r ih =>
    intro a b
    have hq := ih (by have := hR _ _ r; omega) b
    rw [← he, joinS_at hl]
    exact .inr ((h2.2 j).2 ⟨a, q, hq, r⟩)
  exact key k i j c a b
theorem Endz.enough {R : Nat → Nat → Prop} (hR : ∀ i j, R i j → i ≤ j) {n m : Nat} {f g : List Bool} (h1 : Endz (RtLe R m) n f g) (hm : n ≤ m) : Endz (Rt R) n f g := by
 refine ⟨h1.1, fun j => ?_⟩
 rw [h1.2]
 constructor
 ·rintro ⟨a, i, b, k, _, c⟩; exact ⟨a, i, b, c.rt⟩
 ·rintro ⟨a, i, b, c⟩
  obtain ⟨_, k, hk, c⟩ := rt_rounds hR c
  exact ⟨a, i, b, k, by omega, c⟩
end Go.Rex
set_option linter.unusedVariables false
set_option linter.unusedSimpArgs false
set_option maxHeartbeats 400000
namespace Go.Rex
open Go.X
def SmallG (g : Nat → Option (Rx × Nat)) : Prop := ∀ i x j, g i = some (x, j) → sz x + 2 * i ≤ 2 * j
theorem sz_snoc : ∀ (l : List Rx) (x : Rx), sz (lstS (l ++ [x])) = sz (lstS l) + sz x
 | [], x => by simp [lstS, sz]
 | y :: l, x => by simp [lstS, sz, sz_snoc l x]; omega
theorem sz_mk {op : Nat} {l : List Rx} (ho : op = 2 ∨ op = 3) : sz (mkN op l) ≤ sz (lstS l) + (if op = 3 then 2 * (l.length - 1) else 0) := by
 match l with
 | [] => rcases ho with rfl | rfl <;> simp [mkN, sz, lstS, cnt]
 | [x] => rcases ho with rfl | rfl <;> simp [mkN, sz, lstS]
 | x :: y :: l => rcases ho with rfl | rfl <;> simp [mkN, sz, lstS, cnt, cnt_lst]
theorem factor_sz {s : ByteArray} {g : Nat → Option (Rx × Nat)} (hg : SmallG g) : SmallG (factorS s g) := by
 have ha : SmallG (atomS s g) := by
  intro i x j h
  unfold atomS at h
  split at h
  ·cases hgi : g (i + 1) with
   | none => rw [hgi] at h; cases h
   | some q =>
    obtain ⟨y, k⟩ := q
    rw [hgi] at h
    have h' : (if k < s.size ∧ b8 s k = 41 then some (y, k + 1) else none) = some (x, j) := h
    split at h'
    ·simp at h'; obtain ⟨rfl, rfl⟩ := h'; have := hg _ _ _ hgi; omega
    ·cases h'
  ·split at h
   ·cases hc : clsS s (i + 1) with
    | none => rw [hc] at h; cases h
    | some q => rw [hc] at h; simp at h; obtain ⟨rfl, rfl⟩ := h; have := (clsS_adv (t := q.1) (j := q.2) hc).1; simp only [sz]; omega
   ·split at h
    ·simp at h; obtain ⟨rfl, rfl⟩ := h; simp only [sz]; omega
    ·split at h
     ·cases hc : signS s (i + 1) with
      | none => rw [hc] at h; cases h
      | some q => rw [hc] at h; simp at h; obtain ⟨rfl, rfl⟩ := h; have := (signS_adv (b := q.1) (j := q.2) hc).1; simp only [sz]; omega
     ·split at h
      ·cases h
      ·simp at h; obtain ⟨rfl, rfl⟩ := h; simp only [sz]; omega
 intro i x j h
 unfold factorS at h
 cases hat : atomS s g i with
 | none => rw [hat] at h; cases h
 | some q =>
  obtain ⟨y, k⟩ := q
  have h1 := ha _ _ _ hat
  rw [hat] at h
  simp only [Option.map_some, Option.some.injEq] at h
  unfold oftS at h
  split at h
  ·split at h
   ·simp at h; obtain ⟨rfl, rfl⟩ := h; simp [onlyS, sz]; omega
   ·split at h
    ·simp at h; obtain ⟨rfl, rfl⟩ := h; simp [onlyS, sz]; omega
    ·split at h
     ·simp at h; obtain ⟨rfl, rfl⟩ := h; simp [onlyS, sz]; omega
     ·simp at h; obtain ⟨rfl, rfl⟩ := h; exact h1
  ·simp at h; obtain ⟨rfl, rfl⟩ := h; exact h1
theorem wayL_sz {s : ByteArray} {g : Nat → Option (Rx × Nat)} (hg : SmallG g) {i0 : Nat} : ∀ {n i : Nat} {acc xs : List Rx} {j : Nat}, sz (lstS acc) + 2 * i0 ≤ 2 * i → wayL s g n i acc = some (xs, j) → sz (lstS xs) + 2 * i0 ≤ 2 * j
 | 0, _, _, _, _, _, h => by simp [wayL] at h
 | n + 1, i, acc, xs, j, ha, h => by
  unfold wayL at h
  split at h
  ·cases hf : factorS s g i with
   | none => rw [hf] at h; cases h
   | some q =>
    obtain ⟨x, k⟩ := q
    rw [hf] at h
    exact wayL_sz hg (n := n) (i := k) (by rw [sz_snoc]; have := factor_sz hg _ _ _ hf; omega) h
  ·simp at h; obtain ⟨rfl, rfl⟩ := h; exact ha
theorem way_sz {s : ByteArray} {g : Nat → Option (Rx × Nat)} (hg : SmallG g) : SmallG (wayS s g) := by
 intro i x j h
 unfold wayS at h
 cases hw : wayL s g (s.size + 1) i [] with
 | none => rw [hw] at h; cases h
 | some q =>
  rw [hw] at h
  simp at h
  obtain ⟨rfl, rfl⟩ := h
  have h1 := wayL_sz hg (i0 := i) (by simp [lstS, sz]) (xs := q.1) (j := q.2) hw
  have h2 := sz_mk (op := 2) (l := q.1) (.inl rfl)
  simp at h2
  omega
theorem waysL_sz {s : ByteArray} {g : Nat → Option (Rx × Nat)} (hg : SmallG g) {i0 : Nat} : ∀ {n i : Nat} {acc xs : List Rx} {j : Nat}, acc ≠ [] → sz (lstS acc) + 2 * (acc.length - 1) + 2 * i0 ≤ 2 * i → waysL s g n i acc = some (xs, j) → sz (lstS xs) + 2 * (xs.length - 1) + 2 * i0 ≤ 2 * j
 | 0, _, _, _, _, _, _, h => by simp [waysL] at h
 | n + 1, i, acc, xs, j, hne, ha, h => by
  unfold waysL at h
  split at h
  ·cases hf : wayS s g (i + 1) with
   | none => rw [hf] at h; cases h
   | some q =>
    obtain ⟨x, k⟩ := q
    rw [hf] at h
    have hl : 0 < acc.length := List.length_pos_iff.2 hne
    exact waysL_sz hg (n := n) (i := k) (by simp) (by rw [sz_snoc]; have := way_sz hg _ _ _ hf; simp; omega) h
  ·simp at h; obtain ⟨rfl, rfl⟩ := h; exact ha
theorem ways_sz {s : ByteArray} {g : Nat → Option (Rx × Nat)} (hg : SmallG g) : SmallG (waysS s g) := by
 intro i x j h
 unfold waysS at h
 cases hw : wayS s g i with
 | none => rw [hw] at h; cases h
 | some q =>
  obtain ⟨y, k⟩ := q
  rw [hw] at h
  have h1 := way_sz hg _ _ _ hw
  simp only at h
  cases hl : waysL s g (s.size + 1) k [y] with
  | none => rw [hl] at h; cases h
  | some q2 =>
   rw [hl] at h
   simp at h
   obtain ⟨rfl, rfl⟩ := h
   have h2 := waysL_sz hg (i0 := i) (acc := [y]) (by simp) (by simpa [lstS, sz] using h1) (xs := q2.1) (j := q2.2) hl
   have h3 := sz_mk (op := 3) (l := q2.1) (.inr rfl)
   simp at h3
   omega
theorem par_sz (s : ByteArray) : ∀ r, SmallG (par s r)
 | 0 => ways_sz fun _ _ _ h => by cases h
 | r + 1 => ways_sz (par_sz s r)
theorem parse_sz {s : ByteArray} (hadv : ∀ x j, par s 8 0 = some (x, j) → j ≤ s.size) {x : Rx} (h : parseS s = some x) : sz x ≤ 80 := by
 unfold parseS at h
 split at h
 ·cases h
 ·cases hp : par s 8 0 with
  | none => rw [hp] at h; cases h
  | some q =>
   obtain ⟨y, j⟩ := q
   rw [hp] at h
   simp only at h
   split at h
   ·cases h
   ·cases h
    have := par_sz s 8 _ _ _ hp
    have := hadv _ _ hp
    omega
theorem kid_sz : ∀ {l : Rx} {x : Rx}, Tr true l → x ∈ kidsR l → sz x ≤ sz l
 | .cons y l, x, h, hx => by
  simp only [kidsR, List.mem_cons] at hx
  simp only [sz]
  rcases hx with rfl | hx
  ·omega
  ·have := kid_sz h.2 hx; omega
 | .nil, _, _, h => by simp [kidsR] at h
 | .set _, _, h, _ => h.elim
 | .node _ _, _, h, _ => h.elim
theorem sum_take {l : List Rx} {k : Nat} {x : Rx} (hx : l[k]? = some x) : ((l.take (k + 1)).map sz).sum = ((l.take k).map sz).sum + sz x := by
 have hk := (List.getElem?_eq_some_iff.1 hx).1
 rw [List.take_succ_eq_append_getElem hk, (List.getElem?_eq_some_iff.1 hx).2]
 simp
theorem sum_take_le (l : List Rx) : ∀ k, ((l.take k).map sz).sum ≤ (l.map sz).sum := by
 induction l with
 | nil => intro k; simp
 | cons y l ih =>
  intro k
  cases k with
  | zero => simp
  | succ k => simp only [List.take_succ_cons, List.map_cons, List.sum_cons]; have := ih k; omega
end Go.Rex
