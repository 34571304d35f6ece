/- Draw regions with one open choice between two operations. Nothing is assumed. -/
import Derived.Test.YtffbcfcoddacmaaGreatX13
set_option linter.unusedVariables false
namespace Go.X
open Go Go.RowKit
def okPre (ops : Array Oper) (fin : Array Bool → Bool) : Array Bool → List (Nat × Bool) → Bool
  | L, [] => fin L
  | L, (i, loud) :: r => (if loud then Region.ready .any ops L == [i] else (Region.ready .any ops L).contains i && Region.free .any ops L i) && okPre ops fin (L.setIfInBounds i true) r
theorem wpOp_exits {P : Program} {ops : Array Oper} {Q E : Exit → Act → World → Prop} (h1 : ∀ c a w, ¬ E (.panic c) a w) (h2 : ¬ LetsOut E) {i : Nat} {K : Act → World → Prop} {a : Act} {w : World} (h : wpOp P ops E i K a w) : wpOp P ops Q i K a w := by
  unfold wpOp at *
  split
  · rename_i ho; simpa [ho] using h
  · rename_i o ho
    simp only [ho] at h
    split
    · rename_i hw
      rw [if_pos hw] at h
      refine .inl ?_
      rcases h with h | ⟨_, h⟩
      · unfold Oper.wp at *
        generalize (execOp a.eval o).run P w = r at *
        unfold Oper.upon at *
        split at h <;> first
          | exact h
          | exact absurd h (h1 _ _ _)
          | exact h.elim
          | (refine Calls.mono h fun e w' he => ?_
             cases e with
             | returned v => exact he
             | panicked c => exact absurd he (h1 _ _ _)
             | outgrown => exact absurd he h2)
      · exact absurd h h2
    · rename_i hw
      rw [if_neg hw] at h
      exact h
theorem wpT_of_pre {P : Program} {ops : Array Oper} {S : World → Prop} {tl : List Nat} {Q E : Exit → Act → World → Prop} (hs : Region.noSelect ops = true) (hQ : ∀ c a w, ¬ Q (.panic c) a w) (hE : ∀ c a w, ¬ E (.panic c) a w) (hE2 : ¬ LetsOut E) {fin : Array Bool → Bool} {f0 : Nat} (hfin : ∀ L a w, fin L = true → E .normal a w → wpT P ops Q S tl.contains f0 L a w) :
    ∀ (l : List (Nat × Bool)) (L : Array Bool) (a : Act) (w : World), okPre ops fin L l = true → wpOrd P ops S tl E l a w → wpT P ops Q S tl.contains (l.length + f0) L a w
  | [], L, a, w, h, hw => by rw [List.length_nil, Nat.zero_add]; exact hfin L a w h hw
  | (i, false) :: r, L, a, w, h, hw => by
    simp only [okPre, Bool.and_eq_true, Bool.false_eq_true, if_false] at h
    obtain ⟨o, v, ho, hy, hr⟩ := hw
    have hrec := wpT_of_pre hs hQ hE hE2 hfin r _ _ _ h.2 hr
    have hfree := Region.free_spec ho h.1.2
    have e : ((i, false) :: r).length + f0 = (r.length + f0) + 1 := by simp; omega
    rw [e]
    rcases hy with hy | ⟨ht, hy, hSw⟩
    · exact wpT_take hs hQ ho (C := fun _ => True) (fun _ _ => trivial) (.inl fun _ => trivial) _ _ _ _ hfree (by simpa using h.1.1) hy trivial (.inl fun _ => trivial) hrec
    · refine wpT_take hs hQ ho (C := S) (fun _ h => h) (.inr fun j oj hj htj => ?_) _ _ _ _ hfree (by simpa using h.1.1) hy hSw (.inr hSw) hrec
      have h1 := List.all_eq_true.1 ht j (by simpa using htj)
      have h2 : nth ops.toList j = some oj := by rw [nth_eq]; simpa using hj
      simp only [h2] at h1
      exact h1
  | (i, true) :: r, L, a, w, h, hw => by
    simp only [okPre, Bool.and_eq_true, if_true, beq_iff_eq] at h
    have e : ((i, true) :: r).length + f0 = (r.length + f0) + 1 := by simp; omega
    rw [e]
    refine ⟨fun h0 => (by rw [h.1] at h0; cases h0), fun j hj => ?_⟩
    rw [h.1] at hj
    simp only [List.mem_singleton] at hj
    subst hj
    exact wpOp_exits hE hE2 (wpOp_mono (fun a' w' h' => ⟨h'.1, wpT_of_pre hs hQ hE hE2 hfin r _ _ _ h.2 h'.2⟩) hw)
/-- What is to be shown at the open choice. -/
def Fork (P : Program) (ops : Array Oper) (S : World → Prop) (tl : List Nat) (Q : Exit → Act → World → Prop) (p q : List (Nat × Bool)) : Exit → Act → World → Prop := fun x a w => x = .normal ∧ wpOrd P ops S tl Q p a w ∧ wpOrd P ops S tl Q q a w
section
variable {P : Program} {f : FuncId} {n : Nat} {R : Ending → World → Prop} {k : List Item} {e : Env} {w : World}
theorem RK.drawF {id : Nat} {l : List Oper} (M : Nat → Prop) (ord : List (Nat × Bool)) (a b : Nat) (p q : List (Nat × Bool)) (tl : List Nat) (hm : P.follows .mixedOrders = true)
    (hb : (Region.noSelect l.toArray && okPre l.toArray (fun L => Region.ready .any l.toArray L == [a, b] && okOrd l.toArray tl (L.setIfInBounds a true) p && okOrd l.toArray tl (L.setIfInBounds b true) q) (Array.replicate l.length false) ord && Nat.beq l.length (ord.length + (p.length + 1)) && Nat.beq p.length q.length) = true)
    (h : DL P n l (Mod M w) tl ord e w.drew (Fork P l.toArray (Mod M w) tl (post P f R k) ((a, true) :: p) ((b, true) :: q))) : RK P f n R (.code (.region id l.toArray true) :: k) e w := by
  intro ac ha
  simp only [Bool.and_eq_true] at hb
  obtain ⟨⟨⟨hs, hpre⟩, hl⟩, hpq⟩ := hb
  have hl : l.length = ord.length + (p.length + 1) := Nat.eq_of_beq_eq_true hl
  have hpq : p.length = q.length := Nat.eq_of_beq_eq_true hpq
  refine Runs.of_wp (wp_region_any hm (wpT_any (S := Mod M w) (T := tl.contains) _ _ _ _ ?_))
  have := wpT_of_pre (P := P) (S := Mod M w) (tl := tl) (Q := post P f R k) (E := Fork P l.toArray (Mod M w) tl (post P f R k) ((a, true) :: p) ((b, true) :: q)) hs (fun c a w h => h) (fun c a w h => by cases h.1) (fun ⟨a, w, h⟩ => by cases h.1) (f0 := p.length + 1) (fun L a' w' hfin hE => ?_) ord _ ac _ hpre (h ac ha)
  · simpa [hl] using this
  · simp only [Bool.and_eq_true, beq_iff_eq] at hfin
    obtain ⟨⟨hr, hp⟩, hq⟩ := hfin
    obtain ⟨_, h1, h2⟩ := hE
    refine ⟨fun h0 => (by rw [hr] at h0; cases h0), fun j hj => ?_⟩
    rw [hr] at hj
    simp only [List.mem_cons, List.not_mem_nil, or_false] at hj
    rcases hj with rfl | rfl
    · exact wpOp_mono (fun a2 w2 h3 => ⟨h3.1, wpT_of_ord hs (fun c a w h => h) p _ _ _ hp h3.2⟩) h1
    · rw [hpq]
      exact wpOp_mono (fun a2 w2 h3 => ⟨h3.1, wpT_of_ord hs (fun c a w h => h) q _ _ _ hq h3.2⟩) h2
theorem DL.fork {ops : List Oper} {S : World → Prop} {tl : List Nat} {Q : Exit → Act → World → Prop} {p q : List (Nat × Bool)} (h1 : DL P n ops S tl p e w Q) (h2 : DL P n ops S tl q e w Q) : DL P n ops S tl [] e w (Fork P ops.toArray S tl Q p q) := fun a ha => ⟨rfl, h1 a ha, h2 a ha⟩
end
end Go.X
