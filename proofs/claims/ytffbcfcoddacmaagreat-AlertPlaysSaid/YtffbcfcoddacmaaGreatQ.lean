/- Alerts posted. -/
import Derived.Test.YtffbcfcoddacmaaGreatR
set_option linter.unusedVariables false
set_option linter.unusedSimpArgs false
set_option maxHeartbeats 400000
set_option maxRecDepth 100000
namespace Go.Proofs.YtffbcfcoddacmaaGreat
open Go Go.X

def fullS (most last : Int) (out : List Int) : Bool := decide (most ≤ out.length ∨ last = 2147483647)
theorem take_any (w : World) (p : Nat) (most last : Int) (out : List Int) (v : Value) (hp : PoolAt w p most last out v) (h3 : 0 ≤ last) (h4 : last ≤ 2147483647) (h5 : out.length ≤ 1000000) :
    Fx Tryz.prog 79 [pp p] w (fun u w' => u = .tuple #[.int .i64 (if fullS most last out then 0 else last + 1), .bool (!fullS most last out)] ∧ ∃ v', PoolAt w' p most (if fullS most last out then last else last + 1) (if fullS most last out then out else out ++ [last + 1]) v' ∧ Mod (fun b => b = p ∨ v.ownBlock = some b) w w' ∧ (∀ b, v'.ownBlock = some b → v.ownBlock = some b ∨ w.heap.size ≤ b)) := by
  cases hf : fullS most last out with
  | true =>
    refine Fx.mono (take_no w p most last out v hp (of_decide_eq_true hf)) ?_
    rintro u w' ⟨rfl, h1, h2⟩
    exact ⟨rfl, v, h1, Mod.any' h2, fun b e => .inl e⟩
  | false =>
    have := of_decide_eq_false hf
    exact take_ok w p most last out v hp (by omega) (by omega) h3 h4 h5
structure Ok (s : St) : Prop where
  last0 : 0 ≤ s.last
  last1 : s.last ≤ 2147483647
  most : s.most ≤ 16
  outLe : (s.out.length : Int) ≤ s.most
  alOut : s.al.length = s.out.length
  has : ∀ t ∈ s.has, t.1 ≤ s.last
  rows : ∀ t ∈ s.rows, (t.2.length : Int) ≤ 6 * s.last
  vals : ∀ a ∈ s.al, a.2.2 < 18446744073709551616
def postS (s : St) (ls : List Lab) (val : Nat) : St × Int × Bool × Int :=
  if isS ls = false then (s, 0, false, 1) else
  match findS (s.al.map (·.2.1)) ls with
  | some i => ({ s with al := s.al.modify i fun a => (a.1, a.2.1, canS val) }, ((s.al[i]?).map (·.1)).getD 0, false, 0)
  | none => if fullS s.most s.last s.out then (s, 0, false, 10) else
    ({ most := s.most, last := s.last + 1, out := s.out ++ [s.last + 1], al := s.al ++ [(s.last + 1, ls, canS val)], has := putM s.has (s.last + 1) ls, rows := addRows s.rows (s.last + 1) ls }, s.last + 1, true, 0)
theorem Ok.new (m : Int) : Ok (St.new m) := by
  refine ⟨by simp [St.new], by simp [St.new], ?_, ?_, rfl, by simp [St.new], by simp [St.new], by simp [St.new]⟩
  · simp only [St.new, capS]; split <;> omega
  · simp only [St.new, capS]; simp; split <;> omega
theorem addRows_bound' {r : List (LabK × List Int)} {last : Int} {id : Int} {ls : List Lab} (h : ∀ t ∈ r, (t.2.length : Int) ≤ 6 * last) (h0 : 0 ≤ last) (hl : ls.length ≤ 6) : ∀ t ∈ addRows r id ls, (t.2.length : Int) ≤ 6 * (last + 1) := by
  intro t ht
  have := addRows_bound (B := (6 * last).toNat) (fun t ht => by have := h t ht; omega) id ls t ht
  omega
theorem Ok.post {s : St} (h : Ok s) (ls : List Lab) {val : Nat} (hv : val < 18446744073709551616) : Ok (postS s ls val).1 := by
  have hc := can_lt hv
  unfold postS
  by_cases his : isS ls = false
  · rw [if_pos his]; exact h
  · rw [if_neg his]
    split
    · rename_i i hi
      refine ⟨h.last0, h.last1, h.most, h.outLe, by simp [h.alOut], h.has, h.rows, fun a ha => ?_⟩
      obtain ⟨j, hj⟩ := List.getElem?_of_mem ha
      simp only [List.getElem?_modify] at hj
      cases hx : s.al[j]? with
      | none => simp [hx] at hj
      | some x =>
        have := h.vals x (List.mem_of_getElem? hx)
        simp only [hx, Option.map_some] at hj
        split at hj <;> (simp at hj; subst hj; first | exact hc | exact this)
    · cases hf : fullS s.most s.last s.out with
      | true => simpa using h
      | false =>
        have hf' := of_decide_eq_false hf
        have hl := h.last0
        have hl1 := h.last1
        have ho := h.outLe
        simp only [Bool.false_eq_true, if_false]
        refine ⟨by simp only; omega, by simp only; omega, h.most, by simp; omega, by simp [h.alOut], fun t ht => ?_, addRows_bound' h.rows hl (isS_len (by simpa using his)).2, fun a ha => ?_⟩
        · rcases mem_putM ht with h1 | rfl
          · have := h.has t h1; simp only; omega
          · exact Int.le_refl _
        · simp at ha
          rcases ha with h1 | rfl
          · exact h.vals a h1
          · exact hc
theorem apart4 {w : World} {p q ix mh mr : Nat} {cs : List Value} {vo vl : Value} {M : Nat → Prop} {m l : Int} {o : List Int} {has : List (Int × List Lab)} {rows : List (LabK × List Int)} {k : Nat} {xs : List Value}
    (hB : Blk w p 124 cs) (hP : PoolAt w q m l o vo) (hI : IdxAt M w ix mh mr has rows) (hR : Row w 32 3 vl k xs) :
    (p ≠ q ∧ p ≠ ix ∧ p ≠ mh ∧ p ≠ mr) ∧ (q ≠ ix ∧ q ≠ mh ∧ q ≠ mr) ∧ (ix ≠ mh ∧ ix ≠ mr) ∧ (∀ b, vo.ownBlock = some b → b ≠ p ∧ b ≠ q ∧ b ≠ ix ∧ b ≠ mh ∧ b ≠ mr ∧ vl.ownBlock ≠ some b) ∧ (∀ b, vl.ownBlock = some b → b ≠ p ∧ b ≠ q ∧ b ≠ ix ∧ b ≠ mh ∧ b ≠ mr) := by
  have h1 := hB.ty
  have h2 := hP.blk.ty
  have h3 := hI.blk.ty
  obtain ⟨h4, h5⟩ := hI.mps
  exact ⟨⟨h1.ne h2 rfl, h1.ne h3 rfl, h1.nem h4, h1.nem h5⟩, ⟨h2.ne h3 rfl, h2.nem h4, h2.nem h5⟩, ⟨h3.nem h4, h3.nem h5⟩, fun b e => ⟨(hP.row.ty e).ne h1 rfl, (hP.row.ty e).ne h2 rfl, (hP.row.ty e).ne h3 rfl, (hP.row.ty e).nem h4, (hP.row.ty e).nem h5, fun e2 => (hP.row.ty e).ne (hR.ty e2) rfl rfl⟩, fun b e => ⟨(hR.ty e).ne h1 rfl, (hR.ty e).ne h2 rfl, (hR.ty e).ne h3 rfl, (hR.ty e).nem h4, (hR.ty e).nem h5⟩⟩
def setVal (a : Al) (x : Nat) : Al := { a with val := x }
theorem set_val (x : Nat) : ∀ (al : List Al) (i : Nat), i < al.length → (al.flatMap alC).set (i * 3 + 2) (.float .f64 x) = (al.modify i fun a => setVal a x).flatMap alC
  | [], i, h => by simp at h
  | a :: al, 0, h => by simp [alC, setVal]
  | a :: al, i + 1, h => by
    have e : (i + 1) * 3 + 2 = (alC a).length + (i * 3 + 2) := by rw [alC_len]; omega
    rw [List.flatMap_cons, e, List.set_append_right _ _ (by omega), Nat.add_sub_cancel_left, set_val x al i (by simpa using h)]
    simp
end Go.Proofs.YtffbcfcoddacmaaGreat

