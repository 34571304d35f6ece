/- Indexes built by steps. -/
import Derived.Test.YtffbcfcoddacmaaGreatFe
set_option linter.unusedVariables false
set_option linter.unusedSimpArgs false
set_option maxHeartbeats 1000000
set_option maxRecDepth 100000
namespace Go.Proofs.YtffbcfcoddacmaaGreat
open Go Go.X

/-- A step as it is drawn: 'v' is the slice of its numbers. -/
structure Sp where
  drop : Bool
  id : Int
  labs : List Int
  v : Value
def spC (x : Sp) : List Value := [.bool x.drop, .int .i64 x.id, x.v]
theorem spC_len (x : Sp) : (spC x).length = 3 := rfl
def Sp.Ok (w : World) (x : Sp) : Prop := Sl No w x.v 1 x.labs.length (ints x.labs) ∧ (∀ n ∈ x.labs, -9223372036854775808 ≤ n ∧ n ≤ 9223372036854775807) ∧ -9223372036854775808 ≤ x.id ∧ x.id ≤ 9223372036854775807
def whereI (l : List AlS) (id : Int) : Option Nat := l.findIdx? fun a => decide (a.1 = id)
def stepP (l : List AlS) (d : Bool) (id : Int) (ls : List Lab) : List AlS :=
  match whereI l id with
  | none => if d then l else l ++ [(id, ls, 0)]
  | some i => if d then l.eraseIdx i else l
/-- Behind world w0: an index, and the list of all that are in it. -/
structure BJ (w0 w : World) (ix : Nat) (M : Nat → Prop) (rows : List (LabK × List Int)) (v : Value) (al : List Al) : Prop where
  im : IM M (fun b => v.ownBlock = some b) w ix (hasOf (al.map pub)) rows
  row : Row w 32 3 v al.length (al.flatMap alC)
  sls : ∀ a ∈ al, SlL (fun b => M b ∨ v.ownBlock = some b) w a.v a.ls
  baseM : ∀ b, M b → w0.heap.size ≤ b
  baseV : Fresh w0.heap.size v
  grow : Grow w0 w
theorem BJ.grows {w0 w w' : World} {ix : Nat} {M : Nat → Prop} {rows : List (LabK × List Int)} {v : Value} {al : List Al} (h : BJ w0 w ix M rows v al) (hg : Grow w w') : BJ w0 w' ix M rows v al :=
  ⟨h.im.grow hg, h.row.mod hg (fun _ _ h => h), fun a ha => (h.sls a ha).mod (Mod.any' hg), h.baseM, h.baseV, h.grow.trans hg⟩
theorem where_look {l : List AlS} {id : Int} : (whereI l id).isSome = (lookM (hasOf l) id).isSome := by
  unfold whereI hasOf
  induction l with
  | nil => rfl
  | cons a l ih =>
    rw [List.map_cons, lookM_cons, List.findIdx?_cons]
    by_cases h : a.1 = id
    · simp [h]
    · rw [if_neg (Ne.symm h)]
      simp [h, ih]
theorem where_at {l : List AlS} {id : Int} {i : Nat} {a : AlS} (hn : (l.map (·.1)).Nodup) (ha : l[i]? = some a) (he : a.1 = id) : whereI l id = some i := by
  unfold whereI
  obtain ⟨hi, e⟩ := List.getElem?_eq_some_iff.1 ha
  rw [List.findIdx?_eq_some_iff_getElem]
  refine ⟨hi, by simp [e, he], fun j hj => ?_⟩
  simp only [decide_eq_true_eq]
  intro e2
  have h1 : (l.map (·.1))[i]'(by simpa using hi) = (l.map (·.1))[j]'(by simp; omega) := by simp [e, he, e2]
  have := (List.getElem_inj hn).1 h1
  omega
theorem where_none {l : List AlS} {id : Int} (h : ∀ (i : Nat) (a : AlS), l[i]? = some a → a.1 ≠ id) : whereI l id = none := by
  unfold whereI
  rw [List.findIdx?_eq_none_iff]
  intro x hx
  obtain ⟨i, hi⟩ := List.getElem?_of_mem hx
  simpa using h i x hi
theorem hasOf_keys (l : List AlS) : (hasOf l).map (·.1) = l.map (·.1) := by simp [hasOf, List.map_map]
theorem hasOf_erase {l : List AlS} {id : Int} {i : Nat} (hn : (l.map (·.1)).Nodup) (hw : whereI l id = some i) : cutM (hasOf l) id = hasOf (l.eraseIdx i) := by
  unfold whereI at hw
  obtain ⟨hi, h2, _⟩ := List.findIdx?_eq_some_iff_getElem.1 hw
  have hp : placeM id (hasOf l) = some (i, l[i].2.1) := placeM_at (by rw [hasOf_keys]; exact hn) (by
    unfold hasOf
    rw [List.getElem?_map, List.getElem?_eq_getElem hi]
    simp only [Option.map_some]
    rw [show l[i].1 = id by simpa using h2])
  unfold cutM
  rw [hp]
  simp only [hasOf]
  rw [map_eraseIdx']
theorem cut_none {l : List AlS} {id : Int} (hw : whereI l id = none) : cutM (hasOf l) id = hasOf l := by
  have h1 := where_look (l := l) (id := id)
  rw [hw] at h1
  have h2 : lookM (hasOf l) id = none := by cases h : lookM (hasOf l) id with | none => rfl | some x => rw [h] at h1; cases h1
  have : placeM id (hasOf l) = none := by unfold lookM at h2; exact Option.map_eq_none_iff.1 h2
  unfold cutM; rw [this]
end Go.Proofs.YtffbcfcoddacmaaGreat

