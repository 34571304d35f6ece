/- The row's last step: the call's world has grown by new blocks alone. Nothing is assumed. -/
import Derived.Test.YtffbcfcoddacmaaGreatX8
import Derived.ChangeSame
set_option linter.unusedVariables false
namespace Go.X
open Go Go.RowKit Go.WideShapes Go.ChangeShapes
/-- Arguments alone, no package variables: all of them read as they did. -/
theorem post_grow {H : Type} {enc : TypeId × Value → H} {P : Program} {f : Func} {s : ChangeSpec} {apart fresh handsOn again : Bool} {W W' : World} {args : Array Value} {v : Value} {ds : List (DataW H)} {pl : List MemPlace}
    (hW : DataW.Whole enc P f.params.toList s.vars apart W args.toList ds [] pl)
    (hR : ∀ (b : Nat) (sp : Nat → Bool) (hd : Bool), DataW.TrodAll enc P W' b sp hd f.resultTypes.toList (v.resultList f.resultTypes.size) (s.fn H (ds ++ [])).results [])
    (hA : ∀ sp : Nat → Bool, (∀ p ∈ pl, sp p.block = true) → DataW.TrodAll enc P W' 0 sp true f.params.toList args.toList (s.fn H (ds ++ [])).args pl)
    (hV : ∀ sp : Nat → Bool, DataW.TrodVars enc P W' sp s.vars (s.fn H (ds ++ [])).vars [])
    (hg : Grow W W') (hok : ∀ (j : Nat) (t : TypeId) (r : Value), f.resultTypes[j]? = some t → (v.resultList f.resultTypes.size)[j]? = some r → Value.okWide P W' .any 0 t r) :
    s.post enc P f apart fresh handsOn again W args v W' := by
  have hb := hg.below
  have h1 : ∀ p ∈ pl, p.block < W.heap.size := fun p hp => hW.lt p hp
  have h2 := hA (fun b => decide (b < W.heap.size)) (fun p hp => decide_eq_true (h1 p hp))
  have h3 := hA (fun _ => true) (fun _ _ => rfl)
  have h4 := trodAll_append h3 (hR 0 (fun _ => true) true)
  obtain ⟨_, _, _, _, _, hz, hn⟩ := id hW
  refine ⟨ds, [], pl, [], pl, [], hW, hR _ _ _, h2, hV _, World.keptBut_mono (fun p hp => ⟨hp, .inr (by simpa using hp)⟩) (hb.frame (· ∈ pl)), fun _ => ⟨hok, _, _, [] ++ pl, ⟨[] ++ pl, [], h4, hV _, by simp, fun b off hp => ?_, fun ha => ?_⟩, fun p hp _ => by simpa using hp⟩⟩
  · have hp' : MemPlace.cell b off ∈ pl := by simpa using hp
    rw [hb.frozen (h1 _ hp')]; exact hz b off (by simpa using hp')
  · simpa using hn ha
end Go.X
