/- An index: who is there, in rising order; who has a label. -/
import Derived.Test.YtffbcfcoddacmaaGreatEg
import Derived.Test.YtffbcfcoddacmaaGreatIter
import Derived.Maps.Own
set_option linter.unusedVariables false
set_option linter.unusedSimpArgs false
set_option maxHeartbeats 800000
set_option maxRecDepth 100000
namespace Go.Proofs.YtffbcfcoddacmaaGreat
open Go Go.X

/-- A map of whole numbers' keys, as the kit's iterators know it. -/
theorem owns_of {w : World} {m : Nat} {l : List (Int × Value)} (h : MapAt (Value.int .i64) w m l) (hn : (l.map (·.1)).Nodup) (hr : ∀ t ∈ l, -9223372036854775808 ≤ t.1 ∧ t.1 ≤ 9223372036854775807) (hl : l.length ≤ maxLen) :
    ∃ D : DataW Unit, w.ownsMap Tryz.prog 3 (fun _ => some (.lit (.bool true), [])) m l.length D ∧ (intKeys D).Perm (l.map (·.1)) ∧ Maps.size D = l.length := by
  obtain ⟨es, c, h1, h2, h3, h4⟩ := h.out
  have hlen : es.toList.length = l.length := by have := congrArg List.length h2; simpa using this
  have hkey : ∀ x : Int, -9223372036854775808 ≤ x ∧ x ≤ 9223372036854775807 → keyOf Tryz.prog 3 (.int .i64 x) = some (.int .i64 x) := fun x hx => by
    simp [keyOf, Tryz.underlying3, mapKey, Lit.wf, IntKind.min, IntKind.max, IntKind.signed, IntKind.bits]
    omega
  have hread : ∀ x ∈ es.toList, ∃ k : Int, x.key = .int .i64 k ∧ -9223372036854775808 ≤ k ∧ k ≤ 9223372036854775807 := fun x hx => by
    have h5 : (x.key, x.val) ∈ l.map fun p => (Value.int .i64 p.1, p.2) := by rw [← h2]; exact List.mem_map_of_mem (f := fun e : MapEntry => (e.key, e.val)) hx
    obtain ⟨p, hp, e⟩ := List.mem_map.1 h5
    simp only [Prod.mk.injEq] at e
    exact ⟨p.1, e.1.symm, hr p hp⟩
  have hrd : ∀ x ∈ es.toList, ∀ k : Int, x.key = .int .i64 k → WideElems.rd (H := Unit) Tryz.prog 3 (fun _ => some (.lit (.bool true), [])) x = some (.int .i64 k, .lit (.bool true)) := fun x hx k hk => by
    obtain ⟨k', hk', h6⟩ := hread x hx
    rw [hk] at hk'
    cases hk'
    simp [WideElems.rd, hk, hkey k h6]
  have hkeys : es.toList.map (·.key) = (l.map (·.1)).map (Value.int .i64) := by
    have := congrArg (List.map fun p : Value × Value => p.1) h2
    rw [List.map_map, List.map_map] at this
    rw [List.map_map]
    exact this
  have hg : es.toList.map (WideElems.rg (H := Unit) Tryz.prog 3 fun _ => some (.lit (.bool true), [])) = (l.map (·.1)).map fun k => ((Lit.int .i64 k : Lit), (DataW.lit (.bool true) : DataW Unit)) := by
    apply List.ext_getElem?
    intro i
    have h7 := congrArg (fun q => q[i]?) hkeys
    simp only [List.getElem?_map] at h7 ⊢
    cases he : es.toList[i]? with
    | none => rw [he] at h7; cases hll : l[i]? with
      | none => rfl
      | some p => rw [hll] at h7; simp at h7
    | some x =>
      rw [he] at h7
      cases hll : l[i]? with
      | none => rw [hll] at h7; simp at h7
      | some p =>
        rw [hll] at h7
        simp at h7
        have := hrd x (List.mem_of_getElem? he) p.1 h7
        simp [WideElems.rg, this]
  have hnd : (es.toList.map (·.key)).Nodup := by
    rw [hkeys]
    exact List.pairwise_map.2 (hn.imp fun {a b} hne e => hne (by simpa using e))
  have hsz : es.size = l.length := by rw [← hlen]; simp
  refine ⟨.map ((es.toList.map (WideElems.rg (H := Unit) Tryz.prog 3 fun _ => some (.lit (.bool true), []))).foldr DataW.insert []), ⟨es, c, h1, ⟨by omega, ⟨h4, h3, hnd⟩, fun x hx => by obtain ⟨k, hk, _⟩ := hread x hx; exact ⟨_, hrd x hx k hk⟩⟩, by omega, rfl⟩, ?_, ?_⟩
  · rw [hg]
    refine ((WideShapes.sorted_perm _).map _).trans ?_
    rw [List.map_map]
    have : ((fun p : Lit × DataW Unit => Go.intOf p.1) ∘ fun k => ((Lit.int .i64 k : Lit), (DataW.lit (.bool true) : DataW Unit))) = id := by funext k; rfl
    rw [this, List.map_id]
  · rw [hg, Maps.size_eq, (WideShapes.sorted_perm _).length_eq]
    simp
theorem sortsI (m : Nat) : AnyZI.SortsIn Tryz.prog Tryz.sorted97_ren Fence.wide m :=
  ⟨fun blk off cap ss W hH hblk hsz => callsIn_wide.2 (Tryz.slices_Sort_int blk off cap ss W hH hblk hsz), fun p cap W => callsIn_wide.2 (Tryz.slices_Sort_int_none p cap W)⟩
theorem keysCall (mb : Option Nat) (w : World) : Fx Tryz.prog 98 [.map mb] w (fun u w' => u = .func (.func 142) #[] #[.pointer (some ⟨w.heap.size, 0, none⟩)] ∧ w' = w.alloc (.cells #[.map mb] 141)) := by
  refine Calls.mono ((callsIn_wide (n := 5)).1 (AnyZI.keys_in Tryz.keys98 Fence.wide 5 trivial rfl mb w)) ?_
  rintro e w' ⟨rfl, rfl⟩
  exact ⟨_, rfl, rfl, rfl⟩
end Go.Proofs.YtffbcfcoddacmaaGreat

