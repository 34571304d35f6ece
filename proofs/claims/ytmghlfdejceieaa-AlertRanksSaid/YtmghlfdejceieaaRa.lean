/- AlertRanks: words, neighbours in the rank, the walk. -/
import Derived.Test.YtmghlfdejceieaaS
set_option linter.unusedVariables false
set_option linter.unusedSimpArgs false
set_option maxHeartbeats 400000
set_option maxRecDepth 100000
namespace Go.Proofs.Ytmghlfdejceieaa
open Go Go.X

theorem order_self {b : Nat} (h : ∀ s f, Ieee.double.read b ≠ .nan s f) : nanS b = false := by
  unfold nanS Ieee.Format.order
  rcases read_cases b with ⟨f, e⟩ | ⟨e, _⟩ | ⟨m, k, e, _⟩
  · exact absurd e (h _ _)
  · rw [e]; simp [Ieee.Datum.order, compare, compareOfLessAndEq]
  · rw [e]; simp [Ieee.Datum.order, compare, compareOfLessAndEq]
theorem order_some {x y : Nat} {o : Ordering} (h : Ieee.double.order x y = some o) : nanS x = false ∧ nanS y = false := by
  unfold Ieee.Format.order at h
  refine ⟨order_self fun s f e => ?_, order_self fun s f e => ?_⟩
  · rw [e] at h; simp [Ieee.Datum.order] at h
  · rw [e] at h; cases hr : Ieee.double.read x <;> rw [hr] at h <;> simp [Ieee.Datum.order] at h
theorem keyS_num {b : Nat} (h : nanS b = false) : keyS b = keyN b ∧ canS b = b := by
  have : canS b = b := by simp [canS, h]
  refine ⟨?_, this⟩
  unfold keyS keyN
  rw [this]
theorem keyS_can (b : Nat) : keyS (canS b) = keyS b := by unfold keyS; rw [can_can]
theorem nan_can (b : Nat) : nanS (canS b) = nanS b := by
  unfold canS
  by_cases h : nanS b = true
  · simp [h, nan_nan]
  · simp [h]
/-- Of two neighbours in the rank. -/
theorem nb {a b : Nat} (h : ¬ rankS (canS b) (canS a) < 0) : (nanS a = nanS b ∧ keyS b ≤ keyS a) ∨ (nanS a = false ∧ nanS b = true) := by
  have := not_ahead h
  rwa [nan_can, nan_can, keyS_can, keyS_can] at this
theorem nb_nan {a b : Nat} (h : ¬ rankS (canS b) (canS a) < 0) (hn : nanS a = true) : nanS b = true := by
  rcases nb h with ⟨e, _⟩ | ⟨e, _⟩
  · rw [← e]; exact hn
  · rw [e] at hn; cases hn
theorem nb_lt {a b : Nat} (h : ¬ rankS (canS b) (canS a) < 0) (ha : a < 18446744073709551616) (hb : b < 18446744073709551616) : (Ieee.double.order a b == some .lt) = false := by
  rw [beq_eq_false_iff_ne]
  intro ho
  obtain ⟨h1, h2⟩ := order_some ho
  have h3 := order_lt_key ha hb ho
  rcases nb h with ⟨_, h4⟩ | ⟨_, h4⟩
  · rw [(keyS_num h1).1, (keyS_num h2).1] at h4; omega
  · rw [h2] at h4; cases h4
theorem nb_sgn {a b : Nat} (h : ¬ rankS (canS b) (canS a) < 0) (ha : a < 18446744073709551616) (hb : b < 18446744073709551616) (ho : (Ieee.double.order a b == some .eq) = true) (hs : sgnS a = true) : sgnS b = true := by
  obtain ⟨h1, h2⟩ := order_some (eq_of_beq ho)
  have hs' : 9223372036854775808 ≤ a := of_decide_eq_true hs
  rcases nb h with ⟨_, h4⟩ | ⟨_, h4⟩
  · rw [(keyS_num h1).1, (keyS_num h2).1] at h4
    refine decide_eq_true ?_
    unfold keyN at h4
    split at h4 <;> split at h4 <;> omega
  · rw [h2] at h4; cases h4
/-- Labels that were just built are posted: what stays. -/
theorem At.postD {w0 w1 w2 : World} {p : Nat} {s : St} (h : At w0 w1 p s) {b : Nat} {t : TypeId} {cs : List Value} (hn : New w1 w2 b t cs) {ls : List Lab} {k : Nat} (hk : ls.length = k) (hcs : ls.flatMap labC = cs) (hbig : k ≤ 1000) {val : Nat} (hval : val < 18446744073709551616) {s' : St} {id code : Int} {fr : Bool} (he : postS s ls val = (s', id, fr, code)) :
    Fx Try.prog 8 [pp p, .slice (some ⟨b, 0, none⟩) k k, .float .f64 val] w2 (fun u w' => u = .tuple #[.int .i64 id, .bool fr, .int .i64 code] ∧ At w0 w' p s' ∧ Mod (fun b => w0.heap.size ≤ b) w2 w') := by
  obtain ⟨M, h1, h2, h3, h4⟩ := h
  subst hcs
  subst hk
  refine Fx.mono (post_ok w2 p s M (h1.grow hn.grow) h4 ls _ (Sl.new hn 2 ls.length (flat_len labC 2 labC_len ls) (by omega) (fun e => by have := h1.lt e; have := hn.at_; omega)) val) ?_
  rintro u w' ⟨M', k1, k2, k3, k4⟩
  have hok' := h4.post ls hval
  rw [he] at k1 k2 hok'
  have hs := (h3.trans hn.grow).size
  exact ⟨k1, ⟨M', k2, fun b hb => (k4 b hb).elim (h2 b) (fun h => by omega), (h3.trans hn.grow).then k3 (fun b hb e => by have := h2 b e; omega), hok'⟩, k3.mono fun b _ e => h2 b e⟩
theorem valsR {vs : List Nat} {k : Nat} {s : St} (h : InvR vs k s) : valsS s = (vs.take k).map canS := h.vals
theorem rankR {vs : List Nat} {k : Nat} {s : St} (h : InvR vs k s) : rankIds s = (rankOf (valsS s)).map fun i => ((i + 1 : Nat) : Int) := by
  unfold rankIds
  refine List.map_congr_left fun i hi => ?_
  have hl : i < k := by have := rankOf_lt hi; simp only [valsS, List.length_map, h.al] at this; exact this
  rw [← List.getElem?_map, h.ids]
  simp [hl]
theorem rank_nodup (vs : List Nat) : (rankOf vs).Nodup := (isort_perm _ _).nodup_iff.2 List.nodup_range
theorem rankIds_nodup {vs : List Nat} {k : Nat} {s : St} (h : InvR vs k s) : (rankIds s).Nodup := by
  rw [rankR h]
  have := rank_nodup (valsS s)
  exact List.Pairwise.map _ (fun a b hab e => hab (by omega)) this
/-- Neighbours. -/
theorem rank_nb {vs : List Nat} {k : Nat} {s : St} (h : InvR vs k s) (hk : k ≤ vs.length) {j x y : Nat} (hx : (rankOf (valsS s))[j]? = some x) (hy : (rankOf (valsS s))[j + 1]? = some y) : ¬ rankS (canS (vs.getD y 0)) (canS (vs.getD x 0)) < 0 := by
  have hs := isort_srt (valsS s) (List.range (valsS s).length)
  have hp := List.pairwise_iff_getElem.1 hs j (j + 1) (List.getElem?_eq_some_iff.1 hx).1 (List.getElem?_eq_some_iff.1 hy).1 (by omega)
  have e1 := (List.getElem?_eq_some_iff.1 hx).2
  have e2 := (List.getElem?_eq_some_iff.1 hy).2
  have hp : ¬ rankS ((valsS s).getD y 0) ((valsS s).getD x 0) < 0 := by rw [← e1, ← e2]; exact hp
  have hv : ∀ z, z < k → (valsS s).getD z 0 = canS (vs.getD z 0) := fun z hz => by
    rw [valsR h]
    have hz' : z < vs.length := by omega
    simp [List.getD, List.getElem?_take_of_lt hz, hz']
  have hlx := rankOf_lt (List.mem_of_getElem? hx)
  have hly := rankOf_lt (List.mem_of_getElem? hy)
  simp only [valsS, List.length_map, h.al] at hlx hly
  rw [hv y hly, hv x hlx] at hp
  exact hp
end Go.Proofs.Ytmghlfdejceieaa

