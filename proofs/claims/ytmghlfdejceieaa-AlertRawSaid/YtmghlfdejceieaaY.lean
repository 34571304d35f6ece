/- AlertRaw: labels that are no set are refused. -/
import Derived.Test.YtmghlfdejceieaaN
set_option linter.unusedVariables false
set_option linter.unusedSimpArgs false
set_option maxHeartbeats 400000
set_option maxRecDepth 100000
namespace Go.Proofs.Ytmghlfdejceieaa
open Go Go.X

theorem isS_at {ls : List Lab} (h : isS ls = true) {i : Nat} (hi : i < ls.length) : okAt ls i = true := by
  simp only [isS, Bool.and_eq_true, List.all_eq_true, List.mem_range] at h
  exact h.2 i hi
theorem isS_next {ls : List Lab} (h : isS ls = true) {j : Nat} {x y : Lab} (hx : ls[j]? = some x) (hy : ls[j + 1]? = some y) : slt x.name y.name = true := by
  have h1 := isS_at h (List.getElem?_eq_some_iff.1 hy).1
  simp only [okAt, hy, hx, Bool.and_eq_true] at h1
  exact h1.2
theorem isS_slt {ls : List Lab} (h : isS ls = true) : ∀ (d i : Nat) (x y : Lab), ls[i]? = some x → ls[i + 1 + d]? = some y → slt x.name y.name = true
  | 0, i, x, y, hx, hy => isS_next h hx hy
  | d + 1, i, x, y, hx, hy => by
    have hl := (List.getElem?_eq_some_iff.1 hy).1
    have hz := List.getElem?_eq_getElem (l := ls) (i := i + 1 + d) (by omega)
    exact slt_trans (isS_slt h d i x _ hx hz) (isS_next h hz hy)
theorem addRows_keys {ls : List Lab} (h : isS ls = true) (id : Int) : ∀ k, k ≤ ls.length → (addRows [] id (ls.take k)).map (·.1) = (ls.take k).map labK
  | 0, _ => by simp [addRows]
  | k + 1, hk => by
    have ih := addRows_keys h id k (by omega)
    rw [List.take_succ_eq_append_getElem (by omega), addRows_snoc, addRow1, putM_keys, ih, if_neg, List.map_append, List.map_cons, List.map_nil]
    intro hm
    obtain ⟨x, hx, he⟩ := List.mem_map.1 hm
    obtain ⟨i, hi⟩ := List.getElem?_of_mem hx
    have hil : i < k := by have := (List.getElem?_eq_some_iff.1 hi).1; simp at this; omega
    have hi' : ls[i]? = some x := by rw [List.getElem?_take_of_lt hil] at hi; exact hi
    have hs := isS_slt h (k - 1 - i) i x (ls[k]'(by omega)) hi' (by rw [show i + 1 + (k - 1 - i) = k by omega]; exact List.getElem?_eq_getElem (by omega))
    have hn : x.name = (ls[k]'(by omega)).name := congrArg Prod.fst he
    rw [hn, slt_irrefl] at hs
    cases hs
theorem addRows_len {ls : List Lab} (h : isS ls = true) (id : Int) : (addRows [] id ls).length = ls.length := by
  have := addRows_keys h id ls.length (Nat.le_refl _)
  rw [List.take_length] at this
  have h2 := congrArg List.length this
  simpa using h2
theorem post_raw (ls : List Lab) (v : Nat) : ∃ s', postS (St.new 2) ls v = (s', (if isS ls = true then 1 else 0), isS ls, (if isS ls = true then 0 else 1)) ∧ (isS ls = true → s'.rows.length = ls.length) ∧ (isS ls = false → s'.al.length = 0 ∧ s'.rows.length = 0) := by
  cases h : isS ls with
  | false => exact ⟨St.new 2, by unfold postS; rw [if_pos h]; simp, by simp, fun _ => ⟨rfl, rfl⟩⟩
  | true =>
    have hf : findS ((St.new 2).al.map (·.2.1)) ls = none := rfl
    have hfull : fullS (St.new 2).most (St.new 2).last (St.new 2).out = false := by decide
    refine ⟨_, by unfold postS; rw [if_neg (by simp [h]), hf]; simp only [hfull, Bool.false_eq_true, if_false, if_true]; rfl, fun _ => addRows_len h 1, by simp⟩
/-- Labels of the caller's own are posted. -/
theorem At.postO {w0 w1 : World} {p : Nat} {s : St} (h : At w0 w1 p s) {ls : List Lab} {v : Value} (hv : SlL No w0 v ls) {val : Nat} (hval : val < 18446744073709551616) {s' : St} {id code : Int} {fr : Bool} (he : postS s ls val = (s', id, fr, code)) :
    Fx Try.prog 8 [pp p, v, .float .f64 val] w1 (fun u w' => u = .tuple #[.int .i64 id, .bool fr, .int .i64 code] ∧ At w0 w' p s') := by
  obtain ⟨M, h1, h2, h3, h4⟩ := h
  exact post_at h1 h2 h3 h4 ((hv.off (M' := M) (by omega) (fun b hb e => by have := h2 b e; omega)).mod (Mod.any' h3)) hval he
theorem raw_ok (ls : List Lab) (hsz : ∀ x ∈ ls, x.name.size ≤ 9223372036854775807) (v : Value) (b : Nat) (hb : b < 18446744073709551616) (w : World) (hv : SlL No w v ls) : Fx Try.prog 5 [v, .float .f64 b] w (fun u w' => u = .bool true ∧ Grow w w') := by
  obtain ⟨ad, c, rfl⟩ := hv.shape
  obtain ⟨s', he, hr1, hr2⟩ := post_raw ls b
  refine enter Try.func5 rfl rfl rfl _ (Pick.sub (l := [0, 1]) (.cons rfl (.cons rfl .nil))) ?_
  refine RK.seq ?_
  refine RK.region ?_
  refine RL.p rfl rfl ?_
  refine RL.done ?_
  iterate 2 refine RK.seq ?_
  refine RK.region ?_
  refine RL.p rfl rfl ?_
  refine RL.op (.free rfl) rfl rfl (Does.call rfl e15 (weight_ok No ls _ 200 _ hv)) ?_
  rintro u1 w1 ⟨⟨n, rfl⟩, hg1⟩
  refine RL.p rfl rfl ?_
  refine RL.done ?_
  first | refine RK.condD rfl (fun h11 => ?_) (fun h11 => ?_) | refine RK.condN rfl (fun h11 => ?_) (fun h11 => ?_) | refine RK.cond rfl (fun h11 => ?_) (fun h11 => ?_)
  · refine RK.seq ?_
    refine RK.region ?_
    refine RL.op (.free rfl) rfl rfl (Does.call rfl e3 (runs_ok _)) ?_
    rintro _ w2 ⟨rfl, hg2⟩
    refine RL.p rfl rfl ?_
    refine RL.done ?_
    refine RK.ret_of Try.func5 (res1 rfl rfl) ?_ _
    exact ⟨_, rfl, rfl, hg1.trans hg2⟩
  · refine RK.skip ?_
    refine RK.seq ?_
    refine RK.region ?_
    refine RL.op (.free rfl) rfl rfl (Does.call rfl e7 (new_at _ _)) ?_
    rintro _ w2 ⟨p, rfl, h2⟩
    refine RL.p rfl rfl ?_
    refine RL.done ?_
    iterate 2 refine RK.seq ?_
    refine RK.region ?_
    refine RL.p rfl rfl ?_
    refine RL.q (.free rfl) rfl rfl (Yld.eqPtr Try.underlying22 rfl rfl) ?_
    refine RL.done ?_
    refine RK.condF rfl ?_
    refine RK.skip ?_
    refine RK.seq ?_
    refine RK.region ?_
    iterate 3 refine RL.p rfl rfl ?_
    refine RL.op (.free rfl) rfl rfl (Does.call rfl e8 (h2.postO (hv.mod hg1) hb he)) ?_
    rintro _ w3 ⟨rfl, h3⟩
    iterate 7 refine RL.p rfl rfl ?_
    refine RL.done ?_
    iterate 2 refine RK.seq ?_
    refine RK.region ?_
    refine RL.p rfl rfl ?_
    refine RL.op (.free rfl) rfl rfl (Does.call rfl e16 (isSet_ok No ls hsz _ _ (hv.mod (hg1.trans h3.all)))) ?_
    rintro _ w4 ⟨rfl, hg4⟩
    have h4 := h3.grow hg4
    refine RL.p rfl rfl ?_
    refine RL.done ?_
    first | refine RK.condD rfl (fun h26 => ?_) (fun h26 => ?_) | refine RK.condN rfl (fun h26 => ?_) (fun h26 => ?_) | refine RK.cond rfl (fun h26 => ?_) (fun h26 => ?_)
    · have his : isS ls = false := by simpa using h26
      obtain ⟨hal, hrl⟩ := hr2 his
      refine RK.seq ?_
      refine RK.region ?_
      iterate 3 refine RL.p rfl rfl ?_
      refine RL.knownT (d := 29) rfl rfl (decide_eq_true (by rw [his]; rfl)) ?_
      iterate 2 refine RL.q (.yes rfl rfl rfl) rfl rfl (Yld.pure rfl) ?_
      iterate 2 refine RL.p rfl rfl ?_
      refine RL.knownT (d := 33) rfl rfl ((by rw [his]; rfl)) ?_
      iterate 2 refine RL.q (.yes rfl rfl rfl) rfl rfl (Yld.pure rfl) ?_
      iterate 2 refine RL.p rfl rfl ?_
      refine RL.knownT (d := 37) rfl rfl (decide_eq_true (by rw [his]; rfl)) ?_
      refine RL.q (.yes rfl rfl rfl) rfl rfl (Yld.pure rfl) ?_
      refine RL.op (.yes rfl rfl rfl) rfl rfl (Does.call rfl e13 (h4.len)) ?_
      rintro _ _ ⟨rfl, rfl⟩
      refine RL.q (.yes rfl rfl rfl) rfl rfl (Yld.pure rfl) ?_
      iterate 2 refine RL.p rfl rfl ?_
      refine RL.knownT (d := 42) rfl rfl (decide_eq_true (by rw [hal]; rfl)) ?_
      refine RL.q (.yes rfl rfl rfl) rfl rfl (Yld.pure rfl) ?_
      refine RL.op (.yes rfl rfl rfl) rfl rfl (Does.call rfl e14 (h4.posts)) ?_
      rintro _ _ ⟨rfl, rfl⟩
      refine RL.q (.yes rfl rfl rfl) rfl rfl (Yld.pure rfl) ?_
      iterate 2 refine RL.p rfl rfl ?_
      refine RL.knownT (d := 47) rfl rfl (decide_eq_true (by rw [hrl]; rfl)) ?_
      refine RL.op (.yes rfl rfl rfl) rfl rfl (Does.call rfl e3 (runs_ok _)) ?_
      rintro _ w5 ⟨rfl, hg5⟩
      iterate 2 refine RL.p rfl rfl ?_
      refine RL.done ?_
      refine RK.ret_of Try.func5 (res1 rfl rfl) ?_ _
      exact ⟨_, rfl, rfl, (hg1.trans h4.all).trans hg5⟩
    · have his : isS ls = true := by simpa using h26
      have hrl := hr1 his
      refine RK.skip ?_
      refine RK.seq ?_
      refine RK.region ?_
      iterate 3 refine RL.p rfl rfl ?_
      refine RL.knownT (d := 52) rfl rfl (decide_eq_true (by rw [if_pos his])) ?_
      refine RL.q (.yes rfl rfl rfl) rfl rfl (Yld.pure rfl) ?_
      iterate 2 refine RL.p rfl rfl ?_
      refine RL.knownT (d := 55) rfl rfl (his) ?_
      iterate 2 refine RL.q (.yes rfl rfl rfl) rfl rfl (Yld.pure rfl) ?_
      iterate 2 refine RL.p rfl rfl ?_
      refine RL.knownT (d := 59) rfl rfl (decide_eq_true (by rw [if_pos his])) ?_
      refine RL.q (.yes rfl rfl rfl) rfl rfl (Yld.pure rfl) ?_
      refine RL.op (.yes rfl rfl rfl) rfl rfl (Does.call rfl e14 (h4.posts)) ?_
      rintro _ _ ⟨rfl, rfl⟩
      refine RL.q (.yes rfl rfl rfl) rfl rfl (Yld.pure rfl) ?_
      refine RL.q (.yes rfl rfl rfl) rfl rfl (Yld.lenSl u29 rfl) ?_
      refine RL.q (.yes rfl rfl rfl) rfl rfl (Yld.pure rfl) ?_
      iterate 2 refine RL.p rfl rfl ?_
      refine RL.knownT (d := 66) rfl rfl (decide_eq_true (by rw [hrl])) ?_
      refine RL.op (.yes rfl rfl rfl) rfl rfl (Does.call rfl e3 (runs_ok _)) ?_
      rintro _ w5 ⟨rfl, hg5⟩
      iterate 2 refine RL.p rfl rfl ?_
      refine RL.done ?_
      refine RK.ret_of Try.func5 (res1 rfl rfl) ?_ _
      exact ⟨_, rfl, rfl, (hg1.trans h4.all).trans hg5⟩
end Go.Proofs.Ytmghlfdejceieaa

