/- A pool given back to; alerts searched by their numbers, deleted. -/
import Derived.Test.YtffbcfcoddacmaaGreatEb
import Derived.Test.YtffbcfcoddacmaaGreatXB
set_option linter.unusedVariables false
set_option linter.unusedSimpArgs false
set_option maxHeartbeats 400000
set_option maxRecDepth 100000
namespace Go.Proofs.YtffbcfcoddacmaaGreat
open Go Go.X

theorem poolHas_ok (w : World) (p : Nat) (most last : Int) (out : List Int) (v : Value) (id : Int) (hp : PoolAt w p most last out v) (hs : Ris out) (hb : out.length ≤ 1000000) :
    Fx Tryz.prog 129 [pp p, .int .i64 id] w (fun u w' => u = .bool (out.contains id) ∧ Grow w w') := by
  have hsl := Sl.own (M := No) hp.row (fun _ _ h => h)
  have hcall : Fx Tryz.prog 162 [v, .int .i64 id] w (fun u w' => ∃ i : Int, u = .tuple #[.int .i64 i, .bool (out.contains id)] ∧ Grow w w') := by
    obtain ⟨ad, c, b, o, rfl, hf⟩ := hsl.open
    by_cases h0 : out.length = 0
    · have : out = [] := List.eq_nil_of_length_eq_zero h0
      subst this
      refine Calls.mono (Tryz.slices_BinarySearch_int_empty ad c id w) ?_
      rintro e w' ⟨rfl, rfl⟩
      exact ⟨_, rfl, 0, rfl, Mod.refl _ _⟩
    · obtain ⟨rfl, _, hc⟩ := hf (by omega)
      refine Calls.mono (Tryz.slices_BinarySearch_int b o out.length c out id w (Nat.le_refl _) (by omega) (fun j hj => hc j _ (by simp [hj])) (by rw [List.take_length]; exact hs.imp fun h => by omega)) ?_
      rintro e w' ⟨rfl, q, rfl⟩
      exact ⟨_, rfl, _, by rw [List.take_length], Mod.drewN _ _ _⟩
  obtain ⟨ad, c, rfl⟩ := hp.row.slice
  refine enter Tryz.func129 rfl rfl rfl _ (Pick.sub (l := [0, 1]) (.cons rfl (.cons rfl .nil))) ?_
  refine RK.seq ?_
  refine RK.region ?_
  refine RL.p rfl rfl ?_
  refine RL.done ?_
  refine RK.seq ?_
  refine RK.region ?_
  iterate 2 refine RL.p rfl rfl ?_
  refine RL.q (.free rfl) rfl rfl (Yld.fieldAddr fo173_2 rfl) ?_
  refine RL.q (.free rfl) rfl rfl (Yld.load p22 rfl (at1 (hp.blk.cell rfl))) ?_
  refine RL.p rfl rfl ?_
  refine RL.op (.free rfl) rfl rfl (Does.call rfl e162 (hcall)) ?_
  rintro _ w2 ⟨i, rfl, hg2⟩
  iterate 5 refine RL.p rfl rfl ?_
  refine RL.done ?_
  refine RK.seq ?_
  refine RK.region ?_
  iterate 2 refine RL.p rfl rfl ?_
  refine RL.done ?_
  refine RK.ret_of Tryz.func129 (res1 rfl rfl) ?_ _
  exact ⟨_, rfl, rfl, hg2⟩
def giveS (out : List Int) (id : Int) : List Int := if out.contains id then cutRow out id else out
theorem give_ok (w : World) (p : Nat) (most last : Int) (out : List Int) (v : Value) (id : Int) (hp : PoolAt w p most last out v) (hs : Ris out) (hb : out.length ≤ 1000000) :
    Fx Tryz.prog 84 [pp p, .int .i64 id] w (fun u w' => u = .bool (out.contains id) ∧ ∃ v', PoolAt w' p most last (giveS out id) v' ∧ Mod (· = p) w w' ∧ (∀ b, v'.ownBlock = some b → v.ownBlock = some b ∨ w.heap.size ≤ b)) := by
  have hcall := poolHas_ok w p most last out v id hp hs hb
  cases hc : out.contains id with
  | false =>
    have e : giveS out id = out := by unfold giveS; rw [hc]; rfl
    rw [hc] at hcall
    refine enter Tryz.func84 rfl rfl rfl _ (Pick.sub (l := [0, 1]) (.cons rfl (.cons rfl .nil))) ?_
    refine RK.seq ?_
    refine RK.region ?_
    refine RL.p rfl rfl ?_
    refine RL.done ?_
    iterate 2 refine RK.seq ?_
    refine RK.region ?_
    iterate 2 refine RL.p rfl rfl ?_
    refine RL.op (.free rfl) rfl rfl (Does.call rfl e129 (hcall)) ?_
    rintro _ w2 ⟨rfl, hg2⟩
    refine RL.p rfl rfl ?_
    refine RL.done ?_
    refine RK.condT (hcT rfl (rfl)) ?_
    refine RK.seq ?_
    refine RK.region ?_
    refine RL.p rfl rfl ?_
    refine RL.done ?_
    refine RK.ret_of Tryz.func84 (res1 rfl rfl) ?_ _
    exact ⟨_, rfl, rfl, v, e.symm ▸ ⟨hp.blk.mod hg2 (fun h => h), hp.row.mod hg2 (fun _ _ h => h), hp.ne⟩, Mod.any' hg2, fun b h => .inl h⟩
  | true =>
    have e : giveS out id = cutRow out id := by unfold giveS; rw [hc]; rfl
    rw [hc] at hcall
    obtain ⟨ad, c, rfl⟩ := hp.row.slice
    refine enter Tryz.func84 rfl rfl rfl _ (Pick.sub (l := [0, 1]) (.cons rfl (.cons rfl .nil))) ?_
    refine RK.seq ?_
    refine RK.region ?_
    refine RL.p rfl rfl ?_
    refine RL.done ?_
    iterate 2 refine RK.seq ?_
    refine RK.region ?_
    iterate 2 refine RL.p rfl rfl ?_
    refine RL.op (.free rfl) rfl rfl (Does.call rfl e129 (hcall)) ?_
    rintro _ w2 ⟨rfl, hg2⟩
    refine RL.p rfl rfl ?_
    refine RL.done ?_
    refine RK.condF (hcF rfl (rfl)) ?_
    refine RK.skip ?_
    refine RK.seq ?_
    refine RK.region ?_
    iterate 3 refine RL.p rfl rfl ?_
    refine RL.q (.free rfl) rfl rfl (Yld.fieldAddr fo173_2 rfl) ?_
    refine RL.q (.free rfl) rfl rfl (Yld.load p22 rfl (at1 ((hp.blk.mod hg2 (fun h => h)).cell rfl))) ?_
    refine RL.p rfl rfl ?_
    refine RL.op (.free rfl) rfl rfl (Does.call rfl e108 (cut_ok No out id _ _ (Sl.own (hp.row.mod hg2 (fun _ _ h => h)) (fun _ _ h => h)) (by omega))) ?_
    rintro u3 w3 ⟨hr3, hf3, hg3⟩
    obtain ⟨ad3, c3, rfl⟩ := hr3.slice
    have hg03 := hg2.trans hg3
    have hlt := hp.blk.lt
    have hs2 := hg2.size
    refine RL.p rfl rfl ?_
    refine RL.q (.free rfl) rfl rfl (Yld.fieldAddr fo173_2 rfl) ?_
    refine RL.op' (.free rfl) rfl (Does.store i22 rfl rfl rfl (hp.blk.mod hg03 (fun h => h)) (.s (.s .z))) ?_
    rintro _ w4 ⟨hb4, hm4, _⟩
    refine RL.done ?_
    refine RK.seq ?_
    refine RK.region ?_
    refine RL.p rfl rfl ?_
    refine RL.done ?_
    refine RK.ret_of Tryz.func84 (res1 rfl rfl) ?_ _
    exact ⟨_, rfl, rfl, .slice ad3 (cutRow out id).length c3, by rw [e]; exact ⟨hb4, hr3.mod hm4 (fun b h e' => by have e' : b = p := e'; have := hf3 b h; omega), fun h => by have := hf3 p h; omega⟩, (Mod.any' hg03).trans hm4, fun b h => .inr (by have := hf3 b h; omega)⟩
/-! ### alerts searched -/
theorem cmpInt_ok (x y : Int) (w : World) : Fx Tryz.prog 128 [.int .i64 x, .int .i64 y] w (fun u w' => u = .int .i64 (Lib.compareInt x y) ∧ w = w') := by
  refine Calls.mono (Tryz.cmp_Compare_int x y w) ?_
  rintro e w' ⟨rfl, rfl⟩
  exact ⟨_, rfl, rfl, rfl⟩
theorem find1_ok (a : Al) (ad : Option Addr) (n c : Nat) (ha : a.v = .slice ad n c) (id : Int) (w : World) : Fx Tryz.prog 127 [.agg #[.int .i64 a.id, a.v, .float .f64 a.val], .int .i64 id] w (fun u w' => u = .int .i64 (Lib.compareInt a.id id) ∧ Grow w w') := by
  obtain ⟨aid, als, val, va⟩ := a
  simp only at ha
  subst ha
  refine enter Tryz.func127 rfl rfl rfl _ (Pick.sub (l := [0, 1]) (.cons rfl (.cons rfl .nil))) ?_
  refine RK.seq ?_
  refine RK.region ?_
  refine RL.op (.free rfl) rfl rfl (Does.box rfl) ?_
  rintro _ w1 ⟨bx, rfl, hbx⟩
  refine RL.p rfl rfl ?_
  refine RL.done ?_
  refine RK.seq ?_
  refine RK.region ?_
  refine RL.q (.free rfl) rfl rfl (Yld.fieldAddr fo32_0 rfl) ?_
  refine RL.q (.free rfl) rfl rfl (Yld.load p3 rfl (at1 (hbx.blk.cell rfl))) ?_
  refine RL.p rfl rfl ?_
  refine RL.op (.free rfl) rfl rfl (Does.call rfl e128 (cmpInt_ok _ _ _)) ?_
  rintro _ _ ⟨rfl, rfl⟩
  refine RL.p rfl rfl ?_
  refine RL.done ?_
  refine RK.ret_of Tryz.func127 (res1 rfl rfl) ?_ _
  exact ⟨_, rfl, rfl, hbx.grow⟩
theorem cmp_lt (x y : Int) : Lib.compareInt x y < 0 ↔ x < y := by unfold Lib.compareInt; split <;> (try split) <;> omega
theorem cmp_eq (x y : Int) : Lib.compareInt x y = 0 ↔ x = y := by unfold Lib.compareInt; split <;> (try split) <;> omega
theorem bsFunc_ok (al : List Al) (id : Int) (v : Value) (w : World) (hv : Sl No w v 3 al.length (al.flatMap alC)) (hsh : ∀ a ∈ al, ∃ ad n c, a.v = .slice ad n c) (hs : Ris (al.map (·.id))) (hb : al.length ≤ 1000000) :
    Fx Tryz.prog 126 [v, .int .i64 id, .func (.func 127) #[] #[]] w (fun u w' => (∃ i : Nat, i ≤ al.length ∧ (∀ t a, t < i → al[t]? = some a → a.id < id) ∧ (∀ t a, i ≤ t → al[t]? = some a → id ≤ a.id) ∧ u = .tuple #[.int .i64 i, .bool ((al.map (·.id))[i]? == some id)]) ∧ Grow w w') := by
  obtain ⟨ad, c, rfl⟩ := hv.shape
  have hris : ∀ (t t' : Nat) (a a' : Al), t < t' → al[t]? = some a → al[t']? = some a' → a.id < a'.id := fun t t' a a' h h1 h2 => by
    have h3 := (List.getElem?_eq_some_iff.1 h1).1
    have h4 := (List.getElem?_eq_some_iff.1 h2).1
    have := List.pairwise_iff_getElem.1 hs t t' (by simpa using h3) (by simpa using h4) h
    simp only [List.getElem_map, (List.getElem?_eq_some_iff.1 h1).2, (List.getElem?_eq_some_iff.1 h2).2] at this
    exact this
  refine enter Tryz.func126 rfl rfl rfl _ (Pick.sub (l := [0, 1, 2]) (.cons rfl (.cons rfl (.cons rfl .nil)))) ?_
  refine RK.seq ?_
  refine RK.region ?_
  iterate 2 refine RL.p rfl rfl ?_
  refine RL.done ?_
  refine RK.seq ?_
  refine RK.region ?_
  refine RL.p rfl rfl ?_
  refine RL.q (.free rfl) rfl rfl (Yld.lenSl u58 rfl) ?_
  refine RL.p rfl rfl ?_
  refine RL.done ?_
  refine RK.seq ?_
  refine RK.region ?_
  iterate 3 refine RL.p rfl rfl ?_
  refine RL.done ?_
  refine RK.seq ?_
  refine RK.block ?_
  refine RK.loop (fun s : Nat × Nat => [(0, .slice ad al.length c), (1, .int .i64 id), (2, .func (.func 127) #[] #[]), (8, .int .i64 al.length), (9, .int .i64 (s.1 : Int)), (10, .int .i64 (s.2 : Int))]) (fun s w' => Grow w w' ∧ s.1 ≤ s.2 ∧ s.2 ≤ al.length ∧ (∀ t a, t < s.1 → al[t]? = some a → a.id < id) ∧ (∀ t a, s.2 ≤ t → al[t]? = some a → id ≤ a.id)) (fun s => s.2 - s.1) (0, al.length) ⟨rfl, rfl, rfl, rfl, rfl, rfl, trivial⟩ ⟨Mod.refl _ _, by simp, by simp, fun t a h => by simp only at h; omega, fun t a h h1 => by have := (List.getElem?_eq_some_iff.1 h1).1; simp only at h; omega⟩ (fun s w' hI ih => ?_)
  obtain ⟨i, j⟩ := s
  obtain ⟨hg, hij, hj, hlo, hhi⟩ := hI
  simp only at hij hj hlo hhi
  iterate 2 refine RK.seq ?_
  refine RK.region ?_
  iterate 3 refine RL.p rfl rfl ?_
  refine RL.done ?_
  first | refine RK.condD rfl (fun h17 => ?_) (fun h17 => ?_) | refine RK.condN rfl (fun h17 => ?_) (fun h17 => ?_) | refine RK.cond rfl (fun h17 => ?_) (fun h17 => ?_)
  · obtain ⟨m, hm⟩ : ∃ m, m = (i + j) >>> 1 := ⟨_, rfl⟩
    have hm2 : m = (i + j) / 2 := by rw [hm, Nat.shiftRight_eq_div_pow]
    obtain ⟨a, ha⟩ : ∃ a, al[m]? = some a := ⟨al[m]'(by omega), List.getElem?_eq_getElem (by omega)⟩
    obtain ⟨ada, na, ca, hsa⟩ := hsh a (List.mem_of_getElem? ha)
    obtain ⟨b1, o1, c1', he1, _, _, hc1⟩ := hv.elem alC_len ha
    cases he1
    refine RK.skip ?_
    refine RK.block ?_
    refine RK.seq ?_
    refine RK.region ?_
    iterate 3 refine RL.p rfl rfl ?_
    refine RL.re (d := 20) rfl rfl (add_i64 (z := ((i + j : Nat) : Int)) (by simp) (by omega) (by omega)) ?_
    refine RL.q (.free rfl) rfl rfl (Yld.convI Tryz.underlying3 Tryz.underlying193 rfl) ?_
    refine RL.re (d := 21) rfl rfl (congrArg (Value.int .u64) (wrap_u64 (x := i + j) (by omega))) ?_
    refine RL.q (.free rfl) rfl rfl (Yld.shr (a := i + j) (s := 1) rfl rfl (by decide)) ?_
    refine RL.q (.free rfl) rfl rfl (Yld.convI Tryz.underlying193 Tryz.underlying3 rfl) ?_
    refine RL.re (d := 23) rfl rfl ((congrArg (Value.int .i64) (wrap_i64 (x := (((i + j) >>> 1 : Nat) : Int)) (by omega) (by rw [← hm]; omega))).trans (by rw [← hm])) ?_
    refine RL.p rfl rfl ?_
    refine RL.done ?_
    refine RK.seq ?_
    refine RK.region ?_
    iterate 3 refine RL.p rfl rfl ?_
    refine RL.q (.free rfl) rfl rfl (Yld.indexAddrN u58 i32 rfl rfl (by omega)) ?_
    refine RL.q (.free rfl) rfl rfl (Yld.loadN (cs := [.int .i64 a.id, a.v, .float .f64 a.val]) a32 rfl (atN (fun q u hq => hg.cell (hc1 q u hq) (fun h => h)))) ?_
    refine RL.p rfl rfl ?_
    refine RL.op (.free rfl) rfl rfl (Does.callv rfl rfl e127 (find1_ok a ada na ca hsa id _)) ?_
    rintro _ w2 ⟨rfl, hg2⟩
    refine RL.p rfl rfl ?_
    refine RL.done ?_
    first | refine RK.condD rfl (fun h31 => ?_) (fun h31 => ?_) | refine RK.condN rfl (fun h31 => ?_) (fun h31 => ?_) | refine RK.cond rfl (fun h31 => ?_) (fun h31 => ?_)
    · have hlt := (cmp_lt _ _).1 h31
      refine RK.region ?_
      iterate 2 refine RL.p rfl rfl ?_
      refine RL.re (d := 33) rfl rfl (succ_i64 (by omega)) ?_
      refine RL.p rfl rfl ?_
      refine RL.done ?_
      refine RK.inBlock ?_
      exact RK.back (ih (m + 1, j) _ ⟨hg.trans hg2, by simp only; omega, hj, fun t a' ht hta => by simp only at ht; by_cases e : t = m; (subst e; rw [ha] at hta; cases hta; exact hlt); have := hris t m a' a (by omega) hta ha; omega, hhi⟩ (by simp only; omega)) ⟨rfl, rfl, rfl, rfl, rfl, rfl, trivial⟩
    · have hge : ¬ a.id < id := fun h => h31 ((cmp_lt _ _).2 h)
      refine RK.region ?_
      iterate 2 refine RL.p rfl rfl ?_
      refine RL.done ?_
      refine RK.inBlock ?_
      exact RK.back (ih (i, m) _ ⟨hg.trans hg2, by simp only; omega, by simp only; omega, hlo, fun t a' ht hta => by simp only at ht; by_cases e : t = m; (subst e; rw [ha] at hta; cases hta; omega); have := hris m t a a' (by omega) ha hta; omega⟩ (by simp only; omega)) ⟨rfl, rfl, rfl, rfl, rfl, rfl, trivial⟩
  · have hije : i = j := by omega
    refine RK.exit rfl ?_
    refine RK.seq ?_
    refine RK.region ?_
    iterate 5 refine RL.p rfl rfl ?_
    first | refine RL.splitD (d := 39) rfl rfl (fun h39 => ?_) (fun h39 => ?_) | refine RL.splitN (d := 39) rfl rfl (fun h39 => ?_) (fun h39 => ?_) | refine RL.split (d := 39) rfl rfl (fun h39 => ?_) (fun h39 => ?_)
    · obtain ⟨a, ha⟩ : ∃ a, al[i]? = some a := ⟨al[i]'(by omega), List.getElem?_eq_getElem (by omega)⟩
      obtain ⟨ada, na, ca, hsa⟩ := hsh a (List.mem_of_getElem? ha)
      obtain ⟨b1, o1, c1', he1, _, _, hc1⟩ := hv.elem alC_len ha
      cases he1
      iterate 3 refine RL.q (.yes rfl rfl rfl) rfl rfl (Yld.pure rfl) ?_
      refine RL.q (.yes rfl rfl rfl) rfl rfl (Yld.indexAddrN u58 i32 rfl rfl (by omega)) ?_
      refine RL.q (.yes rfl rfl rfl) rfl rfl (Yld.loadN (cs := [.int .i64 a.id, a.v, .float .f64 a.val]) a32 rfl (atN (fun q u hq => hg.cell (hc1 q u hq) (fun h => h)))) ?_
      refine RL.q (.yes rfl rfl rfl) rfl rfl (Yld.pure rfl) ?_
      refine RL.op (.yes rfl rfl rfl) rfl rfl (Does.callv rfl rfl e127 (find1_ok a ada na ca hsa id _)) ?_
      rintro _ w2 ⟨rfl, hg2⟩
      refine RL.q (.yes rfl rfl rfl) rfl rfl (Yld.pure rfl) ?_
      iterate 3 refine RL.p rfl rfl ?_
      refine RL.done ?_
      refine RK.ret_of Tryz.func126 (res2 rfl rfl rfl) ?_ _
      exact ⟨_, rfl, ⟨i, by omega, hlo, by subst hije; exact hhi, by
          have e1 : ((al.map (·.id))[i]? == some id) = decide (Lib.compareInt a.id id = 0) := by
            rw [List.getElem?_map, ha, Bool.eq_iff_iff]
            simp [cmp_eq]
          rw [e1]⟩, hg.trans hg2⟩
    · iterate 8 refine RL.no (.no rfl rfl rfl rfl) rfl rfl ?_
      iterate 3 refine RL.p rfl rfl ?_
      refine RL.done ?_
      refine RK.ret_of Tryz.func126 (res2 rfl rfl rfl) ?_ _
      exact ⟨_, rfl, ⟨i, by omega, hlo, by subst hije; exact hhi, by
          have e1 : (al.map (·.id))[i]? = none := by rw [List.getElem?_eq_none_iff]; simp; omega
          rw [e1]; rfl⟩, hg⟩
end Go.Proofs.YtffbcfcoddacmaaGreat

