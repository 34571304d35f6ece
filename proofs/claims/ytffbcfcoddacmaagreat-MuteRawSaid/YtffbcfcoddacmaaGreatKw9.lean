/- What the claim stands on, part 9. Of own lemmas only those that it reaches. -/
import Derived.Test.YtffbcfcoddacmaaGreatKw8
set_option linter.unusedVariables false
set_option linter.unusedSimpArgs false
set_option maxHeartbeats 1000000
set_option maxRecDepth 100000
namespace Go.Proofs.YtffbcfcoddacmaaGreat
open Go Go.X Go.Rex
def putB (n : Nat) : List UInt8 := if h : n < 128 then [UInt8.ofNat n] else UInt8.ofNat (n % 128 + 128) :: putB (n / 128)
termination_by n
decreasing_by omega
theorem putB_lo {n : Nat} (h : n < 128) : putB n = [UInt8.ofNat n] := by rw [putB, dif_pos h]
theorem putB_hi {n : Nat} (h : ¬ n < 128) : putB n = UInt8.ofNat (n % 128 + 128) :: putB (n / 128) := by rw [putB, dif_neg h]
theorem ofNat_lo {n : Nat} (h : n < 256) : (UInt8.ofNat n).toNat = n := by simp [UInt8.toNat_ofNat']; omega
theorem putB_inj : ∀ (n m : Nat) (a b : List UInt8), putB n ++ a = putB m ++ b → n = m ∧ a = b := by
  intro n
  induction n using Nat.strongRecOn with
  | _ n ih =>
    intro m a b h
    by_cases h1 : n < 128 <;> by_cases h2 : m < 128
    · rw [putB_lo h1, putB_lo h2] at h
      simp only [List.singleton_append, List.cons.injEq] at h
      have := congrArg UInt8.toNat h.1
      rw [ofNat_lo (by omega), ofNat_lo (by omega)] at this
      exact ⟨this, h.2⟩
    · rw [putB_lo h1, putB_hi h2] at h
      simp only [List.singleton_append, List.cons_append, List.cons.injEq] at h
      have := congrArg UInt8.toNat h.1
      rw [ofNat_lo (by omega), ofNat_lo (by omega)] at this
      omega
    · rw [putB_hi h1, putB_lo h2] at h
      simp only [List.singleton_append, List.cons_append, List.cons.injEq] at h
      have := congrArg UInt8.toNat h.1
      rw [ofNat_lo (by omega), ofNat_lo (by omega)] at this
      omega
    · rw [putB_hi h1, putB_hi h2] at h
      simp only [List.cons_append, List.cons.injEq] at h
      have h3 := congrArg UInt8.toNat h.1
      rw [ofNat_lo (by omega), ofNat_lo (by omega)] at h3
      obtain ⟨h4, h5⟩ := ih (n / 128) (by omega) _ _ _ h.2
      exact ⟨by omega, h5⟩
def putT (s : ByteArray) : List UInt8 := putB s.size ++ s.data.toList
theorem putT_inj {s t : ByteArray} {a b : List UInt8} (h : putT s ++ a = putT t ++ b) : s = t ∧ a = b := by
  unfold putT at h
  rw [List.append_assoc, List.append_assoc] at h
  obtain ⟨h1, h2⟩ := putB_inj _ _ _ _ h
  obtain ⟨h3, h4⟩ := List.append_inj h2 (by rw [Array.length_toList, Array.length_toList]; exact h1)
  exact ⟨ByteArray.ext (Array.toList_inj.1 h3), h4⟩
def keyB (es : List ByteArray) (ls : List Lab) : List UInt8 := es.flatMap fun x => putT (getL ls x)
theorem keyB_iff : ∀ (es : List ByteArray) (l1 l2 : List Lab), keyB es l1 = keyB es l2 ↔ ∀ x ∈ es, getL l1 x = getL l2 x
  | [], _, _ => by simp [keyB]
  | x :: es, l1, l2 => by
    have ih := keyB_iff es l1 l2
    unfold keyB at ih ⊢
    rw [List.flatMap_cons, List.flatMap_cons]
    constructor
    · intro h
      obtain ⟨h1, h2⟩ := putT_inj h
      intro y hy
      rcases List.mem_cons.1 hy with rfl | hy
      · exact h1
      · exact ih.1 h2 y hy
    · intro h
      rw [h x (by simp), ih.2 fun y hy => h y (by simp [hy])]
theorem or_byte (n : Nat) : IntKind.u8.wrap (BitVec.ofInt IntKind.u8.bits (IntKind.u8.wrap (n : Int)) ||| BitVec.ofInt IntKind.u8.bits 128).toNat = ((n % 128 + 128 : Nat) : Int) := by
  have h1 : IntKind.u8.wrap (n : Int) = ((n % 256 : Nat) : Int) := by simp [IntKind.wrap, IntKind.signed, IntKind.bits]
  rw [h1]
  have h2 : n % 128 = (n % 256) % 128 := by omega
  rw [h2]
  have h3 : n % 256 < 256 := Nat.mod_lt _ (by omega)
  generalize n % 256 = m at h3
  have key : ∀ m, m < 256 → IntKind.u8.wrap (BitVec.ofInt IntKind.u8.bits ((m : Nat) : Int) ||| BitVec.ofInt IntKind.u8.bits 128).toNat = ((m % 128 + 128 : Nat) : Int) := by decide +kernel
  exact key m h3
theorem lo_byte {n : Nat} (h : n < 128) : IntKind.u8.wrap (n : Int) = ((UInt8.ofNat n).toNat : Int) := by
  rw [ofNat_lo (by omega)]
  simp [IntKind.wrap, IntKind.signed, IntKind.bits]
  omega
theorem vput_ok (n : Nat) (hn : n < 18446744073709551616) (w : World) : Fx Tryz.prog 246 [.int .u64 n] w (fun u w' => Row w' 5 1 u (putB n).length (bytesV (putB n)) ∧ Fresh w.heap.size u ∧ Grow w w') := by
  refine enter Tryz.func246 rfl rfl rfl _ (Pick.sub (l := [0]) (.cons rfl .nil)) ?_
  refine RK.seq ?_
  refine RK.region ?_
  refine RL.p rfl rfl ?_
  refine RL.done ?_
  refine RK.seq ?_
  refine RK.region ?_
  refine RL.p rfl rfl ?_
  refine RL.done ?_
  refine RK.seq ?_
  refine RK.block ?_
  refine RK.loop (fun s : Nat × List UInt8 × Value => [(0, .int .u64 (s.1 : Int)), (3, s.2.2)]) (fun s w' => Row w' 5 1 s.2.2 s.2.1.length (bytesV s.2.1) ∧ Fresh w.heap.size s.2.2 ∧ Grow w w' ∧ s.1 < 18446744073709551616 ∧ (s.2.1.length = 0 ∨ 1 ≤ s.1) ∧ s.2.1 ++ putB s.1 = putB n ∧ s.1 * 128 ^ s.2.1.length ≤ n) (fun s => s.1) (n, [], .slice none 0 0) ⟨rfl, rfl, trivial⟩ ⟨by simpa [bytesV] using Row.nil _ _ _, fun b e => by simp [Value.ownBlock] at e, Mod.refl _ _, hn, by simp, by simp, by simp⟩ (fun s w' hI ih => ?_)
  obtain ⟨m, l, u⟩ := s
  obtain ⟨hr, hf, hg, hm, hl, hst, hpw⟩ := hI
  simp only at hr hf hm hl hst hpw
  have hl10 : l.length ≤ 10 := by
      rcases Nat.lt_or_ge 10 l.length with h | h
      · have h1 : 128 ^ 10 ≤ 128 ^ l.length := Nat.pow_le_pow_right (by omega) (by omega)
        have h2 : 1 * 128 ^ l.length ≤ m * 128 ^ l.length := Nat.mul_le_mul_right _ (by omega)
        have h3 : (18446744073709551616 : Nat) < 128 ^ 10 := by decide
        omega
      · exact h
  iterate 2 refine RK.seq ?_
  refine RK.region ?_
  iterate 2 refine RL.p rfl rfl ?_
  refine RL.done ?_
  first | refine RK.condD rfl (fun h5 => ?_) (fun h5 => ?_) | refine RK.condN rfl (fun h5 => ?_) (fun h5 => ?_) | refine RK.cond rfl (fun h5 => ?_) (fun h5 => ?_)
  · have h128 : ¬ m < 128 := by omega
    refine RK.skip ?_
    refine RK.block ?_
    refine RK.seq ?_
    refine RK.region ?_
    iterate 2 refine RL.p rfl rfl ?_
    refine RL.q (.free rfl) rfl rfl (Yld.convI Tryz.underlying36 Tryz.underlying5 rfl) ?_
    refine RL.p rfl rfl ?_
    refine RL.re (d := 9) rfl rfl (congrArg (Value.int .u8) ((or_byte m).trans (by rw [ofNat_lo (by omega)] : _ = ((UInt8.ofNat (m % 128 + 128)).toNat : Int)))) ?_
    refine RL.op (.free rfl) rfl rfl (Does.slice1 u249 i5 rfl rfl rfl rfl rfl) ?_
    rintro _ w2 ⟨b2, rfl, hn2⟩
    refine RL.op (.free rfl) rfl rfl (Does.append u249 i5 rfl rfl rfl rfl rfl (hr.mod hn2.grow (fun _ _ h => h)) (Sl.new hn2 1 1 rfl (by omega) (fun h => h)) (rfl) (by omega)) ?_
    rintro u3 w3 ⟨hr3, hm3, hu3⟩
    have hs2 := hn2.grow.size
    have hs0 := hg.size
    refine RL.p rfl rfl ?_
    refine RL.done ?_
    refine RK.region ?_
    refine RL.p rfl rfl ?_
    refine RL.q (.free rfl) rfl rfl (Yld.shr (a := m) (s := 7) rfl rfl (by decide)) ?_
    refine RL.re (d := 13) rfl rfl (congrArg (Value.int .u64) (by rw [Nat.shiftRight_eq_div_pow] : _ = ((m / 128 : Nat) : Int))) ?_
    refine RL.p rfl rfl ?_
    refine RL.done ?_
    refine RK.inBlock ?_
    exact RK.back (ih (m / 128, l ++ [UInt8.ofNat (m % 128 + 128)], u3) _ ⟨by
        simp only
        rw [bytesV_app, List.length_append]; exact hr3, fun b e => by
        rcases hu3 with h1 | h1
        · exact hf b (h1 ▸ e)
        · rw [h1] at e; cases e; omega, (hg.trans hn2.grow).then hm3 (fun b hb e => by have := hf b e; omega), by simp only; omega, by simp only; omega, by simp only; rw [List.append_assoc, ← hst, putB_hi h128]; rfl, by
        simp only
        rw [List.length_append]
        have h1 : m / 128 * 128 ≤ m := Nat.div_mul_le_self m 128
        calc m / 128 * 128 ^ (l.length + 1) = m / 128 * 128 * 128 ^ l.length := by rw [Nat.pow_succ, Nat.mul_assoc, Nat.mul_comm 128]
          _ ≤ m * 128 ^ l.length := Nat.mul_le_mul_right _ h1
          _ ≤ n := hpw⟩ (by simp only; omega)) ⟨rfl, rfl, trivial⟩
  · have h128 : m < 128 := by omega
    refine RK.exit rfl ?_
    refine RK.seq ?_
    refine RK.region ?_
    iterate 2 refine RL.p rfl rfl ?_
    refine RL.q (.free rfl) rfl rfl (Yld.convI Tryz.underlying36 Tryz.underlying5 rfl) ?_
    refine RL.re (d := 16) rfl rfl (congrArg (Value.int .u8) (lo_byte h128)) ?_
    refine RL.op (.free rfl) rfl rfl (Does.slice1 u249 i5 rfl rfl rfl rfl rfl) ?_
    rintro _ w2 ⟨b2, rfl, hn2⟩
    refine RL.op (.free rfl) rfl rfl (Does.append u249 i5 rfl rfl rfl rfl rfl (hr.mod hn2.grow (fun _ _ h => h)) (Sl.new hn2 1 1 rfl (by omega) (fun h => h)) (rfl) (by omega)) ?_
    rintro u3 w3 ⟨hr3, hm3, hu3⟩
    have hs2 := hn2.grow.size
    have hs0 := hg.size
    refine RL.p rfl rfl ?_
    refine RL.done ?_
    refine RK.ret_of Tryz.func246 (res1 rfl rfl) ?_ _
    exact ⟨_, rfl, by
        rw [← hst, putB_lo h128, bytesV_app, List.length_append]; exact hr3, fun b e => by
        rcases hu3 with h1 | h1
        · exact hf b (h1 ▸ e)
        · rw [h1] at e; cases e; omega, (hg.trans hn2.grow).then hm3 (fun b hb e => by have := hf b e; omega)⟩
theorem putB_len (n : Nat) (hn : n < 18446744073709551616) : (putB n).length ≤ 20 := by
  have key : ∀ (k n : Nat), n < 128 ^ k → (putB n).length ≤ k + 1 := by
    intro k
    induction k with
    | zero => intro n h; rw [putB_lo (by omega)]; simp
    | succ k ih =>
      intro n h
      by_cases h1 : n < 128
      · rw [putB_lo h1]; simp
      · rw [putB_hi h1, List.length_cons]
        have := ih (n / 128) (Nat.div_lt_of_lt_mul (by rw [Nat.pow_succ] at h; rw [Nat.mul_comm]; exact h))
        omega
  have := key 10 n (Nat.lt_trans hn (by decide))
  omega
theorem putT_ok (s : ByteArray) (hs : s.size ≤ 100000000) (w : World) : Fx Tryz.prog 220 [.string s] w (fun u w' => Row w' 5 1 u (putT s).length (bytesV (putT s)) ∧ Fresh w.heap.size u ∧ Grow w w') := by
  refine enter Tryz.func220 rfl rfl rfl _ (Pick.sub (l := [0]) (.cons rfl .nil)) ?_
  refine RK.seq ?_
  refine RK.region ?_
  refine RL.p rfl rfl ?_
  refine RL.done ?_
  refine RK.seq ?_
  refine RK.region ?_
  refine RL.p rfl rfl ?_
  refine RL.q (.free rfl) rfl rfl (Yld.lenStr u9 rfl) ?_
  refine RL.q (.free rfl) rfl rfl (Yld.convI Tryz.underlying3 Tryz.underlying36 rfl) ?_
  refine RL.re (d := 5) rfl rfl (congrArg (Value.int .u64) (wrap_u64 (x := s.size) (by omega))) ?_
  refine RL.op (.free rfl) rfl rfl (Does.call rfl e246 (vput_ok s.size (by omega) _)) ?_
  rintro u1 w1 ⟨hr1, hf1, hg1⟩
  have hpl := putB_len s.size (by omega)
  refine RL.p rfl rfl ?_
  refine RL.op (.free rfl) rfl rfl (Does.appendStr u249 Tryz.underlying9 i5 rfl rfl hr1 hf1 hg1.size (by omega)) ?_
  rintro u2 w2 ⟨hr2, hf2, hm2⟩
  refine RL.p rfl rfl ?_
  refine RL.done ?_
  refine RK.ret_of Tryz.func220 (res1 rfl rfl) ?_ _
  exact ⟨_, rfl, by
      unfold putT
      rw [bytesV_app, List.length_append, show s.data.toList.length = s.size from Array.length_toList]; exact hr2, hf2, hg1.then hm2 (fun b hb e => by have := hf1 b e; omega)⟩
theorem keyB_snoc {es : List ByteArray} {k : Nat} {x : ByteArray} (hx : es[k]? = some x) (ls : List Lab) : keyB (es.take (k + 1)) ls = keyB (es.take k) ls ++ putT (getL ls x) := by
  have hk := (List.getElem?_eq_some_iff.1 hx).1
  unfold keyB
  rw [List.take_succ_eq_append_getElem hk, (List.getElem?_eq_some_iff.1 hx).2, List.flatMap_append]
  simp
theorem putT_len {ls : List Lab} (hz : ∀ x ∈ ls, x.value.size ≤ 100000) (x : ByteArray) : (putT (getL ls x)).length ≤ 100020 := by
  have h1 := getL_size hz x
  have h2 := putB_len (getL ls x).size (by omega)
  unfold putT
  rw [List.length_append, show (getL ls x).data.toList.length = (getL ls x).size from Array.length_toList]
  omega
theorem keyB_len {ls : List Lab} (hz : ∀ x ∈ ls, x.value.size ≤ 100000) : ∀ es : List ByteArray, (keyB es ls).length ≤ 100020 * es.length
  | [] => by simp [keyB]
  | x :: es => by
    have h1 := keyB_len hz es
    have h2 := putT_len hz x
    unfold keyB at h1 ⊢
    rw [List.flatMap_cons, List.length_append, List.length_cons]
    omega
def keyT (es : List ByteArray) (ls : List Lab) : ByteArray := ⟨(keyB es ls).toArray⟩
theorem keyT_iff (es : List ByteArray) (l1 l2 : List Lab) : keyT es l1 = keyT es l2 ↔ ∀ x ∈ es, getL l1 x = getL l2 x := by
  rw [← keyB_iff]
  unfold keyT
  constructor
  · intro h
    have := congrArg (fun b : ByteArray => b.data.toList) h
    simpa using this
  · intro h; rw [h]
theorem project_ok (M M' : Nat → Prop) (es : List ByteArray) (h4 : es.length ≤ 4) (ls : List Lab) (hz : ∀ x ∈ ls, x.value.size ≤ 100000) (vl ve : Value) (w : World) (hl : SlL M w vl ls) (he : Sl M' w ve 1 es.length (strsV es)) :
    Fx Tryz.prog 180 [vl, ve] w (fun u w' => u = .string (keyT es ls) ∧ Grow w w') := by
  obtain ⟨ade, ce, rfl⟩ := he.shape
  obtain ⟨adl, cl, hvl⟩ := hl.shape
  refine enter Tryz.func180 rfl rfl rfl _ (Pick.sub (l := [0, 1]) (.cons rfl (.cons rfl .nil))) ?_
  refine RK.seq ?_
  refine RK.region ?_
  refine RL.p rfl rfl ?_
  refine RL.done ?_
  refine RK.seq ?_
  refine RK.region ?_
  refine RL.p rfl rfl ?_
  refine RL.done ?_
  iterate 2 refine RK.seq ?_
  refine RK.region ?_
  refine RL.p rfl rfl ?_
  refine RL.q (.free rfl) rfl rfl (Yld.lenSl u87 rfl) ?_
  refine RL.p rfl rfl ?_
  refine RL.done ?_
  refine RK.block ?_
  refine RK.loop (fun s : Nat × Value => [(0, vl), (5, s.2), (8, .slice ade es.length ce), (9, .int .i64 (es.length : Int)), (10, .int .i64 (s.1 : Int))]) (fun s w' => Row w' 5 1 s.2 (keyB (es.take s.1) ls).length (bytesV (keyB (es.take s.1) ls)) ∧ Fresh w.heap.size s.2 ∧ Grow w w' ∧ s.1 ≤ es.length) (fun s => es.length - s.1) (0, .slice none 0 0) ⟨rfl, rfl, rfl, rfl, rfl, trivial⟩ ⟨by simpa [keyB, bytesV] using Row.nil _ _ _, fun b e => by simp [Value.ownBlock] at e, Mod.refl _ _, by simp⟩ (fun s w' hI ih => ?_)
  obtain ⟨k, u⟩ := s
  obtain ⟨hr, hf, hg, hk⟩ := hI
  simp only at hr hf hk
  refine RK.seq ?_
  refine RK.region ?_
  refine RL.p rfl rfl ?_
  refine RL.done ?_
  refine RK.seq ?_
  first | refine RK.condD rfl (fun h11 => ?_) (fun h11 => ?_) | refine RK.condN rfl (fun h11 => ?_) (fun h11 => ?_) | refine RK.cond rfl (fun h11 => ?_) (fun h11 => ?_)
  · obtain ⟨x, hx⟩ : ∃ x, es[k]? = some x := ⟨es[k]'(by omega), List.getElem?_eq_getElem (by omega)⟩
    obtain ⟨b2, o2, c', he1, _, _, hc1⟩ := (he.mod (Mod.any' hg)).elem1 (k := k) (u := .string x) (by simp [strsV, hx])
    cases he1
    refine RK.skip ?_
    refine RK.seq ?_
    refine RK.block ?_
    refine RK.seq ?_
    refine RK.region ?_
    refine RL.q (.free rfl) rfl rfl (Yld.indexAddrN u87 i9 rfl rfl (by omega)) ?_
    refine RL.q (.free rfl) rfl rfl (Yld.load p9 rfl (at1 (hc1 k (.string x) (by simp [strsV, hx])))) ?_
    refine RL.p rfl rfl ?_
    refine RL.done ?_
    refine RK.region ?_
    iterate 3 refine RL.p rfl rfl ?_
    refine RL.op (.free rfl) rfl rfl (Does.call rfl e165 (labelsGet_ok M ls vl x _ (hl.mod (Mod.any' hg)))) ?_
    rintro _ w2 ⟨rfl, hg2⟩
    have hsz := getL_size hz x
    refine RL.op (.free rfl) rfl rfl (Does.call rfl e220 (putT_ok (getL ls x) (by omega) _)) ?_
    rintro u3 w3 ⟨hr3, hf3, hg3⟩
    have hpl := putT_len hz x
    have hkl := keyB_len hz (es.take k)
    have hkl2 : (es.take k).length ≤ 4 := by simp; omega
    refine RL.op (.free rfl) rfl rfl (Does.append u249 i5 rfl rfl rfl rfl rfl (hr.mod (hg2.trans hg3) (fun _ _ h => h)) (Sl.own hr3 (fun _ _ h => h)) (bytesV_one _) (by omega)) ?_
    rintro u4 w4 ⟨hr4, hm4, hu4⟩
    have hs2 := hg2.size
    have hs3 := hg3.size
    have hs0 := hg.size
    refine RL.p rfl rfl ?_
    refine RL.done ?_
    refine RK.inBlock ?_
    refine RK.region ?_
    refine RL.p rfl rfl ?_
    refine RL.re (d := 20) rfl rfl (succ_i64 (by omega)) ?_
    refine RL.p rfl rfl ?_
    refine RL.done ?_
    exact RK.back (ih (k + 1, u4) _ ⟨by
        simp only
        rw [keyB_snoc hx, bytesV_app, List.length_append]; exact hr4, fun b e => by
        rcases hu4 with h1 | h1
        · exact hf b (h1 ▸ e)
        · rw [h1] at e; cases e; omega, (hg.trans (hg2.trans hg3)).then hm4 (fun b hb e => by have := hf b e; omega), by simp only; omega⟩ (by simp only; omega)) ⟨rfl, rfl, rfl, rfl, rfl, trivial⟩
  · rw [List.take_of_length_le (by omega)] at hr
    refine RK.exit rfl ?_
    refine RK.seq ?_
    refine RK.region ?_
    refine RL.p rfl rfl ?_
    refine RL.q (.free rfl) rfl rfl (Yld.bytesSl u249 Tryz.underlying5 Tryz.underlying9 rfl (fun w9 h9 => h9 ▸ Sl.own hr (fun _ _ h => h))) ?_
    refine RL.p rfl rfl ?_
    refine RL.done ?_
    refine RK.ret_of Tryz.func180 (res1 rfl rfl) ?_ _
    exact ⟨_, rfl, rfl, hg⟩
theorem ruleKey_ok (M M' : Nat → Prop) (r : Ru) (h4 : r.eq.length ≤ 4) (a : Al) (hz : ∀ x ∈ a.ls, x.value.size ≤ 100000) (w : World) (hr : r.Ok M w) (ha : SlL M' w a.v a.ls) : Fx Tryz.prog 151 [.agg (ruC r).toArray, .agg (alC a).toArray] w (fun u w' => u = .string (keyT r.eq a.ls) ∧ Grow w w') := by
  refine enter Tryz.func151 rfl rfl rfl _ (Pick.sub (l := [0, 1]) (.cons rfl (.cons rfl .nil))) ?_
  refine RK.seq ?_
  refine RK.region ?_
  refine RL.op (.free rfl) rfl rfl (Does.box rfl) ?_
  rintro _ w1 ⟨b1, rfl, hn1⟩
  refine RL.op (.free rfl) rfl rfl (Does.box rfl) ?_
  rintro _ w2 ⟨b2, rfl, hn2⟩
  have hB1 : Blk w2 b1 89 [r.sv, r.tv, .bool r.bd.all, .float .f64 r.bd.lo, .float .f64 r.bd.hi, r.ev] := hn1.blk.mod hn2.grow (fun h => h)
  have hB2 : Blk w2 b2 32 [.int .i64 a.id, a.v, .float .f64 a.val] := hn2.blk
  have hg2 := hn1.grow.trans hn2.grow
  refine RL.p rfl rfl ?_
  refine RL.done ?_
  refine RK.seq ?_
  refine RK.region ?_
  refine RL.q (.free rfl) rfl rfl (Yld.fieldAddr fo32_1 rfl) ?_
  refine RL.q (.free rfl) rfl rfl (Yld.load p26 rfl (at1 (hB2.cell rfl))) ?_
  refine RL.q (.free rfl) rfl rfl (Yld.fieldAddr fo89_3 rfl) ?_
  refine RL.q (.free rfl) rfl rfl (Yld.load p87 rfl (at1 (hB1.cell rfl))) ?_
  refine RL.op (.free rfl) rfl rfl (Does.call rfl e180 (project_ok M' M r.eq h4 a.ls hz _ _ _ (ha.mod (Mod.any' hg2)) (hr.e.mod (Mod.any' hg2)))) ?_
  rintro _ w3 ⟨rfl, hg3⟩
  refine RL.p rfl rfl ?_
  refine RL.done ?_
  refine RK.ret_of Tryz.func151 (res1 rfl rfl) ?_ _
  exact ⟨_, rfl, rfl, hg2.trans hg3⟩
end Go.Proofs.YtffbcfcoddacmaaGreat
set_option linter.unusedVariables false
set_option linter.unusedSimpArgs false
set_option maxHeartbeats 1000000
set_option maxRecDepth 100000
namespace Go.Proofs.YtffbcfcoddacmaaGreat
open Go Go.X Go.Rex
noncomputable def targetS (r : Ru) (ls : List Lab) : Bool := worksRu r && r.tgt.all fun m => holdsM m ls
noncomputable def sourceS (r : Ru) (ls : List Lab) (val : Nat) : Bool := (worksRu r && r.src.all fun m => holdsM m ls) && inBd r.bd val
noncomputable def mutesS (r : Ru) (s t : Al) : Bool := targetS r t.ls && (sourceS r s.ls s.val && (!sourceS r t.ls t.val && decide (keyT r.eq s.ls = keyT r.eq t.ls)))
theorem isRu_le {r : Ru} (h : isRu r = true) : r.eq.length ≤ 4 := by
  unfold isRu at h
  simp only [Bool.and_eq_true, Bool.not_eq_true', decide_eq_false_iff_not] at h
  omega
theorem target_le {r : Ru} {ls : List Lab} (h : targetS r ls = true) : r.eq.length ≤ 4 := by
  unfold targetS worksRu at h
  simp only [Bool.and_eq_true] at h
  exact isRu_le h.1.1
structure AlOk (M : Nat → Prop) (w : World) (a : Al) : Prop where
  l : SlL M w a.v a.ls
  z : ∀ x ∈ a.ls, x.value.size ≤ 100000
theorem AlOk.mod {M : Nat → Prop} {w w' : World} {a : Al} (h : AlOk M w a) (hm : Mod M w w') : AlOk M w' a := ⟨h.l.mod hm, h.z⟩
theorem target_ok (M M' : Nat → Prop) (r : Ru) (a : Al) (w : World) (hr : r.Ok M w) (ha : AlOk M' w a) : Fx Tryz.prog 149 [.agg (ruC r).toArray, .agg (alC a).toArray] w (fun u w' => u = .bool (targetS r a.ls) ∧ Grow w w') := by
  refine enter Tryz.func149 rfl rfl rfl _ (Pick.sub (l := [0, 1]) (.cons rfl (.cons rfl .nil))) ?_
  refine RK.seq ?_
  refine RK.region ?_
  refine RL.op (.free rfl) rfl rfl (Does.box rfl) ?_
  rintro _ w1 ⟨b1, rfl, hn1⟩
  refine RL.op (.free rfl) rfl rfl (Does.box rfl) ?_
  rintro _ w2 ⟨b2, rfl, hn2⟩
  have hB1 : Blk w2 b1 89 (ruC r) := hn1.blk.mod hn2.grow (fun h => h)
  have hB2 : Blk w2 b2 32 (alC a) := hn2.blk
  have hg2 := hn1.grow.trans hn2.grow
  refine RL.p rfl rfl ?_
  refine RL.done ?_
  refine RK.seq ?_
  refine RK.region ?_
  refine RL.q (.free rfl) rfl rfl (Yld.loadN (cs := ruC r) a89 rfl (atN (blk0' hB1))) ?_
  refine RL.op (.free rfl) rfl rfl (Does.call rfl e179 (works_ok M r _ (hr.mod (Mod.any' hg2)))) ?_
  rintro _ w3 ⟨rfl, hg3⟩
  have hg03 := hg2.trans hg3
  refine RL.p rfl rfl ?_
  first | refine RL.splitD (d := 7) rfl rfl (fun h6 => ?_) (fun h6 => ?_) | refine RL.splitN (d := 7) rfl rfl (fun h6 => ?_) (fun h6 => ?_) | refine RL.split (d := 7) rfl rfl (fun h6 => ?_) (fun h6 => ?_)
  · refine RL.q (.yes rfl rfl rfl) rfl rfl (Yld.fieldAddr fo89_1 rfl) ?_
    refine RL.q (.yes rfl rfl rfl) rfl rfl (Yld.load p51 rfl (at1 ((hB1.mod hg3 (fun h => h)).cell rfl))) ?_
    refine RL.q (.yes rfl rfl rfl) rfl rfl (Yld.fieldAddr fo32_1 rfl) ?_
    refine RL.q (.yes rfl rfl rfl) rfl rfl (Yld.load p26 rfl (at1 ((hB2.mod hg3 (fun h => h)).cell rfl))) ?_
    refine RL.op (.yes rfl rfl rfl) rfl rfl (Does.call rfl e90 (allM_ok holdsM r.tgt (fun m _ => matchHolds_ok m) M' M a.ls ha.z _ _ _ (hr.t.mod (Mod.any' hg03)) (ha.l.mod (Mod.any' hg03)))) ?_
    rintro _ w4 ⟨rfl, hg4⟩
    iterate 2 refine RL.p rfl rfl ?_
    refine RL.done ?_
    refine RK.ret_of Tryz.func149 (res1 rfl rfl) ?_ _
    exact ⟨_, rfl, by unfold targetS; rw [h6]; rfl, hg03.trans hg4⟩
  · iterate 5 refine RL.no (.no rfl rfl rfl rfl) rfl rfl ?_
    iterate 2 refine RL.p rfl rfl ?_
    refine RL.done ?_
    refine RK.ret_of Tryz.func149 (res1 rfl rfl) ?_ _
    exact ⟨_, rfl, by unfold targetS; rw [show worksRu r = false by simpa using h6]; rfl, hg03⟩
theorem source_ok (M M' : Nat → Prop) (r : Ru) (a : Al) (w : World) (hr : r.Ok M w) (ha : AlOk M' w a) : Fx Tryz.prog 150 [.agg (ruC r).toArray, .agg (alC a).toArray] w (fun u w' => u = .bool (sourceS r a.ls a.val) ∧ Grow w w') := by
  refine enter Tryz.func150 rfl rfl rfl _ (Pick.sub (l := [0, 1]) (.cons rfl (.cons rfl .nil))) ?_
  refine RK.seq ?_
  refine RK.region ?_
  refine RL.op (.free rfl) rfl rfl (Does.box rfl) ?_
  rintro _ w1 ⟨b1, rfl, hn1⟩
  refine RL.op (.free rfl) rfl rfl (Does.box rfl) ?_
  rintro _ w2 ⟨b2, rfl, hn2⟩
  have hB1 : Blk w2 b1 89 (ruC r) := hn1.blk.mod hn2.grow (fun h => h)
  have hB2 : Blk w2 b2 32 (alC a) := hn2.blk
  have hg2 := hn1.grow.trans hn2.grow
  refine RL.p rfl rfl ?_
  refine RL.done ?_
  refine RK.seq ?_
  refine RK.region ?_
  refine RL.q (.free rfl) rfl rfl (Yld.loadN (cs := ruC r) a89 rfl (atN (blk0' hB1))) ?_
  refine RL.op (.free rfl) rfl rfl (Does.call rfl e179 (works_ok M r _ (hr.mod (Mod.any' hg2)))) ?_
  rintro _ w3 ⟨rfl, hg3⟩
  have hg03 := hg2.trans hg3
  refine RL.p rfl rfl ?_
  first | refine RL.splitD (d := 7) rfl rfl (fun h6 => ?_) (fun h6 => ?_) | refine RL.splitN (d := 7) rfl rfl (fun h6 => ?_) (fun h6 => ?_) | refine RL.split (d := 7) rfl rfl (fun h6 => ?_) (fun h6 => ?_)
  · refine RL.q (.yes rfl rfl rfl) rfl rfl (Yld.fieldAddr fo89_0 rfl) ?_
    refine RL.q (.yes rfl rfl rfl) rfl rfl (Yld.load p51 rfl (at1 ((hB1.mod hg3 (fun h => h)).cell rfl))) ?_
    refine RL.q (.yes rfl rfl rfl) rfl rfl (Yld.fieldAddr fo32_1 rfl) ?_
    refine RL.q (.yes rfl rfl rfl) rfl rfl (Yld.load p26 rfl (at1 ((hB2.mod hg3 (fun h => h)).cell rfl))) ?_
    refine RL.op (.yes rfl rfl rfl) rfl rfl (Does.call rfl e90 (allM_ok holdsM r.src (fun m _ => matchHolds_ok m) M' M a.ls ha.z _ _ _ (hr.s.mod (Mod.any' hg03)) (ha.l.mod (Mod.any' hg03)))) ?_
    rintro _ w4 ⟨rfl, hg4⟩
    have hg34 := hg3.trans hg4
    iterate 2 refine RL.p rfl rfl ?_
    first | refine RL.splitD (d := 14) rfl rfl (fun h12 => ?_) (fun h12 => ?_) | refine RL.splitN (d := 14) rfl rfl (fun h12 => ?_) (fun h12 => ?_) | refine RL.split (d := 14) rfl rfl (fun h12 => ?_) (fun h12 => ?_)
    · refine RL.q (.yes rfl rfl rfl) rfl rfl (Yld.fieldAddr fo89_2 rfl) ?_
      refine RL.q (.yes rfl rfl rfl) rfl rfl (Yld.loadN (cs := bdC r.bd) a86 rfl (atN (fldN (hB1.mod hg34 (fun h => h)) 2 3))) ?_
      refine RL.q (.yes rfl rfl rfl) rfl rfl (Yld.fieldAddr fo32_2 rfl) ?_
      refine RL.q (.yes rfl rfl rfl) rfl rfl (Yld.load p23 rfl (at1 ((hB2.mod hg34 (fun h => h)).cell rfl))) ?_
      refine RL.op (.yes rfl rfl rfl) rfl rfl (Does.call rfl e110 (in_band_ok r.bd a.val _)) ?_
      rintro _ w5 ⟨rfl, hg5⟩
      iterate 2 refine RL.p rfl rfl ?_
      refine RL.done ?_
      refine RK.ret_of Tryz.func150 (res1 rfl rfl) ?_ _
      exact ⟨_, rfl, by unfold sourceS; rw [h6, h12]; rfl, (hg03.trans hg4).trans hg5⟩
    · iterate 5 refine RL.no (.no rfl rfl rfl rfl) rfl rfl ?_
      iterate 2 refine RL.p rfl rfl ?_
      refine RL.done ?_
      refine RK.ret_of Tryz.func150 (res1 rfl rfl) ?_ _
      exact ⟨_, rfl, by unfold sourceS; rw [h6, show (r.src.all fun m => holdsM m a.ls) = false by simpa only [Bool.not_eq_true] using h12]; rfl, hg03.trans hg4⟩
  · iterate 5 refine RL.no (.no rfl rfl rfl rfl) rfl rfl ?_
    iterate 2 refine RL.p rfl rfl ?_
    iterate 5 refine RL.no (.no rfl rfl rfl rfl) rfl rfl ?_
    iterate 2 refine RL.p rfl rfl ?_
    refine RL.done ?_
    refine RK.ret_of Tryz.func150 (res1 rfl rfl) ?_ _
    exact ⟨_, rfl, by unfold sourceS; rw [show worksRu r = false by simpa using h6]; rfl, hg03⟩
theorem targetR_ok (M M' : Nat → Prop) (r : Ru) (a : Al) (w : World) (hr : r.Ok M w) (hz : r.Sz) (ha : AlOk M' w a) : Fx Tryz.prog 153 [.agg (ruC r).toArray, .agg (alC a).toArray] w (fun u w' => u = .bool (targetS r a.ls) ∧ Grow w w') := by
  refine enter Tryz.func153 rfl rfl rfl _ (Pick.sub (l := [0, 1]) (.cons rfl (.cons rfl .nil))) ?_
  refine RK.seq ?_
  refine RK.region ?_
  refine RL.op (.free rfl) rfl rfl (Does.box rfl) ?_
  rintro _ w1 ⟨b1, rfl, hn1⟩
  refine RL.op (.free rfl) rfl rfl (Does.box rfl) ?_
  rintro _ w2 ⟨b2, rfl, hn2⟩
  have hB1 : Blk w2 b1 89 (ruC r) := hn1.blk.mod hn2.grow (fun h => h)
  have hB2 : Blk w2 b2 32 (alC a) := hn2.blk
  have hg2 := hn1.grow.trans hn2.grow
  refine RL.p rfl rfl ?_
  refine RL.done ?_
  refine RK.seq ?_
  refine RK.region ?_
  refine RL.q (.free rfl) rfl rfl (Yld.loadN (cs := ruC r) a89 rfl (atN (blk0' hB1))) ?_
  refine RL.op (.free rfl) rfl rfl (Does.call rfl e61 (isRuleR_ok M r _ (hr.mod (Mod.any' hg2)) hz)) ?_
  rintro _ w3 ⟨rfl, hg3⟩
  have hg03 := hg2.trans hg3
  refine RL.p rfl rfl ?_
  first | refine RL.splitD (d := 7) rfl rfl (fun h6 => ?_) (fun h6 => ?_) | refine RL.splitN (d := 7) rfl rfl (fun h6 => ?_) (fun h6 => ?_) | refine RL.split (d := 7) rfl rfl (fun h6 => ?_) (fun h6 => ?_)
  · refine RL.q (.yes rfl rfl rfl) rfl rfl (Yld.loadN (cs := ruC r) a89 rfl (atN (blk0' (hB1.mod hg3 (fun h => h))))) ?_
    refine RL.op (.yes rfl rfl rfl) rfl rfl (Does.call rfl e181 (largeRuR_ok M r _ (hr.mod (Mod.any' hg03)) hz)) ?_
    rintro _ w4 ⟨rfl, hg4⟩
    have hg34 := hg3.trans hg4
    have hg04 := hg03.trans hg4
    refine RL.q (.yes rfl rfl rfl) rfl rfl (Yld.pure rfl) ?_
    iterate 2 refine RL.p rfl rfl ?_
    first | refine RL.splitD (d := 12) rfl rfl (fun h10 => ?_) (fun h10 => ?_) | refine RL.splitN (d := 12) rfl rfl (fun h10 => ?_) (fun h10 => ?_) | refine RL.split (d := 12) rfl rfl (fun h10 => ?_) (fun h10 => ?_)
    · have hwk : worksRu r = true := by unfold worksRu; rw [h6, h10]; rfl
      refine RL.q (.yes rfl rfl rfl) rfl rfl (Yld.fieldAddr fo89_1 rfl) ?_
      refine RL.q (.yes rfl rfl rfl) rfl rfl (Yld.load p51 rfl (at1 ((hB1.mod hg34 (fun h => h)).cell rfl))) ?_
      refine RL.q (.yes rfl rfl rfl) rfl rfl (Yld.fieldAddr fo32_1 rfl) ?_
      refine RL.q (.yes rfl rfl rfl) rfl rfl (Yld.load p26 rfl (at1 ((hB2.mod hg34 (fun h => h)).cell rfl))) ?_
      refine RL.op (.yes rfl rfl rfl) rfl rfl (Does.call rfl e102 (allR_ok r.tgt hz.t M' M a.ls ha.z _ _ _ (hr.t.mod (Mod.any' hg04)) (ha.l.mod (Mod.any' hg04)))) ?_
      rintro _ w5 ⟨rfl, hg5⟩
      iterate 2 refine RL.p rfl rfl ?_
      refine RL.done ?_
      refine RK.ret_of Tryz.func153 (res1 rfl rfl) ?_ _
      exact ⟨_, rfl, by unfold targetS; rw [hwk]; rfl, hg04.trans hg5⟩
    · iterate 5 refine RL.no (.no rfl rfl rfl rfl) rfl rfl ?_
      iterate 2 refine RL.p rfl rfl ?_
      refine RL.done ?_
      refine RK.ret_of Tryz.func153 (res1 rfl rfl) ?_ _
      exact ⟨_, rfl, by unfold targetS worksRu; rw [h6, h10]; rfl, hg04⟩
  · iterate 3 refine RL.no (.no rfl rfl rfl rfl) rfl rfl ?_
    iterate 2 refine RL.p rfl rfl ?_
    iterate 5 refine RL.no (.no rfl rfl rfl rfl) rfl rfl ?_
    iterate 2 refine RL.p rfl rfl ?_
    refine RL.done ?_
    refine RK.ret_of Tryz.func153 (res1 rfl rfl) ?_ _
    exact ⟨_, rfl, by unfold targetS worksRu; rw [show isRu r = false by simpa using h6]; rfl, hg03⟩
theorem sourceR_ok (M M' : Nat → Prop) (r : Ru) (a : Al) (w : World) (hr : r.Ok M w) (hz : r.Sz) (ha : AlOk M' w a) : Fx Tryz.prog 154 [.agg (ruC r).toArray, .agg (alC a).toArray] w (fun u w' => u = .bool (sourceS r a.ls a.val) ∧ Grow w w') := by
  refine enter Tryz.func154 rfl rfl rfl _ (Pick.sub (l := [0, 1]) (.cons rfl (.cons rfl .nil))) ?_
  refine RK.seq ?_
  refine RK.region ?_
  refine RL.op (.free rfl) rfl rfl (Does.box rfl) ?_
  rintro _ w1 ⟨b1, rfl, hn1⟩
  refine RL.op (.free rfl) rfl rfl (Does.box rfl) ?_
  rintro _ w2 ⟨b2, rfl, hn2⟩
  have hB1 : Blk w2 b1 89 (ruC r) := hn1.blk.mod hn2.grow (fun h => h)
  have hB2 : Blk w2 b2 32 (alC a) := hn2.blk
  have hg2 := hn1.grow.trans hn2.grow
  refine RL.p rfl rfl ?_
  refine RL.done ?_
  refine RK.seq ?_
  refine RK.region ?_
  refine RL.q (.free rfl) rfl rfl (Yld.loadN (cs := ruC r) a89 rfl (atN (blk0' hB1))) ?_
  refine RL.op (.free rfl) rfl rfl (Does.call rfl e61 (isRuleR_ok M r _ (hr.mod (Mod.any' hg2)) hz)) ?_
  rintro _ w3 ⟨rfl, hg3⟩
  have hg03 := hg2.trans hg3
  refine RL.p rfl rfl ?_
  first | refine RL.splitD (d := 7) rfl rfl (fun h6 => ?_) (fun h6 => ?_) | refine RL.splitN (d := 7) rfl rfl (fun h6 => ?_) (fun h6 => ?_) | refine RL.split (d := 7) rfl rfl (fun h6 => ?_) (fun h6 => ?_)
  · refine RL.q (.yes rfl rfl rfl) rfl rfl (Yld.loadN (cs := ruC r) a89 rfl (atN (blk0' (hB1.mod hg3 (fun h => h))))) ?_
    refine RL.op (.yes rfl rfl rfl) rfl rfl (Does.call rfl e181 (largeRuR_ok M r _ (hr.mod (Mod.any' hg03)) hz)) ?_
    rintro _ w4 ⟨rfl, hg4⟩
    have hg34 := hg3.trans hg4
    have hg04 := hg03.trans hg4
    refine RL.q (.yes rfl rfl rfl) rfl rfl (Yld.pure rfl) ?_
    iterate 2 refine RL.p rfl rfl ?_
    first | refine RL.splitD (d := 12) rfl rfl (fun h10 => ?_) (fun h10 => ?_) | refine RL.splitN (d := 12) rfl rfl (fun h10 => ?_) (fun h10 => ?_) | refine RL.split (d := 12) rfl rfl (fun h10 => ?_) (fun h10 => ?_)
    · have hwk : worksRu r = true := by unfold worksRu; rw [h6, h10]; rfl
      refine RL.q (.yes rfl rfl rfl) rfl rfl (Yld.fieldAddr fo89_0 rfl) ?_
      refine RL.q (.yes rfl rfl rfl) rfl rfl (Yld.load p51 rfl (at1 ((hB1.mod hg34 (fun h => h)).cell rfl))) ?_
      refine RL.q (.yes rfl rfl rfl) rfl rfl (Yld.fieldAddr fo32_1 rfl) ?_
      refine RL.q (.yes rfl rfl rfl) rfl rfl (Yld.load p26 rfl (at1 ((hB2.mod hg34 (fun h => h)).cell rfl))) ?_
      refine RL.op (.yes rfl rfl rfl) rfl rfl (Does.call rfl e102 (allR_ok r.src hz.s M' M a.ls ha.z _ _ _ (hr.s.mod (Mod.any' hg04)) (ha.l.mod (Mod.any' hg04)))) ?_
      rintro _ w5 ⟨rfl, hg5⟩
      have hg35 := hg34.trans hg5
      iterate 2 refine RL.p rfl rfl ?_
      first | refine RL.splitD (d := 19) rfl rfl (fun h17 => ?_) (fun h17 => ?_) | refine RL.splitN (d := 19) rfl rfl (fun h17 => ?_) (fun h17 => ?_) | refine RL.split (d := 19) rfl rfl (fun h17 => ?_) (fun h17 => ?_)
      · refine RL.q (.yes rfl rfl rfl) rfl rfl (Yld.fieldAddr fo89_2 rfl) ?_
        refine RL.q (.yes rfl rfl rfl) rfl rfl (Yld.loadN (cs := bdC r.bd) a86 rfl (atN (fldN (hB1.mod hg35 (fun h => h)) 2 3))) ?_
        refine RL.q (.yes rfl rfl rfl) rfl rfl (Yld.fieldAddr fo32_2 rfl) ?_
        refine RL.q (.yes rfl rfl rfl) rfl rfl (Yld.load p23 rfl (at1 ((hB2.mod hg35 (fun h => h)).cell rfl))) ?_
        refine RL.op (.yes rfl rfl rfl) rfl rfl (Does.call rfl e115 (inR_ok r.bd a.val _)) ?_
        rintro _ w6 ⟨rfl, hg6⟩
        iterate 2 refine RL.p rfl rfl ?_
        refine RL.done ?_
        refine RK.ret_of Tryz.func154 (res1 rfl rfl) ?_ _
        exact ⟨_, rfl, by unfold sourceS; rw [hwk, h17]; rfl, (hg04.trans hg5).trans hg6⟩
      · iterate 5 refine RL.no (.no rfl rfl rfl rfl) rfl rfl ?_
        iterate 2 refine RL.p rfl rfl ?_
        refine RL.done ?_
        refine RK.ret_of Tryz.func154 (res1 rfl rfl) ?_ _
        exact ⟨_, rfl, by unfold sourceS; rw [hwk, show (r.src.all fun m => holdsM m a.ls) = false by simpa only [Bool.not_eq_true] using h17]; rfl, hg04.trans hg5⟩
    · iterate 5 refine RL.no (.no rfl rfl rfl rfl) rfl rfl ?_
      iterate 2 refine RL.p rfl rfl ?_
      iterate 5 refine RL.no (.no rfl rfl rfl rfl) rfl rfl ?_
      iterate 2 refine RL.p rfl rfl ?_
      refine RL.done ?_
      refine RK.ret_of Tryz.func154 (res1 rfl rfl) ?_ _
      exact ⟨_, rfl, by unfold sourceS worksRu; rw [h6, h10]; rfl, hg04⟩
  · iterate 3 refine RL.no (.no rfl rfl rfl rfl) rfl rfl ?_
    iterate 2 refine RL.p rfl rfl ?_
    iterate 5 refine RL.no (.no rfl rfl rfl rfl) rfl rfl ?_
    iterate 2 refine RL.p rfl rfl ?_
    iterate 5 refine RL.no (.no rfl rfl rfl rfl) rfl rfl ?_
    iterate 2 refine RL.p rfl rfl ?_
    refine RL.done ?_
    refine RK.ret_of Tryz.func154 (res1 rfl rfl) ?_ _
    exact ⟨_, rfl, by unfold sourceS worksRu; rw [show isRu r = false by simpa using h6]; rfl, hg03⟩
theorem mutes_ok (M M1 M2 : Nat → Prop) (r : Ru) (s t : Al) (w : World) (hr : r.Ok M w) (hs : AlOk M1 w s) (ht : AlOk M2 w t) : Fx Tryz.prog 111 [.agg (ruC r).toArray, .agg (alC s).toArray, .agg (alC t).toArray] w (fun u w' => u = .bool (mutesS r s t) ∧ Grow w w') := by
  refine enter Tryz.func111 rfl rfl rfl _ (Pick.sub (l := [0, 1, 2]) (.cons rfl (.cons rfl (.cons rfl .nil)))) ?_
  refine RK.seq ?_
  refine RK.region ?_
  refine RL.op (.free rfl) rfl rfl (Does.box rfl) ?_
  rintro _ w1 ⟨b1, rfl, hn1⟩
  refine RL.op (.free rfl) rfl rfl (Does.box rfl) ?_
  rintro _ w2 ⟨b2, rfl, hn2⟩
  refine RL.op (.free rfl) rfl rfl (Does.box rfl) ?_
  rintro _ w3 ⟨b3, rfl, hn3⟩
  have hB1 : Blk w3 b1 89 (ruC r) := (hn1.blk.mod hn2.grow (fun h => h)).mod hn3.grow (fun h => h)
  have hB2 : Blk w3 b2 32 (alC s) := hn2.blk.mod hn3.grow (fun h => h)
  have hB3 : Blk w3 b3 32 (alC t) := hn3.blk
  have hg3 := (hn1.grow.trans hn2.grow).trans hn3.grow
  have hgd := hg3.trans (Mod.drew No w3)
  refine RL.p rfl rfl ?_
  refine RL.done ?_
  refine RK.seq ?_
  refine RK.drawM No [(0, false), (1, false), (2, true), (3, false), (4, false), (5, false), (6, true), (7, false), (8, false), (9, false), (10, false), (11, true), (12, false), (13, false), (14, false), (15, false), (16, false), (18, false), (19, false), (17, true), (20, true), (21, false), (22, false), (23, false)] [] mixed (by kernel_rfl) ?_
  refine DL.q rfl (.free rfl) rfl rfl rfl (Yld.loadN (cs := ruC r) a89 rfl (atNM (blk0' hB1) (fun h => h))) (Mod.drew _ _) ?_
  refine DL.q rfl (.free rfl) rfl rfl rfl (Yld.loadN (cs := alC t) a32 rfl (atNM (blk0' hB3) (fun h => h))) (Mod.drew _ _) ?_
  refine DL.op rfl (.free rfl) rfl rfl (Does.call rfl e149 (target_ok M M2 r t _ (hr.mod (Mod.any' hgd)) (ht.mod (Mod.any' hgd)))) ?_
  rintro _ w4 ⟨rfl, hg4⟩
  have hd4 := (Mod.drew No w3).trans hg4
  have hg04 := hg3.trans hd4
  refine ⟨hd4, ?_⟩
  refine DL.p rfl rfl rfl ?_
  first | refine DL.splitD (d := 10) rfl rfl (fun h9 => ?_) (fun h9 => ?_) | refine DL.splitN (d := 10) rfl rfl (fun h9 => ?_) (fun h9 => ?_) | refine DL.split (d := 10) rfl rfl (fun h9 => ?_) (fun h9 => ?_)
  · refine DL.q rfl (.yes rfl rfl rfl) rfl rfl rfl (Yld.loadN (cs := ruC r) a89 rfl (atNM (blk0' hB1) (fun h => h))) (hd4) ?_
    refine DL.q rfl (.yes rfl rfl rfl) rfl rfl rfl (Yld.loadN (cs := alC s) a32 rfl (atNM (blk0' hB2) (fun h => h))) (hd4) ?_
    refine DL.op rfl (.yes rfl rfl rfl) rfl rfl (Does.call rfl e150 (source_ok M M1 r s _ (hr.mod (Mod.any' hg04)) (hs.mod (Mod.any' hg04)))) ?_
    rintro _ w5 ⟨rfl, hg5⟩
    have hd5 := hd4.trans hg5
    have hg05 := hg3.trans hd5
    refine ⟨hd5, ?_⟩
    iterate 2 refine DL.p rfl rfl rfl ?_
    first | refine DL.splitD (d := 15) rfl rfl (fun h14 => ?_) (fun h14 => ?_) | refine DL.splitN (d := 15) rfl rfl (fun h14 => ?_) (fun h14 => ?_) | refine DL.split (d := 15) rfl rfl (fun h14 => ?_) (fun h14 => ?_)
    · refine DL.q rfl (.yes rfl rfl rfl) rfl rfl rfl (Yld.loadN (cs := ruC r) a89 rfl (atNM (blk0' hB1) (fun h => h))) (hd5) ?_
      refine DL.q rfl (.yes rfl rfl rfl) rfl rfl rfl (Yld.loadN (cs := alC t) a32 rfl (atNM (blk0' hB3) (fun h => h))) (hd5) ?_
      refine DL.op rfl (.yes rfl rfl rfl) rfl rfl (Does.call rfl e150 (source_ok M M2 r t _ (hr.mod (Mod.any' hg05)) (ht.mod (Mod.any' hg05)))) ?_
      rintro _ w6 ⟨rfl, hg6⟩
      have hd6 := hd5.trans hg6
      have hg06 := hg3.trans hd6
      refine ⟨hd6, ?_⟩
      refine DL.qf rfl (.yes rfl rfl rfl) rfl rfl (Yld.pure rfl) ?_
      iterate 2 refine DL.p rfl rfl rfl ?_
      first | refine DL.splitD (d := 21) rfl rfl (fun h19 => ?_) (fun h19 => ?_) | refine DL.splitN (d := 21) rfl rfl (fun h19 => ?_) (fun h19 => ?_) | refine DL.split (d := 21) rfl rfl (fun h19 => ?_) (fun h19 => ?_)
      · have hno : sourceS r t.ls t.val = false := by simpa using h19
        have h4 := target_le h9
        refine DL.q rfl (.yes rfl rfl rfl) rfl rfl rfl (Yld.loadN (cs := ruC r) a89 rfl (atNM (blk0' hB1) (fun h => h))) (hd6) ?_
        refine DL.q rfl (.yes rfl rfl rfl) rfl rfl rfl (Yld.loadN (cs := alC s) a32 rfl (atNM (blk0' hB2) (fun h => h))) (hd6) ?_
        refine DL.q rfl (.yes rfl rfl rfl) rfl rfl rfl (Yld.loadN (cs := ruC r) a89 rfl (atNM (blk0' hB1) (fun h => h))) (hd6) ?_
        refine DL.q rfl (.yes rfl rfl rfl) rfl rfl rfl (Yld.loadN (cs := alC t) a32 rfl (atNM (blk0' hB3) (fun h => h))) (hd6) ?_
        refine DL.op rfl (.yes rfl rfl rfl) rfl rfl (Does.call rfl e151 (ruleKey_ok M M1 r h4 s hs.z _ (hr.mod (Mod.any' hg06)) (hs.l.mod (Mod.any' hg06)))) ?_
        rintro _ w7 ⟨rfl, hg7⟩
        have hd7 := hd6.trans hg7
        have hg07 := hg3.trans hd7
        refine ⟨hd7, ?_⟩
        refine DL.op rfl (.yes rfl rfl rfl) rfl rfl (Does.call rfl e151 (ruleKey_ok M M2 r h4 t ht.z _ (hr.mod (Mod.any' hg07)) (ht.l.mod (Mod.any' hg07)))) ?_
        rintro _ w8 ⟨rfl, hg8⟩
        refine ⟨hd7.trans hg8, ?_⟩
        refine DL.qf rfl (.yes rfl rfl rfl) rfl rfl (Yld.pure rfl) ?_
        iterate 2 refine DL.p rfl rfl rfl ?_
        refine DL.done ?_
        refine RK.ret_of Tryz.func111 (res1 rfl rfl) ?_ _
        exact ⟨_, rfl, by unfold mutesS; rw [h9, h14, hno]; rfl, hg3.trans (hd7.trans hg8)⟩
      · iterate 4 refine DL.no rfl (.no rfl rfl rfl rfl) rfl rfl ?_
        iterate 2 refine DL.lno rfl (.no rfl rfl rfl rfl) rfl rfl ?_
        refine DL.no rfl (.no rfl rfl rfl rfl) rfl rfl ?_
        iterate 2 refine DL.p rfl rfl rfl ?_
        refine DL.done ?_
        refine RK.ret_of Tryz.func111 (res1 rfl rfl) ?_ _
        exact ⟨_, rfl, by unfold mutesS; rw [h9, h14, show sourceS r t.ls t.val = true by simpa using h19]; rfl, hg06⟩
    · iterate 2 refine DL.no rfl (.no rfl rfl rfl rfl) rfl rfl ?_
      refine DL.lno rfl (.no rfl rfl rfl rfl) rfl rfl ?_
      refine DL.no rfl (.no rfl rfl rfl rfl) rfl rfl ?_
      iterate 2 refine DL.p rfl rfl rfl ?_
      iterate 4 refine DL.no rfl (.no rfl rfl rfl rfl) rfl rfl ?_
      iterate 2 refine DL.lno rfl (.no rfl rfl rfl rfl) rfl rfl ?_
      refine DL.no rfl (.no rfl rfl rfl rfl) rfl rfl ?_
      iterate 2 refine DL.p rfl rfl rfl ?_
      refine DL.done ?_
      refine RK.ret_of Tryz.func111 (res1 rfl rfl) ?_ _
      exact ⟨_, rfl, by unfold mutesS; rw [h9, show sourceS r s.ls s.val = false by simpa using h14]; rfl, hg05⟩
  · iterate 2 refine DL.no rfl (.no rfl rfl rfl rfl) rfl rfl ?_
    refine DL.lno rfl (.no rfl rfl rfl rfl) rfl rfl ?_
    iterate 2 refine DL.p rfl rfl rfl ?_
    iterate 2 refine DL.no rfl (.no rfl rfl rfl rfl) rfl rfl ?_
    refine DL.lno rfl (.no rfl rfl rfl rfl) rfl rfl ?_
    refine DL.no rfl (.no rfl rfl rfl rfl) rfl rfl ?_
    iterate 2 refine DL.p rfl rfl rfl ?_
    iterate 4 refine DL.no rfl (.no rfl rfl rfl rfl) rfl rfl ?_
    iterate 2 refine DL.lno rfl (.no rfl rfl rfl rfl) rfl rfl ?_
    refine DL.no rfl (.no rfl rfl rfl rfl) rfl rfl ?_
    iterate 2 refine DL.p rfl rfl rfl ?_
    refine DL.done ?_
    refine RK.ret_of Tryz.func111 (res1 rfl rfl) ?_ _
    exact ⟨_, rfl, by unfold mutesS; rw [show targetS r t.ls = false by simpa using h9]; rfl, hg04⟩
theorem mutesR_ok (M M1 M2 : Nat → Prop) (r : Ru) (s t : Al) (w : World) (hr : r.Ok M w) (hz : r.Sz) (hs : AlOk M1 w s) (ht : AlOk M2 w t) : Fx Tryz.prog 116 [.agg (ruC r).toArray, .agg (alC s).toArray, .agg (alC t).toArray] w (fun u w' => u = .bool (mutesS r s t) ∧ Grow w w') := by
  obtain ⟨ade, ce, hve⟩ := hr.e.shape
  have hbig := hr.e.big
  refine enter Tryz.func116 rfl rfl rfl _ (Pick.sub (l := [0, 1, 2]) (.cons rfl (.cons rfl (.cons rfl .nil)))) ?_
  refine RK.seq ?_
  refine RK.region ?_
  refine RL.op (.free rfl) rfl rfl (Does.box rfl) ?_
  rintro _ w1 ⟨b1, rfl, hn1⟩
  refine RL.op (.free rfl) rfl rfl (Does.box rfl) ?_
  rintro _ w2 ⟨b2, rfl, hn2⟩
  refine RL.op (.free rfl) rfl rfl (Does.box rfl) ?_
  rintro _ w3 ⟨b3, rfl, hn3⟩
  have hB1 : Blk w3 b1 89 (ruC r) := (hn1.blk.mod hn2.grow (fun h => h)).mod hn3.grow (fun h => h)
  have hB2 : Blk w3 b2 32 (alC s) := hn2.blk.mod hn3.grow (fun h => h)
  have hB3 : Blk w3 b3 32 (alC t) := hn3.blk
  have hg3 := (hn1.grow.trans hn2.grow).trans hn3.grow
  refine RL.p rfl rfl ?_
  refine RL.done ?_
  iterate 2 refine RK.seq ?_
  refine RK.region ?_
  refine RL.q (.free rfl) rfl rfl (Yld.loadN (cs := ruC r) a89 rfl (atN (blk0' hB1))) ?_
  refine RL.q (.free rfl) rfl rfl (Yld.loadN (cs := alC t) a32 rfl (atN (blk0' hB3))) ?_
  refine RL.op (.free rfl) rfl rfl (Does.call rfl e153 (targetR_ok M M2 r t _ (hr.mod (Mod.any' hg3)) hz (ht.mod (Mod.any' hg3)))) ?_
  rintro _ w4 ⟨rfl, hg4⟩
  have hg04 := hg3.trans hg4
  iterate 2 refine RL.p rfl rfl ?_
  first | refine RL.splitD (d := 12) rfl rfl (fun h11 => ?_) (fun h11 => ?_) | refine RL.splitN (d := 12) rfl rfl (fun h11 => ?_) (fun h11 => ?_) | refine RL.split (d := 12) rfl rfl (fun h11 => ?_) (fun h11 => ?_)
  · iterate 4 refine RL.no (.no rfl rfl rfl rfl) rfl rfl ?_
    iterate 2 refine RL.p rfl rfl ?_
    iterate 3 refine RL.no (.no rfl rfl rfl rfl) rfl rfl ?_
    refine RL.p rfl rfl ?_
    refine RL.done ?_
    refine RK.condT rfl ?_
    refine RK.seq ?_
    refine RK.region ?_
    refine RL.p rfl rfl ?_
    refine RL.done ?_
    refine RK.ret_of Tryz.func116 (res1 rfl rfl) ?_ _
    exact ⟨_, rfl, by unfold mutesS; rw [show targetS r t.ls = false by simpa using h11]; rfl, hg04⟩
  · have h9 : targetS r t.ls = true := by simpa using h11
    refine RL.q (.yes rfl rfl rfl) rfl rfl (Yld.loadN (cs := ruC r) a89 rfl (atN (blk0' (hB1.mod hg4 (fun h => h))))) ?_
    refine RL.q (.yes rfl rfl rfl) rfl rfl (Yld.loadN (cs := alC s) a32 rfl (atN (blk0' (hB2.mod hg4 (fun h => h))))) ?_
    refine RL.op (.yes rfl rfl rfl) rfl rfl (Does.call rfl e154 (sourceR_ok M M1 r s _ (hr.mod (Mod.any' hg04)) hz (hs.mod (Mod.any' hg04)))) ?_
    rintro _ w5 ⟨rfl, hg5⟩
    have hg35 := hg4.trans hg5
    have hg05 := hg3.trans hg35
    refine RL.q (.yes rfl rfl rfl) rfl rfl (Yld.pure rfl) ?_
    iterate 2 refine RL.p rfl rfl ?_
    first | refine RL.splitD (d := 18) rfl rfl (fun h16 => ?_) (fun h16 => ?_) | refine RL.splitN (d := 18) rfl rfl (fun h16 => ?_) (fun h16 => ?_) | refine RL.split (d := 18) rfl rfl (fun h16 => ?_) (fun h16 => ?_)
    · iterate 3 refine RL.no (.no rfl rfl rfl rfl) rfl rfl ?_
      refine RL.p rfl rfl ?_
      refine RL.done ?_
      refine RK.condT rfl ?_
      refine RK.seq ?_
      refine RK.region ?_
      refine RL.p rfl rfl ?_
      refine RL.done ?_
      refine RK.ret_of Tryz.func116 (res1 rfl rfl) ?_ _
      exact ⟨_, rfl, by unfold mutesS; rw [h9, show sourceS r s.ls s.val = false by simpa using h16]; rfl, hg05⟩
    · have h14 : sourceS r s.ls s.val = true := by simpa using h16
      refine RL.q (.yes rfl rfl rfl) rfl rfl (Yld.loadN (cs := ruC r) a89 rfl (atN (blk0' (hB1.mod hg35 (fun h => h))))) ?_
      refine RL.q (.yes rfl rfl rfl) rfl rfl (Yld.loadN (cs := alC t) a32 rfl (atN (blk0' (hB3.mod hg35 (fun h => h))))) ?_
      refine RL.op (.yes rfl rfl rfl) rfl rfl (Does.call rfl e154 (sourceR_ok M M2 r t _ (hr.mod (Mod.any' hg05)) hz (ht.mod (Mod.any' hg05)))) ?_
      rintro _ w6 ⟨rfl, hg6⟩
      have hg36 := hg35.trans hg6
      have hg06 := hg3.trans hg36
      refine RL.p rfl rfl ?_
      refine RL.done ?_
      first | refine RK.condD rfl (fun h21 => ?_) (fun h21 => ?_) | refine RK.condN rfl (fun h21 => ?_) (fun h21 => ?_) | refine RK.cond rfl (fun h21 => ?_) (fun h21 => ?_)
      · refine RK.seq ?_
        refine RK.region ?_
        refine RL.p rfl rfl ?_
        refine RL.done ?_
        refine RK.ret_of Tryz.func116 (res1 rfl rfl) ?_ _
        exact ⟨_, rfl, by unfold mutesS; rw [h9, h14, show sourceS r t.ls t.val = true from h21]; rfl, hg06⟩
      · have hno : sourceS r t.ls t.val = false := by simpa using h21
        have hC1 : Blk w6 b1 89 [r.sv, r.tv, .bool r.bd.all, .float .f64 r.bd.lo, .float .f64 r.bd.hi, .slice ade r.eq.length ce] := by have := hB1.mod hg36 (fun h => h); rw [ruC, hve] at this; exact this
        have hC2 : Blk w6 b2 32 [.int .i64 s.id, s.v, .float .f64 s.val] := hB2.mod hg36 (fun h => h)
        have hC3 : Blk w6 b3 32 [.int .i64 t.id, t.v, .float .f64 t.val] := hB3.mod hg36 (fun h => h)
        have hre : Sl M w (.slice ade r.eq.length ce) 1 r.eq.length (strsV r.eq) := hve ▸ hr.e
        refine RK.skip ?_
        iterate 2 refine RK.seq ?_
        refine RK.region ?_
        refine RL.p rfl rfl ?_
        refine RL.done ?_
        refine RK.block ?_
        refine RK.loop (fun k : Nat => [(3, pp b1), (4, pp b2), (5, pp b3), (7, .int .i64 (k : Int))]) (fun k w' => Grow w6 w' ∧ k ≤ r.eq.length ∧ ∀ i x, i < k → r.eq[i]? = some x → getL s.ls x = getL t.ls x) (fun k => r.eq.length - k) 0 ⟨rfl, rfl, rfl, rfl, trivial⟩ ⟨Mod.refl _ _, by omega, fun i x h => by omega⟩ (fun k w' hI ih => ?_)
        obtain ⟨hg, hk, hall⟩ := hI
        have hg0 := hg06.trans hg
        iterate 2 refine RK.seq ?_
        refine RK.region ?_
        refine RL.p rfl rfl ?_
        refine RL.q (.free rfl) rfl rfl (Yld.fieldAddr fo89_3 rfl) ?_
        refine RL.q (.free rfl) rfl rfl (Yld.load p87 rfl (at1 ((hC1.mod hg (fun h => h)).cell rfl))) ?_
        refine RL.q (.free rfl) rfl rfl (Yld.lenSl u87 rfl) ?_
        refine RL.p rfl rfl ?_
        refine RL.done ?_
        first | refine RK.condD rfl (fun h27 => ?_) (fun h27 => ?_) | refine RK.condN rfl (fun h27 => ?_) (fun h27 => ?_) | refine RK.cond rfl (fun h27 => ?_) (fun h27 => ?_)
        · obtain ⟨x, hx⟩ : ∃ x, r.eq[k]? = some x := ⟨r.eq[k]'(by omega), List.getElem?_eq_getElem (by omega)⟩
          obtain ⟨b9, o9, c', he1, _, _, hc1⟩ := (hre.mod (Mod.any' hg0)).elem1 (k := k) (u := .string x) (by simp [strsV, hx])
          cases he1
          have hgd := hg0.trans (Mod.drew No w')
          refine RK.skip ?_
          refine RK.seq ?_
          refine RK.block ?_
          refine RK.seq ?_
          refine RK.drawM No [(0, false), (1, false), (2, false), (3, false), (4, false), (5, false), (6, false), (8, false), (9, false), (10, false), (11, false), (12, false), (13, false), (14, false), (7, true), (15, true), (16, false)] [] mixed (by kernel_rfl) ?_
          refine DL.qf rfl (.free rfl) rfl rfl (Yld.fieldAddr fo32_1 rfl) ?_
          refine DL.q rfl (.free rfl) rfl rfl rfl (Yld.load p26 rfl (atM ((hC3.mod hg (fun h => h)).cell rfl) (fun h => h))) (Mod.drew _ _) ?_
          refine DL.qf rfl (.free rfl) rfl rfl (Yld.fieldAddr fo89_3 rfl) ?_
          refine DL.q rfl (.free rfl) rfl rfl rfl (Yld.load p87 rfl (atM ((hC1.mod hg (fun h => h)).cell rfl) (fun h => h))) (Mod.drew _ _) ?_
          refine DL.p rfl rfl rfl ?_
          refine DL.qf rfl (.free rfl) rfl rfl (Yld.indexAddrN u87 i9 rfl rfl (by omega)) ?_
          refine DL.q rfl (.free rfl) rfl rfl rfl (Yld.load p9 rfl (atM (hc1 k (.string x) (by simp [strsV, hx])) (fun h => h))) (Mod.drew _ _) ?_
          refine DL.qf rfl (.free rfl) rfl rfl (Yld.fieldAddr fo32_1 rfl) ?_
          refine DL.q rfl (.free rfl) rfl rfl rfl (Yld.load p26 rfl (atM ((hC2.mod hg (fun h => h)).cell rfl) (fun h => h))) (Mod.drew _ _) ?_
          refine DL.qf rfl (.free rfl) rfl rfl (Yld.fieldAddr fo89_3 rfl) ?_
          refine DL.q rfl (.free rfl) rfl rfl rfl (Yld.load p87 rfl (atM ((hC1.mod hg (fun h => h)).cell rfl) (fun h => h))) (Mod.drew _ _) ?_
          refine DL.p rfl rfl rfl ?_
          refine DL.qf rfl (.free rfl) rfl rfl (Yld.indexAddrN u87 i9 rfl rfl (by omega)) ?_
          refine DL.q rfl (.free rfl) rfl rfl rfl (Yld.load p9 rfl (atM (hc1 k (.string x) (by simp [strsV, hx])) (fun h => h))) (Mod.drew _ _) ?_
          refine DL.op rfl (.free rfl) rfl rfl (Does.call rfl e43 (getLabel_ok M2 t.ls t.v x _ (ht.l.mod (Mod.any' hgd)))) ?_
          rintro _ _ ⟨rfl, rfl⟩
          refine ⟨Mod.drew _ _, ?_⟩
          refine DL.op rfl (.free rfl) rfl rfl (Does.call rfl e43 (getLabel_ok M1 s.ls s.v x _ (hs.l.mod (Mod.any' hgd)))) ?_
          rintro _ _ ⟨rfl, rfl⟩
          refine ⟨Mod.drew _ _, ?_⟩
          refine DL.p rfl rfl rfl ?_
          refine DL.done ?_
          first | refine RK.condD rfl (fun h46 => ?_) (fun h46 => ?_) | refine RK.condN rfl (fun h46 => ?_) (fun h46 => ?_) | refine RK.cond rfl (fun h46 => ?_) (fun h46 => ?_)
          · refine RK.seq ?_
            refine RK.region ?_
            refine RL.p rfl rfl ?_
            refine RL.done ?_
            refine RK.ret_of Tryz.func116 (res1 rfl rfl) ?_ _
            exact ⟨_, rfl, by
                have hne : keyT r.eq s.ls ≠ keyT r.eq t.ls := fun e => h46 ((keyT_iff _ _ _).1 e x (List.mem_of_getElem? hx)).symm
                unfold mutesS; rw [h9, h14, hno, decide_eq_false hne]; rfl, hgd⟩
          · have hyes : getL s.ls x = getL t.ls x := h46.symm
            refine RK.skip ?_
            refine RK.inBlock ?_
            refine RK.region ?_
            iterate 2 refine RL.p rfl rfl ?_
            refine RL.re (d := 29) rfl rfl (succ_i64 (by omega)) ?_
            refine RL.p rfl rfl ?_
            refine RL.done ?_
            exact RK.back (ih (k + 1) _ ⟨hg.trans (Mod.drew _ _), by omega, fun i y hi hy => by by_cases e : i = k; (subst e; rw [hx] at hy; cases hy; exact hyes); exact hall i y (by omega) hy⟩ (by omega)) ⟨rfl, rfl, rfl, rfl, trivial⟩
        · refine RK.exit rfl ?_
          refine RK.seq ?_
          refine RK.region ?_
          refine RL.p rfl rfl ?_
          refine RL.done ?_
          refine RK.ret_of Tryz.func116 (res1 rfl rfl) ?_ _
          exact ⟨_, rfl, by
              have he : keyT r.eq s.ls = keyT r.eq t.ls := (keyT_iff _ _ _).2 fun x hx => by
                obtain ⟨i, hi⟩ := List.getElem?_of_mem hx
                exact hall i x (by have := (List.getElem?_eq_some_iff.1 hi).1; omega) hi
              unfold mutesS; rw [h9, h14, hno, decide_eq_true he]; rfl, hg0⟩
end Go.Proofs.YtffbcfcoddacmaaGreat
set_option linter.unusedVariables false
set_option linter.unusedSimpArgs false
set_option maxHeartbeats 2000000
set_option maxRecDepth 100000
namespace Go.Proofs.YtffbcfcoddacmaaGreat
open Go Go.X Go.Rex
structure Sil where
  id : Int
  ver : Int
  start : Int
  stop : Int
  mv : Value
  ms : List Mt
  bd : Bd
def silC (s : Sil) : List Value := [.int .i64 s.id, .int .i64 s.ver, .int .u64 s.start, .int .u64 s.stop, s.mv, .bool s.bd.all, .float .f64 s.bd.lo, .float .f64 s.bd.hi]
theorem silC_len (s : Sil) : (silC s).length = 8 := rfl
theorem silC_one {M : Nat → Prop} {w : World} {s : Sil} (h : SlM M w s.mv s.ms) : ((Value.agg (silC s).toArray).cells.toList.all fun x => x.oneCell') = true := by
  obtain ⟨ad, c, e⟩ := h.shape
  show (silC s).all _ = true
  unfold silC
  rw [e]; rfl
theorem ruC_one {M : Nat → Prop} {w : World} {r : Ru} (h : r.Ok M w) : ((Value.agg (ruC r).toArray).cells.toList.all fun x => x.oneCell') = true := by
  obtain ⟨ad, c, e⟩ := h.s.shape
  obtain ⟨ad2, c2, e2⟩ := h.t.shape
  obtain ⟨ad3, c3, e3⟩ := h.e.shape
  show (ruC r).all _ = true
  unfold ruC
  rw [e, e2, e3]; rfl
theorem alC_one {M : Nat → Prop} {w : World} {a : Al} (h : AlOk M w a) : ((Value.agg (alC a).toArray).cells.toList.all fun x => x.oneCell') = true := by
  obtain ⟨ad, c, e⟩ := h.l.shape
  show (alC a).all _ = true
  unfold alC
  rw [e]; rfl
noncomputable def silHolds (now : Int) (t : Al) (s : Sil) : Bool := decide (stateS now s.start s.stop = 2) && ((s.ms.all fun m => holdsM m t.ls) && inBd s.bd t.val)
noncomputable def silS (now : Int) (t : Al) (l : List Sil) : List Int := (l.filter (silHolds now t)).map (·.id)
theorem silS_snoc {l : List Sil} {k : Nat} {s : Sil} (h : l[k]? = some s) (now : Int) (t : Al) : silS now t (l.take (k + 1)) = silS now t (l.take k) ++ (if silHolds now t s = true then [s.id] else []) := by
  have hk := (List.getElem?_eq_some_iff.1 h).1
  unfold silS
  rw [List.take_succ_eq_append_getElem hk, (List.getElem?_eq_some_iff.1 h).2, List.filter_append, List.map_append]
  by_cases e : silHolds now t s = true <;> simp [e]
theorem silS_len (now : Int) (t : Al) (l : List Sil) : (silS now t l).length ≤ l.length := by unfold silS; rw [List.length_map]; exact List.length_filter_le _ _
noncomputable def mutOf (r : Ru) (t : Al) (l : List Al) : List Int := (l.filter fun s => mutesS r s t).map (·.id)
theorem mutOf_snoc {l : List Al} {k : Nat} {s : Al} (h : l[k]? = some s) (r : Ru) (t : Al) : mutOf r t (l.take (k + 1)) = mutOf r t (l.take k) ++ (if mutesS r s t = true then [s.id] else []) := by
  have hk := (List.getElem?_eq_some_iff.1 h).1
  unfold mutOf
  rw [List.take_succ_eq_append_getElem hk, (List.getElem?_eq_some_iff.1 h).2, List.filter_append, List.map_append]
  by_cases e : mutesS r s t = true <;> simp [e]
theorem mutOf_len (r : Ru) (t : Al) (l : List Al) : (mutOf r t l).length ≤ l.length := by unfold mutOf; rw [List.length_map]; exact List.length_filter_le _ _
noncomputable def mutS (t : Al) (l : List Al) (rs : List Ru) : List Int := rs.flatMap fun r => mutOf r t l
theorem mutS_snoc {rs : List Ru} {k : Nat} {r : Ru} (h : rs[k]? = some r) (t : Al) (l : List Al) : mutS t l (rs.take (k + 1)) = mutS t l (rs.take k) ++ mutOf r t l := by
  have hk := (List.getElem?_eq_some_iff.1 h).1
  unfold mutS
  rw [List.take_succ_eq_append_getElem hk, (List.getElem?_eq_some_iff.1 h).2, List.flatMap_append]
  simp
theorem mutS_len (t : Al) (l : List Al) : ∀ rs : List Ru, (mutS t l rs).length ≤ rs.length * l.length
  | [] => by simp [mutS]
  | r :: rs => by
    have h1 := mutS_len t l rs
    have h2 := mutOf_len r t l
    unfold mutS at h1 ⊢
    rw [List.flatMap_cons, List.length_append, List.length_cons, Nat.add_mul]
    omega
structure PlainIn (w : World) (t : Al) (sils : List Sil) (vs : Value) (als : List Al) (va : Value) (rs : List Ru) (vr : Value) : Prop where
  t : AlOk No w t
  s : Sl No w vs 8 sils.length (sils.flatMap silC)
  sm : ∀ s ∈ sils, SlM No w s.mv s.ms
  a : Sl No w va 3 als.length (als.flatMap alC)
  al : ∀ a ∈ als, AlOk No w a
  r : Sl No w vr 6 rs.length (rs.flatMap ruC)
  rl : ∀ r ∈ rs, r.Ok No w
  n1 : sils.length ≤ 1000
  n2 : als.length ≤ 1000
  n3 : rs.length ≤ 1000
theorem PlainIn.mod {w w' : World} {t : Al} {sils : List Sil} {vs : Value} {als : List Al} {va : Value} {rs : List Ru} {vr : Value} (h : PlainIn w t sils vs als va rs vr) (hg : Grow w w') : PlainIn w' t sils vs als va rs vr :=
  ⟨h.t.mod hg, h.s.mod hg, fun s hs => (h.sm s hs).mod hg, h.a.mod hg, fun a ha => (h.al a ha).mod hg, h.r.mod hg, fun r hr => (h.rl r hr).mod hg, h.n1, h.n2, h.n3⟩
theorem plainX_ok (now : Int) (t : Al) (sils : List Sil) (vs : Value) (als : List Al) (va : Value) (rs : List Ru) (vr : Value) (w : World) (h : PlainIn w t sils vs als va rs vr) :
    Fx Tryz.prog 55 [.int .u64 now, .agg (alC t).toArray, vs, va, vr] w (fun u w' => ∃ v1 v2, u = .tuple #[v1, v2] ∧ Row w' 3 1 v1 (mkRow (silS now t sils)).length (ints (mkRow (silS now t sils))) ∧ Row w' 3 1 v2 (mkRow (mutS t als rs)).length (ints (mkRow (mutS t als rs))) ∧ (Fresh w.heap.size v1 ∧ Fresh w.heap.size v2) ∧ Grow w w') := by
  obtain ⟨ads, cs, rfl⟩ := h.s.shape
  obtain ⟨ada, ca, rfl⟩ := h.a.shape
  obtain ⟨adr, cr, rfl⟩ := h.r.shape
  obtain ⟨adt, ct, htv⟩ := h.t.l.shape
  have hn1 := h.n1
  have hn2 := h.n2
  have hn3 := h.n3
  refine enter Tryz.func55 rfl rfl rfl _ (Pick.sub (l := [0, 1, 2, 3, 4]) (.cons rfl (.cons rfl (.cons rfl (.cons rfl (.cons rfl .nil)))))) ?_
  refine RK.seq ?_
  refine RK.region ?_
  refine RL.op (.free rfl) rfl rfl (Does.box rfl) ?_
  rintro _ w6 ⟨b6, rfl, hn6⟩
  have hB6 : Blk w6 b6 32 [.int .i64 t.id, t.v, .float .f64 t.val] := hn6.blk
  iterate 2 refine RL.p rfl rfl ?_
  refine RL.done ?_
  refine RK.seq ?_
  refine RK.region ?_
  iterate 2 refine RL.p rfl rfl ?_
  refine RL.done ?_
  iterate 2 refine RK.seq ?_
  refine RK.region ?_
  refine RL.p rfl rfl ?_
  refine RL.q (.free rfl) rfl rfl (Yld.lenSl u96 rfl) ?_
  refine RL.p rfl rfl ?_
  refine RL.done ?_
  refine RK.block ?_
  refine RK.loop (fun s : Nat × Value => [(0, .int .u64 now), (3, .slice ada als.length ca), (4, .slice adr rs.length cr), (6, pp b6), (12, s.2), (13, .slice none 0 0), (20, .slice ads sils.length cs), (21, .int .i64 (sils.length : Int)), (22, .int .i64 (s.1 : Int))]) (fun s w' => Row w' 3 1 s.2 (silS now t (sils.take s.1)).length (ints (silS now t (sils.take s.1))) ∧ Fresh w6.heap.size s.2 ∧ Grow w6 w' ∧ s.1 ≤ sils.length) (fun s => sils.length - s.1) (0, .slice none 0 0) ⟨rfl, rfl, rfl, rfl, rfl, rfl, rfl, rfl, rfl, trivial⟩ ⟨by simpa [silS] using Row.nil _ _ _, fun b e => by simp [Value.ownBlock] at e, Mod.refl _ _, by simp⟩ (fun s w' hI ih => ?_)
  obtain ⟨k, u⟩ := s
  obtain ⟨hr, hf, hg, hk⟩ := hI
  simp only at hr hf hk
  refine RK.seq ?_
  refine RK.region ?_
  refine RL.p rfl rfl ?_
  refine RL.done ?_
  refine RK.seq ?_
  first | refine RK.condD rfl (fun h23 => ?_) (fun h23 => ?_) | refine RK.condN rfl (fun h23 => ?_) (fun h23 => ?_) | refine RK.cond rfl (fun h23 => ?_) (fun h23 => ?_)
  · obtain ⟨s, hs⟩ : ∃ s, sils[k]? = some s := ⟨sils[k]'(by omega), List.getElem?_eq_getElem (by omega)⟩
    have h1 := h.mod (hn6.grow.trans hg)
    obtain ⟨b1, o1, c1', he1, _, _, hc1⟩ := h1.s.elem silC_len hs
    cases he1
    have hsm := h1.sm s (List.mem_of_getElem? hs)
    have hsn := silS_snoc hs now t
    have hsl := silS_len now t (sils.take k)
    have hsl2 : (sils.take k).length ≤ k := by simp; omega
    refine RK.skip ?_
    refine RK.seq ?_
    refine RK.block ?_
    refine RK.seq ?_
    refine RK.region ?_
    refine RL.q (.free rfl) rfl rfl (Yld.indexAddrN u96 i95 rfl rfl (by omega)) ?_
    refine RL.q (.free rfl) rfl rfl (Yld.loadN (cs := silC s) a95 rfl (atN (fun q z hq => hc1 q z hq))) ?_
    refine RL.op (.free rfl) rfl rfl (Does.alloc i95) ?_
    rintro _ w1 ⟨b15, rfl, hn15⟩
    refine RL.op' (.free rfl) rfl (Does.storeN i95 rfl rfl rfl (silC_one hsm) hn15.blk (Nat.le_refl 8)) ?_
    rintro _ w2 ⟨hb2, hm2, _⟩
    have hg2' : Grow w' w2 := hn15.grow.then hm2 (fun y hy e => by have e' : y = b15 := e; have := hn15.at_; omega)
    have hg2 := hg.trans hg2'
    have hB2 : Blk w2 b15 95 [.int .i64 s.id, .int .i64 s.ver, .int .u64 s.start, .int .u64 s.stop, s.mv, .bool s.bd.all, .float .f64 s.bd.lo, .float .f64 s.bd.hi] := hb2
    have hB6b := hB6.mod hg2 (fun h => h)
    refine RL.done ?_
    refine RK.seq ?_
    refine RK.region ?_
    refine RL.p rfl rfl ?_
    refine RL.q (.free rfl) rfl rfl (Yld.fieldAddr fo95_2 rfl) ?_
    refine RL.q (.free rfl) rfl rfl (Yld.load p36 rfl (at1 (hB2.cell rfl))) ?_
    refine RL.q (.free rfl) rfl rfl (Yld.fieldAddr fo95_3 rfl) ?_
    refine RL.q (.free rfl) rfl rfl (Yld.load p36 rfl (at1 (hB2.cell rfl))) ?_
    refine RL.op (.free rfl) rfl rfl (Does.call rfl e109 (state_ok now s.start s.stop _)) ?_
    rintro _ _ ⟨rfl, rfl⟩
    iterate 2 refine RL.p rfl rfl ?_
    first | refine RL.splitD (d := 33) rfl rfl (fun h32 => ?_) (fun h32 => ?_) | refine RL.splitN (d := 33) rfl rfl (fun h32 => ?_) (fun h32 => ?_) | refine RL.split (d := 33) rfl rfl (fun h32 => ?_) (fun h32 => ?_)
    · refine RL.q (.yes rfl rfl rfl) rfl rfl (Yld.fieldAddr fo95_4 rfl) ?_
      refine RL.q (.yes rfl rfl rfl) rfl rfl (Yld.load p51 rfl (at1 (hB2.cell rfl))) ?_
      refine RL.q (.yes rfl rfl rfl) rfl rfl (Yld.fieldAddr fo32_1 rfl) ?_
      refine RL.q (.yes rfl rfl rfl) rfl rfl (Yld.load p26 rfl (at1 (hB6b.cell rfl))) ?_
      refine RL.op (.yes rfl rfl rfl) rfl rfl (Does.call rfl e90 (allM_ok holdsM s.ms (fun m _ => matchHolds_ok m) No No t.ls h.t.z _ _ _ (hsm.mod hg2') (h.t.l.mod (hn6.grow.trans hg2)))) ?_
      rintro _ w3 ⟨rfl, hg3⟩
      have hg23 := hg2.trans hg3
      have hB3 := hB2.mod hg3 (fun h => h)
      have hB6c := hB6b.mod hg3 (fun h => h)
      iterate 2 refine RL.p rfl rfl ?_
      first | refine RL.splitD (d := 40) rfl rfl (fun h39 => ?_) (fun h39 => ?_) | refine RL.splitN (d := 40) rfl rfl (fun h39 => ?_) (fun h39 => ?_) | refine RL.split (d := 40) rfl rfl (fun h39 => ?_) (fun h39 => ?_)
      · refine RL.q (.yes rfl rfl rfl) rfl rfl (Yld.fieldAddr fo95_5 rfl) ?_
        refine RL.q (.yes rfl rfl rfl) rfl rfl (Yld.loadN (cs := bdC s.bd) a86 rfl (atN (fldN hB3 5 3))) ?_
        refine RL.q (.yes rfl rfl rfl) rfl rfl (Yld.fieldAddr fo32_2 rfl) ?_
        refine RL.q (.yes rfl rfl rfl) rfl rfl (Yld.load p23 rfl (at1 (hB6c.cell rfl))) ?_
        refine RL.op (.yes rfl rfl rfl) rfl rfl (Does.call rfl e110 (in_band_ok s.bd t.val _)) ?_
        rintro _ w4 ⟨rfl, hg4⟩
        have hg24 := hg23.trans hg4
        have hr4 := hr.mod ((hg2'.trans hg3).trans hg4) (fun _ _ h => h)
        refine RL.p rfl rfl ?_
        refine RL.done ?_
        first | refine RK.condD rfl (fun h46 => ?_) (fun h46 => ?_) | refine RK.condN rfl (fun h46 => ?_) (fun h46 => ?_) | refine RK.cond rfl (fun h46 => ?_) (fun h46 => ?_)
        · have hyes : silHolds now t s = true := by unfold silHolds; rw [decide_eq_true h32, h39, h46]; rfl
          refine RK.region ?_
          refine RL.p rfl rfl ?_
          refine RL.q (.free rfl) rfl rfl (Yld.fieldAddr fo95_0 rfl) ?_
          refine RL.q (.free rfl) rfl rfl (Yld.load p3 rfl (at1 ((hB3.mod hg4 (fun h => h)).cell rfl))) ?_
          refine RL.op (.free rfl) rfl rfl (Does.slice1 u22 i3 rfl rfl rfl rfl rfl) ?_
          rintro _ w5 ⟨b7, rfl, hn7⟩
          refine RL.op (.free rfl) rfl rfl (Does.append u22 i3 rfl rfl rfl rfl rfl (hr4.mod hn7.grow (fun _ _ h => h)) (Sl.new hn7 1 1 rfl (by omega) (fun h => h)) (rfl) (by omega)) ?_
          rintro z8 w8 ⟨hr8, hm8, hu8⟩
          have hs7 := hn7.grow.size
          have hs4 := hg24.size
          refine RL.p rfl rfl ?_
          refine RL.done ?_
          refine RK.inBlock ?_
          refine RK.region ?_
          refine RL.p rfl rfl ?_
          refine RL.re (d := 52) rfl rfl (succ_i64 (by omega)) ?_
          refine RL.p rfl rfl ?_
          refine RL.done ?_
          exact RK.back (ih (k + 1, z8) _ ⟨by
              simp only
              rw [hsn, if_pos hyes]
              have e1 : ints (silS now t (sils.take k) ++ [s.id]) = ints (silS now t (sils.take k)) ++ (Value.int .i64 s.id).cells.toList := by simp [ints, Value.cells]
              rw [e1, List.length_append]; exact hr8, fun b e => by
              rcases hu8 with h1 | h1
              · exact hf b (h1 ▸ e)
              · rw [h1] at e; cases e; omega, (hg24.trans hn7.grow).then hm8 (fun b hb e => by have := hf b e; omega), by simp only; omega⟩ (by simp only; omega)) ⟨rfl, rfl, rfl, rfl, rfl, rfl, rfl, rfl, rfl, trivial⟩
        · have hnos : silHolds now t s = false := by unfold silHolds; rw [decide_eq_true h32, h39, show inBd s.bd t.val = false by simpa using h46]; rfl
          refine RK.skip ?_
          refine RK.inBlock ?_
          refine RK.region ?_
          refine RL.p rfl rfl ?_
          refine RL.re (d := 52) rfl rfl (succ_i64 (by omega)) ?_
          refine RL.p rfl rfl ?_
          refine RL.done ?_
          exact RK.back (ih (k + 1, u) _ ⟨by simp only; rw [hsn, if_neg (by simp [hnos]), List.append_nil]; exact hr4, hf, hg24, by simp only; omega⟩ (by simp only; omega)) ⟨rfl, rfl, rfl, rfl, rfl, rfl, rfl, rfl, rfl, trivial⟩
      · have hnos : silHolds now t s = false := by unfold silHolds; rw [show (s.ms.all fun m => holdsM m t.ls) = false by simpa only [Bool.not_eq_true] using h39]; simp
        iterate 5 refine RL.no (.no rfl rfl rfl rfl) rfl rfl ?_
        refine RL.p rfl rfl ?_
        refine RL.done ?_
        refine RK.condF rfl ?_
        refine RK.skip ?_
        refine RK.inBlock ?_
        refine RK.region ?_
        refine RL.p rfl rfl ?_
        refine RL.re (d := 52) rfl rfl (succ_i64 (by omega)) ?_
        refine RL.p rfl rfl ?_
        refine RL.done ?_
        exact RK.back (ih (k + 1, u) _ ⟨by simp only; rw [hsn, if_neg (by simp [hnos]), List.append_nil]; exact hr.mod (hg2'.trans hg3) (fun _ _ h => h), hf, hg23, by simp only; omega⟩ (by simp only; omega)) ⟨rfl, rfl, rfl, rfl, rfl, rfl, rfl, rfl, rfl, trivial⟩
    · have hnos : silHolds now t s = false := by unfold silHolds; rw [decide_eq_false h32]; rfl
      iterate 5 refine RL.no (.no rfl rfl rfl rfl) rfl rfl ?_
      iterate 2 refine RL.p rfl rfl ?_
      iterate 5 refine RL.no (.no rfl rfl rfl rfl) rfl rfl ?_
      refine RL.p rfl rfl ?_
      refine RL.done ?_
      refine RK.condF rfl ?_
      refine RK.skip ?_
      refine RK.inBlock ?_
      refine RK.region ?_
      refine RL.p rfl rfl ?_
      refine RL.re (d := 52) rfl rfl (succ_i64 (by omega)) ?_
      refine RL.p rfl rfl ?_
      refine RL.done ?_
      exact RK.back (ih (k + 1, u) _ ⟨by simp only; rw [hsn, if_neg (by simp [hnos]), List.append_nil]; exact hr.mod hg2' (fun _ _ h => h), hf, hg2, by simp only; omega⟩ (by simp only; omega)) ⟨rfl, rfl, rfl, rfl, rfl, rfl, rfl, rfl, rfl, trivial⟩
  · have ek : sils.take k = sils := List.take_of_length_le (by omega)
    rw [ek] at hr
    clear ih
    generalize hS : silS now t sils = S at *
    have hSl : S.length ≤ 1000 := by have := silS_len now t sils; rw [hS] at this; omega
    refine RK.exit rfl ?_
    iterate 2 refine RK.seq ?_
    refine RK.region ?_
    refine RL.p rfl rfl ?_
    refine RL.q (.free rfl) rfl rfl (Yld.lenSl u91 rfl) ?_
    refine RL.p rfl rfl ?_
    refine RL.done ?_
    refine RK.block ?_
    refine RK.loop (fun s : Nat × Value => [(3, .slice ada als.length ca), (4, .slice adr rs.length cr), (6, pp b6), (12, u), (13, s.2), (53, .slice adr rs.length cr), (54, .int .i64 (rs.length : Int)), (55, .int .i64 (s.1 : Int))]) (fun s w2 => Row w2 3 1 s.2 (mutS t als (rs.take s.1)).length (ints (mutS t als (rs.take s.1))) ∧ Fresh w'.heap.size s.2 ∧ Grow w' w2 ∧ s.1 ≤ rs.length) (fun s => rs.length - s.1) (0, .slice none 0 0) ⟨rfl, rfl, rfl, rfl, rfl, rfl, rfl, rfl, trivial⟩ ⟨by simpa [mutS] using Row.nil _ _ _, fun b e => by simp [Value.ownBlock] at e, Mod.refl _ _, by simp⟩ (fun s w2 hI ih => ?_)
    obtain ⟨k2, u2⟩ := s
    obtain ⟨hr2, hf2, hg2, hk2⟩ := hI
    simp only at hr2 hf2 hk2
    refine RK.seq ?_
    refine RK.region ?_
    refine RL.p rfl rfl ?_
    refine RL.done ?_
    refine RK.seq ?_
    first | refine RK.condD rfl (fun h56 => ?_) (fun h56 => ?_) | refine RK.condN rfl (fun h56 => ?_) (fun h56 => ?_) | refine RK.cond rfl (fun h56 => ?_) (fun h56 => ?_)
    · obtain ⟨r, hrk⟩ : ∃ r, rs[k2]? = some r := ⟨rs[k2]'(by omega), List.getElem?_eq_getElem (by omega)⟩
      have h1 := h.mod ((hn6.grow.trans hg).trans hg2)
      obtain ⟨b1, o1, c1', he1, _, _, hc1⟩ := h1.r.elem ruC_len hrk
      cases he1
      have hro := h1.rl r (List.mem_of_getElem? hrk)
      have hsn := mutS_snoc hrk t als
      have hsl := mutS_len t als (rs.take k2)
      have hsl1 : (rs.take k2).length ≤ 1000 := by simp; omega
      have hsl2 : (mutS t als (rs.take k2)).length ≤ 1000000 := Nat.le_trans hsl (Nat.mul_le_mul hsl1 hn2)
      refine RK.skip ?_
      refine RK.seq ?_
      refine RK.block ?_
      refine RK.seq ?_
      refine RK.region ?_
      refine RL.q (.free rfl) rfl rfl (Yld.indexAddrN u91 i89 rfl rfl (by omega)) ?_
      refine RL.q (.free rfl) rfl rfl (Yld.loadN (cs := ruC r) a89 rfl (atN (fun q z hq => hc1 q z hq))) ?_
      refine RL.op (.free rfl) rfl rfl (Does.alloc i89) ?_
      rintro _ w3 ⟨b17, rfl, hn17⟩
      refine RL.op' (.free rfl) rfl (Does.storeN i89 rfl rfl rfl (ruC_one hro) hn17.blk (Nat.le_refl 6)) ?_
      rintro _ w4 ⟨hb4, hm4, _⟩
      have hg24 : Grow w2 w4 := hn17.grow.then hm4 (fun y hy e => by have e' : y = b17 := e; have := hn17.at_; omega)
      have hg4 := hg2.trans hg24
      have hro4 := hro.mod hg24
      have hr4 := hr2.mod hg24 (fun _ _ h => h)
      refine RL.done ?_
      refine RK.seq ?_
      refine RK.region ?_
      refine RL.p rfl rfl ?_
      refine RL.q (.free rfl) rfl rfl (Yld.lenSl u58 rfl) ?_
      refine RL.p rfl rfl ?_
      refine RL.done ?_
      refine RK.block ?_
      refine RK.loop (fun s : Nat × Value => [(3, .slice ada als.length ca), (4, .slice (some ⟨b1, o1, none⟩) rs.length cr), (6, pp b6), (12, u), (13, s.2), (17, pp b17), (53, .slice (some ⟨b1, o1, none⟩) rs.length cr), (54, .int .i64 (rs.length : Int)), (55, .int .i64 (k2 : Int)), (59, .slice ada als.length ca), (60, .int .i64 (als.length : Int)), (61, .int .i64 (s.1 : Int))]) (fun s w5 => Row w5 3 1 s.2 (mutS t als (rs.take k2) ++ mutOf r t (als.take s.1)).length (ints (mutS t als (rs.take k2) ++ mutOf r t (als.take s.1))) ∧ Fresh w'.heap.size s.2 ∧ Grow w' w5 ∧ s.1 ≤ als.length ∧ Blk w5 b17 89 (ruC r) ∧ (∀ b, s.2.ownBlock = some b → b ≠ b17) ∧ w4.heap.size ≤ w5.heap.size) (fun s => als.length - s.1) (0, u2) ⟨rfl, rfl, rfl, rfl, rfl, rfl, rfl, rfl, rfl, rfl, rfl, rfl, trivial⟩ ⟨by simpa [mutOf] using hr4, hf2, hg4, by simp, hb4, fun b hb => by have h8 := hr2.lt hb; have := hn17.at_; omega, Nat.le_refl _⟩ (fun s w5 hI3 ih3 => ?_)
      obtain ⟨j, u5⟩ := s
      obtain ⟨hr5, hf5, hg5, hj, hb5, hu17, hsz5⟩ := hI3
      simp only at hr5 hf5 hj hu17
      have hb17 := hb4.lt
      refine RK.seq ?_
      refine RK.region ?_
      refine RL.p rfl rfl ?_
      refine RL.done ?_
      refine RK.seq ?_
      first | refine RK.condD rfl (fun h62 => ?_) (fun h62 => ?_) | refine RK.condN rfl (fun h62 => ?_) (fun h62 => ?_) | refine RK.cond rfl (fun h62 => ?_) (fun h62 => ?_)
      · obtain ⟨a, haj⟩ : ∃ a, als[j]? = some a := ⟨als[j]'(by omega), List.getElem?_eq_getElem (by omega)⟩
        have h5 := h.mod ((hn6.grow.trans hg).trans hg5)
        obtain ⟨b2, o2, c2', he2, _, _, hc2⟩ := h5.a.elem alC_len haj
        cases he2
        have hao := h5.al a (List.mem_of_getElem? haj)
        have hmn := mutOf_snoc haj r t
        have hml := mutOf_len r t (als.take j)
        have hml2 : (als.take j).length ≤ 1000 := by simp; omega
        refine RK.skip ?_
        refine RK.seq ?_
        refine RK.block ?_
        refine RK.seq ?_
        refine RK.region ?_
        refine RL.q (.free rfl) rfl rfl (Yld.indexAddrN u58 i32 rfl rfl (by omega)) ?_
        refine RL.q (.free rfl) rfl rfl (Yld.loadN (cs := alC a) a32 rfl (atN (fun q z hq => hc2 q z hq))) ?_
        refine RL.op (.free rfl) rfl rfl (Does.alloc i32) ?_
        rintro _ w7 ⟨b19, rfl, hn19⟩
        refine RL.op' (.free rfl) rfl (Does.storeN i32 rfl rfl rfl (alC_one hao) hn19.blk (Nat.le_refl 3)) ?_
        rintro _ w8 ⟨hb8, hm8, _⟩
        have hg58 : Grow w5 w8 := hn19.grow.then hm8 (fun y hy e => by have e' : y = b19 := e; have := hn19.at_; omega)
        have hg8 := hg5.trans hg58
        have hB8 : Blk w8 b19 32 [.int .i64 a.id, a.v, .float .f64 a.val] := hb8
        refine RL.done ?_
        refine RK.seq ?_
        refine RK.region ?_
        refine RL.q (.free rfl) rfl rfl (Yld.loadN (cs := ruC r) a89 rfl (atN (blk0' (hb5.mod hg58 (fun h => h))))) ?_
        refine RL.q (.free rfl) rfl rfl (Yld.loadN (cs := alC a) a32 rfl (atN (blk0' hb8))) ?_
        refine RL.q (.free rfl) rfl rfl (Yld.loadN (cs := alC t) a32 rfl (atN (blk0' (hB6.mod (hg.trans hg8) (fun h => h))))) ?_
        refine RL.op (.free rfl) rfl rfl (Does.call rfl e111 (mutes_ok No No No r a t _ ((h5.rl r (List.mem_of_getElem? hrk)).mod hg58) (hao.mod hg58) (h.t.mod ((hn6.grow.trans hg).trans hg8)))) ?_
        rintro _ w9 ⟨rfl, hg9⟩
        have hg59 := hg58.trans hg9
        have hg49 := hg5.trans hg59
        refine RL.done ?_
        first | refine RK.condD rfl (fun h68 => ?_) (fun h68 => ?_) | refine RK.condN rfl (fun h68 => ?_) (fun h68 => ?_) | refine RK.cond rfl (fun h68 => ?_) (fun h68 => ?_)
        · refine RK.region ?_
          refine RL.p rfl rfl ?_
          refine RL.q (.free rfl) rfl rfl (Yld.fieldAddr fo32_0 rfl) ?_
          refine RL.q (.free rfl) rfl rfl (Yld.load p3 rfl (at1 ((hB8.mod hg9 (fun h => h)).cell rfl))) ?_
          refine RL.op (.free rfl) rfl rfl (Does.slice1 u22 i3 rfl rfl rfl rfl rfl) ?_
          rintro _ w10 ⟨b7, rfl, hn7⟩
          refine RL.op (.free rfl) rfl rfl (Does.append u22 i3 rfl rfl rfl rfl rfl ((hr5.mod hg59 (fun _ _ h => h)).mod hn7.grow (fun _ _ h => h)) (Sl.new hn7 1 1 rfl (by omega) (fun h => h)) (rfl) (by rw [List.length_append]; omega)) ?_
          rintro z11 w11 ⟨hr11, hm11, hu11⟩
          have hs7 := hn7.grow.size
          have hs4 := hg49.size
          have hs59 := hg59.size
          refine RL.p rfl rfl ?_
          refine RL.done ?_
          refine RK.inBlock ?_
          refine RK.region ?_
          refine RL.p rfl rfl ?_
          refine RL.re (d := 74) rfl rfl (succ_i64 (by omega)) ?_
          refine RL.p rfl rfl ?_
          refine RL.done ?_
          exact RK.back (ih3 (j + 1, z11) _ ⟨by
              simp only
              rw [hmn, if_pos h68, ← List.append_assoc]
              have e1 : ints ((mutS t als (rs.take k2) ++ mutOf r t (als.take j)) ++ [a.id]) = ints (mutS t als (rs.take k2) ++ mutOf r t (als.take j)) ++ (Value.int .i64 a.id).cells.toList := by simp [ints, Value.cells]
              rw [e1, List.length_append]; exact hr11, fun b e => by
              rcases hu11 with h1 | h1
              · exact hf5 b (h1 ▸ e)
              · rw [h1] at e; cases e; omega, (hg49.trans hn7.grow).then hm11 (fun b hb e => by have := hf5 b e; omega), by simp only; omega, ((hb5.mod hg59 (fun h => h)).mod hn7.grow (fun h => h)).mod hm11 (fun e => hu17 _ e rfl), fun b e => by
              rcases hu11 with h1 | h1
              · exact hu17 b (h1 ▸ e)
              · rw [h1] at e; cases e; omega, by have := hm11.size; omega⟩ (by simp only; omega)) ⟨rfl, rfl, rfl, rfl, rfl, rfl, rfl, rfl, rfl, rfl, rfl, rfl, trivial⟩
        · refine RK.skip ?_
          refine RK.inBlock ?_
          refine RK.region ?_
          refine RL.p rfl rfl ?_
          refine RL.re (d := 74) rfl rfl (succ_i64 (by omega)) ?_
          refine RL.p rfl rfl ?_
          refine RL.done ?_
          exact RK.back (ih3 (j + 1, u5) _ ⟨by simp only; rw [hmn, if_neg (by simpa using h68), List.append_nil]; exact hr5.mod hg59 (fun _ _ h => h), hf5, hg49, by simp only; omega, hb5.mod hg59 (fun h => h), hu17, by have := hg59.size; omega⟩ (by simp only; omega)) ⟨rfl, rfl, rfl, rfl, rfl, rfl, rfl, rfl, rfl, rfl, rfl, rfl, trivial⟩
      · have ej : als.take j = als := List.take_of_length_le (by omega)
        rw [ej, ← hsn] at hr5
        refine RK.exit rfl ?_
        refine RK.inBlock ?_
        refine RK.region ?_
        refine RL.p rfl rfl ?_
        refine RL.re (d := 75) rfl rfl (succ_i64 (by omega)) ?_
        refine RL.p rfl rfl ?_
        refine RL.done ?_
        exact RK.back (ih (k2 + 1, u5) _ ⟨hr5, hf5, hg5, by simp only; omega⟩ (by simp only; omega)) ⟨rfl, rfl, rfl, rfl, rfl, rfl, rfl, rfl, trivial⟩
    · have ek2 : rs.take k2 = rs := List.take_of_length_le (by omega)
      rw [ek2] at hr2
      have hml := mutS_len t als rs
      have hml2 : (mutS t als rs).length ≤ 1000000 := Nat.le_trans hml (Nat.mul_le_mul hn3 hn2)
      refine RK.exit rfl ?_
      refine RK.seq ?_
      refine RK.region ?_
      refine RL.p rfl rfl ?_
      refine RL.op (.free rfl) rfl rfl (Does.call rfl e112 (make_ok No S u _ (Sl.own (hr.mod hg2 (fun _ _ h => h)) (fun _ _ h => h)) (by omega))) ?_
      rintro z1 w4 ⟨hr4, hf4, hg4⟩
      refine RL.p rfl rfl ?_
      refine RL.op (.free rfl) rfl rfl (Does.call rfl e112 (make_ok No (mutS t als rs) u2 _ (Sl.own (hr2.mod hg4 (fun _ _ h => h)) (fun _ _ h => h)) (by omega))) ?_
      rintro z2 w5 ⟨hr5, hf5, hg5⟩
      have hq2 := ((hn6.grow.trans hg).trans hg2).size
      have hq4 := hg4.size
      iterate 2 refine RL.p rfl rfl ?_
      refine RL.done ?_
      refine RK.ret_of Tryz.func55 (res2 rfl rfl rfl) ?_ _
      exact ⟨_, rfl, _, _, rfl, hr4.mod hg5 (fun _ _ h => h), hr5, ⟨fun b e => by have := hf4 b e; omega, fun b e => by have := hf5 b e; omega⟩, (((hn6.grow.trans hg).trans hg2).trans hg4).trans hg5⟩
theorem plain_ok (now : Int) (t : Al) (sils : List Sil) (vs : Value) (als : List Al) (va : Value) (rs : List Ru) (vr : Value) (w : World) (h : PlainIn w t sils vs als va rs vr) :
    Fx Tryz.prog 55 [.int .u64 now, .agg (alC t).toArray, vs, va, vr] w (fun u w' => ∃ v1 v2, u = .tuple #[v1, v2] ∧ Row w' 3 1 v1 (mkRow (silS now t sils)).length (ints (mkRow (silS now t sils))) ∧ Row w' 3 1 v2 (mkRow (mutS t als rs)).length (ints (mkRow (mutS t als rs))) ∧ Grow w w') := by
  refine Calls.mono (plainX_ok now t sils vs als va rs vr w h) ?_
  rintro e w' ⟨u, he, v1, v2, h1, h2, h3, h4, h5⟩
  exact ⟨u, he, v1, v2, h1, h2, h3, h5⟩
end Go.Proofs.YtffbcfcoddacmaaGreat
set_option linter.unusedVariables false
set_option linter.unusedSimpArgs false
set_option maxHeartbeats 2000000
set_option maxRecDepth 100000
namespace Go.Proofs.YtffbcfcoddacmaaGreat
open Go Go.X Go.Rex
noncomputable def mutBy (t a : Al) (rs : List Ru) : List Int := (rs.filter fun r => mutesS r a t).map fun _ => a.id
theorem mutBy_snoc {rs : List Ru} {k : Nat} {r : Ru} (h : rs[k]? = some r) (t a : Al) : mutBy t a (rs.take (k + 1)) = mutBy t a (rs.take k) ++ (if mutesS r a t = true then [a.id] else []) := by
  have hk := (List.getElem?_eq_some_iff.1 h).1
  unfold mutBy
  rw [List.take_succ_eq_append_getElem hk, (List.getElem?_eq_some_iff.1 h).2, List.filter_append, List.map_append]
  by_cases e : mutesS r a t = true <;> simp [e]
theorem mutBy_len (t a : Al) (rs : List Ru) : (mutBy t a rs).length ≤ rs.length := by unfold mutBy; rw [List.length_map]; exact List.length_filter_le _ _
noncomputable def mutS2 (t : Al) (rs : List Ru) (l : List Al) : List Int := l.flatMap fun a => mutBy t a rs
theorem mutS2_snoc {l : List Al} {k : Nat} {a : Al} (h : l[k]? = some a) (t : Al) (rs : List Ru) : mutS2 t rs (l.take (k + 1)) = mutS2 t rs (l.take k) ++ mutBy t a rs := by
  have hk := (List.getElem?_eq_some_iff.1 h).1
  unfold mutS2
  rw [List.take_succ_eq_append_getElem hk, (List.getElem?_eq_some_iff.1 h).2, List.flatMap_append]
  simp
theorem mutS2_len (t : Al) (rs : List Ru) : ∀ l : List Al, (mutS2 t rs l).length ≤ l.length * rs.length
  | [] => by simp [mutS2]
  | a :: l => by
    have h1 := mutS2_len t rs l
    have h2 := mutBy_len t a rs
    unfold mutS2 at h1 ⊢
    rw [List.flatMap_cons, List.length_append, List.length_cons, Nat.add_mul]
    omega
theorem mem_mutS {t : Al} {l : List Al} {rs : List Ru} {id : Int} : id ∈ mutS t l rs ↔ ∃ a ∈ l, ∃ r ∈ rs, mutesS r a t = true ∧ a.id = id := by
  unfold mutS mutOf
  simp only [List.mem_flatMap, List.mem_map, List.mem_filter]
  constructor
  · rintro ⟨r, hr, a, ⟨ha, hm⟩, e⟩; exact ⟨a, ha, r, hr, hm, e⟩
  · rintro ⟨a, ha, r, hr, hm, e⟩; exact ⟨r, hr, a, ⟨ha, hm⟩, e⟩
theorem mem_mutS2 {t : Al} {l : List Al} {rs : List Ru} {id : Int} : id ∈ mutS2 t rs l ↔ ∃ a ∈ l, ∃ r ∈ rs, mutesS r a t = true ∧ a.id = id := by
  unfold mutS2 mutBy
  simp only [List.mem_flatMap, List.mem_map, List.mem_filter]
  constructor
  · rintro ⟨a, ha, r, ⟨hr, hm⟩, e⟩; exact ⟨a, ha, r, hr, hm, e⟩
  · rintro ⟨a, ha, r, hr, hm, e⟩; exact ⟨a, ha, r, ⟨hr, hm⟩, e⟩
theorem mutS_two (t : Al) (l : List Al) (rs : List Ru) : rise (mutS2 t rs l) = mkRow (mutS t l rs) := ext_ris (rise_ris _) (mkRow_ris _) fun x => by rw [mem_rise, mem_mkRow, mem_mutS, mem_mutS2]
theorem plainR_ok (now : Int) (t : Al) (sils : List Sil) (vs : Value) (als : List Al) (va : Value) (rs : List Ru) (vr : Value) (w : World) (h : PlainIn w t sils vs als va rs vr) (hz : ∀ r ∈ rs, r.Sz) (hzs : ∀ s ∈ sils, ∀ m ∈ s.ms, m.name.size ≤ 9223372036854775807) :
    Fx Tryz.prog 59 [.int .u64 now, .agg (alC t).toArray, vs, va, vr] w (fun u w' => ∃ v1 v2, u = .tuple #[v1, v2] ∧ Row w' 3 1 v1 (mkRow (silS now t sils)).length (ints (mkRow (silS now t sils))) ∧ Row w' 3 1 v2 (mkRow (mutS t als rs)).length (ints (mkRow (mutS t als rs))) ∧ Grow w w') := by
  obtain ⟨ads, cs, rfl⟩ := h.s.shape
  obtain ⟨ada, ca, rfl⟩ := h.a.shape
  obtain ⟨adr, cr, rfl⟩ := h.r.shape
  obtain ⟨adt, ct, htv⟩ := h.t.l.shape
  have hn1 := h.n1
  have hn2 := h.n2
  have hn3 := h.n3
  refine enter Tryz.func59 rfl rfl rfl _ (Pick.sub (l := [0, 1, 2, 3, 4]) (.cons rfl (.cons rfl (.cons rfl (.cons rfl (.cons rfl .nil)))))) ?_
  refine RK.seq ?_
  refine RK.region ?_
  refine RL.op (.free rfl) rfl rfl (Does.box rfl) ?_
  rintro _ w6 ⟨b6, rfl, hn6⟩
  have hB6 : Blk w6 b6 32 [.int .i64 t.id, t.v, .float .f64 t.val] := hn6.blk
  iterate 2 refine RL.p rfl rfl ?_
  refine RL.done ?_
  refine RK.seq ?_
  refine RK.region ?_
  iterate 2 refine RL.p rfl rfl ?_
  refine RL.done ?_
  iterate 2 refine RK.seq ?_
  refine RK.region ?_
  refine RL.p rfl rfl ?_
  refine RL.done ?_
  refine RK.block ?_
  refine RK.loop (fun s : Nat × Value => [(0, .int .u64 now), (2, .slice ads sils.length cs), (3, .slice ada als.length ca), (4, .slice adr rs.length cr), (6, pp b6), (12, s.2), (13, .slice none 0 0), (14, .int .i64 (s.1 : Int))]) (fun s w' => Row w' 3 1 s.2 (silS now t (sils.take s.1)).length (ints (silS now t (sils.take s.1))) ∧ Fresh w6.heap.size s.2 ∧ Grow w6 w' ∧ s.1 ≤ sils.length) (fun s => sils.length - s.1) (0, .slice none 0 0) ⟨rfl, rfl, rfl, rfl, rfl, rfl, rfl, rfl, trivial⟩ ⟨by simpa [silS] using Row.nil _ _ _, fun b e => by simp [Value.ownBlock] at e, Mod.refl _ _, by simp⟩ (fun s w' hI ih => ?_)
  obtain ⟨k, u⟩ := s
  obtain ⟨hr, hf, hg, hk⟩ := hI
  simp only at hr hf hk
  iterate 2 refine RK.seq ?_
  refine RK.region ?_
  iterate 2 refine RL.p rfl rfl ?_
  refine RL.q (.free rfl) rfl rfl (Yld.lenSl u96 rfl) ?_
  refine RL.p rfl rfl ?_
  refine RL.done ?_
  first | refine RK.condD rfl (fun h21 => ?_) (fun h21 => ?_) | refine RK.condN rfl (fun h21 => ?_) (fun h21 => ?_) | refine RK.cond rfl (fun h21 => ?_) (fun h21 => ?_)
  · obtain ⟨s, hs⟩ : ∃ s, sils[k]? = some s := ⟨sils[k]'(by omega), List.getElem?_eq_getElem (by omega)⟩
    have h1 := h.mod (hn6.grow.trans hg)
    obtain ⟨b1, o1, c1', he1, _, _, hc1⟩ := h1.s.elem silC_len hs
    cases he1
    have hsm := h1.sm s (List.mem_of_getElem? hs)
    have hsz := hzs s (List.mem_of_getElem? hs)
    have hsn := silS_snoc hs now t
    have hsl := silS_len now t (sils.take k)
    have hsl2 : (sils.take k).length ≤ k := by simp; omega
    refine RK.skip ?_
    refine RK.seq ?_
    refine RK.block ?_
    refine RK.seq ?_
    refine RK.region ?_
    iterate 2 refine RL.p rfl rfl ?_
    refine RL.q (.free rfl) rfl rfl (Yld.indexAddrN u96 i95 rfl rfl (by omega)) ?_
    refine RL.q (.free rfl) rfl rfl (Yld.loadN (cs := silC s) a95 rfl (atN (fun q z hq => hc1 q z hq))) ?_
    refine RL.op (.free rfl) rfl rfl (Does.alloc i95) ?_
    rintro _ w1 ⟨b15, rfl, hn15⟩
    refine RL.op' (.free rfl) rfl (Does.storeN i95 rfl rfl rfl (silC_one hsm) hn15.blk (Nat.le_refl 8)) ?_
    rintro _ w2 ⟨hb2, hm2, _⟩
    have hg2' : Grow w' w2 := hn15.grow.then hm2 (fun y hy e => by have e' : y = b15 := e; have := hn15.at_; omega)
    have hg2 := hg.trans hg2'
    have hB2 : Blk w2 b15 95 [.int .i64 s.id, .int .i64 s.ver, .int .u64 s.start, .int .u64 s.stop, s.mv, .bool s.bd.all, .float .f64 s.bd.lo, .float .f64 s.bd.hi] := hb2
    have hB6b := hB6.mod hg2 (fun h => h)
    refine RL.done ?_
    refine RK.seq ?_
    refine RK.region ?_
    refine RL.p rfl rfl ?_
    refine RL.q (.free rfl) rfl rfl (Yld.fieldAddr fo95_2 rfl) ?_
    refine RL.q (.free rfl) rfl rfl (Yld.load p36 rfl (at1 (hB2.cell rfl))) ?_
    refine RL.q (.free rfl) rfl rfl (Yld.fieldAddr fo95_3 rfl) ?_
    refine RL.q (.free rfl) rfl rfl (Yld.load p36 rfl (at1 (hB2.cell rfl))) ?_
    refine RL.op (.free rfl) rfl rfl (Does.call rfl e114 (stateR_ok now s.start s.stop _)) ?_
    rintro _ _ ⟨rfl, rfl⟩
    iterate 2 refine RL.p rfl rfl ?_
    first | refine RL.splitD (d := 35) rfl rfl (fun h34 => ?_) (fun h34 => ?_) | refine RL.splitN (d := 35) rfl rfl (fun h34 => ?_) (fun h34 => ?_) | refine RL.split (d := 35) rfl rfl (fun h34 => ?_) (fun h34 => ?_)
    · refine RL.q (.yes rfl rfl rfl) rfl rfl (Yld.fieldAddr fo95_4 rfl) ?_
      refine RL.q (.yes rfl rfl rfl) rfl rfl (Yld.load p51 rfl (at1 (hB2.cell rfl))) ?_
      refine RL.q (.yes rfl rfl rfl) rfl rfl (Yld.fieldAddr fo32_1 rfl) ?_
      refine RL.q (.yes rfl rfl rfl) rfl rfl (Yld.load p26 rfl (at1 (hB6b.cell rfl))) ?_
      refine RL.op (.yes rfl rfl rfl) rfl rfl (Does.call rfl e102 (allR_ok s.ms hsz No No t.ls h.t.z _ _ _ (hsm.mod hg2') (h.t.l.mod (hn6.grow.trans hg2)))) ?_
      rintro _ w3 ⟨rfl, hg3⟩
      have hg23 := hg2.trans hg3
      have hB3 := hB2.mod hg3 (fun h => h)
      have hB6c := hB6b.mod hg3 (fun h => h)
      iterate 2 refine RL.p rfl rfl ?_
      first | refine RL.splitD (d := 42) rfl rfl (fun h41 => ?_) (fun h41 => ?_) | refine RL.splitN (d := 42) rfl rfl (fun h41 => ?_) (fun h41 => ?_) | refine RL.split (d := 42) rfl rfl (fun h41 => ?_) (fun h41 => ?_)
      · refine RL.q (.yes rfl rfl rfl) rfl rfl (Yld.fieldAddr fo95_5 rfl) ?_
        refine RL.q (.yes rfl rfl rfl) rfl rfl (Yld.loadN (cs := bdC s.bd) a86 rfl (atN (fldN hB3 5 3))) ?_
        refine RL.q (.yes rfl rfl rfl) rfl rfl (Yld.fieldAddr fo32_2 rfl) ?_
        refine RL.q (.yes rfl rfl rfl) rfl rfl (Yld.load p23 rfl (at1 (hB6c.cell rfl))) ?_
        refine RL.op (.yes rfl rfl rfl) rfl rfl (Does.call rfl e115 (inR_ok s.bd t.val _)) ?_
        rintro _ w4 ⟨rfl, hg4⟩
        have hg24 := hg23.trans hg4
        have hr4 := hr.mod ((hg2'.trans hg3).trans hg4) (fun _ _ h => h)
        refine RL.p rfl rfl ?_
        refine RL.done ?_
        first | refine RK.condD rfl (fun h48 => ?_) (fun h48 => ?_) | refine RK.condN rfl (fun h48 => ?_) (fun h48 => ?_) | refine RK.cond rfl (fun h48 => ?_) (fun h48 => ?_)
        · have hyes : silHolds now t s = true := by unfold silHolds; rw [decide_eq_true h34, h41, h48]; rfl
          refine RK.region ?_
          refine RL.p rfl rfl ?_
          refine RL.q (.free rfl) rfl rfl (Yld.fieldAddr fo95_0 rfl) ?_
          refine RL.q (.free rfl) rfl rfl (Yld.load p3 rfl (at1 ((hB3.mod hg4 (fun h => h)).cell rfl))) ?_
          refine RL.op (.free rfl) rfl rfl (Does.slice1 u22 i3 rfl rfl rfl rfl rfl) ?_
          rintro _ w5 ⟨b7, rfl, hn7⟩
          refine RL.op (.free rfl) rfl rfl (Does.append u22 i3 rfl rfl rfl rfl rfl (hr4.mod hn7.grow (fun _ _ h => h)) (Sl.new hn7 1 1 rfl (by omega) (fun h => h)) (rfl) (by omega)) ?_
          rintro z8 w8 ⟨hr8, hm8, hu8⟩
          have hs7 := hn7.grow.size
          have hs4 := hg24.size
          refine RL.p rfl rfl ?_
          refine RL.done ?_
          refine RK.inBlock ?_
          refine RK.region ?_
          iterate 2 refine RL.p rfl rfl ?_
          refine RL.re (d := 23) rfl rfl (succ_i64 (by omega)) ?_
          refine RL.p rfl rfl ?_
          refine RL.done ?_
          exact RK.back (ih (k + 1, z8) _ ⟨by
              simp only
              rw [hsn, if_pos hyes]
              have e1 : ints (silS now t (sils.take k) ++ [s.id]) = ints (silS now t (sils.take k)) ++ (Value.int .i64 s.id).cells.toList := by simp [ints, Value.cells]
              rw [e1, List.length_append]; exact hr8, fun b e => by
              rcases hu8 with h1 | h1
              · exact hf b (h1 ▸ e)
              · rw [h1] at e; cases e; omega, (hg24.trans hn7.grow).then hm8 (fun b hb e => by have := hf b e; omega), by simp only; omega⟩ (by simp only; omega)) ⟨rfl, rfl, rfl, rfl, rfl, rfl, rfl, rfl, trivial⟩
        · have hnos : silHolds now t s = false := by unfold silHolds; rw [decide_eq_true h34, h41, show inBd s.bd t.val = false by simpa using h48]; rfl
          refine RK.skip ?_
          refine RK.inBlock ?_
          refine RK.region ?_
          iterate 2 refine RL.p rfl rfl ?_
          refine RL.re (d := 23) rfl rfl (succ_i64 (by omega)) ?_
          refine RL.p rfl rfl ?_
          refine RL.done ?_
          exact RK.back (ih (k + 1, u) _ ⟨by simp only; rw [hsn, if_neg (by simp [hnos]), List.append_nil]; exact hr4, hf, hg24, by simp only; omega⟩ (by simp only; omega)) ⟨rfl, rfl, rfl, rfl, rfl, rfl, rfl, rfl, trivial⟩
      · have hnos : silHolds now t s = false := by unfold silHolds; rw [show (s.ms.all fun m => holdsM m t.ls) = false by simpa only [Bool.not_eq_true] using h41]; simp
        iterate 5 refine RL.no (.no rfl rfl rfl rfl) rfl rfl ?_
        refine RL.p rfl rfl ?_
        refine RL.done ?_
        refine RK.condF rfl ?_
        refine RK.skip ?_
        refine RK.inBlock ?_
        refine RK.region ?_
        iterate 2 refine RL.p rfl rfl ?_
        refine RL.re (d := 23) rfl rfl (succ_i64 (by omega)) ?_
        refine RL.p rfl rfl ?_
        refine RL.done ?_
        exact RK.back (ih (k + 1, u) _ ⟨by simp only; rw [hsn, if_neg (by simp [hnos]), List.append_nil]; exact hr.mod (hg2'.trans hg3) (fun _ _ h => h), hf, hg23, by simp only; omega⟩ (by simp only; omega)) ⟨rfl, rfl, rfl, rfl, rfl, rfl, rfl, rfl, trivial⟩
    · have hnos : silHolds now t s = false := by unfold silHolds; rw [decide_eq_false h34]; rfl
      iterate 5 refine RL.no (.no rfl rfl rfl rfl) rfl rfl ?_
      iterate 2 refine RL.p rfl rfl ?_
      iterate 5 refine RL.no (.no rfl rfl rfl rfl) rfl rfl ?_
      refine RL.p rfl rfl ?_
      refine RL.done ?_
      refine RK.condF rfl ?_
      refine RK.skip ?_
      refine RK.inBlock ?_
      refine RK.region ?_
      iterate 2 refine RL.p rfl rfl ?_
      refine RL.re (d := 23) rfl rfl (succ_i64 (by omega)) ?_
      refine RL.p rfl rfl ?_
      refine RL.done ?_
      exact RK.back (ih (k + 1, u) _ ⟨by simp only; rw [hsn, if_neg (by simp [hnos]), List.append_nil]; exact hr.mod hg2' (fun _ _ h => h), hf, hg2, by simp only; omega⟩ (by simp only; omega)) ⟨rfl, rfl, rfl, rfl, rfl, rfl, rfl, rfl, trivial⟩
  · have ek : sils.take k = sils := List.take_of_length_le (by omega)
    rw [ek] at hr
    clear ih
    generalize hS : silS now t sils = S at *
    have hSl : S.length ≤ 1000 := by have := silS_len now t sils; rw [hS] at this; omega
    refine RK.exit rfl ?_
    iterate 2 refine RK.seq ?_
    refine RK.region ?_
    refine RL.p rfl rfl ?_
    refine RL.done ?_
    refine RK.block ?_
    refine RK.loop (fun s : Nat × Value => [(3, .slice ada als.length ca), (4, .slice adr rs.length cr), (6, pp b6), (12, u), (13, s.2), (16, .int .i64 (s.1 : Int))]) (fun s w2 => Row w2 3 1 s.2 (mutS2 t rs (als.take s.1)).length (ints (mutS2 t rs (als.take s.1))) ∧ Fresh w'.heap.size s.2 ∧ Grow w' w2 ∧ s.1 ≤ als.length) (fun s => als.length - s.1) (0, .slice none 0 0) ⟨rfl, rfl, rfl, rfl, rfl, rfl, trivial⟩ ⟨by simpa [mutS2] using Row.nil _ _ _, fun b e => by simp [Value.ownBlock] at e, Mod.refl _ _, by simp⟩ (fun s w2 hI ih => ?_)
    obtain ⟨k2, u2⟩ := s
    obtain ⟨hr2, hf2, hg2, hk2⟩ := hI
    simp only at hr2 hf2 hk2
    iterate 2 refine RK.seq ?_
    refine RK.region ?_
    iterate 2 refine RL.p rfl rfl ?_
    refine RL.q (.free rfl) rfl rfl (Yld.lenSl u58 rfl) ?_
    refine RL.p rfl rfl ?_
    refine RL.done ?_
    first | refine RK.condD rfl (fun h57 => ?_) (fun h57 => ?_) | refine RK.condN rfl (fun h57 => ?_) (fun h57 => ?_) | refine RK.cond rfl (fun h57 => ?_) (fun h57 => ?_)
    · obtain ⟨a, hak⟩ : ∃ a, als[k2]? = some a := ⟨als[k2]'(by omega), List.getElem?_eq_getElem (by omega)⟩
      have hsn := mutS2_snoc hak t rs
      have hsl := mutS2_len t rs (als.take k2)
      have hsl1 : (als.take k2).length ≤ 1000 := by simp; omega
      have hsl2 : (mutS2 t rs (als.take k2)).length ≤ 1000000 := Nat.le_trans hsl (Nat.mul_le_mul hsl1 hn3)
      refine RK.skip ?_
      refine RK.seq ?_
      refine RK.block ?_
      refine RK.seq ?_
      refine RK.region ?_
      refine RL.p rfl rfl ?_
      refine RL.done ?_
      refine RK.block ?_
      refine RK.loop (fun s : Nat × Value => [(3, .slice ada als.length ca), (4, .slice adr rs.length cr), (6, pp b6), (12, u), (13, s.2), (16, .int .i64 (k2 : Int)), (17, .int .i64 (s.1 : Int))]) (fun s w5 => Row w5 3 1 s.2 (mutS2 t rs (als.take k2) ++ mutBy t a (rs.take s.1)).length (ints (mutS2 t rs (als.take k2) ++ mutBy t a (rs.take s.1))) ∧ Fresh w'.heap.size s.2 ∧ Grow w' w5 ∧ s.1 ≤ rs.length) (fun s => rs.length - s.1) (0, u2) ⟨rfl, rfl, rfl, rfl, rfl, rfl, rfl, trivial⟩ ⟨by simpa [mutBy] using hr2, hf2, hg2, by simp⟩ (fun s w5 hI3 ih3 => ?_)
      obtain ⟨j, u5⟩ := s
      obtain ⟨hr5, hf5, hg5, hj⟩ := hI3
      simp only at hr5 hf5 hj
      iterate 2 refine RK.seq ?_
      refine RK.region ?_
      iterate 2 refine RL.p rfl rfl ?_
      refine RL.q (.free rfl) rfl rfl (Yld.lenSl u91 rfl) ?_
      refine RL.p rfl rfl ?_
      refine RL.done ?_
      first | refine RK.condD rfl (fun h63 => ?_) (fun h63 => ?_) | refine RK.condN rfl (fun h63 => ?_) (fun h63 => ?_) | refine RK.cond rfl (fun h63 => ?_) (fun h63 => ?_)
      · obtain ⟨r, hrj⟩ : ∃ r, rs[j]? = some r := ⟨rs[j]'(by omega), List.getElem?_eq_getElem (by omega)⟩
        have h5 := h.mod ((hn6.grow.trans hg).trans hg5)
        obtain ⟨b2, o2, c2', he2, _, _, hc2⟩ := h5.r.elem ruC_len hrj
        cases he2
        obtain ⟨b3, o3, c3', he3, _, _, hc3⟩ := h5.a.elem alC_len hak
        cases he3
        have hao := h5.al a (List.mem_of_getElem? hak)
        have hro := h5.rl r (List.mem_of_getElem? hrj)
        have hmn := mutBy_snoc hrj t a
        have hml := mutBy_len t a (rs.take j)
        have hml2 : (rs.take j).length ≤ 1000 := by simp; omega
        refine RK.skip ?_
        refine RK.seq ?_
        refine RK.block ?_
        refine RK.seq ?_
        refine RK.drawM No [(0, false), (1, false), (2, false), (3, false), (4, false), (5, false), (6, false), (7, false), (8, false), (9, true)] [] mixed (by kernel_rfl) ?_
        iterate 2 refine DL.p rfl rfl rfl ?_
        refine DL.qf rfl (.free rfl) rfl rfl (Yld.indexAddrN u91 i89 rfl rfl (by omega)) ?_
        refine DL.q rfl (.free rfl) rfl rfl rfl (Yld.loadN (cs := ruC r) a89 rfl (atNM (fun q z hq => hc2 q z hq) (fun h => h))) (Mod.drew _ _) ?_
        iterate 2 refine DL.p rfl rfl rfl ?_
        refine DL.qf rfl (.free rfl) rfl rfl (Yld.indexAddrN u58 i32 rfl rfl (by omega)) ?_
        refine DL.q rfl (.free rfl) rfl rfl rfl (Yld.loadN (cs := alC a) a32 rfl (atNM (fun q z hq => hc3 q z hq) (fun h => h))) (Mod.drew _ _) ?_
        refine DL.q rfl (.free rfl) rfl rfl rfl (Yld.loadN (cs := alC t) a32 rfl (atNM (blk0' (hB6.mod (hg.trans hg5) (fun h => h))) (fun h => h))) (Mod.drew _ _) ?_
        refine DL.op rfl (.free rfl) rfl rfl (Does.call rfl e116 (mutesR_ok No No No r a t _ (hro.mod (Mod.drew _ _)) (hz r (List.mem_of_getElem? hrj)) (hao.mod (Mod.drew _ _)) (h5.t.mod (Mod.drew _ _)))) ?_
        rintro _ w9 ⟨rfl, hg9⟩
        have hg59 := (Mod.drew No w5).trans hg9
        refine ⟨hg59, ?_⟩
        have hg49 := hg5.trans hg59
        refine DL.done ?_
        first | refine RK.condD rfl (fun h75 => ?_) (fun h75 => ?_) | refine RK.condN rfl (fun h75 => ?_) (fun h75 => ?_) | refine RK.cond rfl (fun h75 => ?_) (fun h75 => ?_)
        · refine RK.region ?_
          iterate 3 refine RL.p rfl rfl ?_
          refine RL.q (.free rfl) rfl rfl (Yld.indexAddrN u58 i32 rfl rfl (by omega)) ?_
          refine RL.q (.free rfl) rfl rfl (Yld.fieldAddr fo32_0 rfl) ?_
          refine RL.q (.free rfl) rfl rfl (Yld.load p3 rfl (at1 (hg59.cell (hc3 0 _ rfl) (fun h => h)))) ?_
          refine RL.op (.free rfl) rfl rfl (Does.slice1 u22 i3 rfl rfl rfl rfl rfl) ?_
          rintro _ w10 ⟨b7, rfl, hn7⟩
          refine RL.op (.free rfl) rfl rfl (Does.append u22 i3 rfl rfl rfl rfl rfl ((hr5.mod hg59 (fun _ _ h => h)).mod hn7.grow (fun _ _ h => h)) (Sl.new hn7 1 1 rfl (by omega) (fun h => h)) (rfl) (by rw [List.length_append]; omega)) ?_
          rintro z11 w11 ⟨hr11, hm11, hu11⟩
          have hs7 := hn7.grow.size
          have hs4 := hg49.size
          refine RL.p rfl rfl ?_
          refine RL.done ?_
          refine RK.inBlock ?_
          refine RK.region ?_
          iterate 2 refine RL.p rfl rfl ?_
          refine RL.re (d := 65) rfl rfl (succ_i64 (by omega)) ?_
          refine RL.p rfl rfl ?_
          refine RL.done ?_
          exact RK.back (ih3 (j + 1, z11) _ ⟨by
              simp only
              rw [hmn, if_pos h75, ← List.append_assoc]
              have e1 : ints ((mutS2 t rs (als.take k2) ++ mutBy t a (rs.take j)) ++ [a.id]) = ints (mutS2 t rs (als.take k2) ++ mutBy t a (rs.take j)) ++ (Value.int .i64 a.id).cells.toList := by simp [ints, Value.cells]
              rw [e1, List.length_append]; exact hr11, fun b e => by
              rcases hu11 with h1 | h1
              · exact hf5 b (h1 ▸ e)
              · rw [h1] at e; cases e; omega, (hg49.trans hn7.grow).then hm11 (fun b hb e => by have := hf5 b e; omega), by simp only; omega⟩ (by simp only; omega)) ⟨rfl, rfl, rfl, rfl, rfl, rfl, rfl, trivial⟩
        · refine RK.skip ?_
          refine RK.inBlock ?_
          refine RK.region ?_
          iterate 2 refine RL.p rfl rfl ?_
          refine RL.re (d := 65) rfl rfl (succ_i64 (by omega)) ?_
          refine RL.p rfl rfl ?_
          refine RL.done ?_
          exact RK.back (ih3 (j + 1, u5) _ ⟨by simp only; rw [hmn, if_neg (by simpa using h75), List.append_nil]; exact hr5.mod hg59 (fun _ _ h => h), hf5, hg49, by simp only; omega⟩ (by simp only; omega)) ⟨rfl, rfl, rfl, rfl, rfl, rfl, rfl, trivial⟩
      · have ej : rs.take j = rs := List.take_of_length_le (by omega)
        rw [ej, ← hsn] at hr5
        refine RK.exit rfl ?_
        refine RK.inBlock ?_
        refine RK.region ?_
        iterate 2 refine RL.p rfl rfl ?_
        refine RL.re (d := 59) rfl rfl (succ_i64 (by omega)) ?_
        refine RL.p rfl rfl ?_
        refine RL.done ?_
        exact RK.back (ih (k2 + 1, u5) _ ⟨hr5, hf5, hg5, by simp only; omega⟩ (by simp only; omega)) ⟨rfl, rfl, rfl, rfl, rfl, rfl, trivial⟩
    · have ek2 : als.take k2 = als := List.take_of_length_le (by omega)
      rw [ek2] at hr2
      have hml := mutS2_len t rs als
      have hml2 : (mutS2 t rs als).length ≤ 1000000 := Nat.le_trans hml (Nat.mul_le_mul hn2 hn3)
      refine RK.exit rfl ?_
      refine RK.seq ?_
      refine RK.region ?_
      refine RL.p rfl rfl ?_
      refine RL.op (.free rfl) rfl rfl (Does.call rfl e44 (rising_ok No S u _ (Sl.own (hr.mod hg2 (fun _ _ h => h)) (fun _ _ h => h)) (by omega))) ?_
      rintro z1 w4 ⟨hr4, hf4, hg4⟩
      refine RL.p rfl rfl ?_
      refine RL.op (.free rfl) rfl rfl (Does.call rfl e44 (rising_ok No (mutS2 t rs als) u2 _ (Sl.own (hr2.mod hg4 (fun _ _ h => h)) (fun _ _ h => h)) (by omega))) ?_
      rintro z2 w5 ⟨hr5, hf5, hg5⟩
      rw [mutS_two] at hr5
      rw [rise_mkRow] at hr4
      iterate 2 refine RL.p rfl rfl ?_
      refine RL.done ?_
      refine RK.ret_of Tryz.func59 (res2 rfl rfl rfl) ?_ _
      exact ⟨_, rfl, _, _, rfl, hr4.mod hg5 (fun _ _ h => h), hr5, (((hn6.grow.trans hg).trans hg2).trans hg4).trans hg5⟩
end Go.Proofs.YtffbcfcoddacmaaGreat
set_option linter.unusedVariables false
set_option linter.unusedSimpArgs false
set_option maxHeartbeats 2000000
set_option maxRecDepth 100000
namespace Go.Proofs.YtffbcfcoddacmaaGreat
open Go Go.X Go.Rex
def sevT : ByteArray := ⟨#[115, 101, 118]⟩
def critT : ByteArray := ⟨#[99, 114, 105, 116]⟩
def warnT : ByteArray := ⟨#[119, 97, 114, 110]⟩
def cwT : ByteArray := ⟨#[99, 114, 105, 116, 124, 119, 97, 114, 110]⟩
def mSrc : Mt := ⟨1, sevT, critT⟩
def mTgt : Mt := ⟨3, sevT, cwT⟩
def lsOf (s : ByteArray) : List Lab := [⟨sevT, s⟩]
def cwR : Rx := .node 3 (.cons (.node 2 (.cons (.set [0, 34359738368, 0, 0]) (.cons (.set [0, 1125899906842624, 0, 0]) (.cons (.set [0, 2199023255552, 0, 0]) (.cons (.set [0, 4503599627370496, 0, 0]) .nil))))) (.cons (.node 2 (.cons (.set [0, 36028797018963968, 0, 0]) (.cons (.set [0, 8589934592, 0, 0]) (.cons (.set [0, 1125899906842624, 0, 0]) (.cons (.set [0, 70368744177664, 0, 0]) .nil))))) .nil))
theorem cw_parse : parseS cwT = some cwR := by kernel_rfl
theorem mSrc_is : isM mSrc = true := by kernel_rfl
theorem mSrc_large : largeM mSrc = false := by kernel_rfl
theorem mTgt_is : isM mTgt = true := by kernel_rfl
theorem mTgt_large : largeM mTgt = false := by kernel_rfl
theorem getL_of (s : ByteArray) : getL (lsOf s) sevT = s := by unfold getL lsOf; simp
theorem src_crit : holdsM mSrc (lsOf critT) = true := by
  unfold holdsM
  rw [mSrc_is, mSrc_large]
  simp [mSrc, getL_of]
theorem src_warn : holdsM mSrc (lsOf warnT) = false := by
  have hne : ¬ warnT = critT := by decide
  unfold holdsM
  rw [mSrc_is, mSrc_large]
  simp [mSrc, getL_of, hne]
theorem tgt_warn : holdsM mTgt (lsOf warnT) = true := by
  have ht : takesS cwT warnT = true := by
    unfold takesS
    rw [cw_parse]
    simp only
    rw [takes_iff]
    have hs : ∀ t i, decide (i < warnT.size) && inB t (b8 warnT i) = true → HS warnT t i := fun t i h => by
      simp only [Bool.and_eq_true, decide_eq_true_eq] at h
      exact h
    show Lg (HS warnT) cwR true 0 4
    unfold cwR
    simp only [Lg, Nat.reduceEqDiff, if_true, if_false, Bool.false_eq_true, true_and]
    refine .inr (.inl ⟨1, ⟨hs _ _ (by kernel_rfl), rfl⟩, 2, ⟨hs _ _ (by kernel_rfl), rfl⟩, 3, ⟨hs _ _ (by kernel_rfl), rfl⟩, 4, ⟨hs _ _ (by kernel_rfl), rfl⟩, rfl⟩)
  unfold holdsM
  rw [mTgt_is, mTgt_large]
  simp [mTgt, getL_of, ht]
theorem of18_ok (id : Int) (s : ByteArray) (w : World) : Fx Tryz.prog 53 [.int .i64 id, .string s] w (fun u w' => ∃ b, u = .agg (alC ⟨id, lsOf s, 0, .slice (some ⟨b, 0, none⟩) 1 1⟩).toArray ∧ SlL No w' (.slice (some ⟨b, 0, none⟩) 1 1) (lsOf s) ∧ Grow w w') := by
  refine enter Tryz.func53 rfl rfl rfl _ (Pick.sub (l := [0, 1]) (.cons rfl (.cons rfl .nil))) ?_
  refine RK.seq ?_
  refine RK.region ?_
  refine RL.op (.free rfl) rfl rfl (Does.alloc i32) ?_
  rintro _ w1 ⟨b4, rfl, hn4⟩
  refine RL.done ?_
  refine RK.seq ?_
  refine RK.region ?_
  iterate 2 refine RL.p rfl rfl ?_
  refine RL.q (.free rfl) rfl rfl (Yld.build (v := .agg #[.string sevT, .string s]) rfl (fun w => by kernel_rfl)) ?_
  refine RL.op (.free rfl) rfl rfl (Does.slice1 u26 i46 rfl rfl rfl rfl rfl) ?_
  rintro _ w2 ⟨b5, rfl, hn5⟩
  have hB4 := hn4.blk.mod hn5.grow (fun h => h)
  refine RL.q (.free rfl) rfl rfl (Yld.build (v := .agg #[.int .i64 id, .slice (some ⟨b5, 0, none⟩) 1 1, .float .f64 0]) rfl (fun w => by kernel_rfl)) ?_
  refine RL.op' (.free rfl) rfl (Does.storeN i32 rfl rfl rfl rfl hB4 (Nat.le_refl 3)) ?_
  rintro _ w3 ⟨hb3, hm3, _⟩
  have hs4 := hn4.at_
  have hs5 := hn5.at_
  have hs6 := hn4.size
  have hne : ¬ b5 = b4 := by omega
  refine RL.done ?_
  refine RK.ret_of Tryz.func53 (resC (cs := alC ⟨id, lsOf s, 0, .slice (some ⟨b5, 0, none⟩) 1 1⟩) rfl rfl a32 hb3) ?_ _
  exact ⟨_, rfl, b5, rfl, (Sl.new (M := (· = b4)) hn5 2 1 rfl (by omega) hne).mod hm3 |>.noM, (hn4.grow.trans hn5.grow).then hm3 (fun y hy e => by have e' : y = b4 := e; omega)⟩
def critRu (b1 b2 : Nat) : Ru := ⟨.slice (some ⟨b1, 0, none⟩) 1 1, .slice (some ⟨b2, 0, none⟩) 1 1, .slice none 0 0, [mSrc], [mTgt], ⟨true, 0, 0⟩, []⟩
theorem critical_ok (w : World) : Fx Tryz.prog 54 [] w (fun u w' => ∃ b1 b2, u = .agg (ruC (critRu b1 b2)).toArray ∧ (critRu b1 b2).Ok No w' ∧ Grow w w') := by
  refine enter Tryz.func54 rfl rfl rfl _ (Pick.sub (l := []) .nil) ?_
  refine RK.seq ?_
  refine RK.region ?_
  refine RL.op (.free rfl) rfl rfl (Does.alloc i89) ?_
  rintro _ w1 ⟨b0, rfl, hn0⟩
  refine RL.done ?_
  refine RK.seq ?_
  refine RK.region ?_
  refine RL.q (.free rfl) rfl rfl (Yld.build (v := .agg (mtC mSrc).toArray) rfl (fun w => by kernel_rfl)) ?_
  refine RL.op (.free rfl) rfl rfl (Does.slice1 u51 i50 rfl rfl rfl rfl rfl) ?_
  rintro _ w2 ⟨b1, rfl, hn1⟩
  refine RL.q (.free rfl) rfl rfl (Yld.build (v := .agg (mtC mTgt).toArray) rfl (fun w => by kernel_rfl)) ?_
  refine RL.op (.free rfl) rfl rfl (Does.slice1 u51 i50 rfl rfl rfl rfl rfl) ?_
  rintro _ w3 ⟨b2, rfl, hn2⟩
  have hB0 := (hn0.blk.mod hn1.grow (fun h => h)).mod hn2.grow (fun h => h)
  refine RL.q (.free rfl) rfl rfl (Yld.build (v := .agg (bdC ⟨true, 0, 0⟩).toArray) rfl (fun w => by kernel_rfl)) ?_
  refine RL.q (.free rfl) rfl rfl (Yld.build (v := .agg (ruC (critRu b1 b2)).toArray) rfl (fun w => by kernel_rfl)) ?_
  refine RL.op' (.free rfl) rfl (Does.storeN i89 rfl rfl rfl rfl hB0 (Nat.le_refl 6)) ?_
  rintro _ w4 ⟨hb4, hm4, _⟩
  have hs0 := hn0.at_
  have hs1 := hn1.at_
  have hs2 := hn2.at_
  have hs3 := hn0.size
  have hs4 := hn1.size
  refine RL.done ?_
  refine RK.ret_of Tryz.func54 (resC (cs := ruC (critRu b1 b2)) rfl rfl a89 hb4) ?_ _
  exact ⟨_, rfl, b1, b2, rfl, ⟨((Sl.new (M := (· = b0)) hn1 3 1 rfl (by omega) (by omega)).mod (Mod.any' hn2.grow)).mod hm4 |>.noM, ((Sl.new (M := (· = b0)) hn2 3 1 rfl (by omega) (by omega)).mod hm4).noM, Sl.nil _ _ _ _ _⟩, ((hn0.grow.trans hn1.grow).trans hn2.grow).then hm4 (fun y hy e => by have e' : y = b0 := e; omega)⟩
theorem may0 : mayB ⟨true, 0, 0⟩ = true := by kernel_rfl
theorem in0 (v : Nat) : inBd ⟨true, 0, 0⟩ v = true := by unfold inBd; rw [may0]; rfl
theorem list1 {m : Mt} (h : isM m = true) : listM [m] = true := listM_yes (by simp) fun i hi => by
  obtain rfl : i = 0 := by simpa using hi
  rw [okM_0 rfl]; exact h
theorem crit_works (b1 b2 : Nat) : worksRu (critRu b1 b2) = true := by
  have h1 : isRu (critRu b1 b2) = true := by
    refine isRu_yes (by simp [critRu]) (by simp [critRu]) (list1 mSrc_is) (list1 mTgt_is) may0 (by simp [critRu]) fun i hi => ?_
    simp [critRu] at hi
  have h2 : largeRu (critRu b1 b2) = false := by
    unfold largeRu anyL
    simp [critRu, mSrc_large, mTgt_large]
  unfold worksRu
  rw [h1, h2]; rfl
theorem crit_target (b1 b2 : Nat) : targetS (critRu b1 b2) (lsOf warnT) = true := by
  unfold targetS
  rw [crit_works]
  simp [critRu, tgt_warn]
theorem crit_source (b1 b2 : Nat) (v : Nat) : sourceS (critRu b1 b2) (lsOf critT) v = true := by
  unfold sourceS
  rw [crit_works]
  simp [critRu, src_crit, in0]
theorem crit_source2 (b1 b2 : Nat) (v : Nat) : sourceS (critRu b1 b2) (lsOf warnT) v = false := by
  unfold sourceS
  simp [critRu, src_warn]
theorem crit_yes (b1 b2 : Nat) (i j : Int) (v v' : Value) : mutesS (critRu b1 b2) ⟨i, lsOf critT, 0, v⟩ ⟨j, lsOf warnT, 0, v'⟩ = true := by
  unfold mutesS
  simp only
  rw [crit_target, crit_source, crit_source2]
  have : keyT (critRu b1 b2).eq (lsOf critT) = keyT (critRu b1 b2).eq (lsOf warnT) := rfl
  simp [this]
theorem crit_no (b1 b2 : Nat) (i j : Int) (v v' : Value) (s : ByteArray) : mutesS (critRu b1 b2) ⟨i, lsOf s, 0, v⟩ ⟨j, lsOf critT, 0, v'⟩ = false := by
  unfold mutesS
  simp only
  rw [crit_source]
  simp
theorem crit_no2 (b1 b2 : Nat) (i j : Int) (v v' : Value) (s : ByteArray) : mutesS (critRu b1 b2) ⟨i, lsOf warnT, 0, v⟩ ⟨j, lsOf s, 0, v'⟩ = false := by
  unfold mutesS
  simp only
  rw [crit_source2]
  simp
theorem runs_mut2 (b1 b2 : Nat) (v1 v2 v3 : Value) : mkRow (mutS ⟨2, lsOf warnT, 0, v2⟩ [⟨1, lsOf critT, 0, v1⟩, ⟨2, lsOf warnT, 0, v2⟩, ⟨3, lsOf critT, 0, v3⟩] [critRu b1 b2]) = [1, 3] := by
  have h : mutS ⟨2, lsOf warnT, 0, v2⟩ [⟨1, lsOf critT, 0, v1⟩, ⟨2, lsOf warnT, 0, v2⟩, ⟨3, lsOf critT, 0, v3⟩] [critRu b1 b2] = [1, 3] := by
    unfold mutS mutOf
    simp only [List.flatMap_cons, List.flatMap_nil, List.append_nil, List.filter_cons, List.filter_nil, crit_yes, crit_no2, if_true, Bool.false_eq_true, if_false, List.map_cons, List.map_nil]
  rw [h]
  exact mkRow_id (by simp [Ris])
theorem runs_mut1 (b1 b2 : Nat) (v1 v2 v3 : Value) : mkRow (mutS ⟨1, lsOf critT, 0, v1⟩ [⟨1, lsOf critT, 0, v1⟩, ⟨2, lsOf warnT, 0, v2⟩, ⟨3, lsOf critT, 0, v3⟩] [critRu b1 b2]) = [] := by
  have h : mutS ⟨1, lsOf critT, 0, v1⟩ [⟨1, lsOf critT, 0, v1⟩, ⟨2, lsOf warnT, 0, v2⟩, ⟨3, lsOf critT, 0, v3⟩] [critRu b1 b2] = [] := by
    unfold mutS mutOf
    simp only [List.flatMap_cons, List.flatMap_nil, List.append_nil, List.filter_cons, List.filter_nil, crit_no, Bool.false_eq_true, if_false, List.map_nil]
  rw [h]
  exact mkRow_id (by simp [Ris])
theorem runs_sil (v2 vm : Value) : mkRow (silS 5 ⟨2, lsOf warnT, 0, v2⟩ [⟨9, 0, 5, 6, vm, [mTgt], ⟨true, 0, 0⟩⟩]) = [9] := by
  have h : silHolds 5 ⟨2, lsOf warnT, 0, v2⟩ ⟨9, 0, 5, 6, vm, [mTgt], ⟨true, 0, 0⟩⟩ = true := by
    unfold silHolds
    simp [stateS, tgt_warn, in0]
  have h2 : silS 5 ⟨2, lsOf warnT, 0, v2⟩ [⟨9, 0, 5, 6, vm, [mTgt], ⟨true, 0, 0⟩⟩] = [9] := by
    unfold silS
    simp [h]
  rw [h2]
  exact mkRow_id (by simp [Ris])
theorem lsOf_z {s : ByteArray} (h : s.size ≤ 100000) : ∀ x ∈ lsOf s, x.value.size ≤ 100000 := fun x hx => by
  simp only [lsOf, List.mem_singleton] at hx
  subst hx; exact h
theorem mruns_ok (w : World) : Fx Tryz.prog 10 [] w (fun u w' => u = .bool true ∧ Grow w w') := by
  refine enter Tryz.func10 rfl rfl rfl _ (Pick.sub (l := []) .nil) ?_
  refine RK.seq ?_
  refine RK.region ?_
  refine RL.p rfl rfl ?_
  refine RL.done ?_
  refine RK.seq ?_
  refine RK.region ?_
  refine RL.op (.free rfl) rfl rfl (Does.call rfl e53 (of18_ok 1 critT _)) ?_
  rintro _ w1 ⟨c1, rfl, hs1, hg1⟩
  refine RL.op (.free rfl) rfl rfl (Does.call rfl e53 (of18_ok 2 warnT _)) ?_
  rintro _ w2 ⟨c2, rfl, hs2, hg2⟩
  refine RL.op (.free rfl) rfl rfl (Does.call rfl e53 (of18_ok 3 critT _)) ?_
  rintro _ w3 ⟨c3, rfl, hs3, hg3⟩
  refine RL.op (.free rfl) rfl rfl (Does.bslice (el := 32) ([.int .i64 1, .slice (some ⟨c1, 0, none⟩) 1 1, .float .f64 0, .int .i64 2, .slice (some ⟨c2, 0, none⟩) 1 1, .float .f64 0, .int .i64 3, .slice (some ⟨c3, 0, none⟩) 1 1, .float .f64 0]) rfl (fun w => by kernel_rfl)) ?_
  rintro _ w4 ⟨b4, rfl, hn4⟩
  refine RL.p rfl rfl ?_
  refine RL.done ?_
  refine RK.seq ?_
  refine RK.region ?_
  refine RL.op (.free rfl) rfl rfl (Does.call rfl e54 (critical_ok _)) ?_
  rintro _ w5 ⟨b1, b2, rfl, hru, hg5⟩
  refine RL.op (.free rfl) rfl rfl (Does.slice1 u91 i89 rfl rfl rfl rfl rfl) ?_
  rintro _ w6 ⟨b6, rfl, hn6⟩
  have hAl : Sl No w4 (.slice (some ⟨b4, 0, none⟩) 3 3) 3 3 ([(⟨1, lsOf critT, 0, .slice (some ⟨c1, 0, none⟩) 1 1⟩ : Al), ⟨2, lsOf warnT, 0, .slice (some ⟨c2, 0, none⟩) 1 1⟩, ⟨3, lsOf critT, 0, .slice (some ⟨c3, 0, none⟩) 1 1⟩].flatMap alC) := Sl.new hn4 3 3 rfl (by omega) (fun h => h)
  have hg46 := hg5.trans hn6.grow
  have hRu : Sl No w6 (.slice (some ⟨b6, 0, none⟩) 1 1) 6 1 ([critRu b1 b2].flatMap ruC) := Sl.new hn6 6 1 rfl (by omega) (fun h => h)
  have hP0 : PlainIn w6 ⟨1, lsOf critT, 0, .slice (some ⟨c1, 0, none⟩) 1 1⟩ [] (.slice none 0 0) [(⟨1, lsOf critT, 0, .slice (some ⟨c1, 0, none⟩) 1 1⟩ : Al), ⟨2, lsOf warnT, 0, .slice (some ⟨c2, 0, none⟩) 1 1⟩, ⟨3, lsOf critT, 0, .slice (some ⟨c3, 0, none⟩) 1 1⟩] (.slice (some ⟨b4, 0, none⟩) 3 3) [critRu b1 b2] (.slice (some ⟨b6, 0, none⟩) 1 1) := by
      have h1 : AlOk No w6 ⟨1, lsOf critT, 0, .slice (some ⟨c1, 0, none⟩) 1 1⟩ := ⟨hs1.mod (((hg2.trans hg3).trans hn4.grow).trans hg46), lsOf_z (by decide)⟩
      have h2 : AlOk No w6 ⟨2, lsOf warnT, 0, .slice (some ⟨c2, 0, none⟩) 1 1⟩ := ⟨hs2.mod ((hg3.trans hn4.grow).trans hg46), lsOf_z (by decide)⟩
      have h3 : AlOk No w6 ⟨3, lsOf critT, 0, .slice (some ⟨c3, 0, none⟩) 1 1⟩ := ⟨hs3.mod (hn4.grow.trans hg46), lsOf_z (by decide)⟩
      refine ⟨h1, Sl.nil _ _ _ _ _, by simp, hAl.mod hg46, fun a ha => ?_, hRu, fun r hr => ?_, by simp, by simp, by simp⟩
      · simp only [List.mem_cons, List.not_mem_nil, or_false] at ha
        rcases ha with rfl | rfl | rfl
        · exact h1
        · exact h2
        · exact h3
      · simp only [List.mem_singleton] at hr; subst hr; exact hru.mod hn6.grow
  obtain ⟨x1, x2, x3, hx, _, _, hca⟩ := hP0.a.elem alC_len (k := 1) rfl
  cases hx
  obtain ⟨y1, y2, y3, hy, _, _, hcr⟩ := hP0.r.elem ruC_len (k := 0) rfl
  cases hy
  obtain ⟨z1, z2, z3, hz, _, _, hcb⟩ := hP0.a.elem alC_len (k := 0) rfl
  cases hz
  refine RL.p rfl rfl ?_
  refine RL.done ?_
  refine RK.seq ?_
  refine RK.drawM No [(0, false), (1, false), (2, false), (3, false), (4, false), (5, false), (6, false), (7, false), (8, false), (10, false), (11, false), (9, true), (12, true), (13, false), (14, false), (15, false), (16, false), (17, false)] [] mixed (by kernel_rfl) ?_
  refine DL.p rfl rfl rfl ?_
  refine DL.qf rfl (.free rfl) rfl rfl (Yld.indexAddr u58 i32 rfl rfl (by omega) (by omega)) ?_
  refine DL.q rfl (.free rfl) rfl rfl rfl (Yld.loadN (cs := alC ⟨2, lsOf warnT, 0, .slice (some ⟨c2, 0, none⟩) 1 1⟩) a32 rfl (atNM (fun q z hq => by simpa using hca q z hq) (fun h => h))) (Mod.drew _ _) ?_
  refine DL.p rfl rfl rfl ?_
  refine DL.qf rfl (.free rfl) rfl rfl (Yld.indexAddr u91 i89 rfl rfl (by omega) (by omega)) ?_
  refine DL.qf rfl (.free rfl) rfl rfl (Yld.fieldAddr fo89_1 rfl) ?_
  refine DL.q rfl (.free rfl) rfl rfl rfl (Yld.load p51 rfl (atM (by have := hcr 1 _ rfl; simpa using this) (fun h => h))) (Mod.drew _ _) ?_
  refine DL.qf rfl (.free rfl) rfl rfl (Yld.build (v := .agg (bdC ⟨true, 0, 0⟩).toArray) rfl (fun w => by kernel_rfl)) ?_
  refine DL.qf rfl (.free rfl) rfl rfl (Yld.build (v := .agg (silC ⟨9, 0, 5, 6, .slice (some ⟨b2, 0, none⟩) 1 1, [mTgt], ⟨true, 0, 0⟩⟩).toArray) rfl (fun w => by kernel_rfl)) ?_
  iterate 2 refine DL.p rfl rfl rfl ?_
  refine DL.op rfl (.free rfl) rfl rfl (Does.slice1 u96 i95 rfl rfl rfl rfl rfl) ?_
  rintro _ w7 ⟨b7, rfl, hn7⟩
  have hd7 := (Mod.drew No w6).trans hn7.grow
  refine ⟨hd7, ?_⟩
  have hP1 := hP0.mod hd7
  have hP2 : PlainIn w7 ⟨2, lsOf warnT, 0, .slice (some ⟨c2, 0, none⟩) 1 1⟩ [⟨9, 0, 5, 6, .slice (some ⟨b2, 0, none⟩) 1 1, [mTgt], ⟨true, 0, 0⟩⟩] (.slice (some ⟨b7, 0, none⟩) 1 1) _ _ _ _ := ⟨hP1.al _ (by simp), Sl.new hn7 8 1 rfl (by omega) (fun h => h), fun s hs => by
      simp only [List.mem_singleton] at hs
      subst hs
      exact (hru.mod hn6.grow).t.mod hd7, hP1.a, hP1.al, hP1.r, hP1.rl, by simp, hP1.n2, hP1.n3⟩
  refine DL.op rfl (.free rfl) rfl rfl (Does.call rfl e55 (plain_ok 5 _ _ _ _ _ _ _ _ hP2)) ?_
  rintro _ w8 ⟨v1, v2, rfl, hr1, hr2, hg8⟩
  have hd8 := hd7.trans hg8
  refine ⟨hd8, ?_⟩
  rw [runs_sil] at hr1
  rw [runs_mut2] at hr2
  have hQ0 := hP0.mod hd8
  iterate 5 refine DL.p rfl rfl rfl ?_
  refine DL.done ?_
  refine RK.seq ?_
  refine RK.region ?_
  refine RL.p rfl rfl ?_
  refine RL.q (.free rfl) rfl rfl (Yld.indexAddr u58 i32 rfl rfl (by omega) (by omega)) ?_
  refine RL.q (.free rfl) rfl rfl (Yld.loadN (cs := alC ⟨1, lsOf critT, 0, .slice (some ⟨c1, 0, none⟩) 1 1⟩) a32 rfl (atN (fun q z hq => by simpa using hd8.cell (hcb q z hq) (fun h => h)))) ?_
  iterate 2 refine RL.p rfl rfl ?_
  refine RL.op (.free rfl) rfl rfl (Does.call rfl e55 (plain_ok 5 _ _ _ _ _ _ _ _ hQ0)) ?_
  rintro _ w9 ⟨v3, v4, rfl, hr3, hr4, hg9⟩
  rw [runs_mut1] at hr4
  obtain ⟨ad4, c4, rfl⟩ := hr4.slice
  iterate 5 refine RL.p rfl rfl ?_
  refine RL.done ?_
  refine RK.seq ?_
  refine RK.region ?_
  refine RL.p rfl rfl ?_
  refine RL.op (.free rfl) rfl rfl (Does.slice1 u22 i3 rfl rfl rfl rfl rfl) ?_
  rintro _ w10 ⟨b10, rfl, hn10⟩
  have hg810 := hg9.trans hn10.grow
  refine RL.op (.free rfl) rfl rfl (Does.call rfl e29 (sameInts_ok No [9] [9] _ _ _ (Sl.own (hr1.mod hg810 (fun _ _ h => h)) (fun _ _ h => h)) (Sl.new hn10 1 1 rfl (by omega) (fun h => h)))) ?_
  rintro _ w11 ⟨rfl, hg11⟩
  refine RL.p rfl rfl ?_
  refine RL.knownT (d := 41) rfl rfl (by simp) ?_
  refine RL.q (.yes rfl rfl rfl) rfl rfl (Yld.pure rfl) ?_
  refine RL.op (.yes rfl rfl rfl) rfl rfl (Does.bslice (el := 3) ([.int .i64 1, .int .i64 3]) rfl (fun w => by kernel_rfl)) ?_
  rintro _ w12 ⟨b12, rfl, hn12⟩
  have hg812 := (hg810.trans hg11).trans hn12.grow
  refine RL.op (.yes rfl rfl rfl) rfl rfl (Does.call rfl e29 (sameInts_ok No [1, 3] [1, 3] _ _ _ (Sl.own (hr2.mod hg812 (fun _ _ h => h)) (fun _ _ h => h)) (Sl.new hn12 1 2 rfl (by omega) (fun h => h)))) ?_
  rintro _ w13 ⟨rfl, hg13⟩
  iterate 2 refine RL.p rfl rfl ?_
  refine RL.knownT (d := 46) rfl rfl (by simp) ?_
  refine RL.q (.yes rfl rfl rfl) rfl rfl (Yld.pure rfl) ?_
  refine RL.q (.yes rfl rfl rfl) rfl rfl (Yld.lenSl u22 rfl) ?_
  refine RL.q (.yes rfl rfl rfl) rfl rfl (Yld.pure rfl) ?_
  iterate 2 refine RL.p rfl rfl ?_
  refine RL.done ?_
  refine RK.ret_of Tryz.func10 (res1 rfl rfl) ?_ _
  exact ⟨_, rfl, rfl, (((((hg1.trans hg2).trans hg3).trans hn4.grow).trans hg46).trans hd8).trans (hg812.trans hg13)⟩
end Go.Proofs.YtffbcfcoddacmaaGreat
set_option linter.unusedVariables false
set_option linter.unusedSimpArgs false
set_option maxHeartbeats 2000000
set_option maxRecDepth 100000
namespace Go.Proofs.YtffbcfcoddacmaaGreat
open Go Go.X Go.Rex
structure Ad where
  id : Int
  labs : List Int
  v : Value
  val : Nat
def adC (d : Ad) : List Value := [.int .i64 d.id, d.v, .float .f64 d.val]
theorem adC_len (d : Ad) : (adC d).length = 3 := rfl
structure Ad.Ok (w : World) (d : Ad) : Prop where
  s : Sl No w d.v 1 d.labs.length (ints d.labs)
  r : ∀ x ∈ d.labs, -9223372036854775808 ≤ x ∧ x ≤ 9223372036854775807
theorem Ad.Ok.mod {w w' : World} {d : Ad} (h : d.Ok w) (hg : Grow w w') : d.Ok w' := ⟨h.s.mod hg, h.r⟩
def adP (d : Ad) : Int × List Lab × Nat := (d.id, labelsS d.labs, d.val)
theorem labelsS_z (l : List Int) : ∀ x ∈ labelsS l, x.value.size ≤ 100000 := fun x hx => by
  have h := (raw_ok l).1.vl x (mem_isort.1 hx)
  simp only [vlL, List.mem_cons, List.not_mem_nil, or_false] at h
  rcases h with h | h | h | h | h | h | h <;> rw [h] <;> decide
theorem al_z {al : List Al} {ds : List Ad} (h : al.map pub = ds.map adP) : ∀ a ∈ al, ∀ x ∈ a.ls, x.value.size ≤ 100000 := fun a ha => by
  have h1 : pub a ∈ ds.map adP := h ▸ List.mem_map_of_mem (f := pub) ha
  obtain ⟨d, _, e⟩ := List.mem_map.1 h1
  have e2 : labelsS d.labs = a.ls := congrArg (fun p => p.2.1) e
  exact e2 ▸ labelsS_z d.labs
theorem alerts18X_ok (ds : List Ad) (vd : Value) (w : World) (hd : Sl No w vd 3 ds.length (ds.flatMap adC)) (hds : ∀ d ∈ ds, d.Ok w) :
    Fx Tryz.prog 56 [vd] w (fun u w' => ∃ al : List Al, al.map pub = (ds.take 16).map adP ∧ Row w' 32 3 u al.length (al.flatMap alC) ∧ (∀ a ∈ al, AlOk (fun b => u.ownBlock = some b) w' a) ∧ Fresh w.heap.size u ∧ Grow w w') := by
  obtain ⟨ad, c, rfl⟩ := hd.shape
  have hbig := hd.big
  refine enter Tryz.func56 rfl rfl rfl _ (Pick.sub (l := [0]) (.cons rfl .nil)) ?_
  refine RK.seq ?_
  refine RK.region ?_
  refine RL.p rfl rfl ?_
  refine RL.done ?_
  refine RK.seq ?_
  refine RK.region ?_
  refine RL.p rfl rfl ?_
  refine RL.done ?_
  iterate 2 refine RK.seq ?_
  refine RK.region ?_
  refine RL.p rfl rfl ?_
  refine RL.done ?_
  refine RK.block ?_
  refine RK.loop (fun s : Nat × Value => [(0, .slice ad ds.length c), (3, s.2), (4, .int .i64 (s.1 : Int))]) (fun s w' => (∃ al : List Al, al.map pub = (ds.take s.1).map adP ∧ Row w' 32 3 s.2 al.length (al.flatMap alC) ∧ (∀ a ∈ al, SlL (fun b => s.2.ownBlock = some b) w' a.v a.ls)) ∧ Fresh w.heap.size s.2 ∧ Grow w w' ∧ s.1 ≤ ds.length ∧ s.1 ≤ 16) (fun s => ds.length - s.1) (0, .slice none 0 0) ⟨rfl, rfl, rfl, trivial⟩ ⟨⟨[], by simp, Row.nil _ _ _, by simp⟩, fun b e => by simp [Value.ownBlock] at e, Mod.refl _ _, by simp, by simp⟩ (fun s w' hI ih => ?_)
  obtain ⟨k, u⟩ := s
  obtain ⟨⟨al, hal, hr, hsl⟩, hf, hg, hk, hk16⟩ := hI
  simp only at hal hr hsl hf hk hk16
  have hlen : al.length ≤ 16 := by have := congrArg List.length hal; simp at this; omega
  iterate 2 refine RK.seq ?_
  refine RK.region ?_
  iterate 2 refine RL.p rfl rfl ?_
  refine RL.q (.free rfl) rfl rfl (Yld.lenSl u100 rfl) ?_
  iterate 2 refine RL.p rfl rfl ?_
  first | refine RL.splitD (d := 9) rfl rfl (fun h8 => ?_) (fun h8 => ?_) | refine RL.splitN (d := 9) rfl rfl (fun h8 => ?_) (fun h8 => ?_) | refine RL.split (d := 9) rfl rfl (fun h8 => ?_) (fun h8 => ?_)
  · iterate 2 refine RL.q (.yes rfl rfl rfl) rfl rfl (Yld.pure rfl) ?_
    refine RL.p rfl rfl ?_
    refine RL.done ?_
    first | refine RK.condD rfl (fun h11 => ?_) (fun h11 => ?_) | refine RK.condN rfl (fun h11 => ?_) (fun h11 => ?_) | refine RK.cond rfl (fun h11 => ?_) (fun h11 => ?_)
    · obtain ⟨d, hdk⟩ : ∃ d, ds[k]? = some d := ⟨ds[k]'(by omega), List.getElem?_eq_getElem (by omega)⟩
      obtain ⟨b1, o1, c1', he1, _, _, hc1⟩ := hd.elem adC_len hdk
      cases he1
      have hdo := hds d (List.mem_of_getElem? hdk)
      have hb1 : ¬ w.heap.size ≤ b1 := by have := World.block_lt_of_cell? w _ (hc1 0 _ rfl); simp only at this; omega
      have hsz0 := hg.size
      refine RK.skip ?_
      refine RK.seq ?_
      refine RK.block ?_
      refine RK.drawM (fun b => w.heap.size ≤ b) [(0, false), (1, false), (2, false), (3, false), (4, false), (5, false), (6, false), (7, false), (8, false), (9, false), (10, false), (12, false), (13, false), (14, false), (15, false), (16, false), (11, true), (17, false), (18, true), (19, true), (20, false)] [] mixed (by kernel_rfl) ?_
      iterate 3 refine DL.p rfl rfl rfl ?_
      refine DL.qf rfl (.free rfl) rfl rfl (Yld.indexAddrN u100 i98 rfl rfl (by omega)) ?_
      refine DL.qf rfl (.free rfl) rfl rfl (Yld.fieldAddr fo98_0 rfl) ?_
      refine DL.q rfl (.free rfl) rfl rfl rfl (Yld.load p3 rfl (atM (hg.cell (hc1 0 _ rfl) (fun h => h)) (hb1))) (Mod.drew _ _) ?_
      iterate 2 refine DL.p rfl rfl rfl ?_
      refine DL.qf rfl (.free rfl) rfl rfl (Yld.indexAddrN u100 i98 rfl rfl (by omega)) ?_
      refine DL.qf rfl (.free rfl) rfl rfl (Yld.fieldAddr fo98_1 rfl) ?_
      refine DL.q rfl (.free rfl) rfl rfl rfl (Yld.load p22 rfl (atM (hg.cell (hc1 1 _ rfl) (fun h => h)) (hb1))) (Mod.drew _ _) ?_
      iterate 2 refine DL.p rfl rfl rfl ?_
      refine DL.qf rfl (.free rfl) rfl rfl (Yld.indexAddrN u100 i98 rfl rfl (by omega)) ?_
      refine DL.qf rfl (.free rfl) rfl rfl (Yld.fieldAddr fo98_2 rfl) ?_
      refine DL.q rfl (.free rfl) rfl rfl rfl (Yld.load p23 rfl (atM (hg.cell (hc1 2 _ rfl) (fun h => h)) (hb1))) (Mod.drew _ _) ?_
      refine DL.op rfl (.free rfl) rfl rfl (Does.call rfl e17 (labels_ok No d.labs d.v _ ((hdo.mod hg).s.mod (Mod.drew _ _)) hdo.r)) ?_
      rintro _ w3 ⟨ad3, c3, rfl, hr3, hf3, hg3⟩
      have hd3 := (Mod.drew No w').trans hg3
      refine ⟨Mod.any' hd3, ?_⟩
      refine DL.qf rfl (.free rfl) rfl rfl (Yld.build (v := .agg #[.int .i64 d.id, .slice ad3 (labelsS d.labs).length c3, .float .f64 d.val]) rfl (fun w => by kernel_rfl)) ?_
      refine DL.op rfl (.free rfl) rfl rfl (Does.slice1 u58 i32 rfl rfl rfl rfl rfl) ?_
      rintro _ w7 ⟨b7, rfl, hn7⟩
      refine ⟨Mod.any' (hd3.trans hn7.grow), ?_⟩
      refine DL.op rfl (.free rfl) rfl rfl (Does.append u58 i32 rfl rfl rfl rfl rfl ((hr.mod (hd3.trans hn7.grow) (fun _ _ h => h))) (Sl.new hn7 3 1 rfl (by omega) (fun h => h)) (rfl) (by omega)) ?_
      rintro z5 w5 ⟨hr5, hm5, hu5⟩
      have hgd7 := hd3.trans hn7.grow
      have hs3 := hg3.size
      have hs7 := hn7.grow.size
      have hm05 : Mod (fun b => u.ownBlock = some b) w' w5 := (Mod.any' hgd7).trans hm5
      have hg05 : Grow w w5 := (hg.trans hgd7).then hm5 (fun b hb e => by have := hf b e; omega)
      refine ⟨hm05.mono (fun b _ e => hf b e), ?_⟩
      have hp1 : ∀ b, z5.ownBlock = some b → u.ownBlock = some b ∨ w3.heap.size ≤ b := fun b e => by
          rcases hu5 with h1 | h1
          · exact .inl (h1 ▸ e)
          · rw [h1] at e; cases e; right; omega
      have hp0 : ∀ b, z5.ownBlock = some b → u.ownBlock = some b ∨ w'.heap.size ≤ b := fun b e => (hp1 b e).imp (fun h => h) (fun h => by simp only [World.drew] at hs3; omega)
      have hnew : SlL (fun b => u.ownBlock = some b) w3 (.slice ad3 (labelsS d.labs).length c3) (labelsS d.labs) := Sl.own hr3 (fun b e e2 => by have h1 := hf3 b e; have h2 := hr.lt e2; simp only [World.drew] at h1; omega)
      refine DL.p rfl rfl rfl ?_
      refine DL.done ?_
      refine RK.inBlock ?_
      refine RK.region ?_
      iterate 2 refine RL.p rfl rfl ?_
      refine RL.re (d := 14) rfl rfl (succ_i64 (by omega)) ?_
      refine RL.p rfl rfl ?_
      refine RL.done ?_
      exact RK.back (ih (k + 1, z5) _ ⟨⟨al ++ [⟨d.id, labelsS d.labs, d.val, .slice ad3 (labelsS d.labs).length c3⟩], by
          simp only
          rw [List.map_append, hal, List.take_succ_eq_append_getElem (by omega), (List.getElem?_eq_some_iff.1 hdk).2, List.map_append]
          rfl, by
          simp only
          rw [List.flatMap_append, List.length_append]
          exact hr5, fun a ha => by
          rcases List.mem_append.1 ha with h1 | h1
          · exact (hsl a h1).pass (by omega) hm05 hp0
          · simp only [List.mem_singleton] at h1; subst h1
            exact hnew.pass (by omega) ((Mod.any' hn7.grow).trans hm5) hp1⟩, fun b e => by
          rcases hu5 with h1 | h1
          · exact hf b (h1 ▸ e)
          · rw [h1] at e; cases e; have := hg.size; simp only [World.drew] at hs3; omega, hg05, by simp only; omega, by simp only; omega⟩ (by simp only; omega)) ⟨rfl, rfl, rfl, trivial⟩
    · have hk : ds.take 16 = ds.take k := by rw [show k = 16 by omega]
      refine RK.exit rfl ?_
      refine RK.seq ?_
      refine RK.region ?_
      iterate 2 refine RL.p rfl rfl ?_
      refine RL.done ?_
      refine RK.ret_of Tryz.func56 (res1 rfl rfl) ?_ _
      exact ⟨_, rfl, al, by rw [hk]; exact hal, hr, fun a ha => ⟨hsl a ha, al_z hal a ha⟩, hf, hg⟩
  · have hk : ds.take 16 = ds.take k := by rw [List.take_of_length_le (by omega), List.take_of_length_le (by omega)]
    iterate 2 refine RL.no (.no rfl rfl rfl rfl) rfl rfl ?_
    refine RL.p rfl rfl ?_
    refine RL.done ?_
    refine RK.condF rfl ?_
    refine RK.exit rfl ?_
    refine RK.seq ?_
    refine RK.region ?_
    iterate 2 refine RL.p rfl rfl ?_
    refine RL.done ?_
    refine RK.ret_of Tryz.func56 (res1 rfl rfl) ?_ _
    exact ⟨_, rfl, al, by rw [hk]; exact hal, hr, fun a ha => ⟨hsl a ha, al_z hal a ha⟩, hf, hg⟩
theorem AlOk.noM {M : Nat → Prop} {w : World} {a : Al} (h : AlOk M w a) : AlOk No w a := ⟨h.l.noM, h.z⟩
theorem alerts18_ok (ds : List Ad) (vd : Value) (w : World) (hd : Sl No w vd 3 ds.length (ds.flatMap adC)) (hds : ∀ d ∈ ds, d.Ok w) :
    Fx Tryz.prog 56 [vd] w (fun u w' => ∃ al : List Al, al.map pub = (ds.take 16).map adP ∧ Row w' 32 3 u al.length (al.flatMap alC) ∧ (∀ a ∈ al, AlOk No w' a) ∧ Fresh w.heap.size u ∧ Grow w w') := by
  refine Calls.mono (alerts18X_ok ds vd w hd hds) ?_
  rintro e w' ⟨u, he, al, h1, h2, h3, h4, h5⟩
  exact ⟨u, he, al, h1, h2, fun a ha => (h3 a ha).noM, h4, h5⟩
end Go.Proofs.YtffbcfcoddacmaaGreat
set_option linter.unusedVariables false
set_option linter.unusedSimpArgs false
set_option maxHeartbeats 2000000
set_option maxRecDepth 100000
namespace Go.Proofs.YtffbcfcoddacmaaGreat
open Go Go.X Go.Rex
abbrev RuP := List Mt × List Mt × Bd × List ByteArray
def ruP (r : Ru) : RuP := (r.src, r.tgt, r.bd, r.eq)
end Go.Proofs.YtffbcfcoddacmaaGreat
set_option linter.unusedVariables false
set_option linter.unusedSimpArgs false
set_option maxHeartbeats 2000000
set_option maxRecDepth 100000
namespace Go.Proofs.YtffbcfcoddacmaaGreat
open Go Go.X Go.Rex
def mkRu (p : RuP) : Ru := ⟨.slice none 0 0, .slice none 0 0, .slice none 0 0, p.1, p.2.1, p.2.2.1, p.2.2.2⟩
def mkAl (p : AlS) : Al := ⟨p.1, p.2.1, p.2.2, .slice none 0 0⟩
theorem isRu_mk (r : Ru) : isRu (mkRu (ruP r)) = isRu r := by unfold isRu mkRu ruP; rfl
theorem works_mk (r : Ru) : worksRu (mkRu (ruP r)) = worksRu r := by unfold worksRu largeRu; rw [isRu_mk]; rfl
theorem mutes_mk (r : Ru) (s t : Al) : mutesS (mkRu (ruP r)) (mkAl (pub s)) (mkAl (pub t)) = mutesS r s t := by
  unfold mutesS targetS sourceS
  rw [works_mk]
  rfl
noncomputable def mutP (t : AlS) (l : List AlS) (rs : List RuP) : List Int := rs.flatMap fun p => (l.filter fun q => mutesS (mkRu p) (mkAl q) (mkAl t)).map (·.1)
theorem mutS_pub (t : Al) (l : List Al) (rs : List Ru) : mutS t l rs = mutP (pub t) (l.map pub) (rs.map ruP) := by
  unfold mutS mutP mutOf
  simp only [List.flatMap_map, List.filter_map, List.map_map, Function.comp_def, mutes_mk]
  rfl
end Go.Proofs.YtffbcfcoddacmaaGreat
set_option linter.unusedVariables false
set_option linter.unusedSimpArgs false
set_option maxHeartbeats 1000000
set_option maxRecDepth 100000
namespace Go.Proofs.YtffbcfcoddacmaaGreat
open Go Go.X Go.Rex
theorem weightM_ok (M : Nat → Prop) (ls : List Mt) (v : Value) (m : Int) (w : World) (hv : SlM M w v ls) : Fx Tryz.prog 50 [v, .int .i64 m] w (fun u w' => (∃ n : Int, u = .int .i64 n) ∧ Grow w w') := by
  obtain ⟨ad, c, rfl⟩ := hv.shape
  have hbig := hv.big
  refine enter Tryz.func50 rfl rfl rfl _ (Pick.sub (l := [0, 1]) (.cons rfl (.cons rfl .nil))) ?_
  refine RK.seq ?_
  refine RK.region ?_
  refine RL.p rfl rfl ?_
  refine RL.done ?_
  refine RK.seq ?_
  refine RK.region ?_
  refine RL.p rfl rfl ?_
  refine RL.done ?_
  iterate 2 refine RK.seq ?_
  refine RK.region ?_
  refine RL.p rfl rfl ?_
  refine RL.done ?_
  refine RK.block ?_
  refine RK.loop (fun s : Nat × Int => [(0, .slice ad ls.length c), (1, .int .i64 m), (5, .int .i64 s.2), (6, .int .i64 (s.1 : Int))]) (fun s w' => Grow w w' ∧ s.1 ≤ ls.length) (fun s => ls.length - s.1) (0, 0) ⟨rfl, rfl, rfl, rfl, trivial⟩ ⟨Mod.refl _ _, by omega⟩ (fun s w' hI ih => ?_)
  obtain ⟨k, z⟩ := s
  obtain ⟨hg, hk⟩ := hI
  simp only at hk
  iterate 2 refine RK.seq ?_
  refine RK.region ?_
  iterate 2 refine RL.p rfl rfl ?_
  refine RL.q (.free rfl) rfl rfl (Yld.lenSl u51 rfl) ?_
  iterate 2 refine RL.p rfl rfl ?_
  first | refine RL.splitD (d := 11) rfl rfl (fun h10 => ?_) (fun h10 => ?_) | refine RL.splitN (d := 11) rfl rfl (fun h10 => ?_) (fun h10 => ?_) | refine RL.split (d := 11) rfl rfl (fun h10 => ?_) (fun h10 => ?_)
  · obtain ⟨x, hx⟩ : ∃ x, ls[k]? = some x := ⟨ls[k]'(by omega), List.getElem?_eq_getElem (by omega)⟩
    obtain ⟨b, o, c', he, hb, hkl, hcell⟩ := hv.elem mtC_len hx
    cases he
    iterate 3 refine RL.q (.yes rfl rfl rfl) rfl rfl (Yld.pure rfl) ?_
    refine RL.p rfl rfl ?_
    refine RL.done ?_
    first | refine RK.condD rfl (fun h15 => ?_) (fun h15 => ?_) | refine RK.condN rfl (fun h15 => ?_) (fun h15 => ?_) | refine RK.cond rfl (fun h15 => ?_) (fun h15 => ?_)
    · refine RK.skip ?_
      refine RK.seq ?_
      refine RK.block ?_
      iterate 2 refine RK.seq ?_
      refine RK.region ?_
      iterate 2 refine RL.p rfl rfl ?_
      refine RL.q (.free rfl) rfl rfl (Yld.indexAddrN u51 i50 rfl rfl (by omega)) ?_
      refine RL.q (.free rfl) rfl rfl (Yld.fieldAddr fo50_1 rfl) ?_
      refine RL.q (.free rfl) rfl rfl (Yld.load p9 rfl (at1 (hg.cell (hcell 1 _ rfl) (fun h => h)))) ?_
      refine RL.q (.free rfl) rfl rfl (Yld.lenStr u9 rfl) ?_
      iterate 3 refine RL.p rfl rfl ?_
      first | refine RL.splitD (d := 26) rfl rfl (fun h26 => ?_) (fun h26 => ?_) | refine RL.splitN (d := 26) rfl rfl (fun h26 => ?_) (fun h26 => ?_) | refine RL.split (d := 26) rfl rfl (fun h26 => ?_) (fun h26 => ?_)
      · iterate 8 refine RL.no (.no rfl rfl rfl rfl) rfl rfl ?_
        refine RL.p rfl rfl ?_
        refine RL.done ?_
        refine RK.condT rfl ?_
        refine RK.seq ?_
        refine RK.region ?_
        iterate 3 refine RL.p rfl rfl ?_
        refine RL.done ?_
        refine RK.ret_of Tryz.func50 (res1 rfl rfl) ?_ _
        exact ⟨_, rfl, ⟨_, rfl⟩, hg⟩
      · iterate 2 refine RL.q (.yes rfl rfl rfl) rfl rfl (Yld.pure rfl) ?_
        refine RL.q (.yes rfl rfl rfl) rfl rfl (Yld.indexAddrN u51 i50 rfl rfl (by omega)) ?_
        refine RL.q (.yes rfl rfl rfl) rfl rfl (Yld.fieldAddr fo50_2 rfl) ?_
        refine RL.q (.yes rfl rfl rfl) rfl rfl (Yld.load p9 rfl (at1 (hg.cell (hcell 2 _ rfl) (fun h => h)))) ?_
        refine RL.q (.yes rfl rfl rfl) rfl rfl (Yld.lenStr u9 rfl) ?_
        iterate 2 refine RL.q (.yes rfl rfl rfl) rfl rfl (Yld.pure rfl) ?_
        refine RL.p rfl rfl ?_
        refine RL.done ?_
        first | refine RK.condD rfl (fun h35 => ?_) (fun h35 => ?_) | refine RK.condN rfl (fun h35 => ?_) (fun h35 => ?_) | refine RK.cond rfl (fun h35 => ?_) (fun h35 => ?_)
        · refine RK.seq ?_
          refine RK.region ?_
          iterate 3 refine RL.p rfl rfl ?_
          refine RL.done ?_
          refine RK.ret_of Tryz.func50 (res1 rfl rfl) ?_ _
          exact ⟨_, rfl, ⟨_, rfl⟩, hg⟩
        · refine RK.skip ?_
          refine RK.drawM No [(0, false), (1, false), (2, false), (3, false), (4, false), (5, false), (6, false), (7, false), (8, false), (9, false), (10, false), (11, false), (12, false), (13, false), (14, false), (15, false), (16, false)] [] mixed (by kernel_rfl) ?_
          iterate 4 refine DL.p rfl rfl rfl ?_
          refine DL.qf rfl (.free rfl) rfl rfl (Yld.indexAddrN u51 i50 rfl rfl (by omega)) ?_
          refine DL.qf rfl (.free rfl) rfl rfl (Yld.fieldAddr fo50_1 rfl) ?_
          refine DL.q rfl (.free rfl) rfl rfl rfl (Yld.load p9 rfl (atM (hg.cell (hcell 1 _ rfl) (fun h => h)) (fun h => h))) (Mod.drew _ _) ?_
          refine DL.q rfl (.free rfl) rfl rfl rfl (Yld.lenStr u9 rfl) (Mod.drew _ _) ?_
          iterate 3 refine DL.p rfl rfl rfl ?_
          refine DL.qf rfl (.free rfl) rfl rfl (Yld.indexAddrN u51 i50 rfl rfl (by omega)) ?_
          refine DL.qf rfl (.free rfl) rfl rfl (Yld.fieldAddr fo50_2 rfl) ?_
          refine DL.q rfl (.free rfl) rfl rfl rfl (Yld.load p9 rfl (atM (hg.cell (hcell 2 _ rfl) (fun h => h)) (fun h => h))) (Mod.drew _ _) ?_
          refine DL.q rfl (.free rfl) rfl rfl rfl (Yld.lenStr u9 rfl) (Mod.drew _ _) ?_
          iterate 2 refine DL.p rfl rfl rfl ?_
          refine DL.done ?_
          refine RK.inBlock ?_
          refine RK.region ?_
          iterate 2 refine RL.p rfl rfl ?_
          refine RL.re (d := 17) rfl rfl (succ_i64 (by omega)) ?_
          refine RL.p rfl rfl ?_
          refine RL.done ?_
          exact RK.back (ih (k + 1, _) _ ⟨hg.trans (Mod.drew _ _), by simp; omega⟩ (by simp; omega)) ⟨rfl, rfl, rfl, rfl, trivial⟩
    · refine RK.exit rfl ?_
      refine RK.seq ?_
      refine RK.region ?_
      iterate 3 refine RL.p rfl rfl ?_
      refine RL.q (.free rfl) rfl rfl (Yld.min2 rfl rfl) ?_
      refine RL.p rfl rfl ?_
      refine RL.done ?_
      refine RK.ret_of Tryz.func50 (res1 rfl rfl) ?_ _
      exact ⟨_, rfl, ⟨_, rfl⟩, hg⟩
  · iterate 3 refine RL.no (.no rfl rfl rfl rfl) rfl rfl ?_
    refine RL.p rfl rfl ?_
    refine RL.done ?_
    refine RK.condF rfl ?_
    refine RK.exit rfl ?_
    refine RK.seq ?_
    refine RK.region ?_
    iterate 3 refine RL.p rfl rfl ?_
    refine RL.q (.free rfl) rfl rfl (Yld.min2 rfl rfl) ?_
    refine RL.p rfl rfl ?_
    refine RL.done ?_
    refine RK.ret_of Tryz.func50 (res1 rfl rfl) ?_ _
    exact ⟨_, rfl, ⟨_, rfl⟩, hg⟩
end Go.Proofs.YtffbcfcoddacmaaGreat
