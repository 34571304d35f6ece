/- What the claim stands on, part 10. Of own lemmas only those that it reaches. -/
import Derived.Test.YthbjfhhiajihfaaGreatKe9
set_option linter.unusedVariables false
set_option linter.unusedSimpArgs false
set_option maxHeartbeats 2000000
set_option maxRecDepth 100000
namespace Go.Proofs.YthbjfhhiajihfaaGreat
open Go Go.X Go.Rex
def noB (b : Nat) : Bool := FloatKind.f64.format.order b b != some .eq
def ltF (a b : Nat) : Bool := FloatKind.f64.format.order a b == some .lt
structure Bn where
  k : Int
  lo : Nat
  hi : Nat
def bnC (b : Bn) : List Value := [.int .i64 b.k, .float .f64 b.lo, .float .f64 b.hi]
def bandOf (b : Bn) : Bd := if b.k.tmod 3 = 0 then ⟨true, 0, 0⟩ else if noB b.lo = true then ⟨true, 0, 0⟩ else if noB b.hi = true then ⟨true, 0, 0⟩ else if ltF b.hi b.lo = true then ⟨false, b.hi, b.lo⟩ else ⟨false, b.lo, b.hi⟩
theorem band_ok (b : Bn) (w : World) : Fx Tryz.prog 79 [.agg (bnC b).toArray] w (fun u w' => u = .agg (bdC (bandOf b)).toArray ∧ Grow w w') := by
  refine enter Tryz.func79 rfl rfl rfl _ (Pick.sub (l := [0]) (.cons rfl .nil)) ?_
  refine RK.seq ?_
  refine RK.region ?_
  refine RL.op (.free rfl) rfl rfl (Does.box rfl) ?_
  rintro _ w1 ⟨b1, rfl, hn1⟩
  refine RL.op (.free rfl) rfl rfl (Does.alloc i27) ?_
  rintro _ w2 ⟨b2, rfl, hn2⟩
  have hB1 : Blk w2 b1 44 [.int .i64 b.k, .float .f64 b.lo, .float .f64 b.hi] := hn1.blk.mod hn2.grow (fun h => h)
  refine RL.done ?_
  refine RK.seq ?_
  refine RK.region ?_
  refine RL.q (.free rfl) rfl rfl (Yld.fieldAddr fo44_1 rfl) ?_
  refine RL.q (.free rfl) rfl rfl (Yld.load p25 rfl (at1 (hB1.cell rfl))) ?_
  refine RL.q (.free rfl) rfl rfl (Yld.fieldAddr fo44_2 rfl) ?_
  refine RL.q (.free rfl) rfl rfl (Yld.load p25 rfl (at1 (hB1.cell rfl))) ?_
  refine RL.q (.free rfl) rfl rfl (Yld.build (v := .agg #[.bool false, .float .f64 b.lo, .float .f64 b.hi]) rfl (fun w => by kernel_rfl)) ?_
  refine RL.op (.free rfl) rfl rfl (Does.alloc i27) ?_
  rintro _ w3 ⟨b3, rfl, hn3⟩
  refine RL.op' (.free rfl) rfl (Does.storeN i27 rfl rfl rfl rfl hn3.blk (Nat.le_refl 3)) ?_
  rintro _ w4 ⟨hb4, hm4, _⟩
  have hs1 := hn1.at_
  have hs2 := hn2.at_
  have hs3 := hn3.at_
  have hz1 := hn1.size
  have hz2 := hn2.size
  have hne23 : ¬ b2 = b3 := by omega
  have hne13 : ¬ b1 = b3 := by omega
  have hg4 : Grow w w4 := ((hn1.grow.trans hn2.grow).trans hn3.grow).then hm4 (fun y hy e => by have e' : y = b3 := e; omega)
  have hB2 := (hn2.blk.mod hn3.grow (fun h => h)).mod hm4 hne23
  have hB3 : Blk w4 b3 27 [.bool false, .float .f64 b.lo, .float .f64 b.hi] := hb4
  refine RL.done ?_
  iterate 2 refine RK.seq ?_
  refine RK.region ?_
  refine RL.q (.free rfl) rfl rfl (Yld.fieldAddr fo44_0 rfl) ?_
  refine RL.q (.free rfl) rfl rfl (Yld.load p3 rfl (at1 (((hB1.mod hn3.grow (fun h => h)).mod hm4 hne13).cell rfl))) ?_
  refine RL.q (.free rfl) rfl rfl (Yld.rem rfl rfl (by omega)) ?_
  iterate 2 refine RL.p rfl rfl ?_
  first | refine RL.splitD (d := 13) rfl rfl (fun h12 => ?_) (fun h12 => ?_) | refine RL.splitN (d := 13) rfl rfl (fun h12 => ?_) (fun h12 => ?_) | refine RL.split (d := 13) rfl rfl (fun h12 => ?_) (fun h12 => ?_)
  · iterate 5 refine RL.no (.no rfl rfl rfl rfl) rfl rfl ?_
    iterate 2 refine RL.p rfl rfl ?_
    iterate 5 refine RL.no (.no rfl rfl rfl rfl) rfl rfl ?_
    refine RL.p rfl rfl ?_
    refine RL.done ?_
    refine RK.condT rfl ?_
    refine RK.seq ?_
    refine RK.region ?_
    refine RL.q (.free rfl) rfl rfl (Yld.build (v := .agg (bdC ⟨true, 0, 0⟩).toArray) rfl (fun w => by kernel_rfl)) ?_
    refine RL.op' (.free rfl) rfl (Does.storeN i27 rfl rfl rfl rfl hB2 (Nat.le_refl 3)) ?_
    rintro _ w9 ⟨hb9, hm9, _⟩
    refine RL.done ?_
    refine RK.ret_of Tryz.func79 (resC (cs := bdC (bandOf b)) rfl rfl a27 (by rw [show bandOf b = ⟨true, 0, 0⟩ by unfold bandOf; rw [if_pos h12]]; exact hb9)) ?_ _
    exact ⟨_, rfl, rfl, hg4.then hm9 (fun y hy e => by have e' : y = b2 := e; omega)⟩
  · refine RL.q (.yes rfl rfl rfl) rfl rfl (Yld.fieldAddr fo27_1 rfl) ?_
    refine RL.q (.yes rfl rfl rfl) rfl rfl (Yld.load p25 rfl (at1 (hB3.cell rfl))) ?_
    refine RL.q (.yes rfl rfl rfl) rfl rfl (Yld.fieldAddr fo27_1 rfl) ?_
    refine RL.q (.yes rfl rfl rfl) rfl rfl (Yld.load p25 rfl (at1 (hB3.cell rfl))) ?_
    refine RL.q (.yes rfl rfl rfl) rfl rfl (Yld.pure rfl) ?_
    iterate 2 refine RL.p rfl rfl ?_
    first | refine RL.splitD (d := 20) rfl rfl (fun h18 => ?_) (fun h18 => ?_) | refine RL.splitN (d := 20) rfl rfl (fun h18 => ?_) (fun h18 => ?_) | refine RL.split (d := 20) rfl rfl (fun h18 => ?_) (fun h18 => ?_)
    · have e18 : noB b.lo = true := by unfold noB; simpa using h18
      iterate 5 refine RL.no (.no rfl rfl rfl rfl) rfl rfl ?_
      refine RL.p rfl rfl ?_
      refine RL.done ?_
      refine RK.condT rfl ?_
      refine RK.seq ?_
      refine RK.region ?_
      refine RL.q (.free rfl) rfl rfl (Yld.build (v := .agg (bdC ⟨true, 0, 0⟩).toArray) rfl (fun w => by kernel_rfl)) ?_
      refine RL.op' (.free rfl) rfl (Does.storeN i27 rfl rfl rfl rfl hB2 (Nat.le_refl 3)) ?_
      rintro _ w9 ⟨hb9, hm9, _⟩
      refine RL.done ?_
      refine RK.ret_of Tryz.func79 (resC (cs := bdC (bandOf b)) rfl rfl a27 (by rw [show bandOf b = ⟨true, 0, 0⟩ by unfold bandOf; rw [if_neg h12, if_pos e18]]; exact hb9)) ?_ _
      exact ⟨_, rfl, rfl, hg4.then hm9 (fun y hy e => by have e' : y = b2 := e; omega)⟩
    · have e18 : ¬ noB b.lo = true := by unfold noB; simpa using h18
      refine RL.q (.yes rfl rfl rfl) rfl rfl (Yld.fieldAddr fo27_2 rfl) ?_
      refine RL.q (.yes rfl rfl rfl) rfl rfl (Yld.load p25 rfl (at1 (hB3.cell rfl))) ?_
      refine RL.q (.yes rfl rfl rfl) rfl rfl (Yld.fieldAddr fo27_2 rfl) ?_
      refine RL.q (.yes rfl rfl rfl) rfl rfl (Yld.load p25 rfl (at1 (hB3.cell rfl))) ?_
      refine RL.q (.yes rfl rfl rfl) rfl rfl (Yld.pure rfl) ?_
      refine RL.p rfl rfl ?_
      refine RL.done ?_
      first | refine RK.condD rfl (fun h25 => ?_) (fun h25 => ?_) | refine RK.condN rfl (fun h25 => ?_) (fun h25 => ?_) | refine RK.cond rfl (fun h25 => ?_) (fun h25 => ?_)
      · have e25 : noB b.hi = true := by unfold noB; simpa using h25
        refine RK.seq ?_
        refine RK.region ?_
        refine RL.q (.free rfl) rfl rfl (Yld.build (v := .agg (bdC ⟨true, 0, 0⟩).toArray) rfl (fun w => by kernel_rfl)) ?_
        refine RL.op' (.free rfl) rfl (Does.storeN i27 rfl rfl rfl rfl hB2 (Nat.le_refl 3)) ?_
        rintro _ w9 ⟨hb9, hm9, _⟩
        refine RL.done ?_
        refine RK.ret_of Tryz.func79 (resC (cs := bdC (bandOf b)) rfl rfl a27 (by rw [show bandOf b = ⟨true, 0, 0⟩ by unfold bandOf; rw [if_neg h12, if_neg e18, if_pos e25]]; exact hb9)) ?_ _
        exact ⟨_, rfl, rfl, hg4.then hm9 (fun y hy e => by have e' : y = b2 := e; omega)⟩
      · have e25 : ¬ noB b.hi = true := by unfold noB; simpa using h25
        refine RK.skip ?_
        iterate 2 refine RK.seq ?_
        refine RK.region ?_
        refine RL.q (.free rfl) rfl rfl (Yld.fieldAddr fo27_2 rfl) ?_
        refine RL.q (.free rfl) rfl rfl (Yld.load p25 rfl (at1 (hB3.cell rfl))) ?_
        refine RL.q (.free rfl) rfl rfl (Yld.fieldAddr fo27_1 rfl) ?_
        refine RL.q (.free rfl) rfl rfl (Yld.load p25 rfl (at1 (hB3.cell rfl))) ?_
        refine RL.p rfl rfl ?_
        refine RL.done ?_
        first | refine RK.condD rfl (fun h32 => ?_) (fun h32 => ?_) | refine RK.condN rfl (fun h32 => ?_) (fun h32 => ?_) | refine RK.cond rfl (fun h32 => ?_) (fun h32 => ?_)
        · have e32 : ltF b.hi b.lo = true := by unfold ltF; simpa using h32
          refine RK.region ?_
          refine RL.q (.free rfl) rfl rfl (Yld.fieldAddr fo27_2 rfl) ?_
          refine RL.q (.free rfl) rfl rfl (Yld.load p25 rfl (at1 (hB3.cell rfl))) ?_
          refine RL.q (.free rfl) rfl rfl (Yld.fieldAddr fo27_1 rfl) ?_
          refine RL.q (.free rfl) rfl rfl (Yld.load p25 rfl (at1 (hB3.cell rfl))) ?_
          refine RL.q (.free rfl) rfl rfl (Yld.fieldAddr fo27_1 rfl) ?_
          refine RL.op' (.free rfl) rfl (Does.store i25 rfl rfl rfl hB3 (.s .z)) ?_
          rintro _ w5 ⟨hb5, hm5, _⟩
          refine RL.q (.free rfl) rfl rfl (Yld.fieldAddr fo27_2 rfl) ?_
          refine RL.op' (.free rfl) rfl (Does.store i25 rfl rfl rfl hb5 (.s (.s .z))) ?_
          rintro _ w6 ⟨hb6, hm6, _⟩
          refine RL.done ?_
          refine RK.seq ?_
          refine RK.region ?_
          refine RL.q (.free rfl) rfl rfl (Yld.loadN (cs := bdC ⟨false, b.hi, b.lo⟩) a27 rfl (atN (blk0' hb6))) ?_
          refine RL.op' (.free rfl) rfl (Does.storeN i27 rfl rfl rfl rfl ((hB2.mod hm5 hne23).mod hm6 hne23) (Nat.le_refl 3)) ?_
          rintro _ w9 ⟨hb9, hm9, _⟩
          refine RL.done ?_
          refine RK.ret_of Tryz.func79 (resC (cs := bdC (bandOf b)) rfl rfl a27 (by rw [show bandOf b = ⟨false, b.hi, b.lo⟩ by unfold bandOf; rw [if_neg h12, if_neg e18, if_neg e25, if_pos e32]]; exact hb9)) ?_ _
          exact ⟨_, rfl, rfl, ((hg4.then hm5 (fun y hy e => by have e' : y = b3 := e; omega)).then hm6 (fun y hy e => by have e' : y = b3 := e; omega)).then hm9 (fun y hy e => by have e' : y = b2 := e; omega)⟩
        · have e32 : ¬ ltF b.hi b.lo = true := by unfold ltF; simpa using h32
          refine RK.skip ?_
          refine RK.seq ?_
          refine RK.region ?_
          refine RL.q (.free rfl) rfl rfl (Yld.loadN (cs := bdC ⟨false, b.lo, b.hi⟩) a27 rfl (atN (blk0' hB3))) ?_
          refine RL.op' (.free rfl) rfl (Does.storeN i27 rfl rfl rfl rfl hB2 (Nat.le_refl 3)) ?_
          rintro _ w9 ⟨hb9, hm9, _⟩
          refine RL.done ?_
          refine RK.ret_of Tryz.func79 (resC (cs := bdC (bandOf b)) rfl rfl a27 (by rw [show bandOf b = ⟨false, b.lo, b.hi⟩ by unfold bandOf; rw [if_neg h12, if_neg e18, if_neg e25, if_neg e32]]; exact hb9)) ?_ _
          exact ⟨_, rfl, rfl, hg4.then hm9 (fun y hy e => by have e' : y = b2 := e; omega)⟩
structure Rd where
  sv : Value
  tv : Value
  ev : Value
  src : List Dm
  tgt : List Dm
  bn : Bn
  eq : List Int
def rdC (r : Rd) : List Value := [r.sv, r.tv, .int .i64 r.bn.k, .float .f64 r.bn.lo, .float .f64 r.bn.hi, r.ev]
structure Rd.Ok (w : World) (r : Rd) : Prop where
  s : Sl No w r.sv 3 r.src.length (r.src.flatMap dmC)
  t : Sl No w r.tv 3 r.tgt.length (r.tgt.flatMap dmC)
  e : Sl No w r.ev 1 r.eq.length (ints r.eq)
theorem Rd.Ok.mod {w w' : World} {r : Rd} (h : r.Ok w) (hg : Grow w w') : r.Ok w' := ⟨h.s.mod hg, h.t.mod hg, h.e.mod hg⟩
def enL : List ByteArray := [⟨#[90, 111, 110, 101, 57]⟩, ⟨#[95, 120]⟩, ⟨#[104, 111, 115, 116]⟩, ⟨#[106, 111, 98]⟩, ⟨#[115, 101, 118]⟩]
def hasN (l : List Int) (nm : ByteArray) : Bool := (l.take 9).any fun n => decide (nmS n = nm)
def eqF (l : List Int) : List ByteArray → List ByteArray → List ByteArray
  | [], out => out
  | nm :: ns, out => if out.length < 4 then eqF l ns (if hasN l nm = true then out ++ [nm] else out) else out
def eqOf (l : List Int) : List ByteArray := eqF l enL []
theorem eqF_len (l : List Int) : ∀ (ns out : List ByteArray), out.length ≤ 4 → (eqF l ns out).length ≤ 4
  | [], out, h => h
  | nm :: ns, out, h => by
    unfold eqF
    split
    · refine eqF_len l ns _ ?_
      split
      · simp; omega
      · exact h
    · exact h
def ruOf (r : Rd) (v1 v2 v3 : Value) : Ru := ⟨v1, v2, v3, matsS r.src true, matsS r.tgt true, bandOf r.bn, eqOf r.eq⟩
theorem en_get : ∀ q, q < 5 → (enL.map Value.string).toArray[q]? = some (.string (enL.getD q ByteArray.empty)) := by
  intro q hq
  rcases q with _ | _ | _ | _ | _ | q <;> first | rfl | omega
theorem en_drop {i : Nat} (h : i < 5) : enL.drop i = enL.getD i ByteArray.empty :: enL.drop (i + 1) := by
  rcases i with _ | _ | _ | _ | _ | i <;> first | rfl | omega
theorem hasN_no {l : List Int} {nm : ByteArray} (h : ∀ (q : Nat) (z : Int), q < 9 → l[q]? = some z → nmS z ≠ nm) : hasN l nm = false := by
  unfold hasN
  rw [List.any_eq_false]
  intro z hz
  obtain ⟨q, hq⟩ := List.getElem?_of_mem hz
  have hq9 : q < 9 := by have := (List.getElem?_eq_some_iff.1 hq).1; simp at this; omega
  rw [List.getElem?_take_of_lt hq9] at hq
  simpa using h q z hq9 hq
theorem hasN_yes {l : List Int} {nm : ByteArray} {q : Nat} {z : Int} (hq : q < 9) (hz : l[q]? = some z) (h : nmS z = nm) : hasN l nm = true := by
  unfold hasN
  rw [List.any_eq_true]
  exact ⟨z, List.mem_of_getElem? (by rw [List.getElem?_take_of_lt hq]; exact hz), by simpa using h⟩
theorem rule62_ok (r : Rd) (w : World) (hr : r.Ok w) : Fx Tryz.prog 27 [.agg (rdC r).toArray] w (fun u w' => ∃ v1 v2 v3, u = .agg (ruC (ruOf r v1 v2 v3)).toArray ∧ (ruOf r v1 v2 v3).Ok (fun b => b < w.heap.size) w' ∧ Grow w w') := by
  obtain ⟨ade, ce, hve⟩ := hr.e.shape
  have hbig := hr.e.big
  refine enter Tryz.func27 rfl rfl rfl _ (Pick.sub (l := [0]) (.cons rfl .nil)) ?_
  refine RK.seq ?_
  refine RK.region ?_
  refine RL.op (.free rfl) rfl rfl (Does.box rfl) ?_
  rintro _ w1 ⟨b1, rfl, hn1⟩
  refine RL.op (.free rfl) rfl rfl (Does.alloc i30) ?_
  rintro _ w2 ⟨b2, rfl, hn2⟩
  have hB1 : Blk w2 b1 46 [r.sv, r.tv, .int .i64 r.bn.k, .float .f64 r.bn.lo, .float .f64 r.bn.hi, .slice ade r.eq.length ce] := by have := hn1.blk.mod hn2.grow (fun h => h); rw [← hve]; exact this
  have hg02 := hn1.grow.trans hn2.grow
  have hro := hr.mod hg02
  refine RL.done ?_
  refine RK.seq ?_
  refine RK.cutS (fun b3 : Nat => [(1, pp b1), (2, pp b2), (3, pp b3)]) (fun b3 w3 => ∃ v1 v2, w2.heap.size ≤ b3 ∧ Blk w3 b3 30 [v1, v2, .bool (bandOf r.bn).all, .float .f64 (bandOf r.bn).lo, .float .f64 (bandOf r.bn).hi, .slice none 0 0] ∧ SlM (fun b => b = b3 ∨ b < w2.heap.size) w3 v1 (matsS r.src true) ∧ SlM (fun b => b = b3 ∨ b < w2.heap.size) w3 v2 (matsS r.tgt true) ∧ Grow w2 w3) (fun b3 w3 hQ => ?_) (fun hj => ?_)
  · obtain ⟨v1, v2, hb3, hB3, hs1, hs2, hg3⟩ := hQ
    have hg03 := hg02.trans hg3
    have hlt3 := hB3.lt
    have hlt2 := hn2.blk.lt
    have hat2 := hn2.at_
    have hat1 := hn1.at_
    have hz1 := hn1.size
    have hz2 := hn2.size
    have hne2 : ¬ b2 = b3 := by omega
    have hne1 : ¬ b1 = b3 := by omega
    obtain ⟨ad8, c8, rfl⟩ := hs1.shape
    obtain ⟨ad9, c9, rfl⟩ := hs2.shape
    iterate 2 refine RK.seq ?_
    refine RK.region ?_
    refine RL.p rfl rfl ?_
    refine RL.done ?_
    refine RK.block ?_
    refine RK.loop (fun s : Nat × List ByteArray × Value => [(1, pp b1), (2, pp b2), (3, pp b3), (4, .int .i64 (s.1 : Int))]) (fun s w' => Blk w' b3 30 [.slice ad8 (matsS r.src true).length c8, .slice ad9 (matsS r.tgt true).length c9, .bool (bandOf r.bn).all, .float .f64 (bandOf r.bn).lo, .float .f64 (bandOf r.bn).hi, s.2.2] ∧ Row w' 9 1 s.2.2 s.2.1.length (strsV s.2.1) ∧ Fresh w3.heap.size s.2.2 ∧ Mod (· = b3) w3 w' ∧ s.1 ≤ 5 ∧ s.2.1.length ≤ 4 ∧ eqF r.eq (enL.drop s.1) s.2.1 = eqOf r.eq) (fun s => 5 - s.1) (0, [], .slice none 0 0) ⟨rfl, rfl, rfl, rfl, trivial⟩ ⟨hB3, by simpa [strsV] using Row.nil _ _ _, fun b e => by simp [Value.ownBlock] at e, Mod.refl _ _, by simp, by simp, rfl⟩ (fun s w4 hI ih => ?_)
    obtain ⟨i, out, u⟩ := s
    obtain ⟨hB4, hr4, hf4, hm4, hi, hl4, hst⟩ := hI
    simp only at hB4 hr4 hf4 hi hl4 hst
    obtain ⟨adu, cu, rfl, hcu⟩ := hr4.cap
    iterate 2 refine RK.seq ?_
    refine RK.region ?_
    iterate 3 refine RL.p rfl rfl ?_
    first | refine RL.splitD (d := 19) rfl rfl (fun h18 => ?_) (fun h18 => ?_) | refine RL.splitN (d := 19) rfl rfl (fun h18 => ?_) (fun h18 => ?_) | refine RL.split (d := 19) rfl rfl (fun h18 => ?_) (fun h18 => ?_)
    · refine RL.q (.yes rfl rfl rfl) rfl rfl (Yld.fieldAddr fo30_3 rfl) ?_
      refine RL.q (.yes rfl rfl rfl) rfl rfl (Yld.load p28 rfl (at1 (hB4.cell rfl))) ?_
      refine RL.q (.yes rfl rfl rfl) rfl rfl (Yld.lenSl u28 rfl) ?_
      refine RL.q (.yes rfl rfl rfl) rfl rfl (Yld.pure rfl) ?_
      refine RL.p rfl rfl ?_
      refine RL.done ?_
      first | refine RK.condD rfl (fun h23 => ?_) (fun h23 => ?_) | refine RK.condN rfl (fun h23 => ?_) (fun h23 => ?_) | refine RK.cond rfl (fun h23 => ?_) (fun h23 => ?_)
      · rw [en_drop (by omega)] at hst
        unfold eqF at hst
        rw [if_pos (by omega)] at hst
        have hC1 := (hB1.mod hg3 (fun h => h)).mod hm4 hne1
        have hs4 := hm4.size
        refine RK.skip ?_
        refine RK.seq ?_
        refine RK.block ?_
        refine RK.seq ?_
        refine RK.region ?_
        refine RL.q (.free rfl) rfl rfl (Yld.build (v := .agg (enL.map Value.string).toArray) rfl (fun w => by kernel_rfl)) ?_
        refine RL.p rfl rfl ?_
        refine RL.q (.free rfl) rfl rfl (Yld.idxArr Tryz.underlying139 i9 p9 rfl rfl (by omega) (en_get i (by omega))) ?_
        refine RL.p rfl rfl ?_
        refine RL.done ?_
        refine RK.seq ?_
        refine RK.region ?_
        refine RL.p rfl rfl ?_
        refine RL.done ?_
        refine RK.block ?_
        refine RK.loop (fun j : Nat => [(1, pp b1), (2, pp b2), (3, pp b3), (4, .int .i64 (i : Int)), (5, .string (enL.getD i ByteArray.empty)), (6, .int .i64 (j : Int))]) (fun j w' => w4 = w' ∧ j ≤ r.eq.length ∧ j ≤ 9 ∧ ∀ (q : Nat) (z : Int), q < j → r.eq[q]? = some z → nmS z ≠ (enL.getD i ByteArray.empty)) (fun j => r.eq.length - j) 0 ⟨rfl, rfl, rfl, rfl, rfl, rfl, trivial⟩ ⟨rfl, by omega, by omega, fun q z h => by omega⟩ (fun j w' hI2 ih2 => ?_)
        obtain ⟨rfl, hj, hj9, hall⟩ := hI2
        iterate 2 refine RK.seq ?_
        refine RK.region ?_
        refine RL.p rfl rfl ?_
        refine RL.q (.free rfl) rfl rfl (Yld.fieldAddr fo46_3 rfl) ?_
        refine RL.q (.free rfl) rfl rfl (Yld.load p37 rfl (at1 (hC1.cell rfl))) ?_
        refine RL.q (.free rfl) rfl rfl (Yld.lenSl u37 rfl) ?_
        iterate 2 refine RL.p rfl rfl ?_
        first | refine RL.splitD (d := 35) rfl rfl (fun h34 => ?_) (fun h34 => ?_) | refine RL.splitN (d := 35) rfl rfl (fun h34 => ?_) (fun h34 => ?_) | refine RL.split (d := 35) rfl rfl (fun h34 => ?_) (fun h34 => ?_)
        · iterate 2 refine RL.q (.yes rfl rfl rfl) rfl rfl (Yld.pure rfl) ?_
          refine RL.p rfl rfl ?_
          refine RL.done ?_
          first | refine RK.condD rfl (fun h37 => ?_) (fun h37 => ?_) | refine RK.condN rfl (fun h37 => ?_) (fun h37 => ?_) | refine RK.cond rfl (fun h37 => ?_) (fun h37 => ?_)
          · obtain ⟨z, hz⟩ : ∃ z, r.eq[j]? = some z := ⟨r.eq[j]'(by omega), List.getElem?_eq_getElem (by omega)⟩
            have hre : Sl (· = b3) w4 (.slice ade r.eq.length ce) 1 r.eq.length (ints r.eq) := ((hve ▸ hr.e).off (M' := (· = b3)) (by omega) (fun b hb e => by have e' : b = b3 := e; omega)).mod (Mod.any' hg03) |>.mod hm4
            obtain ⟨b9, o9, c9', he9, _, _, hc9⟩ := hre.elem1 (k := j) (u := .int .i64 z) (by simp [hz])
            cases he9
            refine RK.skip ?_
            refine RK.seq ?_
            refine RK.block ?_
            refine RK.seq ?_
            refine RK.region ?_
            refine RL.q (.free rfl) rfl rfl (Yld.fieldAddr fo46_3 rfl) ?_
            refine RL.q (.free rfl) rfl rfl (Yld.load p37 rfl (at1 (hC1.cell rfl))) ?_
            refine RL.p rfl rfl ?_
            refine RL.q (.free rfl) rfl rfl (Yld.indexAddrN u37 i3 rfl rfl (by omega)) ?_
            refine RL.q (.free rfl) rfl rfl (Yld.load p3 rfl (at1 (hc9 j (.int .i64 z) (by simp [hz])))) ?_
            refine RL.op (.free rfl) rfl rfl (Does.call rfl e80 (nmK_ok _ _)) ?_
            rintro _ _ ⟨rfl, rfl⟩
            iterate 2 refine RL.p rfl rfl ?_
            refine RL.done ?_
            first | refine RK.condD rfl (fun h48 => ?_) (fun h48 => ?_) | refine RK.condN rfl (fun h48 => ?_) (fun h48 => ?_) | refine RK.cond rfl (fun h48 => ?_) (fun h48 => ?_)
            · have hyes := hasN_yes (l := r.eq) (by omega) hz h48
              rw [if_pos hyes] at hst
              refine RK.seq ?_
              refine RK.region ?_
              refine RL.q (.free rfl) rfl rfl (Yld.fieldAddr fo30_3 rfl) ?_
              refine RL.q (.free rfl) rfl rfl (Yld.load p28 rfl (at1 (hB4.cell rfl))) ?_
              refine RL.p rfl rfl ?_
              refine RL.op (.free rfl) rfl rfl (Does.slice1 u28 i9 rfl rfl rfl rfl rfl) ?_
              rintro _ w5 ⟨b10, rfl, hn10⟩
              refine RL.op (.free rfl) rfl rfl (Does.append u28 i9 rfl rfl rfl rfl rfl (hr4.mod hn10.grow (fun _ _ h => h)) (Sl.new hn10 1 1 rfl (by omega) (fun h => h)) (rfl) (by omega)) ?_
              rintro z6 w6 ⟨hr6, hm6, hu6⟩
              have hs10 := hn10.grow.size
              have hun : ¬ (Value.slice adu out.length cu).ownBlock = some b3 := fun e => by have := hf4 b3 e; omega
              have hB6 := (hB4.mod hn10.grow (fun h => h)).mod hm6 hun
              have hf6 : Fresh w3.heap.size z6 := fun b e => by
                  rcases hu6 with h1 | h1
                  · exact hf4 b (h1 ▸ e)
                  · rw [h1] at e; cases e; omega
              obtain ⟨ad10, c10, rfl⟩ := hr6.slice
              refine RL.q (.free rfl) rfl rfl (Yld.fieldAddr fo30_3 rfl) ?_
              refine RL.op' (.free rfl) rfl (Does.store i28 rfl rfl rfl hB6 (.s (.s (.s (.s (.s .z)))))) ?_
              rintro _ w7 ⟨hb7, hm7, _⟩
              refine RL.done ?_
              refine RK.exit rfl ?_
              refine RK.inBlock ?_
              refine RK.region ?_
              iterate 2 refine RL.p rfl rfl ?_
              refine RL.re (d := 26) rfl rfl (succ_i64 (by omega)) ?_
              refine RL.p rfl rfl ?_
              refine RL.done ?_
              exact RK.back (ih (i + 1, out ++ [(enL.getD i ByteArray.empty)], _) _ ⟨hb7, by
                  simp only
                  have e1 : strsV (out ++ [(enL.getD i ByteArray.empty)]) = strsV out ++ (Value.string (enL.getD i ByteArray.empty)).cells.toList := by simp [strsV, Value.cells]
                  rw [e1, List.length_append]
                  exact hr6.mod hm7 (fun b e e2 => by have e' : b = b3 := e2; have := hf6 b e; omega), hf6, ((hm4.then hn10.grow (fun _ _ h => h.elim)).then hm6 (fun b hb e => by have := hf4 b e; omega)).trans hm7, by simp only; omega, by simp only; rw [List.length_append]; simp; omega, hst⟩ (by simp only; omega)) ⟨rfl, rfl, rfl, rfl, trivial⟩
            · refine RK.skip ?_
              refine RK.inBlock ?_
              refine RK.region ?_
              iterate 2 refine RL.p rfl rfl ?_
              refine RL.re (d := 40) rfl rfl (succ_i64 (by omega)) ?_
              refine RL.p rfl rfl ?_
              refine RL.done ?_
              exact RK.back (ih2 (j + 1) _ ⟨rfl, by omega, by omega, fun q y hq hy => by by_cases e : q = j; (subst e; rw [hz] at hy; cases hy; exact h48); exact hall q y (by omega) hy⟩ (by omega)) ⟨rfl, rfl, rfl, rfl, rfl, rfl, trivial⟩
          · have hno : hasN r.eq (enL.getD i ByteArray.empty) = false := hasN_no (fun q z hq hz => hall q z (by omega) hz)
            rw [if_neg (by rw [hno]; simp)] at hst
            refine RK.exit rfl ?_
            refine RK.inBlock ?_
            refine RK.region ?_
            iterate 2 refine RL.p rfl rfl ?_
            refine RL.re (d := 26) rfl rfl (succ_i64 (by omega)) ?_
            refine RL.p rfl rfl ?_
            refine RL.done ?_
            exact RK.back (ih (i + 1, out, _) _ ⟨hB4, hr4, hf4, hm4, by simp only; omega, hl4, hst⟩ (by simp only; omega)) ⟨rfl, rfl, rfl, rfl, trivial⟩
        · have hall9 := hall
          have hno : hasN r.eq (enL.getD i ByteArray.empty) = false := hasN_no (fun q z hq hz => hall q z (by have := (List.getElem?_eq_some_iff.1 hz).1; omega) hz)
          rw [if_neg (by rw [hno]; simp)] at hst
          iterate 2 refine RL.no (.no rfl rfl rfl rfl) rfl rfl ?_
          refine RL.p rfl rfl ?_
          refine RL.done ?_
          refine RK.condF rfl ?_
          refine RK.exit rfl ?_
          refine RK.inBlock ?_
          refine RK.region ?_
          iterate 2 refine RL.p rfl rfl ?_
          refine RL.re (d := 26) rfl rfl (succ_i64 (by omega)) ?_
          refine RL.p rfl rfl ?_
          refine RL.done ?_
          exact RK.back (ih (i + 1, out, _) _ ⟨hB4, hr4, hf4, hm4, by simp only; omega, hl4, hst⟩ (by simp only; omega)) ⟨rfl, rfl, rfl, rfl, trivial⟩
      · have hfin : out = eqOf r.eq := by rw [← hst, en_drop (by omega)]; unfold eqF; rw [if_neg (by omega)]
        have hC2 : Blk w4 b2 30 _ := (hn2.blk.mod hg3 (fun h => h)).mod hm4 hne2
        subst hfin
        refine RK.exit rfl ?_
        refine RK.seq ?_
        refine RK.region ?_
        refine RL.q (.free rfl) rfl rfl (Yld.loadN (cs := ruC (ruOf r (.slice ad8 (matsS r.src true).length c8) (.slice ad9 (matsS r.tgt true).length c9) (.slice adu (eqOf r.eq).length cu))) a30 rfl (atN (blk0' hB4))) ?_
        refine RL.op' (.free rfl) rfl (Does.storeN i30 rfl rfl rfl rfl hC2 (Nat.le_refl 6)) ?_
        rintro _ w9 ⟨hb9, hm9, _⟩
        have hm9' : Mod (fun b => b = b3 ∨ b < w2.heap.size) w4 w9 := hm9.mono fun b _ e => .inr (by have e' : b = b2 := e; omega)
        refine RL.done ?_
        refine RK.ret_of Tryz.func27 (resC (cs := ruC (ruOf r (.slice ad8 (matsS r.src true).length c8) (.slice ad9 (matsS r.tgt true).length c9) (.slice adu (eqOf r.eq).length cu))) rfl rfl a30 hb9) ?_ _
        exact ⟨_, rfl, _, _, _, rfl, ⟨((hs1.mod (hm4.mono fun b _ e => .inl e)).mod hm9').off (by omega) (fun b _ e => .inr (by have e' : b < w.heap.size := e; omega)), ((hs2.mod (hm4.mono fun b _ e => .inl e)).mod hm9').off (by omega) (fun b _ e => .inr (by have e' : b < w.heap.size := e; omega)), ((Sl.own (M := fun b => b = b2 ∨ b < w.heap.size) hr4 (fun b e e2 => by have := hf4 b e; have := hg3.size; omega)).mod (hm9.mono fun b _ e => .inl e)).off (by omega) (fun b _ e => .inr e)⟩, (hg03.then hm4 (fun y hy e => by have e' : y = b3 := e; omega)).then hm9 (fun y hy e => by have e' : y = b2 := e; omega)⟩
    · have hfin : out = eqOf r.eq := by rw [← hst, show i = 5 by omega]; rfl
      have hC2 : Blk w4 b2 30 _ := (hn2.blk.mod hg3 (fun h => h)).mod hm4 hne2
      subst hfin
      iterate 4 refine RL.no (.no rfl rfl rfl rfl) rfl rfl ?_
      refine RL.p rfl rfl ?_
      refine RL.done ?_
      refine RK.condF rfl ?_
      refine RK.exit rfl ?_
      refine RK.seq ?_
      refine RK.region ?_
      refine RL.q (.free rfl) rfl rfl (Yld.loadN (cs := ruC (ruOf r (.slice ad8 (matsS r.src true).length c8) (.slice ad9 (matsS r.tgt true).length c9) (.slice adu (eqOf r.eq).length cu))) a30 rfl (atN (blk0' hB4))) ?_
      refine RL.op' (.free rfl) rfl (Does.storeN i30 rfl rfl rfl rfl hC2 (Nat.le_refl 6)) ?_
      rintro _ w9 ⟨hb9, hm9, _⟩
      have hm9' : Mod (fun b => b = b3 ∨ b < w2.heap.size) w4 w9 := hm9.mono fun b _ e => .inr (by have e' : b = b2 := e; omega)
      refine RL.done ?_
      refine RK.ret_of Tryz.func27 (resC (cs := ruC (ruOf r (.slice ad8 (matsS r.src true).length c8) (.slice ad9 (matsS r.tgt true).length c9) (.slice adu (eqOf r.eq).length cu))) rfl rfl a30 hb9) ?_ _
      exact ⟨_, rfl, _, _, _, rfl, ⟨((hs1.mod (hm4.mono fun b _ e => .inl e)).mod hm9').off (by omega) (fun b _ e => .inr (by have e' : b < w.heap.size := e; omega)), ((hs2.mod (hm4.mono fun b _ e => .inl e)).mod hm9').off (by omega) (fun b _ e => .inr (by have e' : b < w.heap.size := e; omega)), ((Sl.own (M := fun b => b = b2 ∨ b < w.heap.size) hr4 (fun b e e2 => by have := hf4 b e; have := hg3.size; omega)).mod (hm9.mono fun b _ e => .inl e)).off (by omega) (fun b _ e => .inr e)⟩, (hg03.then hm4 (fun y hy e => by have e' : y = b3 := e; omega)).then hm9 (fun y hy e => by have e' : y = b2 := e; omega)⟩
  · refine RK.drawT No (.op 0 false (.op 1 false (.op 3 false (.op 4 false (.op 6 false (.op 7 false (.fork 2 (.fork 5 (.fork 8 (.op 9 false (.op 10 true (.op 11 true .nil))) 10 (.op 8 true (.op 9 false (.op 11 true .nil)))) 10 (.op 5 true (.op 8 true (.op 9 false (.op 11 true .nil))))) 10 (.op 2 true (.op 5 true (.op 8 true (.op 9 false (.op 11 true .nil)))))))))))) [] mixed (by kernel_rfl) ?_
    refine DT.qf rfl (.free rfl) rfl rfl (Yld.fieldAddr fo46_0 rfl) ?_
    refine DT.q rfl (.free rfl) rfl rfl rfl (Yld.load p42 rfl (atM (hB1.cell rfl) (fun h => h))) (Mod.drew _ _) ?_
    refine DT.qf rfl (.free rfl) rfl rfl (Yld.fieldAddr fo46_1 rfl) ?_
    refine DT.q rfl (.free rfl) rfl rfl rfl (Yld.load p42 rfl (atM (hB1.cell rfl) (fun h => h))) (Mod.drew _ _) ?_
    refine DT.qf rfl (.free rfl) rfl rfl (Yld.fieldAddr fo46_2 rfl) ?_
    refine DT.q rfl (.free rfl) rfl rfl rfl (Yld.loadN (cs := bnC r.bn) a44 rfl (atNM (fldN hB1 2 3) (fun h => h))) (Mod.drew _ _) ?_
    refine DT.fork ?_ ?_
    · refine DT.op rfl (.free rfl) rfl rfl (Does.call rfl e72 (mats_ok No r.src true _ _ (hro.s.mod (Mod.drew _ _)))) ?_
      rintro z1 w3 ⟨hr1, hf1, hg3⟩
      have hd3 := (Mod.drew No w2).trans hg3
      refine ⟨hd3, ?_⟩
      refine DT.fork ?_ ?_
      · refine DT.op rfl (.free rfl) rfl rfl (Does.call rfl e72 (mats_ok No r.tgt true _ _ (hro.t.mod hd3))) ?_
        rintro z2 w4 ⟨hr2, hf2, hg4⟩
        have hd4 := hd3.trans hg4
        refine ⟨hd4, ?_⟩
        obtain ⟨ad8, c8, rfl⟩ := hr1.slice
        obtain ⟨ad9, c9, rfl⟩ := hr2.slice
        refine DT.fork ?_ ?_
        · refine DT.op rfl (.free rfl) rfl rfl (Does.call rfl e79 (band_ok r.bn _)) ?_
          rintro _ w5 ⟨rfl, hg5⟩
          refine ⟨hd4.trans hg5, ?_⟩
          refine DT.qf rfl (.free rfl) rfl rfl (Yld.build (v := .agg #[.slice ad8 (matsS r.src true).length c8, .slice ad9 (matsS r.tgt true).length c9, .bool (bandOf r.bn).all, .float .f64 (bandOf r.bn).lo, .float .f64 (bandOf r.bn).hi, .slice none 0 0]) rfl (fun w => by kernel_rfl)) ?_
          refine DT.op rfl (.free rfl) rfl rfl (Does.alloc i30) ?_
          rintro _ w6 ⟨b3, rfl, hn3⟩
          have gpre := (hd4.trans hg5).trans hn3.grow
          refine ⟨gpre, ?_⟩
          have hsz := hn3.at_
          have hs5 := (hd4.trans hg5).size
          have hs35 := (hg4.trans hg5).size
          have hs45 := hg5.size
          have hle : w2.heap.size ≤ b3 := by omega
          have hP3 := hn3.blk
          have hA := hr1.mod ((hg4.trans hg5).trans hn3.grow) (fun _ _ h => h)
          have hBB := hr2.mod (hg5.trans hn3.grow) (fun _ _ h => h)
          have hneA : ∀ b, (Value.slice ad8 (matsS r.src true).length c8).ownBlock = some b → ¬ (b = b3 ∨ b < w2.heap.size) := fun b e e2 => by have := hr1.lt (b := b) e; have := hf1 b e; have : w2.drew.heap.size = w2.heap.size := rfl; omega
          have hneB : ∀ b, (Value.slice ad9 (matsS r.tgt true).length c9).ownBlock = some b → ¬ (b = b3 ∨ b < w2.heap.size) := fun b e e2 => by have := hr2.lt (b := b) e; have := hf2 b e; have := hd3.size; omega
          refine DT.op' rfl (.free rfl) rfl (Does.storeN i30 rfl rfl rfl rfl hP3 (Nat.le_refl 6)) ?_
          rintro _ w7 ⟨hb7, hm7, _⟩
          have hg7 : Grow w2 w7 := gpre.then hm7 (fun y hy e => by have e' : y = b3 := e; omega)
          refine ⟨hg7, ?_⟩
          refine DT.done ?_
          exact RK.back (hj b3 _ ⟨_, _, hle, hb7, (Sl.own hA hneA).mod (hm7.mono fun b _ e => .inl e), (Sl.own hBB hneB).mod (hm7.mono fun b _ e => .inl e), hg7⟩) ⟨rfl, rfl, rfl, trivial⟩
        · refine DT.op rfl (.free rfl) rfl rfl (Does.alloc i30) ?_
          rintro _ w5 ⟨b3, rfl, hn3⟩
          refine ⟨hd4.trans hn3.grow, ?_⟩
          refine DT.op rfl (.free rfl) rfl rfl (Does.call rfl e79 (band_ok r.bn _)) ?_
          rintro _ w6 ⟨rfl, hg5⟩
          have gpre := (hd4.trans hn3.grow).trans hg5
          refine ⟨gpre, ?_⟩
          have hsz := hn3.at_
          have hs5 := hd4.size
          have hs35 := hg4.size
          have hle : w2.heap.size ≤ b3 := by omega
          have hP3 := hn3.blk.mod hg5 (fun h => h)
          have hA := hr1.mod ((hg4.trans hn3.grow).trans hg5) (fun _ _ h => h)
          have hBB := hr2.mod (hn3.grow.trans hg5) (fun _ _ h => h)
          have hneA : ∀ b, (Value.slice ad8 (matsS r.src true).length c8).ownBlock = some b → ¬ (b = b3 ∨ b < w2.heap.size) := fun b e e2 => by have := hr1.lt (b := b) e; have := hf1 b e; have : w2.drew.heap.size = w2.heap.size := rfl; omega
          have hneB : ∀ b, (Value.slice ad9 (matsS r.tgt true).length c9).ownBlock = some b → ¬ (b = b3 ∨ b < w2.heap.size) := fun b e e2 => by have := hr2.lt (b := b) e; have := hf2 b e; have := hd3.size; omega
          refine DT.qf rfl (.free rfl) rfl rfl (Yld.build (v := .agg #[.slice ad8 (matsS r.src true).length c8, .slice ad9 (matsS r.tgt true).length c9, .bool (bandOf r.bn).all, .float .f64 (bandOf r.bn).lo, .float .f64 (bandOf r.bn).hi, .slice none 0 0]) rfl (fun w => by kernel_rfl)) ?_
          refine DT.op' rfl (.free rfl) rfl (Does.storeN i30 rfl rfl rfl rfl hP3 (Nat.le_refl 6)) ?_
          rintro _ w7 ⟨hb7, hm7, _⟩
          have hg7 : Grow w2 w7 := gpre.then hm7 (fun y hy e => by have e' : y = b3 := e; omega)
          refine ⟨hg7, ?_⟩
          refine DT.done ?_
          exact RK.back (hj b3 _ ⟨_, _, hle, hb7, (Sl.own hA hneA).mod (hm7.mono fun b _ e => .inl e), (Sl.own hBB hneB).mod (hm7.mono fun b _ e => .inl e), hg7⟩) ⟨rfl, rfl, rfl, trivial⟩
      · refine DT.op rfl (.free rfl) rfl rfl (Does.alloc i30) ?_
        rintro _ w4 ⟨b3, rfl, hn3⟩
        have hd4 := hd3.trans hn3.grow
        refine ⟨hd4, ?_⟩
        refine DT.op rfl (.free rfl) rfl rfl (Does.call rfl e72 (mats_ok No r.tgt true _ _ (hro.t.mod hd4))) ?_
        rintro z2 w5 ⟨hr2, hf2, hg4⟩
        refine ⟨hd4.trans hg4, ?_⟩
        obtain ⟨ad8, c8, rfl⟩ := hr1.slice
        obtain ⟨ad9, c9, rfl⟩ := hr2.slice
        refine DT.op rfl (.free rfl) rfl rfl (Does.call rfl e79 (band_ok r.bn _)) ?_
        rintro _ w6 ⟨rfl, hg5⟩
        have gpre := (hd4.trans hg4).trans hg5
        refine ⟨gpre, ?_⟩
        have hsz := hn3.at_
        have hsz2 := hn3.size
        have hs5 := hd3.size
        have hle : w2.heap.size ≤ b3 := by omega
        have hP3 := hn3.blk.mod (hg4.trans hg5) (fun h => h)
        have hA := hr1.mod ((hn3.grow.trans hg4).trans hg5) (fun _ _ h => h)
        have hBB := hr2.mod hg5 (fun _ _ h => h)
        have hneA : ∀ b, (Value.slice ad8 (matsS r.src true).length c8).ownBlock = some b → ¬ (b = b3 ∨ b < w2.heap.size) := fun b e e2 => by have := hr1.lt (b := b) e; have := hf1 b e; have : w2.drew.heap.size = w2.heap.size := rfl; omega
        have hneB : ∀ b, (Value.slice ad9 (matsS r.tgt true).length c9).ownBlock = some b → ¬ (b = b3 ∨ b < w2.heap.size) := fun b e e2 => by have := hf2 b e; have := hd4.size; omega
        refine DT.qf rfl (.free rfl) rfl rfl (Yld.build (v := .agg #[.slice ad8 (matsS r.src true).length c8, .slice ad9 (matsS r.tgt true).length c9, .bool (bandOf r.bn).all, .float .f64 (bandOf r.bn).lo, .float .f64 (bandOf r.bn).hi, .slice none 0 0]) rfl (fun w => by kernel_rfl)) ?_
        refine DT.op' rfl (.free rfl) rfl (Does.storeN i30 rfl rfl rfl rfl hP3 (Nat.le_refl 6)) ?_
        rintro _ w7 ⟨hb7, hm7, _⟩
        have hg7 : Grow w2 w7 := gpre.then hm7 (fun y hy e => by have e' : y = b3 := e; omega)
        refine ⟨hg7, ?_⟩
        refine DT.done ?_
        exact RK.back (hj b3 _ ⟨_, _, hle, hb7, (Sl.own hA hneA).mod (hm7.mono fun b _ e => .inl e), (Sl.own hBB hneB).mod (hm7.mono fun b _ e => .inl e), hg7⟩) ⟨rfl, rfl, rfl, trivial⟩
    · refine DT.op rfl (.free rfl) rfl rfl (Does.alloc i30) ?_
      rintro _ w3 ⟨b3, rfl, hn3⟩
      have hd3 := (Mod.drew No w2).trans hn3.grow
      refine ⟨hd3, ?_⟩
      refine DT.op rfl (.free rfl) rfl rfl (Does.call rfl e72 (mats_ok No r.src true _ _ (hro.s.mod hd3))) ?_
      rintro z1 w4 ⟨hr1, hf1, hg3⟩
      have hd4 := hd3.trans hg3
      refine ⟨hd4, ?_⟩
      refine DT.op rfl (.free rfl) rfl rfl (Does.call rfl e72 (mats_ok No r.tgt true _ _ (hro.t.mod hd4))) ?_
      rintro z2 w5 ⟨hr2, hf2, hg4⟩
      refine ⟨hd4.trans hg4, ?_⟩
      obtain ⟨ad8, c8, rfl⟩ := hr1.slice
      obtain ⟨ad9, c9, rfl⟩ := hr2.slice
      refine DT.op rfl (.free rfl) rfl rfl (Does.call rfl e79 (band_ok r.bn _)) ?_
      rintro _ w6 ⟨rfl, hg5⟩
      have gpre := (hd4.trans hg4).trans hg5
      refine ⟨gpre, ?_⟩
      have hsz := hn3.at_
      have hsz2 := hn3.size
      have hs5 : w2.drew.heap.size = w2.heap.size := rfl
      have hs6 := hg3.size
      have hle : w2.heap.size ≤ b3 := by omega
      have hP3 := hn3.blk.mod ((hg3.trans hg4).trans hg5) (fun h => h)
      have hA := hr1.mod (hg4.trans hg5) (fun _ _ h => h)
      have hBB := hr2.mod hg5 (fun _ _ h => h)
      have hneA : ∀ b, (Value.slice ad8 (matsS r.src true).length c8).ownBlock = some b → ¬ (b = b3 ∨ b < w2.heap.size) := fun b e e2 => by have := hf1 b e; omega
      have hneB : ∀ b, (Value.slice ad9 (matsS r.tgt true).length c9).ownBlock = some b → ¬ (b = b3 ∨ b < w2.heap.size) := fun b e e2 => by have := hf2 b e; have := hd4.size; omega
      refine DT.qf rfl (.free rfl) rfl rfl (Yld.build (v := .agg #[.slice ad8 (matsS r.src true).length c8, .slice ad9 (matsS r.tgt true).length c9, .bool (bandOf r.bn).all, .float .f64 (bandOf r.bn).lo, .float .f64 (bandOf r.bn).hi, .slice none 0 0]) rfl (fun w => by kernel_rfl)) ?_
      refine DT.op' rfl (.free rfl) rfl (Does.storeN i30 rfl rfl rfl rfl hP3 (Nat.le_refl 6)) ?_
      rintro _ w7 ⟨hb7, hm7, _⟩
      have hg7 : Grow w2 w7 := gpre.then hm7 (fun y hy e => by have e' : y = b3 := e; omega)
      refine ⟨hg7, ?_⟩
      refine DT.done ?_
      exact RK.back (hj b3 _ ⟨_, _, hle, hb7, (Sl.own hA hneA).mod (hm7.mono fun b _ e => .inl e), (Sl.own hBB hneB).mod (hm7.mono fun b _ e => .inl e), hg7⟩) ⟨rfl, rfl, rfl, trivial⟩
end Go.Proofs.YthbjfhhiajihfaaGreat
set_option linter.unusedVariables false
set_option linter.unusedSimpArgs false
set_option maxHeartbeats 4000000
set_option maxRecDepth 100000
namespace Go.Proofs.YthbjfhhiajihfaaGreat
open Go Go.X Go.Rex
theorem eqOf_len (l : List Int) : (eqOf l).length ≤ 4 := eqF_len l enL [] (by simp)
theorem ruOf_few (rd : Rd) (v1 v2 v3 : Value) : (ruOf rd v1 v2 v3).Few := ⟨Nat.le_trans (matsS_len _ _) (by omega), Nat.le_trans (matsS_len _ _) (by omega), Nat.le_trans (eqOf_len _) (by omega)⟩
end Go.Proofs.YthbjfhhiajihfaaGreat
set_option linter.unusedVariables false
set_option linter.unusedSimpArgs false
set_option maxHeartbeats 4000000
set_option maxRecDepth 100000
namespace Go.Proofs.YthbjfhhiajihfaaGreat
open Go Go.X Go.Rex
theorem weightB_ok (M : Nat → Prop) (ls : List Mt) (v : Value) (m : Int) (hm0 : 0 ≤ m) (hm1 : m ≤ 1000000) (w : World) (hv : SlM M w v ls) : Fx Tryz.prog 55 [v, .int .i64 m] w (fun u w' => (∃ n : Int, u = .int .i64 n ∧ (n ≤ m → (ls.length : Int) ≤ m) ∧ 0 ≤ n ∧ n ≤ m + 1) ∧ Grow w w') := by
  obtain ⟨ad, c, rfl⟩ := hv.shape
  have hbig := hv.big
  refine enter Tryz.func55 rfl rfl rfl _ (Pick.sub (l := [0, 1]) (.cons rfl (.cons rfl .nil))) ?_
  refine RK.seq ?_
  refine RK.region ?_
  refine RL.p rfl rfl ?_
  refine RL.done ?_
  refine RK.seq ?_
  refine RK.region ?_
  refine RL.p rfl rfl ?_
  refine RL.done ?_
  iterate 2 refine RK.seq ?_
  refine RK.region ?_
  refine RL.p rfl rfl ?_
  refine RL.done ?_
  refine RK.block ?_
  refine RK.loop (fun s : Nat × Int => [(0, .slice ad ls.length c), (1, .int .i64 m), (5, .int .i64 s.2), (6, .int .i64 (s.1 : Int))]) (fun s w' => Grow w w' ∧ s.1 ≤ ls.length ∧ (s.1 : Int) ≤ s.2 ∧ s.2 ≤ 3 * m + 1) (fun s => ls.length - s.1) (0, 0) ⟨rfl, rfl, rfl, rfl, trivial⟩ ⟨Mod.refl _ _, by omega, by simp, by simp only; omega⟩ (fun s w' hI ih => ?_)
  obtain ⟨k, z⟩ := s
  obtain ⟨hg, hk, hkz, hz⟩ := hI
  simp only at hk hkz hz
  iterate 2 refine RK.seq ?_
  refine RK.region ?_
  iterate 2 refine RL.p rfl rfl ?_
  refine RL.q (.free rfl) rfl rfl (Yld.lenSl u24 rfl) ?_
  iterate 2 refine RL.p rfl rfl ?_
  first | refine RL.splitD (d := 11) rfl rfl (fun h10 => ?_) (fun h10 => ?_) | refine RL.splitN (d := 11) rfl rfl (fun h10 => ?_) (fun h10 => ?_) | refine RL.split (d := 11) rfl rfl (fun h10 => ?_) (fun h10 => ?_)
  · obtain ⟨x, hx⟩ : ∃ x, ls[k]? = some x := ⟨ls[k]'(by omega), List.getElem?_eq_getElem (by omega)⟩
    obtain ⟨b, o, c', he, hb, hkl, hcell⟩ := hv.elem mtC_len hx
    cases he
    iterate 3 refine RL.q (.yes rfl rfl rfl) rfl rfl (Yld.pure rfl) ?_
    refine RL.p rfl rfl ?_
    refine RL.done ?_
    first | refine RK.condD rfl (fun h15 => ?_) (fun h15 => ?_) | refine RK.condN rfl (fun h15 => ?_) (fun h15 => ?_) | refine RK.cond rfl (fun h15 => ?_) (fun h15 => ?_)
    · refine RK.skip ?_
      refine RK.seq ?_
      refine RK.block ?_
      iterate 2 refine RK.seq ?_
      refine RK.region ?_
      iterate 2 refine RL.p rfl rfl ?_
      refine RL.q (.free rfl) rfl rfl (Yld.indexAddrN u24 i135 rfl rfl (by omega)) ?_
      refine RL.q (.free rfl) rfl rfl (Yld.fieldAddr fo135_1 rfl) ?_
      refine RL.q (.free rfl) rfl rfl (Yld.load p9 rfl (at1 (hg.cell (hcell 1 _ rfl) (fun h => h)))) ?_
      refine RL.q (.free rfl) rfl rfl (Yld.lenStr u9 rfl) ?_
      iterate 3 refine RL.p rfl rfl ?_
      first | refine RL.splitD (d := 26) rfl rfl (fun h26 => ?_) (fun h26 => ?_) | refine RL.splitN (d := 26) rfl rfl (fun h26 => ?_) (fun h26 => ?_) | refine RL.split (d := 26) rfl rfl (fun h26 => ?_) (fun h26 => ?_)
      · iterate 8 refine RL.no (.no rfl rfl rfl rfl) rfl rfl ?_
        refine RL.p rfl rfl ?_
        refine RL.done ?_
        refine RK.condT rfl ?_
        refine RK.seq ?_
        refine RK.region ?_
        iterate 2 refine RL.p rfl rfl ?_
        refine RL.re (d := 37) rfl rfl (add_i64 (z := m + 1) rfl (by omega) (by omega)) ?_
        refine RL.p rfl rfl ?_
        refine RL.done ?_
        refine RK.ret_of Tryz.func55 (res1 rfl rfl) ?_ _
        exact ⟨_, rfl, ⟨m + 1, rfl, by omega, by omega, by omega⟩, hg⟩
      · iterate 2 refine RL.q (.yes rfl rfl rfl) rfl rfl (Yld.pure rfl) ?_
        refine RL.q (.yes rfl rfl rfl) rfl rfl (Yld.indexAddrN u24 i135 rfl rfl (by omega)) ?_
        refine RL.q (.yes rfl rfl rfl) rfl rfl (Yld.fieldAddr fo135_2 rfl) ?_
        refine RL.q (.yes rfl rfl rfl) rfl rfl (Yld.load p9 rfl (at1 (hg.cell (hcell 2 _ rfl) (fun h => h)))) ?_
        refine RL.q (.yes rfl rfl rfl) rfl rfl (Yld.lenStr u9 rfl) ?_
        iterate 2 refine RL.q (.yes rfl rfl rfl) rfl rfl (Yld.pure rfl) ?_
        refine RL.p rfl rfl ?_
        refine RL.done ?_
        first | refine RK.condD rfl (fun h35 => ?_) (fun h35 => ?_) | refine RK.condN rfl (fun h35 => ?_) (fun h35 => ?_) | refine RK.cond rfl (fun h35 => ?_) (fun h35 => ?_)
        · refine RK.seq ?_
          refine RK.region ?_
          iterate 2 refine RL.p rfl rfl ?_
          refine RL.re (d := 37) rfl rfl (add_i64 (z := m + 1) rfl (by omega) (by omega)) ?_
          refine RL.p rfl rfl ?_
          refine RL.done ?_
          refine RK.ret_of Tryz.func55 (res1 rfl rfl) ?_ _
          exact ⟨_, rfl, ⟨m + 1, rfl, by omega, by omega, by omega⟩, hg⟩
        · refine RK.skip ?_
          refine RK.drawM No [(0, false), (1, false), (2, false), (3, false), (4, false), (5, false), (6, false), (7, false), (8, false), (9, false), (10, false), (11, false), (12, false), (13, false), (14, false), (15, false), (16, false)] [] mixed (by kernel_rfl) ?_
          iterate 2 refine DL.p rfl rfl rfl ?_
          refine DL.re (d := 39) rfl rfl (add_i64 (z := z + 1) rfl (by omega) (by omega)) ?_
          iterate 2 refine DL.p rfl rfl rfl ?_
          refine DL.qf rfl (.free rfl) rfl rfl (Yld.indexAddrN u24 i135 rfl rfl (by omega)) ?_
          refine DL.qf rfl (.free rfl) rfl rfl (Yld.fieldAddr fo135_1 rfl) ?_
          refine DL.q rfl (.free rfl) rfl rfl rfl (Yld.load p9 rfl (atM (hg.cell (hcell 1 _ rfl) (fun h => h)) (fun h => h))) (Mod.drew _ _) ?_
          refine DL.q rfl (.free rfl) rfl rfl rfl (Yld.lenStr u9 rfl) (Mod.drew _ _) ?_
          refine DL.p rfl rfl rfl ?_
          refine DL.re (d := 46) rfl rfl (add_i64 (z := z + 1 + x.name.size) rfl (by omega) (by omega)) ?_
          iterate 2 refine DL.p rfl rfl rfl ?_
          refine DL.qf rfl (.free rfl) rfl rfl (Yld.indexAddrN u24 i135 rfl rfl (by omega)) ?_
          refine DL.qf rfl (.free rfl) rfl rfl (Yld.fieldAddr fo135_2 rfl) ?_
          refine DL.q rfl (.free rfl) rfl rfl rfl (Yld.load p9 rfl (atM (hg.cell (hcell 2 _ rfl) (fun h => h)) (fun h => h))) (Mod.drew _ _) ?_
          refine DL.q rfl (.free rfl) rfl rfl rfl (Yld.lenStr u9 rfl) (Mod.drew _ _) ?_
          refine DL.p rfl rfl rfl ?_
          refine DL.re (d := 53) rfl rfl (add_i64 (z := z + 1 + x.name.size + x.value.size) rfl (by omega) (by omega)) ?_
          refine DL.p rfl rfl rfl ?_
          refine DL.done ?_
          refine RK.inBlock ?_
          refine RK.region ?_
          iterate 2 refine RL.p rfl rfl ?_
          refine RL.re (d := 17) rfl rfl (succ_i64 (by omega)) ?_
          refine RL.p rfl rfl ?_
          refine RL.done ?_
          exact RK.back (ih (k + 1, z + 1 + x.name.size + x.value.size) _ ⟨hg.trans (Mod.drew _ _), by simp only; omega, by simp only; omega, by simp only; omega⟩ (by simp only; omega)) ⟨rfl, rfl, rfl, rfl, trivial⟩
    · refine RK.exit rfl ?_
      refine RK.seq ?_
      refine RK.region ?_
      iterate 3 refine RL.p rfl rfl ?_
      refine RL.re (d := 56) rfl rfl (add_i64 (z := m + 1) rfl (by omega) (by omega)) ?_
      refine RL.q (.free rfl) rfl rfl (Yld.min2 rfl rfl) ?_
      refine RL.p rfl rfl ?_
      refine RL.done ?_
      refine RK.ret_of Tryz.func55 (res1 rfl rfl) ?_ _
      exact ⟨_, rfl, ⟨_, rfl, by omega, by omega, by omega⟩, hg⟩
  · iterate 3 refine RL.no (.no rfl rfl rfl rfl) rfl rfl ?_
    refine RL.p rfl rfl ?_
    refine RL.done ?_
    refine RK.condF rfl ?_
    refine RK.exit rfl ?_
    refine RK.seq ?_
    refine RK.region ?_
    iterate 3 refine RL.p rfl rfl ?_
    refine RL.re (d := 56) rfl rfl (add_i64 (z := m + 1) rfl (by omega) (by omega)) ?_
    refine RL.q (.free rfl) rfl rfl (Yld.min2 rfl rfl) ?_
    refine RL.p rfl rfl ?_
    refine RL.done ?_
    refine RK.ret_of Tryz.func55 (res1 rfl rfl) ?_ _
    exact ⟨_, rfl, ⟨_, rfl, by omega, by omega, by omega⟩, hg⟩
theorem weightRB_ok (M : Nat → Prop) (r : Ru) (m : Int) (hm0 : 0 ≤ m) (hm1 : m ≤ 1000000) (w : World) (hr : r.Ok M w) : Fx Tryz.prog 26 [.agg (ruC r).toArray, .int .i64 m] w (fun u w' => (∃ n : Int, u = .int .i64 n ∧ (n ≤ m → (r.src.length : Int) ≤ m ∧ (r.tgt.length : Int) ≤ m ∧ (r.eq.length : Int) ≤ m)) ∧ Grow w w') := by
  obtain ⟨ade, ce, hve⟩ := hr.e.shape
  have hbig := hr.e.big
  refine enter Tryz.func26 rfl rfl rfl _ (Pick.sub (l := [0, 1]) (.cons rfl (.cons rfl .nil))) ?_
  refine RK.seq ?_
  refine RK.region ?_
  refine RL.op (.free rfl) rfl rfl (Does.box rfl) ?_
  rintro _ w1 ⟨b2, rfl, hn2⟩
  have hB := hn2.blk
  refine RL.p rfl rfl ?_
  refine RL.done ?_
  refine RK.seq ?_
  refine RK.region ?_
  refine RL.q (.free rfl) rfl rfl (Yld.fieldAddr fo30_0 rfl) ?_
  refine RL.q (.free rfl) rfl rfl (Yld.load p24 rfl (at1 (hB.cell rfl))) ?_
  refine RL.p rfl rfl ?_
  refine RL.op (.free rfl) rfl rfl (Does.call rfl e55 (weightB_ok M r.src _ m hm0 hm1 _ (hr.s.mod (Mod.any' hn2.grow)))) ?_
  rintro _ w2 ⟨⟨n1, rfl, hn1a, hn1b, hn1c⟩, hg2⟩
  refine RL.p rfl rfl ?_
  refine RL.done ?_
  iterate 2 refine RK.seq ?_
  refine RK.region ?_
  iterate 3 refine RL.p rfl rfl ?_
  refine RL.done ?_
  first | refine RK.condD rfl (fun h13 => ?_) (fun h13 => ?_) | refine RK.condN rfl (fun h13 => ?_) (fun h13 => ?_) | refine RK.cond rfl (fun h13 => ?_) (fun h13 => ?_)
  · refine RK.region ?_
    refine RL.p rfl rfl ?_
    refine RL.q (.free rfl) rfl rfl (Yld.fieldAddr fo30_1 rfl) ?_
    refine RL.q (.free rfl) rfl rfl (Yld.load p24 rfl (at1 ((hB.mod hg2 (fun h => h)).cell rfl))) ?_
    refine RL.p rfl rfl ?_
    refine RL.op (.free rfl) rfl rfl (Does.call rfl e55 (weightB_ok M r.tgt _ m hm0 hm1 _ (hr.t.mod (Mod.any' (hn2.grow.trans hg2))))) ?_
    rintro _ w3 ⟨⟨n2, rfl, hn2a, hn2b, hn2c⟩, hg3⟩
    have hgX := hg2.trans hg3
    have hBX := hB.mod hgX (fun h => h)
    have hg0 := hn2.grow.trans hgX
    refine RL.p rfl rfl ?_
    refine RL.re (d := 19) rfl rfl (add_i64 (z := n1 + n2) rfl (by omega) (by omega)) ?_
    refine RL.p rfl rfl ?_
    refine RL.done ?_
    iterate 2 refine RK.seq ?_
    refine RK.region ?_
    refine RL.p rfl rfl ?_
    refine RL.done ?_
    refine RK.block ?_
    refine RK.loop (fun s : Nat × Int => [(1, .int .i64 m), (2, pp b2), (5, .int .i64 s.2), (6, .int .i64 (s.1 : Int))]) (fun s w' => Grow w w' ∧ Blk w' b2 30 (ruC r) ∧ s.1 ≤ r.eq.length ∧ (n1 + n2) + (s.1 : Int) ≤ s.2 ∧ s.2 ≤ 3 * m + 3) (fun s => r.eq.length - s.1) (0, (n1 + n2)) ⟨rfl, rfl, rfl, rfl, trivial⟩ ⟨hg0, hBX, by simp, by simp, by simp only; omega⟩ (fun s w' hI ih => ?_)
    obtain ⟨k, z⟩ := s
    obtain ⟨hg, hBk, hk, hkz, hz⟩ := hI
    simp only at hk hkz hz
    iterate 2 refine RK.seq ?_
    refine RK.region ?_
    refine RL.p rfl rfl ?_
    refine RL.q (.free rfl) rfl rfl (Yld.fieldAddr fo30_3 rfl) ?_
    refine RL.q (.free rfl) rfl rfl (Yld.load p28 rfl (at1 (hBk.cell (congrArg some hve)))) ?_
    refine RL.q (.free rfl) rfl rfl (Yld.lenSl u28 rfl) ?_
    iterate 2 refine RL.p rfl rfl ?_
    first | refine RL.splitD (d := 25) rfl rfl (fun h25 => ?_) (fun h25 => ?_) | refine RL.splitN (d := 25) rfl rfl (fun h25 => ?_) (fun h25 => ?_) | refine RL.split (d := 25) rfl rfl (fun h25 => ?_) (fun h25 => ?_)
    · obtain ⟨x, hx⟩ : ∃ x, r.eq[k]? = some x := ⟨r.eq[k]'(by omega), List.getElem?_eq_getElem (by omega)⟩
      obtain ⟨b1, o1, c1', he1, _, _, hc1⟩ := hr.e.elem1 (k := k) (u := .string x) (by simp [strsV, hx])
      have he2 := hve.symm.trans he1
      cases he2
      iterate 3 refine RL.q (.yes rfl rfl rfl) rfl rfl (Yld.pure rfl) ?_
      refine RL.p rfl rfl ?_
      refine RL.done ?_
      first | refine RK.condD rfl (fun h29 => ?_) (fun h29 => ?_) | refine RK.condN rfl (fun h29 => ?_) (fun h29 => ?_) | refine RK.cond rfl (fun h29 => ?_) (fun h29 => ?_)
      · refine RK.skip ?_
        refine RK.seq ?_
        refine RK.block ?_
        iterate 2 refine RK.seq ?_
        refine RK.region ?_
        refine RL.q (.free rfl) rfl rfl (Yld.fieldAddr fo30_3 rfl) ?_
        refine RL.q (.free rfl) rfl rfl (Yld.load p28 rfl (at1 (hBk.cell (congrArg some hve)))) ?_
        refine RL.p rfl rfl ?_
        refine RL.q (.free rfl) rfl rfl (Yld.indexAddrN u28 i9 rfl rfl (by omega)) ?_
        refine RL.q (.free rfl) rfl rfl (Yld.load p9 rfl (at1 (hg.cell (hc1 k (.string x) (by simp [strsV, hx])) (fun h => h)))) ?_
        refine RL.q (.free rfl) rfl rfl (Yld.lenStr u9 rfl) ?_
        iterate 2 refine RL.p rfl rfl ?_
        refine RL.done ?_
        first | refine RK.condD rfl (fun h39 => ?_) (fun h39 => ?_) | refine RK.condN rfl (fun h39 => ?_) (fun h39 => ?_) | refine RK.cond rfl (fun h39 => ?_) (fun h39 => ?_)
        · refine RK.seq ?_
          refine RK.region ?_
          iterate 2 refine RL.p rfl rfl ?_
          refine RL.re (d := 41) rfl rfl (add_i64 (z := m + 1) rfl (by omega) (by omega)) ?_
          refine RL.p rfl rfl ?_
          refine RL.done ?_
          refine RK.ret_of Tryz.func26 (res1 rfl rfl) ?_ _
          exact ⟨_, rfl, ⟨m + 1, rfl, fun h => by omega⟩, hg⟩
        · refine RK.skip ?_
          refine RK.region ?_
          iterate 2 refine RL.p rfl rfl ?_
          refine RL.re (d := 43) rfl rfl (add_i64 (z := z + 1) rfl (by omega) (by omega)) ?_
          refine RL.q (.free rfl) rfl rfl (Yld.fieldAddr fo30_3 rfl) ?_
          refine RL.q (.free rfl) rfl rfl (Yld.load p28 rfl (at1 (hBk.cell (congrArg some hve)))) ?_
          refine RL.p rfl rfl ?_
          refine RL.q (.free rfl) rfl rfl (Yld.indexAddrN u28 i9 rfl rfl (by omega)) ?_
          refine RL.q (.free rfl) rfl rfl (Yld.load p9 rfl (at1 (hg.cell (hc1 k (.string x) (by simp [strsV, hx])) (fun h => h)))) ?_
          refine RL.q (.free rfl) rfl rfl (Yld.lenStr u9 rfl) ?_
          refine RL.p rfl rfl ?_
          refine RL.re (d := 50) rfl rfl (add_i64 (z := z + 1 + x.size) rfl (by omega) (by omega)) ?_
          refine RL.p rfl rfl ?_
          refine RL.done ?_
          refine RK.inBlock ?_
          refine RK.region ?_
          iterate 2 refine RL.p rfl rfl ?_
          refine RL.re (d := 31) rfl rfl (succ_i64 (by omega)) ?_
          refine RL.p rfl rfl ?_
          refine RL.done ?_
          exact RK.back (ih (k + 1, z + 1 + x.size) _ ⟨hg, hBk, by simp only; omega, by simp only; omega, by simp only; omega⟩ (by simp only; omega)) ⟨rfl, rfl, rfl, rfl, trivial⟩
      · refine RK.exit rfl ?_
        refine RK.seq ?_
        refine RK.region ?_
        iterate 3 refine RL.p rfl rfl ?_
        refine RL.re (d := 53) rfl rfl (add_i64 (z := m + 1) rfl (by omega) (by omega)) ?_
        refine RL.q (.free rfl) rfl rfl (Yld.min2 rfl rfl) ?_
        refine RL.p rfl rfl ?_
        refine RL.done ?_
        refine RK.ret_of Tryz.func26 (res1 rfl rfl) ?_ _
        exact ⟨_, rfl, ⟨_, rfl, fun h => by omega⟩, hg⟩
    · iterate 3 refine RL.no (.no rfl rfl rfl rfl) rfl rfl ?_
      refine RL.p rfl rfl ?_
      refine RL.done ?_
      refine RK.condF rfl ?_
      refine RK.exit rfl ?_
      refine RK.seq ?_
      refine RK.region ?_
      iterate 3 refine RL.p rfl rfl ?_
      refine RL.re (d := 53) rfl rfl (add_i64 (z := m + 1) rfl (by omega) (by omega)) ?_
      refine RL.q (.free rfl) rfl rfl (Yld.min2 rfl rfl) ?_
      refine RL.p rfl rfl ?_
      refine RL.done ?_
      refine RK.ret_of Tryz.func26 (res1 rfl rfl) ?_ _
      exact ⟨_, rfl, ⟨_, rfl, fun h => ⟨hn1a (by omega), hn2a (by omega), by omega⟩⟩, hg⟩
  · have hgX := hg2
    have hBX := hB.mod hgX (fun h => h)
    have hg0 := hn2.grow.trans hgX
    refine RK.skip ?_
    iterate 2 refine RK.seq ?_
    refine RK.region ?_
    refine RL.p rfl rfl ?_
    refine RL.done ?_
    refine RK.block ?_
    refine RK.loop (fun s : Nat × Int => [(1, .int .i64 m), (2, pp b2), (5, .int .i64 s.2), (6, .int .i64 (s.1 : Int))]) (fun s w' => Grow w w' ∧ Blk w' b2 30 (ruC r) ∧ s.1 ≤ r.eq.length ∧ n1 + (s.1 : Int) ≤ s.2 ∧ s.2 ≤ 3 * m + 3) (fun s => r.eq.length - s.1) (0, n1) ⟨rfl, rfl, rfl, rfl, trivial⟩ ⟨hg0, hBX, by simp, by simp, by simp only; omega⟩ (fun s w' hI ih => ?_)
    obtain ⟨k, z⟩ := s
    obtain ⟨hg, hBk, hk, hkz, hz⟩ := hI
    simp only at hk hkz hz
    iterate 2 refine RK.seq ?_
    refine RK.region ?_
    refine RL.p rfl rfl ?_
    refine RL.q (.free rfl) rfl rfl (Yld.fieldAddr fo30_3 rfl) ?_
    refine RL.q (.free rfl) rfl rfl (Yld.load p28 rfl (at1 (hBk.cell (congrArg some hve)))) ?_
    refine RL.q (.free rfl) rfl rfl (Yld.lenSl u28 rfl) ?_
    iterate 2 refine RL.p rfl rfl ?_
    first | refine RL.splitD (d := 25) rfl rfl (fun h25 => ?_) (fun h25 => ?_) | refine RL.splitN (d := 25) rfl rfl (fun h25 => ?_) (fun h25 => ?_) | refine RL.split (d := 25) rfl rfl (fun h25 => ?_) (fun h25 => ?_)
    · obtain ⟨x, hx⟩ : ∃ x, r.eq[k]? = some x := ⟨r.eq[k]'(by omega), List.getElem?_eq_getElem (by omega)⟩
      obtain ⟨b1, o1, c1', he1, _, _, hc1⟩ := hr.e.elem1 (k := k) (u := .string x) (by simp [strsV, hx])
      have he2 := hve.symm.trans he1
      cases he2
      iterate 3 refine RL.q (.yes rfl rfl rfl) rfl rfl (Yld.pure rfl) ?_
      refine RL.p rfl rfl ?_
      refine RL.done ?_
      first | refine RK.condD rfl (fun h29 => ?_) (fun h29 => ?_) | refine RK.condN rfl (fun h29 => ?_) (fun h29 => ?_) | refine RK.cond rfl (fun h29 => ?_) (fun h29 => ?_)
      · refine RK.skip ?_
        refine RK.seq ?_
        refine RK.block ?_
        iterate 2 refine RK.seq ?_
        refine RK.region ?_
        refine RL.q (.free rfl) rfl rfl (Yld.fieldAddr fo30_3 rfl) ?_
        refine RL.q (.free rfl) rfl rfl (Yld.load p28 rfl (at1 (hBk.cell (congrArg some hve)))) ?_
        refine RL.p rfl rfl ?_
        refine RL.q (.free rfl) rfl rfl (Yld.indexAddrN u28 i9 rfl rfl (by omega)) ?_
        refine RL.q (.free rfl) rfl rfl (Yld.load p9 rfl (at1 (hg.cell (hc1 k (.string x) (by simp [strsV, hx])) (fun h => h)))) ?_
        refine RL.q (.free rfl) rfl rfl (Yld.lenStr u9 rfl) ?_
        iterate 2 refine RL.p rfl rfl ?_
        refine RL.done ?_
        first | refine RK.condD rfl (fun h39 => ?_) (fun h39 => ?_) | refine RK.condN rfl (fun h39 => ?_) (fun h39 => ?_) | refine RK.cond rfl (fun h39 => ?_) (fun h39 => ?_)
        · refine RK.seq ?_
          refine RK.region ?_
          iterate 2 refine RL.p rfl rfl ?_
          refine RL.re (d := 41) rfl rfl (add_i64 (z := m + 1) rfl (by omega) (by omega)) ?_
          refine RL.p rfl rfl ?_
          refine RL.done ?_
          refine RK.ret_of Tryz.func26 (res1 rfl rfl) ?_ _
          exact ⟨_, rfl, ⟨m + 1, rfl, fun h => by omega⟩, hg⟩
        · refine RK.skip ?_
          refine RK.region ?_
          iterate 2 refine RL.p rfl rfl ?_
          refine RL.re (d := 43) rfl rfl (add_i64 (z := z + 1) rfl (by omega) (by omega)) ?_
          refine RL.q (.free rfl) rfl rfl (Yld.fieldAddr fo30_3 rfl) ?_
          refine RL.q (.free rfl) rfl rfl (Yld.load p28 rfl (at1 (hBk.cell (congrArg some hve)))) ?_
          refine RL.p rfl rfl ?_
          refine RL.q (.free rfl) rfl rfl (Yld.indexAddrN u28 i9 rfl rfl (by omega)) ?_
          refine RL.q (.free rfl) rfl rfl (Yld.load p9 rfl (at1 (hg.cell (hc1 k (.string x) (by simp [strsV, hx])) (fun h => h)))) ?_
          refine RL.q (.free rfl) rfl rfl (Yld.lenStr u9 rfl) ?_
          refine RL.p rfl rfl ?_
          refine RL.re (d := 50) rfl rfl (add_i64 (z := z + 1 + x.size) rfl (by omega) (by omega)) ?_
          refine RL.p rfl rfl ?_
          refine RL.done ?_
          refine RK.inBlock ?_
          refine RK.region ?_
          iterate 2 refine RL.p rfl rfl ?_
          refine RL.re (d := 31) rfl rfl (succ_i64 (by omega)) ?_
          refine RL.p rfl rfl ?_
          refine RL.done ?_
          exact RK.back (ih (k + 1, z + 1 + x.size) _ ⟨hg, hBk, by simp only; omega, by simp only; omega, by simp only; omega⟩ (by simp only; omega)) ⟨rfl, rfl, rfl, rfl, trivial⟩
      · refine RK.exit rfl ?_
        refine RK.seq ?_
        refine RK.region ?_
        iterate 3 refine RL.p rfl rfl ?_
        refine RL.re (d := 53) rfl rfl (add_i64 (z := m + 1) rfl (by omega) (by omega)) ?_
        refine RL.q (.free rfl) rfl rfl (Yld.min2 rfl rfl) ?_
        refine RL.p rfl rfl ?_
        refine RL.done ?_
        refine RK.ret_of Tryz.func26 (res1 rfl rfl) ?_ _
        exact ⟨_, rfl, ⟨_, rfl, fun h => by omega⟩, hg⟩
    · iterate 3 refine RL.no (.no rfl rfl rfl rfl) rfl rfl ?_
      refine RL.p rfl rfl ?_
      refine RL.done ?_
      refine RK.condF rfl ?_
      refine RK.exit rfl ?_
      refine RK.seq ?_
      refine RK.region ?_
      iterate 3 refine RL.p rfl rfl ?_
      refine RL.re (d := 53) rfl rfl (add_i64 (z := m + 1) rfl (by omega) (by omega)) ?_
      refine RL.q (.free rfl) rfl rfl (Yld.min2 rfl rfl) ?_
      refine RL.p rfl rfl ?_
      refine RL.done ?_
      refine RK.ret_of Tryz.func26 (res1 rfl rfl) ?_ _
      exact ⟨_, rfl, ⟨_, rfl, fun h => (by omega)⟩, hg⟩
end Go.Proofs.YthbjfhhiajihfaaGreat
set_option linter.unusedVariables false
set_option linter.unusedSimpArgs false
set_option maxHeartbeats 4000000
set_option maxRecDepth 100000
namespace Go.Proofs.YthbjfhhiajihfaaGreat
open Go Go.X Go.Rex
theorem dropsC_snoc (c : CRows × CKeys) (ids : List Int) (id : Int) : dropsC c (ids ++ [id]) = dropC (dropsC c ids) id := by simp [dropsC]
theorem dropsC_B {c : CRows × CKeys} {B : Nat} (h : CB c B) : ∀ ids : List Int, CB (dropsC c ids) B := by
  intro ids
  induction ids generalizing c with
  | nil => exact h
  | cons id ids ih => exact ih (h.drop id)
theorem isRu_at (r : Ru) (v1 v2 v3 : Value) : isRu (ruAt r v1 v2 v3) = isRu r := by unfold isRu ruAt; rfl
theorem srcA_no {r : Ru} (h : isRu r = false) (a : AlT) : srcA r a = false := by
  unfold srcA sourceS worksRu
  rw [h]; rfl
theorem cempty_ok (rd : Rd) (l : List S7) (vl : Value) (raw : Ru) (w : World) (hrd : rd.Ok w) (hl : Sl No w vl 4 l.length (l.flatMap s7C)) (hls : ∀ s ∈ l, s.Ok No w) (hraw : raw.Ok No w) (hrz : raw.Sz) :
    Fx Tryz.prog 4 [.agg (rdC rd).toArray, vl, .agg (ruC raw).toArray] w (fun u w' => u = .bool true ∧ Grow w w') := by
  refine enter Tryz.func4 rfl rfl rfl _ (Pick.sub (l := [0, 1, 2]) (.cons rfl (.cons rfl (.cons rfl .nil)))) ?_
  refine RK.seq ?_
  refine RK.region ?_
  refine RL.op (.free rfl) rfl rfl (Does.box rfl) ?_
  rintro _ w1 ⟨b3, rfl, hn3⟩
  refine RL.op (.free rfl) rfl rfl (Does.box rfl) ?_
  rintro _ w2 ⟨b5, rfl, hn5⟩
  have hB3 := hn3.blk.mod hn5.grow (fun h => h)
  have hg02 := hn3.grow.trans hn5.grow
  refine RL.p rfl rfl ?_
  refine RL.done ?_
  iterate 2 refine RK.seq ?_
  refine RK.region ?_
  refine RL.q (.free rfl) rfl rfl (Yld.loadN (cs := ruC raw) a30 rfl (atN (blk0' hn5.blk))) ?_
  refine RL.op (.free rfl) rfl rfl (Does.call rfl e26 (weightRB_ok No raw 300 (by omega) (by omega) _ (hraw.mod hg02))) ?_
  rintro _ w3 ⟨⟨n1, rfl, hn1⟩, hg3⟩
  have hg03 := hg02.trans hg3
  refine RL.p rfl rfl ?_
  refine RL.done ?_
  first | refine RK.condD rfl (fun h13 => ?_) (fun h13 => ?_) | refine RK.condN rfl (fun h13 => ?_) (fun h13 => ?_) | refine RK.cond rfl (fun h13 => ?_) (fun h13 => ?_)
  · refine RK.seq ?_
    refine RK.region ?_
    refine RL.op (.free rfl) rfl rfl (Does.call rfl e3 (cruns_ok _)) ?_
    rintro _ w4 ⟨rfl, hg4⟩
    refine RL.p rfl rfl ?_
    refine RL.done ?_
    refine RK.ret_of Tryz.func4 (res1 rfl rfl) ?_ _
    exact ⟨_, rfl, rfl, hg03.trans hg4⟩
  · obtain ⟨hf1, hf2, hf3⟩ := hn1 (by omega)
    have hfew : raw.Few := ⟨by omega, by omega, by omega⟩
    have hz0 := hg03.size
    refine RK.skip ?_
    refine RK.seq ?_
    refine RK.drawM No [(0, false), (3, false), (1, true), (2, true), (4, true), (5, false), (6, false)] [] mixed (by kernel_rfl) ?_
    refine DL.q rfl (.free rfl) rfl rfl rfl (Yld.loadN (cs := rdC rd) a46 rfl (atNM (blk0' (hB3.mod hg3 (fun h => h))) (fun h => h))) (Mod.drew _ _) ?_
    refine DL.q rfl (.free rfl) rfl rfl rfl (Yld.loadN (cs := ruC raw) a30 rfl (atNM (blk0' (hn5.blk.mod hg3 (fun h => h))) (fun h => h))) (Mod.drew _ _) ?_
    refine DL.op rfl (.free rfl) rfl rfl (Does.call rfl e27 (rule62_ok rd _ (hrd.mod (hg03.trans (Mod.drew _ _))))) ?_
    rintro _ w4 ⟨x1, x2, x3, rfl, hok4, hg4⟩
    have hd4 := (Mod.drew No w3).trans hg4
    refine ⟨hd4, ?_⟩
    refine DL.op rfl (.free rfl) rfl rfl (Does.call rfl e18 (cacheNew_ok _ _ _ hok4 (ruOf_few _ _ _ _))) ?_
    rintro _ w5 ⟨p, mr, mk, v1, v2, v3, rfl, ⟨hp, hmr, hmk, hpl⟩, hc0, hg5⟩
    have hd5 := hd4.trans hg5
    refine ⟨hd5, ?_⟩
    refine DL.op rfl (.free rfl) rfl rfl (Does.call rfl e18 (cacheNew_ok No raw _ (hraw.mod (hg03.trans hd5)) hfew)) ?_
    rintro _ w6 ⟨q, nr, nk, y1, y2, y3, rfl, ⟨hq, hnr, hnk, hql⟩, he0, hg6⟩
    have hd6 := hd5.trans hg6
    refine ⟨hd6, ?_⟩
    have hz4 := hd4.size
    have hz6 := hg6.size
    have hc5 : CacheAt (fun b => b = mr ∨ b = mk ∨ b = nr ∨ b = nk) w5 p mr mk (ruAt (ruOf rd x1 x2 x3) v1 v2 v3) ([], []) := hc0 _ (fun b h e => by rcases e with e | e | e | e <;> first | exact .inr (.inl e) | exact .inr (.inr e) | (exfalso; omega))
    have hl5 := hc5.lts
    have he6 : CacheAt (fun b => b = mr ∨ b = mk ∨ b = nr ∨ b = nk) w6 q nr nk (ruAt raw y1 y2 y3) ([], []) := he0 _ (fun b h e => by rcases e with rfl | rfl | e | e <;> first | exact .inl (hl5 _ (.inl rfl)) | exact .inl (hl5 _ (.inr rfl)) | exact .inr (.inl e) | exact .inr (.inr e))
    have hc6 := hc5.grow hg6
    have hg06 := hg03.trans hd6
    generalize ruAt (ruOf rd x1 x2 x3) v1 v2 v3 = r at *
    have hri := isRu_at raw y1 y2 y3
    generalize ruAt raw y1 y2 y3 = r' at *
    have hMb : ∀ b, (b = mr ∨ b = mk ∨ b = nr ∨ b = nk) → w.heap.size ≤ b := fun b e => by rcases e with rfl | rfl | rfl | rfl <;> omega
    have hMl : ∀ b, (b = mr ∨ b = mk ∨ b = nr ∨ b = nk) → b < w6.heap.size := fun b e => by
        rcases e with e | e | e | e
        · exact hc6.lts b (.inl e)
        · exact hc6.lts b (.inr e)
        · exact he6.lts b (.inl e)
        · exact he6.lts b (.inr e)
    iterate 2 refine DL.p rfl rfl rfl ?_
    refine DL.done ?_
    iterate 2 refine RK.seq ?_
    refine RK.region ?_
    refine RL.p rfl rfl ?_
    refine RL.q (.free rfl) rfl rfl (Yld.eqPtr Tryz.underlying22 rfl rfl) ?_
    refine RL.p rfl rfl ?_
    refine RL.knownF (d := 22) rfl rfl (rfl) ?_
    refine RL.q (.yes rfl rfl rfl) rfl rfl (Yld.pure rfl) ?_
    refine RL.q (.yes rfl rfl rfl) rfl rfl (Yld.eqPtr Tryz.underlying22 rfl rfl) ?_
    refine RL.p rfl rfl ?_
    refine RL.done ?_
    refine RK.condF (hcF rfl (rfl)) ?_
    have hMM : ∀ b, (b = mr ∨ b = mk ∨ b = nr ∨ b = nk) → No b ∨ w.heap.size ≤ b := fun b e => .inr (hMb b e)
    have hl6 := hl.pass (by omega) hg06 hMM
    have hls6 : ∀ s ∈ l, S7.Ok (fun b => b = mr ∨ b = mk ∨ b = nr ∨ b = nk) w6 s := fun s hs => ⟨(hls s hs).s.pass (by omega) hg06 hMM, (hls s hs).r, (hls s hs).k⟩
    refine RK.skip ?_
    refine RK.seq ?_
    refine RK.region ?_
    iterate 2 refine RL.p rfl rfl ?_
    refine RL.op (.free rfl) rfl rfl (Does.call rfl e28 (played_ok (fun b => b = mr ∨ b = mk ∨ b = nr ∨ b = nk) _ p mr mk r hc6 (.inl rfl) (.inr (.inl rfl)) hMl l vl hl6 hls6)) ?_
    rintro u7 w7 ⟨al, hal, hr7, hok7, hf7, hc7, hm7⟩
    have hm7M : Mod (fun b => b = mr ∨ b = mk ∨ b = nr ∨ b = nk) w6 w7 := hm7.mono fun b _ e => e.elim .inl (fun e => .inr (.inl e))
    have hz7 := hm7.size
    have hl5a := hl5 mr (.inl rfl)
    have hl5b := hl5 mk (.inr rfl)
    have he7 : CacheAt (fun b => b = mr ∨ b = mk ∨ b = nr ∨ b = nk) w7 q nr nk r' ([], []) := he6.mod hm7 (fun b _ e => e.elim .inl (fun e => .inr (.inl e))) (by omega) (by omega) (by omega)
    refine RL.p rfl rfl ?_
    refine RL.done ?_
    refine RK.seq ?_
    refine RK.region ?_
    iterate 2 refine RL.p rfl rfl ?_
    refine RL.op (.free rfl) rfl rfl (Does.call rfl e28 (played_ok (fun b => b = mr ∨ b = mk ∨ b = nr ∨ b = nk) _ q nr nk r' he7 (.inr (.inr (.inl rfl))) (.inr (.inr (.inr rfl))) (fun b e => by have := hMl b e; omega) l vl (hl6.mod hm7M) (fun s hs => (hls6 s hs).mod hm7M))) ?_
    rintro u8 w8 ⟨al2, _, _, _, _, he8, hm8⟩
    have hm8M : Mod (fun b => b = mr ∨ b = mk ∨ b = nr ∨ b = nk) w7 w8 := hm8.mono fun b _ e => e.elim (fun e => .inr (.inr (.inl e))) (fun e => .inr (.inr (.inr e)))
    have hc8 : CacheAt (fun b => b = mr ∨ b = mk ∨ b = nr ∨ b = nk) w8 p mr mk r (playS r (l.take 60)).1 := hc7.mod hm8 (fun b _ e => e.elim (fun e => .inr (.inr (.inl e))) (fun e => .inr (.inr (.inr e)))) (by omega) (by omega) (by omega)
    have hr8 := hr7.mod hm8 (fun b e h => by have h1 := hf7 b e; have := he6.lts b h; omega)
    have hg68 : Grow w w8 := (hg06.then hm7 (fun b hb e => by have := hMb b (e.elim .inl (fun e => .inr (.inl e))); omega)).then hm8 (fun b hb e => by have := hMb b (e.elim (fun e => .inr (.inr (.inl e))) (fun e => .inr (.inr (.inr e)))); omega)
    have hcr := playS_CR r (l.take 60)
    have hcb := (playS_B r l 60).1
    have hcr' := playS_CR r' (l.take 60)
    have hlen : al.length ≤ 60 := by have h1 := congrArg List.length hal; have h2 := (playS_B r l 60).2; rw [List.length_map] at h1; omega
    have hids : (playS r (l.take 60)).2.map (·.1) = al.map (·.id) := by rw [← hal, List.map_map]; rfl
    generalize (playS r (l.take 60)) = cc at *
    have hzz8 := hm8.size
    clear hl6 hls6 hl hls he7 hc7 hc6 he6 hc5 hc0 he0 hr7 hok7 hm7M hm8M
    refine RL.done ?_
    iterate 2 refine RK.seq ?_
    refine RK.region ?_
    refine RL.q (.free rfl) rfl rfl (Yld.loadN (cs := ruC raw) a30 rfl (atN (blk0' ((hn5.blk.mod (hg3.trans hd6) (fun h => h)).mod hm7 (fun e => by have := hn5.blk.lt; have := hg3.size; have := hMb; rcases e with rfl | rfl <;> omega) |>.mod hm8 (fun e => by have := hn5.blk.lt; have := hg3.size; rcases e with rfl | rfl <;> omega))))) ?_
    refine RL.op (.free rfl) rfl rfl (Does.call rfl e29 (isRuleR_ok No raw _ (hraw.mod hg68) hrz)) ?_
    rintro _ w9 ⟨rfl, hg9⟩
    have he9 := he8.grow hg9
    iterate 2 refine RL.p rfl rfl ?_
    first | refine RL.splitD (d := 35) rfl rfl (fun h34 => ?_) (fun h34 => ?_) | refine RL.splitN (d := 35) rfl rfl (fun h34 => ?_) (fun h34 => ?_) | refine RL.split (d := 35) rfl rfl (fun h34 => ?_) (fun h34 => ?_)
    · have hno : isRu r' = false := by rw [hri]; simpa using h34
      obtain ⟨hn1, hn2⟩ := hcr'.noSrc (fun a _ => srcA_no hno a)
      refine RL.q (.yes rfl rfl rfl) rfl rfl (Yld.pure rfl) ?_
      refine RL.op (.yes rfl rfl rfl) rfl rfl (Does.call rfl e24 (cacheLen_ok _ _ q nr nk _ _ he9)) ?_
      rintro _ w10 ⟨rfl, hg10⟩
      iterate 2 refine RL.q (.yes rfl rfl rfl) rfl rfl (Yld.pure rfl) ?_
      refine RL.knownF (d := 39) rfl rfl ((by rw [hn2]; rfl)) ?_
      refine RL.q (.yes rfl rfl rfl) rfl rfl (Yld.pure rfl) ?_
      refine RL.op (.yes rfl rfl rfl) rfl rfl (Does.call rfl e25 (cacheKeys_ok _ _ q nr nk _ _ (he9.grow hg10))) ?_
      rintro _ w11 ⟨rfl, hg11⟩
      iterate 2 refine RL.q (.yes rfl rfl rfl) rfl rfl (Yld.pure rfl) ?_
      refine RL.p rfl rfl ?_
      refine RL.done ?_
      refine RK.condF (hcF rfl ((by rw [hn1]; rfl))) ?_
      have hgX := (hg9.trans hg10).trans hg11
      have hcX := hc8.grow hgX
      have hrX := hr8.mod hgX (fun _ _ h => h)
      have hg0X := hg68.trans hgX
      have hzX := hgX.size
      obtain ⟨adu, cu, rfl⟩ := hrX.slice
      have hslX : Sl (fun b => b = mr ∨ b = mk ∨ b = nr ∨ b = nk) _ (.slice adu al.length cu) 3 al.length (al.flatMap alC) := Sl.own hrX (fun b e h => by have h1 := hf7 b e; have := hMl b h; omega)
      refine RK.skip ?_
      iterate 2 refine RK.seq ?_
      refine RK.region ?_
      refine RL.p rfl rfl ?_
      refine RL.done ?_
      refine RK.block ?_
      refine RK.loop (fun k : Nat => [(7, pp p), (9, .slice adu al.length cu), (10, .int .i64 (k : Int))]) (fun k w' => CacheAt (fun b => b = mr ∨ b = mk ∨ b = nr ∨ b = nk) w' p mr mk r (dropsC cc.1 ((al.take k).map (·.id))) ∧ Sl (fun b => b = mr ∨ b = mk ∨ b = nr ∨ b = nk) w' (.slice adu al.length cu) 3 al.length (al.flatMap alC) ∧ Grow w w' ∧ w6.heap.size ≤ w'.heap.size ∧ k ≤ al.length) (fun k => al.length - k) 0 ⟨rfl, rfl, rfl, trivial⟩ ⟨by simpa [dropsC] using hcX, hslX, hg0X, by omega, by omega⟩ (fun k w' hI ih => ?_)
      obtain ⟨hck, hsl, hg, hz', hk⟩ := hI
      iterate 2 refine RK.seq ?_
      refine RK.region ?_
      iterate 2 refine RL.p rfl rfl ?_
      refine RL.q (.free rfl) rfl rfl (Yld.lenSl u49 rfl) ?_
      refine RL.p rfl rfl ?_
      refine RL.done ?_
      first | refine RK.condD rfl (fun h48 => ?_) (fun h48 => ?_) | refine RK.condN rfl (fun h48 => ?_) (fun h48 => ?_) | refine RK.cond rfl (fun h48 => ?_) (fun h48 => ?_)
      · obtain ⟨a, haj⟩ : ∃ a, al[k]? = some a := ⟨al[k]'(by omega), List.getElem?_eq_getElem (by omega)⟩
        obtain ⟨b2, o2, c2', he2, _, _, hc2⟩ := hsl.elem alC_len haj
        cases he2
        refine RK.skip ?_
        refine RK.seq ?_
        refine RK.block ?_
        refine RK.region ?_
        iterate 3 refine RL.p rfl rfl ?_
        refine RL.q (.free rfl) rfl rfl (Yld.indexAddrN u49 i35 rfl rfl (by omega)) ?_
        refine RL.q (.free rfl) rfl rfl (Yld.fieldAddr fo35_0 rfl) ?_
        refine RL.q (.free rfl) rfl rfl (Yld.load p3 rfl (at1 (hc2 0 _ rfl))) ?_
        refine RL.op (.free rfl) rfl rfl (Does.call rfl e30 (cacheDrop_ok (fun b => b = mr ∨ b = mk ∨ b = nr ∨ b = nk) _ p mr mk r _ hck (.inl rfl) (.inr (.inl rfl)) (fun b e => by have := hMl b e; omega) a.id ((dropsC_B hcb _).mono (by omega)))) ?_
        rintro _ w12 ⟨rfl, hc12, hm12⟩
        have hm12M : Mod (fun b => b = mr ∨ b = mk ∨ b = nr ∨ b = nk) w' w12 := hm12.mono fun b _ e => e.elim .inl (fun e => .inr (.inl e))
        refine RL.done ?_
        refine RK.inBlock ?_
        refine RK.region ?_
        iterate 2 refine RL.p rfl rfl ?_
        refine RL.re (d := 50) rfl rfl (succ_i64 (by omega)) ?_
        refine RL.p rfl rfl ?_
        refine RL.done ?_
        exact RK.back (ih (k + 1) _ ⟨by
            rw [List.take_succ_eq_append_getElem (by omega), (List.getElem?_eq_some_iff.1 haj).2, List.map_append]
            show CacheAt _ _ _ _ _ _ (dropsC cc.1 ((al.take k).map (·.id) ++ [a.id]))
            rw [dropsC_snoc]; exact hc12, hsl.mod hm12M, hg.then hm12 (fun b hb e => by have := hMb b (e.elim .inl (fun e => .inr (.inl e))); omega), by have := hm12.size; omega, by omega⟩ (by omega)) ⟨rfl, rfl, rfl, trivial⟩
      · have ek : al.take k = al := List.take_of_length_le (by omega)
        rw [ek, ← hids] at hck
        obtain ⟨hd1, hd2⟩ := hcr.dropAll
        refine RK.exit rfl ?_
        refine RK.seq ?_
        refine RK.region ?_
        refine RL.p rfl rfl ?_
        refine RL.op (.free rfl) rfl rfl (Does.call rfl e24 (cacheLen_ok _ _ p mr mk _ _ hck)) ?_
        rintro _ w10 ⟨rfl, hg10⟩
        iterate 2 refine RL.p rfl rfl ?_
        refine RL.knownT (d := 61) rfl rfl (decide_eq_true (by rw [hd2]; rfl)) ?_
        refine RL.q (.yes rfl rfl rfl) rfl rfl (Yld.pure rfl) ?_
        refine RL.op (.yes rfl rfl rfl) rfl rfl (Does.call rfl e25 (cacheKeys_ok _ _ p mr mk _ _ (hck.grow hg10))) ?_
        rintro _ w11 ⟨rfl, hg11⟩
        refine RL.q (.yes rfl rfl rfl) rfl rfl (Yld.pure rfl) ?_
        iterate 2 refine RL.p rfl rfl ?_
        refine RL.knownT (d := 66) rfl rfl (decide_eq_true (by rw [hd1]; rfl)) ?_
        refine RL.op (.yes rfl rfl rfl) rfl rfl (Does.call rfl e3 (cruns_ok _)) ?_
        rintro _ w12 ⟨rfl, hg12⟩
        iterate 2 refine RL.p rfl rfl ?_
        refine RL.done ?_
        refine RK.ret_of Tryz.func4 (res1 rfl rfl) ?_ _
        exact ⟨_, rfl, rfl, ((hg.trans hg10).trans hg11).trans hg12⟩
    · have hgX := hg9
      have hcX := hc8.grow hgX
      have hrX := hr8.mod hgX (fun _ _ h => h)
      have hg0X := hg68.trans hgX
      have hzX := hgX.size
      obtain ⟨adu, cu, rfl⟩ := hrX.slice
      have hslX : Sl (fun b => b = mr ∨ b = mk ∨ b = nr ∨ b = nk) _ (.slice adu al.length cu) 3 al.length (al.flatMap alC) := Sl.own hrX (fun b e h => by have h1 := hf7 b e; have := hMl b h; omega)
      iterate 8 refine RL.no (.no rfl rfl rfl rfl) rfl rfl ?_
      refine RL.p rfl rfl ?_
      refine RL.done ?_
      refine RK.condF rfl ?_
      refine RK.skip ?_
      iterate 2 refine RK.seq ?_
      refine RK.region ?_
      refine RL.p rfl rfl ?_
      refine RL.done ?_
      refine RK.block ?_
      refine RK.loop (fun k : Nat => [(7, pp p), (9, .slice adu al.length cu), (10, .int .i64 (k : Int))]) (fun k w' => CacheAt (fun b => b = mr ∨ b = mk ∨ b = nr ∨ b = nk) w' p mr mk r (dropsC cc.1 ((al.take k).map (·.id))) ∧ Sl (fun b => b = mr ∨ b = mk ∨ b = nr ∨ b = nk) w' (.slice adu al.length cu) 3 al.length (al.flatMap alC) ∧ Grow w w' ∧ w6.heap.size ≤ w'.heap.size ∧ k ≤ al.length) (fun k => al.length - k) 0 ⟨rfl, rfl, rfl, trivial⟩ ⟨by simpa [dropsC] using hcX, hslX, hg0X, by omega, by omega⟩ (fun k w' hI ih => ?_)
      obtain ⟨hck, hsl, hg, hz', hk⟩ := hI
      iterate 2 refine RK.seq ?_
      refine RK.region ?_
      iterate 2 refine RL.p rfl rfl ?_
      refine RL.q (.free rfl) rfl rfl (Yld.lenSl u49 rfl) ?_
      refine RL.p rfl rfl ?_
      refine RL.done ?_
      first | refine RK.condD rfl (fun h48 => ?_) (fun h48 => ?_) | refine RK.condN rfl (fun h48 => ?_) (fun h48 => ?_) | refine RK.cond rfl (fun h48 => ?_) (fun h48 => ?_)
      · obtain ⟨a, haj⟩ : ∃ a, al[k]? = some a := ⟨al[k]'(by omega), List.getElem?_eq_getElem (by omega)⟩
        obtain ⟨b2, o2, c2', he2, _, _, hc2⟩ := hsl.elem alC_len haj
        cases he2
        refine RK.skip ?_
        refine RK.seq ?_
        refine RK.block ?_
        refine RK.region ?_
        iterate 3 refine RL.p rfl rfl ?_
        refine RL.q (.free rfl) rfl rfl (Yld.indexAddrN u49 i35 rfl rfl (by omega)) ?_
        refine RL.q (.free rfl) rfl rfl (Yld.fieldAddr fo35_0 rfl) ?_
        refine RL.q (.free rfl) rfl rfl (Yld.load p3 rfl (at1 (hc2 0 _ rfl))) ?_
        refine RL.op (.free rfl) rfl rfl (Does.call rfl e30 (cacheDrop_ok (fun b => b = mr ∨ b = mk ∨ b = nr ∨ b = nk) _ p mr mk r _ hck (.inl rfl) (.inr (.inl rfl)) (fun b e => by have := hMl b e; omega) a.id ((dropsC_B hcb _).mono (by omega)))) ?_
        rintro _ w12 ⟨rfl, hc12, hm12⟩
        have hm12M : Mod (fun b => b = mr ∨ b = mk ∨ b = nr ∨ b = nk) w' w12 := hm12.mono fun b _ e => e.elim .inl (fun e => .inr (.inl e))
        refine RL.done ?_
        refine RK.inBlock ?_
        refine RK.region ?_
        iterate 2 refine RL.p rfl rfl ?_
        refine RL.re (d := 50) rfl rfl (succ_i64 (by omega)) ?_
        refine RL.p rfl rfl ?_
        refine RL.done ?_
        exact RK.back (ih (k + 1) _ ⟨by
            rw [List.take_succ_eq_append_getElem (by omega), (List.getElem?_eq_some_iff.1 haj).2, List.map_append]
            show CacheAt _ _ _ _ _ _ (dropsC cc.1 ((al.take k).map (·.id) ++ [a.id]))
            rw [dropsC_snoc]; exact hc12, hsl.mod hm12M, hg.then hm12 (fun b hb e => by have := hMb b (e.elim .inl (fun e => .inr (.inl e))); omega), by have := hm12.size; omega, by omega⟩ (by omega)) ⟨rfl, rfl, rfl, trivial⟩
      · have ek : al.take k = al := List.take_of_length_le (by omega)
        rw [ek, ← hids] at hck
        obtain ⟨hd1, hd2⟩ := hcr.dropAll
        refine RK.exit rfl ?_
        refine RK.seq ?_
        refine RK.region ?_
        refine RL.p rfl rfl ?_
        refine RL.op (.free rfl) rfl rfl (Does.call rfl e24 (cacheLen_ok _ _ p mr mk _ _ hck)) ?_
        rintro _ w10 ⟨rfl, hg10⟩
        iterate 2 refine RL.p rfl rfl ?_
        refine RL.knownT (d := 61) rfl rfl (decide_eq_true (by rw [hd2]; rfl)) ?_
        refine RL.q (.yes rfl rfl rfl) rfl rfl (Yld.pure rfl) ?_
        refine RL.op (.yes rfl rfl rfl) rfl rfl (Does.call rfl e25 (cacheKeys_ok _ _ p mr mk _ _ (hck.grow hg10))) ?_
        rintro _ w11 ⟨rfl, hg11⟩
        refine RL.q (.yes rfl rfl rfl) rfl rfl (Yld.pure rfl) ?_
        iterate 2 refine RL.p rfl rfl ?_
        refine RL.knownT (d := 66) rfl rfl (decide_eq_true (by rw [hd1]; rfl)) ?_
        refine RL.op (.yes rfl rfl rfl) rfl rfl (Does.call rfl e3 (cruns_ok _)) ?_
        rintro _ w12 ⟨rfl, hg12⟩
        iterate 2 refine RL.p rfl rfl ?_
        refine RL.done ?_
        refine RK.ret_of Tryz.func4 (res1 rfl rfl) ?_ _
        exact ⟨_, rfl, rfl, ((hg.trans hg10).trans hg11).trans hg12⟩
end Go.Proofs.YthbjfhhiajihfaaGreat
set_option linter.unusedVariables false
namespace Go.X
open Go Go.RowKit Go.WideShapes Go.ChangeShapes
section
variable {H : Type} {enc : TypeId × Value → H} {P : Program} {W : World} {base : Nat} {sp : Nat → Bool} {held : Bool}
theorem trod_list {α : Type} (f : α → List Value) (Q : α → Prop) {sz : Nat} (hf : ∀ x, (f x).length = sz) {t e : TypeId} {m0 : Nat} {cs0 : List Value} {y : DataW H × List MemPlace} (ht : P.underlying t = some (.slice e)) (hc : P.cellsOf e = sz) (hsz : 0 < sz) (hd : DataW.trod enc P W 0 sp held m0 t cs0 = some y)
    (hel : ∀ (m : Nat) (cs : List Value) (y : DataW H × List MemPlace), DataW.trod enc P W 0 sp held m e cs = some y → ∃ x, cs = f x ∧ Q x) : ∃ (v : Value) (xs : List α), cs0 = [v] ∧ Sl No W v sz xs.length (xs.flatMap f) ∧ (∀ x ∈ xs, Q x) ∧ xs.length ≤ maxLen := by
  rcases DataW.trod_slice ht hd with ⟨h0, _⟩ | ⟨a', len, cap, elems, rest, n, _, hcs, _, _, hl, hm, hlen, hall, _⟩
  · subst h0
    exact ⟨_, [], rfl, Sl.nil _ _ _ _ _, by simp, by simp⟩
  · subst hcs
    rw [hc] at hall
    have key : ∀ i, i < len → ∃ x, Q x ∧ ∀ j u, (f x)[j]? = some u → W.cell? (a'.add (i * sz) |>.add j) = some u := by
      intro i hi
      have h1 := hall i hi
      rw [List.getElem?_eq_getElem (by omega)] at h1
      rw [Option.bind_eq_some_iff] at h1
      obtain ⟨cs, h2, h3⟩ := h1
      obtain ⟨x, rfl, hQ⟩ := hel n cs _ h3
      refine ⟨x, hQ, fun j u hj => ?_⟩
      have hj' : j < sz := by have := (List.getElem?_eq_some_iff.1 hj).1; rwa [hf] at this
      rw [(World.cells?_some h2).2.2 j hj', hj]
    have build : ∀ k, k ≤ len → ∃ xs : List α, xs.length = k ∧ (∀ x ∈ xs, Q x) ∧ ∀ i x, xs[i]? = some x → ∀ j u, (f x)[j]? = some u → W.cell? (a'.add (i * sz) |>.add j) = some u := by
      intro k
      induction k with
      | zero => intro _; exact ⟨[], rfl, by simp, by simp⟩
      | succ k ih =>
        intro hk
        obtain ⟨xs, h1, h2, h3⟩ := ih (by omega)
        obtain ⟨x, hQ, hx⟩ := key k (by omega)
        refine ⟨xs ++ [x], by simp [h1], fun y hy => ?_, fun i y hy => ?_⟩
        · rcases List.mem_append.1 hy with h | h
          · exact h2 y h
          · simp at h; subst h; exact hQ
        · by_cases hi : i < xs.length
          · rw [List.getElem?_append_left hi] at hy; exact h3 i y hy
          · have : i = k := by
              have := (List.getElem?_eq_some_iff.1 hy).1
              simp at this; omega
            subst this
            rw [List.getElem?_append_right (by omega), h1] at hy
            simp at hy; subst hy
            exact hx
    obtain ⟨xs, h1, h2, h3⟩ := build len (Nat.le_refl _)
    refine ⟨_, xs, rfl, ⟨flat_len f sz hf xs, by simp only [maxLen] at hm; omega, some a', cap, by rw [h1], fun hn => ?_⟩, h2, by omega⟩
    obtain ⟨b, o, spot⟩ := a'
    obtain ⟨x0, hx0⟩ : ∃ x, xs[0]? = some x := ⟨xs[0]'hn, List.getElem?_eq_getElem hn⟩
    have hu0 : 0 < (f x0).length := by rw [hf]; exact hsz
    have h4 := h3 0 x0 hx0 0 _ (List.getElem?_eq_getElem hu0)
    have hspot : spot = none := by simpa [Addr.add] using World.cell?_spot h4
    subst hspot
    refine ⟨b, o, rfl, fun h => h, fun j u hj => ?_⟩
    have hjl := (List.getElem?_eq_some_iff.1 hj).1
    rw [flat_len f sz hf] at hjl
    have hdm : j / sz * sz + j % sz = j := by rw [Nat.mul_comm]; exact Nat.div_add_mod j sz
    have hq : j / sz < xs.length := Nat.div_lt_of_lt_mul (by rw [Nat.mul_comm]; exact hjl)
    have hr : j % sz < sz := Nat.mod_lt _ hsz
    have hx := List.getElem?_eq_getElem hq
    have h5 := flat_get f sz hf xs (j / sz) (j % sz) _ hx hr
    rw [hdm, hj] at h5
    have h6 := h3 (j / sz) _ hx (j % sz) u h5.symm
    rw [add_none, add_none, Nat.add_assoc, hdm] at h6
    exact h6
theorem trod_bool {s m : Nat} {cs : List Value} {y : DataW H × List MemPlace} (hs : P.underlying s = some .bool) (h : DataW.trod enc P W base sp held m s cs = some y) : ∃ b : Bool, cs = [.bool b] := by
  cases m with
  | zero => simp [DataW.trod] at h
  | succ n =>
    unfold DataW.trod at h
    rw [hs] at h
    split at h <;> simp_all
theorem trod_int {s m : Nat} {k : IntKind} {cs : List Value} {y : DataW H × List MemPlace} (hs : P.underlying s = some (.int k)) (h : DataW.trod enc P W base sp held m s cs = some y) : ∃ b : Int, cs = [.int k b] ∧ (Lit.int k b).wf = true := by
  cases m with
  | zero => simp [DataW.trod] at h
  | succ n =>
    unfold DataW.trod at h
    rw [hs] at h
    split at h <;> simp_all
theorem trod_fields {t m : Nat} {fs : Array Field} {cs : List Value} {y : DataW H × List MemPlace} (ht : P.underlying t = some (.struct fs)) (h : DataW.trod enc P W base sp held m t cs = some y) : cs.length = P.cellsOf t ∧ ∀ (i : Nat) (f : Field), fs[i]? = some f → ∃ n y', DataW.trod enc P W base sp held n f.type ((cs.drop f.offset).take (P.cellsOf f.type)) = some y' := by
  obtain ⟨xs, n, _, _, hl, hxl, hx⟩ := DataW.trod_struct ht h
  refine ⟨hl, fun i f hf => ?_⟩
  have h1 := hx i f hf
  have hi : i < fs.size := (Array.getElem?_eq_some_iff.1 hf).1
  rw [List.getElem?_eq_getElem (by omega)] at h1
  exact ⟨n, _, h1⟩
theorem trod_3 {t m t0 t1 t2 : Nat} {fs : Array Field} {cs : List Value} {y : DataW H × List MemPlace} (ht : P.underlying t = some (.struct fs)) (hfs : fs.toList.map (fun f => (f.type, f.offset)) = [(t0, 0), (t1, 1), (t2, 2)]) (c0 : P.cellsOf t0 = 1) (c1 : P.cellsOf t1 = 1) (c2 : P.cellsOf t2 = 1) (ct : P.cellsOf t = 3)
    (h : DataW.trod enc P W base sp held m t cs = some y) : ∃ a b c, cs = [a, b, c] ∧ (∃ n y', DataW.trod enc P W base sp held n t0 [a] = some y') ∧ (∃ n y', DataW.trod enc P W base sp held n t1 [b] = some y') ∧ ∃ n y', DataW.trod enc P W base sp held n t2 [c] = some y' := by
  obtain ⟨hl, hx⟩ := trod_fields ht h
  have hsz : fs.toList.length = 3 := by have := congrArg List.length hfs; simpa using this
  obtain ⟨fl⟩ := fs
  match fl, hsz with
  | [f0, f1, f2], _ =>
    simp only [List.map_cons, List.map_nil, List.cons.injEq, Prod.mk.injEq, and_true] at hfs
    obtain ⟨⟨e0, o0⟩, ⟨e1, o1⟩, e2, o2⟩ := hfs
    rw [ct] at hl
    match cs, hl with
    | [a, b, c], _ =>
      have h0 := hx 0 f0 rfl
      have h1 := hx 1 f1 rfl
      have h2 := hx 2 f2 rfl
      rw [e0, o0, c0] at h0
      rw [e1, o1, c1] at h1
      rw [e2, o2, c2] at h2
      exact ⟨a, b, c, rfl, h0, h1, h2⟩
theorem trod_4 {t m t0 t1 t2 t3 : Nat} {fs : Array Field} {cs : List Value} {y : DataW H × List MemPlace} (ht : P.underlying t = some (.struct fs)) (hfs : fs.toList.map (fun f => (f.type, f.offset)) = [(t0, 0), (t1, 1), (t2, 2), (t3, 3)]) (c0 : P.cellsOf t0 = 1) (c1 : P.cellsOf t1 = 1) (c2 : P.cellsOf t2 = 1) (c3 : P.cellsOf t3 = 1) (ct : P.cellsOf t = 4)
    (h : DataW.trod enc P W base sp held m t cs = some y) : ∃ a b c d, cs = [a, b, c, d] ∧ (∃ n y', DataW.trod enc P W base sp held n t0 [a] = some y') ∧ (∃ n y', DataW.trod enc P W base sp held n t1 [b] = some y') ∧ (∃ n y', DataW.trod enc P W base sp held n t2 [c] = some y') ∧ ∃ n y', DataW.trod enc P W base sp held n t3 [d] = some y' := by
  obtain ⟨hl, hx⟩ := trod_fields ht h
  have hsz : fs.toList.length = 4 := by have := congrArg List.length hfs; simpa using this
  obtain ⟨fl⟩ := fs
  match fl, hsz with
  | [f0, f1, f2, f3], _ =>
    simp only [List.map_cons, List.map_nil, List.cons.injEq, Prod.mk.injEq, and_true] at hfs
    obtain ⟨⟨e0, o0⟩, ⟨e1, o1⟩, ⟨e2, o2⟩, e3, o3⟩ := hfs
    rw [ct] at hl
    match cs, hl with
    | [a, b, c, d], _ =>
      have h0 := hx 0 f0 rfl
      have h1 := hx 1 f1 rfl
      have h2 := hx 2 f2 rfl
      have h3 := hx 3 f3 rfl
      rw [e0, o0, c0] at h0
      rw [e1, o1, c1] at h1
      rw [e2, o2, c2] at h2
      rw [e3, o3, c3] at h3
      exact ⟨a, b, c, d, rfl, h0, h1, h2, h3⟩
end
end Go.X
set_option linter.unusedVariables false
namespace Go.X
open Go Go.RowKit Go.WideShapes Go.ChangeShapes
section
variable {H : Type} {enc : TypeId × Value → H} {P : Program} {W : World} {base : Nat} {sp : Nat → Bool} {held : Bool}
theorem trod_r6 {t m t0 t1 t2 t3 : Nat} {fs : Array Field} {cs : List Value} {y : DataW H × List MemPlace} (ht : P.underlying t = some (.struct fs)) (hfs : fs.toList.map (fun f => (f.type, f.offset)) = [(t0, 0), (t1, 1), (t2, 2), (t3, 5)]) (c0 : P.cellsOf t0 = 1) (c1 : P.cellsOf t1 = 1) (c2 : P.cellsOf t2 = 3) (c3 : P.cellsOf t3 = 1) (ct : P.cellsOf t = 6)
    (h : DataW.trod enc P W base sp held m t cs = some y) : ∃ a b c d e f, cs = [a, b, c, d, e, f] ∧ (∃ n y', DataW.trod enc P W base sp held n t0 [a] = some y') ∧ (∃ n y', DataW.trod enc P W base sp held n t1 [b] = some y') ∧ (∃ n y', DataW.trod enc P W base sp held n t2 [c, d, e] = some y') ∧ ∃ n y', DataW.trod enc P W base sp held n t3 [f] = some y' := by
  obtain ⟨hl, hx⟩ := trod_fields ht h
  have hsz : fs.toList.length = 4 := by have := congrArg List.length hfs; simpa using this
  obtain ⟨fl⟩ := fs
  match fl, hsz with
  | [f0, f1, f2, f3], _ =>
    simp only [List.map_cons, List.map_nil, List.cons.injEq, Prod.mk.injEq, and_true] at hfs
    obtain ⟨⟨e0, o0⟩, ⟨e1, o1⟩, ⟨e2, o2⟩, e3, o3⟩ := hfs
    rw [ct] at hl
    match cs, hl with
    | [a, b, c, d, e, f], _ =>
      have h0 := hx 0 f0 rfl
      have h1 := hx 1 f1 rfl
      have h2 := hx 2 f2 rfl
      have h3 := hx 3 f3 rfl
      rw [e0, o0, c0] at h0
      rw [e1, o1, c1] at h1
      rw [e2, o2, c2] at h2
      rw [e3, o3, c3] at h3
      exact ⟨a, b, c, d, e, f, rfl, h0, h1, h2, h3⟩
end
end Go.X
namespace Go.Proofs.YthbjfhhiajihfaaGreat.cacheEmpty
open Go.ChangeShapes Go.WideShapes Go.ChangeAt Go.RowKit Go.X
set_option linter.unusedVariables false
theorem own : ownKnob Tryz.prog.godebug = none := by kernel_rfl
theorem laidOut : laidOutB Tryz.prog = true := by kernel_rfl
theorem params_ok : ∀ t ∈ Tryz.f4.params.toList, Tryz.prog.readableRec t = true ∧ t < Tryz.prog.types.size := by
  rw [Tryz.params4]
  intro t ht
  simp only [List.mem_cons, List.not_mem_nil, or_false] at ht
  rcases ht with rfl | rfl | rfl <;> exact ⟨by kernel_rfl, of_decide_eq_true (by kernel_rfl)⟩
set_option maxRecDepth 100000 in
theorem lifted (os : Os) (started : os.Started) (H : Type) (enc : TypeId × Value → H) :
    ReturnsInHanded {} Tryz.checked os 4 .any (Rows.cacheEmptySpec.pre6 enc Tryz.prog Tryz.f4 Rows.cacheEmptyRow.domain false) (Rows.cacheEmptySpec.post enc Tryz.prog Tryz.f4 false true false false) := by
  refine returnsInHanded_of_change (C := Tryz.checked) own started (by kernel_rfl) Tryz.func4
    (ChangeSpec.witness6 (enc := enc) (C := Tryz.checked) false ⟨#[], #[.agg #[.slice none 0 0, .slice none 0 0, .int .i64 0, .float .f64 0, .float .f64 0, .slice none 0 0], .slice none 0 0, .agg #[.slice none 0 0, .slice none 0 0, .bool false, .float .f64 0, .float .f64 0, .slice none 0 0]], []⟩ 8 (by kernel_rfl) (by kernel_rfl) (by kernel_rfl) (by kernel_rfl)) ?_
  intro W base args ds gs before hval0 hW hcnd _
  have hval : ∀ (j : Nat) t v, Tryz.f4.params[j]? = some t → args[j]? = some v → Value.okWide Tryz.prog W .any base t v := hval0
  have hW' := hW
  obtain ⟨p, q, hA0, hV, rfl, hfz, hnd⟩ := hW
  have hlt : ∀ x ∈ p, x.block < W.heap.size := fun x hx => hW'.lt x (List.mem_append_left _ hx)
  have hA : DataW.TrodAll enc Tryz.prog W 0 (fun _ => true) true Tryz.f4.params.toList args.toList ds p := hA0
  have hA1 := hA
  rw [Tryz.params4] at hA hval
  obtain ⟨v0, vs0, d0, ds0, p0, q0, hargs, rfl, rfl, h0, r0⟩ := trodAll_cons hA
  obtain ⟨v1, vs1, d1, ds1, p1, q1, rfl, rfl, rfl, h1, r1⟩ := trodAll_cons r0
  obtain ⟨v2, vs2, d2, ds2, p2, q2, rfl, rfl, rfl, h2, r2⟩ := trodAll_cons r1
  obtain ⟨rfl, rfl, rfl⟩ := trodAll_nil r2
  obtain rfl : args = #[v0, v1, v2] := by cases args; simp_all
  obtain ⟨rfl, rfl⟩ := trodVars_none hV
  have hv0 := hval 0 46 v0 rfl rfl
  have hv1 := hval 1 47 v1 rfl rfl
  have hv2 := hval 2 30 v2 rfl rfl
  clear hval0 hval
  simp only [List.append_nil] at hW' hlt
  have dmO : ∀ (m : Nat) (cs : List Value) (y : DataW H × List MemPlace), DataW.trod enc Tryz.prog W 0 (fun _ => true) true m 196 cs = some y → ∃ d : Dm, cs = dmC d ∧ True := fun m cs y h => by
    obtain ⟨a, b, c, rfl, ⟨_, _, ha⟩, ⟨_, _, hb⟩, _, _, hc⟩ := trod_3 Tryz.underlying196 (t0 := 3) (t1 := 3) (t2 := 3) rfl (by kernel_rfl) (by kernel_rfl) (by kernel_rfl) (by kernel_rfl) h
    obtain ⟨x, hx, _⟩ := trod_i64 Tryz.underlying3 ha
    obtain ⟨y, hy, _⟩ := trod_i64 Tryz.underlying3 hb
    obtain ⟨z, hz, _⟩ := trod_i64 Tryz.underlying3 hc
    obtain rfl : a = .int .i64 x := by simpa using hx
    obtain rfl : b = .int .i64 y := by simpa using hy
    obtain rfl : c = .int .i64 z := by simpa using hz
    exact ⟨⟨x, y, z⟩, rfl, trivial⟩
  have bnO : ∀ (m : Nat) (cs : List Value) (y : DataW H × List MemPlace), DataW.trod enc Tryz.prog W 0 (fun _ => true) true m 44 cs = some y → ∃ d : Bn, cs = bnC d := fun m cs y h => by
    obtain ⟨a, b, c, rfl, ⟨_, _, ha⟩, ⟨_, _, hb⟩, _, _, hc⟩ := trod_3 Tryz.underlying44 (t0 := 3) (t1 := 25) (t2 := 25) rfl (by kernel_rfl) (by kernel_rfl) (by kernel_rfl) (by kernel_rfl) h
    obtain ⟨x, hx, _⟩ := trod_i64 Tryz.underlying3 ha
    obtain ⟨y, hy, _⟩ := trod_f64 Tryz.underlying25 hb
    obtain ⟨z, hz, _⟩ := trod_f64 Tryz.underlying25 hc
    obtain rfl : a = .int .i64 x := by simpa using hx
    obtain rfl : b = .float .f64 y := by simpa using hy
    obtain rfl : c = .float .f64 z := by simpa using hz
    exact ⟨⟨x, y, z⟩, rfl⟩
  have rdO : ∀ (m : Nat) (cs : List Value) (y : DataW H × List MemPlace), DataW.trod enc Tryz.prog W 0 (fun _ => true) true m 46 cs = some y → ∃ d : Rd, cs = rdC d ∧ d.Ok W := fun m cs y h => by
    obtain ⟨a, b, c, d, e, f, rfl, ⟨_, _, ha⟩, ⟨_, _, hb⟩, ⟨_, _, hc⟩, _, _, hf⟩ := trod_r6 Tryz.underlying46 (t0 := 42) (t1 := 42) (t2 := 44) (t3 := 37) rfl (by kernel_rfl) (by kernel_rfl) (by kernel_rfl) (by kernel_rfl) (by kernel_rfl) h
    obtain ⟨va, xa, hva, hsa, _, _⟩ := trod_list dmC (fun _ => True) dmC_len Tryz.underlying42 (by kernel_rfl) (by omega) ha dmO
    obtain ⟨vb, xb, hvb, hsb, _, _⟩ := trod_list dmC (fun _ => True) dmC_len Tryz.underlying42 (by kernel_rfl) (by omega) hb dmO
    obtain ⟨bn, hbn⟩ := bnO _ _ _ hc
    obtain ⟨v, xs, hv, hs, hr, _⟩ := trod_list (fun x : Int => [Value.int .i64 x]) (fun x => -9223372036854775808 ≤ x ∧ x ≤ 9223372036854775807) (sz := 1) (fun _ => rfl) Tryz.underlying37 (by kernel_rfl) (by omega) hf (fun m cs y h => trod_i64 Tryz.underlying3 h)
    obtain rfl : a = va := by simpa using hva
    obtain rfl : b = vb := by simpa using hvb
    obtain rfl : f = v := by simpa using hv
    simp only [bnC, List.cons.injEq, and_true] at hbn
    obtain ⟨rfl, rfl, rfl⟩ := hbn
    rw [flat_one] at hs
    exact ⟨⟨a, b, f, xa, xb, bn, xs⟩, rfl, hsa, hsb, hs⟩
  have s7O : ∀ (m : Nat) (cs : List Value) (y : DataW H × List MemPlace), DataW.trod enc Tryz.prog W 0 (fun _ => true) true m 141 cs = some y → ∃ d : S7, cs = s7C d ∧ d.Ok No W := fun m cs y h => by
    obtain ⟨a, b, c, e, rfl, ⟨_, _, ha⟩, ⟨_, _, hb⟩, ⟨_, _, hc⟩, _, _, he⟩ := trod_4 Tryz.underlying141 (t0 := 5) (t1 := 3) (t2 := 37) (t3 := 25) rfl (by kernel_rfl) (by kernel_rfl) (by kernel_rfl) (by kernel_rfl) (by kernel_rfl) h
    obtain ⟨d, hd, hdr⟩ := trod_int Tryz.underlying5 ha
    obtain ⟨i, hi, hir⟩ := trod_i64 Tryz.underlying3 hb
    obtain ⟨v, xs, hv, hs, hr, _⟩ := trod_list (fun x : Int => [Value.int .i64 x]) (fun x => -9223372036854775808 ≤ x ∧ x ≤ 9223372036854775807) (sz := 1) (fun _ => rfl) Tryz.underlying37 (by kernel_rfl) (by omega) hc (fun m cs y h => trod_i64 Tryz.underlying3 h)
    obtain ⟨f, hf, hfl⟩ := trod_f64 Tryz.underlying25 he
    obtain rfl : a = .int .u8 d := by simpa using hd
    obtain rfl : b = .int .i64 i := by simpa using hi
    obtain rfl : c = v := by simpa using hv
    obtain rfl : e = .float .f64 f := by simpa using hf
    rw [flat_one] at hs
    exact ⟨⟨d, i, xs, c, f⟩, rfl, ⟨hs, hr, by simp [Lit.wf, IntKind.min, IntKind.max, IntKind.signed, IntKind.bits] at hdr; show 0 ≤ d ∧ d < 256; omega⟩⟩
  have mtO : ∀ (m : Nat) (cs : List Value) (y : DataW H × List MemPlace), DataW.trod enc Tryz.prog W 0 (fun _ => true) true m 135 cs = some y → ∃ d : Mt, cs = mtC d ∧ d.name.size ≤ 9223372036854775807 := fun m cs y h => by
    obtain ⟨a, b, c, rfl, ⟨_, _, ha⟩, ⟨_, _, hb⟩, _, _, hc⟩ := trod_3 Tryz.underlying135 (t0 := 3) (t1 := 9) (t2 := 9) rfl (by kernel_rfl) (by kernel_rfl) (by kernel_rfl) (by kernel_rfl) h
    obtain ⟨x, hx, _⟩ := trod_i64 Tryz.underlying3 ha
    obtain ⟨y, hy, hyl⟩ := trod_str Tryz.underlying9 hb
    obtain ⟨z, hz, _⟩ := trod_str Tryz.underlying9 hc
    obtain rfl : a = .int .i64 x := by simpa using hx
    obtain rfl : b = .string y := by simpa using hy
    obtain rfl : c = .string z := by simpa using hz
    exact ⟨⟨x, y, z⟩, rfl, hyl⟩
  have bdO : ∀ (m : Nat) (cs : List Value) (y : DataW H × List MemPlace), DataW.trod enc Tryz.prog W 0 (fun _ => true) true m 27 cs = some y → ∃ d : Bd, cs = bdC d := fun m cs y h => by
    obtain ⟨a, b, c, rfl, ⟨_, _, ha⟩, ⟨_, _, hb⟩, _, _, hc⟩ := trod_3 Tryz.underlying27 (t0 := 4) (t1 := 25) (t2 := 25) rfl (by kernel_rfl) (by kernel_rfl) (by kernel_rfl) (by kernel_rfl) h
    obtain ⟨x, hx⟩ := trod_bool Tryz.underlying4 ha
    obtain ⟨y, hy, _⟩ := trod_f64 Tryz.underlying25 hb
    obtain ⟨z, hz, _⟩ := trod_f64 Tryz.underlying25 hc
    obtain rfl : a = .bool x := by simpa using hx
    obtain rfl : b = .float .f64 y := by simpa using hy
    obtain rfl : c = .float .f64 z := by simpa using hz
    exact ⟨⟨x, y, z⟩, rfl⟩
  have ruO : ∀ (m : Nat) (cs : List Value) (y : DataW H × List MemPlace), DataW.trod enc Tryz.prog W 0 (fun _ => true) true m 30 cs = some y → ∃ d : Ru, cs = ruC d ∧ d.Ok No W ∧ d.Sz := fun m cs y h => by
    obtain ⟨a, b, c, d, e, f, rfl, ⟨_, _, ha⟩, ⟨_, _, hb⟩, ⟨_, _, hc⟩, _, _, hf⟩ := trod_r6 Tryz.underlying30 (t0 := 24) (t1 := 24) (t2 := 27) (t3 := 28) rfl (by kernel_rfl) (by kernel_rfl) (by kernel_rfl) (by kernel_rfl) (by kernel_rfl) h
    obtain ⟨va, xa, hva, hsa, hza, _⟩ := trod_list mtC (fun x => x.name.size ≤ 9223372036854775807) mtC_len Tryz.underlying24 (by kernel_rfl) (by omega) ha mtO
    obtain ⟨vb, xb, hvb, hsb, hzb, _⟩ := trod_list mtC (fun x => x.name.size ≤ 9223372036854775807) mtC_len Tryz.underlying24 (by kernel_rfl) (by omega) hb mtO
    obtain ⟨bd, hbd⟩ := bdO _ _ _ hc
    obtain ⟨v, xs, hv, hs, hz, _⟩ := trod_list (fun x : ByteArray => [Value.string x]) (fun x => x.size ≤ 9223372036854775807) (sz := 1) (fun _ => rfl) Tryz.underlying28 (by kernel_rfl) (by omega) hf (fun m cs y h => trod_str Tryz.underlying9 h)
    obtain rfl : a = va := by simpa using hva
    obtain rfl : b = vb := by simpa using hvb
    obtain rfl : f = v := by simpa using hv
    simp only [bdC, List.cons.injEq, and_true] at hbd
    obtain ⟨rfl, rfl, rfl⟩ := hbd
    rw [flat_one] at hs
    exact ⟨⟨a, b, f, xa, xb, bd, xs⟩, rfl, ⟨hsa, hsb, hs⟩, ⟨hza, hzb, hz⟩⟩
  obtain ⟨cs0, rfl, _⟩ := okWide_struct Tryz.underlying46 hv0
  obtain ⟨rd, rfl, hrd⟩ : ∃ d : Rd, cs0 = (rdC d).toArray ∧ d.Ok W := by
    obtain ⟨fuel, hf⟩ := h0
    obtain ⟨d, he, hd⟩ := rdO _ _ _ hf
    exact ⟨d, by cases cs0; exact congrArg Array.mk he, hd⟩
  obtain ⟨l, hl, hls, _⟩ := open_list s7C (fun d => d.Ok No W) s7C_len Tryz.underlying47 (by kernel_rfl) (by omega) hv1 h1 s7O
  obtain ⟨cs2, rfl, _⟩ := okWide_struct Tryz.underlying30 hv2
  obtain ⟨raw, rfl, hraw, hrz⟩ : ∃ d : Ru, cs2 = (ruC d).toArray ∧ d.Ok No W ∧ d.Sz := by
    obtain ⟨fuel, hf⟩ := h2
    obtain ⟨d, he, hd⟩ := ruO _ _ _ hf
    exact ⟨d, by cases cs2; exact congrArg Array.mk he, hd⟩
  have hwalk := cempty_ok rd l v1 raw W hrd hl hls hraw hrz
  refine Calls.mono hwalk ?_
  rintro e W' ⟨v, rfl, rfl, hg⟩
  refine ⟨_, rfl, post_grow hW' (fun _ _ _ => trodAll_cons_mk (shut_bool Tryz.underlying4 _) trodAll_mk0) (fun sp hsp => ?_) (fun _ => rfl) hg (ok_one (by kernel_rfl) rfl (okWide_bool_mk Tryz.underlying4 _))⟩
  have hA2 := hA1
  simp only [List.append_nil] at hA2 hsp
  exact trodAll_grow laidOut hg sp _ _ _ _ params_ok hlt hsp hA2
end Go.Proofs.YthbjfhhiajihfaaGreat.cacheEmpty
