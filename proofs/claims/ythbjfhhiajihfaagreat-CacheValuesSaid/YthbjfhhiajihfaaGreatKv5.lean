/- What the claim stands on, part 5. Of own lemmas only those that it reaches. -/
import Derived.Test.YthbjfhhiajihfaaGreatKv4
set_option linter.unusedVariables false
set_option linter.unusedSimpArgs false
set_option maxHeartbeats 1000000
set_option maxRecDepth 100000
namespace Go.Proofs.YthbjfhhiajihfaaGreat
open Go Go.X Go.Rex
def anyL (ms : List Mt) : Bool := ms.any largeM
theorem anyL_at {ms : List Mt} {k : Nat} {x : Mt} (hx : ms[k]? = some x) (h : largeM x = true) : anyL ms = true := List.any_eq_true.2 ⟨x, List.mem_of_getElem? hx, h⟩
theorem anyL_no {ms : List Mt} (h : ∀ (i : Nat) (x : Mt), ms[i]? = some x → largeM x = false) : anyL ms = false := by
  unfold anyL
  rw [List.any_eq_false]
  intro x hx
  obtain ⟨i, hi⟩ := List.getElem?_of_mem hx
  simp [h i x hi]
theorem indexL_ok (M : Nat → Prop) (ms : List Mt) (v : Value) (w : World) (hv : SlM M w v ms) :
    Fx Tryz.prog 210 [v, .func (.func 188) #[] #[]] w (fun u w' => (∃ z : Int, u = .int .i64 z ∧ decide (0 ≤ z) = anyL ms) ∧ Grow w w') := by
  obtain ⟨ad, c, rfl⟩ := hv.shape
  have hbig := hv.big
  refine enter Tryz.func210 rfl rfl rfl _ (Pick.sub (l := [0, 1]) (.cons rfl (.cons rfl .nil))) ?_
  refine RK.seq ?_
  refine RK.region ?_
  refine RL.p rfl rfl ?_
  refine RL.done ?_
  iterate 2 refine RK.seq ?_
  refine RK.region ?_
  refine RL.p rfl rfl ?_
  refine RL.q (.free rfl) rfl rfl (Yld.lenSl u24 rfl) ?_
  refine RL.p rfl rfl ?_
  refine RL.done ?_
  refine RK.block ?_
  refine RK.loop (fun k : Nat => [(0, .slice ad ms.length c), (1, .func (.func 188) #[] #[]), (7, .int .i64 ms.length), (8, .int .i64 k)]) (fun k w' => Grow w w' ∧ k ≤ ms.length ∧ ∀ (i : Nat) (a : Mt), i < k → ms[i]? = some a → largeM a = false) (fun k => ms.length - k) 0 ⟨rfl, rfl, rfl, rfl, trivial⟩ ⟨Mod.refl _ _, by omega, fun i a h => by omega⟩ (fun k w' hI ih => ?_)
  obtain ⟨hg, hk, hno⟩ := hI
  refine RK.seq ?_
  refine RK.region ?_
  refine RL.p rfl rfl ?_
  refine RL.done ?_
  refine RK.seq ?_
  first | refine RK.condD rfl (fun h9 => ?_) (fun h9 => ?_) | refine RK.condN rfl (fun h9 => ?_) (fun h9 => ?_) | refine RK.cond rfl (fun h9 => ?_) (fun h9 => ?_)
  · obtain ⟨x, hx⟩ : ∃ x, ms[k]? = some x := ⟨ms[k]'(by omega), List.getElem?_eq_getElem (by omega)⟩
    obtain ⟨b1, o1, c1', he1, _, _, hc1⟩ := hv.elem mtC_len hx
    cases he1
    refine RK.skip ?_
    refine RK.seq ?_
    refine RK.block ?_
    refine RK.seq ?_
    refine RK.region ?_
    iterate 2 refine RL.p rfl rfl ?_
    refine RL.done ?_
    refine RK.seq ?_
    refine RK.region ?_
    iterate 3 refine RL.p rfl rfl ?_
    refine RL.q (.free rfl) rfl rfl (Yld.indexAddrN u24 i135 rfl rfl (by omega)) ?_
    refine RL.q (.free rfl) rfl rfl (Yld.loadN (cs := [.int .i64 x.kind, .string x.name, .string x.value]) a135 rfl (atN (fun j u hj => hg.cell (hc1 j u hj) (fun h => h)))) ?_
    refine RL.op (.free rfl) rfl rfl (Does.callv rfl rfl e188 (matchLarge_ok x _)) ?_
    rintro _ w2 ⟨rfl, hg2⟩
    refine RL.done ?_
    first | refine RK.condD rfl (fun h16 => ?_) (fun h16 => ?_) | refine RK.condN rfl (fun h16 => ?_) (fun h16 => ?_) | refine RK.cond rfl (fun h16 => ?_) (fun h16 => ?_)
    · refine RK.seq ?_
      refine RK.region ?_
      iterate 2 refine RL.p rfl rfl ?_
      refine RL.done ?_
      refine RK.ret_of Tryz.func210 (res1 rfl rfl) ?_ _
      exact ⟨_, rfl, ⟨_, rfl, by rw [anyL_at hx h16]; simp⟩, hg.trans hg2⟩
    · refine RK.skip ?_
      refine RK.inBlock ?_
      refine RK.region ?_
      refine RL.p rfl rfl ?_
      refine RL.re (d := 18) rfl rfl (succ_i64 (by omega)) ?_
      refine RL.p rfl rfl ?_
      refine RL.done ?_
      exact RK.back (ih (k + 1) _ ⟨hg.trans hg2, by omega, fun i a' hi ha' => by by_cases e : i = k; (subst e; rw [hx] at ha'; cases ha'; simpa using h16); exact hno i a' (by omega) ha'⟩ (by omega)) ⟨rfl, rfl, rfl, rfl, trivial⟩
  · refine RK.exit rfl ?_
    refine RK.seq ?_
    refine RK.region ?_
    refine RL.p rfl rfl ?_
    refine RL.done ?_
    refine RK.ret_of Tryz.func210 (res1 rfl rfl) ?_ _
    exact ⟨_, rfl, ⟨_, rfl, by rw [anyL_no fun i x hx => hno i x (by have := (List.getElem?_eq_some_iff.1 hx).1; omega) hx]; rfl⟩, hg⟩
theorem containsL_ok (M : Nat → Prop) (ms : List Mt) (v : Value) (w : World) (hv : SlM M w v ms) :
    Fx Tryz.prog 155 [v, .func (.func 188) #[] #[]] w (fun u w' => u = .bool (anyL ms) ∧ Grow w w') := by
  obtain ⟨ad, c, rfl⟩ := hv.shape
  refine enter Tryz.func155 rfl rfl rfl _ (Pick.sub (l := [0, 1]) (.cons rfl (.cons rfl .nil))) ?_
  refine RK.seq ?_
  refine RK.region ?_
  refine RL.p rfl rfl ?_
  refine RL.done ?_
  refine RK.seq ?_
  refine RK.region ?_
  iterate 2 refine RL.p rfl rfl ?_
  refine RL.op (.free rfl) rfl rfl (Does.call rfl e210 (indexL_ok M ms _ _ hv)) ?_
  rintro _ w2 ⟨⟨z, rfl, hz⟩, hg2⟩
  iterate 2 refine RL.p rfl rfl ?_
  refine RL.done ?_
  refine RK.ret_of Tryz.func155 (res1 rfl rfl) ?_ _
  exact ⟨_, rfl, congrArg _ hz, hg2⟩
theorem matchAnyL_ok (M : Nat → Prop) (ms : List Mt) (v : Value) (w : World) (hv : SlM M w v ms) :
    Fx Tryz.prog 137 [v] w (fun u w' => u = .bool (anyL ms) ∧ Grow w w') := by
  obtain ⟨ad, c, rfl⟩ := hv.shape
  refine enter Tryz.func137 rfl rfl rfl _ (Pick.sub (l := [0]) (.cons rfl .nil)) ?_
  refine RK.seq ?_
  refine RK.region ?_
  refine RL.p rfl rfl ?_
  refine RL.done ?_
  refine RK.seq ?_
  refine RK.region ?_
  refine RL.p rfl rfl ?_
  refine RL.op (.free rfl) rfl rfl (Does.call rfl e155 (containsL_ok M ms _ _ hv)) ?_
  rintro _ w2 ⟨rfl, hg2⟩
  refine RL.p rfl rfl ?_
  refine RL.done ?_
  refine RK.ret_of Tryz.func137 (res1 rfl rfl) ?_ _
  exact ⟨_, rfl, rfl, hg2⟩
end Go.Proofs.YthbjfhhiajihfaaGreat
set_option linter.unusedVariables false
set_option linter.unusedSimpArgs false
set_option maxHeartbeats 1000000
set_option maxRecDepth 100000
namespace Go.Proofs.YthbjfhhiajihfaaGreat
open Go Go.X Go.Rex
structure Bd where
  all : Bool
  lo : Nat
  hi : Nat
def bdC (b : Bd) : List Value := [.bool b.all, .float .f64 b.lo, .float .f64 b.hi]
def leF (a b : Nat) : Bool := FloatKind.f64.format.order a b == some .lt || FloatKind.f64.format.order a b == some .eq
def mayB (b : Bd) : Bool := if b.all = true then decide ((bitsS b.lo : Int) = 0) && decide ((bitsS b.hi : Int) = 0) else leF b.lo b.hi
def inBd (b : Bd) (v : Nat) : Bool := mayB b && (b.all || (leF b.lo v && leF v b.hi))
theorem fldN {w : World} {b t : Nat} {cs : List Value} (h : Blk w b t cs) (k n : Nat) : ∀ j u, ((cs.drop k).take n)[j]? = some u → w.cell? ⟨b, 0 + k + j, none⟩ = some u := fun j u hj => by
  have hj2 : (cs.drop k)[j]? = some u := by
    rw [List.getElem?_take] at hj
    split at hj
    · exact hj
    · cases hj
  rw [List.getElem?_drop] at hj2
  rw [show 0 + k + j = k + j by omega]
  exact h.cell' hj2
theorem may_ok (b : Bd) (w : World) : Fx Tryz.prog 152 [.agg (bdC b).toArray] w (fun u w' => u = .bool (mayB b) ∧ Grow w w') := by
  refine enter Tryz.func152 rfl rfl rfl _ (Pick.sub (l := [0]) (.cons rfl .nil)) ?_
  refine RK.seq ?_
  refine RK.region ?_
  refine RL.op (.free rfl) rfl rfl (Does.box rfl) ?_
  rintro _ w1 ⟨b1, rfl, hn1⟩
  have hB1 : Blk w1 b1 27 [.bool b.all, .float .f64 b.lo, .float .f64 b.hi] := hn1.blk
  refine RL.p rfl rfl ?_
  refine RL.done ?_
  iterate 2 refine RK.seq ?_
  refine RK.region ?_
  refine RL.q (.free rfl) rfl rfl (Yld.fieldAddr fo27_0 rfl) ?_
  refine RL.q (.free rfl) rfl rfl (Yld.load p4 rfl (at1 (hB1.cell rfl))) ?_
  refine RL.done ?_
  first | refine RK.condD rfl (fun h4 => ?_) (fun h4 => ?_) | refine RK.condN rfl (fun h4 => ?_) (fun h4 => ?_) | refine RK.cond rfl (fun h4 => ?_) (fun h4 => ?_)
  · refine RK.seq ?_
    refine RK.region ?_
    refine RL.q (.free rfl) rfl rfl (Yld.fieldAddr fo27_1 rfl) ?_
    refine RL.q (.free rfl) rfl rfl (Yld.load p25 rfl (at1 (hB1.cell rfl))) ?_
    refine RL.op (.free rfl) rfl rfl (Does.call rfl e173 (bits_ok _ _)) ?_
    rintro _ _ ⟨rfl, rfl⟩
    iterate 2 refine RL.p rfl rfl ?_
    first | refine RL.splitD (d := 9) rfl rfl (fun h8 => ?_) (fun h8 => ?_) | refine RL.splitN (d := 9) rfl rfl (fun h8 => ?_) (fun h8 => ?_) | refine RL.split (d := 9) rfl rfl (fun h8 => ?_) (fun h8 => ?_)
    · refine RL.q (.yes rfl rfl rfl) rfl rfl (Yld.fieldAddr fo27_2 rfl) ?_
      refine RL.q (.yes rfl rfl rfl) rfl rfl (Yld.load p25 rfl (at1 (hB1.cell rfl))) ?_
      refine RL.op (.yes rfl rfl rfl) rfl rfl (Does.call rfl e173 (bits_ok _ _)) ?_
      rintro _ _ ⟨rfl, rfl⟩
      refine RL.q (.yes rfl rfl rfl) rfl rfl (Yld.pure rfl) ?_
      iterate 2 refine RL.p rfl rfl ?_
      refine RL.done ?_
      refine RK.ret_of Tryz.func152 (res1 rfl rfl) ?_ _
      exact ⟨_, rfl, by unfold mayB; rw [if_pos h4, decide_eq_true h8]; rfl, hn1.grow⟩
    · iterate 4 refine RL.no (.no rfl rfl rfl rfl) rfl rfl ?_
      iterate 2 refine RL.p rfl rfl ?_
      refine RL.done ?_
      refine RK.ret_of Tryz.func152 (res1 rfl rfl) ?_ _
      exact ⟨_, rfl, by unfold mayB; rw [if_pos h4, decide_eq_false h8]; rfl, hn1.grow⟩
  · refine RK.skip ?_
    refine RK.seq ?_
    refine RK.region ?_
    refine RL.q (.free rfl) rfl rfl (Yld.fieldAddr fo27_1 rfl) ?_
    refine RL.q (.free rfl) rfl rfl (Yld.load p25 rfl (at1 (hB1.cell rfl))) ?_
    refine RL.q (.free rfl) rfl rfl (Yld.fieldAddr fo27_2 rfl) ?_
    refine RL.q (.free rfl) rfl rfl (Yld.load p25 rfl (at1 (hB1.cell rfl))) ?_
    iterate 2 refine RL.p rfl rfl ?_
    refine RL.done ?_
    refine RK.ret_of Tryz.func152 (res1 rfl rfl) ?_ _
    exact ⟨_, rfl, by unfold mayB; rw [if_neg (by simp [h4])]; rfl, hn1.grow⟩
theorem in_band_ok (b : Bd) (v : Nat) (w : World) : Fx Tryz.prog 105 [.agg (bdC b).toArray, .float .f64 v] w (fun u w' => u = .bool (inBd b v) ∧ Grow w w') := by
  refine enter Tryz.func105 rfl rfl rfl _ (Pick.sub (l := [0, 1]) (.cons rfl (.cons rfl .nil))) ?_
  refine RK.seq ?_
  refine RK.region ?_
  refine RL.op (.free rfl) rfl rfl (Does.box rfl) ?_
  rintro _ w1 ⟨b1, rfl, hn1⟩
  refine RL.p rfl rfl ?_
  refine RL.done ?_
  refine RK.seq ?_
  refine RK.region ?_
  refine RL.q (.free rfl) rfl rfl (Yld.loadN (cs := bdC b) a27 rfl (atN (blk0' hn1.blk))) ?_
  refine RL.op (.free rfl) rfl rfl (Does.call rfl e152 (may_ok b _)) ?_
  rintro _ w2 ⟨rfl, hg2'⟩
  have hg2 := hn1.grow.trans hg2'
  have hB2 : Blk w2 b1 27 [.bool b.all, .float .f64 b.lo, .float .f64 b.hi] := hn1.blk.mod hg2' (fun h => h)
  refine RL.p rfl rfl ?_
  first | refine RL.splitD (d := 7) rfl rfl (fun h6 => ?_) (fun h6 => ?_) | refine RL.splitN (d := 7) rfl rfl (fun h6 => ?_) (fun h6 => ?_) | refine RL.split (d := 7) rfl rfl (fun h6 => ?_) (fun h6 => ?_)
  · have hmay : mayB b = true := h6
    refine RL.q (.yes rfl rfl rfl) rfl rfl (Yld.fieldAddr fo27_0 rfl) ?_
    refine RL.q (.yes rfl rfl rfl) rfl rfl (Yld.load p4 rfl (at1 (hB2.cell rfl))) ?_
    refine RL.q (.yes rfl rfl rfl) rfl rfl (Yld.pure rfl) ?_
    first | refine RL.splitD (d := 10) rfl rfl (fun h9 => ?_) (fun h9 => ?_) | refine RL.splitN (d := 10) rfl rfl (fun h9 => ?_) (fun h9 => ?_) | refine RL.split (d := 10) rfl rfl (fun h9 => ?_) (fun h9 => ?_)
    · iterate 10 refine RL.no (.no rfl rfl rfl rfl) rfl rfl ?_
      refine RL.q (.yes rfl rfl rfl) rfl rfl (Yld.pure rfl) ?_
      iterate 2 refine RL.p rfl rfl ?_
      refine RL.done ?_
      refine RK.ret_of Tryz.func105 (res1 rfl rfl) ?_ _
      exact ⟨_, rfl, by unfold inBd; rw [hmay, h9]; rfl, hg2⟩
    · refine RL.q (.yes rfl rfl rfl) rfl rfl (Yld.fieldAddr fo27_1 rfl) ?_
      refine RL.q (.yes rfl rfl rfl) rfl rfl (Yld.load p25 rfl (at1 (hB2.cell rfl))) ?_
      iterate 3 refine RL.q (.yes rfl rfl rfl) rfl rfl (Yld.pure rfl) ?_
      first | refine RL.splitD (d := 15) rfl rfl (fun h14 => ?_) (fun h14 => ?_) | refine RL.splitN (d := 15) rfl rfl (fun h14 => ?_) (fun h14 => ?_) | refine RL.split (d := 15) rfl rfl (fun h14 => ?_) (fun h14 => ?_)
      · refine RL.q (.yes rfl rfl rfl) rfl rfl (Yld.pure rfl) ?_
        refine RL.q (.yes rfl rfl rfl) rfl rfl (Yld.fieldAddr fo27_2 rfl) ?_
        refine RL.q (.yes rfl rfl rfl) rfl rfl (Yld.load p25 rfl (at1 (hB2.cell rfl))) ?_
        iterate 3 refine RL.q (.yes rfl rfl rfl) rfl rfl (Yld.pure rfl) ?_
        iterate 2 refine RL.p rfl rfl ?_
        refine RL.done ?_
        refine RK.ret_of Tryz.func105 (res1 rfl rfl) ?_ _
        exact ⟨_, rfl, by unfold inBd; rw [hmay, show b.all = false by simpa using h9, show leF b.lo v = true from h14]; rfl, hg2⟩
      · iterate 4 refine RL.no (.no rfl rfl rfl rfl) rfl rfl ?_
        iterate 2 refine RL.q (.yes rfl rfl rfl) rfl rfl (Yld.pure rfl) ?_
        iterate 2 refine RL.p rfl rfl ?_
        refine RL.done ?_
        refine RK.ret_of Tryz.func105 (res1 rfl rfl) ?_ _
        exact ⟨_, rfl, by unfold inBd; rw [hmay, show b.all = false by simpa using h9, show leF b.lo v = false from h14]; rfl, hg2⟩
  · iterate 14 refine RL.no (.no rfl rfl rfl rfl) rfl rfl ?_
    iterate 2 refine RL.p rfl rfl ?_
    refine RL.done ?_
    refine RK.ret_of Tryz.func105 (res1 rfl rfl) ?_ _
    exact ⟨_, rfl, by unfold inBd; rw [show mayB b = false by simpa using h6]; rfl, hg2⟩
end Go.Proofs.YthbjfhhiajihfaaGreat
set_option linter.unusedVariables false
set_option linter.unusedSimpArgs false
set_option maxHeartbeats 1000000
set_option maxRecDepth 100000
namespace Go.Proofs.YthbjfhhiajihfaaGreat
open Go Go.X Go.Rex
structure Ru where
  sv : Value
  tv : Value
  ev : Value
  src : List Mt
  tgt : List Mt
  bd : Bd
  eq : List ByteArray
def ruC (r : Ru) : List Value := [r.sv, r.tv, .bool r.bd.all, .float .f64 r.bd.lo, .float .f64 r.bd.hi, r.ev]
def strsV (l : List ByteArray) : List Value := l.map Value.string
structure Ru.Ok (M : Nat → Prop) (w : World) (r : Ru) : Prop where
  s : SlM M w r.sv r.src
  t : SlM M w r.tv r.tgt
  e : Sl M w r.ev 1 r.eq.length (strsV r.eq)
theorem Ru.Ok.mod {M : Nat → Prop} {w w' : World} {r : Ru} (h : r.Ok M w) (hm : Mod M w w') : r.Ok M w' := ⟨h.s.mod hm, h.t.mod hm, h.e.mod hm⟩
@[irreducible] def okE (es : List ByteArray) (i : Nat) : Bool := match es[i]? with
  | none => true
  | some x => nameS x && (match i with
    | 0 => true
    | j + 1 => match es[j]? with
      | none => true
      | some y => slt y x)
theorem okE_0 {es : List ByteArray} {x : ByteArray} (hx : es[0]? = some x) : okE es 0 = nameS x := by unfold okE; rw [hx]; simp
theorem okE_s {es : List ByteArray} {j : Nat} {x y : ByteArray} (hx : es[j + 1]? = some x) (hy : es[j]? = some y) : okE es (j + 1) = (nameS x && slt y x) := by unfold okE; rw [hx]; simp only; rw [hy]
def eqsE (es : List ByteArray) : Bool := (List.range es.length).all (okE es)
@[irreducible] def isRu (r : Ru) : Bool := !decide ((r.src.length : Int) = 0) && (!decide ((r.tgt.length : Int) = 0) && (listM r.src && (listM r.tgt && (mayB r.bd && (!decide (4 < (r.eq.length : Int)) && eqsE r.eq)))))
theorem isRu_no {r : Ru} {i : Nat} (hi : i < r.eq.length) (h : okE r.eq i = false) : isRu r = false := by
  have h1 : eqsE r.eq = false := List.all_eq_false.2 ⟨i, List.mem_range.2 hi, by simp [h]⟩
  unfold isRu; simp [h1]
theorem isRu_yes {r : Ru} (h1 : ¬ (r.src.length : Int) = 0) (h2 : ¬ (r.tgt.length : Int) = 0) (h3 : listM r.src = true) (h4 : listM r.tgt = true) (h5 : mayB r.bd = true) (h6 : ¬ 4 < (r.eq.length : Int)) (h : ∀ i, i < r.eq.length → okE r.eq i = true) : isRu r = true := by
  have h7 : eqsE r.eq = true := List.all_eq_true.2 fun i hi => h i (List.mem_range.1 hi)
  unfold isRu
  rw [decide_eq_false h1, decide_eq_false h2, h3, h4, h5, decide_eq_false h6, h7]; rfl
theorem isRule_ok (M : Nat → Prop) (r : Ru) (w : World) (hr : r.Ok M w) : Fx Tryz.prog 195 [.agg (ruC r).toArray] w (fun u w' => u = .bool (isRu r) ∧ Grow w w') := by
  obtain ⟨sv, tv, ev, src, tgt, bd, eq⟩ := r
  obtain ⟨hs, ht, he⟩ := hr
  simp only at hs ht he
  obtain ⟨ad1, c1, rfl⟩ := hs.shape
  obtain ⟨ad2, c2, rfl⟩ := ht.shape
  obtain ⟨ad3, c3, rfl⟩ := he.shape
  have hbig := he.big
  refine enter Tryz.func195 rfl rfl rfl _ (Pick.sub (l := [0]) (.cons rfl .nil)) ?_
  refine RK.seq ?_
  refine RK.region ?_
  refine RL.op (.free rfl) rfl rfl (Does.box rfl) ?_
  rintro _ w1 ⟨b1, rfl, hn1⟩
  have hB1 : Blk w1 b1 30 (ruC ⟨.slice ad1 src.length c1, .slice ad2 tgt.length c2, .slice ad3 eq.length c3, src, tgt, bd, eq⟩) := hn1.blk
  refine RL.p rfl rfl ?_
  refine RL.done ?_
  iterate 2 refine RK.seq ?_
  refine RK.region ?_
  refine RL.q (.free rfl) rfl rfl (Yld.fieldAddr fo30_0 rfl) ?_
  refine RL.q (.free rfl) rfl rfl (Yld.load p24 rfl (at1 (hB1.cell rfl))) ?_
  refine RL.q (.free rfl) rfl rfl (Yld.lenSl u24 rfl) ?_
  iterate 2 refine RL.p rfl rfl ?_
  first | refine RL.splitD (d := 9) rfl rfl (fun h8 => ?_) (fun h8 => ?_) | refine RL.splitN (d := 9) rfl rfl (fun h8 => ?_) (fun h8 => ?_) | refine RL.split (d := 9) rfl rfl (fun h8 => ?_) (fun h8 => ?_)
  · iterate 4 refine RL.no (.no rfl rfl rfl rfl) rfl rfl ?_
    iterate 2 refine RL.p rfl rfl ?_
    iterate 4 refine RL.no (.no rfl rfl rfl rfl) rfl rfl ?_
    iterate 2 refine RL.p rfl rfl ?_
    iterate 4 refine RL.no (.no rfl rfl rfl rfl) rfl rfl ?_
    iterate 2 refine RL.p rfl rfl ?_
    iterate 4 refine RL.no (.no rfl rfl rfl rfl) rfl rfl ?_
    iterate 2 refine RL.p rfl rfl ?_
    iterate 4 refine RL.no (.no rfl rfl rfl rfl) rfl rfl ?_
    refine RL.p rfl rfl ?_
    refine RL.done ?_
    refine RK.condT rfl ?_
    refine RK.seq ?_
    refine RK.region ?_
    refine RL.p rfl rfl ?_
    refine RL.done ?_
    refine RK.ret_of Tryz.func195 (res1 rfl rfl) ?_ _
    exact ⟨_, rfl, by unfold isRu; simp only [decide_eq_true h8]; rfl, hn1.grow⟩
  · refine RL.q (.yes rfl rfl rfl) rfl rfl (Yld.fieldAddr fo30_1 rfl) ?_
    refine RL.q (.yes rfl rfl rfl) rfl rfl (Yld.load p24 rfl (at1 (hB1.cell rfl))) ?_
    refine RL.q (.yes rfl rfl rfl) rfl rfl (Yld.lenSl u24 rfl) ?_
    refine RL.q (.yes rfl rfl rfl) rfl rfl (Yld.pure rfl) ?_
    iterate 2 refine RL.p rfl rfl ?_
    first | refine RL.splitD (d := 15) rfl rfl (fun h13 => ?_) (fun h13 => ?_) | refine RL.splitN (d := 15) rfl rfl (fun h13 => ?_) (fun h13 => ?_) | refine RL.split (d := 15) rfl rfl (fun h13 => ?_) (fun h13 => ?_)
    · iterate 4 refine RL.no (.no rfl rfl rfl rfl) rfl rfl ?_
      iterate 2 refine RL.p rfl rfl ?_
      iterate 4 refine RL.no (.no rfl rfl rfl rfl) rfl rfl ?_
      iterate 2 refine RL.p rfl rfl ?_
      iterate 4 refine RL.no (.no rfl rfl rfl rfl) rfl rfl ?_
      iterate 2 refine RL.p rfl rfl ?_
      iterate 4 refine RL.no (.no rfl rfl rfl rfl) rfl rfl ?_
      refine RL.p rfl rfl ?_
      refine RL.done ?_
      refine RK.condT rfl ?_
      refine RK.seq ?_
      refine RK.region ?_
      refine RL.p rfl rfl ?_
      refine RL.done ?_
      refine RK.ret_of Tryz.func195 (res1 rfl rfl) ?_ _
      exact ⟨_, rfl, by unfold isRu; simp only [decide_eq_true h13]; rw [Bool.not_true, Bool.false_and, Bool.and_false], hn1.grow⟩
    · refine RL.q (.yes rfl rfl rfl) rfl rfl (Yld.fieldAddr fo30_0 rfl) ?_
      refine RL.q (.yes rfl rfl rfl) rfl rfl (Yld.load p24 rfl (at1 (hB1.cell rfl))) ?_
      refine RL.op (.yes rfl rfl rfl) rfl rfl (Does.call rfl e136 (matchList_ok M src _ _ (hs.mod (Mod.any' hn1.grow)))) ?_
      rintro _ w2 ⟨rfl, hg2⟩
      have hB2 := hB1.mod hg2 (fun h => h)
      have hg12 := hn1.grow.trans hg2
      refine RL.q (.yes rfl rfl rfl) rfl rfl (Yld.pure rfl) ?_
      iterate 2 refine RL.p rfl rfl ?_
      first | refine RL.splitD (d := 21) rfl rfl (fun h19 => ?_) (fun h19 => ?_) | refine RL.splitN (d := 21) rfl rfl (fun h19 => ?_) (fun h19 => ?_) | refine RL.split (d := 21) rfl rfl (fun h19 => ?_) (fun h19 => ?_)
      · iterate 4 refine RL.no (.no rfl rfl rfl rfl) rfl rfl ?_
        iterate 2 refine RL.p rfl rfl ?_
        iterate 4 refine RL.no (.no rfl rfl rfl rfl) rfl rfl ?_
        iterate 2 refine RL.p rfl rfl ?_
        iterate 4 refine RL.no (.no rfl rfl rfl rfl) rfl rfl ?_
        refine RL.p rfl rfl ?_
        refine RL.done ?_
        refine RK.condT rfl ?_
        refine RK.seq ?_
        refine RK.region ?_
        refine RL.p rfl rfl ?_
        refine RL.done ?_
        refine RK.ret_of Tryz.func195 (res1 rfl rfl) ?_ _
        exact ⟨_, rfl, by unfold isRu; simp only [show listM src = false by simpa using h19]; rw [Bool.false_and, Bool.and_false, Bool.and_false], hg12⟩
      · have hl1 : listM src = true := by simpa using h19
        refine RL.q (.yes rfl rfl rfl) rfl rfl (Yld.fieldAddr fo30_1 rfl) ?_
        refine RL.q (.yes rfl rfl rfl) rfl rfl (Yld.load p24 rfl (at1 (hB2.cell rfl))) ?_
        refine RL.op (.yes rfl rfl rfl) rfl rfl (Does.call rfl e136 (matchList_ok M tgt _ _ (ht.mod (Mod.any' hg12)))) ?_
        rintro _ w3 ⟨rfl, hg3⟩
        have hB3 := hB2.mod hg3 (fun h => h)
        have hg13 := hg12.trans hg3
        refine RL.q (.yes rfl rfl rfl) rfl rfl (Yld.pure rfl) ?_
        iterate 2 refine RL.p rfl rfl ?_
        first | refine RL.splitD (d := 27) rfl rfl (fun h25 => ?_) (fun h25 => ?_) | refine RL.splitN (d := 27) rfl rfl (fun h25 => ?_) (fun h25 => ?_) | refine RL.split (d := 27) rfl rfl (fun h25 => ?_) (fun h25 => ?_)
        · iterate 4 refine RL.no (.no rfl rfl rfl rfl) rfl rfl ?_
          iterate 2 refine RL.p rfl rfl ?_
          iterate 4 refine RL.no (.no rfl rfl rfl rfl) rfl rfl ?_
          refine RL.p rfl rfl ?_
          refine RL.done ?_
          refine RK.condT rfl ?_
          refine RK.seq ?_
          refine RK.region ?_
          refine RL.p rfl rfl ?_
          refine RL.done ?_
          refine RK.ret_of Tryz.func195 (res1 rfl rfl) ?_ _
          exact ⟨_, rfl, by unfold isRu; simp only [show listM tgt = false by simpa using h25]; rw [Bool.false_and, Bool.and_false, Bool.and_false, Bool.and_false], hg13⟩
        · have hl2 : listM tgt = true := by simpa using h25
          refine RL.q (.yes rfl rfl rfl) rfl rfl (Yld.fieldAddr fo30_2 rfl) ?_
          refine RL.q (.yes rfl rfl rfl) rfl rfl (Yld.loadN (cs := bdC bd) a27 rfl (atN (fldN hB3 2 3))) ?_
          refine RL.op (.yes rfl rfl rfl) rfl rfl (Does.call rfl e152 (may_ok bd _)) ?_
          rintro _ w4 ⟨rfl, hg4⟩
          have hB4 := hB3.mod hg4 (fun h => h)
          have hg14 := hg13.trans hg4
          refine RL.q (.yes rfl rfl rfl) rfl rfl (Yld.pure rfl) ?_
          iterate 2 refine RL.p rfl rfl ?_
          first | refine RL.splitD (d := 33) rfl rfl (fun h31 => ?_) (fun h31 => ?_) | refine RL.splitN (d := 33) rfl rfl (fun h31 => ?_) (fun h31 => ?_) | refine RL.split (d := 33) rfl rfl (fun h31 => ?_) (fun h31 => ?_)
          · iterate 4 refine RL.no (.no rfl rfl rfl rfl) rfl rfl ?_
            refine RL.p rfl rfl ?_
            refine RL.done ?_
            refine RK.condT rfl ?_
            refine RK.seq ?_
            refine RK.region ?_
            refine RL.p rfl rfl ?_
            refine RL.done ?_
            refine RK.ret_of Tryz.func195 (res1 rfl rfl) ?_ _
            exact ⟨_, rfl, by unfold isRu; simp only [show mayB bd = false by simpa using h31]; rw [Bool.false_and, Bool.and_false, Bool.and_false, Bool.and_false, Bool.and_false], hg14⟩
          · have hl3 : mayB bd = true := by simpa using h31
            refine RL.q (.yes rfl rfl rfl) rfl rfl (Yld.fieldAddr fo30_3 rfl) ?_
            refine RL.q (.yes rfl rfl rfl) rfl rfl (Yld.load p28 rfl (at1 (hB4.cell rfl))) ?_
            refine RL.q (.yes rfl rfl rfl) rfl rfl (Yld.lenSl u28 rfl) ?_
            refine RL.q (.yes rfl rfl rfl) rfl rfl (Yld.pure rfl) ?_
            refine RL.p rfl rfl ?_
            refine RL.done ?_
            first | refine RK.condD rfl (fun h37 => ?_) (fun h37 => ?_) | refine RK.condN rfl (fun h37 => ?_) (fun h37 => ?_) | refine RK.cond rfl (fun h37 => ?_) (fun h37 => ?_)
            · refine RK.seq ?_
              refine RK.region ?_
              refine RL.p rfl rfl ?_
              refine RL.done ?_
              refine RK.ret_of Tryz.func195 (res1 rfl rfl) ?_ _
              exact ⟨_, rfl, by unfold isRu; simp only [decide_eq_true h37]; rw [Bool.not_true, Bool.false_and, Bool.and_false, Bool.and_false, Bool.and_false, Bool.and_false, Bool.and_false], hg14⟩
            · have hyes := fun h => isRu_yes (r := ⟨.slice ad1 src.length c1, .slice ad2 tgt.length c2, .slice ad3 eq.length c3, src, tgt, bd, eq⟩) h8 h13 hl1 hl2 hl3 h37 h
              have hno := fun (i : Nat) hi h => isRu_no (r := ⟨.slice ad1 src.length c1, .slice ad2 tgt.length c2, .slice ad3 eq.length c3, src, tgt, bd, eq⟩) (i := i) hi h
              simp only at hyes hno
              refine RK.skip ?_
              iterate 2 refine RK.seq ?_
              refine RK.region ?_
              refine RL.q (.free rfl) rfl rfl (Yld.fieldAddr fo30_3 rfl) ?_
              refine RL.q (.free rfl) rfl rfl (Yld.load p28 rfl (at1 (hB4.cell rfl))) ?_
              refine RL.q (.free rfl) rfl rfl (Yld.lenSl u28 rfl) ?_
              refine RL.p rfl rfl ?_
              refine RL.done ?_
              refine RK.block ?_
              refine RK.loop (fun k : Nat => [(1, pp b1), (40, .slice ad3 eq.length c3), (41, .int .i64 (eq.length : Int)), (42, .int .i64 (k : Int))]) (fun k w' => w4 = w' ∧ k ≤ eq.length ∧ ∀ i, i < k → okE eq i = true) (fun k => eq.length - k) 0 ⟨rfl, rfl, rfl, rfl, trivial⟩ ⟨rfl, by omega, fun i hi => by omega⟩ (fun k w' hI ih => ?_)
              obtain ⟨rfl, hk, hall⟩ := hI
              refine RK.seq ?_
              refine RK.region ?_
              refine RL.p rfl rfl ?_
              refine RL.done ?_
              refine RK.seq ?_
              first | refine RK.condD rfl (fun h43 => ?_) (fun h43 => ?_) | refine RK.condN rfl (fun h43 => ?_) (fun h43 => ?_) | refine RK.cond rfl (fun h43 => ?_) (fun h43 => ?_)
              · obtain ⟨x, hx⟩ : ∃ x, eq[k]? = some x := ⟨eq[k]'(by omega), List.getElem?_eq_getElem (by omega)⟩
                obtain ⟨b2, o2, c', he1, _, _, hc1⟩ := (he.mod (Mod.any' hg14)).elem1 (k := k) (u := .string x) (by simp [strsV, hx])
                cases he1
                refine RK.skip ?_
                refine RK.seq ?_
                refine RK.block ?_
                refine RK.seq ?_
                refine RK.region ?_
                refine RL.p rfl rfl ?_
                refine RL.q (.free rfl) rfl rfl (Yld.indexAddrN u28 i9 rfl rfl (by omega)) ?_
                refine RL.q (.free rfl) rfl rfl (Yld.load p9 rfl (at1 (hc1 k (.string x) (by simp [strsV, hx])))) ?_
                iterate 2 refine RL.p rfl rfl ?_
                refine RL.done ?_
                refine RK.seq ?_
                refine RK.region ?_
                refine RL.p rfl rfl ?_
                refine RL.op (.free rfl) rfl rfl (Does.call rfl e219 (name_ok x _)) ?_
                rintro _ _ ⟨rfl, rfl⟩
                iterate 2 refine RL.p rfl rfl ?_
                first | refine RL.splitD (d := 50) rfl rfl (fun h49 => ?_) (fun h49 => ?_) | refine RL.splitN (d := 50) rfl rfl (fun h49 => ?_) (fun h49 => ?_) | refine RL.split (d := 50) rfl rfl (fun h49 => ?_) (fun h49 => ?_)
                · iterate 12 refine RL.no (.no rfl rfl rfl rfl) rfl rfl ?_
                  refine RL.p rfl rfl ?_
                  refine RL.done ?_
                  refine RK.condT rfl ?_
                  refine RK.seq ?_
                  refine RK.region ?_
                  refine RL.p rfl rfl ?_
                  refine RL.done ?_
                  refine RK.ret_of Tryz.func195 (res1 rfl rfl) ?_ _
                  exact ⟨_, rfl, by rw [hno k (by omega) (by
                      have hf : nameS x = false := by simpa using h49
                      cases k with
                      | zero => rw [okE_0 hx]; exact hf
                      | succ j => rw [okE_s hx (List.getElem?_eq_getElem (by omega)), hf]; rfl)], hg14⟩
                · have hix : nameS x = true := by simpa using h49
                  iterate 3 refine RL.q (.yes rfl rfl rfl) rfl rfl (Yld.pure rfl) ?_
                  first | refine RL.splitD (d := 53) rfl rfl (fun h52 => ?_) (fun h52 => ?_) | refine RL.splitN (d := 53) rfl rfl (fun h52 => ?_) (fun h52 => ?_) | refine RL.split (d := 53) rfl rfl (fun h52 => ?_) (fun h52 => ?_)
                  · obtain ⟨j, rfl⟩ : ∃ j, k = j + 1 := ⟨k - 1, by omega⟩
                    obtain ⟨y, hy⟩ : ∃ y, eq[j]? = some y := ⟨eq[j]'(by omega), List.getElem?_eq_getElem (by omega)⟩
                    refine RL.q (.yes rfl rfl rfl) rfl rfl (Yld.pure rfl) ?_
                    refine RL.q (.yes rfl rfl rfl) rfl rfl (Yld.fieldAddr fo30_3 rfl) ?_
                    refine RL.q (.yes rfl rfl rfl) rfl rfl (Yld.load p28 rfl (at1 (hB4.cell rfl))) ?_
                    iterate 2 refine RL.q (.yes rfl rfl rfl) rfl rfl (Yld.pure rfl) ?_
                    refine RL.re (d := 58) rfl rfl (sub_i64 (z := (j : Int)) (by omega) (by omega) (by omega)) ?_
                    refine RL.q (.yes rfl rfl rfl) rfl rfl (Yld.indexAddrN u28 i9 rfl rfl (by omega)) ?_
                    refine RL.q (.yes rfl rfl rfl) rfl rfl (Yld.load p9 rfl (at1 (hc1 j (.string y) (by simp [strsV, hy])))) ?_
                    iterate 2 refine RL.q (.yes rfl rfl rfl) rfl rfl (Yld.pure rfl) ?_
                    refine RL.p rfl rfl ?_
                    refine RL.done ?_
                    first | refine RK.condD rfl (fun h61 => ?_) (fun h61 => ?_) | refine RK.condN rfl (fun h61 => ?_) (fun h61 => ?_) | refine RK.cond rfl (fun h61 => ?_) (fun h61 => ?_)
                    · refine RK.seq ?_
                      refine RK.region ?_
                      refine RL.p rfl rfl ?_
                      refine RL.done ?_
                      refine RK.ret_of Tryz.func195 (res1 rfl rfl) ?_ _
                      exact ⟨_, rfl, by rw [hno (j + 1) (by omega) (by rw [okE_s hx hy, hix, show slt y x = false by rw [sle_not] at h61; simpa using h61]; rfl)], hg14⟩
                    · refine RK.skip ?_
                      refine RK.inBlock ?_
                      refine RK.region ?_
                      refine RL.p rfl rfl ?_
                      refine RL.re (d := 64) rfl rfl (succ_i64 (by omega)) ?_
                      refine RL.p rfl rfl ?_
                      refine RL.done ?_
                      exact RK.back (ih (j + 1 + 1) _ ⟨rfl, by omega, fun i hi => by by_cases e : i = j + 1; (subst e; rw [okE_s hx hy, hix, show slt y x = true by rw [sle_not] at h61; simpa using h61]; rfl); exact hall i (by omega)⟩ (by omega)) ⟨rfl, rfl, rfl, rfl, trivial⟩
                  · have hk0 : k = 0 := by omega
                    subst hk0
                    iterate 8 refine RL.no (.no rfl rfl rfl rfl) rfl rfl ?_
                    refine RL.q (.yes rfl rfl rfl) rfl rfl (Yld.pure rfl) ?_
                    refine RL.p rfl rfl ?_
                    refine RL.done ?_
                    refine RK.condF rfl ?_
                    refine RK.skip ?_
                    refine RK.inBlock ?_
                    refine RK.region ?_
                    refine RL.p rfl rfl ?_
                    refine RL.re (d := 64) rfl rfl (succ_i64 (by omega)) ?_
                    refine RL.p rfl rfl ?_
                    refine RL.done ?_
                    exact RK.back (ih (0 + 1) _ ⟨rfl, by omega, fun i hi => by by_cases e : i = 0; (subst e; rw [okE_0 hx]; exact hix); omega⟩ (by omega)) ⟨rfl, rfl, rfl, rfl, trivial⟩
              · refine RK.exit rfl ?_
                refine RK.seq ?_
                refine RK.region ?_
                refine RL.p rfl rfl ?_
                refine RL.done ?_
                refine RK.ret_of Tryz.func195 (res1 rfl rfl) ?_ _
                exact ⟨_, rfl, by rw [hyes (fun i hi => hall i (by omega))], hg14⟩
def largeRu (r : Ru) : Bool := isRu r && (anyL r.src || anyL r.tgt)
theorem largeRu_ok (M : Nat → Prop) (r : Ru) (w : World) (hr : r.Ok M w) : Fx Tryz.prog 196 [.agg (ruC r).toArray] w (fun u w' => u = .bool (largeRu r) ∧ Grow w w') := by
  have hr0 := hr
  obtain ⟨sv, tv, ev, src, tgt, bd, eq⟩ := r
  obtain ⟨hs, ht, he⟩ := hr
  simp only at hs ht he
  obtain ⟨ad1, c1, rfl⟩ := hs.shape
  obtain ⟨ad2, c2, rfl⟩ := ht.shape
  obtain ⟨ad3, c3, rfl⟩ := he.shape
  have hbig := he.big
  refine enter Tryz.func196 rfl rfl rfl _ (Pick.sub (l := [0]) (.cons rfl .nil)) ?_
  refine RK.seq ?_
  refine RK.region ?_
  refine RL.op (.free rfl) rfl rfl (Does.box rfl) ?_
  rintro _ w1 ⟨b1, rfl, hn1⟩
  have hB1 : Blk w1 b1 30 (ruC ⟨.slice ad1 src.length c1, .slice ad2 tgt.length c2, .slice ad3 eq.length c3, src, tgt, bd, eq⟩) := hn1.blk
  refine RL.p rfl rfl ?_
  refine RL.done ?_
  refine RK.seq ?_
  refine RK.region ?_
  refine RL.q (.free rfl) rfl rfl (Yld.loadN (cs := ruC ⟨.slice ad1 src.length c1, .slice ad2 tgt.length c2, .slice ad3 eq.length c3, src, tgt, bd, eq⟩) a30 rfl (atN (blk0' hB1))) ?_
  refine RL.op (.free rfl) rfl rfl (Does.call rfl e195 (isRule_ok M _ _ (hr0.mod (Mod.any' hn1.grow)))) ?_
  rintro _ w2 ⟨rfl, hg2⟩
  have hg12 := hn1.grow.trans hg2
  have hB2 := hB1.mod hg2 (fun h => h)
  refine RL.p rfl rfl ?_
  first | refine RL.splitD (d := 5) rfl rfl (fun h4 => ?_) (fun h4 => ?_) | refine RL.splitN (d := 5) rfl rfl (fun h4 => ?_) (fun h4 => ?_) | refine RL.split (d := 5) rfl rfl (fun h4 => ?_) (fun h4 => ?_)
  · refine RL.q (.yes rfl rfl rfl) rfl rfl (Yld.fieldAddr fo30_0 rfl) ?_
    refine RL.q (.yes rfl rfl rfl) rfl rfl (Yld.load p24 rfl (at1 (hB2.cell rfl))) ?_
    refine RL.op (.yes rfl rfl rfl) rfl rfl (Does.call rfl e137 (matchAnyL_ok M src _ _ (hs.mod (Mod.any' hg12)))) ?_
    rintro _ w3 ⟨rfl, hg3⟩
    have hg13 := hg12.trans hg3
    have hB3 := hB2.mod hg3 (fun h => h)
    refine RL.q (.yes rfl rfl rfl) rfl rfl (Yld.pure rfl) ?_
    first | refine RL.splitD (d := 9) rfl rfl (fun h8 => ?_) (fun h8 => ?_) | refine RL.splitN (d := 9) rfl rfl (fun h8 => ?_) (fun h8 => ?_) | refine RL.split (d := 9) rfl rfl (fun h8 => ?_) (fun h8 => ?_)
    · iterate 3 refine RL.no (.no rfl rfl rfl rfl) rfl rfl ?_
      refine RL.q (.yes rfl rfl rfl) rfl rfl (Yld.pure rfl) ?_
      iterate 2 refine RL.p rfl rfl ?_
      refine RL.done ?_
      refine RK.ret_of Tryz.func196 (res1 rfl rfl) ?_ _
      exact ⟨_, rfl, by unfold largeRu; rw [h4]; simp only; rw [h8]; rfl, hg13⟩
    · refine RL.q (.yes rfl rfl rfl) rfl rfl (Yld.fieldAddr fo30_1 rfl) ?_
      refine RL.q (.yes rfl rfl rfl) rfl rfl (Yld.load p24 rfl (at1 (hB3.cell rfl))) ?_
      refine RL.op (.yes rfl rfl rfl) rfl rfl (Does.call rfl e137 (matchAnyL_ok M tgt _ _ (ht.mod (Mod.any' hg13)))) ?_
      rintro _ w4 ⟨rfl, hg4⟩
      refine RL.q (.yes rfl rfl rfl) rfl rfl (Yld.pure rfl) ?_
      iterate 2 refine RL.p rfl rfl ?_
      refine RL.done ?_
      refine RK.ret_of Tryz.func196 (res1 rfl rfl) ?_ _
      exact ⟨_, rfl, by unfold largeRu; rw [h4]; simp only; rw [show anyL src = false by simpa using h8]; rfl, hg13.trans hg4⟩
  · iterate 8 refine RL.no (.no rfl rfl rfl rfl) rfl rfl ?_
    iterate 2 refine RL.p rfl rfl ?_
    refine RL.done ?_
    refine RK.ret_of Tryz.func196 (res1 rfl rfl) ?_ _
    exact ⟨_, rfl, by unfold largeRu; rw [show isRu _ = false by simpa using h4]; rfl, hg12⟩
def worksRu (r : Ru) : Bool := isRu r && !largeRu r
theorem works_ok (M : Nat → Prop) (r : Ru) (w : World) (hr : r.Ok M w) : Fx Tryz.prog 142 [.agg (ruC r).toArray] w (fun u w' => u = .bool (worksRu r) ∧ Grow w w') := by
  refine enter Tryz.func142 rfl rfl rfl _ (Pick.sub (l := [0]) (.cons rfl .nil)) ?_
  refine RK.seq ?_
  refine RK.region ?_
  refine RL.op (.free rfl) rfl rfl (Does.box rfl) ?_
  rintro _ w1 ⟨b1, rfl, hn1⟩
  refine RL.p rfl rfl ?_
  refine RL.done ?_
  refine RK.seq ?_
  refine RK.region ?_
  refine RL.q (.free rfl) rfl rfl (Yld.loadN (cs := ruC r) a30 rfl (atN (blk0' hn1.blk))) ?_
  refine RL.op (.free rfl) rfl rfl (Does.call rfl e195 (isRule_ok M r _ (hr.mod (Mod.any' hn1.grow)))) ?_
  rintro _ w2 ⟨rfl, hg2⟩
  have hg12 := hn1.grow.trans hg2
  refine RL.p rfl rfl ?_
  first | refine RL.splitD (d := 5) rfl rfl (fun h4 => ?_) (fun h4 => ?_) | refine RL.splitN (d := 5) rfl rfl (fun h4 => ?_) (fun h4 => ?_) | refine RL.split (d := 5) rfl rfl (fun h4 => ?_) (fun h4 => ?_)
  · refine RL.q (.yes rfl rfl rfl) rfl rfl (Yld.loadN (cs := ruC r) a30 rfl (atN (blk0' (hn1.blk.mod hg2 (fun h => h))))) ?_
    refine RL.op (.yes rfl rfl rfl) rfl rfl (Does.call rfl e196 (largeRu_ok M r _ (hr.mod (Mod.any' hg12)))) ?_
    rintro _ w3 ⟨rfl, hg3⟩
    refine RL.q (.yes rfl rfl rfl) rfl rfl (Yld.pure rfl) ?_
    iterate 2 refine RL.p rfl rfl ?_
    refine RL.done ?_
    refine RK.ret_of Tryz.func142 (res1 rfl rfl) ?_ _
    exact ⟨_, rfl, by unfold worksRu; rw [h4]; rfl, hg12.trans hg3⟩
  · iterate 3 refine RL.no (.no rfl rfl rfl rfl) rfl rfl ?_
    iterate 2 refine RL.p rfl rfl ?_
    refine RL.done ?_
    refine RK.ret_of Tryz.func142 (res1 rfl rfl) ?_ _
    exact ⟨_, rfl, by unfold worksRu; rw [show isRu _ = false by simpa using h4]; rfl, hg12⟩
end Go.Proofs.YthbjfhhiajihfaaGreat
set_option linter.unusedVariables false
set_option linter.unusedSimpArgs false
namespace Go.X
open Go Go.RowKit
def bytesV (l : List UInt8) : List Value := l.map fun b => Value.int .u8 (b.toNat : Int)
theorem bytesV_len (l : List UInt8) : (bytesV l).length = l.length := by simp [bytesV]
theorem bytesV_app (a b : List UInt8) : bytesV (a ++ b) = bytesV a ++ bytesV b := by simp [bytesV]
theorem bytesV_str (s : ByteArray) : Go.Lib.strCells s = bytesV s.data.toList := rfl
theorem bytesV_one (l : List UInt8) : (bytesV l).all (·.oneCell') = true := by
  rw [List.all_eq_true]
  intro u hu
  obtain ⟨b, _, rfl⟩ := List.mem_map.1 hu
  rfl
section
variable {P : Program} {n : Nat} {e : Env} {w : World} {C : World → Prop}
theorem Does.appendStr {d : Option Tmp} {t u el : Nat} {s x : Operand} {ty : TypeId} {pos : String} {af : Array Edge} {g : Option (Nat × Bool)} (ht : SlT P t el) (hu : P.underlying u = some .string) (hT : TI P el (.int .u8 0) 1 1)
    {v : Value} {k base : Nat} {xs : List Value} {str : ByteArray} (hs : ev e s = some v) (hx : ev e x = some (.string str)) (hown : Row w el 1 v k xs) (hf : ∀ b, v.ownBlock = some b → base ≤ b) (hbase : base ≤ w.heap.size) (hb : k + str.size ≤ 140737488355328) :
    Does P n e w ⟨d, .call { callee := .builtin .append, args := #[s, x], argTypes := #[t, u] }, ty, pos, af, g⟩
      (fun v' w' => Row w' el 1 v' (k + str.size) (xs ++ bytesV str.data.toList) ∧ (∀ b, v'.ownBlock = some b → base ≤ b) ∧ Mod (fun b => v.ownBlock = some b) w w') := by
  obtain ⟨i, hi, hz, hs1, hby⟩ := hT.out
  have hown2 : w.ownsRow base el 1 v k xs := by
    refine ⟨hown.1, ?_⟩
    rcases hown.2 with h | ⟨g, cap, cur, rfl, _, r⟩
    · exact .inl h
    · exact .inr ⟨g, cap, cur, rfl, hf g rfl, r⟩
  obtain ⟨v', w', hr, ho, hg, _⟩ := Go.Lib.run_append_own_string (P := P) w base t u ty el i ht hu hi hz hs1 hby v k xs hown2 str (by simp only [maxLen]; omega) hb hbase
  rw [bytesV_str] at ho
  refine Does.of_run (v := v') (w' := w') (fun a ha => ?_) ⟨⟨ho.1, ?_⟩, fun b hb' => ?_, Mod.grownBy hg (fun k h => h)⟩
  · simp [execOp, resolve, invoke, builtin, ha.ev hs, ha.ev hx, hr]
  · rcases ho.2 with h | ⟨g, cap, cur, rfl, _, r⟩
    · exact .inl h
    · exact .inr ⟨g, cap, cur, rfl, Nat.zero_le _, r⟩
  · exact (World.ownsRow.lt ho b hb').1
theorem mkS_data (xs : List Int) : (mkS xs).data.toList = xs.map fun n => UInt8.ofNat n.toNat := by
  unfold mkS
  have key : ∀ (xs : List Int) (s : ByteArray), (xs.foldl (fun r n => r.push (UInt8.ofNat n.toNat)) s).data.toList = s.data.toList ++ xs.map fun n => UInt8.ofNat n.toNat := by
    intro xs
    induction xs with
    | nil => intro s; simp
    | cons x xs ih => intro s; rw [List.foldl_cons, ih]; simp [ByteArray.push]
  rw [key]
  rfl
theorem mkS_bytes (l : List UInt8) : mkS (l.map fun b => (b.toNat : Int)) = ⟨l.toArray⟩ := by
  apply ByteArray.ext
  apply Array.toList_inj.1
  rw [mkS_data, List.map_map]
  show _ = l
  conv => rhs; rw [← List.map_id l]
  apply List.map_congr_left
  intro x _
  simp
theorem Yld.bytesSl {d : Option Tmp} {src dst el : Nat} {x : Operand} {ty : TypeId} {pos : String} {af : Array Edge} {g : Option (Nat × Bool)} (hs : SlT P src el) (he : P.underlying el = some (.int .u8)) (hd : P.underlying dst = some .string) {v : Value} {l : List UInt8} (hx : ev e x = some v) (hv : ∀ w, C w → Sl No w v 1 l.length (bytesV l)) :
    Yld P n C e ⟨d, .convert src dst x, ty, pos, af, g⟩ (.string ⟨l.toArray⟩) := by
  intro ac ha w hw
  obtain ⟨ad, c, rfl, hf⟩ := (hv w hw).form
  have hm : bytesV l = (l.map fun b => (b.toNat : Int)).map (Value.int .u8) := by simp [bytesV]
  cases ad with
  | some a =>
    by_cases hn : 0 < l.length
    · obtain ⟨b, o, ha2, _, hc⟩ := hf hn
      cases ha2
      have h1 := run_loadCells_list (P := P) w ⟨b, o, none⟩ (bytesV l) (fun j v hj => by rw [add_none]; exact hc j v hj)
      have h2 := run_bytesToString (P := P) w ⟨b, o, none⟩ l.length c (l.map fun b => (b.toNat : Int)) (by rw [bytesV_len, hm] at h1; exact h1)
      simp only [execOp, ha.ev hx, Sem.run_bind, run_convert_bytes_string w src dst el _ _ c hs he hd, h2, Result.andThen_ok, Sem.run_pure]
      rw [show (l.map fun b => (b.toNat : Int)).foldl (fun r n => r.push (UInt8.ofNat n.toNat)) ByteArray.empty = mkS (l.map fun b => (b.toNat : Int)) from rfl, mkS_bytes]
    · have hl : l = [] := List.length_eq_zero_iff.1 (by omega)
      subst hl
      have h2 := run_bytesToString (P := P) w a 0 c [] (by simp [loadCells, loadCellsFrom])
      simp only [execOp, ha.ev hx, Sem.run_bind, List.length_nil, run_convert_bytes_string w src dst el _ _ c hs he hd, h2, Result.andThen_ok, Sem.run_pure]
      rfl
  | none =>
    have hl : l = [] := by
      by_cases hn : 0 < l.length
      · obtain ⟨b, o, ha2, _⟩ := hf hn
        cases ha2
      · exact List.length_eq_zero_iff.1 (by omega)
    subst hl
    have h2 := run_convert_bytes_nil (P := P) (w := w) src el hs he 0 c dst hd
    simp only [execOp, ha.ev hx, Sem.run_bind, List.length_nil, h2, Result.andThen_ok, Sem.run_pure]
    rfl
end
end Go.X
set_option linter.unusedVariables false
set_option linter.unusedSimpArgs false
set_option maxHeartbeats 1000000
set_option maxRecDepth 100000
namespace Go.Proofs.YthbjfhhiajihfaaGreat
open Go Go.X Go.Rex
def putB (n : Nat) : List UInt8 := if h : n < 128 then [UInt8.ofNat n] else UInt8.ofNat (n % 128 + 128) :: putB (n / 128)
termination_by n
decreasing_by omega
theorem putB_lo {n : Nat} (h : n < 128) : putB n = [UInt8.ofNat n] := by rw [putB, dif_pos h]
theorem putB_hi {n : Nat} (h : ¬ n < 128) : putB n = UInt8.ofNat (n % 128 + 128) :: putB (n / 128) := by rw [putB, dif_neg h]
theorem ofNat_lo {n : Nat} (h : n < 256) : (UInt8.ofNat n).toNat = n := by simp [UInt8.toNat_ofNat']; omega
theorem putB_inj : ∀ (n m : Nat) (a b : List UInt8), putB n ++ a = putB m ++ b → n = m ∧ a = b := by
  intro n
  induction n using Nat.strongRecOn with
  | _ n ih =>
    intro m a b h
    by_cases h1 : n < 128 <;> by_cases h2 : m < 128
    · rw [putB_lo h1, putB_lo h2] at h
      simp only [List.singleton_append, List.cons.injEq] at h
      have := congrArg UInt8.toNat h.1
      rw [ofNat_lo (by omega), ofNat_lo (by omega)] at this
      exact ⟨this, h.2⟩
    · rw [putB_lo h1, putB_hi h2] at h
      simp only [List.singleton_append, List.cons_append, List.cons.injEq] at h
      have := congrArg UInt8.toNat h.1
      rw [ofNat_lo (by omega), ofNat_lo (by omega)] at this
      omega
    · rw [putB_hi h1, putB_lo h2] at h
      simp only [List.singleton_append, List.cons_append, List.cons.injEq] at h
      have := congrArg UInt8.toNat h.1
      rw [ofNat_lo (by omega), ofNat_lo (by omega)] at this
      omega
    · rw [putB_hi h1, putB_hi h2] at h
      simp only [List.cons_append, List.cons.injEq] at h
      have h3 := congrArg UInt8.toNat h.1
      rw [ofNat_lo (by omega), ofNat_lo (by omega)] at h3
      obtain ⟨h4, h5⟩ := ih (n / 128) (by omega) _ _ _ h.2
      exact ⟨by omega, h5⟩
def putT (s : ByteArray) : List UInt8 := putB s.size ++ s.data.toList
theorem putT_inj {s t : ByteArray} {a b : List UInt8} (h : putT s ++ a = putT t ++ b) : s = t ∧ a = b := by
  unfold putT at h
  rw [List.append_assoc, List.append_assoc] at h
  obtain ⟨h1, h2⟩ := putB_inj _ _ _ _ h
  obtain ⟨h3, h4⟩ := List.append_inj h2 (by rw [Array.length_toList, Array.length_toList]; exact h1)
  exact ⟨ByteArray.ext (Array.toList_inj.1 h3), h4⟩
def keyB (es : List ByteArray) (ls : List Lab) : List UInt8 := es.flatMap fun x => putT (getL ls x)
theorem keyB_iff : ∀ (es : List ByteArray) (l1 l2 : List Lab), keyB es l1 = keyB es l2 ↔ ∀ x ∈ es, getL l1 x = getL l2 x
  | [], _, _ => by simp [keyB]
  | x :: es, l1, l2 => by
    have ih := keyB_iff es l1 l2
    unfold keyB at ih ⊢
    rw [List.flatMap_cons, List.flatMap_cons]
    constructor
    · intro h
      obtain ⟨h1, h2⟩ := putT_inj h
      intro y hy
      rcases List.mem_cons.1 hy with rfl | hy
      · exact h1
      · exact ih.1 h2 y hy
    · intro h
      rw [h x (by simp), ih.2 fun y hy => h y (by simp [hy])]
theorem or_byte (n : Nat) : IntKind.u8.wrap (BitVec.ofInt IntKind.u8.bits (IntKind.u8.wrap (n : Int)) ||| BitVec.ofInt IntKind.u8.bits 128).toNat = ((n % 128 + 128 : Nat) : Int) := by
  have h1 : IntKind.u8.wrap (n : Int) = ((n % 256 : Nat) : Int) := by simp [IntKind.wrap, IntKind.signed, IntKind.bits]
  rw [h1]
  have h2 : n % 128 = (n % 256) % 128 := by omega
  rw [h2]
  have h3 : n % 256 < 256 := Nat.mod_lt _ (by omega)
  generalize n % 256 = m at h3
  have key : ∀ m, m < 256 → IntKind.u8.wrap (BitVec.ofInt IntKind.u8.bits ((m : Nat) : Int) ||| BitVec.ofInt IntKind.u8.bits 128).toNat = ((m % 128 + 128 : Nat) : Int) := by decide +kernel
  exact key m h3
theorem lo_byte {n : Nat} (h : n < 128) : IntKind.u8.wrap (n : Int) = ((UInt8.ofNat n).toNat : Int) := by
  rw [ofNat_lo (by omega)]
  simp [IntKind.wrap, IntKind.signed, IntKind.bits]
  omega
theorem vput_ok (n : Nat) (hn : n < 18446744073709551616) (w : World) : Fx Tryz.prog 237 [.int .u64 n] w (fun u w' => Row w' 5 1 u (putB n).length (bytesV (putB n)) ∧ Fresh w.heap.size u ∧ Grow w w') := by
  refine enter Tryz.func237 rfl rfl rfl _ (Pick.sub (l := [0]) (.cons rfl .nil)) ?_
  refine RK.seq ?_
  refine RK.region ?_
  refine RL.p rfl rfl ?_
  refine RL.done ?_
  refine RK.seq ?_
  refine RK.region ?_
  refine RL.p rfl rfl ?_
  refine RL.done ?_
  refine RK.seq ?_
  refine RK.block ?_
  refine RK.loop (fun s : Nat × List UInt8 × Value => [(0, .int .u64 (s.1 : Int)), (3, s.2.2)]) (fun s w' => Row w' 5 1 s.2.2 s.2.1.length (bytesV s.2.1) ∧ Fresh w.heap.size s.2.2 ∧ Grow w w' ∧ s.1 < 18446744073709551616 ∧ (s.2.1.length = 0 ∨ 1 ≤ s.1) ∧ s.2.1 ++ putB s.1 = putB n ∧ s.1 * 128 ^ s.2.1.length ≤ n) (fun s => s.1) (n, [], .slice none 0 0) ⟨rfl, rfl, trivial⟩ ⟨by simpa [bytesV] using Row.nil _ _ _, fun b e => by simp [Value.ownBlock] at e, Mod.refl _ _, hn, by simp, by simp, by simp⟩ (fun s w' hI ih => ?_)
  obtain ⟨m, l, u⟩ := s
  obtain ⟨hr, hf, hg, hm, hl, hst, hpw⟩ := hI
  simp only at hr hf hm hl hst hpw
  have hl10 : l.length ≤ 10 := by
      rcases Nat.lt_or_ge 10 l.length with h | h
      · have h1 : 128 ^ 10 ≤ 128 ^ l.length := Nat.pow_le_pow_right (by omega) (by omega)
        have h2 : 1 * 128 ^ l.length ≤ m * 128 ^ l.length := Nat.mul_le_mul_right _ (by omega)
        have h3 : (18446744073709551616 : Nat) < 128 ^ 10 := by decide
        omega
      · exact h
  iterate 2 refine RK.seq ?_
  refine RK.region ?_
  iterate 2 refine RL.p rfl rfl ?_
  refine RL.done ?_
  first | refine RK.condD rfl (fun h5 => ?_) (fun h5 => ?_) | refine RK.condN rfl (fun h5 => ?_) (fun h5 => ?_) | refine RK.cond rfl (fun h5 => ?_) (fun h5 => ?_)
  · have h128 : ¬ m < 128 := by omega
    refine RK.skip ?_
    refine RK.block ?_
    refine RK.seq ?_
    refine RK.region ?_
    iterate 2 refine RL.p rfl rfl ?_
    refine RL.q (.free rfl) rfl rfl (Yld.convI Tryz.underlying66 Tryz.underlying5 rfl) ?_
    refine RL.p rfl rfl ?_
    refine RL.re (d := 9) rfl rfl (congrArg (Value.int .u8) ((or_byte m).trans (by rw [ofNat_lo (by omega)] : _ = ((UInt8.ofNat (m % 128 + 128)).toNat : Int)))) ?_
    refine RL.op (.free rfl) rfl rfl (Does.slice1 u151 i5 rfl rfl rfl rfl rfl) ?_
    rintro _ w2 ⟨b2, rfl, hn2⟩
    refine RL.op (.free rfl) rfl rfl (Does.append u151 i5 rfl rfl rfl rfl rfl (hr.mod hn2.grow (fun _ _ h => h)) (Sl.new hn2 1 1 rfl (by omega) (fun h => h)) (rfl) (by omega)) ?_
    rintro u3 w3 ⟨hr3, hm3, hu3⟩
    have hs2 := hn2.grow.size
    have hs0 := hg.size
    refine RL.p rfl rfl ?_
    refine RL.done ?_
    refine RK.region ?_
    refine RL.p rfl rfl ?_
    refine RL.q (.free rfl) rfl rfl (Yld.shr (a := m) (s := 7) rfl rfl (by decide)) ?_
    refine RL.re (d := 13) rfl rfl (congrArg (Value.int .u64) (by rw [Nat.shiftRight_eq_div_pow] : _ = ((m / 128 : Nat) : Int))) ?_
    refine RL.p rfl rfl ?_
    refine RL.done ?_
    refine RK.inBlock ?_
    exact RK.back (ih (m / 128, l ++ [UInt8.ofNat (m % 128 + 128)], u3) _ ⟨by
        simp only
        rw [bytesV_app, List.length_append]; exact hr3, fun b e => by
        rcases hu3 with h1 | h1
        · exact hf b (h1 ▸ e)
        · rw [h1] at e; cases e; omega, (hg.trans hn2.grow).then hm3 (fun b hb e => by have := hf b e; omega), by simp only; omega, by simp only; omega, by simp only; rw [List.append_assoc, ← hst, putB_hi h128]; rfl, by
        simp only
        rw [List.length_append]
        have h1 : m / 128 * 128 ≤ m := Nat.div_mul_le_self m 128
        calc m / 128 * 128 ^ (l.length + 1) = m / 128 * 128 * 128 ^ l.length := by rw [Nat.pow_succ, Nat.mul_assoc, Nat.mul_comm 128]
          _ ≤ m * 128 ^ l.length := Nat.mul_le_mul_right _ h1
          _ ≤ n := hpw⟩ (by simp only; omega)) ⟨rfl, rfl, trivial⟩
  · have h128 : m < 128 := by omega
    refine RK.exit rfl ?_
    refine RK.seq ?_
    refine RK.region ?_
    iterate 2 refine RL.p rfl rfl ?_
    refine RL.q (.free rfl) rfl rfl (Yld.convI Tryz.underlying66 Tryz.underlying5 rfl) ?_
    refine RL.re (d := 16) rfl rfl (congrArg (Value.int .u8) (lo_byte h128)) ?_
    refine RL.op (.free rfl) rfl rfl (Does.slice1 u151 i5 rfl rfl rfl rfl rfl) ?_
    rintro _ w2 ⟨b2, rfl, hn2⟩
    refine RL.op (.free rfl) rfl rfl (Does.append u151 i5 rfl rfl rfl rfl rfl (hr.mod hn2.grow (fun _ _ h => h)) (Sl.new hn2 1 1 rfl (by omega) (fun h => h)) (rfl) (by omega)) ?_
    rintro u3 w3 ⟨hr3, hm3, hu3⟩
    have hs2 := hn2.grow.size
    have hs0 := hg.size
    refine RL.p rfl rfl ?_
    refine RL.done ?_
    refine RK.ret_of Tryz.func237 (res1 rfl rfl) ?_ _
    exact ⟨_, rfl, by
        rw [← hst, putB_lo h128, bytesV_app, List.length_append]; exact hr3, fun b e => by
        rcases hu3 with h1 | h1
        · exact hf b (h1 ▸ e)
        · rw [h1] at e; cases e; omega, (hg.trans hn2.grow).then hm3 (fun b hb e => by have := hf b e; omega)⟩
theorem putB_len (n : Nat) (hn : n < 18446744073709551616) : (putB n).length ≤ 20 := by
  have key : ∀ (k n : Nat), n < 128 ^ k → (putB n).length ≤ k + 1 := by
    intro k
    induction k with
    | zero => intro n h; rw [putB_lo (by omega)]; simp
    | succ k ih =>
      intro n h
      by_cases h1 : n < 128
      · rw [putB_lo h1]; simp
      · rw [putB_hi h1, List.length_cons]
        have := ih (n / 128) (Nat.div_lt_of_lt_mul (by rw [Nat.pow_succ] at h; rw [Nat.mul_comm]; exact h))
        omega
  have := key 10 n (Nat.lt_trans hn (by decide))
  omega
theorem putT_ok (s : ByteArray) (hs : s.size ≤ 100000000) (w : World) : Fx Tryz.prog 197 [.string s] w (fun u w' => Row w' 5 1 u (putT s).length (bytesV (putT s)) ∧ Fresh w.heap.size u ∧ Grow w w') := by
  refine enter Tryz.func197 rfl rfl rfl _ (Pick.sub (l := [0]) (.cons rfl .nil)) ?_
  refine RK.seq ?_
  refine RK.region ?_
  refine RL.p rfl rfl ?_
  refine RL.done ?_
  refine RK.seq ?_
  refine RK.region ?_
  refine RL.p rfl rfl ?_
  refine RL.q (.free rfl) rfl rfl (Yld.lenStr u9 rfl) ?_
  refine RL.q (.free rfl) rfl rfl (Yld.convI Tryz.underlying3 Tryz.underlying66 rfl) ?_
  refine RL.re (d := 5) rfl rfl (congrArg (Value.int .u64) (wrap_u64 (x := s.size) (by omega))) ?_
  refine RL.op (.free rfl) rfl rfl (Does.call rfl e237 (vput_ok s.size (by omega) _)) ?_
  rintro u1 w1 ⟨hr1, hf1, hg1⟩
  have hpl := putB_len s.size (by omega)
  refine RL.p rfl rfl ?_
  refine RL.op (.free rfl) rfl rfl (Does.appendStr u151 Tryz.underlying9 i5 rfl rfl hr1 hf1 hg1.size (by omega)) ?_
  rintro u2 w2 ⟨hr2, hf2, hm2⟩
  refine RL.p rfl rfl ?_
  refine RL.done ?_
  refine RK.ret_of Tryz.func197 (res1 rfl rfl) ?_ _
  exact ⟨_, rfl, by
      unfold putT
      rw [bytesV_app, List.length_append, show s.data.toList.length = s.size from Array.length_toList]; exact hr2, hf2, hg1.then hm2 (fun b hb e => by have := hf1 b e; omega)⟩
theorem keyB_snoc {es : List ByteArray} {k : Nat} {x : ByteArray} (hx : es[k]? = some x) (ls : List Lab) : keyB (es.take (k + 1)) ls = keyB (es.take k) ls ++ putT (getL ls x) := by
  have hk := (List.getElem?_eq_some_iff.1 hx).1
  unfold keyB
  rw [List.take_succ_eq_append_getElem hk, (List.getElem?_eq_some_iff.1 hx).2, List.flatMap_append]
  simp
theorem putT_len {ls : List Lab} (hz : ∀ x ∈ ls, x.value.size ≤ 100000) (x : ByteArray) : (putT (getL ls x)).length ≤ 100020 := by
  have h1 := getL_size hz x
  have h2 := putB_len (getL ls x).size (by omega)
  unfold putT
  rw [List.length_append, show (getL ls x).data.toList.length = (getL ls x).size from Array.length_toList]
  omega
theorem keyB_len {ls : List Lab} (hz : ∀ x ∈ ls, x.value.size ≤ 100000) : ∀ es : List ByteArray, (keyB es ls).length ≤ 100020 * es.length
  | [] => by simp [keyB]
  | x :: es => by
    have h1 := keyB_len hz es
    have h2 := putT_len hz x
    unfold keyB at h1 ⊢
    rw [List.flatMap_cons, List.length_append, List.length_cons]
    omega
def keyT (es : List ByteArray) (ls : List Lab) : ByteArray := ⟨(keyB es ls).toArray⟩
theorem keyT_iff (es : List ByteArray) (l1 l2 : List Lab) : keyT es l1 = keyT es l2 ↔ ∀ x ∈ es, getL l1 x = getL l2 x := by
  rw [← keyB_iff]
  unfold keyT
  constructor
  · intro h
    have := congrArg (fun b : ByteArray => b.data.toList) h
    simpa using this
  · intro h; rw [h]
theorem project_ok (M M' : Nat → Prop) (es : List ByteArray) (h4 : es.length ≤ 4) (ls : List Lab) (hz : ∀ x ∈ ls, x.value.size ≤ 100000) (vl ve : Value) (w : World) (hl : SlL M w vl ls) (he : Sl M' w ve 1 es.length (strsV es)) :
    Fx Tryz.prog 143 [vl, ve] w (fun u w' => u = .string (keyT es ls) ∧ Grow w w') := by
  obtain ⟨ade, ce, rfl⟩ := he.shape
  obtain ⟨adl, cl, hvl⟩ := hl.shape
  refine enter Tryz.func143 rfl rfl rfl _ (Pick.sub (l := [0, 1]) (.cons rfl (.cons rfl .nil))) ?_
  refine RK.seq ?_
  refine RK.region ?_
  refine RL.p rfl rfl ?_
  refine RL.done ?_
  refine RK.seq ?_
  refine RK.region ?_
  refine RL.p rfl rfl ?_
  refine RL.done ?_
  iterate 2 refine RK.seq ?_
  refine RK.region ?_
  refine RL.p rfl rfl ?_
  refine RL.q (.free rfl) rfl rfl (Yld.lenSl u28 rfl) ?_
  refine RL.p rfl rfl ?_
  refine RL.done ?_
  refine RK.block ?_
  refine RK.loop (fun s : Nat × Value => [(0, vl), (5, s.2), (8, .slice ade es.length ce), (9, .int .i64 (es.length : Int)), (10, .int .i64 (s.1 : Int))]) (fun s w' => Row w' 5 1 s.2 (keyB (es.take s.1) ls).length (bytesV (keyB (es.take s.1) ls)) ∧ Fresh w.heap.size s.2 ∧ Grow w w' ∧ s.1 ≤ es.length) (fun s => es.length - s.1) (0, .slice none 0 0) ⟨rfl, rfl, rfl, rfl, rfl, trivial⟩ ⟨by simpa [keyB, bytesV] using Row.nil _ _ _, fun b e => by simp [Value.ownBlock] at e, Mod.refl _ _, by simp⟩ (fun s w' hI ih => ?_)
  obtain ⟨k, u⟩ := s
  obtain ⟨hr, hf, hg, hk⟩ := hI
  simp only at hr hf hk
  refine RK.seq ?_
  refine RK.region ?_
  refine RL.p rfl rfl ?_
  refine RL.done ?_
  refine RK.seq ?_
  first | refine RK.condD rfl (fun h11 => ?_) (fun h11 => ?_) | refine RK.condN rfl (fun h11 => ?_) (fun h11 => ?_) | refine RK.cond rfl (fun h11 => ?_) (fun h11 => ?_)
  · obtain ⟨x, hx⟩ : ∃ x, es[k]? = some x := ⟨es[k]'(by omega), List.getElem?_eq_getElem (by omega)⟩
    obtain ⟨b2, o2, c', he1, _, _, hc1⟩ := (he.mod (Mod.any' hg)).elem1 (k := k) (u := .string x) (by simp [strsV, hx])
    cases he1
    refine RK.skip ?_
    refine RK.seq ?_
    refine RK.block ?_
    refine RK.seq ?_
    refine RK.region ?_
    refine RL.q (.free rfl) rfl rfl (Yld.indexAddrN u28 i9 rfl rfl (by omega)) ?_
    refine RL.q (.free rfl) rfl rfl (Yld.load p9 rfl (at1 (hc1 k (.string x) (by simp [strsV, hx])))) ?_
    refine RL.p rfl rfl ?_
    refine RL.done ?_
    refine RK.region ?_
    iterate 3 refine RL.p rfl rfl ?_
    refine RL.op (.free rfl) rfl rfl (Does.call rfl e198 (labelsGet_ok M ls vl x _ (hl.mod (Mod.any' hg)))) ?_
    rintro _ w2 ⟨rfl, hg2⟩
    have hsz := getL_size hz x
    refine RL.op (.free rfl) rfl rfl (Does.call rfl e197 (putT_ok (getL ls x) (by omega) _)) ?_
    rintro u3 w3 ⟨hr3, hf3, hg3⟩
    have hpl := putT_len hz x
    have hkl := keyB_len hz (es.take k)
    have hkl2 : (es.take k).length ≤ 4 := by simp; omega
    refine RL.op (.free rfl) rfl rfl (Does.append u151 i5 rfl rfl rfl rfl rfl (hr.mod (hg2.trans hg3) (fun _ _ h => h)) (Sl.own hr3 (fun _ _ h => h)) (bytesV_one _) (by omega)) ?_
    rintro u4 w4 ⟨hr4, hm4, hu4⟩
    have hs2 := hg2.size
    have hs3 := hg3.size
    have hs0 := hg.size
    refine RL.p rfl rfl ?_
    refine RL.done ?_
    refine RK.inBlock ?_
    refine RK.region ?_
    refine RL.p rfl rfl ?_
    refine RL.re (d := 20) rfl rfl (succ_i64 (by omega)) ?_
    refine RL.p rfl rfl ?_
    refine RL.done ?_
    exact RK.back (ih (k + 1, u4) _ ⟨by
        simp only
        rw [keyB_snoc hx, bytesV_app, List.length_append]; exact hr4, fun b e => by
        rcases hu4 with h1 | h1
        · exact hf b (h1 ▸ e)
        · rw [h1] at e; cases e; omega, (hg.trans (hg2.trans hg3)).then hm4 (fun b hb e => by have := hf b e; omega), by simp only; omega⟩ (by simp only; omega)) ⟨rfl, rfl, rfl, rfl, rfl, trivial⟩
  · rw [List.take_of_length_le (by omega)] at hr
    refine RK.exit rfl ?_
    refine RK.seq ?_
    refine RK.region ?_
    refine RL.p rfl rfl ?_
    refine RL.q (.free rfl) rfl rfl (Yld.bytesSl u151 Tryz.underlying5 Tryz.underlying9 rfl (fun w9 h9 => h9 ▸ Sl.own hr (fun _ _ h => h))) ?_
    refine RL.p rfl rfl ?_
    refine RL.done ?_
    refine RK.ret_of Tryz.func143 (res1 rfl rfl) ?_ _
    exact ⟨_, rfl, rfl, hg⟩
theorem ruleKey_ok (M M' : Nat → Prop) (r : Ru) (h4 : r.eq.length ≤ 4) (a : Al) (hz : ∀ x ∈ a.ls, x.value.size ≤ 100000) (w : World) (hr : r.Ok M w) (ha : SlL M' w a.v a.ls) : Fx Tryz.prog 76 [.agg (ruC r).toArray, .agg (alC a).toArray] w (fun u w' => u = .string (keyT r.eq a.ls) ∧ Grow w w') := by
  refine enter Tryz.func76 rfl rfl rfl _ (Pick.sub (l := [0, 1]) (.cons rfl (.cons rfl .nil))) ?_
  refine RK.seq ?_
  refine RK.region ?_
  refine RL.op (.free rfl) rfl rfl (Does.box rfl) ?_
  rintro _ w1 ⟨b1, rfl, hn1⟩
  refine RL.op (.free rfl) rfl rfl (Does.box rfl) ?_
  rintro _ w2 ⟨b2, rfl, hn2⟩
  have hB1 : Blk w2 b1 30 [r.sv, r.tv, .bool r.bd.all, .float .f64 r.bd.lo, .float .f64 r.bd.hi, r.ev] := hn1.blk.mod hn2.grow (fun h => h)
  have hB2 : Blk w2 b2 35 [.int .i64 a.id, a.v, .float .f64 a.val] := hn2.blk
  have hg2 := hn1.grow.trans hn2.grow
  refine RL.p rfl rfl ?_
  refine RL.done ?_
  refine RK.seq ?_
  refine RK.region ?_
  refine RL.q (.free rfl) rfl rfl (Yld.fieldAddr fo35_1 rfl) ?_
  refine RL.q (.free rfl) rfl rfl (Yld.load p33 rfl (at1 (hB2.cell rfl))) ?_
  refine RL.q (.free rfl) rfl rfl (Yld.fieldAddr fo30_3 rfl) ?_
  refine RL.q (.free rfl) rfl rfl (Yld.load p28 rfl (at1 (hB1.cell rfl))) ?_
  refine RL.op (.free rfl) rfl rfl (Does.call rfl e143 (project_ok M' M r.eq h4 a.ls hz _ _ _ (ha.mod (Mod.any' hg2)) (hr.e.mod (Mod.any' hg2)))) ?_
  rintro _ w3 ⟨rfl, hg3⟩
  refine RL.p rfl rfl ?_
  refine RL.done ?_
  refine RK.ret_of Tryz.func76 (res1 rfl rfl) ?_ _
  exact ⟨_, rfl, rfl, hg2.trans hg3⟩
end Go.Proofs.YthbjfhhiajihfaaGreat
set_option linter.unusedVariables false
set_option linter.unusedSimpArgs false
set_option maxHeartbeats 1000000
set_option maxRecDepth 100000
namespace Go.Proofs.YthbjfhhiajihfaaGreat
open Go Go.X Go.Rex
noncomputable def sourceS (r : Ru) (ls : List Lab) (val : Nat) : Bool := (worksRu r && r.src.all fun m => holdsM m ls) && inBd r.bd val
theorem isRu_le {r : Ru} (h : isRu r = true) : r.eq.length ≤ 4 := by
  unfold isRu at h
  simp only [Bool.and_eq_true, Bool.not_eq_true', decide_eq_false_iff_not] at h
  omega
structure AlOk (M : Nat → Prop) (w : World) (a : Al) : Prop where
  l : SlL M w a.v a.ls
  z : ∀ x ∈ a.ls, x.value.size ≤ 100000
theorem AlOk.mod {M : Nat → Prop} {w w' : World} {a : Al} (h : AlOk M w a) (hm : Mod M w w') : AlOk M w' a := ⟨h.l.mod hm, h.z⟩
theorem source_ok (M M' : Nat → Prop) (r : Ru) (a : Al) (w : World) (hr : r.Ok M w) (ha : AlOk M' w a) : Fx Tryz.prog 75 [.agg (ruC r).toArray, .agg (alC a).toArray] w (fun u w' => u = .bool (sourceS r a.ls a.val) ∧ Grow w w') := by
  refine enter Tryz.func75 rfl rfl rfl _ (Pick.sub (l := [0, 1]) (.cons rfl (.cons rfl .nil))) ?_
  refine RK.seq ?_
  refine RK.region ?_
  refine RL.op (.free rfl) rfl rfl (Does.box rfl) ?_
  rintro _ w1 ⟨b1, rfl, hn1⟩
  refine RL.op (.free rfl) rfl rfl (Does.box rfl) ?_
  rintro _ w2 ⟨b2, rfl, hn2⟩
  have hB1 : Blk w2 b1 30 (ruC r) := hn1.blk.mod hn2.grow (fun h => h)
  have hB2 : Blk w2 b2 35 (alC a) := hn2.blk
  have hg2 := hn1.grow.trans hn2.grow
  refine RL.p rfl rfl ?_
  refine RL.done ?_
  refine RK.seq ?_
  refine RK.region ?_
  refine RL.q (.free rfl) rfl rfl (Yld.loadN (cs := ruC r) a30 rfl (atN (blk0' hB1))) ?_
  refine RL.op (.free rfl) rfl rfl (Does.call rfl e142 (works_ok M r _ (hr.mod (Mod.any' hg2)))) ?_
  rintro _ w3 ⟨rfl, hg3⟩
  have hg03 := hg2.trans hg3
  refine RL.p rfl rfl ?_
  first | refine RL.splitD (d := 7) rfl rfl (fun h6 => ?_) (fun h6 => ?_) | refine RL.splitN (d := 7) rfl rfl (fun h6 => ?_) (fun h6 => ?_) | refine RL.split (d := 7) rfl rfl (fun h6 => ?_) (fun h6 => ?_)
  · refine RL.q (.yes rfl rfl rfl) rfl rfl (Yld.fieldAddr fo30_0 rfl) ?_
    refine RL.q (.yes rfl rfl rfl) rfl rfl (Yld.load p24 rfl (at1 ((hB1.mod hg3 (fun h => h)).cell rfl))) ?_
    refine RL.q (.yes rfl rfl rfl) rfl rfl (Yld.fieldAddr fo35_1 rfl) ?_
    refine RL.q (.yes rfl rfl rfl) rfl rfl (Yld.load p33 rfl (at1 ((hB2.mod hg3 (fun h => h)).cell rfl))) ?_
    refine RL.op (.yes rfl rfl rfl) rfl rfl (Does.call rfl e104 (allM_ok holdsM r.src (fun m _ => matchHolds_ok m) M' M a.ls ha.z _ _ _ (hr.s.mod (Mod.any' hg03)) (ha.l.mod (Mod.any' hg03)))) ?_
    rintro _ w4 ⟨rfl, hg4⟩
    have hg34 := hg3.trans hg4
    iterate 2 refine RL.p rfl rfl ?_
    first | refine RL.splitD (d := 14) rfl rfl (fun h12 => ?_) (fun h12 => ?_) | refine RL.splitN (d := 14) rfl rfl (fun h12 => ?_) (fun h12 => ?_) | refine RL.split (d := 14) rfl rfl (fun h12 => ?_) (fun h12 => ?_)
    · refine RL.q (.yes rfl rfl rfl) rfl rfl (Yld.fieldAddr fo30_2 rfl) ?_
      refine RL.q (.yes rfl rfl rfl) rfl rfl (Yld.loadN (cs := bdC r.bd) a27 rfl (atN (fldN (hB1.mod hg34 (fun h => h)) 2 3))) ?_
      refine RL.q (.yes rfl rfl rfl) rfl rfl (Yld.fieldAddr fo35_2 rfl) ?_
      refine RL.q (.yes rfl rfl rfl) rfl rfl (Yld.load p25 rfl (at1 ((hB2.mod hg34 (fun h => h)).cell rfl))) ?_
      refine RL.op (.yes rfl rfl rfl) rfl rfl (Does.call rfl e105 (in_band_ok r.bd a.val _)) ?_
      rintro _ w5 ⟨rfl, hg5⟩
      iterate 2 refine RL.p rfl rfl ?_
      refine RL.done ?_
      refine RK.ret_of Tryz.func75 (res1 rfl rfl) ?_ _
      exact ⟨_, rfl, by unfold sourceS; rw [h6, h12]; rfl, (hg03.trans hg4).trans hg5⟩
    · iterate 5 refine RL.no (.no rfl rfl rfl rfl) rfl rfl ?_
      iterate 2 refine RL.p rfl rfl ?_
      refine RL.done ?_
      refine RK.ret_of Tryz.func75 (res1 rfl rfl) ?_ _
      exact ⟨_, rfl, by unfold sourceS; rw [h6, show (r.src.all fun m => holdsM m a.ls) = false by simpa only [Bool.not_eq_true] using h12]; rfl, hg03.trans hg4⟩
  · iterate 5 refine RL.no (.no rfl rfl rfl rfl) rfl rfl ?_
    iterate 2 refine RL.p rfl rfl ?_
    iterate 5 refine RL.no (.no rfl rfl rfl rfl) rfl rfl ?_
    iterate 2 refine RL.p rfl rfl ?_
    refine RL.done ?_
    refine RK.ret_of Tryz.func75 (res1 rfl rfl) ?_ _
    exact ⟨_, rfl, by unfold sourceS; rw [show worksRu r = false by simpa using h6]; rfl, hg03⟩
end Go.Proofs.YthbjfhhiajihfaaGreat
set_option linter.unusedVariables false
set_option linter.unusedSimpArgs false
namespace Go.X
open Go Go.RowKit
section
variable {P : Program} {n : Nat} {e : Env} {w : World} {κ : Type} {enc : κ → Value}
end
end Go.X
set_option linter.unusedVariables false
set_option linter.unusedSimpArgs false
set_option maxHeartbeats 1000000
set_option maxRecDepth 100000
namespace Go.Proofs.YthbjfhhiajihfaaGreat
open Go Go.X Go.Sort
abbrev strs (xs : List ByteArray) : List Value := xs.map Value.string
theorem allOne_strs (xs : List ByteArray) : ((strs xs).all fun x => x.oneCell') = true := by rw [List.all_eq_true]; intro u hu; obtain ⟨x, _, rfl⟩ := List.mem_map.1 hu; rfl
end Go.Proofs.YthbjfhhiajihfaaGreat
set_option linter.unusedVariables false
set_option linter.unusedSimpArgs false
set_option maxHeartbeats 1000000
set_option maxRecDepth 100000
namespace Go.Proofs.YthbjfhhiajihfaaGreat
open Go Go.X
end Go.Proofs.YthbjfhhiajihfaaGreat
set_option linter.unusedVariables false
set_option linter.unusedSimpArgs false
set_option maxHeartbeats 2000000
set_option maxRecDepth 100000
namespace Go.Proofs.YthbjfhhiajihfaaGreat
open Go Go.X
end Go.Proofs.YthbjfhhiajihfaaGreat
set_option linter.unusedVariables false
set_option linter.unusedSimpArgs false
set_option maxHeartbeats 400000
namespace Go.Proofs.YthbjfhhiajihfaaGreat
open Go Go.X
abbrev CRows := List (ByteArray × List Int)
abbrev CKeys := List (Int × ByteArray)
def addC (rows : CRows) (k : ByteArray) (id : Int) : CRows := putM rows k (mkRow ((lookM rows k).getD [] ++ [id]))
def cutC (rows : CRows) (k : ByteArray) (id : Int) : CRows := if cutRow ((lookM rows k).getD []) id = [] then cutM (putM rows k (cutRow ((lookM rows k).getD []) id)) k else putM rows k (cutRow ((lookM rows k).getD []) id)
def dropC (c : CRows × CKeys) (id : Int) : CRows × CKeys := match lookM c.2 id with
  | none => c
  | some k => (cutC c.1 k id, cutM c.2 id)
def putC (c : CRows × CKeys) (id : Int) (s : Bool) (k : ByteArray) : CRows × CKeys := if s = true then (addC (dropC c id).1 k id, putM (dropC c id).2 id k) else dropC c id
structure CI (c : CRows × CKeys) : Prop where
  nk : (c.2.map (·.1)).Nodup
  nr : (c.1.map (·.1)).Nodup
  row : ∀ t ∈ c.1, Ris t.2 ∧ t.2 ≠ []
  mem : ∀ k id, id ∈ (lookM c.1 k).getD [] ↔ lookM c.2 id = some k
theorem CI.nil : CI ([], []) := ⟨by simp, by simp, by simp, by simp [lookM, placeM]⟩
theorem lookC_add (rows : CRows) (k k' : ByteArray) (id j : Int) : j ∈ (lookM (addC rows k id) k').getD [] ↔ j ∈ (lookM rows k').getD [] ∨ j = id ∧ k' = k := by
  unfold addC
  rw [lookM_putM]
  by_cases hk : k' = k
  · subst hk; simp [mem_mkRow]
  · rw [if_neg hk]; simp [hk]
theorem lookC_cut {rows : CRows} (h : (rows.map (·.1)).Nodup) (k k' : ByteArray) (id j : Int) : j ∈ (lookM (cutC rows k id) k').getD [] ↔ j ∈ (lookM rows k').getD [] ∧ ¬ (j = id ∧ k' = k) := by
  have hp := putM_nodup (k := k) (v := cutRow ((lookM rows k).getD []) id) h
  have e : (lookM (cutC rows k id) k').getD [] = if k' = k then cutRow ((lookM rows k).getD []) id else (lookM rows k').getD [] := by
    unfold cutC
    split
    · rename_i h0
      rw [lookM_cutM hp, lookM_putM]
      split
      · simp [h0]
      · rfl
    · rw [lookM_putM]
      split <;> rfl
  rw [e]
  by_cases hk : k' = k
  · subst hk; simp [mem_cutRow]
  · rw [if_neg hk]; simp [hk]
theorem addC_rows {rows : CRows} (hr : ∀ t ∈ rows, Ris t.2 ∧ t.2 ≠ []) (k : ByteArray) (id : Int) : ∀ t ∈ addC rows k id, Ris t.2 ∧ t.2 ≠ [] := fun t ht => by
  rcases mem_putM ht with h1 | rfl
  · exact hr t h1
  · exact ⟨mkRow_ris _, mkRow_ne (x := id) (by simp)⟩
theorem cutC_rows {rows : CRows} (hn : (rows.map (·.1)).Nodup) (hr : ∀ t ∈ rows, Ris t.2 ∧ t.2 ≠ []) (k : ByteArray) (id : Int) : ((cutC rows k id).map (·.1)).Nodup ∧ ∀ t ∈ cutC rows k id, Ris t.2 ∧ t.2 ≠ [] := by
  have hp := putM_nodup (k := k) (v := cutRow ((lookM rows k).getD []) id) hn
  unfold cutC
  split
  · refine ⟨cutM_nodup hp, fun t ht => ?_⟩
    obtain ⟨h1, h2⟩ := (mem_cutM hp).1 ht
    rcases mem_putM h1 with h3 | rfl
    · exact hr t h3
    · exact absurd rfl h2
  · rename_i hne
    refine ⟨hp, fun t ht => ?_⟩
    rcases mem_putM ht with h3 | rfl
    · exact hr t h3
    · exact ⟨cutRow_ris _ _, hne⟩
theorem dropC_look {c : CRows × CKeys} (h : CI c) (id j : Int) : lookM (dropC c id).2 j = if j = id then none else lookM c.2 j := by
  unfold dropC
  cases hk : lookM c.2 id with
  | none =>
    simp only
    split
    · rename_i e; rw [e]; exact hk
    · rfl
  | some k => exact lookM_cutM h.nk
theorem CI.drop {c : CRows × CKeys} (h : CI c) (id : Int) : CI (dropC c id) := by
  have hl := dropC_look h id
  unfold dropC at hl ⊢
  cases hk : lookM c.2 id with
  | none => exact h
  | some k =>
    rw [hk] at hl
    obtain ⟨h1, h2⟩ := cutC_rows h.nr h.row k id
    refine ⟨cutM_nodup h.nk, h1, h2, fun k' j => ?_⟩
    have h3 := hl j
    simp only at h3 ⊢
    rw [lookC_cut h.nr, h.mem, h3]
    by_cases e : j = id
    · subst e
      rw [hk]
      simp only [true_and, if_true, Option.some.injEq, reduceCtorEq, iff_false]
      intro hh
      exact hh.2 hh.1.symm
    · simp [e]
theorem putC_look {c : CRows × CKeys} (h : CI c) (id : Int) (s : Bool) (k : ByteArray) (j : Int) : lookM (putC c id s k).2 j = if j = id then (if s = true then some k else none) else lookM c.2 j := by
  unfold putC
  cases s with
  | true =>
    simp only [if_true]
    rw [lookM_putM, dropC_look h]
    by_cases e : j = id <;> simp [e]
  | false =>
    simp only [Bool.false_eq_true, if_false]
    rw [dropC_look h]
theorem CI.put {c : CRows × CKeys} (h : CI c) (id : Int) (s : Bool) (k : ByteArray) : CI (putC c id s k) := by
  have hd := h.drop id
  have hl := putC_look h id s k
  unfold putC at hl ⊢
  cases s with
  | false => exact hd
  | true =>
    simp only [if_true] at hl ⊢
    refine ⟨putM_nodup hd.nk, putM_nodup hd.nr, addC_rows hd.row _ _, fun k' j => ?_⟩
    have h3 := hl j
    simp only at h3 ⊢
    rw [lookC_add, hd.mem, h3, dropC_look h]
    by_cases e : j = id
    · subst e; simp [eq_comm]
    · simp [e]
def CB (c : CRows × CKeys) (B : Nat) : Prop := (∀ t ∈ c.1, t.2.length ≤ B) ∧ c.2.length ≤ B
theorem CB.nil : CB ([], []) 0 := ⟨by simp, by simp⟩
theorem CB.mono {c : CRows × CKeys} {B B' : Nat} (h : CB c B) (hB : B ≤ B') : CB c B' := ⟨fun t ht => Nat.le_trans (h.1 t ht) hB, Nat.le_trans h.2 hB⟩
theorem CB.look {c : CRows × CKeys} {B : Nat} (h : CB c B) (k : ByteArray) : ((lookM c.1 k).getD []).length ≤ B := by
  cases hl : lookM c.1 k with
  | none => simp
  | some a => exact h.1 _ (lookM_mem hl)
theorem cutM_len {κ α : Type} [DecidableEq κ] (k : κ) (l : List (κ × α)) : (cutM l k).length ≤ l.length := (cutM_sub k l).length_le
theorem CB.drop {c : CRows × CKeys} {B : Nat} (h : CB c B) (id : Int) : CB (dropC c id) B := by
  unfold dropC
  cases hk : lookM c.2 id with
  | none => exact h
  | some k =>
    refine ⟨fun t ht => ?_, Nat.le_trans (cutM_len _ _) h.2⟩
    have hp : ∀ t ∈ putM c.1 k (cutRow ((lookM c.1 k).getD []) id), t.2.length ≤ B := fun t ht => by
      rcases mem_putM ht with h1 | rfl
      · exact h.1 t h1
      · exact Nat.le_trans (cutRow_le _ _) (h.look k)
    simp only [cutC] at ht
    split at ht
    · exact hp t (mem_cutM' ht)
    · exact hp t ht
theorem CB.put {c : CRows × CKeys} {B : Nat} (h : CB c B) (id : Int) (s : Bool) (k : ByteArray) : CB (putC c id s k) (B + 1) := by
  have hd := h.drop id
  unfold putC
  cases s with
  | false => exact ⟨fun t ht => Nat.le_succ_of_le (hd.1 t ht), Nat.le_succ_of_le hd.2⟩
  | true =>
    simp only [if_true]
    refine ⟨fun t ht => ?_, ?_⟩
    · rcases mem_putM ht with h1 | rfl
      · exact Nat.le_succ_of_le (hd.1 t h1)
      · have h1 := mkRow_le ((lookM (dropC c id).1 k).getD [] ++ [id])
        have h2 := hd.look k
        simp at h1 ⊢
        omega
    · have h2 := hd.2
      rw [putM_len]
      split <;> omega
end Go.Proofs.YthbjfhhiajihfaaGreat
set_option linter.unusedVariables false
set_option linter.unusedSimpArgs false
set_option maxHeartbeats 400000
namespace Go.Proofs.YthbjfhhiajihfaaGreat
open Go Go.X
section
variable {α : Type} (idf : α → Int) (src : α → Bool) (key : α → ByteArray)
end
section
variable {α : Type} {idf : α → Int} {src : α → Bool} {key : α → ByteArray} {c : CRows × CKeys} {all : List α}
def rowC (c : CRows × CKeys) (k : ByteArray) : List Int := mkRow ((lookM c.1 k).getD [])
theorem rowC_ris (c : CRows × CKeys) (k : ByteArray) : Ris (rowC c k) := mkRow_ris _
theorem CI.mem_row (h : CI c) (k : ByteArray) (j : Int) : j ∈ rowC c k ↔ lookM c.2 j = some k := by unfold rowC; rw [mem_mkRow, h.mem]
theorem keys_nil {l : CKeys} (h : ∀ j k, lookM l j ≠ some k) : l = [] := by
  cases l with
  | nil => rfl
  | cons t l => exact absurd (by rw [lookM_cons, if_pos rfl]) (h t.1 t.2)
theorem CI.empty (h : CI c) (h2 : c.2 = []) : c.1 = [] := by
  cases hc : c.1 with
  | nil => rfl
  | cons t l =>
    have ht : t ∈ c.1 := by rw [hc]; simp
    obtain ⟨_, hne⟩ := h.row t ht
    obtain ⟨j, hj⟩ := List.exists_mem_of_ne_nil _ hne
    have hl : lookM c.1 t.1 = some t.2 := (lookM_iff h.nr).2 ht
    have := (h.mem t.1 j).1 (by rw [hl]; exact hj)
    rw [h2] at this
    simp [lookM, placeM] at this
end
end Go.Proofs.YthbjfhhiajihfaaGreat
set_option linter.unusedVariables false
set_option linter.unusedSimpArgs false
set_option maxHeartbeats 1000000
set_option maxRecDepth 100000
namespace Go.Proofs.YthbjfhhiajihfaaGreat
open Go Go.X Go.Rex
theorem cloneM_ok (M : Nat → Prop) (xs : List Mt) (v : Value) (w : World) (hv : SlM M w v xs) (hb : xs.length ≤ 1000000) :
    Fx Tryz.prog 101 [v] w (fun u w' => Row w' 135 3 u xs.length (xs.flatMap mtC) ∧ Fresh w.heap.size u ∧ Grow w w') := by
  obtain ⟨ad, c, b, o, rfl, hf⟩ := hv.open
  refine enter Tryz.func101 rfl rfl rfl _ (Pick.sub (l := [0]) (.cons rfl .nil)) ?_
  refine RK.seq ?_
  refine RK.region ?_
  refine RL.p rfl rfl ?_
  refine RL.done ?_
  iterate 2 refine RK.seq ?_
  refine RK.region ?_
  refine RL.p rfl rfl ?_
  refine RL.q (.free rfl) rfl rfl (Yld.eqNil u24 rfl rfl) ?_
  refine RL.done ?_
  first | refine RK.condD rfl (fun h4 => ?_) (fun h4 => ?_) | refine RK.condN rfl (fun h4 => ?_) (fun h4 => ?_) | refine RK.cond rfl (fun h4 => ?_) (fun h4 => ?_)
  · refine RK.seq ?_
    refine RK.region ?_
    refine RL.p rfl rfl ?_
    refine RL.done ?_
    refine RK.ret_of Tryz.func101 (res1 rfl rfl) ?_ _
    exact ⟨_, rfl, by cases ad with | none => (have h0 : xs.length = 0 := by (rcases Nat.eq_zero_or_pos xs.length with h | h; exact h; exact absurd (hf h).1 (by simp))); have : xs = [] := List.eq_nil_of_length_eq_zero h0; subst this; exact ⟨Row.nil _ _ _, fun b hb => by simp [Value.ownBlock] at hb, Mod.refl _ _⟩ | some a => simp at h4⟩
  · refine RK.skip ?_
    refine RK.seq ?_
    refine RK.region ?_
    refine RL.op (.free rfl) rfl rfl (Does.slice0 u24 i135) ?_
    rintro _ w1 ⟨b1, rfl, hn1⟩
    refine RL.p rfl rfl ?_
    refine RL.op (.free rfl) rfl rfl (Does.append u24 i135 rfl rfl rfl rfl rfl (Row.new hn1 3 0 rfl (by omega)) ((hv.mod (Mod.any' hn1.grow)).noM) (allOne_mts xs) (by omega)) ?_
    rintro u w2 ⟨hr, hm, hu⟩
    refine RL.p rfl rfl ?_
    refine RL.done ?_
    refine RK.ret_of Tryz.func101 (res1 rfl rfl) ?_ _
    exact ⟨_, rfl, by simpa using hr, fun b hb => by rcases hu with hu | hu <;> rw [hu] at hb <;> simp [Value.ownBlock] at hb <;> (have := hn1.at_; have := hn1.size; omega), hn1.grow.then hm (fun x hx e => by simp [Value.ownBlock] at e; have := hn1.at_; omega)⟩
theorem cloneS_ok (M : Nat → Prop) (xs : List ByteArray) (v : Value) (w : World) (hv : Sl M w v 1 xs.length (strsV xs)) (hb : xs.length ≤ 1000000) :
    Fx Tryz.prog 141 [v] w (fun u w' => Row w' 9 1 u xs.length (strsV xs) ∧ Fresh w.heap.size u ∧ Grow w w') := by
  obtain ⟨ad, c, b, o, rfl, hf⟩ := hv.open
  refine enter Tryz.func141 rfl rfl rfl _ (Pick.sub (l := [0]) (.cons rfl .nil)) ?_
  refine RK.seq ?_
  refine RK.region ?_
  refine RL.p rfl rfl ?_
  refine RL.done ?_
  iterate 2 refine RK.seq ?_
  refine RK.region ?_
  refine RL.p rfl rfl ?_
  refine RL.q (.free rfl) rfl rfl (Yld.eqNil u28 rfl rfl) ?_
  refine RL.done ?_
  first | refine RK.condD rfl (fun h4 => ?_) (fun h4 => ?_) | refine RK.condN rfl (fun h4 => ?_) (fun h4 => ?_) | refine RK.cond rfl (fun h4 => ?_) (fun h4 => ?_)
  · refine RK.seq ?_
    refine RK.region ?_
    refine RL.p rfl rfl ?_
    refine RL.done ?_
    refine RK.ret_of Tryz.func141 (res1 rfl rfl) ?_ _
    exact ⟨_, rfl, by cases ad with | none => (have h0 : xs.length = 0 := by (rcases Nat.eq_zero_or_pos xs.length with h | h; exact h; exact absurd (hf h).1 (by simp))); have : xs = [] := List.eq_nil_of_length_eq_zero h0; subst this; exact ⟨Row.nil _ _ _, fun b hb => by simp [Value.ownBlock] at hb, Mod.refl _ _⟩ | some a => simp at h4⟩
  · refine RK.skip ?_
    refine RK.seq ?_
    refine RK.region ?_
    refine RL.op (.free rfl) rfl rfl (Does.slice0 u28 i9) ?_
    rintro _ w1 ⟨b1, rfl, hn1⟩
    refine RL.p rfl rfl ?_
    refine RL.op (.free rfl) rfl rfl (Does.append u28 i9 rfl rfl rfl rfl rfl (Row.new hn1 1 0 rfl (by omega)) ((hv.mod (Mod.any' hn1.grow)).noM) (allOne_strs xs) (by omega)) ?_
    rintro u w2 ⟨hr, hm, hu⟩
    refine RL.p rfl rfl ?_
    refine RL.done ?_
    refine RK.ret_of Tryz.func141 (res1 rfl rfl) ?_ _
    exact ⟨_, rfl, by simpa using hr, fun b hb => by rcases hu with hu | hu <;> rw [hu] at hb <;> simp [Value.ownBlock] at hb <;> (have := hn1.at_; have := hn1.size; omega), hn1.grow.then hm (fun x hx e => by simp [Value.ownBlock] at e; have := hn1.at_; omega)⟩
def ruAt (r : Ru) (v1 v2 v3 : Value) : Ru := ⟨v1, v2, v3, r.src, r.tgt, r.bd, r.eq⟩
theorem Ru.Ok.pass' {M M' : Nat → Prop} {w w' : World} {r : Ru} (h : r.Ok M w) (hm : Mod M w w') (hM : ∀ b, M' b → M b ∨ w.heap.size ≤ b) : r.Ok M' w' := ⟨h.s.pass (by omega) hm hM, h.t.pass (by omega) hm hM, h.e.pass (by omega) hm hM⟩
structure Ru.Few (r : Ru) : Prop where
  s : r.src.length ≤ 1000000
  t : r.tgt.length ≤ 1000000
  e : r.eq.length ≤ 1000000
theorem blkL {w : World} {b t : Nat} {cs ds : List Value} (h : Blk w b t (cs ++ ds)) : ∀ (j : Nat) (u : Value), cs[j]? = some u → w.cell? ⟨b, 0 + j, none⟩ = some u := fun j u hj => by
  rw [Nat.zero_add]
  refine h.cell' ?_
  rw [List.getElem?_append_left (List.getElem?_eq_some_iff.1 hj).1]
  exact hj
theorem copyRu_ok (M : Nat → Prop) (r : Ru) (w : World) (hr : r.Ok M w) (hf : r.Few) : Fx Tryz.prog 74 [.agg (ruC r).toArray] w (fun u w' => ∃ v1 v2 v3, u = .agg (ruC (ruAt r v1 v2 v3)).toArray ∧ (∀ M', (∀ b, b < w'.heap.size → M' b → b < w.heap.size) → (ruAt r v1 v2 v3).Ok M' w') ∧ Grow w w') := by
  obtain ⟨a1, c1, hv1⟩ := hr.s.shape
  obtain ⟨a2, c2, hv2⟩ := hr.t.shape
  obtain ⟨a3, c3, hv3⟩ := hr.e.shape
  refine enter Tryz.func74 rfl rfl rfl _ (Pick.sub (l := [0]) (.cons rfl .nil)) ?_
  refine RK.seq ?_
  refine RK.region ?_
  refine RL.op (.free rfl) rfl rfl (Does.box rfl) ?_
  rintro _ w1 ⟨b1, rfl, hn1⟩
  refine RL.op (.free rfl) rfl rfl (Does.alloc i30) ?_
  rintro _ w2 ⟨b2, rfl, hn2⟩
  have hB1 := hn1.blk.mod hn2.grow (fun h => h)
  have hg02 := hn1.grow.trans hn2.grow
  have hs1 := hn1.at_
  have hs2 := hn2.at_
  have hz1 := hn1.size
  have hz2 := hn2.size
  refine RL.done ?_
  refine RK.seq ?_
  refine RK.drawM No [(0, false), (1, false), (3, false), (4, false), (6, false), (7, false), (8, false), (9, false), (2, true), (5, true), (10, true), (11, false), (12, true)] [12] mixed (by kernel_rfl) ?_
  refine DL.qf rfl (.free rfl) rfl rfl (Yld.fieldAddr fo30_0 rfl) ?_
  refine DL.q rfl (.free rfl) rfl rfl rfl (Yld.load p24 rfl (atM (hB1.cell rfl) (fun h => h))) (Mod.drew _ _) ?_
  refine DL.qf rfl (.free rfl) rfl rfl (Yld.fieldAddr fo30_1 rfl) ?_
  refine DL.q rfl (.free rfl) rfl rfl rfl (Yld.load p24 rfl (atM (hB1.cell rfl) (fun h => h))) (Mod.drew _ _) ?_
  refine DL.qf rfl (.free rfl) rfl rfl (Yld.fieldAddr fo30_2 rfl) ?_
  refine DL.q rfl (.free rfl) rfl rfl rfl (Yld.loadN (cs := bdC r.bd) a27 rfl (atNM (fldN hB1 2 3) (fun h => h))) (Mod.drew _ _) ?_
  refine DL.qf rfl (.free rfl) rfl rfl (Yld.fieldAddr fo30_3 rfl) ?_
  refine DL.q rfl (.free rfl) rfl rfl rfl (Yld.load p28 rfl (atM (hB1.cell rfl) (fun h => h))) (Mod.drew _ _) ?_
  refine DL.op rfl (.free rfl) rfl rfl (Does.call rfl e101 (cloneM_ok M r.src _ _ ((hr.s.mod (Mod.any' hg02)).mod (Mod.drew _ _)) hf.s)) ?_
  rintro u3 w3 ⟨hr3, hf3, hg3⟩
  have hd3 := (Mod.drew No w2).trans hg3
  refine ⟨hd3, ?_⟩
  refine DL.op rfl (.free rfl) rfl rfl (Does.call rfl e101 (cloneM_ok M r.tgt _ _ ((hr.t.mod (Mod.any' hg02)).mod (Mod.any' hd3)) hf.t)) ?_
  rintro u4 w4 ⟨hr4, hf4, hg4⟩
  have hd4 := hd3.trans hg4
  refine ⟨hd4, ?_⟩
  refine DL.op rfl (.free rfl) rfl rfl (Does.call rfl e141 (cloneS_ok M r.eq _ _ ((hr.e.mod (Mod.any' hg02)).mod (Mod.any' hd4)) hf.e)) ?_
  rintro u5 w5 ⟨hr5, hf5, hg5⟩
  have hd5 := hd4.trans hg5
  refine ⟨hd5, ?_⟩
  obtain ⟨ad3, e3, rfl⟩ := hr3.slice
  obtain ⟨ad4, e4, rfl⟩ := hr4.slice
  obtain ⟨ad5, e5, rfl⟩ := hr5.slice
  refine DL.qf rfl (.free rfl) rfl rfl (Yld.build (v := .agg (ruC (ruAt r (.slice ad3 r.src.length e3) (.slice ad4 r.tgt.length e4) (.slice ad5 r.eq.length e5))).toArray) rfl (fun w => by kernel_rfl)) ?_
  refine DL.opT rfl (.free rfl) rfl rfl (Does.storeN i30 rfl rfl rfl rfl (hn2.blk.mod hd5 (fun h => h)) (Nat.le_refl 6)) ?_
  rintro _ w6 ⟨hb6, hm6, _⟩
  have hz3 := hd3.size
  have hz4 := hg4.size
  have hz5 := hg5.size
  have hz6 := hm6.size
  have hlt3 := fun b e => hr3.lt (b := b) e
  have hlt4 := fun b e => hr4.lt (b := b) e
  have hlt5 := fun b e => hr5.lt (b := b) e
  have hbb : w.heap.size ≤ b2 := by omega
  have hno : ∀ (M' : Nat → Prop), (∀ b, b < w6.heap.size → M' b → b < w.heap.size) → ∀ b, w2.heap.size ≤ b → b < w6.heap.size → ¬ (M' b ∨ b = b2) := fun M' hM b h1 h2 h => by
      rcases h with h | h
      · have := hM b h2 h; omega
      · omega
  refine DL.done ?_
  refine RK.ret_of Tryz.func74 (resC (cs := ruC (ruAt r (.slice ad3 r.src.length e3) (.slice ad4 r.tgt.length e4) (.slice ad5 r.eq.length e5))) rfl rfl a30 hb6) ?_ _
  exact ⟨_, rfl, _, _, _, rfl, fun M' hM => ⟨((Sl.own (hr3.mod (hg4.trans hg5) (fun _ _ h => h)) (M := fun b => M' b ∨ b = b2) (fun b e h => hno M' hM b (by have h1 := hf3 b e; simp only [World.drew] at h1; omega) (by have := hlt3 b e; omega) h)).mod (hm6.mono (fun b _ e => .inr e))).off (by omega) (fun b _ e => .inl e), ((Sl.own (hr4.mod hg5 (fun _ _ h => h)) (M := fun b => M' b ∨ b = b2) (fun b e h => hno M' hM b (by have h1 := hf4 b e; omega) (by have := hlt4 b e; omega) h)).mod (hm6.mono (fun b _ e => .inr e))).off (by omega) (fun b _ e => .inl e), ((Sl.own hr5 (M := fun b => M' b ∨ b = b2) (fun b e h => hno M' hM b (by have h1 := hf5 b e; omega) (by have := hlt5 b e; omega) h)).mod (hm6.mono (fun b _ e => .inr e))).off (by omega) (fun b _ e => .inl e)⟩, (hg02.trans hd5).then hm6 (fun y hy e => by have e' : y = b2 := e; omega)⟩
structure CacheAt (M : Nat → Prop) (w : World) (p mr mk : Nat) (r : Ru) (c : CRows × CKeys) : Prop where
  blk : Blk w p 133 (ruC r ++ [.map (some mr), .map (some mk)])
  ne : mr ≠ mk
  ok : r.Ok M w
  rl : ∃ l : List (ByteArray × (List Int × Value)), l.map (fun t => (t.1, t.2.1)) = c.1 ∧ MapAt Value.string w mr (l.map fun t => (t.1, t.2.2)) ∧ ∀ t ∈ l, Sl M w t.2.2 1 t.2.1.length (ints t.2.1)
  kl : MapAt (Value.int .i64) w mk (c.2.map fun t => (t.1, Value.string t.2))
theorem CacheAt.mod {M M0 : Nat → Prop} {w w' : World} {p mr mk : Nat} {r : Ru} {c : CRows × CKeys} (h : CacheAt M w p mr mk r c) (hm : Mod M0 w w') (h0 : ∀ b, b < w.heap.size → M0 b → M b) (n1 : ¬ M0 p) (n2 : ¬ M0 mr) (n3 : ¬ M0 mk) : CacheAt M w' p mr mk r c := by
  obtain ⟨l, hl1, hl2, hl3⟩ := h.rl
  exact ⟨h.blk.mod hm n1, h.ne, h.ok.mod (hm.mono h0), ⟨l, hl1, hl2.mod hm n2, fun t ht => (hl3 t ht).mod (hm.mono h0)⟩, h.kl.mod hm n3⟩
theorem CacheAt.grow {M : Nat → Prop} {w w' : World} {p mr mk : Nat} {r : Ru} {c : CRows × CKeys} (h : CacheAt M w p mr mk r c) (hm : Grow w w') : CacheAt M w' p mr mk r c := h.mod hm (fun b _ e => e.elim) (fun h => h) (fun h => h) (fun h => h)
theorem cacheNew_ok (M0 : Nat → Prop) (r : Ru) (w : World) (hr : r.Ok M0 w) (hf : r.Few) : Fx Tryz.prog 18 [.agg (ruC r).toArray] w (fun u w' => ∃ p mr mk v1 v2 v3, u = pp p ∧ (w.heap.size ≤ p ∧ w.heap.size ≤ mr ∧ w.heap.size ≤ mk ∧ p < w'.heap.size) ∧ (∀ M, (∀ b, b < w'.heap.size → M b → b < w.heap.size ∨ b = mr ∨ b = mk) → CacheAt M w' p mr mk (ruAt r v1 v2 v3) ([], [])) ∧ Grow w w') := by
  obtain ⟨a1, c1, hv1⟩ := hr.s.shape
  refine enter Tryz.func18 rfl rfl rfl _ (Pick.sub (l := [0]) (.cons rfl .nil)) ?_
  refine RK.seq ?_
  refine RK.region ?_
  refine RL.op (.free rfl) rfl rfl (Does.box rfl) ?_
  rintro _ w1 ⟨b1, rfl, hn1⟩
  refine RL.p rfl rfl ?_
  refine RL.done ?_
  refine RK.seq ?_
  refine RK.region ?_
  refine RL.q (.free rfl) rfl rfl (Yld.loadN (cs := ruC r) a30 rfl (atN (blk0' hn1.blk))) ?_
  refine RL.op (.free rfl) rfl rfl (Does.call rfl e74 (copyRu_ok M0 r _ (hr.mod (Mod.any' hn1.grow)) hf)) ?_
  rintro _ w2 ⟨v1, v2, v3, rfl, hok, hg2⟩
  refine RL.op (.free rfl) rfl rfl (Does.makeMap Value.string) ?_
  rintro _ w3 ⟨mr, rfl, hmr, hm3, hg3, hs3⟩
  refine RL.op (.free rfl) rfl rfl (Does.makeMap (Value.int .i64)) ?_
  rintro _ w4 ⟨mk, rfl, hmk, hm4, hg4, hs4⟩
  refine RL.q (.free rfl) rfl rfl (Yld.build (v := .agg (ruC (ruAt r v1 v2 v3) ++ [Value.map (some mr), Value.map (some mk)]).toArray) rfl (fun w => by kernel_rfl)) ?_
  refine RL.op (.free rfl) rfl rfl (Does.box rfl) ?_
  rintro _ w8 ⟨b8, rfl, hn8⟩
  have hg24 := hg3.trans hg4
  have hg28 := hg24.trans hn8.grow
  have hz1 := hn1.grow.size
  have hz2 := hg2.size
  have hz3 := hg3.size
  have hz4 := hg4.size
  have hz8 := hn8.size
  have ha8 := hn8.at_
  refine RL.p rfl rfl ?_
  refine RL.done ?_
  refine RK.ret_of Tryz.func18 (res1 rfl rfl) ?_ _
  exact ⟨_, rfl, b8, mr, mk, v1, v2, v3, rfl, ⟨by omega, by omega, by omega, by omega⟩, fun M hM => ⟨hn8.blk, by omega, (hok (fun b => M b ∧ b < w2.heap.size) (fun b _ e => by have e2 := e.2; rcases hM b (by omega) e.1 with h | h | h <;> omega)).pass' (Mod.any' hg28) (fun b e => by by_cases hb : b < w2.heap.size; exact .inl ⟨e, hb⟩; exact .inr (by omega)), ⟨[], rfl, (hm3.mod hg4 (fun h => h)).mod hn8.grow (fun h => h), by simp⟩, hm4.mod hn8.grow (fun h => h)⟩, (hn1.grow.trans hg2).trans hg28⟩
theorem cacheLen_ok (M : Nat → Prop) (w : World) (p mr mk : Nat) (r : Ru) (c : CRows × CKeys) (h : CacheAt M w p mr mk r c) : Fx Tryz.prog 24 [pp p] w (fun u w' => u = .int .i64 c.2.length ∧ Grow w w') := by
  refine enter Tryz.func24 rfl rfl rfl _ (Pick.sub (l := [0]) (.cons rfl .nil)) ?_
  refine RK.seq ?_
  refine RK.region ?_
  refine RL.p rfl rfl ?_
  refine RL.done ?_
  refine RK.seq ?_
  refine RK.region ?_
  iterate 2 refine RL.p rfl rfl ?_
  refine RL.q (.free rfl) rfl rfl (Yld.fieldAddr fo133_2 rfl) ?_
  refine RL.q (.free rfl) rfl rfl (Yld.load p131 rfl (at1 (h.blk.cell rfl))) ?_
  refine RL.q (.free rfl) rfl rfl (Yld.lenMap Tryz.underlying131 rfl (fun w' e => e ▸ h.kl)) ?_
  refine RL.p rfl rfl ?_
  refine RL.done ?_
  refine RK.ret_of Tryz.func24 (res1 rfl rfl) ?_ _
  exact ⟨_, rfl, by simp, Mod.refl _ _⟩
theorem cacheKeys_ok (M : Nat → Prop) (w : World) (p mr mk : Nat) (r : Ru) (c : CRows × CKeys) (h : CacheAt M w p mr mk r c) : Fx Tryz.prog 25 [pp p] w (fun u w' => u = .int .i64 c.1.length ∧ Grow w w') := by
  obtain ⟨l, hl1, hl2, hl3⟩ := h.rl
  refine enter Tryz.func25 rfl rfl rfl _ (Pick.sub (l := [0]) (.cons rfl .nil)) ?_
  refine RK.seq ?_
  refine RK.region ?_
  refine RL.p rfl rfl ?_
  refine RL.done ?_
  refine RK.seq ?_
  refine RK.region ?_
  iterate 2 refine RL.p rfl rfl ?_
  refine RL.q (.free rfl) rfl rfl (Yld.fieldAddr fo133_1 rfl) ?_
  refine RL.q (.free rfl) rfl rfl (Yld.load p130 rfl (at1 (h.blk.cell rfl))) ?_
  refine RL.q (.free rfl) rfl rfl (Yld.lenMap Tryz.underlying130 rfl (fun w' e => e ▸ hl2)) ?_
  refine RL.p rfl rfl ?_
  refine RL.done ?_
  refine RK.ret_of Tryz.func25 (res1 rfl rfl) ?_ _
  exact ⟨_, rfl, by rw [← hl1]; simp, Mod.refl _ _⟩
end Go.Proofs.YthbjfhhiajihfaaGreat
set_option linter.unusedVariables false
set_option linter.unusedSimpArgs false
set_option maxHeartbeats 1000000
set_option maxRecDepth 100000
namespace Go.Proofs.YthbjfhhiajihfaaGreat
open Go Go.X Go.Rex
theorem source_le {r : Ru} {ls : List Lab} {v : Nat} (h : sourceS r ls v = true) : r.eq.length ≤ 4 := by
  unfold sourceS worksRu at h
  simp only [Bool.and_eq_true] at h
  exact isRu_le h.1.1.1
theorem row_at {M : Nat → Prop} {w : World} {l : List (ByteArray × (List Int × Value))} {rows : CRows} (h1 : l.map (fun t => (t.1, t.2.1)) = rows) (h3 : ∀ t ∈ l, Sl M w t.2.2 1 t.2.1.length (ints t.2.1)) (k : ByteArray) :
    ∃ vv, (lookM (l.map fun t => (t.1, t.2.2)) k).getD (.slice none 0 0) = vv ∧ Sl M w vv 1 ((lookM rows k).getD []).length (ints ((lookM rows k).getD [])) := by
  have e1 := lookM_map (fun a : List Int × Value => a.1) k l
  have e2 := lookM_map (fun a : List Int × Value => a.2) k l
  rw [h1] at e1
  rw [e1, e2]
  cases hh : lookM l k with
  | none => exact ⟨_, rfl, Sl.nil _ _ _ _ _⟩
  | some a => exact ⟨_, rfl, h3 _ (lookM_mem hh)⟩
theorem cacheDrop_ok (M : Nat → Prop) (w : World) (p mr mk : Nat) (r : Ru) (c : CRows × CKeys) (h : CacheAt M w p mr mk r c) (hMr : M mr) (hMk : M mk) (hM : ∀ b, M b → b < w.heap.size) (id : Int) (hB : CB c 1000000) :
    Fx Tryz.prog 30 [pp p, .int .i64 id] w (fun u w' => u = .tuple #[] ∧ CacheAt M w' p mr mk r (dropC c id) ∧ Mod (fun b => b = mr ∨ b = mk) w w') := by
  obtain ⟨l, hl1, hl2, hl3⟩ := h.rl
  have n1 : p ≠ mr := h.blk.ty.nem hl2.mp
  have n2 : p ≠ mk := h.blk.ty.nem h.kl.mp
  have hlk : lookM (c.2.map fun t => (t.1, Value.string t.2)) id = (lookM c.2 id).map Value.string := lookM_map _ id c.2
  obtain ⟨ok, hok⟩ : ∃ ok, lookM c.2 id = ok := ⟨_, rfl⟩
  rw [hok] at hlk
  refine enter Tryz.func30 rfl rfl rfl _ (Pick.sub (l := [0, 1]) (.cons rfl (.cons rfl .nil))) ?_
  refine RK.seq ?_
  refine RK.region ?_
  iterate 2 refine RL.p rfl rfl ?_
  refine RL.q (.free rfl) rfl rfl (Yld.fieldAddr fo133_2 rfl) ?_
  refine RL.q (.free rfl) rfl rfl (Yld.load p131 rfl (at1 (h.blk.cell rfl))) ?_
  refine RL.p rfl rfl ?_
  refine RL.q (.free rfl) rfl rfl (Yld.lookup Tryz.underlying131 key3 i9 rfl rfl (fun w' e => e ▸ h.kl)) ?_
  refine RL.re (d := 12) rfl rfl (show _ = Value.tuple #[.string (ok.getD ByteArray.empty), .bool ok.isSome] by rw [hlk]; cases ok <;> rfl) ?_
  iterate 5 refine RL.p rfl rfl ?_
  refine RL.done ?_
  iterate 2 refine RK.seq ?_
  refine RK.region ?_
  iterate 2 refine RL.p rfl rfl ?_
  refine RL.done ?_
  first | refine RK.condD rfl (fun h16 => ?_) (fun h16 => ?_) | refine RK.condN rfl (fun h16 => ?_) (fun h16 => ?_) | refine RK.cond rfl (fun h16 => ?_) (fun h16 => ?_)
  · obtain rfl : ok = none := by cases ok with
        | none => rfl
        | some a => simp at h16
    refine RK.ret_of Tryz.func30 (res0 rfl) ?_ _
    exact ⟨_, rfl, rfl, by unfold dropC; rw [hok]; exact h, Mod.refl _ _⟩
  · obtain ⟨key, rfl⟩ : ∃ key, ok = some key := by cases ok with
        | none => simp at h16
        | some a => exact ⟨a, rfl⟩
    refine RK.skip ?_
    refine RK.seq ?_
    refine RK.region ?_
    iterate 2 refine RL.p rfl rfl ?_
    refine RL.q (.free rfl) rfl rfl (Yld.fieldAddr fo133_2 rfl) ?_
    refine RL.q (.free rfl) rfl rfl (Yld.load p131 rfl (at1 (h.blk.cell rfl))) ?_
    refine RL.p rfl rfl ?_
    refine RL.op' (.free rfl) rfl (Does.delete Tryz.underlying131 key3 (k := id) rfl rfl h.kl) ?_
    rintro _ w2 ⟨hm2, hmod2, hs2⟩
    have hk2 : MapAt (Value.int .i64) w2 mk ((cutM c.2 id).map fun t => (t.1, Value.string t.2)) := by rw [← cutM_map]; exact hm2
    have hmodM : Mod M w w2 := hmod2.mono fun b _ e => e ▸ hMk
    have hB2 := h.blk.mod hmod2 n2
    obtain ⟨vv, hval, hsl⟩ := row_at hl1 (fun t ht => (hl3 t ht).mod hmodM) key
    have hbnd := hB.look key
    obtain ⟨row0, hrow0⟩ : ∃ row0, (lookM c.1 key).getD [] = row0 := ⟨_, rfl⟩
    rw [hrow0] at hbnd hsl
    refine RL.done ?_
    refine RK.seq ?_
    refine RK.drawM No [(0, false), (1, false), (2, false), (3, false), (4, false), (5, false), (6, false), (7, false), (8, false), (9, false), (10, false), (11, false), (12, true), (13, true)] [13] mixed (by kernel_rfl) ?_
    iterate 2 refine DL.p rfl rfl rfl ?_
    refine DL.qf rfl (.free rfl) rfl rfl (Yld.fieldAddr fo133_1 rfl) ?_
    refine DL.q rfl (.free rfl) rfl rfl rfl (Yld.load p130 rfl (atM (hB2.cell rfl) (fun h => h))) (Mod.drew _ _) ?_
    iterate 3 refine DL.p rfl rfl rfl ?_
    refine DL.qf rfl (.free rfl) rfl rfl (Yld.fieldAddr fo133_1 rfl) ?_
    refine DL.q rfl (.free rfl) rfl rfl rfl (Yld.load p130 rfl (atM (hB2.cell rfl) (fun h => h))) (Mod.drew _ _) ?_
    refine DL.p rfl rfl rfl ?_
    refine DL.q rfl (.free rfl) rfl rfl rfl (Yld.lookup Tryz.underlying130 key9 i37 (k := key) rfl rfl (fun w' hm => (hl2.mod hmod2 h.ne).mod hm (fun h => h))) (Mod.drew _ _) ?_
    refine DL.re (d := 32) rfl rfl (hval) ?_
    refine DL.p rfl rfl rfl ?_
    refine DL.op rfl (.free rfl) rfl rfl (Does.call rfl e82 (cut_ok M row0 id vv _ (hsl.mod (Mod.drew M _)) (by omega))) ?_
    rintro u7 w7 ⟨hr7, hf7, hg7⟩
    have hd7 := (Mod.drew No w2).trans hg7
    refine ⟨hd7, ?_⟩
    refine DL.opT rfl (.free rfl) rfl rfl (Does.mapUpdate Tryz.underlying130 key9 (k := key) rfl rfl rfl ((hl2.mod hmod2 h.ne).mod hd7 (fun h => h))) ?_
    rintro _ w8 ⟨hm8, hmod8, hs8⟩
    obtain ⟨ad7, c7, rfl⟩ := hr7.slice
    have hmod08 : Mod (fun b => b = mr ∨ b = mk) w w8 := ((hmod2.mono fun b _ e => .inr e).trans (Mod.any' hd7)).trans (hmod8.mono fun b _ e => .inl e)
    have hmodM8 : Mod M w w8 := hmod08.mono fun b _ e => by rcases e with rfl | rfl <;> assumption
    have hB8 := h.blk.mod hmod08 (fun e => e.elim n1 n2)
    have hu7 : Sl M w8 (.slice ad7 (cutRow row0 id).length c7) 1 (cutRow row0 id).length (ints (cutRow row0 id)) := (Sl.own hr7 (fun b e hb => by have h1 := hf7 b e; have h2 := hM b hb; simp only [World.drew] at h1; omega)).mod (hmod8.mono fun b _ e => e ▸ hMr)
    have hput : (putM l key (cutRow row0 id, Value.slice ad7 (cutRow row0 id).length c7)).map (fun t => (t.1, t.2.1)) = putM c.1 key (cutRow row0 id) := by
        rw [← hl1]; exact (putM_map (fun a : List Int × Value => a.1) key (_, Value.slice ad7 (cutRow row0 id).length c7) l).symm
    have hput2 : MapAt Value.string w8 mr ((putM l key (cutRow row0 id, Value.slice ad7 (cutRow row0 id).length c7)).map fun t => (t.1, t.2.2)) := by
        rw [← putM_map (fun a : List Int × Value => a.2) key (_, Value.slice ad7 (cutRow row0 id).length c7) l]; exact hm8
    have hlk8 : (lookM ((putM l key (cutRow row0 id, Value.slice ad7 (cutRow row0 id).length c7)).map fun t => (t.1, t.2.2)) key).getD (.slice none 0 0) = .slice ad7 (cutRow row0 id).length c7 := by
        rw [lookM_map (fun a : List Int × Value => a.2), lookM_putM]; simp
    have hk8 : MapAt (Value.int .i64) w8 mk ((cutM c.2 id).map fun t => (t.1, Value.string t.2)) := (hk2.mod hd7 (fun h => h)).mod hmod8 (fun e => h.ne e.symm)
    have hC8 : ∀ w9, Mod (· = mr) w8 w9 → ∀ (rows9 : CRows) (r9 : List (ByteArray × (List Int × Value))), (∀ t ∈ r9, t ∈ putM l key (cutRow row0 id, .slice ad7 (cutRow row0 id).length c7)) → MapAt Value.string w9 mr (r9.map fun t => (t.1, t.2.2)) → r9.map (fun t => (t.1, t.2.1)) = rows9 → CacheAt M w9 p mr mk r (rows9, cutM c.2 id) := by
        intro w9 h9 rows9 r9 hsub hmap hrows
        have h9M : Mod M w8 w9 := h9.mono fun b _ e => e ▸ hMr
        refine ⟨hB8.mod h9 n1, h.ne, (h.ok.mod hmodM8).mod h9M, ⟨r9, hrows, hmap, fun t ht => ?_⟩, hk8.mod h9 (fun e => h.ne e.symm)⟩
        rcases mem_putM (hsub t ht) with h1 | rfl
        · exact ((hl3 t h1).mod hmodM8).mod h9M
        · exact hu7.mod h9M
    refine DL.done ?_
    refine RK.seq ?_
    refine RK.region ?_
    iterate 2 refine RL.p rfl rfl ?_
    refine RL.q (.free rfl) rfl rfl (Yld.fieldAddr fo133_1 rfl) ?_
    refine RL.q (.free rfl) rfl rfl (Yld.load p130 rfl (at1 (hB8.cell rfl))) ?_
    refine RL.p rfl rfl ?_
    refine RL.q (.free rfl) rfl rfl (Yld.lookup Tryz.underlying130 key9 i37 (k := key) rfl rfl (fun w' e => e ▸ hput2)) ?_
    refine RL.re (d := 40) rfl rfl (hlk8) ?_
    refine RL.q (.free rfl) rfl rfl (Yld.lenSl u37 rfl) ?_
    refine RL.p rfl rfl ?_
    refine RL.done ?_
    first | refine RK.condD rfl (fun h42 => ?_) (fun h42 => ?_) | refine RK.condN rfl (fun h42 => ?_) (fun h42 => ?_) | refine RK.cond rfl (fun h42 => ?_) (fun h42 => ?_)
    · have hemp : cutRow row0 id = [] := List.eq_nil_of_length_eq_zero (by omega)
      refine RK.region ?_
      iterate 2 refine RL.p rfl rfl ?_
      refine RL.q (.free rfl) rfl rfl (Yld.fieldAddr fo133_1 rfl) ?_
      refine RL.q (.free rfl) rfl rfl (Yld.load p130 rfl (at1 (hB8.cell rfl))) ?_
      refine RL.p rfl rfl ?_
      refine RL.op' (.free rfl) rfl (Does.delete Tryz.underlying130 key9 (k := key) rfl rfl hput2) ?_
      rintro _ w9 ⟨hm9, hmod9, hs9⟩
      refine RL.done ?_
      refine RK.end_of Tryz.func30 (res0 rfl) ?_
      exact ⟨_, rfl, rfl, by
          have h1 := hC8 w9 hmod9 (cutM (putM c.1 key (cutRow row0 id)) key) (cutM (putM l key (cutRow row0 id, Value.slice ad7 (cutRow row0 id).length c7)) key) (fun t ht => mem_cutM' ht) (by rw [← cutM_map (fun a : List Int × Value => a.2) key]; exact hm9) (by rw [← hput]; exact (cutM_map (fun a : List Int × Value => a.1) key _).symm)
          unfold dropC cutC
          rw [hok]
          simp only [hrow0, if_pos hemp]
          exact h1, hmod08.trans (hmod9.mono fun b _ e => .inl e)⟩
    · have hemp : ¬ cutRow row0 id = [] := fun e => h42 (by rw [e]; rfl)
      refine RK.skip ?_
      refine RK.end_of Tryz.func30 (res0 rfl) ?_
      exact ⟨_, rfl, rfl, by
          have h1 := hC8 w8 (Mod.refl _ _) (putM c.1 key (cutRow row0 id)) _ (fun t ht => ht) hput2 hput
          unfold dropC cutC
          rw [hok]
          simp only [hrow0, if_neg hemp]
          exact h1, hmod08⟩
theorem cachePut_ok (M : Nat → Prop) (w : World) (p mr mk : Nat) (r : Ru) (c : CRows × CKeys) (h : CacheAt M w p mr mk r c) (hMr : M mr) (hMk : M mk) (hM : ∀ b, M b → b < w.heap.size) (a : Al) (ha : AlOk M w a) (hB : CB c 1000000) :
    Fx Tryz.prog 20 [pp p, .agg (alC a).toArray] w (fun u w' => u = .tuple #[] ∧ CacheAt M w' p mr mk r (putC c a.id (sourceS r a.ls a.val) (keyT r.eq a.ls)) ∧ Mod (fun b => b = mr ∨ b = mk) w w') := by
  refine enter Tryz.func20 rfl rfl rfl _ (Pick.sub (l := [0, 1]) (.cons rfl (.cons rfl .nil))) ?_
  refine RK.seq ?_
  refine RK.region ?_
  refine RL.op (.free rfl) rfl rfl (Does.box rfl) ?_
  rintro _ w1 ⟨b3, rfl, hn3⟩
  have h1 := h.grow hn3.grow
  have hz1 := hn3.grow.size
  refine RL.done ?_
  refine RK.seq ?_
  refine RK.region ?_
  refine RL.p rfl rfl ?_
  refine RL.q (.free rfl) rfl rfl (Yld.fieldAddr fo35_0 rfl) ?_
  refine RL.q (.free rfl) rfl rfl (Yld.load p3 rfl (at1 (hn3.blk.cell rfl))) ?_
  refine RL.op (.free rfl) rfl rfl (Does.call rfl e30 (cacheDrop_ok M _ p mr mk r c h1 hMr hMk (fun b hb => by have := hM b hb; omega) a.id hB)) ?_
  rintro _ w2 ⟨rfl, hc2, hm2⟩
  have hz2 := hm2.size
  have hm2M : Mod M w1 w2 := hm2.mono fun b _ e => by rcases e with rfl | rfl <;> assumption
  have ha2 : AlOk M w2 a := (ha.mod (Mod.any' hn3.grow)).mod hm2M
  have hne3 : ¬ (b3 = mr ∨ b3 = mk) := fun e => by have := hn3.at_; have h8 := hM _ hMr; have h9 := hM _ hMk; rcases e with e | e <;> omega
  have hB3 := hn3.blk.mod hm2 hne3
  have hd2 := hB.drop a.id
  refine RL.done ?_
  refine RK.seq ?_
  refine RK.drawM No [(0, false), (1, false), (2, false), (3, false), (4, false), (5, true)] [] mixed (by kernel_rfl) ?_
  iterate 2 refine DL.p rfl rfl rfl ?_
  refine DL.qf rfl (.free rfl) rfl rfl (Yld.fieldAddr fo133_0 rfl) ?_
  refine DL.q rfl (.free rfl) rfl rfl rfl (Yld.loadN (cs := ruC r) a30 rfl (atNM (blkL hc2.blk) (fun h => h))) (Mod.drew _ _) ?_
  refine DL.q rfl (.free rfl) rfl rfl rfl (Yld.loadN (cs := alC a) a35 rfl (atNM (blk0' hB3) (fun h => h))) (Mod.drew _ _) ?_
  refine DL.op rfl (.free rfl) rfl rfl (Does.call rfl e75 (source_ok M M r a _ (hc2.ok.mod (Mod.drew _ _)) (ha2.mod (Mod.drew _ _)))) ?_
  rintro _ w3 ⟨rfl, hg3⟩
  have hd3 := (Mod.drew No w2).trans hg3
  refine ⟨hd3, ?_⟩
  have hc3 := hc2.grow hd3
  have hB33 := hB3.mod hd3 (fun h => h)
  have hz3 := hd3.size
  refine DL.done ?_
  first | refine RK.condD rfl (fun h14 => ?_) (fun h14 => ?_) | refine RK.condN rfl (fun h14 => ?_) (fun h14 => ?_) | refine RK.cond rfl (fun h14 => ?_) (fun h14 => ?_)
  · have h4 : r.eq.length ≤ 4 := source_le h14
    refine RK.seq ?_
    refine RK.drawM No [(0, false), (1, false), (2, false), (3, false), (4, false), (5, true), (6, false)] [] mixed (by kernel_rfl) ?_
    iterate 2 refine DL.p rfl rfl rfl ?_
    refine DL.qf rfl (.free rfl) rfl rfl (Yld.fieldAddr fo133_0 rfl) ?_
    refine DL.q rfl (.free rfl) rfl rfl rfl (Yld.loadN (cs := ruC r) a30 rfl (atNM (blkL hc3.blk) (fun h => h))) (Mod.drew _ _) ?_
    refine DL.q rfl (.free rfl) rfl rfl rfl (Yld.loadN (cs := alC a) a35 rfl (atNM (blk0' hB33) (fun h => h))) (Mod.drew _ _) ?_
    refine DL.op rfl (.free rfl) rfl rfl (Does.call rfl e76 (ruleKey_ok M M r h4 a ha.z _ (hc3.ok.mod (Mod.drew _ _)) ((ha2.l.mod (Mod.any' hd3)).mod (Mod.drew _ _)))) ?_
    rintro _ w4 ⟨rfl, hg4⟩
    have hd4 := (Mod.drew No w3).trans hg4
    refine ⟨hd4, ?_⟩
    have hc4 := hc3.grow hd4
    have hB34 := hB33.mod hd4 (fun h => h)
    have hz4 := hd4.size
    generalize hkey : keyT r.eq a.ls = key at *
    refine DL.p rfl rfl rfl ?_
    refine DL.done ?_
    refine RK.seq ?_
    refine RK.drawM No [(0, false), (1, false), (2, false), (3, false), (4, false), (5, false), (6, false), (7, true)] [7] mixed (by kernel_rfl) ?_
    iterate 2 refine DL.p rfl rfl rfl ?_
    refine DL.qf rfl (.free rfl) rfl rfl (Yld.fieldAddr fo133_2 rfl) ?_
    refine DL.q rfl (.free rfl) rfl rfl rfl (Yld.load p131 rfl (atM (hc4.blk.cell rfl) (fun h => h))) (Mod.drew _ _) ?_
    refine DL.qf rfl (.free rfl) rfl rfl (Yld.fieldAddr fo35_0 rfl) ?_
    refine DL.q rfl (.free rfl) rfl rfl rfl (Yld.load p3 rfl (atM (hB34.cell rfl) (fun h => h))) (Mod.drew _ _) ?_
    refine DL.p rfl rfl rfl ?_
    refine DL.opT rfl (.free rfl) rfl rfl (Does.mapUpdate Tryz.underlying131 key3 (k := a.id) (v := .string key) rfl rfl rfl (hc4.kl.mod (Mod.drew No _) (fun h => h))) ?_
    rintro _ w5 ⟨hm5, hmod5', hs5⟩
    have hmod5 : Mod (· = mk) w4 w5 := (Mod.drew _ _).trans hmod5'
    have hk5 : MapAt (Value.int .i64) w5 mk ((putM (dropC c a.id).2 a.id key).map fun t => (t.1, Value.string t.2)) := by rw [← putM_map]; exact hm5
    obtain ⟨l, hl1, hl2, hl3⟩ := hc4.rl
    have n1 : p ≠ mr := hc4.blk.ty.nem hl2.mp
    have n2 : p ≠ mk := hc4.blk.ty.nem hc4.kl.mp
    have hB5 := hc4.blk.mod hmod5 n2
    have hmod5M : Mod M w4 w5 := hmod5.mono fun b _ e => e ▸ hMk
    have hl25 := hl2.mod hmod5 hc4.ne
    obtain ⟨vv, hval, hsl⟩ := row_at hl1 (fun t ht => (hl3 t ht).mod hmod5M) key
    have hbnd := hd2.look key
    have hB35 := hB34.mod hmod5 (fun e => hne3 (.inr e))
    have hz5 := hmod5.size
    refine DL.done ?_
    refine RK.drawM No [(0, false), (1, false), (2, false), (3, false), (4, false), (5, false), (6, false), (7, false), (8, false), (9, false), (10, false), (11, false), (12, false), (13, true), (14, true)] [14] mixed (by kernel_rfl) ?_
    iterate 2 refine DL.p rfl rfl rfl ?_
    refine DL.qf rfl (.free rfl) rfl rfl (Yld.fieldAddr fo133_1 rfl) ?_
    refine DL.q rfl (.free rfl) rfl rfl rfl (Yld.load p130 rfl (atM (hB5.cell rfl) (fun h => h))) (Mod.drew _ _) ?_
    iterate 3 refine DL.p rfl rfl rfl ?_
    refine DL.qf rfl (.free rfl) rfl rfl (Yld.fieldAddr fo133_1 rfl) ?_
    refine DL.q rfl (.free rfl) rfl rfl rfl (Yld.load p130 rfl (atM (hB5.cell rfl) (fun h => h))) (Mod.drew _ _) ?_
    refine DL.p rfl rfl rfl ?_
    refine DL.q rfl (.free rfl) rfl rfl rfl (Yld.lookup Tryz.underlying130 key9 i37 (k := key) rfl rfl (fun w' hm => hl25.mod hm (fun h => h))) (Mod.drew _ _) ?_
    refine DL.re (d := 38) rfl rfl (hval) ?_
    refine DL.qf rfl (.free rfl) rfl rfl (Yld.fieldAddr fo35_0 rfl) ?_
    refine DL.q rfl (.free rfl) rfl rfl rfl (Yld.load p3 rfl (atM (hB35.cell rfl) (fun h => h))) (Mod.drew _ _) ?_
    refine DL.op rfl (.free rfl) rfl rfl (Does.call rfl e77 (put_ok M _ a.id vv _ (hsl.mod (Mod.drew M _)) (by omega))) ?_
    rintro u7 w7 ⟨hr7, hf7, hg7⟩
    have hd7 := (Mod.drew No w5).trans hg7
    refine ⟨hd7, ?_⟩
    refine DL.opT rfl (.free rfl) rfl rfl (Does.mapUpdate Tryz.underlying130 key9 (k := key) rfl rfl rfl (hl25.mod hd7 (fun h => h))) ?_
    rintro _ w8 ⟨hm8, hmod8, hs8⟩
    have hm48 : Mod (fun b => b = mr ∨ b = mk) w4 w8 := ((hmod5.mono fun b _ e => .inr e).trans (Mod.any' hd7)).trans (hmod8.mono fun b _ e => .inl e)
    have hm48M : Mod M w4 w8 := hm48.mono fun b _ e => by rcases e with rfl | rfl <;> assumption
    have hu7 := (Sl.own (M := M) hr7 (fun b e hb => by have h1 := hf7 b e; have h2 := hM b hb; simp only [World.drew] at h1; omega)).mod (hmod8.mono fun b _ e => e ▸ hMr)
    refine DL.done ?_
    refine RK.end_of Tryz.func20 (res0 rfl) ?_
    exact ⟨_, rfl, rfl, by
        unfold putC
        rw [h14, if_pos rfl]
        refine ⟨hc4.blk.mod hm48 (fun e => e.elim n1 n2), hc4.ne, hc4.ok.mod hm48M, ⟨putM l key (mkRow ((lookM (dropC c a.id).1 key).getD [] ++ [a.id]), u7), ?_, ?_, fun t ht => ?_⟩, (hk5.mod hd7 (fun h => h)).mod hmod8 (fun e => hc4.ne e.symm)⟩
        · show _ = putM (dropC c a.id).1 key (mkRow ((lookM (dropC c a.id).1 key).getD [] ++ [a.id]))
          rw [← hl1]; exact (putM_map (fun a : List Int × Value => a.1) key (_, u7) l).symm
        · rw [← putM_map (fun a : List Int × Value => a.2) key (_, u7) l]; exact hm8
        · rcases mem_putM ht with h1 | rfl
          · exact (hl3 t h1).mod hm48M
          · exact hu7, ((((Mod.any' hn3.grow).trans hm2).trans (Mod.any' hd3)).trans (Mod.any' hd4)).trans hm48⟩
  · refine RK.skip ?_
    refine RK.end_of Tryz.func20 (res0 rfl) ?_
    exact ⟨_, rfl, rfl, by
        unfold putC
        rw [show sourceS r a.ls a.val = false by simpa using h14, if_neg (by decide)]
        exact hc3, ((Mod.any' hn3.grow).trans hm2).trans (Mod.any' hd3)⟩
theorem cacheSources_ok (M M' : Nat → Prop) (w : World) (p mr mk : Nat) (r : Ru) (c : CRows × CKeys) (h : CacheAt M w p mr mk r c) (h4 : r.eq.length ≤ 4) (a : Al) (ha : AlOk M' w a) (hB : CB c 1000000) :
    Fx Tryz.prog 22 [pp p, .agg (alC a).toArray] w (fun u w' => Row w' 3 1 u (rowC c (keyT r.eq a.ls)).length (ints (rowC c (keyT r.eq a.ls))) ∧ Fresh w.heap.size u ∧ Grow w w') := by
  obtain ⟨l, hl1, hl2, hl3⟩ := h.rl
  obtain ⟨vv, hval, hsl⟩ := row_at hl1 hl3 (keyT r.eq a.ls)
  have hbnd := hB.look (keyT r.eq a.ls)
  refine enter Tryz.func22 rfl rfl rfl _ (Pick.sub (l := [0, 1]) (.cons rfl (.cons rfl .nil))) ?_
  refine RK.seq ?_
  refine RK.region ?_
  refine RL.op (.free rfl) rfl rfl (Does.box rfl) ?_
  rintro _ w1 ⟨b3, rfl, hn3⟩
  have hB1 := h.blk.mod hn3.grow (fun h => h)
  refine RL.p rfl rfl ?_
  refine RL.done ?_
  refine RK.seq ?_
  refine RK.drawM No [(0, false), (1, false), (2, false), (3, false), (4, false), (5, false), (6, false), (7, false), (8, false), (9, true), (10, false), (11, true), (12, false)] [] mixed (by kernel_rfl) ?_
  iterate 2 refine DL.p rfl rfl rfl ?_
  refine DL.qf rfl (.free rfl) rfl rfl (Yld.fieldAddr fo133_1 rfl) ?_
  refine DL.q rfl (.free rfl) rfl rfl rfl (Yld.load p130 rfl (atM (hB1.cell rfl) (fun h => h))) (Mod.drew _ _) ?_
  iterate 2 refine DL.p rfl rfl rfl ?_
  refine DL.qf rfl (.free rfl) rfl rfl (Yld.fieldAddr fo133_0 rfl) ?_
  refine DL.q rfl (.free rfl) rfl rfl rfl (Yld.loadN (cs := ruC r) a30 rfl (atNM (blkL hB1) (fun h => h))) (Mod.drew _ _) ?_
  refine DL.q rfl (.free rfl) rfl rfl rfl (Yld.loadN (cs := alC a) a35 rfl (atNM (blk0' hn3.blk) (fun h => h))) (Mod.drew _ _) ?_
  refine DL.op rfl (.free rfl) rfl rfl (Does.call rfl e76 (ruleKey_ok M M' r h4 a ha.z _ ((h.ok.mod (Mod.any' hn3.grow)).mod (Mod.drew _ _)) ((ha.l.mod (Mod.any' hn3.grow)).mod (Mod.drew _ _)))) ?_
  rintro _ w3 ⟨rfl, hg3⟩
  have hd3 := (Mod.drew No w1).trans hg3
  refine ⟨hd3, ?_⟩
  have hg03 := hn3.grow.trans hd3
  refine DL.q rfl (.free rfl) rfl rfl rfl (Yld.lookup Tryz.underlying130 key9 i37 (k := keyT r.eq a.ls) rfl rfl (fun w' hm => (hl2.mod hn3.grow (fun h => h)).mod hm (fun h => h))) (hd3) ?_
  refine DL.re (d := 15) rfl rfl (hval) ?_
  refine DL.op rfl (.free rfl) rfl rfl (Does.call rfl e78 (make_ok M _ vv _ (hsl.mod (Mod.any' hg03)) (by omega))) ?_
  rintro u4 w4 ⟨hr4, hf4, hg4⟩
  refine ⟨hd3.trans hg4, ?_⟩
  refine DL.p rfl rfl rfl ?_
  refine DL.done ?_
  refine RK.ret_of Tryz.func22 (res1 rfl rfl) ?_ _
  exact ⟨_, rfl, hr4, fun b e => by have h1 := hf4 b e; have h2 := hg03.size; omega, hg03.trans hg4⟩
end Go.Proofs.YthbjfhhiajihfaaGreat
set_option linter.unusedVariables false
set_option linter.unusedSimpArgs false
set_option maxHeartbeats 2000000
set_option maxRecDepth 100000
namespace Go.Proofs.YthbjfhhiajihfaaGreat
open Go Go.X Go.Rex
def sevT : ByteArray := ⟨#[115, 101, 118]⟩
def critT : ByteArray := ⟨#[99, 114, 105, 116]⟩
def warnT : ByteArray := ⟨#[119, 97, 114, 110]⟩
def mSrc : Mt := ⟨1, sevT, critT⟩
theorem mSrc_is : isM mSrc = true := by kernel_rfl
theorem mSrc_large : largeM mSrc = false := by kernel_rfl
theorem list1 {m : Mt} (h : isM m = true) : listM [m] = true := listM_yes (by simp) fun i hi => by
  obtain rfl : i = 0 := by simpa using hi
  rw [okM_0 rfl]; exact h
end Go.Proofs.YthbjfhhiajihfaaGreat
