/- What the claim stands on, part 8. Of own lemmas only those that it reaches. -/
import Derived.Test.YtbcbfjnlnmhpbaaGreatKw7
set_option linter.unusedVariables false
set_option linter.unusedSimpArgs false
set_option maxHeartbeats 1000000
set_option maxRecDepth 100000
namespace Go.Proofs.YtbcbfjnlnmhpbaaGreat
open Go Go.X Go.Rex
structure Bd where
  all : Bool
  lo : Nat
  hi : Nat
def bdC (b : Bd) : List Value := [.bool b.all, .float .f64 b.lo, .float .f64 b.hi]
def leF (a b : Nat) : Bool := FloatKind.f64.format.order a b == some .lt || FloatKind.f64.format.order a b == some .eq
def mayB (b : Bd) : Bool := if b.all = true then decide ((bitsS b.lo : Int) = 0) && decide ((bitsS b.hi : Int) = 0) else leF b.lo b.hi
def inBd (b : Bd) (v : Nat) : Bool := mayB b && (b.all || (leF b.lo v && leF v b.hi))
theorem fldN {w : World} {b t : Nat} {cs : List Value} (h : Blk w b t cs) (k n : Nat) : ∀ j u, ((cs.drop k).take n)[j]? = some u → w.cell? ⟨b, 0 + k + j, none⟩ = some u := fun j u hj => by
  have hj2 : (cs.drop k)[j]? = some u := by
    rw [List.getElem?_take] at hj
    split at hj
    · exact hj
    · cases hj
  rw [List.getElem?_drop] at hj2
  rw [show 0 + k + j = k + j by omega]
  exact h.cell' hj2
theorem may_ok (b : Bd) (w : World) : Fx Tryz.prog 96 [.agg (bdC b).toArray] w (fun u w' => u = .bool (mayB b) ∧ Grow w w') := by
  refine enter Tryz.func96 rfl rfl rfl _ (Pick.sub (l := [0]) (.cons rfl .nil)) ?_
  refine RK.seq ?_
  refine RK.region ?_
  refine RL.op (.free rfl) rfl rfl (Does.box rfl) ?_
  rintro _ w1 ⟨b1, rfl, hn1⟩
  have hB1 : Blk w1 b1 32 [.bool b.all, .float .f64 b.lo, .float .f64 b.hi] := hn1.blk
  refine RL.p rfl rfl ?_
  refine RL.done ?_
  iterate 2 refine RK.seq ?_
  refine RK.region ?_
  refine RL.q (.free rfl) rfl rfl (Yld.fieldAddr fo32_0 rfl) ?_
  refine RL.q (.free rfl) rfl rfl (Yld.load p4 rfl (at1 (hB1.cell rfl))) ?_
  refine RL.done ?_
  first | refine RK.condD rfl (fun h4 => ?_) (fun h4 => ?_) | refine RK.condN rfl (fun h4 => ?_) (fun h4 => ?_) | refine RK.cond rfl (fun h4 => ?_) (fun h4 => ?_)
  · refine RK.seq ?_
    refine RK.region ?_
    refine RL.q (.free rfl) rfl rfl (Yld.fieldAddr fo32_1 rfl) ?_
    refine RL.q (.free rfl) rfl rfl (Yld.load p30 rfl (at1 (hB1.cell rfl))) ?_
    refine RL.op (.free rfl) rfl rfl (Does.call rfl e132 (bits_ok _ _)) ?_
    rintro _ _ ⟨rfl, rfl⟩
    iterate 2 refine RL.p rfl rfl ?_
    first | refine RL.splitD (d := 9) rfl rfl (fun h8 => ?_) (fun h8 => ?_) | refine RL.splitN (d := 9) rfl rfl (fun h8 => ?_) (fun h8 => ?_) | refine RL.split (d := 9) rfl rfl (fun h8 => ?_) (fun h8 => ?_)
    · refine RL.q (.yes rfl rfl rfl) rfl rfl (Yld.fieldAddr fo32_2 rfl) ?_
      refine RL.q (.yes rfl rfl rfl) rfl rfl (Yld.load p30 rfl (at1 (hB1.cell rfl))) ?_
      refine RL.op (.yes rfl rfl rfl) rfl rfl (Does.call rfl e132 (bits_ok _ _)) ?_
      rintro _ _ ⟨rfl, rfl⟩
      refine RL.q (.yes rfl rfl rfl) rfl rfl (Yld.pure rfl) ?_
      iterate 2 refine RL.p rfl rfl ?_
      refine RL.done ?_
      refine RK.ret_of Tryz.func96 (res1 rfl rfl) ?_ _
      exact ⟨_, rfl, by unfold mayB; rw [if_pos h4, decide_eq_true h8]; rfl, hn1.grow⟩
    · iterate 4 refine RL.no (.no rfl rfl rfl rfl) rfl rfl ?_
      iterate 2 refine RL.p rfl rfl ?_
      refine RL.done ?_
      refine RK.ret_of Tryz.func96 (res1 rfl rfl) ?_ _
      exact ⟨_, rfl, by unfold mayB; rw [if_pos h4, decide_eq_false h8]; rfl, hn1.grow⟩
  · refine RK.skip ?_
    refine RK.seq ?_
    refine RK.region ?_
    refine RL.q (.free rfl) rfl rfl (Yld.fieldAddr fo32_1 rfl) ?_
    refine RL.q (.free rfl) rfl rfl (Yld.load p30 rfl (at1 (hB1.cell rfl))) ?_
    refine RL.q (.free rfl) rfl rfl (Yld.fieldAddr fo32_2 rfl) ?_
    refine RL.q (.free rfl) rfl rfl (Yld.load p30 rfl (at1 (hB1.cell rfl))) ?_
    iterate 2 refine RL.p rfl rfl ?_
    refine RL.done ?_
    refine RK.ret_of Tryz.func96 (res1 rfl rfl) ?_ _
    exact ⟨_, rfl, by unfold mayB; rw [if_neg (by simp [h4])]; rfl, hn1.grow⟩
theorem mayR_ok (b : Bd) (w : World) : Fx Tryz.prog 32 [.agg (bdC b).toArray] w (fun u w' => u = .bool (mayB b) ∧ Grow w w') := by
  refine enter Tryz.func32 rfl rfl rfl _ (Pick.sub (l := [0]) (.cons rfl .nil)) ?_
  refine RK.seq ?_
  refine RK.region ?_
  refine RL.op (.free rfl) rfl rfl (Does.box rfl) ?_
  rintro _ w1 ⟨b1, rfl, hn1⟩
  have hB1 : Blk w1 b1 32 [.bool b.all, .float .f64 b.lo, .float .f64 b.hi] := hn1.blk
  refine RL.p rfl rfl ?_
  refine RL.done ?_
  iterate 2 refine RK.seq ?_
  refine RK.region ?_
  refine RL.q (.free rfl) rfl rfl (Yld.fieldAddr fo32_0 rfl) ?_
  refine RL.q (.free rfl) rfl rfl (Yld.load p4 rfl (at1 (hB1.cell rfl))) ?_
  refine RL.done ?_
  first | refine RK.condD rfl (fun h4 => ?_) (fun h4 => ?_) | refine RK.condN rfl (fun h4 => ?_) (fun h4 => ?_) | refine RK.cond rfl (fun h4 => ?_) (fun h4 => ?_)
  · refine RK.seq ?_
    refine RK.region ?_
    refine RL.q (.free rfl) rfl rfl (Yld.fieldAddr fo32_1 rfl) ?_
    refine RL.q (.free rfl) rfl rfl (Yld.load p30 rfl (at1 (hB1.cell rfl))) ?_
    refine RL.op (.free rfl) rfl rfl (Does.call rfl e79 (bits1_ok _ _)) ?_
    rintro _ _ ⟨rfl, rfl⟩
    iterate 2 refine RL.p rfl rfl ?_
    first | refine RL.splitD (d := 9) rfl rfl (fun h8 => ?_) (fun h8 => ?_) | refine RL.splitN (d := 9) rfl rfl (fun h8 => ?_) (fun h8 => ?_) | refine RL.split (d := 9) rfl rfl (fun h8 => ?_) (fun h8 => ?_)
    · refine RL.q (.yes rfl rfl rfl) rfl rfl (Yld.fieldAddr fo32_2 rfl) ?_
      refine RL.q (.yes rfl rfl rfl) rfl rfl (Yld.load p30 rfl (at1 (hB1.cell rfl))) ?_
      refine RL.op (.yes rfl rfl rfl) rfl rfl (Does.call rfl e79 (bits1_ok _ _)) ?_
      rintro _ _ ⟨rfl, rfl⟩
      refine RL.q (.yes rfl rfl rfl) rfl rfl (Yld.pure rfl) ?_
      iterate 2 refine RL.p rfl rfl ?_
      refine RL.done ?_
      refine RK.ret_of Tryz.func32 (res1 rfl rfl) ?_ _
      exact ⟨_, rfl, by unfold mayB; rw [if_pos h4, decide_eq_true h8]; rfl, hn1.grow⟩
    · iterate 4 refine RL.no (.no rfl rfl rfl rfl) rfl rfl ?_
      iterate 2 refine RL.p rfl rfl ?_
      refine RL.done ?_
      refine RK.ret_of Tryz.func32 (res1 rfl rfl) ?_ _
      exact ⟨_, rfl, by unfold mayB; rw [if_pos h4, decide_eq_false h8]; rfl, hn1.grow⟩
  · refine RK.skip ?_
    refine RK.seq ?_
    refine RK.region ?_
    refine RL.q (.free rfl) rfl rfl (Yld.fieldAddr fo32_1 rfl) ?_
    refine RL.q (.free rfl) rfl rfl (Yld.load p30 rfl (at1 (hB1.cell rfl))) ?_
    refine RL.q (.free rfl) rfl rfl (Yld.fieldAddr fo32_2 rfl) ?_
    refine RL.q (.free rfl) rfl rfl (Yld.load p30 rfl (at1 (hB1.cell rfl))) ?_
    iterate 2 refine RL.p rfl rfl ?_
    refine RL.done ?_
    refine RK.ret_of Tryz.func32 (res1 rfl rfl) ?_ _
    exact ⟨_, rfl, by unfold mayB; rw [if_neg (by simp [h4])]; rfl, hn1.grow⟩
theorem in_band_ok (b : Bd) (v : Nat) (w : World) : Fx Tryz.prog 53 [.agg (bdC b).toArray, .float .f64 v] w (fun u w' => u = .bool (inBd b v) ∧ Grow w w') := by
  refine enter Tryz.func53 rfl rfl rfl _ (Pick.sub (l := [0, 1]) (.cons rfl (.cons rfl .nil))) ?_
  refine RK.seq ?_
  refine RK.region ?_
  refine RL.op (.free rfl) rfl rfl (Does.box rfl) ?_
  rintro _ w1 ⟨b1, rfl, hn1⟩
  refine RL.p rfl rfl ?_
  refine RL.done ?_
  refine RK.seq ?_
  refine RK.region ?_
  refine RL.q (.free rfl) rfl rfl (Yld.loadN (cs := bdC b) a32 rfl (atN (blk0' hn1.blk))) ?_
  refine RL.op (.free rfl) rfl rfl (Does.call rfl e96 (may_ok b _)) ?_
  rintro _ w2 ⟨rfl, hg2'⟩
  have hg2 := hn1.grow.trans hg2'
  have hB2 : Blk w2 b1 32 [.bool b.all, .float .f64 b.lo, .float .f64 b.hi] := hn1.blk.mod hg2' (fun h => h)
  refine RL.p rfl rfl ?_
  first | refine RL.splitD (d := 7) rfl rfl (fun h6 => ?_) (fun h6 => ?_) | refine RL.splitN (d := 7) rfl rfl (fun h6 => ?_) (fun h6 => ?_) | refine RL.split (d := 7) rfl rfl (fun h6 => ?_) (fun h6 => ?_)
  · have hmay : mayB b = true := h6
    refine RL.q (.yes rfl rfl rfl) rfl rfl (Yld.fieldAddr fo32_0 rfl) ?_
    refine RL.q (.yes rfl rfl rfl) rfl rfl (Yld.load p4 rfl (at1 (hB2.cell rfl))) ?_
    refine RL.q (.yes rfl rfl rfl) rfl rfl (Yld.pure rfl) ?_
    first | refine RL.splitD (d := 10) rfl rfl (fun h9 => ?_) (fun h9 => ?_) | refine RL.splitN (d := 10) rfl rfl (fun h9 => ?_) (fun h9 => ?_) | refine RL.split (d := 10) rfl rfl (fun h9 => ?_) (fun h9 => ?_)
    · iterate 10 refine RL.no (.no rfl rfl rfl rfl) rfl rfl ?_
      refine RL.q (.yes rfl rfl rfl) rfl rfl (Yld.pure rfl) ?_
      iterate 2 refine RL.p rfl rfl ?_
      refine RL.done ?_
      refine RK.ret_of Tryz.func53 (res1 rfl rfl) ?_ _
      exact ⟨_, rfl, by unfold inBd; rw [hmay, h9]; rfl, hg2⟩
    · refine RL.q (.yes rfl rfl rfl) rfl rfl (Yld.fieldAddr fo32_1 rfl) ?_
      refine RL.q (.yes rfl rfl rfl) rfl rfl (Yld.load p30 rfl (at1 (hB2.cell rfl))) ?_
      iterate 3 refine RL.q (.yes rfl rfl rfl) rfl rfl (Yld.pure rfl) ?_
      first | refine RL.splitD (d := 15) rfl rfl (fun h14 => ?_) (fun h14 => ?_) | refine RL.splitN (d := 15) rfl rfl (fun h14 => ?_) (fun h14 => ?_) | refine RL.split (d := 15) rfl rfl (fun h14 => ?_) (fun h14 => ?_)
      · refine RL.q (.yes rfl rfl rfl) rfl rfl (Yld.pure rfl) ?_
        refine RL.q (.yes rfl rfl rfl) rfl rfl (Yld.fieldAddr fo32_2 rfl) ?_
        refine RL.q (.yes rfl rfl rfl) rfl rfl (Yld.load p30 rfl (at1 (hB2.cell rfl))) ?_
        iterate 3 refine RL.q (.yes rfl rfl rfl) rfl rfl (Yld.pure rfl) ?_
        iterate 2 refine RL.p rfl rfl ?_
        refine RL.done ?_
        refine RK.ret_of Tryz.func53 (res1 rfl rfl) ?_ _
        exact ⟨_, rfl, by unfold inBd; rw [hmay, show b.all = false by simpa using h9, show leF b.lo v = true from h14]; rfl, hg2⟩
      · iterate 4 refine RL.no (.no rfl rfl rfl rfl) rfl rfl ?_
        iterate 2 refine RL.q (.yes rfl rfl rfl) rfl rfl (Yld.pure rfl) ?_
        iterate 2 refine RL.p rfl rfl ?_
        refine RL.done ?_
        refine RK.ret_of Tryz.func53 (res1 rfl rfl) ?_ _
        exact ⟨_, rfl, by unfold inBd; rw [hmay, show b.all = false by simpa using h9, show leF b.lo v = false from h14]; rfl, hg2⟩
  · iterate 14 refine RL.no (.no rfl rfl rfl rfl) rfl rfl ?_
    iterate 2 refine RL.p rfl rfl ?_
    refine RL.done ?_
    refine RK.ret_of Tryz.func53 (res1 rfl rfl) ?_ _
    exact ⟨_, rfl, by unfold inBd; rw [show mayB b = false by simpa using h6]; rfl, hg2⟩
def stateS (now a b : Int) : Int := if b ≤ now then 3 else if now < a then 1 else 2
theorem state_ok (n a b : Int) (w : World) : Fx Tryz.prog 51 [.int .u64 n, .int .u64 a, .int .u64 b] w (fun u w' => u = .int .i64 (stateS n a b) ∧ w = w') := by
  refine enter Tryz.func51 rfl rfl rfl _ (Pick.sub (l := [0, 1, 2]) (.cons rfl (.cons rfl (.cons rfl .nil)))) ?_
  refine RK.seq ?_
  refine RK.region ?_
  refine RL.p rfl rfl ?_
  refine RL.done ?_
  refine RK.seq ?_
  refine RK.block ?_
  refine RK.seq ?_
  refine RK.region ?_
  iterate 4 refine RL.p rfl rfl ?_
  refine RL.done ?_
  first | refine RK.condD rfl (fun h10 => ?_) (fun h10 => ?_) | refine RK.condN rfl (fun h10 => ?_) (fun h10 => ?_) | refine RK.cond rfl (fun h10 => ?_) (fun h10 => ?_)
  · refine RK.seq ?_
    refine RK.region ?_
    refine RL.p rfl rfl ?_
    refine RL.done ?_
    refine RK.ret_of Tryz.func51 (res1 rfl rfl) ?_ _
    exact ⟨_, rfl, by unfold stateS; rw [if_pos (by omega)], rfl⟩
  · refine RK.seq ?_
    refine RK.region ?_
    iterate 4 refine RL.p rfl rfl ?_
    refine RL.done ?_
    first | refine RK.condD rfl (fun h14 => ?_) (fun h14 => ?_) | refine RK.condN rfl (fun h14 => ?_) (fun h14 => ?_) | refine RK.cond rfl (fun h14 => ?_) (fun h14 => ?_)
    · refine RK.seq ?_
      refine RK.region ?_
      refine RL.p rfl rfl ?_
      refine RL.done ?_
      refine RK.ret_of Tryz.func51 (res1 rfl rfl) ?_ _
      exact ⟨_, rfl, by unfold stateS; rw [if_neg (by omega), if_pos (by omega)], rfl⟩
    · refine RK.skip ?_
      refine RK.inBlock ?_
      refine RK.seq ?_
      refine RK.region ?_
      refine RL.p rfl rfl ?_
      refine RL.done ?_
      refine RK.ret_of Tryz.func51 (res1 rfl rfl) ?_ _
      exact ⟨_, rfl, by unfold stateS; rw [if_neg (by omega), if_neg (by omega)], rfl⟩
theorem stateR_ok (n a b : Int) (w : World) : Fx Tryz.prog 63 [.int .u64 n, .int .u64 a, .int .u64 b] w (fun u w' => u = .int .i64 (stateS n a b) ∧ w = w') := by
  refine enter Tryz.func63 rfl rfl rfl _ (Pick.sub (l := [0, 1, 2]) (.cons rfl (.cons rfl (.cons rfl .nil)))) ?_
  refine RK.seq ?_
  refine RK.region ?_
  refine RL.p rfl rfl ?_
  refine RL.done ?_
  refine RK.seq ?_
  refine RK.block ?_
  refine RK.seq ?_
  refine RK.region ?_
  iterate 4 refine RL.p rfl rfl ?_
  refine RL.done ?_
  first | refine RK.condD rfl (fun h10 => ?_) (fun h10 => ?_) | refine RK.condN rfl (fun h10 => ?_) (fun h10 => ?_) | refine RK.cond rfl (fun h10 => ?_) (fun h10 => ?_)
  · refine RK.seq ?_
    refine RK.region ?_
    refine RL.p rfl rfl ?_
    refine RL.done ?_
    refine RK.ret_of Tryz.func63 (res1 rfl rfl) ?_ _
    exact ⟨_, rfl, by unfold stateS; rw [if_pos (by omega)], rfl⟩
  · refine RK.seq ?_
    refine RK.region ?_
    iterate 4 refine RL.p rfl rfl ?_
    refine RL.done ?_
    first | refine RK.condD rfl (fun h14 => ?_) (fun h14 => ?_) | refine RK.condN rfl (fun h14 => ?_) (fun h14 => ?_) | refine RK.cond rfl (fun h14 => ?_) (fun h14 => ?_)
    · refine RK.seq ?_
      refine RK.region ?_
      refine RL.p rfl rfl ?_
      refine RL.done ?_
      refine RK.ret_of Tryz.func63 (res1 rfl rfl) ?_ _
      exact ⟨_, rfl, by unfold stateS; rw [if_neg (by omega), if_pos (by omega)], rfl⟩
    · refine RK.skip ?_
      refine RK.inBlock ?_
      refine RK.seq ?_
      refine RK.region ?_
      refine RL.p rfl rfl ?_
      refine RL.done ?_
      refine RK.ret_of Tryz.func63 (res1 rfl rfl) ?_ _
      exact ⟨_, rfl, by unfold stateS; rw [if_neg (by omega), if_neg (by omega)], rfl⟩
end Go.Proofs.YtbcbfjnlnmhpbaaGreat
set_option linter.unusedVariables false
set_option linter.unusedSimpArgs false
namespace Go.X
open Go Go.RowKit
section
variable {P : Program} {n : Nat} {e : Env} {w : World} {C : World → Prop}
end
end Go.X
set_option linter.unusedVariables false
set_option linter.unusedSimpArgs false
set_option maxHeartbeats 2000000
set_option maxRecDepth 100000
namespace Go.Proofs.YtbcbfjnlnmhpbaaGreat
open Go Go.X Go.Rex
structure Sil where
  id : Int
  ver : Int
  start : Int
  stop : Int
  mv : Value
  ms : List Mt
  bd : Bd
def silC (s : Sil) : List Value := [.int .i64 s.id, .int .i64 s.ver, .int .u64 s.start, .int .u64 s.stop, s.mv, .bool s.bd.all, .float .f64 s.bd.lo, .float .f64 s.bd.hi]
theorem silC_len (s : Sil) : (silC s).length = 8 := rfl
theorem silC_one {M : Nat → Prop} {w : World} {s : Sil} (h : SlM M w s.mv s.ms) : ((Value.agg (silC s).toArray).cells.toList.all fun x => x.oneCell') = true := by
  obtain ⟨ad, c, e⟩ := h.shape
  show (silC s).all _ = true
  unfold silC
  rw [e]; rfl
end Go.Proofs.YtbcbfjnlnmhpbaaGreat
set_option linter.unusedVariables false
set_option linter.unusedSimpArgs false
namespace Go.X
open Go Go.RowKit
structure IterAt {κ : Type} (enc : κ → Value) (w : World) (r m : Nat) (rest : List (κ × Value)) : Prop where
  out : ∃ es clock seen, w.heap[m]? = some (.map es clock) ∧ w.heap[r]? = some (.mapIter (some m) clock seen clock) ∧ (es.toList.map (·.born)).Nodup ∧ (∀ e ∈ es.toList, e.born < clock) ∧ (es.toList.filter fun e => !seen.contains e.born).map (fun e => (e.key, e.val)) = rest.map fun p => (enc p.1, p.2)
section
variable {P : Program} {n : Nat} {e : Env} {w : World} {κ : Type} {enc : κ → Value}
theorem Does.range {d : Option Tmp} {t kt el : Nat} {x : Operand} {ty : TypeId} {pos : String} {af : Array Edge} {g : Option (Nat × Bool)} (hT : P.underlying t = some (.map kt el)) {m : Nat} {l : List (κ × Value)} (hx : ev e x = some (.map (some m))) (hm : MapAt enc w m l) :
    Does P n e w ⟨d, .range t x, ty, pos, af, g⟩ (fun v w' => ∃ r, v = pp r ∧ IterAt enc w' r m l ∧ Grow w w' ∧ w.heap.size ≤ r) := by
  obtain ⟨es, c, h1, h2, h3, h4⟩ := hm.out
  refine Does.of_run (v := pp w.heap.size) (w' := w.alloc (.mapIter (some m) c #[] c)) (fun a ha => ?_) ⟨_, rfl, ⟨es, c, #[], ?_, heap_alloc_new w _, h3, h4, ?_⟩, Mod.alloc _ _ _, Nat.le_refl _⟩
  · have hg : (getObj m).run P w = .ok (.map es c) w := by simp [getObj, Sem.run, h1]
    simp [execOp, ha.ev hx, Instr.range, Sem.run_bind, run_underlying hT, hg, newObj, Sem.run, pp]
  · exact (Mod.alloc No w _).heap h1 (fun h => h)
  · rw [← h2]
    congr 1
    simp
end
end Go.X
set_option linter.unusedVariables false
set_option linter.unusedSimpArgs false
set_option maxHeartbeats 400000
namespace Go.Proofs.YtbcbfjnlnmhpbaaGreat
open Go Go.X
abbrev CRows := List (ByteArray × List Int)
abbrev CKeys := List (Int × ByteArray)
def addC (rows : CRows) (k : ByteArray) (id : Int) : CRows := putM rows k (mkRow ((lookM rows k).getD [] ++ [id]))
def cutC (rows : CRows) (k : ByteArray) (id : Int) : CRows := if cutRow ((lookM rows k).getD []) id = [] then cutM (putM rows k (cutRow ((lookM rows k).getD []) id)) k else putM rows k (cutRow ((lookM rows k).getD []) id)
def dropC (c : CRows × CKeys) (id : Int) : CRows × CKeys := match lookM c.2 id with
  | none => c
  | some k => (cutC c.1 k id, cutM c.2 id)
def putC (c : CRows × CKeys) (id : Int) (s : Bool) (k : ByteArray) : CRows × CKeys := if s = true then (addC (dropC c id).1 k id, putM (dropC c id).2 id k) else dropC c id
structure CI (c : CRows × CKeys) : Prop where
  nk : (c.2.map (·.1)).Nodup
  nr : (c.1.map (·.1)).Nodup
  row : ∀ t ∈ c.1, Ris t.2 ∧ t.2 ≠ []
  mem : ∀ k id, id ∈ (lookM c.1 k).getD [] ↔ lookM c.2 id = some k
theorem CI.nil : CI ([], []) := ⟨by simp, by simp, by simp, by simp [lookM, placeM]⟩
theorem lookC_add (rows : CRows) (k k' : ByteArray) (id j : Int) : j ∈ (lookM (addC rows k id) k').getD [] ↔ j ∈ (lookM rows k').getD [] ∨ j = id ∧ k' = k := by
  unfold addC
  rw [lookM_putM]
  by_cases hk : k' = k
  · subst hk; simp [mem_mkRow]
  · rw [if_neg hk]; simp [hk]
theorem lookC_cut {rows : CRows} (h : (rows.map (·.1)).Nodup) (k k' : ByteArray) (id j : Int) : j ∈ (lookM (cutC rows k id) k').getD [] ↔ j ∈ (lookM rows k').getD [] ∧ ¬ (j = id ∧ k' = k) := by
  have hp := putM_nodup (k := k) (v := cutRow ((lookM rows k).getD []) id) h
  have e : (lookM (cutC rows k id) k').getD [] = if k' = k then cutRow ((lookM rows k).getD []) id else (lookM rows k').getD [] := by
    unfold cutC
    split
    · rename_i h0
      rw [lookM_cutM hp, lookM_putM]
      split
      · simp [h0]
      · rfl
    · rw [lookM_putM]
      split <;> rfl
  rw [e]
  by_cases hk : k' = k
  · subst hk; simp [mem_cutRow]
  · rw [if_neg hk]; simp [hk]
theorem addC_rows {rows : CRows} (hr : ∀ t ∈ rows, Ris t.2 ∧ t.2 ≠ []) (k : ByteArray) (id : Int) : ∀ t ∈ addC rows k id, Ris t.2 ∧ t.2 ≠ [] := fun t ht => by
  rcases mem_putM ht with h1 | rfl
  · exact hr t h1
  · exact ⟨mkRow_ris _, mkRow_ne (x := id) (by simp)⟩
theorem cutC_rows {rows : CRows} (hn : (rows.map (·.1)).Nodup) (hr : ∀ t ∈ rows, Ris t.2 ∧ t.2 ≠ []) (k : ByteArray) (id : Int) : ((cutC rows k id).map (·.1)).Nodup ∧ ∀ t ∈ cutC rows k id, Ris t.2 ∧ t.2 ≠ [] := by
  have hp := putM_nodup (k := k) (v := cutRow ((lookM rows k).getD []) id) hn
  unfold cutC
  split
  · refine ⟨cutM_nodup hp, fun t ht => ?_⟩
    obtain ⟨h1, h2⟩ := (mem_cutM hp).1 ht
    rcases mem_putM h1 with h3 | rfl
    · exact hr t h3
    · exact absurd rfl h2
  · rename_i hne
    refine ⟨hp, fun t ht => ?_⟩
    rcases mem_putM ht with h3 | rfl
    · exact hr t h3
    · exact ⟨cutRow_ris _ _, hne⟩
theorem dropC_look {c : CRows × CKeys} (h : CI c) (id j : Int) : lookM (dropC c id).2 j = if j = id then none else lookM c.2 j := by
  unfold dropC
  cases hk : lookM c.2 id with
  | none =>
    simp only
    split
    · rename_i e; rw [e]; exact hk
    · rfl
  | some k => exact lookM_cutM h.nk
theorem CI.drop {c : CRows × CKeys} (h : CI c) (id : Int) : CI (dropC c id) := by
  have hl := dropC_look h id
  unfold dropC at hl ⊢
  cases hk : lookM c.2 id with
  | none => exact h
  | some k =>
    rw [hk] at hl
    obtain ⟨h1, h2⟩ := cutC_rows h.nr h.row k id
    refine ⟨cutM_nodup h.nk, h1, h2, fun k' j => ?_⟩
    have h3 := hl j
    simp only at h3 ⊢
    rw [lookC_cut h.nr, h.mem, h3]
    by_cases e : j = id
    · subst e
      rw [hk]
      simp only [true_and, if_true, Option.some.injEq, reduceCtorEq, iff_false]
      intro hh
      exact hh.2 hh.1.symm
    · simp [e]
theorem putC_look {c : CRows × CKeys} (h : CI c) (id : Int) (s : Bool) (k : ByteArray) (j : Int) : lookM (putC c id s k).2 j = if j = id then (if s = true then some k else none) else lookM c.2 j := by
  unfold putC
  cases s with
  | true =>
    simp only [if_true]
    rw [lookM_putM, dropC_look h]
    by_cases e : j = id <;> simp [e]
  | false =>
    simp only [Bool.false_eq_true, if_false]
    rw [dropC_look h]
theorem CI.put {c : CRows × CKeys} (h : CI c) (id : Int) (s : Bool) (k : ByteArray) : CI (putC c id s k) := by
  have hd := h.drop id
  have hl := putC_look h id s k
  unfold putC at hl ⊢
  cases s with
  | false => exact hd
  | true =>
    simp only [if_true] at hl ⊢
    refine ⟨putM_nodup hd.nk, putM_nodup hd.nr, addC_rows hd.row _ _, fun k' j => ?_⟩
    have h3 := hl j
    simp only at h3 ⊢
    rw [lookC_add, hd.mem, h3, dropC_look h]
    by_cases e : j = id
    · subst e; simp [eq_comm]
    · simp [e]
def CB (c : CRows × CKeys) (B : Nat) : Prop := (∀ t ∈ c.1, t.2.length ≤ B) ∧ c.2.length ≤ B
theorem CB.nil : CB ([], []) 0 := ⟨by simp, by simp⟩
theorem CB.look {c : CRows × CKeys} {B : Nat} (h : CB c B) (k : ByteArray) : ((lookM c.1 k).getD []).length ≤ B := by
  cases hl : lookM c.1 k with
  | none => simp
  | some a => exact h.1 _ (lookM_mem hl)
theorem cutM_len {κ α : Type} [DecidableEq κ] (k : κ) (l : List (κ × α)) : (cutM l k).length ≤ l.length := (cutM_sub k l).length_le
theorem CB.drop {c : CRows × CKeys} {B : Nat} (h : CB c B) (id : Int) : CB (dropC c id) B := by
  unfold dropC
  cases hk : lookM c.2 id with
  | none => exact h
  | some k =>
    refine ⟨fun t ht => ?_, Nat.le_trans (cutM_len _ _) h.2⟩
    have hp : ∀ t ∈ putM c.1 k (cutRow ((lookM c.1 k).getD []) id), t.2.length ≤ B := fun t ht => by
      rcases mem_putM ht with h1 | rfl
      · exact h.1 t h1
      · exact Nat.le_trans (cutRow_le _ _) (h.look k)
    simp only [cutC] at ht
    split at ht
    · exact hp t (mem_cutM' ht)
    · exact hp t ht
theorem CB.put {c : CRows × CKeys} {B : Nat} (h : CB c B) (id : Int) (s : Bool) (k : ByteArray) : CB (putC c id s k) (B + 1) := by
  have hd := h.drop id
  unfold putC
  cases s with
  | false => exact ⟨fun t ht => Nat.le_succ_of_le (hd.1 t ht), Nat.le_succ_of_le hd.2⟩
  | true =>
    simp only [if_true]
    refine ⟨fun t ht => ?_, ?_⟩
    · rcases mem_putM ht with h1 | rfl
      · exact Nat.le_succ_of_le (hd.1 t h1)
      · have h1 := mkRow_le ((lookM (dropC c id).1 k).getD [] ++ [id])
        have h2 := hd.look k
        simp at h1 ⊢
        omega
    · have h2 := hd.2
      rw [putM_len]
      split <;> omega
end Go.Proofs.YtbcbfjnlnmhpbaaGreat
set_option linter.unusedVariables false
set_option linter.unusedSimpArgs false
set_option maxHeartbeats 400000
namespace Go.Proofs.YtbcbfjnlnmhpbaaGreat
open Go Go.X
section
variable {α : Type} (idf : α → Int) (src : α → Bool) (key : α → ByteArray)
def leftA (all : List α) (id : Int) : List α := all.filter fun a => decide (idf a ≠ id)
structure CR (c : CRows × CKeys) (all : List α) : Prop where
  ci : CI c
  nd : (all.map idf).Nodup
  look : ∀ id k, lookM c.2 id = some k ↔ ∃ a ∈ all, idf a = id ∧ src a = true ∧ key a = k
end
section
variable {α : Type} {idf : α → Int} {src : α → Bool} {key : α → ByteArray} {c : CRows × CKeys} {all : List α}
theorem CR.nil : CR idf src key ([], []) [] := ⟨CI.nil, by simp, by simp [lookM, placeM]⟩
theorem mem_leftA {id : Int} {a : α} : a ∈ leftA idf all id ↔ a ∈ all ∧ idf a ≠ id := by simp [leftA]
theorem leftA_nd (h : (all.map idf).Nodup) (id : Int) : ((leftA idf all id).map idf).Nodup := h.sublist (List.filter_sublist.map _)
theorem CR.drop (h : CR idf src key c all) (id : Int) : CR idf src key (dropC c id) (leftA idf all id) := by
  refine ⟨h.ci.drop id, leftA_nd h.nd id, fun j k => ?_⟩
  rw [dropC_look h.ci]
  by_cases e : j = id
  · rw [if_pos e]
    simp only [reduceCtorEq, false_iff]
    rintro ⟨a, ha, e1, _⟩
    exact (mem_leftA.1 ha).2 (e1.trans e)
  · rw [if_neg e, h.look]
    constructor
    · rintro ⟨a, ha, e1, e2⟩
      exact ⟨a, mem_leftA.2 ⟨ha, fun e3 => e (e1 ▸ e3)⟩, e1, e2⟩
    · rintro ⟨a, ha, e1, e2⟩
      exact ⟨a, (mem_leftA.1 ha).1, e1, e2⟩
theorem CR.put (h : CR idf src key c all) (a : α) : CR idf src key (putC c (idf a) (src a) (key a)) (leftA idf all (idf a) ++ [a]) := by
  refine ⟨h.ci.put _ _ _, ?_, fun j k => ?_⟩
  · rw [List.map_append, List.nodup_append]
    refine ⟨leftA_nd h.nd _, by simp, fun x hx y hy e => ?_⟩
    simp only [List.map_cons, List.map_nil, List.mem_singleton] at hy
    obtain ⟨b, hb, e2⟩ := List.mem_map.1 hx
    exact (mem_leftA.1 hb).2 (e2.trans (e.trans hy))
  · rw [putC_look h.ci]
    by_cases e : j = idf a
    · subst e
      simp only [if_true]
      constructor
      · intro h1
        cases hs : src a with
        | false => rw [hs] at h1; simp at h1
        | true =>
          rw [hs] at h1
          simp only [if_true, Option.some.injEq] at h1
          exact ⟨a, by simp, rfl, hs, h1⟩
      · rintro ⟨b, hb, e1, e2, e3⟩
        rcases List.mem_append.1 hb with hb | hb
        · exact absurd e1 (mem_leftA.1 hb).2
        · rw [List.mem_singleton] at hb
          subst hb
          rw [if_pos e2, e3]
    · rw [if_neg e, h.look]
      constructor
      · rintro ⟨b, hb, e1, e2⟩
        exact ⟨b, List.mem_append_left _ (mem_leftA.2 ⟨hb, fun e3 => e (e1 ▸ e3)⟩), e1, e2⟩
      · rintro ⟨b, hb, e1, e2⟩
        rcases List.mem_append.1 hb with hb | hb
        · exact ⟨b, (mem_leftA.1 hb).1, e1, e2⟩
        · rw [List.mem_singleton] at hb
          exact absurd (hb ▸ e1).symm e
def rowC (c : CRows × CKeys) (k : ByteArray) : List Int := mkRow ((lookM c.1 k).getD [])
theorem rowC_ris (c : CRows × CKeys) (k : ByteArray) : Ris (rowC c k) := mkRow_ris _
theorem CI.mem_row (h : CI c) (k : ByteArray) (j : Int) : j ∈ rowC c k ↔ lookM c.2 j = some k := by unfold rowC; rw [mem_mkRow, h.mem]
theorem CR.mem_row (h : CR idf src key c all) (k : ByteArray) (j : Int) : j ∈ rowC c k ↔ ∃ a ∈ all, idf a = j ∧ src a = true ∧ key a = k := by rw [h.ci.mem_row, h.look]
theorem keys_nil {l : CKeys} (h : ∀ j k, lookM l j ≠ some k) : l = [] := by
  cases l with
  | nil => rfl
  | cons t l => exact absurd (by rw [lookM_cons, if_pos rfl]) (h t.1 t.2)
theorem CI.empty (h : CI c) (h2 : c.2 = []) : c.1 = [] := by
  cases hc : c.1 with
  | nil => rfl
  | cons t l =>
    have ht : t ∈ c.1 := by rw [hc]; simp
    obtain ⟨_, hne⟩ := h.row t ht
    obtain ⟨j, hj⟩ := List.exists_mem_of_ne_nil _ hne
    have hl : lookM c.1 t.1 = some t.2 := (lookM_iff h.nr).2 ht
    have := (h.mem t.1 j).1 (by rw [hl]; exact hj)
    rw [h2] at this
    simp [lookM, placeM] at this
theorem CR.empty (h : CR idf src key c []) : c.1 = [] ∧ c.2 = [] := by
  have h2 : c.2 = [] := keys_nil fun j k e => by
    obtain ⟨a, ha, _⟩ := (h.look j k).1 e
    cases ha
  exact ⟨h.ci.empty h2, h2⟩
end
end Go.Proofs.YtbcbfjnlnmhpbaaGreat
set_option linter.unusedVariables false
set_option linter.unusedSimpArgs false
set_option maxHeartbeats 1000000
set_option maxRecDepth 100000
namespace Go.Proofs.YtbcbfjnlnmhpbaaGreat
open Go Go.X Go.Rex
theorem cloneM_ok (M : Nat → Prop) (xs : List Mt) (v : Value) (w : World) (hv : SlM M w v xs) (hb : xs.length ≤ 1000000) :
    Fx Tryz.prog 48 [v] w (fun u w' => Row w' 108 3 u xs.length (xs.flatMap mtC) ∧ Fresh w.heap.size u ∧ Grow w w') := by
  obtain ⟨ad, c, b, o, rfl, hf⟩ := hv.open
  refine enter Tryz.func48 rfl rfl rfl _ (Pick.sub (l := [0]) (.cons rfl .nil)) ?_
  refine RK.seq ?_
  refine RK.region ?_
  refine RL.p rfl rfl ?_
  refine RL.done ?_
  iterate 2 refine RK.seq ?_
  refine RK.region ?_
  refine RL.p rfl rfl ?_
  refine RL.q (.free rfl) rfl rfl (Yld.eqNil u28 rfl rfl) ?_
  refine RL.done ?_
  first | refine RK.condD rfl (fun h4 => ?_) (fun h4 => ?_) | refine RK.condN rfl (fun h4 => ?_) (fun h4 => ?_) | refine RK.cond rfl (fun h4 => ?_) (fun h4 => ?_)
  · refine RK.seq ?_
    refine RK.region ?_
    refine RL.p rfl rfl ?_
    refine RL.done ?_
    refine RK.ret_of Tryz.func48 (res1 rfl rfl) ?_ _
    exact ⟨_, rfl, by cases ad with | none => (have h0 : xs.length = 0 := by (rcases Nat.eq_zero_or_pos xs.length with h | h; exact h; exact absurd (hf h).1 (by simp))); have : xs = [] := List.eq_nil_of_length_eq_zero h0; subst this; exact ⟨Row.nil _ _ _, fun b hb => by simp [Value.ownBlock] at hb, Mod.refl _ _⟩ | some a => simp at h4⟩
  · refine RK.skip ?_
    refine RK.seq ?_
    refine RK.region ?_
    refine RL.op (.free rfl) rfl rfl (Does.slice0 u28 i108) ?_
    rintro _ w1 ⟨b1, rfl, hn1⟩
    refine RL.p rfl rfl ?_
    refine RL.op (.free rfl) rfl rfl (Does.append u28 i108 rfl rfl rfl rfl rfl (Row.new hn1 3 0 rfl (by omega)) ((hv.mod (Mod.any' hn1.grow)).noM) (allOne_mts xs) (by omega)) ?_
    rintro u w2 ⟨hr, hm, hu⟩
    refine RL.p rfl rfl ?_
    refine RL.done ?_
    refine RK.ret_of Tryz.func48 (res1 rfl rfl) ?_ _
    exact ⟨_, rfl, by simpa using hr, fun b hb => by rcases hu with hu | hu <;> rw [hu] at hb <;> simp [Value.ownBlock] at hb <;> (have := hn1.at_; have := hn1.size; omega), hn1.grow.then hm (fun x hx e => by simp [Value.ownBlock] at e; have := hn1.at_; omega)⟩
end Go.Proofs.YtbcbfjnlnmhpbaaGreat
set_option linter.unusedVariables false
set_option linter.unusedSimpArgs false
set_option maxHeartbeats 1600000
set_option maxRecDepth 100000
namespace Go.Proofs.YtbcbfjnlnmhpbaaGreat
open Go Go.X
theorem findZ1_ok (a : Sil) (ad : Option Addr) (n c : Nat) (ha : a.mv = .slice ad n c) (id : Int) (w : World) : Fx Tryz.prog 105 [.agg (silC a).toArray, .int .i64 id] w (fun u w' => u = .int .i64 (Lib.compareInt a.id id) ∧ Grow w w') := by
  obtain ⟨aid, ver, sta, sto, mv, ms, bd⟩ := a
  simp only at ha
  subst ha
  refine enter Tryz.func105 rfl rfl rfl _ (Pick.sub (l := [0, 1]) (.cons rfl (.cons rfl .nil))) ?_
  refine RK.seq ?_
  refine RK.region ?_
  refine RL.op (.free rfl) rfl rfl (Does.box rfl) ?_
  rintro _ w1 ⟨bx, rfl, hbx⟩
  refine RL.p rfl rfl ?_
  refine RL.done ?_
  refine RK.seq ?_
  refine RK.region ?_
  refine RL.q (.free rfl) rfl rfl (Yld.fieldAddr fo41_0 rfl) ?_
  refine RL.q (.free rfl) rfl rfl (Yld.load p3 rfl (at1 (hbx.blk.cell rfl))) ?_
  refine RL.p rfl rfl ?_
  refine RL.op (.free rfl) rfl rfl (Does.call rfl e106 (cmpInt_ok _ _ _)) ?_
  rintro _ _ ⟨rfl, rfl⟩
  refine RL.p rfl rfl ?_
  refine RL.done ?_
  refine RK.ret_of Tryz.func105 (res1 rfl rfl) ?_ _
  exact ⟨_, rfl, rfl, hbx.grow⟩
theorem bsZ_ok (al : List Sil) (id : Int) (v : Value) (w : World) (hv : Sl No w v 8 al.length (al.flatMap silC)) (hsh : ∀ a ∈ al, ∃ ad n c, a.mv = .slice ad n c) (hs : Ris (al.map (·.id))) (hb : al.length ≤ 1000000) :
    Fx Tryz.prog 104 [v, .int .i64 id, .func (.func 105) #[] #[]] w (fun u w' => (∃ i : Nat, i ≤ al.length ∧ (∀ t a, t < i → al[t]? = some a → a.id < id) ∧ (∀ t a, i ≤ t → al[t]? = some a → id ≤ a.id) ∧ u = .tuple #[.int .i64 i, .bool ((al.map (·.id))[i]? == some id)]) ∧ Grow w w') := by
  obtain ⟨ad, c, rfl⟩ := hv.shape
  have hris : ∀ (t t' : Nat) (a a' : Sil), t < t' → al[t]? = some a → al[t']? = some a' → a.id < a'.id := fun t t' a a' h h1 h2 => by
    have h3 := (List.getElem?_eq_some_iff.1 h1).1
    have h4 := (List.getElem?_eq_some_iff.1 h2).1
    have := List.pairwise_iff_getElem.1 hs t t' (by simpa using h3) (by simpa using h4) h
    simp only [List.getElem_map, (List.getElem?_eq_some_iff.1 h1).2, (List.getElem?_eq_some_iff.1 h2).2] at this
    exact this
  refine enter Tryz.func104 rfl rfl rfl _ (Pick.sub (l := [0, 1, 2]) (.cons rfl (.cons rfl (.cons rfl .nil)))) ?_
  refine RK.seq ?_
  refine RK.region ?_
  iterate 2 refine RL.p rfl rfl ?_
  refine RL.done ?_
  refine RK.seq ?_
  refine RK.region ?_
  refine RL.p rfl rfl ?_
  refine RL.q (.free rfl) rfl rfl (Yld.lenSl u44 rfl) ?_
  refine RL.p rfl rfl ?_
  refine RL.done ?_
  refine RK.seq ?_
  refine RK.region ?_
  iterate 3 refine RL.p rfl rfl ?_
  refine RL.done ?_
  refine RK.seq ?_
  refine RK.block ?_
  refine RK.loop (fun s : Nat × Nat => [(0, .slice ad al.length c), (1, .int .i64 id), (2, .func (.func 105) #[] #[]), (8, .int .i64 al.length), (9, .int .i64 (s.1 : Int)), (10, .int .i64 (s.2 : Int))]) (fun s w' => Grow w w' ∧ s.1 ≤ s.2 ∧ s.2 ≤ al.length ∧ (∀ t a, t < s.1 → al[t]? = some a → a.id < id) ∧ (∀ t a, s.2 ≤ t → al[t]? = some a → id ≤ a.id)) (fun s => s.2 - s.1) (0, al.length) ⟨rfl, rfl, rfl, rfl, rfl, rfl, trivial⟩ ⟨Mod.refl _ _, by simp, by simp, fun t a h => by simp only at h; omega, fun t a h h1 => by have := (List.getElem?_eq_some_iff.1 h1).1; simp only at h; omega⟩ (fun s w' hI ih => ?_)
  obtain ⟨i, j⟩ := s
  obtain ⟨hg, hij, hj, hlo, hhi⟩ := hI
  simp only at hij hj hlo hhi
  iterate 2 refine RK.seq ?_
  refine RK.region ?_
  iterate 3 refine RL.p rfl rfl ?_
  refine RL.done ?_
  first | refine RK.condD rfl (fun h17 => ?_) (fun h17 => ?_) | refine RK.condN rfl (fun h17 => ?_) (fun h17 => ?_) | refine RK.cond rfl (fun h17 => ?_) (fun h17 => ?_)
  · obtain ⟨m, hm⟩ : ∃ m, m = (i + j) >>> 1 := ⟨_, rfl⟩
    have hm2 : m = (i + j) / 2 := by rw [hm, Nat.shiftRight_eq_div_pow]
    obtain ⟨a, ha⟩ : ∃ a, al[m]? = some a := ⟨al[m]'(by omega), List.getElem?_eq_getElem (by omega)⟩
    obtain ⟨ada, na, ca, hsa⟩ := hsh a (List.mem_of_getElem? ha)
    obtain ⟨b1, o1, c1', he1, _, _, hc1⟩ := hv.elem silC_len ha
    cases he1
    refine RK.skip ?_
    refine RK.block ?_
    refine RK.seq ?_
    refine RK.region ?_
    iterate 3 refine RL.p rfl rfl ?_
    refine RL.re (d := 20) rfl rfl (add_i64 (z := ((i + j : Nat) : Int)) (by simp) (by omega) (by omega)) ?_
    refine RL.q (.free rfl) rfl rfl (Yld.convI Tryz.underlying3 Tryz.underlying198 rfl) ?_
    refine RL.re (d := 21) rfl rfl (congrArg (Value.int .u64) (wrap_u64 (x := i + j) (by omega))) ?_
    refine RL.q (.free rfl) rfl rfl (Yld.shr (a := i + j) (s := 1) rfl rfl (by decide)) ?_
    refine RL.q (.free rfl) rfl rfl (Yld.convI Tryz.underlying198 Tryz.underlying3 rfl) ?_
    refine RL.re (d := 23) rfl rfl ((congrArg (Value.int .i64) (wrap_i64 (x := (((i + j) >>> 1 : Nat) : Int)) (by omega) (by rw [← hm]; omega))).trans (by rw [← hm])) ?_
    refine RL.p rfl rfl ?_
    refine RL.done ?_
    refine RK.seq ?_
    refine RK.region ?_
    iterate 3 refine RL.p rfl rfl ?_
    refine RL.q (.free rfl) rfl rfl (Yld.indexAddrN u44 i41 rfl rfl (by omega)) ?_
    refine RL.q (.free rfl) rfl rfl (Yld.loadN (cs := silC a) a41 rfl (atN (fun q u hq => hg.cell (hc1 q u hq) (fun h => h)))) ?_
    refine RL.p rfl rfl ?_
    refine RL.op (.free rfl) rfl rfl (Does.callv rfl rfl e105 (findZ1_ok a ada na ca hsa id _)) ?_
    rintro _ w2 ⟨rfl, hg2⟩
    refine RL.p rfl rfl ?_
    refine RL.done ?_
    first | refine RK.condD rfl (fun h31 => ?_) (fun h31 => ?_) | refine RK.condN rfl (fun h31 => ?_) (fun h31 => ?_) | refine RK.cond rfl (fun h31 => ?_) (fun h31 => ?_)
    · have hlt := (cmp_lt _ _).1 h31
      refine RK.region ?_
      iterate 2 refine RL.p rfl rfl ?_
      refine RL.re (d := 33) rfl rfl (succ_i64 (by omega)) ?_
      refine RL.p rfl rfl ?_
      refine RL.done ?_
      refine RK.inBlock ?_
      exact RK.back (ih (m + 1, j) _ ⟨hg.trans hg2, by simp only; omega, hj, fun t a' ht hta => by simp only at ht; by_cases e : t = m; (subst e; rw [ha] at hta; cases hta; exact hlt); have := hris t m a' a (by omega) hta ha; omega, hhi⟩ (by simp only; omega)) ⟨rfl, rfl, rfl, rfl, rfl, rfl, trivial⟩
    · have hge : ¬ a.id < id := fun h => h31 ((cmp_lt _ _).2 h)
      refine RK.region ?_
      iterate 2 refine RL.p rfl rfl ?_
      refine RL.done ?_
      refine RK.inBlock ?_
      exact RK.back (ih (i, m) _ ⟨hg.trans hg2, by simp only; omega, by simp only; omega, hlo, fun t a' ht hta => by simp only at ht; by_cases e : t = m; (subst e; rw [ha] at hta; cases hta; omega); have := hris m t a a' (by omega) ha hta; omega⟩ (by simp only; omega)) ⟨rfl, rfl, rfl, rfl, rfl, rfl, trivial⟩
  · have hije : i = j := by omega
    refine RK.exit rfl ?_
    refine RK.seq ?_
    refine RK.region ?_
    iterate 5 refine RL.p rfl rfl ?_
    first | refine RL.splitD (d := 39) rfl rfl (fun h39 => ?_) (fun h39 => ?_) | refine RL.splitN (d := 39) rfl rfl (fun h39 => ?_) (fun h39 => ?_) | refine RL.split (d := 39) rfl rfl (fun h39 => ?_) (fun h39 => ?_)
    · obtain ⟨a, ha⟩ : ∃ a, al[i]? = some a := ⟨al[i]'(by omega), List.getElem?_eq_getElem (by omega)⟩
      obtain ⟨ada, na, ca, hsa⟩ := hsh a (List.mem_of_getElem? ha)
      obtain ⟨b1, o1, c1', he1, _, _, hc1⟩ := hv.elem silC_len ha
      cases he1
      iterate 3 refine RL.q (.yes rfl rfl rfl) rfl rfl (Yld.pure rfl) ?_
      refine RL.q (.yes rfl rfl rfl) rfl rfl (Yld.indexAddrN u44 i41 rfl rfl (by omega)) ?_
      refine RL.q (.yes rfl rfl rfl) rfl rfl (Yld.loadN (cs := silC a) a41 rfl (atN (fun q u hq => hg.cell (hc1 q u hq) (fun h => h)))) ?_
      refine RL.q (.yes rfl rfl rfl) rfl rfl (Yld.pure rfl) ?_
      refine RL.op (.yes rfl rfl rfl) rfl rfl (Does.callv rfl rfl e105 (findZ1_ok a ada na ca hsa id _)) ?_
      rintro _ w2 ⟨rfl, hg2⟩
      refine RL.q (.yes rfl rfl rfl) rfl rfl (Yld.pure rfl) ?_
      iterate 3 refine RL.p rfl rfl ?_
      refine RL.done ?_
      refine RK.ret_of Tryz.func104 (res2 rfl rfl rfl) ?_ _
      exact ⟨_, rfl, ⟨i, by omega, hlo, by subst hije; exact hhi, by
          have e1 : ((al.map (·.id))[i]? == some id) = decide (Lib.compareInt a.id id = 0) := by
            rw [List.getElem?_map, ha, Bool.eq_iff_iff]
            simp [cmp_eq]
          rw [e1]⟩, hg.trans hg2⟩
    · iterate 8 refine RL.no (.no rfl rfl rfl rfl) rfl rfl ?_
      iterate 3 refine RL.p rfl rfl ?_
      refine RL.done ?_
      refine RK.ret_of Tryz.func104 (res2 rfl rfl rfl) ?_ _
      exact ⟨_, rfl, ⟨i, by omega, hlo, by subst hije; exact hhi, by
          have e1 : (al.map (·.id))[i]? = none := by rw [List.getElem?_eq_none_iff]; simp; omega
          rw [e1]; rfl⟩, hg⟩
theorem allOne_sil {al : List Sil} (h : ∀ a ∈ al, ∃ ad n c, a.mv = .slice ad n c) : (al.flatMap silC).all (·.oneCell') = true := by
  rw [List.all_eq_true]
  intro u hu
  obtain ⟨a, ha, hu⟩ := List.mem_flatMap.1 hu
  obtain ⟨ad, n, c, e⟩ := h a ha
  simp only [silC, List.mem_cons, List.not_mem_nil, or_false] at hu
  rcases hu with rfl | rfl | rfl | rfl | rfl | rfl | rfl | rfl <;> first | rfl | (rw [e]; rfl)
theorem deleteZ_ok (al : List Sil) (i : Nat) (v : Value) (w : World) (hv : Row w 41 8 v al.length (al.flatMap silC)) (hsh : ∀ a ∈ al, ∃ ad n c, a.mv = .slice ad n c) (hi : i < al.length) (hb : al.length ≤ 1000000) :
    Fx Tryz.prog 57 [v, .int .i64 (i : Int), .int .i64 ((i + 1 : Nat) : Int)] w (fun u w' => Row w' 41 8 u (al.eraseIdx i).length ((al.eraseIdx i).flatMap silC) ∧ u.ownBlock = v.ownBlock ∧ Mod (fun b => v.ownBlock = some b) w w') := by
  obtain ⟨gb, cp, cs, rfl, hbk, hl, hkc, hcm, htk⟩ := hv.whole (by omega)
  have hmax : maxLen ≤ 9223372036854775807 := by decide
  have hnews : (cs.drop ((i + 1) * 8)).take ((al.length - (i + 1)) * 8) = (al.drop (i + 1)).flatMap silC := by
    rw [← flat_drop silC 8 silC_len, ← htk, List.drop_take]
    congr 1
    omega
  have hpre : cs.take (i * 8) = (al.take i).flatMap silC := by
    rw [← flat_take silC 8 silC_len, ← htk, List.take_take, Nat.min_eq_left (by omega)]
  have herase : (al.take i).flatMap silC ++ (al.drop (i + 1)).flatMap silC = (al.eraseIdx i).flatMap silC := by
    rw [List.eraseIdx_eq_take_drop_succ, List.flatMap_append]
  have hlen : (al.eraseIdx i).length = i + (al.length - (i + 1)) := by rw [List.length_eraseIdx]; simp [hi]; omega
  have hone : ((cs.drop ((i + 1) * 8)).take ((al.length - (i + 1)) * 8)).all (·.oneCell') = true := by
    rw [hnews]
    exact allOne_sil fun a ha => hsh a (List.mem_of_mem_drop ha)
  have hbd : ∀ w', Grow w w' → Blk w' gb 41 cs := fun w' h => hbk.mod h (fun h => h)
  refine enter Tryz.func57 rfl rfl rfl _ (Pick.sub (l := [0, 1, 2]) (.cons rfl (.cons rfl (.cons rfl .nil)))) ?_
  refine RK.seq ?_
  refine RK.region ?_
  refine RL.p rfl rfl ?_
  refine RL.done ?_
  refine RK.seq ?_
  refine RK.region ?_
  iterate 4 refine RL.p rfl rfl ?_
  refine RL.q (.free rfl) rfl rfl (Yld.lenSl u44 rfl) ?_
  refine RL.q (.free rfl) rfl rfl (Yld.slice3 u44 i41 (lo := i) (hi := i + 1) (mx := al.length) rfl rfl rfl rfl (by omega) (by omega) hkc) ?_
  refine RL.done ?_
  iterate 2 refine RK.seq ?_
  refine RK.region ?_
  iterate 3 refine RL.p rfl rfl ?_
  refine RL.done ?_
  refine RK.condF (hcF rfl (decide_eq_false (by omega))) ?_
  refine RK.skip ?_
  refine RK.seq ?_
  refine RK.region ?_
  refine RL.p rfl rfl ?_
  refine RL.q (.free rfl) rfl rfl (Yld.lenSl u44 rfl) ?_
  refine RL.p rfl rfl ?_
  refine RL.done ?_
  refine RK.seq ?_
  refine RK.drawM (· = gb) [(0, false), (1, false), (2, false), (3, false), (4, false), (5, false), (6, true), (7, false)] [] mixed (by kernel_rfl) ?_
  iterate 2 refine DL.p rfl rfl rfl ?_
  refine DL.qf rfl (.free rfl) rfl rfl (Yld.sliceHi u44 i41 (m := i) rfl rfl (by omega)) ?_
  iterate 2 refine DL.p rfl rfl rfl ?_
  refine DL.qf rfl (.free rfl) rfl rfl (Yld.sliceFrom u44 i41 (m := i + 1) rfl rfl (by omega)) ?_
  refine DL.op rfl (.free rfl) rfl rfl (Does.appendIn u44 i41 (m := al.length - (i + 1)) rfl rfl (hbd _ (Mod.drew No _)) hl (Sl.ofBlk (hbd _ (Mod.drew No _)) hl (by omega) (fun h => h) (by omega)) hone (by omega)) ?_
  rintro _ w3 ⟨rfl, ⟨cs3, hb3, hl3, ht3⟩, hm3, hs3⟩
  refine ⟨(Mod.drew _ _).trans hm3, ?_⟩
  refine DL.p rfl rfl rfl ?_
  refine DL.done ?_
  refine RK.seq ?_
  refine RK.region ?_
  iterate 2 refine RL.p rfl rfl ?_
  refine RL.q (.free rfl) rfl rfl (Yld.lenSl u44 rfl) ?_
  refine RL.p rfl rfl ?_
  refine RL.q (.free rfl) rfl rfl (Yld.sliceLH u44 i41 (lo := i + (al.length - (i + 1))) (hi := al.length) rfl rfl rfl (by omega) (by omega)) ?_
  refine RL.op' (.free rfl) rfl (Does.clear u44 i41 (cap := cp) (lo := i + (al.length - (i + 1))) (m := al.length - (i + (al.length - (i + 1)))) rfl (by simp [Value.cells, Value.oneCell']) rfl hb3 (by rw [hl3, hl]) (by omega)) ?_
  rintro _ w4 ⟨⟨cs4, hb4, hl4, ht4⟩, hm4, hs4⟩
  refine RL.done ?_
  refine RK.seq ?_
  refine RK.region ?_
  iterate 2 refine RL.p rfl rfl ?_
  refine RL.done ?_
  refine RK.ret_of Tryz.func57 (res1 rfl rfl) ?_ _
  exact ⟨_, rfl, by
      rw [ht3, hpre, hnews, herase] at ht4
      rw [← ht4, hlen]
      exact Row.shut hb4 (by rw [hl4, hl3, hl]) (by omega) hcm, rfl, (((Mod.drew _ _).trans hm3).trans hm4).mono fun b _ e => congrArg some e.symm⟩
theorem toldZ_ok (M : Nat → Prop) (now : Int) (a : Sil) (w : World) (ha : SlM M w a.mv a.ms) (hl : a.ms.length ≤ 1000000) : Fx Tryz.prog 55 [.int .u64 now, .agg (silC a).toArray] w (fun u w' => ∃ v', u = .agg (silC { a with ver := stateS now a.start a.stop, mv := v' }).toArray ∧ Row w' 108 3 v' a.ms.length (a.ms.flatMap mtC) ∧ Fresh w.heap.size v' ∧ Grow w w') := by
  obtain ⟨ad, c, e⟩ := ha.shape
  obtain ⟨aid, ver, sta, sto, mv, ms, bd⟩ := a
  simp only at ha hl e
  subst e
  refine enter Tryz.func55 rfl rfl rfl _ (Pick.sub (l := [0, 1]) (.cons rfl (.cons rfl .nil))) ?_
  refine RK.seq ?_
  refine RK.region ?_
  refine RL.op (.free rfl) rfl rfl (Does.box rfl) ?_
  rintro _ w1 ⟨b3, rfl, hn3⟩
  refine RL.op (.free rfl) rfl rfl (Does.alloc i41) ?_
  rintro _ w2 ⟨b4, rfl, hn4⟩
  have hB3 : Blk w2 b3 41 [.int .i64 aid, .int .i64 ver, .int .u64 sta, .int .u64 sto, .slice ad ms.length c, .bool bd.all, .float .f64 bd.lo, .float .f64 bd.hi] := hn3.blk.mod hn4.grow (fun h => h)
  have hg2 := hn3.grow.trans hn4.grow
  refine RL.done ?_
  refine RK.seq ?_
  refine RK.region ?_
  refine RL.p rfl rfl ?_
  refine RL.q (.free rfl) rfl rfl (Yld.fieldAddr fo41_2 rfl) ?_
  refine RL.q (.free rfl) rfl rfl (Yld.load p22 rfl (at1 (hB3.cell rfl))) ?_
  refine RL.q (.free rfl) rfl rfl (Yld.fieldAddr fo41_3 rfl) ?_
  refine RL.q (.free rfl) rfl rfl (Yld.load p22 rfl (at1 (hB3.cell rfl))) ?_
  refine RL.op (.free rfl) rfl rfl (Does.call rfl e51 (state_ok now sta sto _)) ?_
  rintro _ _ ⟨rfl, rfl⟩
  refine RL.q (.free rfl) rfl rfl (Yld.fieldAddr fo41_1 rfl) ?_
  refine RL.op' (.free rfl) rfl (Does.store i3 rfl rfl rfl hB3 (.s .z)) ?_
  rintro _ w3 ⟨hb3, hm3, hs3⟩
  have hg3 : Grow w w3 := hg2.then hm3 (fun y hy e => by have e' : y = b3 := e; have := hn3.at_; omega)
  refine RL.done ?_
  refine RK.seq ?_
  refine RK.region ?_
  refine RL.q (.free rfl) rfl rfl (Yld.fieldAddr fo41_4 rfl) ?_
  refine RL.q (.free rfl) rfl rfl (Yld.load p28 rfl (at1 (hb3.cell rfl))) ?_
  refine RL.op (.free rfl) rfl rfl (Does.call rfl e48 (cloneM_ok M ms _ _ (ha.mod (Mod.any' hg3)) hl)) ?_
  rintro u5 w5 ⟨hr5, hf5, hg5⟩
  obtain ⟨ad5, c5, rfl⟩ := hr5.slice
  have hlt5 := fun b e => hr5.lt (b := b) e
  have ha3 := hn3.at_
  have ha4 := hn4.at_
  have hz3 := hn3.size
  have hz4 := hn4.size
  have hz5 := hg5.size
  refine RL.q (.free rfl) rfl rfl (Yld.fieldAddr fo41_4 rfl) ?_
  refine RL.op' (.free rfl) rfl (Does.store i28 rfl rfl rfl (hb3.mod hg5 (fun h => h)) (.s (.s (.s (.s .z))))) ?_
  rintro _ w6 ⟨hb6, hm6, hs6⟩
  have hB4 := ((hn4.blk.mod hm3 (fun e => by have e' : b4 = b3 := e; omega)).mod hg5 (fun h => h)).mod hm6 (fun e => by have e' : b4 = b3 := e; omega)
  refine RL.done ?_
  refine RK.seq ?_
  refine RK.region ?_
  refine RL.q (.free rfl) rfl rfl (Yld.loadN (cs := silC ⟨aid, stateS now sta sto, sta, sto, .slice ad5 ms.length c5, ms, bd⟩) a41 rfl (atN (blk0' hb6))) ?_
  refine RL.op' (.free rfl) rfl (Does.storeN i41 rfl rfl rfl rfl hB4 (Nat.le_refl 8)) ?_
  rintro _ w7 ⟨hb7, hm7, hs7⟩
  refine RL.done ?_
  refine RK.ret_of Tryz.func55 (resC (cs := silC ⟨aid, stateS now sta sto, sta, sto, .slice ad5 ms.length c5, ms, bd⟩) rfl rfl a41 hb7) ?_ _
  exact ⟨_, rfl, .slice ad5 ms.length c5, rfl, (hr5.mod hm6 (fun b e h => by have := hf5 b e; have h' : b = b3 := h; omega)).mod hm7 (fun b e h => by have := hf5 b e; have h' : b = b4 := h; omega), fun b e => by have := hf5 b e; omega, ((hg3.trans hg5).then hm6 (fun y hy e => by have e' : y = b3 := e; omega)).then hm7 (fun y hy e => by have e' : y = b4 := e; omega)⟩
end Go.Proofs.YtbcbfjnlnmhpbaaGreat
set_option linter.unusedVariables false
set_option linter.unusedSimpArgs false
set_option maxHeartbeats 1600000
set_option maxRecDepth 100000
namespace Go.Proofs.YtbcbfjnlnmhpbaaGreat
open Go Go.X
def spanS (now a b : Int) : Bool := decide (a < b) && decide (now < b) && decide (b ≤ 1099511627776)
theorem spanZ_ok (now a b : Int) (w : World) : Fx Tryz.prog 98 [.int .u64 now, .int .u64 a, .int .u64 b] w (fun u w' => u = .bool (spanS now a b) ∧ w = w') := by
  refine enter Tryz.func98 rfl rfl rfl _ (Pick.sub (l := [0, 1, 2]) (.cons rfl (.cons rfl (.cons rfl .nil)))) ?_
  refine RK.seq ?_
  refine RK.region ?_
  refine RL.p rfl rfl ?_
  refine RL.done ?_
  refine RK.seq ?_
  refine RK.region ?_
  iterate 4 refine RL.p rfl rfl ?_
  first | refine RL.splitD (d := 10) rfl rfl (fun h1 => ?_) (fun h1 => ?_) | refine RL.splitN (d := 10) rfl rfl (fun h1 => ?_) (fun h1 => ?_) | refine RL.split (d := 10) rfl rfl (fun h1 => ?_) (fun h1 => ?_)
  · iterate 3 refine RL.q (.yes rfl rfl rfl) rfl rfl (Yld.pure rfl) ?_
    iterate 2 refine RL.p rfl rfl ?_
    first | refine RL.splitD (d := 15) rfl rfl (fun h2 => ?_) (fun h2 => ?_) | refine RL.splitN (d := 15) rfl rfl (fun h2 => ?_) (fun h2 => ?_) | refine RL.split (d := 15) rfl rfl (fun h2 => ?_) (fun h2 => ?_)
    · iterate 2 refine RL.q (.yes rfl rfl rfl) rfl rfl (Yld.pure rfl) ?_
      iterate 2 refine RL.p rfl rfl ?_
      refine RL.done ?_
      refine RK.ret_of Tryz.func98 (res1 rfl rfl) ?_ _
      exact ⟨_, rfl, by unfold spanS; simp [h1, h2], rfl⟩
    · iterate 2 refine RL.no (.no rfl rfl rfl rfl) rfl rfl ?_
      iterate 2 refine RL.p rfl rfl ?_
      refine RL.done ?_
      refine RK.ret_of Tryz.func98 (res1 rfl rfl) ?_ _
      exact ⟨_, rfl, by unfold spanS; simp [h1, h2], rfl⟩
  · iterate 3 refine RL.no (.no rfl rfl rfl rfl) rfl rfl ?_
    iterate 2 refine RL.p rfl rfl ?_
    iterate 2 refine RL.no (.no rfl rfl rfl rfl) rfl rfl ?_
    iterate 2 refine RL.p rfl rfl ?_
    refine RL.done ?_
    refine RK.ret_of Tryz.func98 (res1 rfl rfl) ?_ _
    exact ⟨_, rfl, by unfold spanS; simp [h1], rfl⟩
def rightS (ms : List Mt) (bd : Bd) : Bool := (decide (0 < ms.length) && listM ms) && mayB bd
theorem rightZ_ok (M : Nat → Prop) (ms : List Mt) (v : Value) (bd : Bd) (w : World) (hv : SlM M w v ms) : Fx Tryz.prog 45 [v, .agg (bdC bd).toArray] w (fun u w' => u = .bool (rightS ms bd) ∧ Grow w w') := by
  obtain ⟨ad, c, rfl⟩ := hv.shape
  refine enter Tryz.func45 rfl rfl rfl _ (Pick.sub (l := [0, 1]) (.cons rfl (.cons rfl .nil))) ?_
  refine RK.seq ?_
  refine RK.region ?_
  refine RL.op (.free rfl) rfl rfl (Does.box rfl) ?_
  rintro _ w1 ⟨b3, rfl, hn3⟩
  refine RL.p rfl rfl ?_
  refine RL.done ?_
  refine RK.seq ?_
  refine RK.region ?_
  refine RL.p rfl rfl ?_
  refine RL.q (.free rfl) rfl rfl (Yld.lenSl u28 rfl) ?_
  iterate 2 refine RL.p rfl rfl ?_
  first | refine RL.splitD (d := 8) rfl rfl (fun h1 => ?_) (fun h1 => ?_) | refine RL.splitN (d := 8) rfl rfl (fun h1 => ?_) (fun h1 => ?_) | refine RL.split (d := 8) rfl rfl (fun h1 => ?_) (fun h1 => ?_)
  · refine RL.q (.yes rfl rfl rfl) rfl rfl (Yld.pure rfl) ?_
    refine RL.op (.yes rfl rfl rfl) rfl rfl (Does.call rfl e95 (matchList_ok M ms _ _ (hv.mod (Mod.any' hn3.grow)))) ?_
    rintro _ w2 ⟨rfl, hg2⟩
    have hB3 : Blk w2 b3 32 (bdC bd) := hn3.blk.mod hg2 (fun h => h)
    iterate 2 refine RL.p rfl rfl ?_
    first | refine RL.splitD (d := 12) rfl rfl (fun h2 => ?_) (fun h2 => ?_) | refine RL.splitN (d := 12) rfl rfl (fun h2 => ?_) (fun h2 => ?_) | refine RL.split (d := 12) rfl rfl (fun h2 => ?_) (fun h2 => ?_)
    · refine RL.q (.yes rfl rfl rfl) rfl rfl (Yld.loadN (cs := bdC bd) a32 rfl (atN (blk0' hB3))) ?_
      refine RL.op (.yes rfl rfl rfl) rfl rfl (Does.call rfl e96 (may_ok bd _)) ?_
      rintro _ w3 ⟨rfl, hg3⟩
      iterate 2 refine RL.p rfl rfl ?_
      refine RL.done ?_
      refine RK.ret_of Tryz.func45 (res1 rfl rfl) ?_ _
      exact ⟨_, rfl, by unfold rightS; rw [h2, decide_eq_true (by omega)]; rfl, (hn3.grow.trans hg2).trans hg3⟩
    · iterate 2 refine RL.no (.no rfl rfl rfl rfl) rfl rfl ?_
      iterate 2 refine RL.p rfl rfl ?_
      refine RL.done ?_
      refine RK.ret_of Tryz.func45 (res1 rfl rfl) ?_ _
      exact ⟨_, rfl, by unfold rightS; rw [show listM ms = false by simpa using h2]; simp, hn3.grow.trans hg2⟩
  · iterate 2 refine RL.no (.no rfl rfl rfl rfl) rfl rfl ?_
    iterate 2 refine RL.p rfl rfl ?_
    iterate 2 refine RL.no (.no rfl rfl rfl rfl) rfl rfl ?_
    iterate 2 refine RL.p rfl rfl ?_
    refine RL.done ?_
    refine RK.ret_of Tryz.func45 (res1 rfl rfl) ?_ _
    exact ⟨_, rfl, by unfold rightS; rw [decide_eq_false (by omega)]; rfl, hn3.grow⟩
def fitsS (now a b : Int) (ms : List Mt) : Int := if anyL ms = true then 7 else if spanS now a b = true then 0 else 8
theorem fitsZ_ok (M : Nat → Prop) (now a b : Int) (ms : List Mt) (v : Value) (w : World) (hv : SlM M w v ms) : Fx Tryz.prog 46 [.int .u64 now, .int .u64 a, .int .u64 b, v] w (fun u w' => u = .int .i64 (fitsS now a b ms) ∧ Grow w w') := by
  obtain ⟨ad, c, rfl⟩ := hv.shape
  refine enter Tryz.func46 rfl rfl rfl _ (Pick.sub (l := [0, 1, 2, 3]) (.cons rfl (.cons rfl (.cons rfl (.cons rfl .nil))))) ?_
  refine RK.seq ?_
  refine RK.region ?_
  refine RL.p rfl rfl ?_
  refine RL.done ?_
  refine RK.seq ?_
  refine RK.block ?_
  refine RK.seq ?_
  refine RK.region ?_
  refine RL.p rfl rfl ?_
  refine RL.op (.free rfl) rfl rfl (Does.call rfl e97 (matchAnyL_ok M ms _ _ hv)) ?_
  rintro _ w2 ⟨rfl, hg2⟩
  refine RL.p rfl rfl ?_
  refine RL.done ?_
  first | refine RK.condD rfl (fun h9 => ?_) (fun h9 => ?_) | refine RK.condN rfl (fun h9 => ?_) (fun h9 => ?_) | refine RK.cond rfl (fun h9 => ?_) (fun h9 => ?_)
  · refine RK.seq ?_
    refine RK.region ?_
    refine RL.p rfl rfl ?_
    refine RL.done ?_
    refine RK.ret_of Tryz.func46 (res1 rfl rfl) ?_ _
    exact ⟨_, rfl, by unfold fitsS; rw [if_pos h9], hg2⟩
  · refine RK.seq ?_
    refine RK.region ?_
    iterate 3 refine RL.p rfl rfl ?_
    refine RL.op (.free rfl) rfl rfl (Does.call rfl e98 (spanZ_ok now a b _)) ?_
    rintro _ _ ⟨rfl, rfl⟩
    iterate 2 refine RL.p rfl rfl ?_
    refine RL.done ?_
    first | refine RK.condD rfl (fun h12 => ?_) (fun h12 => ?_) | refine RK.condN rfl (fun h12 => ?_) (fun h12 => ?_) | refine RK.cond rfl (fun h12 => ?_) (fun h12 => ?_)
    · refine RK.seq ?_
      refine RK.region ?_
      refine RL.p rfl rfl ?_
      refine RL.done ?_
      refine RK.ret_of Tryz.func46 (res1 rfl rfl) ?_ _
      exact ⟨_, rfl, by unfold fitsS; rw [h9, show spanS now a b = false by simpa using h12]; rfl, hg2⟩
    · refine RK.skip ?_
      refine RK.inBlock ?_
      refine RK.seq ?_
      refine RK.region ?_
      refine RL.p rfl rfl ?_
      refine RL.done ?_
      refine RK.ret_of Tryz.func46 (res1 rfl rfl) ?_ _
      exact ⟨_, rfl, by unfold fitsS; rw [h9, show spanS now a b = true by simpa using h12]; rfl, hg2⟩
structure Slz where
  id : Int
  start : Int
  stop : Int
  ms : List Mt
  bd : Bd
def pubZ (a : Sil) : Slz := ⟨a.id, a.start, a.stop, a.ms, a.bd⟩
structure SS where
  ret : Int
  most : Int
  last : Int
  sl : List Slz
def ownS (p pl qu : Nat) (vp vq vs : Value) (b : Nat) : Prop := b = p ∨ b = pl ∨ b = qu ∨ vp.ownBlock = some b ∨ vq.ownBlock = some b ∨ vs.ownBlock = some b
structure ZA (w : World) (p : Nat) (s : SS) (M : Nat → Prop) (pl qu : Nat) (vp vq vs : Value) (al : List Sil) (q : List En) : Prop where
  blk : Blk w p 101 [pp pl, pp qu, .int .u64 s.ret, vs]
  pool : PoolAt w pl s.most s.last (al.map (·.id)) vp
  que : QAt w qu q vq
  row : Row w 41 8 vs al.length (al.flatMap silC)
  als : al.map pubZ = s.sl
  sms : ∀ a ∈ al, SlM M w a.mv a.ms
  sort : SortE q
  perm : q.Perm (al.map fun a => ⟨a.stop + s.ret, a.id⟩)
  ownM : ∀ b, ownS p pl qu vp vq vs b → M b
  ltM : ∀ b, M b → b < w.heap.size
def ZStore (O M : Nat → Prop) (w : World) (p : Nat) (s : SS) : Prop := ∃ pl qu vp vq vs al q, (∀ b, O b ↔ ownS p pl qu vp vq vs b) ∧ ZA w p s M pl qu vp vq vs al q
structure Gz (s : SS) : Prop where
  r0 : 1 ≤ s.ret
  r1 : s.ret ≤ 1048576
  m1 : s.most ≤ 12
  len : (s.sl.length : Int) ≤ s.most
  ris : Ris (s.sl.map (·.id))
  l0 : 0 ≤ s.last
  low : ∀ a ∈ s.sl, a.id ≤ s.last
  st : ∀ a ∈ s.sl, 0 ≤ a.stop ∧ a.stop ≤ 1099511627776
theorem Gz.le {s : SS} (h : Gz s) : s.sl.length ≤ 12 := by have := h.len; have := h.m1; omega
section
variable {w : World} {p : Nat} {s : SS} {M : Nat → Prop} {pl qu : Nat} {vp vq vs : Value} {al : List Sil} {q : List En}
theorem ZA.len (h : ZA w p s M pl qu vp vq vs al q) : al.length = s.sl.length := by rw [← h.als, List.length_map]
theorem ZA.ids (h : ZA w p s M pl qu vp vq vs al q) : al.map (·.id) = s.sl.map (·.id) := by rw [← h.als, List.map_map]; rfl
theorem ZA.qlen (h : ZA w p s M pl qu vp vq vs al q) : q.length = al.length := by rw [h.perm.length_eq, List.length_map]
theorem ZA.sh (h : ZA w p s M pl qu vp vq vs al q) : ∀ a ∈ al, ∃ ad n c, a.mv = .slice ad n c := fun a ha => by obtain ⟨ad, c, e⟩ := (h.sms a ha).shape; exact ⟨ad, _, c, e⟩
theorem ZA.own_lt (h : ZA w p s M pl qu vp vq vs al q) {b : Nat} (e : ownS p pl qu vp vq vs b) : b < w.heap.size := h.ltM b (h.ownM b e)
theorem ZA.ne_ppl (h : ZA w p s M pl qu vp vq vs al q) : p ≠ pl := h.blk.ty.ne h.pool.blk.ty rfl
theorem ZA.ne_plqu (h : ZA w p s M pl qu vp vq vs al q) : pl ≠ qu := h.pool.blk.ty.ne h.que.blk.ty rfl
theorem ZA.grow {w' : World} (h : ZA w p s M pl qu vp vq vs al q) (hg : Grow w w') : ZA w' p s M pl qu vp vq vs al q :=
  ⟨h.blk.mod hg (fun h => h), ⟨h.pool.blk.mod hg (fun h => h), h.pool.row.mod hg (fun _ _ h => h), h.pool.ne⟩, h.que.grow hg, h.row.mod hg (fun _ _ h => h), h.als, fun a ha => (h.sms a ha).mod (Mod.any' hg), h.sort, h.perm, h.ownM, fun b hb => Nat.lt_of_lt_of_le (h.ltM b hb) hg.size⟩
end
theorem ZStore.grow {O M : Nat → Prop} {w w' : World} {p : Nat} {s : SS} (h : ZStore O M w p s) (hg : Grow w w') : ZStore O M w' p s := by
  obtain ⟨pl, qu, vp, vq, vs, al, q, hO, h⟩ := h
  exact ⟨pl, qu, vp, vq, vs, al, q, hO, h.grow hg⟩
theorem ZStore.lt {O M : Nat → Prop} {w : World} {p : Nat} {s : SS} (h : ZStore O M w p s) : ∀ b, O b → b < w.heap.size := by
  obtain ⟨pl, qu, vp, vq, vs, al, q, hO, h⟩ := h
  exact fun b hb => h.own_lt ((hO b).1 hb)
def placeI (l : List Int) (id : Int) : Option Nat := l.findIdx? fun x => decide (x = id)
def placeZ (s : SS) (id : Int) : Option Nat := placeI (s.sl.map (·.id)) id
theorem placeI_eq (l : List Int) (id : Int) (i : Nat) (hs : Ris l) (hlo : ∀ (t : Nat) (x : Int), t < i → l[t]? = some x → x < id) (hhi : ∀ (t : Nat) (x : Int), i ≤ t → l[t]? = some x → id ≤ x) : placeI l id = if l[i]? = some id then some i else none := by
  unfold placeI
  split
  · rename_i he
    obtain ⟨hil, hv⟩ := List.getElem?_eq_some_iff.1 he
    rw [List.findIdx?_eq_some_iff_getElem]
    refine ⟨hil, by simpa using hv, fun j hj => ?_⟩
    have := hlo j _ hj (List.getElem?_eq_getElem (by omega))
    simp only [decide_eq_true_eq]
    omega
  · rename_i he
    rw [List.findIdx?_eq_none_iff]
    intro x hx
    obtain ⟨t, ht⟩ := List.getElem?_of_mem hx
    simp only [decide_eq_false_iff_not]
    intro e
    subst e
    have htl := (List.getElem?_eq_some_iff.1 ht).1
    rcases Nat.lt_trichotomy t i with h1 | h1 | h1
    · have := hlo t _ h1 ht; omega
    · subst h1; exact he ht
    · have h2 := hhi i _ (Nat.le_refl _) (List.getElem?_eq_getElem (by omega))
      have h3 := List.pairwise_iff_getElem.1 hs i t (by omega) htl h1
      rw [(List.getElem?_eq_some_iff.1 ht).2] at h3
      omega
theorem findZ_ok (w : World) (p : Nat) (s : SS) (M : Nat → Prop) (pl qu : Nat) (vp vq vs : Value) (al : List Sil) (q : List En) (h : ZA w p s M pl qu vp vq vs al q) (g : Gz s) (id : Int) :
    Fx Tryz.prog 54 [pp p, .int .i64 id] w (fun u w' => (∃ i : Nat, u = .tuple #[.int .i64 i, .bool (placeZ s id).isSome] ∧ (∀ j, placeZ s id = some j → j = i ∧ i < al.length)) ∧ Grow w w') := by
  have hlen := h.len
  have hle := g.le
  have hids := h.ids
  have hcall := bsZ_ok al id vs w (Sl.own h.row (fun _ _ h => h)) h.sh (by rw [hids]; exact g.ris) (by omega)
  obtain ⟨ad, c, rfl⟩ := h.row.slice
  refine enter Tryz.func54 rfl rfl rfl _ (Pick.sub (l := [0, 1]) (.cons rfl (.cons rfl .nil))) ?_
  refine RK.seq ?_
  refine RK.region ?_
  iterate 2 refine RL.p rfl rfl ?_
  refine RL.done ?_
  refine RK.seq ?_
  refine RK.region ?_
  iterate 2 refine RL.p rfl rfl ?_
  refine RL.q (.free rfl) rfl rfl (Yld.fieldAddr fo101_3 rfl) ?_
  refine RL.q (.free rfl) rfl rfl (Yld.load p44 rfl (at1 (h.blk.cell rfl))) ?_
  refine RL.p rfl rfl ?_
  refine RL.op (.free rfl) rfl rfl (Does.call rfl e104 (hcall)) ?_
  rintro _ w2 ⟨⟨i, hi, hlo, hhi, rfl⟩, hg2⟩
  have hp : placeZ s id = if (al.map (·.id))[i]? = some id then some i else none := by
      unfold placeZ
      rw [← hids]
      refine placeI_eq _ id i (by rw [hids]; exact g.ris) (fun t x ht hx => ?_) (fun t x ht hx => ?_)
      · rw [List.getElem?_map] at hx
        cases ha : al[t]? with
        | none => rw [ha] at hx; cases hx
        | some a => rw [ha] at hx; cases hx; exact hlo t a ht ha
      · rw [List.getElem?_map] at hx
        cases ha : al[t]? with
        | none => rw [ha] at hx; cases hx
        | some a => rw [ha] at hx; cases hx; exact hhi t a ht ha
  iterate 4 refine RL.p rfl rfl ?_
  refine RL.done ?_
  refine RK.ret_of Tryz.func54 (res2 rfl rfl rfl) ?_ _
  exact ⟨_, rfl, ⟨i, by
      rw [hp]
      by_cases he : (al.map (·.id))[i]? = some id
      · rw [if_pos he, he]; simp
      · rw [if_neg he, beq_eq_false_iff_ne.2 he]; rfl
    , fun j hj => by
      rw [hp] at hj
      split at hj
      · rename_i he
        cases hj
        have := (List.getElem?_eq_some_iff.1 he).1
        exact ⟨rfl, by simpa using this⟩
      · cases hj
    ⟩, hg2⟩
theorem set_sil (st sp : Int) : ∀ (al : List Sil) (i : Nat) (a : Sil), al[i]? = some a → ((al.flatMap silC).set (i * 8 + 2) (.int .u64 st)).set (i * 8 + 3) (.int .u64 sp) = (al.set i { a with start := st, stop := sp }).flatMap silC
  | [], i, a, h => by simp at h
  | x :: al, 0, a, h => by
    obtain rfl : x = a := by simpa using h
    simp only [List.flatMap_cons, silC, List.set_cons_zero]
    rfl
  | x :: al, i + 1, a, h => by
    have ih := set_sil st sp al i a (by simpa using h)
    rw [List.set_cons_succ, List.flatMap_cons, List.flatMap_cons, ← ih]
    rw [List.set_append_right _ _ (by rw [silC_len]; omega), List.set_append_right _ _ (by rw [silC_len]; omega), silC_len]
    congr 2
    · congr 1; omega
    · omega
end Go.Proofs.YtbcbfjnlnmhpbaaGreat
set_option linter.unusedVariables false
set_option linter.unusedSimpArgs false
set_option maxHeartbeats 1600000
set_option maxRecDepth 100000
namespace Go.Proofs.YtbcbfjnlnmhpbaaGreat
open Go Go.X
theorem turnZ_ok (w : World) (p pl qu : Nat) (ret start stop : Int) (vq vs : Value) (al : List Sil) (q : List En) (i : Nat) (a : Sil) (hb : Blk w p 101 [pp pl, pp qu, .int .u64 ret, vs]) (hq : QAt w qu q vq) (hs : SortE q) (hr : Row w 41 8 vs al.length (al.flatMap silC)) (ha : al[i]? = some a) (hql : q.length ≤ 1000) (hal : al.length ≤ 1000) (h0 : 0 ≤ stop + ret) (h1 : stop + ret < 18446744073709551616) :
    Fx Tryz.prog 49 [pp p, .int .i64 (i : Int), .int .u64 start, .int .u64 stop] w (fun u w' => u = .tuple #[] ∧ ∃ vq', Blk w' p 101 [pp pl, pp qu, .int .u64 ret, vs] ∧ QAt w' qu (putE (dropE q a.id) ⟨stop + ret, a.id⟩) vq' ∧ Row w' 41 8 vs al.length ((al.set i { a with start := start, stop := stop }).flatMap silC) ∧ Mod (fun b => b = qu ∨ vq.ownBlock = some b ∨ vs.ownBlock = some b) w w' ∧ ∀ b, vq'.ownBlock = some b → vq.ownBlock = some b ∨ w.heap.size ≤ b) := by
  have hil : i < al.length := (List.getElem?_eq_some_iff.1 ha).1
  obtain ⟨gb, cp, cs, rfl, hbk, hl, hkc, hcm, htk⟩ := hr.whole (by omega)
  have hpg : p ≠ gb := hb.ty.ne hbk.ty rfl
  have hgq : gb ≠ qu := hbk.ty.ne hq.blk.ty rfl
  have hpq : p ≠ qu := hb.ty.ne hq.blk.ty rfl
  have hgv : ∀ b, vq.ownBlock = some b → b ≠ gb := fun b e => (hq.row.ty e).ne hbk.ty rfl
  have hpv : ∀ b, vq.ownBlock = some b → b ≠ p := fun b e => (hq.row.ty e).ne hb.ty rfl
  refine enter Tryz.func49 rfl rfl rfl _ (Pick.sub (l := [0, 1, 2, 3]) (.cons rfl (.cons rfl (.cons rfl (.cons rfl .nil))))) ?_
  refine RK.seq ?_
  refine RK.drawM (· = gb) [(0, false), (1, false), (2, false), (3, false), (4, false), (5, false), (6, false), (7, false), (8, false), (9, false), (10, false), (11, false), (12, false), (13, false), (14, true), (15, false), (16, false), (17, true)] [14, 17] mixed (by kernel_rfl) ?_
  iterate 2 refine DL.p rfl rfl rfl ?_
  refine DL.qf rfl (.free rfl) rfl rfl (Yld.fieldAddr fo101_3 rfl) ?_
  refine DL.q rfl (.free rfl) rfl rfl rfl (Yld.load p44 rfl (atM (hb.cell rfl) (hpg))) (Mod.drew _ _) ?_
  iterate 3 refine DL.p rfl rfl rfl ?_
  refine DL.qf rfl (.free rfl) rfl rfl (Yld.fieldAddr fo101_3 rfl) ?_
  refine DL.q rfl (.free rfl) rfl rfl rfl (Yld.load p44 rfl (atM (hb.cell rfl) (hpg))) (Mod.drew _ _) ?_
  iterate 3 refine DL.p rfl rfl rfl ?_
  refine DL.qf rfl (.free rfl) rfl rfl (Yld.indexAddrN u44 i41 rfl rfl (by omega)) ?_
  refine DL.qf rfl (.free rfl) rfl rfl (Yld.fieldAddr fo41_2 rfl) ?_
  refine DL.opT rfl (.free rfl) rfl rfl (Does.store i22 rfl rfl rfl (hbk.mod (Mod.drew No _) (fun h => h)) (SetAt.of (by rw [hl]; omega))) ?_
  rintro _ w2 ⟨hb2, hm2, hs2⟩
  refine DL.qf rfl (.free rfl) rfl rfl (Yld.indexAddrN u44 i41 rfl rfl (by omega)) ?_
  refine DL.qf rfl (.free rfl) rfl rfl (Yld.fieldAddr fo41_3 rfl) ?_
  refine DL.opT rfl (.free rfl) rfl rfl (Does.store i22 rfl rfl rfl hb2 (SetAt.of (by rw [List.length_set, hl]; omega))) ?_
  rintro _ w3 ⟨hb3, hm3, hs3⟩
  have hm03 : Mod (· = gb) w w3 := ((Mod.drew _ _).trans hm2).trans hm3
  have hbp3 := hb.mod hm03 hpg
  have hR : Row w3 41 8 (.slice (some ⟨gb, 0, none⟩) al.length cp) al.length ((al.set i { a with start := start, stop := stop }).flatMap silC) := by
      have hR := Row.shut hb3 (sz := 8) (cap := cp) (k := al.length) (by rw [List.length_set, List.length_set]; exact hl) hkc hcm
      rw [List.take_set, List.take_set, htk, Nat.zero_add, set_sil start stop al i a ha] at hR
      exact hR
  have hR2 : Row w3 41 8 (.slice (some ⟨gb, 0, none⟩) al.length cp) (al.set i { a with start := start, stop := stop }).length ((al.set i { a with start := start, stop := stop }).flatMap silC) := by rw [List.length_set]; exact hR
  have hx : (al.set i { a with start := start, stop := stop })[i]? = some { a with start := start, stop := stop } := by rw [List.getElem?_set_self hil]
  obtain ⟨b1, o1, c1', he1, _, _, hc1⟩ := (Sl.own (M := No) hR2 (fun _ _ h => h)).elem silC_len hx
  rw [List.length_set] at he1
  cases he1
  have hq3 := hq.mod hm03 hgq.symm (fun b e => hgv b e)
  refine DL.done ?_
  refine RK.drawM (fun b => b = qu ∨ vq.ownBlock = some b) [(0, false), (1, false), (2, false), (3, false), (4, false), (5, false), (6, false), (7, false), (8, false), (9, false), (10, false), (11, false), (12, false), (13, false), (14, false), (15, false), (16, false), (17, false), (18, true)] [] mixed (by kernel_rfl) ?_
  iterate 2 refine DL.p rfl rfl rfl ?_
  refine DL.qf rfl (.free rfl) rfl rfl (Yld.fieldAddr fo101_1 rfl) ?_
  refine DL.q rfl (.free rfl) rfl rfl rfl (Yld.load p98 rfl (atM (hbp3.cell rfl) ((fun e => e.elim hpq (fun e => hpv p e rfl))))) (Mod.drew _ _) ?_
  iterate 2 refine DL.p rfl rfl rfl ?_
  refine DL.qf rfl (.free rfl) rfl rfl (Yld.fieldAddr fo101_3 rfl) ?_
  refine DL.q rfl (.free rfl) rfl rfl rfl (Yld.load p44 rfl (atM (hbp3.cell rfl) ((fun e => e.elim hpq (fun e => hpv p e rfl))))) (Mod.drew _ _) ?_
  refine DL.p rfl rfl rfl ?_
  refine DL.qf rfl (.free rfl) rfl rfl (Yld.indexAddrN u44 i41 rfl rfl (by omega)) ?_
  refine DL.qf rfl (.free rfl) rfl rfl (Yld.fieldAddr fo41_0 rfl) ?_
  refine DL.q rfl (.free rfl) rfl rfl rfl (Yld.load p3 rfl (atM (hc1 0 _ rfl) ((fun e => e.elim hgq (fun e => hgv gb e rfl))))) (Mod.drew _ _) ?_
  iterate 3 refine DL.p rfl rfl rfl ?_
  refine DL.qf rfl (.free rfl) rfl rfl (Yld.fieldAddr fo101_2 rfl) ?_
  refine DL.q rfl (.free rfl) rfl rfl rfl (Yld.load p22 rfl (atM (hbp3.cell rfl) ((fun e => e.elim hpq (fun e => hpv p e rfl))))) (Mod.drew _ _) ?_
  refine DL.p rfl rfl rfl ?_
  refine DL.re (d := 41) rfl rfl (congrArg (Value.int .u64) (show _ = stop + ret by rw [IntKind.wrap_u64]; omega)) ?_
  refine DL.op rfl (.free rfl) rfl rfl (Does.call rfl e99 (reapPut_ok _ qu q vq (hq3.grow (Mod.drew No _)) hs a.id (stop + ret) (by omega))) ?_
  rintro _ w4 ⟨rfl, vq', hq4, hm4', hf4⟩
  have hm4 : Mod (fun b => b = qu ∨ vq.ownBlock = some b) w3 w4 := (Mod.drew _ _).trans hm4'
  refine ⟨hm4, ?_⟩
  have hz3 := hm03.size
  refine DL.done ?_
  refine RK.end_of Tryz.func49 (res0 rfl) ?_
  exact ⟨_, rfl, rfl, vq', hbp3.mod hm4 (fun e => e.elim hpq (fun e => hpv p e rfl)), hq4, hR.mod hm4 (fun b e h => by cases e; exact h.elim hgq (fun e => hgv gb e rfl)), (hm03.mono fun b _ e => .inr (.inr (by rw [e]; rfl))).trans (hm4.mono fun b _ e => e.elim .inl (fun e => .inr (.inl e))), fun b e => (hf4 b e).elim .inl (fun h => .inr (by simp only [World.drew] at h; omega))⟩
end Go.Proofs.YtbcbfjnlnmhpbaaGreat
set_option linter.unusedVariables false
set_option linter.unusedSimpArgs false
set_option maxHeartbeats 1600000
set_option maxRecDepth 100000
namespace Go.Proofs.YtbcbfjnlnmhpbaaGreat
open Go Go.X
def entZ (ret : Int) (a : Sil) : En := ⟨a.stop + ret, a.id⟩
theorem ZA.perm' {w : World} {p : Nat} {s : SS} {M : Nat → Prop} {pl qu : Nat} {vp vq vs : Value} {al : List Sil} {q : List En} (h : ZA w p s M pl qu vp vq vs al q) : q.Perm (al.map (entZ s.ret)) := h.perm
theorem ids_find {ret : Int} {al : List Sil} {i : Nat} {a : Sil} (hris : Ris (al.map (·.id))) (ha : al[i]? = some a) : (al.map (entZ ret)).findIdx? (fun x => decide (x.id = a.id)) = some i := by
  obtain ⟨hil, hv⟩ := List.getElem?_eq_some_iff.1 ha
  rw [List.findIdx?_eq_some_iff_getElem]
  refine ⟨by simpa using hil, by simp [hv, entZ], fun j hj => ?_⟩
  have h := List.pairwise_iff_getElem.1 hris j i (by simp; omega) (by simpa using hil) hj
  simp only [List.getElem_map, hv] at h
  simp only [List.getElem_map, entZ, decide_eq_true_eq]
  omega
theorem turn_perm {ret : Int} {al : List Sil} {q : List En} {i : Nat} {a a' : Sil} (hperm : q.Perm (al.map (entZ ret))) (hris : Ris (al.map (·.id))) (ha : al[i]? = some a) (hid : a'.id = a.id) : (putE (dropE q a.id) (entZ ret a')).Perm ((al.set i a').map (entZ ret)) := by
  have hil := (List.getElem?_eq_some_iff.1 ha).1
  have hd : (al.map (entZ ret)).Pairwise (fun x y => decide (x.id = a.id) = true → decide (y.id = a.id) = true → False) := by
    have hris := List.pairwise_map.1 hris
    rw [List.pairwise_map]
    refine hris.imp fun {x y} h h1 h2 => ?_
    have e1 : x.id = a.id := of_decide_eq_true h1
    have e2 : y.id = a.id := of_decide_eq_true h2
    omega
  have h1 := (List.Perm.eraseP (fun x : En => decide (x.id = a.id)) hd hperm.symm).symm
  rw [List.eraseP_eq_eraseIdx (xs := al.map (entZ ret)), ids_find hris ha] at h1
  refine (putE_perm _ _).trans ?_
  rw [List.map_set, List.set_eq_take_append_cons_drop, if_pos (by simpa using hil)]
  refine (List.Perm.cons _ h1).trans ?_
  simp only [List.eraseIdx_eq_take_drop_succ]
  exact List.perm_middle.symm
theorem dropE_none {q : List En} {id : Int} (h : ∀ x ∈ q, x.id ≠ id) : dropE q id = q := List.eraseP_of_forall_not fun x hx => by simpa using h x hx
theorem dropE_no {q : List En} {id : Int} {L : List En} (hp : q.Perm L) (hd : L.Pairwise fun x y => x.id ≠ y.id) : ∀ x ∈ dropE q id, x.id ≠ id := by
  have hd' : q.Pairwise fun x y => x.id ≠ y.id := (hp.pairwise_iff (fun {a b} h => fun e => h e.symm)).2 hd
  clear hd hp
  induction q with
  | nil => intro x hx; simp [dropE] at hx
  | cons y q ih =>
    rw [List.pairwise_cons] at hd'
    intro x hx
    unfold dropE at hx
    by_cases hy : y.id = id
    · rw [List.eraseP_cons_of_pos (by simpa using hy)] at hx
      have := hd'.1 x hx
      omega
    · rw [List.eraseP_cons_of_neg (by simpa using hy)] at hx
      rcases List.mem_cons.1 hx with rfl | hx
      · exact hy
      · exact ih hd'.2 x hx
theorem ids_ne {ret : Int} {al : List Sil} (hris : Ris (al.map (·.id))) : (al.map (entZ ret)).Pairwise fun x y => x.id ≠ y.id := by
  have hris := List.pairwise_map.1 hris
  rw [List.pairwise_map]
  exact hris.imp fun {x y} h e => by simp only [entZ] at e; omega
theorem turn_sort {ret : Int} {al : List Sil} {q : List En} {id due : Int} (hs : SortE q) (hperm : q.Perm (al.map (entZ ret))) (hris : Ris (al.map (·.id))) : SortE (putE (dropE q id) ⟨due, id⟩) :=
  putE_sort (dropE_sort hs id) fun h => dropE_no hperm (ids_ne hris) _ h rfl
theorem ZStore.next {M : Nat → Prop} {w w' : World} {p pl qu : Nat} {s' : SS} {vp vq vs : Value} {al : List Sil} {q : List En} (hM : ∀ b, M b → b < w.heap.size) (hm : Mod M w w')
    (blk : Blk w' p 101 [pp pl, pp qu, .int .u64 s'.ret, vs]) (pool : PoolAt w' pl s'.most s'.last (al.map (·.id)) vp) (que : QAt w' qu q vq) (row : Row w' 41 8 vs al.length (al.flatMap silC)) (als : al.map pubZ = s'.sl)
    (sms : ∀ a ∈ al, SlM M w a.mv a.ms ∨ (Row w' 108 3 a.mv a.ms.length (a.ms.flatMap mtC) ∧ ∀ b, a.mv.ownBlock = some b → w.heap.size ≤ b)) (sort : SortE q) (perm : q.Perm (al.map (entZ s'.ret))) (hO : ∀ b, ownS p pl qu vp vq vs b → M b ∨ w.heap.size ≤ b) :
    ZStore (ownS p pl qu vp vq vs) (fun b => M b ∨ ownS p pl qu vp vq vs b) w' p s' := by
  have hty : ∀ b, ownS p pl qu vp vq vs b → ∀ k, Ty w' k 108 → b ≠ k := fun b e k hk => by
    rcases e with rfl | rfl | rfl | e | e | e
    · exact blk.ty.ne hk rfl
    · exact pool.blk.ty.ne hk rfl
    · exact que.blk.ty.ne hk rfl
    · exact (pool.row.ty e).ne hk rfl
    · exact (que.row.ty e).ne hk rfl
    · exact (row.ty e).ne hk rfl
  refine ⟨pl, qu, vp, vq, vs, al, q, fun _ => Iff.rfl, blk, pool, que, row, als, fun a ha => ?_, sort, perm, fun b e => .inr e, fun b e => ?_⟩
  · rcases sms a ha with h | ⟨h, hf⟩
    · exact (h.off (by omega) (fun b hb e => e.elim id fun e => (hO b e).elim id fun e => by omega)).mod (hm.mono fun b _ e => .inl e)
    · refine Sl.own h fun k hk e => ?_
      have h1 := hf k hk
      rcases e with e | e
      · have := hM k e; omega
      · exact hty k e k (h.ty hk) rfl
  · rcases e with e | rfl | rfl | rfl | e | e | e
    · exact Nat.lt_of_lt_of_le (hM b e) hm.size
    · exact blk.lt
    · exact pool.blk.lt
    · exact que.blk.lt
    · exact pool.row.lt e
    · exact que.row.lt e
    · exact row.lt e
def clampS (x lo hi : Int) : Int := if hi < (if lo > x then lo else x) then hi else (if lo > x then lo else x)
theorem newZ_ok (m r : Int) (w : World) : Fx Tryz.prog 10 [.int .i64 m, .int .u64 r] w (fun u w' => ∃ p O, u = pp p ∧ ZStore O O w' p ⟨clampS r 1 1048576, clampS m 1 12, 0, []⟩ ∧ Grow w w' ∧ ∀ b, O b → w.heap.size ≤ b) := by
  refine enter Tryz.func10 rfl rfl rfl _ (Pick.sub (l := [0, 1]) (.cons rfl (.cons rfl .nil))) ?_
  refine RK.seq ?_
  refine RK.region ?_
  refine RL.p rfl rfl ?_
  refine RL.done ?_
  refine RK.seq ?_
  refine RK.region ?_
  refine RL.p rfl rfl ?_
  refine RL.q (.free rfl) rfl rfl (Yld.max2 rfl rfl) ?_
  refine RL.q (.free rfl) rfl rfl (Yld.min2 rfl rfl) ?_
  refine RL.op (.free rfl) rfl rfl (Does.call rfl e43 (poolNew_ok _ _)) ?_
  rintro _ w1 ⟨pl, rfl, hpa, hp1, hg1, hz1⟩
  refine RL.op (.free rfl) rfl rfl (Does.call rfl e44 (reapNew_ok _)) ?_
  rintro _ w2 ⟨qu, rfl, hqa, hq2, hg2, hz2⟩
  refine RL.p rfl rfl ?_
  refine RL.q (.free rfl) rfl rfl (Yld.max2k rfl rfl) ?_
  refine RL.q (.free rfl) rfl rfl (Yld.min2k rfl rfl) ?_
  refine RL.q (.free rfl) rfl rfl (Yld.build (v := .agg #[pp pl, pp qu, .int .u64 (clampS r 1 1048576), .slice none 0 0]) rfl (fun w => by kernel_rfl)) ?_
  refine RL.op (.free rfl) rfl rfl (Does.box rfl) ?_
  rintro _ w3 ⟨b14, rfl, hn14⟩
  have hmost : (if 0 > clampS m 1 12 then 0 else clampS m 1 12) = clampS m 1 12 := by unfold clampS; split <;> split <;> (try split) <;> omega
  have hp3 : PoolAt w3 pl (clampS m 1 12) 0 [] (.slice none 0 0) := by
      have h1 : PoolAt w1 pl (clampS m 1 12) 0 [] (.slice none 0 0) := hmost ▸ hp1
      exact ⟨h1.blk.mod (hg2.trans hn14.grow) (fun h => h), h1.row.mod (hg2.trans hn14.grow) (fun _ _ h => h), h1.ne⟩
  have hlt : ∀ b, ownS b14 pl qu (.slice none 0 0) (.slice none 0 0) (.slice none 0 0) b → b < w3.heap.size ∧ w.heap.size ≤ b := fun b e => by
      have h1 := hn14.at_
      have h2 := hg1.size
      have h3 := hn14.blk.lt
      have h4 := hp3.blk.lt
      have h5 := (hq2.grow hn14.grow).blk.lt
      have h6 := hg2.size
      rcases e with e | e | e | e | e | e
      · omega
      · omega
      · omega
      · simp [Value.ownBlock] at e
      · simp [Value.ownBlock] at e
      · simp [Value.ownBlock] at e
  refine RL.p rfl rfl ?_
  refine RL.done ?_
  refine RK.ret_of Tryz.func10 (res1 rfl rfl) ?_ _
  exact ⟨_, rfl, b14, ownS b14 pl qu (.slice none 0 0) (.slice none 0 0) (.slice none 0 0), rfl, ⟨pl, qu, .slice none 0 0, .slice none 0 0, .slice none 0 0, [], [], fun _ => Iff.rfl, ⟨hn14.blk, hp3, hq2.grow hn14.grow, Row.nil _ _ _, rfl, fun a ha => (by cases ha), List.Pairwise.nil, List.Perm.nil, fun b e => e, fun b e => (hlt b e).1⟩⟩, (hg1.trans hg2).trans hn14.grow, fun b e => (hlt b e).2⟩
theorem takeNo_ok (w : World) (p : Nat) (most last : Int) (out : List Int) (v : Value) (hp : PoolAt w p most last out v) (h1 : most ≤ out.length) :
    Fx Tryz.prog 47 [pp p] w (fun u w' => u = .tuple #[.int .i64 0, .bool false] ∧ Grow w w') := by
  obtain ⟨ad, c, rfl⟩ := hp.row.slice
  refine enter Tryz.func47 rfl rfl rfl _ (Pick.sub (l := [0]) (.cons rfl .nil)) ?_
  refine RK.seq ?_
  refine RK.region ?_
  iterate 2 refine RL.p rfl rfl ?_
  refine RL.done ?_
  iterate 2 refine RK.seq ?_
  refine RK.drawM No [(0, false), (1, false), (2, false), (3, false), (4, false), (5, false), (6, false), (7, false), (8, false), (9, false), (10, false), (11, false), (12, false), (13, false), (14, false), (15, false), (16, false)] [] mixed (by kernel_rfl) ?_
  iterate 2 refine DL.p rfl rfl rfl ?_
  refine DL.qf rfl (.free rfl) rfl rfl (Yld.fieldAddr fo152_2 rfl) ?_
  refine DL.q rfl (.free rfl) rfl rfl rfl (Yld.load p35 rfl (atM (hp.blk.cell rfl) id)) (Mod.drew _ _) ?_
  refine DL.q rfl (.free rfl) rfl rfl rfl (Yld.lenSl u35 rfl) (Mod.drew _ _) ?_
  iterate 2 refine DL.p rfl rfl rfl ?_
  refine DL.qf rfl (.free rfl) rfl rfl (Yld.fieldAddr fo152_0 rfl) ?_
  refine DL.q rfl (.free rfl) rfl rfl rfl (Yld.load p3 rfl (atM (hp.blk.cell rfl) id)) (Mod.drew _ _) ?_
  iterate 2 refine DL.p rfl rfl rfl ?_
  refine DL.knownT (d := 14) rfl rfl (decide_eq_true (by omega)) ?_
  iterate 5 refine DL.no rfl (.no rfl rfl rfl rfl) rfl rfl ?_
  refine DL.p rfl rfl rfl ?_
  refine DL.done ?_
  refine RK.condT rfl ?_
  refine RK.seq ?_
  refine RK.region ?_
  iterate 2 refine RL.p rfl rfl ?_
  refine RL.done ?_
  refine RK.ret_of Tryz.func47 (res2 rfl rfl rfl) ?_ _
  exact ⟨_, rfl, rfl, Mod.drew _ _⟩
end Go.Proofs.YtbcbfjnlnmhpbaaGreat
set_option linter.unusedVariables false
set_option linter.unusedSimpArgs false
set_option maxHeartbeats 3200000
set_option maxRecDepth 100000
namespace Go.Proofs.YtbcbfjnlnmhpbaaGreat
open Go Go.X
theorem ZStore.self {O M : Nat → Prop} {w : World} {p : Nat} {s : SS} (h : ZStore O M w p s) : ZStore O (fun b => M b ∨ O b) w p s := by
  have e : (fun b => M b ∨ O b) = M := by
    obtain ⟨pl, qu, vp, vq, vs, al, q, hO, h⟩ := h
    exact funext fun b => propext ⟨fun e => e.elim id fun e => h.ownM b ((hO b).1 e), .inl⟩
  rw [e]; exact h
def makeS (s : SS) (now a b : Int) (ms : List Mt) (bd : Bd) : SS × Int × Int :=
  if rightS ms bd = false then (s, 0, 1) else if fitsS now a b ms ≠ 0 then (s, 0, fitsS now a b ms) else if s.most ≤ s.sl.length then (s, 0, 10)
  else ({ s with last := s.last + 1, sl := s.sl ++ [⟨s.last + 1, a, b, ms, bd⟩] }, s.last + 1, 0)
theorem fits_span {now a b : Int} {ms : List Mt} (h : ¬ fitsS now a b ms ≠ 0) : a < b ∧ now < b ∧ b ≤ 1099511627776 := by
  unfold fitsS at h
  split at h
  · simp at h
  · split at h
    · rename_i h2
      unfold spanS at h2
      simp only [Bool.and_eq_true, decide_eq_true_eq] at h2
      omega
    · simp at h
theorem makeZ_ok (w : World) (p : Nat) (s : SS) (O M : Nat → Prop) (h : ZStore O M w p s) (g : Gz s) (hlast : s.last < 2147483647) (now a b : Int) (hb0 : 0 ≤ b) (ms : List Mt) (vm : Value) (bd : Bd) (hms : SlM M w vm ms) (hlen : ms.length ≤ 1000000) :
    Fx Tryz.prog 11 [pp p, .int .u64 now, .int .u64 a, .int .u64 b, vm, .agg (bdC bd).toArray] w (fun u w' => ∃ O', u = .tuple #[.int .i64 (makeS s now a b ms bd).2.1, .int .i64 (makeS s now a b ms bd).2.2] ∧ ZStore O' (fun x => M x ∨ O' x) w' p (makeS s now a b ms bd).1 ∧ Mod O w w' ∧ ∀ x, O' x → O x ∨ w.heap.size ≤ x) := by
  have hself := h.self
  have hback : ∀ w', Grow w w' → ZStore O (fun b => M b ∨ O b) w' p s := fun w' hg => hself.grow hg
  obtain ⟨pl, qu, vp, vq, vs, al, q, hO, h⟩ := h
  have hle := g.le
  have hal := h.len
  have hids := h.ids
  have hql := h.qlen
  obtain ⟨adm, cm, rfl⟩ := hms.shape
  by_cases hfull : s.most ≤ s.sl.length
  · skip
    refine enter Tryz.func11 rfl rfl rfl _ (Pick.sub (l := [0, 1, 2, 3, 4, 5]) (.cons rfl (.cons rfl (.cons rfl (.cons rfl (.cons rfl (.cons rfl .nil))))))) ?_
    refine RK.seq ?_
    refine RK.region ?_
    refine RL.op (.free rfl) rfl rfl (Does.box rfl) ?_
    rintro _ w1 ⟨b11, rfl, hn11⟩
    have hB11 : Blk w1 b11 32 (bdC bd) := hn11.blk
    iterate 2 refine RL.p rfl rfl ?_
    refine RL.done ?_
    iterate 2 refine RK.seq ?_
    refine RK.region ?_
    refine RL.p rfl rfl ?_
    refine RL.q (.free rfl) rfl rfl (Yld.loadN (cs := bdC bd) a32 rfl (atN (blk0' hB11))) ?_
    refine RL.op (.free rfl) rfl rfl (Does.call rfl e45 (rightZ_ok M ms _ bd _ (hms.mod (Mod.any' hn11.grow)))) ?_
    rintro _ w2 ⟨rfl, hg2⟩
    refine RL.p rfl rfl ?_
    refine RL.done ?_
    first | refine RK.condD rfl (fun h20 => ?_) (fun h20 => ?_) | refine RK.condN rfl (fun h20 => ?_) (fun h20 => ?_) | refine RK.cond rfl (fun h20 => ?_) (fun h20 => ?_)
    · have e : makeS s now a b ms bd = (s, 0, 1) := by unfold makeS; rw [if_pos (by simpa using h20)]
      refine RK.seq ?_
      refine RK.region ?_
      iterate 2 refine RL.p rfl rfl ?_
      refine RL.done ?_
      refine RK.ret_of Tryz.func11 (res2 rfl rfl rfl) ?_ _
      exact ⟨_, rfl, O, by rw [e], by rw [e]; exact hback _ (hn11.grow.trans hg2), Mod.any' (hn11.grow.trans hg2), fun x e => .inl e⟩
    · refine RK.skip ?_
      iterate 2 refine RK.seq ?_
      refine RK.region ?_
      iterate 4 refine RL.p rfl rfl ?_
      refine RL.op (.free rfl) rfl rfl (Does.call rfl e46 (fitsZ_ok M now a b ms _ _ ((hms.mod (Mod.any' hn11.grow)).mod (Mod.any' hg2)))) ?_
      rintro _ w3 ⟨rfl, hg3⟩
      have hg03 := (hn11.grow.trans hg2).trans hg3
      refine RL.p rfl rfl ?_
      refine RL.done ?_
      refine RK.seq ?_
      refine RK.region ?_
      iterate 2 refine RL.p rfl rfl ?_
      refine RL.done ?_
      first | refine RK.condD rfl (fun h27 => ?_) (fun h27 => ?_) | refine RK.condN rfl (fun h27 => ?_) (fun h27 => ?_) | refine RK.cond rfl (fun h27 => ?_) (fun h27 => ?_)
      · have e : makeS s now a b ms bd = (s, 0, fitsS now a b ms) := by unfold makeS; rw [if_neg (by simpa using h20), if_pos h27]
        refine RK.seq ?_
        refine RK.region ?_
        iterate 3 refine RL.p rfl rfl ?_
        refine RL.done ?_
        refine RK.ret_of Tryz.func11 (res2 rfl rfl rfl) ?_ _
        exact ⟨_, rfl, O, by rw [e], by rw [e]; exact hback _ hg03, Mod.any' hg03, fun x e => .inl e⟩
      · have e : makeS s now a b ms bd = (s, 0, 10) := by unfold makeS; rw [if_neg (by simpa using h20), if_neg h27, if_pos hfull]
        have h3 := h.grow hg03
        refine RK.skip ?_
        refine RK.seq ?_
        refine RK.region ?_
        iterate 2 refine RL.p rfl rfl ?_
        refine RL.q (.free rfl) rfl rfl (Yld.fieldAddr fo101_0 rfl) ?_
        refine RL.q (.free rfl) rfl rfl (Yld.load p96 rfl (at1 (h3.blk.cell rfl))) ?_
        refine RL.op (.free rfl) rfl rfl (Does.call rfl e47 (takeNo_ok _ pl s.most s.last _ vp h3.pool (by rw [List.length_map, hal]; exact hfull))) ?_
        rintro _ w4 ⟨rfl, hg4⟩
        iterate 5 refine RL.p rfl rfl ?_
        refine RL.done ?_
        iterate 2 refine RK.seq ?_
        refine RK.region ?_
        iterate 2 refine RL.p rfl rfl ?_
        refine RL.done ?_
        refine RK.condT (hcT rfl (rfl)) ?_
        refine RK.seq ?_
        refine RK.region ?_
        iterate 2 refine RL.p rfl rfl ?_
        refine RL.done ?_
        refine RK.ret_of Tryz.func11 (res2 rfl rfl rfl) ?_ _
        exact ⟨_, rfl, O, by rw [e], by rw [e]; exact hback _ (hg03.trans hg4), Mod.any' (hg03.trans hg4), fun x e => .inl e⟩
  · skip
    refine enter Tryz.func11 rfl rfl rfl _ (Pick.sub (l := [0, 1, 2, 3, 4, 5]) (.cons rfl (.cons rfl (.cons rfl (.cons rfl (.cons rfl (.cons rfl .nil))))))) ?_
    refine RK.seq ?_
    refine RK.region ?_
    refine RL.op (.free rfl) rfl rfl (Does.box rfl) ?_
    rintro _ w1 ⟨b11, rfl, hn11⟩
    have hB11 : Blk w1 b11 32 (bdC bd) := hn11.blk
    iterate 2 refine RL.p rfl rfl ?_
    refine RL.done ?_
    iterate 2 refine RK.seq ?_
    refine RK.region ?_
    refine RL.p rfl rfl ?_
    refine RL.q (.free rfl) rfl rfl (Yld.loadN (cs := bdC bd) a32 rfl (atN (blk0' hB11))) ?_
    refine RL.op (.free rfl) rfl rfl (Does.call rfl e45 (rightZ_ok M ms _ bd _ (hms.mod (Mod.any' hn11.grow)))) ?_
    rintro _ w2 ⟨rfl, hg2⟩
    refine RL.p rfl rfl ?_
    refine RL.done ?_
    first | refine RK.condD rfl (fun h20 => ?_) (fun h20 => ?_) | refine RK.condN rfl (fun h20 => ?_) (fun h20 => ?_) | refine RK.cond rfl (fun h20 => ?_) (fun h20 => ?_)
    · have e : makeS s now a b ms bd = (s, 0, 1) := by unfold makeS; rw [if_pos (by simpa using h20)]
      refine RK.seq ?_
      refine RK.region ?_
      iterate 2 refine RL.p rfl rfl ?_
      refine RL.done ?_
      refine RK.ret_of Tryz.func11 (res2 rfl rfl rfl) ?_ _
      exact ⟨_, rfl, O, by rw [e], by rw [e]; exact hback _ (hn11.grow.trans hg2), Mod.any' (hn11.grow.trans hg2), fun x e => .inl e⟩
    · refine RK.skip ?_
      iterate 2 refine RK.seq ?_
      refine RK.region ?_
      iterate 4 refine RL.p rfl rfl ?_
      refine RL.op (.free rfl) rfl rfl (Does.call rfl e46 (fitsZ_ok M now a b ms _ _ ((hms.mod (Mod.any' hn11.grow)).mod (Mod.any' hg2)))) ?_
      rintro _ w3 ⟨rfl, hg3⟩
      have hg03 := (hn11.grow.trans hg2).trans hg3
      refine RL.p rfl rfl ?_
      refine RL.done ?_
      refine RK.seq ?_
      refine RK.region ?_
      iterate 2 refine RL.p rfl rfl ?_
      refine RL.done ?_
      first | refine RK.condD rfl (fun h27 => ?_) (fun h27 => ?_) | refine RK.condN rfl (fun h27 => ?_) (fun h27 => ?_) | refine RK.cond rfl (fun h27 => ?_) (fun h27 => ?_)
      · have e : makeS s now a b ms bd = (s, 0, fitsS now a b ms) := by unfold makeS; rw [if_neg (by simpa using h20), if_pos h27]
        refine RK.seq ?_
        refine RK.region ?_
        iterate 3 refine RL.p rfl rfl ?_
        refine RL.done ?_
        refine RK.ret_of Tryz.func11 (res2 rfl rfl rfl) ?_ _
        exact ⟨_, rfl, O, by rw [e], by rw [e]; exact hback _ hg03, Mod.any' hg03, fun x e => .inl e⟩
      · have e : makeS s now a b ms bd = ({ s with last := s.last + 1, sl := s.sl ++ [⟨s.last + 1, a, b, ms, bd⟩] }, s.last + 1, 0) := by unfold makeS; rw [if_neg (by simpa using h20), if_neg h27, if_neg hfull]
        have hsp := fits_span h27
        have hl0 := g.l0
        have hr0 := g.r0
        have hr1 := g.r1
        have h3 := h.grow hg03
        have hlt3 : ∀ x, ownS p pl qu vp vq vs x → x < w.heap.size := fun x e => h.own_lt e
        have hz03 := hg03.size
        have hb11 : ∀ x, ownS p pl qu vp vq vs x → x ≠ b11 := fun x e hx => by have := hlt3 x e; have := hn11.at_; omega
        refine RK.skip ?_
        refine RK.seq ?_
        refine RK.region ?_
        iterate 2 refine RL.p rfl rfl ?_
        refine RL.q (.free rfl) rfl rfl (Yld.fieldAddr fo101_0 rfl) ?_
        refine RL.q (.free rfl) rfl rfl (Yld.load p96 rfl (at1 (h3.blk.cell rfl))) ?_
        refine RL.op (.free rfl) rfl rfl (Does.call rfl e47 (take_ok _ pl s.most s.last _ vp h3.pool (by rw [List.length_map, hal]; omega) (by omega) hl0 (by omega) (by rw [List.length_map]; omega))) ?_
        rintro _ w4 ⟨rfl, vp', hp4, hm4, hf4⟩
        have hm04 : Mod (fun x => x = pl ∨ vp.ownBlock = some x) w w4 := (Mod.any' hg03).trans hm4
        have n1 : ¬ (p = pl ∨ vp.ownBlock = some p) := fun e => e.elim h.ne_ppl fun e => (h.pool.row.ty e).ne h.blk.ty rfl rfl
        have hb4 := h.blk.mod hm04 n1
        have hr4 := h.row.mod hm04 (fun x e1 e2 => e2.elim (fun e2 => (h.row.ty e1).ne h.pool.blk.ty rfl e2) (fun e2 => (h.row.ty e1).ne (h.pool.row.ty e2) rfl rfl))
        have hq4 := h.que.mod hm04 (fun e2 => e2.elim (fun e2 => h.ne_plqu e2.symm) (fun e2 => h.que.blk.ty.ne (h.pool.row.ty e2) rfl rfl)) (fun x e1 e2 => e2.elim (fun e2 => (h.que.row.ty e1).ne h.pool.blk.ty rfl e2) (fun e2 => (h.que.row.ty e1).ne (h.pool.row.ty e2) rfl rfl))
        have hO4 : Mod M w w4 := hm04.mono fun x _ e => h.ownM x (e.elim (fun e => .inr (.inl e)) (fun e => .inr (.inr (.inr (.inl e)))))
        have hB4 := (hB11.mod (hg2.trans hg3) (fun h => h)).mod hm4 (fun e => hb11 b11 (e.elim (fun e => .inr (.inl e)) (fun e => .inr (.inr (.inr (.inl e))))) rfl)
        have hz4 := hm04.size
        iterate 5 refine RL.p rfl rfl ?_
        refine RL.done ?_
        iterate 2 refine RK.seq ?_
        refine RK.region ?_
        iterate 2 refine RL.p rfl rfl ?_
        refine RL.done ?_
        refine RK.condF (hcF rfl (rfl)) ?_
        refine RK.skip ?_
        refine RK.seq ?_
        refine RK.drawM (fun x => vs.ownBlock = some x) [(0, false), (1, false), (2, false), (3, false), (4, false), (5, false), (6, false), (8, false), (7, true), (9, false), (10, true), (11, true), (12, false), (13, false), (14, true)] [14] mixed (by kernel_rfl) ?_
        iterate 3 refine DL.p rfl rfl rfl ?_
        refine DL.qf rfl (.free rfl) rfl rfl (Yld.fieldAddr fo101_3 rfl) ?_
        refine DL.q rfl (.free rfl) rfl rfl rfl (Yld.load p44 rfl (atM (hb4.cell rfl) (fun e => (h.row.ty e).ne h.blk.ty rfl rfl))) (Mod.drew _ _) ?_
        iterate 2 refine DL.p rfl rfl rfl ?_
        refine DL.q rfl (.free rfl) rfl rfl rfl (Yld.loadN (cs := bdC bd) a32 rfl (atNM (blk0' hB4) (fun e => hb11 b11 (.inr (.inr (.inr (.inr (.inr e))))) rfl))) (Mod.drew _ _) ?_
        refine DL.op rfl (.free rfl) rfl rfl (Does.call rfl e48 (cloneM_ok M ms _ _ ((hms.mod hO4).mod (Mod.drew _ _)) hlen)) ?_
        rintro u5 w5 ⟨hr5, hf5, hg5'⟩
        obtain ⟨ad5, c5, rfl⟩ := hr5.slice
        have hg5 := (Mod.drew No w4).trans hg5'
        refine ⟨Mod.any' hg5, ?_⟩
        refine DL.qf rfl (.free rfl) rfl rfl (Yld.build (v := .agg (silC ⟨s.last + 1, 0, 0, 0, .slice ad5 ms.length c5, ms, bd⟩).toArray) rfl (fun w => by kernel_rfl)) ?_
        refine DL.op rfl (.free rfl) rfl rfl (Does.slice1 u44 i41 rfl rfl rfl rfl rfl) ?_
        rintro _ w6 ⟨b49, rfl, hn49⟩
        have hg46 := hg5.trans hn49.grow
        refine ⟨Mod.any' hg46, ?_⟩
        refine DL.op rfl (.free rfl) rfl rfl (Does.append u44 i41 rfl rfl rfl rfl rfl (hr4.mod hg46 (fun _ _ h => h)) (Sl.new hn49 8 1 rfl (by omega) (fun h => h)) (rfl) (by omega)) ?_
        rintro u7 w7 ⟨hr7, hm7, hu7⟩
        refine ⟨(Mod.any' hg46).trans hm7, ?_⟩
        obtain ⟨ad7, c7, rfl⟩ := hr7.slice
        obtain ⟨a0, ha0⟩ : ∃ a0 : Sil, a0 = ⟨s.last + 1, 0, 0, 0, .slice ad5 ms.length c5, ms, bd⟩ := ⟨_, rfl⟩
        have hb7 := (hb4.mod hg46 (fun h => h)).mod hm7 (fun e => (h.row.ty e).ne h.blk.ty rfl rfl)
        have hq7 := (hq4.grow hg46).mod hm7 (fun e => (h.row.ty e).ne h.que.blk.ty rfl rfl) (fun x e1 e2 => (h.que.row.ty e1).ne (h.row.ty e2) rfl rfl)
        have hp6 := hp4.mod hg46 (fun h => h) (fun _ _ h => h)
        have hr6 := hr4.mod hg46 (fun _ _ h => h)
        have hp7 := hp6.mod hm7 (fun e => (hr6.ty e).ne hp6.blk.ty rfl rfl) (fun x e1 e2 => (hp6.row.ty e1).ne (hr6.ty e2) rfl rfl)
        have hm57 := hr5.mod hn49.grow (fun _ _ h => h)
        have hm7m := hm57.mod hm7 (fun x e1 e2 => (hm57.ty e1).ne (hr6.ty e2) rfl rfl)
        refine DL.p rfl rfl rfl ?_
        refine DL.qf rfl (.free rfl) rfl rfl (Yld.fieldAddr fo101_3 rfl) ?_
        refine DL.opT rfl (.free rfl) rfl rfl (Does.store i44 rfl rfl rfl hb7 (.s (.s (.s .z)))) ?_
        rintro _ w8 ⟨hb8, hm8, hs8⟩
        have hr8 := hr7.mod hm8 (fun x e1 e2 => (hr7.ty e1).ne hb7.ty rfl e2)
        have hq8 := hq7.mod hm8 (fun e => hq7.blk.ty.ne hb7.ty rfl e) (fun x e1 e2 => (hq7.row.ty e1).ne hb7.ty rfl e2)
        have hp8 := hp7.mod hm8 (fun e => hp7.blk.ty.ne hb7.ty rfl e) (fun x e1 e2 => (hp7.row.ty e1).ne hb7.ty rfl e2)
        have hm8m := hm7m.mod hm8 (fun x e1 e2 => (hm7m.ty e1).ne hb7.ty rfl e2)
        have hr8' : Row w8 41 8 (.slice ad7 (al.length + 1) c7) (al ++ [a0]).length ((al ++ [a0]).flatMap silC) := by
            rw [List.length_append, List.flatMap_append, List.flatMap_singleton, ha0]; exact hr8
        have hset : (al ++ [a0]).set al.length { a0 with start := a, stop := b } = al ++ [{ a0 with start := a, stop := b }] := by simp
        refine DL.done ?_
        refine RK.seq ?_
        refine RK.region ?_
        iterate 3 refine RL.p rfl rfl ?_
        refine RL.q (.free rfl) rfl rfl (Yld.fieldAddr fo101_3 rfl) ?_
        refine RL.q (.free rfl) rfl rfl (Yld.load p44 rfl (at1 (hb8.cell rfl))) ?_
        refine RL.q (.free rfl) rfl rfl (Yld.lenSl u44 rfl) ?_
        refine RL.p rfl rfl ?_
        refine RL.re (d := 59) rfl rfl (sub_i64 (z := (al.length : Int)) (by simp) (by omega) (by omega)) ?_
        iterate 2 refine RL.p rfl rfl ?_
        refine RL.op (.free rfl) rfl rfl (Does.call rfl e49 (turnZ_ok _ p pl qu s.ret a b vq (.slice ad7 (al.length + 1) c7) (al ++ [a0]) q al.length a0 hb8 hq8 h.sort hr8' (by simp) (by omega) (by simp; omega) (by omega) (by omega))) ?_
        rintro _ w9 ⟨rfl, vq', hb9, hq9, hr9, hm9, hf9⟩
        have hid : a0.id = s.last + 1 := by rw [ha0]
        have hn8 : ∀ x, (x = qu ∨ vq.ownBlock = some x ∨ (Value.slice ad7 (al.length + 1) c7).ownBlock = some x) → Ty w8 x 155 ∨ Ty w8 x 164 ∨ Ty w8 x 41 := fun x e => by
            rcases e with rfl | e | e
            · exact .inl hq8.blk.ty
            · exact .inr (.inl (hq8.row.ty e))
            · exact .inr (.inr (hr8.ty e))
        have hp9 := hp8.mod hm9 (fun e => by
            rcases hn8 _ e with e | e | e
            · exact hp8.blk.ty.ne e rfl rfl
            · exact hp8.blk.ty.ne e rfl rfl
            · exact hp8.blk.ty.ne e rfl rfl) (fun x e1 e => by
            rcases hn8 _ e with e | e | e
            · exact (hp8.row.ty e1).ne e rfl rfl
            · exact (hp8.row.ty e1).ne e rfl rfl
            · exact (hp8.row.ty e1).ne e rfl rfl)
        have hm9m := hm8m.mod hm9 (fun x e1 e => by
            rcases hn8 _ e with e | e | e
            · exact (hm8m.ty e1).ne e rfl rfl
            · exact (hm8m.ty e1).ne e rfl rfl
            · exact (hm8m.ty e1).ne e rfl rfl)
        rw [hset] at hr9
        have hz6 := hg46.size
        have hz5 := hn49.grow.size
        have hz7 := hm7.size
        have hz8 := hm8.size
        have hz55 := hg5.size
        have hown : ∀ x, ownS p pl qu vp' vq' (.slice ad7 (al.length + 1) c7) x → ownS p pl qu vp vq vs x ∨ w.heap.size ≤ x := fun x e => by
            rcases e with e | e | e | e | e | e
            · exact .inl (.inl e)
            · exact .inl (.inr (.inl e))
            · exact .inl (.inr (.inr (.inl e)))
            · rcases hf4 x e with e | e
              · exact .inl (.inr (.inr (.inr (.inl e))))
              · exact .inr (by omega)
            · rcases hf9 x e with e | e
              · exact .inl (.inr (.inr (.inr (.inr (.inl e)))))
              · exact .inr (by omega)
            · rcases hu7 with h7 | h7
              · rw [h7] at e; exact .inl (.inr (.inr (.inr (.inr (.inr e)))))
              · rw [h7] at e; cases e; exact .inr (by omega)
        have hmod8 : Mod (ownS p pl qu vp vq vs) w w8 := ((hm04.mono fun x _ e => e.elim (fun e => .inr (.inl e)) (fun e => .inr (.inr (.inr (.inl e))))).trans (Mod.any' hg46)).trans ((hm7.mono fun x _ e => .inr (.inr (.inr (.inr (.inr e))))).trans (hm8.mono fun x _ e => .inl e))
        have hmod9 : Mod (ownS p pl qu vp vq vs) w w9 := hmod8.then hm9 (fun x hx e => by
            rcases e with e | e | e
            · exact .inr (.inr (.inl e))
            · exact .inr (.inr (.inr (.inr (.inl e))))
            · exact (hown x (.inr (.inr (.inr (.inr (.inr e)))))).elim id fun e => by omega)
        have hdrop : dropE q a0.id = q := dropE_none fun x hx e => by
            have h1 := h.perm'.mem_iff.1 hx
            obtain ⟨y, hy, rfl⟩ := List.mem_map.1 h1
            have h2 : pubZ y ∈ s.sl := by rw [← h.als]; exact List.mem_map.2 ⟨y, hy, rfl⟩
            have h3 := g.low _ h2
            have h4 : y.id = a0.id := e
            have h5 : y.id ≤ s.last := h3
            omega
        refine RL.done ?_
        refine RK.seq ?_
        refine RK.region ?_
        iterate 3 refine RL.p rfl rfl ?_
        refine RL.done ?_
        refine RK.ret_of Tryz.func11 (res2 rfl rfl rfl) ?_ _
        exact ⟨_, rfl, ownS p pl qu vp' vq' (.slice ad7 (al.length + 1) c7), by rw [e], by
            rw [e]
            refine ZStore.next (w := w) (al := al ++ [{ a0 with start := a, stop := b }]) h.ltM (hmod9.mono fun x _ e => h.ownM x e) hb9 ?_ hq9 (by rw [List.length_append]; exact (by rw [List.length_append] at hr9; exact hr9)) ?_ (fun y hy => ?_) ?_ ?_ (fun x e => (hown x e).elim (fun e => .inl (h.ownM x e)) .inr)
            · rw [List.map_append, List.map_singleton]
              show PoolAt w9 pl s.most (s.last + 1) (al.map (·.id) ++ [a0.id]) vp'
              rw [hid]; exact hp9
            · rw [List.map_append, List.map_singleton, h.als]
              subst ha0; rfl
            · rcases List.mem_append.1 hy with hy | hy
              · exact .inl (h.sms y hy)
              · obtain rfl := List.mem_singleton.1 hy
                subst ha0
                exact .inr ⟨hm9m, fun b e => by have := hf5 b e; simp only [World.drew] at this; omega⟩
            · rw [hdrop]
              have := turn_sort (id := a0.id) (due := b + s.ret) h.sort h.perm' (by rw [hids]; exact g.ris)
              rw [hdrop] at this; exact this
            · rw [hdrop, List.map_append, List.map_singleton]
              refine (putE_perm _ _).trans ?_
              exact (List.Perm.cons _ h.perm').trans (List.perm_append_singleton _ _).symm, hmod9.mono fun x _ e => (hO x).2 e, fun x e => (hown x e).elim (fun e => .inl ((hO x).2 e)) .inr⟩
end Go.Proofs.YtbcbfjnlnmhpbaaGreat
set_option linter.unusedVariables false
set_option linter.unusedSimpArgs false
set_option maxHeartbeats 3200000
set_option maxRecDepth 100000
namespace Go.Proofs.YtbcbfjnlnmhpbaaGreat
open Go Go.X
noncomputable def holdZ (now : Int) (ls : List Lab) (v : Nat) (a : Slz) : Bool := decide (stateS now a.start a.stop = 2) && (a.ms.all fun m => holdsM m ls) && inBd a.bd v
noncomputable def holdsZ (now : Int) (ls : List Lab) (v : Nat) (l : List Slz) : List Int := (l.filter (holdZ now ls v)).map (·.id)
theorem holdsZ_len (now : Int) (ls : List Lab) (v : Nat) (l : List Slz) : (holdsZ now ls v l).length ≤ l.length := by
  unfold holdsZ
  rw [List.length_map]
  exact List.length_filter_le _ _
theorem holdsZ_snoc (now : Int) (ls : List Lab) (v : Nat) {al : List Sil} {k : Nat} {s : Sil} (hs : al[k]? = some s) : holdsZ now ls v ((al.take (k + 1)).map pubZ) = holdsZ now ls v ((al.take k).map pubZ) ++ (if holdZ now ls v (pubZ s) = true then [s.id] else []) := by
  unfold holdsZ
  rw [List.take_add_one, hs, List.map_append, List.filter_append, List.map_append]
  congr 1
  show List.map _ (List.filter _ [pubZ s]) = _
  by_cases h : holdZ now ls v (pubZ s) = true
  · rw [if_pos h, List.filter_cons_of_pos h]; rfl
  · rw [if_neg h, List.filter_cons_of_neg h]; rfl
theorem holdsStore_ok (w : World) (p : Nat) (s : SS) (O M : Nat → Prop) (h : ZStore O M w p s) (g : Gz s) (now : Int) (M' : Nat → Prop) (ls : List Lab) (vl : Value) (v : Nat) (hl : SlL M' w vl ls) (hz : ∀ x ∈ ls, x.value.size ≤ 100000) :
    Fx Tryz.prog 15 [pp p, .int .u64 now, vl, .float .f64 v] w (fun u w' => Row w' 3 1 u (holdsZ now ls v s.sl).length (ints (holdsZ now ls v s.sl)) ∧ Fresh w.heap.size u ∧ Grow w w') := by
  obtain ⟨pl, qu, vp, vq, vs, al, q, hO, h⟩ := h
  have hle := g.le
  have hal := h.len
  have hals := h.als
  have hsl := Sl.own (M := No) h.row (fun _ _ h => h)
  have hsms := h.sms
  have hblk := h.blk
  obtain ⟨ads, cs, rfl⟩ := h.row.slice
  clear h
  obtain ⟨adl, cl, rfl⟩ := hl.shape
  refine enter Tryz.func15 rfl rfl rfl _ (Pick.sub (l := [0, 1, 2, 3]) (.cons rfl (.cons rfl (.cons rfl (.cons rfl .nil))))) ?_
  refine RK.seq ?_
  refine RK.region ?_
  refine RL.p rfl rfl ?_
  refine RL.done ?_
  refine RK.seq ?_
  refine RK.region ?_
  refine RL.p rfl rfl ?_
  refine RL.done ?_
  iterate 2 refine RK.seq ?_
  refine RK.region ?_
  iterate 2 refine RL.p rfl rfl ?_
  refine RL.q (.free rfl) rfl rfl (Yld.fieldAddr fo101_3 rfl) ?_
  refine RL.q (.free rfl) rfl rfl (Yld.load p44 rfl (at1 (hblk.cell rfl))) ?_
  refine RL.q (.free rfl) rfl rfl (Yld.lenSl u44 rfl) ?_
  refine RL.p rfl rfl ?_
  refine RL.done ?_
  refine RK.block ?_
  refine RK.loop (fun s : Nat × Value => [(1, .int .u64 now), (2, .slice adl ls.length cl), (3, .float .f64 v), (9, s.2), (15, .slice ads al.length cs), (16, .int .i64 (al.length : Int)), (17, .int .i64 (s.1 : Int))]) (fun s w' => Row w' 3 1 s.2 (holdsZ now ls v ((al.take s.1).map pubZ)).length (ints (holdsZ now ls v ((al.take s.1).map pubZ))) ∧ Fresh w.heap.size s.2 ∧ Grow w w' ∧ s.1 ≤ al.length) (fun s => al.length - s.1) (0, .slice none 0 0) ⟨rfl, rfl, rfl, rfl, rfl, rfl, rfl, trivial⟩ ⟨by simpa [holdsZ] using Row.nil _ _ _, fun b e => by simp [Value.ownBlock] at e, Mod.refl _ _, by simp⟩ (fun s w' hI ih => ?_)
  obtain ⟨k, u⟩ := s
  obtain ⟨hr, hf, hg, hk⟩ := hI
  simp only at hr hf hk
  refine RK.seq ?_
  refine RK.region ?_
  refine RL.p rfl rfl ?_
  refine RL.done ?_
  refine RK.seq ?_
  first | refine RK.condD rfl (fun h18 => ?_) (fun h18 => ?_) | refine RK.condN rfl (fun h18 => ?_) (fun h18 => ?_) | refine RK.cond rfl (fun h18 => ?_) (fun h18 => ?_)
  · obtain ⟨s, hs⟩ : ∃ s, al[k]? = some s := ⟨al[k]'(by omega), List.getElem?_eq_getElem (by omega)⟩
    obtain ⟨b1, o1, c1', he1, _, _, hc1⟩ := hsl.elem silC_len hs
    cases he1
    have hsm0 := hsms s (List.mem_of_getElem? hs)
    have hsm := hsm0.mod (Mod.any' hg)
    have hsn := holdsZ_snoc now ls v hs
    have hsl1 := holdsZ_len now ls v ((al.take k).map pubZ)
    have hsl2 : ((al.take k).map pubZ).length ≤ k := by simp; omega
    refine RK.skip ?_
    refine RK.seq ?_
    refine RK.block ?_
    refine RK.seq ?_
    refine RK.region ?_
    refine RL.q (.free rfl) rfl rfl (Yld.indexAddrN u44 i41 rfl rfl (by omega)) ?_
    refine RL.q (.free rfl) rfl rfl (Yld.loadN (cs := silC s) a41 rfl (atN (fun q z hq => hg.cell (hc1 q z hq) (fun h => h)))) ?_
    refine RL.op (.free rfl) rfl rfl (Does.alloc i41) ?_
    rintro _ w1 ⟨b11, rfl, hn11⟩
    refine RL.op' (.free rfl) rfl (Does.storeN i41 rfl rfl rfl (silC_one hsm) hn11.blk (Nat.le_refl 8)) ?_
    rintro _ w2 ⟨hb2, hm2, _⟩
    have hg2' : Grow w' w2 := hn11.grow.then hm2 (fun y hy e => by have e' : y = b11 := e; have := hn11.at_; omega)
    have hg2 := hg.trans hg2'
    have hB2 : Blk w2 b11 41 [.int .i64 s.id, .int .i64 s.ver, .int .u64 s.start, .int .u64 s.stop, s.mv, .bool s.bd.all, .float .f64 s.bd.lo, .float .f64 s.bd.hi] := hb2
    refine RL.done ?_
    refine RK.seq ?_
    refine RK.region ?_
    refine RL.p rfl rfl ?_
    refine RL.q (.free rfl) rfl rfl (Yld.fieldAddr fo41_2 rfl) ?_
    refine RL.q (.free rfl) rfl rfl (Yld.load p22 rfl (at1 (hB2.cell rfl))) ?_
    refine RL.q (.free rfl) rfl rfl (Yld.fieldAddr fo41_3 rfl) ?_
    refine RL.q (.free rfl) rfl rfl (Yld.load p22 rfl (at1 (hB2.cell rfl))) ?_
    refine RL.op (.free rfl) rfl rfl (Does.call rfl e51 (state_ok now s.start s.stop _)) ?_
    rintro _ _ ⟨rfl, rfl⟩
    iterate 2 refine RL.p rfl rfl ?_
    first | refine RL.splitD (d := 28) rfl rfl (fun h28 => ?_) (fun h28 => ?_) | refine RL.splitN (d := 28) rfl rfl (fun h28 => ?_) (fun h28 => ?_) | refine RL.split (d := 28) rfl rfl (fun h28 => ?_) (fun h28 => ?_)
    · refine RL.q (.yes rfl rfl rfl) rfl rfl (Yld.fieldAddr fo41_4 rfl) ?_
      refine RL.q (.yes rfl rfl rfl) rfl rfl (Yld.load p28 rfl (at1 (hB2.cell rfl))) ?_
      refine RL.q (.yes rfl rfl rfl) rfl rfl (Yld.pure rfl) ?_
      refine RL.op (.yes rfl rfl rfl) rfl rfl (Does.call rfl e52 (allM_ok holdsM s.ms (fun m _ => matchHolds_ok m) M' M ls hz _ _ _ (hsm.mod (Mod.any' hg2')) (hl.mod (Mod.any' hg2)))) ?_
      rintro _ w3 ⟨rfl, hg3⟩
      have hg23 := hg2.trans hg3
      have hB3 := hB2.mod hg3 (fun h => h)
      iterate 2 refine RL.p rfl rfl ?_
      first | refine RL.splitD (d := 34) rfl rfl (fun h34 => ?_) (fun h34 => ?_) | refine RL.splitN (d := 34) rfl rfl (fun h34 => ?_) (fun h34 => ?_) | refine RL.split (d := 34) rfl rfl (fun h34 => ?_) (fun h34 => ?_)
      · refine RL.q (.yes rfl rfl rfl) rfl rfl (Yld.fieldAddr fo41_5 rfl) ?_
        refine RL.q (.yes rfl rfl rfl) rfl rfl (Yld.loadN (cs := bdC s.bd) a32 rfl (atN (fldN hB3 5 3))) ?_
        refine RL.q (.yes rfl rfl rfl) rfl rfl (Yld.pure rfl) ?_
        refine RL.op (.yes rfl rfl rfl) rfl rfl (Does.call rfl e53 (in_band_ok s.bd v _)) ?_
        rintro _ w4 ⟨rfl, hg4⟩
        have hg24 := hg23.trans hg4
        have hr4 := hr.mod ((hg2'.trans hg3).trans hg4) (fun _ _ h => h)
        refine RL.p rfl rfl ?_
        refine RL.done ?_
        first | refine RK.condD rfl (fun h39 => ?_) (fun h39 => ?_) | refine RK.condN rfl (fun h39 => ?_) (fun h39 => ?_) | refine RK.cond rfl (fun h39 => ?_) (fun h39 => ?_)
        · have hyes : holdZ now ls v (pubZ s) = true := by unfold holdZ pubZ; simp only; rw [decide_eq_true h28, h34, h39]; rfl
          refine RK.region ?_
          refine RL.p rfl rfl ?_
          refine RL.q (.free rfl) rfl rfl (Yld.fieldAddr fo41_0 rfl) ?_
          refine RL.q (.free rfl) rfl rfl (Yld.load p3 rfl (at1 ((hB3.mod hg4 (fun h => h)).cell rfl))) ?_
          refine RL.op (.free rfl) rfl rfl (Does.slice1 u35 i3 rfl rfl rfl rfl rfl) ?_
          rintro _ w5 ⟨b7, rfl, hn7⟩
          refine RL.op (.free rfl) rfl rfl (Does.append u35 i3 rfl rfl rfl rfl rfl (hr4.mod hn7.grow (fun _ _ h => h)) (Sl.new hn7 1 1 rfl (by omega) (fun h => h)) (rfl) (by omega)) ?_
          rintro z8 w8 ⟨hr8, hm8, hu8⟩
          have hs7 := hn7.grow.size
          have hs4 := hg24.size
          refine RL.p rfl rfl ?_
          refine RL.done ?_
          refine RK.inBlock ?_
          refine RK.region ?_
          refine RL.p rfl rfl ?_
          refine RL.re (d := 45) rfl rfl (succ_i64 (by omega)) ?_
          refine RL.p rfl rfl ?_
          refine RL.done ?_
          exact RK.back (ih (k + 1, z8) _ ⟨by
              simp only
              rw [hsn, if_pos hyes]
              have e1 : ints (holdsZ now ls v ((al.take k).map pubZ) ++ [s.id]) = ints (holdsZ now ls v ((al.take k).map pubZ)) ++ (Value.int .i64 s.id).cells.toList := by simp [ints, Value.cells]
              rw [e1, List.length_append]; exact hr8, fun b e => by
              rcases hu8 with h1 | h1
              · exact hf b (h1 ▸ e)
              · rw [h1] at e; cases e; omega, (hg24.trans hn7.grow).then hm8 (fun b hb e => by have := hf b e; omega), by simp only; omega⟩ (by simp only; omega)) ⟨rfl, rfl, rfl, rfl, rfl, rfl, rfl, trivial⟩
        · have hnos : holdZ now ls v (pubZ s) = false := by unfold holdZ pubZ; simp only; rw [decide_eq_true h28, h34, show inBd s.bd v = false by simpa using h39]; rfl
          refine RK.skip ?_
          refine RK.inBlock ?_
          refine RK.region ?_
          refine RL.p rfl rfl ?_
          refine RL.re (d := 45) rfl rfl (succ_i64 (by omega)) ?_
          refine RL.p rfl rfl ?_
          refine RL.done ?_
          exact RK.back (ih (k + 1, u) _ ⟨by simp only; rw [hsn, if_neg (by simp [hnos]), List.append_nil]; exact hr4, hf, hg24, by simp only; omega⟩ (by simp only; omega)) ⟨rfl, rfl, rfl, rfl, rfl, rfl, rfl, trivial⟩
      · have hnos : holdZ now ls v (pubZ s) = false := by unfold holdZ pubZ; simp only; rw [show (s.ms.all fun m => holdsM m ls) = false by simpa only [Bool.not_eq_true] using h34]; simp
        iterate 4 refine RL.no (.no rfl rfl rfl rfl) rfl rfl ?_
        refine RL.p rfl rfl ?_
        refine RL.done ?_
        refine RK.condF rfl ?_
        refine RK.skip ?_
        refine RK.inBlock ?_
        refine RK.region ?_
        refine RL.p rfl rfl ?_
        refine RL.re (d := 45) rfl rfl (succ_i64 (by omega)) ?_
        refine RL.p rfl rfl ?_
        refine RL.done ?_
        exact RK.back (ih (k + 1, u) _ ⟨by simp only; rw [hsn, if_neg (by simp [hnos]), List.append_nil]; exact hr.mod (hg2'.trans hg3) (fun _ _ h => h), hf, hg23, by simp only; omega⟩ (by simp only; omega)) ⟨rfl, rfl, rfl, rfl, rfl, rfl, rfl, trivial⟩
    · have hnos : holdZ now ls v (pubZ s) = false := by unfold holdZ pubZ; simp only; rw [decide_eq_false h28]; rfl
      iterate 4 refine RL.no (.no rfl rfl rfl rfl) rfl rfl ?_
      iterate 2 refine RL.p rfl rfl ?_
      iterate 4 refine RL.no (.no rfl rfl rfl rfl) rfl rfl ?_
      refine RL.p rfl rfl ?_
      refine RL.done ?_
      refine RK.condF rfl ?_
      refine RK.skip ?_
      refine RK.inBlock ?_
      refine RK.region ?_
      refine RL.p rfl rfl ?_
      refine RL.re (d := 45) rfl rfl (succ_i64 (by omega)) ?_
      refine RL.p rfl rfl ?_
      refine RL.done ?_
      exact RK.back (ih (k + 1, u) _ ⟨by simp only; rw [hsn, if_neg (by simp [hnos]), List.append_nil]; exact hr.mod hg2' (fun _ _ h => h), hf, hg2, by simp only; omega⟩ (by simp only; omega)) ⟨rfl, rfl, rfl, rfl, rfl, rfl, rfl, trivial⟩
  · have ek : al.take k = al := List.take_of_length_le (by omega)
    rw [ek, hals] at hr
    refine RK.exit rfl ?_
    refine RK.seq ?_
    refine RK.region ?_
    iterate 2 refine RL.p rfl rfl ?_
    refine RL.done ?_
    refine RK.ret_of Tryz.func15 (res1 rfl rfl) ?_ _
    exact ⟨_, rfl, hr, hf, hg⟩
theorem lenZ_ok (w : World) (p : Nat) (s : SS) (O M : Nat → Prop) (h : ZStore O M w p s) : Fx Tryz.prog 13 [pp p] w (fun u w' => u = .int .i64 (s.sl.length : Int) ∧ w = w') := by
  obtain ⟨pl, qu, vp, vq, vs, al, q, hO, h⟩ := h
  have hal := h.len
  have hblk := h.blk
  obtain ⟨ads, cs, rfl⟩ := h.row.slice
  refine enter Tryz.func13 rfl rfl rfl _ (Pick.sub (l := [0]) (.cons rfl .nil)) ?_
  refine RK.seq ?_
  refine RK.region ?_
  refine RL.p rfl rfl ?_
  refine RL.done ?_
  refine RK.seq ?_
  refine RK.region ?_
  iterate 2 refine RL.p rfl rfl ?_
  refine RL.q (.free rfl) rfl rfl (Yld.fieldAddr fo101_3 rfl) ?_
  refine RL.q (.free rfl) rfl rfl (Yld.load p44 rfl (at1 (hblk.cell rfl))) ?_
  refine RL.q (.free rfl) rfl rfl (Yld.lenSl u44 rfl) ?_
  refine RL.p rfl rfl ?_
  refine RL.done ?_
  refine RK.ret_of Tryz.func13 (res1 rfl rfl) ?_ _
  exact ⟨_, rfl, by rw [hal], rfl⟩
def getZ (s : SS) (id : Int) : Option Slz := (placeZ s id).bind fun i => s.sl[i]?
theorem getZ_ok (w : World) (p : Nat) (s : SS) (O M : Nat → Prop) (h : ZStore O M w p s) (g : Gz s) (now id : Int) (hms : ∀ a ∈ s.sl, a.ms.length ≤ 1000000) :
    Fx Tryz.prog 16 [pp p, .int .u64 now, .int .i64 id] w (fun u w' => (match getZ s id with
      | none => u = .tuple #[.agg (silC ⟨0, 0, 0, 0, .slice none 0 0, [], ⟨false, 0, 0⟩⟩).toArray, .bool false]
      | some a => ∃ v', u = .tuple #[.agg (silC ⟨a.id, stateS now a.start a.stop, a.start, a.stop, v', a.ms, a.bd⟩).toArray, .bool true] ∧ Row w' 108 3 v' a.ms.length (a.ms.flatMap mtC) ∧ Fresh w.heap.size v') ∧ Grow w w') := by
  obtain ⟨pl, qu, vp, vq, vs, al, q, hO, h⟩ := h
  have hal := h.len
  have hals := h.als
  have hsms := h.sms
  have hblk := h.blk
  have hsl := Sl.own (M := No) h.row (fun _ _ h => h)
  cases hpz : placeZ s id with
  | none =>
    have e : getZ s id = none := by unfold getZ; rw [hpz]; rfl
    rw [e]
    refine enter Tryz.func16 rfl rfl rfl _ (Pick.sub (l := [0, 1, 2]) (.cons rfl (.cons rfl (.cons rfl .nil)))) ?_
    refine RK.seq ?_
    refine RK.region ?_
    refine RL.op (.free rfl) rfl rfl (Does.alloc i41) ?_
    rintro _ w1 ⟨b6, rfl, hn6⟩
    refine RL.p rfl rfl ?_
    refine RL.done ?_
    refine RK.seq ?_
    refine RK.region ?_
    iterate 2 refine RL.p rfl rfl ?_
    refine RL.op (.free rfl) rfl rfl (Does.call rfl e54 (findZ_ok _ p s M pl qu vp vq vs al q (h.grow hn6.grow) g id)) ?_
    rintro _ w2 ⟨⟨i, rfl, hi⟩, hg2⟩
    rw [hpz]
    iterate 5 refine RL.p rfl rfl ?_
    refine RL.done ?_
    iterate 2 refine RK.seq ?_
    refine RK.region ?_
    iterate 2 refine RL.p rfl rfl ?_
    refine RL.done ?_
    refine RK.condT (hcT rfl (rfl)) ?_
    refine RK.seq ?_
    refine RK.region ?_
    refine RL.q (.free rfl) rfl rfl (Yld.build (v := .agg (silC ⟨0, 0, 0, 0, .slice none 0 0, [], ⟨false, 0, 0⟩⟩).toArray) rfl (fun w => by kernel_rfl)) ?_
    refine RL.op' (.free rfl) rfl (Does.storeN i41 rfl rfl rfl rfl (hn6.blk.mod hg2 (fun h => h)) (Nat.le_refl 8)) ?_
    rintro _ w3 ⟨hb3, hm3, _⟩
    refine RL.p rfl rfl ?_
    refine RL.done ?_
    refine RK.ret_of Tryz.func16 (resCT (cs := silC ⟨0, 0, 0, 0, .slice none 0 0, [], ⟨false, 0, 0⟩⟩) rfl rfl a41 hb3 rfl) ?_ _
    exact ⟨_, rfl, rfl, (hn6.grow.trans hg2).then hm3 (fun y hy e => by have e' : y = b6 := e; have := hn6.at_; omega)⟩
  | some j =>
    obtain ⟨ads, cs, rfl⟩ := h.row.slice
    refine enter Tryz.func16 rfl rfl rfl _ (Pick.sub (l := [0, 1, 2]) (.cons rfl (.cons rfl (.cons rfl .nil)))) ?_
    refine RK.seq ?_
    refine RK.region ?_
    refine RL.op (.free rfl) rfl rfl (Does.alloc i41) ?_
    rintro _ w1 ⟨b6, rfl, hn6⟩
    refine RL.p rfl rfl ?_
    refine RL.done ?_
    refine RK.seq ?_
    refine RK.region ?_
    iterate 2 refine RL.p rfl rfl ?_
    refine RL.op (.free rfl) rfl rfl (Does.call rfl e54 (findZ_ok _ p s M pl qu vp vq _ al q (h.grow hn6.grow) g id)) ?_
    rintro _ w2 ⟨⟨i, rfl, hi⟩, hg2⟩
    obtain ⟨rfl, hil⟩ := hi j hpz
    rw [hpz]
    have hg02 := hn6.grow.trans hg2
    obtain ⟨a, ha⟩ : ∃ a, al[j]? = some a := ⟨al[j]'hil, List.getElem?_eq_getElem hil⟩
    have e : getZ s id = some (pubZ a) := by unfold getZ; rw [hpz, ← hals]; simp [ha]
    rw [e]
    have ham : pubZ a ∈ s.sl := by rw [← hals]; exact List.mem_map.2 ⟨a, List.mem_of_getElem? ha, rfl⟩
    obtain ⟨b1, o1, c1', he1, _, _, hc1⟩ := hsl.elem silC_len ha
    cases he1
    iterate 5 refine RL.p rfl rfl ?_
    refine RL.done ?_
    iterate 2 refine RK.seq ?_
    refine RK.region ?_
    iterate 2 refine RL.p rfl rfl ?_
    refine RL.done ?_
    refine RK.condF (hcF rfl (rfl)) ?_
    refine RK.skip ?_
    refine RK.seq ?_
    refine RK.region ?_
    iterate 3 refine RL.p rfl rfl ?_
    refine RL.q (.free rfl) rfl rfl (Yld.fieldAddr fo101_3 rfl) ?_
    refine RL.q (.free rfl) rfl rfl (Yld.load p44 rfl (at1 ((hblk.mod hg02 (fun h => h)).cell rfl))) ?_
    refine RL.p rfl rfl ?_
    refine RL.q (.free rfl) rfl rfl (Yld.indexAddrN u44 i41 rfl rfl (by omega)) ?_
    refine RL.q (.free rfl) rfl rfl (Yld.loadN (cs := silC a) a41 rfl (atN (fun q z hq => hg02.cell (hc1 q z hq) (fun h => h)))) ?_
    refine RL.op (.free rfl) rfl rfl (Does.call rfl e55 (toldZ_ok M now a _ ((hsms a (List.mem_of_getElem? ha)).mod (Mod.any' hg02)) (hms _ ham))) ?_
    rintro _ w3 ⟨v', rfl, hr3, hf3, hg3⟩
    have hlt3 := fun b e => hr3.lt (b := b) e
    obtain ⟨ad3, c3, rfl⟩ := hr3.slice
    refine RL.op' (.free rfl) rfl (Does.storeN i41 rfl rfl rfl rfl ((hn6.blk.mod hg2 (fun h => h)).mod hg3 (fun h => h)) (Nat.le_refl 8)) ?_
    rintro _ w4 ⟨hb4, hm4, _⟩
    have hz2 := hg2.size
    have hz6 := hn6.size
    have ha6 := hn6.at_
    refine RL.p rfl rfl ?_
    refine RL.done ?_
    refine RK.ret_of Tryz.func16 (resCT (cs := silC { a with ver := stateS now a.start a.stop, mv := .slice ad3 a.ms.length c3 }) rfl rfl a41 hb4 rfl) ?_ _
    exact ⟨_, rfl, ⟨.slice ad3 a.ms.length c3, rfl, hr3.mod hm4 (fun b e h => by have := hf3 b e; have h' : b = b6 := h; omega), fun b e => by have := hf3 b e; omega⟩, (hg02.trans hg3).then hm4 (fun y hy e => by have e' : y = b6 := e; omega)⟩
end Go.Proofs.YtbcbfjnlnmhpbaaGreat
set_option linter.unusedVariables false
set_option linter.unusedSimpArgs false
set_option maxHeartbeats 3200000
set_option maxRecDepth 100000
namespace Go.Proofs.YtbcbfjnlnmhpbaaGreat
open Go Go.X
def minS (a b : Int) : Int := if b < a then b else a
def turnS (s : SS) (i : Nat) (a : Slz) : SS := { s with sl := s.sl.set i a }
def expireS (s : SS) (now id : Int) : SS × Int :=
  match placeZ s id with
  | none => (s, 5)
  | some i => match s.sl[i]? with
    | none => (s, 5)
    | some a => if stateS now a.start a.stop = 3 then (s, 6) else (turnS s i { a with start := minS a.start now, stop := now }, 0)
theorem turned (w w' : World) (p : Nat) (s s' : SS) (O M : Nat → Prop) (pl qu : Nat) (vp vq vs vq' : Value) (al al' : List Sil) (q q' : List En) (hO : ∀ b, O b ↔ ownS p pl qu vp vq vs b) (h : ZA w p s M pl qu vp vq vs al q)
    (hr : s'.ret = s.ret) (hmo : s'.most = s.most) (hla : s'.last = s.last)
    (blk : Blk w' p 101 [pp pl, pp qu, .int .u64 s.ret, vs]) (que : QAt w' qu q' vq') (row : Row w' 41 8 vs al'.length (al'.flatMap silC)) (als : al'.map pubZ = s'.sl) (ids : al'.map (·.id) = al.map (·.id))
    (sms : ∀ a ∈ al', SlM M w a.mv a.ms ∨ (Row w' 108 3 a.mv a.ms.length (a.ms.flatMap mtC) ∧ ∀ b, a.mv.ownBlock = some b → w.heap.size ≤ b)) (sort : SortE q') (perm : q'.Perm (al'.map (entZ s.ret)))
    (hm : Mod (fun b => b = qu ∨ vq.ownBlock = some b ∨ vs.ownBlock = some b) w w') (hf : ∀ b, vq'.ownBlock = some b → vq.ownBlock = some b ∨ w.heap.size ≤ b) :
    ∃ O', ZStore O' (fun b => M b ∨ O' b) w' p s' ∧ Mod O w w' ∧ ∀ b, O' b → O b ∨ w.heap.size ≤ b := by
  have hown : ∀ x, ownS p pl qu vp vq' vs x → ownS p pl qu vp vq vs x ∨ w.heap.size ≤ x := fun x e => by
    rcases e with e | e | e | e | e | e
    · exact .inl (.inl e)
    · exact .inl (.inr (.inl e))
    · exact .inl (.inr (.inr (.inl e)))
    · exact .inl (.inr (.inr (.inr (.inl e))))
    · rcases hf x e with e | e
      · exact .inl (.inr (.inr (.inr (.inr (.inl e)))))
      · exact .inr e
    · exact .inl (.inr (.inr (.inr (.inr (.inr e)))))
  have hmP : Mod (ownS p pl qu vp vq vs) w w' := hm.mono fun x _ e => by
    rcases e with e | e | e
    · exact .inr (.inr (.inl e))
    · exact .inr (.inr (.inr (.inr (.inl e))))
    · exact .inr (.inr (.inr (.inr (.inr e))))
  have hpool : PoolAt w' pl s.most s.last (al.map (·.id)) vp := h.pool.mod hm (fun e => by
    rcases e with e | e | e
    · exact h.ne_plqu e
    · exact h.pool.blk.ty.ne (h.que.row.ty e) rfl rfl
    · exact h.pool.blk.ty.ne (h.row.ty e) rfl rfl) (fun x e1 e => by
    rcases e with e | e | e
    · exact (h.pool.row.ty e1).ne h.que.blk.ty rfl e
    · exact (h.pool.row.ty e1).ne (h.que.row.ty e) rfl rfl
    · exact (h.pool.row.ty e1).ne (h.row.ty e) rfl rfl)
  refine ⟨ownS p pl qu vp vq' vs, ZStore.next (w := w) (al := al') (q := q') h.ltM (hmP.mono fun x _ e => h.ownM x e) (by rw [hr]; exact blk) (by rw [hmo, hla, ids]; exact hpool) que row als sms sort (by rw [hr]; exact perm) (fun x e => (hown x e).elim (fun e => .inl (h.ownM x e)) .inr), hmP.mono fun x _ e => (hO x).2 e, fun x e => (hown x e).elim (fun e => .inl ((hO x).2 e)) .inr⟩
theorem set_ids {al : List Sil} {i : Nat} {a a' : Sil} (ha : al[i]? = some a) (hid : a'.id = a.id) : (al.set i a').map (·.id) = al.map (·.id) := by
  rw [List.map_set]
  apply List.ext_getElem?
  intro j
  rw [List.getElem?_set]
  split
  · rename_i e
    subst e
    split
    · rw [List.getElem?_map, ha]; simp [hid]
    · rename_i e2
      rw [eq_comm, List.getElem?_eq_none_iff]; omega
  · rfl
theorem expireZ_ok (w : World) (p : Nat) (s : SS) (O M : Nat → Prop) (h : ZStore O M w p s) (g : Gz s) (now id : Int) (hn : 0 ≤ now) :
    Fx Tryz.prog 20 [pp p, .int .u64 now, .int .i64 id] w (fun u w' => ∃ O', u = .int .i64 (expireS s now id).2 ∧ ZStore O' (fun x => M x ∨ O' x) w' p (expireS s now id).1 ∧ Mod O w w' ∧ ∀ x, O' x → O x ∨ w.heap.size ≤ x) := by
  have hself := h.self
  have hback : ∀ w', Grow w w' → ZStore O (fun b => M b ∨ O b) w' p s := fun w' hg => hself.grow hg
  obtain ⟨pl, qu, vp, vq, vs, al, q, hO, h⟩ := h
  have hle := g.le
  have hal := h.len
  have hids := h.ids
  have hals := h.als
  have hql := h.qlen
  have hcall := findZ_ok w p s M pl qu vp vq vs al q h g id
  obtain ⟨ads, cs, rfl⟩ := h.row.slice
  cases hpz : placeZ s id with
  | none =>
    have e : expireS s now id = (s, 5) := by unfold expireS; rw [hpz]
    rw [hpz] at hcall
    rw [e]
    refine enter Tryz.func20 rfl rfl rfl _ (Pick.sub (l := [0, 1, 2]) (.cons rfl (.cons rfl (.cons rfl .nil)))) ?_
    refine RK.seq ?_
    refine RK.region ?_
    refine RL.p rfl rfl ?_
    refine RL.done ?_
    refine RK.seq ?_
    refine RK.region ?_
    iterate 2 refine RL.p rfl rfl ?_
    refine RL.op (.free rfl) rfl rfl (Does.call rfl e54 (hcall)) ?_
    rintro _ w2 ⟨⟨i, rfl, hi⟩, hg2⟩
    iterate 5 refine RL.p rfl rfl ?_
    refine RL.done ?_
    iterate 2 refine RK.seq ?_
    refine RK.region ?_
    iterate 2 refine RL.p rfl rfl ?_
    refine RL.done ?_
    refine RK.condT (hcT rfl (rfl)) ?_
    refine RK.seq ?_
    refine RK.region ?_
    refine RL.p rfl rfl ?_
    refine RL.done ?_
    refine RK.ret_of Tryz.func20 (res1 rfl rfl) ?_ _
    exact ⟨_, rfl, O, rfl, hback _ hg2, Mod.any' hg2, fun x e => .inl e⟩
  | some j =>
    rw [hpz] at hcall
    refine enter Tryz.func20 rfl rfl rfl _ (Pick.sub (l := [0, 1, 2]) (.cons rfl (.cons rfl (.cons rfl .nil)))) ?_
    refine RK.seq ?_
    refine RK.region ?_
    refine RL.p rfl rfl ?_
    refine RL.done ?_
    refine RK.seq ?_
    refine RK.region ?_
    iterate 2 refine RL.p rfl rfl ?_
    refine RL.op (.free rfl) rfl rfl (Does.call rfl e54 (hcall)) ?_
    rintro _ w2 ⟨⟨i, rfl, hi⟩, hg2⟩
    obtain ⟨rfl, hil⟩ := hi j rfl
    obtain ⟨a, ha⟩ : ∃ a, al[j]? = some a := ⟨al[j]'hil, List.getElem?_eq_getElem hil⟩
    have hsj : s.sl[j]? = some (pubZ a) := by rw [← hals]; simp [ha]
    have h2 := h.grow hg2
    obtain ⟨b1, o1, c1', he1, _, _, hc1⟩ := (Sl.own (M := No) h2.row (fun _ _ h => h)).elem silC_len ha
    cases he1
    have hsm := h2.sms a (List.mem_of_getElem? ha)
    have hst := g.st _ (List.mem_of_getElem? hsj)
    have hr0 := g.r0
    have hr1 := g.r1
    iterate 5 refine RL.p rfl rfl ?_
    refine RL.done ?_
    iterate 2 refine RK.seq ?_
    refine RK.region ?_
    iterate 2 refine RL.p rfl rfl ?_
    refine RL.done ?_
    refine RK.condF (hcF rfl (rfl)) ?_
    refine RK.skip ?_
    refine RK.seq ?_
    refine RK.region ?_
    iterate 2 refine RL.p rfl rfl ?_
    refine RL.q (.free rfl) rfl rfl (Yld.fieldAddr fo101_3 rfl) ?_
    refine RL.q (.free rfl) rfl rfl (Yld.load p44 rfl (at1 (h2.blk.cell rfl))) ?_
    refine RL.p rfl rfl ?_
    refine RL.q (.free rfl) rfl rfl (Yld.indexAddrN u44 i41 rfl rfl (by omega)) ?_
    refine RL.q (.free rfl) rfl rfl (Yld.loadN (cs := silC a) a41 rfl (atN (hc1))) ?_
    refine RL.op (.free rfl) rfl rfl (Does.alloc i41) ?_
    rintro _ w3 ⟨b9, rfl, hn9⟩
    refine RL.op' (.free rfl) rfl (Does.storeN i41 rfl rfl rfl (silC_one hsm) hn9.blk (Nat.le_refl 8)) ?_
    rintro _ w4 ⟨hb4, hm4, _⟩
    have hg24 : Grow w2 w4 := hn9.grow.then hm4 (fun y hy e => by have e' : y = b9 := e; have := hn9.at_; omega)
    have hg04 := hg2.trans hg24
    have hB4 : Blk w4 b9 41 [.int .i64 a.id, .int .i64 a.ver, .int .u64 a.start, .int .u64 a.stop, a.mv, .bool a.bd.all, .float .f64 a.bd.lo, .float .f64 a.bd.hi] := hb4
    refine RL.done ?_
    iterate 2 refine RK.seq ?_
    refine RK.region ?_
    refine RL.p rfl rfl ?_
    refine RL.q (.free rfl) rfl rfl (Yld.fieldAddr fo41_2 rfl) ?_
    refine RL.q (.free rfl) rfl rfl (Yld.load p22 rfl (at1 (hB4.cell rfl))) ?_
    refine RL.q (.free rfl) rfl rfl (Yld.fieldAddr fo41_3 rfl) ?_
    refine RL.q (.free rfl) rfl rfl (Yld.load p22 rfl (at1 (hB4.cell rfl))) ?_
    refine RL.op (.free rfl) rfl rfl (Does.call rfl e51 (state_ok now a.start a.stop _)) ?_
    rintro _ _ ⟨rfl, rfl⟩
    refine RL.p rfl rfl ?_
    refine RL.done ?_
    first | refine RK.condD rfl (fun h31 => ?_) (fun h31 => ?_) | refine RK.condN rfl (fun h31 => ?_) (fun h31 => ?_) | refine RK.cond rfl (fun h31 => ?_) (fun h31 => ?_)
    · have e : expireS s now id = (s, 6) := by unfold expireS; rw [hpz]; simp only; rw [hsj]; simp only; exact if_pos h31
      rw [e]
      refine RK.seq ?_
      refine RK.region ?_
      refine RL.p rfl rfl ?_
      refine RL.done ?_
      refine RK.ret_of Tryz.func20 (res1 rfl rfl) ?_ _
      exact ⟨_, rfl, O, rfl, hback _ hg04, Mod.any' hg04, fun x e => .inl e⟩
    · have e : expireS s now id = (turnS s j { pubZ a with start := minS a.start now, stop := now }, 0) := by unfold expireS; rw [hpz]; simp only; rw [hsj]; simp only; exact if_neg h31
      rw [e]
      have hlt : now < a.stop := by unfold stateS at h31; split at h31 <;> omega
      have hst2 : a.stop ≤ 1099511627776 := hst.2
      have h4 := h.grow hg04
      refine RK.skip ?_
      refine RK.seq ?_
      refine RK.region ?_
      iterate 2 refine RL.p rfl rfl ?_
      refine RL.q (.free rfl) rfl rfl (Yld.fieldAddr fo41_2 rfl) ?_
      refine RL.q (.free rfl) rfl rfl (Yld.load p22 rfl (at1 (hB4.cell rfl))) ?_
      refine RL.p rfl rfl ?_
      refine RL.q (.free rfl) rfl rfl (Yld.min2k rfl rfl) ?_
      refine RL.p rfl rfl ?_
      refine RL.op (.free rfl) rfl rfl (Does.call rfl e49 (turnZ_ok _ p pl qu s.ret (minS a.start now) now vq _ al q j a h4.blk h4.que h4.sort h4.row ha (by omega) (by omega) (by omega) (by omega))) ?_
      rintro _ w5 ⟨rfl, vq', hb5, hq5, hr5, hm5, hf5⟩
      obtain ⟨O', hz, hmO, hO'⟩ := turned _ w5 p s (turnS s j { pubZ a with start := minS a.start now, stop := now }) O M pl qu vp vq _ vq' al (al.set j { a with start := minS a.start now, stop := now }) q _ hO h4 rfl rfl rfl hb5 hq5 (by rw [List.length_set]; exact hr5) (by rw [List.map_set, hals]; rfl) (set_ids ha rfl) (fun y hy => by
          rcases List.mem_or_eq_of_mem_set hy with hy | rfl
          · exact .inl (h4.sms y hy)
          · exact .inl (h4.sms a (List.mem_of_getElem? ha))) (turn_sort h4.sort h4.perm' (by rw [hids]; exact g.ris)) (turn_perm (a' := { a with start := minS a.start now, stop := now }) h4.perm' (by rw [hids]; exact g.ris) ha rfl) hm5 hf5
      have hz4 := hg04.size
      refine RL.done ?_
      refine RK.seq ?_
      refine RK.region ?_
      refine RL.p rfl rfl ?_
      refine RL.done ?_
      refine RK.ret_of Tryz.func20 (res1 rfl rfl) ?_ _
      exact ⟨_, rfl, O', rfl, hz, (Mod.any' hg04).trans hmO, fun x e => (hO' x e).elim .inl (fun e => .inr (by omega))⟩
end Go.Proofs.YtbcbfjnlnmhpbaaGreat
set_option linter.unusedVariables false
set_option linter.unusedSimpArgs false
set_option maxHeartbeats 3200000
set_option maxRecDepth 100000
namespace Go.Proofs.YtbcbfjnlnmhpbaaGreat
open Go Go.X
theorem findR_ok (w : World) (p pl qu : Nat) (ret : Int) (vs : Value) (al : List Sil) (hblk : Blk w p 101 [pp pl, pp qu, .int .u64 ret, vs]) (hrow : Row w 41 8 vs al.length (al.flatMap silC)) (hsh : ∀ a ∈ al, ∃ ad n c, a.mv = .slice ad n c) (hris : Ris (al.map (·.id))) (hle : al.length ≤ 1000000) (j : Nat) (a : Sil) (ha : al[j]? = some a) :
    Fx Tryz.prog 54 [pp p, .int .i64 a.id] w (fun u w' => u = .tuple #[.int .i64 j, .bool true] ∧ Grow w w') := by
  have hcall := bsZ_ok al a.id vs w (Sl.own hrow (fun _ _ h => h)) hsh hris hle
  obtain ⟨ad, c, rfl⟩ := hrow.slice
  refine enter Tryz.func54 rfl rfl rfl _ (Pick.sub (l := [0, 1]) (.cons rfl (.cons rfl .nil))) ?_
  refine RK.seq ?_
  refine RK.region ?_
  iterate 2 refine RL.p rfl rfl ?_
  refine RL.done ?_
  refine RK.seq ?_
  refine RK.region ?_
  iterate 2 refine RL.p rfl rfl ?_
  refine RL.q (.free rfl) rfl rfl (Yld.fieldAddr fo101_3 rfl) ?_
  refine RL.q (.free rfl) rfl rfl (Yld.load p44 rfl (at1 (hblk.cell rfl))) ?_
  refine RL.p rfl rfl ?_
  refine RL.op (.free rfl) rfl rfl (Does.call rfl e104 (hcall)) ?_
  rintro _ w2 ⟨⟨i, hi, hlo, hhi, rfl⟩, hg2⟩
  have hij : i = j := by
      have hjl := (List.getElem?_eq_some_iff.1 ha).1
      rcases Nat.lt_trichotomy j i with h1 | h1 | h1
      · have := hlo j a h1 ha; omega
      · exact h1.symm
      · have h2 := hhi i _ (Nat.le_refl _) (List.getElem?_eq_getElem (by omega))
        have h3 := List.pairwise_iff_getElem.1 hris i j (by simp; omega) (by simpa using hjl) h1
        simp only [List.getElem_map, (List.getElem?_eq_some_iff.1 ha).2] at h3
        omega
  subst hij
  iterate 4 refine RL.p rfl rfl ?_
  refine RL.done ?_
  refine RK.ret_of Tryz.func54 (res2 rfl rfl rfl) ?_ _
  exact ⟨_, rfl, by rw [List.getElem?_map, ha]; simp, hg2⟩
theorem erase_filter : ∀ (al : List Sil) (j : Nat) (a : Sil), Ris (al.map (·.id)) → al[j]? = some a → al.eraseIdx j = al.filter fun x => decide (x.id ≠ a.id)
  | [], j, a, _, h => by simp at h
  | x :: al, 0, a, hr, h => by
    obtain rfl : x = a := by simpa using h
    have h1 := (List.pairwise_cons.1 hr).1
    rw [List.eraseIdx_cons_zero, List.filter_cons_of_neg (by simp), List.filter_eq_self.2]
    intro y hy
    have h2 : x.id < y.id := h1 y.id (List.mem_map.2 ⟨y, hy, rfl⟩)
    simp only [decide_eq_true_eq]
    omega
  | x :: al, j + 1, a, hr, h => by
    have ha : al[j]? = some a := by simpa using h
    have h1 : x.id < a.id := (List.pairwise_cons.1 hr).1 a.id (List.mem_map.2 ⟨a, List.mem_of_getElem? ha, rfl⟩)
    rw [List.eraseIdx_cons_succ, List.filter_cons_of_pos (by simp only [decide_eq_true_eq]; omega), erase_filter al j a (List.pairwise_cons.1 hr).2 ha]
def dueZ (ret now : Int) (a : Slz) : Bool := decide (a.stop + ret ≤ now)
def sweptZ (s : SS) (now : Int) : SS := { s with sl := s.sl.filter fun a => !dueZ s.ret now a }
def keptA (al : List Sil) (ids : List Int) : List Sil := al.filter fun a => !ids.contains a.id
theorem keptA_nil (al : List Sil) : keptA al [] = al := List.filter_eq_self.2 fun a _ => rfl
theorem keptA_ris {al : List Sil} (h : Ris (al.map (·.id))) (ids : List Int) : Ris ((keptA al ids).map (·.id)) := by
  unfold keptA
  exact h.sublist (List.filter_sublist.map _)
theorem keptA_snoc (al : List Sil) (ids : List Int) (x : Int) : keptA al (ids ++ [x]) = (keptA al ids).filter fun a => decide (a.id ≠ x) := by
  unfold keptA
  rw [List.filter_filter]
  apply List.filter_congr
  intro a _
  by_cases h : a.id = x <;> simp [h, Bool.and_comm]
theorem give_filter {l : List Int} {x : Int} (h : Ris l) (hx : x ∈ l) : giveS l x = l.filter fun y => decide (y ≠ x) := by
  unfold giveS cutRow
  rw [if_pos (by simpa using hx), mkRow_id h]
theorem sweepO_ok (w : World) (p : Nat) (s : SS) (O M : Nat → Prop) (h : ZStore O M w p s) (g : Gz s) (now : Int) :
    Fx Tryz.prog 18 [pp p, .int .u64 now] w (fun u w' => ∃ O' ids, (∃ es : List En, SortE es ∧ es.Perm ((s.sl.filter (dueZ s.ret now)).map fun a => ⟨a.stop + s.ret, a.id⟩) ∧ ids = es.map (·.id)) ∧ Row w' 3 1 u ids.length (ints ids) ∧ Fresh w.heap.size u ∧ ids.Perm ((s.sl.filter (dueZ s.ret now)).map (·.id)) ∧ ZStore O' (fun x => M x ∨ O' x) w' p (sweptZ s now) ∧ Mod O w w' ∧ (∀ x, O' x → O x ∨ w.heap.size ≤ x) ∧ ∀ b, u.ownBlock = some b → ¬ O' b) := by
  obtain ⟨pl, qu, vp, vq, vs, al, q, hO, h⟩ := h
  have hle := g.le
  have hal := h.len
  have hids := h.ids
  have hals := h.als
  have hql := h.qlen
  have hris : Ris (al.map (·.id)) := by rw [hids]; exact g.ris
  have hsh := h.sh
  obtain ⟨ids, hidq⟩ : ∃ ids, ids = (dueE q now).map (·.id) := ⟨_, rfl⟩
  have hdueal : (dueE q now).Perm ((al.filter fun a => dueZ s.ret now (pubZ a)).map (entZ s.ret)) := by
    have h1 := h.perm'.filter (fun a : En => decide (a.due ≤ now))
    rw [List.filter_map] at h1
    exact h1
  have hrestal : (restE q now).Perm ((al.filter fun a => !dueZ s.ret now (pubZ a)).map (entZ s.ret)) := by
    have h1 := h.perm'.filter (fun a : En => !decide (a.due ≤ now))
    rw [List.filter_map] at h1
    exact h1
  have hidperm : ids.Perm ((al.filter fun a => dueZ s.ret now (pubZ a)).map (·.id)) := by
    have h1 := hdueal.map (fun e : En => e.id)
    rw [List.map_map] at h1
    rw [hidq]
    exact h1
  have hidn : ids.Nodup := by
    rw [hidperm.nodup_iff]
    have h1 : Ris ((al.filter fun a => dueZ s.ret now (pubZ a)).map (·.id)) := hris.sublist (List.filter_sublist.map _)
    exact h1.imp fun {x y} h e => by omega
  have hidmem : ∀ x, x ∈ ids → ∃ a ∈ al, a.id = x ∧ dueZ s.ret now (pubZ a) = true := fun x hx => by
    obtain ⟨a, ha, rfl⟩ := List.mem_map.1 (hidperm.mem_iff.1 hx)
    exact ⟨a, (List.mem_filter.1 ha).1, rfl, (List.mem_filter.1 ha).2⟩
  have hidlen : ids.length = (dueE q now).length := by rw [hidq, List.length_map]
  have hidle : ids.length ≤ al.length := by
    rw [hidperm.length_eq, List.length_map]
    exact List.length_filter_le _ _
  have hkept : keptA al ids = al.filter fun a => !dueZ s.ret now (pubZ a) := by
    unfold keptA
    apply List.filter_congr
    intro a ha
    congr 1
    rw [Bool.eq_iff_iff]
    constructor
    · intro hc
      obtain ⟨b, hb, e, hd⟩ := hidmem a.id (by simpa using hc)
      obtain ⟨i, hi⟩ := List.getElem?_of_mem ha
      obtain ⟨k, hk⟩ := List.getElem?_of_mem hb
      have e2 : i = k := by
        have hil := (List.getElem?_eq_some_iff.1 hi).1
        have hkl := (List.getElem?_eq_some_iff.1 hk).1
        rcases Nat.lt_trichotomy i k with h1 | h1 | h1
        · have h3 := List.pairwise_iff_getElem.1 hris i k (by simpa using hil) (by simpa using hkl) h1
          simp only [List.getElem_map, (List.getElem?_eq_some_iff.1 hi).2, (List.getElem?_eq_some_iff.1 hk).2] at h3
          omega
        · exact h1
        · have h3 := List.pairwise_iff_getElem.1 hris k i (by simpa using hkl) (by simpa using hil) h1
          simp only [List.getElem_map, (List.getElem?_eq_some_iff.1 hi).2, (List.getElem?_eq_some_iff.1 hk).2] at h3
          omega
      subst e2
      rw [hi] at hk
      cases hk
      exact hd
    · intro hd
      have : a.id ∈ ids := hidperm.mem_iff.2 (List.mem_map.2 ⟨a, List.mem_filter.2 ⟨ha, hd⟩, rfl⟩)
      simpa using this
  refine enter Tryz.func18 rfl rfl rfl _ (Pick.sub (l := [0, 1]) (.cons rfl (.cons rfl .nil))) ?_
  refine RK.seq ?_
  refine RK.region ?_
  refine RL.p rfl rfl ?_
  refine RL.done ?_
  refine RK.seq ?_
  refine RK.region ?_
  iterate 2 refine RL.p rfl rfl ?_
  refine RL.q (.free rfl) rfl rfl (Yld.fieldAddr fo101_1 rfl) ?_
  refine RL.q (.free rfl) rfl rfl (Yld.load p98 rfl (at1 (h.blk.cell rfl))) ?_
  refine RL.p rfl rfl ?_
  refine RL.op (.free rfl) rfl rfl (Does.call rfl e56 (reapDue_ok w qu q vq h.que h.sort now (by omega))) ?_
  rintro u1 w1 ⟨hr1, hf1, ⟨vq', hq1, hqo⟩, hm1⟩
  rw [← hidq, ← hidlen] at hr1
  obtain ⟨ad1, c1, rfl⟩ := hr1.slice
  have n1 : ∀ b, (b = qu ∨ vq.ownBlock = some b) → Ty w b 155 ∨ Ty w b 164 := fun b e => e.elim (fun e => .inl (e ▸ h.que.blk.ty)) (fun e => .inr (h.que.row.ty e))
  have hb1 := h.blk.mod hm1 (fun e => (n1 _ e).elim (fun t => h.blk.ty.ne t rfl rfl) (fun t => h.blk.ty.ne t rfl rfl))
  have hp1 := h.pool.mod hm1 (fun e => (n1 _ e).elim (fun t => h.pool.blk.ty.ne t rfl rfl) (fun t => h.pool.blk.ty.ne t rfl rfl)) (fun x e1 e => (n1 _ e).elim (fun t => (h.pool.row.ty e1).ne t rfl rfl) (fun t => (h.pool.row.ty e1).ne t rfl rfl))
  have hr1s := h.row.mod hm1 (fun x e1 e => (n1 _ e).elim (fun t => (h.row.ty e1).ne t rfl rfl) (fun t => (h.row.ty e1).ne t rfl rfl))
  have hmP1 : Mod (ownS p pl qu vp vq vs) w w1 := hm1.mono fun x _ e => e.elim (fun e => .inr (.inr (.inl e))) (fun e => .inr (.inr (.inr (.inr (.inl e)))))
  have hown0 : ∀ x, ownS p pl qu vp vq vs x → x < w.heap.size := fun x e => h.own_lt e
  have hz1 := hm1.size
  refine RL.p rfl rfl ?_
  refine RL.done ?_
  iterate 2 refine RK.seq ?_
  refine RK.region ?_
  refine RL.p rfl rfl ?_
  refine RL.q (.free rfl) rfl rfl (Yld.lenSl u35 rfl) ?_
  refine RL.p rfl rfl ?_
  refine RL.done ?_
  refine RK.block ?_
  refine RK.loop (fun k : Nat => [(0, pp p), (5, .slice ad1 ids.length c1), (16, .slice ad1 ids.length c1), (17, .int .i64 (ids.length : Int)), (18, .int .i64 (k : Int))]) (fun k w' => k ≤ ids.length ∧ (∃ vp' vs', Blk w' p 101 [pp pl, pp qu, .int .u64 s.ret, vs'] ∧ PoolAt w' pl s.most s.last ((keptA al (ids.take k)).map (·.id)) vp' ∧ Row w' 41 8 vs' (keptA al (ids.take k)).length ((keptA al (ids.take k)).flatMap silC) ∧ vs'.ownBlock = vs.ownBlock ∧ (∀ b, vp'.ownBlock = some b → vp.ownBlock = some b ∨ w1.heap.size ≤ b)) ∧ QAt w' qu (restE q now) vq' ∧ Row w' 3 1 (.slice ad1 ids.length c1) ids.length (ints ids) ∧ Mod (fun b => b = p ∨ b = pl ∨ vs.ownBlock = some b) w1 w') (fun k => ids.length - k) 0 ⟨rfl, rfl, rfl, rfl, rfl, trivial⟩ ⟨by omega, ⟨vp, vs, hb1, by rw [List.take_zero, keptA_nil]; exact hp1, by rw [List.take_zero, keptA_nil]; exact hr1s, rfl, fun b e => .inl e⟩, hq1, hr1, Mod.refl _ _⟩ (fun k w' hI ih => ?_)
  obtain ⟨hk, ⟨vp', vs', hbk, hpk, hrk, hvo, hpo⟩, hqk, hrk1, hmk⟩ := hI
  have hkl : (keptA al (ids.take k)).length ≤ al.length := List.length_filter_le _ _
  have hzk := hmk.size
  refine RK.seq ?_
  refine RK.region ?_
  refine RL.p rfl rfl ?_
  refine RL.done ?_
  refine RK.seq ?_
  first | refine RK.condD rfl (fun h19 => ?_) (fun h19 => ?_) | refine RK.condN rfl (fun h19 => ?_) (fun h19 => ?_) | refine RK.cond rfl (fun h19 => ?_) (fun h19 => ?_)
  · obtain ⟨x, hx⟩ : ∃ x, ids[k]? = some x := ⟨ids[k]'(by omega), List.getElem?_eq_getElem (by omega)⟩
    obtain ⟨b1, o1, c1', he1, _, _, hc1⟩ := (Sl.own (M := No) hrk1 (fun _ _ h => h)).elem1 (k := k) (u := .int .i64 x) (by simp [hx])
    cases he1
    obtain ⟨a0, ha0, hax, had⟩ := hidmem x (List.mem_of_getElem? hx)
    have hnot : x ∉ ids.take k := fun hm => by
        obtain ⟨t, ht⟩ := List.getElem?_of_mem hm
        rw [List.getElem?_take] at ht
        split at ht
        · have h1 := (List.getElem?_eq_some_iff.1 ht)
          have h2 := (List.getElem?_eq_some_iff.1 hx)
          have := List.pairwise_iff_getElem.1 hidn t k h1.1 h2.1 (by omega)
          rw [h1.2, h2.2] at this
          exact this rfl
        · cases ht
    have hin : a0 ∈ keptA al (ids.take k) := List.mem_filter.2 ⟨ha0, by rw [hax]; simpa using hnot⟩
    obtain ⟨j, hj⟩ := List.getElem?_of_mem hin
    have hjl := (List.getElem?_eq_some_iff.1 hj).1
    subst hax
    have hrisk := keptA_ris hris (ids.take k)
    have hshk : ∀ a ∈ keptA al (ids.take k), ∃ ad n c, a.mv = .slice ad n c := fun a ha => hsh a (List.mem_filter.1 ha).1
    have htk : ids.take (k + 1) = ids.take k ++ [a0.id] := by rw [List.take_add_one, hx]; rfl
    have hnext : keptA al (ids.take (k + 1)) = (keptA al (ids.take k)).eraseIdx j := by rw [htk, keptA_snoc, erase_filter _ j a0 hrisk hj]
    refine RK.skip ?_
    refine RK.seq ?_
    refine RK.block ?_
    refine RK.seq ?_
    refine RK.region ?_
    refine RL.q (.free rfl) rfl rfl (Yld.indexAddrN u35 i3 rfl rfl (by omega)) ?_
    refine RL.q (.free rfl) rfl rfl (Yld.load p3 rfl (at1 (hc1 k (.int .i64 a0.id) (by simp [hx])))) ?_
    refine RL.p rfl rfl ?_
    refine RL.done ?_
    refine RK.seq ?_
    refine RK.region ?_
    iterate 2 refine RL.p rfl rfl ?_
    refine RL.op (.free rfl) rfl rfl (Does.call rfl e54 (findR_ok _ p pl qu s.ret vs' _ hbk hrk hshk hrisk (by omega) j a0 hj)) ?_
    rintro _ w2 ⟨rfl, hg2⟩
    obtain ⟨ads, cs, rfl⟩ := hrk.slice
    have hb2 := hbk.mod hg2 (fun h => h)
    have hr2 := hrk.mod hg2 (fun _ _ h => h)
    have hp2 := hpk.mod hg2 (fun h => h) (fun _ _ h => h)
    have hq2 := hqk.grow hg2
    iterate 5 refine RL.p rfl rfl ?_
    refine RL.done ?_
    refine RK.seq ?_
    refine RK.region ?_
    iterate 3 refine RL.p rfl rfl ?_
    refine RL.q (.free rfl) rfl rfl (Yld.fieldAddr fo101_3 rfl) ?_
    refine RL.q (.free rfl) rfl rfl (Yld.load p44 rfl (at1 (hb2.cell rfl))) ?_
    iterate 3 refine RL.p rfl rfl ?_
    refine RL.re (d := 35) rfl rfl (succ_i64 (by omega)) ?_
    refine RL.op (.free rfl) rfl rfl (Does.call rfl e57 (deleteZ_ok _ j _ _ hr2 hshk hjl (by omega))) ?_
    rintro u3 w3 ⟨hr3, ho3, hm3⟩
    obtain ⟨ad3, c3, rfl⟩ := hr3.slice
    have hb3 := hb2.mod hm3 (fun e => (hr2.ty e).ne hb2.ty rfl rfl)
    have hp3 := hp2.mod hm3 (fun e => (hr2.ty e).ne hp2.blk.ty rfl rfl) (fun x e1 e => (hp2.row.ty e1).ne (hr2.ty e) rfl rfl)
    have hq3 := hq2.mod hm3 (fun e => (hr2.ty e).ne hq2.blk.ty rfl rfl) (fun x e1 e => (hq2.row.ty e1).ne (hr2.ty e) rfl rfl)
    have hrk2 := hrk1.mod hg2 (fun _ _ h => h)
    have hrk3 := hrk2.mod hm3 (fun x e1 e => (hrk2.ty e1).ne (hr2.ty e) rfl rfl)
    refine RL.p rfl rfl ?_
    refine RL.q (.free rfl) rfl rfl (Yld.fieldAddr fo101_3 rfl) ?_
    refine RL.op' (.free rfl) rfl (Does.store i44 rfl rfl rfl hb3 (.s (.s (.s .z)))) ?_
    rintro _ w4 ⟨hb4, hm4, hs4⟩
    have hr4 := hr3.mod hm4 (fun x e1 e => (hr3.ty e1).ne hb3.ty rfl e)
    have hp4 := hp3.mod hm4 (fun e => hp3.blk.ty.ne hb3.ty rfl e) (fun x e1 e => (hp3.row.ty e1).ne hb3.ty rfl e)
    have hq4 := hq3.mod hm4 (fun e => hq3.blk.ty.ne hb3.ty rfl e) (fun x e1 e => (hq3.row.ty e1).ne hb3.ty rfl e)
    have hrk4 := hrk3.mod hm4 (fun x e1 e => (hrk3.ty e1).ne hb3.ty rfl e)
    refine RL.done ?_
    refine RK.region ?_
    iterate 2 refine RL.p rfl rfl ?_
    refine RL.q (.free rfl) rfl rfl (Yld.fieldAddr fo101_0 rfl) ?_
    refine RL.q (.free rfl) rfl rfl (Yld.load p96 rfl (at1 (hb4.cell rfl))) ?_
    refine RL.p rfl rfl ?_
    refine RL.op (.free rfl) rfl rfl (Does.call rfl e58 (give_ok _ pl s.most s.last _ vp' a0.id hp4 hrisk (by rw [List.length_map]; omega))) ?_
    rintro _ w5 ⟨rfl, vp5, hp5, hm5, hf5⟩
    have hb5 := hb4.mod hm5 (fun e => hb4.ty.ne hp4.blk.ty rfl e)
    have hr5 := hr4.mod hm5 (fun x e1 e => (hr4.ty e1).ne hp4.blk.ty rfl e)
    have hq5 := hq4.mod hm5 (fun e => hq4.blk.ty.ne hp4.blk.ty rfl e) (fun x e1 e => (hq4.row.ty e1).ne hp4.blk.ty rfl e)
    have hrk5 := hrk4.mod hm5 (fun x e1 e => (hrk4.ty e1).ne hp4.blk.ty rfl e)
    have hgv : giveS ((keptA al (ids.take k)).map (·.id)) a0.id = ((keptA al (ids.take k)).eraseIdx j).map (·.id) := by
        rw [give_filter hrisk (List.mem_map.2 ⟨a0, hin, rfl⟩), erase_filter _ j a0 hrisk hj, List.filter_map]
        rfl
    rw [hgv] at hp5
    have hz2 := hg2.size
    have hz3 := hm3.size
    have hz4 := hm4.size
    refine RL.done ?_
    refine RK.inBlock ?_
    refine RK.region ?_
    refine RL.p rfl rfl ?_
    refine RL.re (d := 45) rfl rfl (succ_i64 (by omega)) ?_
    refine RL.p rfl rfl ?_
    refine RL.done ?_
    exact RK.back (ih (k + 1) _ ⟨by omega, ⟨vp5, .slice ad3 _ c3, hb5, by rw [hnext]; exact hp5, by rw [hnext]; exact hr5, ho3.trans hvo, fun b e => by
        rcases hf5 b e with e | e
        · exact hpo b e
        · exact .inr (by omega)⟩, hq5, hrk5, (((hmk.trans (Mod.any' hg2)).trans (hm3.mono fun b _ e => .inr (.inr (hvo ▸ e)))).trans (hm4.mono fun b _ e => .inl e)).trans (hm5.mono fun b _ e => .inr (.inl e))⟩ (by omega)) ⟨rfl, rfl, rfl, rfl, rfl, trivial⟩
  · have hke : ids.take k = ids := List.take_of_length_le (by omega)
    rw [hke, hkept] at hpk hrk
    have hown : ∀ x, ownS p pl qu vp' vq' vs' x → ownS p pl qu vp vq vs x ∨ w.heap.size ≤ x := fun x e => by
        rcases e with e | e | e | e | e | e
        · exact .inl (.inl e)
        · exact .inl (.inr (.inl e))
        · exact .inl (.inr (.inr (.inl e)))
        · rcases hpo x e with e | e
          · exact .inl (.inr (.inr (.inr (.inl e))))
          · exact .inr (by omega)
        · exact .inl (.inr (.inr (.inr (.inr (.inl (hqo ▸ e))))))
        · exact .inl (.inr (.inr (.inr (.inr (.inr (hvo ▸ e))))))
    have hmP : Mod (ownS p pl qu vp vq vs) w w' := hmP1.trans (hmk.mono fun x _ e => by
        rcases e with e | e | e
        · exact .inl e
        · exact .inr (.inl e)
        · exact .inr (.inr (.inr (.inr (.inr e)))))
    refine RK.exit rfl ?_
    refine RK.seq ?_
    refine RK.region ?_
    iterate 2 refine RL.p rfl rfl ?_
    refine RL.done ?_
    refine RK.ret_of Tryz.func18 (res1 rfl rfl) ?_ _
    exact ⟨_, rfl, ownS p pl qu vp' vq' vs', ids, ⟨dueE q now, h.sort.filter _, by
        rw [← hals, List.filter_map, List.map_map]
        exact hdueal, hidq⟩, hrk1, hf1, by
        rw [← hals, List.filter_map, List.map_map]
        exact hidperm, ZStore.next (w := w) (al := al.filter fun a => !dueZ s.ret now (pubZ a)) h.ltM (hmP.mono fun x _ e => h.ownM x e) hbk hpk hqk hrk (by
        show _ = s.sl.filter _
        rw [← hals, List.filter_map]; rfl) (fun a ha => .inl (h.sms a (List.mem_filter.1 ha).1)) (h.sort.filter _) hrestal (fun x e => (hown x e).elim (fun e => .inl (h.ownM x e)) .inr), hmP.mono fun x _ e => (hO x).2 e, fun x e => (hown x e).elim (fun e => .inl ((hO x).2 e)) .inr, fun b e e2 => by
        have h1 := hf1 b e
        have h2 := hr1.lt e
        rcases e2 with e2 | e2 | e2 | e2 | e2 | e2
        · exact (hrk1.ty e).ne hbk.ty rfl e2
        · exact (hrk1.ty e).ne hpk.blk.ty rfl e2
        · exact (hrk1.ty e).ne hqk.blk.ty rfl e2
        · rcases hpo b e2 with e2 | e2
          · have := hown0 b (.inr (.inr (.inr (.inl e2)))); omega
          · omega
        · exact (hrk1.ty e).ne (hqk.row.ty e2) rfl rfl
        · exact (hrk1.ty e).ne (hrk.ty e2) rfl rfl⟩
theorem sweepZ_ok (w : World) (p : Nat) (s : SS) (O M : Nat → Prop) (h : ZStore O M w p s) (g : Gz s) (now : Int) :
    Fx Tryz.prog 18 [pp p, .int .u64 now] w (fun u w' => ∃ O' ids, Row w' 3 1 u ids.length (ints ids) ∧ Fresh w.heap.size u ∧ ids.Perm ((s.sl.filter (dueZ s.ret now)).map (·.id)) ∧ ZStore O' (fun x => M x ∨ O' x) w' p (sweptZ s now) ∧ Mod O w w' ∧ (∀ x, O' x → O x ∨ w.heap.size ≤ x) ∧ ∀ b, u.ownBlock = some b → ¬ O' b) := by
  refine Calls.mono (sweepO_ok w p s O M h g now) ?_
  rintro e w' ⟨u, he, O', ids, _, h1⟩
  exact ⟨u, he, O', ids, h1⟩
end Go.Proofs.YtbcbfjnlnmhpbaaGreat
