/- Conversions; two stores into a row. Nothing is assumed. -/
import Derived.Test.YtffbcfcoddacmaaGreatX7
import Derived.Laws.BytesArg
set_option linter.unusedVariables false
set_option linter.unusedSimpArgs false
namespace Go.X
open Go Go.RowKit
section
variable {P : Program} {n : Nat} {e : Env} {w : World} {C : World → Prop}
theorem Yld.convI {d : Option Tmp} {src dst : Nat} {x : Operand} {ty : TypeId} {pos : String} {af : Array Edge} {g : Option (Nat × Bool)} {de : TypeDesc} {k k' : IntKind} {a : Int} (hs : P.underlying src = some de) (hd : P.underlying dst = some (.int k)) (hx : ev e x = some (.int k' a)) :
    Yld P n C e ⟨d, .convert src dst x, ty, pos, af, g⟩ (.int k (k.wrap a)) := by
  intro ac ha w _
  simp [execOp, ha.ev hx, convert, run_underlying hs, run_underlying hd, Conv.intToInt]
/-- The string of so many bytes. -/
def mkS (xs : List Int) : ByteArray := xs.foldl (fun r n => r.push (UInt8.ofNat n.toNat)) ByteArray.empty
theorem Yld.bytesStr {d : Option Tmp} {src dst el : Nat} {x : Operand} {ty : TypeId} {pos : String} {af : Array Edge} {g : Option (Nat × Bool)} (hs : SlT P src el) (he : P.underlying el = some (.int .u8)) (hd : P.underlying dst = some .string) {b o len cap : Nat} {xs : List Int} (hx : ev e x = some (.slice (some ⟨b, o, none⟩) len cap)) (hl : xs.length = len)
    (hc : ∀ w, C w → ∀ j v, (xs.map (Value.int .u8))[j]? = some v → w.cell? ⟨b, o + j, none⟩ = some v) :
    Yld P n C e ⟨d, .convert src dst x, ty, pos, af, g⟩ (.string (mkS xs)) := by
  intro ac ha w hw
  have h1 := run_loadCells_list (P := P) w ⟨b, o, none⟩ (xs.map (Value.int .u8)) (fun j v hj => by rw [add_none]; exact hc w hw j v hj)
  have h2 := run_bytesToString (P := P) w ⟨b, o, none⟩ len cap xs (by simpa [hl] using h1)
  simp only [execOp, ha.ev hx, Sem.run_bind, run_convert_bytes_string w src dst el _ len cap hs he hd, h2, Result.andThen_ok, Sem.run_pure]
  rfl
end
theorem Blk.at1 {w : World} {b t : Nat} {cs : List Value} (h : Blk w b t cs) {k : Nat} {v : Value} (hn : cs[k]? = some v) : w.cell? ⟨b, 0 + k * 1, none⟩ = some v := by rw [Nat.zero_add, Nat.mul_one]; exact h.cell' hn
theorem Row.blk {w : World} {b : Nat} {t : TypeId} {cs : List Value} (h : Blk w b t cs) (sz k : Nat) (hl : cs.length = k * sz) (hk : k ≤ 9223372036854775807) : Row w t sz (.slice (some ⟨b, 0, none⟩) k k) k cs :=
  ⟨hl, .inr ⟨b, k, cs.toArray, rfl, Nat.zero_le _, h, Nat.le_refl _, by simp only [maxLen]; omega, by simp [hl], by simp [← hl]⟩⟩
/-- An owned row that is not empty, opened and closed again. -/
theorem Row.open {w : World} {t : TypeId} {sz : Nat} {v : Value} {k : Nat} {xs : List Value} (h : Row w t sz v k xs) (hk : 0 < k) : ∃ g cap tl, v = .slice (some ⟨g, 0, none⟩) k cap ∧ Blk w g t (xs ++ tl) ∧ ∀ (w' : World) (xs' : List Value), xs'.length = xs.length → Blk w' g t (xs' ++ tl) → Row w' t sz v k xs' := by
  have hl := h.1
  rcases h.2 with ⟨rfl, rfl⟩ | ⟨g, cap, cur, rfl, hb, hg, hnc, hcm, hcs, htk⟩
  · omega
  · have e : cur.toList = xs ++ cur.toList.drop (k * sz) := by rw [← htk, List.take_append_drop]
    refine ⟨g, cap, cur.toList.drop (k * sz), rfl, ?_, fun w' xs' hl' hb' => ⟨by rw [hl', hl], .inr ⟨g, cap, _, rfl, hb, hb', hnc, hcm, ?_, ?_⟩⟩⟩
    · unfold Blk; rw [← e]; simpa using hg
    · have := congrArg List.length e; simp at this; simp [hl']; omega
    · rw [show k * sz = xs'.length from by rw [hl', hl]]; simp
theorem mod_trans_eq {b : Nat} {w w1 w2 : World} (h : Mod (· = b) w w1) (k : Mod (· = b) w1 w2) : Mod (· = b) w w2 := h.trans k
end Go.X
namespace Go.X
open Go Go.RowKit
section
variable {P : Program} {n : Nat} {e : Env} {w : World} {C : World → Prop}
theorem Yld.eqPtr {d : Option Tmp} {t el : Nat} {x y : Operand} {t' ty : TypeId} {pos : String} {af : Array Edge} {g : Option (Nat × Bool)} (hT : P.underlying t = some (.pointer el)) {p : Option Addr} (hx : ev e x = some (.pointer p)) (hy : ev e y = some (.pointer none)) :
    Yld P n C e ⟨d, .binOp .eql t x y t', ty, pos, af, g⟩ (.bool p.isNone) := by
  intro a ha w _
  have hp : P.underlying t = some (.pointer (P.pointee t)) := by rw [hT]; simp [Program.pointee, hT]
  have h1 := run_equal_pointer_nil (P := P) w t p hp
  simp only [execOp, ha.ev hx, ha.ev hy, Sem.run_bind, eqGuard, binOp, Sem.run_pure, Result.andThen_ok]
  simp [h1]
end
end Go.X
