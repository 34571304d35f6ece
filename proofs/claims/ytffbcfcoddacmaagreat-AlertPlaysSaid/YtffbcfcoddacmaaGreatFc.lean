/- Matchers held against labels; an index searched by them. -/
import Derived.Test.YtffbcfcoddacmaaGreatFb
set_option linter.unusedVariables false
set_option linter.unusedSimpArgs false
set_option maxHeartbeats 800000
set_option maxRecDepth 100000
namespace Go.Proofs.YtffbcfcoddacmaaGreat
open Go Go.X

structure Mt where
  kind : Int
  name : ByteArray
  value : ByteArray
  deriving DecidableEq, Inhabited
def mtC (m : Mt) : List Value := [.int .i64 m.kind, .string m.name, .string m.value]
def mtV (m : Mt) : Value := .agg #[.int .i64 m.kind, .string m.name, .string m.value]
theorem mtC_len (m : Mt) : (mtC m).length = 3 := rfl
abbrev SlM (M : Nat → Prop) (w : World) (v : Value) (ms : List Mt) : Prop := Sl M w v 3 ms.length (ms.flatMap mtC)
def likeS (m : Mt) : Bool := decide (m.kind = 3 ∨ m.kind = 4)
theorem like_ok (m : Mt) (w : World) : Fx Tryz.prog 196 [.agg #[.int .i64 m.kind, .string m.name, .string m.value]] w (fun u w' => u = .bool (likeS m) ∧ Grow w w') := by
  refine enter Tryz.func196 rfl rfl rfl _ (Pick.sub (l := [0]) (.cons rfl .nil)) ?_
  refine RK.seq ?_
  refine RK.region ?_
  refine RL.op (.free rfl) rfl rfl (Does.box rfl) ?_
  rintro _ w1 ⟨b1, rfl, hn1⟩
  refine RL.p rfl rfl ?_
  refine RL.done ?_
  refine RK.seq ?_
  refine RK.region ?_
  refine RL.q (.free rfl) rfl rfl (Yld.fieldAddr fo50_0 rfl) ?_
  refine RL.q (.free rfl) rfl rfl (Yld.load p3 rfl (at1 (hn1.blk.cell rfl))) ?_
  iterate 2 refine RL.p rfl rfl ?_
  first | refine RL.splitD (d := 6) rfl rfl (fun h6 => ?_) (fun h6 => ?_) | refine RL.splitN (d := 6) rfl rfl (fun h6 => ?_) (fun h6 => ?_) | refine RL.split (d := 6) rfl rfl (fun h6 => ?_) (fun h6 => ?_)
  · iterate 3 refine RL.no (.no rfl rfl rfl rfl) rfl rfl ?_
    iterate 2 refine RL.p rfl rfl ?_
    refine RL.done ?_
    refine RK.ret_of Tryz.func196 (res1 rfl rfl) ?_ _
    exact ⟨_, rfl, congrArg _ (by unfold likeS; simp_all), hn1.grow⟩
  · refine RL.q (.yes rfl rfl rfl) rfl rfl (Yld.fieldAddr fo50_0 rfl) ?_
    refine RL.q (.yes rfl rfl rfl) rfl rfl (Yld.load p3 rfl (at1 (hn1.blk.cell rfl))) ?_
    refine RL.q (.yes rfl rfl rfl) rfl rfl (Yld.pure rfl) ?_
    iterate 2 refine RL.p rfl rfl ?_
    refine RL.done ?_
    refine RK.ret_of Tryz.func196 (res1 rfl rfl) ?_ _
    exact ⟨_, rfl, congrArg _ (by unfold likeS; simp_all), hn1.grow⟩
def isV (m : Mt) : Bool := nameS m.name && decide ((m.kind = 1 ∨ m.kind = 2) ∧ m.value.size ≤ 24)
theorem isV_ok (m : Mt) (hk : likeS m = false) (w : World) : Fx Tryz.prog 164 [.agg #[.int .i64 m.kind, .string m.name, .string m.value]] w (fun u w' => u = .bool (isV m) ∧ Grow w w') := by
  refine enter Tryz.func164 rfl rfl rfl _ (Pick.sub (l := [0]) (.cons rfl .nil)) ?_
  refine RK.seq ?_
  refine RK.region ?_
  refine RL.op (.free rfl) rfl rfl (Does.box rfl) ?_
  rintro _ w1 ⟨b1, rfl, hn1⟩
  refine RL.p rfl rfl ?_
  refine RL.done ?_
  iterate 2 refine RK.seq ?_
  refine RK.region ?_
  refine RL.q (.free rfl) rfl rfl (Yld.fieldAddr fo50_1 rfl) ?_
  refine RL.q (.free rfl) rfl rfl (Yld.load p9 rfl (at1 (hn1.blk.cell rfl))) ?_
  refine RL.op (.free rfl) rfl rfl (Does.call rfl e122 (name_ok _ _)) ?_
  rintro _ _ ⟨rfl, rfl⟩
  refine RL.p rfl rfl ?_
  refine RL.done ?_
  first | refine RK.condD rfl (fun h8 => ?_) (fun h8 => ?_) | refine RK.condN rfl (fun h8 => ?_) (fun h8 => ?_) | refine RK.cond rfl (fun h8 => ?_) (fun h8 => ?_)
  · refine RK.seq ?_
    refine RK.region ?_
    refine RL.p rfl rfl ?_
    refine RL.done ?_
    refine RK.ret_of Tryz.func164 (res1 rfl rfl) ?_ _
    exact ⟨_, rfl, congrArg _ (by unfold isV; simp at h8; rw [h8]; rfl), hn1.grow⟩
  · refine RK.skip ?_
    iterate 2 refine RK.seq ?_
    refine RK.region ?_
    refine RL.q (.free rfl) rfl rfl (Yld.loadN (cs := [.int .i64 m.kind, .string m.name, .string m.value]) a50 rfl (atN (fun j u hj => by rw [Nat.zero_add]; exact hn1.blk.cell' hj))) ?_
    refine RL.op (.free rfl) rfl rfl (Does.call rfl e196 (like_ok m _)) ?_
    rintro _ w2 ⟨rfl, hg2⟩
    refine RL.done ?_
    refine RK.condF (hcF rfl (hk)) ?_
    refine RK.skip ?_
    refine RK.seq ?_
    refine RK.region ?_
    refine RL.q (.free rfl) rfl rfl (Yld.fieldAddr fo50_0 rfl) ?_
    refine RL.q (.free rfl) rfl rfl (Yld.load p3 rfl (at1 ((hn1.blk.mod hg2 (fun h => h)).cell rfl))) ?_
    iterate 2 refine RL.p rfl rfl ?_
    first | refine RL.splitD (d := 21) rfl rfl (fun h21 => ?_) (fun h21 => ?_) | refine RL.splitN (d := 21) rfl rfl (fun h21 => ?_) (fun h21 => ?_) | refine RL.split (d := 21) rfl rfl (fun h21 => ?_) (fun h21 => ?_)
    · iterate 3 refine RL.no (.no rfl rfl rfl rfl) rfl rfl ?_
      iterate 2 refine RL.p rfl rfl ?_
      refine RL.q (.yes rfl rfl rfl) rfl rfl (Yld.fieldAddr fo50_2 rfl) ?_
      refine RL.q (.yes rfl rfl rfl) rfl rfl (Yld.load p9 rfl (at1 ((hn1.blk.mod hg2 (fun h => h)).cell rfl))) ?_
      refine RL.q (.yes rfl rfl rfl) rfl rfl (Yld.lenStr u9 rfl) ?_
      refine RL.q (.yes rfl rfl rfl) rfl rfl (Yld.pure rfl) ?_
      iterate 2 refine RL.p rfl rfl ?_
      refine RL.done ?_
      refine RK.ret_of Tryz.func164 (res1 rfl rfl) ?_ _
      exact ⟨_, rfl, congrArg _ (by unfold isV; simp at h8; rw [h8, Bool.eq_iff_iff]; simp_all <;> omega), hn1.grow.trans hg2⟩
    · refine RL.q (.yes rfl rfl rfl) rfl rfl (Yld.fieldAddr fo50_0 rfl) ?_
      refine RL.q (.yes rfl rfl rfl) rfl rfl (Yld.load p3 rfl (at1 ((hn1.blk.mod hg2 (fun h => h)).cell rfl))) ?_
      refine RL.q (.yes rfl rfl rfl) rfl rfl (Yld.pure rfl) ?_
      iterate 2 refine RL.p rfl rfl ?_
      first | refine RL.splitD (d := 26) rfl rfl (fun h26 => ?_) (fun h26 => ?_) | refine RL.splitN (d := 26) rfl rfl (fun h26 => ?_) (fun h26 => ?_) | refine RL.split (d := 26) rfl rfl (fun h26 => ?_) (fun h26 => ?_)
      · refine RL.q (.yes rfl rfl rfl) rfl rfl (Yld.fieldAddr fo50_2 rfl) ?_
        refine RL.q (.yes rfl rfl rfl) rfl rfl (Yld.load p9 rfl (at1 ((hn1.blk.mod hg2 (fun h => h)).cell rfl))) ?_
        refine RL.q (.yes rfl rfl rfl) rfl rfl (Yld.lenStr u9 rfl) ?_
        refine RL.q (.yes rfl rfl rfl) rfl rfl (Yld.pure rfl) ?_
        iterate 2 refine RL.p rfl rfl ?_
        refine RL.done ?_
        refine RK.ret_of Tryz.func164 (res1 rfl rfl) ?_ _
        exact ⟨_, rfl, congrArg _ (by unfold isV; simp at h8; rw [h8, Bool.eq_iff_iff]; simp_all <;> omega), hn1.grow.trans hg2⟩
      · iterate 4 refine RL.no (.no rfl rfl rfl rfl) rfl rfl ?_
        iterate 2 refine RL.p rfl rfl ?_
        refine RL.done ?_
        refine RK.ret_of Tryz.func164 (res1 rfl rfl) ?_ _
        exact ⟨_, rfl, congrArg _ (by unfold isV; simp at h8; rw [h8, Bool.eq_iff_iff]; simp_all <;> omega), hn1.grow.trans hg2⟩
def holdsV (m : Mt) (ls : List Lab) : Bool := isV m && (if m.kind = 1 then decide (getL ls m.name = m.value) else !decide (getL ls m.name = m.value))
/-- 'Holds' is told by h at this matcher. -/
def HoldsC (h : Mt → List Lab → Bool) (m : Mt) : Prop := ∀ (M : Nat → Prop) (ls : List Lab) (v : Value) (w : World), SlL M w v ls → Fx Tryz.prog 133 [.agg #[.int .i64 m.kind, .string m.name, .string m.value], v] w (fun u w' => u = .bool (h m ls) ∧ Grow w w')
theorem holdsV_ok (m : Mt) (hk : likeS m = false) : HoldsC holdsV m := by
  intro M ls v w hv
  obtain ⟨ad, c, rfl⟩ := hv.shape
  refine enter Tryz.func133 rfl rfl rfl _ (Pick.sub (l := [0, 1]) (.cons rfl (.cons rfl .nil))) ?_
  refine RK.seq ?_
  refine RK.region ?_
  refine RL.op (.free rfl) rfl rfl (Does.box rfl) ?_
  rintro _ w1 ⟨b1, rfl, hn1⟩
  refine RL.p rfl rfl ?_
  refine RL.done ?_
  iterate 2 refine RK.seq ?_
  refine RK.region ?_
  refine RL.q (.free rfl) rfl rfl (Yld.loadN (cs := [.int .i64 m.kind, .string m.name, .string m.value]) a50 rfl (atN (fun j u hj => by rw [Nat.zero_add]; exact hn1.blk.cell' hj))) ?_
  refine RL.op (.free rfl) rfl rfl (Does.call rfl e164 (isV_ok m hk _)) ?_
  rintro _ w2 ⟨rfl, hg2⟩
  have hg02 := hn1.grow.trans hg2
  refine RL.p rfl rfl ?_
  refine RL.done ?_
  first | refine RK.condD rfl (fun h10 => ?_) (fun h10 => ?_) | refine RK.condN rfl (fun h10 => ?_) (fun h10 => ?_) | refine RK.cond rfl (fun h10 => ?_) (fun h10 => ?_)
  · refine RK.seq ?_
    refine RK.region ?_
    refine RL.p rfl rfl ?_
    refine RL.done ?_
    refine RK.ret_of Tryz.func133 (res1 rfl rfl) ?_ _
    exact ⟨_, rfl, congrArg _ (by simp at h10; unfold holdsV; rw [h10]; rfl), hg02⟩
  · have his : isV m = true := by simpa using h10
    refine RK.skip ?_
    refine RK.seq ?_
    refine RK.region ?_
    refine RL.p rfl rfl ?_
    refine RL.q (.free rfl) rfl rfl (Yld.fieldAddr fo50_1 rfl) ?_
    refine RL.q (.free rfl) rfl rfl (Yld.load p9 rfl (at1 ((hn1.blk.mod hg2 (fun h => h)).cell rfl))) ?_
    refine RL.op (.free rfl) rfl rfl (Does.call rfl e165 (labelsGet_ok M ls _ m.name _ (hv.mod (Mod.any' hg02)))) ?_
    rintro _ w3 ⟨rfl, hg3⟩
    have hB3 := (hn1.blk.mod hg2 (fun h => h)).mod hg3 (fun h => h)
    have hg03 := hg02.trans hg3
    refine RL.p rfl rfl ?_
    refine RL.done ?_
    iterate 2 refine RK.seq ?_
    refine RK.region ?_
    refine RL.q (.free rfl) rfl rfl (Yld.fieldAddr fo50_0 rfl) ?_
    refine RL.q (.free rfl) rfl rfl (Yld.load p3 rfl (at1 (hB3.cell rfl))) ?_
    refine RL.done ?_
    refine RK.block ?_
    refine RK.seq ?_
    refine RK.region ?_
    iterate 2 refine RL.p rfl rfl ?_
    refine RL.done ?_
    first | refine RK.condD rfl (fun h17 => ?_) (fun h17 => ?_) | refine RK.condN rfl (fun h17 => ?_) (fun h17 => ?_) | refine RK.cond rfl (fun h17 => ?_) (fun h17 => ?_)
    · refine RK.seq ?_
      refine RK.region ?_
      refine RL.p rfl rfl ?_
      refine RL.q (.free rfl) rfl rfl (Yld.fieldAddr fo50_2 rfl) ?_
      refine RL.q (.free rfl) rfl rfl (Yld.load p9 rfl (at1 (hB3.cell rfl))) ?_
      iterate 2 refine RL.p rfl rfl ?_
      refine RL.done ?_
      refine RK.ret_of Tryz.func133 (res1 rfl rfl) ?_ _
      exact ⟨_, rfl, congrArg _ (by unfold holdsV; rw [his, if_pos h17]; rfl), hg03⟩
    · have hk2 : m.kind = 2 := by
          unfold isV at his
          simp at his
          omega
      refine RK.seq ?_
      refine RK.region ?_
      iterate 2 refine RL.p rfl rfl ?_
      refine RL.done ?_
      refine RK.condT (hcT rfl (decide_eq_true hk2)) ?_
      refine RK.seq ?_
      refine RK.region ?_
      refine RL.p rfl rfl ?_
      refine RL.q (.free rfl) rfl rfl (Yld.fieldAddr fo50_2 rfl) ?_
      refine RL.q (.free rfl) rfl rfl (Yld.load p9 rfl (at1 (hB3.cell rfl))) ?_
      iterate 2 refine RL.p rfl rfl ?_
      refine RL.done ?_
      refine RK.ret_of Tryz.func133 (res1 rfl rfl) ?_ _
      exact ⟨_, rfl, congrArg _ (by unfold holdsV; rw [his, if_neg h17]; rfl), hg03⟩
theorem all1_ok (h : Mt → List Lab → Bool) (m : Mt) (hh : HoldsC h m) (M : Nat → Prop) (ls : List Lab) (vl : Value) (b4 : Nat) (w : World) (hl : SlL M w vl ls) (hb : Blk w b4 26 [vl]) : Fx Tryz.prog 132 [.agg #[.int .i64 m.kind, .string m.name, .string m.value], pp b4] w (fun u w' => u = .bool (!h m ls) ∧ Grow w w') := by
  obtain ⟨ad, c, rfl⟩ := hl.shape
  refine enter Tryz.func132 rfl rfl rfl _ (Pick.sub (l := [0, 1]) (.cons rfl (.cons rfl .nil))) ?_
  refine RK.seq ?_
  refine RK.region ?_
  refine RL.op (.free rfl) rfl rfl (Does.box rfl) ?_
  rintro _ w1 ⟨b1, rfl, hn1⟩
  refine RL.p rfl rfl ?_
  refine RL.done ?_
  refine RK.seq ?_
  refine RK.region ?_
  refine RL.q (.free rfl) rfl rfl (Yld.loadN (cs := [.int .i64 m.kind, .string m.name, .string m.value]) a50 rfl (atN (fun j u hj => by rw [Nat.zero_add]; exact hn1.blk.cell' hj))) ?_
  refine RL.q (.free rfl) rfl rfl (Yld.load p26 rfl (at1 ((hb.mod hn1.grow (fun h => h)).cell rfl))) ?_
  refine RL.op (.free rfl) rfl rfl (Does.call rfl e133 (hh M ls _ _ (hl.mod (Mod.any' hn1.grow)))) ?_
  rintro _ w2 ⟨rfl, hg2⟩
  iterate 2 refine RL.p rfl rfl ?_
  refine RL.done ?_
  refine RK.ret_of Tryz.func132 (res1 rfl rfl) ?_ _
  exact ⟨_, rfl, rfl, hn1.grow.trans hg2⟩
theorem indexM_ok (h : Mt → List Lab → Bool) (ms : List Mt) (hh : ∀ m ∈ ms, HoldsC h m) (M M' : Nat → Prop) (ls : List Lab) (v vl : Value) (b4 : Nat) (w : World) (hv : SlM M' w v ms) (hl : SlL M w vl ls) (hb : Blk w b4 26 [vl]) :
    Fx Tryz.prog 163 [v, .func (.func 132) #[] #[pp b4]] w (fun u w' => u = .int .i64 (optI (ms.findIdx? fun m => !h m ls)) ∧ Grow w w') := by
  obtain ⟨ad, c, rfl⟩ := hv.shape
  have hbig := hv.big
  refine enter Tryz.func163 rfl rfl rfl _ (Pick.sub (l := [0, 1]) (.cons rfl (.cons rfl .nil))) ?_
  refine RK.seq ?_
  refine RK.region ?_
  refine RL.p rfl rfl ?_
  refine RL.done ?_
  iterate 2 refine RK.seq ?_
  refine RK.region ?_
  refine RL.p rfl rfl ?_
  refine RL.q (.free rfl) rfl rfl (Yld.lenSl u51 rfl) ?_
  refine RL.p rfl rfl ?_
  refine RL.done ?_
  refine RK.block ?_
  refine RK.loop (fun k : Nat => [(0, .slice ad ms.length c), (1, .func (.func 132) #[] #[pp b4]), (7, .int .i64 ms.length), (8, .int .i64 k)]) (fun k w' => Grow w w' ∧ k ≤ ms.length ∧ ∀ (i : Nat) (a : Mt), i < k → ms[i]? = some a → h a ls = true) (fun k => ms.length - k) 0 ⟨rfl, rfl, rfl, rfl, trivial⟩ ⟨Mod.refl _ _, by omega, fun i a h => by omega⟩ (fun k w' hI ih => ?_)
  obtain ⟨hg, hk, hno⟩ := hI
  refine RK.seq ?_
  refine RK.region ?_
  refine RL.p rfl rfl ?_
  refine RL.done ?_
  refine RK.seq ?_
  first | refine RK.condD rfl (fun h9 => ?_) (fun h9 => ?_) | refine RK.condN rfl (fun h9 => ?_) (fun h9 => ?_) | refine RK.cond rfl (fun h9 => ?_) (fun h9 => ?_)
  · obtain ⟨x, hx⟩ : ∃ x, ms[k]? = some x := ⟨ms[k]'(by omega), List.getElem?_eq_getElem (by omega)⟩
    obtain ⟨b1, o1, c1', he1, _, _, hc1⟩ := hv.elem mtC_len hx
    cases he1
    refine RK.skip ?_
    refine RK.seq ?_
    refine RK.block ?_
    refine RK.seq ?_
    refine RK.region ?_
    iterate 2 refine RL.p rfl rfl ?_
    refine RL.done ?_
    refine RK.seq ?_
    refine RK.region ?_
    iterate 3 refine RL.p rfl rfl ?_
    refine RL.q (.free rfl) rfl rfl (Yld.indexAddrN u51 i50 rfl rfl (by omega)) ?_
    refine RL.q (.free rfl) rfl rfl (Yld.loadN (cs := [.int .i64 x.kind, .string x.name, .string x.value]) a50 rfl (atN (fun j u hj => hg.cell (hc1 j u hj) (fun h => h)))) ?_
    refine RL.op (.free rfl) rfl rfl (Does.callv rfl rfl e132 (all1_ok h x (hh x (List.mem_of_getElem? hx)) M ls vl b4 _ (hl.mod (Mod.any' hg)) (hb.mod hg (fun h => h)))) ?_
    rintro _ w2 ⟨rfl, hg2⟩
    refine RL.done ?_
    first | refine RK.condD rfl (fun h16 => ?_) (fun h16 => ?_) | refine RK.condN rfl (fun h16 => ?_) (fun h16 => ?_) | refine RK.cond rfl (fun h16 => ?_) (fun h16 => ?_)
    · refine RK.seq ?_
      refine RK.region ?_
      iterate 2 refine RL.p rfl rfl ?_
      refine RL.done ?_
      refine RK.ret_of Tryz.func163 (res1 rfl rfl) ?_ _
      exact ⟨_, rfl, congrArg _ (by
          have : ms.findIdx? (fun m => !h m ls) = some k := by
            rw [List.findIdx?_eq_some_iff_getElem]
            refine ⟨by omega, ?_, fun j hj => ?_⟩
            · rw [(List.getElem?_eq_some_iff.1 hx).2]; exact h16
            · simpa using hno j (ms[j]'(by omega)) hj (List.getElem?_eq_getElem (by omega))
          rw [this]; rfl), hg.trans hg2⟩
    · refine RK.skip ?_
      refine RK.inBlock ?_
      refine RK.region ?_
      refine RL.p rfl rfl ?_
      refine RL.re (d := 18) rfl rfl (succ_i64 (by omega)) ?_
      refine RL.p rfl rfl ?_
      refine RL.done ?_
      exact RK.back (ih (k + 1) _ ⟨hg.trans hg2, by omega, fun i a' hi ha' => by by_cases e : i = k; (subst e; rw [hx] at ha'; cases ha'; simpa using h16); exact hno i a' (by omega) ha'⟩ (by omega)) ⟨rfl, rfl, rfl, rfl, trivial⟩
  · refine RK.exit rfl ?_
    refine RK.seq ?_
    refine RK.region ?_
    refine RL.p rfl rfl ?_
    refine RL.done ?_
    refine RK.ret_of Tryz.func163 (res1 rfl rfl) ?_ _
    exact ⟨_, rfl, congrArg _ (by
        have : ms.findIdx? (fun m => !h m ls) = none := by
          rw [List.findIdx?_eq_none_iff]
          intro x hx
          obtain ⟨i, hi⟩ := List.getElem?_of_mem hx
          have hil := (List.getElem?_eq_some_iff.1 hi).1
          simpa using hno i x (by omega) hi
        rw [this]; rfl), hg⟩
theorem allM_ok (h : Mt → List Lab → Bool) (ms : List Mt) (hh : ∀ m ∈ ms, HoldsC h m) (M M' : Nat → Prop) (ls : List Lab) (v vl : Value) (w : World) (hv : SlM M' w v ms) (hl : SlL M w vl ls) :
    Fx Tryz.prog 90 [v, vl] w (fun u w' => u = .bool (ms.all fun m => h m ls) ∧ Grow w w') := by
  obtain ⟨ad, c, rfl⟩ := hl.shape
  have hcont : ∀ (b4 : Nat) (w1 : World), Grow w w1 → Blk w1 b4 26 [.slice ad ls.length c] → Fx Tryz.prog 131 [v, .func (.func 132) #[] #[pp b4]] w1 (fun u w' => u = .bool (!ms.all fun m => h m ls) ∧ Grow w1 w') := fun b4 w1 hg1 hb => by
    have hcall := indexM_ok h ms hh M M' ls v _ b4 w1 (hv.mod (Mod.any' hg1)) (hl.mod (Mod.any' hg1)) hb
    obtain ⟨ad2, c2, rfl⟩ := hv.shape
    refine enter Tryz.func131 rfl rfl rfl _ (Pick.sub (l := [0, 1]) (.cons rfl (.cons rfl .nil))) ?_
    refine RK.seq ?_
    refine RK.region ?_
    refine RL.p rfl rfl ?_
    refine RL.done ?_
    refine RK.seq ?_
    refine RK.region ?_
    iterate 2 refine RL.p rfl rfl ?_
    refine RL.op (.free rfl) rfl rfl (Does.call rfl e163 (hcall)) ?_
    rintro _ w2 ⟨rfl, hg2⟩
    iterate 2 refine RL.p rfl rfl ?_
    refine RL.done ?_
    refine RK.ret_of Tryz.func131 (res1 rfl rfl) ?_ _
    exact ⟨_, rfl, congrArg _ (by
        cases hf : ms.findIdx? (fun m => !h m ls) with
        | none =>
          have : (ms.all fun m => h m ls) = true := List.all_eq_true.2 fun m hm => by simpa using List.findIdx?_eq_none_iff.1 hf m hm
          rw [this]; rfl
        | some k =>
          obtain ⟨hk, hp, _⟩ := List.findIdx?_eq_some_iff_getElem.1 hf
          have : (ms.all fun m => h m ls) = false := List.all_eq_false.2 ⟨_, List.getElem_mem hk, by simpa using hp⟩
          rw [this]
          show decide ((0 : Int) ≤ (k : Int)) = true
          simp), hg2⟩
  refine enter Tryz.func90 rfl rfl rfl _ (Pick.sub (l := [0, 1]) (.cons rfl (.cons rfl .nil))) ?_
  refine RK.seq ?_
  refine RK.region ?_
  refine RL.op (.free rfl) rfl rfl (Does.box rfl) ?_
  rintro _ w1 ⟨b1, rfl, hn1⟩
  refine RL.p rfl rfl ?_
  refine RL.done ?_
  refine RK.seq ?_
  refine RK.region ?_
  iterate 2 refine RL.p rfl rfl ?_
  refine RL.op (.free rfl) rfl rfl (Does.call rfl e131 (hcont b1 _ hn1.grow hn1.blk)) ?_
  rintro _ w2 ⟨rfl, hg2⟩
  iterate 2 refine RL.p rfl rfl ?_
  refine RL.done ?_
  refine RK.ret_of Tryz.func90 (res1 rfl rfl) ?_ _
  exact ⟨_, rfl, by simp, hn1.grow.trans hg2⟩
end Go.Proofs.YtffbcfcoddacmaaGreat

