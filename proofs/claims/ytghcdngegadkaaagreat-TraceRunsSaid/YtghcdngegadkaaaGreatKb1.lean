/- What the claim stands on, part 1. Of own lemmas only those that it reaches. -/
import Derived.Test.YtghcdngegadkaaaGreatKb0
set_option linter.unusedVariables false
set_option linter.unusedSimpArgs false
set_option maxHeartbeats 1600000
set_option maxRecDepth 100000
namespace Go.Proofs.YtghcdngegadkaaaGreat
open Go Go.X
structure Rd (N : Nat) (w : World) (p : Nat) (ad : Option Addr) (c : Nat) (bs : List UInt8) (i : Nat) (bad : Bool) : Prop where
  blk : Blk w p 173 [.slice ad bs.length c, .int .i64 (i : Int), .bool bad]
  sl : Sl (N ≤ ·) w (.slice ad bs.length c) 1 bs.length (bytesV bs)
  pN : N ≤ p
  cap : bs.length ≤ c
  le : i ≤ bs.length
theorem Rd.mod {M : Nat → Prop} {N : Nat} {w w' : World} {p : Nat} {ad : Option Addr} {c : Nat} {bs : List UInt8} {i : Nat} {bad : Bool} (h : Rd N w p ad c bs i bad) (hm : Mod M w w') (hp : ¬ M p) (hM : ∀ b, M b → N ≤ b) : Rd N w' p ad c bs i bad := ⟨h.blk.mod hm hp, h.sl.mod (hm.mono fun b _ e => hM b e), h.pN, h.cap, h.le⟩
theorem Rd.grow {N : Nat} {w w' : World} {p : Nat} {ad : Option Addr} {c : Nat} {bs : List UInt8} {i : Nat} {bad : Bool} (h : Rd N w p ad c bs i bad) (hm : Grow w w') : Rd N w' p ad c bs i bad := h.mod hm (fun h => h) (fun _ h => h.elim)
theorem Rd.big {N : Nat} {w : World} {p : Nat} {ad : Option Addr} {c : Nat} {bs : List UInt8} {i : Nat} {bad : Bool} (h : Rd N w p ad c bs i bad) : bs.length ≤ 9223372036854775807 := h.sl.big
section
variable {N : Nat} {w : World} {p : Nat} {ad : Option Addr} {c : Nat} {bs : List UInt8} {i : Nat} {bad : Bool}
theorem Rd.stM (h : Rd N w p ad c bs i bad) {w1 w' : World} (hm : Mod (· = p) w1 w') : Mod (N ≤ ·) w1 w' := hm.mono fun b _ e => by have := h.pN; have e' : b = p := e; omega
theorem pnew_ok (N : Nat) (w : World) (ad : Option Addr) (c : Nat) (bs : List UInt8) (h : Sl (N ≤ ·) w (.slice ad bs.length c) 1 bs.length (bytesV bs)) (hN : N ≤ w.heap.size) (hc : bs.length ≤ c) : Fx Tryz.prog 89 [.slice ad bs.length c] w (fun u w' => ∃ p, u = pp p ∧ w.heap.size ≤ p ∧ Rd N w' p ad c bs 0 false ∧ Grow w w') := by
  refine enter Tryz.func89 rfl rfl rfl _ (Pick.sub (l := [0]) (.cons rfl .nil)) ?_
  refine RK.seq ?_
  refine RK.region ?_
  refine RL.p rfl rfl ?_
  refine RL.done ?_
  refine RK.seq ?_
  refine RK.region ?_
  refine RL.p rfl rfl ?_
  refine RL.q (.free rfl) rfl rfl (Yld.build (v := .agg #[.slice ad bs.length c, .int .i64 0, .bool false]) rfl (fun w => by kernel_rfl)) ?_
  refine RL.op (.free rfl) rfl rfl (Does.box rfl) ?_
  rintro _ w1 ⟨b1, rfl, hn1⟩
  have ha := hn1.at_
  refine RL.p rfl rfl ?_
  refine RL.done ?_
  refine RK.ret_of Tryz.func89 (res1 rfl rfl) ?_ _
  exact ⟨_, rfl, b1, rfl, by omega, ⟨hn1.blk, h.mod (Mod.any' hn1.grow), by omega, hc, Nat.zero_le _⟩, hn1.grow⟩
theorem rest_ok (h : Rd N w p ad c bs i bad) : Fx Tryz.prog 118 [pp p] w (fun u w' => ∃ ad' c', u = .slice ad' (bs.length - i) c' ∧ Sl (N ≤ ·) w' (.slice ad' (bs.length - i) c') 1 (bs.length - i) (bytesV (bs.drop i)) ∧ bs.length - i ≤ c' ∧ Grow w w') := by
  have hle := h.le
  have hcap := h.cap
  have h1 := h.sl.from h.le h.cap
  have e : (bytesV bs).drop i = bytesV (bs.drop i) := by simp [bytesV]
  rw [e] at h1
  refine enter Tryz.func118 rfl rfl rfl _ (Pick.sub (l := [0]) (.cons rfl .nil)) ?_
  refine RK.seq ?_
  refine RK.region ?_
  refine RL.p rfl rfl ?_
  refine RL.done ?_
  refine RK.seq ?_
  refine RK.drawM No [(0, false), (1, false), (2, false), (3, false), (4, false), (5, false), (6, false), (7, false), (8, false), (9, false)] [] mixed (by kernel_rfl) ?_
  iterate 2 refine DL.p rfl rfl rfl ?_
  refine DL.qf rfl (.free rfl) rfl rfl (Yld.fieldAddr fo173_0 rfl) ?_
  refine DL.q rfl (.free rfl) rfl rfl rfl (Yld.load p25 rfl (atM ((h.blk.mod (Mod.drew No _) (fun h => h)).cell rfl) id)) (Mod.drew _ _) ?_
  iterate 2 refine DL.p rfl rfl rfl ?_
  refine DL.qf rfl (.free rfl) rfl rfl (Yld.fieldAddr fo173_1 rfl) ?_
  refine DL.q rfl (.free rfl) rfl rfl rfl (Yld.load p3 rfl (atM ((h.blk.mod (Mod.drew No _) (fun h => h)).cell rfl) id)) (Mod.drew _ _) ?_
  refine DL.qf rfl (.free rfl) rfl rfl (Yld.sliceFrom u25 i5 (m := i) rfl rfl hle) ?_
  refine DL.p rfl rfl rfl ?_
  refine DL.done ?_
  refine RK.ret_of Tryz.func118 (res1 rfl rfl) ?_ _
  exact ⟨_, rfl, _, _, rfl, h1.mod (Mod.drew _ _), by omega, Mod.drew _ _⟩
theorem one {x : Nat} {t : List UInt8} (h : bs.drop i = UInt8.ofNat x :: t) (hx : x < 256) : bs.length - i = t.length + 1 ∧ bytesV (bs.drop i) = .int .u8 (x : Int) :: bytesV t := by
  have hx' : (UInt8.ofNat x).toNat = x := by simp [UInt8.toNat_ofNat']; omega
  refine ⟨by have := congrArg List.length h; simpa using this, ?_⟩
  rw [h]; simp [bytesV, hx']
theorem tookT_ok (h : Rd N w p ad c bs i false) (n : Nat) (hn : i + n ≤ bs.length) : Fx Tryz.prog 119 [pp p, .int .i64 (n : Int), .bool true] w (fun u w' => u = .bool true ∧ Rd N w' p ad c bs (i + n) false ∧ Mod (· = p) w w') := by
  have hle := h.le
  have hbig := h.big
  refine enter Tryz.func119 rfl rfl rfl _ (Pick.sub (l := [0, 1, 2]) (.cons rfl (.cons rfl (.cons rfl .nil)))) ?_
  refine RK.seq ?_
  refine RK.region ?_
  refine RL.p rfl rfl ?_
  refine RL.done ?_
  refine RK.seq ?_
  refine RK.region ?_
  iterate 3 refine RL.p rfl rfl ?_
  refine RL.q (.free rfl) rfl rfl (Yld.fieldAddr fo173_2 rfl) ?_
  refine RL.q (.free rfl) rfl rfl (Yld.load p4 rfl (at1 (h.blk.cell rfl))) ?_
  refine RL.p rfl rfl ?_
  refine RL.knownF (d := 12) rfl rfl (rfl) ?_
  iterate 2 refine RL.q (.yes rfl rfl rfl) rfl rfl (Yld.pure rfl) ?_
  iterate 2 refine RL.p rfl rfl ?_
  refine RL.q (.free rfl) rfl rfl (Yld.fieldAddr fo173_2 rfl) ?_
  refine RL.op' (.free rfl) rfl (Does.store i4 rfl rfl rfl h.blk (.s (.s .z))) ?_
  rintro _ w1 ⟨hb1, hm1, hs1⟩
  refine RL.done ?_
  iterate 2 refine RK.seq ?_
  refine RK.region ?_
  iterate 2 refine RL.p rfl rfl ?_
  refine RL.q (.free rfl) rfl rfl (Yld.fieldAddr fo173_2 rfl) ?_
  refine RL.q (.free rfl) rfl rfl (Yld.load p4 rfl (at1 (hb1.cell rfl))) ?_
  refine RL.p rfl rfl ?_
  refine RL.done ?_
  refine RK.condT (hcT rfl (rfl)) ?_
  refine RK.region ?_
  iterate 2 refine RL.p rfl rfl ?_
  refine RL.q (.free rfl) rfl rfl (Yld.fieldAddr fo173_1 rfl) ?_
  refine RL.q (.free rfl) rfl rfl (Yld.load p3 rfl (at1 (hb1.cell rfl))) ?_
  iterate 2 refine RL.p rfl rfl ?_
  refine RL.re (d := 28) rfl rfl (add_i64 (z := ((i + n : Nat) : Int)) (by simp) (by omega) (by omega)) ?_
  refine RL.p rfl rfl ?_
  refine RL.q (.free rfl) rfl rfl (Yld.fieldAddr fo173_1 rfl) ?_
  refine RL.op' (.free rfl) rfl (Does.store i3 rfl rfl rfl hb1 (.s .z)) ?_
  rintro _ w2 ⟨hb2, hm2, hs2⟩
  refine RL.done ?_
  refine RK.seq ?_
  refine RK.region ?_
  iterate 2 refine RL.p rfl rfl ?_
  refine RL.q (.free rfl) rfl rfl (Yld.fieldAddr fo173_2 rfl) ?_
  refine RL.q (.free rfl) rfl rfl (Yld.load p4 rfl (at1 (hb2.cell rfl))) ?_
  iterate 2 refine RL.p rfl rfl ?_
  refine RL.done ?_
  refine RK.ret_of Tryz.func119 (res1 rfl rfl) ?_ _
  exact ⟨_, rfl, rfl, ⟨hb2, (h.sl.mod (h.stM hm1)).mod (h.stM hm2), h.pN, h.cap, hn⟩, hm1.trans hm2⟩
theorem tookF_ok (h : Rd N w p ad c bs i bad) (n : Int) (ok : Bool) (hb : (bad || !ok) = true) : Fx Tryz.prog 119 [pp p, .int .i64 n, .bool ok] w (fun u w' => u = .bool false ∧ Rd N w' p ad c bs i true ∧ Mod (· = p) w w') := by
  have hle := h.le
  have hbig := h.big
  cases bad with
  | true =>
    refine enter Tryz.func119 rfl rfl rfl _ (Pick.sub (l := [0, 1, 2]) (.cons rfl (.cons rfl (.cons rfl .nil)))) ?_
    refine RK.seq ?_
    refine RK.region ?_
    refine RL.p rfl rfl ?_
    refine RL.done ?_
    refine RK.seq ?_
    refine RK.region ?_
    iterate 3 refine RL.p rfl rfl ?_
    refine RL.q (.free rfl) rfl rfl (Yld.fieldAddr fo173_2 rfl) ?_
    refine RL.q (.free rfl) rfl rfl (Yld.load p4 rfl (at1 (h.blk.cell rfl))) ?_
    refine RL.p rfl rfl ?_
    refine RL.knownT (d := 12) rfl rfl (rfl) ?_
    iterate 2 refine RL.no (.no rfl rfl rfl rfl) rfl rfl ?_
    iterate 2 refine RL.p rfl rfl ?_
    refine RL.q (.free rfl) rfl rfl (Yld.fieldAddr fo173_2 rfl) ?_
    refine RL.op' (.free rfl) rfl (Does.store i4 rfl rfl rfl h.blk (.s (.s .z))) ?_
    rintro _ w1 ⟨hb1, hm1, hs1⟩
    refine RL.done ?_
    iterate 2 refine RK.seq ?_
    refine RK.region ?_
    iterate 2 refine RL.p rfl rfl ?_
    refine RL.q (.free rfl) rfl rfl (Yld.fieldAddr fo173_2 rfl) ?_
    refine RL.q (.free rfl) rfl rfl (Yld.load p4 rfl (at1 (hb1.cell rfl))) ?_
    refine RL.p rfl rfl ?_
    refine RL.done ?_
    refine RK.condF (hcF rfl (rfl)) ?_
    refine RK.skip ?_
    refine RK.seq ?_
    refine RK.region ?_
    iterate 2 refine RL.p rfl rfl ?_
    refine RL.q (.free rfl) rfl rfl (Yld.fieldAddr fo173_2 rfl) ?_
    refine RL.q (.free rfl) rfl rfl (Yld.load p4 rfl (at1 (hb1.cell rfl))) ?_
    iterate 2 refine RL.p rfl rfl ?_
    refine RL.done ?_
    refine RK.ret_of Tryz.func119 (res1 rfl rfl) ?_ _
    exact ⟨_, rfl, rfl, ⟨hb1, h.sl.mod (h.stM hm1), h.pN, h.cap, hle⟩, hm1⟩
  | false =>
    have e : ok = false := by simpa using hb
    subst e
    refine enter Tryz.func119 rfl rfl rfl _ (Pick.sub (l := [0, 1, 2]) (.cons rfl (.cons rfl (.cons rfl .nil)))) ?_
    refine RK.seq ?_
    refine RK.region ?_
    refine RL.p rfl rfl ?_
    refine RL.done ?_
    refine RK.seq ?_
    refine RK.region ?_
    iterate 3 refine RL.p rfl rfl ?_
    refine RL.q (.free rfl) rfl rfl (Yld.fieldAddr fo173_2 rfl) ?_
    refine RL.q (.free rfl) rfl rfl (Yld.load p4 rfl (at1 (h.blk.cell rfl))) ?_
    refine RL.p rfl rfl ?_
    refine RL.knownF (d := 12) rfl rfl (rfl) ?_
    iterate 2 refine RL.q (.yes rfl rfl rfl) rfl rfl (Yld.pure rfl) ?_
    iterate 2 refine RL.p rfl rfl ?_
    refine RL.q (.free rfl) rfl rfl (Yld.fieldAddr fo173_2 rfl) ?_
    refine RL.op' (.free rfl) rfl (Does.store i4 rfl rfl rfl h.blk (.s (.s .z))) ?_
    rintro _ w1 ⟨hb1, hm1, hs1⟩
    refine RL.done ?_
    iterate 2 refine RK.seq ?_
    refine RK.region ?_
    iterate 2 refine RL.p rfl rfl ?_
    refine RL.q (.free rfl) rfl rfl (Yld.fieldAddr fo173_2 rfl) ?_
    refine RL.q (.free rfl) rfl rfl (Yld.load p4 rfl (at1 (hb1.cell rfl))) ?_
    refine RL.p rfl rfl ?_
    refine RL.done ?_
    refine RK.condF (hcF rfl (rfl)) ?_
    refine RK.skip ?_
    refine RK.seq ?_
    refine RK.region ?_
    iterate 2 refine RL.p rfl rfl ?_
    refine RL.q (.free rfl) rfl rfl (Yld.fieldAddr fo173_2 rfl) ?_
    refine RL.q (.free rfl) rfl rfl (Yld.load p4 rfl (at1 (hb1.cell rfl))) ?_
    iterate 2 refine RL.p rfl rfl ?_
    refine RL.done ?_
    refine RK.ret_of Tryz.func119 (res1 rfl rfl) ?_ _
    exact ⟨_, rfl, rfl, ⟨hb1, h.sl.mod (h.stM hm1), h.pN, h.cap, hle⟩, hm1⟩
theorem refuseT_ok (h : Rd N w p ad c bs i false) : Fx Tryz.prog 91 [pp p, .bool true] w (fun u w' => Rd N w' p ad c bs i false ∧ Mod (· = p) w w') := by
  refine enter Tryz.func91 rfl rfl rfl _ (Pick.sub (l := [0, 1]) (.cons rfl (.cons rfl .nil))) ?_
  refine RK.region ?_
  iterate 2 refine RL.p rfl rfl ?_
  refine RL.op (.free rfl) rfl rfl (Does.call rfl e119 (tookT_ok h 0 (by have := h.le; omega))) ?_
  rintro _ w1 ⟨rfl, h1, hm1⟩
  refine RL.done ?_
  refine RK.end_of Tryz.func91 (res0 rfl) ?_
  exact ⟨_, rfl, h1, hm1⟩
theorem refuseF_ok (h : Rd N w p ad c bs i bad) (ok : Bool) (hb : (bad || !ok) = true) : Fx Tryz.prog 91 [pp p, .bool ok] w (fun u w' => Rd N w' p ad c bs i true ∧ Mod (· = p) w w') := by
  refine enter Tryz.func91 rfl rfl rfl _ (Pick.sub (l := [0, 1]) (.cons rfl (.cons rfl .nil))) ?_
  refine RK.region ?_
  iterate 2 refine RL.p rfl rfl ?_
  refine RL.op (.free rfl) rfl rfl (Does.call rfl e119 (tookF_ok h 0 ok hb)) ?_
  rintro _ w1 ⟨rfl, h1, hm1⟩
  refine RL.done ?_
  refine RK.end_of Tryz.func91 (res0 rfl) ?_
  exact ⟨_, rfl, h1, hm1⟩
theorem numT_ok (h : Rd N w p ad c bs i false) (x : Nat) (hx : x < 128) (t : List UInt8) (hd : bs.drop i = UInt8.ofNat x :: t) (most : Nat) (hm : x ≤ most) : Fx Tryz.prog 120 [pp p, .int .u64 (most : Int)] w (fun u w' => u = .int .u64 (x : Int) ∧ Rd N w' p ad c bs (i + 1) false ∧ Mod (· = p) w w') := by
  have hle := h.le
  obtain ⟨hl, hby⟩ := one hd (by omega)
  refine enter Tryz.func120 rfl rfl rfl _ (Pick.sub (l := [0, 1]) (.cons rfl (.cons rfl .nil))) ?_
  refine RK.seq ?_
  refine RK.region ?_
  refine RL.p rfl rfl ?_
  refine RL.done ?_
  refine RK.seq ?_
  refine RK.region ?_
  refine RL.p rfl rfl ?_
  refine RL.op (.free rfl) rfl rfl (Does.call rfl e118 (rest_ok h)) ?_
  rintro _ w0 ⟨ad0, c0, rfl, hsl, hca0, hg0⟩
  have h0 := h.grow hg0
  rw [hby, hl] at hsl
  rw [hl]
  refine RL.op (.free rfl) rfl rfl (Does.call rfl e163 (vget1_ok x hx _ _ _ _ _ hsl)) ?_
  rintro _ w1 ⟨rfl, rfl⟩
  iterate 7 refine RL.p rfl rfl ?_
  refine RL.done ?_
  iterate 2 refine RK.seq ?_
  refine RK.region ?_
  iterate 4 refine RL.p rfl rfl ?_
  refine RL.knownT (d := 18) rfl rfl (rfl) ?_
  iterate 3 refine RL.q (.yes rfl rfl rfl) rfl rfl (Yld.pure rfl) ?_
  refine RL.re (d := 21) rfl rfl (congrArg Value.bool (decide_eq_true (by omega))) ?_
  refine RL.p rfl rfl ?_
  refine RL.op (.free rfl) rfl rfl (Does.call rfl e119 (tookT_ok h0 1 (by omega))) ?_
  rintro _ w2 ⟨rfl, h2, hm2⟩
  refine RL.p rfl rfl ?_
  refine RL.done ?_
  refine RK.condF (hcF rfl (rfl)) ?_
  refine RK.skip ?_
  refine RK.seq ?_
  refine RK.region ?_
  iterate 2 refine RL.p rfl rfl ?_
  refine RL.done ?_
  refine RK.ret_of Tryz.func120 (res1 rfl rfl) ?_ _
  exact ⟨_, rfl, rfl, h2, (Mod.any' hg0).trans hm2⟩
theorem textT_ok (h : Rd N w p ad c bs i false) (x : Nat) (hx : x < 128) (t : List UInt8) (hd : bs.drop i = UInt8.ofNat x :: t) (most : Nat) (hm : x ≤ most) (hm' : most < 1000) (ht : x ≤ t.length) : Fx Tryz.prog 90 [pp p, .int .i64 (most : Int)] w (fun u w' => u = .string ⟨(t.take x).toArray⟩ ∧ Rd N w' p ad c bs (i + (1 + x)) false ∧ Mod (· = p) w w') := by
  have hle := h.le
  have hcap := h.cap
  obtain ⟨hl, hby⟩ := one hd (by omega)
  refine enter Tryz.func90 rfl rfl rfl _ (Pick.sub (l := [0, 1]) (.cons rfl (.cons rfl .nil))) ?_
  refine RK.seq ?_
  refine RK.region ?_
  refine RL.p rfl rfl ?_
  refine RL.done ?_
  refine RK.seq ?_
  refine RK.region ?_
  refine RL.p rfl rfl ?_
  refine RL.op (.free rfl) rfl rfl (Does.call rfl e118 (rest_ok h)) ?_
  rintro _ w0 ⟨ad0, c0, rfl, hsl, hca0, hg0⟩
  have h0 := h.grow hg0
  rw [hby, hl] at hsl
  rw [hl]
  refine RL.p rfl rfl ?_
  refine RL.op (.free rfl) rfl rfl (Does.call rfl e117 (vtext1_ok x hx t _ _ _ _ hsl most hm hm' ht (by omega))) ?_
  rintro _ w1 ⟨rfl, rfl⟩
  iterate 7 refine RL.p rfl rfl ?_
  refine RL.done ?_
  iterate 2 refine RK.seq ?_
  refine RK.region ?_
  iterate 3 refine RL.p rfl rfl ?_
  refine RL.op (.free rfl) rfl rfl (Does.call rfl e119 (tookT_ok h0 (1 + x) (by omega))) ?_
  rintro _ w2 ⟨rfl, h2, hm2⟩
  refine RL.p rfl rfl ?_
  refine RL.done ?_
  refine RK.condF (hcF rfl (rfl)) ?_
  refine RK.skip ?_
  refine RK.seq ?_
  refine RK.region ?_
  iterate 2 refine RL.p rfl rfl ?_
  refine RL.done ?_
  refine RK.ret_of Tryz.func90 (res1 rfl rfl) ?_ _
  exact ⟨_, rfl, rfl, h2, (Mod.any' hg0).trans hm2⟩
theorem textF_ok (h : Rd N w p ad c bs i bad) (x : Nat) (hx : x < 128) (t : List UInt8) (hd : bs.drop i = UInt8.ofNat x :: t) (most : Nat) (hm' : most < 1000) (ht : t.length < x) : Fx Tryz.prog 90 [pp p, .int .i64 (most : Int)] w (fun u w' => u = .string ⟨#[]⟩ ∧ Rd N w' p ad c bs i true ∧ Mod (· = p) w w') := by
  have hle := h.le
  have hcap := h.cap
  obtain ⟨hl, hby⟩ := one hd (by omega)
  refine enter Tryz.func90 rfl rfl rfl _ (Pick.sub (l := [0, 1]) (.cons rfl (.cons rfl .nil))) ?_
  refine RK.seq ?_
  refine RK.region ?_
  refine RL.p rfl rfl ?_
  refine RL.done ?_
  refine RK.seq ?_
  refine RK.region ?_
  refine RL.p rfl rfl ?_
  refine RL.op (.free rfl) rfl rfl (Does.call rfl e118 (rest_ok h)) ?_
  rintro _ w0 ⟨ad0, c0, rfl, hsl, hca0, hg0⟩
  have h0 := h.grow hg0
  rw [hby, hl] at hsl
  rw [hl]
  refine RL.p rfl rfl ?_
  refine RL.op (.free rfl) rfl rfl (Does.call rfl e117 (vtext0_ok x hx t _ _ _ _ hsl most hm' ht)) ?_
  rintro _ w1 ⟨rfl, rfl⟩
  iterate 7 refine RL.p rfl rfl ?_
  refine RL.done ?_
  iterate 2 refine RK.seq ?_
  refine RK.region ?_
  iterate 3 refine RL.p rfl rfl ?_
  refine RL.op (.free rfl) rfl rfl (Does.call rfl e119 (tookF_ok h0 0 false (by simp))) ?_
  rintro _ w2 ⟨rfl, h2, hm2⟩
  refine RL.p rfl rfl ?_
  refine RL.done ?_
  refine RK.condT (hcT rfl (rfl)) ?_
  refine RK.seq ?_
  refine RK.region ?_
  refine RL.p rfl rfl ?_
  refine RL.done ?_
  refine RK.ret_of Tryz.func90 (res1 rfl rfl) ?_ _
  exact ⟨_, rfl, rfl, h2, (Mod.any' hg0).trans hm2⟩
theorem byteT_ok (h : Rd N w p ad c bs i false) (x : Nat) (hx : x < 256) (t : List UInt8) (hd : bs.drop i = UInt8.ofNat x :: t) : Fx Tryz.prog 95 [pp p] w (fun u w' => u = .int .u8 (x : Int) ∧ Rd N w' p ad c bs (i + 1) false ∧ Mod (· = p) w w') := by
  have hle := h.le
  obtain ⟨hl, hby⟩ := one hd (by omega)
  refine enter Tryz.func95 rfl rfl rfl _ (Pick.sub (l := [0]) (.cons rfl .nil)) ?_
  refine RK.seq ?_
  refine RK.region ?_
  refine RL.p rfl rfl ?_
  refine RL.done ?_
  refine RK.seq ?_
  refine RK.region ?_
  refine RL.p rfl rfl ?_
  refine RL.op (.free rfl) rfl rfl (Does.call rfl e118 (rest_ok h)) ?_
  rintro _ w0 ⟨ad0, c0, rfl, hsl, hca0, hg0⟩
  have h0 := h.grow hg0
  refine RL.p rfl rfl ?_
  refine RL.done ?_
  iterate 2 refine RK.seq ?_
  refine RK.region ?_
  iterate 2 refine RL.p rfl rfl ?_
  refine RL.q (.free rfl) rfl rfl (Yld.lenSl u25 rfl) ?_
  refine RL.p rfl rfl ?_
  refine RL.re (d := 9) rfl rfl (congrArg Value.bool (decide_eq_true (by omega))) ?_
  refine RL.op (.free rfl) rfl rfl (Does.call rfl e119 (tookT_ok h0 1 (by omega))) ?_
  rintro _ w2 ⟨rfl, h2, hm2⟩
  have hsl2 := hsl.mod (h0.stM hm2)
  rw [hby] at hsl2
  obtain ⟨b1, o1, c1, he1, _, _, hc1⟩ := hsl2.elem1 (k := 0) (u := .int .u8 (x : Int)) rfl
  cases he1
  refine RL.p rfl rfl ?_
  refine RL.done ?_
  refine RK.condF (hcF rfl (rfl)) ?_
  refine RK.skip ?_
  refine RK.seq ?_
  refine RK.region ?_
  refine RL.p rfl rfl ?_
  refine RL.q (.free rfl) rfl rfl (Yld.indexAddrN u25 i5 rfl rfl ((by omega : 0 < bs.length - i))) ?_
  refine RL.q (.free rfl) rfl rfl (Yld.load p5 rfl (at1 (hc1 0 (.int .u8 (x : Int)) rfl))) ?_
  refine RL.p rfl rfl ?_
  refine RL.done ?_
  refine RK.ret_of Tryz.func95 (res1 rfl rfl) ?_ _
  exact ⟨_, rfl, rfl, h2, (Mod.any' hg0).trans hm2⟩
theorem byteF_ok (h : Rd N w p ad c bs i true) : Fx Tryz.prog 95 [pp p] w (fun u w' => u = .int .u8 0 ∧ Rd N w' p ad c bs i true ∧ Mod (· = p) w w') := by
  refine enter Tryz.func95 rfl rfl rfl _ (Pick.sub (l := [0]) (.cons rfl .nil)) ?_
  refine RK.seq ?_
  refine RK.region ?_
  refine RL.p rfl rfl ?_
  refine RL.done ?_
  refine RK.seq ?_
  refine RK.region ?_
  refine RL.p rfl rfl ?_
  refine RL.op (.free rfl) rfl rfl (Does.call rfl e118 (rest_ok h)) ?_
  rintro _ w0 ⟨ad0, c0, rfl, hsl, hca0, hg0⟩
  have h0 := h.grow hg0
  refine RL.p rfl rfl ?_
  refine RL.done ?_
  iterate 2 refine RK.seq ?_
  refine RK.region ?_
  iterate 2 refine RL.p rfl rfl ?_
  refine RL.q (.free rfl) rfl rfl (Yld.lenSl u25 rfl) ?_
  refine RL.p rfl rfl ?_
  refine RL.op (.free rfl) rfl rfl (Does.call rfl e119 (tookF_ok h0 1 _ (by simp))) ?_
  rintro _ w2 ⟨rfl, h2, hm2⟩
  refine RL.p rfl rfl ?_
  refine RL.done ?_
  refine RK.condT (hcT rfl (rfl)) ?_
  refine RK.seq ?_
  refine RK.region ?_
  refine RL.p rfl rfl ?_
  refine RL.done ?_
  refine RK.ret_of Tryz.func95 (res1 rfl rfl) ?_ _
  exact ⟨_, rfl, rfl, h2, (Mod.any' hg0).trans hm2⟩
theorem endT_ok (h : Rd N w p ad c bs i false) : Fx Tryz.prog 97 [pp p] w (fun u w' => u = .tuple #[.int .i64 (i : Int), .bool true] ∧ w = w') := by
  refine enter Tryz.func97 rfl rfl rfl _ (Pick.sub (l := [0]) (.cons rfl .nil)) ?_
  refine RK.seq ?_
  refine RK.region ?_
  iterate 2 refine RL.p rfl rfl ?_
  refine RL.done ?_
  iterate 2 refine RK.seq ?_
  refine RK.region ?_
  iterate 2 refine RL.p rfl rfl ?_
  refine RL.q (.free rfl) rfl rfl (Yld.fieldAddr fo173_2 rfl) ?_
  refine RL.q (.free rfl) rfl rfl (Yld.load p4 rfl (at1 (h.blk.cell rfl))) ?_
  refine RL.done ?_
  refine RK.condF (hcF rfl (rfl)) ?_
  refine RK.skip ?_
  refine RK.seq ?_
  refine RK.region ?_
  iterate 2 refine RL.p rfl rfl ?_
  refine RL.q (.free rfl) rfl rfl (Yld.fieldAddr fo173_1 rfl) ?_
  refine RL.q (.free rfl) rfl rfl (Yld.load p3 rfl (at1 (h.blk.cell rfl))) ?_
  iterate 2 refine RL.p rfl rfl ?_
  refine RL.done ?_
  refine RK.ret_of Tryz.func97 (res2 rfl rfl rfl) ?_ _
  exact ⟨_, rfl, rfl, rfl⟩
theorem endF_ok (h : Rd N w p ad c bs i true) : Fx Tryz.prog 97 [pp p] w (fun u w' => u = .tuple #[.int .i64 0, .bool false] ∧ w = w') := by
  refine enter Tryz.func97 rfl rfl rfl _ (Pick.sub (l := [0]) (.cons rfl .nil)) ?_
  refine RK.seq ?_
  refine RK.region ?_
  iterate 2 refine RL.p rfl rfl ?_
  refine RL.done ?_
  iterate 2 refine RK.seq ?_
  refine RK.region ?_
  iterate 2 refine RL.p rfl rfl ?_
  refine RL.q (.free rfl) rfl rfl (Yld.fieldAddr fo173_2 rfl) ?_
  refine RL.q (.free rfl) rfl rfl (Yld.load p4 rfl (at1 (h.blk.cell rfl))) ?_
  refine RL.done ?_
  refine RK.condT (hcT rfl (rfl)) ?_
  refine RK.seq ?_
  refine RK.region ?_
  iterate 2 refine RL.p rfl rfl ?_
  refine RL.done ?_
  refine RK.ret_of Tryz.func97 (res2 rfl rfl rfl) ?_ _
  exact ⟨_, rfl, rfl, rfl⟩
theorem tokenIs_ok (s : ByteArray) (w : World) : Fx Tryz.prog 92 [.string s] w (fun u w' => u = .bool (decide (4 ≤ s.size ∧ s.size ≤ 16)) ∧ w = w') := by
  refine enter Tryz.func92 rfl rfl rfl _ (Pick.sub (l := [0]) (.cons rfl .nil)) ?_
  refine RK.seq ?_
  refine RK.region ?_
  refine RL.p rfl rfl ?_
  refine RL.done ?_
  refine RK.seq ?_
  refine RK.region ?_
  refine RL.p rfl rfl ?_
  refine RL.q (.free rfl) rfl rfl (Yld.lenStr u9 rfl) ?_
  iterate 2 refine RL.p rfl rfl ?_
  first | refine RL.splitD (d := 6) rfl rfl (fun h6 => ?_) (fun h6 => ?_) | refine RL.splitN (d := 6) rfl rfl (fun h6 => ?_) (fun h6 => ?_) | refine RL.split (d := 6) rfl rfl (fun h6 => ?_) (fun h6 => ?_)
  · refine RL.q (.yes rfl rfl rfl) rfl rfl (Yld.pure rfl) ?_
    refine RL.q (.yes rfl rfl rfl) rfl rfl (Yld.lenStr u9 rfl) ?_
    refine RL.q (.yes rfl rfl rfl) rfl rfl (Yld.pure rfl) ?_
    iterate 2 refine RL.p rfl rfl ?_
    refine RL.done ?_
    refine RK.ret_of Tryz.func92 (res1 rfl rfl) ?_ _
    exact ⟨_, rfl, congrArg _ (decide_eq_decide.2 (by omega)), rfl⟩
  · iterate 3 refine RL.no (.no rfl rfl rfl rfl) rfl rfl ?_
    iterate 2 refine RL.p rfl rfl ?_
    refine RL.done ?_
    refine RK.ret_of Tryz.func92 (res1 rfl rfl) ?_ _
    exact ⟨_, rfl, congrArg _ (decide_eq_false (by omega)).symm, rfl⟩
end
end Go.Proofs.YtghcdngegadkaaaGreat
namespace Go.Proofs
open Go.Shelf
def Tryz.lays189_ren : Go.Shelf.Ren := ⟨fun | 189 => 75 | 125 => 107 | 257 => 106 | 128 => 157 | 129 => 158 | 294 => 148 | 295 => 149 | 296 => 150 | 297 => 151 | 298 => 152 | 299 => 153 | 216 => 154 | 300 => 155 | 301 => 156 | 328 => 179 | 329 => 180 | 330 => 181 | 331 => 182 | 332 => 183 | 215 => 184 | 343 => 195 | n => n, fun | 28 => 33 | 3 => 3 | 46 => 142 | 0 => 0 | 51 => 219 | 53 => 22 | 4 => 4 | 183 => 212 | 182 => 211 | 131 => 37 | 5 => 5 | 9 => 9 | 218 => 249 | 222 => 252 | 228 => 258 | 229 => 259 | n => n, fun | n => n⟩
theorem Tryz.lays189 : Go.Proofs.Lays.n189 Tryz.prog Tryz.lays189_ren := {
  mixed := by kernel_rfl
  f125 := Tryz.func107.trans (congrArg some (by kernel_rfl))
  f128 := Tryz.func157.trans (congrArg some (by kernel_rfl))
  f129 := Tryz.func158.trans (congrArg some (by kernel_rfl))
  f189 := Tryz.func75.trans (congrArg some (by kernel_rfl))
  f215 := Tryz.func184.trans (congrArg some (by kernel_rfl))
  f216 := Tryz.func154.trans (congrArg some (by kernel_rfl))
  f257 := Tryz.func106.trans (congrArg some (by kernel_rfl))
  f294 := Tryz.func148.trans (congrArg some (by kernel_rfl))
  f295 := Tryz.func149.trans (congrArg some (by kernel_rfl))
  f296 := Tryz.func150.trans (congrArg some (by kernel_rfl))
  f297 := Tryz.func151.trans (congrArg some (by kernel_rfl))
  f298 := Tryz.func152.trans (congrArg some (by kernel_rfl))
  f299 := Tryz.func153.trans (congrArg some (by kernel_rfl))
  f300 := Tryz.func155.trans (congrArg some (by kernel_rfl))
  f301 := Tryz.func156.trans (congrArg some (by kernel_rfl))
  f328 := Tryz.func179.trans (congrArg some (by kernel_rfl))
  f329 := Tryz.func180.trans (congrArg some (by kernel_rfl))
  f330 := Tryz.func181.trans (congrArg some (by kernel_rfl))
  f331 := Tryz.func182.trans (congrArg some (by kernel_rfl))
  f332 := Tryz.func183.trans (congrArg some (by kernel_rfl))
  f343 := Tryz.func195.trans (congrArg some (by kernel_rfl))
  t0 := Tryz.underlying0
  a0 := Tryz.isAgg0
  z0 := Tryz.sizeOf0
  v0 := Tryz.zeroValue0
  t3 := Tryz.underlying3
  a3 := Tryz.isAgg3
  z3 := Tryz.sizeOf3
  v3 := Tryz.zeroValue3
  t4 := Tryz.underlying4
  a4 := Tryz.isAgg4
  z4 := Tryz.sizeOf4
  v4 := Tryz.zeroValue4
  t5 := Tryz.underlying5
  a5 := Tryz.isAgg5
  z5 := Tryz.sizeOf5
  v5 := Tryz.zeroValue5
  t9 := Tryz.underlying9
  a9 := Tryz.isAgg9
  z9 := Tryz.sizeOf9
  v9 := Tryz.zeroValue9
  t28 := Tryz.underlying33
  a28 := Tryz.isAgg33
  z28 := Tryz.sizeOf33
  v28 := Tryz.zeroValue33
  t46 := Tryz.underlying142
  a46 := Tryz.isAgg142
  z46 := Tryz.sizeOf142
  v46 := Tryz.zeroValue142
  t51 := Tryz.underlying219
  a51 := Tryz.isAgg219
  z51 := Tryz.sizeOf219
  v51 := Tryz.zeroValue219
  t53 := Tryz.underlying22
  a53 := Tryz.isAgg22
  z53 := Tryz.sizeOf22
  v53 := Tryz.zeroValue22
  t131 := Tryz.underlying37
  a131 := Tryz.isAgg37
  z131 := Tryz.sizeOf37
  v131 := Tryz.zeroValue37
  t182 := Tryz.underlying211
  a182 := Tryz.isAgg211
  z182 := Tryz.sizeOf211
  v182 := Tryz.zeroValue211
  t183 := Tryz.underlying212
  a183 := Tryz.isAgg212
  z183 := Tryz.sizeOf212
  v183 := Tryz.zeroValue212
  t218 := Tryz.underlying249
  a218 := Tryz.isAgg249
  z218 := Tryz.sizeOf249
  v218 := Tryz.zeroValue249
  t222 := Tryz.underlying252
  a222 := Tryz.isAgg252
  z222 := Tryz.sizeOf252
  v222 := Tryz.zeroValue252
  t228 := Tryz.underlying258
  a228 := Tryz.isAgg258
  z228 := Tryz.sizeOf258
  v228 := Tryz.zeroValue258
  t229 := Tryz.underlying259
  a229 := Tryz.isAgg259
  z229 := Tryz.sizeOf259
  v229 := Tryz.zeroValue259 }
open Go.Sort Go.RowKit in
theorem Tryz.slices_Sort_int (blk off cap : Nat) (zs : List Int) (w : World) (hH : Holds (Value.int .i64) w blk off zs.toArray) (hblk : blk < w.heap.size) (hsz : zs.length < 4611686018427387904) :
    Calls Tryz.prog 75 #[.slice (some ⟨blk, off, none⟩) zs.length cap] w fun e w' =>
      e = .returned (.tuple #[]) ∧ ∃ n os, w' = grow (putRow (Value.int .i64) (Sort.ahead w n) blk off (zs.mergeSort fun x y => decide (x ≤ y)).toArray) os := Any.slices_Sort_int Tryz.lays189 blk off cap zs w hH hblk hsz
open Go.RowKit Go.Sort in
theorem Tryz.slices_Sort_int_none (p : Option Addr) (cap : Nat) (w : World) :
    Calls Tryz.prog 75 #[.slice p 0 cap] w fun e w' => e = .returned (.tuple #[]) ∧ w' = w := Any.slices_Sort_int_none Tryz.lays189 p cap w
end Go.Proofs
set_option linter.unusedVariables false
set_option linter.unusedSimpArgs false
set_option maxHeartbeats 400000
set_option maxRecDepth 100000
namespace Go.Proofs.YtghcdngegadkaaaGreat
open Go Go.X
@[irreducible] def letS (c : Int) : Bool := decide (97 ≤ c ∧ c ≤ 122 ∨ 65 ≤ c ∧ c ≤ 90 ∨ c = 95)
@[irreducible] def valS (s : ByteArray) : Bool := decide (1 ≤ s.size ∧ s.size ≤ 24)
@[irreducible] def chS (c : Int) : Bool := letS c || decide (48 ≤ c ∧ c ≤ 57)
@[irreducible] def nameS (s : ByteArray) : Bool := decide (1 ≤ s.size ∧ s.size ≤ 12) && letS (bt s 0).toNat && (List.range s.size).all fun i => chS (bt s i).toNat
@[irreducible] def nanS (b : Nat) : Bool := Ieee.double.order b b != some .eq
theorem no_ok (b : Nat) (w : World) : Fx Tryz.prog 85 [.float .f64 b] w (fun v w' => v = .bool (nanS b) ∧ w = w') := by
  refine enter Tryz.func85 rfl rfl rfl _ (Pick.sub (l := [0]) (.cons rfl .nil)) ?_
  refine RK.seq ?_
  refine RK.region ?_
  refine RL.p rfl rfl ?_
  refine RL.done ?_
  refine RK.seq ?_
  refine RK.region ?_
  iterate 4 refine RL.p rfl rfl ?_
  refine RL.done ?_
  refine RK.ret_of Tryz.func85 (res1 rfl rfl) ?_ _
  exact ⟨_, rfl, by unfold nanS; rfl, rfl⟩
def bitsS (b : Nat) : Int := if nanS b then 9221120237041090561 else b
theorem bits_ok (b : Nat) (w : World) : Fx Tryz.prog 59 [.float .f64 b] w (fun v w' => v = .int .u64 (bitsS b) ∧ w = w') := by
  refine enter Tryz.func59 rfl rfl rfl _ (Pick.sub (l := [0]) (.cons rfl .nil)) ?_
  refine RK.seq ?_
  refine RK.region ?_
  refine RL.p rfl rfl ?_
  refine RL.done ?_
  iterate 2 refine RK.seq ?_
  refine RK.region ?_
  refine RL.p rfl rfl ?_
  refine RL.op (.free rfl) rfl rfl (Does.call rfl e85 (no_ok b _)) ?_
  rintro _ _ ⟨rfl, rfl⟩
  refine RL.done ?_
  first | refine RK.condD rfl (fun h4 => ?_) (fun h4 => ?_) | refine RK.condN rfl (fun h4 => ?_) (fun h4 => ?_) | refine RK.cond rfl (fun h4 => ?_) (fun h4 => ?_)
  · refine RK.seq ?_
    refine RK.region ?_
    refine RL.p rfl rfl ?_
    refine RL.done ?_
    refine RK.ret_of Tryz.func59 (res1 rfl rfl) ?_ _
    exact ⟨_, rfl, by simp_all [bitsS], rfl⟩
  · refine RK.skip ?_
    refine RK.seq ?_
    refine RK.region ?_
    refine RL.p rfl rfl ?_
    refine RL.q (.free rfl) rfl rfl (Yld.callx rfl (fun w => x86 _ w)) ?_
    refine RL.p rfl rfl ?_
    refine RL.done ?_
    refine RK.ret_of Tryz.func59 (res1 rfl rfl) ?_ _
    exact ⟨_, rfl, by simp_all [bitsS], rfl⟩
end Go.Proofs.YtghcdngegadkaaaGreat
set_option linter.unusedVariables false
set_option linter.unusedSimpArgs false
set_option maxHeartbeats 400000
set_option maxRecDepth 100000
namespace Go.Proofs.YtghcdngegadkaaaGreat
open Go Go.X
structure Lab where
  name : ByteArray
  value : ByteArray
  deriving DecidableEq, Inhabited
@[irreducible] def okAt (ls : List Lab) (i : Nat) : Bool := match ls[i]? with
  | none => true
  | some x => nameS x.name && valS x.value && match i with
    | 0 => true
    | j + 1 => match ls[j]? with
      | none => true
      | some y => slt y.name x.name
@[irreducible] def isS (ls : List Lab) : Bool := decide (1 ≤ ls.length ∧ ls.length ≤ 6) && (List.range ls.length).all (okAt ls)
end Go.Proofs.YtghcdngegadkaaaGreat
set_option linter.unusedVariables false
set_option linter.unusedSimpArgs false
set_option maxHeartbeats 400000
set_option maxRecDepth 100000
namespace Go.Proofs.YtghcdngegadkaaaGreat
open Go Go.X
end Go.Proofs.YtghcdngegadkaaaGreat
set_option linter.unusedVariables false
set_option linter.unusedSimpArgs false
set_option maxHeartbeats 400000
set_option maxRecDepth 100000
namespace Go.Proofs.YtghcdngegadkaaaGreat
open Go Go.X
abbrev ints (xs : List Int) : List Value := xs.map (Value.int .i64)
def sortI (xs : List Int) : List Int := xs.mergeSort fun x y => decide (x ≤ y)
theorem sortI_len (xs : List Int) : (sortI xs).length = xs.length := by simp [sortI]
end Go.Proofs.YtghcdngegadkaaaGreat
set_option linter.unusedVariables false
set_option linter.unusedSimpArgs false
set_option maxHeartbeats 400000
set_option maxRecDepth 100000
namespace Go.Proofs.YtghcdngegadkaaaGreat
open Go Go.X
def mkRow (xs : List Int) : List Int := Lib.compact (sortI xs)
end Go.Proofs.YtghcdngegadkaaaGreat
set_option linter.unusedVariables false
set_option linter.unusedSimpArgs false
set_option maxHeartbeats 400000
set_option maxRecDepth 100000
namespace Go.Proofs.YtghcdngegadkaaaGreat
open Go Go.X
def canS (b : Nat) : Nat := if nanS b then 9221120237041090561 else b
end Go.Proofs.YtghcdngegadkaaaGreat
set_option linter.unusedVariables false
set_option linter.unusedSimpArgs false
set_option maxHeartbeats 6400000
set_option maxRecDepth 100000
namespace Go.Proofs.YtghcdngegadkaaaGreat
open Go Go.X
theorem fldV {w : World} {b t : Nat} {cs : List Value} (h : Blk w b t cs) (k n : Nat) : ∀ j u, ((cs.drop k).take n)[j]? = some u → w.cell? ⟨b, 0 + k + j, none⟩ = some u := fun j u hj => by
  have hj2 : (cs.drop k)[j]? = some u := by
    rw [List.getElem?_take] at hj
    split at hj
    · exact hj
    · cases hj
  rw [List.getElem?_drop] at hj2
  rw [Nat.zero_add]
  exact h.cell' hj2
theorem blkV {w : World} {b t : Nat} {cs : List Value} (h : Blk w b t cs) : ∀ (j : Nat) (u : Value), cs[j]? = some u → w.cell? ⟨b, 0 + j, none⟩ = some u := fun j u hj => by rw [Nat.zero_add]; exact h.cell' hj
@[reducible] def band0 : List Value := [.bool false, .float .f64 0, .float .f64 0]
@[reducible] def rule0 : List Value := [.slice none 0 0, .slice none 0 0, .bool false, .float .f64 0, .float .f64 0, .slice none 0 0]
@[reducible] def reqC (tok : ByteArray) (op : Int) : List Value := [.string tok, .int .i64 op, .int .i64 0, .string ⟨#[]⟩, .int .u64 0, .int .u64 0, .int .i64 0, .slice none 0 0, .bool false, .float .f64 0, .float .f64 0, .slice none 0 0, .slice none 0 0, .bool false, .float .f64 0, .float .f64 0, .slice none 0 0, .slice none 0 0, .float .f64 0]
theorem nought0_ok (w : World) : Fx Tryz.prog 112 [.float .f64 0] w (fun u w' => u = .bool true ∧ w = w') := by
  refine enter Tryz.func112 rfl rfl rfl _ (Pick.sub (l := [0]) (.cons rfl .nil)) ?_
  refine RK.seq ?_
  refine RK.region ?_
  refine RL.p rfl rfl ?_
  refine RL.done ?_
  refine RK.seq ?_
  refine RK.region ?_
  refine RL.p rfl rfl ?_
  refine RL.op (.free rfl) rfl rfl (Does.call rfl e59 (bits_ok 0 _)) ?_
  rintro _ _ ⟨rfl, rfl⟩
  iterate 2 refine RL.p rfl rfl ?_
  refine RL.done ?_
  refine RK.ret_of Tryz.func112 (res1 rfl rfl) ?_ _
  exact ⟨_, rfl, congrArg Value.bool (decide_eq_true (by have h : nanS 0 = false := (by unfold nanS; decide +kernel); unfold bitsS; rw [h]; rfl)), rfl⟩
theorem noBand0_ok (w : World) : Fx Tryz.prog 110 [.agg band0.toArray] w (fun u w' => u = .bool true ∧ Grow w w') := by
  refine enter Tryz.func110 rfl rfl rfl _ (Pick.sub (l := [0]) (.cons rfl .nil)) ?_
  refine RK.seq ?_
  refine RK.region ?_
  refine RL.op (.free rfl) rfl rfl (Does.box rfl) ?_
  rintro _ w1 ⟨b1, rfl, hn1⟩
  have hB : Blk w1 b1 51 band0 := hn1.blk
  refine RL.p rfl rfl ?_
  refine RL.done ?_
  refine RK.seq ?_
  refine RK.region ?_
  refine RL.q (.free rfl) rfl rfl (Yld.fieldAddr fo51_0 rfl) ?_
  refine RL.q (.free rfl) rfl rfl (Yld.load p4 rfl (at1 (hB.cell rfl))) ?_
  iterate 2 refine RL.p rfl rfl ?_
  refine RL.knownT (d := 6) rfl rfl (by first | rfl | decide) ?_
  refine RL.q (.yes rfl rfl rfl) rfl rfl (Yld.fieldAddr fo51_1 rfl) ?_
  refine RL.q (.yes rfl rfl rfl) rfl rfl (Yld.load p49 rfl (at1 (hB.cell rfl))) ?_
  refine RL.op (.yes rfl rfl rfl) rfl rfl (Does.call rfl e112 (nought0_ok _)) ?_
  rintro _ _ ⟨rfl, rfl⟩
  iterate 2 refine RL.p rfl rfl ?_
  refine RL.knownT (d := 11) rfl rfl (by first | rfl | decide) ?_
  refine RL.q (.yes rfl rfl rfl) rfl rfl (Yld.fieldAddr fo51_2 rfl) ?_
  refine RL.q (.yes rfl rfl rfl) rfl rfl (Yld.load p49 rfl (at1 (hB.cell rfl))) ?_
  refine RL.op (.yes rfl rfl rfl) rfl rfl (Does.call rfl e112 (nought0_ok _)) ?_
  rintro _ _ ⟨rfl, rfl⟩
  iterate 2 refine RL.p rfl rfl ?_
  refine RL.done ?_
  refine RK.ret_of Tryz.func110 (res1 rfl rfl) ?_ _
  exact ⟨_, rfl, rfl, hn1.grow⟩
theorem noRule0_ok (w : World) : Fx Tryz.prog 111 [.agg rule0.toArray] w (fun u w' => u = .bool true ∧ Grow w w') := by
  refine enter Tryz.func111 rfl rfl rfl _ (Pick.sub (l := [0]) (.cons rfl .nil)) ?_
  refine RK.seq ?_
  refine RK.region ?_
  refine RL.op (.free rfl) rfl rfl (Does.box rfl) ?_
  rintro _ w1 ⟨b1, rfl, hn1⟩
  have hB : Blk w1 b1 54 rule0 := hn1.blk
  refine RL.p rfl rfl ?_
  refine RL.done ?_
  refine RK.seq ?_
  refine RK.region ?_
  refine RL.q (.free rfl) rfl rfl (Yld.fieldAddr fo54_0 rfl) ?_
  refine RL.q (.free rfl) rfl rfl (Yld.load p48 rfl (at1 (hB.cell rfl))) ?_
  refine RL.q (.free rfl) rfl rfl (Yld.lenSl u48 rfl) ?_
  iterate 2 refine RL.p rfl rfl ?_
  refine RL.knownT (d := 7) rfl rfl (by first | rfl | decide) ?_
  refine RL.q (.yes rfl rfl rfl) rfl rfl (Yld.fieldAddr fo54_1 rfl) ?_
  refine RL.q (.yes rfl rfl rfl) rfl rfl (Yld.load p48 rfl (at1 (hB.cell rfl))) ?_
  refine RL.q (.yes rfl rfl rfl) rfl rfl (Yld.lenSl u48 rfl) ?_
  refine RL.q (.yes rfl rfl rfl) rfl rfl (Yld.pure rfl) ?_
  iterate 2 refine RL.p rfl rfl ?_
  refine RL.knownT (d := 13) rfl rfl (by first | rfl | decide) ?_
  refine RL.q (.yes rfl rfl rfl) rfl rfl (Yld.fieldAddr fo54_3 rfl) ?_
  refine RL.q (.yes rfl rfl rfl) rfl rfl (Yld.load p52 rfl (at1 (hB.cell rfl))) ?_
  refine RL.q (.yes rfl rfl rfl) rfl rfl (Yld.lenSl u52 rfl) ?_
  refine RL.q (.yes rfl rfl rfl) rfl rfl (Yld.pure rfl) ?_
  iterate 2 refine RL.p rfl rfl ?_
  refine RL.knownT (d := 19) rfl rfl (by first | rfl | decide) ?_
  refine RL.q (.yes rfl rfl rfl) rfl rfl (Yld.fieldAddr fo54_2 rfl) ?_
  refine RL.q (.yes rfl rfl rfl) rfl rfl (Yld.loadN (cs := band0) a51 rfl (atN (fldV hB 2 3))) ?_
  refine RL.op (.yes rfl rfl rfl) rfl rfl (Does.call rfl e110 (noBand0_ok _)) ?_
  rintro _ w2 ⟨rfl, hg2⟩
  iterate 2 refine RL.p rfl rfl ?_
  refine RL.done ?_
  refine RK.ret_of Tryz.func111 (res1 rfl rfl) ?_ _
  exact ⟨_, rfl, rfl, hn1.grow.trans hg2⟩
theorem mlist0_ok (w : World) : Fx Tryz.prog 82 [.slice none 0 0] w (fun u w' => u = .bool true ∧ w = w') := by
  refine enter Tryz.func82 rfl rfl rfl _ (Pick.sub (l := [0]) (.cons rfl .nil)) ?_
  refine RK.seq ?_
  refine RK.region ?_
  refine RL.p rfl rfl ?_
  refine RL.done ?_
  iterate 2 refine RK.seq ?_
  refine RK.region ?_
  refine RL.p rfl rfl ?_
  refine RL.q (.free rfl) rfl rfl (Yld.lenSl u48 rfl) ?_
  refine RL.p rfl rfl ?_
  refine RL.done ?_
  refine RK.condF (hcF rfl (rfl)) ?_
  refine RK.skip ?_
  iterate 2 refine RK.seq ?_
  refine RK.region ?_
  refine RL.p rfl rfl ?_
  refine RL.q (.free rfl) rfl rfl (Yld.lenSl u48 rfl) ?_
  refine RL.p rfl rfl ?_
  refine RL.done ?_
  refine RK.block ?_
  refine RK.loop (fun s : Unit => [(9, .int .i64 0), (10, .int .i64 0)]) (fun s w' => w = w') (fun s => 0) () ⟨rfl, rfl, trivial⟩ rfl (fun s w' hI ih => ?_)
  subst hI
  refine RK.seq ?_
  refine RK.region ?_
  refine RL.p rfl rfl ?_
  refine RL.done ?_
  refine RK.seq ?_
  refine RK.condF (hcF rfl (rfl)) ?_
  refine RK.exit rfl ?_
  refine RK.seq ?_
  refine RK.region ?_
  refine RL.p rfl rfl ?_
  refine RL.done ?_
  refine RK.ret_of Tryz.func82 (res1 rfl rfl) ?_ _
  exact ⟨_, rfl, rfl, rfl⟩
theorem reqFields1_ok (w : World) : Fx Tryz.prog 49 [.int .i64 1] w (fun u w' => u = .tuple #[.int .i64 0, .bool true] ∧ w = w') := by
  refine enter Tryz.func49 rfl rfl rfl _ (Pick.sub (l := [0]) (.cons rfl .nil)) ?_
  refine RK.seq ?_
  refine RK.region ?_
  iterate 2 refine RL.p rfl rfl ?_
  refine RL.done ?_
  iterate 2 refine RK.seq ?_
  refine RK.region ?_
  refine RL.p rfl rfl ?_
  refine RL.done ?_
  refine RK.block ?_
  iterate 2 refine RK.seq ?_
  refine RK.region ?_
  iterate 2 refine RL.p rfl rfl ?_
  refine RL.done ?_
  refine RK.condT (hcT rfl (rfl)) ?_
  refine RK.skip ?_
  refine RK.condT (hcT rfl (rfl)) ?_
  refine RK.seq ?_
  refine RK.region ?_
  iterate 2 refine RL.p rfl rfl ?_
  refine RL.done ?_
  refine RK.ret_of Tryz.func49 (res2 rfl rfl rfl) ?_ _
  exact ⟨_, rfl, rfl, rfl⟩
theorem reqFields0_ok (w : World) : Fx Tryz.prog 49 [.int .i64 0] w (fun u w' => u = .tuple #[.int .i64 0, .bool false] ∧ w = w') := by
  refine enter Tryz.func49 rfl rfl rfl _ (Pick.sub (l := [0]) (.cons rfl .nil)) ?_
  refine RK.seq ?_
  refine RK.region ?_
  iterate 2 refine RL.p rfl rfl ?_
  refine RL.done ?_
  iterate 2 refine RK.seq ?_
  refine RK.region ?_
  refine RL.p rfl rfl ?_
  refine RL.done ?_
  refine RK.block ?_
  iterate 2 refine RK.seq ?_
  refine RK.region ?_
  iterate 2 refine RL.p rfl rfl ?_
  refine RL.done ?_
  refine RK.condF (hcF rfl (rfl)) ?_
  refine RK.seq ?_
  refine RK.region ?_
  iterate 2 refine RL.p rfl rfl ?_
  refine RL.done ?_
  refine RK.condF (hcF rfl (rfl)) ?_
  refine RK.seq ?_
  refine RK.region ?_
  iterate 2 refine RL.p rfl rfl ?_
  refine RL.done ?_
  refine RK.condF (hcF rfl (rfl)) ?_
  refine RK.region ?_
  iterate 2 refine RL.p rfl rfl ?_
  refine RL.done ?_
  refine RK.condF (hcF rfl (rfl)) ?_
  iterate 2 refine RK.seq ?_
  refine RK.region ?_
  iterate 2 refine RL.p rfl rfl ?_
  refine RL.done ?_
  refine RK.condF (hcF rfl (rfl)) ?_
  refine RK.seq ?_
  refine RK.region ?_
  iterate 2 refine RL.p rfl rfl ?_
  refine RL.done ?_
  refine RK.condF (hcF rfl (rfl)) ?_
  refine RK.seq ?_
  refine RK.region ?_
  iterate 2 refine RL.p rfl rfl ?_
  refine RL.done ?_
  refine RK.condF (hcF rfl (rfl)) ?_
  refine RK.seq ?_
  refine RK.region ?_
  iterate 2 refine RL.p rfl rfl ?_
  refine RL.done ?_
  refine RK.condF (hcF rfl (rfl)) ?_
  refine RK.region ?_
  iterate 2 refine RL.p rfl rfl ?_
  refine RL.done ?_
  refine RK.condF (hcF rfl (rfl)) ?_
  iterate 2 refine RK.seq ?_
  refine RK.region ?_
  iterate 2 refine RL.p rfl rfl ?_
  refine RL.done ?_
  refine RK.condF (hcF rfl (rfl)) ?_
  refine RK.region ?_
  iterate 2 refine RL.p rfl rfl ?_
  refine RL.done ?_
  refine RK.condF (hcF rfl (rfl)) ?_
  refine RK.seq ?_
  refine RK.region ?_
  iterate 2 refine RL.p rfl rfl ?_
  refine RL.done ?_
  refine RK.condF (hcF rfl (rfl)) ?_
  refine RK.seq ?_
  refine RK.region ?_
  iterate 2 refine RL.p rfl rfl ?_
  refine RL.done ?_
  refine RK.condF (hcF rfl (rfl)) ?_
  refine RK.seq ?_
  refine RK.region ?_
  iterate 2 refine RL.p rfl rfl ?_
  refine RL.done ?_
  refine RK.condF (hcF rfl (rfl)) ?_
  refine RK.seq ?_
  refine RK.region ?_
  iterate 2 refine RL.p rfl rfl ?_
  refine RL.done ?_
  refine RK.condF (hcF rfl (rfl)) ?_
  refine RK.seq ?_
  refine RK.region ?_
  iterate 2 refine RL.p rfl rfl ?_
  refine RL.done ?_
  refine RK.condF (hcF rfl (rfl)) ?_
  refine RK.seq ?_
  refine RK.region ?_
  iterate 2 refine RL.p rfl rfl ?_
  refine RL.done ?_
  refine RK.condF (hcF rfl (rfl)) ?_
  refine RK.skip ?_
  refine RK.inBlock ?_
  refine RK.seq ?_
  refine RK.region ?_
  iterate 2 refine RL.p rfl rfl ?_
  refine RL.done ?_
  refine RK.ret_of Tryz.func49 (res2 rfl rfl rfl) ?_ _
  exact ⟨_, rfl, rfl, rfl⟩
theorem reqZero_ok (op : Int) (w : World) : Fx Tryz.prog 79 [.agg (reqC ⟨#[]⟩ op).toArray, .int .i64 0] w (fun u w' => u = .bool true ∧ Grow w w') := by
  refine enter Tryz.func79 rfl rfl rfl _ (Pick.sub (l := [0, 1]) (.cons rfl (.cons rfl .nil))) ?_
  refine RK.seq ?_
  refine RK.region ?_
  refine RL.op (.free rfl) rfl rfl (Does.box rfl) ?_
  rintro _ w1 ⟨b1, rfl, hn1⟩
  have hB : Blk w1 b1 57 (reqC ⟨#[]⟩ op) := hn1.blk
  refine RL.p rfl rfl ?_
  refine RL.done ?_
  refine RK.seq ?_
  refine RK.region ?_
  iterate 4 refine RL.p rfl rfl ?_
  refine RL.knownF (d := 8) rfl rfl (by first | rfl | decide) ?_
  refine RL.q (.yes rfl rfl rfl) rfl rfl (Yld.fieldAddr fo57_2 rfl) ?_
  refine RL.q (.yes rfl rfl rfl) rfl rfl (Yld.load p3 rfl (at1 (hB.cell rfl))) ?_
  refine RL.q (.yes rfl rfl rfl) rfl rfl (Yld.pure rfl) ?_
  iterate 2 refine RL.p rfl rfl ?_
  refine RL.knownT (d := 13) rfl rfl (by first | rfl | decide) ?_
  iterate 4 refine RL.q (.yes rfl rfl rfl) rfl rfl (Yld.pure rfl) ?_
  refine RL.knownF (d := 17) rfl rfl (by first | rfl | decide) ?_
  refine RL.q (.yes rfl rfl rfl) rfl rfl (Yld.fieldAddr fo57_3 rfl) ?_
  refine RL.q (.yes rfl rfl rfl) rfl rfl (Yld.load p9 rfl (at1 (hB.cell rfl))) ?_
  iterate 2 refine RL.q (.yes rfl rfl rfl) rfl rfl (Yld.pure rfl) ?_
  iterate 2 refine RL.p rfl rfl ?_
  refine RL.knownT (d := 23) rfl rfl (by first | rfl | decide) ?_
  iterate 4 refine RL.q (.yes rfl rfl rfl) rfl rfl (Yld.pure rfl) ?_
  refine RL.knownF (d := 27) rfl rfl (by first | rfl | decide) ?_
  refine RL.q (.yes rfl rfl rfl) rfl rfl (Yld.fieldAddr fo57_4 rfl) ?_
  refine RL.q (.yes rfl rfl rfl) rfl rfl (Yld.load p22 rfl (at1 (hB.cell rfl))) ?_
  iterate 2 refine RL.q (.yes rfl rfl rfl) rfl rfl (Yld.pure rfl) ?_
  refine RL.knownT (d := 31) rfl rfl (by first | rfl | decide) ?_
  refine RL.q (.yes rfl rfl rfl) rfl rfl (Yld.fieldAddr fo57_5 rfl) ?_
  refine RL.q (.yes rfl rfl rfl) rfl rfl (Yld.load p22 rfl (at1 (hB.cell rfl))) ?_
  iterate 3 refine RL.q (.yes rfl rfl rfl) rfl rfl (Yld.pure rfl) ?_
  iterate 2 refine RL.p rfl rfl ?_
  refine RL.knownT (d := 38) rfl rfl (by first | rfl | decide) ?_
  iterate 4 refine RL.q (.yes rfl rfl rfl) rfl rfl (Yld.pure rfl) ?_
  refine RL.knownF (d := 42) rfl rfl (by first | rfl | decide) ?_
  refine RL.q (.yes rfl rfl rfl) rfl rfl (Yld.fieldAddr fo57_6 rfl) ?_
  refine RL.q (.yes rfl rfl rfl) rfl rfl (Yld.load p3 rfl (at1 (hB.cell rfl))) ?_
  iterate 2 refine RL.q (.yes rfl rfl rfl) rfl rfl (Yld.pure rfl) ?_
  iterate 2 refine RL.p rfl rfl ?_
  refine RL.knownT (d := 48) rfl rfl (by first | rfl | decide) ?_
  iterate 4 refine RL.q (.yes rfl rfl rfl) rfl rfl (Yld.pure rfl) ?_
  refine RL.knownF (d := 52) rfl rfl (by first | rfl | decide) ?_
  refine RL.q (.yes rfl rfl rfl) rfl rfl (Yld.fieldAddr fo57_7 rfl) ?_
  refine RL.q (.yes rfl rfl rfl) rfl rfl (Yld.load p48 rfl (at1 (hB.cell rfl))) ?_
  refine RL.q (.yes rfl rfl rfl) rfl rfl (Yld.lenSl u48 rfl) ?_
  iterate 2 refine RL.q (.yes rfl rfl rfl) rfl rfl (Yld.pure rfl) ?_
  iterate 2 refine RL.p rfl rfl ?_
  refine RL.knownT (d := 59) rfl rfl (by first | rfl | decide) ?_
  iterate 4 refine RL.q (.yes rfl rfl rfl) rfl rfl (Yld.pure rfl) ?_
  refine RL.knownF (d := 63) rfl rfl (by first | rfl | decide) ?_
  refine RL.q (.yes rfl rfl rfl) rfl rfl (Yld.fieldAddr fo57_8 rfl) ?_
  refine RL.q (.yes rfl rfl rfl) rfl rfl (Yld.loadN (cs := band0) a51 rfl (atN (fldV hB 8 3))) ?_
  refine RL.op (.yes rfl rfl rfl) rfl rfl (Does.call rfl e110 (noBand0_ok _)) ?_
  rintro _ w2 ⟨rfl, hg2⟩
  have hB2 := hB.mod hg2 (fun h => h)
  refine RL.q (.yes rfl rfl rfl) rfl rfl (Yld.pure rfl) ?_
  iterate 2 refine RL.p rfl rfl ?_
  refine RL.knownT (d := 69) rfl rfl (by first | rfl | decide) ?_
  iterate 4 refine RL.q (.yes rfl rfl rfl) rfl rfl (Yld.pure rfl) ?_
  refine RL.knownF (d := 73) rfl rfl (by first | rfl | decide) ?_
  refine RL.q (.yes rfl rfl rfl) rfl rfl (Yld.fieldAddr fo57_9 rfl) ?_
  refine RL.q (.yes rfl rfl rfl) rfl rfl (Yld.loadN (cs := rule0) a54 rfl (atN (fldV hB2 11 6))) ?_
  refine RL.op (.yes rfl rfl rfl) rfl rfl (Does.call rfl e111 (noRule0_ok _)) ?_
  rintro _ w3 ⟨rfl, hg3⟩
  have hB3 := hB2.mod hg3 (fun h => h)
  refine RL.q (.yes rfl rfl rfl) rfl rfl (Yld.pure rfl) ?_
  iterate 2 refine RL.p rfl rfl ?_
  refine RL.knownT (d := 79) rfl rfl (by first | rfl | decide) ?_
  iterate 4 refine RL.q (.yes rfl rfl rfl) rfl rfl (Yld.pure rfl) ?_
  refine RL.knownF (d := 83) rfl rfl (by first | rfl | decide) ?_
  refine RL.q (.yes rfl rfl rfl) rfl rfl (Yld.fieldAddr fo57_10 rfl) ?_
  refine RL.q (.yes rfl rfl rfl) rfl rfl (Yld.load p55 rfl (at1 (hB3.cell rfl))) ?_
  refine RL.q (.yes rfl rfl rfl) rfl rfl (Yld.lenSl u55 rfl) ?_
  iterate 2 refine RL.q (.yes rfl rfl rfl) rfl rfl (Yld.pure rfl) ?_
  iterate 2 refine RL.p rfl rfl ?_
  refine RL.knownT (d := 90) rfl rfl (by first | rfl | decide) ?_
  iterate 4 refine RL.q (.yes rfl rfl rfl) rfl rfl (Yld.pure rfl) ?_
  refine RL.knownF (d := 94) rfl rfl (by first | rfl | decide) ?_
  refine RL.q (.yes rfl rfl rfl) rfl rfl (Yld.fieldAddr fo57_11 rfl) ?_
  refine RL.q (.yes rfl rfl rfl) rfl rfl (Yld.load p49 rfl (at1 (hB3.cell rfl))) ?_
  refine RL.op (.yes rfl rfl rfl) rfl rfl (Does.call rfl e112 (nought0_ok _)) ?_
  rintro _ _ ⟨rfl, rfl⟩
  refine RL.q (.yes rfl rfl rfl) rfl rfl (Yld.pure rfl) ?_
  iterate 2 refine RL.p rfl rfl ?_
  refine RL.done ?_
  refine RK.ret_of Tryz.func79 (res1 rfl rfl) ?_ _
  exact ⟨_, rfl, rfl, (hn1.grow.trans hg2).trans hg3⟩
theorem reqRight_ok (op : Int) (w : World) : Fx Tryz.prog 80 [.agg (reqC ⟨#[]⟩ op).toArray, .int .i64 0] w (fun u w' => u = .bool true ∧ Grow w w') := by
  refine enter Tryz.func80 rfl rfl rfl _ (Pick.sub (l := [0, 1]) (.cons rfl (.cons rfl .nil))) ?_
  refine RK.seq ?_
  refine RK.region ?_
  refine RL.op (.free rfl) rfl rfl (Does.box rfl) ?_
  rintro _ w1 ⟨b1, rfl, hn1⟩
  have hB : Blk w1 b1 57 (reqC ⟨#[]⟩ op) := hn1.blk
  refine RL.p rfl rfl ?_
  refine RL.done ?_
  refine RK.seq ?_
  refine RK.region ?_
  refine RL.q (.free rfl) rfl rfl (Yld.fieldAddr fo57_2 rfl) ?_
  refine RL.q (.free rfl) rfl rfl (Yld.load p3 rfl (at1 (hB.cell rfl))) ?_
  iterate 2 refine RL.p rfl rfl ?_
  refine RL.knownT (d := 8) rfl rfl (by first | rfl | decide) ?_
  refine RL.q (.yes rfl rfl rfl) rfl rfl (Yld.fieldAddr fo57_2 rfl) ?_
  refine RL.q (.yes rfl rfl rfl) rfl rfl (Yld.load p3 rfl (at1 (hB.cell rfl))) ?_
  refine RL.q (.yes rfl rfl rfl) rfl rfl (Yld.pure rfl) ?_
  iterate 2 refine RL.p rfl rfl ?_
  refine RL.knownT (d := 13) rfl rfl (by first | rfl | decide) ?_
  iterate 4 refine RL.q (.yes rfl rfl rfl) rfl rfl (Yld.pure rfl) ?_
  refine RL.knownT (d := 17) rfl rfl (by first | rfl | decide) ?_
  iterate 3 refine RL.no (.no rfl rfl rfl rfl) rfl rfl ?_
  refine RL.q (.yes rfl rfl rfl) rfl rfl (Yld.pure rfl) ?_
  iterate 2 refine RL.p rfl rfl ?_
  refine RL.q (.yes rfl rfl rfl) rfl rfl (Yld.fieldAddr fo57_4 rfl) ?_
  refine RL.q (.yes rfl rfl rfl) rfl rfl (Yld.load p22 rfl (at1 (hB.cell rfl))) ?_
  refine RL.q (.yes rfl rfl rfl) rfl rfl (Yld.pure rfl) ?_
  iterate 2 refine RL.p rfl rfl ?_
  refine RL.knownT (d := 28) rfl rfl (by first | rfl | decide) ?_
  refine RL.q (.yes rfl rfl rfl) rfl rfl (Yld.fieldAddr fo57_5 rfl) ?_
  refine RL.q (.yes rfl rfl rfl) rfl rfl (Yld.load p22 rfl (at1 (hB.cell rfl))) ?_
  refine RL.q (.yes rfl rfl rfl) rfl rfl (Yld.pure rfl) ?_
  iterate 2 refine RL.p rfl rfl ?_
  refine RL.knownT (d := 33) rfl rfl (by first | rfl | decide) ?_
  refine RL.q (.yes rfl rfl rfl) rfl rfl (Yld.fieldAddr fo57_6 rfl) ?_
  refine RL.q (.yes rfl rfl rfl) rfl rfl (Yld.load p3 rfl (at1 (hB.cell rfl))) ?_
  refine RL.q (.yes rfl rfl rfl) rfl rfl (Yld.pure rfl) ?_
  iterate 2 refine RL.p rfl rfl ?_
  refine RL.knownT (d := 38) rfl rfl (by first | rfl | decide) ?_
  refine RL.q (.yes rfl rfl rfl) rfl rfl (Yld.fieldAddr fo57_6 rfl) ?_
  refine RL.q (.yes rfl rfl rfl) rfl rfl (Yld.load p3 rfl (at1 (hB.cell rfl))) ?_
  refine RL.q (.yes rfl rfl rfl) rfl rfl (Yld.pure rfl) ?_
  iterate 2 refine RL.p rfl rfl ?_
  refine RL.knownT (d := 43) rfl rfl (by first | rfl | decide) ?_
  refine RL.q (.yes rfl rfl rfl) rfl rfl (Yld.fieldAddr fo57_7 rfl) ?_
  refine RL.q (.yes rfl rfl rfl) rfl rfl (Yld.load p48 rfl (at1 (hB.cell rfl))) ?_
  refine RL.op (.yes rfl rfl rfl) rfl rfl (Does.call rfl e82 (mlist0_ok _)) ?_
  rintro _ _ ⟨rfl, rfl⟩
  iterate 2 refine RL.p rfl rfl ?_
  refine RL.knownT (d := 48) rfl rfl (by first | rfl | decide) ?_
  iterate 4 refine RL.q (.yes rfl rfl rfl) rfl rfl (Yld.pure rfl) ?_
  refine RL.knownT (d := 52) rfl rfl (by first | rfl | decide) ?_
  iterate 4 refine RL.no (.no rfl rfl rfl rfl) rfl rfl ?_
  refine RL.q (.yes rfl rfl rfl) rfl rfl (Yld.pure rfl) ?_
  iterate 2 refine RL.p rfl rfl ?_
  iterate 4 refine RL.q (.yes rfl rfl rfl) rfl rfl (Yld.pure rfl) ?_
  refine RL.knownT (d := 63) rfl rfl (by first | rfl | decide) ?_
  iterate 3 refine RL.no (.no rfl rfl rfl rfl) rfl rfl ?_
  refine RL.q (.yes rfl rfl rfl) rfl rfl (Yld.pure rfl) ?_
  iterate 2 refine RL.p rfl rfl ?_
  iterate 4 refine RL.q (.yes rfl rfl rfl) rfl rfl (Yld.pure rfl) ?_
  refine RL.knownT (d := 73) rfl rfl (by first | rfl | decide) ?_
  iterate 3 refine RL.no (.no rfl rfl rfl rfl) rfl rfl ?_
  refine RL.q (.yes rfl rfl rfl) rfl rfl (Yld.pure rfl) ?_
  iterate 2 refine RL.p rfl rfl ?_
  iterate 4 refine RL.q (.yes rfl rfl rfl) rfl rfl (Yld.pure rfl) ?_
  refine RL.knownT (d := 83) rfl rfl (by first | rfl | decide) ?_
  iterate 3 refine RL.no (.no rfl rfl rfl rfl) rfl rfl ?_
  refine RL.q (.yes rfl rfl rfl) rfl rfl (Yld.pure rfl) ?_
  iterate 2 refine RL.p rfl rfl ?_
  refine RL.done ?_
  refine RK.ret_of Tryz.func80 (res1 rfl rfl) ?_ _
  exact ⟨_, rfl, rfl, hn1.grow⟩
theorem reqMay1_ok (w : World) : Fx Tryz.prog 48 [.agg (reqC ⟨#[]⟩ 1).toArray] w (fun u w' => u = .bool true ∧ Grow w w') := by
  refine enter Tryz.func48 rfl rfl rfl _ (Pick.sub (l := [0]) (.cons rfl .nil)) ?_
  refine RK.seq ?_
  refine RK.region ?_
  refine RL.op (.free rfl) rfl rfl (Does.box rfl) ?_
  rintro _ w1 ⟨b1, rfl, hn1⟩
  have hB : Blk w1 b1 57 (reqC ⟨#[]⟩ 1) := hn1.blk
  refine RL.p rfl rfl ?_
  refine RL.done ?_
  refine RK.seq ?_
  refine RK.region ?_
  refine RL.q (.free rfl) rfl rfl (Yld.fieldAddr fo57_1 rfl) ?_
  refine RL.q (.free rfl) rfl rfl (Yld.load p3 rfl (at1 (hB.cell rfl))) ?_
  refine RL.op (.free rfl) rfl rfl (Does.call rfl e49 (reqFields1_ok _)) ?_
  rintro _ _ ⟨rfl, rfl⟩
  iterate 5 refine RL.p rfl rfl ?_
  refine RL.done ?_
  refine RK.seq ?_
  refine RK.region ?_
  iterate 2 refine RL.p rfl rfl ?_
  refine RL.knownT (d := 12) rfl rfl (rfl) ?_
  refine RL.q (.yes rfl rfl rfl) rfl rfl (Yld.loadN (cs := reqC ⟨#[]⟩ 1) a57 rfl (atN (blkV hB))) ?_
  refine RL.q (.yes rfl rfl rfl) rfl rfl (Yld.pure rfl) ?_
  refine RL.op (.yes rfl rfl rfl) rfl rfl (Does.call rfl e79 (reqZero_ok 1 _)) ?_
  rintro _ w2 ⟨rfl, hg2⟩
  iterate 2 refine RL.p rfl rfl ?_
  refine RL.knownT (d := 17) rfl rfl (rfl) ?_
  refine RL.q (.yes rfl rfl rfl) rfl rfl (Yld.loadN (cs := reqC ⟨#[]⟩ 1) a57 rfl (atN (blkV (hB.mod hg2 (fun h => h))))) ?_
  refine RL.q (.yes rfl rfl rfl) rfl rfl (Yld.pure rfl) ?_
  refine RL.op (.yes rfl rfl rfl) rfl rfl (Does.call rfl e80 (reqRight_ok 1 _)) ?_
  rintro _ w3 ⟨rfl, hg3⟩
  iterate 2 refine RL.p rfl rfl ?_
  refine RL.done ?_
  refine RK.ret_of Tryz.func48 (res1 rfl rfl) ?_ _
  exact ⟨_, rfl, rfl, (hn1.grow.trans hg2).trans hg3⟩
theorem reqMay0_ok (w : World) : Fx Tryz.prog 48 [.agg (reqC ⟨#[]⟩ 0).toArray] w (fun u w' => u = .bool false ∧ Grow w w') := by
  refine enter Tryz.func48 rfl rfl rfl _ (Pick.sub (l := [0]) (.cons rfl .nil)) ?_
  refine RK.seq ?_
  refine RK.region ?_
  refine RL.op (.free rfl) rfl rfl (Does.box rfl) ?_
  rintro _ w1 ⟨b1, rfl, hn1⟩
  have hB : Blk w1 b1 57 (reqC ⟨#[]⟩ 0) := hn1.blk
  refine RL.p rfl rfl ?_
  refine RL.done ?_
  refine RK.seq ?_
  refine RK.region ?_
  refine RL.q (.free rfl) rfl rfl (Yld.fieldAddr fo57_1 rfl) ?_
  refine RL.q (.free rfl) rfl rfl (Yld.load p3 rfl (at1 (hB.cell rfl))) ?_
  refine RL.op (.free rfl) rfl rfl (Does.call rfl e49 (reqFields0_ok _)) ?_
  rintro _ _ ⟨rfl, rfl⟩
  iterate 5 refine RL.p rfl rfl ?_
  refine RL.done ?_
  refine RK.seq ?_
  refine RK.region ?_
  iterate 2 refine RL.p rfl rfl ?_
  refine RL.knownF (d := 12) rfl rfl (rfl) ?_
  iterate 3 refine RL.no (.no rfl rfl rfl rfl) rfl rfl ?_
  iterate 2 refine RL.p rfl rfl ?_
  iterate 3 refine RL.no (.no rfl rfl rfl rfl) rfl rfl ?_
  iterate 2 refine RL.p rfl rfl ?_
  refine RL.done ?_
  refine RK.ret_of Tryz.func48 (res1 rfl rfl) ?_ _
  exact ⟨_, rfl, rfl, hn1.grow⟩
theorem reqRead1_ok {N : Nat} {w : World} {p : Nat} {ad : Option Addr} {c : Nat} {bs : List UInt8} {i : Nat} (h : Rd N w p ad c bs i false) (hd : bs.drop i = [1]) : Fx Tryz.prog 93 [pp p] w (fun u w' => u = .agg (reqC ⟨#[]⟩ 1).toArray ∧ Rd N w' p ad c bs (i + 1) false ∧ Mod (· = p) w w') := by
  have hpN := h.pN
  have hplt := h.blk.lt
  refine enter Tryz.func93 rfl rfl rfl _ (Pick.sub (l := [0]) (.cons rfl .nil)) ?_
  refine RK.seq ?_
  refine RK.region ?_
  refine RL.op (.free rfl) rfl rfl (Does.alloc i57) ?_
  rintro _ w2 ⟨b2, rfl, hn2⟩
  have h2 := h.grow hn2.grow
  have ha2 := hn2.at_
  have hz2 := hn2.size
  refine RL.done ?_
  refine RK.seq ?_
  refine RK.region ?_
  refine RL.p rfl rfl ?_
  refine RL.op (.free rfl) rfl rfl (Does.call rfl e95 (byteT_ok h2 1 (by decide) [] hd)) ?_
  rintro _ w3 ⟨rfl, h3, hm3⟩
  have hz3 := hm3.size
  refine RL.q (.free rfl) rfl rfl (Yld.convI Tryz.underlying5 Tryz.underlying3 rfl) ?_
  refine RL.q (.free rfl) rfl rfl (Yld.build (v := .agg (reqC ⟨#[]⟩ 1).toArray) rfl (fun w => by kernel_rfl)) ?_
  refine RL.op (.free rfl) rfl rfl (Does.alloc i57) ?_
  rintro _ w4 ⟨b4, rfl, hn4⟩
  have ha4 := hn4.at_
  have hz4 := hn4.size
  have h4' := h3.grow hn4.grow
  refine RL.op' (.free rfl) rfl (Does.storeN i57 rfl rfl rfl rfl hn4.blk (Nat.le_refl 19)) ?_
  rintro _ w5 ⟨hb5, hm5, hs5⟩
  have hB5 : Blk w5 b4 57 (reqC ⟨#[]⟩ 1) := hb5
  have h5 := h4'.mod hm5 (fun e => by have e' : p = b4 := e; omega) (fun b e => by have e' : b = b4 := e; omega)
  refine RL.done ?_
  refine RK.seq ?_
  refine RK.region ?_
  refine RL.q (.free rfl) rfl rfl (Yld.fieldAddr fo57_1 rfl) ?_
  refine RL.q (.free rfl) rfl rfl (Yld.load p3 rfl (at1 (hB5.cell rfl))) ?_
  refine RL.op (.free rfl) rfl rfl (Does.call rfl e49 (reqFields1_ok _)) ?_
  rintro _ _ ⟨rfl, rfl⟩
  iterate 5 refine RL.p rfl rfl ?_
  refine RL.done ?_
  refine RK.seq ?_
  refine RK.region ?_
  iterate 2 refine RL.p rfl rfl ?_
  refine RL.op (.free rfl) rfl rfl (Does.call rfl e91 (refuseT_ok h5)) ?_
  rintro _ w6 ⟨h6, hm6⟩
  have hB6 := hB5.mod hm6 (fun e => by have e' : b4 = p := e; omega)
  refine RL.done ?_
  iterate 2 refine RK.seq ?_
  refine RK.region ?_
  iterate 3 refine RL.p rfl rfl ?_
  refine RL.done ?_
  refine RK.condF (hcF rfl (by first | rfl | decide)) ?_
  refine RK.skip ?_
  iterate 2 refine RK.seq ?_
  refine RK.region ?_
  iterate 3 refine RL.p rfl rfl ?_
  refine RL.done ?_
  refine RK.condF (hcF rfl (by first | rfl | decide)) ?_
  refine RK.skip ?_
  iterate 2 refine RK.seq ?_
  refine RK.region ?_
  iterate 3 refine RL.p rfl rfl ?_
  refine RL.done ?_
  refine RK.condF (hcF rfl (by first | rfl | decide)) ?_
  refine RK.skip ?_
  iterate 2 refine RK.seq ?_
  refine RK.region ?_
  iterate 3 refine RL.p rfl rfl ?_
  refine RL.done ?_
  refine RK.condF (hcF rfl (by first | rfl | decide)) ?_
  refine RK.skip ?_
  iterate 2 refine RK.seq ?_
  refine RK.region ?_
  iterate 3 refine RL.p rfl rfl ?_
  refine RL.done ?_
  refine RK.condF (hcF rfl (by first | rfl | decide)) ?_
  refine RK.skip ?_
  iterate 2 refine RK.seq ?_
  refine RK.region ?_
  iterate 3 refine RL.p rfl rfl ?_
  refine RL.done ?_
  refine RK.condF (hcF rfl (by first | rfl | decide)) ?_
  refine RK.skip ?_
  iterate 2 refine RK.seq ?_
  refine RK.region ?_
  iterate 3 refine RL.p rfl rfl ?_
  refine RL.done ?_
  refine RK.condF (hcF rfl (by first | rfl | decide)) ?_
  refine RK.skip ?_
  iterate 2 refine RK.seq ?_
  refine RK.region ?_
  iterate 3 refine RL.p rfl rfl ?_
  refine RL.done ?_
  refine RK.condF (hcF rfl (by first | rfl | decide)) ?_
  refine RK.skip ?_
  iterate 2 refine RK.seq ?_
  refine RK.region ?_
  iterate 3 refine RL.p rfl rfl ?_
  refine RL.done ?_
  refine RK.condF (hcF rfl (by first | rfl | decide)) ?_
  refine RK.skip ?_
  refine RK.seq ?_
  refine RK.region ?_
  refine RL.p rfl rfl ?_
  refine RL.q (.free rfl) rfl rfl (Yld.loadN (cs := reqC ⟨#[]⟩ 1) a57 rfl (atN (blkV hB6))) ?_
  refine RL.op (.free rfl) rfl rfl (Does.call rfl e48 (reqMay1_ok _)) ?_
  rintro _ w7 ⟨rfl, hg7⟩
  have hB7 := hB6.mod hg7 (fun h => h)
  refine RL.op (.free rfl) rfl rfl (Does.call rfl e91 (refuseT_ok (h6.grow hg7))) ?_
  rintro _ w8 ⟨h8, hm8⟩
  have hB8 := hB7.mod hm8 (fun e => by have e' : b4 = p := e; omega)
  have hmod : Mod (· = p) w w8 := ((((Mod.any' hn2.grow).trans hm3).trans (Mod.any' hn4.grow)).then hm5 (fun b hb e => by have e' : b = b4 := e; omega)).trans ((hm6.trans (Mod.any' hg7)).trans hm8)
  have hb2' : Blk w8 b2 57 _ := (((((hn2.blk.mod hm3 (fun e => by have e' : b2 = p := e; omega)).mod hn4.grow (fun h => h)).mod hm5 (fun e => by have e' : b2 = b4 := e; omega)).mod hm6 (fun e => by have e' : b2 = p := e; omega)).mod hg7 (fun h => h)).mod hm8 (fun e => by have e' : b2 = p := e; omega)
  refine RL.done ?_
  refine RK.seq ?_
  refine RK.region ?_
  refine RL.q (.free rfl) rfl rfl (Yld.loadN (cs := reqC ⟨#[]⟩ 1) a57 rfl (atN (blkV hB8))) ?_
  refine RL.op' (.free rfl) rfl (Does.storeN i57 rfl rfl rfl rfl hb2' (Nat.le_refl 19)) ?_
  rintro _ w9 ⟨hb9, hm9, hs9⟩
  refine RL.done ?_
  refine RK.ret_of Tryz.func93 (resC (cs := reqC ⟨#[]⟩ 1) rfl rfl a57 hb9) ?_ _
  exact ⟨_, rfl, rfl, h8.mod hm9 (fun e => by have e' : p = b2 := e; omega) (fun b e => by have e' : b = b2 := e; omega), hmod.then hm9 (fun b hb e => by have e' : b = b2 := e; omega)⟩
theorem reqRead0_ok {N : Nat} {w : World} {p : Nat} {ad : Option Addr} {c : Nat} {bs : List UInt8} {i : Nat} (h : Rd N w p ad c bs i true) : Fx Tryz.prog 93 [pp p] w (fun u w' => u = .agg (reqC ⟨#[]⟩ 0).toArray ∧ Rd N w' p ad c bs i true ∧ Mod (· = p) w w') := by
  have hpN := h.pN
  have hplt := h.blk.lt
  refine enter Tryz.func93 rfl rfl rfl _ (Pick.sub (l := [0]) (.cons rfl .nil)) ?_
  refine RK.seq ?_
  refine RK.region ?_
  refine RL.op (.free rfl) rfl rfl (Does.alloc i57) ?_
  rintro _ w2 ⟨b2, rfl, hn2⟩
  have h2 := h.grow hn2.grow
  have ha2 := hn2.at_
  have hz2 := hn2.size
  refine RL.done ?_
  refine RK.seq ?_
  refine RK.region ?_
  refine RL.p rfl rfl ?_
  refine RL.op (.free rfl) rfl rfl (Does.call rfl e95 (byteF_ok h2)) ?_
  rintro _ w3 ⟨rfl, h3, hm3⟩
  have hz3 := hm3.size
  refine RL.q (.free rfl) rfl rfl (Yld.convI Tryz.underlying5 Tryz.underlying3 rfl) ?_
  refine RL.q (.free rfl) rfl rfl (Yld.build (v := .agg (reqC ⟨#[]⟩ 0).toArray) rfl (fun w => by kernel_rfl)) ?_
  refine RL.op (.free rfl) rfl rfl (Does.alloc i57) ?_
  rintro _ w4 ⟨b4, rfl, hn4⟩
  have ha4 := hn4.at_
  have hz4 := hn4.size
  have h4' := h3.grow hn4.grow
  refine RL.op' (.free rfl) rfl (Does.storeN i57 rfl rfl rfl rfl hn4.blk (Nat.le_refl 19)) ?_
  rintro _ w5 ⟨hb5, hm5, hs5⟩
  have hB5 : Blk w5 b4 57 (reqC ⟨#[]⟩ 0) := hb5
  have h5 := h4'.mod hm5 (fun e => by have e' : p = b4 := e; omega) (fun b e => by have e' : b = b4 := e; omega)
  refine RL.done ?_
  refine RK.seq ?_
  refine RK.region ?_
  refine RL.q (.free rfl) rfl rfl (Yld.fieldAddr fo57_1 rfl) ?_
  refine RL.q (.free rfl) rfl rfl (Yld.load p3 rfl (at1 (hB5.cell rfl))) ?_
  refine RL.op (.free rfl) rfl rfl (Does.call rfl e49 (reqFields0_ok _)) ?_
  rintro _ _ ⟨rfl, rfl⟩
  iterate 5 refine RL.p rfl rfl ?_
  refine RL.done ?_
  refine RK.seq ?_
  refine RK.region ?_
  iterate 2 refine RL.p rfl rfl ?_
  refine RL.op (.free rfl) rfl rfl (Does.call rfl e91 (refuseF_ok h5 false (by simp))) ?_
  rintro _ w6 ⟨h6, hm6⟩
  have hB6 := hB5.mod hm6 (fun e => by have e' : b4 = p := e; omega)
  refine RL.done ?_
  iterate 2 refine RK.seq ?_
  refine RK.region ?_
  iterate 3 refine RL.p rfl rfl ?_
  refine RL.done ?_
  refine RK.condF (hcF rfl (by first | rfl | decide)) ?_
  refine RK.skip ?_
  iterate 2 refine RK.seq ?_
  refine RK.region ?_
  iterate 3 refine RL.p rfl rfl ?_
  refine RL.done ?_
  refine RK.condF (hcF rfl (by first | rfl | decide)) ?_
  refine RK.skip ?_
  iterate 2 refine RK.seq ?_
  refine RK.region ?_
  iterate 3 refine RL.p rfl rfl ?_
  refine RL.done ?_
  refine RK.condF (hcF rfl (by first | rfl | decide)) ?_
  refine RK.skip ?_
  iterate 2 refine RK.seq ?_
  refine RK.region ?_
  iterate 3 refine RL.p rfl rfl ?_
  refine RL.done ?_
  refine RK.condF (hcF rfl (by first | rfl | decide)) ?_
  refine RK.skip ?_
  iterate 2 refine RK.seq ?_
  refine RK.region ?_
  iterate 3 refine RL.p rfl rfl ?_
  refine RL.done ?_
  refine RK.condF (hcF rfl (by first | rfl | decide)) ?_
  refine RK.skip ?_
  iterate 2 refine RK.seq ?_
  refine RK.region ?_
  iterate 3 refine RL.p rfl rfl ?_
  refine RL.done ?_
  refine RK.condF (hcF rfl (by first | rfl | decide)) ?_
  refine RK.skip ?_
  iterate 2 refine RK.seq ?_
  refine RK.region ?_
  iterate 3 refine RL.p rfl rfl ?_
  refine RL.done ?_
  refine RK.condF (hcF rfl (by first | rfl | decide)) ?_
  refine RK.skip ?_
  iterate 2 refine RK.seq ?_
  refine RK.region ?_
  iterate 3 refine RL.p rfl rfl ?_
  refine RL.done ?_
  refine RK.condF (hcF rfl (by first | rfl | decide)) ?_
  refine RK.skip ?_
  iterate 2 refine RK.seq ?_
  refine RK.region ?_
  iterate 3 refine RL.p rfl rfl ?_
  refine RL.done ?_
  refine RK.condF (hcF rfl (by first | rfl | decide)) ?_
  refine RK.skip ?_
  refine RK.seq ?_
  refine RK.region ?_
  refine RL.p rfl rfl ?_
  refine RL.q (.free rfl) rfl rfl (Yld.loadN (cs := reqC ⟨#[]⟩ 0) a57 rfl (atN (blkV hB6))) ?_
  refine RL.op (.free rfl) rfl rfl (Does.call rfl e48 (reqMay0_ok _)) ?_
  rintro _ w7 ⟨rfl, hg7⟩
  have hB7 := hB6.mod hg7 (fun h => h)
  refine RL.op (.free rfl) rfl rfl (Does.call rfl e91 (refuseF_ok (h6.grow hg7) false (by simp))) ?_
  rintro _ w8 ⟨h8, hm8⟩
  have hB8 := hB7.mod hm8 (fun e => by have e' : b4 = p := e; omega)
  have hmod : Mod (· = p) w w8 := ((((Mod.any' hn2.grow).trans hm3).trans (Mod.any' hn4.grow)).then hm5 (fun b hb e => by have e' : b = b4 := e; omega)).trans ((hm6.trans (Mod.any' hg7)).trans hm8)
  have hb2' : Blk w8 b2 57 _ := (((((hn2.blk.mod hm3 (fun e => by have e' : b2 = p := e; omega)).mod hn4.grow (fun h => h)).mod hm5 (fun e => by have e' : b2 = b4 := e; omega)).mod hm6 (fun e => by have e' : b2 = p := e; omega)).mod hg7 (fun h => h)).mod hm8 (fun e => by have e' : b2 = p := e; omega)
  refine RL.done ?_
  refine RK.seq ?_
  refine RK.region ?_
  refine RL.q (.free rfl) rfl rfl (Yld.loadN (cs := reqC ⟨#[]⟩ 0) a57 rfl (atN (blkV hB8))) ?_
  refine RL.op' (.free rfl) rfl (Does.storeN i57 rfl rfl rfl rfl hb2' (Nat.le_refl 19)) ?_
  rintro _ w9 ⟨hb9, hm9, hs9⟩
  refine RL.done ?_
  refine RK.ret_of Tryz.func93 (resC (cs := reqC ⟨#[]⟩ 0) rfl rfl a57 hb9) ?_ _
  exact ⟨_, rfl, rfl, h8.mod hm9 (fun e => by have e' : p = b2 := e; omega) (fun b e => by have e' : b = b2 := e; omega), hmod.then hm9 (fun b hb e => by have e' : b = b2 := e; omega)⟩
end Go.Proofs.YtghcdngegadkaaaGreat
set_option linter.unusedVariables false
set_option linter.unusedSimpArgs false
set_option maxHeartbeats 6400000
set_option maxRecDepth 100000
namespace Go.Proofs.YtghcdngegadkaaaGreat
open Go Go.X
theorem Yld.eqK {P : Program} {n : Nat} {e : Env} {C : World → Prop} {d : Option Tmp} {t : Nat} {x y : Operand} {t' ty : TypeId} {pos : String} {af : Array Edge} {g : Option (Nat × Bool)} {vx vy v : Value} (hx : ev e x = some vx) (hy : ev e y = some vy) (hr : ∀ w, ((do eqGuard .eql t x y vx vy; binOp .eql t vx vy) : Sem Value).run P w = .ok v w) : Yld P n C e ⟨d, .binOp .eql t x y t', ty, pos, af, g⟩ v := by
  intro a ha w _
  have h := hr w
  simp only [Sem.run_bind] at h
  simp only [execOp, ha.ev hx, ha.ev hy, Sem.run_bind]
  rw [h]
  simp
@[reducible] def head0 : List Value := [.int .u8 0, .int .u8 0, .int .u8 0, .int .u8 0, .int .u8 0, .int .u8 0, .int .u8 0, .int .u8 0, .int .u8 0, .int .u8 0, .int .u8 0, .int .u8 0, .int .u8 0, .int .u8 0, .int .u8 0, .int .u8 0, .int .u8 0, .int .u8 0, .int .u8 0, .int .u8 0, .int .u8 0, .int .u8 0, .int .u8 0, .int .u8 0, .int .u8 0, .int .u8 0, .int .u8 0, .int .u8 0, .int .u8 0, .int .u8 0, .int .u8 0, .int .u8 0]
@[reducible] def respC (code op id now : Int) : List Value := [.int .i64 code, .int .i64 op, .int .i64 id, .slice none 0 0, .slice none 0 0, .slice none 0 0, .slice none 0 0, .int .u8 0, .int .u8 0, .int .u8 0, .int .u8 0, .int .u8 0, .int .u8 0, .int .u8 0, .int .u8 0, .int .u8 0, .int .u8 0, .int .u8 0, .int .u8 0, .int .u8 0, .int .u8 0, .int .u8 0, .int .u8 0, .int .u8 0, .int .u8 0, .int .u8 0, .int .u8 0, .int .u8 0, .int .u8 0, .int .u8 0, .int .u8 0, .int .u8 0, .int .u8 0, .int .u8 0, .int .u8 0, .int .u8 0, .int .u8 0, .int .u8 0, .int .u8 0, .int .u64 now]
theorem rowsIs0_ok (w : World) : Fx Tryz.prog 169 [.slice none 0 0] w (fun u w' => u = .bool true ∧ w = w') := by
  refine enter Tryz.func169 rfl rfl rfl _ (Pick.sub (l := [0]) (.cons rfl .nil)) ?_
  refine RK.seq ?_
  refine RK.region ?_
  refine RL.p rfl rfl ?_
  refine RL.done ?_
  iterate 2 refine RK.seq ?_
  refine RK.region ?_
  refine RL.p rfl rfl ?_
  refine RL.done ?_
  refine RK.block ?_
  refine RK.loop (fun s : Unit => [(0, .slice none 0 0), (3, .int .i64 1)]) (fun s w' => w = w') (fun s => 0) () ⟨rfl, rfl, trivial⟩ rfl (fun s w' hI ih => ?_)
  subst hI
  iterate 2 refine RK.seq ?_
  refine RK.region ?_
  iterate 2 refine RL.p rfl rfl ?_
  refine RL.q (.free rfl) rfl rfl (Yld.lenSl u33 rfl) ?_
  refine RL.p rfl rfl ?_
  refine RL.done ?_
  refine RK.condF (hcF rfl (rfl)) ?_
  refine RK.exit rfl ?_
  refine RK.seq ?_
  refine RK.region ?_
  refine RL.p rfl rfl ?_
  refine RL.done ?_
  refine RK.ret_of Tryz.func169 (res1 rfl rfl) ?_ _
  exact ⟨_, rfl, rfl, rfl⟩
theorem ixFuncI0_ok (f : Value) (w : World) : Fx Tryz.prog 186 [.slice none 0 0, f] w (fun u w' => u = .int .i64 (-1) ∧ w = w') := by
  refine enter Tryz.func186 rfl rfl rfl _ (Pick.sub (l := [0, 1]) (.cons rfl (.cons rfl .nil))) ?_
  refine RK.seq ?_
  refine RK.region ?_
  refine RL.p rfl rfl ?_
  refine RL.done ?_
  iterate 2 refine RK.seq ?_
  refine RK.region ?_
  refine RL.p rfl rfl ?_
  refine RL.q (.free rfl) rfl rfl (Yld.lenSl u33 rfl) ?_
  refine RL.p rfl rfl ?_
  refine RL.done ?_
  refine RK.block ?_
  refine RK.loop (fun s : Unit => [(7, .int .i64 0), (8, .int .i64 0)]) (fun s w' => w = w') (fun s => 0) () ⟨rfl, rfl, trivial⟩ rfl (fun s w' hI ih => ?_)
  subst hI
  refine RK.seq ?_
  refine RK.region ?_
  refine RL.p rfl rfl ?_
  refine RL.done ?_
  refine RK.seq ?_
  refine RK.condF (hcF rfl (rfl)) ?_
  refine RK.exit rfl ?_
  refine RK.seq ?_
  refine RK.region ?_
  refine RL.p rfl rfl ?_
  refine RL.done ?_
  refine RK.ret_of Tryz.func186 (res1 rfl rfl) ?_ _
  exact ⟨_, rfl, rfl, rfl⟩
theorem conFuncI0_ok (f : Value) (w : World) : Fx Tryz.prog 167 [.slice none 0 0, f] w (fun u w' => u = .bool false ∧ w = w') := by
  refine enter Tryz.func167 rfl rfl rfl _ (Pick.sub (l := [0, 1]) (.cons rfl (.cons rfl .nil))) ?_
  refine RK.seq ?_
  refine RK.region ?_
  refine RL.p rfl rfl ?_
  refine RL.done ?_
  refine RK.seq ?_
  refine RK.region ?_
  iterate 2 refine RL.p rfl rfl ?_
  refine RL.op (.free rfl) rfl rfl (Does.call rfl e186 (ixFuncI0_ok f _)) ?_
  rintro _ _ ⟨rfl, rfl⟩
  iterate 2 refine RL.p rfl rfl ?_
  refine RL.done ?_
  refine RK.ret_of Tryz.func167 (res1 rfl rfl) ?_ _
  exact ⟨_, rfl, rfl, rfl⟩
theorem numbers0_ok (most : Nat) (r : Bool) (w : World) : Fx Tryz.prog 137 [.slice none 0 0, .int .i64 (most : Int), .bool r] w (fun u w' => u = .bool true ∧ w = w') := by
  refine enter Tryz.func137 rfl rfl rfl _ (Pick.sub (l := [0, 1, 2]) (.cons rfl (.cons rfl (.cons rfl .nil)))) ?_
  refine RK.seq ?_
  refine RK.region ?_
  refine RL.p rfl rfl ?_
  refine RL.done ?_
  iterate 2 refine RK.seq ?_
  refine RK.region ?_
  refine RL.p rfl rfl ?_
  refine RL.op (.free rfl) rfl rfl (Does.call rfl e167 (conFuncI0_ok _ _)) ?_
  rintro _ _ ⟨rfl, rfl⟩
  refine RL.p rfl rfl ?_
  refine RL.knownF (d := 9) rfl rfl (rfl) ?_
  refine RL.q (.yes rfl rfl rfl) rfl rfl (Yld.pure rfl) ?_
  refine RL.q (.yes rfl rfl rfl) rfl rfl (Yld.lenSl u33 rfl) ?_
  iterate 2 refine RL.q (.yes rfl rfl rfl) rfl rfl (Yld.pure rfl) ?_
  refine RL.p rfl rfl ?_
  refine RL.done ?_
  refine RK.condF (hcF rfl (decide_eq_false (by omega))) ?_
  refine RK.skip ?_
  refine RK.seq ?_
  refine RK.region ?_
  refine RL.p rfl rfl ?_
  refine RL.op (.free rfl) rfl rfl (Does.call rfl e169 (rowsIs0_ok _)) ?_
  rintro _ _ ⟨rfl, rfl⟩
  refine RL.p rfl rfl ?_
  refine RL.knownT (d := 17) rfl rfl (rfl) ?_
  iterate 10 refine RL.no (.no rfl rfl rfl rfl) rfl rfl ?_
  iterate 2 refine RL.p rfl rfl ?_
  refine RL.done ?_
  refine RK.ret_of Tryz.func137 (res1 rfl rfl) ?_ _
  exact ⟨_, rfl, rfl, rfl⟩
theorem silences0_ok (w : World) : Fx Tryz.prog 138 [.slice none 0 0] w (fun u w' => u = .bool true ∧ w = w') := by
  refine enter Tryz.func138 rfl rfl rfl _ (Pick.sub (l := [0]) (.cons rfl .nil)) ?_
  refine RK.seq ?_
  refine RK.region ?_
  refine RL.p rfl rfl ?_
  refine RL.done ?_
  iterate 2 refine RK.seq ?_
  refine RK.region ?_
  refine RL.p rfl rfl ?_
  refine RL.q (.free rfl) rfl rfl (Yld.lenSl u59 rfl) ?_
  refine RL.p rfl rfl ?_
  refine RL.done ?_
  refine RK.condF (hcF rfl (rfl)) ?_
  refine RK.skip ?_
  iterate 2 refine RK.seq ?_
  refine RK.region ?_
  refine RL.p rfl rfl ?_
  refine RL.q (.free rfl) rfl rfl (Yld.lenSl u59 rfl) ?_
  refine RL.p rfl rfl ?_
  refine RL.done ?_
  refine RK.block ?_
  refine RK.loop (fun s : Unit => [(9, .int .i64 0), (10, .int .i64 0)]) (fun s w' => w = w') (fun s => 0) () ⟨rfl, rfl, trivial⟩ rfl (fun s w' hI ih => ?_)
  subst hI
  refine RK.seq ?_
  refine RK.region ?_
  refine RL.p rfl rfl ?_
  refine RL.done ?_
  refine RK.seq ?_
  refine RK.condF (hcF rfl (rfl)) ?_
  refine RK.exit rfl ?_
  refine RK.seq ?_
  refine RK.region ?_
  refine RL.p rfl rfl ?_
  refine RL.done ?_
  refine RK.ret_of Tryz.func138 (res1 rfl rfl) ?_ _
  exact ⟨_, rfl, rfl, rfl⟩
theorem number1_ok (w : World) : Fx Tryz.prog 136 [.int .i64 1] w (fun u w' => u = .bool true ∧ w = w') := by
  refine enter Tryz.func136 rfl rfl rfl _ (Pick.sub (l := [0]) (.cons rfl .nil)) ?_
  refine RK.seq ?_
  refine RK.region ?_
  refine RL.p rfl rfl ?_
  refine RL.done ?_
  refine RK.seq ?_
  refine RK.region ?_
  iterate 3 refine RL.p rfl rfl ?_
  refine RL.knownT (d := 5) rfl rfl (rfl) ?_
  iterate 2 refine RL.q (.yes rfl rfl rfl) rfl rfl (Yld.pure rfl) ?_
  iterate 2 refine RL.p rfl rfl ?_
  refine RL.done ?_
  refine RK.ret_of Tryz.func136 (res1 rfl rfl) ?_ _
  exact ⟨_, rfl, rfl, rfl⟩
theorem rFields0_ok (w : World) : Fx Tryz.prog 131 [.int .i64 0] w (fun u w' => u = .tuple #[.int .i64 1, .bool true] ∧ w = w') := by
  refine enter Tryz.func131 rfl rfl rfl _ (Pick.sub (l := [0]) (.cons rfl .nil)) ?_
  refine RK.seq ?_
  refine RK.region ?_
  iterate 2 refine RL.p rfl rfl ?_
  refine RL.done ?_
  iterate 2 refine RK.seq ?_
  refine RK.region ?_
  refine RL.p rfl rfl ?_
  refine RL.done ?_
  refine RK.block ?_
  refine RK.seq ?_
  refine RK.region ?_
  iterate 2 refine RL.p rfl rfl ?_
  refine RL.done ?_
  refine RK.condT (hcT rfl (rfl)) ?_
  refine RK.seq ?_
  refine RK.region ?_
  iterate 2 refine RL.p rfl rfl ?_
  refine RL.done ?_
  refine RK.ret_of Tryz.func131 (res2 rfl rfl rfl) ?_ _
  exact ⟨_, rfl, rfl, rfl⟩
theorem rFields1_ok (w : World) : Fx Tryz.prog 131 [.int .i64 1] w (fun u w' => u = .tuple #[.int .i64 2, .bool true] ∧ w = w') := by
  refine enter Tryz.func131 rfl rfl rfl _ (Pick.sub (l := [0]) (.cons rfl .nil)) ?_
  refine RK.seq ?_
  refine RK.region ?_
  iterate 2 refine RL.p rfl rfl ?_
  refine RL.done ?_
  iterate 2 refine RK.seq ?_
  refine RK.region ?_
  refine RL.p rfl rfl ?_
  refine RL.done ?_
  refine RK.block ?_
  refine RK.seq ?_
  refine RK.region ?_
  iterate 2 refine RL.p rfl rfl ?_
  refine RL.done ?_
  refine RK.condF (hcF rfl (rfl)) ?_
  iterate 2 refine RK.seq ?_
  refine RK.region ?_
  iterate 2 refine RL.p rfl rfl ?_
  refine RL.done ?_
  refine RK.condT (hcT rfl (rfl)) ?_
  refine RK.skip ?_
  refine RK.condT (hcT rfl (rfl)) ?_
  refine RK.seq ?_
  refine RK.region ?_
  iterate 2 refine RL.p rfl rfl ?_
  refine RL.done ?_
  refine RK.ret_of Tryz.func131 (res2 rfl rfl rfl) ?_ _
  exact ⟨_, rfl, rfl, rfl⟩
theorem rZeroE_ok (w : World) : Fx Tryz.prog 135 [.agg (respC 1 0 0 0).toArray, .int .i64 0] w (fun u w' => u = .bool true ∧ Grow w w') := by
  refine enter Tryz.func135 rfl rfl rfl _ (Pick.sub (l := [0, 1]) (.cons rfl (.cons rfl .nil))) ?_
  refine RK.seq ?_
  refine RK.region ?_
  refine RL.op (.free rfl) rfl rfl (Does.box rfl) ?_
  rintro _ w1 ⟨b1, rfl, hn1⟩
  have hB : Blk w1 b1 62 (respC 1 0 0 0) := hn1.blk
  refine RL.p rfl rfl ?_
  refine RL.done ?_
  refine RK.seq ?_
  refine RK.region ?_
  iterate 4 refine RL.p rfl rfl ?_
  refine RL.knownF (d := 8) rfl rfl (by first | rfl | decide) ?_
  refine RL.q (.yes rfl rfl rfl) rfl rfl (Yld.fieldAddr fo62_8 rfl) ?_
  refine RL.q (.yes rfl rfl rfl) rfl rfl (Yld.load p22 rfl (at1 (hB.cell rfl))) ?_
  refine RL.q (.yes rfl rfl rfl) rfl rfl (Yld.pure rfl) ?_
  iterate 2 refine RL.p rfl rfl ?_
  refine RL.knownT (d := 13) rfl rfl (by first | rfl | decide) ?_
  iterate 4 refine RL.q (.yes rfl rfl rfl) rfl rfl (Yld.pure rfl) ?_
  refine RL.knownF (d := 17) rfl rfl (by first | rfl | decide) ?_
  refine RL.q (.yes rfl rfl rfl) rfl rfl (Yld.fieldAddr fo62_2 rfl) ?_
  refine RL.q (.yes rfl rfl rfl) rfl rfl (Yld.load p3 rfl (at1 (hB.cell rfl))) ?_
  iterate 2 refine RL.q (.yes rfl rfl rfl) rfl rfl (Yld.pure rfl) ?_
  iterate 2 refine RL.p rfl rfl ?_
  refine RL.knownT (d := 23) rfl rfl (by first | rfl | decide) ?_
  iterate 4 refine RL.q (.yes rfl rfl rfl) rfl rfl (Yld.pure rfl) ?_
  refine RL.knownF (d := 27) rfl rfl (by first | rfl | decide) ?_
  refine RL.q (.yes rfl rfl rfl) rfl rfl (Yld.fieldAddr fo62_3 rfl) ?_
  refine RL.q (.yes rfl rfl rfl) rfl rfl (Yld.load p33 rfl (at1 (hB.cell rfl))) ?_
  refine RL.q (.yes rfl rfl rfl) rfl rfl (Yld.lenSl u33 rfl) ?_
  iterate 2 refine RL.q (.yes rfl rfl rfl) rfl rfl (Yld.pure rfl) ?_
  iterate 2 refine RL.p rfl rfl ?_
  refine RL.knownT (d := 34) rfl rfl (by first | rfl | decide) ?_
  iterate 4 refine RL.q (.yes rfl rfl rfl) rfl rfl (Yld.pure rfl) ?_
  refine RL.knownF (d := 38) rfl rfl (by first | rfl | decide) ?_
  refine RL.q (.yes rfl rfl rfl) rfl rfl (Yld.fieldAddr fo62_4 rfl) ?_
  refine RL.q (.yes rfl rfl rfl) rfl rfl (Yld.load p33 rfl (at1 (hB.cell rfl))) ?_
  refine RL.q (.yes rfl rfl rfl) rfl rfl (Yld.lenSl u33 rfl) ?_
  iterate 2 refine RL.q (.yes rfl rfl rfl) rfl rfl (Yld.pure rfl) ?_
  iterate 2 refine RL.p rfl rfl ?_
  refine RL.knownT (d := 45) rfl rfl (by first | rfl | decide) ?_
  iterate 4 refine RL.q (.yes rfl rfl rfl) rfl rfl (Yld.pure rfl) ?_
  refine RL.knownF (d := 49) rfl rfl (by first | rfl | decide) ?_
  refine RL.q (.yes rfl rfl rfl) rfl rfl (Yld.fieldAddr fo62_5 rfl) ?_
  refine RL.q (.yes rfl rfl rfl) rfl rfl (Yld.load p59 rfl (at1 (hB.cell rfl))) ?_
  refine RL.q (.yes rfl rfl rfl) rfl rfl (Yld.lenSl u59 rfl) ?_
  iterate 2 refine RL.q (.yes rfl rfl rfl) rfl rfl (Yld.pure rfl) ?_
  iterate 2 refine RL.p rfl rfl ?_
  refine RL.knownT (d := 56) rfl rfl (by first | rfl | decide) ?_
  iterate 4 refine RL.q (.yes rfl rfl rfl) rfl rfl (Yld.pure rfl) ?_
  refine RL.knownF (d := 60) rfl rfl (by first | rfl | decide) ?_
  refine RL.q (.yes rfl rfl rfl) rfl rfl (Yld.fieldAddr fo62_6 rfl) ?_
  refine RL.q (.yes rfl rfl rfl) rfl rfl (Yld.load p25 rfl (at1 (hB.cell rfl))) ?_
  refine RL.q (.yes rfl rfl rfl) rfl rfl (Yld.lenSl u25 rfl) ?_
  iterate 2 refine RL.q (.yes rfl rfl rfl) rfl rfl (Yld.pure rfl) ?_
  iterate 2 refine RL.p rfl rfl ?_
  refine RL.knownT (d := 67) rfl rfl (by first | rfl | decide) ?_
  iterate 4 refine RL.q (.yes rfl rfl rfl) rfl rfl (Yld.pure rfl) ?_
  refine RL.knownF (d := 71) rfl rfl (by first | rfl | decide) ?_
  refine RL.q (.yes rfl rfl rfl) rfl rfl (Yld.fieldAddr fo62_7 rfl) ?_
  refine RL.q (.yes rfl rfl rfl) rfl rfl (Yld.loadN (cs := head0) a60 rfl (atN (fldV hB 7 32))) ?_
  refine RL.q (.yes rfl rfl rfl) rfl rfl (Yld.build (v := .agg head0.toArray) rfl (fun w => by kernel_rfl)) ?_
  refine RL.q (.yes rfl rfl rfl) rfl rfl (Yld.eqK (v := .bool true) rfl rfl (fun w => by kernel_rfl)) ?_
  refine RL.q (.yes rfl rfl rfl) rfl rfl (Yld.pure rfl) ?_
  iterate 2 refine RL.p rfl rfl ?_
  refine RL.done ?_
  refine RK.ret_of Tryz.func135 (res1 rfl rfl) ?_ _
  exact ⟨_, rfl, rfl, hn1.grow⟩
theorem rZeroN_ok (w : World) : Fx Tryz.prog 135 [.agg (respC 0 0 0 5).toArray, .int .i64 1] w (fun u w' => u = .bool true ∧ Grow w w') := by
  refine enter Tryz.func135 rfl rfl rfl _ (Pick.sub (l := [0, 1]) (.cons rfl (.cons rfl .nil))) ?_
  refine RK.seq ?_
  refine RK.region ?_
  refine RL.op (.free rfl) rfl rfl (Does.box rfl) ?_
  rintro _ w1 ⟨b1, rfl, hn1⟩
  have hB : Blk w1 b1 62 (respC 0 0 0 5) := hn1.blk
  refine RL.p rfl rfl ?_
  refine RL.done ?_
  refine RK.seq ?_
  refine RK.region ?_
  iterate 4 refine RL.p rfl rfl ?_
  refine RL.knownT (d := 8) rfl rfl (by first | rfl | decide) ?_
  iterate 3 refine RL.no (.no rfl rfl rfl rfl) rfl rfl ?_
  iterate 2 refine RL.p rfl rfl ?_
  iterate 4 refine RL.q (.yes rfl rfl rfl) rfl rfl (Yld.pure rfl) ?_
  refine RL.knownF (d := 17) rfl rfl (by first | rfl | decide) ?_
  refine RL.q (.yes rfl rfl rfl) rfl rfl (Yld.fieldAddr fo62_2 rfl) ?_
  refine RL.q (.yes rfl rfl rfl) rfl rfl (Yld.load p3 rfl (at1 (hB.cell rfl))) ?_
  iterate 2 refine RL.q (.yes rfl rfl rfl) rfl rfl (Yld.pure rfl) ?_
  iterate 2 refine RL.p rfl rfl ?_
  refine RL.knownT (d := 23) rfl rfl (by first | rfl | decide) ?_
  iterate 4 refine RL.q (.yes rfl rfl rfl) rfl rfl (Yld.pure rfl) ?_
  refine RL.knownF (d := 27) rfl rfl (by first | rfl | decide) ?_
  refine RL.q (.yes rfl rfl rfl) rfl rfl (Yld.fieldAddr fo62_3 rfl) ?_
  refine RL.q (.yes rfl rfl rfl) rfl rfl (Yld.load p33 rfl (at1 (hB.cell rfl))) ?_
  refine RL.q (.yes rfl rfl rfl) rfl rfl (Yld.lenSl u33 rfl) ?_
  iterate 2 refine RL.q (.yes rfl rfl rfl) rfl rfl (Yld.pure rfl) ?_
  iterate 2 refine RL.p rfl rfl ?_
  refine RL.knownT (d := 34) rfl rfl (by first | rfl | decide) ?_
  iterate 4 refine RL.q (.yes rfl rfl rfl) rfl rfl (Yld.pure rfl) ?_
  refine RL.knownF (d := 38) rfl rfl (by first | rfl | decide) ?_
  refine RL.q (.yes rfl rfl rfl) rfl rfl (Yld.fieldAddr fo62_4 rfl) ?_
  refine RL.q (.yes rfl rfl rfl) rfl rfl (Yld.load p33 rfl (at1 (hB.cell rfl))) ?_
  refine RL.q (.yes rfl rfl rfl) rfl rfl (Yld.lenSl u33 rfl) ?_
  iterate 2 refine RL.q (.yes rfl rfl rfl) rfl rfl (Yld.pure rfl) ?_
  iterate 2 refine RL.p rfl rfl ?_
  refine RL.knownT (d := 45) rfl rfl (by first | rfl | decide) ?_
  iterate 4 refine RL.q (.yes rfl rfl rfl) rfl rfl (Yld.pure rfl) ?_
  refine RL.knownF (d := 49) rfl rfl (by first | rfl | decide) ?_
  refine RL.q (.yes rfl rfl rfl) rfl rfl (Yld.fieldAddr fo62_5 rfl) ?_
  refine RL.q (.yes rfl rfl rfl) rfl rfl (Yld.load p59 rfl (at1 (hB.cell rfl))) ?_
  refine RL.q (.yes rfl rfl rfl) rfl rfl (Yld.lenSl u59 rfl) ?_
  iterate 2 refine RL.q (.yes rfl rfl rfl) rfl rfl (Yld.pure rfl) ?_
  iterate 2 refine RL.p rfl rfl ?_
  refine RL.knownT (d := 56) rfl rfl (by first | rfl | decide) ?_
  iterate 4 refine RL.q (.yes rfl rfl rfl) rfl rfl (Yld.pure rfl) ?_
  refine RL.knownF (d := 60) rfl rfl (by first | rfl | decide) ?_
  refine RL.q (.yes rfl rfl rfl) rfl rfl (Yld.fieldAddr fo62_6 rfl) ?_
  refine RL.q (.yes rfl rfl rfl) rfl rfl (Yld.load p25 rfl (at1 (hB.cell rfl))) ?_
  refine RL.q (.yes rfl rfl rfl) rfl rfl (Yld.lenSl u25 rfl) ?_
  iterate 2 refine RL.q (.yes rfl rfl rfl) rfl rfl (Yld.pure rfl) ?_
  iterate 2 refine RL.p rfl rfl ?_
  refine RL.knownT (d := 67) rfl rfl (by first | rfl | decide) ?_
  iterate 4 refine RL.q (.yes rfl rfl rfl) rfl rfl (Yld.pure rfl) ?_
  refine RL.knownF (d := 71) rfl rfl (by first | rfl | decide) ?_
  refine RL.q (.yes rfl rfl rfl) rfl rfl (Yld.fieldAddr fo62_7 rfl) ?_
  refine RL.q (.yes rfl rfl rfl) rfl rfl (Yld.loadN (cs := head0) a60 rfl (atN (fldV hB 7 32))) ?_
  refine RL.q (.yes rfl rfl rfl) rfl rfl (Yld.build (v := .agg head0.toArray) rfl (fun w => by kernel_rfl)) ?_
  refine RL.q (.yes rfl rfl rfl) rfl rfl (Yld.eqK (v := .bool true) rfl rfl (fun w => by kernel_rfl)) ?_
  refine RL.q (.yes rfl rfl rfl) rfl rfl (Yld.pure rfl) ?_
  iterate 2 refine RL.p rfl rfl ?_
  refine RL.done ?_
  refine RK.ret_of Tryz.func135 (res1 rfl rfl) ?_ _
  exact ⟨_, rfl, rfl, hn1.grow⟩
theorem rZeroI_ok (w : World) : Fx Tryz.prog 135 [.agg (respC 0 1 1 0).toArray, .int .i64 2] w (fun u w' => u = .bool true ∧ Grow w w') := by
  refine enter Tryz.func135 rfl rfl rfl _ (Pick.sub (l := [0, 1]) (.cons rfl (.cons rfl .nil))) ?_
  refine RK.seq ?_
  refine RK.region ?_
  refine RL.op (.free rfl) rfl rfl (Does.box rfl) ?_
  rintro _ w1 ⟨b1, rfl, hn1⟩
  have hB : Blk w1 b1 62 (respC 0 1 1 0) := hn1.blk
  refine RL.p rfl rfl ?_
  refine RL.done ?_
  refine RK.seq ?_
  refine RK.region ?_
  iterate 4 refine RL.p rfl rfl ?_
  refine RL.knownF (d := 8) rfl rfl (by first | rfl | decide) ?_
  refine RL.q (.yes rfl rfl rfl) rfl rfl (Yld.fieldAddr fo62_8 rfl) ?_
  refine RL.q (.yes rfl rfl rfl) rfl rfl (Yld.load p22 rfl (at1 (hB.cell rfl))) ?_
  refine RL.q (.yes rfl rfl rfl) rfl rfl (Yld.pure rfl) ?_
  iterate 2 refine RL.p rfl rfl ?_
  refine RL.knownT (d := 13) rfl rfl (by first | rfl | decide) ?_
  iterate 4 refine RL.q (.yes rfl rfl rfl) rfl rfl (Yld.pure rfl) ?_
  refine RL.knownT (d := 17) rfl rfl (by first | rfl | decide) ?_
  iterate 3 refine RL.no (.no rfl rfl rfl rfl) rfl rfl ?_
  refine RL.q (.yes rfl rfl rfl) rfl rfl (Yld.pure rfl) ?_
  iterate 2 refine RL.p rfl rfl ?_
  iterate 4 refine RL.q (.yes rfl rfl rfl) rfl rfl (Yld.pure rfl) ?_
  refine RL.knownF (d := 27) rfl rfl (by first | rfl | decide) ?_
  refine RL.q (.yes rfl rfl rfl) rfl rfl (Yld.fieldAddr fo62_3 rfl) ?_
  refine RL.q (.yes rfl rfl rfl) rfl rfl (Yld.load p33 rfl (at1 (hB.cell rfl))) ?_
  refine RL.q (.yes rfl rfl rfl) rfl rfl (Yld.lenSl u33 rfl) ?_
  iterate 2 refine RL.q (.yes rfl rfl rfl) rfl rfl (Yld.pure rfl) ?_
  iterate 2 refine RL.p rfl rfl ?_
  refine RL.knownT (d := 34) rfl rfl (by first | rfl | decide) ?_
  iterate 4 refine RL.q (.yes rfl rfl rfl) rfl rfl (Yld.pure rfl) ?_
  refine RL.knownF (d := 38) rfl rfl (by first | rfl | decide) ?_
  refine RL.q (.yes rfl rfl rfl) rfl rfl (Yld.fieldAddr fo62_4 rfl) ?_
  refine RL.q (.yes rfl rfl rfl) rfl rfl (Yld.load p33 rfl (at1 (hB.cell rfl))) ?_
  refine RL.q (.yes rfl rfl rfl) rfl rfl (Yld.lenSl u33 rfl) ?_
  iterate 2 refine RL.q (.yes rfl rfl rfl) rfl rfl (Yld.pure rfl) ?_
  iterate 2 refine RL.p rfl rfl ?_
  refine RL.knownT (d := 45) rfl rfl (by first | rfl | decide) ?_
  iterate 4 refine RL.q (.yes rfl rfl rfl) rfl rfl (Yld.pure rfl) ?_
  refine RL.knownF (d := 49) rfl rfl (by first | rfl | decide) ?_
  refine RL.q (.yes rfl rfl rfl) rfl rfl (Yld.fieldAddr fo62_5 rfl) ?_
  refine RL.q (.yes rfl rfl rfl) rfl rfl (Yld.load p59 rfl (at1 (hB.cell rfl))) ?_
  refine RL.q (.yes rfl rfl rfl) rfl rfl (Yld.lenSl u59 rfl) ?_
  iterate 2 refine RL.q (.yes rfl rfl rfl) rfl rfl (Yld.pure rfl) ?_
  iterate 2 refine RL.p rfl rfl ?_
  refine RL.knownT (d := 56) rfl rfl (by first | rfl | decide) ?_
  iterate 4 refine RL.q (.yes rfl rfl rfl) rfl rfl (Yld.pure rfl) ?_
  refine RL.knownF (d := 60) rfl rfl (by first | rfl | decide) ?_
  refine RL.q (.yes rfl rfl rfl) rfl rfl (Yld.fieldAddr fo62_6 rfl) ?_
  refine RL.q (.yes rfl rfl rfl) rfl rfl (Yld.load p25 rfl (at1 (hB.cell rfl))) ?_
  refine RL.q (.yes rfl rfl rfl) rfl rfl (Yld.lenSl u25 rfl) ?_
  iterate 2 refine RL.q (.yes rfl rfl rfl) rfl rfl (Yld.pure rfl) ?_
  iterate 2 refine RL.p rfl rfl ?_
  refine RL.knownT (d := 67) rfl rfl (by first | rfl | decide) ?_
  iterate 4 refine RL.q (.yes rfl rfl rfl) rfl rfl (Yld.pure rfl) ?_
  refine RL.knownF (d := 71) rfl rfl (by first | rfl | decide) ?_
  refine RL.q (.yes rfl rfl rfl) rfl rfl (Yld.fieldAddr fo62_7 rfl) ?_
  refine RL.q (.yes rfl rfl rfl) rfl rfl (Yld.loadN (cs := head0) a60 rfl (atN (fldV hB 7 32))) ?_
  refine RL.q (.yes rfl rfl rfl) rfl rfl (Yld.build (v := .agg head0.toArray) rfl (fun w => by kernel_rfl)) ?_
  refine RL.q (.yes rfl rfl rfl) rfl rfl (Yld.eqK (v := .bool true) rfl rfl (fun w => by kernel_rfl)) ?_
  refine RL.q (.yes rfl rfl rfl) rfl rfl (Yld.pure rfl) ?_
  iterate 2 refine RL.p rfl rfl ?_
  refine RL.done ?_
  refine RK.ret_of Tryz.func135 (res1 rfl rfl) ?_ _
  exact ⟨_, rfl, rfl, hn1.grow⟩
theorem rIsE_ok (w : World) : Fx Tryz.prog 98 [.agg (respC 1 0 0 0).toArray] w (fun u w' => u = .bool true ∧ Grow w w') := by
  refine enter Tryz.func98 rfl rfl rfl _ (Pick.sub (l := [0]) (.cons rfl .nil)) ?_
  refine RK.seq ?_
  refine RK.region ?_
  refine RL.op (.free rfl) rfl rfl (Does.box rfl) ?_
  rintro _ w1 ⟨b1, rfl, hn1⟩
  have hB : Blk w1 b1 62 (respC 1 0 0 0) := hn1.blk
  refine RL.p rfl rfl ?_
  refine RL.done ?_
  iterate 2 refine RK.seq ?_
  refine RK.region ?_
  refine RL.q (.free rfl) rfl rfl (Yld.fieldAddr fo62_0 rfl) ?_
  refine RL.q (.free rfl) rfl rfl (Yld.load p58 rfl (at1 (hB.cell rfl))) ?_
  refine RL.p rfl rfl ?_
  refine RL.done ?_
  refine RK.condT (hcT rfl (rfl)) ?_
  refine RK.seq ?_
  refine RK.region ?_
  refine RL.q (.free rfl) rfl rfl (Yld.fieldAddr fo62_0 rfl) ?_
  refine RL.q (.free rfl) rfl rfl (Yld.load p58 rfl (at1 (hB.cell rfl))) ?_
  iterate 2 refine RL.p rfl rfl ?_
  refine RL.knownT (d := 12) rfl rfl (by first | rfl | decide) ?_
  refine RL.q (.yes rfl rfl rfl) rfl rfl (Yld.fieldAddr fo62_0 rfl) ?_
  refine RL.q (.yes rfl rfl rfl) rfl rfl (Yld.load p58 rfl (at1 (hB.cell rfl))) ?_
  refine RL.q (.yes rfl rfl rfl) rfl rfl (Yld.pure rfl) ?_
  iterate 2 refine RL.p rfl rfl ?_
  refine RL.knownT (d := 17) rfl rfl (by first | rfl | decide) ?_
  refine RL.q (.yes rfl rfl rfl) rfl rfl (Yld.fieldAddr fo62_1 rfl) ?_
  refine RL.q (.yes rfl rfl rfl) rfl rfl (Yld.load p3 rfl (at1 (hB.cell rfl))) ?_
  refine RL.q (.yes rfl rfl rfl) rfl rfl (Yld.pure rfl) ?_
  iterate 2 refine RL.p rfl rfl ?_
  refine RL.knownT (d := 22) rfl rfl (by first | rfl | decide) ?_
  refine RL.q (.yes rfl rfl rfl) rfl rfl (Yld.loadN (cs := respC 1 0 0 0) a62 rfl (atN (blkV hB))) ?_
  refine RL.op (.yes rfl rfl rfl) rfl rfl (Does.call rfl e135 (rZeroE_ok _)) ?_
  rintro _ w2 ⟨rfl, hg2⟩
  iterate 2 refine RL.p rfl rfl ?_
  refine RL.done ?_
  refine RK.ret_of Tryz.func98 (res1 rfl rfl) ?_ _
  exact ⟨_, rfl, rfl, hn1.grow.trans hg2⟩
theorem rIsN_ok (w : World) : Fx Tryz.prog 98 [.agg (respC 0 0 0 5).toArray] w (fun u w' => u = .bool true ∧ Grow w w') := by
  refine enter Tryz.func98 rfl rfl rfl _ (Pick.sub (l := [0]) (.cons rfl .nil)) ?_
  refine RK.seq ?_
  refine RK.region ?_
  refine RL.op (.free rfl) rfl rfl (Does.box rfl) ?_
  rintro _ w1 ⟨b1, rfl, hn1⟩
  have hB : Blk w1 b1 62 (respC 0 0 0 5) := hn1.blk
  refine RL.p rfl rfl ?_
  refine RL.done ?_
  iterate 2 refine RK.seq ?_
  refine RK.region ?_
  refine RL.q (.free rfl) rfl rfl (Yld.fieldAddr fo62_0 rfl) ?_
  refine RL.q (.free rfl) rfl rfl (Yld.load p58 rfl (at1 (hB.cell rfl))) ?_
  refine RL.p rfl rfl ?_
  refine RL.done ?_
  refine RK.condF (hcF rfl (rfl)) ?_
  refine RK.skip ?_
  refine RK.seq ?_
  refine RK.region ?_
  refine RL.q (.free rfl) rfl rfl (Yld.fieldAddr fo62_1 rfl) ?_
  refine RL.q (.free rfl) rfl rfl (Yld.load p3 rfl (at1 (hB.cell rfl))) ?_
  refine RL.op (.free rfl) rfl rfl (Does.call rfl e131 (rFields0_ok _)) ?_
  rintro _ _ ⟨rfl, rfl⟩
  iterate 5 refine RL.p rfl rfl ?_
  refine RL.done ?_
  iterate 2 refine RK.seq ?_
  refine RK.region ?_
  iterate 3 refine RL.p rfl rfl ?_
  refine RL.knownF (d := 34) rfl rfl (rfl) ?_
  refine RL.q (.yes rfl rfl rfl) rfl rfl (Yld.loadN (cs := respC 0 0 0 5) a62 rfl (atN (blkV hB))) ?_
  refine RL.q (.yes rfl rfl rfl) rfl rfl (Yld.pure rfl) ?_
  refine RL.op (.yes rfl rfl rfl) rfl rfl (Does.call rfl e135 (rZeroN_ok _)) ?_
  rintro _ w2 ⟨rfl, hg2⟩
  have hB2 := hB.mod hg2 (fun h => h)
  refine RL.q (.yes rfl rfl rfl) rfl rfl (Yld.pure rfl) ?_
  iterate 2 refine RL.p rfl rfl ?_
  refine RL.knownF (d := 40) rfl rfl (rfl) ?_
  refine RL.q (.yes rfl rfl rfl) rfl rfl (Yld.fieldAddr fo62_8 rfl) ?_
  refine RL.q (.yes rfl rfl rfl) rfl rfl (Yld.load p22 rfl (at1 (hB2.cell rfl))) ?_
  refine RL.q (.yes rfl rfl rfl) rfl rfl (Yld.pure rfl) ?_
  iterate 2 refine RL.p rfl rfl ?_
  refine RL.knownF (d := 45) rfl rfl (by first | rfl | decide) ?_
  iterate 4 refine RL.q (.yes rfl rfl rfl) rfl rfl (Yld.pure rfl) ?_
  refine RL.knownF (d := 49) rfl rfl (by first | rfl | decide) ?_
  iterate 4 refine RL.no (.no rfl rfl rfl rfl) rfl rfl ?_
  refine RL.q (.yes rfl rfl rfl) rfl rfl (Yld.pure rfl) ?_
  refine RL.p rfl rfl ?_
  refine RL.done ?_
  refine RK.condF rfl ?_
  refine RK.skip ?_
  refine RK.seq ?_
  refine RK.region ?_
  refine RL.p rfl rfl ?_
  refine RL.done ?_
  iterate 2 refine RK.seq ?_
  refine RK.region ?_
  refine RL.q (.free rfl) rfl rfl (Yld.fieldAddr fo62_1 rfl) ?_
  refine RL.q (.free rfl) rfl rfl (Yld.load p3 rfl (at1 (hB2.cell rfl))) ?_
  refine RL.p rfl rfl ?_
  refine RL.done ?_
  refine RK.condF (hcF rfl (rfl)) ?_
  refine RK.skip ?_
  refine RK.seq ?_
  refine RK.region ?_
  refine RL.q (.free rfl) rfl rfl (Yld.fieldAddr fo62_3 rfl) ?_
  refine RL.q (.free rfl) rfl rfl (Yld.load p33 rfl (at1 (hB2.cell rfl))) ?_
  refine RL.p rfl rfl ?_
  refine RL.q (.free rfl) rfl rfl (Yld.fieldAddr fo62_1 rfl) ?_
  refine RL.q (.free rfl) rfl rfl (Yld.load p3 rfl (at1 (hB2.cell rfl))) ?_
  refine RL.p rfl rfl ?_
  refine RL.op (.free rfl) rfl rfl (Does.call rfl e137 (numbers0_ok 16 _ _)) ?_
  rintro _ _ ⟨rfl, rfl⟩
  refine RL.p rfl rfl ?_
  refine RL.knownT (d := 66) rfl rfl (rfl) ?_
  refine RL.q (.yes rfl rfl rfl) rfl rfl (Yld.fieldAddr fo62_4 rfl) ?_
  refine RL.q (.yes rfl rfl rfl) rfl rfl (Yld.load p33 rfl (at1 (hB2.cell rfl))) ?_
  refine RL.op (.yes rfl rfl rfl) rfl rfl (Does.call rfl e137 (numbers0_ok 16 _ _)) ?_
  rintro _ _ ⟨rfl, rfl⟩
  iterate 2 refine RL.p rfl rfl ?_
  refine RL.knownT (d := 71) rfl rfl (rfl) ?_
  refine RL.q (.yes rfl rfl rfl) rfl rfl (Yld.fieldAddr fo62_5 rfl) ?_
  refine RL.q (.yes rfl rfl rfl) rfl rfl (Yld.load p59 rfl (at1 (hB2.cell rfl))) ?_
  refine RL.op (.yes rfl rfl rfl) rfl rfl (Does.call rfl e138 (silences0_ok _)) ?_
  rintro _ _ ⟨rfl, rfl⟩
  iterate 2 refine RL.p rfl rfl ?_
  refine RL.done ?_
  refine RK.ret_of Tryz.func98 (res1 rfl rfl) ?_ _
  exact ⟨_, rfl, rfl, hn1.grow.trans hg2⟩
theorem rIsI_ok (w : World) : Fx Tryz.prog 98 [.agg (respC 0 1 1 0).toArray] w (fun u w' => u = .bool true ∧ Grow w w') := by
  refine enter Tryz.func98 rfl rfl rfl _ (Pick.sub (l := [0]) (.cons rfl .nil)) ?_
  refine RK.seq ?_
  refine RK.region ?_
  refine RL.op (.free rfl) rfl rfl (Does.box rfl) ?_
  rintro _ w1 ⟨b1, rfl, hn1⟩
  have hB : Blk w1 b1 62 (respC 0 1 1 0) := hn1.blk
  refine RL.p rfl rfl ?_
  refine RL.done ?_
  iterate 2 refine RK.seq ?_
  refine RK.region ?_
  refine RL.q (.free rfl) rfl rfl (Yld.fieldAddr fo62_0 rfl) ?_
  refine RL.q (.free rfl) rfl rfl (Yld.load p58 rfl (at1 (hB.cell rfl))) ?_
  refine RL.p rfl rfl ?_
  refine RL.done ?_
  refine RK.condF (hcF rfl (rfl)) ?_
  refine RK.skip ?_
  refine RK.seq ?_
  refine RK.region ?_
  refine RL.q (.free rfl) rfl rfl (Yld.fieldAddr fo62_1 rfl) ?_
  refine RL.q (.free rfl) rfl rfl (Yld.load p3 rfl (at1 (hB.cell rfl))) ?_
  refine RL.op (.free rfl) rfl rfl (Does.call rfl e131 (rFields1_ok _)) ?_
  rintro _ _ ⟨rfl, rfl⟩
  iterate 5 refine RL.p rfl rfl ?_
  refine RL.done ?_
  iterate 2 refine RK.seq ?_
  refine RK.region ?_
  iterate 3 refine RL.p rfl rfl ?_
  refine RL.knownF (d := 34) rfl rfl (rfl) ?_
  refine RL.q (.yes rfl rfl rfl) rfl rfl (Yld.loadN (cs := respC 0 1 1 0) a62 rfl (atN (blkV hB))) ?_
  refine RL.q (.yes rfl rfl rfl) rfl rfl (Yld.pure rfl) ?_
  refine RL.op (.yes rfl rfl rfl) rfl rfl (Does.call rfl e135 (rZeroI_ok _)) ?_
  rintro _ w2 ⟨rfl, hg2⟩
  have hB2 := hB.mod hg2 (fun h => h)
  refine RL.q (.yes rfl rfl rfl) rfl rfl (Yld.pure rfl) ?_
  iterate 2 refine RL.p rfl rfl ?_
  refine RL.knownF (d := 40) rfl rfl (rfl) ?_
  refine RL.q (.yes rfl rfl rfl) rfl rfl (Yld.fieldAddr fo62_8 rfl) ?_
  refine RL.q (.yes rfl rfl rfl) rfl rfl (Yld.load p22 rfl (at1 (hB2.cell rfl))) ?_
  refine RL.q (.yes rfl rfl rfl) rfl rfl (Yld.pure rfl) ?_
  iterate 2 refine RL.p rfl rfl ?_
  refine RL.knownF (d := 45) rfl rfl (by first | rfl | decide) ?_
  iterate 4 refine RL.q (.yes rfl rfl rfl) rfl rfl (Yld.pure rfl) ?_
  refine RL.knownT (d := 49) rfl rfl (by first | rfl | decide) ?_
  refine RL.q (.yes rfl rfl rfl) rfl rfl (Yld.fieldAddr fo62_2 rfl) ?_
  refine RL.q (.yes rfl rfl rfl) rfl rfl (Yld.load p3 rfl (at1 (hB2.cell rfl))) ?_
  refine RL.op (.yes rfl rfl rfl) rfl rfl (Does.call rfl e136 (number1_ok _)) ?_
  rintro _ _ ⟨rfl, rfl⟩
  iterate 2 refine RL.q (.yes rfl rfl rfl) rfl rfl (Yld.pure rfl) ?_
  refine RL.p rfl rfl ?_
  refine RL.done ?_
  refine RK.condF (hcF rfl (rfl)) ?_
  refine RK.skip ?_
  refine RK.seq ?_
  refine RK.region ?_
  refine RL.p rfl rfl ?_
  refine RL.done ?_
  iterate 2 refine RK.seq ?_
  refine RK.region ?_
  refine RL.q (.free rfl) rfl rfl (Yld.fieldAddr fo62_1 rfl) ?_
  refine RL.q (.free rfl) rfl rfl (Yld.load p3 rfl (at1 (hB2.cell rfl))) ?_
  refine RL.p rfl rfl ?_
  refine RL.done ?_
  refine RK.condF (hcF rfl (rfl)) ?_
  refine RK.skip ?_
  refine RK.seq ?_
  refine RK.region ?_
  refine RL.q (.free rfl) rfl rfl (Yld.fieldAddr fo62_3 rfl) ?_
  refine RL.q (.free rfl) rfl rfl (Yld.load p33 rfl (at1 (hB2.cell rfl))) ?_
  refine RL.p rfl rfl ?_
  refine RL.q (.free rfl) rfl rfl (Yld.fieldAddr fo62_1 rfl) ?_
  refine RL.q (.free rfl) rfl rfl (Yld.load p3 rfl (at1 (hB2.cell rfl))) ?_
  refine RL.p rfl rfl ?_
  refine RL.op (.free rfl) rfl rfl (Does.call rfl e137 (numbers0_ok 16 _ _)) ?_
  rintro _ _ ⟨rfl, rfl⟩
  refine RL.p rfl rfl ?_
  refine RL.knownT (d := 66) rfl rfl (rfl) ?_
  refine RL.q (.yes rfl rfl rfl) rfl rfl (Yld.fieldAddr fo62_4 rfl) ?_
  refine RL.q (.yes rfl rfl rfl) rfl rfl (Yld.load p33 rfl (at1 (hB2.cell rfl))) ?_
  refine RL.op (.yes rfl rfl rfl) rfl rfl (Does.call rfl e137 (numbers0_ok 16 _ _)) ?_
  rintro _ _ ⟨rfl, rfl⟩
  iterate 2 refine RL.p rfl rfl ?_
  refine RL.knownT (d := 71) rfl rfl (rfl) ?_
  refine RL.q (.yes rfl rfl rfl) rfl rfl (Yld.fieldAddr fo62_5 rfl) ?_
  refine RL.q (.yes rfl rfl rfl) rfl rfl (Yld.load p59 rfl (at1 (hB2.cell rfl))) ?_
  refine RL.op (.yes rfl rfl rfl) rfl rfl (Does.call rfl e138 (silences0_ok _)) ?_
  rintro _ _ ⟨rfl, rfl⟩
  iterate 2 refine RL.p rfl rfl ?_
  refine RL.done ?_
  refine RK.ret_of Tryz.func98 (res1 rfl rfl) ?_ _
  exact ⟨_, rfl, rfl, hn1.grow.trans hg2⟩
theorem rReadN_ok {N : Nat} {w : World} {p : Nat} {ad : Option Addr} {c : Nat} {bs : List UInt8} {i : Nat} (h : Rd N w p ad c bs i false) (hd : bs.drop i = [UInt8.ofNat 0, UInt8.ofNat 5]) (x : Value) : Fx Tryz.prog 96 [pp p, x] w (fun u w' => u = .agg (respC 0 0 0 5).toArray ∧ Rd N w' p ad c bs (i + 1 + 1) false ∧ Mod (· = p) w w') := by
  have hpN := h.pN
  have hplt := h.blk.lt
  have hd2 : bs.drop (i + 1) = UInt8.ofNat 5 :: [] := by rw [← List.drop_drop, hd]; rfl
  refine enter Tryz.func96 rfl rfl rfl _ (Pick.sub (l := [0, 1]) (.cons rfl (.cons rfl .nil))) ?_
  refine RK.seq ?_
  refine RK.region ?_
  refine RL.op (.free rfl) rfl rfl (Does.alloc i62) ?_
  rintro _ w2 ⟨b2, rfl, hn2⟩
  have h2 := h.grow hn2.grow
  have ha2 := hn2.at_
  have hz2 := hn2.size
  refine RL.done ?_
  refine RK.seq ?_
  refine RK.region ?_
  refine RL.p rfl rfl ?_
  refine RL.op (.free rfl) rfl rfl (Does.call rfl e95 (byteT_ok h2 0 (by decide) _ hd)) ?_
  rintro _ w3 ⟨rfl, h3, hm3⟩
  have hz3 := hm3.size
  refine RL.q (.free rfl) rfl rfl (Yld.convI Tryz.underlying5 Tryz.underlying3 rfl) ?_
  refine RL.q (.free rfl) rfl rfl (Yld.build (v := .agg (respC 0 0 0 0).toArray) rfl (fun w => by kernel_rfl)) ?_
  refine RL.op (.free rfl) rfl rfl (Does.alloc i62) ?_
  rintro _ w4 ⟨b4, rfl, hn4⟩
  have ha4 := hn4.at_
  have hz4 := hn4.size
  have h4' := h3.grow hn4.grow
  refine RL.op' (.free rfl) rfl (Does.storeN i62 rfl rfl rfl rfl hn4.blk (Nat.le_refl 40)) ?_
  rintro _ w5 ⟨hb5, hm5, hs5⟩
  have hB5 : Blk w5 b4 62 (respC 0 0 0 0) := hb5
  have h5 := h4'.mod hm5 (fun e => by have e' : p = b4 := e; omega) (fun b e => by have e' : b = b4 := e; omega)
  refine RL.done ?_
  refine RK.seq ?_
  refine RK.region ?_
  refine RL.q (.free rfl) rfl rfl (Yld.fieldAddr fo62_1 rfl) ?_
  refine RL.q (.free rfl) rfl rfl (Yld.load p3 rfl (at1 (hB5.cell rfl))) ?_
  refine RL.op (.free rfl) rfl rfl (Does.call rfl e131 (rFields0_ok _)) ?_
  rintro _ _ ⟨rfl, rfl⟩
  iterate 5 refine RL.p rfl rfl ?_
  refine RL.done ?_
  refine RK.seq ?_
  refine RK.region ?_
  iterate 2 refine RL.p rfl rfl ?_
  refine RL.op (.free rfl) rfl rfl (Does.call rfl e91 (refuseT_ok h5)) ?_
  rintro _ w6 ⟨h6, hm6⟩
  have hB6 := hB5.mod hm6 (fun e => by have e' : b4 = p := e; omega)
  refine RL.done ?_
  iterate 2 refine RK.seq ?_
  refine RK.region ?_
  iterate 3 refine RL.p rfl rfl ?_
  refine RL.done ?_
  refine RK.condT (hcT rfl (by first | rfl | decide)) ?_
  refine RK.region ?_
  refine RL.p rfl rfl ?_
  refine RL.op (.free rfl) rfl rfl (Does.call rfl e120 (numT_ok h6 5 (by decide) [] hd2 1099511627776 (by decide))) ?_
  rintro _ w7 ⟨rfl, h7, hm7⟩
  have hB7 := hB6.mod hm7 (fun e => by have e' : b4 = p := e; omega)
  refine RL.q (.free rfl) rfl rfl (Yld.fieldAddr fo62_8 rfl) ?_
  refine RL.op' (.free rfl) rfl (Does.storeN (o := 39) i22 rfl rfl rfl rfl hB7 (by decide)) ?_
  rintro _ w8 ⟨hb8, hm8, hs8⟩
  have hB8 : Blk w8 b4 62 (respC 0 0 0 5) := hb8
  have h8 := h7.mod hm8 (fun e => by have e' : p = b4 := e; omega) (fun b e => by have e' : b = b4 := e; omega)
  have hmod : Mod (· = p) w w8 := (((((Mod.any' hn2.grow).trans hm3).trans (Mod.any' hn4.grow)).then hm5 (fun b hb e => by have e' : b = b4 := e; omega)).trans (hm6.trans hm7)).then hm8 (fun b hb e => by have e' : b = b4 := e; omega)
  have hb2' : Blk w8 b2 62 _ := (((((hn2.blk.mod hm3 (fun e => by have e' : b2 = p := e; omega)).mod hn4.grow (fun h => h)).mod hm5 (fun e => by have e' : b2 = b4 := e; omega)).mod hm6 (fun e => by have e' : b2 = p := e; omega)).mod hm7 (fun e => by have e' : b2 = p := e; omega)).mod hm8 (fun e => by have e' : b2 = b4 := e; omega)
  refine RL.done ?_
  iterate 2 refine RK.seq ?_
  refine RK.region ?_
  iterate 3 refine RL.p rfl rfl ?_
  refine RL.done ?_
  refine RK.condF (hcF rfl (by first | rfl | decide)) ?_
  refine RK.skip ?_
  iterate 2 refine RK.seq ?_
  refine RK.region ?_
  iterate 3 refine RL.p rfl rfl ?_
  refine RL.done ?_
  refine RK.condF (hcF rfl (by first | rfl | decide)) ?_
  refine RK.skip ?_
  iterate 2 refine RK.seq ?_
  refine RK.region ?_
  iterate 3 refine RL.p rfl rfl ?_
  refine RL.done ?_
  refine RK.condF (hcF rfl (by first | rfl | decide)) ?_
  refine RK.skip ?_
  iterate 2 refine RK.seq ?_
  refine RK.region ?_
  iterate 3 refine RL.p rfl rfl ?_
  refine RL.done ?_
  refine RK.condF (hcF rfl (by first | rfl | decide)) ?_
  refine RK.skip ?_
  iterate 2 refine RK.seq ?_
  refine RK.region ?_
  iterate 3 refine RL.p rfl rfl ?_
  refine RL.done ?_
  refine RK.condF (hcF rfl (by first | rfl | decide)) ?_
  refine RK.skip ?_
  iterate 2 refine RK.seq ?_
  refine RK.region ?_
  iterate 3 refine RL.p rfl rfl ?_
  refine RL.done ?_
  refine RK.condF (hcF rfl (by first | rfl | decide)) ?_
  refine RK.skip ?_
  refine RK.seq ?_
  refine RK.region ?_
  refine RL.q (.free rfl) rfl rfl (Yld.loadN (cs := respC 0 0 0 5) a62 rfl (atN (blkV hB8))) ?_
  refine RL.op' (.free rfl) rfl (Does.storeN i62 rfl rfl rfl rfl hb2' (Nat.le_refl 40)) ?_
  rintro _ w9 ⟨hb9, hm9, hs9⟩
  refine RL.done ?_
  refine RK.ret_of Tryz.func96 (resC (cs := respC 0 0 0 5) rfl rfl a62 hb9) ?_ _
  exact ⟨_, rfl, rfl, h8.mod hm9 (fun e => by have e' : p = b2 := e; omega) (fun b e => by have e' : b = b2 := e; omega), hmod.then hm9 (fun b hb e => by have e' : b = b2 := e; omega)⟩
theorem rReadI_ok {N : Nat} {w : World} {p : Nat} {ad : Option Addr} {c : Nat} {bs : List UInt8} {i : Nat} (h : Rd N w p ad c bs i false) (hd : bs.drop i = [UInt8.ofNat 1, UInt8.ofNat 1]) (x : Value) : Fx Tryz.prog 96 [pp p, x] w (fun u w' => u = .agg (respC 0 1 1 0).toArray ∧ Rd N w' p ad c bs (i + 1 + 1) false ∧ Mod (· = p) w w') := by
  have hpN := h.pN
  have hplt := h.blk.lt
  have hd2 : bs.drop (i + 1) = UInt8.ofNat 1 :: [] := by rw [← List.drop_drop, hd]; rfl
  refine enter Tryz.func96 rfl rfl rfl _ (Pick.sub (l := [0, 1]) (.cons rfl (.cons rfl .nil))) ?_
  refine RK.seq ?_
  refine RK.region ?_
  refine RL.op (.free rfl) rfl rfl (Does.alloc i62) ?_
  rintro _ w2 ⟨b2, rfl, hn2⟩
  have h2 := h.grow hn2.grow
  have ha2 := hn2.at_
  have hz2 := hn2.size
  refine RL.done ?_
  refine RK.seq ?_
  refine RK.region ?_
  refine RL.p rfl rfl ?_
  refine RL.op (.free rfl) rfl rfl (Does.call rfl e95 (byteT_ok h2 1 (by decide) _ hd)) ?_
  rintro _ w3 ⟨rfl, h3, hm3⟩
  have hz3 := hm3.size
  refine RL.q (.free rfl) rfl rfl (Yld.convI Tryz.underlying5 Tryz.underlying3 rfl) ?_
  refine RL.q (.free rfl) rfl rfl (Yld.build (v := .agg (respC 0 1 0 0).toArray) rfl (fun w => by kernel_rfl)) ?_
  refine RL.op (.free rfl) rfl rfl (Does.alloc i62) ?_
  rintro _ w4 ⟨b4, rfl, hn4⟩
  have ha4 := hn4.at_
  have hz4 := hn4.size
  have h4' := h3.grow hn4.grow
  refine RL.op' (.free rfl) rfl (Does.storeN i62 rfl rfl rfl rfl hn4.blk (Nat.le_refl 40)) ?_
  rintro _ w5 ⟨hb5, hm5, hs5⟩
  have hB5 : Blk w5 b4 62 (respC 0 1 0 0) := hb5
  have h5 := h4'.mod hm5 (fun e => by have e' : p = b4 := e; omega) (fun b e => by have e' : b = b4 := e; omega)
  refine RL.done ?_
  refine RK.seq ?_
  refine RK.region ?_
  refine RL.q (.free rfl) rfl rfl (Yld.fieldAddr fo62_1 rfl) ?_
  refine RL.q (.free rfl) rfl rfl (Yld.load p3 rfl (at1 (hB5.cell rfl))) ?_
  refine RL.op (.free rfl) rfl rfl (Does.call rfl e131 (rFields1_ok _)) ?_
  rintro _ _ ⟨rfl, rfl⟩
  iterate 5 refine RL.p rfl rfl ?_
  refine RL.done ?_
  refine RK.seq ?_
  refine RK.region ?_
  iterate 2 refine RL.p rfl rfl ?_
  refine RL.op (.free rfl) rfl rfl (Does.call rfl e91 (refuseT_ok h5)) ?_
  rintro _ w6 ⟨h6, hm6⟩
  have hB6 := hB5.mod hm6 (fun e => by have e' : b4 = p := e; omega)
  refine RL.done ?_
  iterate 2 refine RK.seq ?_
  refine RK.region ?_
  iterate 3 refine RL.p rfl rfl ?_
  refine RL.done ?_
  refine RK.condF (hcF rfl (by first | rfl | decide)) ?_
  refine RK.skip ?_
  iterate 2 refine RK.seq ?_
  refine RK.region ?_
  iterate 3 refine RL.p rfl rfl ?_
  refine RL.done ?_
  refine RK.condT (hcT rfl (by first | rfl | decide)) ?_
  refine RK.region ?_
  refine RL.p rfl rfl ?_
  refine RL.op (.free rfl) rfl rfl (Does.call rfl e120 (numT_ok h6 1 (by decide) [] hd2 2147483647 (by decide))) ?_
  rintro _ w7 ⟨rfl, h7, hm7⟩
  have hB7 := hB6.mod hm7 (fun e => by have e' : b4 = p := e; omega)
  refine RL.q (.free rfl) rfl rfl (Yld.convI Tryz.underlying22 Tryz.underlying3 rfl) ?_
  refine RL.q (.free rfl) rfl rfl (Yld.fieldAddr fo62_2 rfl) ?_
  refine RL.op' (.free rfl) rfl (Does.storeN (o := 2) i3 rfl rfl rfl rfl hB7 (by decide)) ?_
  rintro _ w8 ⟨hb8, hm8, hs8⟩
  have hB8 : Blk w8 b4 62 (respC 0 1 1 0) := hb8
  have h8 := h7.mod hm8 (fun e => by have e' : p = b4 := e; omega) (fun b e => by have e' : b = b4 := e; omega)
  have hmod : Mod (· = p) w w8 := (((((Mod.any' hn2.grow).trans hm3).trans (Mod.any' hn4.grow)).then hm5 (fun b hb e => by have e' : b = b4 := e; omega)).trans (hm6.trans hm7)).then hm8 (fun b hb e => by have e' : b = b4 := e; omega)
  have hb2' : Blk w8 b2 62 _ := (((((hn2.blk.mod hm3 (fun e => by have e' : b2 = p := e; omega)).mod hn4.grow (fun h => h)).mod hm5 (fun e => by have e' : b2 = b4 := e; omega)).mod hm6 (fun e => by have e' : b2 = p := e; omega)).mod hm7 (fun e => by have e' : b2 = p := e; omega)).mod hm8 (fun e => by have e' : b2 = b4 := e; omega)
  refine RL.done ?_
  iterate 2 refine RK.seq ?_
  refine RK.region ?_
  iterate 3 refine RL.p rfl rfl ?_
  refine RL.done ?_
  refine RK.condF (hcF rfl (by first | rfl | decide)) ?_
  refine RK.skip ?_
  iterate 2 refine RK.seq ?_
  refine RK.region ?_
  iterate 3 refine RL.p rfl rfl ?_
  refine RL.done ?_
  refine RK.condF (hcF rfl (by first | rfl | decide)) ?_
  refine RK.skip ?_
  iterate 2 refine RK.seq ?_
  refine RK.region ?_
  iterate 3 refine RL.p rfl rfl ?_
  refine RL.done ?_
  refine RK.condF (hcF rfl (by first | rfl | decide)) ?_
  refine RK.skip ?_
  iterate 2 refine RK.seq ?_
  refine RK.region ?_
  iterate 3 refine RL.p rfl rfl ?_
  refine RL.done ?_
  refine RK.condF (hcF rfl (by first | rfl | decide)) ?_
  refine RK.skip ?_
  iterate 2 refine RK.seq ?_
  refine RK.region ?_
  iterate 3 refine RL.p rfl rfl ?_
  refine RL.done ?_
  refine RK.condF (hcF rfl (by first | rfl | decide)) ?_
  refine RK.skip ?_
  refine RK.seq ?_
  refine RK.region ?_
  refine RL.q (.free rfl) rfl rfl (Yld.loadN (cs := respC 0 1 1 0) a62 rfl (atN (blkV hB8))) ?_
  refine RL.op' (.free rfl) rfl (Does.storeN i62 rfl rfl rfl rfl hb2' (Nat.le_refl 40)) ?_
  rintro _ w9 ⟨hb9, hm9, hs9⟩
  refine RL.done ?_
  refine RK.ret_of Tryz.func96 (resC (cs := respC 0 1 1 0) rfl rfl a62 hb9) ?_ _
  exact ⟨_, rfl, rfl, h8.mod hm9 (fun e => by have e' : p = b2 := e; omega) (fun b e => by have e' : b = b2 := e; omega), hmod.then hm9 (fun b hb e => by have e' : b = b2 := e; omega)⟩
theorem rRdN_ok (w : World) (ad : Option Addr) (c : Nat) (hv : Sl No w (.slice ad 3 c) 1 3 (bytesV [0, 0, 5])) (hcap : 3 ≤ c) : Fx Tryz.prog 64 [.slice ad 3 c] w (fun u w' => u = .tuple #[.agg (respC 0 0 0 5).toArray, .bool true] ∧ Grow w w') := by
  have hs := hv.off (M' := (w.heap.size ≤ ·)) (by omega) (fun b hb e => by omega)
  refine enter Tryz.func64 rfl rfl rfl _ (Pick.sub (l := [0]) (.cons rfl .nil)) ?_
  refine RK.seq ?_
  refine RK.region ?_
  refine RL.op (.free rfl) rfl rfl (Does.alloc i62) ?_
  rintro _ w2 ⟨b2, rfl, hn2⟩
  have ha2 := hn2.at_
  have hz2 := hn2.size
  refine RL.p rfl rfl ?_
  refine RL.done ?_
  refine RK.seq ?_
  refine RK.region ?_
  refine RL.p rfl rfl ?_
  refine RL.op (.free rfl) rfl rfl (Does.call rfl e89 (pnew_ok w.heap.size w2 ad c [0, 0, 5] (hs.mod (Mod.any' hn2.grow)) (by omega) hcap)) ?_
  rintro _ w3 ⟨p, rfl, hp, h3, hg3⟩
  have hz3 := hg3.size
  have hplt := h3.blk.lt
  refine RL.p rfl rfl ?_
  refine RL.done ?_
  refine RK.seq ?_
  refine RK.region ?_
  refine RL.q (.free rfl) rfl rfl (Yld.build (v := .agg (respC 0 0 0 0).toArray) rfl (fun w => by kernel_rfl)) ?_
  refine RL.op (.free rfl) rfl rfl (Does.alloc i62) ?_
  rintro _ w4 ⟨b4, rfl, hn4⟩
  have ha4 := hn4.at_
  have hz4 := hn4.size
  refine RL.op' (.free rfl) rfl (Does.storeN i62 rfl rfl rfl rfl hn4.blk (Nat.le_refl 40)) ?_
  rintro _ w5 ⟨hb5, hm5, hs5⟩
  have hB5 : Blk w5 b4 62 (respC 0 0 0 0) := hb5
  have h5 := (h3.grow hn4.grow).mod hm5 (fun e => by have e' : p = b4 := e; omega) (fun b e => by have e' : b = b4 := e; omega)
  have hg5 : Grow w w5 := ((hn2.grow.trans hg3).trans hn4.grow).then hm5 (fun b hb e => by have e' : b = b4 := e; omega)
  have hq5 : Mod (b2 < ·) w2 w5 := ((Mod.any' hg3).trans (Mod.any' hn4.grow)).trans (hm5.mono fun b _ e => by have e' : b = b4 := e; omega)
  refine RL.done ?_
  refine RK.seq ?_
  refine RK.region ?_
  refine RL.p rfl rfl ?_
  refine RL.op (.free rfl) rfl rfl (Does.call rfl e95 (byteT_ok h5 0 (by decide) _ rfl)) ?_
  rintro _ w6 ⟨rfl, h6, hm6⟩
  have hq6 := hq5.trans (hm6.mono fun b _ e => by have e' : b = p := e; omega)
  have hg6 := hg5.then hm6 (fun b hb e => by have e' : b = p := e; omega)
  have hB6 := hB5.mod hm6 (fun e => by have e' : b4 = p := e; omega)
  refine RL.q (.free rfl) rfl rfl (Yld.convI Tryz.underlying5 Tryz.underlying58 rfl) ?_
  refine RL.p rfl rfl ?_
  refine RL.done ?_
  iterate 2 refine RK.seq ?_
  refine RK.region ?_
  iterate 2 refine RL.p rfl rfl ?_
  refine RL.done ?_
  refine RK.condT (hcT rfl (rfl)) ?_
  refine RK.region ?_
  iterate 2 refine RL.p rfl rfl ?_
  refine RL.q (.free rfl) rfl rfl (Yld.lenSl u25 rfl) ?_
  refine RL.op (.free rfl) rfl rfl (Does.call rfl e96 (rReadN_ok h6 rfl _)) ?_
  rintro _ w61 ⟨rfl, h61, hm61⟩
  have hg61 := hg6.then hm61 (fun b hb e => by have e' : b = p := e; omega)
  have hB61 := hB6.mod hm61 (fun e => by have e' : b4 = p := e; omega)
  refine RL.op' (.free rfl) rfl (Does.storeN i62 rfl rfl rfl rfl hB61 (Nat.le_refl 40)) ?_
  rintro _ w7 ⟨hb7, hm7, hs7⟩
  have hB7 : Blk w7 b4 62 (respC 0 0 0 5) := hb7
  have h7 := h61.mod hm7 (fun e => by have e' : p = b4 := e; omega) (fun b e => by have e' : b = b4 := e; omega)
  have hg7 := hg61.then hm7 (fun b hb e => by have e' : b = b4 := e; omega)
  have hq7 := (hq6.trans (hm61.mono fun b _ e => by have e' : b = p := e; omega)).trans (hm7.mono fun b _ e => by have e' : b = b4 := e; omega)
  refine RL.done ?_
  refine RK.seq ?_
  refine RK.region ?_
  refine RL.p rfl rfl ?_
  refine RL.q (.free rfl) rfl rfl (Yld.fieldAddr fo62_0 rfl) ?_
  refine RL.op' (.free rfl) rfl (Does.storeN (o := 0) i58 rfl rfl rfl rfl hB7 (by decide)) ?_
  rintro _ w8 ⟨hb8, hm8, hs8⟩
  have hB8 : Blk w8 b4 62 (respC 0 0 0 5) := hb8
  have h8 := h7.mod hm8 (fun e => by have e' : p = b4 := e; omega) (fun b e => by have e' : b = b4 := e; omega)
  have hg8 := hg7.then hm8 (fun b hb e => by have e' : b = b4 := e; omega)
  refine RL.done ?_
  iterate 2 refine RK.seq ?_
  refine RK.region ?_
  refine RL.p rfl rfl ?_
  refine RL.op (.free rfl) rfl rfl (Does.call rfl e97 (endT_ok h8)) ?_
  rintro _ _ ⟨rfl, rfl⟩
  iterate 5 refine RL.p rfl rfl ?_
  refine RL.done ?_
  refine RK.seq ?_
  refine RK.region ?_
  iterate 3 refine RL.p rfl rfl ?_
  refine RL.knownF (d := 30) rfl rfl (rfl) ?_
  iterate 2 refine RL.q (.yes rfl rfl rfl) rfl rfl (Yld.pure rfl) ?_
  refine RL.q (.yes rfl rfl rfl) rfl rfl (Yld.lenSl u25 rfl) ?_
  refine RL.q (.yes rfl rfl rfl) rfl rfl (Yld.pure rfl) ?_
  iterate 2 refine RL.p rfl rfl ?_
  refine RL.knownF (d := 36) rfl rfl (by first | rfl | decide) ?_
  refine RL.q (.yes rfl rfl rfl) rfl rfl (Yld.loadN (cs := respC 0 0 0 5) a62 rfl (atN (blkV hB8))) ?_
  refine RL.op (.yes rfl rfl rfl) rfl rfl (Does.call rfl e98 (rIsN_ok _)) ?_
  rintro _ w9 ⟨rfl, hg9⟩
  have hB9 := hB8.mod hg9 (fun h => h)
  have hg09 := hg8.trans hg9
  have hq9 := (hq7.trans (hm8.mono fun b _ e => by have e' : b = b4 := e; omega)).trans (Mod.any' hg9)
  refine RL.q (.yes rfl rfl rfl) rfl rfl (Yld.pure rfl) ?_
  refine RL.p rfl rfl ?_
  refine RL.done ?_
  refine RK.condF (hcF rfl (rfl)) ?_
  refine RK.skip ?_
  refine RK.seq ?_
  refine RK.region ?_
  refine RL.q (.free rfl) rfl rfl (Yld.loadN (cs := respC 0 0 0 5) a62 rfl (atN (blkV hB9))) ?_
  refine RL.op' (.free rfl) rfl (Does.storeN i62 rfl rfl rfl rfl (hn2.blk.mod hq9 (fun e => Nat.lt_irrefl _ e)) (Nat.le_refl 40)) ?_
  rintro _ w10 ⟨hb10, hm10, hs10⟩
  refine RL.p rfl rfl ?_
  refine RL.done ?_
  refine RK.ret_of Tryz.func64 (resCT (cs := respC 0 0 0 5) rfl rfl a62 hb10 rfl) ?_ _
  exact ⟨_, rfl, rfl, hg09.then hm10 (fun b hb e => by have e' : b = b2 := e; omega)⟩
theorem rRdI_ok (w : World) (ad : Option Addr) (c : Nat) (hv : Sl No w (.slice ad 3 c) 1 3 (bytesV [0, 1, 1])) (hcap : 3 ≤ c) : Fx Tryz.prog 64 [.slice ad 3 c] w (fun u w' => u = .tuple #[.agg (respC 0 1 1 0).toArray, .bool true] ∧ Grow w w') := by
  have hs := hv.off (M' := (w.heap.size ≤ ·)) (by omega) (fun b hb e => by omega)
  refine enter Tryz.func64 rfl rfl rfl _ (Pick.sub (l := [0]) (.cons rfl .nil)) ?_
  refine RK.seq ?_
  refine RK.region ?_
  refine RL.op (.free rfl) rfl rfl (Does.alloc i62) ?_
  rintro _ w2 ⟨b2, rfl, hn2⟩
  have ha2 := hn2.at_
  have hz2 := hn2.size
  refine RL.p rfl rfl ?_
  refine RL.done ?_
  refine RK.seq ?_
  refine RK.region ?_
  refine RL.p rfl rfl ?_
  refine RL.op (.free rfl) rfl rfl (Does.call rfl e89 (pnew_ok w.heap.size w2 ad c [0, 1, 1] (hs.mod (Mod.any' hn2.grow)) (by omega) hcap)) ?_
  rintro _ w3 ⟨p, rfl, hp, h3, hg3⟩
  have hz3 := hg3.size
  have hplt := h3.blk.lt
  refine RL.p rfl rfl ?_
  refine RL.done ?_
  refine RK.seq ?_
  refine RK.region ?_
  refine RL.q (.free rfl) rfl rfl (Yld.build (v := .agg (respC 0 0 0 0).toArray) rfl (fun w => by kernel_rfl)) ?_
  refine RL.op (.free rfl) rfl rfl (Does.alloc i62) ?_
  rintro _ w4 ⟨b4, rfl, hn4⟩
  have ha4 := hn4.at_
  have hz4 := hn4.size
  refine RL.op' (.free rfl) rfl (Does.storeN i62 rfl rfl rfl rfl hn4.blk (Nat.le_refl 40)) ?_
  rintro _ w5 ⟨hb5, hm5, hs5⟩
  have hB5 : Blk w5 b4 62 (respC 0 0 0 0) := hb5
  have h5 := (h3.grow hn4.grow).mod hm5 (fun e => by have e' : p = b4 := e; omega) (fun b e => by have e' : b = b4 := e; omega)
  have hg5 : Grow w w5 := ((hn2.grow.trans hg3).trans hn4.grow).then hm5 (fun b hb e => by have e' : b = b4 := e; omega)
  have hq5 : Mod (b2 < ·) w2 w5 := ((Mod.any' hg3).trans (Mod.any' hn4.grow)).trans (hm5.mono fun b _ e => by have e' : b = b4 := e; omega)
  refine RL.done ?_
  refine RK.seq ?_
  refine RK.region ?_
  refine RL.p rfl rfl ?_
  refine RL.op (.free rfl) rfl rfl (Does.call rfl e95 (byteT_ok h5 0 (by decide) _ rfl)) ?_
  rintro _ w6 ⟨rfl, h6, hm6⟩
  have hq6 := hq5.trans (hm6.mono fun b _ e => by have e' : b = p := e; omega)
  have hg6 := hg5.then hm6 (fun b hb e => by have e' : b = p := e; omega)
  have hB6 := hB5.mod hm6 (fun e => by have e' : b4 = p := e; omega)
  refine RL.q (.free rfl) rfl rfl (Yld.convI Tryz.underlying5 Tryz.underlying58 rfl) ?_
  refine RL.p rfl rfl ?_
  refine RL.done ?_
  iterate 2 refine RK.seq ?_
  refine RK.region ?_
  iterate 2 refine RL.p rfl rfl ?_
  refine RL.done ?_
  refine RK.condT (hcT rfl (rfl)) ?_
  refine RK.region ?_
  iterate 2 refine RL.p rfl rfl ?_
  refine RL.q (.free rfl) rfl rfl (Yld.lenSl u25 rfl) ?_
  refine RL.op (.free rfl) rfl rfl (Does.call rfl e96 (rReadI_ok h6 rfl _)) ?_
  rintro _ w61 ⟨rfl, h61, hm61⟩
  have hg61 := hg6.then hm61 (fun b hb e => by have e' : b = p := e; omega)
  have hB61 := hB6.mod hm61 (fun e => by have e' : b4 = p := e; omega)
  refine RL.op' (.free rfl) rfl (Does.storeN i62 rfl rfl rfl rfl hB61 (Nat.le_refl 40)) ?_
  rintro _ w7 ⟨hb7, hm7, hs7⟩
  have hB7 : Blk w7 b4 62 (respC 0 1 1 0) := hb7
  have h7 := h61.mod hm7 (fun e => by have e' : p = b4 := e; omega) (fun b e => by have e' : b = b4 := e; omega)
  have hg7 := hg61.then hm7 (fun b hb e => by have e' : b = b4 := e; omega)
  have hq7 := (hq6.trans (hm61.mono fun b _ e => by have e' : b = p := e; omega)).trans (hm7.mono fun b _ e => by have e' : b = b4 := e; omega)
  refine RL.done ?_
  refine RK.seq ?_
  refine RK.region ?_
  refine RL.p rfl rfl ?_
  refine RL.q (.free rfl) rfl rfl (Yld.fieldAddr fo62_0 rfl) ?_
  refine RL.op' (.free rfl) rfl (Does.storeN (o := 0) i58 rfl rfl rfl rfl hB7 (by decide)) ?_
  rintro _ w8 ⟨hb8, hm8, hs8⟩
  have hB8 : Blk w8 b4 62 (respC 0 1 1 0) := hb8
  have h8 := h7.mod hm8 (fun e => by have e' : p = b4 := e; omega) (fun b e => by have e' : b = b4 := e; omega)
  have hg8 := hg7.then hm8 (fun b hb e => by have e' : b = b4 := e; omega)
  refine RL.done ?_
  iterate 2 refine RK.seq ?_
  refine RK.region ?_
  refine RL.p rfl rfl ?_
  refine RL.op (.free rfl) rfl rfl (Does.call rfl e97 (endT_ok h8)) ?_
  rintro _ _ ⟨rfl, rfl⟩
  iterate 5 refine RL.p rfl rfl ?_
  refine RL.done ?_
  refine RK.seq ?_
  refine RK.region ?_
  iterate 3 refine RL.p rfl rfl ?_
  refine RL.knownF (d := 30) rfl rfl (rfl) ?_
  iterate 2 refine RL.q (.yes rfl rfl rfl) rfl rfl (Yld.pure rfl) ?_
  refine RL.q (.yes rfl rfl rfl) rfl rfl (Yld.lenSl u25 rfl) ?_
  refine RL.q (.yes rfl rfl rfl) rfl rfl (Yld.pure rfl) ?_
  iterate 2 refine RL.p rfl rfl ?_
  refine RL.knownF (d := 36) rfl rfl (by first | rfl | decide) ?_
  refine RL.q (.yes rfl rfl rfl) rfl rfl (Yld.loadN (cs := respC 0 1 1 0) a62 rfl (atN (blkV hB8))) ?_
  refine RL.op (.yes rfl rfl rfl) rfl rfl (Does.call rfl e98 (rIsI_ok _)) ?_
  rintro _ w9 ⟨rfl, hg9⟩
  have hB9 := hB8.mod hg9 (fun h => h)
  have hg09 := hg8.trans hg9
  have hq9 := (hq7.trans (hm8.mono fun b _ e => by have e' : b = b4 := e; omega)).trans (Mod.any' hg9)
  refine RL.q (.yes rfl rfl rfl) rfl rfl (Yld.pure rfl) ?_
  refine RL.p rfl rfl ?_
  refine RL.done ?_
  refine RK.condF (hcF rfl (rfl)) ?_
  refine RK.skip ?_
  refine RK.seq ?_
  refine RK.region ?_
  refine RL.q (.free rfl) rfl rfl (Yld.loadN (cs := respC 0 1 1 0) a62 rfl (atN (blkV hB9))) ?_
  refine RL.op' (.free rfl) rfl (Does.storeN i62 rfl rfl rfl rfl (hn2.blk.mod hq9 (fun e => Nat.lt_irrefl _ e)) (Nat.le_refl 40)) ?_
  rintro _ w10 ⟨hb10, hm10, hs10⟩
  refine RL.p rfl rfl ?_
  refine RL.done ?_
  refine RK.ret_of Tryz.func64 (resCT (cs := respC 0 1 1 0) rfl rfl a62 hb10 rfl) ?_ _
  exact ⟨_, rfl, rfl, hg09.then hm10 (fun b hb e => by have e' : b = b2 := e; omega)⟩
theorem rRdE_ok (w : World) (ad : Option Addr) (c : Nat) (hv : Sl No w (.slice ad 1 c) 1 1 (bytesV [1])) (hcap : 1 ≤ c) : Fx Tryz.prog 64 [.slice ad 1 c] w (fun u w' => u = .tuple #[.agg (respC 1 0 0 0).toArray, .bool true] ∧ Grow w w') := by
  have hs := hv.off (M' := (w.heap.size ≤ ·)) (by omega) (fun b hb e => by omega)
  refine enter Tryz.func64 rfl rfl rfl _ (Pick.sub (l := [0]) (.cons rfl .nil)) ?_
  refine RK.seq ?_
  refine RK.region ?_
  refine RL.op (.free rfl) rfl rfl (Does.alloc i62) ?_
  rintro _ w2 ⟨b2, rfl, hn2⟩
  have ha2 := hn2.at_
  have hz2 := hn2.size
  refine RL.p rfl rfl ?_
  refine RL.done ?_
  refine RK.seq ?_
  refine RK.region ?_
  refine RL.p rfl rfl ?_
  refine RL.op (.free rfl) rfl rfl (Does.call rfl e89 (pnew_ok w.heap.size w2 ad c [1] (hs.mod (Mod.any' hn2.grow)) (by omega) hcap)) ?_
  rintro _ w3 ⟨p, rfl, hp, h3, hg3⟩
  have hz3 := hg3.size
  have hplt := h3.blk.lt
  refine RL.p rfl rfl ?_
  refine RL.done ?_
  refine RK.seq ?_
  refine RK.region ?_
  refine RL.q (.free rfl) rfl rfl (Yld.build (v := .agg (respC 0 0 0 0).toArray) rfl (fun w => by kernel_rfl)) ?_
  refine RL.op (.free rfl) rfl rfl (Does.alloc i62) ?_
  rintro _ w4 ⟨b4, rfl, hn4⟩
  have ha4 := hn4.at_
  have hz4 := hn4.size
  refine RL.op' (.free rfl) rfl (Does.storeN i62 rfl rfl rfl rfl hn4.blk (Nat.le_refl 40)) ?_
  rintro _ w5 ⟨hb5, hm5, hs5⟩
  have hB5 : Blk w5 b4 62 (respC 0 0 0 0) := hb5
  have h5 := (h3.grow hn4.grow).mod hm5 (fun e => by have e' : p = b4 := e; omega) (fun b e => by have e' : b = b4 := e; omega)
  have hg5 : Grow w w5 := ((hn2.grow.trans hg3).trans hn4.grow).then hm5 (fun b hb e => by have e' : b = b4 := e; omega)
  have hq5 : Mod (b2 < ·) w2 w5 := ((Mod.any' hg3).trans (Mod.any' hn4.grow)).trans (hm5.mono fun b _ e => by have e' : b = b4 := e; omega)
  refine RL.done ?_
  refine RK.seq ?_
  refine RK.region ?_
  refine RL.p rfl rfl ?_
  refine RL.op (.free rfl) rfl rfl (Does.call rfl e95 (byteT_ok h5 1 (by decide) _ rfl)) ?_
  rintro _ w6 ⟨rfl, h6, hm6⟩
  have hq6 := hq5.trans (hm6.mono fun b _ e => by have e' : b = p := e; omega)
  have hg6 := hg5.then hm6 (fun b hb e => by have e' : b = p := e; omega)
  have hB6 := hB5.mod hm6 (fun e => by have e' : b4 = p := e; omega)
  have hB7 := hB6
  have h7 := h6
  have hg7 := hg6
  have hq7 := hq6
  refine RL.q (.free rfl) rfl rfl (Yld.convI Tryz.underlying5 Tryz.underlying58 rfl) ?_
  refine RL.p rfl rfl ?_
  refine RL.done ?_
  iterate 2 refine RK.seq ?_
  refine RK.region ?_
  iterate 2 refine RL.p rfl rfl ?_
  refine RL.done ?_
  refine RK.condF (hcF rfl (rfl)) ?_
  refine RK.skip ?_
  refine RK.seq ?_
  refine RK.region ?_
  refine RL.p rfl rfl ?_
  refine RL.q (.free rfl) rfl rfl (Yld.fieldAddr fo62_0 rfl) ?_
  refine RL.op' (.free rfl) rfl (Does.storeN (o := 0) i58 rfl rfl rfl rfl hB7 (by decide)) ?_
  rintro _ w8 ⟨hb8, hm8, hs8⟩
  have hB8 : Blk w8 b4 62 (respC 1 0 0 0) := hb8
  have h8 := h7.mod hm8 (fun e => by have e' : p = b4 := e; omega) (fun b e => by have e' : b = b4 := e; omega)
  have hg8 := hg7.then hm8 (fun b hb e => by have e' : b = b4 := e; omega)
  refine RL.done ?_
  iterate 2 refine RK.seq ?_
  refine RK.region ?_
  refine RL.p rfl rfl ?_
  refine RL.op (.free rfl) rfl rfl (Does.call rfl e97 (endT_ok h8)) ?_
  rintro _ _ ⟨rfl, rfl⟩
  iterate 5 refine RL.p rfl rfl ?_
  refine RL.done ?_
  refine RK.seq ?_
  refine RK.region ?_
  iterate 3 refine RL.p rfl rfl ?_
  refine RL.knownF (d := 30) rfl rfl (rfl) ?_
  iterate 2 refine RL.q (.yes rfl rfl rfl) rfl rfl (Yld.pure rfl) ?_
  refine RL.q (.yes rfl rfl rfl) rfl rfl (Yld.lenSl u25 rfl) ?_
  refine RL.q (.yes rfl rfl rfl) rfl rfl (Yld.pure rfl) ?_
  iterate 2 refine RL.p rfl rfl ?_
  refine RL.knownF (d := 36) rfl rfl (by first | rfl | decide) ?_
  refine RL.q (.yes rfl rfl rfl) rfl rfl (Yld.loadN (cs := respC 1 0 0 0) a62 rfl (atN (blkV hB8))) ?_
  refine RL.op (.yes rfl rfl rfl) rfl rfl (Does.call rfl e98 (rIsE_ok _)) ?_
  rintro _ w9 ⟨rfl, hg9⟩
  have hB9 := hB8.mod hg9 (fun h => h)
  have hg09 := hg8.trans hg9
  have hq9 := (hq7.trans (hm8.mono fun b _ e => by have e' : b = b4 := e; omega)).trans (Mod.any' hg9)
  refine RL.q (.yes rfl rfl rfl) rfl rfl (Yld.pure rfl) ?_
  refine RL.p rfl rfl ?_
  refine RL.done ?_
  refine RK.condF (hcF rfl (rfl)) ?_
  refine RK.skip ?_
  refine RK.seq ?_
  refine RK.region ?_
  refine RL.q (.free rfl) rfl rfl (Yld.loadN (cs := respC 1 0 0 0) a62 rfl (atN (blkV hB9))) ?_
  refine RL.op' (.free rfl) rfl (Does.storeN i62 rfl rfl rfl rfl (hn2.blk.mod hq9 (fun e => Nat.lt_irrefl _ e)) (Nat.le_refl 40)) ?_
  rintro _ w10 ⟨hb10, hm10, hs10⟩
  refine RL.p rfl rfl ?_
  refine RL.done ?_
  refine RK.ret_of Tryz.func64 (resCT (cs := respC 1 0 0 0) rfl rfl a62 hb10 rfl) ?_ _
  exact ⟨_, rfl, rfl, hg09.then hm10 (fun b hb e => by have e' : b = b2 := e; omega)⟩
end Go.Proofs.YtghcdngegadkaaaGreat
set_option linter.unusedVariables false
set_option linter.unusedSimpArgs false
set_option maxHeartbeats 6400000
set_option maxRecDepth 100000
namespace Go.Proofs.YtghcdngegadkaaaGreat
open Go Go.X
@[reducible] def root : ByteArray := ⟨#[114, 111, 111, 116]⟩
theorem wholeT_ok {N : Nat} {w : World} {p : Nat} {ad : Option Addr} {c : Nat} {bs : List UInt8} (h : Rd N w p ad c bs bs.length false) (x : Option Addr) (y : Nat) : Fx Tryz.prog 94 [.agg (reqC root 1).toArray, pp p, .slice x bs.length y] w (fun u w' => u = .tuple #[.agg (reqC root 1).toArray, .bool true] ∧ Grow w w') := by
  refine enter Tryz.func94 rfl rfl rfl _ (Pick.sub (l := [0, 1, 2]) (.cons rfl (.cons rfl (.cons rfl .nil)))) ?_
  refine RK.seq ?_
  refine RK.region ?_
  refine RL.op (.free rfl) rfl rfl (Does.box rfl) ?_
  rintro _ w1 ⟨b3, rfl, hn3⟩
  refine RL.op (.free rfl) rfl rfl (Does.alloc i57) ?_
  rintro _ w2 ⟨b6, rfl, hn6⟩
  have hg2 := hn3.grow.trans hn6.grow
  refine RL.p rfl rfl ?_
  refine RL.done ?_
  iterate 2 refine RK.seq ?_
  refine RK.region ?_
  refine RL.p rfl rfl ?_
  refine RL.op (.free rfl) rfl rfl (Does.call rfl e97 (endT_ok (h.grow hg2))) ?_
  rintro _ _ ⟨rfl, rfl⟩
  iterate 5 refine RL.p rfl rfl ?_
  refine RL.done ?_
  refine RK.seq ?_
  refine RK.region ?_
  iterate 3 refine RL.p rfl rfl ?_
  refine RL.knownF (d := 17) rfl rfl (rfl) ?_
  iterate 2 refine RL.q (.yes rfl rfl rfl) rfl rfl (Yld.pure rfl) ?_
  refine RL.q (.yes rfl rfl rfl) rfl rfl (Yld.lenSl u25 rfl) ?_
  refine RL.q (.yes rfl rfl rfl) rfl rfl (Yld.pure rfl) ?_
  refine RL.p rfl rfl ?_
  refine RL.done ?_
  refine RK.condF (hcF rfl (by first | rfl | decide | simp)) ?_
  refine RK.skip ?_
  refine RK.seq ?_
  refine RK.region ?_
  refine RL.q (.free rfl) rfl rfl (Yld.loadN (cs := reqC root 1) a57 rfl (atN (blkV (hn3.blk.mod hn6.grow (fun h => h))))) ?_
  refine RL.op' (.free rfl) rfl (Does.storeN i57 rfl rfl rfl rfl hn6.blk (Nat.le_refl 19)) ?_
  rintro _ w4 ⟨hb4, hm4, hs4⟩
  refine RL.p rfl rfl ?_
  refine RL.done ?_
  refine RK.ret_of Tryz.func94 (resCT (cs := reqC root 1) rfl rfl a57 hb4 rfl) ?_ _
  exact ⟨_, rfl, rfl, hg2.then hm4 (fun b hb e => by have e' : b = b6 := e; have := hn6.at_; have := hn3.grow.size; omega)⟩
theorem wholeF_ok {N : Nat} {w : World} {p : Nat} {ad : Option Addr} {c : Nat} {bs : List UInt8} {i : Nat} (h : Rd N w p ad c bs i true) (v : Value) : Fx Tryz.prog 94 [.agg (reqC ⟨#[]⟩ 0).toArray, pp p, v] w (fun u w' => u = .tuple #[.agg (reqC ⟨#[]⟩ 0).toArray, .bool false] ∧ Grow w w') := by
  refine enter Tryz.func94 rfl rfl rfl _ (Pick.sub (l := [0, 1, 2]) (.cons rfl (.cons rfl (.cons rfl .nil)))) ?_
  refine RK.seq ?_
  refine RK.region ?_
  refine RL.op (.free rfl) rfl rfl (Does.box rfl) ?_
  rintro _ w1 ⟨b3, rfl, hn3⟩
  refine RL.op (.free rfl) rfl rfl (Does.alloc i57) ?_
  rintro _ w2 ⟨b6, rfl, hn6⟩
  have hg2 := hn3.grow.trans hn6.grow
  refine RL.p rfl rfl ?_
  refine RL.done ?_
  iterate 2 refine RK.seq ?_
  refine RK.region ?_
  refine RL.p rfl rfl ?_
  refine RL.op (.free rfl) rfl rfl (Does.call rfl e97 (endF_ok (h.grow hg2))) ?_
  rintro _ _ ⟨rfl, rfl⟩
  iterate 5 refine RL.p rfl rfl ?_
  refine RL.done ?_
  refine RK.seq ?_
  refine RK.region ?_
  iterate 3 refine RL.p rfl rfl ?_
  refine RL.knownT (d := 17) rfl rfl (rfl) ?_
  iterate 4 refine RL.no (.no rfl rfl rfl rfl) rfl rfl ?_
  refine RL.p rfl rfl ?_
  refine RL.done ?_
  refine RK.condT rfl ?_
  refine RK.seq ?_
  refine RK.region ?_
  refine RL.q (.free rfl) rfl rfl (Yld.build (v := .agg (reqC ⟨#[]⟩ 0).toArray) rfl (fun w => by kernel_rfl)) ?_
  refine RL.op' (.free rfl) rfl (Does.storeN i57 rfl rfl rfl rfl hn6.blk (Nat.le_refl 19)) ?_
  rintro _ w4 ⟨hb4, hm4, hs4⟩
  refine RL.p rfl rfl ?_
  refine RL.done ?_
  refine RK.ret_of Tryz.func94 (resCT (cs := reqC ⟨#[]⟩ 0) rfl rfl a57 hb4 rfl) ?_ _
  exact ⟨_, rfl, rfl, hg2.then hm4 (fun b hb e => by have e' : b = b6 := e; have := hn6.at_; have := hn3.grow.size; omega)⟩
theorem reqRd1_ok (w : World) (ad : Option Addr) (c : Nat) (hv : Sl No w (.slice ad 6 c) 1 6 (bytesV [4, 114, 111, 111, 116, 1])) (hcap : 6 ≤ c) : Fx Tryz.prog 63 [.slice ad 6 c] w (fun u w' => u = .tuple #[.agg (reqC root 1).toArray, .bool true] ∧ Grow w w') := by
  have hs := hv.off (M' := (w.heap.size ≤ ·)) (by omega) (fun b hb e => by omega)
  refine enter Tryz.func63 rfl rfl rfl _ (Pick.sub (l := [0]) (.cons rfl .nil)) ?_
  refine RK.seq ?_
  refine RK.region ?_
  refine RL.op (.free rfl) rfl rfl (Does.alloc i57) ?_
  rintro _ w2 ⟨b2, rfl, hn2⟩
  have ha2 := hn2.at_
  have hz2 := hn2.size
  refine RL.p rfl rfl ?_
  refine RL.done ?_
  refine RK.seq ?_
  refine RK.region ?_
  refine RL.p rfl rfl ?_
  refine RL.op (.free rfl) rfl rfl (Does.call rfl e89 (pnew_ok w.heap.size w2 ad c [4, 114, 111, 111, 116, 1] (hs.mod (Mod.any' hn2.grow)) (by omega) hcap)) ?_
  rintro _ w3 ⟨p, rfl, hp, h3, hg3⟩
  have hz3 := hg3.size
  have hplt := h3.blk.lt
  have hg03 := hn2.grow.trans hg3
  have hq3 : Mod (b2 < ·) w2 w3 := Mod.any' hg3
  refine RL.p rfl rfl ?_
  refine RL.done ?_
  refine RK.seq ?_
  refine RK.region ?_
  refine RL.p rfl rfl ?_
  refine RL.op (.free rfl) rfl rfl (Does.call rfl e90 (textT_ok h3 4 (by decide) [114, 111, 111, 116, 1] rfl 16 (by decide) (by decide) (by decide))) ?_
  rintro _ w4 ⟨rfl, h4, hm4⟩
  have hg04 := hg03.then hm4 (fun b hb e => by have e' : b = p := e; omega)
  have hq4 := hq3.trans (hm4.mono fun b _ e => by have e' : b = p := e; omega)
  refine RL.p rfl rfl ?_
  refine RL.done ?_
  refine RK.seq ?_
  refine RK.region ?_
  iterate 2 refine RL.p rfl rfl ?_
  refine RL.op (.free rfl) rfl rfl (Does.call rfl e92 (tokenIs_ok _ _)) ?_
  rintro _ _ ⟨rfl, rfl⟩
  refine RL.op (.free rfl) rfl rfl (Does.call rfl e91 (refuseT_ok h4)) ?_
  rintro _ w5 ⟨h5, hm5⟩
  have hg05 := hg04.then hm5 (fun b hb e => by have e' : b = p := e; omega)
  have hq5 := hq4.trans (hm5.mono fun b _ e => by have e' : b = p := e; omega)
  refine RL.done ?_
  refine RK.seq ?_
  refine RK.region ?_
  refine RL.p rfl rfl ?_
  refine RL.op (.free rfl) rfl rfl (Does.call rfl e93 (reqRead1_ok h5 rfl)) ?_
  rintro _ w6 ⟨rfl, h6, hm6⟩
  have hg06 := hg05.then hm6 (fun b hb e => by have e' : b = p := e; omega)
  have hq6 := hq5.trans (hm6.mono fun b _ e => by have e' : b = p := e; omega)
  have hz6 := hg06.size
  have hz36 := hq6.size
  refine RL.op (.free rfl) rfl rfl (Does.alloc i57) ?_
  rintro _ w7 ⟨b7, rfl, hn7⟩
  have ha7 := hn7.at_
  refine RL.op' (.free rfl) rfl (Does.storeN i57 rfl rfl rfl rfl hn7.blk (Nat.le_refl 19)) ?_
  rintro _ w8 ⟨hb8, hm8, hs8⟩
  have hB8 : Blk w8 b7 57 (reqC ⟨#[]⟩ 1) := hb8
  have hplt6 := h6.blk.lt
  have h8 := (h6.grow hn7.grow).mod hm8 (fun e => by have e' : p = b7 := e; omega) (fun b e => by have e' : b = b7 := e; omega)
  have hg08 := (hg06.trans hn7.grow).then hm8 (fun b hb e => by have e' : b = b7 := e; omega)
  have hq8 := (hq6.trans (Mod.any' hn7.grow)).trans (hm8.mono fun b _ e => by have e' : b = b7 := e; omega)
  refine RL.done ?_
  refine RK.seq ?_
  refine RK.region ?_
  refine RL.p rfl rfl ?_
  refine RL.q (.free rfl) rfl rfl (Yld.fieldAddr fo57_0 rfl) ?_
  refine RL.op' (.free rfl) rfl (Does.store i9 rfl rfl rfl hB8 (.z)) ?_
  rintro _ w9 ⟨hb9, hm9, hs9⟩
  have hB9 : Blk w9 b7 57 (reqC root 1) := hb9
  have h9 := h8.mod hm9 (fun e => by have e' : p = b7 := e; omega) (fun b e => by have e' : b = b7 := e; omega)
  have hg09 := hg08.then hm9 (fun b hb e => by have e' : b = b7 := e; omega)
  have hq9 := hq8.trans (hm9.mono fun b _ e => by have e' : b = b7 := e; omega)
  refine RL.done ?_
  refine RK.seq ?_
  refine RK.region ?_
  refine RL.q (.free rfl) rfl rfl (Yld.loadN (cs := reqC root 1) a57 rfl (atN (blkV hB9))) ?_
  iterate 2 refine RL.p rfl rfl ?_
  refine RL.op (.free rfl) rfl rfl (Does.call rfl e94 (wholeT_ok (bs := [4, 114, 111, 111, 116, 1]) h9 _ _)) ?_
  rintro _ w10 ⟨rfl, hg10⟩
  have hq10 := hq9.trans (Mod.any' hg10)
  have hg010 := hg09.trans hg10
  iterate 2 refine RL.p rfl rfl ?_
  refine RL.op' (.free rfl) rfl (Does.storeN i57 rfl rfl rfl rfl (hn2.blk.mod hq10 (fun e => Nat.lt_irrefl _ e)) (Nat.le_refl 19)) ?_
  rintro _ w11 ⟨hb11, hm11, hs11⟩
  refine RL.p rfl rfl ?_
  refine RL.done ?_
  refine RK.ret_of Tryz.func63 (resCT (cs := reqC root 1) rfl rfl a57 hb11 rfl) ?_ _
  exact ⟨_, rfl, rfl, hg010.then hm11 (fun b hb e => by have e' : b = b2 := e; omega)⟩
theorem reqRd0_ok (w : World) (ad : Option Addr) (c : Nat) (hv : Sl No w (.slice ad 1 c) 1 1 (bytesV [9])) (hcap : 1 ≤ c) : Fx Tryz.prog 63 [.slice ad 1 c] w (fun u w' => u = .tuple #[.agg (reqC ⟨#[]⟩ 0).toArray, .bool false] ∧ Grow w w') := by
  have hs := hv.off (M' := (w.heap.size ≤ ·)) (by omega) (fun b hb e => by omega)
  refine enter Tryz.func63 rfl rfl rfl _ (Pick.sub (l := [0]) (.cons rfl .nil)) ?_
  refine RK.seq ?_
  refine RK.region ?_
  refine RL.op (.free rfl) rfl rfl (Does.alloc i57) ?_
  rintro _ w2 ⟨b2, rfl, hn2⟩
  have ha2 := hn2.at_
  have hz2 := hn2.size
  refine RL.p rfl rfl ?_
  refine RL.done ?_
  refine RK.seq ?_
  refine RK.region ?_
  refine RL.p rfl rfl ?_
  refine RL.op (.free rfl) rfl rfl (Does.call rfl e89 (pnew_ok w.heap.size w2 ad c [9] (hs.mod (Mod.any' hn2.grow)) (by omega) hcap)) ?_
  rintro _ w3 ⟨p, rfl, hp, h3, hg3⟩
  have hz3 := hg3.size
  have hplt := h3.blk.lt
  have hg03 := hn2.grow.trans hg3
  have hq3 : Mod (b2 < ·) w2 w3 := Mod.any' hg3
  refine RL.p rfl rfl ?_
  refine RL.done ?_
  refine RK.seq ?_
  refine RK.region ?_
  refine RL.p rfl rfl ?_
  refine RL.op (.free rfl) rfl rfl (Does.call rfl e90 (textF_ok h3 9 (by decide) [] rfl 16 (by decide) (by decide))) ?_
  rintro _ w4 ⟨rfl, h4, hm4⟩
  have hg04 := hg03.then hm4 (fun b hb e => by have e' : b = p := e; omega)
  have hq4 := hq3.trans (hm4.mono fun b _ e => by have e' : b = p := e; omega)
  refine RL.p rfl rfl ?_
  refine RL.done ?_
  refine RK.seq ?_
  refine RK.region ?_
  iterate 2 refine RL.p rfl rfl ?_
  refine RL.op (.free rfl) rfl rfl (Does.call rfl e92 (tokenIs_ok _ _)) ?_
  rintro _ _ ⟨rfl, rfl⟩
  refine RL.op (.free rfl) rfl rfl (Does.call rfl e91 (refuseF_ok h4 false (by simp))) ?_
  rintro _ w5 ⟨h5, hm5⟩
  have hg05 := hg04.then hm5 (fun b hb e => by have e' : b = p := e; omega)
  have hq5 := hq4.trans (hm5.mono fun b _ e => by have e' : b = p := e; omega)
  refine RL.done ?_
  refine RK.seq ?_
  refine RK.region ?_
  refine RL.p rfl rfl ?_
  refine RL.op (.free rfl) rfl rfl (Does.call rfl e93 (reqRead0_ok h5)) ?_
  rintro _ w6 ⟨rfl, h6, hm6⟩
  have hg06 := hg05.then hm6 (fun b hb e => by have e' : b = p := e; omega)
  have hq6 := hq5.trans (hm6.mono fun b _ e => by have e' : b = p := e; omega)
  have hz6 := hg06.size
  have hz36 := hq6.size
  refine RL.op (.free rfl) rfl rfl (Does.alloc i57) ?_
  rintro _ w7 ⟨b7, rfl, hn7⟩
  have ha7 := hn7.at_
  refine RL.op' (.free rfl) rfl (Does.storeN i57 rfl rfl rfl rfl hn7.blk (Nat.le_refl 19)) ?_
  rintro _ w8 ⟨hb8, hm8, hs8⟩
  have hB8 : Blk w8 b7 57 (reqC ⟨#[]⟩ 0) := hb8
  have hplt6 := h6.blk.lt
  have h8 := (h6.grow hn7.grow).mod hm8 (fun e => by have e' : p = b7 := e; omega) (fun b e => by have e' : b = b7 := e; omega)
  have hg08 := (hg06.trans hn7.grow).then hm8 (fun b hb e => by have e' : b = b7 := e; omega)
  have hq8 := (hq6.trans (Mod.any' hn7.grow)).trans (hm8.mono fun b _ e => by have e' : b = b7 := e; omega)
  refine RL.done ?_
  refine RK.seq ?_
  refine RK.region ?_
  refine RL.p rfl rfl ?_
  refine RL.q (.free rfl) rfl rfl (Yld.fieldAddr fo57_0 rfl) ?_
  refine RL.op' (.free rfl) rfl (Does.store i9 rfl rfl rfl hB8 (.z)) ?_
  rintro _ w9 ⟨hb9, hm9, hs9⟩
  have hB9 : Blk w9 b7 57 (reqC ⟨#[]⟩ 0) := hb9
  have h9 := h8.mod hm9 (fun e => by have e' : p = b7 := e; omega) (fun b e => by have e' : b = b7 := e; omega)
  have hg09 := hg08.then hm9 (fun b hb e => by have e' : b = b7 := e; omega)
  have hq9 := hq8.trans (hm9.mono fun b _ e => by have e' : b = b7 := e; omega)
  refine RL.done ?_
  refine RK.seq ?_
  refine RK.region ?_
  refine RL.q (.free rfl) rfl rfl (Yld.loadN (cs := reqC ⟨#[]⟩ 0) a57 rfl (atN (blkV hB9))) ?_
  iterate 2 refine RL.p rfl rfl ?_
  refine RL.op (.free rfl) rfl rfl (Does.call rfl e94 (wholeF_ok h9 _)) ?_
  rintro _ w10 ⟨rfl, hg10⟩
  have hq10 := hq9.trans (Mod.any' hg10)
  have hg010 := hg09.trans hg10
  iterate 2 refine RL.p rfl rfl ?_
  refine RL.op' (.free rfl) rfl (Does.storeN i57 rfl rfl rfl rfl (hn2.blk.mod hq10 (fun e => Nat.lt_irrefl _ e)) (Nat.le_refl 19)) ?_
  rintro _ w11 ⟨hb11, hm11, hs11⟩
  refine RL.p rfl rfl ?_
  refine RL.done ?_
  refine RK.ret_of Tryz.func63 (resCT (cs := reqC ⟨#[]⟩ 0) rfl rfl a57 hb11 rfl) ?_ _
  exact ⟨_, rfl, rfl, hg010.then hm11 (fun b hb e => by have e' : b = b2 := e; omega)⟩
theorem Does.insert {P : Program} {n : Nat} {e : Env} {w : World} {κ : Type} [DecidableEq κ] {enc : κ → Value} {d : Option Tmp} {t kt el : Nat} {x i y : Operand} {ty : TypeId} {pos : String} {af : Array Edge} {g : Option (Nat × Bool)} (hT : P.underlying t = some (.map kt el)) (hK : KeyLaw P kt enc) {m : Nat} {k : κ} {v : Value} {l : List (κ × Value)}
    (hx : ev e x = some (.map (some m))) (hi : ev e i = some (enc k)) (hy : ev e y = some v) (hm : MapAt enc w m l) :
    Does P n e w ⟨d, .insert t x i y, ty, pos, af, g⟩ (fun _ w' => MapAt enc w' m (putM l k v) ∧ Mod (· = m) w w' ∧ w'.heap.size = w.heap.size) := by
  intro a ha K K' hk
  have h := Does.mapUpdate (P := P) (n := n) (d := d) (ty := ty) (pos := pos) (af := af) (g := g) hT hK hx hi hy hm a ha K K' hk
  unfold Oper.wp at h ⊢
  exact h
abbrev It := Bool × Nat × Value
@[reducible] def itC (x : It) : List Value := [.bool x.1, .int .u64 (x.2.1 : Int), x.2.2]
theorem itC_len (x : It) : (itC x).length = 3 := rfl
@[reducible] def logC (vi va : Value) : List Value := [.string root, .int .i64 0, .int .i64 0, .int .i64 0, .int .i64 0, .int .i64 0, .int .i64 0, .int .i64 0, .int .u64 0, vi, va]
@[reducible] def wkC (vi va : Value) (m : Nat) (now : Int) : List Value := [.string root, .int .i64 0, .int .i64 0, .int .i64 0, .int .i64 0, .int .i64 0, .int .i64 0, .int .i64 0, .int .u64 0, vi, va, .map (some m), .int .u64 now]
@[reducible] def placeC (i : Int) (tick asks : Bool) (req : List Value) (owner : Int) (reads : Bool) (resp : List Value) (ok : Bool) (now : Int) : List Value := [.int .i64 i, .bool tick, .bool asks] ++ req ++ [.int .i64 owner, .bool reads] ++ resp ++ [.bool ok, .int .u64 now]
structure Lg (w : World) (vi va : Value) (xs : List It) (qs : List Value) : Prop where
  it : Sl No w vi 3 xs.length (xs.flatMap itC)
  an : Sl No w va 1 qs.length qs
structure WkAt (w : World) (p m : Nat) (vi va : Value) (now : Int) : Prop where
  blk : Blk w p 90 (wkC vi va m now)
  map : MapAt Value.string w m [(root, .int .i64 0)]
theorem WkAt.grow {w w' : World} {p m : Nat} {vi va : Value} {now : Int} (h : WkAt w p m vi va now) (hg : Grow w w') : WkAt w' p m vi va now := ⟨h.blk.mod hg (fun h => h), h.map.mod hg (fun h => h)⟩
end Go.Proofs.YtghcdngegadkaaaGreat
