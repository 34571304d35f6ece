/- What the claim stands on, part 4. Of own lemmas only those that it reaches. -/
import Derived.Test.YtnnmgfnhblbolaaGreatDoorKc3
set_option linter.unusedVariables false
set_option linter.unusedSimpArgs false
set_option maxHeartbeats 1000000
set_option maxRecDepth 100000
namespace Go.Proofs.YtnnmgfnhblbolaaGreatDoor
open Go Go.X Go.Rex
theorem sign_ok' (w : World) (p : Nat) (s : ByteArray) (i : Nat) (h : PA w p s i false) (hi : i ≤ s.size) (hs : s.size ≤ 40) : Fx Tryz.prog 360 [pp p] w (fun u w' => ∃ (c j : Nat) (bad : Bool), u = .int .u8 (c : Int) ∧ c < 256 ∧ j ≤ s.size ∧ PA w' p s j bad ∧ signS s i = (if bad then none else some (c, j)) ∧ Mod (· = p) w w') := by
  refine Fx.mono (sign_ok w p s i h hi hs) ?_
  rintro u w' ⟨hr, hm⟩
  cases hmm : signS s i with
  | none =>
    rw [hmm] at hr
    obtain ⟨c, j, h1, h2, h3, h4⟩ := hr
    exact ⟨c, j, true, h2, h1, h4, h3, rfl, hm⟩
  | some q =>
    obtain ⟨c, j⟩ := q
    rw [hmm] at hr
    have := signS_adv hmm
    exact ⟨c, j, false, hr.1, this.2.2, this.2.1, hr.2, rfl, hm⟩
structure Cel where
  op : Int
  a : Nat
  b : Nat
  c : Nat
  d : Nat
  ad : Option Addr
  n : Nat
  cap : Nat
def celC (k : Cel) : List Value := [.int .i64 k.op, .int .u64 (k.a : Int), .int .u64 (k.b : Int), .int .u64 (k.c : Int), .int .u64 (k.d : Int), .slice k.ad k.n k.cap]
theorem celC_len (k : Cel) : (celC k).length = 6 := rfl
def RxV (M : Nat → Prop) (w : World) : Rx → List Cel → Prop
  | .set t, ks => ∃ a b c d : Nat, t = [a, b, c, d] ∧ ks = [⟨1, a, b, c, d, none, 0, 0⟩]
  | .node op l, ks => ∃ ad n cap kss, (ks = [⟨(op : Int), 0, 0, 0, 0, ad, n, cap⟩] ∧ n ≤ cap) ∧ Sl M w (.slice ad n cap) 6 kss.length (kss.flatMap celC) ∧ RxV M w l kss
  | .nil, ks => ks = []
  | .cons x l, ks => ∃ c ks', ks = c :: ks' ∧ RxV M w x [c] ∧ RxV M w l ks'
theorem RxV.mod {M M0 : Nat → Prop} {w w' : World} (hm : Mod M0 w w') (h0 : ∀ b, b < w.heap.size → M0 b → M b) : ∀ (x : Rx) {ks : List Cel}, RxV M w x ks → RxV M w' x ks
  | .set t, _, h => h
  | .node op l, _, ⟨ad, n, cap, kss, h1, h2, h3⟩ => ⟨ad, n, cap, kss, h1, h2.mod (hm.mono h0), RxV.mod hm h0 l h3⟩
  | .nil, _, h => h
  | .cons x l, _, ⟨c, ks', h1, h2, h3⟩ => ⟨c, ks', h1, RxV.mod hm h0 x h2, RxV.mod hm h0 l h3⟩
theorem RxV.off {M M' : Nat → Prop} {w : World} (h0 : ∀ b, b < w.heap.size → M' b → M b) : ∀ (x : Rx) {ks : List Cel}, RxV M w x ks → RxV M' w x ks
  | .set t, _, h => h
  | .node op l, _, ⟨ad, n, cap, kss, h1, h2, h3⟩ => ⟨ad, n, cap, kss, h1, h2.off (by omega) h0, RxV.off h0 l h3⟩
  | .nil, _, h => h
  | .cons x l, _, ⟨c, ks', h1, h2, h3⟩ => ⟨c, ks', h1, RxV.off h0 x h2, RxV.off h0 l h3⟩
theorem RxV.grow {M : Nat → Prop} {w w' : World} (hg : Grow w w') (x : Rx) {ks : List Cel} (h : RxV M w x ks) : RxV M w' x ks := h.mod hg (fun _ _ h => h.elim) x
def Old (w : World) : Nat → Prop := fun b => b < w.heap.size
def RT (w w' : World) (p : Nat) (s : ByteArray) (r : Option (Rx × Nat)) (u : Value) : Prop := ∃ (c : Cel) (j : Nat) (bad : Bool), u = .agg (celC c).toArray ∧ j ≤ s.size ∧ PA w' p s j bad ∧ (bad = true → r = none) ∧ (bad = false → ∃ x, r = some (x, j) ∧ RxV (Old w) w' x [c])
def GrpOk (p : Nat) (s : ByteArray) (d : Nat) (g : Nat → Option (Rx × Nat)) : Prop := d < 8 → ∀ w i, PA w p s i false → i ≤ s.size → Fx Tryz.prog 293 [pp p, .int .i64 ((d + 1 : Nat) : Int)] w (fun u w' => RT w w' p s (g i) u ∧ Mod (· = p) w w')
def setC (l : List Nat) : List Value := .int .i64 1 :: (wds l ++ [.slice none 0 0])
theorem blk_mid {w : World} {b t : Nat} {a : Value} {ws rest : List Value} (h : Blk w b t (a :: (ws ++ rest))) : ∀ (j : Nat) (u : Value), ws[j]? = some u → w.cell? ⟨b, 0 + 1 + j, none⟩ = some u := fun j u hj => by
  have hl := (List.getElem?_eq_some_iff.1 hj).1
  refine h.cell' ?_
  rw [show 0 + 1 + j = j + 1 by omega, List.getElem?_cons_succ, List.getElem?_append_left hl]
  exact hj
theorem add_cel (w : World) (b t : Nat) (l : List Nat) (hB : Blk w b t (setC l)) (hl : W4 l) (c : Nat) (h256 : c < 256) :
    Fx Tryz.prog 359 [.pointer (some ⟨b, 0 + 1, none⟩), .int .u8 (c : Int)] w (fun u w' => u = .tuple #[] ∧ Blk w' b t (setC (setBit l c)) ∧ Mod (· = b) w w') := by
  have h4 := hl.1
  have hw : (wds l).length = 4 := by simp [h4]
  refine Fx.mono (add1_ok w b (0 + 1) _ _ l hB hl (fun j hj => by unfold setC; rw [show 0 + 1 + j = j + 1 by omega, List.getElem?_cons_succ, List.getElem?_append_left (by omega)]) (by simp [setC, h4]) c h256) ?_
  rintro u w' ⟨rfl, h1, h2⟩
  refine ⟨rfl, ?_, h2⟩
  have e : (setC l).set (0 + 1 + c / 64) (.int .u64 ((((l[c / 64]?).getD 0) ||| 1 <<< (c % 64) : Nat) : Int)) = setC (setBit l c) := by
    unfold setC
    rw [show 0 + 1 + c / 64 = c / 64 + 1 by omega, List.set_cons_succ, List.set_append_left _ _ (by omega), wds_bit hl h256]
  rw [e] at h1
  exact h1
theorem W4.four {l : List Nat} (h : W4 l) : ∃ a b c d, l = [a, b, c, d] := by
  obtain ⟨h4, _⟩ := h
  match l, h4 with
  | [a, b, c, d], _ => exact ⟨a, b, c, d, rfl⟩
theorem atom_ok (s : ByteArray) (hs : s.size ≤ 40) (p d : Nat) (hd : d ≤ 8) (g : Nat → Option (Rx × Nat)) (hg8 : d = 8 → ∀ i, g i = none) (hgw : GrpOk p s d g)
    (w : World) (i : Nat) (h : PA w p s i false) (hi : i < s.size) (h124 : b8 s i ≠ 124) (h41 : b8 s i ≠ 41) :
    Fx Tryz.prog 350 [pp p, .int .i64 (d : Int)] w (fun u w' => RT w w' p s (atomS s g i) u ∧ Mod (· = p) w w') := by
  have hplt := h.lt
  have hc := b8_lt s i
  refine enter Tryz.func350 rfl rfl rfl _ (Pick.sub (l := [0, 1]) (.cons rfl (.cons rfl .nil))) ?_
  refine RK.seq ?_
  refine RK.region ?_
  refine RL.op (.free rfl) rfl rfl (Does.alloc i327) ?_
  rintro _ w1 ⟨b4, rfl, hn4⟩
  have hb4 := hn4.at_
  have hg4 := hn4.grow
  refine RL.done ?_
  refine RK.seq ?_
  refine RK.region ?_
  refine RL.q (.free rfl) rfl rfl (Yld.build (v := .agg #[.int .i64 1, .int .u64 0, .int .u64 0, .int .u64 0, .int .u64 0, .slice none 0 0]) rfl (fun w => by kernel_rfl)) ?_
  refine RL.op (.free rfl) rfl rfl (Does.alloc i327) ?_
  rintro _ w2 ⟨b5, rfl, hn5⟩
  have hb5 := hn5.at_
  have hb5s := hn5.size
  have hb4s := hn4.size
  refine RL.op' (.free rfl) rfl (Does.storeN i327 rfl rfl rfl rfl hn5.blk (Nat.le_refl 6)) ?_
  rintro _ w3 ⟨hb3, hm3, _⟩
  have hB3 : Blk w3 b5 327 (setC zero4) := hb3
  have hb4p' : b4 ≠ p := by omega
  have hb5p : b5 ≠ p := by omega
  have hb45 : b4 ≠ b5 := by omega
  have hm13 : Mod (fun b => b = p ∨ b = b5) w1 w3 := (Mod.any' hn5.grow).trans (hm3.mono fun b _ e => .inr e)
  have hb4p : ¬ (b4 = p ∨ b4 = b5) := by omega
  have hMp : ∀ x, x < w.heap.size → (x = p ∨ x = b5) → x = p := fun x hx e => by omega
  have hP3 : PA w3 p s i false := ((h.mod hg4 (fun h => h)).mod hn5.grow (fun h => h)).mod hm3 (by omega)
  refine RL.done ?_
  iterate 2 refine RK.seq ?_
  refine RK.region ?_
  refine RL.p rfl rfl ?_
  refine RL.op (.free rfl) rfl rfl (Does.call rfl e356 (byte_yes _ p s i hP3 hi (by omega))) ?_
  rintro _ w4 ⟨rfl, hP4, hm4⟩
  have hB4 := hB3.mod hm4 hb5p
  have hm14 : Mod (fun b => b = p ∨ b = b5) w1 w4 := hm13.trans (hm4.mono fun b _ e => .inl e)
  refine RL.p rfl rfl ?_
  refine RL.done ?_
  refine RK.seq ?_
  refine RK.region ?_
  refine RL.p rfl rfl ?_
  refine RL.done ?_
  refine RK.block ?_
  refine RK.seq ?_
  refine RK.region ?_
  iterate 2 refine RL.p rfl rfl ?_
  refine RL.done ?_
  first | refine RK.condD rfl (fun h26 => ?_) (fun h26 => ?_) | refine RK.condN rfl (fun h26 => ?_) (fun h26 => ?_) | refine RK.cond rfl (fun h26 => ?_) (fun h26 => ?_)
  · have h40 : b8 s i = 40 := by omega
    have hat : atomS s g i = grpS s (g (i + 1)) := by unfold atomS; rw [if_pos h40]
    refine RK.seq ?_
    refine RK.region ?_
    iterate 3 refine RL.p rfl rfl ?_
    refine RL.q (.free rfl) rfl rfl (Yld.fieldAddr fo362_2 rfl) ?_
    refine RL.q (.free rfl) rfl rfl (Yld.load p4 rfl (at1 (hP4.cell rfl))) ?_
    refine RL.p rfl rfl ?_
    refine RL.knownF (d := 33) rfl rfl (rfl) ?_
    iterate 2 refine RL.q (.yes rfl rfl rfl) rfl rfl (Yld.pure rfl) ?_
    iterate 2 refine RL.p rfl rfl ?_
    refine RL.q (.free rfl) rfl rfl (Yld.fieldAddr fo362_2 rfl) ?_
    refine RL.op' (.free rfl) rfl (Does.store i4 rfl rfl rfl hP4 (.s (.s .z))) ?_
    rintro _ w5 ⟨hP5, hm5, _⟩
    have hB5 := hB4.mod hm5 hb5p
    have hm15 : Mod (fun b => b = p ∨ b = b5) w1 w5 := hm14.trans (hm5.mono fun b _ e => .inl e)
    refine RL.done ?_
    iterate 2 refine RK.seq ?_
    refine RK.region ?_
    iterate 2 refine RL.p rfl rfl ?_
    refine RL.q (.free rfl) rfl rfl (Yld.fieldAddr fo362_2 rfl) ?_
    refine RL.q (.free rfl) rfl rfl (Yld.load p4 rfl (at1 (Blk.cell hP5 rfl))) ?_
    refine RL.p rfl rfl ?_
    refine RL.done ?_
    first | refine RK.condD rfl (fun h43 => ?_) (fun h43 => ?_) | refine RK.condN rfl (fun h43 => ?_) (fun h43 => ?_) | refine RK.cond rfl (fun h43 => ?_) (fun h43 => ?_)
    · have hd8 : d < 8 := by have h := h43; first | omega | (simp at h; omega)
      have hP5' : PA w5 p s (i + 1) false := by rw [show false = decide ((d : Int) = 8) from (decide_eq_false (by omega)).symm]; exact hP5
      refine RK.region ?_
      iterate 3 refine RL.p rfl rfl ?_
      refine RL.re (d := 46) rfl rfl (add_i64 (z := ((d + 1 : Nat) : Int)) (by omega) (by omega) (by omega)) ?_
      refine RL.op (.free rfl) rfl rfl (Does.call rfl e293 (hgw hd8 _ (i + 1) hP5' (by omega))) ?_
      rintro _ w6 ⟨⟨c, j, bad, rfl, hj, hP6, hno, hyes⟩, hm6⟩
      have hB6 := hB5.mod hm6 hb5p
      refine RL.op' (.free rfl) rfl (Does.storeN i327 rfl rfl rfl rfl hB6 (Nat.le_refl 6)) ?_
      rintro _ w7 ⟨hb7, hm7, _⟩
      have hB7 : Blk w7 b5 327 (celC c) := hb7
      have hP7 : PA w7 p s j bad := hP6.mod hm7 (by omega)
      have hm17 : Mod (fun b => b = p ∨ b = b5) w1 w7 := (hm15.trans (hm6.mono fun b _ e => .inl e)).trans (hm7.mono fun b _ e => .inr e)
      have hs5 := hm15.size
      refine RL.done ?_
      refine RK.region ?_
      iterate 2 refine RL.p rfl rfl ?_
      refine RL.op (.free rfl) rfl rfl (Does.call rfl e316 (next_ok _ p s j bad hP7 (by omega) 41)) ?_
      rintro _ w8 ⟨rfl, hP8, hm8⟩
      have hB8 := hB7.mod hm8 hb5p
      iterate 2 refine RL.p rfl rfl ?_
      first | refine RL.splitD (d := 52) rfl rfl (fun h52 => ?_) (fun h52 => ?_) | refine RL.splitN (d := 52) rfl rfl (fun h52 => ?_) (fun h52 => ?_) | refine RL.split (d := 52) rfl rfl (fun h52 => ?_) (fun h52 => ?_)
      · have hse : seesS s j bad 41 = false := by simpa using h52
        rw [hse] at hP8
        iterate 4 refine RL.no (.no rfl rfl rfl rfl) rfl rfl ?_
        iterate 2 refine RL.p rfl rfl ?_
        refine RL.q (.free rfl) rfl rfl (Yld.fieldAddr fo362_2 rfl) ?_
        refine RL.op' (.free rfl) rfl (Does.store i4 rfl rfl rfl hP8 (.s (.s .z))) ?_
        rintro _ w9 ⟨hP9, hm9, _⟩
        have hB9 := hB8.mod hm9 hb5p
        have hm19' : Mod (fun b => b = p ∨ b = b5) w1 w9 := (hm17.trans (hm8.mono fun b _ e => .inl e)).trans (hm9.mono fun b _ e => .inl e)
        have hP9' : PA w9 p s j true := hP9
        have hnone : atomS s g i = none := by
            rw [hat]
            cases hb : bad with
            | true => rw [hno hb]; rfl
            | false =>
              obtain ⟨x, hx, _⟩ := hyes hb
              rw [hx]
              show (if j < s.size ∧ b8 s j = 41 then some (x, j + 1) else none) = none
              rw [if_neg (fun h => by simp [seesS, hb, h] at hse)]
        refine RL.done ?_
        refine RK.inBlock ?_
        refine RK.seq ?_
        refine RK.region ?_
        refine RL.q (.free rfl) rfl rfl (Yld.loadN (cs := celC c) a327 rfl (atN (blk0' hB9))) ?_
        refine RL.op' (.free rfl) rfl (Does.storeN i327 rfl rfl rfl rfl (hn4.blk.mod hm19' hb4p) (Nat.le_refl 6)) ?_
        rintro _ w19 ⟨hb19, hm19, _⟩
        refine RL.done ?_
        refine RK.ret_of Tryz.func350 (resC (cs := celC c) rfl rfl a327 hb19) ?_ _
        exact ⟨_, rfl, ⟨c, j, true, rfl, by omega, Blk.mod hP9' hm19 (Ne.symm hb4p'), fun _ => hnone, fun e => (by cases e)⟩, (((Mod.any' hg4 : Mod (· = p) w w1).then hm19' hMp)).then hm19 (fun b hb e => by have e' : b = b4 := e; omega)⟩
      · have hse : bad = false ∧ j < s.size ∧ b8 s j = 41 := by simpa [seesS] using h52
        obtain ⟨hb, hjs, hj41⟩ := hse
        subst hb
        have hse : seesS s j false 41 = true := by simp [seesS, hjs, hj41]
        rw [hse] at hP8
        iterate 2 refine RL.q (.yes rfl rfl rfl) rfl rfl (Yld.pure rfl) ?_
        refine RL.q (.yes rfl rfl rfl) rfl rfl (Yld.fieldAddr fo362_2 rfl) ?_
        refine RL.q (.yes rfl rfl rfl) rfl rfl (Yld.load p4 rfl (at1 (hP8.cell rfl))) ?_
        iterate 2 refine RL.p rfl rfl ?_
        refine RL.q (.free rfl) rfl rfl (Yld.fieldAddr fo362_2 rfl) ?_
        refine RL.op' (.free rfl) rfl (Does.store i4 rfl rfl rfl hP8 (.s (.s .z))) ?_
        rintro _ w9 ⟨hP9, hm9, _⟩
        have hB9 := hB8.mod hm9 hb5p
        have hm19' : Mod (fun b => b = p ∨ b = b5) w1 w9 := (hm17.trans (hm8.mono fun b _ e => .inl e)).trans (hm9.mono fun b _ e => .inl e)
        have hP9' : PA w9 p s (j + 1) false := hP9
        obtain ⟨x, hx, hrx⟩ := hyes rfl
        have hsome : atomS s g i = some (x, j + 1) := by rw [hat, hx]; show (if j < s.size ∧ b8 s j = 41 then some (x, j + 1) else none) = _; rw [if_pos ⟨hjs, hj41⟩]
        have hm69 : Mod (fun b => b = p ∨ b = b5) w6 w9 := ((hm7.mono fun b _ e => .inr e).trans (hm8.mono fun b _ e => .inl e)).trans (hm9.mono fun b _ e => .inl e)
        have hs1 := hg4.size
        have hl05 : ∀ b, Old w b → Old w5 b := fun b e => by unfold Old at *; omega
        have hb5o := hB5.lt
        have hb4o : Old w5 b4 := by unfold Old; omega
        have hrx9 := RxV.mod hm69 (fun b _ e => by unfold Old; rcases e with e | e <;> omega) x hrx
        refine RL.done ?_
        refine RK.inBlock ?_
        refine RK.seq ?_
        refine RK.region ?_
        refine RL.q (.free rfl) rfl rfl (Yld.loadN (cs := celC c) a327 rfl (atN (blk0' hB9))) ?_
        refine RL.op' (.free rfl) rfl (Does.storeN i327 rfl rfl rfl rfl (hn4.blk.mod hm19' hb4p) (Nat.le_refl 6)) ?_
        rintro _ w19 ⟨hb19, hm19, _⟩
        refine RL.done ?_
        refine RK.ret_of Tryz.func350 (resC (cs := celC c) rfl rfl a327 hb19) ?_ _
        exact ⟨_, rfl, ⟨c, (j + 1), false, rfl, by omega, Blk.mod hP9' hm19 (Ne.symm hb4p'), fun e => (by cases e), fun _ => ⟨x, hsome, RxV.off (fun b _ e => hl05 b e) x (RxV.mod hm19 (fun b _ e => by have e' : b = b4 := e; rw [e']; exact hb4o) x hrx9)⟩⟩, (((Mod.any' hg4 : Mod (· = p) w w1).then hm19' hMp)).then hm19 (fun b hb e => by have e' : b = b4 := e; omega)⟩
    · have hd8 : d = 8 := by have h := h43; first | omega | (simp at h; omega)
      have hP5' : PA w5 p s (i + 1) true := by rw [show true = decide ((d : Int) = 8) from (decide_eq_true (by omega)).symm]; exact hP5
      have hse : seesS s (i + 1) true 41 = false := rfl
      refine RK.skip ?_
      refine RK.region ?_
      iterate 2 refine RL.p rfl rfl ?_
      refine RL.op (.free rfl) rfl rfl (Does.call rfl e316 (next_ok _ p s (i + 1) true hP5' (by omega) 41)) ?_
      rintro _ w8 ⟨rfl, hP8, hm8⟩
      rw [hse] at hP8 ⊢
      iterate 2 refine RL.p rfl rfl ?_
      refine RL.knownT (d := 52) rfl rfl (rfl) ?_
      iterate 4 refine RL.no (.no rfl rfl rfl rfl) rfl rfl ?_
      iterate 2 refine RL.p rfl rfl ?_
      refine RL.q (.free rfl) rfl rfl (Yld.fieldAddr fo362_2 rfl) ?_
      refine RL.op' (.free rfl) rfl (Does.store i4 rfl rfl rfl hP8 (.s (.s .z))) ?_
      rintro _ w9 ⟨hP9, hm9, _⟩
      have hB9 : Blk w9 b5 327 (celC ⟨1, 0, 0, 0, 0, none, 0, 0⟩) := (hB5.mod hm8 hb5p).mod hm9 hb5p
      have hm19' : Mod (fun b => b = p ∨ b = b5) w1 w9 := (hm15.trans (hm8.mono fun b _ e => .inl e)).trans (hm9.mono fun b _ e => .inl e)
      have hP9' : PA w9 p s (i + 1) true := hP9
      refine RL.done ?_
      refine RK.inBlock ?_
      refine RK.seq ?_
      refine RK.region ?_
      refine RL.q (.free rfl) rfl rfl (Yld.loadN (cs := celC ⟨1, 0, 0, 0, 0, none, 0, 0⟩) a327 rfl (atN (blk0' hB9))) ?_
      refine RL.op' (.free rfl) rfl (Does.storeN i327 rfl rfl rfl rfl (hn4.blk.mod hm19' hb4p) (Nat.le_refl 6)) ?_
      rintro _ w19 ⟨hb19, hm19, _⟩
      refine RL.done ?_
      refine RK.ret_of Tryz.func350 (resC (cs := celC ⟨1, 0, 0, 0, 0, none, 0, 0⟩) rfl rfl a327 hb19) ?_ _
      exact ⟨_, rfl, ⟨⟨1, 0, 0, 0, 0, none, 0, 0⟩, (i + 1), true, rfl, by omega, Blk.mod hP9' hm19 (Ne.symm hb4p'), fun _ => (by rw [hat, hg8 hd8]; rfl), fun e => (by cases e)⟩, (((Mod.any' hg4 : Mod (· = p) w w1).then hm19' hMp)).then hm19 (fun b hb e => by have e' : b = b4 := e; omega)⟩
  · have h40 : ¬ b8 s i = 40 := by omega
    refine RK.seq ?_
    refine RK.region ?_
    iterate 2 refine RL.p rfl rfl ?_
    refine RL.done ?_
    first | refine RK.condD rfl (fun h60 => ?_) (fun h60 => ?_) | refine RK.condN rfl (fun h60 => ?_) (fun h60 => ?_) | refine RK.cond rfl (fun h60 => ?_) (fun h60 => ?_)
    · have h91 : b8 s i = 91 := by omega
      have hat : atomS s g i = (clsS s (i + 1)).map (fun p => (.set p.1, p.2)) := by unfold atomS; rw [if_neg h40, if_pos h91]
      refine RK.region ?_
      refine RL.p rfl rfl ?_
      refine RL.op (.free rfl) rfl rfl (Does.call rfl e357 (class_ok _ p s (i + 1) hP4 (by omega) hs)) ?_
      rintro _ w5 ⟨l, j, bad, rfl, hW, hj, hP5, hcl, hm5⟩
      obtain ⟨y0, y1, y2, y3, rfl⟩ := W4.four hW
      have hB5 := hB4.mod hm5 hb5p
      refine RL.q (.free rfl) rfl rfl (Yld.fieldAddr fo327_1 rfl) ?_
      refine RL.op' (.free rfl) rfl (Does.storeN i324 rfl rfl rfl rfl hB5 (by decide)) ?_
      rintro _ w6 ⟨hb6, hm6, _⟩
      have hB6 : Blk w6 b5 327 (setC [y0, y1, y2, y3]) := hb6
      have hP6 : PA w6 p s j bad := hP5.mod hm6 (by omega)
      have hm16 : Mod (fun b => b = p ∨ b = b5) w1 w6 := (hm14.trans (hm5.mono fun b _ e => .inl e)).trans (hm6.mono fun b _ e => .inr e)
      obtain ⟨x0, x1, x2, x3, hle⟩ := W4.four hW
      have hBs : Blk w6 b5 327 (setC [y0, y1, y2, y3]) := hB6
      rw [hle] at hBs
      have hBl : Blk w6 b5 327 (celC ⟨1, x0, x1, x2, x3, none, 0, 0⟩) := hBs
      refine RL.done ?_
      refine RK.inBlock ?_
      refine RK.seq ?_
      refine RK.region ?_
      refine RL.q (.free rfl) rfl rfl (Yld.loadN (cs := celC ⟨1, x0, x1, x2, x3, none, 0, 0⟩) a327 rfl (atN (blk0' hBl))) ?_
      refine RL.op' (.free rfl) rfl (Does.storeN i327 rfl rfl rfl rfl (hn4.blk.mod hm16 hb4p) (Nat.le_refl 6)) ?_
      rintro _ w19 ⟨hb19, hm19, _⟩
      refine RL.done ?_
      refine RK.ret_of Tryz.func350 (resC (cs := celC ⟨1, x0, x1, x2, x3, none, 0, 0⟩) rfl rfl a327 hb19) ?_ _
      exact ⟨_, rfl, ⟨⟨1, x0, x1, x2, x3, none, 0, 0⟩, j, bad, rfl, by omega, Blk.mod hP6 hm19 (Ne.symm hb4p'), fun e => by rw [hat, hcl, e]; rfl, fun e => ⟨.set [y0, y1, y2, y3], by rw [hat, hcl, e]; rfl, x0, x1, x2, x3, hle, rfl⟩⟩, (((Mod.any' hg4 : Mod (· = p) w w1).then hm16 hMp)).then hm19 (fun b hb e => by have e' : b = b4 := e; omega)⟩
    · have h91 : ¬ b8 s i = 91 := by omega
      refine RK.seq ?_
      refine RK.region ?_
      iterate 2 refine RL.p rfl rfl ?_
      refine RL.done ?_
      first | refine RK.condD rfl (fun h65 => ?_) (fun h65 => ?_) | refine RK.condN rfl (fun h65 => ?_) (fun h65 => ?_) | refine RK.cond rfl (fun h65 => ?_) (fun h65 => ?_)
      · have h46 : b8 s i = 46 := by omega
        have hat : atomS s g i = some (.set (invS zero4), i + 1) := by unfold atomS; rw [if_neg h40, if_neg h91, if_pos h46]
        refine RK.region ?_
        refine RL.q (.free rfl) rfl rfl (Yld.fieldAddr fo327_1 rfl) ?_
        refine RL.q (.free rfl) rfl rfl (Yld.loadN (cs := wds zero4) a324 rfl (atN (blk_mid hB4))) ?_
        refine RL.op (.free rfl) rfl rfl (Does.call rfl e358 (turned_ok _ zero4 W4.zero)) ?_
        rintro _ w5 ⟨rfl, hg5⟩
        refine RL.q (.free rfl) rfl rfl (Yld.fieldAddr fo327_1 rfl) ?_
        refine RL.op' (.free rfl) rfl (Does.storeN i324 rfl rfl rfl rfl (hB4.mod hg5 (fun h => h)) (by decide)) ?_
        rintro _ w6 ⟨hb6, hm6, _⟩
        have hB6 : Blk w6 b5 327 (setC (invS zero4)) := hb6
        have hP6 : PA w6 p s (i + 1) false := (hP4.mod hg5 (fun h => h)).mod hm6 (by omega)
        have hm16 : Mod (fun b => b = p ∨ b = b5) w1 w6 := (hm14.trans (Mod.any' hg5)).trans (hm6.mono fun b _ e => .inr e)
        have hWi : W4 (invS zero4) := W4.zero.inv
        obtain ⟨x0, x1, x2, x3, hle⟩ := W4.four hWi
        have hBs : Blk w6 b5 327 (setC (invS zero4)) := hB6
        rw [hle] at hBs
        have hBl : Blk w6 b5 327 (celC ⟨1, x0, x1, x2, x3, none, 0, 0⟩) := hBs
        refine RL.done ?_
        refine RK.inBlock ?_
        refine RK.seq ?_
        refine RK.region ?_
        refine RL.q (.free rfl) rfl rfl (Yld.loadN (cs := celC ⟨1, x0, x1, x2, x3, none, 0, 0⟩) a327 rfl (atN (blk0' hBl))) ?_
        refine RL.op' (.free rfl) rfl (Does.storeN i327 rfl rfl rfl rfl (hn4.blk.mod hm16 hb4p) (Nat.le_refl 6)) ?_
        rintro _ w19 ⟨hb19, hm19, _⟩
        refine RL.done ?_
        refine RK.ret_of Tryz.func350 (resC (cs := celC ⟨1, x0, x1, x2, x3, none, 0, 0⟩) rfl rfl a327 hb19) ?_ _
        exact ⟨_, rfl, ⟨⟨1, x0, x1, x2, x3, none, 0, 0⟩, (i + 1), false, rfl, by omega, Blk.mod hP6 hm19 (Ne.symm hb4p'), fun e => (by cases e), fun _ => ⟨.set (invS zero4), hat, x0, x1, x2, x3, hle, rfl⟩⟩, (((Mod.any' hg4 : Mod (· = p) w w1).then hm16 hMp)).then hm19 (fun b hb e => by have e' : b = b4 := e; omega)⟩
      · have h46 : ¬ b8 s i = 46 := by omega
        refine RK.seq ?_
        refine RK.region ?_
        iterate 2 refine RL.p rfl rfl ?_
        refine RL.done ?_
        first | refine RK.condD rfl (fun h71 => ?_) (fun h71 => ?_) | refine RK.condN rfl (fun h71 => ?_) (fun h71 => ?_) | refine RK.cond rfl (fun h71 => ?_) (fun h71 => ?_)
        · have h92 : b8 s i = 92 := by omega
          have hat : atomS s g i = (signS s (i + 1)).map (fun p => (.set (setBit zero4 p.1), p.2)) := by unfold atomS; rw [if_neg h40, if_neg h91, if_neg h46, if_pos h92]
          refine RK.region ?_
          refine RL.q (.free rfl) rfl rfl (Yld.fieldAddr fo327_1 rfl) ?_
          refine RL.p rfl rfl ?_
          refine RL.op (.free rfl) rfl rfl (Does.call rfl e360 (sign_ok' _ p s (i + 1) hP4 (by omega) hs)) ?_
          rintro _ w5 ⟨c, j, bad, rfl, hc2, hj, hP5, hsg, hm5⟩
          refine RL.op (.free rfl) rfl rfl (Does.call rfl e359 (add_cel _ b5 _ zero4 (hB4.mod hm5 hb5p) W4.zero c hc2)) ?_
          rintro _ w6 ⟨rfl, hB6, hm6⟩
          have hP6 : PA w6 p s j bad := hP5.mod hm6 (by omega)
          have hm16 : Mod (fun b => b = p ∨ b = b5) w1 w6 := (hm14.trans (hm5.mono fun b _ e => .inl e)).trans (hm6.mono fun b _ e => .inr e)
          have hWi : W4 (setBit zero4 c) := W4.zero.bit c
          obtain ⟨x0, x1, x2, x3, hle⟩ := W4.four hWi
          have hBs : Blk w6 b5 327 (setC (setBit zero4 c)) := hB6
          rw [hle] at hBs
          have hBl : Blk w6 b5 327 (celC ⟨1, x0, x1, x2, x3, none, 0, 0⟩) := hBs
          refine RL.done ?_
          refine RK.inBlock ?_
          refine RK.seq ?_
          refine RK.region ?_
          refine RL.q (.free rfl) rfl rfl (Yld.loadN (cs := celC ⟨1, x0, x1, x2, x3, none, 0, 0⟩) a327 rfl (atN (blk0' hBl))) ?_
          refine RL.op' (.free rfl) rfl (Does.storeN i327 rfl rfl rfl rfl (hn4.blk.mod hm16 hb4p) (Nat.le_refl 6)) ?_
          rintro _ w19 ⟨hb19, hm19, _⟩
          refine RL.done ?_
          refine RK.ret_of Tryz.func350 (resC (cs := celC ⟨1, x0, x1, x2, x3, none, 0, 0⟩) rfl rfl a327 hb19) ?_ _
          exact ⟨_, rfl, ⟨⟨1, x0, x1, x2, x3, none, 0, 0⟩, j, bad, rfl, by omega, Blk.mod hP6 hm19 (Ne.symm hb4p'), fun e => by rw [hat, hsg, e]; rfl, fun e => ⟨.set (setBit zero4 c), by rw [hat, hsg, e]; rfl, x0, x1, x2, x3, hle, rfl⟩⟩, (((Mod.any' hg4 : Mod (· = p) w w1).then hm16 hMp)).then hm19 (fun b hb e => by have e' : b = b4 := e; omega)⟩
        · have h92 : ¬ b8 s i = 92 := by omega
          refine RK.seq ?_
          refine RK.region ?_
          iterate 3 refine RL.p rfl rfl ?_
          refine RL.q (.free rfl) rfl rfl (Yld.fieldAddr fo362_2 rfl) ?_
          refine RL.q (.free rfl) rfl rfl (Yld.load p4 rfl (at1 (hP4.cell rfl))) ?_
          refine RL.p rfl rfl ?_
          refine RL.knownF (d := 16) rfl rfl (rfl) ?_
          refine RL.q (.yes rfl rfl rfl) rfl rfl (Yld.pure rfl) ?_
          refine RL.op (.yes rfl rfl rfl) rfl rfl (Does.call rfl e361 (indexByte_ok _ _ _ hc)) ?_
          rintro _ _ ⟨z, rfl, hz, rfl⟩
          have hq : (z < 0 ↔ ¬ (b8 s i = 42 ∨ b8 s i = 43 ∨ b8 s i = 63 ∨ b8 s i = 93)) := by rw [hz]; simp; omega
          have hat : atomS s g i = if b8 s i = 42 ∨ b8 s i = 43 ∨ b8 s i = 63 ∨ b8 s i = 93 then none else some (.set (setBit zero4 (b8 s i)), i + 1) := by unfold atomS; rw [if_neg h40, if_neg h91, if_neg h46, if_neg h92]
          refine RL.q (.yes rfl rfl rfl) rfl rfl (Yld.pure rfl) ?_
          iterate 2 refine RL.p rfl rfl ?_
          refine RL.q (.free rfl) rfl rfl (Yld.fieldAddr fo362_2 rfl) ?_
          refine RL.op' (.free rfl) rfl (Does.store i4 rfl rfl rfl hP4 (.s (.s .z))) ?_
          rintro _ w5 ⟨hP5, hm5, _⟩
          have hP5' : PA w5 p s (i + 1) (decide (0 ≤ z)) := hP5
          refine RL.done ?_
          refine RK.region ?_
          refine RL.q (.free rfl) rfl rfl (Yld.fieldAddr fo327_1 rfl) ?_
          refine RL.p rfl rfl ?_
          refine RL.op (.free rfl) rfl rfl (Does.call rfl e359 (add_cel _ b5 _ zero4 (hB4.mod hm5 hb5p) W4.zero _ hc)) ?_
          rintro _ w6 ⟨rfl, hB6, hm6⟩
          have hP6 : PA w6 p s (i + 1) (decide (0 ≤ z)) := hP5'.mod hm6 (by omega)
          have hm16 : Mod (fun b => b = p ∨ b = b5) w1 w6 := (hm14.trans (hm5.mono fun b _ e => .inl e)).trans (hm6.mono fun b _ e => .inr e)
          have hWi : W4 (setBit zero4 (b8 s i)) := W4.zero.bit _
          obtain ⟨x0, x1, x2, x3, hle⟩ := W4.four hWi
          have hBs : Blk w6 b5 327 (setC (setBit zero4 (b8 s i))) := hB6
          rw [hle] at hBs
          have hBl : Blk w6 b5 327 (celC ⟨1, x0, x1, x2, x3, none, 0, 0⟩) := hBs
          refine RL.done ?_
          refine RK.inBlock ?_
          refine RK.seq ?_
          refine RK.region ?_
          refine RL.q (.free rfl) rfl rfl (Yld.loadN (cs := celC ⟨1, x0, x1, x2, x3, none, 0, 0⟩) a327 rfl (atN (blk0' hBl))) ?_
          refine RL.op' (.free rfl) rfl (Does.storeN i327 rfl rfl rfl rfl (hn4.blk.mod hm16 hb4p) (Nat.le_refl 6)) ?_
          rintro _ w19 ⟨hb19, hm19, _⟩
          refine RL.done ?_
          refine RK.ret_of Tryz.func350 (resC (cs := celC ⟨1, x0, x1, x2, x3, none, 0, 0⟩) rfl rfl a327 hb19) ?_ _
          exact ⟨_, rfl, ⟨⟨1, x0, x1, x2, x3, none, 0, 0⟩, (i + 1), (decide (0 ≤ z)), rfl, by omega, Blk.mod hP6 hm19 (Ne.symm hb4p'), fun e => by have e' := of_decide_eq_true e; rw [hat, if_pos (Classical.byContradiction fun h => by have := hq.2 h; omega)], fun e => by have e' := of_decide_eq_false e; exact ⟨.set (setBit zero4 (b8 s i)), by rw [hat, if_neg (hq.1 (by omega))], x0, x1, x2, x3, hle, rfl⟩⟩, (((Mod.any' hg4 : Mod (· = p) w w1).then hm16 hMp)).then hm19 (fun b hb e => by have e' : b = b4 := e; omega)⟩
end Go.Proofs.YtnnmgfnhblbolaaGreatDoor
set_option linter.unusedVariables false
set_option linter.unusedSimpArgs false
set_option maxHeartbeats 1000000
set_option maxRecDepth 100000
namespace Go.Proofs.YtnnmgfnhblbolaaGreatDoor
open Go Go.X Go.Rex
theorem rx_snoc {M : Nat → Prop} {w : World} {x : Rx} {c : Cel} (hx : RxV M w x [c]) : ∀ (xs : List Rx) {ks : List Cel}, RxV M w (lstS xs) ks → RxV M w (lstS (xs ++ [x])) (ks ++ [c])
  | [], ks, h => by
    have h' : ks = [] := h
    subst h'
    exact ⟨c, [], rfl, hx, rfl⟩
  | y :: xs, ks, ⟨k, ks', h1, h2, h3⟩ => by
    subst h1
    exact ⟨k, ks' ++ [c], rfl, h2, rx_snoc hx xs h3⟩
theorem rx_len {M : Nat → Prop} {w : World} : ∀ (xs : List Rx) {ks : List Cel}, RxV M w (lstS xs) ks → ks.length = xs.length
  | [], ks, h => by have h' : ks = [] := h; subst h'; rfl
  | y :: xs, ks, ⟨k, ks', h1, h2, h3⟩ => by subst h1; simp [rx_len xs h3]
theorem mkN_ne {op : Nat} {l : List Rx} (h : l.length ≠ 1) : mkN op l = .node op (lstS l) := by
  match l, h with
  | [], _ => rfl
  | [x], h => exact absurd rfl h
  | x :: y :: l, _ => rfl
theorem factorS_adv {s : ByteArray} {g : Nat → Option (Rx × Nat)} (hg : ∀ i x j, i ≤ s.size → g i = some (x, j) → i ≤ j ∧ j ≤ s.size) {i : Nat} (hi : i < s.size) {x : Rx} {j : Nat} (h : factorS s g i = some (x, j)) : i < j ∧ j ≤ s.size := by
  have ha : ∀ x j, atomS s g i = some (x, j) → i < j ∧ j ≤ s.size := by
    intro x j h
    unfold atomS at h
    split at h
    · cases hgi : g (i + 1) with
      | none => rw [hgi] at h; cases h
      | some q =>
        obtain ⟨y, k⟩ := q
        rw [hgi] at h
        have h' : (if k < s.size ∧ b8 s k = 41 then some (y, k + 1) else none) = some (x, j) := h
        split at h'
        · simp at h'; have := hg _ _ _ (by omega) hgi; omega
        · cases h'
    · split at h
      · cases hc : clsS s (i + 1) with
        | none => rw [hc] at h; cases h
        | some q => rw [hc] at h; simp at h; have := clsS_adv (t := q.1) (j := q.2) hc; omega
      · split at h
        · simp at h; omega
        · split at h
          · cases hc : signS s (i + 1) with
            | none => rw [hc] at h; cases h
            | some q => rw [hc] at h; simp at h; have := signS_adv (b := q.1) (j := q.2) hc; omega
          · split at h
            · cases h
            · simp at h; omega
  unfold factorS at h
  cases hat : atomS s g i with
  | none => rw [hat] at h; cases h
  | some q =>
    obtain ⟨y, k⟩ := q
    have h1 := ha y k hat
    rw [hat] at h
    simp only [Option.map_some, Option.some.injEq] at h
    unfold oftS at h
    split at h
    · split at h
      · simp at h; omega
      · split at h
        · simp at h; omega
        · split at h <;> (simp at h; omega)
    · simp at h; omega
theorem factor_ok (s : ByteArray) (hs : s.size ≤ 40) (p d : Nat) (hd : d ≤ 8) (g : Nat → Option (Rx × Nat)) (hg8 : d = 8 → ∀ i, g i = none) (hgw : GrpOk p s d g)
    (w : World) (i : Nat) (h : PA w p s i false) (hi : i < s.size) (h124 : b8 s i ≠ 124) (h41 : b8 s i ≠ 41) :
    Fx Tryz.prog 338 [pp p, .int .i64 (d : Int)] w (fun u w' => RT w w' p s (factorS s g i) u ∧ Mod (· = p) w w') := by
  have hplt := h.lt
  refine enter Tryz.func338 rfl rfl rfl _ (Pick.sub (l := [0, 1]) (.cons rfl (.cons rfl .nil))) ?_
  refine RK.seq ?_
  refine RK.region ?_
  refine RL.op (.free rfl) rfl rfl (Does.alloc i327) ?_
  rintro _ w1 ⟨b4, rfl, hn4⟩
  have hb4 := hn4.at_
  have hg4 := hn4.grow
  have hb4s := hn4.size
  refine RL.done ?_
  refine RK.seq ?_
  refine RK.region ?_
  iterate 2 refine RL.p rfl rfl ?_
  refine RL.op (.free rfl) rfl rfl (Does.call rfl e350 (atom_ok s hs p d hd g hg8 hgw _ i (h.mod hg4 (fun h => h)) hi h124 h41)) ?_
  rintro _ w2 ⟨⟨c, j, bad, rfl, hj, hP2, hno, hyes⟩, hm2⟩
  have hs12 := hm2.size
  refine RL.op (.free rfl) rfl rfl (Does.alloc i327) ?_
  rintro _ w3 ⟨b5, rfl, hn5⟩
  have hb5 := hn5.at_
  refine RL.op' (.free rfl) rfl (Does.storeN i327 rfl rfl rfl rfl hn5.blk (Nat.le_refl 6)) ?_
  rintro _ w4 ⟨hb5', hm4, _⟩
  have hB4 : Blk w4 b5 327 (celC c) := hb5'
  have hb4p : ¬ (b4 = p ∨ b4 = b5) := by omega
  have hb5p : b5 ≠ p := by omega
  have hP4 : PA w4 p s j bad := (hP2.mod hn5.grow (fun h => h)).mod hm4 (by omega)
  have hm24 : Mod (fun b => b = p ∨ b = b5) w2 w4 := (Mod.any' hn5.grow).trans (hm4.mono fun b _ e => .inr e)
  have hm14 : Mod (fun b => b = p ∨ b = b5) w1 w4 := (hm2.mono fun b _ e => .inl e).trans hm24
  have hl01 : ∀ b, Old w b → Old w1 b := fun b e => by unfold Old at *; omega
  have hMp : ∀ x, x < w.heap.size → (x = p ∨ x = b5) → x = p := fun x hx e => by omega
  have hpo : ∀ b, b < w2.heap.size → (b = p ∨ b = b5) → Old w1 b := fun b hb e => by unfold Old; omega
  refine RL.done ?_
  refine RK.seq ?_
  refine RK.block ?_
  refine RK.seq ?_
  refine RK.region ?_
  refine RL.p rfl rfl ?_
  refine RL.op (.free rfl) rfl rfl (Does.call rfl e316 (next_ok _ p s j bad hP4 (by omega) 42)) ?_
  rintro _ w5 ⟨rfl, hP5, hm5⟩
  have hB5 := hB4.mod hm5 hb5p
  have hm15 := hm14.trans (hm5.mono fun b _ e => .inl e)
  have hm25 := hm24.trans (hm5.mono fun b _ e => .inl e)
  refine RL.p rfl rfl ?_
  refine RL.done ?_
  first | refine RK.condD rfl (fun h9 => ?_) (fun h9 => ?_) | refine RK.condN rfl (fun h9 => ?_) (fun h9 => ?_) | refine RK.cond rfl (fun h9 => ?_) (fun h9 => ?_)
  · obtain ⟨hb, hjs, hjc⟩ : bad = false ∧ j < s.size ∧ b8 s j = 42 := by simpa [seesS] using h9
    subst hb
    have hsee : seesS s j false 42 = true := by simp [seesS, hjs, hjc]
    rw [hsee] at hP5
    refine RK.seq ?_
    refine RK.region ?_
    refine RL.q (.free rfl) rfl rfl (Yld.loadN (cs := celC c) a327 rfl (atN (blk0' hB5))) ?_
    refine RL.op (.free rfl) rfl rfl (Does.slice1 u325 i327 rfl rfl rfl rfl rfl) ?_
    rintro _ w16 ⟨b6, rfl, hn6⟩
    refine RL.q (.free rfl) rfl rfl (Yld.build (v := .agg #[.int .i64 4, .int .u64 0, .int .u64 0, .int .u64 0, .int .u64 0, .slice (some ⟨b6, 0, none⟩) 1 1]) rfl (fun w => by kernel_rfl)) ?_
    refine RL.op' (.free rfl) rfl (Does.storeN i327 rfl rfl rfl rfl ((hn4.blk.mod hm15 hb4p).mod hn6.grow (fun h => h)) (Nat.le_refl 6)) ?_
    rintro _ w19 ⟨hb19, hm19, _⟩
    obtain ⟨x, hx, hrx⟩ := hyes rfl
    have hres : factorS s g i = some (onlyS 4 x, j + 1) := by unfold factorS; rw [hx]; show some (oftS s x j) = _; unfold oftS; rw [if_pos hjs, if_pos hjc]
    have hP16 : PA w16 p s (j + 1) false := (hP5).mod hn6.grow (fun h => h)
    have hs5x := (hm15).size
    have hb6 := hn6.at_
    have hrx9 : RxV (Old w) w19 x [c] := RxV.off (fun b _ e => hl01 b e) x (RxV.mod hm19 (fun b _ e => by have e' : b = b4 := e; unfold Old; omega) x (RxV.grow hn6.grow x (RxV.mod hm25 (fun b hb e => hpo b hb e) x hrx)))
    have hsl9 : Sl (Old w) w19 (.slice (some ⟨b6, 0, none⟩) 1 1) 6 [c].length ([c].flatMap celC) := ((Sl.new (M := Old w1) hn6 6 1 rfl (by omega) (by unfold Old; omega)).mod (hm19.mono fun b _ e => by have e' : b = b4 := e; unfold Old; omega)).off (by omega) (fun b _ e => hl01 b e)
    refine RL.done ?_
    refine RK.ret_of Tryz.func338 (resC (cs := [.int .i64 4, .int .u64 0, .int .u64 0, .int .u64 0, .int .u64 0, .slice (some ⟨b6, 0, none⟩) 1 1]) rfl rfl a327 hb19) ?_ _
    exact ⟨_, rfl, ⟨⟨4, 0, 0, 0, 0, some ⟨b6, 0, none⟩, 1, 1⟩, j + 1, false, rfl, by omega, hP16.mod hm19 (by omega), fun e => (by cases e), fun _ => ⟨_, hres, _, _, _, [c], ⟨rfl, Nat.le_refl _⟩, hsl9, ⟨c, [], rfl, hrx9, rfl⟩⟩⟩, (((Mod.any' hg4 : Mod (· = p) w w1).then hm15 hMp).trans (Mod.any' hn6.grow)).then hm19 (fun b hb e => by have e' : b = b4 := e; omega)⟩
  · have h9' : seesS s j bad 42 = false := by simpa using h9
    rw [h9'] at hP5
    have hP5' : PA w5 p s j bad := hP5
    refine RK.seq ?_
    refine RK.region ?_
    refine RL.p rfl rfl ?_
    refine RL.op (.free rfl) rfl rfl (Does.call rfl e316 (next_ok _ p s j bad hP5' (by omega) 43)) ?_
    rintro _ w6 ⟨rfl, hP6, hm6⟩
    have hB6 := hB5.mod hm6 hb5p
    have hm16 := hm15.trans (hm6.mono fun b _ e => .inl e)
    have hm26 := hm25.trans (hm6.mono fun b _ e => .inl e)
    refine RL.p rfl rfl ?_
    refine RL.done ?_
    first | refine RK.condD rfl (fun h15 => ?_) (fun h15 => ?_) | refine RK.condN rfl (fun h15 => ?_) (fun h15 => ?_) | refine RK.cond rfl (fun h15 => ?_) (fun h15 => ?_)
    · obtain ⟨hb, hjs, hjc⟩ : bad = false ∧ j < s.size ∧ b8 s j = 43 := by simpa [seesS] using h15
      subst hb
      have hsee : seesS s j false 43 = true := by simp [seesS, hjs, hjc]
      rw [hsee] at hP6
      refine RK.seq ?_
      refine RK.region ?_
      refine RL.q (.free rfl) rfl rfl (Yld.loadN (cs := celC c) a327 rfl (atN (blk0' hB6))) ?_
      refine RL.op (.free rfl) rfl rfl (Does.slice1 u325 i327 rfl rfl rfl rfl rfl) ?_
      rintro _ w16 ⟨b6, rfl, hn6⟩
      refine RL.q (.free rfl) rfl rfl (Yld.build (v := .agg #[.int .i64 5, .int .u64 0, .int .u64 0, .int .u64 0, .int .u64 0, .slice (some ⟨b6, 0, none⟩) 1 1]) rfl (fun w => by kernel_rfl)) ?_
      refine RL.op' (.free rfl) rfl (Does.storeN i327 rfl rfl rfl rfl ((hn4.blk.mod hm16 hb4p).mod hn6.grow (fun h => h)) (Nat.le_refl 6)) ?_
      rintro _ w19 ⟨hb19, hm19, _⟩
      obtain ⟨x, hx, hrx⟩ := hyes rfl
      have hres : factorS s g i = some (onlyS 5 x, j + 1) := by unfold factorS; rw [hx]; show some (oftS s x j) = _; unfold oftS; rw [if_pos hjs, if_neg (by omega), if_pos hjc]
      have hP16 : PA w16 p s (j + 1) false := (hP6).mod hn6.grow (fun h => h)
      have hs5x := (hm16).size
      have hb6 := hn6.at_
      have hrx9 : RxV (Old w) w19 x [c] := RxV.off (fun b _ e => hl01 b e) x (RxV.mod hm19 (fun b _ e => by have e' : b = b4 := e; unfold Old; omega) x (RxV.grow hn6.grow x (RxV.mod hm26 (fun b hb e => hpo b hb e) x hrx)))
      have hsl9 : Sl (Old w) w19 (.slice (some ⟨b6, 0, none⟩) 1 1) 6 [c].length ([c].flatMap celC) := ((Sl.new (M := Old w1) hn6 6 1 rfl (by omega) (by unfold Old; omega)).mod (hm19.mono fun b _ e => by have e' : b = b4 := e; unfold Old; omega)).off (by omega) (fun b _ e => hl01 b e)
      refine RL.done ?_
      refine RK.ret_of Tryz.func338 (resC (cs := [.int .i64 5, .int .u64 0, .int .u64 0, .int .u64 0, .int .u64 0, .slice (some ⟨b6, 0, none⟩) 1 1]) rfl rfl a327 hb19) ?_ _
      exact ⟨_, rfl, ⟨⟨5, 0, 0, 0, 0, some ⟨b6, 0, none⟩, 1, 1⟩, j + 1, false, rfl, by omega, hP16.mod hm19 (by omega), fun e => (by cases e), fun _ => ⟨_, hres, _, _, _, [c], ⟨rfl, Nat.le_refl _⟩, hsl9, ⟨c, [], rfl, hrx9, rfl⟩⟩⟩, (((Mod.any' hg4 : Mod (· = p) w w1).then hm16 hMp).trans (Mod.any' hn6.grow)).then hm19 (fun b hb e => by have e' : b = b4 := e; omega)⟩
    · have h15' : seesS s j bad 43 = false := by simpa using h15
      rw [h15'] at hP6
      have hP6' : PA w6 p s j bad := hP6
      refine RK.seq ?_
      refine RK.region ?_
      refine RL.p rfl rfl ?_
      refine RL.op (.free rfl) rfl rfl (Does.call rfl e316 (next_ok _ p s j bad hP6' (by omega) 63)) ?_
      rintro _ w7 ⟨rfl, hP7, hm7⟩
      have hB7 := hB6.mod hm7 hb5p
      have hm17 := hm16.trans (hm7.mono fun b _ e => .inl e)
      have hm27 := hm26.trans (hm7.mono fun b _ e => .inl e)
      refine RL.p rfl rfl ?_
      refine RL.done ?_
      first | refine RK.condD rfl (fun h21 => ?_) (fun h21 => ?_) | refine RK.condN rfl (fun h21 => ?_) (fun h21 => ?_) | refine RK.cond rfl (fun h21 => ?_) (fun h21 => ?_)
      · obtain ⟨hb, hjs, hjc⟩ : bad = false ∧ j < s.size ∧ b8 s j = 63 := by simpa [seesS] using h21
        subst hb
        have hsee : seesS s j false 63 = true := by simp [seesS, hjs, hjc]
        rw [hsee] at hP7
        refine RK.seq ?_
        refine RK.region ?_
        refine RL.q (.free rfl) rfl rfl (Yld.loadN (cs := celC c) a327 rfl (atN (blk0' hB7))) ?_
        refine RL.op (.free rfl) rfl rfl (Does.slice1 u325 i327 rfl rfl rfl rfl rfl) ?_
        rintro _ w16 ⟨b6, rfl, hn6⟩
        refine RL.q (.free rfl) rfl rfl (Yld.build (v := .agg #[.int .i64 6, .int .u64 0, .int .u64 0, .int .u64 0, .int .u64 0, .slice (some ⟨b6, 0, none⟩) 1 1]) rfl (fun w => by kernel_rfl)) ?_
        refine RL.op' (.free rfl) rfl (Does.storeN i327 rfl rfl rfl rfl ((hn4.blk.mod hm17 hb4p).mod hn6.grow (fun h => h)) (Nat.le_refl 6)) ?_
        rintro _ w19 ⟨hb19, hm19, _⟩
        obtain ⟨x, hx, hrx⟩ := hyes rfl
        have hres : factorS s g i = some (onlyS 6 x, j + 1) := by unfold factorS; rw [hx]; show some (oftS s x j) = _; unfold oftS; rw [if_pos hjs, if_neg (by omega), if_neg (by omega), if_pos hjc]
        have hP16 : PA w16 p s (j + 1) false := (hP7).mod hn6.grow (fun h => h)
        have hs5x := (hm17).size
        have hb6 := hn6.at_
        have hrx9 : RxV (Old w) w19 x [c] := RxV.off (fun b _ e => hl01 b e) x (RxV.mod hm19 (fun b _ e => by have e' : b = b4 := e; unfold Old; omega) x (RxV.grow hn6.grow x (RxV.mod hm27 (fun b hb e => hpo b hb e) x hrx)))
        have hsl9 : Sl (Old w) w19 (.slice (some ⟨b6, 0, none⟩) 1 1) 6 [c].length ([c].flatMap celC) := ((Sl.new (M := Old w1) hn6 6 1 rfl (by omega) (by unfold Old; omega)).mod (hm19.mono fun b _ e => by have e' : b = b4 := e; unfold Old; omega)).off (by omega) (fun b _ e => hl01 b e)
        refine RL.done ?_
        refine RK.ret_of Tryz.func338 (resC (cs := [.int .i64 6, .int .u64 0, .int .u64 0, .int .u64 0, .int .u64 0, .slice (some ⟨b6, 0, none⟩) 1 1]) rfl rfl a327 hb19) ?_ _
        exact ⟨_, rfl, ⟨⟨6, 0, 0, 0, 0, some ⟨b6, 0, none⟩, 1, 1⟩, j + 1, false, rfl, by omega, hP16.mod hm19 (by omega), fun e => (by cases e), fun _ => ⟨_, hres, _, _, _, [c], ⟨rfl, Nat.le_refl _⟩, hsl9, ⟨c, [], rfl, hrx9, rfl⟩⟩⟩, (((Mod.any' hg4 : Mod (· = p) w w1).then hm17 hMp).trans (Mod.any' hn6.grow)).then hm19 (fun b hb e => by have e' : b = b4 := e; omega)⟩
      · have h21' : seesS s j bad 63 = false := by simpa using h21
        rw [h21'] at hP7
        have hP7' : PA w7 p s j bad := hP7
        refine RK.skip ?_
        refine RK.inBlock ?_
        refine RK.seq ?_
        refine RK.region ?_
        refine RL.q (.free rfl) rfl rfl (Yld.loadN (cs := celC c) a327 rfl (atN (blk0' hB7))) ?_
        refine RL.op' (.free rfl) rfl (Does.storeN i327 rfl rfl rfl rfl (hn4.blk.mod hm17 hb4p) (Nat.le_refl 6)) ?_
        rintro _ w19 ⟨hb19, hm19, _⟩
        refine RL.done ?_
        refine RK.ret_of Tryz.func338 (resC (cs := celC c) rfl rfl a327 hb19) ?_ _
        exact ⟨_, rfl, ⟨c, j, bad, rfl, hj, hP7'.mod hm19 (by omega), fun e => by unfold factorS; rw [hno e]; rfl, fun e => by
            obtain ⟨x, hx, hrx⟩ := hyes e
            have h1 : ¬ (j < s.size ∧ b8 s j = 42) := fun h => by simp [seesS, e, h] at h9'
            have h2 : ¬ (j < s.size ∧ b8 s j = 43) := fun h => by simp [seesS, e, h] at h15'
            have h3 : ¬ (j < s.size ∧ b8 s j = 63) := fun h => by simp [seesS, e, h] at h21'
            refine ⟨x, ?_, RxV.off (fun b _ e => hl01 b e) x (RxV.mod hm19 (fun b _ e => by have e' : b = b4 := e; unfold Old; omega) x (RxV.mod hm27 (fun b hb e => hpo b hb e) x hrx))⟩
            unfold factorS
            rw [hx]
            show some (oftS s x j) = _
            unfold oftS
            by_cases hjs : j < s.size
            · rw [if_pos hjs, if_neg (fun h => h1 ⟨hjs, h⟩), if_neg (fun h => h2 ⟨hjs, h⟩), if_neg (fun h => h3 ⟨hjs, h⟩)]
            · rw [if_neg hjs]⟩, ((Mod.any' hg4 : Mod (· = p) w w1).then hm17 hMp).then hm19 (fun b hb e => by have e' : b = b4 := e; omega)⟩
end Go.Proofs.YtnnmgfnhblbolaaGreatDoor
set_option linter.unusedVariables false
set_option linter.unusedSimpArgs false
set_option maxHeartbeats 1000000
set_option maxRecDepth 100000
namespace Go.Proofs.YtnnmgfnhblbolaaGreatDoor
open Go Go.X Go.Rex
theorem wayL_adv {s : ByteArray} {g : Nat → Option (Rx × Nat)} (hg : ∀ i x j, i ≤ s.size → g i = some (x, j) → i ≤ j ∧ j ≤ s.size) : ∀ {n i : Nat} {acc xs : List Rx} {j : Nat}, wayL s g n i acc = some (xs, j) → i ≤ s.size → i ≤ j ∧ j ≤ s.size
  | 0, _, _, _, _, h, _ => by simp [wayL] at h
  | n + 1, i, acc, xs, j, h, hi => by
    unfold wayL at h
    split at h
    · rename_i hgo
      have hi' : i < s.size := by unfold goesS at hgo; simp at hgo; exact hgo.1
      cases hf : factorS s g i with
      | none => rw [hf] at h; cases h
      | some q =>
        obtain ⟨x, k⟩ := q
        rw [hf] at h
        have h1 := factorS_adv hg hi' hf
        have h2 := wayL_adv hg (n := n) (i := k) h h1.2
        omega
    · simp at h; omega
theorem wayS_adv {s : ByteArray} {g : Nat → Option (Rx × Nat)} (hg : ∀ i x j, i ≤ s.size → g i = some (x, j) → i ≤ j ∧ j ≤ s.size) {i : Nat} (hi : i ≤ s.size) {x : Rx} {j : Nat} (h : wayS s g i = some (x, j)) : i ≤ j ∧ j ≤ s.size := by
  unfold wayS at h
  cases hw : wayL s g (s.size + 1) i [] with
  | none => rw [hw] at h; cases h
  | some q =>
    rw [hw] at h
    simp at h
    have := wayL_adv hg (xs := q.1) (j := q.2) hw hi
    omega
structure WayI (w0 : World) (p : Nat) (s : ByteArray) (w : World) (u : Value) (ks : List Cel) (i : Nat) (bad : Bool) (e : Nat) : Prop where
  row : Row w 327 6 u ks.length (ks.flatMap celC)
  fresh : Fresh w0.heap.size u
  pa : PA w p s i bad
  le : i ≤ s.size
  mod : Mod (· = p) w0 w
  cnt : ks.length ≤ 41 + e ∧ (bad = false → ks.length ≤ i + e)
def KOf (w0 : World) (u : Value) : Nat → Prop := fun b => Old w0 b ∨ u.ownBlock = some b
theorem kids_more {w0 wk wx w7 w8 : World} {u u8 : Value} {xs : List Rx} {ks : List Cel} {x : Rx} {c : Cel} {p b7 : Nat} {t : TypeId} {cs : List Value} (hp : Old w0 p) (h0 : w0.heap.size ≤ wk.heap.size) (hr : ∀ b, u.ownBlock = some b → b < wk.heap.size) (hk : RxV (KOf w0 u) wk (lstS xs) ks) (hm : Mod (· = p) wk wx) (hx : RxV (Old wk) wx x [c]) (hn : New wx w7 b7 t cs) (hm8 : Mod (fun b => u.ownBlock = some b) w7 w8) (hu8 : u8.ownBlock = u.ownBlock ∨ u8.ownBlock = some w7.heap.size) : RxV (KOf w0 u8) w8 (lstS (xs ++ [x])) (ks ++ [c]) := by
  have hs1 := hm.size
  have hs2 := hn.grow.size
  have e7 : ∀ b, u8.ownBlock = some b → u.ownBlock = some b ∨ b = w7.heap.size := fun b e => by
    rcases hu8 with h | h
    · exact .inl (h ▸ e)
    · rw [h] at e; cases e; exact .inr rfl
  have k0 : RxV (fun b => KOf w0 u b ∨ u8.ownBlock = some b) wk (lstS xs) ks := RxV.off (fun b hb e => by
    rcases e with e | e
    · exact e
    · rcases e7 b e with h | h
      · exact .inr h
      · omega) _ hk
  have x0 : RxV (fun b => KOf w0 u b ∨ u8.ownBlock = some b) wx x [c] := RxV.off (fun b hb e => by
    rcases e with (e | e) | e
    · unfold Old at *; omega
    · exact hr b e
    · rcases e7 b e with h | h
      · exact hr b h
      · omega) _ hx
  have k1 : RxV (fun b => KOf w0 u b ∨ u8.ownBlock = some b) w8 (lstS xs) ks := RxV.mod hm8 (fun b _ e => .inl (.inr e)) _ (RxV.grow hn.grow _ (RxV.mod hm (fun b _ e => by have e' : b = p := e; rw [e']; exact .inl (.inl hp)) _ k0))
  have x1 : RxV (fun b => KOf w0 u b ∨ u8.ownBlock = some b) w8 x [c] := RxV.mod hm8 (fun b _ e => .inl (.inr e)) _ (RxV.grow hn.grow _ x0)
  exact RxV.off (fun b _ e => e.elim (fun e => .inl (.inl e)) .inr) _ (rx_snoc x1 xs k1)
theorem way_ok (s : ByteArray) (hs : s.size ≤ 40) (p d : Nat) (hd : d ≤ 8) (g : Nat → Option (Rx × Nat)) (hg : ∀ i x j, i ≤ s.size → g i = some (x, j) → i ≤ j ∧ j ≤ s.size) (hg8 : d = 8 → ∀ i, g i = none) (hgw : GrpOk p s d g)
    (w : World) (i0 : Nat) (h : PA w p s i0 false) (hi0 : i0 ≤ s.size) :
    Fx Tryz.prog 315 [pp p, .int .i64 (d : Int)] w (fun u w' => RT w w' p s (wayS s g i0) u ∧ Mod (· = p) w w') := by
  have hplt := h.lt
  obtain ⟨R, hR⟩ : ∃ R, R = wayL s g (s.size + 1) i0 [] := ⟨_, rfl⟩
  refine enter Tryz.func315 rfl rfl rfl _ (Pick.sub (l := [0, 1]) (.cons rfl (.cons rfl .nil))) ?_
  refine RK.seq ?_
  refine RK.region ?_
  refine RL.op (.free rfl) rfl rfl (Does.alloc i327) ?_
  rintro _ w1 ⟨b4, rfl, hn4⟩
  have hb4 := hn4.at_
  have hg4 := hn4.grow
  have hb4s := hn4.size
  have hb4p : ¬ b4 = p := by omega
  have hl01 : ∀ b, Old w b → Old w1 b := fun b e => by unfold Old at *; omega
  have hb4o : Old w1 b4 := by unfold Old; omega
  have hpo : Old w1 p := by unfold Old; omega
  refine RL.done ?_
  refine RK.seq ?_
  refine RK.region ?_
  refine RL.p rfl rfl ?_
  refine RL.done ?_
  refine RK.seq ?_
  refine RK.block ?_
  refine RK.loop (fun t : Value × List Cel × List Rx × Nat × Nat × Bool => [(0, pp p), (1, .int .i64 (d : Int)), (4, pp b4), (5, t.1)]) (fun t w' => WayI w1 p s w' t.1 t.2.1 t.2.2.2.1 t.2.2.2.2.2 0 ∧ (t.2.2.2.2.2 = true → R = none) ∧ (t.2.2.2.2.2 = false → RxV (KOf w1 t.1) w' (lstS t.2.2.1) t.2.1 ∧ wayL s g t.2.2.2.2.1 t.2.2.2.1 t.2.2.1 = R ∧ s.size + 1 ≤ t.2.2.2.2.1 + t.2.2.2.1)) (fun t => if t.2.2.2.2.2 then 0 else s.size + 1 - t.2.2.2.1) (.slice none 0 0, [], [], i0, s.size + 1, false) ⟨rfl, rfl, rfl, rfl, trivial⟩ ⟨⟨Row.nil _ _ _, fun b hb => by simp [Value.ownBlock] at hb, h.mod hg4 (fun h => h), hi0, Mod.refl _ _, by simp⟩, by simp, fun _ => ⟨rfl, hR.symm, by simp only; omega⟩⟩ (fun t w3 hI0 ih => ?_)
  obtain ⟨u, ks, xs, i, n, bad⟩ := t
  obtain ⟨hI, hno, hgo⟩ := hI0
  simp only at hI hno hgo
  have hile := hI.le
  iterate 2 refine RK.seq ?_
  refine RK.region ?_
  refine RL.p rfl rfl ?_
  refine RL.op (.free rfl) rfl rfl (Does.call rfl e336 (over_ok _ p s i bad hI.pa)) ?_
  rintro _ w4 ⟨rfl, hg34⟩
  iterate 2 refine RL.p rfl rfl ?_
  first | refine RL.splitD (d := 9) rfl rfl (fun h9 => ?_) (fun h9 => ?_) | refine RL.splitN (d := 9) rfl rfl (fun h9 => ?_) (fun h9 => ?_) | refine RL.split (d := 9) rfl rfl (fun h9 => ?_) (fun h9 => ?_)
  · have h9' : bad = false ∧ i < s.size := by simpa using h9
    obtain ⟨hb, his⟩ := h9'
    subst hb
    refine RL.q (.yes rfl rfl rfl) rfl rfl (Yld.pure rfl) ?_
    refine RL.op (.yes rfl rfl rfl) rfl rfl (Does.call rfl e337 (sees_ok _ p s i false (hI.pa.mod hg34 (fun h => h)) 124)) ?_
    rintro _ w5 ⟨rfl, hg45⟩
    have hg35 := hg34.trans hg45
    refine RL.q (.yes rfl rfl rfl) rfl rfl (Yld.pure rfl) ?_
    iterate 2 refine RL.p rfl rfl ?_
    first | refine RL.splitD (d := 14) rfl rfl (fun h14 => ?_) (fun h14 => ?_) | refine RL.splitN (d := 14) rfl rfl (fun h14 => ?_) (fun h14 => ?_) | refine RL.split (d := 14) rfl rfl (fun h14 => ?_) (fun h14 => ?_)
    · have h124 : b8 s i ≠ 124 := by simpa [seesS, his] using h14
      refine RL.q (.yes rfl rfl rfl) rfl rfl (Yld.pure rfl) ?_
      refine RL.op (.yes rfl rfl rfl) rfl rfl (Does.call rfl e337 (sees_ok _ p s i false (hI.pa.mod hg35 (fun h => h)) 41)) ?_
      rintro _ w6 ⟨rfl, hg56⟩
      have hg36 := hg35.trans hg56
      refine RL.q (.yes rfl rfl rfl) rfl rfl (Yld.pure rfl) ?_
      refine RL.p rfl rfl ?_
      refine RL.done ?_
      first | refine RK.condD rfl (fun h18 => ?_) (fun h18 => ?_) | refine RK.condN rfl (fun h18 => ?_) (fun h18 => ?_) | refine RK.cond rfl (fun h18 => ?_) (fun h18 => ?_)
      · have h41 : b8 s i ≠ 41 := by simpa [seesS, his] using h18
        obtain ⟨hk, hl, hn⟩ := hgo rfl
        obtain ⟨m, rfl⟩ : ∃ m, n = m + 1 := ⟨n - 1, by omega⟩
        have hgoes : goesS s i = true := by unfold goesS; exact decide_eq_true ⟨his, h124, h41⟩
        rw [wayL, if_pos hgoes] at hl
        have hI6 := hI.pa.mod hg36 (fun h => h)
        refine RK.skip ?_
        refine RK.block ?_
        refine RK.region ?_
        iterate 3 refine RL.p rfl rfl ?_
        refine RL.op (.free rfl) rfl rfl (Does.call rfl e338 (factor_ok s hs p d hd g hg8 hgw _ i hI6 his h124 h41)) ?_
        rintro _ w7 ⟨⟨c, j, bad, rfl, hj, hP7, hno7, hyes7⟩, hm7⟩
        refine RL.op (.free rfl) rfl rfl (Does.slice1 u325 i327 rfl rfl rfl rfl rfl) ?_
        rintro _ w8 ⟨b8, rfl, hn8⟩
        have hru : ∀ b, u.ownBlock = some b → b < w6.heap.size := fun b e => by have h1 := hI.row.lt e; have h2 := hg36.size; omega
        have hup : ∀ b, u.ownBlock = some b → ¬ b = p := fun b e e2 => by have h1 := hI.fresh b e; unfold Old at hpo; omega
        have hcnt := hI.cnt
        refine RL.op (.free rfl) rfl rfl (Does.append u325 i327 rfl rfl rfl rfl rfl (((hI.row.mod hg36 (fun _ _ h => h)).mod hm7 hup).mod hn8.grow (fun _ _ h => h)) (Sl.new hn8 6 1 rfl (by omega) (fun h => h)) (rfl) (by omega)) ?_
        rintro u9 w9 ⟨hr9, hm9, hu9⟩
        have hs16 := hI.mod.size
        have hs36 := hg36.size
        have hs67 := hm7.size
        have hs78 := hn8.grow.size
        have hI9 : WayI w1 p s w9 u9 (ks ++ [c]) j bad 0 := ⟨by rw [List.length_append, List.flatMap_append]; exact hr9, fun b e => by
            rcases hu9 with h1 | h1
            · exact hI.fresh b (h1 ▸ e)
            · rw [h1] at e; cases e; omega
          , (hP7.mod hn8.grow (fun h => h)).mod hm9 (fun e => hup p e rfl), hj, (((hI.mod.trans (Mod.any' hg36)).trans hm7).trans (Mod.any' hn8.grow)).then hm9 (fun b hb e => by have h1 := hI.fresh b e; omega), by have h1 := hcnt.2 rfl; simp; omega, fun hb => by have h1 := hcnt.2 rfl; obtain ⟨x, hx, _⟩ := hyes7 hb; have h8 := factorS_adv hg his hx; simp; omega⟩
        refine RL.p rfl rfl ?_
        refine RL.done ?_
        refine RK.inBlock ?_
        exact RK.back (ih (u9, ks ++ [c], xs ++ (match factorS s g i with | some q => [q.1] | none => []), j, m, bad) _ ⟨hI9, fun hb => by simp only at hb; rw [← hl, hno7 hb], fun hb => by
            simp only at hb ⊢
            obtain ⟨x, hx, hrx⟩ := hyes7 hb
            rw [hx] at hl ⊢
            have h8 := factorS_adv hg his hx
            exact ⟨kids_more hpo (by omega) hru (RxV.grow hg36 _ hk) hm7 hrx hn8 hm9 hu9, hl, by omega⟩⟩ (by
            simp only [Bool.false_eq_true, if_false]
            split
            · omega
            · rename_i hb9
              obtain ⟨x, hx, _⟩ := hyes7 (by simpa using hb9)
              have h8 := factorS_adv hg his hx
              omega)) ⟨rfl, rfl, rfl, rfl, trivial⟩
      · have h41 : b8 s i = 41 := by simpa [seesS, his] using h18
        have hend : false = false → wayS s g i0 = some (mkN 2 xs, i) := fun hb => by
            obtain ⟨hk, hl, hn⟩ := hgo hb
            obtain ⟨m, rfl⟩ : ∃ m, n = m + 1 := ⟨n - 1, by omega⟩
            unfold wayS
            rw [← hR, ← hl, wayL, if_neg (fun h => by unfold goesS at h; simp [h41] at h)]; rfl
        have hnone : false = true → wayS s g i0 = none := fun hb => by unfold wayS; rw [← hR, hno hb]; rfl
        have hs1x := hI.mod.size
        obtain ⟨adu, cu, rfl, hcu9⟩ := hI.row.cap
        refine RK.exit rfl ?_
        iterate 2 refine RK.seq ?_
        refine RK.region ?_
        refine RL.p rfl rfl ?_
        refine RL.q (.free rfl) rfl rfl (Yld.lenSl u325 rfl) ?_
        refine RL.p rfl rfl ?_
        refine RL.done ?_
        first | refine RK.condD rfl (fun h27 => ?_) (fun h27 => ?_) | refine RK.condN rfl (fun h27 => ?_) (fun h27 => ?_) | refine RK.cond rfl (fun h27 => ?_) (fun h27 => ?_)
        · obtain ⟨c, rfl⟩ : ∃ c, ks = [c] := by
              match ks, h27 with
              | [c], _ => exact ⟨c, rfl⟩
          have hsu : Sl No w3 (.slice adu [c].length cu) 6 [c].length ([c].flatMap celC) := Sl.own hI.row (fun _ _ h => h)
          obtain ⟨bu, ou, cu', heu, _, _, hcu⟩ := hsu.elem (k := 0) celC_len rfl
          cases heu
          refine RK.seq ?_
          refine RK.region ?_
          refine RL.p rfl rfl ?_
          refine RL.q (.free rfl) rfl rfl (Yld.indexAddr u325 i327 rfl rfl (by omega) (by simp)) ?_
          refine RL.q (.free rfl) rfl rfl (Yld.loadN (cs := celC c) a327 rfl (atN (fun j u hj => hg36.cell (hcu j u hj) (fun h => h)))) ?_
          refine RL.op' (.free rfl) rfl (Does.storeN i327 rfl rfl rfl rfl ((hn4.blk.mod hI.mod hb4p).mod hg36 (fun h => h)) (Nat.le_refl 6)) ?_
          rintro _ w19 ⟨hb19, hm19, _⟩
          refine RL.done ?_
          refine RK.ret_of Tryz.func315 (resC (cs := celC c) rfl rfl a327 hb19) ?_ _
          exact ⟨_, rfl, ⟨c, i, false, rfl, hI.le, (hI.pa.mod hg36 (fun h => h)).mod hm19 (by omega), hnone, fun hb => by
              obtain ⟨hk, hl, hn⟩ := hgo hb
              obtain ⟨x, rfl⟩ : ∃ x, xs = [x] := by
                have h9 := rx_len xs hk
                match xs, h9 with
                | [x], _ => exact ⟨x, rfl⟩
              obtain ⟨c', ks', e1, hx, _⟩ := hk
              cases e1
              exact ⟨x, hend hb, RxV.off (fun b _ e => .inl (hl01 b e)) x (RxV.mod hm19 (fun b _ e => by have e' : b = b4 := e; rw [e']; exact .inl hb4o) x (RxV.grow hg36 x hx))⟩⟩, ((((Mod.any' hg4 : Mod (· = p) w w1).trans hI.mod).trans (Mod.any' hg36))).then hm19 (fun b hb e => by have e' : b = b4 := e; omega)⟩
        · refine RK.skip ?_
          refine RK.seq ?_
          refine RK.region ?_
          refine RL.p rfl rfl ?_
          refine RL.q (.free rfl) rfl rfl (Yld.build (v := .agg #[.int .i64 2, .int .u64 0, .int .u64 0, .int .u64 0, .int .u64 0, .slice adu ks.length cu]) rfl (fun w => by kernel_rfl)) ?_
          refine RL.op' (.free rfl) rfl (Does.storeN i327 rfl rfl rfl rfl ((hn4.blk.mod hI.mod hb4p).mod hg36 (fun h => h)) (Nat.le_refl 6)) ?_
          rintro _ w19 ⟨hb19, hm19, _⟩
          refine RL.done ?_
          refine RK.ret_of Tryz.func315 (resC (cs := [.int .i64 2, .int .u64 0, .int .u64 0, .int .u64 0, .int .u64 0, .slice adu ks.length cu]) rfl rfl a327 hb19) ?_ _
          exact ⟨_, rfl, ⟨⟨2, 0, 0, 0, 0, adu, ks.length, cu⟩, i, false, rfl, hI.le, (hI.pa.mod hg36 (fun h => h)).mod hm19 (by omega), hnone, fun hb => by
              obtain ⟨hk, hl, hn⟩ := hgo hb
              have h9 := rx_len xs hk
              have hmk := mkN_ne (op := 2) (l := xs) (by rw [← h9]; omega)
              refine ⟨_, hend hb, ?_⟩
              rw [hmk]
              refine ⟨adu, ks.length, cu, ks, ⟨rfl, hcu9⟩, ?_, ?_⟩
              · exact ((Sl.own (M := Old w1) (hI.row.mod hg36 (fun _ _ h => h)) (fun b e e2 => by have h8 := hI.fresh b e; unfold Old at e2; omega)).mod (hm19.mono fun b _ e => by have e' : b = b4 := e; rw [e']; exact hb4o)).off (by omega) (fun b _ e => hl01 b e)
              · exact RxV.off (fun b _ e => .inl (hl01 b e)) _ (RxV.mod hm19 (fun b _ e => by have e' : b = b4 := e; rw [e']; exact .inl hb4o) _ (RxV.grow hg36 _ hk))⟩, ((((Mod.any' hg4 : Mod (· = p) w w1).trans hI.mod).trans (Mod.any' hg36))).then hm19 (fun b hb e => by have e' : b = b4 := e; omega)⟩
    · have h124 : b8 s i = 124 := by simpa [seesS, his] using h14
      iterate 3 refine RL.no (.no rfl rfl rfl rfl) rfl rfl ?_
      refine RL.p rfl rfl ?_
      refine RL.done ?_
      refine RK.condF rfl ?_
      have hend : false = false → wayS s g i0 = some (mkN 2 xs, i) := fun hb => by
          obtain ⟨hk, hl, hn⟩ := hgo hb
          obtain ⟨m, rfl⟩ : ∃ m, n = m + 1 := ⟨n - 1, by omega⟩
          unfold wayS
          rw [← hR, ← hl, wayL, if_neg (fun h => by unfold goesS at h; simp [h124] at h)]; rfl
      have hnone : false = true → wayS s g i0 = none := fun hb => by unfold wayS; rw [← hR, hno hb]; rfl
      have hs1x := hI.mod.size
      obtain ⟨adu, cu, rfl, hcu9⟩ := hI.row.cap
      refine RK.exit rfl ?_
      iterate 2 refine RK.seq ?_
      refine RK.region ?_
      refine RL.p rfl rfl ?_
      refine RL.q (.free rfl) rfl rfl (Yld.lenSl u325 rfl) ?_
      refine RL.p rfl rfl ?_
      refine RL.done ?_
      first | refine RK.condD rfl (fun h27 => ?_) (fun h27 => ?_) | refine RK.condN rfl (fun h27 => ?_) (fun h27 => ?_) | refine RK.cond rfl (fun h27 => ?_) (fun h27 => ?_)
      · obtain ⟨c, rfl⟩ : ∃ c, ks = [c] := by
            match ks, h27 with
            | [c], _ => exact ⟨c, rfl⟩
        have hsu : Sl No w3 (.slice adu [c].length cu) 6 [c].length ([c].flatMap celC) := Sl.own hI.row (fun _ _ h => h)
        obtain ⟨bu, ou, cu', heu, _, _, hcu⟩ := hsu.elem (k := 0) celC_len rfl
        cases heu
        refine RK.seq ?_
        refine RK.region ?_
        refine RL.p rfl rfl ?_
        refine RL.q (.free rfl) rfl rfl (Yld.indexAddr u325 i327 rfl rfl (by omega) (by simp)) ?_
        refine RL.q (.free rfl) rfl rfl (Yld.loadN (cs := celC c) a327 rfl (atN (fun j u hj => hg35.cell (hcu j u hj) (fun h => h)))) ?_
        refine RL.op' (.free rfl) rfl (Does.storeN i327 rfl rfl rfl rfl ((hn4.blk.mod hI.mod hb4p).mod hg35 (fun h => h)) (Nat.le_refl 6)) ?_
        rintro _ w19 ⟨hb19, hm19, _⟩
        refine RL.done ?_
        refine RK.ret_of Tryz.func315 (resC (cs := celC c) rfl rfl a327 hb19) ?_ _
        exact ⟨_, rfl, ⟨c, i, false, rfl, hI.le, (hI.pa.mod hg35 (fun h => h)).mod hm19 (by omega), hnone, fun hb => by
            obtain ⟨hk, hl, hn⟩ := hgo hb
            obtain ⟨x, rfl⟩ : ∃ x, xs = [x] := by
              have h9 := rx_len xs hk
              match xs, h9 with
              | [x], _ => exact ⟨x, rfl⟩
            obtain ⟨c', ks', e1, hx, _⟩ := hk
            cases e1
            exact ⟨x, hend hb, RxV.off (fun b _ e => .inl (hl01 b e)) x (RxV.mod hm19 (fun b _ e => by have e' : b = b4 := e; rw [e']; exact .inl hb4o) x (RxV.grow hg35 x hx))⟩⟩, ((((Mod.any' hg4 : Mod (· = p) w w1).trans hI.mod).trans (Mod.any' hg35))).then hm19 (fun b hb e => by have e' : b = b4 := e; omega)⟩
      · refine RK.skip ?_
        refine RK.seq ?_
        refine RK.region ?_
        refine RL.p rfl rfl ?_
        refine RL.q (.free rfl) rfl rfl (Yld.build (v := .agg #[.int .i64 2, .int .u64 0, .int .u64 0, .int .u64 0, .int .u64 0, .slice adu ks.length cu]) rfl (fun w => by kernel_rfl)) ?_
        refine RL.op' (.free rfl) rfl (Does.storeN i327 rfl rfl rfl rfl ((hn4.blk.mod hI.mod hb4p).mod hg35 (fun h => h)) (Nat.le_refl 6)) ?_
        rintro _ w19 ⟨hb19, hm19, _⟩
        refine RL.done ?_
        refine RK.ret_of Tryz.func315 (resC (cs := [.int .i64 2, .int .u64 0, .int .u64 0, .int .u64 0, .int .u64 0, .slice adu ks.length cu]) rfl rfl a327 hb19) ?_ _
        exact ⟨_, rfl, ⟨⟨2, 0, 0, 0, 0, adu, ks.length, cu⟩, i, false, rfl, hI.le, (hI.pa.mod hg35 (fun h => h)).mod hm19 (by omega), hnone, fun hb => by
            obtain ⟨hk, hl, hn⟩ := hgo hb
            have h9 := rx_len xs hk
            have hmk := mkN_ne (op := 2) (l := xs) (by rw [← h9]; omega)
            refine ⟨_, hend hb, ?_⟩
            rw [hmk]
            refine ⟨adu, ks.length, cu, ks, ⟨rfl, hcu9⟩, ?_, ?_⟩
            · exact ((Sl.own (M := Old w1) (hI.row.mod hg35 (fun _ _ h => h)) (fun b e e2 => by have h8 := hI.fresh b e; unfold Old at e2; omega)).mod (hm19.mono fun b _ e => by have e' : b = b4 := e; rw [e']; exact hb4o)).off (by omega) (fun b _ e => hl01 b e)
            · exact RxV.off (fun b _ e => .inl (hl01 b e)) _ (RxV.mod hm19 (fun b _ e => by have e' : b = b4 := e; rw [e']; exact .inl hb4o) _ (RxV.grow hg35 _ hk))⟩, ((((Mod.any' hg4 : Mod (· = p) w w1).trans hI.mod).trans (Mod.any' hg35))).then hm19 (fun b hb e => by have e' : b = b4 := e; omega)⟩
  · have h9' : bad = true ∨ ¬ i < s.size := by cases bad <;> simp at h9 ⊢; omega
    iterate 3 refine RL.no (.no rfl rfl rfl rfl) rfl rfl ?_
    iterate 2 refine RL.p rfl rfl ?_
    iterate 3 refine RL.no (.no rfl rfl rfl rfl) rfl rfl ?_
    refine RL.p rfl rfl ?_
    refine RL.done ?_
    refine RK.condF rfl ?_
    have hend : bad = false → wayS s g i0 = some (mkN 2 xs, i) := fun hb => by
        obtain ⟨hk, hl, hn⟩ := hgo hb
        obtain ⟨m, rfl⟩ : ∃ m, n = m + 1 := ⟨n - 1, by omega⟩
        unfold wayS
        rw [← hR, ← hl, wayL, if_neg (fun h => by unfold goesS at h; simp at h; rcases h9' with h8 | h8; (rw [hb] at h8; cases h8); exact h8 h.1)]; rfl
    have hnone : bad = true → wayS s g i0 = none := fun hb => by unfold wayS; rw [← hR, hno hb]; rfl
    have hs1x := hI.mod.size
    obtain ⟨adu, cu, rfl, hcu9⟩ := hI.row.cap
    refine RK.exit rfl ?_
    iterate 2 refine RK.seq ?_
    refine RK.region ?_
    refine RL.p rfl rfl ?_
    refine RL.q (.free rfl) rfl rfl (Yld.lenSl u325 rfl) ?_
    refine RL.p rfl rfl ?_
    refine RL.done ?_
    first | refine RK.condD rfl (fun h27 => ?_) (fun h27 => ?_) | refine RK.condN rfl (fun h27 => ?_) (fun h27 => ?_) | refine RK.cond rfl (fun h27 => ?_) (fun h27 => ?_)
    · obtain ⟨c, rfl⟩ : ∃ c, ks = [c] := by
          match ks, h27 with
          | [c], _ => exact ⟨c, rfl⟩
      have hsu : Sl No w3 (.slice adu [c].length cu) 6 [c].length ([c].flatMap celC) := Sl.own hI.row (fun _ _ h => h)
      obtain ⟨bu, ou, cu', heu, _, _, hcu⟩ := hsu.elem (k := 0) celC_len rfl
      cases heu
      refine RK.seq ?_
      refine RK.region ?_
      refine RL.p rfl rfl ?_
      refine RL.q (.free rfl) rfl rfl (Yld.indexAddr u325 i327 rfl rfl (by omega) (by simp)) ?_
      refine RL.q (.free rfl) rfl rfl (Yld.loadN (cs := celC c) a327 rfl (atN (fun j u hj => hg34.cell (hcu j u hj) (fun h => h)))) ?_
      refine RL.op' (.free rfl) rfl (Does.storeN i327 rfl rfl rfl rfl ((hn4.blk.mod hI.mod hb4p).mod hg34 (fun h => h)) (Nat.le_refl 6)) ?_
      rintro _ w19 ⟨hb19, hm19, _⟩
      refine RL.done ?_
      refine RK.ret_of Tryz.func315 (resC (cs := celC c) rfl rfl a327 hb19) ?_ _
      exact ⟨_, rfl, ⟨c, i, bad, rfl, hI.le, (hI.pa.mod hg34 (fun h => h)).mod hm19 (by omega), hnone, fun hb => by
          obtain ⟨hk, hl, hn⟩ := hgo hb
          obtain ⟨x, rfl⟩ : ∃ x, xs = [x] := by
            have h9 := rx_len xs hk
            match xs, h9 with
            | [x], _ => exact ⟨x, rfl⟩
          obtain ⟨c', ks', e1, hx, _⟩ := hk
          cases e1
          exact ⟨x, hend hb, RxV.off (fun b _ e => .inl (hl01 b e)) x (RxV.mod hm19 (fun b _ e => by have e' : b = b4 := e; rw [e']; exact .inl hb4o) x (RxV.grow hg34 x hx))⟩⟩, ((((Mod.any' hg4 : Mod (· = p) w w1).trans hI.mod).trans (Mod.any' hg34))).then hm19 (fun b hb e => by have e' : b = b4 := e; omega)⟩
    · refine RK.skip ?_
      refine RK.seq ?_
      refine RK.region ?_
      refine RL.p rfl rfl ?_
      refine RL.q (.free rfl) rfl rfl (Yld.build (v := .agg #[.int .i64 2, .int .u64 0, .int .u64 0, .int .u64 0, .int .u64 0, .slice adu ks.length cu]) rfl (fun w => by kernel_rfl)) ?_
      refine RL.op' (.free rfl) rfl (Does.storeN i327 rfl rfl rfl rfl ((hn4.blk.mod hI.mod hb4p).mod hg34 (fun h => h)) (Nat.le_refl 6)) ?_
      rintro _ w19 ⟨hb19, hm19, _⟩
      refine RL.done ?_
      refine RK.ret_of Tryz.func315 (resC (cs := [.int .i64 2, .int .u64 0, .int .u64 0, .int .u64 0, .int .u64 0, .slice adu ks.length cu]) rfl rfl a327 hb19) ?_ _
      exact ⟨_, rfl, ⟨⟨2, 0, 0, 0, 0, adu, ks.length, cu⟩, i, bad, rfl, hI.le, (hI.pa.mod hg34 (fun h => h)).mod hm19 (by omega), hnone, fun hb => by
          obtain ⟨hk, hl, hn⟩ := hgo hb
          have h9 := rx_len xs hk
          have hmk := mkN_ne (op := 2) (l := xs) (by rw [← h9]; omega)
          refine ⟨_, hend hb, ?_⟩
          rw [hmk]
          refine ⟨adu, ks.length, cu, ks, ⟨rfl, hcu9⟩, ?_, ?_⟩
          · exact ((Sl.own (M := Old w1) (hI.row.mod hg34 (fun _ _ h => h)) (fun b e e2 => by have h8 := hI.fresh b e; unfold Old at e2; omega)).mod (hm19.mono fun b _ e => by have e' : b = b4 := e; rw [e']; exact hb4o)).off (by omega) (fun b _ e => hl01 b e)
          · exact RxV.off (fun b _ e => .inl (hl01 b e)) _ (RxV.mod hm19 (fun b _ e => by have e' : b = b4 := e; rw [e']; exact .inl hb4o) _ (RxV.grow hg34 _ hk))⟩, ((((Mod.any' hg4 : Mod (· = p) w w1).trans hI.mod).trans (Mod.any' hg34))).then hm19 (fun b hb e => by have e' : b = b4 := e; omega)⟩
end Go.Proofs.YtnnmgfnhblbolaaGreatDoor
set_option linter.unusedVariables false
set_option linter.unusedSimpArgs false
set_option maxHeartbeats 1000000
set_option maxRecDepth 100000
namespace Go.Proofs.YtnnmgfnhblbolaaGreatDoor
open Go Go.X Go.Rex
theorem waysL_adv {s : ByteArray} {g : Nat → Option (Rx × Nat)} (hg : ∀ i x j, i ≤ s.size → g i = some (x, j) → i ≤ j ∧ j ≤ s.size) : ∀ {n i : Nat} {acc xs : List Rx} {j : Nat}, waysL s g n i acc = some (xs, j) → i ≤ s.size → i ≤ j ∧ j ≤ s.size
  | 0, _, _, _, _, h, _ => by simp [waysL] at h
  | n + 1, i, acc, xs, j, h, hi => by
    unfold waysL at h
    split at h
    · rename_i hgo
      have hi' : i < s.size := by unfold barS at hgo; simp at hgo; exact hgo.1
      cases hf : wayS s g (i + 1) with
      | none => rw [hf] at h; cases h
      | some q =>
        obtain ⟨x, k⟩ := q
        rw [hf] at h
        have h1 := wayS_adv hg (by omega) hf
        have h2 := waysL_adv hg (n := n) (i := k) h h1.2
        omega
    · simp at h; omega
theorem waysS_adv {s : ByteArray} {g : Nat → Option (Rx × Nat)} (hg : ∀ i x j, i ≤ s.size → g i = some (x, j) → i ≤ j ∧ j ≤ s.size) {i : Nat} (hi : i ≤ s.size) {x : Rx} {j : Nat} (h : waysS s g i = some (x, j)) : i ≤ j ∧ j ≤ s.size := by
  unfold waysS at h
  cases hw : wayS s g i with
  | none => rw [hw] at h; cases h
  | some q =>
    obtain ⟨y, k⟩ := q
    rw [hw] at h
    have h1 := wayS_adv hg hi hw
    simp only at h
    cases hl : waysL s g (s.size + 1) k [y] with
    | none => rw [hl] at h; cases h
    | some q2 =>
      rw [hl] at h
      simp at h
      have := waysL_adv hg (xs := q2.1) (j := q2.2) hl h1.2
      omega
theorem ways_ok (s : ByteArray) (hs : s.size ≤ 40) (p d : Nat) (hd : d ≤ 8) (g : Nat → Option (Rx × Nat)) (hg : ∀ i x j, i ≤ s.size → g i = some (x, j) → i ≤ j ∧ j ≤ s.size) (hg8 : d = 8 → ∀ i, g i = none) (hgw : GrpOk p s d g)
    (w : World) (i0 : Nat) (h : PA w p s i0 false) (hi0 : i0 ≤ s.size) :
    Fx Tryz.prog 293 [pp p, .int .i64 (d : Int)] w (fun u w' => RT w w' p s (waysS s g i0) u ∧ Mod (· = p) w w') := by
  have hplt := h.lt
  obtain ⟨T, hT⟩ : ∃ T, T = waysS s g i0 := ⟨_, rfl⟩
  refine enter Tryz.func293 rfl rfl rfl _ (Pick.sub (l := [0, 1]) (.cons rfl (.cons rfl .nil))) ?_
  refine RK.seq ?_
  refine RK.region ?_
  refine RL.op (.free rfl) rfl rfl (Does.alloc i327) ?_
  rintro _ w1 ⟨b4, rfl, hn4⟩
  have hb4 := hn4.at_
  have hg4 := hn4.grow
  have hb4s := hn4.size
  have hb4p : ¬ b4 = p := by omega
  have hl01 : ∀ b, Old w b → Old w1 b := fun b e => by unfold Old at *; omega
  have hb4o : Old w1 b4 := by unfold Old; omega
  have hpo : Old w1 p := by unfold Old; omega
  refine RL.done ?_
  refine RK.seq ?_
  refine RK.region ?_
  iterate 2 refine RL.p rfl rfl ?_
  refine RL.op (.free rfl) rfl rfl (Does.call rfl e315 (way_ok s hs p d hd g hg hg8 hgw _ i0 (h.mod hg4 (fun h => h)) hi0)) ?_
  rintro _ w2 ⟨⟨c0, j0, bad0, rfl, hj0, hP2, hno2, hyes2⟩, hm2⟩
  have hs12 := hm2.size
  refine RL.op (.free rfl) rfl rfl (Does.slice1 u325 i327 rfl rfl rfl rfl rfl) ?_
  rintro _ w20 ⟨b5, rfl, hn5⟩
  have hb5 := hn5.at_
  have hxs0 : ∃ xs0, (bad0 = false → RxV (KOf w1 (.slice (some ⟨b5, 0, none⟩) 1 1)) w20 (lstS xs0) [c0] ∧ (waysL s g (s.size + 1) j0 xs0).map (fun p => (mkN 3 p.1, p.2)) = T) ∧ (bad0 = true → T = none) := by
      cases hb : bad0 with
      | true => exact ⟨[], fun h => by simp at h, fun _ => by rw [hT]; unfold waysS; rw [hno2 hb]⟩
      | false =>
        obtain ⟨x, hx, hrx⟩ := hyes2 hb
        refine ⟨[x], fun _ => ⟨⟨c0, [], rfl, RxV.grow hn5.grow x (RxV.off (fun b hb e => ?_) x hrx), rfl⟩, by rw [hT]; unfold waysS; rw [hx]⟩, fun h => by simp at h⟩
        rcases e with e | e
        · exact e
        · simp [Value.ownBlock] at e; omega
  obtain ⟨xs0, hgo0, hno0⟩ := hxs0
  have hI0 : WayI w1 p s w20 (.slice (some ⟨b5, 0, none⟩) 1 1) [c0] j0 bad0 1 := ⟨Row.new hn5 6 1 rfl (by omega), fun b e => by simp [Value.ownBlock] at e; omega, hP2.mod hn5.grow (fun h => h), hj0, hm2.trans (Mod.any' hn5.grow), by simp⟩
  refine RL.p rfl rfl ?_
  refine RL.done ?_
  refine RK.seq ?_
  refine RK.block ?_
  refine RK.loop (fun t : Value × List Cel × List Rx × Nat × Nat × Bool => [(0, pp p), (1, .int .i64 (d : Int)), (4, pp b4), (5, t.1)]) (fun t w' => WayI w1 p s w' t.1 t.2.1 t.2.2.2.1 t.2.2.2.2.2 1 ∧ (t.2.2.2.2.2 = true → T = none) ∧ (t.2.2.2.2.2 = false → RxV (KOf w1 t.1) w' (lstS t.2.2.1) t.2.1 ∧ (waysL s g t.2.2.2.2.1 t.2.2.2.1 t.2.2.1).map (fun p => (mkN 3 p.1, p.2)) = T ∧ s.size + 1 ≤ t.2.2.2.2.1 + t.2.2.2.1)) (fun t => if t.2.2.2.2.2 then 0 else s.size + 1 - t.2.2.2.1) (.slice (some ⟨b5, 0, none⟩) 1 1, [c0], xs0, j0, s.size + 1, bad0) ⟨rfl, rfl, rfl, rfl, trivial⟩ ⟨hI0, hno0, fun hb => ⟨(hgo0 hb).1, (hgo0 hb).2, by simp only; omega⟩⟩ (fun t w3 hI0' ih => ?_)
  obtain ⟨u, ks, xs, i, n, bad⟩ := t
  obtain ⟨hI, hno, hgo⟩ := hI0'
  simp only at hI hno hgo
  have hile := hI.le
  have hup : ∀ b, u.ownBlock = some b → ¬ b = p := fun b e e2 => by have h1 := hI.fresh b e; unfold Old at hpo; omega
  iterate 2 refine RK.seq ?_
  refine RK.region ?_
  refine RL.p rfl rfl ?_
  refine RL.op (.free rfl) rfl rfl (Does.call rfl e316 (next_ok _ p s i bad hI.pa (by omega) 124)) ?_
  rintro _ w4 ⟨rfl, hP4, hm4⟩
  refine RL.done ?_
  first | refine RK.condD rfl (fun h11 => ?_) (fun h11 => ?_) | refine RK.condN rfl (fun h11 => ?_) (fun h11 => ?_) | refine RK.cond rfl (fun h11 => ?_) (fun h11 => ?_)
  · obtain ⟨hb, his, h124⟩ : bad = false ∧ i < s.size ∧ b8 s i = 124 := by simpa [seesS] using h11
    subst hb
    rw [h11] at hP4
    have hP4' : PA w4 p s (i + 1) false := hP4
    obtain ⟨hk, hl, hn⟩ := hgo rfl
    obtain ⟨m, rfl⟩ : ∃ m, n = m + 1 := ⟨n - 1, by omega⟩
    have hbar : barS s i = true := by unfold barS; exact decide_eq_true ⟨his, h124⟩
    rw [waysL, if_pos hbar] at hl
    refine RK.skip ?_
    refine RK.block ?_
    refine RK.region ?_
    iterate 3 refine RL.p rfl rfl ?_
    refine RL.op (.free rfl) rfl rfl (Does.call rfl e315 (way_ok s hs p d hd g hg hg8 hgw _ (i + 1) hP4' (by omega))) ?_
    rintro _ w7 ⟨⟨c, j, bad, rfl, hj, hP7, hno7, hyes7⟩, hm7⟩
    refine RL.op (.free rfl) rfl rfl (Does.slice1 u325 i327 rfl rfl rfl rfl rfl) ?_
    rintro _ w8 ⟨b8, rfl, hn8⟩
    have hru : ∀ b, u.ownBlock = some b → b < w4.heap.size := fun b e => by have h1 := hI.row.lt e; have h2 := hm4.size; omega
    have hcnt := hI.cnt
    refine RL.op (.free rfl) rfl rfl (Does.append u325 i327 rfl rfl rfl rfl rfl (((hI.row.mod hm4 hup).mod hm7 hup).mod hn8.grow (fun _ _ h => h)) (Sl.new hn8 6 1 rfl (by omega) (fun h => h)) (rfl) (by omega)) ?_
    rintro u9 w9 ⟨hr9, hm9, hu9⟩
    have hs16 := hI.mod.size
    have hs36 := hm4.size
    have hs67 := hm7.size
    have hs78 := hn8.grow.size
    have hI9 : WayI w1 p s w9 u9 (ks ++ [c]) j bad 1 := ⟨by rw [List.length_append, List.flatMap_append]; exact hr9, fun b e => by
        rcases hu9 with h1 | h1
        · exact hI.fresh b (h1 ▸ e)
        · rw [h1] at e; cases e; omega
      , (hP7.mod hn8.grow (fun h => h)).mod hm9 (fun e => hup p e rfl), hj, (((hI.mod.trans hm4).trans hm7).trans (Mod.any' hn8.grow)).then hm9 (fun b hb e => by have h1 := hI.fresh b e; omega), by have h1 := hcnt.2 rfl; simp; omega, fun hb => by have h1 := hcnt.2 rfl; obtain ⟨x, hx, _⟩ := hyes7 hb; have h8 := wayS_adv hg (by omega) hx; simp; omega⟩
    refine RL.p rfl rfl ?_
    refine RL.done ?_
    refine RK.inBlock ?_
    exact RK.back (ih (u9, ks ++ [c], xs ++ (match wayS s g (i + 1) with | some q => [q.1] | none => []), j, m, bad) _ ⟨hI9, fun hb => by simp only at hb; rw [← hl, hno7 hb]; rfl, fun hb => by
        simp only at hb ⊢
        obtain ⟨x, hx, hrx⟩ := hyes7 hb
        rw [hx] at hl ⊢
        have h8 := wayS_adv hg (by omega) hx
        exact ⟨kids_more hpo (by omega) hru (RxV.mod hm4 (fun b _ e => by have e' : b = p := e; rw [e']; exact .inl hpo) _ hk) hm7 hrx hn8 hm9 hu9, hl, by omega⟩⟩ (by
        simp only [Bool.false_eq_true, if_false]
        split
        · omega
        · rename_i hb9
          obtain ⟨x, hx, _⟩ := hyes7 (by simpa using hb9)
          have h8 := wayS_adv hg (by omega) hx
          omega)) ⟨rfl, rfl, rfl, rfl, trivial⟩
  · have h11' : seesS s i bad 124 = false := by simpa using h11
    rw [h11'] at hP4
    have hP4' : PA w4 p s i bad := hP4
    have hI4 : WayI w1 p s w4 u ks i bad 1 := ⟨hI.row.mod hm4 hup, hI.fresh, hP4', hI.le, hI.mod.trans hm4, hI.cnt⟩
    have hgo4 : bad = false → RxV (KOf w1 u) w4 (lstS xs) ks ∧ (waysL s g n i xs).map (fun p => (mkN 3 p.1, p.2)) = T ∧ s.size + 1 ≤ n + i := fun hb => ⟨RxV.mod hm4 (fun b _ e => by have e' : b = p := e; rw [e']; exact .inl hpo) _ (hgo hb).1, (hgo hb).2⟩
    have hgr : Grow w4 w4 := Mod.refl _ _
    have hend : bad = false → waysS s g i0 = some (mkN 3 xs, i) := fun hb => by
        obtain ⟨hk, hl, hn⟩ := hgo hb
        obtain ⟨m, rfl⟩ : ∃ m, n = m + 1 := ⟨n - 1, by omega⟩
        rw [← hT, ← hl, waysL, if_neg (fun h => by unfold barS at h; simp at h; simp [seesS, hb, h] at h11')]; rfl
    have hnone : bad = true → waysS s g i0 = none := fun hb => by rw [← hT, hno hb]
    have hs1x := hI4.mod.size
    obtain ⟨adu, cu, rfl, hcu9⟩ := hI4.row.cap
    refine RK.exit rfl ?_
    iterate 2 refine RK.seq ?_
    refine RK.region ?_
    refine RL.p rfl rfl ?_
    refine RL.q (.free rfl) rfl rfl (Yld.lenSl u325 rfl) ?_
    refine RL.p rfl rfl ?_
    refine RL.done ?_
    first | refine RK.condD rfl (fun h20 => ?_) (fun h20 => ?_) | refine RK.condN rfl (fun h20 => ?_) (fun h20 => ?_) | refine RK.cond rfl (fun h20 => ?_) (fun h20 => ?_)
    · obtain ⟨c, rfl⟩ : ∃ c, ks = [c] := by
          match ks, h20 with
          | [c], _ => exact ⟨c, rfl⟩
      have hsu : Sl No w4 (.slice adu [c].length cu) 6 [c].length ([c].flatMap celC) := Sl.own hI4.row (fun _ _ h => h)
      obtain ⟨bu, ou, cu', heu, _, _, hcu⟩ := hsu.elem (k := 0) celC_len rfl
      cases heu
      refine RK.seq ?_
      refine RK.region ?_
      refine RL.p rfl rfl ?_
      refine RL.q (.free rfl) rfl rfl (Yld.indexAddr u325 i327 rfl rfl (by omega) (by simp)) ?_
      refine RL.q (.free rfl) rfl rfl (Yld.loadN (cs := celC c) a327 rfl (atN (fun j u hj => hgr.cell (hcu j u hj) (fun h => h)))) ?_
      refine RL.op' (.free rfl) rfl (Does.storeN i327 rfl rfl rfl rfl ((hn4.blk.mod hI4.mod hb4p).mod hgr (fun h => h)) (Nat.le_refl 6)) ?_
      rintro _ w19 ⟨hb19, hm19, _⟩
      refine RL.done ?_
      refine RK.ret_of Tryz.func293 (resC (cs := celC c) rfl rfl a327 hb19) ?_ _
      exact ⟨_, rfl, ⟨c, i, bad, rfl, hI4.le, (hI4.pa.mod hgr (fun h => h)).mod hm19 (by omega), hnone, fun hb => by
          obtain ⟨hk, hl, hn⟩ := hgo4 hb
          obtain ⟨x, rfl⟩ : ∃ x, xs = [x] := by
            have h9 := rx_len xs hk
            match xs, h9 with
            | [x], _ => exact ⟨x, rfl⟩
          obtain ⟨c', ks', e1, hx, _⟩ := hk
          cases e1
          exact ⟨x, hend hb, RxV.off (fun b _ e => .inl (hl01 b e)) x (RxV.mod hm19 (fun b _ e => by have e' : b = b4 := e; rw [e']; exact .inl hb4o) x (RxV.grow hgr x hx))⟩⟩, ((((Mod.any' hg4 : Mod (· = p) w w1).trans hI4.mod).trans (Mod.any' hgr))).then hm19 (fun b hb e => by have e' : b = b4 := e; omega)⟩
    · refine RK.skip ?_
      refine RK.seq ?_
      refine RK.region ?_
      refine RL.p rfl rfl ?_
      refine RL.q (.free rfl) rfl rfl (Yld.build (v := .agg #[.int .i64 3, .int .u64 0, .int .u64 0, .int .u64 0, .int .u64 0, .slice adu ks.length cu]) rfl (fun w => by kernel_rfl)) ?_
      refine RL.op' (.free rfl) rfl (Does.storeN i327 rfl rfl rfl rfl ((hn4.blk.mod hI4.mod hb4p).mod hgr (fun h => h)) (Nat.le_refl 6)) ?_
      rintro _ w19 ⟨hb19, hm19, _⟩
      refine RL.done ?_
      refine RK.ret_of Tryz.func293 (resC (cs := [.int .i64 3, .int .u64 0, .int .u64 0, .int .u64 0, .int .u64 0, .slice adu ks.length cu]) rfl rfl a327 hb19) ?_ _
      exact ⟨_, rfl, ⟨⟨3, 0, 0, 0, 0, adu, ks.length, cu⟩, i, bad, rfl, hI4.le, (hI4.pa.mod hgr (fun h => h)).mod hm19 (by omega), hnone, fun hb => by
          obtain ⟨hk, hl, hn⟩ := hgo4 hb
          have h9 := rx_len xs hk
          have hmk := mkN_ne (op := 3) (l := xs) (by rw [← h9]; omega)
          refine ⟨_, hend hb, ?_⟩
          rw [hmk]
          refine ⟨adu, ks.length, cu, ks, ⟨rfl, hcu9⟩, ?_, ?_⟩
          · exact ((Sl.own (M := Old w1) (hI4.row.mod hgr (fun _ _ h => h)) (fun b e e2 => by have h8 := hI4.fresh b e; unfold Old at e2; omega)).mod (hm19.mono fun b _ e => by have e' : b = b4 := e; rw [e']; exact hb4o)).off (by omega) (fun b _ e => hl01 b e)
          · exact RxV.off (fun b _ e => .inl (hl01 b e)) _ (RxV.mod hm19 (fun b _ e => by have e' : b = b4 := e; rw [e']; exact .inl hb4o) _ (RxV.grow hgr _ hk))⟩, ((((Mod.any' hg4 : Mod (· = p) w w1).trans hI4.mod).trans (Mod.any' hgr))).then hm19 (fun b hb e => by have e' : b = b4 := e; omega)⟩
theorem par_adv (s : ByteArray) : ∀ r i x j, i ≤ s.size → par s r i = some (x, j) → i ≤ j ∧ j ≤ s.size
  | 0, i, x, j, hi, h => waysS_adv (g := fun _ => none) (fun _ _ _ _ h => by cases h) hi h
  | r + 1, i, x, j, hi, h => waysS_adv (g := par s r) (par_adv s r) hi h
theorem par_ok (s : ByteArray) (hs : s.size ≤ 40) (p : Nat) : ∀ (r d : Nat), d + r = 8 → ∀ w i, PA w p s i false → i ≤ s.size → Fx Tryz.prog 293 [pp p, .int .i64 (d : Int)] w (fun u w' => RT w w' p s (par s r i) u ∧ Mod (· = p) w w')
  | 0, d, hd, w, i, h, hi => ways_ok s hs p d (by omega) (fun _ => none) (fun _ _ _ _ h => by cases h) (fun _ _ => rfl) (fun h8 => by omega) w i h hi
  | r + 1, d, hd, w, i, h, hi => ways_ok s hs p d (by omega) (par s r) (par_adv s r) (fun h8 => by omega) (fun h8 w i h hi => par_ok s hs p r (d + 1) (by omega) w i h hi) w i h hi
theorem way_bad (s : ByteArray) (p : Nat) (d : Int) (w : World) (i : Nat) (h : PA w p s i true) :
    Fx Tryz.prog 315 [pp p, .int .i64 d] w (fun u w' => ∃ c : Cel, u = .agg (celC c).toArray ∧ PA w' p s i true ∧ Mod (· = p) w w') := by
  have hplt := h.lt
  refine enter Tryz.func315 rfl rfl rfl _ (Pick.sub (l := [0, 1]) (.cons rfl (.cons rfl .nil))) ?_
  refine RK.seq ?_
  refine RK.region ?_
  refine RL.op (.free rfl) rfl rfl (Does.alloc i327) ?_
  rintro _ w1 ⟨b4, rfl, hn4⟩
  have hb4 := hn4.at_
  have hb4p : ¬ b4 = p := by omega
  refine RL.done ?_
  refine RK.seq ?_
  refine RK.region ?_
  refine RL.p rfl rfl ?_
  refine RL.done ?_
  refine RK.seq ?_
  refine RK.block ?_
  refine RK.loop (fun t : Unit => [(0, pp p), (4, pp b4), (5, .slice none 0 0)]) (fun t w' => Grow w1 w') (fun t => 0) () ⟨rfl, rfl, rfl, trivial⟩ (Mod.refl _ _) (fun t w3 hI ih => ?_)
  have hP3 := (h.mod hn4.grow (fun h => h)).mod hI (fun h => h)
  iterate 2 refine RK.seq ?_
  refine RK.region ?_
  refine RL.p rfl rfl ?_
  refine RL.op (.free rfl) rfl rfl (Does.call rfl e336 (over_ok _ p s i true hP3)) ?_
  rintro _ w4 ⟨rfl, hg34⟩
  iterate 2 refine RL.p rfl rfl ?_
  refine RL.knownF (d := 9) rfl rfl (rfl) ?_
  iterate 3 refine RL.no (.no rfl rfl rfl rfl) rfl rfl ?_
  iterate 2 refine RL.p rfl rfl ?_
  iterate 3 refine RL.no (.no rfl rfl rfl rfl) rfl rfl ?_
  refine RL.p rfl rfl ?_
  refine RL.done ?_
  refine RK.condF rfl ?_
  refine RK.exit rfl ?_
  iterate 2 refine RK.seq ?_
  refine RK.region ?_
  refine RL.p rfl rfl ?_
  refine RL.q (.free rfl) rfl rfl (Yld.lenSl u325 rfl) ?_
  refine RL.p rfl rfl ?_
  refine RL.done ?_
  refine RK.condF (hcF rfl (rfl)) ?_
  refine RK.skip ?_
  refine RK.seq ?_
  refine RK.region ?_
  refine RL.p rfl rfl ?_
  refine RL.q (.free rfl) rfl rfl (Yld.build (v := .agg #[.int .i64 2, .int .u64 0, .int .u64 0, .int .u64 0, .int .u64 0, .slice none 0 0]) rfl (fun w => by kernel_rfl)) ?_
  refine RL.op' (.free rfl) rfl (Does.storeN i327 rfl rfl rfl rfl ((hn4.blk.mod hI (fun h => h)).mod hg34 (fun h => h)) (Nat.le_refl 6)) ?_
  rintro _ w19 ⟨hb19, hm19, _⟩
  refine RL.done ?_
  refine RK.ret_of Tryz.func315 (resC (cs := [.int .i64 2, .int .u64 0, .int .u64 0, .int .u64 0, .int .u64 0, .slice none 0 0]) rfl rfl a327 hb19) ?_ _
  exact ⟨_, rfl, ⟨2, 0, 0, 0, 0, none, 0, 0⟩, rfl, (hP3.mod hg34 (fun h => h)).mod hm19 (by omega), (Mod.any' ((hn4.grow.trans hI).trans hg34)).then hm19 (fun b hb e => by have e' : b = b4 := e; omega)⟩
theorem ways_bad (s : ByteArray) (p : Nat) (d : Int) (w : World) (i : Nat) (hi : i ≤ 1000) (h : PA w p s i true) :
    Fx Tryz.prog 293 [pp p, .int .i64 d] w (fun u w' => ∃ c : Cel, u = .agg (celC c).toArray ∧ PA w' p s i true ∧ Mod (· = p) w w') := by
  have hplt := h.lt
  have hse : seesS s i true 124 = false := rfl
  refine enter Tryz.func293 rfl rfl rfl _ (Pick.sub (l := [0, 1]) (.cons rfl (.cons rfl .nil))) ?_
  refine RK.seq ?_
  refine RK.region ?_
  refine RL.op (.free rfl) rfl rfl (Does.alloc i327) ?_
  rintro _ w1 ⟨b4, rfl, hn4⟩
  have hb4 := hn4.at_
  have hb4p : ¬ b4 = p := by omega
  refine RL.done ?_
  refine RK.seq ?_
  refine RK.region ?_
  iterate 2 refine RL.p rfl rfl ?_
  refine RL.op (.free rfl) rfl rfl (Does.call rfl e315 (way_bad s p d _ i (h.mod hn4.grow (fun h => h)))) ?_
  rintro _ w2 ⟨c, rfl, hP2, hm2⟩
  refine RL.op (.free rfl) rfl rfl (Does.slice1 u325 i327 rfl rfl rfl rfl rfl) ?_
  rintro _ w20 ⟨b5, rfl, hn5⟩
  have hm120 := hm2.trans (Mod.any' hn5.grow)
  refine RL.p rfl rfl ?_
  refine RL.done ?_
  refine RK.seq ?_
  refine RK.block ?_
  refine RK.loop (fun t : Unit => [(0, pp p), (4, pp b4), (5, .slice (some ⟨b5, 0, none⟩) 1 1)]) (fun t w' => PA w' p s i true ∧ Mod (· = p) w20 w') (fun t => 0) () ⟨rfl, rfl, rfl, trivial⟩ ⟨hP2.mod hn5.grow (fun h => h), Mod.refl _ _⟩ (fun t w3 hI ih => ?_)
  obtain ⟨hP3, hm203⟩ := hI
  iterate 2 refine RK.seq ?_
  refine RK.region ?_
  refine RL.p rfl rfl ?_
  refine RL.op (.free rfl) rfl rfl (Does.call rfl e316 (next_ok _ p s i true hP3 (by omega) 124)) ?_
  rintro _ w4 ⟨rfl, hP4, hm4⟩
  rw [hse] at hP4 ⊢
  have hP4' : PA w4 p s i true := hP4
  have hb5 := hn5.at_
  have hs12 := hm2.size
  have hb4s := hn4.size
  have hb5p : ¬ b5 = p := by omega
  refine RL.done ?_
  refine RK.condF (hcF rfl (rfl)) ?_
  refine RK.exit rfl ?_
  iterate 2 refine RK.seq ?_
  refine RK.region ?_
  refine RL.p rfl rfl ?_
  refine RL.q (.free rfl) rfl rfl (Yld.lenSl u325 rfl) ?_
  refine RL.p rfl rfl ?_
  refine RL.done ?_
  refine RK.condT (hcT rfl (rfl)) ?_
  have hB5 := (hn5.blk.mod hm203 hb5p).mod hm4 hb5p
  refine RK.seq ?_
  refine RK.region ?_
  refine RL.p rfl rfl ?_
  refine RL.q (.free rfl) rfl rfl (Yld.indexAddr u325 i327 rfl rfl (by omega) (by omega)) ?_
  refine RL.q (.free rfl) rfl rfl (Yld.loadN (cs := celC c) a327 rfl (atN (blk0' hB5))) ?_
  refine RL.op' (.free rfl) rfl (Does.storeN i327 rfl rfl rfl rfl (((hn4.blk.mod hm120 hb4p).mod hm203 hb4p).mod hm4 hb4p) (Nat.le_refl 6)) ?_
  rintro _ w19 ⟨hb19, hm19, _⟩
  refine RL.done ?_
  refine RK.ret_of Tryz.func293 (resC (cs := celC c) rfl rfl a327 hb19) ?_ _
  exact ⟨_, rfl, c, rfl, hP4'.mod hm19 (by omega), ((((Mod.any' hn4.grow).trans hm120).trans hm203).trans hm4).then hm19 (fun b hb e => by have e' : b = b4 := e; omega)⟩
theorem parse_ok (s : ByteArray) (w : World) :
    Fx Tryz.prog 255 [.string s] w (fun u w' => ∃ c : Cel, u = .tuple #[.agg (celC c).toArray, .bool (parseS s).isSome] ∧ Grow w w' ∧ ∀ x, parseS s = some x → RxV (Old w) w' x [c]) := by
  by_cases hs : s.size ≤ 40
  · have hps0 : parseS s = match par s 8 0 with | some (x, j) => if j < s.size then none else some x | none => none := by unfold parseS; rw [if_neg (by omega)]; rfl
    refine enter Tryz.func255 rfl rfl rfl _ (Pick.sub (l := [0]) (.cons rfl .nil)) ?_
    refine RK.seq ?_
    refine RK.region ?_
    refine RL.op (.free rfl) rfl rfl (Does.alloc i327) ?_
    rintro _ w1 ⟨b2, rfl, hn2⟩
    refine RL.p rfl rfl ?_
    refine RL.done ?_
    refine RK.seq ?_
    refine RK.region ?_
    iterate 2 refine RL.p rfl rfl ?_
    refine RL.q (.free rfl) rfl rfl (Yld.lenStr u9 rfl) ?_
    refine RL.p rfl rfl ?_
    refine RL.q (.free rfl) rfl rfl (Yld.build (v := .agg #[.string s, .int .i64 0, .bool (decide (40 < (s.size : Int)))]) rfl (fun w => by kernel_rfl)) ?_
    refine RL.op (.free rfl) rfl rfl (Does.box rfl) ?_
    rintro _ w2 ⟨p, rfl, hn4⟩
    have hP : PA w2 p s 0 false := by have h := hn4.blk; rw [decide_eq_false (by omega)] at h; exact h
    refine RL.p rfl rfl ?_
    refine RL.done ?_
    refine RK.seq ?_
    refine RK.region ?_
    refine RL.p rfl rfl ?_
    refine RL.op (.free rfl) rfl rfl (Does.call rfl e293 (par_ok s hs p 8 0 rfl _ 0 hP (by omega))) ?_
    rintro _ w3 ⟨⟨c, j, bad, rfl, hj, hP3, hno, hyes⟩, hm3⟩
    have hb2 := hn2.at_
    have hb2s := hn2.size
    have hp := hn4.at_
    have hps := hn4.size
    have hs3 := hm3.size
    have hb2p : ¬ b2 = p := by omega
    refine RL.op (.free rfl) rfl rfl (Does.alloc i327) ?_
    rintro _ w5 ⟨b5, rfl, hn5⟩
    refine RL.op' (.free rfl) rfl (Does.storeN i327 rfl rfl rfl rfl hn5.blk (Nat.le_refl 6)) ?_
    rintro _ w6 ⟨hb6, hm6, _⟩
    have hb5 := hn5.at_
    have hb25 : ¬ b2 = b5 := by omega
    have hB6 : Blk w6 b5 327 (celC c) := hb6
    have hg03 : Grow w w3 := (hn2.grow.trans hn4.grow).then hm3 (fun b hb e => by have e' : b = p := e; omega)
    have hg06 : Grow w w6 := (hg03.trans hn5.grow).then hm6 (fun b hb e => by have e' : b = b5 := e; omega)
    have hP6 : PA w6 p s j bad := (hP3.mod hn5.grow (fun h => h)).mod hm6 (by omega)
    refine RL.done ?_
    iterate 2 refine RK.seq ?_
    refine RK.region ?_
    iterate 2 refine RL.p rfl rfl ?_
    refine RL.q (.free rfl) rfl rfl (Yld.fieldAddr fo362_2 rfl) ?_
    refine RL.q (.free rfl) rfl rfl (Yld.load p4 rfl (at1 (Blk.cell hP6 rfl))) ?_
    refine RL.p rfl rfl ?_
    first | refine RL.splitD (d := 18) rfl rfl (fun h18 => ?_) (fun h18 => ?_) | refine RL.splitN (d := 18) rfl rfl (fun h18 => ?_) (fun h18 => ?_) | refine RL.split (d := 18) rfl rfl (fun h18 => ?_) (fun h18 => ?_)
    · have hnone : parseS s = none := by rw [hps0, hno h18]
      iterate 7 refine RL.no (.no rfl rfl rfl rfl) rfl rfl ?_
      refine RL.p rfl rfl ?_
      refine RL.done ?_
      refine RK.condT rfl ?_
      refine RK.seq ?_
      refine RK.region ?_
      refine RL.q (.free rfl) rfl rfl (Yld.build (v := .agg #[.int .i64 0, .int .u64 0, .int .u64 0, .int .u64 0, .int .u64 0, .slice none 0 0]) rfl (fun w => by kernel_rfl)) ?_
      refine RL.op' (.free rfl) rfl (Does.storeN i327 rfl rfl rfl rfl (((((hn2.blk.mod hn4.grow (fun h => h)).mod hm3 hb2p).mod hn5.grow (fun h => h)).mod hm6 hb25)) (Nat.le_refl 6)) ?_
      rintro _ w19 ⟨hb19, hm19, _⟩
      refine RL.p rfl rfl ?_
      refine RL.done ?_
      refine RK.ret_of Tryz.func255 (resCT (cs := celC ⟨0, 0, 0, 0, 0, none, 0, 0⟩) rfl rfl a327 hb19 rfl) ?_ _
      exact ⟨_, rfl, ⟨0, 0, 0, 0, 0, none, 0, 0⟩, by rw [hnone]; rfl, hg06.then hm19 (fun b hb e => by have e' : b = b2 := e; omega), fun x hx => by rw [hnone] at hx; cases hx⟩
    · obtain ⟨x, hx, hrx⟩ := hyes h18
      iterate 2 refine RL.q (.yes rfl rfl rfl) rfl rfl (Yld.pure rfl) ?_
      refine RL.q (.yes rfl rfl rfl) rfl rfl (Yld.fieldAddr fo362_1 rfl) ?_
      refine RL.q (.yes rfl rfl rfl) rfl rfl (Yld.load p3 rfl (at1 (Blk.cell hP6 rfl))) ?_
      refine RL.q (.yes rfl rfl rfl) rfl rfl (Yld.pure rfl) ?_
      refine RL.q (.yes rfl rfl rfl) rfl rfl (Yld.lenStr u9 rfl) ?_
      refine RL.q (.yes rfl rfl rfl) rfl rfl (Yld.pure rfl) ?_
      refine RL.p rfl rfl ?_
      refine RL.done ?_
      first | refine RK.condD rfl (fun h26 => ?_) (fun h26 => ?_) | refine RK.condN rfl (fun h26 => ?_) (fun h26 => ?_) | refine RK.cond rfl (fun h26 => ?_) (fun h26 => ?_)
      · have hnone : parseS s = none := by rw [hps0, hx]; show (if j < s.size then none else some x) = none; rw [if_pos (by omega)]
        refine RK.seq ?_
        refine RK.region ?_
        refine RL.q (.free rfl) rfl rfl (Yld.build (v := .agg #[.int .i64 0, .int .u64 0, .int .u64 0, .int .u64 0, .int .u64 0, .slice none 0 0]) rfl (fun w => by kernel_rfl)) ?_
        refine RL.op' (.free rfl) rfl (Does.storeN i327 rfl rfl rfl rfl (((((hn2.blk.mod hn4.grow (fun h => h)).mod hm3 hb2p).mod hn5.grow (fun h => h)).mod hm6 hb25)) (Nat.le_refl 6)) ?_
        rintro _ w19 ⟨hb19, hm19, _⟩
        refine RL.p rfl rfl ?_
        refine RL.done ?_
        refine RK.ret_of Tryz.func255 (resCT (cs := celC ⟨0, 0, 0, 0, 0, none, 0, 0⟩) rfl rfl a327 hb19 rfl) ?_ _
        exact ⟨_, rfl, ⟨0, 0, 0, 0, 0, none, 0, 0⟩, by rw [hnone]; rfl, hg06.then hm19 (fun b hb e => by have e' : b = b2 := e; omega), fun x hx => by rw [hnone] at hx; cases hx⟩
      · have hsome : parseS s = some x := by rw [hps0, hx]; show (if j < s.size then none else some x) = some x; rw [if_neg (by omega)]
        refine RK.skip ?_
        refine RK.seq ?_
        refine RK.region ?_
        refine RL.q (.free rfl) rfl rfl (Yld.loadN (cs := celC c) a327 rfl (atN (blk0' hB6))) ?_
        refine RL.op' (.free rfl) rfl (Does.storeN i327 rfl rfl rfl rfl (((((hn2.blk.mod hn4.grow (fun h => h)).mod hm3 hb2p).mod hn5.grow (fun h => h)).mod hm6 hb25)) (Nat.le_refl 6)) ?_
        rintro _ w19 ⟨hb19, hm19, _⟩
        have hl : ∀ b, Old w b → Old w2 b := fun b e => by unfold Old at *; omega
        have hrx3 : RxV (fun b => Old w2 b ∨ b = b5) w3 x [c] := RxV.off (fun b hb e => e.elim (fun e => e) (fun e => by omega)) x hrx
        have hrx9 : RxV (Old w) w19 x [c] := RxV.off (fun b _ e => .inl (hl b e)) x (RxV.mod hm19 (fun b _ e => by have e' : b = b2 := e; unfold Old; omega) x (RxV.mod hm6 (fun b hb e => .inr e) x (RxV.grow hn5.grow x hrx3)))
        refine RL.p rfl rfl ?_
        refine RL.done ?_
        refine RK.ret_of Tryz.func255 (resCT (cs := celC c) rfl rfl a327 hb19 rfl) ?_ _
        exact ⟨_, rfl, c, by rw [hsome]; rfl, hg06.then hm19 (fun b hb e => by have e' : b = b2 := e; omega), fun y hy => by rw [hsome] at hy; cases hy; exact hrx9⟩
  · have hnone : parseS s = none := by unfold parseS; rw [if_pos (by omega)]
    refine enter Tryz.func255 rfl rfl rfl _ (Pick.sub (l := [0]) (.cons rfl .nil)) ?_
    refine RK.seq ?_
    refine RK.region ?_
    refine RL.op (.free rfl) rfl rfl (Does.alloc i327) ?_
    rintro _ w1 ⟨b2, rfl, hn2⟩
    refine RL.p rfl rfl ?_
    refine RL.done ?_
    refine RK.seq ?_
    refine RK.region ?_
    iterate 2 refine RL.p rfl rfl ?_
    refine RL.q (.free rfl) rfl rfl (Yld.lenStr u9 rfl) ?_
    refine RL.p rfl rfl ?_
    refine RL.q (.free rfl) rfl rfl (Yld.build (v := .agg #[.string s, .int .i64 0, .bool (decide (40 < (s.size : Int)))]) rfl (fun w => by kernel_rfl)) ?_
    refine RL.op (.free rfl) rfl rfl (Does.box rfl) ?_
    rintro _ w2 ⟨p, rfl, hn4⟩
    have hP : PA w2 p s 0 true := by have h := hn4.blk; rw [decide_eq_true (by omega)] at h; exact h
    refine RL.p rfl rfl ?_
    refine RL.done ?_
    refine RK.seq ?_
    refine RK.region ?_
    refine RL.p rfl rfl ?_
    refine RL.op (.free rfl) rfl rfl (Does.call rfl e293 (ways_bad s p 0 _ 0 (by omega) hP)) ?_
    rintro _ w3 ⟨c, rfl, hP3, hm3⟩
    have hb2 := hn2.at_
    have hb2s := hn2.size
    have hp := hn4.at_
    have hps := hn4.size
    have hs3 := hm3.size
    have hb2p : ¬ b2 = p := by omega
    refine RL.op (.free rfl) rfl rfl (Does.alloc i327) ?_
    rintro _ w5 ⟨b5, rfl, hn5⟩
    refine RL.op' (.free rfl) rfl (Does.storeN i327 rfl rfl rfl rfl hn5.blk (Nat.le_refl 6)) ?_
    rintro _ w6 ⟨hb6, hm6, _⟩
    have hb5 := hn5.at_
    have hb25 : ¬ b2 = b5 := by omega
    have hB6 : Blk w6 b5 327 (celC c) := hb6
    have hg03 : Grow w w3 := (hn2.grow.trans hn4.grow).then hm3 (fun b hb e => by have e' : b = p := e; omega)
    have hg06 : Grow w w6 := (hg03.trans hn5.grow).then hm6 (fun b hb e => by have e' : b = b5 := e; omega)
    have hP6 : PA w6 p s 0 true := (hP3.mod hn5.grow (fun h => h)).mod hm6 (by omega)
    refine RL.done ?_
    iterate 2 refine RK.seq ?_
    refine RK.region ?_
    iterate 2 refine RL.p rfl rfl ?_
    refine RL.q (.free rfl) rfl rfl (Yld.fieldAddr fo362_2 rfl) ?_
    refine RL.q (.free rfl) rfl rfl (Yld.load p4 rfl (at1 (Blk.cell hP6 rfl))) ?_
    refine RL.p rfl rfl ?_
    refine RL.knownT (d := 18) rfl rfl (rfl) ?_
    iterate 7 refine RL.no (.no rfl rfl rfl rfl) rfl rfl ?_
    refine RL.p rfl rfl ?_
    refine RL.done ?_
    refine RK.condT (hcT rfl (rfl)) ?_
    refine RK.seq ?_
    refine RK.region ?_
    refine RL.q (.free rfl) rfl rfl (Yld.build (v := .agg #[.int .i64 0, .int .u64 0, .int .u64 0, .int .u64 0, .int .u64 0, .slice none 0 0]) rfl (fun w => by kernel_rfl)) ?_
    refine RL.op' (.free rfl) rfl (Does.storeN i327 rfl rfl rfl rfl (((((hn2.blk.mod hn4.grow (fun h => h)).mod hm3 hb2p).mod hn5.grow (fun h => h)).mod hm6 hb25)) (Nat.le_refl 6)) ?_
    rintro _ w19 ⟨hb19, hm19, _⟩
    refine RL.p rfl rfl ?_
    refine RL.done ?_
    refine RK.ret_of Tryz.func255 (resCT (cs := celC ⟨0, 0, 0, 0, 0, none, 0, 0⟩) rfl rfl a327 hb19 rfl) ?_ _
    exact ⟨_, rfl, ⟨0, 0, 0, 0, 0, none, 0, 0⟩, by rw [hnone]; rfl, hg06.then hm19 (fun b hb e => by have e' : b = b2 := e; omega), fun x hx => by rw [hnone] at hx; cases hx⟩
end Go.Proofs.YtnnmgfnhblbolaaGreatDoor
set_option linter.unusedVariables false
set_option linter.unusedSimpArgs false
set_option maxHeartbeats 1000000
set_option maxRecDepth 100000
namespace Go.Proofs.YtnnmgfnhblbolaaGreatDoor
open Go Go.X Go.Rex
structure ClsR (s : ByteArray) (T : Option (List Nat × Nat)) (i0 n : Nat) (bad : Bool) (i : Nat) (set : List Nat) : Prop where
  none_ : n = 0 → bad = false ∧ i = i0
  go : bad = false → ∃ m, clsL s m i set = T ∧ s.size + 1 ≤ m + i
  some_ : n ≠ 0 → ¬ (i0 < s.size ∧ b8 s i0 = 93)
  no : bad = true → T = none
  cnt : n ≤ s.size + 1 ∧ (bad = false → n ≤ i)
theorem ClsR.step {s : ByteArray} {T : Option (List Nat × Nat)} {i0 n i : Nat} {set : List Nat} (h : ClsR s T i0 n false i set) (hi : i < s.size) (h93 : b8 s i ≠ 93) (hi0 : n = 0 ∨ n ≠ 0) {c j : Nat} {bad : Bool} (h1 : memS s i = if bad then none else some (c, j)) {c2 j2 : Nat} {bad2 : Bool} (h2 : bad = true → bad2 = true) (h3 : bad = false → toS s c j = if bad2 then none else some (c2, j2)) (hj : j2 ≤ s.size) : ClsR s T i0 (n + 1) (bad2 || decide (c2 < c)) j2 (addG set c c2) := by
  obtain ⟨m, hm, hmk⟩ := h.go rfl
  obtain ⟨q, rfl⟩ : ∃ q, m = q + 1 := ⟨m - 1, by omega⟩
  have hb := (body_go hi h93).symm.trans hm
  have hs := ClsI.step hb (by omega) h1 h2 h3
  have hn := h.cnt.2 rfl
  refine ⟨by omega, fun hb => ?_, fun _ => ?_, fun hb => (hs.no hb).2, by omega, fun hb => ?_⟩
  · exact hs.go rfl hb
  · by_cases e : n = 0
    · have := (h.none_ e).2; subst this; exact fun hh => h93 hh.2
    · exact h.some_ e
  · simp at hb
    have hbf : bad = false := by cases hbb : bad with | false => rfl | true => have := h2 hbb; simp [this] at hb
    rw [hbf] at h1
    have e4 := h3 hbf
    rw [hb.1] at e4
    have h5 := memS_adv h1
    have h6 := toS_adv e4 h5.2.1 h5.2.2
    omega
end Go.Proofs.YtnnmgfnhblbolaaGreatDoor
set_option linter.unusedVariables false
set_option linter.unusedSimpArgs false
set_option maxHeartbeats 1000000
set_option maxRecDepth 100000
namespace Go.Proofs.YtnnmgfnhblbolaaGreatDoor
open Go Go.X Go.Rex
theorem RxV.len {M : Nat → Prop} {w : World} : ∀ {l : Rx} {kss : List Cel}, Tr true l → RxV M w l kss → kss.length = cnt l
  | .nil, kss, _, h => by have h' : kss = [] := h; subst h'; rfl
  | .cons x l, kss, ht, ⟨c, ks', h1, h2, h3⟩ => by subst h1; simp [cnt, RxV.len ht.2 h3]
  | .set _, _, ht, _ => ht.elim
  | .node _ _, _, ht, _ => ht.elim
theorem RxV.kid {M : Nat → Prop} {w : World} : ∀ {l : Rx} {kss : List Cel}, Tr true l → RxV M w l kss → ∀ {k : Nat} {c : Cel}, kss[k]? = some c → ∃ x, (kidsR l)[k]? = some x ∧ RxV M w x [c]
  | .nil, kss, _, h, k, c, hk => by have h' : kss = [] := h; subst h'; simp at hk
  | .cons x l, kss, ht, ⟨c0, ks', h1, h2, h3⟩, k, c, hk => by
    subst h1
    cases k with
    | zero => simp at hk; subst hk; exact ⟨x, rfl, h2⟩
    | succ k => obtain ⟨y, hy, hv⟩ := RxV.kid ht.2 h3 (k := k) (by simpa using hk); exact ⟨y, by simpa [kidsR] using hy, hv⟩
  | .set _, _, ht, _, _, _, _ => ht.elim
  | .node _ _, _, ht, _, _, _, _ => ht.elim
structure RxO (M : Nat → Prop) (w : World) (x : Rx) (op : Int) (a b c d : Nat) (ad : Option Addr) (n cap : Nat) (l : Rx) (kss : List Cel) : Prop where
  tr : Tr true l
  sl : Sl M w (.slice ad n cap) 6 kss.length (kss.flatMap celC)
  cp : n ≤ cap
  n : n = kss.length
  ks : RxV M w l kss
  len : kss.length = cnt l
  kind : (x = .set [a, b, c, d] ∧ l = .nil ∧ op = 1 ∧ W4 [a, b, c, d]) ∨ (∃ o : Nat, x = .node o l ∧ op = o ∧ a = 0 ∧ b = 0 ∧ c = 0 ∧ d = 0 ∧ (o = 2 ∨ o = 3 ∧ cnt l ≠ 0 ∨ (o = 4 ∨ o = 5 ∨ o = 6) ∧ cnt l = 1))
theorem RxV.open {M : Nat → Prop} {w : World} {x : Rx} {k : Cel} (ht : Tr false x) (h : RxV M w x [k]) : ∃ op a b c d ad n cap l kss, k = ⟨op, a, b, c, d, ad, n, cap⟩ ∧ RxO M w x op a b c d ad n cap l kss := by
  cases x with
  | nil => exact ht.elim
  | cons => exact ht.elim
  | set t =>
    obtain ⟨a, b, c, d, h1, h2⟩ := h
    cases h2
    exact ⟨_, _, _, _, _, _, _, _, .nil, [], rfl, trivial, Sl.nil _ _ _ _ _, Nat.le_refl _, rfl, rfl, rfl, .inl ⟨by rw [h1], rfl, rfl, by rw [← h1]; exact ht⟩⟩
  | node op l =>
    obtain ⟨ad, n, cap, kss, ⟨h1, hcap⟩, h2, h3⟩ := h
    cases h1
    obtain ⟨ad', c', e⟩ := h2.shape
    cases e
    exact ⟨_, _, _, _, _, _, _, _, l, kss, rfl, ht.2, h2, hcap, rfl, h3, RxV.len ht.2 h3, .inr ⟨op, rfl, rfl, rfl, rfl, rfl, rfl, ht.1⟩⟩
theorem RxO.mod {M M0 : Nat → Prop} {w w' : World} {x : Rx} {op : Int} {a b c d : Nat} {ad : Option Addr} {n cap : Nat} {l : Rx} {kss : List Cel} (h : RxO M w x op a b c d ad n cap l kss) (hm : Mod M0 w w') (h0 : ∀ b, b < w.heap.size → M0 b → M b) : RxO M w' x op a b c d ad n cap l kss := ⟨h.tr, h.sl.mod (hm.mono h0), h.cp, h.n, h.ks.mod hm h0, h.len, h.kind⟩
theorem RxO.grow {M : Nat → Prop} {w w' : World} {x : Rx} {op : Int} {a b c d : Nat} {ad : Option Addr} {n cap : Nat} {l : Rx} {kss : List Cel} (h : RxO M w x op a b c d ad n cap l kss) (hm : Grow w w') : RxO M w' x op a b c d ad n cap l kss := h.mod hm fun _ _ h => h.elim
theorem RxO.kid {M : Nat → Prop} {w : World} {x : Rx} {op : Int} {a b c d : Nat} {ad : Option Addr} {n cap : Nat} {l : Rx} {kss : List Cel} (h : RxO M w x op a b c d ad n cap l kss) {k : Nat} (hk : k < n) : ∃ (c : Cel) (y : Rx) (b o : Nat), ad = some ⟨b, o, none⟩ ∧ (kidsR l)[k]? = some y ∧ y ∈ kidsR l ∧ Tr false y ∧ RxV M w y [c] ∧ ¬ M b ∧ ∀ (w' : World), Grow w w' → ∀ j u, (celC c)[j]? = some u → w'.cell? ⟨b, o + k * 6 + j, none⟩ = some u := by
  have hn := h.n
  obtain ⟨c, hc⟩ : ∃ c, kss[k]? = some c := ⟨kss[k]'(by omega), List.getElem?_eq_getElem (by omega)⟩
  obtain ⟨y, hy, hv⟩ := RxV.kid h.tr h.ks hc
  obtain ⟨b1, o1, c1, he, hb, _, hcl⟩ := (hn ▸ h.sl).elem celC_len hc
  cases he
  exact ⟨c, y, b1, o1, rfl, hy, List.mem_of_getElem? hy, kids_tr h.tr y (List.mem_of_getElem? hy), hv, hb, fun w' hg j u hj => hg.cell (hcl j u hj) (fun h => h)⟩
theorem blk_set4 {w : World} {b1 t : Nat} {op : Int} {a b c d : Nat} {v : Value} (h : Blk w b1 t [.int .i64 op, .int .u64 (a : Int), .int .u64 (b : Int), .int .u64 (c : Int), .int .u64 (d : Int), v]) : ∀ (j : Nat) (u : Value), (wds [a, b, c, d])[j]? = some u → w.cell? ⟨b1, 0 + 1 + j, none⟩ = some u := blk_mid (rest := [v]) (ws := wds [a, b, c, d]) h
def IsC (x : Rx) : Prop := ∀ (M : Nat → Prop) (c : Cel) (w : World), RxV M w x [c] → Fx Tryz.prog 339 [.agg (celC c).toArray] w (fun u w' => u = .bool true ∧ Grow w w')
theorem is1_ok {x : Rx} (h : IsC x) (M : Nat → Prop) (c : Cel) (w : World) (hv : RxV M w x [c]) : Fx Tryz.prog 352 [.agg (celC c).toArray] w (fun u w' => u = .bool false ∧ Grow w w') := by
  refine enter Tryz.func352 rfl rfl rfl _ (Pick.sub (l := [0]) (.cons rfl .nil)) ?_
  refine RK.seq ?_
  refine RK.region ?_
  refine RL.op (.free rfl) rfl rfl (Does.box rfl) ?_
  rintro _ w1 ⟨b1, rfl, hn1⟩
  refine RL.p rfl rfl ?_
  refine RL.done ?_
  refine RK.seq ?_
  refine RK.region ?_
  refine RL.q (.free rfl) rfl rfl (Yld.loadN (cs := celC c) a327 rfl (atN (blk0' hn1.blk))) ?_
  refine RL.op (.free rfl) rfl rfl (Does.call rfl e339 (h M c _ (RxV.grow hn1.grow x hv))) ?_
  rintro _ w2 ⟨rfl, hg2⟩
  iterate 2 refine RL.p rfl rfl ?_
  refine RL.done ?_
  refine RK.ret_of Tryz.func352 (res1 rfl rfl) ?_ _
  exact ⟨_, rfl, rfl, hn1.grow.trans hg2⟩
theorem isIdx_ok {M : Nat → Prop} {w : World} {x : Rx} {op : Int} {a b c d : Nat} {ad : Option Addr} {n cap : Nat} {l : Rx} {kss : List Cel} (h : RxO M w x op a b c d ad n cap l kss) (hk : ∀ y ∈ kidsR l, IsC y) :
    Fx Tryz.prog 362 [.slice ad n cap, .func (.func 352) #[] #[]] w (fun u w' => u = .int .i64 (-1) ∧ Grow w w') := by
  have hbig := h.sl.big
  have hn := h.n
  refine enter Tryz.func362 rfl rfl rfl _ (Pick.sub (l := [0, 1]) (.cons rfl (.cons rfl .nil))) ?_
  refine RK.seq ?_
  refine RK.region ?_
  refine RL.p rfl rfl ?_
  refine RL.done ?_
  iterate 2 refine RK.seq ?_
  refine RK.region ?_
  refine RL.p rfl rfl ?_
  refine RL.q (.free rfl) rfl rfl (Yld.lenSl u325 rfl) ?_
  refine RL.p rfl rfl ?_
  refine RL.done ?_
  refine RK.block ?_
  refine RK.loop (fun k : Nat => [(0, .slice ad n cap), (1, .func (.func 352) #[] #[]), (7, .int .i64 n), (8, .int .i64 k)]) (fun k w' => Grow w w' ∧ k ≤ n) (fun k => n - k) 0 ⟨rfl, rfl, rfl, rfl, trivial⟩ ⟨Mod.refl _ _, by omega⟩ (fun k w' hI ih => ?_)
  obtain ⟨hg, hkn⟩ := hI
  refine RK.seq ?_
  refine RK.region ?_
  refine RL.p rfl rfl ?_
  refine RL.done ?_
  refine RK.seq ?_
  first | refine RK.condD rfl (fun h9 => ?_) (fun h9 => ?_) | refine RK.condN rfl (fun h9 => ?_) (fun h9 => ?_) | refine RK.cond rfl (fun h9 => ?_) (fun h9 => ?_)
  · obtain ⟨ck, y, b1, o1, rfl, _, hy, _, hv, _, hcl⟩ := h.kid (k := k) (by omega)
    refine RK.skip ?_
    refine RK.seq ?_
    refine RK.block ?_
    refine RK.seq ?_
    refine RK.region ?_
    iterate 2 refine RL.p rfl rfl ?_
    refine RL.done ?_
    refine RK.seq ?_
    refine RK.region ?_
    iterate 3 refine RL.p rfl rfl ?_
    refine RL.q (.free rfl) rfl rfl (Yld.indexAddrN u325 i327 rfl rfl (by omega)) ?_
    refine RL.q (.free rfl) rfl rfl (Yld.loadN (cs := celC ck) a327 rfl (atN (hcl _ hg))) ?_
    refine RL.op (.free rfl) rfl rfl (Does.callv rfl rfl e352 (is1_ok (hk y hy) M ck _ (RxV.grow hg y hv))) ?_
    rintro _ w2 ⟨rfl, hg2⟩
    refine RL.done ?_
    refine RK.condF (hcF rfl (rfl)) ?_
    refine RK.skip ?_
    refine RK.inBlock ?_
    refine RK.region ?_
    refine RL.p rfl rfl ?_
    refine RL.re (d := 18) rfl rfl (succ_i64 (by omega)) ?_
    refine RL.p rfl rfl ?_
    refine RL.done ?_
    exact RK.back (ih (k + 1) _ ⟨hg.trans hg2, by omega⟩ (by omega)) ⟨rfl, rfl, rfl, rfl, trivial⟩
  · refine RK.exit rfl ?_
    refine RK.seq ?_
    refine RK.region ?_
    refine RL.p rfl rfl ?_
    refine RL.done ?_
    refine RK.ret_of Tryz.func362 (res1 rfl rfl) ?_ _
    exact ⟨_, rfl, rfl, hg⟩
theorem isAny_ok {M : Nat → Prop} {w : World} {x : Rx} {op : Int} {a b c d : Nat} {ad : Option Addr} {n cap : Nat} {l : Rx} {kss : List Cel} (h : RxO M w x op a b c d ad n cap l kss) (hk : ∀ y ∈ kidsR l, IsC y) :
    Fx Tryz.prog 351 [.slice ad n cap, .func (.func 352) #[] #[]] w (fun u w' => u = .bool false ∧ Grow w w') := by
  refine enter Tryz.func351 rfl rfl rfl _ (Pick.sub (l := [0, 1]) (.cons rfl (.cons rfl .nil))) ?_
  refine RK.seq ?_
  refine RK.region ?_
  refine RL.p rfl rfl ?_
  refine RL.done ?_
  refine RK.seq ?_
  refine RK.region ?_
  iterate 2 refine RL.p rfl rfl ?_
  refine RL.op (.free rfl) rfl rfl (Does.call rfl e362 (isIdx_ok h hk)) ?_
  rintro _ w2 ⟨rfl, hg2⟩
  iterate 2 refine RL.p rfl rfl ?_
  refine RL.done ?_
  refine RK.ret_of Tryz.func351 (res1 rfl rfl) ?_ _
  exact ⟨_, rfl, rfl, hg2⟩
theorem rexIs_ok : ∀ (n : Nat) (x : Rx), hiR x ≤ n → Tr false x → IsC x
  | 0, .set _, h, _ => by simp [hiR] at h
  | 0, .node _ _, h, _ => by simp [hiR] at h
  | 0, .nil, _, ht => ht.elim
  | 0, .cons _ _, _, ht => ht.elim
  | m + 1, x, hx, ht => by
    intro M k w hv
    obtain ⟨op, a, b, c, d, ad, n, cap, l, kss, rfl, h⟩ := hv.open ht
    have hkind := h.kind
    have hn := h.n
    have hlen := h.len
    refine enter Tryz.func339 rfl rfl rfl _ (Pick.sub (l := [0]) (.cons rfl .nil)) ?_
    refine RK.seq ?_
    refine RK.region ?_
    refine RL.op (.free rfl) rfl rfl (Does.box rfl) ?_
    rintro _ w1 ⟨b1, rfl, hn1⟩
    have hB1 : Blk w1 b1 327 [.int .i64 op, .int .u64 (a : Int), .int .u64 (b : Int), .int .u64 (c : Int), .int .u64 (d : Int), .slice ad n cap] := hn1.blk
    refine RL.p rfl rfl ?_
    refine RL.done ?_
    refine RK.seq ?_
    refine RK.region ?_
    refine RL.q (.free rfl) rfl rfl (Yld.fieldAddr fo327_2 rfl) ?_
    refine RL.q (.free rfl) rfl rfl (Yld.load p325 rfl (at1 (hB1.cell rfl))) ?_
    refine RL.q (.free rfl) rfl rfl (Yld.lenSl u325 rfl) ?_
    refine RL.p rfl rfl ?_
    refine RL.done ?_
    iterate 2 refine RK.seq ?_
    refine RK.region ?_
    refine RL.q (.free rfl) rfl rfl (Yld.fieldAddr fo327_0 rfl) ?_
    refine RL.q (.free rfl) rfl rfl (Yld.load p3 rfl (at1 (hB1.cell rfl))) ?_
    refine RL.done ?_
    refine RK.cut [(1, pp b1), (3, .int .i64 (n : Int))] (fun w' => w' = w1 ∧ ∃ o : Nat, x = .node o l ∧ a = 0 ∧ b = 0 ∧ c = 0 ∧ d = 0) (fun w2 hQ => ?_) (fun hj => ?_)
    · obtain ⟨rfl, o, rfl, rfl, rfl, rfl, rfl⟩ := hQ
      refine RK.seq ?_
      refine RK.region ?_
      refine RL.q (.free rfl) rfl rfl (Yld.fieldAddr fo327_1 rfl) ?_
      refine RL.q (.free rfl) rfl rfl (Yld.loadN (cs := wds [0, 0, 0, 0]) a324 rfl (atN (blk_set4 hB1))) ?_
      refine RL.q (.free rfl) rfl rfl (Yld.build (v := .agg (wds [0, 0, 0, 0]).toArray) rfl (fun w => by kernel_rfl)) ?_
      refine RL.q (.free rfl) rfl rfl (Yld.eqArr arr324 (ps := [0, 0, 0, 0]) (qs := [0, 0, 0, 0]) rfl rfl rfl rfl rfl rfl) ?_
      refine RL.p rfl rfl ?_
      refine RL.knownT (d := 29) rfl rfl (rfl) ?_
      refine RL.q (.yes rfl rfl rfl) rfl rfl (Yld.fieldAddr fo327_2 rfl) ?_
      refine RL.q (.yes rfl rfl rfl) rfl rfl (Yld.load p325 rfl (at1 (hB1.cell rfl))) ?_
      refine RL.op (.yes rfl rfl rfl) rfl rfl (Does.call rfl e351 (isAny_ok (h.grow hn1.grow) (fun y hy => rexIs_ok m y (by have := hiR_kid hy; simp only [hiR] at hx; omega) (kids_tr h.tr y hy)))) ?_
      rintro _ w3 ⟨rfl, hg3⟩
      refine RL.q (.yes rfl rfl rfl) rfl rfl (Yld.pure rfl) ?_
      iterate 2 refine RL.p rfl rfl ?_
      refine RL.done ?_
      refine RK.ret_of Tryz.func339 (res1 rfl rfl) ?_ _
      exact ⟨_, rfl, rfl, hn1.grow.trans hg3⟩
    · refine RK.block ?_
      refine RK.seq ?_
      refine RK.region ?_
      iterate 2 refine RL.p rfl rfl ?_
      refine RL.done ?_
      first | refine RK.condD rfl (fun h9 => ?_) (fun h9 => ?_) | refine RK.condN rfl (fun h9 => ?_) (fun h9 => ?_) | refine RK.cond rfl (fun h9 => ?_) (fun h9 => ?_)
      · refine RK.seq ?_
        refine RK.region ?_
        iterate 3 refine RL.p rfl rfl ?_
        refine RL.done ?_
        refine RK.ret_of Tryz.func339 (res1 rfl rfl) ?_ _
        exact ⟨_, rfl, by
            rcases hkind with ⟨_, rfl, _⟩ | ⟨o, _, rfl, _, _, _, _, h3⟩
            · simp only [cnt] at hlen; rw [decide_eq_true (by omega)]
            · omega
          , hn1.grow⟩
      · obtain ⟨o, rfl, rfl, rfl, rfl, rfl, rfl, h3⟩ : ∃ o : Nat, x = .node o l ∧ op = o ∧ a = 0 ∧ b = 0 ∧ c = 0 ∧ d = 0 ∧ (o = 2 ∨ o = 3 ∧ cnt l ≠ 0 ∨ (o = 4 ∨ o = 5 ∨ o = 6) ∧ cnt l = 1) := by
            rcases hkind with ⟨_, _, h2, _⟩ | h2
            · omega
            · exact h2
        clear hkind
        refine RK.seq ?_
        refine RK.region ?_
        iterate 2 refine RL.p rfl rfl ?_
        refine RL.done ?_
        first | refine RK.condD rfl (fun h13 => ?_) (fun h13 => ?_) | refine RK.condN rfl (fun h13 => ?_) (fun h13 => ?_) | refine RK.cond rfl (fun h13 => ?_) (fun h13 => ?_)
        · refine RK.skip ?_
          refine RK.inBlock ?_
          exact RK.back (hj _ ⟨rfl, o, rfl, rfl, rfl, rfl, rfl⟩) ⟨rfl, rfl, trivial⟩
        · refine RK.seq ?_
          refine RK.region ?_
          iterate 2 refine RL.p rfl rfl ?_
          refine RL.done ?_
          first | refine RK.condD rfl (fun h15 => ?_) (fun h15 => ?_) | refine RK.condN rfl (fun h15 => ?_) (fun h15 => ?_) | refine RK.cond rfl (fun h15 => ?_) (fun h15 => ?_)
          · refine RK.seq ?_
            refine RK.region ?_
            iterate 2 refine RL.p rfl rfl ?_
            refine RL.done ?_
            refine RK.condF (hcF rfl (decide_eq_false (by omega))) ?_
            refine RK.skip ?_
            refine RK.inBlock ?_
            exact RK.back (hj _ ⟨rfl, o, rfl, rfl, rfl, rfl, rfl⟩) ⟨rfl, rfl, trivial⟩
          · iterate 2 refine RK.seq ?_
            refine RK.region ?_
            iterate 2 refine RL.p rfl rfl ?_
            refine RL.done ?_
            first | refine RK.condD rfl (fun h19 => ?_) (fun h19 => ?_) | refine RK.condN rfl (fun h19 => ?_) (fun h19 => ?_) | refine RK.cond rfl (fun h19 => ?_) (fun h19 => ?_)
            · refine RK.skip ?_
              refine RK.condT (hcT rfl (decide_eq_true h19)) ?_
              refine RK.seq ?_
              refine RK.region ?_
              iterate 2 refine RL.p rfl rfl ?_
              refine RL.done ?_
              refine RK.condF (hcF rfl (by rw [hn, hlen]; simp; omega)) ?_
              refine RK.skip ?_
              refine RK.inBlock ?_
              exact RK.back (hj _ ⟨rfl, o, rfl, rfl, rfl, rfl, rfl⟩) ⟨rfl, rfl, trivial⟩
            · refine RK.seq ?_
              refine RK.region ?_
              iterate 2 refine RL.p rfl rfl ?_
              refine RL.done ?_
              first | refine RK.condD rfl (fun h19 => ?_) (fun h19 => ?_) | refine RK.condN rfl (fun h19 => ?_) (fun h19 => ?_) | refine RK.cond rfl (fun h19 => ?_) (fun h19 => ?_)
              · refine RK.skip ?_
                refine RK.condT (hcT rfl (decide_eq_true h19)) ?_
                refine RK.seq ?_
                refine RK.region ?_
                iterate 2 refine RL.p rfl rfl ?_
                refine RL.done ?_
                refine RK.condF (hcF rfl (by rw [hn, hlen]; simp; omega)) ?_
                refine RK.skip ?_
                refine RK.inBlock ?_
                exact RK.back (hj _ ⟨rfl, o, rfl, rfl, rfl, rfl, rfl⟩) ⟨rfl, rfl, trivial⟩
              · refine RK.region ?_
                iterate 2 refine RL.p rfl rfl ?_
                refine RL.done ?_
                refine RK.condT (hcT rfl (decide_eq_true (by omega))) ?_
                refine RK.seq ?_
                refine RK.region ?_
                iterate 2 refine RL.p rfl rfl ?_
                refine RL.done ?_
                refine RK.condF (hcF rfl (by rw [hn, hlen]; simp; omega)) ?_
                refine RK.skip ?_
                refine RK.inBlock ?_
                exact RK.back (hj _ ⟨rfl, o, rfl, rfl, rfl, rfl, rfl⟩) ⟨rfl, rfl, trivial⟩
theorem node_sz {o : Nat} {l : Rx} : sz (.node o l) = if o = 2 then sz l else if o = 3 then sz l + 2 * (cnt l - 1) else if o = 4 then sz l + 2 else sz l + 1 := rfl
theorem size_ok : ∀ (n : Nat) (x : Rx), hiR x ≤ n → Tr false x → sz x ≤ 1000 → ∀ (M : Nat → Prop) (k : Cel) (w : World), RxV M w x [k] → Fx Tryz.prog 340 [.agg (celC k).toArray] w (fun u w' => u = .int .i64 (sz x : Int) ∧ Grow w w')
  | 0, .set _, h, _, _ => by simp [hiR] at h
  | 0, .node _ _, h, _, _ => by simp [hiR] at h
  | 0, .nil, _, ht, _ => ht.elim
  | 0, .cons _ _, _, ht, _ => ht.elim
  | m + 1, x, hx, ht, hs => by
    intro M k w hv
    obtain ⟨op, a, b, c, d, ad, n, cap, l, kss, rfl, h⟩ := hv.open ht
    have hkind := h.kind
    have hn := h.n
    have hlen := h.len
    have hbig := h.sl.big
    have hszl := sz_cons l h.tr
    have hlx : sz l ≤ sz x := by
      rcases hkind with ⟨_, rfl, _⟩ | ⟨o, rfl, _⟩
      · simp [sz]
      · rw [node_sz]; split <;> (try split) <;> (try split) <;> omega
    have hkl : (kidsR l).length = n := by rw [kids_len]; omega
    refine enter Tryz.func340 rfl rfl rfl _ (Pick.sub (l := [0]) (.cons rfl .nil)) ?_
    refine RK.seq ?_
    refine RK.region ?_
    refine RL.op (.free rfl) rfl rfl (Does.box rfl) ?_
    rintro _ w1 ⟨b1, rfl, hn1⟩
    have hB1 : Blk w1 b1 327 [.int .i64 op, .int .u64 (a : Int), .int .u64 (b : Int), .int .u64 (c : Int), .int .u64 (d : Int), .slice ad n cap] := hn1.blk
    refine RL.p rfl rfl ?_
    refine RL.done ?_
    refine RK.seq ?_
    refine RK.region ?_
    refine RL.p rfl rfl ?_
    refine RL.done ?_
    iterate 2 refine RK.seq ?_
    refine RK.region ?_
    refine RL.q (.free rfl) rfl rfl (Yld.fieldAddr fo327_2 rfl) ?_
    refine RL.q (.free rfl) rfl rfl (Yld.load p325 rfl (at1 (hB1.cell rfl))) ?_
    refine RL.q (.free rfl) rfl rfl (Yld.lenSl u325 rfl) ?_
    refine RL.p rfl rfl ?_
    refine RL.done ?_
    refine RK.block ?_
    refine RK.loop (fun k : Nat => [(1, pp b1), (3, .int .i64 ((((kidsR l).take k).map sz).sum : Nat)), (7, .slice ad n cap), (8, .int .i64 (n : Int)), (9, .int .i64 (k : Int))]) (fun k w' => Grow w1 w' ∧ k ≤ n) (fun k => n - k) 0 ⟨rfl, rfl, rfl, rfl, rfl, trivial⟩ ⟨Mod.refl _ _, by omega⟩ (fun k w3 hI ih => ?_)
    obtain ⟨hg, hkn⟩ := hI
    have hB3 := hB1.mod hg (fun h => h)
    have hgw := hn1.grow.trans hg
    have hle := sum_take_le (kidsR l) k
    refine RK.seq ?_
    refine RK.region ?_
    refine RL.p rfl rfl ?_
    refine RL.done ?_
    refine RK.seq ?_
    first | refine RK.condD rfl (fun h10 => ?_) (fun h10 => ?_) | refine RK.condN rfl (fun h10 => ?_) (fun h10 => ?_) | refine RK.cond rfl (fun h10 => ?_) (fun h10 => ?_)
    · obtain ⟨ck, y, b5, o5, rfl, hyk, hy, hyt, hv5, _, hcl⟩ := h.kid (k := k) (by omega)
      have hsum := sum_take hyk
      have hle1 := sum_take_le (kidsR l) (k + 1)
      have hysz := kid_sz h.tr hy
      refine RK.skip ?_
      refine RK.seq ?_
      refine RK.block ?_
      refine RK.seq ?_
      refine RK.region ?_
      refine RL.q (.free rfl) rfl rfl (Yld.indexAddrN u325 i327 rfl rfl (by omega)) ?_
      refine RL.q (.free rfl) rfl rfl (Yld.loadN (cs := celC ck) a327 rfl (atN (hcl _ (hn1.grow.trans hg)))) ?_
      refine RL.op (.free rfl) rfl rfl (Does.alloc i327) ?_
      rintro _ w4 ⟨b6, rfl, hn6⟩
      refine RL.op' (.free rfl) rfl (Does.storeN i327 rfl rfl rfl rfl hn6.blk (Nat.le_refl 6)) ?_
      rintro _ w5 ⟨hb5, hm5, _⟩
      have hB5 : Blk w5 b6 327 (celC ck) := hb5
      have hg5 : Grow w3 w5 := hn6.grow.then hm5 (fun y hy e => by have e' : y = b6 := e; have := hn6.at_; omega)
      refine RL.done ?_
      refine RK.region ?_
      refine RL.p rfl rfl ?_
      refine RL.q (.free rfl) rfl rfl (Yld.loadN (cs := celC ck) a327 rfl (atN (blk0' hB5))) ?_
      refine RL.op (.free rfl) rfl rfl (Does.call rfl e340 (size_ok m y (by rcases hkind with ⟨rfl, rfl, _⟩ | ⟨o, rfl, _⟩; (simp [kidsR] at hy); (have := hiR_kid hy; simp only [hiR] at hx; omega)) hyt (by omega) M ck _ (RxV.grow (hgw.trans hg5) y hv5))) ?_
      rintro _ w6 ⟨rfl, hg6⟩
      refine RL.p rfl rfl ?_
      refine RL.re (d := 16) rfl rfl (add_i64 (z := (((((kidsR l).take (k + 1)).map sz).sum : Nat) : Int)) (by omega) (by omega) (by omega)) ?_
      refine RL.p rfl rfl ?_
      refine RL.done ?_
      refine RK.inBlock ?_
      refine RK.region ?_
      refine RL.p rfl rfl ?_
      refine RL.re (d := 17) rfl rfl (succ_i64 (by omega)) ?_
      refine RL.p rfl rfl ?_
      refine RL.done ?_
      exact RK.back (ih (k + 1) _ ⟨(hg.trans hg5).trans hg6, by omega⟩ (by omega)) ⟨rfl, rfl, rfl, rfl, rfl, trivial⟩
    · have ek : (kidsR l).take k = kidsR l := List.take_of_length_le (by omega)
      rw [ek, ← hszl]
      refine RK.exit rfl ?_
      iterate 2 refine RK.seq ?_
      refine RK.region ?_
      refine RL.q (.free rfl) rfl rfl (Yld.fieldAddr fo327_0 rfl) ?_
      refine RL.q (.free rfl) rfl rfl (Yld.load p3 rfl (at1 (hB3.cell rfl))) ?_
      refine RL.done ?_
      refine RK.block ?_
      refine RK.seq ?_
      refine RK.region ?_
      iterate 2 refine RL.p rfl rfl ?_
      refine RL.done ?_
      first | refine RK.condD rfl (fun h20 => ?_) (fun h20 => ?_) | refine RK.condN rfl (fun h20 => ?_) (fun h20 => ?_) | refine RK.cond rfl (fun h20 => ?_) (fun h20 => ?_)
      · refine RK.seq ?_
        refine RK.region ?_
        refine RL.p rfl rfl ?_
        refine RL.done ?_
        refine RK.ret_of Tryz.func340 (res1 rfl rfl) ?_ _
        exact ⟨_, rfl, by
            rcases hkind with ⟨h1, _, _⟩ | ⟨o, _, rfl, _, _, _, _, h3⟩
            · rw [h1]; rfl
            · omega
          , hgw⟩
      · obtain ⟨o, rfl, rfl, h3⟩ : ∃ o : Nat, x = .node o l ∧ op = o ∧ (o = 2 ∨ o = 3 ∧ cnt l ≠ 0 ∨ (o = 4 ∨ o = 5 ∨ o = 6) ∧ cnt l = 1) := by
            rcases hkind with ⟨_, _, h2, _⟩ | ⟨o, h4, h5, _, _, _, _, h6⟩
            · omega
            · exact ⟨o, h4, h5, h6⟩
        clear hkind
        rw [node_sz] at hs ⊢
        refine RK.seq ?_
        refine RK.region ?_
        iterate 2 refine RL.p rfl rfl ?_
        refine RL.done ?_
        first | refine RK.condD rfl (fun h22 => ?_) (fun h22 => ?_) | refine RK.condN rfl (fun h22 => ?_) (fun h22 => ?_) | refine RK.cond rfl (fun h22 => ?_) (fun h22 => ?_)
        · have ho : o = 3 := by omega
          rw [if_neg (by omega), if_pos ho] at hs ⊢
          refine RK.seq ?_
          refine RK.region ?_
          refine RL.p rfl rfl ?_
          refine RL.q (.free rfl) rfl rfl (Yld.fieldAddr fo327_2 rfl) ?_
          refine RL.q (.free rfl) rfl rfl (Yld.load p325 rfl (at1 (hB3.cell rfl))) ?_
          refine RL.q (.free rfl) rfl rfl (Yld.lenSl u325 rfl) ?_
          refine RL.p rfl rfl ?_
          refine RL.re (d := 28) rfl rfl (sub_i64 (z := ((n - 1 : Nat) : Int)) (by omega) (by omega) (by omega)) ?_
          refine RL.p rfl rfl ?_
          refine RL.re (d := 29) rfl rfl (congrArg (Value.int .i64) (show _ = ((2 * (n - 1) : Nat) : Int) by rw [wrap_i64 (by omega) (by omega)]; omega)) ?_
          refine RL.p rfl rfl ?_
          refine RL.re (d := 30) rfl rfl (add_i64 (z := ((sz l + 2 * (cnt l - 1) : Nat) : Int)) (by omega) (by omega) (by omega)) ?_
          refine RL.p rfl rfl ?_
          refine RL.done ?_
          refine RK.ret_of Tryz.func340 (res1 rfl rfl) ?_ _
          exact ⟨_, rfl, rfl, hgw⟩
        · refine RK.seq ?_
          refine RK.region ?_
          iterate 2 refine RL.p rfl rfl ?_
          refine RL.done ?_
          first | refine RK.condD rfl (fun h31 => ?_) (fun h31 => ?_) | refine RK.condN rfl (fun h31 => ?_) (fun h31 => ?_) | refine RK.cond rfl (fun h31 => ?_) (fun h31 => ?_)
          · have ho : o = 4 := by omega
            rw [if_neg (by omega), if_neg (by omega), if_pos ho] at hs ⊢
            refine RK.seq ?_
            refine RK.region ?_
            iterate 2 refine RL.p rfl rfl ?_
            refine RL.re (d := 34) rfl rfl (add_i64 (z := ((sz l + 2 : Nat) : Int)) (by omega) (by omega) (by omega)) ?_
            refine RL.p rfl rfl ?_
            refine RL.done ?_
            refine RK.ret_of Tryz.func340 (res1 rfl rfl) ?_ _
            exact ⟨_, rfl, rfl, hgw⟩
          · iterate 2 refine RK.seq ?_
            refine RK.region ?_
            iterate 2 refine RL.p rfl rfl ?_
            refine RL.done ?_
            first | refine RK.condD rfl (fun h35 => ?_) (fun h35 => ?_) | refine RK.condN rfl (fun h35 => ?_) (fun h35 => ?_) | refine RK.cond rfl (fun h35 => ?_) (fun h35 => ?_)
            · have ho : o = 5 := by omega
              rw [if_neg (by omega), if_neg (by omega), if_neg (by omega)] at hs ⊢
              refine RK.skip ?_
              refine RK.condT (hcT rfl (by first | exact h35 | exact decide_eq_true h35 | simpa using h35)) ?_
              refine RK.seq ?_
              refine RK.region ?_
              iterate 2 refine RL.p rfl rfl ?_
              refine RL.re (d := 39) rfl rfl (add_i64 (z := ((sz l + 1 : Nat) : Int)) (by omega) (by omega) (by omega)) ?_
              refine RL.p rfl rfl ?_
              refine RL.done ?_
              refine RK.ret_of Tryz.func340 (res1 rfl rfl) ?_ _
              exact ⟨_, rfl, rfl, hgw⟩
            · refine RK.region ?_
              iterate 2 refine RL.p rfl rfl ?_
              refine RL.done ?_
              first | refine RK.condD rfl (fun h35 => ?_) (fun h35 => ?_) | refine RK.condN rfl (fun h35 => ?_) (fun h35 => ?_) | refine RK.cond rfl (fun h35 => ?_) (fun h35 => ?_)
              · have ho : o = 6 := by omega
                rw [if_neg (by omega), if_neg (by omega), if_neg (by omega)] at hs ⊢
                refine RK.seq ?_
                refine RK.region ?_
                iterate 2 refine RL.p rfl rfl ?_
                refine RL.re (d := 39) rfl rfl (add_i64 (z := ((sz l + 1 : Nat) : Int)) (by omega) (by omega) (by omega)) ?_
                refine RL.p rfl rfl ?_
                refine RL.done ?_
                refine RK.ret_of Tryz.func340 (res1 rfl rfl) ?_ _
                exact ⟨_, rfl, rfl, hgw⟩
              · have ho : o = 2 := by omega
                rw [if_pos ho] at hs ⊢
                refine RK.skip ?_
                refine RK.inBlock ?_
                refine RK.seq ?_
                refine RK.region ?_
                iterate 2 refine RL.p rfl rfl ?_
                refine RL.done ?_
                refine RK.ret_of Tryz.func340 (res1 rfl rfl) ?_ _
                exact ⟨_, rfl, rfl, hgw⟩
theorem sizeM_ok (x : Rx) (ht : Tr false x) (hs : sz x ≤ 1000) (M : Nat → Prop) (k : Cel) (w : World) (hv : RxV M w x [k]) : Fx Tryz.prog 318 [.agg (celC k).toArray] w (fun u w' => u = .int .i64 ((sz x + 1 : Nat) : Int) ∧ Grow w w') := by
  refine enter Tryz.func318 rfl rfl rfl _ (Pick.sub (l := [0]) (.cons rfl .nil)) ?_
  refine RK.seq ?_
  refine RK.region ?_
  refine RL.op (.free rfl) rfl rfl (Does.box rfl) ?_
  rintro _ w1 ⟨b1, rfl, hn1⟩
  refine RL.p rfl rfl ?_
  refine RL.done ?_
  iterate 2 refine RK.seq ?_
  refine RK.region ?_
  refine RL.q (.free rfl) rfl rfl (Yld.loadN (cs := celC k) a327 rfl (atN (blk0' hn1.blk))) ?_
  refine RL.op (.free rfl) rfl rfl (Does.call rfl e339 (rexIs_ok _ x (Nat.le_refl _) ht M k _ (RxV.grow hn1.grow x hv))) ?_
  rintro _ w2 ⟨rfl, hg2⟩
  refine RL.p rfl rfl ?_
  refine RL.done ?_
  refine RK.condF (hcF rfl (rfl)) ?_
  refine RK.skip ?_
  refine RK.seq ?_
  refine RK.region ?_
  refine RL.q (.free rfl) rfl rfl (Yld.loadN (cs := celC k) a327 rfl (atN (blk0' (hn1.blk.mod hg2 (fun h => h))))) ?_
  refine RL.op (.free rfl) rfl rfl (Does.call rfl e340 (size_ok _ x (Nat.le_refl _) ht hs M k _ (RxV.grow (hn1.grow.trans hg2) x hv))) ?_
  rintro _ w3 ⟨rfl, hg3⟩
  refine RL.p rfl rfl ?_
  refine RL.re (d := 8) rfl rfl (succ_i64 (by omega)) ?_
  refine RL.p rfl rfl ?_
  refine RL.done ?_
  refine RK.ret_of Tryz.func318 (res1 rfl rfl) ?_ _
  exact ⟨_, rfl, rfl, (hn1.grow.trans hg2).trans hg3⟩
end Go.Proofs.YtnnmgfnhblbolaaGreatDoor
set_option linter.unusedVariables false
set_option linter.unusedSimpArgs false
set_option maxHeartbeats 400000
namespace Go.Rex
open Go Go.X
def stC (s : Stp) : List Value := [.int .i64 (s.op : Int), .int .u64 ((s.set.getD 0 0 : Nat) : Int), .int .u64 ((s.set.getD 1 0 : Nat) : Int), .int .u64 ((s.set.getD 2 0 : Nat) : Int), .int .u64 ((s.set.getD 3 0 : Nat) : Int), .int .i64 (s.a : Int), .int .i64 (s.b : Int)]
theorem stC_len (s : Stp) : (stC s).length = 7 := rfl
theorem flat_set {α : Type} (f : α → List Value) (sz : Nat) (hf : ∀ x, (f x).length = sz) : ∀ (xs : List α) (j q : Nat) (x y : α) (v : Value), xs[j]? = some x → q < sz → (f x).set q v = f y → (xs.flatMap f).set (j * sz + q) v = (xs.set j y).flatMap f
  | [], j, q, x, y, v, h, _, _ => by simp at h
  | z :: xs, 0, q, x, y, v, h, hq, he => by
    simp at h; subst h
    simp only [List.flatMap_cons, Nat.zero_mul, Nat.zero_add, List.set_cons_zero]
    rw [List.set_append_left _ _ (by rw [hf]; exact hq), he]
  | z :: xs, j + 1, q, x, y, v, h, hq, he => by
    simp only [List.flatMap_cons, List.set_cons_succ]
    have e : (j + 1) * sz + q = (f z).length + (j * sz + q) := by rw [hf, Nat.add_mul]; omega
    rw [e, List.set_append_right _ _ (by omega), Nat.add_sub_cancel_left, flat_set f sz hf xs j q x y v (by simpa using h) hq he]
theorem set_mid {α : Type} (A : List α) (x y : α) (R : List α) : (A ++ x :: R).set A.length y = A ++ y :: R := by simp
def wayC : List Rx → Nat → Nat → List Stp
  | [], _, _ => []
  | x :: l, e, p => splitS (p + 1) (p + 2 + sz x) :: (code x none (p + 1) ++ jumpS e :: wayC l e (p + 2 + sz x))
def wlen (l : List Rx) : Nat := (l.map fun x => sz x + 2).sum
def wayJ : List Rx → Nat → List Int
  | [], _ => []
  | x :: l, p => ((p + 1 + sz x : Nat) : Int) :: wayJ l (p + 2 + sz x)
def GoodL (l : List Rx) : Prop := ∀ x ∈ l, Tr false x
theorem codeN_len {x : Rx} (h : Tr false x) (p : Nat) : (code x none p).length = sz x := by
  obtain ⟨a, b, _⟩ := tr_wf x false h
  exact (code_len x a b p).1
theorem codeL_len {l : Rx} (h : Tr true l) (p : Nat) : (code l none p).length = sz l := by
  obtain ⟨a, b, _⟩ := tr_wf l true h
  exact (code_len l a b p).1
theorem wayC_len : ∀ (l : List Rx) (e p : Nat), GoodL l → (wayC l e p).length = wlen l
  | [], _, _, _ => rfl
  | x :: l, e, p, h => by
    have h1 := wayC_len l e (p + 2 + sz x) fun y hy => h y (by simp [hy])
    simp only [wayC, List.length_cons, List.length_append, codeN_len (h x (by simp)), h1, wlen, List.map_cons, List.sum_cons]
    omega
theorem wayC_app : ∀ (l m : List Rx) (e p : Nat), wayC (l ++ m) e p = wayC l e p ++ wayC m e (p + wlen l)
  | [], m, e, p => by simp [wayC, wlen]
  | x :: l, m, e, p => by
    simp only [List.cons_append, wayC, wayC_app l m e, wlen, List.map_cons, List.sum_cons, List.append_assoc]
    rw [show p + 2 + sz x + (List.map (fun x => sz x + 2) l).sum = p + (sz x + 2 + (List.map (fun x => sz x + 2) l).sum) by omega]
theorem wayJ_app : ∀ (l m : List Rx) (p : Nat), wayJ (l ++ m) p = wayJ l p ++ wayJ m (p + wlen l)
  | [], m, p => by simp [wayJ, wlen]
  | x :: l, m, p => by
    simp only [List.cons_append, wayJ, wayJ_app l m, wlen, List.map_cons, List.sum_cons]
    rw [show p + 2 + sz x + (List.map (fun x => sz x + 2) l).sum = p + (sz x + 2 + (List.map (fun x => sz x + 2) l).sum) by omega]
theorem wayJ_len : ∀ (l : List Rx) (p : Nat), (wayJ l p).length = l.length
  | [], _ => rfl
  | x :: l, p => by simp [wayJ, wayJ_len l]
theorem wlen_app (l m : List Rx) : wlen (l ++ m) = wlen l + wlen m := by simp [wlen]
theorem take_snoc {l : List Rx} {k : Nat} {x : Rx} (h : l[k]? = some x) : l.take (k + 1) = l.take k ++ [x] := by
  have hk := (List.getElem?_eq_some_iff.1 h).1
  rw [List.take_succ_eq_append_getElem hk, (List.getElem?_eq_some_iff.1 h).2]
theorem drop_get {l : List Rx} {k : Nat} {x : Rx} (h : l[k]? = some x) : l.drop k = x :: l.drop (k + 1) := by
  have hk := (List.getElem?_eq_some_iff.1 h).1
  rw [List.drop_eq_getElem_cons hk, (List.getElem?_eq_some_iff.1 h).2]
theorem GoodL.take {l : List Rx} (h : GoodL l) (k : Nat) : GoodL (l.take k) := fun x hx => h x (List.mem_of_mem_take hx)
def wayP (l : List Rx) (m e p : Nat) : List Stp := wayC (l.take m) e p ++ wayC (l.drop m) 0 (p + wlen (l.take m))
theorem wayP_zero (l : List Rx) (e p : Nat) : wayP l 0 e p = wayC l 0 p := by simp [wayP, wayC, wlen]
theorem wayP_all (l : List Rx) (e p : Nat) {m : Nat} (hm : l.length ≤ m) : wayP l m e p = wayC l e p := by simp [wayP, List.take_of_length_le hm, List.drop_eq_nil_of_le hm, wayC]
theorem wayP_split {l : List Rx} {m : Nat} {x : Rx} (h : l[m]? = some x) (e p : Nat) : wayP l m e p = (wayC (l.take m) e p ++ splitS (p + wlen (l.take m) + 1) (p + wlen (l.take m) + 2 + sz x) :: code x none (p + wlen (l.take m) + 1)) ++ jumpS 0 :: wayC (l.drop (m + 1)) 0 (p + wlen (l.take m) + 2 + sz x) := by
  unfold wayP
  rw [drop_get h]
  simp [wayC]
theorem wayP_next {l : List Rx} {m : Nat} {x : Rx} (h : l[m]? = some x) (e p : Nat) : wayP l (m + 1) e p = (wayC (l.take m) e p ++ splitS (p + wlen (l.take m) + 1) (p + wlen (l.take m) + 2 + sz x) :: code x none (p + wlen (l.take m) + 1)) ++ jumpS e :: wayC (l.drop (m + 1)) 0 (p + wlen (l.take m) + 2 + sz x) := by
  unfold wayP
  rw [take_snoc h, wayC_app, wlen_app]
  simp [wayC, wlen, Nat.add_assoc, Nat.add_comm, Nat.add_left_comm]
theorem wayJ_get {l : List Rx} {m : Nat} {x : Rx} (h : l[m]? = some x) (p : Nat) : (wayJ l p)[m]? = some ((p + wlen (l.take m) + 1 + sz x : Nat) : Int) := by
  have hm := (List.getElem?_eq_some_iff.1 h).1
  have e : l = l.take m ++ x :: l.drop (m + 1) := by rw [← drop_get h, List.take_append_drop]
  have hl : (wayJ (l.take m) p).length = m := by rw [wayJ_len]; simp; omega
  rw [show wayJ l p = wayJ (l.take m) p ++ wayJ (x :: l.drop (m + 1)) (p + wlen (l.take m)) by rw [← wayJ_app, ← e]]
  rw [List.getElem?_append_right (by omega), hl, Nat.sub_self]
  rfl
theorem wayP_head_len {l : List Rx} (hg : GoodL l) {m : Nat} {x : Rx} (h : l[m]? = some x) (e p : Nat) : (wayC (l.take m) e p ++ splitS (p + wlen (l.take m) + 1) (p + wlen (l.take m) + 2 + sz x) :: code x none (p + wlen (l.take m) + 1)).length = wlen (l.take m) + 1 + sz x := by
  simp only [List.length_append, List.length_cons, wayC_len _ _ _ (hg.take m), codeN_len (hg x (List.mem_of_getElem? h))]
  omega
theorem wayP_len {l : List Rx} (hg : GoodL l) (m e p : Nat) : (wayP l m e p).length = wlen l := by
  unfold wayP
  have h2 : GoodL (l.drop m) := fun x hx => hg x (List.mem_of_mem_drop hx)
  rw [List.length_append, wayC_len _ _ _ (hg.take m), wayC_len _ _ _ h2, ← wlen_app, List.take_append_drop]
theorem wlen_take (l : List Rx) : ∀ k, wlen (l.take k) ≤ wlen l := by
  unfold wlen
  induction l with
  | nil => intro k; simp
  | cons y l ih =>
    intro k
    cases k with
    | zero => simp
    | succ k => simp only [List.take_succ_cons, List.map_cons, List.sum_cons]; have := ih k; omega
theorem wlen_sz : ∀ (l : List Rx), wlen l = (l.map sz).sum + 2 * l.length
  | [] => rfl
  | x :: l => by have := wlen_sz l; unfold wlen at *; simp only [List.map_cons, List.sum_cons, List.length_cons, this]; omega
theorem code_alt : ∀ (l : Rx), Tr true l → ∀ (xs : List Rx) (y : Rx), kidsR l = xs ++ [y] → ∀ e p, code l (some e) p = wayC xs e p ++ code y none (p + wlen xs)
  | .nil, _, xs, y, h, _, _ => by simp [kidsR] at h
  | .set _, h, _, _, _, _, _ => h.elim
  | .node _ _, h, _, _, _, _, _ => h.elim
  | .cons x l, ht, xs, y, h, e, p => by
    simp only [kidsR] at h
    simp only [code]
    cases xs with
    | nil =>
      simp at h
      obtain ⟨rfl, h2⟩ := h
      have hn : l = .nil := by
        cases l with
        | nil => rfl
        | cons => simp [kidsR] at h2
        | set => exact ht.2.elim
        | node => exact ht.2.elim
      rw [if_pos hn]
      simp [wayC, wlen]
    | cons z xs =>
      simp only [List.cons_append, List.cons.injEq] at h
      obtain ⟨rfl, h2⟩ := h
      have hn : ¬ l = .nil := by rintro rfl; simp [kidsR] at h2
      rw [if_neg hn, code_alt l ht.2 xs y h2 e]
      simp only [wayC, List.cons_append, List.append_assoc, wlen, List.map_cons, List.sum_cons]
      rw [show p + 2 + sz x + (List.map (fun x => sz x + 2) xs).sum = p + (sz x + 2 + (List.map (fun x => sz x + 2) xs).sum) by omega]
theorem codeS_snoc : ∀ (l : List Rx) (x : Rx) (p : Nat), code (lstS (l ++ [x])) none p = code (lstS l) none p ++ code x none (p + sz (lstS l))
  | [], x, p => by simp [lstS, code, sz]
  | y :: l, x, p => by
    simp only [List.cons_append, lstS, code, codeS_snoc l x, sz, List.append_assoc]
    rw [show p + sz y + sz (lstS l) = p + (sz y + sz (lstS l)) by omega]
theorem szS (l : List Rx) : sz (lstS l) = (l.map sz).sum := by
  induction l with
  | nil => rfl
  | cons x l ih => simp [lstS, sz, ih]
end Go.Rex
namespace Go.X
open Go Go.RowKit
theorem Row.turn {w : World} {t sz k : Nat} {v : Value} {xs : List Value} (h : Row w t sz v k xs) (hk : 0 < k) : ∃ g cap cs, v = .slice (some ⟨g, 0, none⟩) k cap ∧ Blk w g t cs ∧ k * sz ≤ cs.length ∧ ∀ (w' : World) (i : Nat) (u : Value), i < k * sz → Blk w' g t (cs.set i u) → Row w' t sz v k (xs.set i u) := by
  obtain ⟨g, cap, cs, rfl, hb, hl, hkc, hm, htk⟩ := h.whole hk
  have hle : k * sz ≤ cs.length := by rw [hl]; exact Nat.mul_le_mul_right _ hkc
  refine ⟨g, cap, cs, rfl, hb, hle, fun w' i u hi hb' => ?_⟩
  have := Row.shut (w := w') (t := t) (g := g) (sz := sz) (cap := cap) (k := k) hb' (by simpa using hl) hkc hm
  rw [List.take_set, htk] at this
  exact this
end Go.X
