/- What the claim stands on, part 3. Of own lemmas only those that it reaches. -/
import Derived.Test.YtcndimkkojdflaaGreatDoorKs2
set_option linter.unusedVariables false
set_option linter.unusedSimpArgs false
set_option maxHeartbeats 6400000
set_option maxRecDepth 100000
namespace Go.Proofs.YtcndimkkojdflaaGreatDoor
open Go Go.X
theorem Yld.arrPtr {P : Program} {n : Nat} {e : Env} {C : World → Prop} {d : Option Tmp} {arr len el : Nat} {x : Operand} {ty : TypeId} {pos : String} {af : Array Edge} {g : Option (Nat × Bool)} (hT : P.underlying arr = some (.array len el)) {ad : Option Addr} {k c : Nat} (hx : ev e x = some (.slice ad k c)) (h : len ≤ k) :
    Yld P n C e ⟨d, .sliceToArrayPointer arr x, ty, pos, af, g⟩ (.pointer ad) := by
  intro ac ha w _
  have h1 : ¬ k < len := by omega
  simp [execOp, ha.ev hx, Instr.arrayAt, run_underlying hT, h1]
theorem rem_nat {a : Nat} {b : Nat} : ((a : Int)).tmod (b : Int) = ((a % b : Nat) : Int) := by
  rw [Int.tmod_eq_emod_of_nonneg (by omega)]; simp
theorem quo_nat {a : Nat} {b : Nat} : ((a : Int)).tdiv (b : Int) = ((a / b : Nat) : Int) := by
  rw [Int.tdiv_eq_ediv_of_nonneg (by omega)]; simp
theorem pad_ok (n : Nat) (cs : List Value) (v : Value) (w : World) (hv : Sl No w v 1 n cs) (hw : WW .u8 n cs) (hn : n ≤ 100000) (h0n : 0 < n) : Fx Tryz.prog 224 [v] w (fun u w' => ∃ (g m : Nat) (ps : List Value), u = .slice (some ⟨g, 0, none⟩) m m ∧ Blk w' g 5 ps ∧ WW .u8 m ps ∧ m % 64 = 0 ∧ m ≤ n + 100 ∧ Grow w w') := by
  obtain ⟨ad, c, rfl⟩ := hv.shape
  refine enter Tryz.func224 rfl rfl rfl _ (Pick.sub (l := [0]) (.cons rfl .nil)) ?_
  refine RK.seq ?_
  refine RK.region ?_
  refine RL.p rfl rfl ?_
  refine RL.done ?_
  refine RK.seq ?_
  refine RK.region ?_
  refine RL.p rfl rfl ?_
  refine RL.q (.free rfl) rfl rfl (Yld.lenSl u39 rfl) ?_
  refine RL.p rfl rfl ?_
  refine RL.re (d := 9) rfl rfl (succ_i64 (by omega)) ?_
  refine RL.p rfl rfl ?_
  refine RL.done ?_
  refine RK.seq ?_
  refine RK.block ?_
  refine RK.loop (fun m : Nat => [(0, .slice ad n c), (3, .int .i64 (m : Int))]) (fun m w' => w = w' ∧ n + 1 ≤ m ∧ m + (120 - m % 64) % 64 ≤ n + 66) (fun m => (120 - m % 64) % 64) (n + 1) ⟨rfl, rfl, trivial⟩ ⟨rfl, by omega, by omega⟩ (fun m w' hI ih => ?_)
  obtain ⟨rfl, hm1, hm2⟩ := hI
  iterate 2 refine RK.seq ?_
  refine RK.region ?_
  refine RL.p rfl rfl ?_
  refine RL.q (.free rfl) rfl rfl (Yld.rem rfl rfl (by decide)) ?_
  refine RL.re (d := 11) rfl rfl (congrArg (Value.int .i64) (rem_nat (b := 64))) ?_
  refine RL.p rfl rfl ?_
  refine RL.done ?_
  first | refine RK.condD rfl (fun h12 => ?_) (fun h12 => ?_) | refine RK.condN rfl (fun h12 => ?_) (fun h12 => ?_) | refine RK.cond rfl (fun h12 => ?_) (fun h12 => ?_)
  · refine RK.skip ?_
    refine RK.block ?_
    refine RK.region ?_
    iterate 2 refine RL.p rfl rfl ?_
    refine RL.re (d := 14) rfl rfl (succ_i64 (by omega)) ?_
    refine RL.p rfl rfl ?_
    refine RL.done ?_
    refine RK.inBlock ?_
    exact RK.back (ih (m + 1) _ ⟨rfl, by omega, by omega⟩ (by omega)) ⟨rfl, rfl, trivial⟩
  · have hm64 : m % 64 = 56 := by omega
    refine RK.exit rfl ?_
    refine RK.seq ?_
    refine RK.region ?_
    iterate 2 refine RL.p rfl rfl ?_
    refine RL.re (d := 16) rfl rfl (add_i64 (z := ((m + 8 : Nat) : Int)) (by simp) (by omega) (by omega)) ?_
    refine RL.op (.free rfl) rfl rfl (Does.mkSlice u39 i5 rfl rfl rfl (by omega) (by omega)) ?_
    rintro _ w2 ⟨g, rfl, hng⟩
    have hag := hng.at_
    have hW0 := WW.zero .u8 (m + 8)
    refine RL.p rfl rfl ?_
    refine RL.done ?_
    refine RK.seq ?_
    refine RK.region ?_
    iterate 2 refine RL.p rfl rfl ?_
    refine RL.op (.free rfl) rfl rfl (Does.copyS u39 i5 (m := n) rfl rfl hng.blk (hv.mod (Mod.any' hng.grow)) h0n (by omega) (by have := hW0.1; omega) hw.one) ?_
    rintro _ w3 ⟨_, hb3, hm3, hs3⟩
    obtain ⟨c3, hc3⟩ : ∃ c3 : List Value, c3 = (List.replicate (m + 8) (Value.int .u8 0)).take 0 ++ cs ++ (List.replicate (m + 8) (Value.int .u8 0)).drop (0 + n * 1) := ⟨_, rfl⟩
    rw [← hc3] at hb3
    have hW3 : WW .u8 (m + 8) c3 := by
        rw [hc3, List.take_zero, List.nil_append]
        have h1 := hw.app (hW0.rest (0 + n * 1) (by omega))
        rw [show n + (m + 8 - (0 + n * 1)) = m + 8 by omega] at h1
        exact h1
    refine RL.done ?_
    refine RK.seq ?_
    refine RK.region ?_
    iterate 2 refine RL.p rfl rfl ?_
    refine RL.q (.free rfl) rfl rfl (Yld.lenSl u39 rfl) ?_
    refine RL.q (.free rfl) rfl rfl (Yld.indexAddrN u39 i5 rfl rfl ((by omega : n < m + 8))) ?_
    refine RL.op' (.free rfl) rfl (Does.storeN i5 rfl rfl rfl rfl hb3 (by have := hW3.1; omega)) ?_
    rintro _ w4 ⟨hb4, hm4, hs4⟩
    have hg4 : Grow w w4 := (hng.grow.then hm3 (fun x hx e => by have e' : x = g := e; omega)).then hm4 (fun x hx e => by have e' : x = g := e; omega)
    have hW4 := hW3.st (i := n) (by omega) (x := 128)
    refine RL.done ?_
    refine RK.seq ?_
    refine RK.region ?_
    refine RL.p rfl rfl ?_
    refine RL.q (.free rfl) rfl rfl (Yld.lenSl u39 rfl) ?_
    refine RL.q (.free rfl) rfl rfl (Yld.convI Tryz.underlying3 Tryz.underlying31 rfl) ?_
    iterate 2 refine RL.p rfl rfl ?_
    refine RL.done ?_
    iterate 2 refine RK.seq ?_
    refine RK.region ?_
    refine RL.p rfl rfl ?_
    refine RL.done ?_
    refine RK.block ?_
    refine RK.loop (fun k : Nat => [(3, .int .i64 (m : Int)), (4, .slice (some ⟨g, 0, none⟩) (m + 8) (m + 8)), (5, .int .u64 (IntKind.u64.wrap (IntKind.u64.wrap (n : Int) * 8))), (29, .int .i64 (k : Int))]) (fun k w' => (∃ ps, WW .u8 (m + 8) ps ∧ Blk w' g 5 ps) ∧ Grow w w' ∧ k ≤ 8) (fun k => 8 - k) 0 ⟨rfl, rfl, rfl, rfl, trivial⟩ ⟨⟨_, hW4, hb4⟩, hg4, Nat.zero_le _⟩ (fun k w5 hI ih => ?_)
    obtain ⟨⟨ps, hps, hB⟩, hg, hk⟩ := hI
    refine RK.seq ?_
    refine RK.region ?_
    refine RL.p rfl rfl ?_
    refine RL.done ?_
    refine RK.seq ?_
    first | refine RK.condD rfl (fun h30 => ?_) (fun h30 => ?_) | refine RK.condN rfl (fun h30 => ?_) (fun h30 => ?_) | refine RK.cond rfl (fun h30 => ?_) (fun h30 => ?_)
    · refine RK.skip ?_
      refine RK.seq ?_
      refine RK.block ?_
      refine RK.seq ?_
      refine RK.region ?_
      iterate 2 refine RL.p rfl rfl ?_
      refine RL.done ?_
      refine RK.region ?_
      iterate 4 refine RL.p rfl rfl ?_
      refine RL.re (d := 35) rfl rfl (add_i64 (z := ((m + k : Nat) : Int)) (by simp) (by omega) (by omega)) ?_
      iterate 3 refine RL.p rfl rfl ?_
      refine RL.re (d := 38) rfl rfl (congrArg (Value.int .i64) (by rw [wrap_i64 (by omega) (by omega)]; omega : _ = ((8 * k : Nat) : Int))) ?_
      refine RL.p rfl rfl ?_
      refine RL.re (d := 39) rfl rfl (sub_i64 (z := ((56 - 8 * k : Nat) : Int)) (by omega) (by omega) (by omega)) ?_
      refine RL.q (.free rfl) rfl rfl (Yld.shrI rfl rfl (by omega)) ?_
      refine RL.q (.free rfl) rfl rfl (Yld.convI Tryz.underlying31 Tryz.underlying5 rfl) ?_
      refine RL.q (.free rfl) rfl rfl (Yld.indexAddrN u39 i5 rfl rfl ((by omega : m + k < m + 8))) ?_
      refine RL.op' (.free rfl) rfl (Does.storeN i5 rfl rfl rfl rfl hB (by have := hps.1; omega)) ?_
      rintro _ w9 ⟨hb9, hm9, hs9⟩
      refine RL.done ?_
      refine RK.inBlock ?_
      refine RK.region ?_
      refine RL.p rfl rfl ?_
      refine RL.re (d := 43) rfl rfl (succ_i64 (by omega)) ?_
      refine RL.p rfl rfl ?_
      refine RL.done ?_
      exact RK.back (ih (k + 1) _ ⟨⟨_, hps.st (i := m + k) (by omega), hb9⟩, hg.then hm9 (fun x hx e => by have e' : x = g := e; omega), by omega⟩ (by omega)) ⟨rfl, rfl, rfl, rfl, trivial⟩
    · refine RK.exit rfl ?_
      refine RK.seq ?_
      refine RK.region ?_
      iterate 2 refine RL.p rfl rfl ?_
      refine RL.done ?_
      refine RK.ret_of Tryz.func224 (res1 rfl rfl) ?_ _
      exact ⟨_, rfl, g, m + 8, ps, rfl, hB, hps, by omega, by omega, hg⟩
theorem shaOf_ok (n : Nat) (cs : List Value) (v : Value) (w : World) (hv : Sl No w v 1 n cs) (hw : WW .u8 n cs) (hn : n ≤ 100000) (h0n : 0 < n) (hK : KeysAt w) : Fx Tryz.prog 154 [v] w (fun u w' => ∃ ds, WW .u8 32 ds ∧ u = .agg ds.toArray ∧ Grow w w') := by
  have h0 := hK.pos
  refine enter Tryz.func154 rfl rfl rfl _ (Pick.sub (l := [0]) (.cons rfl .nil)) ?_
  refine RK.seq ?_
  refine RK.region ?_
  refine RL.op (.free rfl) rfl rfl (Does.alloc i105) ?_
  rintro _ w1 ⟨b2, rfl, hn2⟩
  have ha2 := hn2.at_
  have hz2 := hn2.size
  refine RL.done ?_
  refine RK.seq ?_
  refine RK.region ?_
  refine RL.q (.free rfl) rfl rfl (Yld.build (v := .agg #[.int .u32 1779033703, .int .u32 3144134277, .int .u32 1013904242, .int .u32 2773480762, .int .u32 1359893119, .int .u32 2600822924, .int .u32 528734635, .int .u32 1541459225]) rfl (fun w => by kernel_rfl)) ?_
  refine RL.op (.free rfl) rfl rfl (Does.alloc i319) ?_
  rintro _ w2 ⟨b3, rfl, hn3⟩
  have ha3 := hn3.at_
  have hz3 := hn3.size
  refine RL.op' (.free rfl) rfl (Does.storeN i319 rfl rfl rfl rfl hn3.blk (Nat.le_refl 8)) ?_
  rintro _ w3 ⟨hb3, hm3, hs3⟩
  have hB3 : Blk w3 b3 319 [.int .u32 1779033703, .int .u32 3144134277, .int .u32 1013904242, .int .u32 2773480762, .int .u32 1359893119, .int .u32 2600822924, .int .u32 528734635, .int .u32 1541459225] := hb3
  have hg13 : Grow w1 w3 := hn3.grow.then hm3 (fun x hx e => by have e' : x = b3 := e; omega)
  refine RL.done ?_
  iterate 2 refine RK.seq ?_
  refine RK.region ?_
  refine RL.p rfl rfl ?_
  refine RL.op (.free rfl) rfl rfl (Does.call rfl e224 (pad_ok n cs v _ (hv.mod (Mod.any' (hn2.grow.trans hg13))) hw hn h0n)) ?_
  rintro _ w4 ⟨g, m, ps, rfl, hP4, hps, hm64, hmn, hg4⟩
  have hg14 := hg13.trans hg4
  have hB4 := hB3.mod hg4 (fun h => h)
  have hK4 := hK.grow (hn2.grow.trans hg14)
  have hzz := hg14.size
  refine RL.p rfl rfl ?_
  refine RL.done ?_
  refine RK.block ?_
  refine RK.loop (fun s : Nat × Option Addr => [(2, .pointer (some ⟨b2, 0, none⟩)), (3, .pointer (some ⟨b3, 0, none⟩)), (4, .slice s.2 (m - s.1) (m - s.1))]) (fun s w' => (∃ hs, WW .u32 8 hs ∧ Blk w' b3 319 hs) ∧ Mod (· = b3) w4 w' ∧ s.1 % 64 = 0 ∧ s.1 ≤ m ∧ (s.1 < m → s.2 = some ⟨g, s.1, none⟩)) (fun s => m - s.1) (0, some ⟨g, 0, none⟩) ⟨rfl, rfl, rfl, trivial⟩ ⟨⟨_, WW8 _ _ _ _ _ _ _ _, hB4⟩, Mod.refl _ _, rfl, by omega, fun _ => rfl⟩ (fun s w' hI ih => ?_)
  obtain ⟨off, ad⟩ := s
  obtain ⟨⟨hs, hhs, hB⟩, hm, ho64, hom, had⟩ := hI
  simp only at ho64 hom had
  iterate 2 refine RK.seq ?_
  refine RK.region ?_
  refine RL.p rfl rfl ?_
  refine RL.q (.free rfl) rfl rfl (Yld.lenSl u39 rfl) ?_
  refine RL.p rfl rfl ?_
  refine RL.done ?_
  first | refine RK.condD rfl (fun h12 => ?_) (fun h12 => ?_) | refine RK.condN rfl (fun h12 => ?_) (fun h12 => ?_) | refine RK.cond rfl (fun h12 => ?_) (fun h12 => ?_)
  · have hlt : off < m := by omega
    have had' := had hlt
    subst had'
    have h64 : 64 ≤ m - off := by omega
    have hcut := hps.cut off 64 (by omega)
    have hd := Mod.drew No w'
    have hgb : g ≠ b3 := fun e => hP4.ty.ne hB4.ty rfl e
    have hPd := (hP4.mod hm (fun e => hgb e)).mod hd (fun h => h)
    have hBd := hB.mod hd (fun h => h)
    refine RK.skip ?_
    refine RK.seq ?_
    refine RK.block ?_
    refine RK.drawM (fun _ => False) [(0, false), (1, false), (2, false), (3, false), (4, false), (5, true), (6, true)] [6] mixed (by kernel_rfl) ?_
    refine DL.q rfl (.free rfl) rfl rfl rfl (Yld.loadN (cs := hs) (by rw [hhs.1]; exact a319) rfl (atNM (fun j u hj => by rw [Nat.zero_add]; exact hBd.cell' hj) id)) (Mod.drew _ _) ?_
    refine DL.p rfl rfl rfl ?_
    refine DL.qf rfl (.free rfl) rfl rfl (Yld.sliceHi u39 i5 (m := 64) rfl rfl (by omega)) ?_
    refine DL.qf rfl (.free rfl) rfl rfl (Yld.arrPtr Tryz.underlying321 rfl (Nat.le_refl 64)) ?_
    refine DL.q rfl (.free rfl) rfl rfl rfl (Yld.loadN (cs := (ps.drop off).take 64) (by rw [hcut.1]; exact a321) rfl (atNM (fun j u hj => by
        rw [List.getElem?_take] at hj
        split at hj
        · rw [List.getElem?_drop] at hj; exact hPd.cell' hj
        · cases hj) id)) (Mod.drew _ _) ?_
    refine DL.op rfl (.free rfl) rfl rfl (Does.call rfl e225 (round_ok hs _ hhs hcut _ ((hK4.mod hm (fun e => by have e' : 8 = b3 := e; omega)).grow hd))) ?_
    rintro _ w8 ⟨hs', hhs', rfl, hg8⟩
    refine ⟨Mod.any' (hd.trans hg8), ?_⟩
    refine DL.opT rfl (.free rfl) rfl rfl (Does.storeN i319 rfl rfl (show (Value.agg hs'.toArray).cells.size = 8 from by simpa [Value.cells] using hhs'.1) (by simpa [Value.cells] using hhs'.one) (hBd.mod hg8 (fun h => h)) (by have := hhs.1; omega)) ?_
    rintro _ w9 ⟨hb9, hm9, hs9⟩
    refine DL.done ?_
    refine RK.inBlock ?_
    refine RK.region ?_
    refine RL.p rfl rfl ?_
    refine RL.q (.free rfl) rfl rfl (Yld.sliceFrom u39 i5 (m := 64) rfl rfl h64) ?_
    refine RL.p rfl rfl ?_
    refine RL.done ?_
    exact RK.back (ih (off + 64, fromAt (some ⟨g, off, none⟩) (m - off) 64 1) _ ⟨⟨_, hhs', by
        have e : hs.drop (0 + 8) = [] := List.drop_of_length_le (by have := hhs.1; omega)
        rw [e] at hb9
        have h : Blk w9 b3 319 (hs' ++ []) := hb9
        rwa [List.append_nil] at h⟩, ((hm.trans (Mod.any' hd)).trans (Mod.any' hg8)).trans hm9, by simp only; omega, by simp only; omega, fun h => by
        simp only at h ⊢
        have : ¬ m - off = 64 := by omega
        simp [fromAt, this, add_none]⟩ (by simp only; omega)) ⟨rfl, rfl, by simp only [Nat.sub_sub]; rfl, trivial⟩
  · have hb3lt := hB.lt
    refine RK.exit rfl ?_
    refine RK.seq ?_
    refine RK.region ?_
    refine RL.op (.free rfl) rfl rfl (Does.alloc i105) ?_
    rintro _ w5 ⟨b5, rfl, hn5⟩
    have ha5 := hn5.at_
    have hz5 := hn5.size
    have hzm := hm.size
    have hW5 : Blk w5 b5 105 (List.replicate 32 (.int .u8 0)) := hn5.blk
    have hB5 := hB.mod hn5.grow (fun h => h)
    refine RL.done ?_
    iterate 2 refine RK.seq ?_
    refine RK.region ?_
    refine RL.p rfl rfl ?_
    refine RL.done ?_
    refine RK.block ?_
    refine RK.loop (fun k : Nat => [(2, .pointer (some ⟨b2, 0, none⟩)), (3, .pointer (some ⟨b3, 0, none⟩)), (5, .pointer (some ⟨b5, 0, none⟩)), (21, .int .i64 (k : Int))]) (fun k w' => (∃ ds, WW .u8 32 ds ∧ Blk w' b5 105 ds) ∧ Mod (· = b5) w5 w' ∧ k ≤ 32) (fun k => 32 - k) 0 ⟨rfl, rfl, rfl, rfl, trivial⟩ ⟨⟨_, WW.zero .u8 32, hW5⟩, Mod.refl _ _, Nat.zero_le _⟩ (fun k w6 hI ih => ?_)
    obtain ⟨⟨ds, hds, hD⟩, hm5, hk⟩ := hI
    refine RK.seq ?_
    refine RK.region ?_
    refine RL.p rfl rfl ?_
    refine RL.done ?_
    refine RK.seq ?_
    first | refine RK.condD rfl (fun h22 => ?_) (fun h22 => ?_) | refine RK.condN rfl (fun h22 => ?_) (fun h22 => ?_) | refine RK.cond rfl (fun h22 => ?_) (fun h22 => ?_)
    · obtain ⟨xh, hxh⟩ := hhs.2 (k / 4) (by omega)
      have hB6 := hB5.mod hm5 (fun e => by have e' : b3 = b5 := e; omega)
      refine RK.skip ?_
      refine RK.seq ?_
      refine RK.block ?_
      refine RK.seq ?_
      refine RK.region ?_
      iterate 2 refine RL.p rfl rfl ?_
      refine RL.done ?_
      refine RK.region ?_
      iterate 2 refine RL.p rfl rfl ?_
      refine RL.q (.free rfl) rfl rfl (Yld.quo rfl rfl (by decide)) ?_
      refine RL.re (d := 26) rfl rfl (congrArg (Value.int .i64) ((congrArg IntKind.i64.wrap (quo_nat (a := k) (b := 4))).trans (wrap_i64 (by omega) (by omega)))) ?_
      refine RL.q (.free rfl) rfl rfl (Yld.indexArr Tryz.underlying319 i181 rfl rfl ((by omega : k / 4 < 8))) ?_
      refine RL.q (.free rfl) rfl rfl (Yld.load p181 rfl (at1 (hB6.at1 hxh))) ?_
      refine RL.p rfl rfl ?_
      refine RL.q (.free rfl) rfl rfl (Yld.rem rfl rfl (by decide)) ?_
      refine RL.re (d := 30) rfl rfl (congrArg (Value.int .i64) (rem_nat (a := k) (b := 4))) ?_
      refine RL.p rfl rfl ?_
      refine RL.re (d := 31) rfl rfl (congrArg (Value.int .i64) (by rw [wrap_i64 (by omega) (by omega)]; omega : _ = ((8 * (k % 4) : Nat) : Int))) ?_
      refine RL.p rfl rfl ?_
      refine RL.re (d := 32) rfl rfl (sub_i64 (z := ((24 - 8 * (k % 4) : Nat) : Int)) (by omega) (by omega) (by omega)) ?_
      refine RL.q (.free rfl) rfl rfl (Yld.shrI rfl rfl (by omega)) ?_
      refine RL.q (.free rfl) rfl rfl (Yld.convI Tryz.underlying181 Tryz.underlying5 rfl) ?_
      refine RL.q (.free rfl) rfl rfl (Yld.indexArr Tryz.underlying105 i5 rfl rfl ((by omega : k < 32))) ?_
      refine RL.op' (.free rfl) rfl (Does.storeN i5 rfl rfl rfl rfl hD (by have := hds.1; omega)) ?_
      rintro _ w9 ⟨hb9, hm9, hs9⟩
      refine RL.done ?_
      refine RK.inBlock ?_
      refine RK.region ?_
      refine RL.p rfl rfl ?_
      refine RL.re (d := 36) rfl rfl (succ_i64 (by omega)) ?_
      refine RL.p rfl rfl ?_
      refine RL.done ?_
      exact RK.back (ih (k + 1) _ ⟨⟨_, hds.st (i := k) (by omega), hb9⟩, hm5.trans hm9, by omega⟩ (by omega)) ⟨rfl, rfl, rfl, rfl, trivial⟩
    · have hq : Mod (b2 < ·) w1 w6 := (((Mod.any' hg14).trans (hm.mono fun x _ e => by have e' : x = b3 := e; omega)).trans (Mod.any' hn5.grow)).trans (hm5.mono fun x _ e => by have e' : x = b5 := e; omega)
      refine RK.exit rfl ?_
      refine RK.seq ?_
      refine RK.region ?_
      refine RL.q (.free rfl) rfl rfl (Yld.loadN (cs := ds) (by rw [hds.1]; exact a105) rfl (atN (fun j u hj => by rw [Nat.zero_add]; exact hD.cell' hj))) ?_
      refine RL.op' (.free rfl) rfl (Does.storeN i105 rfl rfl (show (Value.agg ds.toArray).cells.size = 32 from by simpa [Value.cells] using hds.1) (by simpa [Value.cells] using hds.one) (hn2.blk.mod hq (fun e => Nat.lt_irrefl _ e)) (Nat.le_refl 32)) ?_
      rintro _ w9 ⟨hb9, hm9, hs9⟩
      have hB9 : Blk w9 b2 105 (ds ++ []) := hb9
      rw [List.append_nil] at hB9
      refine RL.done ?_
      refine RK.ret_of Tryz.func154 (resC (cs := ds) rfl rfl (by rw [hds.1]; exact a105) hB9) ?_ _
      exact ⟨_, rfl, ds, hds, rfl, (((((hn2.grow.trans hg14).then hm (fun x hx e => by have e' : x = b3 := e; omega)).trans hn5.grow).then hm5 (fun x hx e => by have e' : x = b5 := e; omega))).then hm9 (fun x hx e => by have e' : x = b2 := e; omega)⟩
end Go.Proofs.YtcndimkkojdflaaGreatDoor
set_option linter.unusedVariables false
set_option linter.unusedSimpArgs false
set_option maxHeartbeats 6400000
set_option maxRecDepth 100000
namespace Go.Proofs.YtcndimkkojdflaaGreatDoor
open Go Go.X
theorem slBlk {M : Nat → Prop} {w : World} {g t n c : Nat} {cs : List Value} (h : Blk w g t cs) (hl : cs.length = n) (hn : n ≤ 9223372036854775807) (hM : ¬ M g) : Sl M w (.slice (some ⟨g, 0, none⟩) n c) 1 n cs :=
  ⟨by omega, hn, _, _, rfl, fun _ => ⟨g, 0, rfl, hM, fun j v hj => by rw [Nat.zero_add]; exact h.cell' hj⟩⟩
theorem putWord_ok (x : Int) (w : World) : Fx Tryz.prog 219 [.int .u64 x] w (fun u w' => ∃ (g : Nat) (ps : List Value), u = .slice (some ⟨g, 0, none⟩) 8 8 ∧ Blk w' g 5 ps ∧ WW .u8 8 ps ∧ Grow w w') := by
  refine enter Tryz.func219 rfl rfl rfl _ (Pick.sub (l := [0]) (.cons rfl .nil)) ?_
  refine RK.seq ?_
  refine RK.region ?_
  refine RL.p rfl rfl ?_
  refine RL.done ?_
  refine RK.seq ?_
  refine RK.region ?_
  refine RL.op (.free rfl) rfl rfl (Does.mkSlice u39 i5 rfl (m := 8) rfl rfl (by omega) (by omega)) ?_
  rintro _ w2 ⟨g, rfl, hng⟩
  have hag := hng.at_
  refine RL.p rfl rfl ?_
  refine RL.done ?_
  iterate 2 refine RK.seq ?_
  refine RK.region ?_
  refine RL.p rfl rfl ?_
  refine RL.q (.free rfl) rfl rfl (Yld.lenSl u39 rfl) ?_
  refine RL.p rfl rfl ?_
  refine RL.done ?_
  refine RK.block ?_
  refine RK.loop (fun k : Nat => [(0, .int .u64 x), (3, .slice (some ⟨g, 0, none⟩) 8 8), (7, .int .i64 8), (8, .int .i64 (k : Int))]) (fun k w' => (∃ ps, WW .u8 8 ps ∧ Blk w' g 5 ps) ∧ Grow w w' ∧ k ≤ 8) (fun k => 8 - k) 0 ⟨rfl, rfl, rfl, rfl, trivial⟩ ⟨⟨_, WW.zero .u8 8, hng.blk⟩, hng.grow, Nat.zero_le _⟩ (fun k w5 hI ih => ?_)
  obtain ⟨⟨ps, hps, hB⟩, hg, hk⟩ := hI
  refine RK.seq ?_
  refine RK.region ?_
  refine RL.p rfl rfl ?_
  refine RL.done ?_
  refine RK.seq ?_
  first | refine RK.condD rfl (fun h9 => ?_) (fun h9 => ?_) | refine RK.condN rfl (fun h9 => ?_) (fun h9 => ?_) | refine RK.cond rfl (fun h9 => ?_) (fun h9 => ?_)
  · refine RK.skip ?_
    refine RK.seq ?_
    refine RK.block ?_
    refine RK.seq ?_
    refine RK.region ?_
    iterate 2 refine RL.p rfl rfl ?_
    refine RL.done ?_
    refine RK.region ?_
    iterate 5 refine RL.p rfl rfl ?_
    refine RL.re (d := 15) rfl rfl (congrArg (Value.int .i64) (by rw [wrap_i64 (by omega) (by omega)]; omega : _ = ((8 * k : Nat) : Int))) ?_
    refine RL.p rfl rfl ?_
    refine RL.re (d := 16) rfl rfl (sub_i64 (z := ((56 - 8 * k : Nat) : Int)) (by omega) (by omega) (by omega)) ?_
    refine RL.q (.free rfl) rfl rfl (Yld.shrI rfl rfl (by omega)) ?_
    refine RL.q (.free rfl) rfl rfl (Yld.convI Tryz.underlying31 Tryz.underlying5 rfl) ?_
    refine RL.q (.free rfl) rfl rfl (Yld.indexAddrN u39 i5 rfl rfl ((by omega : k < 8))) ?_
    refine RL.op' (.free rfl) rfl (Does.storeN i5 rfl rfl rfl rfl hB (by have := hps.1; omega)) ?_
    rintro _ w9 ⟨hb9, hm9, hs9⟩
    refine RL.done ?_
    refine RK.inBlock ?_
    refine RK.region ?_
    refine RL.p rfl rfl ?_
    refine RL.re (d := 20) rfl rfl (succ_i64 (by omega)) ?_
    refine RL.p rfl rfl ?_
    refine RL.done ?_
    exact RK.back (ih (k + 1) _ ⟨⟨_, hps.st (i := k) (by omega), hb9⟩, hg.then hm9 (fun x hx e => by have e' : x = g := e; omega), by omega⟩ (by omega)) ⟨rfl, rfl, rfl, rfl, trivial⟩
  · refine RK.exit rfl ?_
    refine RK.seq ?_
    refine RK.region ?_
    iterate 2 refine RL.p rfl rfl ?_
    refine RL.done ?_
    refine RK.ret_of Tryz.func219 (res1 rfl rfl) ?_ _
    exact ⟨_, rfl, g, ps, rfl, hB, hps, hg⟩
theorem genesis_ok (o : Int) (w : World) : Fx Tryz.prog 155 [.int .i64 o] w (fun u w' => ∃ cs, WW .u8 9 cs ∧ Row w' 5 1 u 9 cs ∧ Grow w w') := by
  refine enter Tryz.func155 rfl rfl rfl _ (Pick.sub (l := [0]) (.cons rfl .nil)) ?_
  refine RK.seq ?_
  refine RK.region ?_
  refine RL.p rfl rfl ?_
  refine RL.done ?_
  refine RK.seq ?_
  refine RK.region ?_
  refine RL.op (.free rfl) rfl rfl (Does.slice1 u39 i5 rfl rfl rfl rfl rfl) ?_
  rintro _ w1 ⟨b3, rfl, hn3⟩
  refine RL.p rfl rfl ?_
  refine RL.q (.free rfl) rfl rfl (Yld.convI Tryz.underlying3 Tryz.underlying31 rfl) ?_
  refine RL.op (.free rfl) rfl rfl (Does.call rfl e219 (putWord_ok _ _)) ?_
  rintro _ w2 ⟨g, ps, rfl, hB, hps, hg2⟩
  have hz2 := hg2.size
  have hz3 := hn3.size
  have ha3 := hn3.at_
  refine RL.op (.free rfl) rfl rfl (Does.append u39 i5 rfl rfl rfl rfl rfl ((Row.new hn3 1 1 rfl (by omega)).mod hg2 (fun _ _ h => h)) (slBlk hB hps.1 (by decide) (fun h => h)) (hps.one) (by omega)) ?_
  rintro u4 w4 ⟨hr4, hm4, hu4⟩
  refine RL.p rfl rfl ?_
  refine RL.done ?_
  refine RK.ret_of Tryz.func155 (res1 rfl rfl) ?_ _
  exact ⟨_, rfl, _, by
      have h1 : WW .u8 1 [.int .u8 0] := WW.zero .u8 1
      exact h1.app hps, hr4, (hn3.grow.trans hg2).then hm4 (fun x hx e => by simp [Value.ownBlock] at e; omega)⟩
structure ChAt (w : World) (p : Nat) (most : Int) (n : Nat) (v : Value) (cs ds : List Value) : Prop where
  blk : Blk w p 243 (.int .i64 most :: v :: ds)
  row : Row w 342 4 v n cs
  head : WW .u8 32 ds
theorem ChAt.grow {w w' : World} {p n : Nat} {most : Int} {v : Value} {cs ds : List Value} (h : ChAt w p most n v cs ds) (hg : Grow w w') : ChAt w' p most n v cs ds := ⟨h.blk.mod hg (fun h => h), h.row.mod hg (fun _ _ h => h), h.head⟩
theorem build32 (m : Int) (a0 a1 a2 a3 a4 a5 a6 a7 a8 a9 a10 a11 a12 a13 a14 a15 a16 a17 a18 a19 a20 a21 a22 a23 a24 a25 a26 a27 a28 a29 a30 a31 : Value) (w : World) : (Instr.build 243 #[(0, .int .i64 m), (2, .agg [a0, a1, a2, a3, a4, a5, a6, a7, a8, a9, a10, a11, a12, a13, a14, a15, a16, a17, a18, a19, a20, a21, a22, a23, a24, a25, a26, a27, a28, a29, a30, a31].toArray)]).run Tryz.prog w = .ok (.agg (.int .i64 m :: .slice none 0 0 :: [a0, a1, a2, a3, a4, a5, a6, a7, a8, a9, a10, a11, a12, a13, a14, a15, a16, a17, a18, a19, a20, a21, a22, a23, a24, a25, a26, a27, a28, a29, a30, a31]).toArray) w := by kernel_rfl
theorem buildCh (m : Int) (ds : List Value) (hd : WW .u8 32 ds) (w : World) : (Instr.build 243 #[(0, .int .i64 m), (2, .agg ds.toArray)]).run Tryz.prog w = .ok (.agg (.int .i64 m :: .slice none 0 0 :: ds).toArray) w := by
  have hl := hd.1
  clear hd
  match ds, hl with
  | [a0, a1, a2, a3, a4, a5, a6, a7, a8, a9, a10, a11, a12, a13, a14, a15, a16, a17, a18, a19, a20, a21, a22, a23, a24, a25, a26, a27, a28, a29, a30, a31], _ => exact build32 m a0 a1 a2 a3 a4 a5 a6 a7 a8 a9 a10 a11 a12 a13 a14 a15 a16 a17 a18 a19 a20 a21 a22 a23 a24 a25 a26 a27 a28 a29 a30 a31 w
theorem chainNew_ok (o most : Int) (w : World) (hK : KeysAt w) : Fx Tryz.prog 110 [.int .i64 o, .int .i64 most] w (fun u w' => ∃ p m ds, u = pp p ∧ w.heap.size ≤ p ∧ (1 ≤ most → most ≤ 200 → m = most) ∧ ChAt w' p m 0 (.slice none 0 0) [] ds ∧ Grow w w') := by
  refine enter Tryz.func110 rfl rfl rfl _ (Pick.sub (l := [0, 1]) (.cons rfl (.cons rfl .nil))) ?_
  refine RK.seq ?_
  refine RK.region ?_
  refine RL.p rfl rfl ?_
  refine RL.done ?_
  refine RK.seq ?_
  refine RK.region ?_
  refine RL.p rfl rfl ?_
  refine RL.q (.free rfl) rfl rfl (Yld.max2 rfl rfl) ?_
  refine RL.q (.free rfl) rfl rfl (Yld.min2 rfl rfl) ?_
  refine RL.p rfl rfl ?_
  refine RL.op (.free rfl) rfl rfl (Does.call rfl e155 (genesis_ok o _)) ?_
  rintro u1 w1 ⟨cs, hcs, hr1, hg1⟩
  refine RL.op (.free rfl) rfl rfl (Does.call rfl e154 (shaOf_ok 9 cs u1 _ (Sl.own hr1 (fun _ _ h => h)) hcs (by decide) (by decide) (hK.grow hg1))) ?_
  rintro _ w2 ⟨ds, hds, rfl, hg2⟩
  refine RL.q (.free rfl) rfl rfl (Yld.build rfl (buildCh _ ds hds)) ?_
  refine RL.op (.free rfl) rfl rfl (Does.box rfl) ?_
  rintro _ w3 ⟨b3, rfl, hn3⟩
  have hz1 := hg1.size
  have hz2 := hg2.size
  have ha3 := hn3.at_
  refine RL.p rfl rfl ?_
  refine RL.done ?_
  refine RK.ret_of Tryz.func110 (res1 rfl rfl) ?_ _
  exact ⟨_, rfl, b3, _, ds, rfl, by omega, fun h1 h2 => by rw [if_neg (show ¬ (0 : Int) > most by omega), if_neg (by omega)], ⟨hn3.blk, Row.nil _ _ _, hds⟩, (hg1.trans hg2).trans hn3.grow⟩
structure DoorAt (w : World) (p q : Nat) (owner now most : Int) (n : Nat) (v : Value) (cs ds : List Value) : Prop where
  blk : Blk w p 192 [.int .i64 owner, .int .u64 now, pp q]
  ch : ChAt w q most n v cs ds
theorem DoorAt.grow {w w' : World} {p q n : Nat} {owner now most : Int} {v : Value} {cs ds : List Value} (h : DoorAt w p q owner now most n v cs ds) (hg : Grow w w') : DoorAt w' p q owner now most n v cs ds := ⟨h.blk.mod hg (fun h => h), h.ch.grow hg⟩
theorem doorNew_ok (o most now : Int) (hn : now ≤ 1099511627776) (h1 : 1 ≤ most) (h2 : most ≤ 200) (w : World) (hK : KeysAt w) : Fx Tryz.prog 69 [.int .i64 o, .int .i64 most, .int .u64 now] w (fun u w' => ∃ p q ds, u = pp p ∧ w.heap.size ≤ p ∧ w.heap.size ≤ q ∧ DoorAt w' p q o now most 0 (.slice none 0 0) [] ds ∧ Grow w w') := by
  refine enter Tryz.func69 rfl rfl rfl _ (Pick.sub (l := [0, 1, 2]) (.cons rfl (.cons rfl (.cons rfl .nil)))) ?_
  refine RK.seq ?_
  refine RK.region ?_
  refine RL.p rfl rfl ?_
  refine RL.done ?_
  refine RK.seq ?_
  refine RK.region ?_
  iterate 2 refine RL.p rfl rfl ?_
  refine RL.q (.free rfl) rfl rfl (Yld.min2k rfl rfl) ?_
  iterate 2 refine RL.p rfl rfl ?_
  refine RL.op (.free rfl) rfl rfl (Does.call rfl e110 (chainNew_ok o most _ hK)) ?_
  rintro _ w1 ⟨q, m, ds, rfl, hq, hm, hc, hg1⟩
  obtain rfl := hm h1 h2
  refine RL.q (.free rfl) rfl rfl (Yld.build (v := .agg #[.int .i64 o, .int .u64 (if (1099511627776 : Int) < now then 1099511627776 else now), pp q]) rfl (fun w => by kernel_rfl)) ?_
  refine RL.op (.free rfl) rfl rfl (Does.box rfl) ?_
  rintro _ w2 ⟨b2, rfl, hn2⟩
  have hz1 := hg1.size
  have ha2 := hn2.at_
  refine RL.p rfl rfl ?_
  refine RL.done ?_
  refine RK.ret_of Tryz.func69 (res1 rfl rfl) ?_ _
  exact ⟨_, rfl, b2, q, ds, rfl, by omega, hq, ⟨by
      have h : Blk w2 b2 192 [.int .i64 o, .int .u64 (if (1099511627776 : Int) < now then 1099511627776 else now), pp q] := hn2.blk
      rwa [if_neg (by omega)] at h, hc.grow hn2.grow⟩, hg1.trans hn2.grow⟩
theorem doorTick_ok {w : World} {p q n : Nat} {owner now most : Int} {v : Value} {cs ds : List Value} (h : DoorAt w p q owner now most n v cs ds) (t : Int) (h1 : now < t) (h2 : t ≤ 1099511627776) : Fx Tryz.prog 87 [pp p, .int .u64 t] w (fun u w' => u = .bool true ∧ DoorAt w' p q owner t most n v cs ds ∧ Mod (· = p) w w') := by
  refine enter Tryz.func87 rfl rfl rfl _ (Pick.sub (l := [0, 1]) (.cons rfl (.cons rfl .nil))) ?_
  refine RK.seq ?_
  refine RK.region ?_
  refine RL.p rfl rfl ?_
  refine RL.done ?_
  iterate 2 refine RK.seq ?_
  refine RK.region ?_
  iterate 3 refine RL.p rfl rfl ?_
  refine RL.q (.free rfl) rfl rfl (Yld.fieldAddr fo192_1 rfl) ?_
  refine RL.q (.free rfl) rfl rfl (Yld.load p31 rfl (at1 (h.blk.cell rfl))) ?_
  iterate 2 refine RL.p rfl rfl ?_
  refine RL.knownF (d := 11) rfl rfl (decide_eq_false (by omega)) ?_
  iterate 2 refine RL.q (.yes rfl rfl rfl) rfl rfl (Yld.pure rfl) ?_
  refine RL.p rfl rfl ?_
  refine RL.done ?_
  refine RK.condF (hcF rfl (decide_eq_false (by omega))) ?_
  refine RK.skip ?_
  refine RK.seq ?_
  refine RK.region ?_
  iterate 3 refine RL.p rfl rfl ?_
  refine RL.q (.free rfl) rfl rfl (Yld.fieldAddr fo192_1 rfl) ?_
  refine RL.op' (.free rfl) rfl (Does.storeN (o := 1) i31 rfl rfl rfl rfl h.blk (Nat.le_of_ble_eq_true rfl)) ?_
  rintro _ w1 ⟨hb1, hm1, hs1⟩
  refine RL.done ?_
  refine RK.seq ?_
  refine RK.region ?_
  refine RL.p rfl rfl ?_
  refine RL.done ?_
  refine RK.ret_of Tryz.func87 (res1 rfl rfl) ?_ _
  exact ⟨_, rfl, rfl, ⟨hb1, ⟨h.ch.blk.mod hm1 (fun e => h.ch.blk.ty.ne h.blk.ty rfl e), h.ch.row.mod hm1 (fun b e1 e2 => (h.ch.row.ty e1).ne h.blk.ty rfl e2), h.ch.head⟩⟩, hm1⟩
end Go.Proofs.YtcndimkkojdflaaGreatDoor
set_option linter.unusedVariables false
set_option linter.unusedSimpArgs false
set_option maxHeartbeats 6400000
set_option maxRecDepth 100000
namespace Go.Proofs.YtcndimkkojdflaaGreatDoor
open Go Go.X
@[reducible] def pl0 : List Value := placeC 0 true false (reqC ⟨#[]⟩ 0) (-1) true (respC 0 0 0 5) false 0
@[reducible] def pl1 : List Value := placeC 1 false true (reqC root 1) 0 true (respC 0 1 1 0) true 5
@[reducible] def pl2 : List Value := placeC 2 false false (reqC ⟨#[]⟩ 0) (-1) true (respC 1 0 0 0) false 5
end Go.Proofs.YtcndimkkojdflaaGreatDoor
set_option linter.unusedVariables false
set_option linter.unusedSimpArgs false
set_option maxHeartbeats 6400000
set_option maxRecDepth 100000
namespace Go.Proofs.YtcndimkkojdflaaGreatDoor
open Go Go.X
@[reducible] def pl : Nat → List Value
  | 0 => pl0
  | 1 => pl1
  | _ => pl2
section
variable {w : World} {p m : Nat} {vi va : Value}
end
end Go.Proofs.YtcndimkkojdflaaGreatDoor
set_option linter.unusedVariables false
set_option linter.unusedSimpArgs false
set_option maxHeartbeats 400000
set_option maxRecDepth 100000
namespace Go.Proofs.YtcndimkkojdflaaGreatDoor
open Go Go.X
section
variable {α : Type}
def pos (lt : α → α → Bool) (x : α) (L : List α) : Nat := L.length - (L.reverse.takeWhile (lt x)).length
theorem SetAt.of : ∀ {l : List Value} {i : Nat} {v : Value}, i < l.length → SetAt l i v (l.set i v)
  | u :: l, 0, v, _ => .z
  | u :: l, i + 1, v, h => .s (SetAt.of (by simpa using h))
end
end Go.Proofs.YtcndimkkojdflaaGreatDoor
set_option linter.unusedVariables false
set_option linter.unusedSimpArgs false
set_option maxHeartbeats 400000
set_option maxRecDepth 100000
namespace Go.Proofs.YtcndimkkojdflaaGreatDoor
open Go Go.X
end Go.Proofs.YtcndimkkojdflaaGreatDoor
set_option linter.unusedVariables false
set_option linter.unusedSimpArgs false
set_option maxHeartbeats 400000
set_option maxRecDepth 100000
namespace Go.Proofs.YtcndimkkojdflaaGreatDoor
open Go Go.X
theorem cloneL_ok (M : Nat → Prop) (ls : List Lab) (v : Value) (w : World) (hv : SlL M w v ls) (hb : ls.length ≤ 1000) :
    Fx Tryz.prog 318 [v] w (fun u w' => Row w' 333 2 u ls.length (ls.flatMap labC) ∧ Fresh w.heap.size u ∧ Grow w w') := by
  obtain ⟨ad, c, b, o, rfl, hf⟩ := hv.open
  refine enter Tryz.func318 rfl rfl rfl _ (Pick.sub (l := [0]) (.cons rfl .nil)) ?_
  refine RK.seq ?_
  refine RK.region ?_
  refine RL.p rfl rfl ?_
  refine RL.done ?_
  iterate 2 refine RK.seq ?_
  refine RK.region ?_
  refine RL.p rfl rfl ?_
  refine RL.q (.free rfl) rfl rfl (Yld.eqNil u122 rfl rfl) ?_
  refine RL.done ?_
  first | refine RK.condD rfl (fun h4 => ?_) (fun h4 => ?_) | refine RK.condN rfl (fun h4 => ?_) (fun h4 => ?_) | refine RK.cond rfl (fun h4 => ?_) (fun h4 => ?_)
  · refine RK.seq ?_
    refine RK.region ?_
    refine RL.p rfl rfl ?_
    refine RL.done ?_
    refine RK.ret_of Tryz.func318 (res1 rfl rfl) ?_ _
    exact ⟨_, rfl, by cases ad with | none => (have h0 : ls.length = 0 := by (rcases Nat.eq_zero_or_pos ls.length with h | h; exact h; exact absurd (hf h).1 (by simp))); have : ls = [] := List.eq_nil_of_length_eq_zero h0; subst this; exact ⟨Row.nil _ _ _, fun b hb => by simp [Value.ownBlock] at hb, Mod.refl _ _⟩ | some a => simp at h4⟩
  · refine RK.skip ?_
    refine RK.seq ?_
    refine RK.region ?_
    refine RL.op (.free rfl) rfl rfl (Does.slice0 u122 i333) ?_
    rintro _ w1 ⟨b1, rfl, hn1⟩
    refine RL.p rfl rfl ?_
    refine RL.op (.free rfl) rfl rfl (Does.append u122 i333 rfl rfl rfl rfl rfl (Row.new hn1 2 0 rfl (by omega)) ((hv.mod (Mod.any' hn1.grow)).noM) (allOne_labs ls) (by omega)) ?_
    rintro u w2 ⟨hr, hm, hu⟩
    refine RL.p rfl rfl ?_
    refine RL.done ?_
    refine RK.ret_of Tryz.func318 (res1 rfl rfl) ?_ _
    exact ⟨_, rfl, by simpa using hr, fun b hb => by rcases hu with hu | hu <;> rw [hu] at hb <;> simp [Value.ownBlock] at hb <;> (have := hn1.at_; have := hn1.size; omega), hn1.grow.then hm (fun x hx e => by simp [Value.ownBlock] at e; have := hn1.at_; omega)⟩
structure Al where
  id : Int
  ls : List Lab
  val : Nat
  v : Value
def alC (a : Al) : List Value := [.int .i64 a.id, a.v, .float .f64 a.val]
theorem alC_len (a : Al) : (alC a).length = 3 := rfl
def findS (l : List (List Lab)) (ls : List Lab) : Option Nat := l.findIdx? fun x => decide (x = ls)
def optI : Option Nat → Int
  | some i => i
  | none => -1
end Go.Proofs.YtcndimkkojdflaaGreatDoor
set_option linter.unusedVariables false
set_option linter.unusedSimpArgs false
set_option maxHeartbeats 400000
set_option maxRecDepth 100000
namespace Go.Proofs.YtcndimkkojdflaaGreatDoor
open Go Go.X
abbrev LabK := ByteArray × ByteArray
def labK (x : Lab) : LabK := (x.name, x.value)
structure IdxAt (M : Nat → Prop) (w : World) (ix mh mr : Nat) (has : List (Int × List Lab)) (rows : List (LabK × List Int)) : Prop where
  blk : Blk w ix 376 [.map (some mh), .map (some mr)]
  ne : mh ≠ mr
  hl : ∃ l : List (Int × (List Lab × Value)), l.map (fun t => (t.1, t.2.1)) = has ∧ MapAt (Value.int .i64) w mh (l.map fun t => (t.1, t.2.2)) ∧ ∀ t ∈ l, SlL M w t.2.2 t.2.1
  rl : ∃ r : List (LabK × (List Int × Value)), r.map (fun t => (t.1, t.2.1)) = rows ∧ MapAt pairV w mr (r.map fun t => (t.1, t.2.2)) ∧ ∀ t ∈ r, Sl M w t.2.2 1 t.2.1.length (ints t.2.1)
theorem IdxAt.mod {M M0 : Nat → Prop} {w w' : World} {ix mh mr : Nat} {has : List (Int × List Lab)} {rows : List (LabK × List Int)} (h : IdxAt M w ix mh mr has rows) (hm : Mod M0 w w') (h0 : ∀ b, b < w.heap.size → M0 b → M b) (n1 : ¬ M0 ix) (n2 : ¬ M0 mh) (n3 : ¬ M0 mr) : IdxAt M w' ix mh mr has rows := by
  obtain ⟨l, hl1, hl2, hl3⟩ := h.hl
  obtain ⟨r, hr1, hr2, hr3⟩ := h.rl
  exact ⟨h.blk.mod hm n1, h.ne, ⟨l, hl1, hl2.mod hm n2, fun t ht => (hl3 t ht).mod (hm.mono h0)⟩, ⟨r, hr1, hr2.mod hm n3, fun t ht => (hr3 t ht).mod (hm.mono h0)⟩⟩
theorem IdxAt.off {M M' : Nat → Prop} {w : World} {ix mh mr : Nat} {has : List (Int × List Lab)} {rows : List (LabK × List Int)} (h : IdxAt M w ix mh mr has rows) (hM : ∀ b, b < w.heap.size → M' b → M b) : IdxAt M' w ix mh mr has rows := by
  obtain ⟨l, hl1, hl2, hl3⟩ := h.hl
  obtain ⟨r, hr1, hr2, hr3⟩ := h.rl
  exact ⟨h.blk, h.ne, ⟨l, hl1, hl2, fun t ht => (hl3 t ht).off (by omega) hM⟩, ⟨r, hr1, hr2, fun t ht => (hr3 t ht).off (by omega) hM⟩⟩
theorem idxLen_ok (M : Nat → Prop) (w : World) (ix mh mr : Nat) (has : List (Int × List Lab)) (rows : List (LabK × List Int)) (h : IdxAt M w ix mh mr has rows) : Fx Tryz.prog 222 [pp ix] w (fun u w' => u = .int .i64 rows.length ∧ w = w') := by
  obtain ⟨r, hr1, hr2, hr3⟩ := h.rl
  refine enter Tryz.func222 rfl rfl rfl _ (Pick.sub (l := [0]) (.cons rfl .nil)) ?_
  refine RK.seq ?_
  refine RK.region ?_
  refine RL.p rfl rfl ?_
  refine RL.done ?_
  refine RK.seq ?_
  refine RK.region ?_
  iterate 2 refine RL.p rfl rfl ?_
  refine RL.q (.free rfl) rfl rfl (Yld.fieldAddr fo376_1 rfl) ?_
  refine RL.q (.free rfl) rfl rfl (Yld.load p374 rfl (at1 (h.blk.cell rfl))) ?_
  refine RL.q (.free rfl) rfl rfl (Yld.lenMap Tryz.underlying374 rfl (fun w' e => e ▸ hr2)) ?_
  refine RL.p rfl rfl ?_
  refine RL.done ?_
  refine RK.ret_of Tryz.func222 (res1 rfl rfl) ?_ _
  exact ⟨_, rfl, by rw [← hr1]; simp, rfl⟩
end Go.Proofs.YtcndimkkojdflaaGreatDoor
set_option linter.unusedVariables false
set_option linter.unusedSimpArgs false
set_option maxHeartbeats 400000
set_option maxRecDepth 100000
namespace Go.Proofs.YtcndimkkojdflaaGreatDoor
open Go Go.X
def addRow1 (id : Int) (r : List (LabK × List Int)) (x : Lab) : List (LabK × List Int) := putM r (labK x) (mkRow ((lookM r (labK x)).getD [] ++ [id]))
def addRows (rows : List (LabK × List Int)) (id : Int) (ls : List Lab) : List (LabK × List Int) := ls.foldl (addRow1 id) rows
theorem addRows_snoc (rows : List (LabK × List Int)) (id : Int) (ls : List Lab) (x : Lab) : addRows rows id (ls ++ [x]) = addRow1 id (addRows rows id ls) x := by simp [addRows]
theorem look_bound {r : List (LabK × List Int)} {B : Nat} (h : ∀ t ∈ r, t.2.length ≤ B) (k : LabK) : ((lookM r k).getD []).length ≤ B := by
  cases hl : lookM r k with
  | none => simp
  | some a => exact h _ (lookM_mem hl)
theorem addRow1_bound {r : List (LabK × List Int)} {B : Nat} (h : ∀ t ∈ r, t.2.length ≤ B) (id : Int) (x : Lab) : ∀ t ∈ addRow1 id r x, t.2.length ≤ B + 1 := by
  intro t ht
  rcases mem_putM ht with h1 | rfl
  · have := h t h1; omega
  · have := mkRow_le ((lookM r (labK x)).getD [] ++ [id])
    have h2 := look_bound h (labK x)
    simp at this ⊢
    omega
theorem addRows_bound {r : List (LabK × List Int)} {B : Nat} (h : ∀ t ∈ r, t.2.length ≤ B) (id : Int) (ls : List Lab) : ∀ t ∈ addRows r id ls, t.2.length ≤ B + ls.length := by
  induction ls generalizing r B with
  | nil => exact h
  | cons x ls ih =>
    intro t ht
    have := ih (addRow1_bound h id x) t ht
    simp; omega
theorem isS_len {ls : List Lab} (h : isS ls = true) : 1 ≤ ls.length ∧ ls.length ≤ 6 := by
  simp only [isS, Bool.and_eq_true, decide_eq_true_eq] at h
  exact h.1
theorem add_ok (M : Nat → Prop) (w : World) (ix mh mr : Nat) (has : List (Int × List Lab)) (rows : List (LabK × List Int)) (h : IdxAt M w ix mh mr has rows) (hMh : M mh) (hMr : M mr) (hM : ∀ b, M b → b < w.heap.size) (id : Int) (ls : List Lab) (v : Value) (hv : SlL M w v ls)
    (hnew : lookM has id = none) (his : isS ls = true) (hB : ∀ t ∈ rows, t.2.length ≤ 100000000000) :
    Fx Tryz.prog 317 [pp ix, .int .i64 id, v] w (fun u w' => u = .bool true ∧ IdxAt M w' ix mh mr (putM has id ls) (addRows rows id ls) ∧ Mod (fun b => b = mh ∨ b = mr) w w') := by
  obtain ⟨ad, c, rfl⟩ := hv.shape
  obtain ⟨l, hl1, hl2, hl3⟩ := h.hl
  have hlk : lookM (l.map fun t => (t.1, t.2.2)) id = none := by
    have e1 := lookM_map (fun a : List Lab × Value => a.1) id l
    have e2 := lookM_map (fun a : List Lab × Value => a.2) id l
    rw [hl1, hnew] at e1
    have : lookM l id = none := by cases hh : lookM l id with
      | none => rfl
      | some a => rw [hh] at e1; simp at e1
    rw [this] at e2
    exact e2
  obtain ⟨h61, h66⟩ := isS_len his
  have n1 : ix ≠ mh := h.blk.ty.nem hl2.mp
  have n2 : ix ≠ mr := by obtain ⟨r, _, hr2, _⟩ := h.rl; exact h.blk.ty.nem hr2.mp
  refine enter Tryz.func317 rfl rfl rfl _ (Pick.sub (l := [0, 1, 2]) (.cons rfl (.cons rfl (.cons rfl .nil)))) ?_
  refine RK.seq ?_
  refine RK.region ?_
  refine RL.p rfl rfl ?_
  refine RL.done ?_
  iterate 2 refine RK.seq ?_
  refine RK.region ?_
  iterate 2 refine RL.p rfl rfl ?_
  refine RL.q (.free rfl) rfl rfl (Yld.fieldAddr fo376_0 rfl) ?_
  refine RL.q (.free rfl) rfl rfl (Yld.load p373 rfl (at1 (h.blk.cell rfl))) ?_
  refine RL.p rfl rfl ?_
  refine RL.q (.free rfl) rfl rfl (Yld.lookup Tryz.underlying373 key3 i122 rfl rfl (fun w' e => e ▸ hl2)) ?_
  refine RL.p rfl rfl ?_
  refine RL.re (d := 11) rfl rfl (show _ = Value.tuple #[.slice none 0 0, .bool false] by rw [hlk]; rfl) ?_
  iterate 4 refine RL.p rfl rfl ?_
  refine RL.done ?_
  refine RK.seq ?_
  refine RK.region ?_
  iterate 2 refine RL.p rfl rfl ?_
  refine RL.knownF (d := 21) rfl rfl (rfl) ?_
  refine RL.q (.yes rfl rfl rfl) rfl rfl (Yld.pure rfl) ?_
  refine RL.op (.yes rfl rfl rfl) rfl rfl (Does.call rfl e232 (is_ok M ls _ _ hv)) ?_
  rintro _ w2 ⟨rfl, hg2⟩
  refine RL.q (.yes rfl rfl rfl) rfl rfl (Yld.pure rfl) ?_
  refine RL.p rfl rfl ?_
  refine RL.done ?_
  refine RK.condF (hcF rfl (by rw [his]; rfl)) ?_
  refine RK.skip ?_
  refine RK.seq ?_
  refine RK.drawM No [(0, false), (1, false), (2, false), (3, false), (4, false), (5, false), (6, true), (7, true)] [7] mixed (by kernel_rfl) ?_
  iterate 2 refine DL.p rfl rfl rfl ?_
  refine DL.qf rfl (.free rfl) rfl rfl (Yld.fieldAddr fo376_0 rfl) ?_
  refine DL.q rfl (.free rfl) rfl rfl rfl (Yld.load p373 rfl (atM ((h.blk.mod hg2 (fun h => h)).cell rfl) (fun h => h))) (Mod.drew _ _) ?_
  iterate 2 refine DL.p rfl rfl rfl ?_
  refine DL.op rfl (.free rfl) rfl rfl (Does.call rfl e318 (cloneL_ok M ls _ _ ((hv.mod (Mod.any' hg2)).mod (Mod.drew M _)) (by omega))) ?_
  rintro u3 w3 ⟨hr3, hf3, hg3⟩
  refine ⟨(Mod.drew _ _).trans hg3, ?_⟩
  obtain ⟨ad3, c3, rfl⟩ := hr3.slice
  have hg03 : Grow w w3 := (hg2.trans (Mod.drew _ _)).trans hg3
  refine DL.opT rfl (.free rfl) rfl rfl (Does.mapUpdate Tryz.underlying373 key3 rfl rfl rfl (hl2.mod hg03 (fun h => h))) ?_
  rintro _ w4 ⟨hm4, hmod4, hs4⟩
  have hmod04 : Mod (· = mh) w w4 := (Mod.any' hg03).trans hmod4
  have hu3 : SlL M w4 (.slice ad3 ls.length c3) ls := (Sl.own hr3 (fun k e hk => by have h1 := hf3 k e; have h2 := hM k hk; have h3 := hg2.size; simp only [World.drew] at h1; omega)).mod (hmod4.mono fun b _ e => e ▸ hMh)
  have hidx4 : IdxAt M w4 ix mh mr (putM has id ls) rows := by
      obtain ⟨r, hr1, hr2, hr3⟩ := h.rl
      refine ⟨h.blk.mod hmod04 n1, h.ne, ⟨putM l id (ls, .slice ad3 ls.length c3), ?_, ?_, fun t ht => ?_⟩, ⟨r, hr1, hr2.mod hmod04 h.ne.symm, fun t ht => (hr3 t ht).mod (hmod04.mono fun b _ e => e ▸ hMh)⟩⟩
      · rw [← hl1]; exact (putM_map (fun a : List Lab × Value => a.1) id (ls, .slice ad3 ls.length c3) l).symm
      · rw [← putM_map (fun a : List Lab × Value => a.2) id (ls, .slice ad3 ls.length c3) l]; exact hm4
      · rcases mem_putM ht with h1 | rfl
        · exact (hl3 t h1).mod (hmod04.mono fun b _ e => e ▸ hMh)
        · exact hu3
  have hmodA : Mod (fun b => b = mh ∨ b = mr) w w4 := hmod04.mono fun b _ e => .inl e
  refine DL.done ?_
  iterate 2 refine RK.seq ?_
  refine RK.region ?_
  refine RL.p rfl rfl ?_
  refine RL.q (.free rfl) rfl rfl (Yld.lenSl u122 rfl) ?_
  refine RL.p rfl rfl ?_
  refine RL.done ?_
  refine RK.block ?_
  refine RK.loop (fun k : Nat => [(0, pp ix), (1, .int .i64 id), (33, .slice ad ls.length c), (34, .int .i64 ls.length), (35, .int .i64 k)]) (fun k w' => IdxAt M w' ix mh mr (putM has id ls) (addRows rows id (ls.take k)) ∧ Mod (fun b => b = mh ∨ b = mr) w w' ∧ k ≤ ls.length) (fun k => ls.length - k) 0 ⟨rfl, rfl, rfl, rfl, rfl, trivial⟩ ⟨by simpa [addRows] using hidx4, hmodA, by omega⟩ (fun k w' hI ih => ?_)
  obtain ⟨hi, hmod, hk⟩ := hI
  refine RK.seq ?_
  refine RK.region ?_
  refine RL.p rfl rfl ?_
  refine RL.done ?_
  refine RK.seq ?_
  first | refine RK.condD rfl (fun h36 => ?_) (fun h36 => ?_) | refine RK.condN rfl (fun h36 => ?_) (fun h36 => ?_) | refine RK.cond rfl (fun h36 => ?_) (fun h36 => ?_)
  · obtain ⟨x, hx⟩ : ∃ x, ls[k]? = some x := ⟨ls[k]'(by omega), List.getElem?_eq_getElem (by omega)⟩
    obtain ⟨bx, ox, cx, he, hbM, hkl, hcell⟩ := hv.elem labC_len hx
    cases he
    obtain ⟨r, hr1, hr2, hr3⟩ := hi.rl
    have hmodM : Mod M w w' := hmod.mono fun b _ e => by rcases e with rfl | rfl <;> assumption
    have htk : ls.take (k + 1) = ls.take k ++ [x] := by rw [List.take_succ_eq_append_getElem (by omega)]; congr 2; exact (List.getElem?_eq_some_iff.1 hx).2
    have hbnd : ((lookM (addRows rows id (ls.take k)) (labK x)).getD []).length ≤ 100000000000 + 6 := Nat.le_trans (look_bound (addRows_bound hB id (ls.take k)) (labK x)) (by simp; omega)
    obtain ⟨vv, hval, hsl⟩ : ∃ vv, (lookM (r.map fun t => (t.1, t.2.2)) (labK x)).getD (.slice none 0 0) = vv ∧ Sl M w' vv 1 ((lookM (addRows rows id (ls.take k)) (labK x)).getD []).length (ints ((lookM (addRows rows id (ls.take k)) (labK x)).getD [])) := by
        have e1 := lookM_map (fun a : List Int × Value => a.1) (labK x) r
        have e2 := lookM_map (fun a : List Int × Value => a.2) (labK x) r
        rw [hr1] at e1
        rw [e1, e2]
        cases hh : lookM r (labK x) with
        | none => exact ⟨_, rfl, Sl.nil _ _ _ _ _⟩
        | some a => exact ⟨_, rfl, hr3 _ (lookM_mem hh)⟩
    refine RK.skip ?_
    refine RK.seq ?_
    refine RK.block ?_
    refine RK.seq ?_
    refine RK.region ?_
    refine RL.q (.free rfl) rfl rfl (Yld.indexAddrN u122 i333 rfl rfl (by omega)) ?_
    refine RL.q (.free rfl) rfl rfl (Yld.loadN (cs := [.string x.name, .string x.value]) a333 rfl (atN (fun j u hj => hmodM.cell (hcell j u hj) hbM))) ?_
    refine RL.op (.free rfl) rfl rfl (Does.alloc i333) ?_
    rintro _ w5 ⟨b1, rfl, hn1⟩
    refine RL.op' (.free rfl) rfl (Does.storeN i333 rfl rfl rfl rfl hn1.blk (Nat.le_refl 2)) ?_
    rintro _ w6 ⟨hb6, hm6, _⟩
    have hB6 : Blk w6 b1 333 [.string x.name, .string x.value] := hb6
    have hg6 : Grow w' w6 := hn1.grow.then hm6 (fun y hy e => by have e' : y = b1 := e; have := hn1.at_; omega)
    refine RL.done ?_
    refine RK.drawM No [(0, false), (1, false), (2, false), (3, false), (4, false), (5, false), (6, false), (7, false), (8, false), (9, false), (10, false), (11, false), (12, true), (13, true)] [13] mixed (by kernel_rfl) ?_
    iterate 2 refine DL.p rfl rfl rfl ?_
    refine DL.qf rfl (.free rfl) rfl rfl (Yld.fieldAddr fo376_1 rfl) ?_
    refine DL.q rfl (.free rfl) rfl rfl rfl (Yld.load p374 rfl (atM ((hi.blk.mod hg6 (fun h => h)).cell rfl) (fun h => h))) (Mod.drew _ _) ?_
    refine DL.q rfl (.free rfl) rfl rfl rfl (Yld.loadN (cs := [.string x.name, .string x.value]) a333 rfl (atNM (fun j u hj => by rw [Nat.zero_add]; exact hB6.cell' hj) (fun h => h))) (Mod.drew _ _) ?_
    iterate 2 refine DL.p rfl rfl rfl ?_
    refine DL.qf rfl (.free rfl) rfl rfl (Yld.fieldAddr fo376_1 rfl) ?_
    refine DL.q rfl (.free rfl) rfl rfl rfl (Yld.load p374 rfl (atM ((hi.blk.mod hg6 (fun h => h)).cell rfl) (fun h => h))) (Mod.drew _ _) ?_
    refine DL.q rfl (.free rfl) rfl rfl rfl (Yld.loadN (cs := [.string x.name, .string x.value]) a333 rfl (atNM (fun j u hj => by rw [Nat.zero_add]; exact hB6.cell' hj) (fun h => h))) (Mod.drew _ _) ?_
    refine DL.q rfl (.free rfl) rfl rfl rfl (Yld.lookup Tryz.underlying374 key333 i63 (k := labK x) rfl rfl (fun w' hm => (hr2.mod hg6 (fun h => h)).mod hm (fun h => h))) (Mod.drew _ _) ?_
    refine DL.re (d := 49) rfl rfl (hval) ?_
    refine DL.p rfl rfl rfl ?_
    refine DL.op rfl (.free rfl) rfl rfl (Does.call rfl e313 (put_ok M _ id vv _ ((hsl.mod (Mod.any' hg6)).mod (Mod.drew M _)) (by omega))) ?_
    rintro u7 w7 ⟨hr7, hf7, hg7⟩
    refine ⟨(Mod.drew _ _).trans hg7, ?_⟩
    have hg07 : Grow w' w7 := (hg6.trans (Mod.drew _ _)).trans hg7
    refine DL.opT rfl (.free rfl) rfl rfl (Does.mapUpdate Tryz.underlying374 key333 (k := labK x) rfl rfl rfl (hr2.mod hg07 (fun h => h))) ?_
    rintro _ w8 ⟨hm8, hmod8, hs8⟩
    have hmodk : Mod (· = mr) w' w8 := (Mod.any' hg07).trans hmod8
    have hu7 : Sl M w8 u7 1 (mkRow ((lookM (addRows rows id (ls.take k)) (labK x)).getD [] ++ [id])).length (ints (mkRow ((lookM (addRows rows id (ls.take k)) (labK x)).getD [] ++ [id]))) := (Sl.own hr7 (fun b e hb => by have h1 := hf7 b e; have h2 := hM b hb; have h3 := hg6.size; have h4 := hmod.size; simp only [World.drew] at h1; omega)).mod (hmod8.mono fun b _ e => e ▸ hMr)
    have hidx8 : IdxAt M w8 ix mh mr (putM has id ls) (addRows rows id (ls.take (k + 1))) := by
        obtain ⟨l', hl1', hl2', hl3'⟩ := hi.hl
        refine ⟨hi.blk.mod hmodk n2, hi.ne, ⟨l', hl1', hl2'.mod hmodk hi.ne, fun t ht => (hl3' t ht).mod (hmodk.mono fun b _ e => e ▸ hMr)⟩, ⟨putM r (labK x) (mkRow ((lookM (addRows rows id (ls.take k)) (labK x)).getD [] ++ [id]), u7), ?_, ?_, fun t ht => ?_⟩⟩
        · rw [htk, addRows_snoc, addRow1, ← hr1]; exact (putM_map (fun a : List Int × Value => a.1) (labK x) (_, u7) r).symm
        · rw [← putM_map (fun a : List Int × Value => a.2) (labK x) (_, u7) r]; exact hm8
        · rcases mem_putM ht with h1 | rfl
          · exact (hr3 t h1).mod (hmodk.mono fun b _ e => e ▸ hMr)
          · exact hu7
    refine DL.done ?_
    refine RK.inBlock ?_
    refine RK.region ?_
    refine RL.p rfl rfl ?_
    refine RL.re (d := 52) rfl rfl (succ_i64 (by omega)) ?_
    refine RL.p rfl rfl ?_
    refine RL.done ?_
    exact RK.back (ih (k + 1) _ ⟨hidx8, hmod.trans (hmodk.mono fun b _ e => .inr e), by omega⟩ (by omega)) ⟨rfl, rfl, rfl, rfl, rfl, trivial⟩
  · have ek : ls.take k = ls := List.take_of_length_le (by omega)
    rw [ek] at hi
    refine RK.exit rfl ?_
    refine RK.seq ?_
    refine RK.region ?_
    refine RL.p rfl rfl ?_
    refine RL.done ?_
    refine RK.ret_of Tryz.func317 (res1 rfl rfl) ?_ _
    exact ⟨_, rfl, rfl, hi, hmod⟩
end Go.Proofs.YtcndimkkojdflaaGreatDoor
set_option linter.unusedVariables false
set_option linter.unusedSimpArgs false
set_option maxHeartbeats 6400000
set_option maxRecDepth 100000
namespace Go.Proofs.YtcndimkkojdflaaGreatDoor
open Go Go.X
structure Im where
  t : Bool
  n : Nat
  v : Value
  bs : List UInt8
def Im.it (x : Im) : It := (x.t, x.n, x.v)
@[reducible] def imC (x : Im) : List Value := [.bool x.t, .int .u64 (x.n : Int), x.v]
structure LgN (n : Nat) (w : World) (vi va : Value) (ims : List Im) (qs : List Value) : Prop where
  it : Sl No w vi 3 ims.length (ims.flatMap imC)
  an : Sl No w va 1 qs.length qs
  il : ims.length = n
  ql : qs.length = n
  n3 : n ≤ 3
  raw : ∀ x ∈ ims, Sl No w x.v 1 x.bs.length (bytesV x.bs)
  i0 : 0 < n → ims[0]? = some ⟨true, 5, .slice none 0 0, []⟩
  i1 : 1 < n → ∃ a c, ims[1]? = some ⟨false, 0, .slice a 6 c, [4, 114, 111, 111, 116, 1]⟩ ∧ 6 ≤ c
  i2 : 2 < n → ∃ a c, ims[2]? = some ⟨false, 0, .slice a 1 c, [9]⟩ ∧ 1 ≤ c
  q0 : 0 < n → ∃ a c, qs[0]? = some (.slice a 3 c) ∧ 3 ≤ c ∧ Sl No w (.slice a 3 c) 1 3 (bytesV [0, 0, 5])
  q1 : 1 < n → ∃ a c, qs[1]? = some (.slice a 3 c) ∧ 3 ≤ c ∧ Sl No w (.slice a 3 c) 1 3 (bytesV [0, 1, 1])
  q2 : 2 < n → ∃ a c, qs[2]? = some (.slice a 1 c) ∧ 1 ≤ c ∧ Sl No w (.slice a 1 c) 1 1 (bytesV [1])
theorem LgN.grow {n : Nat} {w w' : World} {vi va : Value} {ims : List Im} {qs : List Value} (h : LgN n w vi va ims qs) (hg : Grow w w') : LgN n w' vi va ims qs :=
  ⟨h.it.mod hg, h.an.mod hg, h.il, h.ql, h.n3, fun x hx => (h.raw x hx).mod hg, h.i0, h.i1, h.i2, fun e => by obtain ⟨a, c, h1, h2, h3⟩ := h.q0 e; exact ⟨a, c, h1, h2, h3.mod hg⟩, fun e => by obtain ⟨a, c, h1, h2, h3⟩ := h.q1 e; exact ⟨a, c, h1, h2, h3.mod hg⟩, fun e => by obtain ⟨a, c, h1, h2, h3⟩ := h.q2 e; exact ⟨a, c, h1, h2, h3.mod hg⟩⟩
end Go.Proofs.YtcndimkkojdflaaGreatDoor
set_option linter.unusedVariables false
set_option linter.unusedSimpArgs false
set_option maxHeartbeats 400000
namespace Go.Rex
inductive Rx where
  | set (s : List Nat)
  | node (op : Nat) (l : Rx)
  | nil
  | cons (x l : Rx)
  deriving DecidableEq, Inhabited
inductive Rt (R : Nat → Nat → Prop) : Nat → Nat → Prop where
  | refl (i : Nat) : Rt R i i
  | step {i k j : Nat} : R i k → Rt R k j → Rt R i j
theorem Rt.trans {R : Nat → Nat → Prop} {i k j : Nat} (h1 : Rt R i k) (h2 : Rt R k j) : Rt R i j := by
  induction h1 with
  | refl => exact h2
  | step h _ ih => exact .step h (ih h2)
theorem Rt.snoc {R : Nat → Nat → Prop} {i k j : Nat} (h1 : Rt R i k) (h2 : R k j) : Rt R i j := h1.trans (.step h2 (.refl _))
def Lg (H : List Nat → Nat → Prop) : Rx → Bool → Nat → Nat → Prop
  | .set s, _, i, j => H s i ∧ j = i + 1
  | .node op l, _, i, j => if op = 2 then Lg H l true i j else if op = 3 then Lg H l false i j else if op = 4 then Rt (Lg H l true) i j else if op = 5 then ∃ k, Lg H l true i k ∧ Rt (Lg H l true) k j else i = j ∨ Lg H l true i j
  | .nil, b, i, j => b = true ∧ i = j
  | .cons x l, b, i, j => if b = true then ∃ k, Lg H x true i k ∧ Lg H l true k j else Lg H x true i j ∨ Lg H l false i j
def cnt : Rx → Nat
  | .cons _ l => cnt l + 1
  | _ => 0
def sz : Rx → Nat
  | .set _ => 1
  | .node op l => if op = 2 then sz l else if op = 3 then sz l + 2 * (cnt l - 1) else if op = 4 then sz l + 2 else sz l + 1
  | .nil => 0
  | .cons x l => sz x + sz l
structure Stp where
  op : Nat
  set : List Nat
  a : Nat
  b : Nat
  deriving DecidableEq, Inhabited
def byteS (s : List Nat) : Stp := ⟨1, s, 0, 0⟩
def zero4 : List Nat := [0, 0, 0, 0]
def splitS (a b : Nat) : Stp := ⟨2, zero4, a, b⟩
def jumpS (a : Nat) : Stp := ⟨3, zero4, a, 0⟩
def code : Rx → Option Nat → Nat → List Stp
  | .set s, _, _ => [byteS s]
  | .node op l, _, p => if op = 2 then code l none p else if op = 3 then code l (some (p + (sz l + 2 * (cnt l - 1)))) p else if op = 4 then splitS (p + 1) (p + 2 + sz l) :: (code l none (p + 1) ++ [jumpS p]) else if op = 5 then code l none p ++ [splitS p (p + sz l + 1)] else splitS (p + 1) (p + 1 + sz l) :: code l none (p + 1)
  | .nil, _, _ => []
  | .cons x l, none, p => code x none p ++ code l none (p + sz x)
  | .cons x l, some e, p => if l = .nil then code x none p else splitS (p + 1) (p + 2 + sz x) :: (code x none (p + 1) ++ jumpS e :: code l (some e) (p + 2 + sz x))
def Seg (P : List Stp) (p : Nat) (l : List Stp) : Prop := ∀ k st, l[k]? = some st → P[p + k]? = some st
theorem Seg.append {P : List Stp} {p : Nat} {l1 l2 : List Stp} (h : Seg P p (l1 ++ l2)) : Seg P p l1 ∧ Seg P (p + l1.length) l2 := by
  refine ⟨fun k st hk => h k st ?_, fun k st hk => ?_⟩
  · rw [List.getElem?_append_left (List.getElem?_eq_some_iff.1 hk).1]; exact hk
  · have := h (l1.length + k) st (by rw [List.getElem?_append_right (by omega), Nat.add_sub_cancel_left]; exact hk)
    rwa [← Nat.add_assoc] at this
theorem Seg.cons {P : List Stp} {p : Nat} {s : Stp} {l : List Stp} (h : Seg P p (s :: l)) : P[p]? = some s ∧ Seg P (p + 1) l :=
  ⟨h 0 s rfl, fun k st hk => by have := h (k + 1) st (by simpa using hk); rwa [show p + (k + 1) = p + 1 + k by omega] at this⟩
inductive Go1 (P : List Stp) (H : List Nat → Nat → Prop) : Nat → Nat → Nat → Nat → Prop where
  | byte {c i : Nat} {st : Stp} : P[c]? = some st → st.op = 1 → H st.set i → Go1 P H c i (c + 1) (i + 1)
  | left {c i : Nat} {st : Stp} : P[c]? = some st → st.op = 2 → Go1 P H c i st.a i
  | right {c i : Nat} {st : Stp} : P[c]? = some st → st.op = 2 → Go1 P H c i st.b i
  | jump {c i : Nat} {st : Stp} : P[c]? = some st → st.op = 3 → Go1 P H c i st.a i
inductive Rn (P : List Stp) (H : List Nat → Nat → Prop) : Nat → Nat → Nat → Nat → Nat → Prop where
  | zero (c i : Nat) : Rn P H 0 c i c i
  | step {n c i c' i' d j : Nat} : Go1 P H c i c' i' → Rn P H n c' i' d j → Rn P H (n + 1) c i d j
def Re (P : List Stp) (H : List Nat → Nat → Prop) (c i d j : Nat) : Prop := ∃ n, Rn P H n c i d j
section
variable {P : List Stp} {H : List Nat → Nat → Prop}
theorem Re.refl (c i : Nat) : Re P H c i c i := ⟨0, .zero c i⟩
theorem Re.step {c i c' i' d j : Nat} (h : Go1 P H c i c' i') (h2 : Re P H c' i' d j) : Re P H c i d j := let ⟨n, hn⟩ := h2; ⟨n + 1, .step h hn⟩
theorem Re.trans {c i c' i' d j : Nat} (h : Re P H c i c' i') (h2 : Re P H c' i' d j) : Re P H c i d j := by
  obtain ⟨n, hn⟩ := h
  induction hn with
  | zero => exact h2
  | step h _ ih => exact .step h (ih h2)
theorem Rn.inv {n c i d j : Nat} (h : Rn P H n c i d j) (hne : c ≠ d) : ∃ m c' i', n = m + 1 ∧ Go1 P H c i c' i' ∧ Rn P H m c' i' d j := by
  cases h with
  | zero => exact absurd rfl hne
  | step h1 h2 => exact ⟨_, _, _, rfl, h1, h2⟩
theorem Go1.of {c i c' i' : Nat} {st : Stp} (h : Go1 P H c i c' i') (hs : P[c]? = some st) : (st.op = 1 ∧ H st.set i ∧ c' = c + 1 ∧ i' = i + 1) ∨ (st.op = 2 ∧ i' = i ∧ (c' = st.a ∨ c' = st.b)) ∨ (st.op = 3 ∧ i' = i ∧ c' = st.a) := by
  cases h with
  | byte a b d => rw [hs] at a; cases a; exact .inl ⟨b, d, rfl, rfl⟩
  | left a b => rw [hs] at a; cases a; exact .inr (.inl ⟨b, rfl, .inl rfl⟩)
  | right a b => rw [hs] at a; cases a; exact .inr (.inl ⟨b, rfl, .inr rfl⟩)
  | jump a b => rw [hs] at a; cases a; exact .inr (.inr ⟨b, rfl, rfl⟩)
theorem Go1.split {c i c' i' a b : Nat} (h : Go1 P H c i c' i') (hs : P[c]? = some (splitS a b)) : i' = i ∧ (c' = a ∨ c' = b) := by
  rcases h.of hs with ⟨h1, _⟩ | ⟨_, h2, h3⟩ | ⟨h1, _⟩
  · exact absurd h1 (fun h => by cases h)
  · exact ⟨h2, h3⟩
  · exact absurd h1 (fun h => by cases h)
end
end Go.Rex
set_option linter.unusedVariables false
set_option linter.unusedSimpArgs false
set_option maxHeartbeats 400000
namespace Go.Rex
def E1 (P : List Stp) (c d : Nat) : Prop := ∃ st, P[c]? = some st ∧ (st.op = 2 ∧ (d = st.a ∨ d = st.b) ∨ st.op = 3 ∧ d = st.a)
def Leaf (P : List Stp) (c : Nat) : Prop := ∃ st, P[c]? = some st ∧ st.op ≠ 2 ∧ st.op ≠ 3
structure Come (P : List Stp) (at_ been r been' : Nat) : Prop where
  sub : ∀ v, been.testBit v = true → been'.testBit v = true
  here : been'.testBit at_ = true
  sound : ∀ v, been'.testBit v = true → been.testBit v = true ∨ Rt (E1 P) at_ v
  closed : ∀ v, been'.testBit v = true → been.testBit v = false → ∀ u, E1 P v u → been'.testBit u = true
  ret : ∀ v, r.testBit v = true ↔ been'.testBit v = true ∧ been.testBit v = false ∧ Leaf P v
section
variable {P : List Stp}
theorem bit_or {b c v : Nat} : (b ||| 1 <<< c).testBit v = true ↔ b.testBit v = true ∨ v = c := by
  rw [Nat.testBit_or, Nat.one_shiftLeft, Nat.testBit_two_pow, Bool.or_eq_true, decide_eq_true_eq]
  constructor <;> rintro (h | h) <;> simp [h]
theorem bit_or' {b c v : Nat} : (b ||| 1 <<< c).testBit v = false ↔ b.testBit v = false ∧ v ≠ c := by
  rw [← Bool.not_eq_true, bit_or, not_or, Bool.not_eq_true]
theorem Come.jump {c been r b' : Nat} {st : Stp} (h : been.testBit c = false) (hs : P[c]? = some st) (ho : st.op = 3) (h1 : Come P st.a (been ||| 1 <<< c) r b') : Come P c been r b' := by
  have he : E1 P c st.a := ⟨st, hs, .inr ⟨ho, rfl⟩⟩
  refine ⟨fun v hv => h1.sub v (bit_or.2 (.inl hv)), h1.sub _ (bit_or.2 (.inr rfl)), fun v hv => ?_, fun v hv hn u hu => ?_, fun v => ?_⟩
  · rcases h1.sound v hv with h' | h'
    · rcases bit_or.1 h' with h' | rfl
      · exact .inl h'
      · exact .inr (.refl _)
    · exact .inr (.step he h')
  · by_cases e : v = c
    · subst e
      obtain ⟨s2, g1, g2⟩ := hu
      rw [hs] at g1; cases g1
      rcases g2 with ⟨g, _⟩ | ⟨_, rfl⟩
      · rw [ho] at g; cases g
      · exact h1.here
    · exact h1.closed v hv (bit_or'.2 ⟨hn, e⟩) u hu
  · rw [h1.ret]
    constructor
    · rintro ⟨a, b, d⟩; exact ⟨a, (bit_or'.1 b).1, d⟩
    · rintro ⟨a, b, d⟩
      refine ⟨a, bit_or'.2 ⟨b, ?_⟩, d⟩
      rintro rfl
      obtain ⟨s2, g1, g2, g3⟩ := d
      rw [hs] at g1; cases g1
      exact g3 ho
theorem Come.split {c been r1 b1 r2 b2 : Nat} {st : Stp} (h : been.testBit c = false) (hs : P[c]? = some st) (ho : st.op = 2) (h1 : Come P st.a (been ||| 1 <<< c) r1 b1) (h2 : Come P st.b b1 r2 b2) : Come P c been (r1 ||| r2) b2 := by
  have hea : E1 P c st.a := ⟨st, hs, .inl ⟨ho, .inl rfl⟩⟩
  have heb : E1 P c st.b := ⟨st, hs, .inl ⟨ho, .inr rfl⟩⟩
  refine ⟨fun v hv => h2.sub v (h1.sub v (bit_or.2 (.inl hv))), h2.sub _ (h1.sub _ (bit_or.2 (.inr rfl))), fun v hv => ?_, fun v hv hn u hu => ?_, fun v => ?_⟩
  · rcases h2.sound v hv with h' | h'
    · rcases h1.sound v h' with h' | h'
      · rcases bit_or.1 h' with h' | rfl
        · exact .inl h'
        · exact .inr (.refl _)
      · exact .inr (.step hea h')
    · exact .inr (.step heb h')
  · by_cases e : v = c
    · subst e
      obtain ⟨s2, g1, g2⟩ := hu
      rw [hs] at g1; cases g1
      rcases g2 with ⟨_, rfl | rfl⟩ | ⟨g, _⟩
      · exact h2.sub _ h1.here
      · exact h2.here
      · rw [ho] at g; cases g
    · cases hb : b1.testBit v with
      | true => exact h2.sub _ (h1.closed v hb (bit_or'.2 ⟨hn, e⟩) u hu)
      | false => exact h2.closed v hv hb u hu
  · rw [Nat.testBit_or, Bool.or_eq_true, h1.ret, h2.ret]
    constructor
    · rintro (⟨a, b, d⟩ | ⟨a, b, d⟩)
      · exact ⟨h2.sub _ a, (bit_or'.1 b).1, d⟩
      · refine ⟨a, ?_, d⟩
        cases hv : been.testBit v with
        | false => rfl
        | true => rw [h1.sub v (bit_or.2 (.inl hv))] at b; cases b
    · rintro ⟨a, b, d⟩
      cases hb : b1.testBit v with
      | true =>
        refine .inl ⟨rfl, bit_or'.2 ⟨b, ?_⟩, d⟩
        rintro rfl
        obtain ⟨s2, g1, g2, g3⟩ := d
        rw [hs] at g1; cases g1
        exact g2 ho
      | false => exact .inr ⟨a, rfl, d⟩
variable {H : List Nat → Nat → Prop}
def Now (P : List Stp) (H : List Nat → Nat → Prop) (k m : Nat) : Prop := ∀ v, m.testBit v = true ↔ Leaf P v ∧ Re P H 0 0 v k
theorem Re.pos {c i d j : Nat} (h : Re P H c i d j) : i ≤ j := by
  obtain ⟨n, hn⟩ := h
  induction hn with
  | zero => exact Nat.le_refl _
  | step h _ ih => cases h <;> omega
theorem re_eps {c d i : Nat} : Re P H c i d i ↔ Rt (E1 P) c d := by
  constructor
  · rintro ⟨n, hn⟩
    have key : ∀ n c d i j, Rn P H n c i d j → i = j → Rt (E1 P) c d := by
      intro n
      induction n with
      | zero => intro c d i j h e; cases h; exact .refl _
      | succ n ih =>
        intro c d i j h e
        cases h with
        | step h1 h2 =>
          cases h1 with
          | byte => have := Re.pos ⟨n, h2⟩; omega
          | left a b => exact .step ⟨_, a, .inl ⟨b, .inl rfl⟩⟩ (ih _ _ _ _ h2 e)
          | right a b => exact .step ⟨_, a, .inl ⟨b, .inr rfl⟩⟩ (ih _ _ _ _ h2 e)
          | jump a b => exact .step ⟨_, a, .inr ⟨b, rfl⟩⟩ (ih _ _ _ _ h2 e)
    exact key n c d i i hn rfl
  · intro h
    induction h with
    | refl => exact .refl _ _
    | step h _ ih =>
      obtain ⟨st, hs, ⟨ho, rfl | rfl⟩ | ⟨ho, rfl⟩⟩ := h
      · exact .step (.left hs ho) ih
      · exact .step (.right hs ho) ih
      · exact .step (.jump hs ho) ih
theorem rt_in {been : Nat} (hc : ∀ v, been.testBit v = true → ∀ u, E1 P v u → been.testBit u = true) {c d : Nat} (h : Rt (E1 P) c d) (h0 : been.testBit c = true) : been.testBit d = true := by
  induction h with
  | refl => exact h0
  | step h _ ih => exact ih (hc _ h0 _ h)
theorem Now.start {r b : Nat} (h : Come P 0 0 r b) : Now P H 0 r := by
  intro v
  rw [h.ret, re_eps]
  constructor
  · rintro ⟨a, _, d⟩
    rcases h.sound v a with h' | h'
    · simp at h'
    · exact ⟨d, h'⟩
  · rintro ⟨d, h'⟩
    exact ⟨rt_in (fun v hv u hu => h.closed v hv (by simp) u hu) h' h.here, by simp, d⟩
structure NextI (P : List Stp) (H : List Nat → Nat → Prop) (m k i been r : Nat) : Prop where
  sound : ∀ v, been.testBit v = true → ∃ c st, m.testBit c = true ∧ P[c]? = some st ∧ st.op = 1 ∧ H st.set k ∧ Rt (E1 P) (c + 1) v
  has : ∀ c st, c < i → m.testBit c = true → P[c]? = some st → st.op = 1 → H st.set k → been.testBit (c + 1) = true
  closed : ∀ v, been.testBit v = true → ∀ u, E1 P v u → been.testBit u = true
  ret : ∀ v, r.testBit v = true ↔ been.testBit v = true ∧ Leaf P v
theorem NextI.zero {m k : Nat} : NextI P H m k 0 0 0 := ⟨by simp, fun c st h => by omega, by simp, by simp⟩
theorem NextI.no {m k i been r : Nat} (h : NextI P H m k i been r) (hn : ∀ st, m.testBit i = true → P[i]? = some st → st.op = 1 → ¬ H st.set k) : NextI P H m k (i + 1) been r :=
  ⟨h.sound, fun c st hc h1 h2 h3 h4 => by
    by_cases e : c = i
    · subst e; exact absurd h4 (hn st h1 h2 h3)
    · exact h.has c st (by omega) h1 h2 h3 h4, h.closed, h.ret⟩
theorem NextI.yes {m k i been r r' b' : Nat} {st : Stp} (h : NextI P H m k i been r) (h1 : m.testBit i = true) (h2 : P[i]? = some st) (h3 : st.op = 1) (h4 : H st.set k) (hc : Come P (i + 1) been r' b') : NextI P H m k (i + 1) b' (r ||| r') := by
  refine ⟨fun v hv => ?_, fun c s2 hc2 g1 g2 g3 g4 => ?_, fun v hv u hu => ?_, fun v => ?_⟩
  · rcases hc.sound v hv with h' | h'
    · exact h.sound v h'
    · exact ⟨i, st, h1, h2, h3, h4, h'⟩
  · by_cases e : c = i
    · subst e; exact hc.here
    · exact hc.sub _ (h.has c s2 (by omega) g1 g2 g3 g4)
  · cases hb : been.testBit v with
    | true => exact hc.sub _ (h.closed v hb u hu)
    | false => exact hc.closed v hv hb u hu
  · rw [Nat.testBit_or, Bool.or_eq_true, h.ret, hc.ret]
    constructor
    · rintro (⟨a, b⟩ | ⟨a, _, b⟩)
      · exact ⟨hc.sub _ a, b⟩
      · exact ⟨a, b⟩
    · rintro ⟨a, b⟩
      cases hb : been.testBit v with
      | true => exact .inl ⟨rfl, b⟩
      | false => exact .inr ⟨a, rfl, b⟩
end
def okS (n : Nat) (s : Stp) : Prop := s.op = 1 ∧ s.a = 0 ∧ s.b = 0 ∨ s.op = 2 ∧ s.a < n ∧ s.b < n ∧ s.set = zero4 ∨ s.op = 3 ∧ s.a < n ∧ s.b = 0 ∧ s.set = zero4
theorem okS.mono {n m : Nat} {s : Stp} (h : okS n s) (hm : n ≤ m) : okS m s := by
  rcases h with h | ⟨h1, h2, h3, h4⟩ | ⟨h1, h2, h3, h4⟩
  · exact .inl h
  · exact .inr (.inl ⟨h1, by omega, by omega, h4⟩)
  · exact .inr (.inr ⟨h1, by omega, h3, h4⟩)
inductive RtN (R : Nat → Nat → Prop) : Nat → Nat → Nat → Prop where
  | zero (i : Nat) : RtN R 0 i i
  | snoc {n i k j : Nat} : RtN R n i k → R k j → RtN R (n + 1) i j
theorem RtN.cons {R : Nat → Nat → Prop} {n i k j : Nat} (h : R i k) (h2 : RtN R n k j) : RtN R (n + 1) i j := by
  induction h2 with
  | zero => exact .snoc (.zero _) h
  | snoc _ h3 ih => exact .snoc (ih h) h3
end Go.Rex
set_option linter.unusedVariables false
set_option linter.unusedSimpArgs false
set_option maxHeartbeats 400000
namespace Go.Rex
open Go.X
def b8 (s : ByteArray) (i : Nat) : Nat := (bt s i).toNat
theorem b8_lt (s : ByteArray) (i : Nat) : b8 s i < 256 := UInt8.toNat_lt _
def setBit (l : List Nat) (c : Nat) : List Nat := l.modify (c / 64) (· ||| 1 <<< (c % 64))
def addG (l : List Nat) (a b : Nat) : List Nat := (List.range' a (b + 1 - a)).foldl setBit l
def invS (l : List Nat) : List Nat := l.map (18446744073709551615 - ·)
theorem setBit_len (l : List Nat) (c : Nat) : (setBit l c).length = l.length := by simp [setBit]
theorem setBit_lt {l : List Nat} (h : ∀ x ∈ l, x < 18446744073709551616) (c : Nat) : ∀ x ∈ setBit l c, x < 18446744073709551616 := by
  intro x hx
  unfold setBit at hx
  obtain ⟨i, hi⟩ := List.getElem?_of_mem hx
  simp only [List.getElem?_modify] at hi
  cases hl : l[i]? with
  | none => simp [hl] at hi
  | some y =>
    have hy := h y (List.mem_of_getElem? hl)
    simp only [hl, Option.map_some] at hi
    split at hi
    · simp at hi
      subst hi
      have h1 : (1 <<< (c % 64)) < 2 ^ 64 := by rw [Nat.shiftLeft_eq, Nat.one_mul]; exact Nat.pow_lt_pow_right (by omega) (Nat.mod_lt _ (by omega))
      exact Nat.or_lt_two_pow (n := 64) hy h1
    · simp at hi; subst hi; exact hy
theorem invS_lt (l : List Nat) : ∀ x ∈ invS l, x < 18446744073709551616 := by
  intro x hx
  obtain ⟨y, _, rfl⟩ := List.mem_map.1 hx
  omega
theorem addG_len (a b : Nat) : ∀ l : List Nat, (addG l a b).length = l.length := by
  unfold addG
  generalize List.range' a (b + 1 - a) = r
  induction r with
  | nil => intro l; rfl
  | cons x r ih => intro l; simp only [List.foldl_cons, ih, setBit_len]
theorem addG_lt (a b : Nat) : ∀ {l : List Nat}, (∀ x ∈ l, x < 18446744073709551616) → ∀ x ∈ addG l a b, x < 18446744073709551616 := by
  unfold addG
  generalize List.range' a (b + 1 - a) = r
  induction r with
  | nil => intro l h; exact h
  | cons x r ih => intro l h; exact ih (setBit_lt h x)
def W4 (l : List Nat) : Prop := l.length = 4 ∧ ∀ x ∈ l, x < 18446744073709551616
theorem W4.zero : W4 zero4 := ⟨rfl, by simp [zero4]⟩
theorem W4.add {l : List Nat} (h : W4 l) (a b : Nat) : W4 (addG l a b) := ⟨(addG_len a b l).trans h.1, addG_lt a b h.2⟩
theorem W4.inv {l : List Nat} (h : W4 l) : W4 (invS l) := ⟨by simpa [invS] using h.1, invS_lt l⟩
def quotedS (c : Nat) : Bool := decide (c = 124 ∨ c = 42 ∨ c = 43 ∨ c = 63 ∨ c = 40 ∨ c = 41 ∨ c = 91 ∨ c = 93 ∨ c = 46 ∨ c = 92 ∨ c = 94 ∨ c = 45)
def signS (s : ByteArray) (i : Nat) : Option (Nat × Nat) := if i < s.size ∧ quotedS (b8 s i) = true then some (b8 s i, i + 1) else none
def memS (s : ByteArray) (i : Nat) : Option (Nat × Nat) :=
  if i < s.size then if b8 s i = 92 then signS s (i + 1) else if b8 s i = 93 ∨ b8 s i = 91 ∨ b8 s i = 94 ∨ b8 s i = 45 then none else some (b8 s i, i + 1) else none
def toS (s : ByteArray) (a i : Nat) : Option (Nat × Nat) := if i < s.size ∧ b8 s i = 45 then memS s (i + 1) else some (a, i)
def clsL (s : ByteArray) : Nat → Nat → List Nat → Option (List Nat × Nat)
  | 0, _, _ => none
  | n + 1, i, set => if i < s.size then if b8 s i = 93 then some (set, i + 1) else
      match memS s i with
      | none => none
      | some (a, i1) => match toS s a i1 with
        | none => none
        | some (b, i2) => if b < a then none else clsL s n i2 (addG set a b)
    else none
theorem signS_adv {s : ByteArray} {i b j : Nat} (h : signS s i = some (b, j)) : i < j ∧ j ≤ s.size ∧ b < 256 := by
  unfold signS at h
  split at h
  · simp at h; have := b8_lt s i; omega
  · cases h
theorem memS_adv {s : ByteArray} {i b j : Nat} (h : memS s i = some (b, j)) : i < j ∧ j ≤ s.size ∧ b < 256 := by
  unfold memS at h
  split at h
  · split at h
    · have := signS_adv h; omega
    · split at h
      · cases h
      · simp at h; have := b8_lt s i; omega
  · cases h
theorem toS_adv {s : ByteArray} {a i b j : Nat} (h : toS s a i = some (b, j)) (hi : i ≤ s.size) (ha : a < 256) : i ≤ j ∧ j ≤ s.size ∧ b < 256 := by
  unfold toS at h
  split at h
  · have := memS_adv h; omega
  · simp at h; omega
end Go.Rex
set_option linter.unusedVariables false
set_option linter.unusedSimpArgs false
set_option maxHeartbeats 400000
namespace Go.Rex
open Go.X
def Tr : Bool → Rx → Prop
  | false, .set s => W4 s
  | false, .node op l => (op = 2 ∨ op = 3 ∧ cnt l ≠ 0 ∨ (op = 4 ∨ op = 5 ∨ op = 6) ∧ cnt l = 1) ∧ Tr true l
  | true, .nil => True
  | true, .cons x l => Tr false x ∧ Tr true l
  | true, .set _ => False
  | true, .node _ _ => False
  | false, .nil => False
  | false, .cons _ _ => False
section
variable (H : List Nat → Nat → Prop)
end
def Endz (R : Nat → Nat → Prop) (n : Nat) (f o : List Bool) : Prop := o.length = n + 1 ∧ ∀ j, o[j]? = some true ↔ j ≤ n ∧ ∃ i, f[i]? = some true ∧ R i j
theorem Endz.le {R : Nat → Nat → Prop} {n : Nat} {f o : List Bool} (h : Endz R n f o) {j : Nat} (hj : o[j]? = some true) : j ≤ n := ((h.2 j).1 hj).1
theorem Endz.id {n : Nat} {f : List Bool} (h : f.length = n + 1) : Endz (· = ·) n f f := by
  refine ⟨h, fun j => ?_⟩
  constructor
  · intro hj; have := (List.getElem?_eq_some_iff.1 hj).1; exact ⟨by omega, j, hj, rfl⟩
  · rintro ⟨_, i, h1, rfl⟩; exact h1
theorem Endz.seq {R S : Nat → Nat → Prop} {n : Nat} {f g o : List Bool} (h1 : Endz R n f g) (h2 : Endz S n g o) (hS : ∀ i j, S i j → i ≤ j) : Endz (fun i j => ∃ k, R i k ∧ S k j) n f o := by
  refine ⟨h2.1, fun j => ?_⟩
  rw [h2.2]
  constructor
  · rintro ⟨a, k, hk, b⟩
    obtain ⟨_, i, hi, c⟩ := (h1.2 k).1 hk
    exact ⟨a, i, hi, k, c, b⟩
  · rintro ⟨a, i, hi, k, c, b⟩
    exact ⟨a, k, (h1.2 k).2 ⟨by have := hS _ _ b; omega, i, hi, c⟩, b⟩
end Go.Rex
set_option linter.unusedVariables false
set_option linter.unusedSimpArgs false
set_option maxHeartbeats 1000000
set_option maxRecDepth 100000
namespace Go.Proofs.YtcndimkkojdflaaGreatDoor
open Go Go.X Go.Rex
def bodyS (s : ByteArray) (n i : Nat) (set : List Nat) : Option (List Nat × Nat) := match memS s i with
  | none => none
  | some (a, i1) => match toS s a i1 with
    | none => none
    | some (b, i2) => if b < a then none else clsL s n i2 (addG set a b)
theorem body_go {s : ByteArray} {n i : Nat} {set : List Nat} (hi : i < s.size) (h93 : b8 s i ≠ 93) : clsL s (n + 1) i set = bodyS s n i set := by
  unfold bodyS
  rw [clsL, if_pos hi, if_neg h93]
  all_goals rfl
structure ClsI (s : ByteArray) (T : Option (List Nat × Nat)) (first bad : Bool) (i : Nat) (set : List Nat) : Prop where
  one : first = true → bad = false ∧ bodyS s s.size i set = T
  go : first = false → bad = false → ∃ n, clsL s n i set = T ∧ s.size + 1 ≤ n + i
  no : bad = true → first = false ∧ T = none
theorem ClsI.step {s : ByteArray} {T : Option (List Nat × Nat)} {m i : Nat} {set : List Nat} (h : bodyS s m i set = T) (hm : s.size ≤ m + i) {c j : Nat} {bad : Bool} (h1 : memS s i = if bad then none else some (c, j)) {c2 j2 : Nat} {bad2 : Bool} (h2 : bad = true → bad2 = true) (h3 : bad = false → toS s c j = if bad2 then none else some (c2, j2)) : ClsI s T false (bad2 || decide (c2 < c)) j2 (addG set c c2) := by
  unfold bodyS at h
  cases bad with
  | true =>
    rw [h1] at h
    have hb := h2 rfl
    subst hb
    exact ⟨by simp, by simp, fun _ => ⟨rfl, h.symm⟩⟩
  | false =>
    have h4 := h3 rfl
    rw [h1] at h
    simp only [Bool.false_eq_true, if_false] at h
    have h5 := memS_adv h1
    rw [h4] at h
    cases bad2 with
    | true => exact ⟨by simp, by simp, fun _ => ⟨rfl, h.symm⟩⟩
    | false =>
      simp only [Bool.false_eq_true, if_false] at h h4
      have h6 := toS_adv h4 h5.2.1 h5.2.2
      by_cases hlt : c2 < c
      · rw [if_pos hlt] at h
        exact ⟨by simp, by simp [hlt], fun _ => ⟨rfl, h.symm⟩⟩
      · rw [if_neg hlt] at h
        exact ⟨by simp, fun _ _ => ⟨m, h, by omega⟩, by simp [hlt]⟩
end Go.Proofs.YtcndimkkojdflaaGreatDoor
set_option linter.unusedVariables false
set_option linter.unusedSimpArgs false
set_option maxHeartbeats 1000000
set_option maxRecDepth 100000
namespace Go.Proofs.YtcndimkkojdflaaGreatDoor
open Go Go.X Go.Rex
structure Cel where
  op : Int
  a : Nat
  b : Nat
  c : Nat
  d : Nat
  ad : Option Addr
  n : Nat
  cap : Nat
def celC (k : Cel) : List Value := [.int .i64 k.op, .int .u64 (k.a : Int), .int .u64 (k.b : Int), .int .u64 (k.c : Int), .int .u64 (k.d : Int), .slice k.ad k.n k.cap]
def RxV (M : Nat → Prop) (w : World) : Rx → List Cel → Prop
  | .set t, ks => ∃ a b c d : Nat, t = [a, b, c, d] ∧ ks = [⟨1, a, b, c, d, none, 0, 0⟩]
  | .node op l, ks => ∃ ad n cap kss, (ks = [⟨(op : Int), 0, 0, 0, 0, ad, n, cap⟩] ∧ n ≤ cap) ∧ Sl M w (.slice ad n cap) 6 kss.length (kss.flatMap celC) ∧ RxV M w l kss
  | .nil, ks => ks = []
  | .cons x l, ks => ∃ c ks', ks = c :: ks' ∧ RxV M w x [c] ∧ RxV M w l ks'
theorem RxV.mod {M M0 : Nat → Prop} {w w' : World} (hm : Mod M0 w w') (h0 : ∀ b, b < w.heap.size → M0 b → M b) : ∀ (x : Rx) {ks : List Cel}, RxV M w x ks → RxV M w' x ks
  | .set t, _, h => h
  | .node op l, _, ⟨ad, n, cap, kss, h1, h2, h3⟩ => ⟨ad, n, cap, kss, h1, h2.mod (hm.mono h0), RxV.mod hm h0 l h3⟩
  | .nil, _, h => h
  | .cons x l, _, ⟨c, ks', h1, h2, h3⟩ => ⟨c, ks', h1, RxV.mod hm h0 x h2, RxV.mod hm h0 l h3⟩
theorem RxV.off {M M' : Nat → Prop} {w : World} (h0 : ∀ b, b < w.heap.size → M' b → M b) : ∀ (x : Rx) {ks : List Cel}, RxV M w x ks → RxV M' w x ks
  | .set t, _, h => h
  | .node op l, _, ⟨ad, n, cap, kss, h1, h2, h3⟩ => ⟨ad, n, cap, kss, h1, h2.off (by omega) h0, RxV.off h0 l h3⟩
  | .nil, _, h => h
  | .cons x l, _, ⟨c, ks', h1, h2, h3⟩ => ⟨c, ks', h1, RxV.off h0 x h2, RxV.off h0 l h3⟩
theorem RxV.grow {M : Nat → Prop} {w w' : World} (hg : Grow w w') (x : Rx) {ks : List Cel} (h : RxV M w x ks) : RxV M w' x ks := h.mod hg (fun _ _ h => h.elim) x
end Go.Proofs.YtcndimkkojdflaaGreatDoor
set_option linter.unusedVariables false
set_option linter.unusedSimpArgs false
set_option maxHeartbeats 1000000
set_option maxRecDepth 100000
namespace Go.Proofs.YtcndimkkojdflaaGreatDoor
open Go Go.X Go.Rex
structure ClsR (s : ByteArray) (T : Option (List Nat × Nat)) (i0 n : Nat) (bad : Bool) (i : Nat) (set : List Nat) : Prop where
  none_ : n = 0 → bad = false ∧ i = i0
  go : bad = false → ∃ m, clsL s m i set = T ∧ s.size + 1 ≤ m + i
  some_ : n ≠ 0 → ¬ (i0 < s.size ∧ b8 s i0 = 93)
  no : bad = true → T = none
  cnt : n ≤ s.size + 1 ∧ (bad = false → n ≤ i)
theorem ClsR.step {s : ByteArray} {T : Option (List Nat × Nat)} {i0 n i : Nat} {set : List Nat} (h : ClsR s T i0 n false i set) (hi : i < s.size) (h93 : b8 s i ≠ 93) (hi0 : n = 0 ∨ n ≠ 0) {c j : Nat} {bad : Bool} (h1 : memS s i = if bad then none else some (c, j)) {c2 j2 : Nat} {bad2 : Bool} (h2 : bad = true → bad2 = true) (h3 : bad = false → toS s c j = if bad2 then none else some (c2, j2)) (hj : j2 ≤ s.size) : ClsR s T i0 (n + 1) (bad2 || decide (c2 < c)) j2 (addG set c c2) := by
  obtain ⟨m, hm, hmk⟩ := h.go rfl
  obtain ⟨q, rfl⟩ : ∃ q, m = q + 1 := ⟨m - 1, by omega⟩
  have hb := (body_go hi h93).symm.trans hm
  have hs := ClsI.step hb (by omega) h1 h2 h3
  have hn := h.cnt.2 rfl
  refine ⟨by omega, fun hb => ?_, fun _ => ?_, fun hb => (hs.no hb).2, by omega, fun hb => ?_⟩
  · exact hs.go rfl hb
  · by_cases e : n = 0
    · have := (h.none_ e).2; subst this; exact fun hh => h93 hh.2
    · exact h.some_ e
  · simp at hb
    have hbf : bad = false := by cases hbb : bad with | false => rfl | true => have := h2 hbb; simp [this] at hb
    rw [hbf] at h1
    have e4 := h3 hbf
    rw [hb.1] at e4
    have h5 := memS_adv h1
    have h6 := toS_adv e4 h5.2.1 h5.2.2
    omega
end Go.Proofs.YtcndimkkojdflaaGreatDoor
set_option linter.unusedVariables false
set_option linter.unusedSimpArgs false
set_option maxHeartbeats 1000000
set_option maxRecDepth 100000
namespace Go.Proofs.YtcndimkkojdflaaGreatDoor
open Go Go.X Go.Rex
theorem RxV.len {M : Nat → Prop} {w : World} : ∀ {l : Rx} {kss : List Cel}, Tr true l → RxV M w l kss → kss.length = cnt l
  | .nil, kss, _, h => by have h' : kss = [] := h; subst h'; rfl
  | .cons x l, kss, ht, ⟨c, ks', h1, h2, h3⟩ => by subst h1; simp [cnt, RxV.len ht.2 h3]
  | .set _, _, ht, _ => ht.elim
  | .node _ _, _, ht, _ => ht.elim
structure RxO (M : Nat → Prop) (w : World) (x : Rx) (op : Int) (a b c d : Nat) (ad : Option Addr) (n cap : Nat) (l : Rx) (kss : List Cel) : Prop where
  tr : Tr true l
  sl : Sl M w (.slice ad n cap) 6 kss.length (kss.flatMap celC)
  cp : n ≤ cap
  n : n = kss.length
  ks : RxV M w l kss
  len : kss.length = cnt l
  kind : (x = .set [a, b, c, d] ∧ l = .nil ∧ op = 1 ∧ W4 [a, b, c, d]) ∨ (∃ o : Nat, x = .node o l ∧ op = o ∧ a = 0 ∧ b = 0 ∧ c = 0 ∧ d = 0 ∧ (o = 2 ∨ o = 3 ∧ cnt l ≠ 0 ∨ (o = 4 ∨ o = 5 ∨ o = 6) ∧ cnt l = 1))
theorem RxV.open {M : Nat → Prop} {w : World} {x : Rx} {k : Cel} (ht : Tr false x) (h : RxV M w x [k]) : ∃ op a b c d ad n cap l kss, k = ⟨op, a, b, c, d, ad, n, cap⟩ ∧ RxO M w x op a b c d ad n cap l kss := by
  cases x with
  | nil => exact ht.elim
  | cons => exact ht.elim
  | set t =>
    obtain ⟨a, b, c, d, h1, h2⟩ := h
    cases h2
    exact ⟨_, _, _, _, _, _, _, _, .nil, [], rfl, trivial, Sl.nil _ _ _ _ _, Nat.le_refl _, rfl, rfl, rfl, .inl ⟨by rw [h1], rfl, rfl, by rw [← h1]; exact ht⟩⟩
  | node op l =>
    obtain ⟨ad, n, cap, kss, ⟨h1, hcap⟩, h2, h3⟩ := h
    cases h1
    obtain ⟨ad', c', e⟩ := h2.shape
    cases e
    exact ⟨_, _, _, _, _, _, _, _, l, kss, rfl, ht.2, h2, hcap, rfl, h3, RxV.len ht.2 h3, .inr ⟨op, rfl, rfl, rfl, rfl, rfl, rfl, ht.1⟩⟩
theorem RxO.mod {M M0 : Nat → Prop} {w w' : World} {x : Rx} {op : Int} {a b c d : Nat} {ad : Option Addr} {n cap : Nat} {l : Rx} {kss : List Cel} (h : RxO M w x op a b c d ad n cap l kss) (hm : Mod M0 w w') (h0 : ∀ b, b < w.heap.size → M0 b → M b) : RxO M w' x op a b c d ad n cap l kss := ⟨h.tr, h.sl.mod (hm.mono h0), h.cp, h.n, h.ks.mod hm h0, h.len, h.kind⟩
theorem RxO.grow {M : Nat → Prop} {w w' : World} {x : Rx} {op : Int} {a b c d : Nat} {ad : Option Addr} {n cap : Nat} {l : Rx} {kss : List Cel} (h : RxO M w x op a b c d ad n cap l kss) (hm : Grow w w') : RxO M w' x op a b c d ad n cap l kss := h.mod hm fun _ _ h => h.elim
end Go.Proofs.YtcndimkkojdflaaGreatDoor
set_option linter.unusedVariables false
set_option linter.unusedSimpArgs false
set_option maxHeartbeats 400000
namespace Go.Rex
open Go Go.X
def stC (s : Stp) : List Value := [.int .i64 (s.op : Int), .int .u64 ((s.set.getD 0 0 : Nat) : Int), .int .u64 ((s.set.getD 1 0 : Nat) : Int), .int .u64 ((s.set.getD 2 0 : Nat) : Int), .int .u64 ((s.set.getD 3 0 : Nat) : Int), .int .i64 (s.a : Int), .int .i64 (s.b : Int)]
def GoodL (l : List Rx) : Prop := ∀ x ∈ l, Tr false x
theorem GoodL.take {l : List Rx} (h : GoodL l) (k : Nat) : GoodL (l.take k) := fun x hx => h x (List.mem_of_mem_take hx)
end Go.Rex
namespace Go.X
open Go Go.RowKit
end Go.X
set_option linter.unusedVariables false
set_option linter.unusedSimpArgs false
set_option maxHeartbeats 2000000
set_option maxRecDepth 100000
namespace Go.Proofs.YtcndimkkojdflaaGreatDoor
open Go Go.X Go.Rex
def OB (v : Value) : Nat → Prop := fun b => v.ownBlock = some b
abbrev RowS (w : World) (v : Value) (P : List Stp) : Prop := Row w 479 7 v P.length (P.flatMap stC)
structure LayR (w w' : World) (v u : Value) (P : List Stp) : Prop where
  row : RowS w' u P
  own : ∀ b, u.ownBlock = some b → v.ownBlock = some b ∨ w.heap.size ≤ b
  mod : Mod (OB v) w w'
theorem LayR.refl {w : World} {v : Value} {P : List Stp} (h : RowS w v P) : LayR w w v v P := ⟨h, fun b e => .inl e, Mod.refl _ _⟩
theorem LayR.grow {w w' w2 : World} {v u : Value} {P : List Stp} (h : LayR w w' v u P) (hg : Grow w' w2) : LayR w w2 v u P := ⟨h.row.mod hg (fun _ _ h => h), h.own, h.mod.trans (Mod.any' hg)⟩
theorem LayR.trans {w w' w2 : World} {v u u2 : Value} {P Q : List Stp} (h : LayR w w' v u P) (h2 : LayR w' w2 u u2 Q) : LayR w w2 v u2 Q := ⟨h2.row, fun b e => by
  rcases h2.own b e with h3 | h3
  · exact h.own b h3
  · have := h.mod.size; exact .inr (by omega), h.mod.then h2.mod (fun x hx e => by rcases h.own x e with h3 | h3; exact h3; omega)⟩
end Go.Proofs.YtcndimkkojdflaaGreatDoor
set_option linter.unusedVariables false
set_option linter.unusedSimpArgs false
set_option maxHeartbeats 400000
set_option maxRecDepth 100000
namespace Go.Proofs.YtcndimkkojdflaaGreatDoor
open Go Go.X
structure St where
  most : Int
  last : Int
  out : List Int
  al : List (Int × List Lab × Nat)
  has : List (Int × List Lab)
  rows : List (LabK × List Int)
def own (p q ix mh mr : Nat) (vo vl : Value) : Nat → Prop := fun b => b = p ∨ b = q ∨ b = mh ∨ b = mr ∨ vo.ownBlock = some b ∨ vl.ownBlock = some b ∨ b = ix
def pub (a : Al) : Int × List Lab × Nat := (a.id, a.ls, a.val)
structure SA (w : World) (p : Nat) (s : St) (M : Nat → Prop) (q ix mh mr : Nat) (vo vl : Value) (al : List Al) : Prop where
  blk : Blk w p 292 [pp q, pp ix, vl]
  pool : PoolAt w q s.most s.last s.out vo
  idx : IdxAt M w ix mh mr s.has s.rows
  row : Row w 280 3 vl al.length (al.flatMap alC)
  als : al.map pub = s.al
  sls : ∀ a ∈ al, SlL M w a.v a.ls
  ownM : ∀ b, own p q ix mh mr vo vl b → M b
  ltM : ∀ b, M b → b < w.heap.size
def StoreX (O M : Nat → Prop) (w : World) (p : Nat) (s : St) : Prop := ∃ q ix mh mr vo vl al, (∀ b, O b ↔ own p q ix mh mr vo vl b) ∧ SA w p s M q ix mh mr vo vl al
abbrev StoreAt (w : World) (p : Nat) (s : St) (M : Nat → Prop) : Prop := StoreX M M w p s
theorem IdxAt.mps {M : Nat → Prop} {w : World} {ix mh mr : Nat} {has : List (Int × List Lab)} {rows : List (LabK × List Int)} (h : IdxAt M w ix mh mr has rows) : Mp w mh ∧ Mp w mr := by
  obtain ⟨l, _, h2, _⟩ := h.hl
  obtain ⟨r, _, h3, _⟩ := h.rl
  exact ⟨h2.mp, h3.mp⟩
theorem SA.own_lt {w : World} {p : Nat} {s : St} {M : Nat → Prop} {q ix mh mr : Nat} {vo vl : Value} {al : List Al} (h : SA w p s M q ix mh mr vo vl al) {b : Nat} (hb : own p q ix mh mr vo vl b) : b < w.heap.size := h.ltM b (h.ownM b hb)
theorem SA.lt {w : World} {p : Nat} {s : St} {M : Nat → Prop} {q ix mh mr : Nat} {vo vl : Value} {al : List Al} (h : SA w p s M q ix mh mr vo vl al) {b : Nat} (hb : M b) : b < w.heap.size := h.ltM b hb
theorem StoreX.lt {w : World} {p : Nat} {s : St} {O M : Nat → Prop} (h : StoreX O M w p s) {b : Nat} (hb : M b) : b < w.heap.size := by
  obtain ⟨q, ix, mh, mr, vo, vl, al, hO, h⟩ := h
  exact h.lt hb
theorem PoolAt.mod {w w' : World} {p : Nat} {most last : Int} {out : List Int} {v : Value} {M0 : Nat → Prop} (h : PoolAt w p most last out v) (hm : Mod M0 w w') (n1 : ¬ M0 p) (n2 : ∀ b, v.ownBlock = some b → ¬ M0 b) : PoolAt w' p most last out v :=
  ⟨h.blk.mod hm n1, h.row.mod hm n2, h.ne⟩
theorem SA.grow {w w' : World} {p : Nat} {s : St} {M : Nat → Prop} {q ix mh mr : Nat} {vo vl : Value} {al : List Al} (h : SA w p s M q ix mh mr vo vl al) (hg : Grow w w') : SA w' p s M q ix mh mr vo vl al :=
  ⟨h.blk.mod hg (fun h => h), h.pool.mod hg (fun h => h) (fun _ _ h => h), h.idx.mod hg (fun _ _ h => h.elim) (fun h => h) (fun h => h) (fun h => h), h.row.mod hg (fun _ _ h => h), h.als, fun a ha => (h.sls a ha).mod (Mod.any' hg), h.ownM, fun b hb => Nat.lt_of_lt_of_le (h.ltM b hb) hg.size⟩
theorem StoreX.grow {w w' : World} {p : Nat} {s : St} {O M : Nat → Prop} (h : StoreX O M w p s) (hg : Grow w w') : StoreX O M w' p s := by
  obtain ⟨q, ix, mh, mr, vo, vl, al, hO, h⟩ := h
  exact ⟨q, ix, mh, mr, vo, vl, al, hO, h.grow hg⟩
theorem StoreX.sub {w : World} {p : Nat} {s : St} {O M : Nat → Prop} (h : StoreX O M w p s) {b : Nat} (hb : O b) : M b := by
  obtain ⟨q, ix, mh, mr, vo, vl, al, hO, h⟩ := h
  exact h.ownM b ((hO b).1 hb)
theorem StoreX.off {w : World} {p : Nat} {s : St} {O M M' : Nat → Prop} (h : StoreX O M w p s) (h1 : ∀ b, O b → M' b) (h2 : ∀ b, M' b → M b) : StoreX O M' w p s := by
  obtain ⟨q, ix, mh, mr, vo, vl, al, hO, h⟩ := h
  exact ⟨q, ix, mh, mr, vo, vl, al, hO, h.blk, h.pool, h.idx.off fun b _ e => h2 b e, h.row, h.als, fun a ha => (h.sls a ha).off (by omega) (fun b _ e => h2 b e), fun b e => h1 b ((hO b).2 e), fun b e => h.ltM b (h2 b e)⟩
theorem StoreX.at_ {w : World} {p : Nat} {s : St} {O M : Nat → Prop} (h : StoreX O M w p s) : StoreAt w p s O := h.off (fun _ e => e) (fun _ e => h.sub e)
theorem StoreX.mod {w w' : World} {p : Nat} {s : St} {O M N : Nat → Prop} (h : StoreX O M w p s) (hm : Mod N w w') (h1 : ∀ b, O b → ¬ N b) (h2 : ∀ b, N b → b < w.heap.size → M b) : StoreX O M w' p s := by
  obtain ⟨q, ix, mh, mr, vo, vl, al, hO, h⟩ := h
  have h3 : ∀ b, own p q ix mh mr vo vl b → ¬ N b := fun b e => h1 b ((hO b).2 e)
  exact ⟨q, ix, mh, mr, vo, vl, al, hO, h.blk.mod hm (h3 p (.inl rfl)), h.pool.mod hm (h3 q (.inr (.inl rfl))) (fun b e => h3 b (.inr (.inr (.inr (.inr (.inl e)))))), h.idx.mod hm (fun b hb e => h2 b e hb) (h3 ix (.inr (.inr (.inr (.inr (.inr (.inr rfl))))))) (h3 mh (.inr (.inr (.inl rfl)))) (h3 mr (.inr (.inr (.inr (.inl rfl))))), h.row.mod hm (fun b e => h3 b (.inr (.inr (.inr (.inr (.inr (.inl e))))))), h.als, fun a ha => (h.sls a ha).mod (hm.mono fun b hb e => h2 b e hb), h.ownM, fun b e => Nat.lt_of_lt_of_le (h.ltM b e) hm.size⟩
def capS (m : Int) : Int := if 16 < (if 1 > m then 1 else m) then 16 else if 1 > m then 1 else m
def St.new (m : Int) : St := ⟨capS m, 0, [], [], [], []⟩
theorem alertLen_ok (w : World) (p : Nat) (s : St) (M : Nat → Prop) (h : StoreAt w p s M) : Fx Tryz.prog 145 [pp p] w (fun u w' => u = .int .i64 s.al.length ∧ w = w') := by
  obtain ⟨q, ix, mh, mr, vo, vl, al, hO, h⟩ := h
  obtain ⟨ad, c, rfl⟩ := h.row.slice
  refine enter Tryz.func145 rfl rfl rfl _ (Pick.sub (l := [0]) (.cons rfl .nil)) ?_
  refine RK.seq ?_
  refine RK.region ?_
  refine RL.p rfl rfl ?_
  refine RL.done ?_
  refine RK.seq ?_
  refine RK.region ?_
  iterate 2 refine RL.p rfl rfl ?_
  refine RL.q (.free rfl) rfl rfl (Yld.fieldAddr fo292_2 rfl) ?_
  refine RL.q (.free rfl) rfl rfl (Yld.load p290 rfl (at1 (h.blk.cell rfl))) ?_
  refine RL.q (.free rfl) rfl rfl (Yld.lenSl u290 rfl) ?_
  refine RL.p rfl rfl ?_
  refine RL.done ?_
  refine RK.ret_of Tryz.func145 (res1 rfl rfl) ?_ _
  exact ⟨_, rfl, by rw [← h.als]; simp, rfl⟩
end Go.Proofs.YtcndimkkojdflaaGreatDoor
set_option linter.unusedVariables false
set_option linter.unusedSimpArgs false
set_option maxHeartbeats 400000
set_option maxRecDepth 100000
namespace Go.Proofs.YtcndimkkojdflaaGreatDoor
open Go Go.X
end Go.Proofs.YtcndimkkojdflaaGreatDoor
set_option linter.unusedVariables false
set_option linter.unusedSimpArgs false
set_option maxHeartbeats 400000
set_option maxRecDepth 100000
namespace Go.Proofs.YtcndimkkojdflaaGreatDoor
open Go Go.X
def fullS (most last : Int) (out : List Int) : Bool := decide (most ≤ out.length ∨ last = 2147483647)
structure Ok (s : St) : Prop where
  last0 : 0 ≤ s.last
  last1 : s.last ≤ 2147483647
  most : s.most ≤ 16
  outLe : (s.out.length : Int) ≤ s.most
  alOut : s.al.length = s.out.length
  has : ∀ t ∈ s.has, t.1 ≤ s.last
  rows : ∀ t ∈ s.rows, (t.2.length : Int) ≤ 6 * s.last
  vals : ∀ a ∈ s.al, a.2.2 < 18446744073709551616
def postS (s : St) (ls : List Lab) (val : Nat) : St × Int × Bool × Int :=
  if isS ls = false then (s, 0, false, 1) else
  match findS (s.al.map (·.2.1)) ls with
  | some i => ({ s with al := s.al.modify i fun a => (a.1, a.2.1, canS val) }, ((s.al[i]?).map (·.1)).getD 0, false, 0)
  | none => if fullS s.most s.last s.out then (s, 0, false, 10) else
    ({ most := s.most, last := s.last + 1, out := s.out ++ [s.last + 1], al := s.al ++ [(s.last + 1, ls, canS val)], has := putM s.has (s.last + 1) ls, rows := addRows s.rows (s.last + 1) ls }, s.last + 1, true, 0)
theorem Ok.new (m : Int) : Ok (St.new m) := by
  refine ⟨by simp [St.new], by simp [St.new], ?_, ?_, rfl, by simp [St.new], by simp [St.new], by simp [St.new]⟩
  · simp only [St.new, capS]; split <;> omega
  · simp only [St.new, capS]; simp; split <;> omega
end Go.Proofs.YtcndimkkojdflaaGreatDoor
set_option linter.unusedVariables false
set_option linter.unusedSimpArgs false
set_option maxHeartbeats 400000
set_option maxRecDepth 100000
namespace Go.Proofs.YtcndimkkojdflaaGreatDoor
open Go Go.X
end Go.Proofs.YtcndimkkojdflaaGreatDoor
set_option linter.unusedVariables false
set_option linter.unusedSimpArgs false
set_option maxHeartbeats 400000
set_option maxRecDepth 100000
namespace Go.Proofs.YtcndimkkojdflaaGreatDoor
open Go Go.X
def At (w0 w : World) (p : Nat) (s : St) : Prop := ∃ M, StoreAt w p s M ∧ (∀ b, M b → w0.heap.size ≤ b) ∧ Grow w0 w ∧ Ok s
theorem At.grow {w0 w w' : World} {p : Nat} {s : St} (h : At w0 w p s) (hg : Grow w w') : At w0 w' p s := by
  obtain ⟨M, h1, h2, h3, h4⟩ := h
  exact ⟨M, h1.grow hg, h2, h3.trans hg, h4⟩
theorem At.all {w0 w : World} {p : Nat} {s : St} (h : At w0 w p s) : Grow w0 w := by
  obtain ⟨M, h1, h2, h3, h4⟩ := h
  exact h3
theorem At.len {w0 w : World} {p : Nat} {s : St} (h : At w0 w p s) : Fx Tryz.prog 145 [pp p] w (fun u w' => u = .int .i64 s.al.length ∧ w = w') := by
  obtain ⟨M, h1, h2, h3, h4⟩ := h
  exact alertLen_ok w p s M h1
end Go.Proofs.YtcndimkkojdflaaGreatDoor
set_option linter.unusedVariables false
set_option linter.unusedSimpArgs false
set_option maxHeartbeats 400000
set_option maxRecDepth 100000
namespace Go.Proofs.YtcndimkkojdflaaGreatDoor
open Go Go.X
end Go.Proofs.YtcndimkkojdflaaGreatDoor
set_option linter.unusedVariables false
set_option linter.unusedSimpArgs false
set_option maxHeartbeats 400000
set_option maxRecDepth 100000
namespace Go.Proofs.YtcndimkkojdflaaGreatDoor
open Go Go.X
abbrev Ris (l : List Int) : Prop := l.Pairwise fun x y => x < y
theorem Ris.nodup {l : List Int} (h : Ris l) : l.Nodup := List.Pairwise.imp (fun h e => by omega) h
theorem ext_ris {l1 l2 : List Int} (h1 : Ris l1) (h2 : Ris l2) (h : ∀ x, x ∈ l1 ↔ x ∈ l2) : l1 = l2 := by
  have hp : l1.Perm l2 := (List.perm_ext_iff_of_nodup h1.nodup h2.nodup).2 h
  exact List.Perm.eq_of_pairwise (le := fun a b => a < b) (fun a b _ _ h1 h2 => by omega) h1 h2 hp
theorem compactUpTo_mem (d : Array Int) : ∀ m, m ≤ d.size → ∀ x, x ∈ Lib.compactUpTo d m ↔ ∃ j, j < m ∧ d[j]! = x := by
  intro m
  induction m with
  | zero => intro _ x; simp [Lib.compactUpTo]
  | succ m ih =>
    intro hm x
    rw [Lib.compactUpTo_succ, List.mem_append, ih (by omega)]
    constructor
    · rintro (⟨j, hj, e⟩ | h)
      · exact ⟨j, by omega, e⟩
      · split at h
        · simp at h; exact ⟨m, by omega, h.symm⟩
        · simp at h
    · rintro ⟨j, hj, e⟩
      by_cases hjm : j = m
      · subst hjm
        cases hk : Lib.keeps d j with
        | true => right; simp [e]
        | false =>
          left
          simp only [Lib.keeps, decide_eq_false_iff_not, not_or, Decidable.not_not] at hk
          exact ⟨j - 1, by omega, by rw [← hk.2]; exact e⟩
      · exact .inl ⟨j, by omega, e⟩
theorem mem_compact (zs : List Int) (x : Int) : x ∈ Lib.compact zs ↔ x ∈ zs := by
  unfold Lib.compact
  rw [compactUpTo_mem _ _ (by simp)]
  constructor
  · rintro ⟨j, hj, e⟩
    have : zs.toArray[j]! = zs[j] := by simp [hj]
    rw [this] at e; subst e; exact List.getElem_mem _
  · intro h
    obtain ⟨j, hj, e⟩ := List.getElem_of_mem h
    exact ⟨j, hj, by simp [hj, e]⟩
theorem compact_ris (zs : List Int) (h : zs.Pairwise fun x y => x ≤ y) : Ris (Lib.compact zs) := by
  unfold Lib.compact
  have key : ∀ m, m ≤ zs.length → Ris (Lib.compactUpTo zs.toArray m) := by
    intro m
    induction m with
    | zero => intro _; simp [Lib.compactUpTo]
    | succ m ih =>
      intro hm
      rw [Lib.compactUpTo_succ]
      refine List.pairwise_append.2 ⟨ih (by omega), by split <;> simp, fun a ha b hb => ?_⟩
      obtain ⟨j, hj, rfl⟩ := (compactUpTo_mem _ m (by simp; omega) a).1 ha
      split at hb
      · rename_i hk
        have hb := List.mem_singleton.1 hb
        subst hb
        simp only [Lib.keeps, decide_eq_true_eq] at hk
        have e1 : ∀ i, (hi : i < zs.length) → zs.toArray[i]! = zs[i] := fun i hi => by simp [hi]
        rcases hk with rfl | hk
        · omega
        · rw [e1 m (by omega), e1 (m - 1) (by omega)] at hk
          rw [e1 j (by omega), e1 m (by omega)]
          have hle := List.pairwise_iff_getElem.1 h
          have h2 := hle (m - 1) m (by omega) (by omega) (by omega)
          by_cases hjm : j = m - 1
          · subst hjm; omega
          · have h3 := hle j (m - 1) (by omega) (by omega) (by omega)
            omega
      · simp at hb
  exact key _ (Nat.le_refl _)
theorem sortI_le (xs : List Int) : (sortI xs).Pairwise fun x y => x ≤ y := by
  have := List.pairwise_mergeSort (le := fun x y : Int => decide (x ≤ y)) (fun a b c h1 h2 => by simp only [decide_eq_true_eq] at *; omega) (fun a b => by simp only [Bool.or_eq_true, decide_eq_true_eq]; omega) xs
  exact this.imp fun h => by simpa using h
theorem mem_mkRow {xs : List Int} {x : Int} : x ∈ mkRow xs ↔ x ∈ xs := by
  unfold mkRow
  rw [mem_compact]
  simp [sortI]
theorem mkRow_ris (xs : List Int) : Ris (mkRow xs) := compact_ris _ (sortI_le xs)
theorem mkRow_id {xs : List Int} (h : Ris xs) : mkRow xs = xs := ext_ris (mkRow_ris xs) h fun _ => mem_mkRow
end Go.Proofs.YtcndimkkojdflaaGreatDoor
set_option linter.unusedVariables false
set_option linter.unusedSimpArgs false
set_option maxHeartbeats 400000
set_option maxRecDepth 100000
namespace Go.Proofs.YtcndimkkojdflaaGreatDoor
open Go Go.X
def cutRow (row : List Int) (id : Int) : List Int := (mkRow row).filter fun y => decide (y ≠ id)
theorem mem_cutRow {row : List Int} {id x : Int} : x ∈ cutRow row id ↔ x ∈ row ∧ x ≠ id := by simp [cutRow, mem_mkRow]
theorem cutRow_ris (row : List Int) (id : Int) : Ris (cutRow row id) := (mkRow_ris row).sublist List.filter_sublist
def cutRow1 (id : Int) (r : List (LabK × List Int)) (x : Lab) : List (LabK × List Int) :=
  if cutRow ((lookM r (labK x)).getD []) id = [] then cutM (putM r (labK x) (cutRow ((lookM r (labK x)).getD []) id)) (labK x) else putM r (labK x) (cutRow ((lookM r (labK x)).getD []) id)
def dropRows (rows : List (LabK × List Int)) (id : Int) (ls : List Lab) : List (LabK × List Int) := ls.foldl (cutRow1 id) rows
theorem dropRows_snoc (rows : List (LabK × List Int)) (id : Int) (ls : List Lab) (x : Lab) : dropRows rows id (ls ++ [x]) = cutRow1 id (dropRows rows id ls) x := by simp [dropRows]
theorem cutRow_le (row : List Int) (id : Int) : (cutRow row id).length ≤ row.length := Nat.le_trans (List.length_filter_le _ _) (mkRow_le row)
theorem mem_cutM' {κ α : Type} [DecidableEq κ] {k : κ} {l : List (κ × α)} {t : κ × α} (h : t ∈ cutM l k) : t ∈ l := (cutM_sub k l).mem h
theorem cutRow1_bound {r : List (LabK × List Int)} {B : Nat} (h : ∀ t ∈ r, t.2.length ≤ B) (id : Int) (x : Lab) : ∀ t ∈ cutRow1 id r x, t.2.length ≤ B := by
  have hput : ∀ t ∈ putM r (labK x) (cutRow ((lookM r (labK x)).getD []) id), t.2.length ≤ B := fun t ht => by
    rcases mem_putM ht with h1 | rfl
    · exact h t h1
    · exact Nat.le_trans (cutRow_le _ _) (look_bound h (labK x))
  intro t ht
  unfold cutRow1 at ht
  split at ht
  · exact hput t (mem_cutM' ht)
  · exact hput t ht
theorem dropRows_bound {r : List (LabK × List Int)} {B : Nat} (h : ∀ t ∈ r, t.2.length ≤ B) (id : Int) (ls : List Lab) : ∀ t ∈ dropRows r id ls, t.2.length ≤ B := by
  induction ls generalizing r with
  | nil => exact h
  | cons x ls ih => exact ih (cutRow1_bound h id x)
structure RowsOk (rows : List (LabK × List Int)) : Prop where
  nd : (rows.map (·.1)).Nodup
  row : ∀ t ∈ rows, Ris t.2 ∧ t.2 ≠ []
theorem mkRow_ne {xs : List Int} {x : Int} (h : x ∈ xs) : mkRow xs ≠ [] := fun e => by
  have := mem_mkRow.2 h
  rw [e] at this
  cases this
theorem RowsOk.add1 {rows : List (LabK × List Int)} (h : RowsOk rows) (id : Int) (x : Lab) : RowsOk (addRow1 id rows x) := by
  refine ⟨putM_nodup h.nd, fun t ht => ?_⟩
  rcases mem_putM ht with h1 | rfl
  · exact h.row t h1
  · exact ⟨mkRow_ris _, mkRow_ne (x := id) (by simp)⟩
theorem RowsOk.cut1 {rows : List (LabK × List Int)} (h : RowsOk rows) (id : Int) (x : Lab) : RowsOk (cutRow1 id rows x) := by
  unfold cutRow1
  have hp := putM_nodup (k := labK x) (v := cutRow ((lookM rows (labK x)).getD []) id) h.nd
  split
  · refine ⟨cutM_nodup hp, fun t ht => ?_⟩
    obtain ⟨h1, h2⟩ := (mem_cutM hp).1 ht
    rcases mem_putM h1 with h3 | rfl
    · exact h.row t h3
    · exact absurd rfl h2
  · rename_i hne
    refine ⟨hp, fun t ht => ?_⟩
    rcases mem_putM ht with h3 | rfl
    · exact h.row t h3
    · exact ⟨cutRow_ris _ _, hne⟩
theorem look_add1 (rows : List (LabK × List Int)) (id : Int) (x : Lab) (k : LabK) (j : Int) : j ∈ (lookM (addRow1 id rows x) k).getD [] ↔ j ∈ (lookM rows k).getD [] ∨ j = id ∧ labK x = k := by
  unfold addRow1
  rw [lookM_putM]
  by_cases hk : k = labK x
  · subst hk
    simp [mem_mkRow]
  · rw [if_neg hk]
    simp [Ne.symm hk]
theorem look_cut1 {rows : List (LabK × List Int)} (h : RowsOk rows) (id : Int) (x : Lab) (k : LabK) (j : Int) : j ∈ (lookM (cutRow1 id rows x) k).getD [] ↔ j ∈ (lookM rows k).getD [] ∧ ¬ (j = id ∧ labK x = k) := by
  have hp := putM_nodup (k := labK x) (v := cutRow ((lookM rows (labK x)).getD []) id) h.nd
  have e : (lookM (cutRow1 id rows x) k).getD [] = if k = labK x then cutRow ((lookM rows (labK x)).getD []) id else (lookM rows k).getD [] := by
    unfold cutRow1
    split
    · rename_i h0
      rw [lookM_cutM hp, lookM_putM]
      split
      · simp [h0]
      · rfl
    · rw [lookM_putM]
      split <;> rfl
  rw [e]
  by_cases hk : k = labK x
  · subst hk
    simp [mem_cutRow]
  · rw [if_neg hk]
    simp [Ne.symm hk]
theorem add_spec (id : Int) (ls : List Lab) : ∀ {rows : List (LabK × List Int)}, RowsOk rows → RowsOk (addRows rows id ls) ∧ ∀ k j, j ∈ (lookM (addRows rows id ls) k).getD [] ↔ j ∈ (lookM rows k).getD [] ∨ j = id ∧ ∃ x ∈ ls, labK x = k := by
  induction ls with
  | nil => intro rows h; exact ⟨h, by simp [addRows]⟩
  | cons x ls ih =>
    intro rows h
    obtain ⟨h1, h2⟩ := ih (h.add1 id x)
    refine ⟨h1, fun k j => ?_⟩
    have := h2 k j
    rw [look_add1] at this
    rw [show addRows rows id (x :: ls) = addRows (addRow1 id rows x) id ls from rfl, this]
    constructor
    · rintro ((h | ⟨rfl, h⟩) | ⟨rfl, y, hy, h⟩)
      · exact .inl h
      · exact .inr ⟨rfl, x, by simp, h⟩
      · exact .inr ⟨rfl, y, by simp [hy], h⟩
    · rintro (h | ⟨rfl, y, hy, h⟩)
      · exact .inl (.inl h)
      · rcases List.mem_cons.1 hy with rfl | hy
        · exact .inl (.inr ⟨rfl, h⟩)
        · exact .inr ⟨rfl, y, hy, h⟩
theorem drop_spec (id : Int) (ls : List Lab) : ∀ {rows : List (LabK × List Int)}, RowsOk rows → RowsOk (dropRows rows id ls) ∧ ∀ k j, j ∈ (lookM (dropRows rows id ls) k).getD [] ↔ j ∈ (lookM rows k).getD [] ∧ ¬ (j = id ∧ ∃ x ∈ ls, labK x = k) := by
  induction ls with
  | nil => intro rows h; exact ⟨h, by simp [dropRows]⟩
  | cons x ls ih =>
    intro rows h
    obtain ⟨h1, h2⟩ := ih (h.cut1 id x)
    refine ⟨h1, fun k j => ?_⟩
    have := h2 k j
    rw [look_cut1 h] at this
    rw [show dropRows rows id (x :: ls) = dropRows (cutRow1 id rows x) id ls from rfl, this]
    constructor
    · rintro ⟨⟨a, b⟩, c⟩
      refine ⟨a, ?_⟩
      rintro ⟨rfl, y, hy, h⟩
      rcases List.mem_cons.1 hy with rfl | hy
      · exact b ⟨rfl, h⟩
      · exact c ⟨rfl, y, hy, h⟩
    · rintro ⟨a, b⟩
      exact ⟨⟨a, fun ⟨e, h⟩ => b ⟨e, x, by simp, h⟩⟩, fun ⟨e, y, hy, h⟩ => b ⟨e, y, by simp [hy], h⟩⟩
structure IxI (has : List (Int × List Lab)) (rows : List (LabK × List Int)) : Prop where
  nd : (has.map (·.1)).Nodup
  ok : RowsOk rows
  mem : ∀ k id, id ∈ (lookM rows k).getD [] ↔ ∃ ls, (id, ls) ∈ has ∧ ∃ x ∈ ls, labK x = k
theorem IxI.nil : IxI [] [] := ⟨by simp, ⟨by simp, by simp⟩, by simp [lookM, placeM]⟩
theorem IxI.add {has : List (Int × List Lab)} {rows : List (LabK × List Int)} (h : IxI has rows) {id : Int} (hn : lookM has id = none) (ls : List Lab) : IxI (putM has id ls) (addRows rows id ls) := by
  obtain ⟨h1, h2⟩ := add_spec id ls h.ok
  refine ⟨putM_nodup h.nd, h1, fun k j => ?_⟩
  rw [h2, h.mem, putM_new hn]
  simp only [List.mem_append, List.mem_singleton, Prod.mk.injEq]
  constructor
  · rintro (⟨l, a, b⟩ | ⟨rfl, b⟩)
    · exact ⟨l, .inl a, b⟩
    · exact ⟨ls, .inr ⟨rfl, rfl⟩, b⟩
  · rintro ⟨l, a | ⟨rfl, rfl⟩, b⟩
    · exact .inl ⟨l, a, b⟩
    · exact .inr ⟨rfl, b⟩
theorem IxI.drop {has : List (Int × List Lab)} {rows : List (LabK × List Int)} (h : IxI has rows) (id : Int) : IxI (cutM has id) (dropRows rows id ((lookM has id).getD [])) := by
  obtain ⟨h1, h2⟩ := drop_spec id ((lookM has id).getD []) h.ok
  refine ⟨cutM_nodup h.nd, h1, fun k j => ?_⟩
  rw [h2, h.mem]
  constructor
  · rintro ⟨⟨l, a, b⟩, c⟩
    refine ⟨l, (mem_cutM h.nd).2 ⟨a, fun e => c ⟨e, ?_⟩⟩, b⟩
    simp only at e
    subst e
    rw [(lookM_iff h.nd).2 a]
    exact b
  · rintro ⟨l, a, b⟩
    obtain ⟨a1, a2⟩ := (mem_cutM h.nd).1 a
    exact ⟨⟨l, a1, b⟩, fun c => a2 c.1⟩
theorem IxI.keys {has : List (Int × List Lab)} {rows : List (LabK × List Int)} (h : IxI has rows) (k : LabK) : k ∈ rows.map (·.1) ↔ ∃ t ∈ has, ∃ x ∈ t.2, labK x = k := by
  constructor
  · intro hk
    obtain ⟨t, ht, rfl⟩ := List.mem_map.1 hk
    obtain ⟨_, hne⟩ := h.ok.row t ht
    obtain ⟨id, hid⟩ := List.exists_mem_of_ne_nil _ hne
    have hl : lookM rows t.1 = some t.2 := (lookM_iff h.ok.nd).2 ht
    obtain ⟨ls, a, b⟩ := (h.mem t.1 id).1 (by rw [hl]; exact hid)
    exact ⟨(id, ls), a, b⟩
  · rintro ⟨t, ht, hx⟩
    have hm := (h.mem k t.1).2 ⟨t.2, ht, hx⟩
    refine Classical.byContradiction fun hk => ?_
    rw [lookM_none.2 hk] at hm
    cases hm
theorem IxI.len {has : List (Int × List Lab)} {rows : List (LabK × List Int)} (h : IxI has rows) {D : List Lab} (hD : D.Nodup) (hm : ∀ x, x ∈ D ↔ ∃ t ∈ has, x ∈ t.2) : rows.length = D.length := by
  have hinj : ∀ x y : Lab, labK x = labK y → x = y := fun x y e => by
    cases x; cases y
    simp only [labK, Prod.mk.injEq] at e
    obtain ⟨rfl, rfl⟩ := e
    rfl
  have hD' : (D.map labK).Nodup := by
    refine List.pairwise_map.2 (hD.imp fun {a b} hne e => hne (hinj a b e))
  have hp : (rows.map (·.1)).Perm (D.map labK) := (List.perm_ext_iff_of_nodup h.ok.nd hD').2 fun k => by
    rw [h.keys, List.mem_map]
    constructor
    · rintro ⟨t, ht, x, hx, e⟩
      exact ⟨x, (hm x).2 ⟨t, ht, hx⟩, e⟩
    · rintro ⟨x, hx, e⟩
      obtain ⟨t, ht, hx'⟩ := (hm x).1 hx
      exact ⟨t, ht, x, hx', e⟩
  simpa using hp.length_eq
end Go.Proofs.YtcndimkkojdflaaGreatDoor
set_option linter.unusedVariables false
set_option linter.unusedSimpArgs false
set_option maxHeartbeats 1000000
set_option maxRecDepth 100000
namespace Go.Proofs.YtcndimkkojdflaaGreatDoor
open Go Go.X
def NmTo (s : ByteArray) (k : Nat) : Prop := (∀ i, i < k → chS (bt s i).toNat = true) ∧ (0 < k → letS (bt s 0).toNat = true)
theorem NmTo.no {s : ByteArray} {k : Nat} (hk : k < s.size) (h : letS (bt s k).toNat = false) (h' : k = 0 ∨ ¬ (48 ≤ ((bt s k).toNat : Int) ∧ ((bt s k).toNat : Int) ≤ 57)) : nameS s = false := by
  rcases h' with rfl | h'
  · exact name_no2 h
  · exact name_no3 hk (by simp [chS, h]; omega)
theorem NmTo.step {s : ByteArray} {k : Nat} (h : NmTo s k) (h' : letS (bt s k).toNat = true ∨ k ≠ 0 ∧ 48 ≤ ((bt s k).toNat : Int) ∧ ((bt s k).toNat : Int) ≤ 57) : NmTo s (k + 1) := by
  refine ⟨fun i hi => ?_, fun _ => ?_⟩
  · by_cases e : i = k
    · subst e
      rcases h' with h' | h'
      · simp [chS, h']
      · simp [chS]; exact .inr (by omega)
    · exact h.1 i (by omega)
  · by_cases e : k = 0
    · subst e
      rcases h' with h' | h'
      · exact h'
      · exact absurd rfl h'.1
    · exact h.2 (by omega)
end Go.Proofs.YtcndimkkojdflaaGreatDoor
