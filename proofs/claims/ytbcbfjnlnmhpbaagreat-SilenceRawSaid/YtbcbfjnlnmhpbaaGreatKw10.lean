/- What the claim stands on, part 10. Of own lemmas only those that it reaches. -/
import Derived.Test.YtbcbfjnlnmhpbaaGreatKw9
set_option linter.unusedVariables false
set_option linter.unusedSimpArgs false
set_option maxHeartbeats 3200000
set_option maxRecDepth 100000
namespace Go.Proofs.YtbcbfjnlnmhpbaaGreat
open Go Go.X
theorem sameSils_ok (l1 l2 : List Sil) (v1 v2 : Value) (w : World) (h1 : Sl No w v1 8 l1.length (l1.flatMap silC)) (h2 : Sl No w v2 8 l2.length (l2.flatMap silC)) (s1 : ∀ a ∈ l1, SlM No w a.mv a.ms) (s2 : ∀ a ∈ l2, SlM No w a.mv a.ms) (he : l1.map pubT = l2.map pubT) :
    Fx Tryz.prog 25 [v1, v2] w (fun u w' => u = .bool true ∧ Grow w w') := by
  obtain ⟨ad1, c1, rfl⟩ := h1.shape
  obtain ⟨ad2, c2, rfl⟩ := h2.shape
  have hbig := h1.big
  have hl : l1.length = l2.length := by have := congrArg List.length he; simpa using this
  refine enter Tryz.func25 rfl rfl rfl _ (Pick.sub (l := [0, 1]) (.cons rfl (.cons rfl .nil))) ?_
  refine RK.seq ?_
  refine RK.region ?_
  refine RL.p rfl rfl ?_
  refine RL.done ?_
  iterate 2 refine RK.seq ?_
  refine RK.region ?_
  refine RL.p rfl rfl ?_
  refine RL.q (.free rfl) rfl rfl (Yld.lenSl u44 rfl) ?_
  refine RL.p rfl rfl ?_
  refine RL.q (.free rfl) rfl rfl (Yld.lenSl u44 rfl) ?_
  refine RL.p rfl rfl ?_
  refine RL.done ?_
  refine RK.condF (hcF rfl (decide_eq_false (by omega))) ?_
  refine RK.skip ?_
  iterate 2 refine RK.seq ?_
  refine RK.region ?_
  refine RL.p rfl rfl ?_
  refine RL.done ?_
  refine RK.block ?_
  refine RK.loop (fun k : Nat => [(0, .slice ad1 l1.length c1), (1, .slice ad2 l2.length c2), (5, .int .i64 k)]) (fun k w' => Grow w w' ∧ k ≤ l1.length) (fun k => l1.length - k) 0 ⟨rfl, rfl, rfl, trivial⟩ ⟨Mod.refl _ _, by omega⟩ (fun k w' hI ih => ?_)
  obtain ⟨hg, hk⟩ := hI
  iterate 2 refine RK.seq ?_
  refine RK.region ?_
  iterate 2 refine RL.p rfl rfl ?_
  refine RL.q (.free rfl) rfl rfl (Yld.lenSl u44 rfl) ?_
  refine RL.p rfl rfl ?_
  refine RL.done ?_
  first | refine RK.condD rfl (fun h16 => ?_) (fun h16 => ?_) | refine RK.condN rfl (fun h16 => ?_) (fun h16 => ?_) | refine RK.cond rfl (fun h16 => ?_) (fun h16 => ?_)
  · obtain ⟨x, hx⟩ : ∃ x, l1[k]? = some x := ⟨l1[k]'(by omega), List.getElem?_eq_getElem (by omega)⟩
    obtain ⟨y, hy⟩ : ∃ y, l2[k]? = some y := ⟨l2[k]'(by omega), List.getElem?_eq_getElem (by omega)⟩
    have hxy : pubT x = pubT y := by
        have := congrArg (fun l => l[k]?) he
        simpa [hx, hy] using this
    obtain ⟨b1, o1, c1', he1, nb1, _, hc1⟩ := (h1.off (M' := fun b => w.heap.size ≤ b) (by omega) (fun b hb e => by omega)).elem silC_len hx
    obtain ⟨b2, o2, c2', he2, nb2, _, hc2⟩ := (h2.off (M' := fun b => w.heap.size ≤ b) (by omega) (fun b hb e => by omega)).elem silC_len hy
    cases he1
    cases he2
    have sx := s1 x (List.mem_of_getElem? hx)
    have sy := s2 y (List.mem_of_getElem? hy)
    obtain ⟨id, ver, sta, sto, mv, ms, bd⟩ := x
    obtain ⟨id', ver', sta', sto', mv', ms', bd'⟩ := y
    simp only [pubT, pubZ, Prod.mk.injEq, Slz.mk.injEq] at hxy
    obtain ⟨⟨rfl, rfl, rfl, rfl, rfl⟩, rfl⟩ := hxy
    simp only at sx sy
    have hzg := hg.size
    refine RK.skip ?_
    refine RK.seq ?_
    refine RK.block ?_
    refine RK.seq ?_
    refine RK.drawF (fun b => w.heap.size ≤ b) [(0, false), (1, false), (2, false), (3, false), (4, false), (5, false), (6, false), (7, false)] 8 9 [(9, true), (10, true), (11, true)] [(8, true), (10, true), (11, true)] [11] mixed (by kernel_rfl) ?_
    iterate 2 refine DL.p rfl rfl rfl ?_
    refine DL.qf rfl (.free rfl) rfl rfl (Yld.indexAddrN u44 i41 rfl rfl (by omega)) ?_
    refine DL.q rfl (.free rfl) rfl rfl rfl (Yld.loadN (cs := silC ⟨id, ver, sta, sto, mv, ms, bd⟩) a41 rfl (atNM (fun q z hq => hg.cell (hc1 q z hq) (fun h => h)) (nb1))) (Mod.drew _ _) ?_
    iterate 2 refine DL.p rfl rfl rfl ?_
    refine DL.qf rfl (.free rfl) rfl rfl (Yld.indexAddrN u44 i41 rfl rfl (by omega)) ?_
    refine DL.q rfl (.free rfl) rfl rfl rfl (Yld.loadN (cs := silC ⟨id, ver, sta, sto, mv', ms, bd⟩) a41 rfl (atNM (fun q z hq => hg.cell (hc2 q z hq) (fun h => h)) (nb2))) (Mod.drew _ _) ?_
    refine DL.fork ?_ ?_
    · refine DL.op rfl (.free rfl) rfl rfl (Does.alloc i41) ?_
      rintro _ w1 ⟨b6, rfl, hn6⟩
      refine ⟨Mod.any' ((Mod.drew No _).trans hn6.grow), ?_⟩
      refine DL.op rfl (.free rfl) rfl rfl (Does.alloc i41) ?_
      rintro _ w2 ⟨b7, rfl, hn7⟩
      refine ⟨Mod.any' (((Mod.drew No _).trans hn6.grow).trans hn7.grow), ?_⟩
      have ha6 := hn6.at_
      have ha7 := hn7.at_
      have hz6 := hn6.grow.size
      have hz7 := hn7.grow.size
      have hl6 := hn6.blk.lt
      refine DL.op' rfl (.free rfl) rfl (Does.storeN i41 rfl rfl rfl (silC_one (s := ⟨id, ver, sta, sto, mv, ms, bd⟩) sx) (hn6.blk.mod hn7.grow (fun h => h)) (Nat.le_refl 8)) ?_
      rintro _ w3 ⟨hb3, hm3, _⟩
      refine ⟨(Mod.any' (((Mod.drew No _).trans hn6.grow).trans hn7.grow)).trans (hm3.mono fun b _ e => by have e' : b = b6 := e; simp only [World.drew] at *; omega), ?_⟩
      refine DL.opT rfl (.free rfl) rfl rfl (Does.storeN i41 rfl rfl rfl (silC_one (s := ⟨id, ver, sta, sto, mv', ms, bd⟩) sy) (hn7.blk.mod hm3 (fun e => by omega)) (Nat.le_refl 8)) ?_
      rintro _ w4 ⟨hb4, hm4, _⟩
      have hB6 : Blk w4 b6 41 [.int .i64 id, .int .i64 ver, .int .u64 sta, .int .u64 sto, mv, .bool bd.all, .float .f64 bd.lo, .float .f64 bd.hi] := Blk.mod (M := fun b => b = b7) hb3 hm4 (fun e => by omega)
      have hB7 : Blk w4 b7 41 [.int .i64 id, .int .i64 ver, .int .u64 sta, .int .u64 sto, mv', .bool bd.all, .float .f64 bd.lo, .float .f64 bd.hi] := hb4
      have hgw4 : Grow w' w4 := ((((Mod.drew No _).trans hn6.grow).trans hn7.grow).then hm3 (fun b hb e => by have e' : b = b6 := e; simp only [World.drew] at *; omega)).then hm4 (fun b hb e => by have e' : b = b7 := e; simp only [World.drew] at *; omega)
      have hg4 : Grow w w4 := hg.trans hgw4
      refine DL.done ?_
      refine RK.seq ?_
      refine RK.region ?_
      refine RL.q (.free rfl) rfl rfl (Yld.fieldAddr fo41_0 rfl) ?_
      refine RL.q (.free rfl) rfl rfl (Yld.load p3 rfl (at1 (hB6.cell rfl))) ?_
      refine RL.q (.free rfl) rfl rfl (Yld.fieldAddr fo41_0 rfl) ?_
      refine RL.q (.free rfl) rfl rfl (Yld.load p3 rfl (at1 (hB7.cell rfl))) ?_
      iterate 2 refine RL.p rfl rfl ?_
      refine RL.knownF (d := 32) rfl rfl (by simp) ?_
      refine RL.q (.yes rfl rfl rfl) rfl rfl (Yld.fieldAddr fo41_1 rfl) ?_
      refine RL.q (.yes rfl rfl rfl) rfl rfl (Yld.load p3 rfl (at1 (hB6.cell rfl))) ?_
      refine RL.q (.yes rfl rfl rfl) rfl rfl (Yld.fieldAddr fo41_1 rfl) ?_
      refine RL.q (.yes rfl rfl rfl) rfl rfl (Yld.load p3 rfl (at1 (hB7.cell rfl))) ?_
      refine RL.q (.yes rfl rfl rfl) rfl rfl (Yld.pure rfl) ?_
      iterate 2 refine RL.p rfl rfl ?_
      refine RL.knownF (d := 39) rfl rfl (by simp) ?_
      refine RL.q (.yes rfl rfl rfl) rfl rfl (Yld.fieldAddr fo41_2 rfl) ?_
      refine RL.q (.yes rfl rfl rfl) rfl rfl (Yld.load p22 rfl (at1 (hB6.cell rfl))) ?_
      refine RL.q (.yes rfl rfl rfl) rfl rfl (Yld.fieldAddr fo41_2 rfl) ?_
      refine RL.q (.yes rfl rfl rfl) rfl rfl (Yld.load p22 rfl (at1 (hB7.cell rfl))) ?_
      refine RL.q (.yes rfl rfl rfl) rfl rfl (Yld.pure rfl) ?_
      iterate 2 refine RL.p rfl rfl ?_
      refine RL.knownF (d := 46) rfl rfl (by simp) ?_
      refine RL.q (.yes rfl rfl rfl) rfl rfl (Yld.fieldAddr fo41_3 rfl) ?_
      refine RL.q (.yes rfl rfl rfl) rfl rfl (Yld.load p22 rfl (at1 (hB6.cell rfl))) ?_
      refine RL.q (.yes rfl rfl rfl) rfl rfl (Yld.fieldAddr fo41_3 rfl) ?_
      refine RL.q (.yes rfl rfl rfl) rfl rfl (Yld.load p22 rfl (at1 (hB7.cell rfl))) ?_
      refine RL.q (.yes rfl rfl rfl) rfl rfl (Yld.pure rfl) ?_
      iterate 2 refine RL.p rfl rfl ?_
      refine RL.knownF (d := 53) rfl rfl (by simp) ?_
      refine RL.q (.yes rfl rfl rfl) rfl rfl (Yld.fieldAddr fo41_4 rfl) ?_
      refine RL.q (.yes rfl rfl rfl) rfl rfl (Yld.load p28 rfl (at1 (hB6.cell rfl))) ?_
      refine RL.q (.yes rfl rfl rfl) rfl rfl (Yld.fieldAddr fo41_4 rfl) ?_
      refine RL.q (.yes rfl rfl rfl) rfl rfl (Yld.load p28 rfl (at1 (hB7.cell rfl))) ?_
      refine RL.op (.yes rfl rfl rfl) rfl rfl (Does.call rfl e65 (sameM_ok No No ms _ _ _ (sx.mod hg4) (sy.mod hg4))) ?_
      rintro _ w5 ⟨rfl, hg5⟩
      refine RL.q (.yes rfl rfl rfl) rfl rfl (Yld.pure rfl) ?_
      iterate 2 refine RL.p rfl rfl ?_
      refine RL.knownF (d := 61) rfl rfl (rfl) ?_
      refine RL.q (.yes rfl rfl rfl) rfl rfl (Yld.fieldAddr fo41_5 rfl) ?_
      refine RL.q (.yes rfl rfl rfl) rfl rfl (Yld.loadN (cs := bdC bd) a32 rfl (atN (fldN (hB6.mod hg5 (fun h => h)) 5 3))) ?_
      refine RL.q (.yes rfl rfl rfl) rfl rfl (Yld.fieldAddr fo41_5 rfl) ?_
      refine RL.q (.yes rfl rfl rfl) rfl rfl (Yld.loadN (cs := bdC bd) a32 rfl (atN (fldN (hB7.mod hg5 (fun h => h)) 5 3))) ?_
      refine RL.op (.yes rfl rfl rfl) rfl rfl (Does.call rfl e66 (sameBand_ok bd _)) ?_
      rintro _ w6 ⟨rfl, hg6⟩
      refine RL.q (.yes rfl rfl rfl) rfl rfl (Yld.pure rfl) ?_
      refine RL.p rfl rfl ?_
      refine RL.done ?_
      refine RK.condF (hcF rfl (rfl)) ?_
      refine RK.skip ?_
      refine RK.inBlock ?_
      refine RK.region ?_
      iterate 2 refine RL.p rfl rfl ?_
      refine RL.re (d := 18) rfl rfl (succ_i64 (by omega)) ?_
      refine RL.p rfl rfl ?_
      refine RL.done ?_
      exact RK.back (ih (k + 1) _ ⟨(hg4.trans hg5).trans hg6, by omega⟩ (by omega)) ⟨rfl, rfl, rfl, trivial⟩
    · refine DL.op rfl (.free rfl) rfl rfl (Does.alloc i41) ?_
      rintro _ w1 ⟨b7, rfl, hn7⟩
      refine ⟨Mod.any' ((Mod.drew No _).trans hn7.grow), ?_⟩
      refine DL.op rfl (.free rfl) rfl rfl (Does.alloc i41) ?_
      rintro _ w2 ⟨b6, rfl, hn6⟩
      refine ⟨Mod.any' (((Mod.drew No _).trans hn7.grow).trans hn6.grow), ?_⟩
      have ha6 := hn6.at_
      have ha7 := hn7.at_
      have hz6 := hn6.grow.size
      have hz7 := hn7.grow.size
      have hl6 := hn7.blk.lt
      refine DL.op' rfl (.free rfl) rfl (Does.storeN i41 rfl rfl rfl (silC_one (s := ⟨id, ver, sta, sto, mv, ms, bd⟩) sx) hn6.blk (Nat.le_refl 8)) ?_
      rintro _ w3 ⟨hb3, hm3, _⟩
      refine ⟨(Mod.any' (((Mod.drew No _).trans hn7.grow).trans hn6.grow)).trans (hm3.mono fun b _ e => by have e' : b = b6 := e; simp only [World.drew] at *; omega), ?_⟩
      refine DL.opT rfl (.free rfl) rfl rfl (Does.storeN i41 rfl rfl rfl (silC_one (s := ⟨id, ver, sta, sto, mv', ms, bd⟩) sy) ((hn7.blk.mod hn6.grow (fun h => h)).mod hm3 (fun e => by omega)) (Nat.le_refl 8)) ?_
      rintro _ w4 ⟨hb4, hm4, _⟩
      have hB6 : Blk w4 b6 41 [.int .i64 id, .int .i64 ver, .int .u64 sta, .int .u64 sto, mv, .bool bd.all, .float .f64 bd.lo, .float .f64 bd.hi] := Blk.mod (M := fun b => b = b7) hb3 hm4 (fun e => by omega)
      have hB7 : Blk w4 b7 41 [.int .i64 id, .int .i64 ver, .int .u64 sta, .int .u64 sto, mv', .bool bd.all, .float .f64 bd.lo, .float .f64 bd.hi] := hb4
      have hgw4 : Grow w' w4 := ((((Mod.drew No _).trans hn7.grow).trans hn6.grow).then hm3 (fun b hb e => by have e' : b = b6 := e; simp only [World.drew] at *; omega)).then hm4 (fun b hb e => by have e' : b = b7 := e; simp only [World.drew] at *; omega)
      have hg4 : Grow w w4 := hg.trans hgw4
      refine DL.done ?_
      refine RK.seq ?_
      refine RK.region ?_
      refine RL.q (.free rfl) rfl rfl (Yld.fieldAddr fo41_0 rfl) ?_
      refine RL.q (.free rfl) rfl rfl (Yld.load p3 rfl (at1 (hB6.cell rfl))) ?_
      refine RL.q (.free rfl) rfl rfl (Yld.fieldAddr fo41_0 rfl) ?_
      refine RL.q (.free rfl) rfl rfl (Yld.load p3 rfl (at1 (hB7.cell rfl))) ?_
      iterate 2 refine RL.p rfl rfl ?_
      refine RL.knownF (d := 32) rfl rfl (by simp) ?_
      refine RL.q (.yes rfl rfl rfl) rfl rfl (Yld.fieldAddr fo41_1 rfl) ?_
      refine RL.q (.yes rfl rfl rfl) rfl rfl (Yld.load p3 rfl (at1 (hB6.cell rfl))) ?_
      refine RL.q (.yes rfl rfl rfl) rfl rfl (Yld.fieldAddr fo41_1 rfl) ?_
      refine RL.q (.yes rfl rfl rfl) rfl rfl (Yld.load p3 rfl (at1 (hB7.cell rfl))) ?_
      refine RL.q (.yes rfl rfl rfl) rfl rfl (Yld.pure rfl) ?_
      iterate 2 refine RL.p rfl rfl ?_
      refine RL.knownF (d := 39) rfl rfl (by simp) ?_
      refine RL.q (.yes rfl rfl rfl) rfl rfl (Yld.fieldAddr fo41_2 rfl) ?_
      refine RL.q (.yes rfl rfl rfl) rfl rfl (Yld.load p22 rfl (at1 (hB6.cell rfl))) ?_
      refine RL.q (.yes rfl rfl rfl) rfl rfl (Yld.fieldAddr fo41_2 rfl) ?_
      refine RL.q (.yes rfl rfl rfl) rfl rfl (Yld.load p22 rfl (at1 (hB7.cell rfl))) ?_
      refine RL.q (.yes rfl rfl rfl) rfl rfl (Yld.pure rfl) ?_
      iterate 2 refine RL.p rfl rfl ?_
      refine RL.knownF (d := 46) rfl rfl (by simp) ?_
      refine RL.q (.yes rfl rfl rfl) rfl rfl (Yld.fieldAddr fo41_3 rfl) ?_
      refine RL.q (.yes rfl rfl rfl) rfl rfl (Yld.load p22 rfl (at1 (hB6.cell rfl))) ?_
      refine RL.q (.yes rfl rfl rfl) rfl rfl (Yld.fieldAddr fo41_3 rfl) ?_
      refine RL.q (.yes rfl rfl rfl) rfl rfl (Yld.load p22 rfl (at1 (hB7.cell rfl))) ?_
      refine RL.q (.yes rfl rfl rfl) rfl rfl (Yld.pure rfl) ?_
      iterate 2 refine RL.p rfl rfl ?_
      refine RL.knownF (d := 53) rfl rfl (by simp) ?_
      refine RL.q (.yes rfl rfl rfl) rfl rfl (Yld.fieldAddr fo41_4 rfl) ?_
      refine RL.q (.yes rfl rfl rfl) rfl rfl (Yld.load p28 rfl (at1 (hB6.cell rfl))) ?_
      refine RL.q (.yes rfl rfl rfl) rfl rfl (Yld.fieldAddr fo41_4 rfl) ?_
      refine RL.q (.yes rfl rfl rfl) rfl rfl (Yld.load p28 rfl (at1 (hB7.cell rfl))) ?_
      refine RL.op (.yes rfl rfl rfl) rfl rfl (Does.call rfl e65 (sameM_ok No No ms _ _ _ (sx.mod hg4) (sy.mod hg4))) ?_
      rintro _ w5 ⟨rfl, hg5⟩
      refine RL.q (.yes rfl rfl rfl) rfl rfl (Yld.pure rfl) ?_
      iterate 2 refine RL.p rfl rfl ?_
      refine RL.knownF (d := 61) rfl rfl (rfl) ?_
      refine RL.q (.yes rfl rfl rfl) rfl rfl (Yld.fieldAddr fo41_5 rfl) ?_
      refine RL.q (.yes rfl rfl rfl) rfl rfl (Yld.loadN (cs := bdC bd) a32 rfl (atN (fldN (hB6.mod hg5 (fun h => h)) 5 3))) ?_
      refine RL.q (.yes rfl rfl rfl) rfl rfl (Yld.fieldAddr fo41_5 rfl) ?_
      refine RL.q (.yes rfl rfl rfl) rfl rfl (Yld.loadN (cs := bdC bd) a32 rfl (atN (fldN (hB7.mod hg5 (fun h => h)) 5 3))) ?_
      refine RL.op (.yes rfl rfl rfl) rfl rfl (Does.call rfl e66 (sameBand_ok bd _)) ?_
      rintro _ w6 ⟨rfl, hg6⟩
      refine RL.q (.yes rfl rfl rfl) rfl rfl (Yld.pure rfl) ?_
      refine RL.p rfl rfl ?_
      refine RL.done ?_
      refine RK.condF (hcF rfl (rfl)) ?_
      refine RK.skip ?_
      refine RK.inBlock ?_
      refine RK.region ?_
      iterate 2 refine RL.p rfl rfl ?_
      refine RL.re (d := 18) rfl rfl (succ_i64 (by omega)) ?_
      refine RL.p rfl rfl ?_
      refine RL.done ?_
      exact RK.back (ih (k + 1) _ ⟨(hg4.trans hg5).trans hg6, by omega⟩ (by omega)) ⟨rfl, rfl, rfl, trivial⟩
  · refine RK.exit rfl ?_
    refine RK.seq ?_
    refine RK.region ?_
    refine RL.p rfl rfl ?_
    refine RL.done ?_
    refine RK.ret_of Tryz.func25 (res1 rfl rfl) ?_ _
    exact ⟨_, rfl, rfl, hg⟩
end Go.Proofs.YtbcbfjnlnmhpbaaGreat
set_option linter.unusedVariables false
set_option linter.unusedSimpArgs false
set_option maxHeartbeats 3200000
set_option maxRecDepth 100000
namespace Go.Proofs.YtbcbfjnlnmhpbaaGreat
open Go Go.X
theorem Gz.update {s : SS} (g : Gz s) (now id a b : Int) (hb : 0 ≤ b) (ms : List Mt) (bd : Bd) : Gz (updateS s now id a b ms bd).1 := by
  unfold updateS
  split
  · exact g
  · split
    · exact g
    · split
      · exact g
      · rename_i x hx
        split
        · exact g
        · split
          · exact g
          · rename_i hf
            have hsp := fits_span hf
            split
            · exact g
            · exact g.turn hx rfl ⟨hb, hsp.2.2⟩
end Go.Proofs.YtbcbfjnlnmhpbaaGreat
set_option linter.unusedVariables false
set_option linter.unusedSimpArgs false
set_option maxHeartbeats 3200000
set_option maxRecDepth 100000
namespace Go.Proofs.YtbcbfjnlnmhpbaaGreat
open Go Go.X
def SzS (s : SS) : Prop := ∀ a ∈ s.sl, (∀ m ∈ a.ms, m.name.size ≤ 9223372036854775807) ∧ a.ms.length ≤ 1000000
def SzM (ms : List Mt) : Prop := (∀ m ∈ ms, m.name.size ≤ 9223372036854775807) ∧ ms.length ≤ 1000000
theorem SzS.make {s : SS} (h : SzS s) (now a b : Int) {ms : List Mt} (hm : SzM ms) (bd : Bd) : SzS (makeS s now a b ms bd).1 := by
  unfold makeS
  split
  · exact h
  · split
    · exact h
    · split
      · exact h
      · intro x hx
        rcases List.mem_append.1 hx with hx | hx
        · exact h x hx
        · rw [List.mem_singleton] at hx; subst hx; exact hm
theorem SzS.turn {s : SS} (h : SzS s) {i : Nat} {a : Slz} (ha : SzM a.ms) : SzS (turnS s i a) := by
  intro x hx
  rcases List.mem_or_eq_of_mem_set hx with hx | rfl
  · exact h x hx
  · exact ha
theorem SzS.expire {s : SS} (h : SzS s) (now id : Int) : SzS (expireS s now id).1 := by
  unfold expireS
  split
  · exact h
  · split
    · exact h
    · rename_i a ha
      split
      · exact h
      · exact h.turn (h a (List.mem_of_getElem? ha))
theorem SzS.update {s : SS} (h : SzS s) (now id a b : Int) {ms : List Mt} (hm : SzM ms) (bd : Bd) : SzS (updateS s now id a b ms bd).1 := by
  unfold updateS
  split
  · exact h
  · split
    · exact h
    · split
      · exact h
      · split
        · exact h
        · split
          · exact h
          · split
            · exact h
            · exact h.turn hm
theorem last_make (s : SS) (now a b : Int) (ms : List Mt) (bd : Bd) : (makeS s now a b ms bd).1.last ≤ s.last + 1 := by
  unfold makeS
  split
  · simp only; omega
  · split
    · simp only; omega
    · split <;> (simp only; omega)
structure TZ (O1 O2 M : Nat → Prop) (w : World) (p q : Nat) (s : SS) : Prop where
  z : ZStore O1 M w p s
  r : RStore O2 M w q s
  off : ∀ b, O1 b → ¬ O2 b
  g : Gz s
  sz : SzS s
theorem TZ.grow {O1 O2 M : Nat → Prop} {w w' : World} {p q : Nat} {s : SS} (h : TZ O1 O2 M w p q s) (hg : Grow w w') : TZ O1 O2 M w' p q s := ⟨h.z.grow hg, h.r.grow hg, h.off, h.g, h.sz⟩
theorem TZ.mid {O1 O2 M O1' : Nat → Prop} {w w1 : World} {p q : Nat} {s s' : SS} (h : TZ O1 O2 M w p q s) (hz : ZStore O1' (fun x => M x ∨ O1' x) w1 p s') (hm : Mod O1 w w1) (hO : ∀ x, O1' x → O1 x ∨ w.heap.size ≤ x) : RStore O2 (fun x => M x ∨ O1' x) w1 q s ∧ ∀ b, O1' b → ¬ O2 b :=
  ⟨h.r.other hm h.z.inM (fun b e e1 => h.off b e1 e) (fun b e => e.elim .inl fun e => (hO b e).elim (fun e => .inl (h.z.inM b e)) .inr) (fun b e => .inl e) (fun b e => e.elim (fun e => Nat.lt_of_lt_of_le (h.z.below b e) hm.size) (hz.lt b)),
    fun b e e2 => (hO b e).elim (fun e => h.off b e e2) fun e => by have := h.r.lt b e2; omega⟩
theorem TZ.done {O1' O2 O2' M1 : Nat → Prop} {w1 w2 : World} {p q : Nat} {s s' : SS} (hz : ZStore O1' M1 w1 p s') (hr : RStore O2 M1 w1 q s) (hoff : ∀ b, O1' b → ¬ O2 b) (hr2 : RStore O2' (fun x => M1 x ∨ O2' x) w2 q s') (hm : Mod O2 w1 w2) (hO : ∀ x, O2' x → O2 x ∨ w1.heap.size ≤ x) (g : Gz s') (sz : SzS s') : TZ O1' O2' (fun x => M1 x ∨ O2' x) w2 p q s' :=
  ⟨hz.other hm hr.inM hoff (fun b e => e.elim .inl fun e => (hO b e).elim (fun e => .inl (hr.inM b e)) .inr) (fun b e => .inl e) (fun b e => e.elim (fun e => Nat.lt_of_lt_of_le (hz.below b e) hm.size) (hr2.lt b)), hr2,
    fun b e e2 => (hO b e2).elim (hoff b e) (fun e2 => by have := hz.lt b e; omega), g, sz⟩
end Go.Proofs.YtbcbfjnlnmhpbaaGreat
set_option linter.unusedVariables false
set_option linter.unusedSimpArgs false
set_option maxHeartbeats 3200000
set_option maxRecDepth 100000
namespace Go.Proofs.YtbcbfjnlnmhpbaaGreat
open Go Go.X
theorem gz_new (m r : Int) : Gz ⟨clampS r 1 1048576, clampS m 1 12, 0, []⟩ := by
  refine ⟨?_, ?_, ?_, ?_, List.Pairwise.nil, Int.le_refl 0, fun a h => (by cases h), fun a h => (by cases h)⟩
  · simp only; unfold clampS; repeat' split <;> omega
  · simp only; unfold clampS; repeat' split <;> omega
  · simp only; unfold clampS; repeat' split <;> omega
  · show (0 : Int) ≤ clampS m 1 12
    unfold clampS; repeat' split <;> omega
theorem TZ.new {w1 w2 : World} {p q : Nat} {O1 : Nat → Prop} {s : SS} (hz : ZStore O1 O1 w1 p s) (hr : RStore (fun b => b = q) (fun b => b = q) w2 q s) (hg2 : Grow w1 w2) (hq : w1.heap.size ≤ q) (he : s.sl = []) (g : Gz s) : TZ O1 (fun b => b = q) (fun b => O1 b ∨ b = q) w2 p q s := by
  have hql : q < w2.heap.size := hr.lt q rfl
  refine ⟨hz.other hg2 (fun b e => e.elim) (fun b _ e => e.elim) (fun b e => e.elim .inl fun e => .inr (by omega)) (fun b e => .inl e) (fun b e => e.elim (fun e => Nat.lt_of_lt_of_le (hz.lt b e) hg2.size) fun e => by omega), ?_, fun b e e2 => by have := hz.lt b e; have e3 : b = q := e2; omega, g, fun a ha => by rw [he] at ha; cases ha⟩
  obtain ⟨vs, al, hO, h⟩ := hr
  have hal : al = [] := by have := h.als; rw [he] at this; simpa using this
  subst hal
  exact ⟨vs, [], hO, h.blk, h.row, h.als, fun a ha => (by cases ha), fun b e => .inr (h.ownM b e), fun b e => e.elim (fun e => Nat.lt_of_lt_of_le (hz.lt b e) hg2.size) fun e => by omega⟩
end Go.Proofs.YtbcbfjnlnmhpbaaGreat
set_option linter.unusedVariables false
set_option linter.unusedSimpArgs false
set_option maxHeartbeats 4000000
set_option maxRecDepth 100000
namespace Go.Proofs.YtbcbfjnlnmhpbaaGreat
open Go Go.X Go.Rex
theorem weightB_ok (M : Nat → Prop) (ls : List Mt) (v : Value) (m : Int) (hm0 : 0 ≤ m) (hm1 : m ≤ 1000000) (w : World) (hv : SlM M w v ls) : Fx Tryz.prog 29 [v, .int .i64 m] w (fun u w' => (∃ n : Int, u = .int .i64 n ∧ (n ≤ m → (ls.length : Int) ≤ m) ∧ 0 ≤ n ∧ n ≤ m + 1) ∧ Grow w w') := by
  obtain ⟨ad, c, rfl⟩ := hv.shape
  have hbig := hv.big
  refine enter Tryz.func29 rfl rfl rfl _ (Pick.sub (l := [0, 1]) (.cons rfl (.cons rfl .nil))) ?_
  refine RK.seq ?_
  refine RK.region ?_
  refine RL.p rfl rfl ?_
  refine RL.done ?_
  refine RK.seq ?_
  refine RK.region ?_
  refine RL.p rfl rfl ?_
  refine RL.done ?_
  iterate 2 refine RK.seq ?_
  refine RK.region ?_
  refine RL.p rfl rfl ?_
  refine RL.done ?_
  refine RK.block ?_
  refine RK.loop (fun s : Nat × Int => [(0, .slice ad ls.length c), (1, .int .i64 m), (5, .int .i64 s.2), (6, .int .i64 (s.1 : Int))]) (fun s w' => Grow w w' ∧ s.1 ≤ ls.length ∧ (s.1 : Int) ≤ s.2 ∧ s.2 ≤ 3 * m + 1) (fun s => ls.length - s.1) (0, 0) ⟨rfl, rfl, rfl, rfl, trivial⟩ ⟨Mod.refl _ _, by omega, by simp, by simp only; omega⟩ (fun s w' hI ih => ?_)
  obtain ⟨k, z⟩ := s
  obtain ⟨hg, hk, hkz, hz⟩ := hI
  simp only at hk hkz hz
  iterate 2 refine RK.seq ?_
  refine RK.region ?_
  iterate 2 refine RL.p rfl rfl ?_
  refine RL.q (.free rfl) rfl rfl (Yld.lenSl u28 rfl) ?_
  iterate 2 refine RL.p rfl rfl ?_
  first | refine RL.splitD (d := 11) rfl rfl (fun h10 => ?_) (fun h10 => ?_) | refine RL.splitN (d := 11) rfl rfl (fun h10 => ?_) (fun h10 => ?_) | refine RL.split (d := 11) rfl rfl (fun h10 => ?_) (fun h10 => ?_)
  · obtain ⟨x, hx⟩ : ∃ x, ls[k]? = some x := ⟨ls[k]'(by omega), List.getElem?_eq_getElem (by omega)⟩
    obtain ⟨b, o, c', he, hb, hkl, hcell⟩ := hv.elem mtC_len hx
    cases he
    iterate 3 refine RL.q (.yes rfl rfl rfl) rfl rfl (Yld.pure rfl) ?_
    refine RL.p rfl rfl ?_
    refine RL.done ?_
    first | refine RK.condD rfl (fun h15 => ?_) (fun h15 => ?_) | refine RK.condN rfl (fun h15 => ?_) (fun h15 => ?_) | refine RK.cond rfl (fun h15 => ?_) (fun h15 => ?_)
    · refine RK.skip ?_
      refine RK.seq ?_
      refine RK.block ?_
      iterate 2 refine RK.seq ?_
      refine RK.region ?_
      iterate 2 refine RL.p rfl rfl ?_
      refine RL.q (.free rfl) rfl rfl (Yld.indexAddrN u28 i108 rfl rfl (by omega)) ?_
      refine RL.q (.free rfl) rfl rfl (Yld.fieldAddr fo108_1 rfl) ?_
      refine RL.q (.free rfl) rfl rfl (Yld.load p9 rfl (at1 (hg.cell (hcell 1 _ rfl) (fun h => h)))) ?_
      refine RL.q (.free rfl) rfl rfl (Yld.lenStr u9 rfl) ?_
      iterate 3 refine RL.p rfl rfl ?_
      first | refine RL.splitD (d := 26) rfl rfl (fun h26 => ?_) (fun h26 => ?_) | refine RL.splitN (d := 26) rfl rfl (fun h26 => ?_) (fun h26 => ?_) | refine RL.split (d := 26) rfl rfl (fun h26 => ?_) (fun h26 => ?_)
      · iterate 8 refine RL.no (.no rfl rfl rfl rfl) rfl rfl ?_
        refine RL.p rfl rfl ?_
        refine RL.done ?_
        refine RK.condT rfl ?_
        refine RK.seq ?_
        refine RK.region ?_
        iterate 2 refine RL.p rfl rfl ?_
        refine RL.re (d := 37) rfl rfl (add_i64 (z := m + 1) rfl (by omega) (by omega)) ?_
        refine RL.p rfl rfl ?_
        refine RL.done ?_
        refine RK.ret_of Tryz.func29 (res1 rfl rfl) ?_ _
        exact ⟨_, rfl, ⟨m + 1, rfl, by omega, by omega, by omega⟩, hg⟩
      · iterate 2 refine RL.q (.yes rfl rfl rfl) rfl rfl (Yld.pure rfl) ?_
        refine RL.q (.yes rfl rfl rfl) rfl rfl (Yld.indexAddrN u28 i108 rfl rfl (by omega)) ?_
        refine RL.q (.yes rfl rfl rfl) rfl rfl (Yld.fieldAddr fo108_2 rfl) ?_
        refine RL.q (.yes rfl rfl rfl) rfl rfl (Yld.load p9 rfl (at1 (hg.cell (hcell 2 _ rfl) (fun h => h)))) ?_
        refine RL.q (.yes rfl rfl rfl) rfl rfl (Yld.lenStr u9 rfl) ?_
        iterate 2 refine RL.q (.yes rfl rfl rfl) rfl rfl (Yld.pure rfl) ?_
        refine RL.p rfl rfl ?_
        refine RL.done ?_
        first | refine RK.condD rfl (fun h35 => ?_) (fun h35 => ?_) | refine RK.condN rfl (fun h35 => ?_) (fun h35 => ?_) | refine RK.cond rfl (fun h35 => ?_) (fun h35 => ?_)
        · refine RK.seq ?_
          refine RK.region ?_
          iterate 2 refine RL.p rfl rfl ?_
          refine RL.re (d := 37) rfl rfl (add_i64 (z := m + 1) rfl (by omega) (by omega)) ?_
          refine RL.p rfl rfl ?_
          refine RL.done ?_
          refine RK.ret_of Tryz.func29 (res1 rfl rfl) ?_ _
          exact ⟨_, rfl, ⟨m + 1, rfl, by omega, by omega, by omega⟩, hg⟩
        · refine RK.skip ?_
          refine RK.drawM No [(0, false), (1, false), (2, false), (3, false), (4, false), (5, false), (6, false), (7, false), (8, false), (9, false), (10, false), (11, false), (12, false), (13, false), (14, false), (15, false), (16, false)] [] mixed (by kernel_rfl) ?_
          iterate 2 refine DL.p rfl rfl rfl ?_
          refine DL.re (d := 39) rfl rfl (add_i64 (z := z + 1) rfl (by omega) (by omega)) ?_
          iterate 2 refine DL.p rfl rfl rfl ?_
          refine DL.qf rfl (.free rfl) rfl rfl (Yld.indexAddrN u28 i108 rfl rfl (by omega)) ?_
          refine DL.qf rfl (.free rfl) rfl rfl (Yld.fieldAddr fo108_1 rfl) ?_
          refine DL.q rfl (.free rfl) rfl rfl rfl (Yld.load p9 rfl (atM (hg.cell (hcell 1 _ rfl) (fun h => h)) (fun h => h))) (Mod.drew _ _) ?_
          refine DL.q rfl (.free rfl) rfl rfl rfl (Yld.lenStr u9 rfl) (Mod.drew _ _) ?_
          refine DL.p rfl rfl rfl ?_
          refine DL.re (d := 46) rfl rfl (add_i64 (z := z + 1 + x.name.size) rfl (by omega) (by omega)) ?_
          iterate 2 refine DL.p rfl rfl rfl ?_
          refine DL.qf rfl (.free rfl) rfl rfl (Yld.indexAddrN u28 i108 rfl rfl (by omega)) ?_
          refine DL.qf rfl (.free rfl) rfl rfl (Yld.fieldAddr fo108_2 rfl) ?_
          refine DL.q rfl (.free rfl) rfl rfl rfl (Yld.load p9 rfl (atM (hg.cell (hcell 2 _ rfl) (fun h => h)) (fun h => h))) (Mod.drew _ _) ?_
          refine DL.q rfl (.free rfl) rfl rfl rfl (Yld.lenStr u9 rfl) (Mod.drew _ _) ?_
          refine DL.p rfl rfl rfl ?_
          refine DL.re (d := 53) rfl rfl (add_i64 (z := z + 1 + x.name.size + x.value.size) rfl (by omega) (by omega)) ?_
          refine DL.p rfl rfl rfl ?_
          refine DL.done ?_
          refine RK.inBlock ?_
          refine RK.region ?_
          iterate 2 refine RL.p rfl rfl ?_
          refine RL.re (d := 17) rfl rfl (succ_i64 (by omega)) ?_
          refine RL.p rfl rfl ?_
          refine RL.done ?_
          exact RK.back (ih (k + 1, z + 1 + x.name.size + x.value.size) _ ⟨hg.trans (Mod.drew _ _), by simp only; omega, by simp only; omega, by simp only; omega⟩ (by simp only; omega)) ⟨rfl, rfl, rfl, rfl, trivial⟩
    · refine RK.exit rfl ?_
      refine RK.seq ?_
      refine RK.region ?_
      iterate 3 refine RL.p rfl rfl ?_
      refine RL.re (d := 56) rfl rfl (add_i64 (z := m + 1) rfl (by omega) (by omega)) ?_
      refine RL.q (.free rfl) rfl rfl (Yld.min2 rfl rfl) ?_
      refine RL.p rfl rfl ?_
      refine RL.done ?_
      refine RK.ret_of Tryz.func29 (res1 rfl rfl) ?_ _
      exact ⟨_, rfl, ⟨_, rfl, by omega, by omega, by omega⟩, hg⟩
  · iterate 3 refine RL.no (.no rfl rfl rfl rfl) rfl rfl ?_
    refine RL.p rfl rfl ?_
    refine RL.done ?_
    refine RK.condF rfl ?_
    refine RK.exit rfl ?_
    refine RK.seq ?_
    refine RK.region ?_
    iterate 3 refine RL.p rfl rfl ?_
    refine RL.re (d := 56) rfl rfl (add_i64 (z := m + 1) rfl (by omega) (by omega)) ?_
    refine RL.q (.free rfl) rfl rfl (Yld.min2 rfl rfl) ?_
    refine RL.p rfl rfl ?_
    refine RL.done ?_
    refine RK.ret_of Tryz.func29 (res1 rfl rfl) ?_ _
    exact ⟨_, rfl, ⟨_, rfl, by omega, by omega, by omega⟩, hg⟩
end Go.Proofs.YtbcbfjnlnmhpbaaGreat
set_option linter.unusedVariables false
set_option linter.unusedSimpArgs false
set_option maxHeartbeats 3200000
set_option maxRecDepth 100000
namespace Go.Proofs.YtbcbfjnlnmhpbaaGreat
open Go Go.X
theorem TZ.pair {O1 O2 M O1' O2' : Nat → Prop} {w w1 wm w2 : World} {p q : Nat} {s s' : SS} (h : TZ O1 O2 M w p q s) (hz : ZStore O1' (fun x => M x ∨ O1' x) w1 p s') (hm1 : Mod O1 w w1) (hO1 : ∀ x, O1' x → O1 x ∨ w.heap.size ≤ x) (hgm : Grow w1 wm)
    (hr2 : RStore O2' (fun x => (fun x => M x ∨ O1' x) x ∨ O2' x) w2 q s') (hm2 : Mod O2 wm w2) (hO2 : ∀ x, O2' x → O2 x ∨ wm.heap.size ≤ x) (g : Gz s') (sz : SzS s') : ∃ M', TZ O1' O2' M' w2 p q s' ∧ Mod M w w2 ∧ ∀ b, M' b → M b ∨ w.heap.size ≤ b := by
  obtain ⟨hr, hoff⟩ := h.mid hz hm1 hO1
  have hz1 := hm1.size
  have hzm := hgm.size
  refine ⟨_, TZ.done (hz.grow hgm) (hr.grow hgm) hoff hr2 hm2 hO2 g sz, ((hm1.mono fun b _ e => h.z.inM b e).trans (Mod.any' hgm)).trans (hm2.mono fun b _ e => h.r.inM b e), fun b e => ?_⟩
  rcases e with (e | e) | e
  · exact .inl e
  · exact (hO1 b e).elim (fun e => .inl (h.z.inM b e)) .inr
  · exact (hO2 b e).elim (fun e => .inl (h.r.inM b e)) fun e => .inr (by omega)
theorem mP_sz : SzM [mP] := ⟨fun m hm => by rw [List.mem_singleton] at hm; subst hm; decide, by simp⟩
theorem sraw_ok (now a e : Int) (ms : List Mt) (vm : Value) (bd : Bd) (id : Int) (w : World) (h0 : 0 ≤ now) (he : 0 ≤ e) (hms : SlM No w vm ms) (hn : ∀ m ∈ ms, m.name.size ≤ 9223372036854775807) :
    Fx Tryz.prog 8 [.int .u64 now, .int .u64 a, .int .u64 e, vm, .agg (bdC bd).toArray, .int .i64 id] w (fun u w' => u = .bool true ∧ Grow w w') := by
  obtain ⟨adm, cm, rfl⟩ := hms.shape
  refine enter Tryz.func8 rfl rfl rfl _ (Pick.sub (l := [0, 1, 2, 3, 4, 5]) (.cons rfl (.cons rfl (.cons rfl (.cons rfl (.cons rfl (.cons rfl .nil))))))) ?_
  refine RK.seq ?_
  refine RK.region ?_
  refine RL.op (.free rfl) rfl rfl (Does.box rfl) ?_
  rintro _ w1 ⟨b10, rfl, hn10⟩
  have hB10 : Blk w1 b10 32 (bdC bd) := hn10.blk
  have hb10 : ¬ w1.heap.size ≤ b10 := by have := hB10.lt; omega
  have hms1 : SlM (fun b => w1.heap.size ≤ b) w1 (.slice adm ms.length cm) ms := (hms.mod hn10.grow).off (by omega) (fun b hb e => by omega)
  have hmsAt : ∀ (w' : World) (M' : Nat → Prop), Grow w1 w' → (∀ b, M' b → w1.heap.size ≤ b) → SlM M' w' (.slice adm ms.length cm) ms := fun w' M' hg hM => (hms1.mod (Mod.any' hg)).off (by omega) (fun b _ e => hM b e)
  refine RL.p rfl rfl ?_
  refine RL.done ?_
  iterate 2 refine RK.seq ?_
  refine RK.region ?_
  refine RL.p rfl rfl ?_
  refine RL.op (.free rfl) rfl rfl (Does.call rfl e29 (weightB_ok No ms _ 200 (by omega) (by omega) _ (hms1.noM))) ?_
  rintro _ w2 ⟨⟨n, rfl, hnw, _⟩, hg2⟩
  refine RL.p rfl rfl ?_
  refine RL.done ?_
  first | refine RK.condD rfl (fun h22 => ?_) (fun h22 => ?_) | refine RK.condN rfl (fun h22 => ?_) (fun h22 => ?_) | refine RK.cond rfl (fun h22 => ?_) (fun h22 => ?_)
  · refine RK.seq ?_
    refine RK.region ?_
    refine RL.op (.free rfl) rfl rfl (Does.call rfl e14 (sruns_ok _)) ?_
    rintro _ w3 ⟨rfl, hg3⟩
    refine RL.p rfl rfl ?_
    refine RL.done ?_
    refine RK.ret_of Tryz.func8 (res1 rfl rfl) ?_ _
    exact ⟨_, rfl, rfl, (hn10.grow.trans hg2).trans hg3⟩
  · have hlen : ms.length ≤ 1000000 := by have := hnw (by omega); omega
    refine RK.skip ?_
    refine RK.seq ?_
    refine RK.region ?_
    refine RL.op (.free rfl) rfl rfl (Does.call rfl e10 (newZ_ok 4 9 _)) ?_
    rintro _ w3 ⟨p, O1, rfl, hz3, hg3, hO1⟩
    refine RL.op (.free rfl) rfl rfl (Does.call rfl e22 (newR9_ok 4 9 _)) ?_
    rintro _ w4 ⟨q, rfl, hr4, hg4, hq4⟩
    have hT0 := TZ.new hz3 hr4 hg4 hq4 rfl (gz_new 4 9)
    have hz23 := (hg2.trans hg3).size
    have hz2s := hg2.size
    iterate 2 refine RL.p rfl rfl ?_
    refine RL.done ?_
    iterate 2 refine RK.seq ?_
    refine RK.region ?_
    refine RL.p rfl rfl ?_
    refine RL.q (.free rfl) rfl rfl (Yld.eqPtr Tryz.underlying23 rfl rfl) ?_
    refine RL.done ?_
    refine RK.condF (hcF rfl (rfl)) ?_
    obtain ⟨s0, hs0⟩ : ∃ s0 : SS, s0 = ⟨clampS 9 1 1048576, clampS 4 1 12, 0, []⟩ := ⟨_, rfl⟩
    rw [← hs0] at hT0
    have hl0 : s0.last = 0 := by rw [hs0]
    obtain ⟨M0, hM0⟩ : ∃ M0 : Nat → Prop, M0 = fun b => O1 b ∨ b = q := ⟨_, rfl⟩
    rw [← hM0] at hT0
    have hM0' : ∀ b, M0 b → w1.heap.size ≤ b := by rw [hM0]; exact fun b e => e.elim (fun e => by have := hO1 b e; omega) fun e => by omega
    have hg04 := (hg2.trans hg3).trans hg4
    have hB4 := hB10.mod hg04 (fun h => h)
    refine RK.skip ?_
    refine RK.seq ?_
    refine RK.region ?_
    iterate 5 refine RL.p rfl rfl ?_
    refine RL.q (.free rfl) rfl rfl (Yld.loadN (cs := bdC bd) a32 rfl (atN (blk0' hB4))) ?_
    refine RL.op (.free rfl) rfl rfl (Does.call rfl e11 (makeZ_ok _ p s0 _ M0 hT0.z hT0.g (by omega) now a e he ms _ bd (hmsAt _ _ hg04 hM0') hlen)) ?_
    rintro _ w5 ⟨O5, rfl, hz5, hm5, hO5⟩
    obtain ⟨hr5, hoff5⟩ := hT0.mid hz5 hm5 hO5
    have hg05 : Grow w1 w5 := hg04.then hm5 (fun b hb e => by have := hM0' b (hT0.z.inM b e); omega)
    have hB5 := hB10.mod hg05 (fun h => h)
    have hz04 := hg04.size
    iterate 5 refine RL.p rfl rfl ?_
    refine RL.done ?_
    refine RK.seq ?_
    refine RK.region ?_
    iterate 5 refine RL.p rfl rfl ?_
    refine RL.q (.free rfl) rfl rfl (Yld.loadN (cs := bdC bd) a32 rfl (atN (blk0' hB5))) ?_
    refine RL.op (.free rfl) rfl rfl (Does.call rfl e30 (makeR9_ok _ q s0 _ _ hr5 hT0.g (by omega) now a e ms hn _ bd (hmsAt _ _ hg05 (fun b e => e.elim (hM0' b) fun e => (hO5 b e).elim (fun e => hM0' b (hT0.z.inM b e)) fun e => by omega)) hlen)) ?_
    rintro _ w6 ⟨O6, rfl, hr6, hm6, hO6⟩
    obtain ⟨M1, hT1, hm46, hM1'⟩ := hT0.pair hz5 hm5 hO5 (Mod.refl No w5) hr6 hm6 hO6 (hT0.g.make _ _ _ he _ _) (hT0.sz.make _ _ _ ⟨hn, hlen⟩ _)
    have hM1 : ∀ b, M1 b → w1.heap.size ≤ b := fun b e => (hM1' b e).elim (hM0' b) fun e => by omega
    have hg06 : Grow w1 w6 := hg04.then hm46 (fun b hb e => by have := hM0' b e; omega)
    iterate 5 refine RL.p rfl rfl ?_
    refine RL.done ?_
    refine RK.seq ?_
    refine RK.cut [(0, .int .u64 now), (1, .int .u64 a), (2, .int .u64 e), (3, .slice adm ms.length cm), (5, .int .i64 id), (10, pp b10), (13, pp p), (14, pp q), (15, .int .i64 (makeS s0 now a e ms bd).2.1), (16, .int .i64 (makeS s0 now a e ms bd).2.2), (17, .int .i64 (makeS s0 now a e ms bd).2.1), (18, .int .i64 (makeS s0 now a e ms bd).2.2), (19, .bool (rightS ms bd))] (fun w' => Grow w6 w') (fun w8 hg8 => ?_) (fun hj => ?_)
    · have hg18 := hg06.trans hg8
      obtain ⟨vm, hvm⟩ : ∃ vm, vm = Value.slice adm ms.length cm := ⟨_, rfl⟩
      iterate 2 refine RK.seq ?_
      refine RK.region ?_
      iterate 4 refine RL.p rfl rfl ?_
      refine RL.knownF (d := 62) rfl rfl (by simp) ?_
      iterate 3 refine RL.q (.yes rfl rfl rfl) rfl rfl (Yld.pure rfl) ?_
      iterate 2 refine RL.p rfl rfl ?_
      refine RL.knownF (d := 67) rfl rfl (by simp) ?_
      iterate 3 refine RL.q (.yes rfl rfl rfl) rfl rfl (Yld.pure rfl) ?_
      first | refine RL.splitD (d := 70) rfl rfl (fun h70 => ?_) (fun h70 => ?_) | refine RL.splitN (d := 70) rfl rfl (fun h70 => ?_) (fun h70 => ?_) | refine RL.split (d := 70) rfl rfl (fun h70 => ?_) (fun h70 => ?_)
      · have hrf : rightS ms bd = false := by simpa using h70
        have hcode : (makeS s0 now a e ms bd).2.2 = 1 := by unfold makeS; rw [if_pos hrf]
        iterate 3 refine RL.q (.yes rfl rfl rfl) rfl rfl (Yld.pure rfl) ?_
        refine RL.p rfl rfl ?_
        refine RL.done ?_
        refine RK.condF (hcF rfl (by rw [hcode]; rfl)) ?_
        rw [← hvm] at hmsAt ⊢
        obtain ⟨s1, hs1⟩ : ∃ s1, s1 = (makeS s0 now a e ms bd).1 := ⟨_, rfl⟩
        rw [← hs1] at hT1
        have hl1 : s1.last ≤ 1 := by rw [hs1]; have := last_make s0 now a e ms bd; omega
        refine RK.skip ?_
        refine RK.seq ?_
        refine RK.region ?_
        refine RL.p rfl rfl ?_
        refine RL.op (.free rfl) rfl rfl (Does.call rfl e12 (plain14_ok _)) ?_
        rintro u9 w9 ⟨hr9, hf9, hg9⟩
        have hT9 := hT1.grow (hg8.trans hg9)
        have hz9 := (hg8.trans hg9).size
        refine RL.q (.free rfl) rfl rfl (Yld.build (v := .agg (bdC bdAll).toArray) rfl (fun w => by kernel_rfl)) ?_
        refine RL.op (.free rfl) rfl rfl (Does.call rfl e11 (makeZ_ok _ p s1 _ M1 hT9.z hT9.g (by omega) 1 2 9 (by decide) [mP] u9 bdAll (Sl.own hr9 (fun k hk e => by have h1 := hf9 k hk; have h2 := hT1.z.below k e; have := hg8.size; omega)) (by simp))) ?_
        rintro _ w10 ⟨O10, rfl, hz10, hm10, hO10⟩
        obtain ⟨hr10, hoff10⟩ := hT9.mid hz10 hm10 hO10
        refine RL.done ?_
        refine RK.seq ?_
        refine RK.region ?_
        refine RL.p rfl rfl ?_
        refine RL.op (.free rfl) rfl rfl (Does.call rfl e12 (plain14_ok _)) ?_
        rintro u11 w11 ⟨hr11, hf11, hg11⟩
        refine RL.q (.free rfl) rfl rfl (Yld.build (v := .agg (bdC bdAll).toArray) rfl (fun w => by kernel_rfl)) ?_
        refine RL.op (.free rfl) rfl rfl (Does.call rfl e30 (makeR9_ok _ q s1 _ _ (hr10.grow hg11) hT9.g (by omega) 1 2 9 [mP] mP_sz.1 u11 bdAll (Sl.own hr11 (fun k hk e => by have h1 := hf11 k hk; have h2 := hr10.below k e; omega)) (by simp))) ?_
        rintro _ w12 ⟨O12, rfl, hr12, hm12, hO12⟩
        obtain ⟨M2, hT2, hm912, hM2⟩ := hT9.pair hz10 hm10 hO10 hg11 hr12 hm12 hO12 (hT9.g.make _ _ _ (by decide) _ _) (hT9.sz.make _ _ _ mP_sz _)
        have hM2' : ∀ b, M2 b → w1.heap.size ≤ b := fun b e => (hM2 b e).elim (hM1 b) fun e => by have := hg06.size; omega
        have hg12 : Grow w1 w12 := (hg18.trans hg9).then hm912 (fun b hb e => by have := hM1 b e; omega)
        obtain ⟨s2, hs2⟩ : ∃ s2, s2 = (makeS s1 1 2 9 [mP] bdAll).1 := ⟨_, rfl⟩
        rw [← hs2] at hT2
        have hd := hT2.grow (Mod.drew No w12)
        have hB12 := hB10.mod hg12 (fun h => h)
        have hMz : ∀ {P : Nat → Prop} {v1 v2 : World}, (∀ b, P b → M2 b) → Mod P v1 v2 → Mod (fun b => w1.heap.size ≤ b) v1 v2 := fun h hm => hm.mono fun b _ e => hM2' b (h b e)
        refine RL.done ?_
        refine RK.seq ?_
        refine RK.drawM (fun b => w1.heap.size ≤ b) [(0, false), (1, false), (2, false), (3, false), (4, false), (5, false), (6, false), (8, false), (9, false), (10, false), (11, false), (12, false), (13, false), (14, false), (7, true), (15, true), (16, false), (17, false), (18, false), (19, false), (20, false), (22, false), (23, false), (24, false), (21, true), (25, true), (26, false), (27, false), (28, false), (29, false), (30, false), (32, false), (33, false), (31, true), (34, true), (35, true), (36, false), (37, false), (38, true), (39, false), (40, false)] [] mixed (by kernel_rfl) ?_
        iterate 6 refine DL.p rfl rfl rfl ?_
        refine DL.q rfl (.free rfl) rfl rfl rfl (Yld.loadN (cs := bdC bd) a32 rfl (atNM (blk0' hB12) (hb10))) (Mod.drew _ _) ?_
        iterate 6 refine DL.p rfl rfl rfl ?_
        refine DL.q rfl (.free rfl) rfl rfl rfl (Yld.loadN (cs := bdC bd) a32 rfl (atNM (blk0' hB12) (hb10))) (Mod.drew _ _) ?_
        refine DL.op rfl (.free rfl) rfl rfl (Does.call rfl e21 (updateZ_ok _ p s2 _ M2 hd.z hd.g now id a e he ms vm bd (hmsAt _ _ (hg12.trans (Mod.drew No w12)) hM2') hlen)) ?_
        rintro _ w13 ⟨O13, rfl, hz13, hm13, hO13⟩
        have hS1 := (Mod.drew (fun b => w1.heap.size ≤ b) w12).trans (hMz hd.z.inM hm13)
        refine ⟨hS1, ?_⟩
        obtain ⟨hr13, hoff13⟩ := hd.mid hz13 hm13 hO13
        have hg13 : Grow w1 w13 := (hg12.trans (Mod.drew No w12)).then hm13 (fun b hb e => by have := hM2' b (hd.z.inM b e); omega)
        have hz13s := hg12.size
        have hM13 : ∀ b, (M2 b ∨ O13 b) → w1.heap.size ≤ b := fun b e => e.elim (hM2' b) fun e => (hO13 b e).elim (fun e => hM2' b (hd.z.inM b e)) fun e => by simp only [World.drew] at e; omega
        refine DL.op rfl (.free rfl) rfl rfl (Does.call rfl e33 (updateR9_ok _ q s2 _ _ hr13 hd.g now id a e ms hn vm bd (hmsAt _ _ hg13 hM13) hlen)) ?_
        rintro _ w14 ⟨rfl, hr14, hm14⟩
        have hS2 := hS1.trans (hMz hd.r.inM hm14)
        refine ⟨hS2, ?_⟩
        obtain ⟨M3, hT3, hm1214, hM3⟩ := hd.pair hz13 hm13 hO13 (Mod.refl No w13) hr14 hm14 (fun x e => .inl e) (hd.g.update _ _ _ _ he _ _) (hd.sz.update _ _ _ _ ⟨hn, hlen⟩ _)
        have hM3' : ∀ b, M3 b → w1.heap.size ≤ b := fun b e => (hM3 b e).elim (hM2' b) fun e => by simp only [World.drew] at e; omega
        have hg14 : Grow w1 w14 := (hg12.trans (Mod.drew No w12)).then hm1214 (fun b hb e => by have := hM2' b e; omega)
        obtain ⟨s3, hs3⟩ : ∃ s3, s3 = (updateS s2 now id a e ms bd).1 := ⟨_, rfl⟩
        rw [← hs3] at hT3
        iterate 2 refine DL.p rfl rfl rfl ?_
        refine DL.knownT (d := 100) rfl rfl (by simp) ?_
        iterate 6 refine DL.qf rfl (.yes rfl rfl rfl) rfl rfl (Yld.pure rfl) ?_
        refine DL.op rfl (.yes rfl rfl rfl) rfl rfl (Does.call rfl e20 (expireZ_ok _ p s3 _ M3 hT3.z hT3.g now id h0)) ?_
        rintro _ w15 ⟨O15, rfl, hz15, hm15, hO15⟩
        have hS3 := hS2.trans (hm15.mono fun b _ e => hM3' b (hT3.z.inM b e))
        refine ⟨hS3, ?_⟩
        obtain ⟨hr15, hoff15⟩ := hT3.mid hz15 hm15 hO15
        refine DL.op rfl (.yes rfl rfl rfl) rfl rfl (Does.call rfl e34 (expireR9_ok _ q s3 _ _ hr15 hT3.g now id)) ?_
        rintro _ w16 ⟨rfl, hr16, hm16⟩
        have hS4 := hS3.trans (hm16.mono fun b _ e => hM3' b (hT3.r.inM b e))
        refine ⟨hS4, ?_⟩
        obtain ⟨M4, hT4, hm1416, hM4⟩ := hT3.pair hz15 hm15 hO15 (Mod.refl No w15) hr16 hm16 (fun x e => .inl e) (hT3.g.expire _ _ h0) (hT3.sz.expire _ _)
        have hg16 : Grow w1 w16 := hg14.then hm1416 (fun b hb e => by have := hM3' b e; omega)
        refine DL.qf rfl (.yes rfl rfl rfl) rfl rfl (Yld.pure rfl) ?_
        iterate 2 refine DL.p rfl rfl rfl ?_
        refine DL.knownT (d := 111) rfl rfl (by simp) ?_
        iterate 4 refine DL.qf rfl (.yes rfl rfl rfl) rfl rfl (Yld.pure rfl) ?_
        refine DL.op rfl (.yes rfl rfl rfl) rfl rfl (Does.call rfl e17 (listRow_ok _ p _ _ _ hT4.z hT4.g now 0 (fun a ha => (hT4.sz a ha).2))) ?_
        rintro u17 w17 ⟨⟨t5, ht5, hr5, hm5⟩, hf5, hg17⟩
        have hS5 := hS4.trans (Mod.any' hg17)
        refine ⟨hS5, ?_⟩
        refine DL.op rfl (.yes rfl rfl rfl) rfl rfl (Does.call rfl e24 (listR9_ok _ q _ _ _ (hT4.r.grow hg17) hT4.g now 0 (fun a ha => (hT4.sz a ha).2))) ?_
        rintro u18 w18 ⟨⟨t6, ht6, hr6, hm6⟩, hf6, hg18'⟩
        have hS6 := hS5.trans (Mod.any' hg18')
        refine ⟨hS6, ?_⟩
        refine DL.op rfl (.yes rfl rfl rfl) rfl rfl (Does.call rfl e25 (sameSils_ok t5 t6 _ _ _ (Sl.own (hr5.mod hg18' (fun _ _ h => h)) (fun _ _ h => h)) (Sl.own hr6 (fun _ _ h => h)) (fun a ha => Sl.own ((hm5 a ha).mod hg18' (fun _ _ h => h)) (fun _ _ h => h)) (fun a ha => Sl.own (hm6 a ha) (fun _ _ h => h)) (ht5.trans ht6.symm))) ?_
        rintro _ w19 ⟨rfl, hg19⟩
        have hS7 := hS6.trans (Mod.any' hg19)
        refine ⟨hS7, ?_⟩
        iterate 2 refine DL.p rfl rfl rfl ?_
        refine DL.knownT (d := 120) rfl rfl (rfl) ?_
        refine DL.op rfl (.yes rfl rfl rfl) rfl rfl (Does.call rfl e14 (sruns_ok _)) ?_
        rintro _ w20 ⟨rfl, hg20⟩
        refine ⟨hS7.trans (Mod.any' hg20), ?_⟩
        iterate 2 refine DL.p rfl rfl rfl ?_
        refine DL.done ?_
        refine RK.ret_of Tryz.func8 (res1 rfl rfl) ?_ _
        exact ⟨_, rfl, rfl, (hn10.grow.trans hg16).trans ((hg17.trans hg18').trans (hg19.trans hg20))⟩
      · rw [← hvm] at hmsAt ⊢
        obtain ⟨s1, hs1⟩ : ∃ s1, s1 = (makeS s0 now a e ms bd).1 := ⟨_, rfl⟩
        rw [← hs1] at hT1
        have hl1 : s1.last ≤ 1 := by rw [hs1]; have := last_make s0 now a e ms bd; omega
        iterate 2 refine RL.no (.no rfl rfl rfl rfl) rfl rfl ?_
        refine RL.q (.yes rfl rfl rfl) rfl rfl (Yld.pure rfl) ?_
        refine RL.p rfl rfl ?_
        refine RL.done ?_
        refine RK.condF rfl ?_
        refine RK.skip ?_
        refine RK.seq ?_
        refine RK.region ?_
        refine RL.p rfl rfl ?_
        refine RL.op (.free rfl) rfl rfl (Does.call rfl e12 (plain14_ok _)) ?_
        rintro u9 w9 ⟨hr9, hf9, hg9⟩
        have hT9 := hT1.grow (hg8.trans hg9)
        have hz9 := (hg8.trans hg9).size
        refine RL.q (.free rfl) rfl rfl (Yld.build (v := .agg (bdC bdAll).toArray) rfl (fun w => by kernel_rfl)) ?_
        refine RL.op (.free rfl) rfl rfl (Does.call rfl e11 (makeZ_ok _ p s1 _ M1 hT9.z hT9.g (by omega) 1 2 9 (by decide) [mP] u9 bdAll (Sl.own hr9 (fun k hk e => by have h1 := hf9 k hk; have h2 := hT1.z.below k e; have := hg8.size; omega)) (by simp))) ?_
        rintro _ w10 ⟨O10, rfl, hz10, hm10, hO10⟩
        obtain ⟨hr10, hoff10⟩ := hT9.mid hz10 hm10 hO10
        refine RL.done ?_
        refine RK.seq ?_
        refine RK.region ?_
        refine RL.p rfl rfl ?_
        refine RL.op (.free rfl) rfl rfl (Does.call rfl e12 (plain14_ok _)) ?_
        rintro u11 w11 ⟨hr11, hf11, hg11⟩
        refine RL.q (.free rfl) rfl rfl (Yld.build (v := .agg (bdC bdAll).toArray) rfl (fun w => by kernel_rfl)) ?_
        refine RL.op (.free rfl) rfl rfl (Does.call rfl e30 (makeR9_ok _ q s1 _ _ (hr10.grow hg11) hT9.g (by omega) 1 2 9 [mP] mP_sz.1 u11 bdAll (Sl.own hr11 (fun k hk e => by have h1 := hf11 k hk; have h2 := hr10.below k e; omega)) (by simp))) ?_
        rintro _ w12 ⟨O12, rfl, hr12, hm12, hO12⟩
        obtain ⟨M2, hT2, hm912, hM2⟩ := hT9.pair hz10 hm10 hO10 hg11 hr12 hm12 hO12 (hT9.g.make _ _ _ (by decide) _ _) (hT9.sz.make _ _ _ mP_sz _)
        have hM2' : ∀ b, M2 b → w1.heap.size ≤ b := fun b e => (hM2 b e).elim (hM1 b) fun e => by have := hg06.size; omega
        have hg12 : Grow w1 w12 := (hg18.trans hg9).then hm912 (fun b hb e => by have := hM1 b e; omega)
        obtain ⟨s2, hs2⟩ : ∃ s2, s2 = (makeS s1 1 2 9 [mP] bdAll).1 := ⟨_, rfl⟩
        rw [← hs2] at hT2
        have hd := hT2.grow (Mod.drew No w12)
        have hB12 := hB10.mod hg12 (fun h => h)
        have hMz : ∀ {P : Nat → Prop} {v1 v2 : World}, (∀ b, P b → M2 b) → Mod P v1 v2 → Mod (fun b => w1.heap.size ≤ b) v1 v2 := fun h hm => hm.mono fun b _ e => hM2' b (h b e)
        refine RL.done ?_
        refine RK.seq ?_
        refine RK.drawM (fun b => w1.heap.size ≤ b) [(0, false), (1, false), (2, false), (3, false), (4, false), (5, false), (6, false), (8, false), (9, false), (10, false), (11, false), (12, false), (13, false), (14, false), (7, true), (15, true), (16, false), (17, false), (18, false), (19, false), (20, false), (22, false), (23, false), (24, false), (21, true), (25, true), (26, false), (27, false), (28, false), (29, false), (30, false), (32, false), (33, false), (31, true), (34, true), (35, true), (36, false), (37, false), (38, true), (39, false), (40, false)] [] mixed (by kernel_rfl) ?_
        iterate 6 refine DL.p rfl rfl rfl ?_
        refine DL.q rfl (.free rfl) rfl rfl rfl (Yld.loadN (cs := bdC bd) a32 rfl (atNM (blk0' hB12) (hb10))) (Mod.drew _ _) ?_
        iterate 6 refine DL.p rfl rfl rfl ?_
        refine DL.q rfl (.free rfl) rfl rfl rfl (Yld.loadN (cs := bdC bd) a32 rfl (atNM (blk0' hB12) (hb10))) (Mod.drew _ _) ?_
        refine DL.op rfl (.free rfl) rfl rfl (Does.call rfl e21 (updateZ_ok _ p s2 _ M2 hd.z hd.g now id a e he ms vm bd (hmsAt _ _ (hg12.trans (Mod.drew No w12)) hM2') hlen)) ?_
        rintro _ w13 ⟨O13, rfl, hz13, hm13, hO13⟩
        have hS1 := (Mod.drew (fun b => w1.heap.size ≤ b) w12).trans (hMz hd.z.inM hm13)
        refine ⟨hS1, ?_⟩
        obtain ⟨hr13, hoff13⟩ := hd.mid hz13 hm13 hO13
        have hg13 : Grow w1 w13 := (hg12.trans (Mod.drew No w12)).then hm13 (fun b hb e => by have := hM2' b (hd.z.inM b e); omega)
        have hz13s := hg12.size
        have hM13 : ∀ b, (M2 b ∨ O13 b) → w1.heap.size ≤ b := fun b e => e.elim (hM2' b) fun e => (hO13 b e).elim (fun e => hM2' b (hd.z.inM b e)) fun e => by simp only [World.drew] at e; omega
        refine DL.op rfl (.free rfl) rfl rfl (Does.call rfl e33 (updateR9_ok _ q s2 _ _ hr13 hd.g now id a e ms hn vm bd (hmsAt _ _ hg13 hM13) hlen)) ?_
        rintro _ w14 ⟨rfl, hr14, hm14⟩
        have hS2 := hS1.trans (hMz hd.r.inM hm14)
        refine ⟨hS2, ?_⟩
        obtain ⟨M3, hT3, hm1214, hM3⟩ := hd.pair hz13 hm13 hO13 (Mod.refl No w13) hr14 hm14 (fun x e => .inl e) (hd.g.update _ _ _ _ he _ _) (hd.sz.update _ _ _ _ ⟨hn, hlen⟩ _)
        have hM3' : ∀ b, M3 b → w1.heap.size ≤ b := fun b e => (hM3 b e).elim (hM2' b) fun e => by simp only [World.drew] at e; omega
        have hg14 : Grow w1 w14 := (hg12.trans (Mod.drew No w12)).then hm1214 (fun b hb e => by have := hM2' b e; omega)
        obtain ⟨s3, hs3⟩ : ∃ s3, s3 = (updateS s2 now id a e ms bd).1 := ⟨_, rfl⟩
        rw [← hs3] at hT3
        iterate 2 refine DL.p rfl rfl rfl ?_
        refine DL.knownT (d := 100) rfl rfl (by simp) ?_
        iterate 6 refine DL.qf rfl (.yes rfl rfl rfl) rfl rfl (Yld.pure rfl) ?_
        refine DL.op rfl (.yes rfl rfl rfl) rfl rfl (Does.call rfl e20 (expireZ_ok _ p s3 _ M3 hT3.z hT3.g now id h0)) ?_
        rintro _ w15 ⟨O15, rfl, hz15, hm15, hO15⟩
        have hS3 := hS2.trans (hm15.mono fun b _ e => hM3' b (hT3.z.inM b e))
        refine ⟨hS3, ?_⟩
        obtain ⟨hr15, hoff15⟩ := hT3.mid hz15 hm15 hO15
        refine DL.op rfl (.yes rfl rfl rfl) rfl rfl (Does.call rfl e34 (expireR9_ok _ q s3 _ _ hr15 hT3.g now id)) ?_
        rintro _ w16 ⟨rfl, hr16, hm16⟩
        have hS4 := hS3.trans (hm16.mono fun b _ e => hM3' b (hT3.r.inM b e))
        refine ⟨hS4, ?_⟩
        obtain ⟨M4, hT4, hm1416, hM4⟩ := hT3.pair hz15 hm15 hO15 (Mod.refl No w15) hr16 hm16 (fun x e => .inl e) (hT3.g.expire _ _ h0) (hT3.sz.expire _ _)
        have hg16 : Grow w1 w16 := hg14.then hm1416 (fun b hb e => by have := hM3' b e; omega)
        refine DL.qf rfl (.yes rfl rfl rfl) rfl rfl (Yld.pure rfl) ?_
        iterate 2 refine DL.p rfl rfl rfl ?_
        refine DL.knownT (d := 111) rfl rfl (by simp) ?_
        iterate 4 refine DL.qf rfl (.yes rfl rfl rfl) rfl rfl (Yld.pure rfl) ?_
        refine DL.op rfl (.yes rfl rfl rfl) rfl rfl (Does.call rfl e17 (listRow_ok _ p _ _ _ hT4.z hT4.g now 0 (fun a ha => (hT4.sz a ha).2))) ?_
        rintro u17 w17 ⟨⟨t5, ht5, hr5, hm5⟩, hf5, hg17⟩
        have hS5 := hS4.trans (Mod.any' hg17)
        refine ⟨hS5, ?_⟩
        refine DL.op rfl (.yes rfl rfl rfl) rfl rfl (Does.call rfl e24 (listR9_ok _ q _ _ _ (hT4.r.grow hg17) hT4.g now 0 (fun a ha => (hT4.sz a ha).2))) ?_
        rintro u18 w18 ⟨⟨t6, ht6, hr6, hm6⟩, hf6, hg18'⟩
        have hS6 := hS5.trans (Mod.any' hg18')
        refine ⟨hS6, ?_⟩
        refine DL.op rfl (.yes rfl rfl rfl) rfl rfl (Does.call rfl e25 (sameSils_ok t5 t6 _ _ _ (Sl.own (hr5.mod hg18' (fun _ _ h => h)) (fun _ _ h => h)) (Sl.own hr6 (fun _ _ h => h)) (fun a ha => Sl.own ((hm5 a ha).mod hg18' (fun _ _ h => h)) (fun _ _ h => h)) (fun a ha => Sl.own (hm6 a ha) (fun _ _ h => h)) (ht5.trans ht6.symm))) ?_
        rintro _ w19 ⟨rfl, hg19⟩
        have hS7 := hS6.trans (Mod.any' hg19)
        refine ⟨hS7, ?_⟩
        iterate 2 refine DL.p rfl rfl rfl ?_
        refine DL.knownT (d := 120) rfl rfl (rfl) ?_
        refine DL.op rfl (.yes rfl rfl rfl) rfl rfl (Does.call rfl e14 (sruns_ok _)) ?_
        rintro _ w20 ⟨rfl, hg20⟩
        refine ⟨hS7.trans (Mod.any' hg20), ?_⟩
        iterate 2 refine DL.p rfl rfl rfl ?_
        refine DL.done ?_
        refine RK.ret_of Tryz.func8 (res1 rfl rfl) ?_ _
        exact ⟨_, rfl, rfl, (hn10.grow.trans hg16).trans ((hg17.trans hg18').trans (hg19.trans hg20))⟩
    · refine RK.region ?_
      refine RL.p rfl rfl ?_
      refine RL.q (.free rfl) rfl rfl (Yld.lenSl u28 rfl) ?_
      iterate 2 refine RL.p rfl rfl ?_
      first | refine RL.splitD (d := 51) rfl rfl (fun h50 => ?_) (fun h50 => ?_) | refine RL.splitN (d := 51) rfl rfl (fun h50 => ?_) (fun h50 => ?_) | refine RL.split (d := 51) rfl rfl (fun h50 => ?_) (fun h50 => ?_)
      · refine RL.q (.yes rfl rfl rfl) rfl rfl (Yld.pure rfl) ?_
        refine RL.op (.yes rfl rfl rfl) rfl rfl (Does.call rfl e31 (listR_ok No ms hn _ _ (hms1.noM.mod hg06))) ?_
        rintro _ w7 ⟨rfl, hg7⟩
        iterate 2 refine RL.p rfl rfl ?_
        first | refine RL.splitD (d := 55) rfl rfl (fun h54 => ?_) (fun h54 => ?_) | refine RL.splitN (d := 55) rfl rfl (fun h54 => ?_) (fun h54 => ?_) | refine RL.split (d := 55) rfl rfl (fun h54 => ?_) (fun h54 => ?_)
        · refine RL.q (.yes rfl rfl rfl) rfl rfl (Yld.loadN (cs := bdC bd) a32 rfl (atN (blk0' ((hB10.mod hg06 (fun h => h)).mod hg7 (fun h => h))))) ?_
          refine RL.op (.yes rfl rfl rfl) rfl rfl (Does.call rfl e32 (mayR_ok bd _)) ?_
          rintro _ w8 ⟨rfl, hg8⟩
          iterate 2 refine RL.p rfl rfl ?_
          refine RL.done ?_
          exact RK.back (hj _ (hg7.trans hg8)) ⟨rfl, rfl, rfl, rfl, rfl, rfl, rfl, rfl, rfl, rfl, rfl, rfl, congrArg (fun b => some (Value.bool b)) (show mayB bd = _ by unfold rightS; rw [h54, decide_eq_true (by omega)]; rfl), trivial⟩
        · iterate 2 refine RL.no (.no rfl rfl rfl rfl) rfl rfl ?_
          iterate 2 refine RL.p rfl rfl ?_
          refine RL.done ?_
          exact RK.back (hj _ hg7) ⟨rfl, rfl, rfl, rfl, rfl, rfl, rfl, rfl, rfl, rfl, rfl, rfl, congrArg (fun b => some (Value.bool b)) (show false = _ by unfold rightS; rw [show listM ms = false by simpa using h54]; simp), trivial⟩
      · iterate 2 refine RL.no (.no rfl rfl rfl rfl) rfl rfl ?_
        iterate 2 refine RL.p rfl rfl ?_
        iterate 2 refine RL.no (.no rfl rfl rfl rfl) rfl rfl ?_
        iterate 2 refine RL.p rfl rfl ?_
        refine RL.done ?_
        exact RK.back (hj _ (Mod.refl _ _)) ⟨rfl, rfl, rfl, rfl, rfl, rfl, rfl, rfl, rfl, rfl, rfl, rfl, congrArg (fun b => some (Value.bool b)) (show false = _ by unfold rightS; rw [decide_eq_false (by omega)]; rfl), trivial⟩
end Go.Proofs.YtbcbfjnlnmhpbaaGreat
set_option linter.unusedVariables false
namespace Go.X
open Go Go.RowKit Go.WideShapes Go.ChangeShapes
section
variable {H : Type} {enc : TypeId × Value → H} {P : Program} {W : World} {base : Nat} {sp : Nat → Bool} {held : Bool}
theorem trod_bool {s m : Nat} {cs : List Value} {y : DataW H × List MemPlace} (hs : P.underlying s = some .bool) (h : DataW.trod enc P W base sp held m s cs = some y) : ∃ b : Bool, cs = [.bool b] := by
  cases m with
  | zero => simp [DataW.trod] at h
  | succ n =>
    unfold DataW.trod at h
    rw [hs] at h
    split at h <;> simp_all
theorem trod_fields {t m : Nat} {fs : Array Field} {cs : List Value} {y : DataW H × List MemPlace} (ht : P.underlying t = some (.struct fs)) (h : DataW.trod enc P W base sp held m t cs = some y) : cs.length = P.cellsOf t ∧ ∀ (i : Nat) (f : Field), fs[i]? = some f → ∃ n y', DataW.trod enc P W base sp held n f.type ((cs.drop f.offset).take (P.cellsOf f.type)) = some y' := by
  obtain ⟨xs, n, _, _, hl, hxl, hx⟩ := DataW.trod_struct ht h
  refine ⟨hl, fun i f hf => ?_⟩
  have h1 := hx i f hf
  have hi : i < fs.size := (Array.getElem?_eq_some_iff.1 hf).1
  rw [List.getElem?_eq_getElem (by omega)] at h1
  exact ⟨n, _, h1⟩
theorem trod_3 {t m t0 t1 t2 : Nat} {fs : Array Field} {cs : List Value} {y : DataW H × List MemPlace} (ht : P.underlying t = some (.struct fs)) (hfs : fs.toList.map (fun f => (f.type, f.offset)) = [(t0, 0), (t1, 1), (t2, 2)]) (c0 : P.cellsOf t0 = 1) (c1 : P.cellsOf t1 = 1) (c2 : P.cellsOf t2 = 1) (ct : P.cellsOf t = 3)
    (h : DataW.trod enc P W base sp held m t cs = some y) : ∃ a b c, cs = [a, b, c] ∧ (∃ n y', DataW.trod enc P W base sp held n t0 [a] = some y') ∧ (∃ n y', DataW.trod enc P W base sp held n t1 [b] = some y') ∧ ∃ n y', DataW.trod enc P W base sp held n t2 [c] = some y' := by
  obtain ⟨hl, hx⟩ := trod_fields ht h
  have hsz : fs.toList.length = 3 := by have := congrArg List.length hfs; simpa using this
  obtain ⟨fl⟩ := fs
  match fl, hsz with
  | [f0, f1, f2], _ =>
    simp only [List.map_cons, List.map_nil, List.cons.injEq, Prod.mk.injEq, and_true] at hfs
    obtain ⟨⟨e0, o0⟩, ⟨e1, o1⟩, e2, o2⟩ := hfs
    rw [ct] at hl
    match cs, hl with
    | [a, b, c], _ =>
      have h0 := hx 0 f0 rfl
      have h1 := hx 1 f1 rfl
      have h2 := hx 2 f2 rfl
      rw [e0, o0, c0] at h0
      rw [e1, o1, c1] at h1
      rw [e2, o2, c2] at h2
      exact ⟨a, b, c, rfl, h0, h1, h2⟩
end
end Go.X
set_option linter.unusedVariables false
namespace Go.X
open Go Go.RowKit Go.WideShapes Go.ChangeShapes
section
variable {H : Type} {enc : TypeId × Value → H} {P : Program} {W : World} {base : Nat} {sp : Nat → Bool} {held : Bool}
theorem open_int {k : IntKind} {t : TypeId} {r : Reach} {b0 : Nat} {v : Value} (ht : P.underlying t = some (.int k)) (hval : Value.okWide P W r b0 t v) : ∃ n : Int, v = .int k n := by
  simp only [Value.okWide, ht, Cell.okWide, Cell.ok] at hval
  cases v with
  | int k' n =>
    obtain ⟨rfl, h⟩ := hval
    exact ⟨n, rfl⟩
  | _ => simp at hval
end
end Go.X
namespace Go.Proofs.YtbcbfjnlnmhpbaaGreat.silenceRaw
open Go.ChangeShapes Go.WideShapes Go.ChangeAt Go.RowKit Go.X
set_option linter.unusedVariables false
theorem own : ownKnob Tryz.prog.godebug = none := by kernel_rfl
theorem laidOut : laidOutB Tryz.prog = true := by kernel_rfl
theorem params_ok : ∀ t ∈ Tryz.f8.params.toList, Tryz.prog.readableRec t = true ∧ t < Tryz.prog.types.size := by
  rw [Tryz.params8]
  intro t ht
  simp only [List.mem_cons, List.not_mem_nil, or_false] at ht
  rcases ht with rfl | rfl | rfl | rfl | rfl | rfl <;> exact ⟨by kernel_rfl, of_decide_eq_true (by kernel_rfl)⟩
set_option maxRecDepth 100000 in
theorem lifted (os : Os) (started : os.Started) (H : Type) (enc : TypeId × Value → H) :
    ReturnsInHanded {} Tryz.checked os 8 .any (Rows.silenceRawSpec.pre6 enc Tryz.prog Tryz.f8 Rows.silenceRawRow.domain false) (Rows.silenceRawSpec.post enc Tryz.prog Tryz.f8 false true false false) := by
  refine returnsInHanded_of_change (C := Tryz.checked) own started (by kernel_rfl) Tryz.func8
    (ChangeSpec.witness6 (enc := enc) (C := Tryz.checked) false ⟨#[], #[.int .u64 0, .int .u64 0, .int .u64 0, .slice none 0 0, .agg #[.bool false, .float .f64 0, .float .f64 0], .int .i64 0], []⟩ 8 (by kernel_rfl) (by kernel_rfl) (by kernel_rfl) (by kernel_rfl)) ?_
  intro W base args ds gs before hval0 hW hcnd _
  have hval : ∀ (j : Nat) t v, Tryz.f8.params[j]? = some t → args[j]? = some v → Value.okWide Tryz.prog W .any base t v := hval0
  have hW' := hW
  obtain ⟨p, q, hA0, hV, rfl, hfz, hnd⟩ := hW
  have hlt : ∀ x ∈ p, x.block < W.heap.size := fun x hx => hW'.lt x (List.mem_append_left _ hx)
  have hA : DataW.TrodAll enc Tryz.prog W 0 (fun _ => true) true Tryz.f8.params.toList args.toList ds p := hA0
  have hA1 := hA
  rw [Tryz.params8] at hA hval
  obtain ⟨v0, vs0, d0, ds0, p0, q0, hargs, rfl, rfl, h0, r0⟩ := trodAll_cons hA
  obtain ⟨v1, vs1, d1, ds1, p1, q1, rfl, rfl, rfl, h1, r1⟩ := trodAll_cons r0
  obtain ⟨v2, vs2, d2, ds2, p2, q2, rfl, rfl, rfl, h2, r2⟩ := trodAll_cons r1
  obtain ⟨v3, vs3, d3, ds3, p3, q3, rfl, rfl, rfl, h3, r3⟩ := trodAll_cons r2
  obtain ⟨v4, vs4, d4, ds4, p4, q4, rfl, rfl, rfl, h4, r4⟩ := trodAll_cons r3
  obtain ⟨v5, vs5, d5, ds5, p5, q5, rfl, rfl, rfl, h5, r5⟩ := trodAll_cons r4
  obtain ⟨rfl, rfl, rfl⟩ := trodAll_nil r5
  obtain rfl : args = #[v0, v1, v2, v3, v4, v5] := by cases args; simp_all
  obtain ⟨rfl, rfl⟩ := trodVars_none hV
  have hv0 := hval 0 22 v0 rfl rfl
  have hv1 := hval 1 22 v1 rfl rfl
  have hv2 := hval 2 22 v2 rfl rfl
  have hv3 := hval 3 28 v3 rfl rfl
  have hv4 := hval 4 32 v4 rfl rfl
  have hv5 := hval 5 3 v5 rfl rfl
  clear hval0 hval
  simp only [List.append_nil] at hW' hlt
  have u64r : ∀ b : Int, (Lit.int .u64 b).wf = true → 0 ≤ b ∧ b < 18446744073709551616 := fun b h => by
    have h2 : 0 ≤ b ∧ b ≤ 18446744073709551615 := by simpa [Lit.wf, IntKind.min, IntKind.max, IntKind.signed, IntKind.bits] using h
    omega
  have openU : ∀ (W : World) (r : Reach) (b0 : Nat) (v : Value), Value.okWide Tryz.prog W r b0 22 v → ∃ n : Int, v = .int .u64 n ∧ 0 ≤ n ∧ n < 18446744073709551616 := fun W r b0 v hq => by
    simp only [Value.okWide, Tryz.underlying22, Cell.okWide, Cell.ok] at hq
    cases v with
    | int k n =>
      obtain ⟨rfl, h⟩ := hq
      refine ⟨n, rfl, ?_⟩
      have h2 : 0 ≤ n ∧ n ≤ 18446744073709551615 := by simpa [IntKind.has, IntKind.min, IntKind.max, IntKind.signed, IntKind.bits] using h
      omega
    | _ => simp at hq
  have mtO : ∀ (m : Nat) (cs : List Value) (y : DataW H × List MemPlace), DataW.trod enc Tryz.prog W 0 (fun _ => true) true m 108 cs = some y → ∃ d : Mt, cs = mtC d ∧ d.name.size ≤ 9223372036854775807 := fun m cs y h => by
    obtain ⟨a, b, c, rfl, ⟨_, _, ha⟩, ⟨_, _, hb⟩, _, _, hc⟩ := trod_3 Tryz.underlying108 (t0 := 3) (t1 := 9) (t2 := 9) rfl (by kernel_rfl) (by kernel_rfl) (by kernel_rfl) (by kernel_rfl) h
    obtain ⟨x, hx, _⟩ := trod_i64 Tryz.underlying3 ha
    obtain ⟨y, hy, hyl⟩ := trod_str Tryz.underlying9 hb
    obtain ⟨z, hz, _⟩ := trod_str Tryz.underlying9 hc
    obtain rfl : a = .int .i64 x := by simpa using hx
    obtain rfl : b = .string y := by simpa using hy
    obtain rfl : c = .string z := by simpa using hz
    exact ⟨⟨x, y, z⟩, rfl, hyl⟩
  have bdO : ∀ (m : Nat) (cs : List Value) (y : DataW H × List MemPlace), DataW.trod enc Tryz.prog W 0 (fun _ => true) true m 32 cs = some y → ∃ d : Bd, cs = bdC d := fun m cs y h => by
    obtain ⟨a, b, c, rfl, ⟨_, _, ha⟩, ⟨_, _, hb⟩, _, _, hc⟩ := trod_3 Tryz.underlying32 (t0 := 4) (t1 := 30) (t2 := 30) rfl (by kernel_rfl) (by kernel_rfl) (by kernel_rfl) (by kernel_rfl) h
    obtain ⟨x, hx⟩ := trod_bool Tryz.underlying4 ha
    obtain ⟨y, hy, _⟩ := trod_f64 Tryz.underlying30 hb
    obtain ⟨z, hz, _⟩ := trod_f64 Tryz.underlying30 hc
    obtain rfl : a = .bool x := by simpa using hx
    obtain rfl : b = .float .f64 y := by simpa using hy
    obtain rfl : c = .float .f64 z := by simpa using hz
    exact ⟨⟨x, y, z⟩, rfl⟩
  obtain ⟨now, rfl, h0n, _⟩ := openU _ _ _ _ hv0
  obtain ⟨a, rfl, _⟩ := openU _ _ _ _ hv1
  obtain ⟨e, rfl, he, _⟩ := openU _ _ _ _ hv2
  obtain ⟨ms, hms, hmz, _⟩ := open_list mtC (fun x => x.name.size ≤ 9223372036854775807) mtC_len Tryz.underlying28 (by kernel_rfl) (by omega) hv3 h3 mtO
  obtain ⟨cs, rfl, _⟩ := okWide_struct Tryz.underlying32 hv4
  obtain ⟨bd, rfl⟩ : ∃ d : Bd, cs = (bdC d).toArray := by
    obtain ⟨fuel, hf⟩ := h4
    obtain ⟨d, he⟩ := bdO _ _ _ hf
    exact ⟨d, by cases cs; exact congrArg Array.mk he⟩
  obtain ⟨id, rfl⟩ := X.open_int Tryz.underlying3 hv5
  have hwalk := sraw_ok now a e ms v3 bd id W h0n he hms hmz
  refine Calls.mono hwalk ?_
  rintro e W' ⟨v, rfl, rfl, hg⟩
  refine ⟨_, rfl, post_grow hW' (fun _ _ _ => trodAll_cons_mk (shut_bool Tryz.underlying4 _) trodAll_mk0) (fun sp hsp => ?_) (fun _ => rfl) hg (ok_one (by kernel_rfl) rfl (okWide_bool_mk Tryz.underlying4 _))⟩
  have hA2 := hA1
  simp only [List.append_nil] at hA2 hsp
  exact trodAll_grow laidOut hg sp _ _ _ _ params_ok hlt hsp hA2
end Go.Proofs.YtbcbfjnlnmhpbaaGreat.silenceRaw
