/- What the claim stands on, part 10. Of own lemmas only those that it reaches. -/
import Derived.Test.YtffbcfcoddacmaaGreatKw9
set_option linter.unusedVariables false
set_option linter.unusedSimpArgs false
set_option maxHeartbeats 4000000
set_option maxRecDepth 100000
namespace Go.Proofs.YtffbcfcoddacmaaGreat
open Go Go.X Go.Rex
theorem weightR_ok (M : Nat → Prop) (r : Ru) (m : Int) (w : World) (hr : r.Ok M w) : Fx Tryz.prog 60 [.agg (ruC r).toArray, .int .i64 m] w (fun u w' => (∃ n : Int, u = .int .i64 n) ∧ Grow w w') := by
  obtain ⟨ade, ce, hve⟩ := hr.e.shape
  have hbig := hr.e.big
  refine enter Tryz.func60 rfl rfl rfl _ (Pick.sub (l := [0, 1]) (.cons rfl (.cons rfl .nil))) ?_
  refine RK.seq ?_
  refine RK.region ?_
  refine RL.op (.free rfl) rfl rfl (Does.box rfl) ?_
  rintro _ w1 ⟨b2, rfl, hn2⟩
  have hB := hn2.blk
  refine RL.p rfl rfl ?_
  refine RL.done ?_
  refine RK.seq ?_
  refine RK.region ?_
  refine RL.q (.free rfl) rfl rfl (Yld.fieldAddr fo89_0 rfl) ?_
  refine RL.q (.free rfl) rfl rfl (Yld.load p51 rfl (at1 (hB.cell rfl))) ?_
  refine RL.p rfl rfl ?_
  refine RL.op (.free rfl) rfl rfl (Does.call rfl e50 (weightM_ok M r.src _ _ _ (hr.s.mod (Mod.any' hn2.grow)))) ?_
  rintro _ w2 ⟨⟨n1, rfl⟩, hg2⟩
  refine RL.p rfl rfl ?_
  refine RL.done ?_
  iterate 2 refine RK.seq ?_
  refine RK.region ?_
  iterate 3 refine RL.p rfl rfl ?_
  refine RL.done ?_
  first | refine RK.condD rfl (fun h13 => ?_) (fun h13 => ?_) | refine RK.condN rfl (fun h13 => ?_) (fun h13 => ?_) | refine RK.cond rfl (fun h13 => ?_) (fun h13 => ?_)
  · refine RK.region ?_
    refine RL.p rfl rfl ?_
    refine RL.q (.free rfl) rfl rfl (Yld.fieldAddr fo89_1 rfl) ?_
    refine RL.q (.free rfl) rfl rfl (Yld.load p51 rfl (at1 ((hB.mod hg2 (fun h => h)).cell rfl))) ?_
    refine RL.p rfl rfl ?_
    refine RL.op (.free rfl) rfl rfl (Does.call rfl e50 (weightM_ok M r.tgt _ _ _ (hr.t.mod (Mod.any' (hn2.grow.trans hg2))))) ?_
    rintro _ w3 ⟨⟨n2, rfl⟩, hg3⟩
    have hgX := hg2.trans hg3
    have hBX := hB.mod hgX (fun h => h)
    have hg0 := hn2.grow.trans hgX
    iterate 2 refine RL.p rfl rfl ?_
    refine RL.done ?_
    iterate 2 refine RK.seq ?_
    refine RK.region ?_
    refine RL.p rfl rfl ?_
    refine RL.done ?_
    refine RK.block ?_
    refine RK.loop (fun s : Nat × Int => [(1, .int .i64 m), (2, pp b2), (5, .int .i64 s.2), (6, .int .i64 (s.1 : Int))]) (fun s w' => Grow w w' ∧ Blk w' b2 89 (ruC r) ∧ s.1 ≤ r.eq.length) (fun s => r.eq.length - s.1) (0, _) ⟨rfl, rfl, rfl, rfl, trivial⟩ ⟨hg0, hBX, by simp⟩ (fun s w' hI ih => ?_)
    obtain ⟨k, z⟩ := s
    obtain ⟨hg, hBk, hk⟩ := hI
    simp only at hk
    iterate 2 refine RK.seq ?_
    refine RK.region ?_
    refine RL.p rfl rfl ?_
    refine RL.q (.free rfl) rfl rfl (Yld.fieldAddr fo89_3 rfl) ?_
    refine RL.q (.free rfl) rfl rfl (Yld.load p87 rfl (at1 (hBk.cell (congrArg some hve)))) ?_
    refine RL.q (.free rfl) rfl rfl (Yld.lenSl u87 rfl) ?_
    iterate 2 refine RL.p rfl rfl ?_
    first | refine RL.splitD (d := 25) rfl rfl (fun h24 => ?_) (fun h24 => ?_) | refine RL.splitN (d := 25) rfl rfl (fun h24 => ?_) (fun h24 => ?_) | refine RL.split (d := 25) rfl rfl (fun h24 => ?_) (fun h24 => ?_)
    · obtain ⟨x, hx⟩ : ∃ x, r.eq[k]? = some x := ⟨r.eq[k]'(by omega), List.getElem?_eq_getElem (by omega)⟩
      obtain ⟨b1, o1, c1', he1, _, _, hc1⟩ := hr.e.elem1 (k := k) (u := .string x) (by simp [strsV, hx])
      have he2 := hve.symm.trans he1
      cases he2
      iterate 3 refine RL.q (.yes rfl rfl rfl) rfl rfl (Yld.pure rfl) ?_
      refine RL.p rfl rfl ?_
      refine RL.done ?_
      first | refine RK.condD rfl (fun h29 => ?_) (fun h29 => ?_) | refine RK.condN rfl (fun h29 => ?_) (fun h29 => ?_) | refine RK.cond rfl (fun h29 => ?_) (fun h29 => ?_)
      · refine RK.skip ?_
        refine RK.seq ?_
        refine RK.block ?_
        iterate 2 refine RK.seq ?_
        refine RK.region ?_
        refine RL.q (.free rfl) rfl rfl (Yld.fieldAddr fo89_3 rfl) ?_
        refine RL.q (.free rfl) rfl rfl (Yld.load p87 rfl (at1 (hBk.cell (congrArg some hve)))) ?_
        refine RL.p rfl rfl ?_
        refine RL.q (.free rfl) rfl rfl (Yld.indexAddrN u87 i9 rfl rfl (by omega)) ?_
        refine RL.q (.free rfl) rfl rfl (Yld.load p9 rfl (at1 (hg.cell (hc1 k (.string x) (by simp [strsV, hx])) (fun h => h)))) ?_
        refine RL.q (.free rfl) rfl rfl (Yld.lenStr u9 rfl) ?_
        iterate 2 refine RL.p rfl rfl ?_
        refine RL.done ?_
        first | refine RK.condD rfl (fun h39 => ?_) (fun h39 => ?_) | refine RK.condN rfl (fun h39 => ?_) (fun h39 => ?_) | refine RK.cond rfl (fun h39 => ?_) (fun h39 => ?_)
        · refine RK.seq ?_
          refine RK.region ?_
          iterate 3 refine RL.p rfl rfl ?_
          refine RL.done ?_
          refine RK.ret_of Tryz.func60 (res1 rfl rfl) ?_ _
          exact ⟨_, rfl, ⟨_, rfl⟩, hg⟩
        · refine RK.skip ?_
          refine RK.region ?_
          iterate 2 refine RL.p rfl rfl ?_
          refine RL.q (.free rfl) rfl rfl (Yld.fieldAddr fo89_3 rfl) ?_
          refine RL.q (.free rfl) rfl rfl (Yld.load p87 rfl (at1 (hBk.cell (congrArg some hve)))) ?_
          refine RL.p rfl rfl ?_
          refine RL.q (.free rfl) rfl rfl (Yld.indexAddrN u87 i9 rfl rfl (by omega)) ?_
          refine RL.q (.free rfl) rfl rfl (Yld.load p9 rfl (at1 (hg.cell (hc1 k (.string x) (by simp [strsV, hx])) (fun h => h)))) ?_
          refine RL.q (.free rfl) rfl rfl (Yld.lenStr u9 rfl) ?_
          iterate 2 refine RL.p rfl rfl ?_
          refine RL.done ?_
          refine RK.inBlock ?_
          refine RK.region ?_
          iterate 2 refine RL.p rfl rfl ?_
          refine RL.re (d := 31) rfl rfl (succ_i64 (by omega)) ?_
          refine RL.p rfl rfl ?_
          refine RL.done ?_
          exact RK.back (ih (k + 1, _) _ ⟨hg, hBk, by simp only; omega⟩ (by simp only; omega)) ⟨rfl, rfl, rfl, rfl, trivial⟩
      · refine RK.exit rfl ?_
        refine RK.seq ?_
        refine RK.region ?_
        iterate 3 refine RL.p rfl rfl ?_
        refine RL.q (.free rfl) rfl rfl (Yld.min2 rfl rfl) ?_
        refine RL.p rfl rfl ?_
        refine RL.done ?_
        refine RK.ret_of Tryz.func60 (res1 rfl rfl) ?_ _
        exact ⟨_, rfl, ⟨_, rfl⟩, hg⟩
    · iterate 3 refine RL.no (.no rfl rfl rfl rfl) rfl rfl ?_
      refine RL.p rfl rfl ?_
      refine RL.done ?_
      refine RK.condF rfl ?_
      refine RK.exit rfl ?_
      refine RK.seq ?_
      refine RK.region ?_
      iterate 3 refine RL.p rfl rfl ?_
      refine RL.q (.free rfl) rfl rfl (Yld.min2 rfl rfl) ?_
      refine RL.p rfl rfl ?_
      refine RL.done ?_
      refine RK.ret_of Tryz.func60 (res1 rfl rfl) ?_ _
      exact ⟨_, rfl, ⟨_, rfl⟩, hg⟩
  · have hgX := hg2
    have hBX := hB.mod hgX (fun h => h)
    have hg0 := hn2.grow.trans hgX
    refine RK.skip ?_
    iterate 2 refine RK.seq ?_
    refine RK.region ?_
    refine RL.p rfl rfl ?_
    refine RL.done ?_
    refine RK.block ?_
    refine RK.loop (fun s : Nat × Int => [(1, .int .i64 m), (2, pp b2), (5, .int .i64 s.2), (6, .int .i64 (s.1 : Int))]) (fun s w' => Grow w w' ∧ Blk w' b2 89 (ruC r) ∧ s.1 ≤ r.eq.length) (fun s => r.eq.length - s.1) (0, _) ⟨rfl, rfl, rfl, rfl, trivial⟩ ⟨hg0, hBX, by simp⟩ (fun s w' hI ih => ?_)
    obtain ⟨k, z⟩ := s
    obtain ⟨hg, hBk, hk⟩ := hI
    simp only at hk
    iterate 2 refine RK.seq ?_
    refine RK.region ?_
    refine RL.p rfl rfl ?_
    refine RL.q (.free rfl) rfl rfl (Yld.fieldAddr fo89_3 rfl) ?_
    refine RL.q (.free rfl) rfl rfl (Yld.load p87 rfl (at1 (hBk.cell (congrArg some hve)))) ?_
    refine RL.q (.free rfl) rfl rfl (Yld.lenSl u87 rfl) ?_
    iterate 2 refine RL.p rfl rfl ?_
    first | refine RL.splitD (d := 25) rfl rfl (fun h24 => ?_) (fun h24 => ?_) | refine RL.splitN (d := 25) rfl rfl (fun h24 => ?_) (fun h24 => ?_) | refine RL.split (d := 25) rfl rfl (fun h24 => ?_) (fun h24 => ?_)
    · obtain ⟨x, hx⟩ : ∃ x, r.eq[k]? = some x := ⟨r.eq[k]'(by omega), List.getElem?_eq_getElem (by omega)⟩
      obtain ⟨b1, o1, c1', he1, _, _, hc1⟩ := hr.e.elem1 (k := k) (u := .string x) (by simp [strsV, hx])
      have he2 := hve.symm.trans he1
      cases he2
      iterate 3 refine RL.q (.yes rfl rfl rfl) rfl rfl (Yld.pure rfl) ?_
      refine RL.p rfl rfl ?_
      refine RL.done ?_
      first | refine RK.condD rfl (fun h29 => ?_) (fun h29 => ?_) | refine RK.condN rfl (fun h29 => ?_) (fun h29 => ?_) | refine RK.cond rfl (fun h29 => ?_) (fun h29 => ?_)
      · refine RK.skip ?_
        refine RK.seq ?_
        refine RK.block ?_
        iterate 2 refine RK.seq ?_
        refine RK.region ?_
        refine RL.q (.free rfl) rfl rfl (Yld.fieldAddr fo89_3 rfl) ?_
        refine RL.q (.free rfl) rfl rfl (Yld.load p87 rfl (at1 (hBk.cell (congrArg some hve)))) ?_
        refine RL.p rfl rfl ?_
        refine RL.q (.free rfl) rfl rfl (Yld.indexAddrN u87 i9 rfl rfl (by omega)) ?_
        refine RL.q (.free rfl) rfl rfl (Yld.load p9 rfl (at1 (hg.cell (hc1 k (.string x) (by simp [strsV, hx])) (fun h => h)))) ?_
        refine RL.q (.free rfl) rfl rfl (Yld.lenStr u9 rfl) ?_
        iterate 2 refine RL.p rfl rfl ?_
        refine RL.done ?_
        first | refine RK.condD rfl (fun h39 => ?_) (fun h39 => ?_) | refine RK.condN rfl (fun h39 => ?_) (fun h39 => ?_) | refine RK.cond rfl (fun h39 => ?_) (fun h39 => ?_)
        · refine RK.seq ?_
          refine RK.region ?_
          iterate 3 refine RL.p rfl rfl ?_
          refine RL.done ?_
          refine RK.ret_of Tryz.func60 (res1 rfl rfl) ?_ _
          exact ⟨_, rfl, ⟨_, rfl⟩, hg⟩
        · refine RK.skip ?_
          refine RK.region ?_
          iterate 2 refine RL.p rfl rfl ?_
          refine RL.q (.free rfl) rfl rfl (Yld.fieldAddr fo89_3 rfl) ?_
          refine RL.q (.free rfl) rfl rfl (Yld.load p87 rfl (at1 (hBk.cell (congrArg some hve)))) ?_
          refine RL.p rfl rfl ?_
          refine RL.q (.free rfl) rfl rfl (Yld.indexAddrN u87 i9 rfl rfl (by omega)) ?_
          refine RL.q (.free rfl) rfl rfl (Yld.load p9 rfl (at1 (hg.cell (hc1 k (.string x) (by simp [strsV, hx])) (fun h => h)))) ?_
          refine RL.q (.free rfl) rfl rfl (Yld.lenStr u9 rfl) ?_
          iterate 2 refine RL.p rfl rfl ?_
          refine RL.done ?_
          refine RK.inBlock ?_
          refine RK.region ?_
          iterate 2 refine RL.p rfl rfl ?_
          refine RL.re (d := 31) rfl rfl (succ_i64 (by omega)) ?_
          refine RL.p rfl rfl ?_
          refine RL.done ?_
          exact RK.back (ih (k + 1, _) _ ⟨hg, hBk, by simp only; omega⟩ (by simp only; omega)) ⟨rfl, rfl, rfl, rfl, trivial⟩
      · refine RK.exit rfl ?_
        refine RK.seq ?_
        refine RK.region ?_
        iterate 3 refine RL.p rfl rfl ?_
        refine RL.q (.free rfl) rfl rfl (Yld.min2 rfl rfl) ?_
        refine RL.p rfl rfl ?_
        refine RL.done ?_
        refine RK.ret_of Tryz.func60 (res1 rfl rfl) ?_ _
        exact ⟨_, rfl, ⟨_, rfl⟩, hg⟩
    · iterate 3 refine RL.no (.no rfl rfl rfl rfl) rfl rfl ?_
      refine RL.p rfl rfl ?_
      refine RL.done ?_
      refine RK.condF rfl ?_
      refine RK.exit rfl ?_
      refine RK.seq ?_
      refine RK.region ?_
      iterate 3 refine RL.p rfl rfl ?_
      refine RL.q (.free rfl) rfl rfl (Yld.min2 rfl rfl) ?_
      refine RL.p rfl rfl ?_
      refine RL.done ?_
      refine RK.ret_of Tryz.func60 (res1 rfl rfl) ?_ _
      exact ⟨_, rfl, ⟨_, rfl⟩, hg⟩
theorem mutP_none {r : Ru} (h : isRu r = false) (t : AlS) (l : List AlS) : mkRow (mutP t l [ruP r]) = [] := by
  have e : mutP t l [ruP r] = [] := by
    refine List.eq_nil_iff_forall_not_mem.2 fun y hy => ?_
    simp only [mutP, List.flatMap_cons, List.flatMap_nil, List.append_nil, List.mem_map, List.mem_filter] at hy
    obtain ⟨q, ⟨_, hm⟩, _⟩ := hy
    have hw : worksRu (mkRu (ruP r)) = false := by rw [works_mk]; unfold worksRu; rw [h]; rfl
    unfold mutesS targetS at hm
    rw [hw] at hm
    simp at hm
  rw [e]; exact mkRow_id (by simp [Ris])
theorem mraw_ok (now : Int) (d : Ad) (s : Sil) (als : List Ad) (va : Value) (r : Ru) (w : World) (hd : d.Ok w) (hsm0 : SlM No w s.mv s.ms) (hsz : ∀ m ∈ s.ms, m.name.size ≤ 9223372036854775807) (ha0 : Sl No w va 3 als.length (als.flatMap adC)) (hal0 : ∀ a ∈ als, a.Ok w) (hrk0 : r.Ok No w) (hrz : r.Sz) :
    Fx Tryz.prog 12 [.int .u64 now, .agg (adC d).toArray, .agg (silC s).toArray, va, .agg (ruC r).toArray] w (fun u w' => u = .bool true ∧ Grow w w') := by
  obtain ⟨a2, ca, hva⟩ := ha0.shape
  refine enter Tryz.func12 rfl rfl rfl _ (Pick.sub (l := [0, 1, 2, 3, 4]) (.cons rfl (.cons rfl (.cons rfl (.cons rfl (.cons rfl .nil)))))) ?_
  refine RK.seq ?_
  refine RK.region ?_
  refine RL.op (.free rfl) rfl rfl (Does.box rfl) ?_
  rintro _ w6 ⟨b6, rfl, hn6⟩
  refine RL.op (.free rfl) rfl rfl (Does.box rfl) ?_
  rintro _ w7 ⟨b7, rfl, hn7⟩
  refine RL.op (.free rfl) rfl rfl (Does.box rfl) ?_
  rintro _ w9 ⟨b9, rfl, hn9⟩
  have hg09 : Grow w w9 := (hn6.grow.trans hn7.grow).trans hn9.grow
  have hB6 := hn6.blk.mod (hn7.grow.trans hn9.grow) (fun h => h)
  have hB7 := hn7.blk.mod hn9.grow (fun h => h)
  have hB9 := hn9.blk
  refine RL.p rfl rfl ?_
  refine RL.done ?_
  iterate 2 refine RK.seq ?_
  refine RK.region ?_
  refine RL.q (.free rfl) rfl rfl (Yld.fieldAddr fo95_4 rfl) ?_
  refine RL.q (.free rfl) rfl rfl (Yld.load p51 rfl (at1 (hB7.cell rfl))) ?_
  refine RL.op (.free rfl) rfl rfl (Does.call rfl e50 (weightM_ok No s.ms _ _ _ (hsm0.mod hg09))) ?_
  rintro _ w10 ⟨⟨n1, rfl⟩, hg10⟩
  have hgQ0 := hg09.trans hg10
  iterate 2 refine RL.p rfl rfl ?_
  first | refine RL.splitD (d := 20) rfl rfl (fun h20 => ?_) (fun h20 => ?_) | refine RL.splitN (d := 20) rfl rfl (fun h20 => ?_) (fun h20 => ?_) | refine RL.split (d := 20) rfl rfl (fun h20 => ?_) (fun h20 => ?_)
  · have hgQ := hgQ0
    have hgR := hg10
    iterate 3 refine RL.no (.no rfl rfl rfl rfl) rfl rfl ?_
    refine RL.p rfl rfl ?_
    refine RL.done ?_
    first | refine RK.condD rfl (fun h24 => ?_) (fun h24 => ?_) | refine RK.condN rfl (fun h24 => ?_) (fun h24 => ?_) | refine RK.cond rfl (fun h24 => ?_) (fun h24 => ?_)
    · refine RK.seq ?_
      refine RK.region ?_
      refine RL.op (.free rfl) rfl rfl (Does.call rfl e10 (mruns_ok _)) ?_
      rintro _ w13 ⟨rfl, hg13⟩
      refine RL.p rfl rfl ?_
      refine RL.done ?_
      refine RK.ret_of Tryz.func12 (res1 rfl rfl) ?_ _
      exact ⟨_, rfl, rfl, hgQ.trans hg13⟩
    · refine RK.skip ?_
      refine RK.seq ?_
      refine RK.region ?_
      refine RL.q (.free rfl) rfl rfl (Yld.loadN (cs := adC d) a98 rfl (atN (blk0' (hB6.mod hgR (fun h => h))))) ?_
      refine RL.op (.free rfl) rfl rfl (Does.slice1 u100 i98 rfl rfl rfl rfl rfl) ?_
      rintro _ w27 ⟨b27, rfl, hn27⟩
      refine RL.op (.free rfl) rfl rfl (Does.call rfl e56 (alerts18_ok [d] _ _ (Sl.new hn27 3 1 rfl (by omega) (fun h => h)) (fun x hx => by rw [List.mem_singleton] at hx; subst hx; exact hd.mod (hgQ.trans hn27.grow)))) ?_
      rintro z1 w1 ⟨al1, hal1, hr1, hak1, _, hg1⟩
      obtain ⟨t, rfl⟩ : ∃ t, al1 = [t] := by
          have := congrArg List.length hal1
          simp at this
          exact List.length_eq_one_iff.1 this
      have ht1 := hak1 t (by simp)
      have hsl1 : Sl No w1 z1 3 1 ([t].flatMap alC) := Sl.own hr1 (fun _ _ h => h)
      obtain ⟨x1, x2, x3, hx, _, _, hc1⟩ := Sl.elem (xs := [t]) alC_len hsl1 (k := 0) rfl
      subst hx
      refine RL.q (.free rfl) rfl rfl (Yld.indexAddr u58 i32 rfl rfl (by simp) (by simp)) ?_
      refine RL.q (.free rfl) rfl rfl (Yld.loadN (cs := alC t) a32 rfl (atN (fun q z hq => by simpa using hc1 q z hq))) ?_
      refine RL.op (.free rfl) rfl rfl (Does.alloc i32) ?_
      rintro _ w12 ⟨b11, rfl, hn11⟩
      refine RL.op' (.free rfl) rfl (Does.storeN i32 rfl rfl rfl (alC_one ht1) hn11.blk (Nat.le_refl 3)) ?_
      rintro _ w2 ⟨hb2, hm2, _⟩
      have hg12 : Grow w1 w2 := hn11.grow.then hm2 (fun y hy e => by have e' : y = b11 := e; have := hn11.at_; omega)
      have hgR2 := (hgR.trans (hn27.grow.trans hg1)).trans hg12
      have hg02 : Grow w w2 := hg09.trans hgR2
      have htk : AlOk No w2 t := ht1.mod hg12
      have hB7' := hB7.mod hgR2 (fun h => h)
      have hB9' := hB9.mod hgR2 (fun h => h)
      have hB11 : Blk w2 b11 32 (alC t) := hb2
      have hsm := hsm0.mod hg02
      have ha := ha0.mod hg02
      have hal := fun a h => (hal0 a h).mod hg02
      have hrk := hrk0.mod hg02
      clear hal1 hak1 hr1 hsl1 hc1 ht1 hb2 hsm0 ha0 hal0 hrk0 hd hB6 hB7 hB9 hn6 hn7 hn9 hn27 hn11 hg1 hg12 hgR2 hgQ hgR hg10 hgQ0 h24 hg09 hm2
      have hrz1 : ∀ q ∈ [r], q.Sz := fun q h => by rw [List.mem_singleton] at h; subst h; exact hrz
      have hsz1 : ∀ q ∈ [s], ∀ m ∈ q.ms, m.name.size ≤ 9223372036854775807 := fun q h => by rw [List.mem_singleton] at h; subst h; exact hsz
      have hPI : ∀ {wz wa wa' b35 wb wc wc' b39 : _} {al : List Al} {za : Value}, Grow w2 wz → New wa wa' b35 95 (silC s) → Grow wa' wz → Row wb 32 3 za al.length (al.flatMap alC) → (∀ a ∈ al, AlOk No wb a) → al.length ≤ 16 → Grow wb wz → New wc wc' b39 89 (ruC r) → Grow wc' wz → PlainIn wz t [s] (.slice (some ⟨b35, 0, none⟩) 1 1) al za [r] (.slice (some ⟨b39, 0, none⟩) 1 1) := fun h0 h1 h2 h3 h4 h5 h6 h7 h8 =>
          ⟨htk.mod h0, (Sl.new h1 8 1 rfl (by omega) (fun h => h)).mod h2, fun q h => by rw [List.mem_singleton] at h; subst h; exact hsm.mod h0, (Sl.own h3 (fun _ _ h => h)).mod h6, fun a h => (h4 a h).mod h6, (Sl.new h7 6 1 rfl (by omega) (fun h => h)).mod h8, fun q h => by rw [List.mem_singleton] at h; subst h; exact hrk.mod h0, by simp, by omega, by simp⟩
      refine RL.done ?_
      refine RK.seq ?_
      refine RK.cutS (fun s2 : Value × Value => [(0, .int .u64 now), (3, va), (7, pp b7), (9, pp b9), (11, pp b11), (12, s2.1), (13, s2.2)]) (fun s2 w' => Row w' 3 1 s2.1 (mkRow (silS now t [s])).length (ints (mkRow (silS now t [s]))) ∧ Row w' 3 1 s2.2 (mkRow (mutP (pub t) ((als.take 16).map adP) ([r].map ruP))).length (ints (mkRow (mutP (pub t) ((als.take 16).map adP) ([r].map ruP)))) ∧ Grow w2 w') (fun s2 w3 hQ => ?_) (fun hj => ?_)
      · obtain ⟨u1, u2⟩ := s2
        obtain ⟨hu1, hu2, hg23⟩ := hQ
        refine RK.seq ?_
        refine RK.cutS (fun s2 : Value × Value => [(9, pp b9), (12, u1), (13, u2), (14, s2.1), (15, s2.2)]) (fun s2 w' => Row w' 3 1 s2.1 (mkRow (silS now t [s])).length (ints (mkRow (silS now t [s]))) ∧ Row w' 3 1 s2.2 (mkRow (mutP (pub t) ((als.take 16).map adP) ([r].map ruP))).length (ints (mkRow (mutP (pub t) ((als.take 16).map adP) ([r].map ruP)))) ∧ Grow w3 w') (fun s2 w4 hQ2 => ?_) (fun hj => ?_)
        · obtain ⟨u3, u4⟩ := s2
          obtain ⟨hu3, hu4, hg34⟩ := hQ2
          simp only at hu1 hu2 hu3 hu4
          refine RK.seq ?_
          refine RK.region ?_
          iterate 2 refine RL.p rfl rfl ?_
          refine RL.op (.free rfl) rfl rfl (Does.call rfl e29 (sameInts_ok No _ _ u1 u3 _ (Sl.own (hu1.mod hg34 (fun _ _ h => h)) (fun _ _ h => h)) (Sl.own hu3 (fun _ _ h => h)))) ?_
          rintro _ w5 ⟨rfl, hg5⟩
          refine RL.p rfl rfl ?_
          refine RL.knownT (d := 58) rfl rfl (by simp) ?_
          iterate 2 refine RL.q (.yes rfl rfl rfl) rfl rfl (Yld.pure rfl) ?_
          refine RL.op (.yes rfl rfl rfl) rfl rfl (Does.call rfl e29 (sameInts_ok No _ _ u2 u4 _ (Sl.own ((hu2.mod hg34 (fun _ _ h => h)).mod hg5 (fun _ _ h => h)) (fun _ _ h => h)) (Sl.own (hu4.mod hg5 (fun _ _ h => h)) (fun _ _ h => h)))) ?_
          rintro _ w6 ⟨rfl, hg6⟩
          have hg26 := (hg23.trans hg34).trans (hg5.trans hg6)
          iterate 2 refine RL.p rfl rfl ?_
          refine RL.knownT (d := 63) rfl rfl (by simp) ?_
          refine RL.q (.yes rfl rfl rfl) rfl rfl (Yld.loadN (cs := ruC r) a89 rfl (atN (blk0' (hB9'.mod hg26 (fun h => h))))) ?_
          refine RL.op (.yes rfl rfl rfl) rfl rfl (Does.call rfl e61 (isRuleR_ok No r _ (hrk.mod hg26) hrz)) ?_
          rintro _ w7 ⟨rfl, hg7⟩
          obtain ⟨ad2, c2, hu2e⟩ := hu2.slice
          subst hu2e
          refine RL.q (.yes rfl rfl rfl) rfl rfl (Yld.pure rfl) ?_
          first | refine RL.splitD (d := 66) rfl rfl (fun h66 => ?_) (fun h66 => ?_) | refine RL.splitN (d := 66) rfl rfl (fun h66 => ?_) (fun h66 => ?_) | refine RL.split (d := 66) rfl rfl (fun h66 => ?_) (fun h66 => ?_)
          · iterate 3 refine RL.no (.no rfl rfl rfl rfl) rfl rfl ?_
            refine RL.q (.yes rfl rfl rfl) rfl rfl (Yld.pure rfl) ?_
            iterate 2 refine RL.p rfl rfl ?_
            refine RL.op (.yes rfl rfl rfl) rfl rfl (Does.call rfl e10 (mruns_ok _)) ?_
            rintro _ w8 ⟨rfl, hg8⟩
            iterate 2 refine RL.p rfl rfl ?_
            refine RL.done ?_
            refine RK.ret_of Tryz.func12 (res1 rfl rfl) ?_ _
            exact ⟨_, rfl, rfl, ((hg02.trans hg26).trans hg7).trans hg8⟩
          · refine RL.q (.yes rfl rfl rfl) rfl rfl (Yld.pure rfl) ?_
            refine RL.q (.yes rfl rfl rfl) rfl rfl (Yld.lenSl u22 rfl) ?_
            iterate 2 refine RL.q (.yes rfl rfl rfl) rfl rfl (Yld.pure rfl) ?_
            iterate 2 refine RL.p rfl rfl ?_
            refine RL.knownT (d := 72) rfl rfl (decide_eq_true (by rw [List.map_singleton, mutP_none h66]; rfl)) ?_
            refine RL.op (.yes rfl rfl rfl) rfl rfl (Does.call rfl e10 (mruns_ok _)) ?_
            rintro _ w8 ⟨rfl, hg8⟩
            iterate 2 refine RL.p rfl rfl ?_
            refine RL.done ?_
            refine RK.ret_of Tryz.func12 (res1 rfl rfl) ?_ _
            exact ⟨_, rfl, rfl, ((hg02.trans hg26).trans hg7).trans hg8⟩
        · refine RK.drawT No (.op 0 false (.op 1 false (.op 2 false (.op 4 false (.op 6 false (.fork3 3 (.fork 5 (.op 7 true (.op 8 true (.op 9 false (.op 10 false (.op 11 false (.op 12 false (.op 13 false .nil))))))) 7 (.op 5 true (.op 8 true (.op 9 false (.op 10 false (.op 11 false (.op 12 false (.op 13 false .nil)))))))) 5 (.fork 3 (.op 7 true (.op 8 true (.op 9 false (.op 10 false (.op 11 false (.op 12 false (.op 13 false .nil))))))) 7 (.op 3 true (.op 8 true (.op 9 false (.op 10 false (.op 11 false (.op 12 false (.op 13 false .nil)))))))) 7 (.fork 3 (.op 5 true (.op 8 true (.op 9 false (.op 10 false (.op 11 false (.op 12 false (.op 13 false .nil))))))) 5 (.op 3 true (.op 8 true (.op 9 false (.op 10 false (.op 11 false (.op 12 false (.op 13 false .nil)))))))))))))) [] mixed (by kernel_rfl) ?_
          refine DT.p rfl rfl rfl ?_
          refine DT.q rfl (.free rfl) rfl rfl rfl (Yld.loadN (cs := alC t) a32 rfl (atNM (blk0' (hB11.mod hg23 (fun h => h))) (fun h => h))) (Mod.drew _ _) ?_
          refine DT.q rfl (.free rfl) rfl rfl rfl (Yld.loadN (cs := silC s) a95 rfl (atNM (blk0' (hB7'.mod hg23 (fun h => h))) (fun h => h))) (Mod.drew _ _) ?_
          refine DT.p rfl rfl rfl ?_
          refine DT.q rfl (.free rfl) rfl rfl rfl (Yld.loadN (cs := ruC r) a89 rfl (atNM (blk0' (hB9'.mod hg23 (fun h => h))) (fun h => h))) (Mod.drew _ _) ?_
          refine DT.fork3 ?_ ?_ ?_
          · refine DT.op rfl (.free rfl) rfl rfl (Does.slice1 u96 i95 rfl rfl rfl rfl rfl) ?_
            rintro _ wS1 ⟨b35, rfl, hn35⟩
            have hd1 := (Mod.drew No _).trans hn35.grow
            refine ⟨hd1, ?_⟩
            refine DT.fork ?_ ?_
            · refine DT.op rfl (.free rfl) rfl rfl (Does.call rfl e56 (alerts18_ok als _ _ (ha.mod (hg23.trans hd1)) (fun d h => (hal d h).mod (hg23.trans hd1)))) ?_
              rintro za wS2 ⟨al, hala, hra, hak, _, hg37⟩
              have hd2 := hd1.trans hg37
              refine ⟨hd2, ?_⟩
              refine DT.op rfl (.free rfl) rfl rfl (Does.slice1 u91 i89 rfl rfl rfl rfl rfl) ?_
              rintro _ wS3 ⟨b39, rfl, hn39⟩
              have hd3 := hd2.trans hn39.grow
              refine ⟨hd3, ?_⟩
              have hal16 : al.length ≤ 16 := by have := congrArg List.length hala; simp at this; omega
              refine DT.op rfl (.free rfl) rfl rfl (Does.call rfl e59 (plainR_ok now t [s] (.slice (some ⟨b35, 0, none⟩) 1 1) al za [r] (.slice (some ⟨b39, 0, none⟩) 1 1) _ (hPI (hg23.trans hd3) hn35 (hg37.trans hn39.grow) hra hak hal16 hn39.grow hn39 (Mod.refl No _)) hrz1 hsz1)) ?_
              rintro _ w8 ⟨v1, v2, rfl, hv1, hv2, hg8⟩
              have hgA := hd3.trans hg8
              refine ⟨hgA, ?_⟩
              rw [mutS_pub, hala] at hv2
              iterate 5 refine DT.p rfl rfl rfl ?_
              refine DT.done ?_
              exact RK.back (hj (v1, v2) _ ⟨hv1, hv2, hgA⟩) ⟨rfl, rfl, rfl, rfl, rfl, trivial⟩
            · refine DT.op rfl (.free rfl) rfl rfl (Does.slice1 u91 i89 rfl rfl rfl rfl rfl) ?_
              rintro _ wS2 ⟨b39, rfl, hn39⟩
              have hd2 := hd1.trans hn39.grow
              refine ⟨hd2, ?_⟩
              refine DT.op rfl (.free rfl) rfl rfl (Does.call rfl e56 (alerts18_ok als _ _ (ha.mod (hg23.trans hd2)) (fun d h => (hal d h).mod (hg23.trans hd2)))) ?_
              rintro za wS3 ⟨al, hala, hra, hak, _, hg37⟩
              have hd3 := hd2.trans hg37
              refine ⟨hd3, ?_⟩
              have hal16 : al.length ≤ 16 := by have := congrArg List.length hala; simp at this; omega
              refine DT.op rfl (.free rfl) rfl rfl (Does.call rfl e59 (plainR_ok now t [s] (.slice (some ⟨b35, 0, none⟩) 1 1) al za [r] (.slice (some ⟨b39, 0, none⟩) 1 1) _ (hPI (hg23.trans hd3) hn35 (hn39.grow.trans hg37) hra hak hal16 (Mod.refl No _) hn39 hg37) hrz1 hsz1)) ?_
              rintro _ w8 ⟨v1, v2, rfl, hv1, hv2, hg8⟩
              have hgA := hd3.trans hg8
              refine ⟨hgA, ?_⟩
              rw [mutS_pub, hala] at hv2
              iterate 5 refine DT.p rfl rfl rfl ?_
              refine DT.done ?_
              exact RK.back (hj (v1, v2) _ ⟨hv1, hv2, hgA⟩) ⟨rfl, rfl, rfl, rfl, rfl, trivial⟩
          · refine DT.op rfl (.free rfl) rfl rfl (Does.call rfl e56 (alerts18_ok als _ _ (ha.mod (hg23.trans (Mod.drew No _))) (fun d h => (hal d h).mod (hg23.trans (Mod.drew No _))))) ?_
            rintro za wS1 ⟨al, hala, hra, hak, _, hg37⟩
            have hd1 := (Mod.drew No _).trans hg37
            refine ⟨hd1, ?_⟩
            refine DT.fork ?_ ?_
            · refine DT.op rfl (.free rfl) rfl rfl (Does.slice1 u96 i95 rfl rfl rfl rfl rfl) ?_
              rintro _ wS2 ⟨b35, rfl, hn35⟩
              have hd2 := hd1.trans hn35.grow
              refine ⟨hd2, ?_⟩
              refine DT.op rfl (.free rfl) rfl rfl (Does.slice1 u91 i89 rfl rfl rfl rfl rfl) ?_
              rintro _ wS3 ⟨b39, rfl, hn39⟩
              have hd3 := hd2.trans hn39.grow
              refine ⟨hd3, ?_⟩
              have hal16 : al.length ≤ 16 := by have := congrArg List.length hala; simp at this; omega
              refine DT.op rfl (.free rfl) rfl rfl (Does.call rfl e59 (plainR_ok now t [s] (.slice (some ⟨b35, 0, none⟩) 1 1) al za [r] (.slice (some ⟨b39, 0, none⟩) 1 1) _ (hPI (hg23.trans hd3) hn35 hn39.grow hra hak hal16 (hn35.grow.trans hn39.grow) hn39 (Mod.refl No _)) hrz1 hsz1)) ?_
              rintro _ w8 ⟨v1, v2, rfl, hv1, hv2, hg8⟩
              have hgA := hd3.trans hg8
              refine ⟨hgA, ?_⟩
              rw [mutS_pub, hala] at hv2
              iterate 5 refine DT.p rfl rfl rfl ?_
              refine DT.done ?_
              exact RK.back (hj (v1, v2) _ ⟨hv1, hv2, hgA⟩) ⟨rfl, rfl, rfl, rfl, rfl, trivial⟩
            · refine DT.op rfl (.free rfl) rfl rfl (Does.slice1 u91 i89 rfl rfl rfl rfl rfl) ?_
              rintro _ wS2 ⟨b39, rfl, hn39⟩
              have hd2 := hd1.trans hn39.grow
              refine ⟨hd2, ?_⟩
              refine DT.op rfl (.free rfl) rfl rfl (Does.slice1 u96 i95 rfl rfl rfl rfl rfl) ?_
              rintro _ wS3 ⟨b35, rfl, hn35⟩
              have hd3 := hd2.trans hn35.grow
              refine ⟨hd3, ?_⟩
              have hal16 : al.length ≤ 16 := by have := congrArg List.length hala; simp at this; omega
              refine DT.op rfl (.free rfl) rfl rfl (Does.call rfl e59 (plainR_ok now t [s] (.slice (some ⟨b35, 0, none⟩) 1 1) al za [r] (.slice (some ⟨b39, 0, none⟩) 1 1) _ (hPI (hg23.trans hd3) hn35 (Mod.refl No _) hra hak hal16 (hn39.grow.trans hn35.grow) hn39 hn35.grow) hrz1 hsz1)) ?_
              rintro _ w8 ⟨v1, v2, rfl, hv1, hv2, hg8⟩
              have hgA := hd3.trans hg8
              refine ⟨hgA, ?_⟩
              rw [mutS_pub, hala] at hv2
              iterate 5 refine DT.p rfl rfl rfl ?_
              refine DT.done ?_
              exact RK.back (hj (v1, v2) _ ⟨hv1, hv2, hgA⟩) ⟨rfl, rfl, rfl, rfl, rfl, trivial⟩
          · refine DT.op rfl (.free rfl) rfl rfl (Does.slice1 u91 i89 rfl rfl rfl rfl rfl) ?_
            rintro _ wS1 ⟨b39, rfl, hn39⟩
            have hd1 := (Mod.drew No _).trans hn39.grow
            refine ⟨hd1, ?_⟩
            refine DT.fork ?_ ?_
            · refine DT.op rfl (.free rfl) rfl rfl (Does.slice1 u96 i95 rfl rfl rfl rfl rfl) ?_
              rintro _ wS2 ⟨b35, rfl, hn35⟩
              have hd2 := hd1.trans hn35.grow
              refine ⟨hd2, ?_⟩
              refine DT.op rfl (.free rfl) rfl rfl (Does.call rfl e56 (alerts18_ok als _ _ (ha.mod (hg23.trans hd2)) (fun d h => (hal d h).mod (hg23.trans hd2)))) ?_
              rintro za wS3 ⟨al, hala, hra, hak, _, hg37⟩
              have hd3 := hd2.trans hg37
              refine ⟨hd3, ?_⟩
              have hal16 : al.length ≤ 16 := by have := congrArg List.length hala; simp at this; omega
              refine DT.op rfl (.free rfl) rfl rfl (Does.call rfl e59 (plainR_ok now t [s] (.slice (some ⟨b35, 0, none⟩) 1 1) al za [r] (.slice (some ⟨b39, 0, none⟩) 1 1) _ (hPI (hg23.trans hd3) hn35 hg37 hra hak hal16 (Mod.refl No _) hn39 (hn35.grow.trans hg37)) hrz1 hsz1)) ?_
              rintro _ w8 ⟨v1, v2, rfl, hv1, hv2, hg8⟩
              have hgA := hd3.trans hg8
              refine ⟨hgA, ?_⟩
              rw [mutS_pub, hala] at hv2
              iterate 5 refine DT.p rfl rfl rfl ?_
              refine DT.done ?_
              exact RK.back (hj (v1, v2) _ ⟨hv1, hv2, hgA⟩) ⟨rfl, rfl, rfl, rfl, rfl, trivial⟩
            · refine DT.op rfl (.free rfl) rfl rfl (Does.call rfl e56 (alerts18_ok als _ _ (ha.mod (hg23.trans hd1)) (fun d h => (hal d h).mod (hg23.trans hd1)))) ?_
              rintro za wS2 ⟨al, hala, hra, hak, _, hg37⟩
              have hd2 := hd1.trans hg37
              refine ⟨hd2, ?_⟩
              refine DT.op rfl (.free rfl) rfl rfl (Does.slice1 u96 i95 rfl rfl rfl rfl rfl) ?_
              rintro _ wS3 ⟨b35, rfl, hn35⟩
              have hd3 := hd2.trans hn35.grow
              refine ⟨hd3, ?_⟩
              have hal16 : al.length ≤ 16 := by have := congrArg List.length hala; simp at this; omega
              refine DT.op rfl (.free rfl) rfl rfl (Does.call rfl e59 (plainR_ok now t [s] (.slice (some ⟨b35, 0, none⟩) 1 1) al za [r] (.slice (some ⟨b39, 0, none⟩) 1 1) _ (hPI (hg23.trans hd3) hn35 (Mod.refl No _) hra hak hal16 hn35.grow hn39 (hg37.trans hn35.grow)) hrz1 hsz1)) ?_
              rintro _ w8 ⟨v1, v2, rfl, hv1, hv2, hg8⟩
              have hgA := hd3.trans hg8
              refine ⟨hgA, ?_⟩
              rw [mutS_pub, hala] at hv2
              iterate 5 refine DT.p rfl rfl rfl ?_
              refine DT.done ?_
              exact RK.back (hj (v1, v2) _ ⟨hv1, hv2, hgA⟩) ⟨rfl, rfl, rfl, rfl, rfl, trivial⟩
      · refine RK.drawT No (.op 0 false (.op 1 false (.op 2 false (.op 4 false (.op 6 false (.fork3 3 (.fork 5 (.op 7 true (.op 8 true (.op 9 false (.op 10 false (.op 11 false (.op 12 false (.op 13 false .nil))))))) 7 (.op 5 true (.op 8 true (.op 9 false (.op 10 false (.op 11 false (.op 12 false (.op 13 false .nil)))))))) 5 (.fork 3 (.op 7 true (.op 8 true (.op 9 false (.op 10 false (.op 11 false (.op 12 false (.op 13 false .nil))))))) 7 (.op 3 true (.op 8 true (.op 9 false (.op 10 false (.op 11 false (.op 12 false (.op 13 false .nil)))))))) 7 (.fork 3 (.op 5 true (.op 8 true (.op 9 false (.op 10 false (.op 11 false (.op 12 false (.op 13 false .nil))))))) 5 (.op 3 true (.op 8 true (.op 9 false (.op 10 false (.op 11 false (.op 12 false (.op 13 false .nil)))))))))))))) [] mixed (by kernel_rfl) ?_
        refine DT.p rfl rfl rfl ?_
        refine DT.q rfl (.free rfl) rfl rfl rfl (Yld.loadN (cs := alC t) a32 rfl (atNM (blk0' hB11) (fun h => h))) (Mod.drew _ _) ?_
        refine DT.q rfl (.free rfl) rfl rfl rfl (Yld.loadN (cs := silC s) a95 rfl (atNM (blk0' hB7') (fun h => h))) (Mod.drew _ _) ?_
        refine DT.p rfl rfl rfl ?_
        refine DT.q rfl (.free rfl) rfl rfl rfl (Yld.loadN (cs := ruC r) a89 rfl (atNM (blk0' hB9') (fun h => h))) (Mod.drew _ _) ?_
        refine DT.fork3 ?_ ?_ ?_
        · refine DT.op rfl (.free rfl) rfl rfl (Does.slice1 u96 i95 rfl rfl rfl rfl rfl) ?_
          rintro _ wS1 ⟨b35, rfl, hn35⟩
          have hd1 := (Mod.drew No _).trans hn35.grow
          refine ⟨hd1, ?_⟩
          refine DT.fork ?_ ?_
          · refine DT.op rfl (.free rfl) rfl rfl (Does.call rfl e56 (alerts18_ok als _ _ (ha.mod ((Mod.refl No w2).trans hd1)) (fun d h => (hal d h).mod ((Mod.refl No w2).trans hd1)))) ?_
            rintro za wS2 ⟨al, hala, hra, hak, _, hg37⟩
            have hd2 := hd1.trans hg37
            refine ⟨hd2, ?_⟩
            refine DT.op rfl (.free rfl) rfl rfl (Does.slice1 u91 i89 rfl rfl rfl rfl rfl) ?_
            rintro _ wS3 ⟨b39, rfl, hn39⟩
            have hd3 := hd2.trans hn39.grow
            refine ⟨hd3, ?_⟩
            have hal16 : al.length ≤ 16 := by have := congrArg List.length hala; simp at this; omega
            refine DT.op rfl (.free rfl) rfl rfl (Does.call rfl e55 (plain_ok now t [s] (.slice (some ⟨b35, 0, none⟩) 1 1) al za [r] (.slice (some ⟨b39, 0, none⟩) 1 1) _ (hPI ((Mod.refl No w2).trans hd3) hn35 (hg37.trans hn39.grow) hra hak hal16 hn39.grow hn39 (Mod.refl No _)))) ?_
            rintro _ w8 ⟨v1, v2, rfl, hv1, hv2, hg8⟩
            have hgA := hd3.trans hg8
            refine ⟨hgA, ?_⟩
            rw [mutS_pub, hala] at hv2
            iterate 5 refine DT.p rfl rfl rfl ?_
            refine DT.done ?_
            exact RK.back (hj (v1, v2) _ ⟨hv1, hv2, hgA⟩) ⟨rfl, rfl, rfl, rfl, rfl, rfl, rfl, trivial⟩
          · refine DT.op rfl (.free rfl) rfl rfl (Does.slice1 u91 i89 rfl rfl rfl rfl rfl) ?_
            rintro _ wS2 ⟨b39, rfl, hn39⟩
            have hd2 := hd1.trans hn39.grow
            refine ⟨hd2, ?_⟩
            refine DT.op rfl (.free rfl) rfl rfl (Does.call rfl e56 (alerts18_ok als _ _ (ha.mod ((Mod.refl No w2).trans hd2)) (fun d h => (hal d h).mod ((Mod.refl No w2).trans hd2)))) ?_
            rintro za wS3 ⟨al, hala, hra, hak, _, hg37⟩
            have hd3 := hd2.trans hg37
            refine ⟨hd3, ?_⟩
            have hal16 : al.length ≤ 16 := by have := congrArg List.length hala; simp at this; omega
            refine DT.op rfl (.free rfl) rfl rfl (Does.call rfl e55 (plain_ok now t [s] (.slice (some ⟨b35, 0, none⟩) 1 1) al za [r] (.slice (some ⟨b39, 0, none⟩) 1 1) _ (hPI ((Mod.refl No w2).trans hd3) hn35 (hn39.grow.trans hg37) hra hak hal16 (Mod.refl No _) hn39 hg37))) ?_
            rintro _ w8 ⟨v1, v2, rfl, hv1, hv2, hg8⟩
            have hgA := hd3.trans hg8
            refine ⟨hgA, ?_⟩
            rw [mutS_pub, hala] at hv2
            iterate 5 refine DT.p rfl rfl rfl ?_
            refine DT.done ?_
            exact RK.back (hj (v1, v2) _ ⟨hv1, hv2, hgA⟩) ⟨rfl, rfl, rfl, rfl, rfl, rfl, rfl, trivial⟩
        · refine DT.op rfl (.free rfl) rfl rfl (Does.call rfl e56 (alerts18_ok als _ _ (ha.mod ((Mod.refl No w2).trans (Mod.drew No _))) (fun d h => (hal d h).mod ((Mod.refl No w2).trans (Mod.drew No _))))) ?_
          rintro za wS1 ⟨al, hala, hra, hak, _, hg37⟩
          have hd1 := (Mod.drew No _).trans hg37
          refine ⟨hd1, ?_⟩
          refine DT.fork ?_ ?_
          · refine DT.op rfl (.free rfl) rfl rfl (Does.slice1 u96 i95 rfl rfl rfl rfl rfl) ?_
            rintro _ wS2 ⟨b35, rfl, hn35⟩
            have hd2 := hd1.trans hn35.grow
            refine ⟨hd2, ?_⟩
            refine DT.op rfl (.free rfl) rfl rfl (Does.slice1 u91 i89 rfl rfl rfl rfl rfl) ?_
            rintro _ wS3 ⟨b39, rfl, hn39⟩
            have hd3 := hd2.trans hn39.grow
            refine ⟨hd3, ?_⟩
            have hal16 : al.length ≤ 16 := by have := congrArg List.length hala; simp at this; omega
            refine DT.op rfl (.free rfl) rfl rfl (Does.call rfl e55 (plain_ok now t [s] (.slice (some ⟨b35, 0, none⟩) 1 1) al za [r] (.slice (some ⟨b39, 0, none⟩) 1 1) _ (hPI ((Mod.refl No w2).trans hd3) hn35 hn39.grow hra hak hal16 (hn35.grow.trans hn39.grow) hn39 (Mod.refl No _)))) ?_
            rintro _ w8 ⟨v1, v2, rfl, hv1, hv2, hg8⟩
            have hgA := hd3.trans hg8
            refine ⟨hgA, ?_⟩
            rw [mutS_pub, hala] at hv2
            iterate 5 refine DT.p rfl rfl rfl ?_
            refine DT.done ?_
            exact RK.back (hj (v1, v2) _ ⟨hv1, hv2, hgA⟩) ⟨rfl, rfl, rfl, rfl, rfl, rfl, rfl, trivial⟩
          · refine DT.op rfl (.free rfl) rfl rfl (Does.slice1 u91 i89 rfl rfl rfl rfl rfl) ?_
            rintro _ wS2 ⟨b39, rfl, hn39⟩
            have hd2 := hd1.trans hn39.grow
            refine ⟨hd2, ?_⟩
            refine DT.op rfl (.free rfl) rfl rfl (Does.slice1 u96 i95 rfl rfl rfl rfl rfl) ?_
            rintro _ wS3 ⟨b35, rfl, hn35⟩
            have hd3 := hd2.trans hn35.grow
            refine ⟨hd3, ?_⟩
            have hal16 : al.length ≤ 16 := by have := congrArg List.length hala; simp at this; omega
            refine DT.op rfl (.free rfl) rfl rfl (Does.call rfl e55 (plain_ok now t [s] (.slice (some ⟨b35, 0, none⟩) 1 1) al za [r] (.slice (some ⟨b39, 0, none⟩) 1 1) _ (hPI ((Mod.refl No w2).trans hd3) hn35 (Mod.refl No _) hra hak hal16 (hn39.grow.trans hn35.grow) hn39 hn35.grow))) ?_
            rintro _ w8 ⟨v1, v2, rfl, hv1, hv2, hg8⟩
            have hgA := hd3.trans hg8
            refine ⟨hgA, ?_⟩
            rw [mutS_pub, hala] at hv2
            iterate 5 refine DT.p rfl rfl rfl ?_
            refine DT.done ?_
            exact RK.back (hj (v1, v2) _ ⟨hv1, hv2, hgA⟩) ⟨rfl, rfl, rfl, rfl, rfl, rfl, rfl, trivial⟩
        · refine DT.op rfl (.free rfl) rfl rfl (Does.slice1 u91 i89 rfl rfl rfl rfl rfl) ?_
          rintro _ wS1 ⟨b39, rfl, hn39⟩
          have hd1 := (Mod.drew No _).trans hn39.grow
          refine ⟨hd1, ?_⟩
          refine DT.fork ?_ ?_
          · refine DT.op rfl (.free rfl) rfl rfl (Does.slice1 u96 i95 rfl rfl rfl rfl rfl) ?_
            rintro _ wS2 ⟨b35, rfl, hn35⟩
            have hd2 := hd1.trans hn35.grow
            refine ⟨hd2, ?_⟩
            refine DT.op rfl (.free rfl) rfl rfl (Does.call rfl e56 (alerts18_ok als _ _ (ha.mod ((Mod.refl No w2).trans hd2)) (fun d h => (hal d h).mod ((Mod.refl No w2).trans hd2)))) ?_
            rintro za wS3 ⟨al, hala, hra, hak, _, hg37⟩
            have hd3 := hd2.trans hg37
            refine ⟨hd3, ?_⟩
            have hal16 : al.length ≤ 16 := by have := congrArg List.length hala; simp at this; omega
            refine DT.op rfl (.free rfl) rfl rfl (Does.call rfl e55 (plain_ok now t [s] (.slice (some ⟨b35, 0, none⟩) 1 1) al za [r] (.slice (some ⟨b39, 0, none⟩) 1 1) _ (hPI ((Mod.refl No w2).trans hd3) hn35 hg37 hra hak hal16 (Mod.refl No _) hn39 (hn35.grow.trans hg37)))) ?_
            rintro _ w8 ⟨v1, v2, rfl, hv1, hv2, hg8⟩
            have hgA := hd3.trans hg8
            refine ⟨hgA, ?_⟩
            rw [mutS_pub, hala] at hv2
            iterate 5 refine DT.p rfl rfl rfl ?_
            refine DT.done ?_
            exact RK.back (hj (v1, v2) _ ⟨hv1, hv2, hgA⟩) ⟨rfl, rfl, rfl, rfl, rfl, rfl, rfl, trivial⟩
          · refine DT.op rfl (.free rfl) rfl rfl (Does.call rfl e56 (alerts18_ok als _ _ (ha.mod ((Mod.refl No w2).trans hd1)) (fun d h => (hal d h).mod ((Mod.refl No w2).trans hd1)))) ?_
            rintro za wS2 ⟨al, hala, hra, hak, _, hg37⟩
            have hd2 := hd1.trans hg37
            refine ⟨hd2, ?_⟩
            refine DT.op rfl (.free rfl) rfl rfl (Does.slice1 u96 i95 rfl rfl rfl rfl rfl) ?_
            rintro _ wS3 ⟨b35, rfl, hn35⟩
            have hd3 := hd2.trans hn35.grow
            refine ⟨hd3, ?_⟩
            have hal16 : al.length ≤ 16 := by have := congrArg List.length hala; simp at this; omega
            refine DT.op rfl (.free rfl) rfl rfl (Does.call rfl e55 (plain_ok now t [s] (.slice (some ⟨b35, 0, none⟩) 1 1) al za [r] (.slice (some ⟨b39, 0, none⟩) 1 1) _ (hPI ((Mod.refl No w2).trans hd3) hn35 (Mod.refl No _) hra hak hal16 hn35.grow hn39 (hg37.trans hn35.grow)))) ?_
            rintro _ w8 ⟨v1, v2, rfl, hv1, hv2, hg8⟩
            have hgA := hd3.trans hg8
            refine ⟨hgA, ?_⟩
            rw [mutS_pub, hala] at hv2
            iterate 5 refine DT.p rfl rfl rfl ?_
            refine DT.done ?_
            exact RK.back (hj (v1, v2) _ ⟨hv1, hv2, hgA⟩) ⟨rfl, rfl, rfl, rfl, rfl, rfl, rfl, trivial⟩
  · refine RL.q (.yes rfl rfl rfl) rfl rfl (Yld.loadN (cs := ruC r) a89 rfl (atN (blk0' (hB9.mod hg10 (fun h => h))))) ?_
    refine RL.op (.yes rfl rfl rfl) rfl rfl (Does.call rfl e60 (weightR_ok No r _ _ (hrk0.mod hgQ0))) ?_
    rintro _ w11 ⟨⟨n2, rfl⟩, hg11⟩
    have hgQ := hgQ0.trans hg11
    have hgR := hg10.trans hg11
    refine RL.q (.yes rfl rfl rfl) rfl rfl (Yld.pure rfl) ?_
    refine RL.p rfl rfl ?_
    refine RL.done ?_
    first | refine RK.condD rfl (fun h24 => ?_) (fun h24 => ?_) | refine RK.condN rfl (fun h24 => ?_) (fun h24 => ?_) | refine RK.cond rfl (fun h24 => ?_) (fun h24 => ?_)
    · refine RK.seq ?_
      refine RK.region ?_
      refine RL.op (.free rfl) rfl rfl (Does.call rfl e10 (mruns_ok _)) ?_
      rintro _ w13 ⟨rfl, hg13⟩
      refine RL.p rfl rfl ?_
      refine RL.done ?_
      refine RK.ret_of Tryz.func12 (res1 rfl rfl) ?_ _
      exact ⟨_, rfl, rfl, hgQ.trans hg13⟩
    · refine RK.skip ?_
      refine RK.seq ?_
      refine RK.region ?_
      refine RL.q (.free rfl) rfl rfl (Yld.loadN (cs := adC d) a98 rfl (atN (blk0' (hB6.mod hgR (fun h => h))))) ?_
      refine RL.op (.free rfl) rfl rfl (Does.slice1 u100 i98 rfl rfl rfl rfl rfl) ?_
      rintro _ w27 ⟨b27, rfl, hn27⟩
      refine RL.op (.free rfl) rfl rfl (Does.call rfl e56 (alerts18_ok [d] _ _ (Sl.new hn27 3 1 rfl (by omega) (fun h => h)) (fun x hx => by rw [List.mem_singleton] at hx; subst hx; exact hd.mod (hgQ.trans hn27.grow)))) ?_
      rintro z1 w1 ⟨al1, hal1, hr1, hak1, _, hg1⟩
      obtain ⟨t, rfl⟩ : ∃ t, al1 = [t] := by
          have := congrArg List.length hal1
          simp at this
          exact List.length_eq_one_iff.1 this
      have ht1 := hak1 t (by simp)
      have hsl1 : Sl No w1 z1 3 1 ([t].flatMap alC) := Sl.own hr1 (fun _ _ h => h)
      obtain ⟨x1, x2, x3, hx, _, _, hc1⟩ := Sl.elem (xs := [t]) alC_len hsl1 (k := 0) rfl
      subst hx
      refine RL.q (.free rfl) rfl rfl (Yld.indexAddr u58 i32 rfl rfl (by simp) (by simp)) ?_
      refine RL.q (.free rfl) rfl rfl (Yld.loadN (cs := alC t) a32 rfl (atN (fun q z hq => by simpa using hc1 q z hq))) ?_
      refine RL.op (.free rfl) rfl rfl (Does.alloc i32) ?_
      rintro _ w12 ⟨b11, rfl, hn11⟩
      refine RL.op' (.free rfl) rfl (Does.storeN i32 rfl rfl rfl (alC_one ht1) hn11.blk (Nat.le_refl 3)) ?_
      rintro _ w2 ⟨hb2, hm2, _⟩
      have hg12 : Grow w1 w2 := hn11.grow.then hm2 (fun y hy e => by have e' : y = b11 := e; have := hn11.at_; omega)
      have hgR2 := (hgR.trans (hn27.grow.trans hg1)).trans hg12
      have hg02 : Grow w w2 := hg09.trans hgR2
      have htk : AlOk No w2 t := ht1.mod hg12
      have hB7' := hB7.mod hgR2 (fun h => h)
      have hB9' := hB9.mod hgR2 (fun h => h)
      have hB11 : Blk w2 b11 32 (alC t) := hb2
      have hsm := hsm0.mod hg02
      have ha := ha0.mod hg02
      have hal := fun a h => (hal0 a h).mod hg02
      have hrk := hrk0.mod hg02
      clear hal1 hak1 hr1 hsl1 hc1 ht1 hb2 hsm0 ha0 hal0 hrk0 hd hB6 hB7 hB9 hn6 hn7 hn9 hn27 hn11 hg1 hg12 hgR2 hgQ hgR hg10 hgQ0 h24 hg09 hm2
      have hrz1 : ∀ q ∈ [r], q.Sz := fun q h => by rw [List.mem_singleton] at h; subst h; exact hrz
      have hsz1 : ∀ q ∈ [s], ∀ m ∈ q.ms, m.name.size ≤ 9223372036854775807 := fun q h => by rw [List.mem_singleton] at h; subst h; exact hsz
      have hPI : ∀ {wz wa wa' b35 wb wc wc' b39 : _} {al : List Al} {za : Value}, Grow w2 wz → New wa wa' b35 95 (silC s) → Grow wa' wz → Row wb 32 3 za al.length (al.flatMap alC) → (∀ a ∈ al, AlOk No wb a) → al.length ≤ 16 → Grow wb wz → New wc wc' b39 89 (ruC r) → Grow wc' wz → PlainIn wz t [s] (.slice (some ⟨b35, 0, none⟩) 1 1) al za [r] (.slice (some ⟨b39, 0, none⟩) 1 1) := fun h0 h1 h2 h3 h4 h5 h6 h7 h8 =>
          ⟨htk.mod h0, (Sl.new h1 8 1 rfl (by omega) (fun h => h)).mod h2, fun q h => by rw [List.mem_singleton] at h; subst h; exact hsm.mod h0, (Sl.own h3 (fun _ _ h => h)).mod h6, fun a h => (h4 a h).mod h6, (Sl.new h7 6 1 rfl (by omega) (fun h => h)).mod h8, fun q h => by rw [List.mem_singleton] at h; subst h; exact hrk.mod h0, by simp, by omega, by simp⟩
      refine RL.done ?_
      refine RK.seq ?_
      refine RK.cutS (fun s2 : Value × Value => [(0, .int .u64 now), (3, va), (7, pp b7), (9, pp b9), (11, pp b11), (12, s2.1), (13, s2.2)]) (fun s2 w' => Row w' 3 1 s2.1 (mkRow (silS now t [s])).length (ints (mkRow (silS now t [s]))) ∧ Row w' 3 1 s2.2 (mkRow (mutP (pub t) ((als.take 16).map adP) ([r].map ruP))).length (ints (mkRow (mutP (pub t) ((als.take 16).map adP) ([r].map ruP)))) ∧ Grow w2 w') (fun s2 w3 hQ => ?_) (fun hj => ?_)
      · obtain ⟨u1, u2⟩ := s2
        obtain ⟨hu1, hu2, hg23⟩ := hQ
        refine RK.seq ?_
        refine RK.cutS (fun s2 : Value × Value => [(9, pp b9), (12, u1), (13, u2), (14, s2.1), (15, s2.2)]) (fun s2 w' => Row w' 3 1 s2.1 (mkRow (silS now t [s])).length (ints (mkRow (silS now t [s]))) ∧ Row w' 3 1 s2.2 (mkRow (mutP (pub t) ((als.take 16).map adP) ([r].map ruP))).length (ints (mkRow (mutP (pub t) ((als.take 16).map adP) ([r].map ruP)))) ∧ Grow w3 w') (fun s2 w4 hQ2 => ?_) (fun hj => ?_)
        · obtain ⟨u3, u4⟩ := s2
          obtain ⟨hu3, hu4, hg34⟩ := hQ2
          simp only at hu1 hu2 hu3 hu4
          refine RK.seq ?_
          refine RK.region ?_
          iterate 2 refine RL.p rfl rfl ?_
          refine RL.op (.free rfl) rfl rfl (Does.call rfl e29 (sameInts_ok No _ _ u1 u3 _ (Sl.own (hu1.mod hg34 (fun _ _ h => h)) (fun _ _ h => h)) (Sl.own hu3 (fun _ _ h => h)))) ?_
          rintro _ w5 ⟨rfl, hg5⟩
          refine RL.p rfl rfl ?_
          refine RL.knownT (d := 58) rfl rfl (by simp) ?_
          iterate 2 refine RL.q (.yes rfl rfl rfl) rfl rfl (Yld.pure rfl) ?_
          refine RL.op (.yes rfl rfl rfl) rfl rfl (Does.call rfl e29 (sameInts_ok No _ _ u2 u4 _ (Sl.own ((hu2.mod hg34 (fun _ _ h => h)).mod hg5 (fun _ _ h => h)) (fun _ _ h => h)) (Sl.own (hu4.mod hg5 (fun _ _ h => h)) (fun _ _ h => h)))) ?_
          rintro _ w6 ⟨rfl, hg6⟩
          have hg26 := (hg23.trans hg34).trans (hg5.trans hg6)
          iterate 2 refine RL.p rfl rfl ?_
          refine RL.knownT (d := 63) rfl rfl (by simp) ?_
          refine RL.q (.yes rfl rfl rfl) rfl rfl (Yld.loadN (cs := ruC r) a89 rfl (atN (blk0' (hB9'.mod hg26 (fun h => h))))) ?_
          refine RL.op (.yes rfl rfl rfl) rfl rfl (Does.call rfl e61 (isRuleR_ok No r _ (hrk.mod hg26) hrz)) ?_
          rintro _ w7 ⟨rfl, hg7⟩
          obtain ⟨ad2, c2, hu2e⟩ := hu2.slice
          subst hu2e
          refine RL.q (.yes rfl rfl rfl) rfl rfl (Yld.pure rfl) ?_
          first | refine RL.splitD (d := 66) rfl rfl (fun h66 => ?_) (fun h66 => ?_) | refine RL.splitN (d := 66) rfl rfl (fun h66 => ?_) (fun h66 => ?_) | refine RL.split (d := 66) rfl rfl (fun h66 => ?_) (fun h66 => ?_)
          · iterate 3 refine RL.no (.no rfl rfl rfl rfl) rfl rfl ?_
            refine RL.q (.yes rfl rfl rfl) rfl rfl (Yld.pure rfl) ?_
            iterate 2 refine RL.p rfl rfl ?_
            refine RL.op (.yes rfl rfl rfl) rfl rfl (Does.call rfl e10 (mruns_ok _)) ?_
            rintro _ w8 ⟨rfl, hg8⟩
            iterate 2 refine RL.p rfl rfl ?_
            refine RL.done ?_
            refine RK.ret_of Tryz.func12 (res1 rfl rfl) ?_ _
            exact ⟨_, rfl, rfl, ((hg02.trans hg26).trans hg7).trans hg8⟩
          · refine RL.q (.yes rfl rfl rfl) rfl rfl (Yld.pure rfl) ?_
            refine RL.q (.yes rfl rfl rfl) rfl rfl (Yld.lenSl u22 rfl) ?_
            iterate 2 refine RL.q (.yes rfl rfl rfl) rfl rfl (Yld.pure rfl) ?_
            iterate 2 refine RL.p rfl rfl ?_
            refine RL.knownT (d := 72) rfl rfl (decide_eq_true (by rw [List.map_singleton, mutP_none h66]; rfl)) ?_
            refine RL.op (.yes rfl rfl rfl) rfl rfl (Does.call rfl e10 (mruns_ok _)) ?_
            rintro _ w8 ⟨rfl, hg8⟩
            iterate 2 refine RL.p rfl rfl ?_
            refine RL.done ?_
            refine RK.ret_of Tryz.func12 (res1 rfl rfl) ?_ _
            exact ⟨_, rfl, rfl, ((hg02.trans hg26).trans hg7).trans hg8⟩
        · refine RK.drawT No (.op 0 false (.op 1 false (.op 2 false (.op 4 false (.op 6 false (.fork3 3 (.fork 5 (.op 7 true (.op 8 true (.op 9 false (.op 10 false (.op 11 false (.op 12 false (.op 13 false .nil))))))) 7 (.op 5 true (.op 8 true (.op 9 false (.op 10 false (.op 11 false (.op 12 false (.op 13 false .nil)))))))) 5 (.fork 3 (.op 7 true (.op 8 true (.op 9 false (.op 10 false (.op 11 false (.op 12 false (.op 13 false .nil))))))) 7 (.op 3 true (.op 8 true (.op 9 false (.op 10 false (.op 11 false (.op 12 false (.op 13 false .nil)))))))) 7 (.fork 3 (.op 5 true (.op 8 true (.op 9 false (.op 10 false (.op 11 false (.op 12 false (.op 13 false .nil))))))) 5 (.op 3 true (.op 8 true (.op 9 false (.op 10 false (.op 11 false (.op 12 false (.op 13 false .nil)))))))))))))) [] mixed (by kernel_rfl) ?_
          refine DT.p rfl rfl rfl ?_
          refine DT.q rfl (.free rfl) rfl rfl rfl (Yld.loadN (cs := alC t) a32 rfl (atNM (blk0' (hB11.mod hg23 (fun h => h))) (fun h => h))) (Mod.drew _ _) ?_
          refine DT.q rfl (.free rfl) rfl rfl rfl (Yld.loadN (cs := silC s) a95 rfl (atNM (blk0' (hB7'.mod hg23 (fun h => h))) (fun h => h))) (Mod.drew _ _) ?_
          refine DT.p rfl rfl rfl ?_
          refine DT.q rfl (.free rfl) rfl rfl rfl (Yld.loadN (cs := ruC r) a89 rfl (atNM (blk0' (hB9'.mod hg23 (fun h => h))) (fun h => h))) (Mod.drew _ _) ?_
          refine DT.fork3 ?_ ?_ ?_
          · refine DT.op rfl (.free rfl) rfl rfl (Does.slice1 u96 i95 rfl rfl rfl rfl rfl) ?_
            rintro _ wS1 ⟨b35, rfl, hn35⟩
            have hd1 := (Mod.drew No _).trans hn35.grow
            refine ⟨hd1, ?_⟩
            refine DT.fork ?_ ?_
            · refine DT.op rfl (.free rfl) rfl rfl (Does.call rfl e56 (alerts18_ok als _ _ (ha.mod (hg23.trans hd1)) (fun d h => (hal d h).mod (hg23.trans hd1)))) ?_
              rintro za wS2 ⟨al, hala, hra, hak, _, hg37⟩
              have hd2 := hd1.trans hg37
              refine ⟨hd2, ?_⟩
              refine DT.op rfl (.free rfl) rfl rfl (Does.slice1 u91 i89 rfl rfl rfl rfl rfl) ?_
              rintro _ wS3 ⟨b39, rfl, hn39⟩
              have hd3 := hd2.trans hn39.grow
              refine ⟨hd3, ?_⟩
              have hal16 : al.length ≤ 16 := by have := congrArg List.length hala; simp at this; omega
              refine DT.op rfl (.free rfl) rfl rfl (Does.call rfl e59 (plainR_ok now t [s] (.slice (some ⟨b35, 0, none⟩) 1 1) al za [r] (.slice (some ⟨b39, 0, none⟩) 1 1) _ (hPI (hg23.trans hd3) hn35 (hg37.trans hn39.grow) hra hak hal16 hn39.grow hn39 (Mod.refl No _)) hrz1 hsz1)) ?_
              rintro _ w8 ⟨v1, v2, rfl, hv1, hv2, hg8⟩
              have hgA := hd3.trans hg8
              refine ⟨hgA, ?_⟩
              rw [mutS_pub, hala] at hv2
              iterate 5 refine DT.p rfl rfl rfl ?_
              refine DT.done ?_
              exact RK.back (hj (v1, v2) _ ⟨hv1, hv2, hgA⟩) ⟨rfl, rfl, rfl, rfl, rfl, trivial⟩
            · refine DT.op rfl (.free rfl) rfl rfl (Does.slice1 u91 i89 rfl rfl rfl rfl rfl) ?_
              rintro _ wS2 ⟨b39, rfl, hn39⟩
              have hd2 := hd1.trans hn39.grow
              refine ⟨hd2, ?_⟩
              refine DT.op rfl (.free rfl) rfl rfl (Does.call rfl e56 (alerts18_ok als _ _ (ha.mod (hg23.trans hd2)) (fun d h => (hal d h).mod (hg23.trans hd2)))) ?_
              rintro za wS3 ⟨al, hala, hra, hak, _, hg37⟩
              have hd3 := hd2.trans hg37
              refine ⟨hd3, ?_⟩
              have hal16 : al.length ≤ 16 := by have := congrArg List.length hala; simp at this; omega
              refine DT.op rfl (.free rfl) rfl rfl (Does.call rfl e59 (plainR_ok now t [s] (.slice (some ⟨b35, 0, none⟩) 1 1) al za [r] (.slice (some ⟨b39, 0, none⟩) 1 1) _ (hPI (hg23.trans hd3) hn35 (hn39.grow.trans hg37) hra hak hal16 (Mod.refl No _) hn39 hg37) hrz1 hsz1)) ?_
              rintro _ w8 ⟨v1, v2, rfl, hv1, hv2, hg8⟩
              have hgA := hd3.trans hg8
              refine ⟨hgA, ?_⟩
              rw [mutS_pub, hala] at hv2
              iterate 5 refine DT.p rfl rfl rfl ?_
              refine DT.done ?_
              exact RK.back (hj (v1, v2) _ ⟨hv1, hv2, hgA⟩) ⟨rfl, rfl, rfl, rfl, rfl, trivial⟩
          · refine DT.op rfl (.free rfl) rfl rfl (Does.call rfl e56 (alerts18_ok als _ _ (ha.mod (hg23.trans (Mod.drew No _))) (fun d h => (hal d h).mod (hg23.trans (Mod.drew No _))))) ?_
            rintro za wS1 ⟨al, hala, hra, hak, _, hg37⟩
            have hd1 := (Mod.drew No _).trans hg37
            refine ⟨hd1, ?_⟩
            refine DT.fork ?_ ?_
            · refine DT.op rfl (.free rfl) rfl rfl (Does.slice1 u96 i95 rfl rfl rfl rfl rfl) ?_
              rintro _ wS2 ⟨b35, rfl, hn35⟩
              have hd2 := hd1.trans hn35.grow
              refine ⟨hd2, ?_⟩
              refine DT.op rfl (.free rfl) rfl rfl (Does.slice1 u91 i89 rfl rfl rfl rfl rfl) ?_
              rintro _ wS3 ⟨b39, rfl, hn39⟩
              have hd3 := hd2.trans hn39.grow
              refine ⟨hd3, ?_⟩
              have hal16 : al.length ≤ 16 := by have := congrArg List.length hala; simp at this; omega
              refine DT.op rfl (.free rfl) rfl rfl (Does.call rfl e59 (plainR_ok now t [s] (.slice (some ⟨b35, 0, none⟩) 1 1) al za [r] (.slice (some ⟨b39, 0, none⟩) 1 1) _ (hPI (hg23.trans hd3) hn35 hn39.grow hra hak hal16 (hn35.grow.trans hn39.grow) hn39 (Mod.refl No _)) hrz1 hsz1)) ?_
              rintro _ w8 ⟨v1, v2, rfl, hv1, hv2, hg8⟩
              have hgA := hd3.trans hg8
              refine ⟨hgA, ?_⟩
              rw [mutS_pub, hala] at hv2
              iterate 5 refine DT.p rfl rfl rfl ?_
              refine DT.done ?_
              exact RK.back (hj (v1, v2) _ ⟨hv1, hv2, hgA⟩) ⟨rfl, rfl, rfl, rfl, rfl, trivial⟩
            · refine DT.op rfl (.free rfl) rfl rfl (Does.slice1 u91 i89 rfl rfl rfl rfl rfl) ?_
              rintro _ wS2 ⟨b39, rfl, hn39⟩
              have hd2 := hd1.trans hn39.grow
              refine ⟨hd2, ?_⟩
              refine DT.op rfl (.free rfl) rfl rfl (Does.slice1 u96 i95 rfl rfl rfl rfl rfl) ?_
              rintro _ wS3 ⟨b35, rfl, hn35⟩
              have hd3 := hd2.trans hn35.grow
              refine ⟨hd3, ?_⟩
              have hal16 : al.length ≤ 16 := by have := congrArg List.length hala; simp at this; omega
              refine DT.op rfl (.free rfl) rfl rfl (Does.call rfl e59 (plainR_ok now t [s] (.slice (some ⟨b35, 0, none⟩) 1 1) al za [r] (.slice (some ⟨b39, 0, none⟩) 1 1) _ (hPI (hg23.trans hd3) hn35 (Mod.refl No _) hra hak hal16 (hn39.grow.trans hn35.grow) hn39 hn35.grow) hrz1 hsz1)) ?_
              rintro _ w8 ⟨v1, v2, rfl, hv1, hv2, hg8⟩
              have hgA := hd3.trans hg8
              refine ⟨hgA, ?_⟩
              rw [mutS_pub, hala] at hv2
              iterate 5 refine DT.p rfl rfl rfl ?_
              refine DT.done ?_
              exact RK.back (hj (v1, v2) _ ⟨hv1, hv2, hgA⟩) ⟨rfl, rfl, rfl, rfl, rfl, trivial⟩
          · refine DT.op rfl (.free rfl) rfl rfl (Does.slice1 u91 i89 rfl rfl rfl rfl rfl) ?_
            rintro _ wS1 ⟨b39, rfl, hn39⟩
            have hd1 := (Mod.drew No _).trans hn39.grow
            refine ⟨hd1, ?_⟩
            refine DT.fork ?_ ?_
            · refine DT.op rfl (.free rfl) rfl rfl (Does.slice1 u96 i95 rfl rfl rfl rfl rfl) ?_
              rintro _ wS2 ⟨b35, rfl, hn35⟩
              have hd2 := hd1.trans hn35.grow
              refine ⟨hd2, ?_⟩
              refine DT.op rfl (.free rfl) rfl rfl (Does.call rfl e56 (alerts18_ok als _ _ (ha.mod (hg23.trans hd2)) (fun d h => (hal d h).mod (hg23.trans hd2)))) ?_
              rintro za wS3 ⟨al, hala, hra, hak, _, hg37⟩
              have hd3 := hd2.trans hg37
              refine ⟨hd3, ?_⟩
              have hal16 : al.length ≤ 16 := by have := congrArg List.length hala; simp at this; omega
              refine DT.op rfl (.free rfl) rfl rfl (Does.call rfl e59 (plainR_ok now t [s] (.slice (some ⟨b35, 0, none⟩) 1 1) al za [r] (.slice (some ⟨b39, 0, none⟩) 1 1) _ (hPI (hg23.trans hd3) hn35 hg37 hra hak hal16 (Mod.refl No _) hn39 (hn35.grow.trans hg37)) hrz1 hsz1)) ?_
              rintro _ w8 ⟨v1, v2, rfl, hv1, hv2, hg8⟩
              have hgA := hd3.trans hg8
              refine ⟨hgA, ?_⟩
              rw [mutS_pub, hala] at hv2
              iterate 5 refine DT.p rfl rfl rfl ?_
              refine DT.done ?_
              exact RK.back (hj (v1, v2) _ ⟨hv1, hv2, hgA⟩) ⟨rfl, rfl, rfl, rfl, rfl, trivial⟩
            · refine DT.op rfl (.free rfl) rfl rfl (Does.call rfl e56 (alerts18_ok als _ _ (ha.mod (hg23.trans hd1)) (fun d h => (hal d h).mod (hg23.trans hd1)))) ?_
              rintro za wS2 ⟨al, hala, hra, hak, _, hg37⟩
              have hd2 := hd1.trans hg37
              refine ⟨hd2, ?_⟩
              refine DT.op rfl (.free rfl) rfl rfl (Does.slice1 u96 i95 rfl rfl rfl rfl rfl) ?_
              rintro _ wS3 ⟨b35, rfl, hn35⟩
              have hd3 := hd2.trans hn35.grow
              refine ⟨hd3, ?_⟩
              have hal16 : al.length ≤ 16 := by have := congrArg List.length hala; simp at this; omega
              refine DT.op rfl (.free rfl) rfl rfl (Does.call rfl e59 (plainR_ok now t [s] (.slice (some ⟨b35, 0, none⟩) 1 1) al za [r] (.slice (some ⟨b39, 0, none⟩) 1 1) _ (hPI (hg23.trans hd3) hn35 (Mod.refl No _) hra hak hal16 hn35.grow hn39 (hg37.trans hn35.grow)) hrz1 hsz1)) ?_
              rintro _ w8 ⟨v1, v2, rfl, hv1, hv2, hg8⟩
              have hgA := hd3.trans hg8
              refine ⟨hgA, ?_⟩
              rw [mutS_pub, hala] at hv2
              iterate 5 refine DT.p rfl rfl rfl ?_
              refine DT.done ?_
              exact RK.back (hj (v1, v2) _ ⟨hv1, hv2, hgA⟩) ⟨rfl, rfl, rfl, rfl, rfl, trivial⟩
      · refine RK.drawT No (.op 0 false (.op 1 false (.op 2 false (.op 4 false (.op 6 false (.fork3 3 (.fork 5 (.op 7 true (.op 8 true (.op 9 false (.op 10 false (.op 11 false (.op 12 false (.op 13 false .nil))))))) 7 (.op 5 true (.op 8 true (.op 9 false (.op 10 false (.op 11 false (.op 12 false (.op 13 false .nil)))))))) 5 (.fork 3 (.op 7 true (.op 8 true (.op 9 false (.op 10 false (.op 11 false (.op 12 false (.op 13 false .nil))))))) 7 (.op 3 true (.op 8 true (.op 9 false (.op 10 false (.op 11 false (.op 12 false (.op 13 false .nil)))))))) 7 (.fork 3 (.op 5 true (.op 8 true (.op 9 false (.op 10 false (.op 11 false (.op 12 false (.op 13 false .nil))))))) 5 (.op 3 true (.op 8 true (.op 9 false (.op 10 false (.op 11 false (.op 12 false (.op 13 false .nil)))))))))))))) [] mixed (by kernel_rfl) ?_
        refine DT.p rfl rfl rfl ?_
        refine DT.q rfl (.free rfl) rfl rfl rfl (Yld.loadN (cs := alC t) a32 rfl (atNM (blk0' hB11) (fun h => h))) (Mod.drew _ _) ?_
        refine DT.q rfl (.free rfl) rfl rfl rfl (Yld.loadN (cs := silC s) a95 rfl (atNM (blk0' hB7') (fun h => h))) (Mod.drew _ _) ?_
        refine DT.p rfl rfl rfl ?_
        refine DT.q rfl (.free rfl) rfl rfl rfl (Yld.loadN (cs := ruC r) a89 rfl (atNM (blk0' hB9') (fun h => h))) (Mod.drew _ _) ?_
        refine DT.fork3 ?_ ?_ ?_
        · refine DT.op rfl (.free rfl) rfl rfl (Does.slice1 u96 i95 rfl rfl rfl rfl rfl) ?_
          rintro _ wS1 ⟨b35, rfl, hn35⟩
          have hd1 := (Mod.drew No _).trans hn35.grow
          refine ⟨hd1, ?_⟩
          refine DT.fork ?_ ?_
          · refine DT.op rfl (.free rfl) rfl rfl (Does.call rfl e56 (alerts18_ok als _ _ (ha.mod ((Mod.refl No w2).trans hd1)) (fun d h => (hal d h).mod ((Mod.refl No w2).trans hd1)))) ?_
            rintro za wS2 ⟨al, hala, hra, hak, _, hg37⟩
            have hd2 := hd1.trans hg37
            refine ⟨hd2, ?_⟩
            refine DT.op rfl (.free rfl) rfl rfl (Does.slice1 u91 i89 rfl rfl rfl rfl rfl) ?_
            rintro _ wS3 ⟨b39, rfl, hn39⟩
            have hd3 := hd2.trans hn39.grow
            refine ⟨hd3, ?_⟩
            have hal16 : al.length ≤ 16 := by have := congrArg List.length hala; simp at this; omega
            refine DT.op rfl (.free rfl) rfl rfl (Does.call rfl e55 (plain_ok now t [s] (.slice (some ⟨b35, 0, none⟩) 1 1) al za [r] (.slice (some ⟨b39, 0, none⟩) 1 1) _ (hPI ((Mod.refl No w2).trans hd3) hn35 (hg37.trans hn39.grow) hra hak hal16 hn39.grow hn39 (Mod.refl No _)))) ?_
            rintro _ w8 ⟨v1, v2, rfl, hv1, hv2, hg8⟩
            have hgA := hd3.trans hg8
            refine ⟨hgA, ?_⟩
            rw [mutS_pub, hala] at hv2
            iterate 5 refine DT.p rfl rfl rfl ?_
            refine DT.done ?_
            exact RK.back (hj (v1, v2) _ ⟨hv1, hv2, hgA⟩) ⟨rfl, rfl, rfl, rfl, rfl, rfl, rfl, trivial⟩
          · refine DT.op rfl (.free rfl) rfl rfl (Does.slice1 u91 i89 rfl rfl rfl rfl rfl) ?_
            rintro _ wS2 ⟨b39, rfl, hn39⟩
            have hd2 := hd1.trans hn39.grow
            refine ⟨hd2, ?_⟩
            refine DT.op rfl (.free rfl) rfl rfl (Does.call rfl e56 (alerts18_ok als _ _ (ha.mod ((Mod.refl No w2).trans hd2)) (fun d h => (hal d h).mod ((Mod.refl No w2).trans hd2)))) ?_
            rintro za wS3 ⟨al, hala, hra, hak, _, hg37⟩
            have hd3 := hd2.trans hg37
            refine ⟨hd3, ?_⟩
            have hal16 : al.length ≤ 16 := by have := congrArg List.length hala; simp at this; omega
            refine DT.op rfl (.free rfl) rfl rfl (Does.call rfl e55 (plain_ok now t [s] (.slice (some ⟨b35, 0, none⟩) 1 1) al za [r] (.slice (some ⟨b39, 0, none⟩) 1 1) _ (hPI ((Mod.refl No w2).trans hd3) hn35 (hn39.grow.trans hg37) hra hak hal16 (Mod.refl No _) hn39 hg37))) ?_
            rintro _ w8 ⟨v1, v2, rfl, hv1, hv2, hg8⟩
            have hgA := hd3.trans hg8
            refine ⟨hgA, ?_⟩
            rw [mutS_pub, hala] at hv2
            iterate 5 refine DT.p rfl rfl rfl ?_
            refine DT.done ?_
            exact RK.back (hj (v1, v2) _ ⟨hv1, hv2, hgA⟩) ⟨rfl, rfl, rfl, rfl, rfl, rfl, rfl, trivial⟩
        · refine DT.op rfl (.free rfl) rfl rfl (Does.call rfl e56 (alerts18_ok als _ _ (ha.mod ((Mod.refl No w2).trans (Mod.drew No _))) (fun d h => (hal d h).mod ((Mod.refl No w2).trans (Mod.drew No _))))) ?_
          rintro za wS1 ⟨al, hala, hra, hak, _, hg37⟩
          have hd1 := (Mod.drew No _).trans hg37
          refine ⟨hd1, ?_⟩
          refine DT.fork ?_ ?_
          · refine DT.op rfl (.free rfl) rfl rfl (Does.slice1 u96 i95 rfl rfl rfl rfl rfl) ?_
            rintro _ wS2 ⟨b35, rfl, hn35⟩
            have hd2 := hd1.trans hn35.grow
            refine ⟨hd2, ?_⟩
            refine DT.op rfl (.free rfl) rfl rfl (Does.slice1 u91 i89 rfl rfl rfl rfl rfl) ?_
            rintro _ wS3 ⟨b39, rfl, hn39⟩
            have hd3 := hd2.trans hn39.grow
            refine ⟨hd3, ?_⟩
            have hal16 : al.length ≤ 16 := by have := congrArg List.length hala; simp at this; omega
            refine DT.op rfl (.free rfl) rfl rfl (Does.call rfl e55 (plain_ok now t [s] (.slice (some ⟨b35, 0, none⟩) 1 1) al za [r] (.slice (some ⟨b39, 0, none⟩) 1 1) _ (hPI ((Mod.refl No w2).trans hd3) hn35 hn39.grow hra hak hal16 (hn35.grow.trans hn39.grow) hn39 (Mod.refl No _)))) ?_
            rintro _ w8 ⟨v1, v2, rfl, hv1, hv2, hg8⟩
            have hgA := hd3.trans hg8
            refine ⟨hgA, ?_⟩
            rw [mutS_pub, hala] at hv2
            iterate 5 refine DT.p rfl rfl rfl ?_
            refine DT.done ?_
            exact RK.back (hj (v1, v2) _ ⟨hv1, hv2, hgA⟩) ⟨rfl, rfl, rfl, rfl, rfl, rfl, rfl, trivial⟩
          · refine DT.op rfl (.free rfl) rfl rfl (Does.slice1 u91 i89 rfl rfl rfl rfl rfl) ?_
            rintro _ wS2 ⟨b39, rfl, hn39⟩
            have hd2 := hd1.trans hn39.grow
            refine ⟨hd2, ?_⟩
            refine DT.op rfl (.free rfl) rfl rfl (Does.slice1 u96 i95 rfl rfl rfl rfl rfl) ?_
            rintro _ wS3 ⟨b35, rfl, hn35⟩
            have hd3 := hd2.trans hn35.grow
            refine ⟨hd3, ?_⟩
            have hal16 : al.length ≤ 16 := by have := congrArg List.length hala; simp at this; omega
            refine DT.op rfl (.free rfl) rfl rfl (Does.call rfl e55 (plain_ok now t [s] (.slice (some ⟨b35, 0, none⟩) 1 1) al za [r] (.slice (some ⟨b39, 0, none⟩) 1 1) _ (hPI ((Mod.refl No w2).trans hd3) hn35 (Mod.refl No _) hra hak hal16 (hn39.grow.trans hn35.grow) hn39 hn35.grow))) ?_
            rintro _ w8 ⟨v1, v2, rfl, hv1, hv2, hg8⟩
            have hgA := hd3.trans hg8
            refine ⟨hgA, ?_⟩
            rw [mutS_pub, hala] at hv2
            iterate 5 refine DT.p rfl rfl rfl ?_
            refine DT.done ?_
            exact RK.back (hj (v1, v2) _ ⟨hv1, hv2, hgA⟩) ⟨rfl, rfl, rfl, rfl, rfl, rfl, rfl, trivial⟩
        · refine DT.op rfl (.free rfl) rfl rfl (Does.slice1 u91 i89 rfl rfl rfl rfl rfl) ?_
          rintro _ wS1 ⟨b39, rfl, hn39⟩
          have hd1 := (Mod.drew No _).trans hn39.grow
          refine ⟨hd1, ?_⟩
          refine DT.fork ?_ ?_
          · refine DT.op rfl (.free rfl) rfl rfl (Does.slice1 u96 i95 rfl rfl rfl rfl rfl) ?_
            rintro _ wS2 ⟨b35, rfl, hn35⟩
            have hd2 := hd1.trans hn35.grow
            refine ⟨hd2, ?_⟩
            refine DT.op rfl (.free rfl) rfl rfl (Does.call rfl e56 (alerts18_ok als _ _ (ha.mod ((Mod.refl No w2).trans hd2)) (fun d h => (hal d h).mod ((Mod.refl No w2).trans hd2)))) ?_
            rintro za wS3 ⟨al, hala, hra, hak, _, hg37⟩
            have hd3 := hd2.trans hg37
            refine ⟨hd3, ?_⟩
            have hal16 : al.length ≤ 16 := by have := congrArg List.length hala; simp at this; omega
            refine DT.op rfl (.free rfl) rfl rfl (Does.call rfl e55 (plain_ok now t [s] (.slice (some ⟨b35, 0, none⟩) 1 1) al za [r] (.slice (some ⟨b39, 0, none⟩) 1 1) _ (hPI ((Mod.refl No w2).trans hd3) hn35 hg37 hra hak hal16 (Mod.refl No _) hn39 (hn35.grow.trans hg37)))) ?_
            rintro _ w8 ⟨v1, v2, rfl, hv1, hv2, hg8⟩
            have hgA := hd3.trans hg8
            refine ⟨hgA, ?_⟩
            rw [mutS_pub, hala] at hv2
            iterate 5 refine DT.p rfl rfl rfl ?_
            refine DT.done ?_
            exact RK.back (hj (v1, v2) _ ⟨hv1, hv2, hgA⟩) ⟨rfl, rfl, rfl, rfl, rfl, rfl, rfl, trivial⟩
          · refine DT.op rfl (.free rfl) rfl rfl (Does.call rfl e56 (alerts18_ok als _ _ (ha.mod ((Mod.refl No w2).trans hd1)) (fun d h => (hal d h).mod ((Mod.refl No w2).trans hd1)))) ?_
            rintro za wS2 ⟨al, hala, hra, hak, _, hg37⟩
            have hd2 := hd1.trans hg37
            refine ⟨hd2, ?_⟩
            refine DT.op rfl (.free rfl) rfl rfl (Does.slice1 u96 i95 rfl rfl rfl rfl rfl) ?_
            rintro _ wS3 ⟨b35, rfl, hn35⟩
            have hd3 := hd2.trans hn35.grow
            refine ⟨hd3, ?_⟩
            have hal16 : al.length ≤ 16 := by have := congrArg List.length hala; simp at this; omega
            refine DT.op rfl (.free rfl) rfl rfl (Does.call rfl e55 (plain_ok now t [s] (.slice (some ⟨b35, 0, none⟩) 1 1) al za [r] (.slice (some ⟨b39, 0, none⟩) 1 1) _ (hPI ((Mod.refl No w2).trans hd3) hn35 (Mod.refl No _) hra hak hal16 hn35.grow hn39 (hg37.trans hn35.grow)))) ?_
            rintro _ w8 ⟨v1, v2, rfl, hv1, hv2, hg8⟩
            have hgA := hd3.trans hg8
            refine ⟨hgA, ?_⟩
            rw [mutS_pub, hala] at hv2
            iterate 5 refine DT.p rfl rfl rfl ?_
            refine DT.done ?_
            exact RK.back (hj (v1, v2) _ ⟨hv1, hv2, hgA⟩) ⟨rfl, rfl, rfl, rfl, rfl, rfl, rfl, trivial⟩
end Go.Proofs.YtffbcfcoddacmaaGreat
set_option linter.unusedVariables false
namespace Go.X
open Go Go.RowKit Go.WideShapes Go.ChangeShapes
section
variable {H : Type} {enc : TypeId × Value → H} {P : Program} {W : World} {base : Nat} {sp : Nat → Bool} {held : Bool}
theorem trod_list {α : Type} (f : α → List Value) (Q : α → Prop) {sz : Nat} (hf : ∀ x, (f x).length = sz) {t e : TypeId} {m0 : Nat} {cs0 : List Value} {y : DataW H × List MemPlace} (ht : P.underlying t = some (.slice e)) (hc : P.cellsOf e = sz) (hsz : 0 < sz) (hd : DataW.trod enc P W 0 sp held m0 t cs0 = some y)
    (hel : ∀ (m : Nat) (cs : List Value) (y : DataW H × List MemPlace), DataW.trod enc P W 0 sp held m e cs = some y → ∃ x, cs = f x ∧ Q x) : ∃ (v : Value) (xs : List α), cs0 = [v] ∧ Sl No W v sz xs.length (xs.flatMap f) ∧ (∀ x ∈ xs, Q x) ∧ xs.length ≤ maxLen := by
  rcases DataW.trod_slice ht hd with ⟨h0, _⟩ | ⟨a', len, cap, elems, rest, n, _, hcs, _, _, hl, hm, hlen, hall, _⟩
  · subst h0
    exact ⟨_, [], rfl, Sl.nil _ _ _ _ _, by simp, by simp⟩
  · subst hcs
    rw [hc] at hall
    have key : ∀ i, i < len → ∃ x, Q x ∧ ∀ j u, (f x)[j]? = some u → W.cell? (a'.add (i * sz) |>.add j) = some u := by
      intro i hi
      have h1 := hall i hi
      rw [List.getElem?_eq_getElem (by omega)] at h1
      rw [Option.bind_eq_some_iff] at h1
      obtain ⟨cs, h2, h3⟩ := h1
      obtain ⟨x, rfl, hQ⟩ := hel n cs _ h3
      refine ⟨x, hQ, fun j u hj => ?_⟩
      have hj' : j < sz := by have := (List.getElem?_eq_some_iff.1 hj).1; rwa [hf] at this
      rw [(World.cells?_some h2).2.2 j hj', hj]
    have build : ∀ k, k ≤ len → ∃ xs : List α, xs.length = k ∧ (∀ x ∈ xs, Q x) ∧ ∀ i x, xs[i]? = some x → ∀ j u, (f x)[j]? = some u → W.cell? (a'.add (i * sz) |>.add j) = some u := by
      intro k
      induction k with
      | zero => intro _; exact ⟨[], rfl, by simp, by simp⟩
      | succ k ih =>
        intro hk
        obtain ⟨xs, h1, h2, h3⟩ := ih (by omega)
        obtain ⟨x, hQ, hx⟩ := key k (by omega)
        refine ⟨xs ++ [x], by simp [h1], fun y hy => ?_, fun i y hy => ?_⟩
        · rcases List.mem_append.1 hy with h | h
          · exact h2 y h
          · simp at h; subst h; exact hQ
        · by_cases hi : i < xs.length
          · rw [List.getElem?_append_left hi] at hy; exact h3 i y hy
          · have : i = k := by
              have := (List.getElem?_eq_some_iff.1 hy).1
              simp at this; omega
            subst this
            rw [List.getElem?_append_right (by omega), h1] at hy
            simp at hy; subst hy
            exact hx
    obtain ⟨xs, h1, h2, h3⟩ := build len (Nat.le_refl _)
    refine ⟨_, xs, rfl, ⟨flat_len f sz hf xs, by simp only [maxLen] at hm; omega, some a', cap, by rw [h1], fun hn => ?_⟩, h2, by omega⟩
    obtain ⟨b, o, spot⟩ := a'
    obtain ⟨x0, hx0⟩ : ∃ x, xs[0]? = some x := ⟨xs[0]'hn, List.getElem?_eq_getElem hn⟩
    have hu0 : 0 < (f x0).length := by rw [hf]; exact hsz
    have h4 := h3 0 x0 hx0 0 _ (List.getElem?_eq_getElem hu0)
    have hspot : spot = none := by simpa [Addr.add] using World.cell?_spot h4
    subst hspot
    refine ⟨b, o, rfl, fun h => h, fun j u hj => ?_⟩
    have hjl := (List.getElem?_eq_some_iff.1 hj).1
    rw [flat_len f sz hf] at hjl
    have hdm : j / sz * sz + j % sz = j := by rw [Nat.mul_comm]; exact Nat.div_add_mod j sz
    have hq : j / sz < xs.length := Nat.div_lt_of_lt_mul (by rw [Nat.mul_comm]; exact hjl)
    have hr : j % sz < sz := Nat.mod_lt _ hsz
    have hx := List.getElem?_eq_getElem hq
    have h5 := flat_get f sz hf xs (j / sz) (j % sz) _ hx hr
    rw [hdm, hj] at h5
    have h6 := h3 (j / sz) _ hx (j % sz) u h5.symm
    rw [add_none, add_none, Nat.add_assoc, hdm] at h6
    exact h6
theorem trod_bool {s m : Nat} {cs : List Value} {y : DataW H × List MemPlace} (hs : P.underlying s = some .bool) (h : DataW.trod enc P W base sp held m s cs = some y) : ∃ b : Bool, cs = [.bool b] := by
  cases m with
  | zero => simp [DataW.trod] at h
  | succ n =>
    unfold DataW.trod at h
    rw [hs] at h
    split at h <;> simp_all
theorem trod_int {s m : Nat} {k : IntKind} {cs : List Value} {y : DataW H × List MemPlace} (hs : P.underlying s = some (.int k)) (h : DataW.trod enc P W base sp held m s cs = some y) : ∃ b : Int, cs = [.int k b] ∧ (Lit.int k b).wf = true := by
  cases m with
  | zero => simp [DataW.trod] at h
  | succ n =>
    unfold DataW.trod at h
    rw [hs] at h
    split at h <;> simp_all
theorem trod_fields {t m : Nat} {fs : Array Field} {cs : List Value} {y : DataW H × List MemPlace} (ht : P.underlying t = some (.struct fs)) (h : DataW.trod enc P W base sp held m t cs = some y) : cs.length = P.cellsOf t ∧ ∀ (i : Nat) (f : Field), fs[i]? = some f → ∃ n y', DataW.trod enc P W base sp held n f.type ((cs.drop f.offset).take (P.cellsOf f.type)) = some y' := by
  obtain ⟨xs, n, _, _, hl, hxl, hx⟩ := DataW.trod_struct ht h
  refine ⟨hl, fun i f hf => ?_⟩
  have h1 := hx i f hf
  have hi : i < fs.size := (Array.getElem?_eq_some_iff.1 hf).1
  rw [List.getElem?_eq_getElem (by omega)] at h1
  exact ⟨n, _, h1⟩
theorem trod_3 {t m t0 t1 t2 : Nat} {fs : Array Field} {cs : List Value} {y : DataW H × List MemPlace} (ht : P.underlying t = some (.struct fs)) (hfs : fs.toList.map (fun f => (f.type, f.offset)) = [(t0, 0), (t1, 1), (t2, 2)]) (c0 : P.cellsOf t0 = 1) (c1 : P.cellsOf t1 = 1) (c2 : P.cellsOf t2 = 1) (ct : P.cellsOf t = 3)
    (h : DataW.trod enc P W base sp held m t cs = some y) : ∃ a b c, cs = [a, b, c] ∧ (∃ n y', DataW.trod enc P W base sp held n t0 [a] = some y') ∧ (∃ n y', DataW.trod enc P W base sp held n t1 [b] = some y') ∧ ∃ n y', DataW.trod enc P W base sp held n t2 [c] = some y' := by
  obtain ⟨hl, hx⟩ := trod_fields ht h
  have hsz : fs.toList.length = 3 := by have := congrArg List.length hfs; simpa using this
  obtain ⟨fl⟩ := fs
  match fl, hsz with
  | [f0, f1, f2], _ =>
    simp only [List.map_cons, List.map_nil, List.cons.injEq, Prod.mk.injEq, and_true] at hfs
    obtain ⟨⟨e0, o0⟩, ⟨e1, o1⟩, e2, o2⟩ := hfs
    rw [ct] at hl
    match cs, hl with
    | [a, b, c], _ =>
      have h0 := hx 0 f0 rfl
      have h1 := hx 1 f1 rfl
      have h2 := hx 2 f2 rfl
      rw [e0, o0, c0] at h0
      rw [e1, o1, c1] at h1
      rw [e2, o2, c2] at h2
      exact ⟨a, b, c, rfl, h0, h1, h2⟩
end
end Go.X
set_option linter.unusedVariables false
namespace Go.X
open Go Go.RowKit Go.WideShapes Go.ChangeShapes
section
variable {H : Type} {enc : TypeId × Value → H} {P : Program} {W : World} {base : Nat} {sp : Nat → Bool} {held : Bool}
theorem trod_r6 {t m t0 t1 t2 t3 : Nat} {fs : Array Field} {cs : List Value} {y : DataW H × List MemPlace} (ht : P.underlying t = some (.struct fs)) (hfs : fs.toList.map (fun f => (f.type, f.offset)) = [(t0, 0), (t1, 1), (t2, 2), (t3, 5)]) (c0 : P.cellsOf t0 = 1) (c1 : P.cellsOf t1 = 1) (c2 : P.cellsOf t2 = 3) (c3 : P.cellsOf t3 = 1) (ct : P.cellsOf t = 6)
    (h : DataW.trod enc P W base sp held m t cs = some y) : ∃ a b c d e f, cs = [a, b, c, d, e, f] ∧ (∃ n y', DataW.trod enc P W base sp held n t0 [a] = some y') ∧ (∃ n y', DataW.trod enc P W base sp held n t1 [b] = some y') ∧ (∃ n y', DataW.trod enc P W base sp held n t2 [c, d, e] = some y') ∧ ∃ n y', DataW.trod enc P W base sp held n t3 [f] = some y' := by
  obtain ⟨hl, hx⟩ := trod_fields ht h
  have hsz : fs.toList.length = 4 := by have := congrArg List.length hfs; simpa using this
  obtain ⟨fl⟩ := fs
  match fl, hsz with
  | [f0, f1, f2, f3], _ =>
    simp only [List.map_cons, List.map_nil, List.cons.injEq, Prod.mk.injEq, and_true] at hfs
    obtain ⟨⟨e0, o0⟩, ⟨e1, o1⟩, ⟨e2, o2⟩, e3, o3⟩ := hfs
    rw [ct] at hl
    match cs, hl with
    | [a, b, c, d, e, f], _ =>
      have h0 := hx 0 f0 rfl
      have h1 := hx 1 f1 rfl
      have h2 := hx 2 f2 rfl
      have h3 := hx 3 f3 rfl
      rw [e0, o0, c0] at h0
      rw [e1, o1, c1] at h1
      rw [e2, o2, c2] at h2
      rw [e3, o3, c3] at h3
      exact ⟨a, b, c, d, e, f, rfl, h0, h1, h2, h3⟩
theorem trod_s8 {t m t0 t1 t2 t3 t4 t5 : Nat} {fs : Array Field} {cs : List Value} {y : DataW H × List MemPlace} (ht : P.underlying t = some (.struct fs)) (hfs : fs.toList.map (fun f => (f.type, f.offset)) = [(t0, 0), (t1, 1), (t2, 2), (t3, 3), (t4, 4), (t5, 5)]) (c0 : P.cellsOf t0 = 1) (c1 : P.cellsOf t1 = 1) (c2 : P.cellsOf t2 = 1) (c3 : P.cellsOf t3 = 1) (c4 : P.cellsOf t4 = 1) (c5 : P.cellsOf t5 = 3) (ct : P.cellsOf t = 8)
    (h : DataW.trod enc P W base sp held m t cs = some y) : ∃ a b c d e f g i, cs = [a, b, c, d, e, f, g, i] ∧ (∃ n y', DataW.trod enc P W base sp held n t0 [a] = some y') ∧ (∃ n y', DataW.trod enc P W base sp held n t1 [b] = some y') ∧ (∃ n y', DataW.trod enc P W base sp held n t2 [c] = some y') ∧ (∃ n y', DataW.trod enc P W base sp held n t3 [d] = some y') ∧ (∃ n y', DataW.trod enc P W base sp held n t4 [e] = some y') ∧ ∃ n y', DataW.trod enc P W base sp held n t5 [f, g, i] = some y' := by
  obtain ⟨hl, hx⟩ := trod_fields ht h
  have hsz : fs.toList.length = 6 := by have := congrArg List.length hfs; simpa using this
  obtain ⟨fl⟩ := fs
  match fl, hsz with
  | [f0, f1, f2, f3, f4, f5], _ =>
    simp only [List.map_cons, List.map_nil, List.cons.injEq, Prod.mk.injEq, and_true] at hfs
    obtain ⟨⟨e0, o0⟩, ⟨e1, o1⟩, ⟨e2, o2⟩, ⟨e3, o3⟩, ⟨e4, o4⟩, e5, o5⟩ := hfs
    rw [ct] at hl
    match cs, hl with
    | [a, b, c, d, e, f, g, i], _ =>
      have h0 := hx 0 f0 rfl
      have h1 := hx 1 f1 rfl
      have h2 := hx 2 f2 rfl
      have h3 := hx 3 f3 rfl
      have h4 := hx 4 f4 rfl
      have h5 := hx 5 f5 rfl
      rw [e0, o0, c0] at h0
      rw [e1, o1, c1] at h1
      rw [e2, o2, c2] at h2
      rw [e3, o3, c3] at h3
      rw [e4, o4, c4] at h4
      rw [e5, o5, c5] at h5
      exact ⟨a, b, c, d, e, f, g, i, rfl, h0, h1, h2, h3, h4, h5⟩
theorem open_int {k : IntKind} {t : TypeId} {r : Reach} {b0 : Nat} {v : Value} (ht : P.underlying t = some (.int k)) (hval : Value.okWide P W r b0 t v) : ∃ n : Int, v = .int k n := by
  simp only [Value.okWide, ht, Cell.okWide, Cell.ok] at hval
  cases v with
  | int k' n =>
    obtain ⟨rfl, h⟩ := hval
    exact ⟨n, rfl⟩
  | _ => simp at hval
end
end Go.X
namespace Go.Proofs.YtffbcfcoddacmaaGreat.muteRaw
open Go.ChangeShapes Go.WideShapes Go.ChangeAt Go.RowKit Go.X
set_option linter.unusedVariables false
theorem own : ownKnob Tryz.prog.godebug = none := by kernel_rfl
theorem laidOut : laidOutB Tryz.prog = true := by kernel_rfl
theorem params_ok : ∀ t ∈ Tryz.f12.params.toList, Tryz.prog.readableRec t = true ∧ t < Tryz.prog.types.size := by
  rw [Tryz.params12]
  intro t ht
  simp only [List.mem_cons, List.not_mem_nil, or_false] at ht
  rcases ht with rfl | rfl | rfl | rfl | rfl <;> exact ⟨by kernel_rfl, of_decide_eq_true (by kernel_rfl)⟩
set_option maxRecDepth 100000 in
theorem lifted (os : Os) (started : os.Started) (H : Type) (enc : TypeId × Value → H) :
    ReturnsInHanded {} Tryz.checked os 12 .any (Rows.muteRawSpec.pre6 enc Tryz.prog Tryz.f12 Rows.muteRawRow.domain false) (Rows.muteRawSpec.post enc Tryz.prog Tryz.f12 false true false false) := by
  refine returnsInHanded_of_change (C := Tryz.checked) own started (by kernel_rfl) Tryz.func12
    (ChangeSpec.witness6 (enc := enc) (C := Tryz.checked) false ⟨#[], #[.int .u64 0, .agg #[.int .i64 0, .slice none 0 0, .float .f64 0], .agg #[.int .i64 0, .int .i64 0, .int .u64 0, .int .u64 0, .slice none 0 0, .bool false, .float .f64 0, .float .f64 0], .slice none 0 0, .agg #[.slice none 0 0, .slice none 0 0, .bool false, .float .f64 0, .float .f64 0, .slice none 0 0]], []⟩ 8 (by kernel_rfl) (by kernel_rfl) (by kernel_rfl) (by kernel_rfl)) ?_
  intro W base args ds gs before hval0 hW hcnd _
  have hval : ∀ (j : Nat) t v, Tryz.f12.params[j]? = some t → args[j]? = some v → Value.okWide Tryz.prog W .any base t v := hval0
  have hW' := hW
  obtain ⟨p, q, hA0, hV, rfl, hfz, hnd⟩ := hW
  have hlt : ∀ x ∈ p, x.block < W.heap.size := fun x hx => hW'.lt x (List.mem_append_left _ hx)
  have hA : DataW.TrodAll enc Tryz.prog W 0 (fun _ => true) true Tryz.f12.params.toList args.toList ds p := hA0
  have hA1 := hA
  rw [Tryz.params12] at hA hval
  obtain ⟨v0, vs0, d0, ds0, p0, q0, hargs, rfl, rfl, h0, r0⟩ := trodAll_cons hA
  obtain ⟨v1, vs1, d1, ds1, p1, q1, rfl, rfl, rfl, h1, r1⟩ := trodAll_cons r0
  obtain ⟨v2, vs2, d2, ds2, p2, q2, rfl, rfl, rfl, h2, r2⟩ := trodAll_cons r1
  obtain ⟨v3, vs3, d3, ds3, p3, q3, rfl, rfl, rfl, h3, r3⟩ := trodAll_cons r2
  obtain ⟨v4, vs4, d4, ds4, p4, q4, rfl, rfl, rfl, h4, r4⟩ := trodAll_cons r3
  obtain ⟨rfl, rfl, rfl⟩ := trodAll_nil r4
  obtain rfl : args = #[v0, v1, v2, v3, v4] := by cases args; simp_all
  obtain ⟨rfl, rfl⟩ := trodVars_none hV
  have hv0 := hval 0 36 v0 rfl rfl
  have hv1 := hval 1 98 v1 rfl rfl
  have hv2 := hval 2 95 v2 rfl rfl
  have hv3 := hval 3 100 v3 rfl rfl
  have hv4 := hval 4 89 v4 rfl rfl
  clear hval0 hval
  simp only [List.append_nil] at hW' hlt
  have adO : ∀ (m : Nat) (cs : List Value) (y : DataW H × List MemPlace), DataW.trod enc Tryz.prog W 0 (fun _ => true) true m 98 cs = some y → ∃ d : Ad, cs = adC d ∧ d.Ok W := fun m cs y h => by
    obtain ⟨a, b, c, rfl, ⟨_, _, ha⟩, ⟨_, _, hb⟩, _, _, hc⟩ := trod_3 Tryz.underlying98 (t0 := 3) (t1 := 22) (t2 := 23) rfl (by kernel_rfl) (by kernel_rfl) (by kernel_rfl) (by kernel_rfl) h
    obtain ⟨x, hx, _⟩ := trod_i64 Tryz.underlying3 ha
    obtain ⟨v, xs, hv, hs, hr, _⟩ := trod_list (fun x : Int => [Value.int .i64 x]) (fun x => -9223372036854775808 ≤ x ∧ x ≤ 9223372036854775807) (sz := 1) (fun _ => rfl) Tryz.underlying22 (by kernel_rfl) (by omega) hb (fun m cs y h => trod_i64 Tryz.underlying3 h)
    obtain ⟨z, hz, _⟩ := trod_f64 Tryz.underlying23 hc
    obtain rfl : a = .int .i64 x := by simpa using hx
    obtain rfl : b = v := by simpa using hv
    obtain rfl : c = .float .f64 z := by simpa using hz
    rw [flat_one] at hs
    exact ⟨⟨x, xs, b, z⟩, rfl, hs, hr⟩
  have mtO : ∀ (m : Nat) (cs : List Value) (y : DataW H × List MemPlace), DataW.trod enc Tryz.prog W 0 (fun _ => true) true m 50 cs = some y → ∃ d : Mt, cs = mtC d ∧ d.name.size ≤ 9223372036854775807 := fun m cs y h => by
    obtain ⟨a, b, c, rfl, ⟨_, _, ha⟩, ⟨_, _, hb⟩, _, _, hc⟩ := trod_3 Tryz.underlying50 (t0 := 3) (t1 := 9) (t2 := 9) rfl (by kernel_rfl) (by kernel_rfl) (by kernel_rfl) (by kernel_rfl) h
    obtain ⟨x, hx, _⟩ := trod_i64 Tryz.underlying3 ha
    obtain ⟨y, hy, hyl⟩ := trod_str Tryz.underlying9 hb
    obtain ⟨z, hz, _⟩ := trod_str Tryz.underlying9 hc
    obtain rfl : a = .int .i64 x := by simpa using hx
    obtain rfl : b = .string y := by simpa using hy
    obtain rfl : c = .string z := by simpa using hz
    exact ⟨⟨x, y, z⟩, rfl, hyl⟩
  have bdO : ∀ (m : Nat) (cs : List Value) (y : DataW H × List MemPlace), DataW.trod enc Tryz.prog W 0 (fun _ => true) true m 86 cs = some y → ∃ d : Bd, cs = bdC d := fun m cs y h => by
    obtain ⟨a, b, c, rfl, ⟨_, _, ha⟩, ⟨_, _, hb⟩, _, _, hc⟩ := trod_3 Tryz.underlying86 (t0 := 4) (t1 := 23) (t2 := 23) rfl (by kernel_rfl) (by kernel_rfl) (by kernel_rfl) (by kernel_rfl) h
    obtain ⟨x, hx⟩ := trod_bool Tryz.underlying4 ha
    obtain ⟨y, hy, _⟩ := trod_f64 Tryz.underlying23 hb
    obtain ⟨z, hz, _⟩ := trod_f64 Tryz.underlying23 hc
    obtain rfl : a = .bool x := by simpa using hx
    obtain rfl : b = .float .f64 y := by simpa using hy
    obtain rfl : c = .float .f64 z := by simpa using hz
    exact ⟨⟨x, y, z⟩, rfl⟩
  have ruO : ∀ (m : Nat) (cs : List Value) (y : DataW H × List MemPlace), DataW.trod enc Tryz.prog W 0 (fun _ => true) true m 89 cs = some y → ∃ d : Ru, cs = ruC d ∧ d.Ok No W ∧ d.Sz := fun m cs y h => by
    obtain ⟨a, b, c, d, e, f, rfl, ⟨_, _, ha⟩, ⟨_, _, hb⟩, ⟨_, _, hc⟩, _, _, hf⟩ := trod_r6 Tryz.underlying89 (t0 := 51) (t1 := 51) (t2 := 86) (t3 := 87) rfl (by kernel_rfl) (by kernel_rfl) (by kernel_rfl) (by kernel_rfl) (by kernel_rfl) h
    obtain ⟨va, xa, hva, hsa, hza, _⟩ := trod_list mtC (fun x => x.name.size ≤ 9223372036854775807) mtC_len Tryz.underlying51 (by kernel_rfl) (by omega) ha mtO
    obtain ⟨vb, xb, hvb, hsb, hzb, _⟩ := trod_list mtC (fun x => x.name.size ≤ 9223372036854775807) mtC_len Tryz.underlying51 (by kernel_rfl) (by omega) hb mtO
    obtain ⟨bd, hbd⟩ := bdO _ _ _ hc
    obtain ⟨v, xs, hv, hs, hz, _⟩ := trod_list (fun x : ByteArray => [Value.string x]) (fun x => x.size ≤ 9223372036854775807) (sz := 1) (fun _ => rfl) Tryz.underlying87 (by kernel_rfl) (by omega) hf (fun m cs y h => trod_str Tryz.underlying9 h)
    obtain rfl : a = va := by simpa using hva
    obtain rfl : b = vb := by simpa using hvb
    obtain rfl : f = v := by simpa using hv
    simp only [bdC, List.cons.injEq, and_true] at hbd
    obtain ⟨rfl, rfl, rfl⟩ := hbd
    rw [flat_one] at hs
    exact ⟨⟨a, b, f, xa, xb, bd, xs⟩, rfl, ⟨hsa, hsb, hs⟩, ⟨hza, hzb, hz⟩⟩
  have siO : ∀ (m : Nat) (cs : List Value) (y : DataW H × List MemPlace), DataW.trod enc Tryz.prog W 0 (fun _ => true) true m 95 cs = some y → ∃ d : Sil, cs = silC d ∧ SlM No W d.mv d.ms ∧ ∀ m ∈ d.ms, m.name.size ≤ 9223372036854775807 := fun m cs y h => by
    obtain ⟨a, b, c, d, e, f, g, i, rfl, ⟨_, _, ha⟩, ⟨_, _, hb⟩, ⟨_, _, hc⟩, ⟨_, _, hd⟩, ⟨_, _, he⟩, _, _, hf⟩ := trod_s8 Tryz.underlying95 (t0 := 3) (t1 := 3) (t2 := 36) (t3 := 36) (t4 := 51) (t5 := 86) rfl (by kernel_rfl) (by kernel_rfl) (by kernel_rfl) (by kernel_rfl) (by kernel_rfl) (by kernel_rfl) (by kernel_rfl) h
    obtain ⟨x0, h0, _⟩ := trod_i64 Tryz.underlying3 ha
    obtain ⟨x1, h1, _⟩ := trod_i64 Tryz.underlying3 hb
    obtain ⟨x2, h2, _⟩ := trod_int Tryz.underlying36 hc
    obtain ⟨x3, h3, _⟩ := trod_int Tryz.underlying36 hd
    obtain ⟨va, xa, hva, hsa, hza, _⟩ := trod_list mtC (fun x => x.name.size ≤ 9223372036854775807) mtC_len Tryz.underlying51 (by kernel_rfl) (by omega) he mtO
    obtain ⟨bd, hbd⟩ := bdO _ _ _ hf
    obtain rfl : a = .int .i64 x0 := by simpa using h0
    obtain rfl : b = .int .i64 x1 := by simpa using h1
    obtain rfl : c = .int .u64 x2 := by simpa using h2
    obtain rfl : d = .int .u64 x3 := by simpa using h3
    obtain rfl : e = va := by simpa using hva
    simp only [bdC, List.cons.injEq, and_true] at hbd
    obtain ⟨rfl, rfl, rfl⟩ := hbd
    exact ⟨⟨x0, x1, x2, x3, e, xa, bd⟩, rfl, hsa, hza⟩
  obtain ⟨now, rfl⟩ := X.open_int Tryz.underlying36 hv0
  obtain ⟨cs, rfl, _⟩ := okWide_struct Tryz.underlying98 hv1
  obtain ⟨d, rfl, hd⟩ : ∃ d : Ad, cs = (adC d).toArray ∧ d.Ok W := by
    obtain ⟨fuel, hf⟩ := h1
    obtain ⟨d, he, hd⟩ := adO _ _ _ hf
    exact ⟨d, by cases cs; exact congrArg Array.mk he, hd⟩
  obtain ⟨cs2, rfl, _⟩ := okWide_struct Tryz.underlying95 hv2
  obtain ⟨s, rfl, hsm, hsz⟩ : ∃ d : Sil, cs2 = (silC d).toArray ∧ SlM No W d.mv d.ms ∧ ∀ m ∈ d.ms, m.name.size ≤ 9223372036854775807 := by
    obtain ⟨fuel, hf⟩ := h2
    obtain ⟨d, he, hd⟩ := siO _ _ _ hf
    exact ⟨d, by cases cs2; exact congrArg Array.mk he, hd⟩
  obtain ⟨als, ha, hal, _⟩ := open_list adC (fun d => d.Ok W) adC_len Tryz.underlying100 (by kernel_rfl) (by omega) hv3 h3 adO
  obtain ⟨cs4, rfl, _⟩ := okWide_struct Tryz.underlying89 hv4
  obtain ⟨r, rfl, hrk, hrz⟩ : ∃ d : Ru, cs4 = (ruC d).toArray ∧ d.Ok No W ∧ d.Sz := by
    obtain ⟨fuel, hf⟩ := h4
    obtain ⟨d, he, hd⟩ := ruO _ _ _ hf
    exact ⟨d, by cases cs4; exact congrArg Array.mk he, hd⟩
  have hwalk := mraw_ok now d s als v3 r W hd hsm hsz ha hal hrk hrz
  refine Calls.mono hwalk ?_
  rintro e W' ⟨v, rfl, rfl, hg⟩
  refine ⟨_, rfl, post_grow hW' (fun _ _ _ => trodAll_cons_mk (shut_bool Tryz.underlying4 _) trodAll_mk0) (fun sp hsp => ?_) (fun _ => rfl) hg (ok_one (by kernel_rfl) rfl (okWide_bool_mk Tryz.underlying4 _))⟩
  have hA2 := hA1
  simp only [List.append_nil] at hA2 hsp
  exact trodAll_grow laidOut hg sp _ _ _ _ params_ok hlt hsp hA2
end Go.Proofs.YtffbcfcoddacmaaGreat.muteRaw
